/- Lemmas for bernBack, part 6. -/
import Derived.RangeFuncFrom
import Derived.RangeFuncCalls
import Derived.RangeFuncLeaves
import Derived.Shelf.Abstract
import Derived.OrdersIn
import Derived.Test.YteeckcbbnegmcaaGreatDoorZ5
namespace Go.Proofs.YteeckcbbnegmcaaGreatDoor
variable {c c' n : Nat} {ls : List Int} {w0 : World}
open Go.RowKit
theorem Ac {H : List HE} {L D : Option Addr} {ds : List Int} (w : World) (hh : Hp w0 (.row L n c 3 1 (bJ ls) :: H) w) (hD : Sl w0 D n 1 (bJ ds)) (hn : n ≤ 100000)
  (hl : ls.all cz = true) (hd : ds.all cz = true) (hll : ls.length = n) :
  Calls Tryz.prog 186 #[.slice L n c, .slice D n c'] w fun e w' =>
   match qR ds ls with
   | some l' => e = .returned (.bool true) ∧ Hp w0 (.row L n c 3 1 (bJ l') :: H) w'
   | none => e = .returned (.bool false) ∧ Hp w0 (.row L n c 3 1 (bJ (fO n)) :: H) w' := by
 have hdl : ds.length = n := by have := hD.1; rw [bX] at this; omega
 refine aj (N := 31) (l := [.slice L n c, .slice D n c']) Tryz.func186 rfl rfl (by simp) ?_;refine sr (aB (aa (ah (sr (mL (aJ ?_))))));refine dY (aI (aa (aq ?_)));refine aP [4, 5, 9, 10, 11, 12, 13, 14, 15, 16, 17, 18, 19, 20, 21, 22, 23, 24, 25, 26, 27, 28, 29, 30] 5
  (fun i w' => ∃ (k : Nat) (z : Int), k ≤ n ∧ i = .int .i64 z ∧ z = (k : Int) - 1 ∧ qR (ds.drop k) (ls.drop k) = none ∧ Hp w0 (.row L n c 3 1 (bJ (nt ls k n)) :: H) w')
  (fun i _ => (intOf i + 1).toNat) ?_ ?_
 ·exact ⟨n, _, T5 _, rfl, rfl, by rw [Vz TX]; rfl, by rw [JM hll]; exact hh⟩
 ·clear hh;rintro ρ' i w' ⟨k, z, hk, rfl, hz, hnx, hh⟩
  cases k with
  | zero =>
   refine ah (sr (mI ?_));refine dW (aa (cF (a6 (aD (aD (bB (ai (sr (aB (aa (au ?_)))))))))));refine cZ ?_;rw [W0, W0] at hnx;rw [hnx];exact ⟨rfl, by simpa [nt] using hh⟩
  | succ k =>
   obtain rfl : z = (k : Int) := TX;obtain ⟨x, hx⟩ := ak (l := ls) (k := k) TX;obtain ⟨d, hdk⟩ := ak (l := ds) (k := k) TX;have bx := Bc hl hx;have bd := Bc hd hdk;have hx2 := cj (Pa (n := n) hx);have hol := Ld hll hk;have hol2 := bX (nt ls (k + 1) n);obtain ⟨g, rfl⟩ := hh.cB (i := 0) rfl TX;have hD' := hD.ext hh.below;obtain ⟨ad, rfl, hr⟩ := hD'.at_ TX;by_cases hlt : x < d
   ·refine ah (sr (mI ?_));refine dW (aa (cT (ar (ai (ah (aq (ah (ah ?_))))))));refine N2 ?_;refine fT ?_;refine dF ?_;refine Ov ?_;refine Nd ?_;refine fT ?_;refine dF ?_;refine Nl ?_;refine rW (fun _ hj => fq (hr.ext hj.bl) (cj hdk) rfl) ?_;refine aR ?_;intro f W hJ hV;have hb_4 := hJ.bl;obtain ⟨v20, v19, v18, v17, v16, v15, v14, v13, _⟩ := hV;replace hh := hJ.hp;refine Ns ?_;dsimp only [cf];clear hJ;refine bg (aa (cT (sr (mL (mI ?_)))));refine uD ?_;refine jn ?_;refine bj ?_;refine uD ?_;refine bO hh (i := 0) (vs := [_]) rfl rfl (cJ rfl) rfl aK.out rfl TX rfl ?_;intro ws hh;simp only [Uh] at hh;refine aa (sr (aB (aa (au (aG (cd (aG (aG (cd (aG ?_))))))))));refine cZ ?_;rw [Uo, Fj _ hll TX] at hh;rw [HD hdl hll hdk hx hnx hlt];exact ⟨rfl, hh⟩
   ·refine ah (sr (mI ?_));refine dW (aa (cT (ar (ai (ah (aq (ah (ah ?_))))))));refine N2 ?_;refine fT ?_;refine dF ?_;refine Ov ?_;refine Nd ?_;refine fT ?_;refine dF ?_;refine Nl ?_;refine rW (fun _ hj => fq (hr.ext hj.bl) (cj hdk) rfl) ?_;refine aR ?_;intro f W hJ hV;have hb_4 := hJ.bl;obtain ⟨v20, v19, v18, v17, v16, v15, v14, v13, _⟩ := hV;replace hh := hJ.hp;refine Ns ?_;dsimp only [cf];clear hJ;refine bg (aa (cF (ar (ai (ao (mL (mI ?_)))))));refine uD ?_;refine bO hh (i := 0) (vs := [_]) rfl rfl (cJ rfl) rfl aK.out rfl TX rfl ?_;intro ws hh;simp only [Uh] at hh;refine aA (bE (ai (ao (mI ?_))));refine dY (aI (aA (ai ?_)));rw [Uo, Fj _ hll TX, JH TX] at hh;refine ⟨⟨k, _, TX, rfl, rfl, G6 hdk hx hnx hlt, hh⟩, by show ((k : Int) - 1 + 1).toNat < ((k : Int) + 1).toNat; omega, ?_⟩;exact dQ
theorem J2 (n : Nat) : fF n [Value.int .i64 0] = bJ (fO n) := by rw [uL]; simp [bJ, fO]
theorem Fv (l : List ByteArray) (x : ByteArray) : lP l ++ [.string x] = lP (l ++ [x]) := by simp [lP]
theorem Gh (D : Option Addr) (n c : Nat) (ds : List Int) (w : World) (hD : Sl w D n 1 (bJ ds)) (hn : n ≤ 100000) :
  Calls Tryz.prog 119 #[.slice D n c] w fun e w' => ∃ A c, e = .returned (.slice A (xB ds).length c) ∧ w'.ownsRow w.heap.size 9 1 (.slice A (xB ds).length c) (xB ds).length (lP (xB ds)) ∧ Below w.heap.size w w' := by
 have hdl : ds.length = n := by have := hD.1; rw [bX] at this; omega
 have hh := Hp.start w;refine aj (N := 52) (l := [.slice D n c]) Tryz.func119 rfl rfl (by simp) ?_;refine sr (aL (aa (sr (aI (aa (ah (sr (mL (aJ (mI (aa (aq ?_))))))))))));refine bK [2, 3, 5, 13, 14, 15, 16, 17, 18, 19, 20, 21, 22, 23, 24, 25, 26, 27, 28, 29, 30, 31, 32, 33, 34] 3 13
  (fun p i w' => ∃ (k : Nat), k ≤ n ∧ i = .int .i64 k ∧ p = .int .i64 (eQ (ds.take k)).length ∧ (eQ (ds.take k)).length ≤ 65536 ∧ yt 1 ds = yt (eQ (ds.take k)).length (ds.drop k) ∧ w = w')
  (fun _ i _ => n - (intOf i).toNat) ?_ ?_
 ·exact ⟨0, T6 _, rfl, rfl, by simp [eQ], rfl, rfl⟩
 ·rintro ρ' p i w' ⟨k, hk, rfl, rfl, hsz, hok, rfl⟩;by_cases hlt : k < n
  ·obtain ⟨d, hdk⟩ := ak (l := ds) (k := k) TX;obtain ⟨ad, rfl, hr⟩ := hD.at_ TX;have hpos := AP (ds.take k);by_cases hb1 : 0 ≤ d ∧ d ≤ 127
   ·have hm1 : (0 : Int) ≤ (eQ (ds.take k)).length * (d + 1) := Int.mul_nonneg TX TX;have hm2 : ((eQ (ds.take k)).length : Int) * (d + 1) ≤ 65536 * 128 := WS TX TX TX TX;by_cases hb2 : ((eQ (ds.take k)).length : Int) * (d + 1) ≤ 65536
    ·have hstep := Hd hdk hok ⟨hb1, hb2⟩;rw [← kM hdk hb1.1] at hstep;have hl2 := kM hdk hb1.1;refine sr ?_;refine dO ?_;refine uO ?_;refine bT aK.out rfl (fq hr (cj hdk) rfl) TY ?_;refine aI (aa (ah (sr (mI ?_))));refine bg (mB (gT (mI (gT ?_))));refine cm ?_;refine e7 ?_;refine mB (gT (mI (gT (mI (gT ?_)))));refine bj (gT ?_);refine mulC (gT ?_);refine cm ?_;refine e7 ?_;refine aa (cF (ar (ai (ao (mI (mI ?_))))));refine bj ?_;refine mulC (aI (aA (bE (ai (ao ?_)))));refine bj (mI (aA (ai ?_)));refine ⟨⟨k + 1, TX, rfl, by rw [hl2]; rfl, TX, hstep, rfl⟩, by show n - (k + 1) < n - k; omega, ?_⟩;exact dQ
    ·have hf := zY hdk hok fun h => hb2 h.2;refine sr ?_;refine dO ?_;refine uO ?_;refine bT aK.out rfl (fq hr (cj hdk) rfl) TY ?_;refine aI (aa (ah (sr (mI ?_))));refine bg (mB (gT (mI (gT ?_))));refine cm ?_;refine e7 ?_;refine mB (gT (mI (gT (mI (gT ?_)))));refine bj (gT ?_);refine mulC (gT ?_);refine cm ?_;refine e7 ?_;exact PY
   ·have hf := zY hdk hok fun h => hb1 h.1;refine sr ?_;refine dO ?_;refine uO ?_;refine bT aK.out rfl (fq hr (cj hdk) rfl) TY ?_;by_cases h0 : d < 0
    ·refine aI (aa (ah (sr (mI ?_))));refine bg (mB ?_);refine gS (gS ?_);refine fL ?_;refine mB ?_;refine gS (gS (gS (gS (gS ?_))));refine fL ?_;exact PY
    ·refine aI (aa (ah (sr (mI ?_))));refine bg (mB (gT (mI (gT ?_))));refine cm ?_;refine e7 ?_;refine mB ?_;refine gS (gS (gS (gS (gS ?_))));refine fL ?_;exact PY
  ·obtain rfl : n = k := TX;rw [T9 TX] at hsz;rw [Vz TX] at hok;have hok : yt 1 ds = true := hok;have hbd := G7 ds 1 hok;have hen := zA ds fun d hd => (hbd d hd).1;have hall := rD ds hbd;have hdok : ds.all cz = true := by
    rw [Ux]; intro d hd; have := hbd d hd; simp [cz, this]
   have hAl : xB ds = (eQ ds).map fX := by simp only [xB, hok, if_true]
   refine sr ?_;refine bg (aa (ah (cF (a6 (aD (aD (bB (ai (sr (mL (aJ ?_)))))))))));refine gi hh rfl rfl rfl rfl bk.out aK.out rfl TX TX TY ?_;intro b37 w37 hh;refine aL (aa (sr (aL (aa (ah (sr (aB (aa (aq ?_)))))))));rw [J2] at hh;rw [hdl] at hen;refine bK [7, 8, 9, 10, 38, 39, 40, 41, 42, 43, 44, 45, 46, 47, 48, 49, 50] 7 8
    (fun v b w' => ∃ (done rest : List (List Int)) (a : List Int) (A : Option Addr) (c' : Nat), v = .slice A done.length c' ∧ Hp w [.row (some ⟨b37, 0, none⟩) n n 3 1 (bJ a), .row A done.length c' 9 1 (lP (done.map fX))] w' ∧ eQ ds = done ++ rest ∧ ((b = .bool true ∧ np (qR ds) a rest) ∨ (b = .bool false ∧ rest = [])))
    (fun v _ _ => 65537 - lenOf v) ?_ ?_
   ·exact ⟨[], _, _, none, 0, rfl, (hh.de _ _).swap, rfl, .inl ⟨rfl, hen⟩⟩
   ·clear hh;rintro ρ' v b w' ⟨done, rest, a, A, c', rfl, hh, hap, hc⟩
    rcases hc with ⟨rfl, hE⟩ | ⟨rfl, rfl⟩
    ·have hlen : (eQ ds).length = done.length + rest.length := by rw [hap, Ua]
     have hre : rest = a :: rest.tail := by
      rcases vI hE with ⟨h, _⟩ | ⟨c, L, h, _⟩ <;> simp [h]
     have hrl : rest.length = rest.tail.length + 1 := by rw [hre]; simp
     have ha : a ∈ eQ ds := by rw [hap, hre]; simp
     have hao := hall a ha;have hal := lV ds a ha;obtain ⟨eo1, eo2⟩ := pD hao;have e1 : lP (done.map fX) ++ [.string (str (J3 a))] = lP ((done ++ [a]).map fX) := by rw [Fv, eo1, UU]; rfl
     refine ah (sr (mB (aa (cT (ar (ai (ah (aq (sr (mL ?_))))))))));refine bD hh (AB _ _ _ _ _ (hh.aC (i := 0) rfl) TX) rfl ?_;intro w44 hh;refine mT ?_;refine du ?_;refine du ?_;refine aS (aI (aa (ao (mL (mS ?_)))));refine cP hh (cs := [_]) bk.out aK.out (aM (BG rfl) bU) rfl rfl TY TY TY rfl TY ?_;intro b49 w49 hh;refine cK hh (i := 2) rfl rfl rfl (hh.aC (i := 0) rfl) bk.out aK.out rfl TY rfl TX TX TY ?_;intro A50 c50 w50 hh;simp only [Uh, UH] at hh;replace hh := hh.sub (UM _ _);refine aL (aA (bE (ai (ao (mL (mL ?_))))));rw [e1] at hh;have hcc := Ac (D := D) (c' := c) (ds := ds) _ hh hD TX hao hdok TX
     rcases vI hE with ⟨h1, h2⟩ | ⟨c2, L, h1, h2, h3⟩
     ·rw [h2] at hcc;refine aF (hcc) al.out rfl TY ?_;rintro e_ w_ ⟨rfl, hh⟩;refine ⟨_, rfl, ?_⟩;refine aB (aA (ai ?_));refine ⟨⟨done ++ [a], [], _, A50, c50, by rw [Ua]; rfl, by rw [Ua]; exact hh, by rw [hap, h1]; simp, .inr ⟨rfl, rfl⟩⟩, by show 65537 - (done.length + 1) < 65537 - done.length; omega, ?_⟩;exact dQ
     ·rw [h2] at hcc;refine aF (hcc) al.out rfl TY ?_;rintro e_ w_ ⟨rfl, hh⟩;refine ⟨_, rfl, ?_⟩;refine aB (aA (ai ?_));refine ⟨⟨done ++ [a], L, c2, A50, c50, by rw [Ua]; rfl, by rw [Ua]; exact hh, by rw [hap, h1]; simp, .inl ⟨rfl, h3⟩⟩, by show 65537 - (done.length + 1) < 65537 - done.length; omega, ?_⟩;exact dQ
    ·refine ah (sr (mB (aa (cF (a6 (aD (aD (bB (ai (sr (mL (aL (aa (au ?_))))))))))))));refine cZ ?_;have h1 := hh.at_ (i := 1) rfl;have hdn : eQ ds = done := by rw [hap]; simp
     rw [hAl, hdn, Ug];exact ⟨A, c', rfl, h1, hh.below⟩
theorem vn (A : Option Addr) (n c : Nat) (ds : List Int) (w : World) (hS : Sl w A n 1 (bJ ds)) (hn : n ≤ 1000000) :
  Calls Tryz.prog 44 #[.slice A n c] w fun r w' => r = .returned (.int .i64 (GG ds)) ∧ Below w.heap.size w w' := by
 have hh := Hp.start w;have hln : ds.length = n := by have := hS.1; simpa [bJ] using this
 unfold GG;refine aj (N := 39) (l := [.slice A n c]) Tryz.func44 rfl rfl (by simp) ?_;refine sr (aI (aa (sr (aI (aa (ah (sr (aI (aa (aq ?_))))))))));refine aP [2, 4, 6, 7, 8, 9, 10, 11, 12, 13, 14, 15, 16, 17, 18, 19, 20, 21, 22, 23] 4
  (fun v w' => ∃ i : Nat, i ≤ n ∧ v = .int .i64 i ∧ (ds.take i).any (fun d => !cz d) = false ∧ Hp w [] w')
  (fun v _ => n - (intOf v).toNat) ?_ ?_
 ·exact ⟨0, T6 _, rfl, rfl, hh⟩
 ·clear hh;rintro ρ' v w' ⟨i, hi, rfl, hall, hh⟩;by_cases hlt : i < n
  ·obtain ⟨d, hd⟩ := ak (l := ds) (k := i) TX;have hgi := cj hd;obtain ⟨ad, rfl, hr⟩ := hS.at_ TX;have hbad : (!cz d) = true → ds.any (fun d => !cz d) = true := fun h => VS.2 ⟨d, T7 hd, h⟩;by_cases h1 : d < 0
   ·refine ah (sr (mI (mL (aJ ?_))));refine ri ?_;refine cu ?_;refine jw ?_;refine bg (mB ?_);refine gS (gS (gS (gS (gS ?_))));refine fL ?_;exact QQ
   ·by_cases h2 : 127 < d
    ·refine ah (sr (mI (mL (aJ ?_))));refine ri ?_;refine cu ?_;refine jw ?_;refine bg (mB (gT (mL (gT (mI (gT ?_))))));refine cu ?_;refine gT ?_;refine jw ?_;refine gT ?_;refine cm ?_;refine e7 ?_;exact QQ
    ·refine ah (sr (mI (mL (aJ ?_))));refine ri ?_;refine cu ?_;refine jw ?_;refine bg (mB (gT (mL (gT (mI (gT ?_))))));refine cu ?_;refine gT ?_;refine jw ?_;refine gT ?_;refine cm ?_;refine e7 ?_;refine sZ ?_;refine bj (aI (aA (ai ?_)));refine ⟨⟨i + 1, TX, rfl, ?_, hh⟩, by show n - (i + 1) < n - i; omega, ?_⟩
     ·rw [ay hd, WO, hall, WQ, W6, cz, Um TX, Um TX]; rfl
     ·exact dQ
  ·rw [T9 TX] at hall;rw [hall, T3 TY];obtain ⟨ns, hns, hlow⟩ := wa hall;have hds : ∀ (j : Nat) (d : Int), ds[j]? = some d → 0 ≤ d ∧ d ≤ 127 := fun j d hd => by
    have := Vy.1 hall d (T7 hd);simp [cz] at this;omega
   refine ah (sr (mI (mL (aJ ?_))));refine bg (aa (cF (a6 (aD (aD (bB (ai (ah (sr (aI (aa (aq ?_))))))))))));refine bK [3, 5, 24, 25, 26, 27, 28, 29, 30, 31, 32, 33, 34, 35, 36, 37] 3 5
    (fun v3 v w' => ∃ (i : Nat) (q : Int), i ≤ n ∧ v = .int .i64 i ∧ v3 = .int .i64 q ∧ 0 ≤ q ∧ q ≤ 4097 ∧ xg 1 ds = xg q (ds.drop i) ∧ Hp w [] w')
    (fun _ v _ => n - (intOf v).toNat) ?_ ?_
   ·exact ⟨0, 1, T6 _, rfl, rfl, TX, TX, rfl, hh⟩
   ·clear hh;rintro ρ2 v3 v w2 ⟨j, q, hj, rfl, rfl, hq1, hq2, hc, hh⟩;by_cases hjn : j < n
    ·obtain ⟨d, hd⟩ := ak (l := ds) (k := j) TX;have hgi := cj hd;have hdb := hds j d hd;obtain ⟨ad, rfl, hr⟩ := hS.at_ TX;rw [gJ hd, xg] at hc;have hm1 : 0 * 0 ≤ q * (d + 1) := WS hq1 TX TY TX;have hm2 : q * (d + 1) ≤ 4097 * 128 := WS hq2 TX TX TY;refine ah (sr (mI (mL (aJ ?_))));refine bg (aa (cT (ar (ai (ah (aq (ao (mI (mL (mI ?_))))))))));refine oQ ?_;refine jw ?_;refine bj ?_;refine mulC ?_;refine wO rfl rfl TY ?_;refine aI (aA (bE (ai (ao (mI ?_)))));refine bj (aI (aA (ai ?_)));refine ⟨⟨j + 1, _, TX, rfl, rfl, by split <;> omega, by split <;> omega, by rw [hc, show min (q * (d + 1)) 4097 = if 4097 < q * (d + 1) then 4097 else q * (d + 1) by split <;> omega], hh⟩, by show n - (j + 1) < n - j; omega, ?_⟩;exact dQ
    ·rw [Vz TX] at hc;refine ah (sr (mI (mL (aJ ?_))));refine bg (aa (cF (a6 (aD (aD (bB (ai (sr (mI (aI (aa (au ?_))))))))))));refine cZ ?_;exact ⟨by rw [hc]; rfl, hh.below⟩
def TL (n : Nat) (k : Int) : Dyadic := if k < 0 ∨ (n : Int) < k then 0 else nD (bin n k.toNat)
theorem D5 : ∀ (ns : List Nat) (n : Nat), (∀ d ∈ ns, d ≤ 127) → n * av ns ≤ 65536 → 1 ≤ n → yt n (bL ns) = true
 | [], _, _, _, _ => rfl
 | d :: ns, n, h, hc, h1 => by
  have hd := h d Uc;have e1 : (n : Int) * ((d : Int) + 1) = ((n * (d + 1) : Nat) : Int) := by rw [Vm, V0]; rfl
  rw [av, ← UX] at hc;have h2 : n * (d + 1) * 1 ≤ n * (d + 1) * av ns := Uz _ (cS ns);have ih := D5 ns (n * (d + 1)) (fun x hx => h x (Uf _ hx)) hc (Nat.mul_pos h1 TX);show (decide (0 ≤ (d : Int)) && (decide ((d : Int) ≤ 127) && (decide ((n : Int) * ((d : Int) + 1) ≤ 65536) && yt ((n : Int) * ((d : Int) + 1)) (bL ns)))) = true;rw [e1, ih, Um TX, Um TX, Um TX]
  rfl
def rr (ns : List Nat) : List ByteArray := (eQ (bL ns)).map fX
theorem Gw (ns : List Nat) : (rr ns).length = av ns := by unfold rr; rw [Ug, Jb, cU]
theorem Hh {ns : List Nat} {p : Nat} (h : p < av ns) : (rr ns)[p]? = some (fX (bL (cL ns.reverse p).reverse)) := by
 unfold rr;rw [Ue, K4 (by rw [cU]; exact h)]
 rfl
theorem QI {l : List Nat} {i r : Nat} (h : l[i]? = some r) (hr : r ≤ 255) : ∃ c : UInt8, (fX (bL l)).data.toList[i]? = some c ∧ c.toNat = r := by
 refine ⟨xx (r : Int), ?_, ?_⟩
 ·unfold fX;rw [dv, Ue, ix h]
  rfl
 ·show (UInt8.ofNat ((r : Int)).toNat).toNat = r;rw [Vp, Xd];omega
theorem ki (L : Option Addr) (n c : Nat) (b : List NR) (M : Option Addr) (c2 : Nat) (w : World) (hS : Sl w L n 3 (az NR.cells b)) (hS2 : Sl w M n 3 (az NR.cells b)) (hn : n ≤ 1000000) :
  Calls Tryz.prog 56 #[.slice L n c, .slice M n c2] w fun r w' => r = .returned (.bool true) ∧ Below w.heap.size w w' := by
 have hh := Hp.start w;have hln := hS.bq NR.len TY;refine aj (N := 26) (l := [.slice L n c, .slice M n c2]) Tryz.func56 rfl rfl (by simp) ?_;refine xc ?_;refine HZ ?_;refine aP [4, 5, 11, 12, 13, 14, 15, 16, 17, 18, 19, 20, 21, 22, 23, 24, 25] 5
  (fun v w' => ∃ i : Nat, i ≤ n ∧ v = .int .i64 i ∧ Hp w [] w')
  (fun v _ => n - (intOf v).toNat) ?_ ?_
 ·exact ⟨0, T6 _, rfl, hh⟩
 ·clear hh;rintro ρ' v w' ⟨i, hi, rfl, hh⟩;by_cases hlt : i < n
  ·obtain ⟨s, hs⟩ := ak (l := b) (k := i) TX;obtain ⟨ad, rfl, hr⟩ := hS.at_ TX;obtain ⟨ad2, rfl, hr2⟩ := hS2.at_ TX;refine ah (sr (mI (mL (aJ ?_))));refine wD ?_;refine zN ?_;refine fT ?_;refine dF ?_;refine l3 (i) ?_;refine r9 [_,_,_] (fun _ hj => (hr.ext hj.hp.below).recAt NR.len hs) ?_;refine fT ?_;refine dF ?_;refine l3 (i) ?_;refine r9 [_,_,_] (fun _ hj => (hr2.ext hj.hp.below).recAt NR.len hs) ?_;refine aR ?_;intro f W hJ hV;have hb_6 := hJ.bl;obtain ⟨v24, v23, v22, v21, v20, v19, v18, v17, _⟩ := hV;replace hh := hJ.hp;refine AG ?_;dsimp only [cf];clear hJ;refine EY rfl rfl (by first | assumption | rfl) TY ?_;refine sZ ?_;refine bj (aI (aA (ai ?_)));exact J4
  ·refine ah (sr (mI (mL (aJ ?_))));refine Aq ?_;refine cZ ?_;exact ⟨rfl, hh.below⟩
theorem ya (A B : Option Addr) (n c m c2 : Nat) (A' B' : Option Addr) (c' c2' : Nat) (ds : List Int) (cs : List NR) (w : World) (hS : Sl w A n 1 (bJ ds)) (hS2 : Sl w B m 3 (az NR.cells cs)) (hS3 : Sl w A' n 1 (bJ ds)) (hS4 : Sl w B' m 3 (az NR.cells cs)) (hn : n ≤ 100000) (hm : m ≤ 1000000) :
  Calls Tryz.prog 23 #[.agg #[.slice A n c, .slice B m c2], .agg #[.slice A' n c', .slice B' m c2']] w fun r w' => r = .returned (.bool true) ∧ Below w.heap.size w w' := by
 have hh := Hp.start w;have hnum := fun w1 h1 h2 => vm A A' n n c c' ds ds w1 h1 h2 hn hn;simp only [decide_true] at hnum;refine aj (N := 17) (l := [.agg #[.slice A n c, .slice B m c2], .agg #[.slice A' n c', .slice B' m c2']]) Tryz.func23 rfl rfl (by simp) ?_;refine sr ?_;refine cD hh [_,_] ?_;intro b2 w2 hh;refine cD hh [_,_] ?_;intro b3 w3 hh;refine aB (aa (sr (bH ?_)));refine bG hh 1 ?_;refine bH ?_;refine bG hh 0 ?_;refine bD hh (hnum _ (hS.ext hh.below) (hS3.ext hh.below)) rfl ?_;intro w9 hh;refine mB (gT (bH (gT ?_)));refine bG hh 1 ?_;refine gT (bH (gT ?_));refine bG hh 0 ?_;refine aH rfl rfl ?_;refine bD hh (ki B m c2 cs B' c2' _ (hS2.ext hh.below) (hS4.ext hh.below) hm) rfl ?_;intro w15 hh;refine fL ?_;exact vc
def Tg (ds es : List Nat) (xs ys : List Dyadic) (i m : Nat) : List (Nat × Dyadic) := (List.range m).map fun k => (il (C1 ds es) (C1 (cL ds i) (cL es k)), (xs[i]?).getD 0 * (ys[k]?).getD 0)
def TM (ds es : List Nat) (xs ys : List Dyadic) (i : Nat) : List (Nat × Dyadic) := (List.range i).flatMap fun i => Tg ds es xs ys i (av es)
def bS (rs : List Nat) : List UInt8 := (bL rs).map xx
def K6 (ns : List Nat) (a : Nat) : List Nat := ns.set a (ns.getD a 0 + 1)
def TK (ns : List Nat) (a : Nat) (xs : List Dyadic) : List Dyadic :=
 (List.range (av (K6 ns a))).map fun p => co ns.reverse xs (cL (K6 ns a).reverse p) + if 0 < (cL (K6 ns a).reverse p).getD (ns.length - 1 - a) 0 then co ns.reverse xs (Sm (cL (K6 ns a).reverse p) (ns.length - 1 - a)) else 0
theorem jO : ∀ (ds rs : List Nat), ll ds rs ↔ rs.length = ds.length ∧ ∀ (i d r : Nat), ds[i]? = some d → rs[i]? = some r → r ≤ d
 | [], [] => by simp [ll]
 | [], _ :: _ => by simp [ll]
 | _ :: _, [] => by simp [ll]
 | d :: ds, r :: rs => by
  rw [ll, jO ds rs];constructor
  ·rintro ⟨h1, h2, h3⟩;refine ⟨by rw [Uq, Uq, h2], fun i e s he hs => ?_⟩
   cases i with
   | zero => cases he; cases hs; exact h1
   | succ i => exact h3 i e s he hs
  ·rintro ⟨h1, h2⟩;exact ⟨h2 0 d r rfl rfl, by simpa using h1, fun i e s he hs => h2 (i + 1) e s he hs⟩
def Tm (ns : List Nat) (xs : List Dyadic) (cs : List Nat) (zs : List Dyadic) : Prop := zs.length = av cs ∧ cs.length = ns.length ∧ (∀ (i n c : Nat), ns[i]? = some n → cs[i]? = some c → n ≤ c) ∧ ∀ row : List Nat, row.length = ns.length → co cs.reverse zs row = SX (PN cs ns).reverse (co ns.reverse xs) row
variable {b : List SR} {k : Nat}
structure vh (p : PX) (b : List SR) (ns : List Nat) : Prop where
 e : p.e = 0
 box : kJ b = 0
 pos : 0 < b.length
 kE : b.length ≤ 12
 v : p.v = b.length
 nl : ns.length = b.length
 low : ∀ d ∈ ns, d ≤ 127
 most : av ns ≤ 4096
 own : ∀ (i d : Nat), ns[i]? = some d → ∀ t ∈ p.ts, fK i t ≤ d
theorem BC {p : PX} {D : List Int} (h : pL p b D = 0) : D = bL (D.map Int.toNat) ∧ vh p b (D.map Int.toNat) := by
 unfold pL at h;by_cases h0 : p.e ≠ 0
 ·rw [T2 h0] at h; exact absurd h h0
 ·rw [T3 h0] at h;by_cases h1 : kJ b ≠ 0
  ·rw [T2 h1] at h; exact absurd h h1
  ·rw [T3 h1] at h;by_cases h2 : (b.length : Int) ≠ p.v ∨ (D.length : Int) ≠ p.v
   ·rw [T2 h2] at h; exact absurd h TY
   ·rw [T3 h2] at h;by_cases h3 : CJ (q9 p.v p.ts) D = true
    ·rw [T2 h3] at h; exact absurd h TY
    ·rw [T3 h3] at h;by_cases h4 : gM 1 D = 0
     ·rw [T2 h4] at h; exact absurd h TY
     ·have hpe : p.e = 0 := Wc.1 h0;obtain ⟨f1, _, _, _⟩ := ct hpe;have f2 := iA.1 f1;obtain ⟨o1, o2, o3⟩ := mf hpe;have hbv : (b.length : Int) = p.v := Wc.1 fun c => h2 (.inl c);have hdv : (D.length : Int) = p.v := Wc.1 fun c => h2 (.inr c);have hD : ∀ (i : Nat) (y : Int), D[i]? = some y → ∃ d : Nat, (cR p.v p.ts)[i]? = some d ∧ (d : Int) ≤ y ∧ y ≤ 127 := fun i y hy => by
       have hi := (Uk.1 hy).1;obtain ⟨d, hd⟩ := ak (l := cR p.v p.ts) (k := i) TX;have hg : (q9 p.v p.ts)[i]? = some (d : Int) := by rw [o1]; exact ix hd
       have := Vy.1 ((Bool.not_eq_true _).mp h3) _ (T7 (D9 hg hy));rw [Up] at this;exact ⟨d, hd, by show (d : Int) ≤ y; omega, by show y ≤ 127; omega⟩
      have hnat : D = bL (D.map Int.toNat) := by
       unfold bL;rw [U5];refine (W5 _).symm.trans (V7 fun y hy => ?_);obtain ⟨i, hi⟩ := Vw.1 hy;obtain ⟨d, _, h5, _⟩ := hD i y hi;show y = ((y.toNat : Nat) : Int);omega
      have hlow : ∀ d ∈ D.map Int.toNat, d ≤ 127 := fun d hd => by
       obtain ⟨y, hy, rfl⟩ := Ui.1 hd;obtain ⟨i, hi⟩ := Vw.1 hy;obtain ⟨_, _, _, h6⟩ := hD i y hi;omega
      refine ⟨hnat, hpe, Wc.1 h1, ?_, TX, hbv.symm, by rw [Ug]; omega, hlow, ?_, fun i d hd t ht => ?_⟩
      ·rcases VZ b.length with c | c
       ·have h9 := Wc.1 h1;unfold kJ at h9;rw [V1.1 c] at h9;exact absurd h9 TY
       ·exact c
      ·have h8 := jT (D.map Int.toNat) 1 (T5 _) TY hlow;rw [← hnat, VX] at h8;rw [show gM 1 D = gM ((1 : Nat) : Int) D from rfl, h8] at h4;exact Wc.1 fun c => h4 (T3 c)
      ·rw [Ue] at hd;obtain ⟨y, hy, hyd⟩ := VJ.1 hd;obtain ⟨d2, h7, h8, h9⟩ := hD i y hy;have := (o3 i d2 h7).2.1 t ht;omega
theorem vh.yc {p : PX} {ns : List Nat} (h : vh p b ns) : (cR p.v p.ts).length = b.length := by
 rw [(mf h.e).2.1, h.v];exact Vp _
theorem Eg (v i : Nat) (c : NR) : kA (fun x => if x = i then 1 else 0) [⟨jZ v i, c⟩] := fun t ht j => by
 rw [Un.1 ht]
 cases he : (⟨jZ v i, c⟩ : TR).m.data.toList[j]? with
 | none => unfold fK; rw [he]; exact T6 _
 | some e =>
  rw [mE he];show e.toNat ≤ if j = i then 1 else 0
  have e1 : ((List.replicate v (0 : UInt8)).set i 1)[j]? = some e := by simpa [jZ] using he
  rw [VH] at e1;by_cases hj : i = j
  ·rw [T2 hj] at e1;rw [T2 hj.symm];split at e1
   ·rw [← UN e1]; decide
   ·cases e1
  ·rw [T3 hj] at e1;rw [(List.mem_replicate.1 (T7 e1)).2];exact T6 _
theorem wi (v i : Nat) (s : SR) : kA (fun x => if x = i then 1 else 0) (gK v i s) := by
 refine kA.aE (kA.append ((pq v _).aE.mono fun x => T6 _) (kA.aE fun t ht j => ?_));obtain ⟨z, hz, rfl⟩ := Ui.1 ht;rw [show fK j (mh (s.H - s.L) z) = fK j z from rfl];exact (Eg v i _).aE z hz j
theorem wy {p : PX} {ns : List Nat} (h : vh p b ns) (ho : iI k p.ts) (hb : ∀ s ∈ b, s.fin k) (hk : k ≤ 1000) (hgr : fS (k + k + 16394) (cR p.v p.ts) (k + 1) ≤ 440000) (h0 : (cQ p (bp b)).1 = 0) :
  iW b.length 440000 (cQ p (bp b)).2 ∧ ∀ t ∈ (cQ p (bp b)).2, ll ns.reverse (cn t.m).reverse := by
 have hl := h.kE;have hpos := h.pos;have hln := jX b;obtain ⟨_, o2, o3⟩ := mf h.e;have hol := h.yc;have hhv : eW (bp b) = b.length := by
  obtain ⟨s, hs⟩ := ak (l := b) (k := 0) TX;rw [j1 (fW hs)]
 unfold cQ at h0 ⊢;rw [T3 (fun c => c h.e), T3 (by rw [hln, h.v]; exact fun c => c rfl)] at h0 ⊢;by_cases hlk : (bp b).length ≠ 0 ∧ eY (bp b) ≠ 0
 ·rw [T2 hlk] at h0; exact absurd h0 hlk.2
 ·rw [T3 hlk, hhv] at h0 ⊢;have hq : ∀ q ∈ (bp b).map PX.ts, iW b.length (k + k + 10) q ∧ q.length ≤ 2 := fun q hq => by
   obtain ⟨g, hg, rfl⟩ := Ui.1 hq;obtain ⟨i, s, hs, rfl⟩ := C2 hg;exact nh hl (hb s (T7 hs)) TX
  have h1 := D4 (ee hl) (show k + k + 10 + 4096 * 2 + 8192 ≤ k + k + 16394 by omega) ((bp b).map PX.ts) 0 p.ts (cR p.v p.ts) k hq ho (by rw [Ug, hln, hol]) (fun i d hd => ⟨(o3 i d hd).1, fun t ht => by rw [Uv]; exact (o3 i d hd).2.1 t ht⟩) TX h0;refine ⟨h1.mono hgr, ?_⟩;have h2 := xy ((bp b).map PX.ts) 0 p.ts (fun i => (ns[i]?).getD 0) (fun i q hi => ?_) (fun t ht i hi => ?_) h0
  ·intro t ht;have hm := (ct h1.e).2.2.1 t ht;unfold eK at hm;rw [Uj, Up] at hm;have hsz : (cn t.m).length = b.length := by rw [jY]; omega
   rw [jO];refine ⟨by rw [UJ, UJ, hsz, h.nl], fun i d r hd hr => ?_⟩;have hi := (Uk.1 hd).1;rw [UJ] at hi;rw [VN hi] at hd;rw [VN (by rw [hsz, ← h.nl]; exact hi), hsz, ← h.nl] at hr;have h3 := h2 t ht (ns.length - 1 - i);dsimp only at h3;rw [Ug, hln, T2 ⟨T6 _, by have := h.nl; omega⟩, hd, sx, hr] at h3;exact h3
  ·rw [Ue] at hi;obtain ⟨g, hg, rfl⟩ := VJ.1 hi;obtain ⟨s, hs⟩ := ak (l := b) (k := i) (by have := (Uk.1 hg).1; rwa [hln] at this);rw [fW hs] at hg;rw [← UN hg, Uv];exact wi _ i s
  ·rw [Ug, hln] at hi;rw [Uv];obtain ⟨d, hd⟩ := ak (l := ns) (k := i) (by rw [h.nl]; exact hi);rw [hd];exact h.own i d hd t ht
theorem xU (L : Option Addr) (n c d : Nat) (xs : List Dyadic) (k : Nat) (w : World) (hT : eh w) (hS : Sl w L n 3 (az NR.cells (xs.map nR))) (hn : n = d + 1) (hd : d ≤ 127) (hx : ∀ x ∈ xs, Sz k x) (hk : k ≤ 500000) :
  Calls Tryz.prog 94 #[.slice L n c] w fun r w' => ∃ A c', r = .returned (.slice A n c') ∧ Hp w [.row A n c' 65 3 (az NR.cells ((kt d (dX d 1 1) xs).map nR))] w' := by
 have hh := Hp.start w;have hln : xs.length = n := by have := hS.bq NR.len TY; simpa using this
 have ha : Sz 1 1 := Sz.one;obtain ⟨ad, rfl, hr⟩ := hS.at_ TX;refine aj (N := 52) (l := [.slice (some ad) n c]) Tryz.func94 rfl rfl (by simp) ?_;refine sr (aL (aa (sr (mL (aJ ?_)))));refine dY (aI (aa (sr (mI ?_))));refine bj ?_;refine Il ?_;intro b14 w14 hh;refine rb ?_;rw [mU, hn, ← tG d 1 1 xs, ← hn] at hh;refine aP [5, 6, 7, 8, 17, 18, 19, 20, 21, 22, 23, 24, 25, 26, 27, 28, 29, 30, 31, 32, 33, 34, 35, 36, 37, 38, 39, 40, 41, 42, 43, 44, 45, 46, 47, 48, 49, 50] 17
  (fun v w' => ∃ i : Nat, i ≤ n ∧ v = .int .i64 i ∧ Hp w [.row (some ⟨b14, 0, none⟩) n n 65 3 (az NR.cells ((iE d 1 1 xs i 0).map nR))] w')
  (fun v _ => n - (intOf v).toNat) ?_ ?_
 ·exact ⟨0, T6 _, rfl, hh⟩
 ·clear hh;rintro ρ' v w' ⟨i, hi, rfl, hh⟩;by_cases hlt : i < n
  ·obtain ⟨x, hxi⟩ := ak (l := xs) (k := i) TX;have hxn : (xs.map nR)[i]? = some (nR x) := by rw [Ue, hxi]; rfl
   have hat : jm xs i = x := by unfold jm; rw [hxi]; rfl
   have zx := hx x (T7 hxi);have hch := fun w1 hT1 => kG (d - i) w1 hT1 TX;refine sr ?_;refine ek ?_;refine cu ?_;refine Hk ?_;refine bV hh ?_;intro b6 w6 hh;refine aI ?_;refine bW hh 0 [_,_,_] ?_;intro ws hh;replace hh : Hp _ (.blk _ _ [_, _, _] _ :: _) _ := hh;refine aa (sr (mI (mI ?_)));refine dY ?_;have e24 : (n : Int) - 1 - (i : Int) = ((d - i : Nat) : Int) := TX;rw [← e24] at hch;refine aF (hch _ (hT.hp hh)) al.out rfl TY ?_;rintro e_ w25 ⟨A25, c25, rfl, hown_, hb_⟩;refine ⟨_, rfl, ?_⟩;replace hh := hh.aW (x := .row _ _ _ _ _ _) hb_ hown_;refine aJ (mI (aa (aq ?_)));replace hh := hh.sub (T4 _ (T4 _ (T4 _ UA)));refine aP [7, 8, 27, 28, 29, 30, 31, 32, 33, 34, 35, 36, 37, 38, 39, 40, 41, 42, 43, 44, 45, 46, 47, 48, 49] 27
    (fun v w' => ∃ j : Nat, j ≤ d - i + 1 ∧ v = .int .i64 j ∧ Hp w [.row A25 (d - i + 1) c25 65 3 (az NR.cells (lf (d - i))), .blk b6 65 [.bool (nR x).neg, .string (nR x).bz, .int .i64 (nR x).e] (0, 0), .row (some ⟨b14, 0, none⟩) n n 65 3 (az NR.cells ((iE d 1 1 xs i j).map nR))] w')
    (fun v _ => d - i + 1 - (intOf v).toNat) ?_ ?_
   ·exact ⟨0, T6 _, rfl, hh⟩
   ·clear hh;rintro ρ2 v w2 ⟨j, hj, rfl, hh⟩;by_cases hjn : j < d - i + 1
    ·have hbn : (lf (d - i))[j]? = some (nR (nD (bin (d - i) j))) := kj TX;have zb := qC (d - i) j TX;obtain ⟨o, ho⟩ := ak (l := iE d 1 1 xs i j) (k := i + j) (by rw [jQ]; omega);have hon : ((iE d 1 1 xs i j).map nR)[i + j]? = some (nR o) := by rw [Ue, ho]; rfl
     have zo := Dj (j := j) hx ha ha hd (show i ≤ d + 1 by omega) o (T7 ho);have zy := zx.mul zb;have hm2 := fun A cc w1 hT1 hS1 => eI A 2 cc [nR x, nR (nD (bin (d - i) j))] w1 hT1 hS1 (by simpa using ⟨zx.ok TX, zb.ok TX⟩) 600000 (by simpa [bR] using ⟨zx.mono TX, zb.mono TX⟩) TX TX;rw [show g8 ([nR x, nR (nD (bin (d - i) j))].map NR.d) = x * nD (bin (d - i) j) by simp only [Ut, UR, bR]; show 1 * x * _ = _; rw [V4]] at hm2;have hset := zX (show i + j ≤ d by omega) ho;have hval : jm xs i * dX d 1 1 i (i + j) = x * nD (bin (d - i) j) := by
      unfold dX;rw [hat, T3 TX, show i + j - i = j by omega, ij, ij];generalize nD (bin (d - i) j) = u;grind
     rw [hval] at hset;generalize x * nD (bin (d - i) j) = y at *;have hsum := fun A cc w1 hT1 hS1 => iY A 2 cc [nR o, nR y] w1 hT1 hS1 (by simpa using ⟨zo.ok TX, zy.ok TX⟩) 2000000 (by simpa [bR] using ⟨zo.mono TX, zy.mono TX⟩) TX;rw [show mg ([nR o, nR y].map NR.d) = o + y by simp only [Ut, UR, bR, kS]] at hsum;have hll : ((iE d 1 1 xs i j).map nR).length = n := by rw [Ug, jQ]; omega
     generalize iE d 1 1 xs i j = S at *;have hrl := eP NR.len (S.map nR);obtain ⟨gw, rfl⟩ := hh.cB (i := 0) rfl TX;refine sr ?_;refine ek ?_;refine rj ?_;refine N8 ?_;refine bV hh ?_;intro b8 w8 hh;refine aI ?_;refine bW hh 0 [_,_,_] ?_;intro ws hh;replace hh : Hp _ (.blk _ _ [_, _, _] _ :: _) _ := hh;refine aa ?_;refine aV 16 [[(4, none)], [(5, none)], [(7, none)], [(33, some 1), (34, some 2)], [(4, none)], [(5, none)], [(7, none)], [(37, some 5), (38, some 6)], [(36, some 4), (39, some 7)], [(40, some 8)], [(6, none)], [(8, none)], [(42, some 10), (43, some 11)], [(44, some 12)], [(41, some 9), (45, some 13)], [(46, some 14)]] [(15, 47), (14, 46), (13, 45), (12, 44), (11, 43), (10, 42), (9, 41), (8, 40), (7, 39), (6, 38), (5, 37), (4, 36), (3, 35), (2, 34), (1, 33), (0, 32)] hh mixed TZ ?_;refine fT ?_;refine dF ?_;refine dF ?_;refine rS ?_;refine fT ?_;refine dF ?_;refine dF ?_;refine rS ?_;refine Ke ((i + j)) ?_;refine r9 [_,_,_] (fun _ hj => hj.hp.iz (f := NR.cells) (x := nR o) (l := S.map nR) (i := 3) rfl NR.len TY hon) ?_;refine fU 2 [_,_,_] ?_;refine fU 0 [_,_,_] ?_;refine tQ [_,_,_,_,_,_] ?_
     refine aT (i := 13) (Is (.agg #[.bool (nR y).neg, .string (nR y).bz, .int .i64 (nR y).e])) Is.ext ?_ ?_
     ·intro ρ1 w1 hj hR;obtain ⟨A44, c44, h44, s44⟩ := hR.1;exact bf rfl (aO al.out (aw h44 aZ)) (hm2 A44 c44 _ (hT.hp hj.hp) s44) (fun _ _ hq => ⟨_, hq.1, hq.2, rfl⟩)
     refine tQ [_,_,_,_,_,_] ?_;refine aT (i := 15) (Is (.agg #[.bool (nR (o + y)).neg, .string (nR (o + y)).bz, .int .i64 (nR (o + y)).e])) Is.ext ?_ ?_
     ·intro ρ1 w1 hj hR;obtain ⟨A46, c46, h46, s46⟩ := hR.1;exact bf rfl (aO al.out (aw h46 aZ)) (hsum A46 c46 _ (hT.hp hj.hp) s46) (fun _ _ hq => ⟨_, hq.1, hq.2, rfl⟩)
     refine aR ?_;intro f W hJ hV;have hb_9 := hJ.bl;obtain ⟨v47, v46, v45, v44, v43, v42, v41, v40, v39, v38, v37, v36, v35, v34, v33, v32, _⟩ := hV;obtain ⟨A44, c44, e44, f44⟩ : Rows _ _ _ (f 12) W := v44;obtain ⟨A46, c46, e46, f46⟩ : Rows _ _ _ (f 14) W := v46;replace hh := hJ.hp;refine aY (br (ae v47 (ae e46 (ae v45 (ae e44 (ae v43 (ae v42 (ae v41 (ae v40 (ae v39 (ae v38 (ae v37 (ae v36 (ae v35 (ae v34 (ae v33 (ae v32 aX))))))))))))))))) ?_;dsimp only [cf];clear e44 e46 hJ;exact Oh
    ·exact Nc
  ·obtain rfl : i = n := TX;rw [show iE d 1 1 xs i 0 = kt d (dX d 1 1) xs by rw [hn, xd]] at hh;exact P9
def SK (w : World) (b i : Nat) : Int := match w.cell? ⟨b, 0, none⟩ with
 | some (.slice (some a) _ _) => match w.cell? (a.add (i * 1)) with
  | some (.int _ z) => z
  | _ => 0
 | _ => 0
structure RS (ns ts : List Nat) (xs : List Dyadic) (k n : Nat) (F FC : Option Addr) (c1 c2 i T : Nat) (cur : List Nat) (zs : List Dyadic) (A B : Option Addr) (ca cb : Nat) (R : List HE) (w : World) : Prop where
 Ty : Tm ns xs cur zs
 le : ∀ (j c t : Nat), cur[j]? = some c → ts[j]? = some t → c ≤ t
 eq : ∀ (j c t : Nat), j < i → cur[j]? = some c → ts[j]? = some t → c = t
 sz : ∀ x ∈ zs, Sz (k + T) x
 src : (A = F ∧ ca = c1 ∧ B = FC ∧ cb = c2 ∧ cur = ns ∧ zs = xs) ∨ R = [.row B (av cur) cb 65 3 (az NR.cells (zs.map nR)), .row A n ca 3 1 (bJ (bL cur))]
 rd : ∀ (H : List HE) (w' : World), Hp w (H ++ R) w' → Sl w' A n 1 (bJ (bL cur)) ∧ Sl w' B (av cur) 3 (az NR.cells (zs.map nR))
variable {w : World}
theorem FX.at_.ln {g : FX} (h : g.at_ w) : g.ds.length = g.n ∧ g.cs.length = g.m := ⟨by have := h.dg.1; rw [bX] at this; omega, h.nm.bq NR.len TY⟩
def Kept (fs : List FX) (R : List HE) (g : FX) : Prop := g ∈ fs ∨ (g.vq ∈ R ∧ g.uT ∈ R)
variable {E : Int}
def RK (E : Int) (D : List Nat) : List Int := if E = 0 then bL D else []
def Qn (E : Int) (ys : List Dyadic) : List NR := if E = 0 then ys.map nR else []
structure Out (E : Int) (D : List Nat) (ys : List Dyadic) (g : FX) : Prop where
 ds : g.ds = RK E D
 cs : g.cs = Qn E ys
 n : g.n ≤ 100000
 m : g.m ≤ 1000000
def FX.nil : FX := ⟨none, 0, 0, none, 0, 0, [], []⟩
theorem Hp.QS {H : List HE} (h : Hp w0 H w) : Hp w0 (FX.nil.vq :: FX.nil.uT :: H) w := (h.de 3 1).de 65 3
theorem Out.err {D : List Nat} {ys : List Dyadic} (h : E ≠ 0) : Out E D ys FX.nil := ⟨by unfold RK; rw [T3 h]; rfl, by unfold Qn; rw [T3 h]; rfl, T6 _, T6 _⟩
theorem Ag (g h : FX) (w : World) (hg : g.at_ w) (hh : h.at_ w) (e : g.ds = h.ds ∧ g.cs = h.cs) (hn : g.n ≤ 100000) (hm : g.m ≤ 1000000) :
  Calls Tryz.prog 23 #[.agg #[.slice g.A g.n g.a, .slice g.B g.m g.b], .agg #[.slice h.A h.n h.a, .slice h.B h.m h.b]] w fun r w' => r = .returned (.bool true) ∧ Below w.heap.size w w' := by
 have l1 := hg.ln;have l2 := hh.ln;obtain ⟨hg1, hg2⟩ := hg;obtain ⟨hh1, hh2⟩ := hh;have e1 : h.n = g.n := by rw [← l1.1, ← l2.1, e.1]
 have e2 : h.m = g.m := by rw [← l1.2, ← l2.2, e.2]
 rw [← e.1, e1] at hh1;rw [← e.2, e2] at hh2;rw [e1, e2];exact ya g.A g.B g.n g.a g.m g.b h.A h.B h.a h.b g.ds g.cs w hg1 hg2 hh1 hh2 hn hm
def SB (f : FX) (es : List Int) : Int := if f.e ≠ 0 then f.e else Tq f.ds es
def FX.key (f : FX) : List Int × List NR × Nat := (f.ds, f.cs, f.n)
variable {M : List Nat} {N base m : Nat} {P : Program} {R : Ending → World → Prop} {args : Array Operand} {assign body : Code} {ops : Array Oper} {pos : String} {vs : List Value} {w' : World} {α : Type} {ρ : Rf}
abbrev nJ (D : Nat) : Deferred := { target := .collected D, args := #[] }
abbrev pP (M : List Nat) : List HE := M.map fun D => .ob D (.deferred (some []))
theorem Jr {D : List Deferred} {a b : Act} (h : ew N D a ρ) (k : ew N D b ρ) : a = b := by
 obtain ⟨t, d⟩ := a;obtain ⟨t', d'⟩ := b;obtain ⟨h1, h2, h3⟩ := h;obtain ⟨k1, k2, k3⟩ := k;obtain rfl : d = d' := h1.trans k1.symm;congr 1;refine Array.ext (h2.trans k2.symm) fun i hi hi' => ?_;have e1 := h3 i;have e2 := k3 i;rw [Vb, Wg hi] at e1;rw [Vb, Wg hi'] at e2;exact e1.trans e2.symm
abbrev Kd := Exit → List Nat → Rf → World → Prop
structure WD (P : Program) (N : Nat) (c : Code) (Q : Kd) (ρ : Rf) (w : World) : Prop where
 out : ∀ (M : List Nat) a, ew N (M.map nJ) a ρ → ∀ n, c.wpIn Fence.wide n P (fun e a' w' => ∃ M' ρ', ew N ((M' ++ M).map nJ) a' ρ' ∧ Q e M' ρ' w') a w
def yh (next : List Nat → Rf → World → Prop) (Q : Kd) : Kd
 | .normal, M, ρ, w => next M ρ w
 | e, M, ρ, w => Q e M ρ w
def uh (M : List Nat) (Q : Kd) : Kd := fun e M2 ρ w => Q e (M2 ++ M) ρ w
def IB (id : Nat) (Q : Kd) : Kd
 | .exit id', M, ρ, w => if id' = id then Q .normal M ρ w else Q (.exit id') M ρ w
 | e, M, ρ, w => Q e M ρ w
def HW (Q : Kd) : Kq := fun e ρ w => Q e [] ρ w
section
variable {P : Program} {N : Nat} {Q : Kd} {ρ : Rf} {w : World}
theorem Fk {c : Code} (h : ∀ D, WC ⟨none, D, true⟩ P N c (HW Q) ρ w) : WD P N c Q ρ w :=
 ⟨fun M a hf n => wpIn_mono ((h (M.map nJ)).jB a hf n) fun e a' w' ⟨ρ', hf', hq⟩ => ⟨[], ρ', hf', hq⟩⟩
theorem yu {x y : Code} (h : WD P N x (yh (fun M ρ w => WD P N y (uh M Q) ρ w) Q) ρ w) : WD P N (.seq x y) Q ρ w :=
 ⟨fun M a hf n => wpIn_seq (wpIn_mono (h.out M a hf n) fun e a' w' ⟨M', ρ', hf', hq⟩ => by
  cases e with
  | normal =>
   refine wpIn_mono ((hq : WD P N y (uh M' Q) ρ' w').out (M' ++ M) a' hf' n) fun e a2 w2 ⟨M2, ρ2, hf2, hq2⟩ => ?_;exact ⟨M2 ++ M', ρ2, by rw [UI]; exact hf2, hq2⟩
  | _ => exact ⟨M', ρ', hf', hq⟩)⟩
theorem jv {x y : Code} (h : ∀ D, WC ⟨none, D, true⟩ P N x (cx (fun ρ w => WD P N y Q ρ w) (HW Q)) ρ w) : WD P N (.seq x y) Q ρ w :=
 yu (Fk fun D => (h D).mono fun e ρ w hq => by
  cases e with
  | normal =>
   show WD P N y (uh [] Q) ρ w;have e0 : uh [] Q = Q := by funext e M ρ w; unfold uh; rw [UF]
   rw [e0];exact hq
  | _ => exact hq)
theorem sT {id : Nat} {c : Code} (h : WD P N c (IB id Q) ρ w) : WD P N (.block id c) Q ρ w :=
 ⟨fun M a hf n => wpIn_block (wpIn_mono (h.out M a hf n) fun e a' w' ⟨M', ρ', hf', hq⟩ => by
  cases e with
  | exit id' =>
   by_cases hid : id' = id
   ·simp only [IB, hid, if_true] at hq;simp only [Exit.inBlock, hid, if_true];exact ⟨M', ρ', hf', hq⟩
   ·simp only [IB, hid, if_false] at hq;simp only [Exit.inBlock, hid, if_false];exact ⟨M', ρ', hf', hq⟩
  | _ => exact ⟨M', ρ', hf', hq⟩)⟩
theorem K8 {c : Code} (I : List Nat → Rf → World → Prop) (μ : Rf → World → Nat) (h0 : I [] ρ w)
  (round : ∀ M ρ w, I M ρ w → WD P N c (fun e M2 ρ' w' => yh (fun M2 ρ' w' => I M2 ρ' w' ∧ μ ρ' w' < μ ρ w) Q e (M2 ++ M) ρ' w') ρ w) : WD P N (.loop c) Q ρ w := by
 refine ⟨fun M0 a hf n => ?_⟩;refine wpIn_loop (fun a w => ∃ M ρ, ew N ((M ++ M0).map nJ) a ρ ∧ I M ρ w) (fun a w => μ (fun i => a.tmps.getD i undef) w) ⟨[], ρ, hf, h0⟩ ?_;rintro a w ⟨M, ρ, hf, hi⟩;refine wpIn_mono ((round M ρ w hi).out (M ++ M0) a hf n) ?_;rintro e a' w' ⟨M', ρ', hf', hq⟩;rw [← UI] at hf';have e1 : (fun i => a.tmps.getD i undef) = ρ := funext hf.at_;have e2 : (fun i => a'.tmps.getD i undef) = ρ' := funext hf'.at_
 cases e with
 | normal => exact ⟨⟨_, ρ', hf', hq.1⟩, by rw [e1, e2]; exact hq.2⟩
 | _ => exact ⟨_, ρ', hf', hq⟩
def Nk {α : Type} (Kp : World → World → Prop) (I : List α → World → Prop) (pre : List α) (x : α) (W : World) : Kq
 | .normal, _, W' => KeepsOthers W W' ∧ Kp W W' ∧ I (pre ++ [x]) W'
 | _, _, _ => False
def oP : Kq := fun _ _ _ => False
theorem vv {ps : Tmp} {v : Value} {a : Array Value} : ((#[ps] : Array Tmp).zip #[v]).foldl (fun t (p, v) => t.setIfInBounds p v) a = a.setIfInBounds ps v := by simp
theorem HJ {g : Operand} {p : Tmp} {gf : Nat} {lb : Array Value} (hp : p < N) (hg : ev ρ g = .func (.func gf) #[] lb) (eg : ∀ args w, (callFunc gf args).run P w = .ok (.enter gf args) w)
  {enc : α → Value} {Kp : World → World → Prop} {S : List α → Prop} {Nn : Nat} (hseq : ∀ n, SeqStopsK Fence.wide n P gf lb (fun x => #[enc x]) Kp S (fun _ => True) Nn w)
  (hKt : ∀ {A B C : World}, Kp A B → Kp B C → Kp A C) (hKb : ∀ (W : World) (l : Nat) (o o' : Obj), w.heap.size ≤ l → W.heap[l]? = some o → o.isCells = false → o.isWalk = false → Kp W (W.putObj l o'))
  (I : List α → World → Prop) (hI : OwnFrom w.heap.size I) (h0 : I [] w) (ρ1 : α → Rf) (hρ : ∀ x i, N ≤ i → ρ1 x i = ρ i)
  (hassign : ∀ l x W, WC ⟨some l, [], true⟩ P N assign (cx (fun ρ' W' => ρ' = ρ1 x ∧ W' = W) oP) (cI ρ p (enc x)) W)
  (hbody : ∀ l pre x W, I pre W → pre.length < Nn → WC ⟨some l, [], true⟩ P N body (Nk Kp I pre x W) (ρ1 x) W)
  (hdone : ∀ (D : Nat) (xs : List α) (W : World), w.heap.size ≤ D → S xs → I xs W → W.heap[D]? = some (.deferred (some [])) → Q .normal [D] ρ W) : WD P N (.rangeFunc g #[p] assign body) Q ρ w := by
 refine ⟨fun M a hf n => ?_⟩;have hfit : ∀ x, ew N [] { tmps := Array.ofFn fun i : Fin N => ρ1 x i, defers := [] } (ρ1 x) := fun x => by
  refine ⟨rfl, by simp, fun i => ?_⟩;rw [Vb];by_cases hi : i < N
  ·rw [Wg (by simpa using hi)];simp
  ·rw [WT (by simp; omega), hρ x i TX, ← hf.at_ i, Vb, WT (by rw [hf.sz]; omega)]
 have main : (Code.rangeFunc g #[p] assign body).wpIn Fence.wide (n + 1) P (fun e a' w' => ∃ M' ρ', ew N ((M' ++ M).map nJ) a' ρ' ∧ Q e M' ρ' w') a w := by
  refine wpIn_rangeFunc_ownF (F := Fence.wide) (n := n + 1) rfl TX (gf := gf) (lb := lb) (by rw [hf.eval]; exact hg) trivial eg (hseq _) hKt hKb (Below.refl _ _) (fun _ => rfl) I (fun _ _ _ => False) hI
   (fun _ _ _ _ _ hs _ _ => hs) h0 (fun x => { tmps := Array.ofFn fun i : Fin N => ρ1 x i, defers := [] }) (fun l x W K hK => ?_) (fun l pre x W hi hl => ?_) (fun D xs W hD hS hi hW => ?_) (fun _ _ _ _ _ _ h _ => h.elim)
  ·refine wpIn_mono ((hassign l x W).jB _ ⟨rfl, ?_, fun i => ?_⟩ _) fun e a' w' ⟨ρ', hf', hq⟩ => ?_
   ·rw [vv];simp [hf.sz]
   ·rw [vv, ← (hf.put hp (enc x)).at_ i]
    rfl
   ·cases e with
    | normal =>
     obtain ⟨rfl, rfl⟩ := hq;rw [Jr hf' (hfit x)];exact hK
    | _ => exact hq.elim
  ·refine wpIn_mono ((hbody l pre x W hi hl).jB _ (hfit x) _) fun e a' w' ⟨ρ', hf', hq⟩ => ?_
   cases e with
   | normal => exact hq
   | _ => exact hq.elim
  ·exact ⟨[D], ρ, ⟨by rw [hf.nd]; rfl, hf.sz, hf.at_⟩, hdone D xs W hD hS hi hW⟩
 intro b k cs hro hb _;exact main b k cs hro hb (room_wide _)
end
def QA (P : Program) (fn : Func) (R : Ending → World → Prop) : Kd := fun e M ρ w =>
 (e = .normal ∨ e = .ret) ∧ ∀ tmps : Array Value, (∀ i, tmps.getD i undef = ρ i) → ∀ n, LeavesInM Fence.wide n P fn tmps R (M.map nJ) .returning w
theorem Fo {f : FuncId} {fn : Func} {c : Code} {l : List Value}
  (hf : P.funcs[f]? = some fn) (hb : fn.body = some c) (hn : fn.ntmps = N) (ha : l.length ≤ N)
  (h : WD P N c (QA P fn R) (Fh l) w) : Calls P f l.toArray w R := by
 refine (callsIn_wide (n := 0)).1 (callsIn_of_wp_marks hf hb trivial ?_ rfl);refine wpIn_mono (h.out [] _ ⟨rfl, by simp [hn]; omega, fun i => ?_⟩ 0) ?_
 ·exact OX
 ·rintro e a w' ⟨M, ρ', hf', he, hl⟩;rw [UF] at hf'
  rcases he with rfl | rfl
  ·show LeavesInM _ _ _ _ a.tmps _ a.defers _ _;rw [hf'.nd];exact hl _ hf'.at_ 0
  ·show LeavesInM _ _ _ _ a.tmps _ a.defers _ _;rw [hf'.nd];exact hl _ hf'.at_ 0
theorem B4 {f : FuncId} {fn : Func} {c : Code} {l : List Value}
  (hf : P.funcs[f]? = some fn) (hb : fn.body = some c) (hn : fn.ntmps = N) (ha : l.length ≤ N)
  (h : WC ⟨none, [], true⟩ P N c (mv P fn R) (Fh l) w) : Calls P f l.toArray w R := by
 refine (callsIn_wide (n := 0)).1 (callsIn_of_wp hf hb trivial ?_ rfl);refine wpIn_mono (h.jB _ ⟨rfl, by simp [hn]; omega, fun i => ?_⟩ 0) ?_
 ·exact OX
 ·rintro e a w' ⟨ρ', hf', he, v, hr, hR⟩
  rcases he with rfl | rfl
  ·exact ⟨hf'.nd, v, hr _ hf'.at_, hR⟩
  ·exact ⟨hf'.nd, v, hr _ hf'.at_, hR⟩
def HE.Qh : HE → Bool
 | .ob _ _ => false
 | _ => true
theorem tg {x : HE} {b : Nat} (h : x.holds base w) (hc : x.Qh = true) (hid : x.id = some b) : ∃ o, w.heap[b]? = some o ∧ o.isCells = true := by
 cases x with
 | blk b' t cs fz =>
  obtain rfl : b' = b := UN hid;exact ⟨_, h.2.1, rfl⟩
 | row A n c t sz xs =>
  rcases h.2 with ⟨h1, _⟩ | ⟨g, cap, cur, h1, _, h3, _⟩
  ·injection h1 with e1
   subst e1
   cases hid
  ·injection h1 with e1
   subst e1;obtain rfl : g = b := UN hid;exact ⟨_, h3, rfl⟩
 | ob _ _ => cases hc
theorem Hp.P2 {H : List HE} (h : Hp w0 H w) (hc : ∀ x ∈ H, x.Qh = true) {row : Option Nat} (hg : w.grownBy w' row) (hr : ∀ r, row = some r → w0.heap.size ≤ r ∧ ∃ o : Obj, w.heap[r]? = some o ∧ o.isCells = false) : Hp w0 H w' := by
 refine ⟨⟨hg.os.trans h.below.os, hg.tape.trans h.below.tape, hg.output.trans h.below.output, Ur h.size hg.size, fun k hk => ?_⟩, fun x hx => ?_, h.nd⟩
 ·refine (hg.block k (U6 hk h.size) fun e => ?_).trans (h.below.block k hk);have := (hr k e.symm).1;omega
 ·refine od (h.own x hx) fun b hid => hg.block b (dK (h.own x hx) hid).2 fun e => ?_;obtain ⟨o, h1, h2⟩ := tg (h.own x hx) (hc x hx) hid;obtain ⟨_, o', h3, h4⟩ := hr b e.symm;rw [h1] at h3
  cases h3
  rw [h2] at h4
  cases h4
def KE (base : Nat) (ids : List Nat) (w : World) (k : Nat) : Option HE := if base ≤ k ∧ ids.contains k = false then (w.heap[k]?).map fun o => .ob k o else none
def BK (base : Nat) (ids : List Nat) (w : World) : List HE := (List.range w.heap.size).filterMap (KE base ids w)
theorem r7 {ids : List Nat} {x : HE} (h : KE base ids w k = some x) : ∃ o, x = .ob k o ∧ base ≤ k ∧ k ∉ ids ∧ w.heap[k]? = some o := by
 unfold KE at h;split at h
 ·rename_i h1;obtain ⟨o, h2, h3⟩ := VJ.1 h;exact ⟨o, h3.symm, h1.1, by simpa using h1.2, h2⟩
 ·cases h
theorem Hp.Lf {H : List HE} (h : Hp w0 H w) : Hp w0 (H ++ BK w0.heap.size (H.filterMap HE.id) w) w := by
 refine ⟨h.below, fun x hx => ?_, ?_⟩
 ·rcases UD.1 hx with hx | hx
  ·exact h.own x hx
  ·obtain ⟨k, _, hk⟩ := Vd.1 hx;obtain ⟨o, rfl, h1, _, h3⟩ := r7 hk;exact ⟨h1, h3⟩
 ·rw [Ws];refine WK.2 ⟨h.nd, ?_, fun a ha b hb e => ?_⟩
  ·unfold BK;rw [List.filterMap_filterMap];refine List.Pairwise.filterMap _ (fun a a' hne b hb b' hb' e => ?_) List.nodup_range;obtain ⟨x, hx, hx2⟩ := Option.bind_eq_some_iff.1 hb;obtain ⟨y, hy, hy2⟩ := Option.bind_eq_some_iff.1 hb';obtain ⟨o, rfl, _⟩ := r7 hx;obtain ⟨o', rfl, _⟩ := r7 hy;obtain rfl : a = b := UN hx2;obtain rfl : a' = b' := UN hy2;exact hne e
  ·obtain ⟨x, hx, hx2⟩ := Vd.1 hb;obtain ⟨k, _, hk⟩ := Vd.1 hx;obtain ⟨o, rfl, _, h2, _⟩ := r7 hk;obtain rfl : k = b := UN hx2;exact h2 (e ▸ ha)
theorem p8 {P : Program} {fn : Func} {tmps : Array Value} {R : Ending → World → Prop} {n : Nat} {w0 : World} {H : List HE} : ∀ (M : List Nat) (w : World), Hp w0 (pP M ++ H) w → (∀ w2, Hp w0 H w2 → ∃ v, (results fn tmps).run P w2 = .ok v w2 ∧ R (.returned v) w2) →
  LeavesInM Fence.wide n P fn tmps R (M.map nJ) .returning w
 | [], w, hh, h => h w hh
 | D :: M, w, hh, h => by
  have hD : w.heap[D]? = some (.deferred (some [])) := (hh.own _ Uc).2;refine ⟨by simp, .inl ⟨D, w.putObj D (.deferred none), rfl, run_takeDeferred hD, p8 M _ ?_ h⟩⟩;have hb := (hh.own _ Uc).1;have h2 := hh.KS (i := 0) (x := .ob D (.deferred (some []))) (y := .ob D (.deferred none)) (w' := w.putObj D (.deferred none)) rfl (fun b e => .inl e) ?_ (fun b hlt hne => World.putObj_heap_other (fun e => hne (by rw [e]; rfl))) ⟨hb, ?_⟩
  ·exact h2.sub (UM _ _)
  ·have hg := grownBy_putObj' w D (.deferred none);refine ⟨hg.os.trans hh.below.os, hg.tape.trans hh.below.tape, hg.output.trans hh.below.output, Ur hh.size hg.size, fun k hk => (hg.block k (U6 hk hh.size) fun e => ?_).trans (hh.below.block k hk)⟩
   cases e
   omega
  ·exact World.putObj_heap_same (WX.1 hD).1
theorem qS {fn : Func} {e : Exit} {H : List HE} {rs : List ResultVar} (hh : Hp w0 (pP M ++ H) w) (he : e = .normal ∨ e = .ret) (hr : fn.results = rs.toArray)
  (h : ∀ w2, Hp w0 H w2 → gN P ρ w2 rs vs ∧ R (.returned (vz vs)) w2) : QA P fn R e M ρ w := by
 refine ⟨he, fun tmps ht n => p8 M w hh fun w2 hh2 => ?_⟩;obtain ⟨h1, h2⟩ := h w2 hh2;obtain ⟨_, v, h3, h4⟩ := ky (e := e) he hr h1 h2;exact ⟨v, h3 tmps ht, h4⟩
theorem Ln {d : Option Nat} {ty : TypeId} {af : Array Edge} {g : Option (Nat × Bool)} {x : Operand} {ts : Array TypeId} {l : Nat} {fn : FuncId} {tmps : Array Value}
  (hx : ev ρ x = .func (.yield l) #[] #[]) (ha : vC ρ args.toList = vs) (hy : (Instr.yield l vs.toArray).run P w = .ok (.round l fn tmps assign body) w) : (execOp (ev ρ) ⟨d, .call ⟨.value x, args, ts⟩, ty, pos, af, g⟩).run P w = .ok (.round l fn tmps assign body) w := by
 have h2 : args.map (ev ρ) = vs.toArray := mW args ha;simp [execOp, resolve, Deferred.ofValue, hx, h2, invoke, callFunc, program, Sem.run, hy]
theorem Jl {Q : Kq} {rest : List Oper} {d : Nat} {ty : TypeId} {af : Array Edge} {x : Operand} {ts : Array TypeId} {l : Nat}
  (hx : ev ρ x = .func (.yield l) #[] #[]) (ha : vC ρ args.toList = vs) (hy : YieldAt Fence.wide m P l vs.toArray w R) (hN : d < N) (kk : ∀ e w', R e w' → ∃ v, e = .returned v ∧ WL ⟨none, [], true⟩ P N ops Q rest (cI ρ d v) w') :
  WL ⟨none, [], true⟩ P N ops Q (⟨some d, .call ⟨.value x, args, ts⟩, ty, pos, af, none⟩ :: rest) ρ w := by
 obtain ⟨fn, tmps, as_, bd, h1, h2⟩ := hy;refine ⟨fun h => (by cases h), fun a hf n => wpListIn_plain rfl fun K hK => ⟨fun _ _ => trivial, ?_⟩⟩;rw [hf.eval, kO _ (Ln hx ha h1) (fun _ h => by cases h)];refine ⟨fun h => (by cases h), ?_⟩;refine ⟨trivial, fun c cs _ => ?_⟩;obtain ⟨e, w', hR, hs⟩ := h2.2 c cs (room_wide _);refine ⟨e, w', ?_, hs⟩;obtain ⟨v, rfl, hk⟩ := kk e w' hR;exact hK _ _ (hk.jB _ (hf.put hN v) n)
variable {W : World} {ad : Addr} {q : Nat}
theorem OJ {d : Option Nat} {ty : TypeId} {af : Array Edge} {g : Option (Nat × Bool)} {t e : TypeId} {x lo hi mx : Operand} {l h sz : Nat} {k1 k2 k3 : IntKind} {m1 m2 m3 : Int}
  (ht : P.underlying t = some (.slice e)) (hsz : (P.info? e).map (·.size) = some sz) (hx : ev ρ x = .slice (some ad) n c) (hlo : ev ρ lo = .int k1 m1) (hhi : ev ρ hi = .int k2 m2) (hmx : ev ρ mx = .int k3 m3) (e1 : m1 = (l : Int)) (e2 : m2 = (h : Int)) (e3 : m3 = (q : Int))
  (h1 : l ≤ h) (h2 : h ≤ q) (h3 : q ≤ c) (h4 : l < q) : (execOp (ev ρ) ⟨d, .slice t x (some lo) (some hi) (some mx), ty, pos, af, g⟩).run P w = .ok (.value (.slice (some (ad.add (l * sz))) (h - l) (q - l))) w := by
 obtain ⟨i, hi1, hi2⟩ := VJ.1 hsz;subst e1 e2 e3 hi2;have a1 : (l : Int) ≤ h := TX;have a2 : (h : Int) ≤ q := TX;have a3 : (q : Int) ≤ c := TX;have a4 : ¬ q = l := TX;have a5 : ¬ q - l = 0 := TX;simp [execOp, hx, Instr.sliceAt, Instr.slice, run_underlying ht, Instr.sliceBounds, Instr.sliceBound, asIntOf, hlo, hhi, hmx, h1, h2, h3, a4, a5, sizeOf, typeInfo, hi1]
theorem Ab (A : Option Addr) (n c K : Nat) (w : World) (hK : 1 ≤ K) :
  Calls Tryz.prog 126 #[.slice A n c, .int .i64 K] w fun r w' => ∃ b2 b3, r = .returned (.func (.func 192) #[] #[.pointer (some ⟨b2, 0, none⟩), .pointer (some ⟨b3, 0, none⟩)]) ∧ Hp w [.blk b3 3 [.int .i64 K] (0, 0), .blk b2 37 [.slice A n c] (0, 0)] w' := by
 have hh := Hp.start w;refine aj (N := 9) (l := [.slice A n c, .int .i64 K]) Tryz.func126 rfl rfl (by simp) ?_;refine sr ?_;refine cD hh [_] ?_;intro b2 w2 hh;refine cD hh [_] ?_;intro b3 w3 hh;refine jW (by first | exact rX rfl | exact sg rfl) TY ?_;refine aa (ah (sr ?_));refine bG hh 0 ?_;refine bg (aa (cF (ar (ai (sr ?_)))));exact Ql
def AY (b2 b3 : Nat) (W W' : World) : Prop := W'.cell? ⟨b2, 0, none⟩ = W.cell? ⟨b2, 0, none⟩ ∧ W'.cell? ⟨b3, 0, none⟩ = W.cell? ⟨b3, 0, none⟩
theorem tS {W' : World} (h : Below W.heap.size W W') : W.grownBy W' none := ⟨h.os, h.tape, h.output, h.size, fun k hk _ => h.block k hk⟩
theorem Mi {b2 b3 : Nat} {A B C : World} (h : AY b2 b3 A B) (k : AY b2 b3 B C) : AY b2 b3 A C := ⟨k.1.trans h.1, k.2.trans h.2⟩
theorem Lc {b2 b3 : Nat} (h2 : b2 < w.heap.size) (h3 : b3 < w.heap.size) (W : World) (l : Nat) (o o' : Obj) (hl : w.heap.size ≤ l) : AY b2 b3 W (W.putObj l o') :=
 ⟨World.cell?_of_block (World.putObj_heap_other (fun e => by simp at e; omega)), World.cell?_of_block (World.putObj_heap_other (fun e => by simp at e; omega))⟩
theorem FJ (b2 b3 : Nat) (ad : Addr) (n c K m : Nat) (w : World) (h2 : w.cell? ⟨b2, 0, none⟩ = some (.slice (some ad) n c)) (h3 : w.cell? ⟨b3, 0, none⟩ = some (.int .i64 K)) (hn : n = m * K) (hK : 0 < K) (hc : n ≤ c) (hb : n ≤ 1000000) (hKb : K ≤ 1000000) :
  ∀ N1, SeqStopsK Fence.wide N1 Tryz.prog 192 #[.pointer (some ⟨b2, 0, none⟩), .pointer (some ⟨b3, 0, none⟩)] (fun j : Fin m => #[.slice (some (ad.add (j.val * K * 3))) K K]) (AY b2 b3) (fun xs => xs = List.finRange m) (fun _ => True) m w := by
 intro N1 l J Jx W hW hAb hAbx hY h0;refine callsIn_wide.2 ?_;show Calls _ _ #[.func (.yield l) #[] #[], .pointer (some ⟨b2, 0, none⟩), .pointer (some ⟨b3, 0, none⟩)] W _;have hAbd : ∀ xs W1 W2, J xs W1 → Below W1.heap.size W1 W2 → J xs W2 := fun xs W1 W2 h hb => hAb xs W1 W2 none h (tS hb) (fun r e => nomatch e);have c2 := cH hW h2;have c3 := cH hW h3;refine B4 (N := 31) (l := [.func (.yield l) #[] #[], .pointer (some ⟨b2, 0, none⟩), .pointer (some ⟨b3, 0, none⟩)]) Tryz.func192 rfl rfl (by simp) ?_;refine sr (aI (aa (aq ?_)));refine aP [4, 5, 6, 7, 8, 9, 10, 11, 12, 13, 14, 15, 16, 17, 18, 19, 20, 21, 22, 23, 24, 25, 26, 27, 28, 29, 30] 4
  (fun v w' => ∃ j : Nat, j ≤ m ∧ v = .int .i64 ((j * K : Nat) : Int) ∧ J ((List.finRange m).take j) w' ∧ w'.cell? ⟨b2, 0, none⟩ = some (.slice (some ad) n c) ∧ w'.cell? ⟨b3, 0, none⟩ = some (.int .i64 K))
  (fun v _ => n + 1 - (intOf v).toNat) ?_ ?_
 ·exact ⟨0, T6 _, by rw [Wx]; rfl, h0, c2, c3⟩
 ·clear c2 c3 h0;rintro ρ' v w' ⟨j, hj, rfl, hJj, c2, c3⟩;have hh := Hp.start w';by_cases hlt : j < m
  ·have h5 : (j + 1) * K ≤ m * K := U2 _ hlt;have h6 : (j + 1) * K = j * K + K := Va j K;refine ah (sr (mI ?_));refine bT aK.out rfl (c2) TY ?_;refine aJ ?_;refine wD ?_;refine OT ?_;refine aV 5 [[(2, none)], [(1, none)], [(4, none)], [(14, some 1), (15, some 2)], [(16, some 3)]] [(4, 17), (3, 16), (2, 15), (1, 14), (0, 13)] hh mixed TZ ?_;refine rW (fun _ hj => cH hj.bl c3) ?_;refine rW (fun _ hj => cH hj.bl c2) ?_;refine dF ?_;refine bu (i := 3) (fun ρ1 w1 hj hR => jl (l := (j * K)) bk.out aK.size (show ρ1 14 = Value.slice _ _ _ from hR.1) (show ρ1 15 = Value.int _ _ from hR.2.1) TX TX TX) ?_;refine CS ?_;refine aR ?_;intro f W hJ hV;have hb_3 := hJ.bl;obtain ⟨v17, v16, v15, v14, v13, _⟩ := hV;replace hh := hJ.hp;refine aY (br (ae v17 (ae v16 (ae v15 (ae v14 (ae v13 aX)))))) ?_;dsimp only [cf];clear hJ;have hmin : (if ((n - j * K : Nat) : Int) < (K : Int) then ((n - j * K : Nat) : Int) else (K : Int)) = (K : Int) := T3 TX;refine wO rfl rfl TY ?_;rw [hmin];have c2' := cH hh.below c2;have c3' := cH hh.below c3;have hJ2 := hAbd _ _ _ hJj hh.below
   have hfr : (List.finRange m)[j]? = some ⟨j, hlt⟩ := by rw [Vq (by rw [WY]; exact hlt), List.getElem_finRange]; rfl
   have hy := hY ((List.finRange m).take j) ⟨j, hlt⟩ _ hJ2 (by rw [Us, WY]; omega);refine aI (aa (sr ?_));refine iH ?_;refine bT aK.out rfl (c2') TY ?_;refine mI (mI (mI ?_));refine bj (mI (mI ?_));refine bj ?_;refine aQ rfl rfl TY (OJ bk.out aK.size (DA rfl) rfl rfl rfl (l := j * K) (h := j * K + K) (q := j * K + K) rfl TX TX TX TX TX TX) ?_;have e28 : j * K + K - j * K = K := TX;rw [e28];refine Jl rfl (aw (DA rfl) aZ) hy TY ?_;rintro e_ w29 (⟨rfl, hJ3, hk⟩ | ⟨rfl, hJx⟩)
   ·refine ⟨_, rfl, ?_⟩;have c2'' := hk.1.trans c2';have c3'' := hk.2.trans c3';refine fm ?_;refine sZ ?_;refine bT aK.out rfl (c3'') TY ?_;refine bj (aI (aA (ai ?_)));refine ⟨⟨j + 1, hlt, ?_, by rw [ay hfr]; exact hJ3, c2'', c3''⟩, ?_, ?_⟩
    ·show Value.int _ (((j * K : Nat) : Int) + (K : Int)) = _;rw [h6]
     rfl
    ·show n + 1 - (((j * K : Nat) : Int) + (K : Int)).toNat < n + 1 - ((j * K : Nat) : Int).toNat;omega
    ·exact dQ
   ·refine ⟨_, rfl, ?_⟩;refine fm ?_;refine aa (cT (au (cd (aG (aG (cd ?_))))));refine PQ (by first | exact .inr rfl | exact .inl rfl) rfl ?_;exact ⟨⟨_, rfl⟩, .inr ⟨_, trivial, hJx⟩⟩
  ·obtain rfl : j = m := TX;refine ah (sr (mI ?_));refine bT aK.out rfl (c2) TY ?_;refine aJ ?_;refine bg (aa (cF (a6 (aD (aD (bB ?_))))));refine PQ (by first | exact .inr rfl | exact .inl rfl) rfl ?_;rw [T9 (by rw [WY]; omega)] at hJj;exact ⟨⟨_, rfl⟩, .inl ⟨_, rfl, hJj⟩⟩
def S3 (base : Nat) (E : Int) (D : List Nat) (ys : List Dyadic) : VP := fun v W => ∃ (g : FX) (w1 : World), v = .agg #[.slice g.A g.n g.a, .slice g.B g.m g.b] ∧ Out E D ys g ∧ base ≤ w1.heap.size ∧ Hp w1 [g.vq, g.uT] W
def TD (base : Nat) (E : Int) (D : List Nat) (ys : List Dyadic) : VP := fun v W => ∃ (g : FX) (w1 : World), v = .tuple #[.agg #[.slice g.A g.n g.a, .slice g.B g.m g.b], .int .i64 E] ∧ Out E D ys g ∧ base ≤ w1.heap.size ∧ Hp w1 [g.vq, g.uT] W
instance : aK Tryz.prog 122 1 false 8 [.nilFunc] := {}
theorem Fq {bs : List (Fin m)} {q : Fin m} (h : bs ++ [q] = (List.finRange m).take (bs ++ [q]).length) (hb : bs.length < m) : bs = (List.finRange m).take bs.length ∧ q.val = bs.length := by
 have hl : (bs ++ [q]).length = bs.length + 1 := by simp
 rw [hl] at h;have h1 := U9 (List.take bs.length) h;rw [List.take_left' rfl, List.take_take, U0 TX] at h1;have h2 : (bs ++ [q])[bs.length]? = ((List.finRange m).take (bs.length + 1))[bs.length]? := by rw [← h]
 rw [Vg (T5 _), UW, VG, T2 TX, show (List.finRange m)[bs.length]? = some ⟨bs.length, hb⟩ by rw [Vq (by rw [WY]; exact hb), List.getElem_finRange]; rfl] at h2;exact ⟨h1, U9 Fin.val (UN h2)⟩
theorem GP {Q : Kd} {g : Operand} {p : Tmp} {gf : Nat} {lb : Array Value} (q : Nat) (hq : q < N) (hp : p < N) (hg : ev ρ g = .func (.func gf) #[] lb) (eg : ∀ args w, (callFunc gf args).run P w = .ok (.enter gf args) w)
  {enc : α → Value} {Kp : World → World → Prop} {S : List α → Prop} {Nn : Nat} (hseq : ∀ n, SeqStopsK Fence.wide n P gf lb (fun x => #[enc x]) Kp S (fun _ => True) Nn w)
  (hKt : ∀ {A B C : World}, Kp A B → Kp B C → Kp A C) (hKb : ∀ (W : World) (l : Nat) (o o' : Obj), w.heap.size ≤ l → W.heap[l]? = some o → o.isCells = false → o.isWalk = false → Kp W (W.putObj l o'))
  (I : List α → World → Prop) (hI : OwnFrom w.heap.size I) (h0 : I [] w)
  (hassign : ∀ l x W, WC ⟨some l, [], true⟩ P N assign (cx (fun ρ' W' => ρ' = cI (cI ρ p (enc x)) q (enc x) ∧ W' = W) oP) (cI ρ p (enc x)) W)
  (hbody : ∀ l pre x W, I pre W → pre.length < Nn → WC ⟨some l, [], true⟩ P N body (Nk Kp I pre x W) (cI (cI ρ p (enc x)) q (enc x)) W)
  (hdone : ∀ (D : Nat) (xs : List α) (W : World), w.heap.size ≤ D → S xs → I xs W → W.heap[D]? = some (.deferred (some [])) → Q .normal [D] ρ W) : WD P N (.rangeFunc g #[p] assign body) Q ρ w :=
 HJ hp hg eg hseq hKt hKb I hI h0 (fun x => cI (cI ρ p (enc x)) q (enc x)) (fun x i hi => by rw [bm _ (fun h => absurd hq (by rw [← h]; exact Nat.not_lt.2 hi)), bm _ (fun h => absurd hp (by rw [← h]; exact Nat.not_lt.2 hi))]) hassign hbody hdone
def S4 (n m : Nat) (ds : List Int) (cs : List NR) : VP := fun v W => ∃ A a B b, v = .agg #[.slice A n a, .slice B m b] ∧ n ≤ a ∧ Sl W A n 1 (bJ ds) ∧ Sl W B m 3 (az NR.cells cs)
theorem JJ.KY {H : List HE} {t1 t2 : TypeId} {xs1 xs2 : List Value} {n1 c1 s1 n2 c2 s2 : Nat} {A1 A2 : Option Addr} (hJ : JJ w0 H w W) (hs : Hp w0 H w)
  (o1 : W.ownsRow w.heap.size t1 s1 (.slice A1 n1 c1) n1 xs1) (o2 : W.ownsRow w.heap.size t2 s2 (.slice A2 n2 c2) n2 xs2) (h12 : t1 ≠ t2) : Hp w0 (.row A1 n1 c1 t1 s1 xs1 :: .row A2 n2 c2 t2 s2 xs2 :: H) W := by
 have hL : Hp w [.row A1 n1 c1 t1 s1 xs1, .row A2 n2 c2 t2 s2 xs2] W := by
  refine ⟨hJ.bl, fun x hx => ?_, ?_⟩
  ·rcases Ul.1 hx with rfl | hx
   ·exact o1
   ·obtain rfl := Un.1 hx;exact o2
  ·rw [VR];split
   ·exact Ol
   ·rename_i b1 hb1;refine V2.2 ⟨fun hm => ?_, ?_⟩
    ·obtain ⟨y, hy, hyb⟩ := Vd.1 hm;obtain rfl := Un.1 hy;exact Mq o1 o2 h12 b1 hb1 hyb
    ·exact Ol
 exact hs.join hL
instance : aK Tryz.prog 122 1 false 8 [.nilFunc] := {}
def Se (up : Bool) (s : Dyadic) (ns : List Nat) (a : Nat) (xs : List Dyadic) : List Dyadic := gu ns.reverse (ns.length - 1 - a) (if up then So (ns.getD a 0) s else Sx (ns.getD a 0) s) xs
def mq (fx : FX) (ax : Int) : Int := if fx.e ≠ 0 then fx.e else if ax < 0 ∨ (fx.n : Int) ≤ ax then 1 else 0
def To (e : Int) : Ending := .returned (.tuple #[.agg #[.slice none 0 0, .slice none 0 0], .agg #[.slice none 0 0, .slice none 0 0], .int .i64 e])
def SE (n : Nat) (h : Int) : Bool := decide (h < 0 ∨ (n : Int) ≤ h.tdiv 2)
def Q5 (ns : List Nat) (xs : List Dyadic) (h : Int) : List Dyadic := Se (decide (h % 2 = 1)) (pd (-1)) ns (h / 2).toNat xs
def S7 (ns : List Nat) (xs : List Dyadic) (hs : List Int) : List Dyadic := hs.foldl (Q5 ns) xs
def SP (fx : FX) (hs : List Int) : Int := if fx.e ≠ 0 then fx.e else if hs.any (SE fx.n) = true then 1 else 0
section
variable {P : Program} {N : Nat} {ops : Array Oper} {Q : Kq} {ρ : Rf} {w : World} {rest : List Oper} {d ty : Nat} {pos : String} {af : Array Edge}
theorem SH (a : Int) : IntKind.i64.wrap (BitVec.ofInt IntKind.i64.bits a &&& BitVec.ofInt IntKind.i64.bits 1).toNat = a % 2 := by
 have h1 : (BitVec.ofInt IntKind.i64.bits a &&& BitVec.ofInt IntKind.i64.bits 1).toNat = (a % 2).toNat := by
  show (BitVec.ofInt 64 a &&& BitVec.ofInt 64 1).toNat = _;rw [BitVec.toNat_and, show (BitVec.ofInt 64 1).toNat = 2 ^ 1 - 1 by decide, Nat.and_two_pow_sub_one_eq_mod, BitVec.toNat_ofInt];omega
 rw [h1, j3 TX TX];omega
theorem H8 {t u : Nat} {x y : Operand} {a : Int} (hx : ev ρ x = .int .i64 a) (hy : ev ρ y = .int .i64 1) (hN : d < N) (kk : WL .plain P N ops Q rest (cI ρ d (.int .i64 (a % 2))) w) : WL .plain P N ops Q (⟨some d, .binOp .and t x y u, ty, pos, af, none⟩ :: rest) ρ w :=
 aQ rfl rfl hN (by rw [NI hx hy, SH]) kk
end
def S9 (R : List HE) (g : FX) : Prop := R = [g.vq, g.uT] ∨ g.m = 0 ∧ R = [g.uT]
theorem FQ {fx : FX} {ax : Int} (h : mq fx ax = 0) : fx.e = 0 ∧ 0 ≤ ax ∧ ax < fx.n := by
 unfold mq at h;split at h
 ·rename_i h1; exact absurd h h1
 ·rename_i h1;split at h
  ·cases h
  ·omega
theorem C7 (fx : FX) (ax : Int) (k : Nat) (w : World) (hT : eh w) (hf : fx.at_ w) (hl : fx.l9 k) :
  Calls Tryz.prog 144 #[.agg #[.slice fx.A fx.n fx.a, .slice fx.B fx.m fx.b], .int .i64 ax] w fun r w' => r = .returned (.int .i64 (mq fx ax)) ∧ Below w.heap.size w w' := by
 have hh := Hp.start w;have hck := fun w1 hT1 hb => xM fx k w1 hT1 (hf.ext hb) hl;by_cases h0 : fx.e = 0
 ·by_cases h1 : ax < 0
  ·rw [show mq fx ax = 1 by unfold mq; rw [T3 TX, T2 (.inl h1)]];refine Fe ?_;refine sr ?_;refine cD hh [_,_] ?_;intro b2 w2 hh;refine aI (aa (ah (sr ?_)));refine cG hh 0 [_,_] ?_;refine fJ ?_;intro w7 hh;refine aI (aa (sr (mI ?_)));refine dn (aa (cF (ar (ai (ah (sr (mI ?_)))))));refine bg (mB ?_);refine gS (gS (gS (gS (gS ?_))));refine fL ?_;exact Ki
  ·by_cases h2 : (fx.n : Int) ≤ ax
   ·rw [show mq fx ax = 1 by unfold mq; rw [T3 TX, T2 (.inr h2)]];refine Fe ?_;refine sr ?_;refine cD hh [_,_] ?_;intro b2 w2 hh;refine aI (aa (ah (sr ?_)));refine cG hh 0 [_,_] ?_;refine fJ ?_;intro w7 hh;refine aI (aa (sr (mI ?_)));refine dn (aa (cF (ar (ai (ah (sr (mI ?_)))))));refine bg (mB (gT (mI (gT (bH (gT ?_))))));refine bG hh 0 ?_;refine gT (aJ (gT ?_));refine dW ?_;refine e7 ?_;exact Ki
   ·rw [show mq fx ax = 0 by unfold mq; rw [T3 TX, T3 TX]];refine Fe ?_;refine sr ?_;refine cD hh [_,_] ?_;intro b2 w2 hh;refine aI (aa (ah (sr ?_)));refine cG hh 0 [_,_] ?_;refine fJ ?_;intro w7 hh;refine aI (aa (sr (mI ?_)));refine dn (aa (cF (ar (ai (ah (sr (mI ?_)))))));refine bg (mB (gT (mI (gT (bH (gT ?_))))));refine bG hh 0 ?_;refine gT (aJ (gT ?_));refine dW ?_;refine e7 ?_;refine E2 ?_;refine cZ ?_;exact ⟨rfl, hh.below⟩
 ·rw [show mq fx ax = fx.e by unfold mq; rw [T2 h0]];refine Fe ?_;refine sr ?_;refine cD hh [_,_] ?_;intro b2 w2 hh;refine aI (aa (ah (sr ?_)));refine cG hh 0 [_,_] ?_;refine fJ ?_;intro w7 hh;exact Pr
theorem lC (A : Option Addr) (n c a d : Nat) (ns : List Nat) (w : World) (hS : Sl w A n 1 (bJ (bL ns))) (hcap : n ≤ c) (hn : n ≤ 1000) (hd : ns[a]? = some d) (hlow : ∀ x ∈ ns, x ≤ 127) (hmax : av ns ≤ 4096) :
  Calls Tryz.prog 92 #[.slice A n c, .int .i64 a] w fun r w' => r = .returned (.agg #[.int .i64 ((d : Int) + 1), .int .i64 (av (ns.drop (a + 1)) : Nat)]) ∧ Below w.heap.size w w' := by
 have hh := Hp.start w;have hln : ns.length = n := by have := hS.1; simpa [bJ, bL] using this
 have ha := (Uk.1 hd).1;have hd127 := hlow d (T7 hd);have hgd := cj (ix hd);have hbk := hS.back (l := a + 1) (c := c) TX hcap;have hds : (bJ (bL ns)).drop ((a + 1) * 1) = bJ (bL (ns.drop (a + 1))) := by
  rw [Uo];unfold bJ bL;rw [← Wv, ← Wv]
 rw [hds] at hbk;have hcd : gM 1 (bL (ns.drop (a + 1))) = (av (ns.drop (a + 1)) : Nat) := by
  have h1 := jT (ns.drop (a + 1)) 1 TY TY (fun x hx => hlow x (Xa hx));have h2 : av (ns.drop (a + 1)) ≤ av ns := by
   have h3 : av ns = av (ns.take (a + 1)) * av (ns.drop (a + 1)) := by rw [← dT, UZ]
   rw [h3];exact Nat.le_mul_of_pos_left _ (cS _)
  rw [VX, T2 TX] at h1;exact h1
 have hcnt := fun w1 hS1 => eF (if c = a + 1 then A else A.map (·.add ((a + 1) * 1))) (n - (a + 1)) (c - (a + 1)) (bL (ns.drop (a + 1))) w1 hS1 TX;rw [hcd] at hcnt;obtain ⟨ad, rfl, srd⟩ := hS.at_ TX;refine aj (N := 16) (l := [.slice (some ad) n c, .int .i64 a]) Tryz.func92 rfl rfl (by simp) ?_;refine sr ?_;refine bV hh ?_;intro b4 w4 hh;refine aa (ah ?_);refine aV 10 [[(0, none)], [(1, none)], [(5, some 0), (6, some 1)], [(7, some 2)], [(8, some 3)], [(0, none)], [(1, none)], [(11, some 6)], [(10, some 5), (12, some 7)], [(13, some 8)]] [(9, 14), (8, 13), (7, 12), (6, 11), (5, 10), (4, 9), (3, 8), (2, 7), (1, 6), (0, 5)] hh mixed TZ ?_;refine fT ?_;refine dF ?_;refine l3 (a) ?_;refine rW (fun _ hj => (srd.ext hj.hp.below).xT hgd) ?_;refine rS ?_;refine fT ?_;refine dF ?_;refine rS ?_;refine bu (i := 8) (fun ρ1 w1 hj hR => jl (l := (a + 1)) bk.out aK.size (show ρ1 10 = Value.slice _ _ _ from hR.1) (show ρ1 12 = Value.int _ _ from hR.2.1) TX TX TX) ?_;refine dC (fun _ hj => hcnt _ (hbk.ext hj.hp.below)) ?_;refine aR ?_;intro f W hJ hV;have hb_1 := hJ.bl;obtain ⟨v14, v13, v12, v11, v10, v9, v8, v7, v6, v5, _⟩ := hV;replace hh := hJ.hp;refine Ng ?_;dsimp only [cf];clear hJ
 refine gB [_,_] ?_;exact MG
theorem GN (A : List Nat) (d f i q : Nat) : df A d f i q = df A d f 0 q + i * av A := by
 unfold df;rw [US, US, Nat.mul_zero, UC i];omega
theorem mb (g : FuncId) [al Tryz.prog g] (A B : List Nat) (d L : Nat) (φ : List Dyadic → List Dyadic) (C : Option Addr) (n c k : Nat) (X : List Dyadic) (w : World) (hT : eh w) (hS : Sl w C n 3 (az NR.cells (X.map nR))) (hn : n = av (A ++ d :: B)) (hmax : n ≤ 4096) (hL : L ≤ d + 1) (hd : d ≤ 127) (hx : ∀ x ∈ X, Sz k x)
  (hg : ∀ (Y : List Dyadic) (D : Option Addr) (dc : Nat) (w1 : World), eh w1 → (∀ y ∈ Y, Sz k y) → Sl w1 D (d + 1) 3 (az NR.cells (Y.map nR)) → Calls Tryz.prog g #[.slice D (d + 1) dc] w1 fun r w' => ∃ E ec, r = .returned (.slice E L ec) ∧ Hp w1 [.row E L ec 65 3 (az NR.cells ((φ Y).map nR))] w')
  (hφ : ∀ Y : List Dyadic, Y.length = d + 1 → (φ Y).length = L) :
  Calls Tryz.prog 93 #[.agg #[.int .i64 ((d : Int) + 1), .int .i64 (av A : Nat)], .slice C n c, .func (.func g) #[] #[]] w fun r w' => ∃ E ec, r = .returned (.slice E n ec) ∧ Hp w [.row E n ec 65 3 (az NR.cells ((iP A d L φ X n 0).map nR))] w' := by
 have hh := Hp.start w;have hXl : X.length = n := by have := hS.bq NR.len TY; simpa using this
 have hap := cS A;have hap2 : av A ≤ n := by
  rw [hn, dT];exact Xx _ (cS _)
 have hcl := fun w1 hb => xw C n c (X.map nR) w1 (hS.ext hb) TX;refine aj (N := 67) (l := [.agg #[.int .i64 ((d : Int) + 1), .int .i64 (av A : Nat)], .slice C n c, .func (.func g) #[] #[]]) Tryz.func93 rfl rfl (by simp) ?_;refine sr ?_;refine cD hh [_,_] ?_;intro b3 w3 hh;refine aL (aa (sr (mL ?_)));refine aF (hcl _ hh.below) al.out rfl TY ?_;rintro e_ w14 ⟨A14, c14, rfl, hown_, hb_⟩;refine ⟨_, rfl, ?_⟩;replace hh := hh.aW (x := .row _ _ _ _ _ _) hb_ hown_;rw [show X.map nR = (iP A d L φ X 0 0).map nR by rw [GM]] at hh;clear hcl;refine rb ?_;refine aP [8, 9, 10, 11, 12, 17, 18, 19, 20, 21, 22, 23, 24, 25, 26, 27, 28, 29, 30, 31, 32, 33, 34, 35, 36, 37, 38, 39, 40, 41, 42, 43, 44, 45, 46, 47, 48, 49, 50, 51, 52, 53, 54, 55, 56, 57, 58, 59, 60, 61, 62, 63, 64, 65] 17
  (fun v w' => ∃ F : Nat, F ≤ n ∧ v = .int .i64 F ∧ Hp w [.row A14 n c14 65 3 (az NR.cells ((iP A d L φ X F 0).map nR)), .blk b3 119 [.int .i64 ((d : Int) + 1), .int .i64 (av A : Nat)] (0, 0)] w')
  (fun v _ => n - (intOf v).toNat) ?_ ?_
 ·exact ⟨0, T6 _, rfl, hh⟩
 ·clear hh;rintro ρ' v w' ⟨F, hF, rfl, hh⟩;by_cases hlt : F < n
  ·have hcast : ((F : Int) / ((av A : Nat) : Int)) % ((d : Int) + 1) = ((F / av A % (d + 1) : Nat) : Int) := by norm_cast
   have hq0 : (0 : Int) ≤ (F : Int) / ((av A : Nat) : Int) := Int.ediv_nonneg TX TX;by_cases h0 : F / av A % (d + 1) = 0
   ·obtain ⟨u0, hfF⟩ : ∃ u0, u0 = F % av A := ⟨_, rfl⟩;obtain ⟨q, hqF⟩ : ∃ q, q = F / av A / (d + 1) := ⟨_, rfl⟩;have hf : u0 < av A := by rw [hfF]; exact Uw _ hap
    have hFe : F = df A d u0 0 q := by rw [hfF, hqF, ← h0, xS]
    have hq : q < av B := by
     rw [hqF, VE, Vr (Nat.mul_pos hap TX)];rw [hn, dT, av] at hlt
     calc F < av A * ((d + 1) * av B) := hlt
      _ = av B * (av A * (d + 1)) := by rw [← UX, UC]
    have hpl : ∀ i, i ≤ d → df A d u0 i q < n := fun i hi => by rw [hn]; exact uG hf hi hq
    have hpi : ∀ i, df A d u0 i q = F + i * av A := fun i => by rw [hFe]; exact GN A d u0 i q
    have hxl : (fg A d X u0 q).length = d + 1 := by simp [fg]
    have hxz : ∀ y ∈ fg A d X u0 q, Sz k y := fun y hy => by
     obtain ⟨i, hi, rfl⟩ := Ui.1 hy;exact xp hx _
    obtain ⟨ad, hCA, hr⟩ := hS.at_ TX;rw [hCA] at *;refine sr ?_;refine bg (aa (ah (cT (ar (ai (ah (aq (sr (mI (aI (aa (ah (ah ?_)))))))))))));refine N5 ?_;refine dF ?_;refine ej ?_;refine fY 1 ?_;refine Oq ?_;refine ej ?_;refine fY 1 ?_;refine aR ?_;intro f W hJ hV;have hb_5 := hJ.bl;obtain ⟨v25, v24, v23, v22, v21, v20, _⟩ := hV;replace hh := hJ.hp;refine aY (br (ae v25 (ae v24 (ae v23 (ae v22 (ae v21 (ae v20 aX))))))) ?_;dsimp only [cf];clear hJ;refine rN ?_;refine dn (aa (cF (ar (ai (sr (aL (aa (ah (sr (bH ?_))))))))));refine bG hh 1 ?_;refine mI (aa (aq ?_));replace hh := hh.de 65 3;refine bK [9, 10, 30, 31, 32, 33, 34, 35, 36, 37, 38, 39, 40, 41, 42, 43, 44, 45] 9 30
     (fun a v w' => ∃ (i : Nat) (A' : Option Addr) (c' : Nat), i ≤ d + 1 ∧ v = .int .i64 i ∧ a = .slice A' i c' ∧ Hp w [.row A' i c' 65 3 (az NR.cells (((fg A d X u0 q).take i).map nR)), .row A14 n c14 65 3 (az NR.cells ((iP A d L φ X F 0).map nR)), .blk b3 119 [.int .i64 ((d : Int) + 1), .int .i64 (av A : Nat)] (0, 0)] w')
     (fun _ v _ => d + 1 - (intOf v).toNat) ?_ ?_
    ·exact ⟨0, none, 0, T6 _, rfl, rfl, hh⟩
    ·clear hh;rintro ρ2 a_ v w2 ⟨i, A', c', hi, rfl, rfl, hh⟩;by_cases hil : i < d + 1
     ·obtain ⟨y, hy⟩ := ak (l := fg A d X u0 q) (k := i) TX;have hyx : (X.map nR)[df A d u0 i q]? = some (nR y) := by
       have h1 := hpl i TX;unfold fg at hy;rw [Ue, UY hil] at hy;have h2 : (X[df A d u0 i q]?).getD 0 = y := UN hy;rw [Ue, Aw (show df A d u0 i q < X.length by omega)];show some (nR (jm X _)) = _;unfold jm;rw [h2]
      have hpn := hpl i TX;have hpq := hpi i;obtain ⟨m, hm⟩ : ∃ m, m = i * av A := ⟨_, rfl⟩;have hmi : (i : Int) * ((av A : Nat) : Int) = (m : Int) := by rw [hm]; exact (Vm _ _).symm
      rw [← hm] at hpq;refine sr ?_;refine bg (aa (ah (cT (ar (ai (ah (aq (sr (mI (aI (aa (ao (mL (mL (mI (mI (bH ?_)))))))))))))))));refine bG hh 2 ?_;refine mulC ?_;refine bj ?_;refine da (k := (df A d u0 i q)) bk.out aK.size rfl rfl TX TX TY ?_;refine cw (vs := [_, _, _]) aK.out rfl ((hr.ext hh.below).recAt NR.len hyx) rfl TY ?_;refine rC ?_;intro b43 w43 hh;refine pK ?_;intro A44 c44 w44 hh;simp only [Uh, UH] at hh;replace hh := hh.sub (UM _ _);refine kN ?_;refine bj (mI (aA (ai ?_)));have e1 : az NR.cells (((fg A d X u0 q).take i).map nR) ++ [.bool (nR y).neg, .string (nR y).bz, .int .i64 (nR y).e] = az NR.cells (((fg A d X u0 q).take (i + 1)).map nR) := by rw [ay hy, UU, bY, Ut, UR, j5]; rfl
      rw [e1] at hh;refine ⟨⟨i + 1, A44, c44, TX, rfl, rfl, hh⟩, by show d + 1 - (i + 1) < d + 1 - i; omega, ?_⟩;exact dQ
     ·obtain rfl : i = d + 1 := TX;rw [T9 TX] at hh;refine sr ?_;refine mM ?_;refine iH ?_;refine mL ?_;refine gg (hg (fg A d X u0 q) A' c' _ (hT.hp hh) hxz (hh.aC (i := 0) rfl)) al.out rfl rfl TY ?_;rintro e_ w48 ⟨E, ec, rfl, h4⟩;refine ⟨_, rfl, ?_⟩;replace hh := hh.join h4;clear h4;simp only [Ud, Ub] at hh;replace hh := hh.sub (T4 _ (T8 _ (T4 _ (T4 _ UA))));have hφl := hφ (fg A d X u0 q) hxl;refine aJ (mI (aa (aq ?_)));refine aP [11, 12, 50, 51, 52, 53, 54, 55, 56, 57, 58, 59, 60, 61, 62, 63, 64] 50
       (fun v w' => ∃ j : Nat, j ≤ L ∧ v = .int .i64 j ∧ Hp w [.row E L ec 65 3 (az NR.cells ((φ (fg A d X u0 q)).map nR)), .row A14 n c14 65 3 (az NR.cells ((iP A d L φ X F j).map nR)), .blk b3 119 [.int .i64 ((d : Int) + 1), .int .i64 (av A : Nat)] (0, 0)] w')
       (fun v _ => L - (intOf v).toNat) ?_ ?_
      ·exact ⟨0, T6 _, rfl, hh⟩
      ·clear hh;rintro ρ3 v w3 ⟨j, hj, rfl, hh⟩;by_cases hjl : j < L
       ·obtain ⟨y, hy⟩ := ak (l := φ (fg A d X u0 q)) (k := j) TX;have hyn : ((φ (fg A d X u0 q)).map nR)[j]? = some (nR y) := by rw [Ue, hy]; rfl
        have hpn := hpl j TX;have hpq := hpi j;have hset := Hj (φ := φ) (X := X) (q := q) hf hjl (show j ≤ d by omega);rw [← hFe, show jm (φ (fg A d X u0 q)) j = y by unfold jm; rw [hy]; rfl] at hset;obtain ⟨m, hm⟩ : ∃ m, m = j * av A := ⟨_, rfl⟩;have hmi : (j : Int) * ((av A : Nat) : Int) = (m : Int) := by rw [hm]; exact (Vm _ _).symm
        rw [← hm] at hpq;have hll : ((iP A d L φ X F j).map nR).length = n := by rw [Ug, gF]; exact hXl
        generalize iP A d L φ X F j = S at *;generalize df A d u0 j q = P at *;have hrl := eP NR.len (S.map nR);obtain ⟨gr, rfl⟩ := hh.cB (i := 0) rfl TX;obtain ⟨go, rfl⟩ := hh.cB (i := 1) rfl TX;refine sr ?_;refine ek ?_;refine rj ?_;refine cw (vs := [_, _, _]) aK.out rfl (hh.iz (f := NR.cells) (x := nR y) (l := (φ (fg A d X u0 q)).map nR) (i := 0) rfl NR.len TY hyn) rfl TY ?_;refine bV hh ?_;intro b12 w12 hh;refine aI ?_;refine bW hh 0 [_,_,_] ?_;intro ws hh;replace hh : Hp _ (.blk _ _ [_, _, _] _ :: _) _ := hh;refine aa (ao (mL (mI (mI (bH ?_)))));refine bG hh 3 ?_;refine mulC ?_;refine bj ?_;refine cG hh 0 [_,_,_] ?_;refine cV (k := P) bk.out aK.size rfl rfl TX TX TY ?_;refine bO hh (i := 2) (vs := [_, _, _]) rfl rfl (gO rfl) rfl aK.out rfl TX rfl ?_;intro ws hh;simp only [Uh, UH] at hh;rw [show cq (az NR.cells (S.map nR)) (P * 3) [.bool (nR y).neg, .string (nR y).bz, .int .i64 (nR y).e] = az NR.cells ((S.map nR).set P (nR y)) from je NR.len TX, ← Wo, hset] at hh;refine fM ?_;refine bj (mI (aA (ai ?_)))
        replace hh := hh.sub (T8 _ (T4 _ (T4 _ (T4 _ UA))));refine ⟨⟨j + 1, TX, rfl, hh⟩, by show L - (j + 1) < L - j; omega, ?_⟩;exact dQ
       ·rw [Gz (show L ≤ j by omega)] at hh;refine sr ?_;refine y7 ?_;refine bj (mI (aA (ai ?_)));replace hh := hh.sub (T8 _ (T4 _ (T4 _ UA)));refine ⟨⟨F + 1, TX, rfl, hh⟩, by show n - (F + 1) < n - F; omega, ?_⟩;exact dQ
   ·rw [GI h0] at hh;refine sr ?_;refine bg (aa (ah (cT (ar (ai (ah (aq (sr (mI (aI (aa (ah (ah ?_)))))))))))));refine N5 ?_;refine dF ?_;refine ej ?_;refine fY 1 ?_;refine Oq ?_;refine ej ?_;refine fY 1 ?_;refine aR ?_;intro f W hJ hV;have hb_5 := hJ.bl;obtain ⟨v25, v24, v23, v22, v21, v20, _⟩ := hV;replace hh := hJ.hp;refine aY (br (ae v25 (ae v24 (ae v23 (ae v22 (ae v21 (ae v20 aX))))))) ?_;dsimp only [cf];clear hJ;refine rN ?_;refine dn (aa (cT (a6 (aD (bB (ai (ao ?_)))))));refine bj (mI (aA (ai ?_)));refine ⟨⟨F + 1, TX, rfl, hh⟩, by show n - (F + 1) < n - F; omega, ?_⟩;exact dQ
  ·obtain rfl : F = n := TX;exact R5
variable {ds : List Nat} {l : List TR}
def rO (p : PX) (ds : List Int) : List Int := if ds.length = 0 then q9 p.v p.ts else ds
def OS (p : PX) (ds : List Int) : List Nat := (rO p ds).map Int.toNat
def nK (p : PX) (b : List SR) (ds : List Int) : Int := if pL p b (rO p ds) ≠ 0 then pL p b (rO p ds) else (cQ p (bp b)).1
theorem Lk {ns : List Nat} {i d : Nat} (h : ns[i]? = some d) : ns.reverse = (ns.drop (i + 1)).reverse ++ d :: (ns.take i).reverse := by
 exact Ri
theorem OL (ds : List Nat) : X0 ds (rQ []) = List.replicate (av ds) 0 := uE _
theorem LR {i : Nat} {t : TR} (hl : ∀ t ∈ l, ll ds (cn t.m).reverse) (hr : sC l) (ht : l[i]? = some t) : (X0 ds (rQ (l.take i))).set (il ds (cn t.m).reverse) t.c.d = X0 ds (rQ (l.take (i + 1))) := by
 have hok := hl t (T7 ht);have hp := mR hok;have h0 : (X0 ds (rQ (l.take i)))[il ds (cn t.m).reverse]? = some 0 := by
  unfold X0;rw [m8 _ hp];congr 1;unfold rQ;rw [U5, jt];refine jA fun s hs => T3 fun e => ?_;replace e : il ds (cn s.m).reverse = il ds (cn t.m).reverse := e;have e2 : (cn s.m).reverse = (cn t.m).reverse := by rw [← iC (hl s (Wa hs)), e, iC hok]
  have e3 : s.m = t.m := sY (List.reverse_inj.1 e2);obtain ⟨j, hj⟩ := Vw.1 hs;have hji : j < i := by have := (Uk.1 hj).1; rw [Us] at this; omega
  rw [List.getElem?_take_of_lt hji] at hj;have h1 := (Uk.1 hj);have h2 := (Uk.1 ht);have h3 := List.pairwise_iff_getElem.1 hr j i h1.1 h2.1 hji;rw [h1.2, h2.2, e3, gP] at h3
  cases h3
 have h1 := Fz (v := t.c.d) (show (nu (av ds) ((rQ (l.take i)).map fun (q : List Nat × Dyadic) => (il ds q.1, q.2)))[il ds (cn t.m).reverse]? = some 0 from h0);rw [Wk] at h1;show (nu (av ds) ((rQ (l.take i)).map fun (q : List Nat × Dyadic) => (il ds q.1, q.2))).set _ _ = _;rw [h1, ay ht];unfold X0 rQ;rw [UU, UU]
 rfl
set_option maxRecDepth 10000 in
theorem we (p : PX) (L : Option Addr) (n c : Nat) (b : List SR) (M : Option Addr) (m mc : Nat) (ds : List Int) (k : Nat) (w : World) (hT : eh w) (hp : p.at_ w) (lp : p.l9 k) (hB : Sl w L n 6 (az SR.cells b)) (hb : ∀ s ∈ b, s.fin k) (hn : n ≤ 1000000) (hD : Sl w M m 1 (bJ ds)) (hm : m ≤ 1000000) (hmc : m ≤ mc) (hk : k ≤ 1000)
  (hgr : pL p b (rO p ds) = 0 → fS (k + k + 16394) (cR p.v p.ts) (k + 1) ≤ 440000) :
  Calls Tryz.prog 20 #[.agg #[.int .i64 p.v, .slice p.A p.n p.c], .slice L n c, .slice M m mc] w fun r w' => ∃ g : FX, Out (nK p b ds) (OS p ds) (qz (OS p ds) (cQ p (bp b)).2) g ∧ r = .returned (.tuple #[.agg #[.slice g.A g.n g.a, .slice g.B g.m g.b], .int .i64 (nK p b ds)]) ∧ Hp w [g.vq, g.uT] w' := by
 have hh := Hp.start w;have hbl : b.length = n := hB.bq SR.len TY;have hdl : ds.length = m := by have := hD.1; rw [bX] at this; omega
 have hok : ∀ s ∈ b, s.ok := fun s hs => ⟨(hb s hs).1.ok, (hb s hs).2.ok⟩;have hDd : rO p ds = if m = 0 then q9 p.v p.ts else ds := by unfold rO; rw [hdl]
 have hoN : OS p ds = (rO p ds).map Int.toNat := rfl;have hoE : nK p b ds = if pL p b (rO p ds) ≠ 0 then pL p b (rO p ds) else (cQ p (bp b)).1 := rfl
 rw [hoN, hoE];clear hoN hoE;generalize rO p ds = D at *;refine aj (N := 94) (l := [.agg #[.int .i64 p.v, .slice p.A p.n p.c], .slice L n c, .slice M m mc]) Tryz.func20 rfl rfl (by simp) ?_;refine sr ?_;refine cD hh [_,_] ?_;intro b3 w3 hh;refine bV hh ?_;intro b6 w6 hh;refine aI (aa ?_);refine Ge [2, 18, 19, 20, 21, 22] 2
  (fun v w' => ∃ (M2 : Option Addr) (m2 mc2 : Nat) (R : List HE), v = .slice M2 m2 mc2 ∧ m2 ≤ mc2 ∧ m2 ≤ 1000000 ∧ D.length = m2 ∧ (∀ (H : List HE) (w1 : World), Hp w (H ++ R) w1 → Sl w1 M2 m2 1 (bJ D)) ∧ Hp w (.blk b6 39 [.slice none 0 0, .slice none 0 0] (0, 0) :: .blk b3 24 [.int .i64 p.v, .slice p.A p.n p.c] (0, 0) :: R) w') ?_ ?_
 ·by_cases hm0 : m = 0
  ·subst hm0;rw [T2 rfl] at hDd;have hdg := fun w1 hT1 hb => mA p k w1 hT1 (hp.ext hb) lp;rw [← hDd] at hdg;have hl4 : D.length ≤ 1000000 := by
    rw [hDd];exact Nh
   refine sr (mL (aJ ?_));refine db (aa (cT (ao ?_)));refine cG hh 1 [_,_] ?_;refine aF (hdg _ (hT.hp hh) hh.below) al.out rfl TY ?_;rintro e_ w22 ⟨G, gc, rfl, h4⟩;refine ⟨_, rfl, ?_⟩;have hgc : D.length ≤ gc := h4.e8 (i := 0) rfl;replace hh := hh.join h4;clear h4;simp only [Ud, Ub] at hh;refine aL (aa ?_);replace hh := hh.perm (U3 (l₁ := [_, _]));simp only [Ud, Ub] at hh;replace hh := hh.perm (U3 (l₁ := [_, _]));simp only [Ud, Ub] at hh;refine ⟨⟨G, D.length, gc, _, rfl, hgc, hl4, rfl, fun H w1 h1 => lI (h1.own (.row G D.length gc 3 1 (bJ D)) (VK _ Uc)), hh⟩, ?_⟩;exact KX
  ·rw [T3 hm0] at hDd;refine sr (mL (aJ ?_));refine db (aa (cF (ar (ai ?_))));refine ⟨⟨M, m, mc, [], rfl, hmc, hm, by rw [hDd]; exact hdl, fun H w1 h1 => by rw [hDd]; exact hD.ext h1.below, hh⟩, ?_⟩;exact KX
 ·skip;clear hh hDd hdl hD hm hmc;rintro ρ' v w' ⟨M2, m2, mc2, R, rfl, hmc2, hm2, hDl, hrd, hh⟩;have hfi := fun w1 hT1 hb1 hd => uN p L n c b M2 m2 mc2 D k w1 hT1 (hp.ext hb1) lp (hB.ext hb1) hok hn hd hm2;by_cases hE : pL p b D ≠ 0
  ·rw [T2 hE];generalize pL p b D = E at *;refine ah (sr ?_);refine cG hh 1 [_,_] (mL (mL ?_));refine bD hh (hfi _ (hT.hp hh) hh.below (hrd [_, _] _ hh)) rfl ?_;intro w26 hh;exact Q3
  ·rw [T3 hE];have hE0 : pL p b D = 0 := TX;obtain ⟨hnat, hF⟩ := BC hE0;rw [hE0] at hfi;have hpe := hF.e;have hn0 := hF.pos;have hn12 := hF.kE;have hnl := hF.nl;have hlow := hF.low;have hmost := hF.most;have hgr2 := hgr hE0;obtain ⟨_, o2, o3⟩ := mf hpe;have hwi := fun w1 hT1 hb1 => xD p L n c b k (cR p.v p.ts) w1 hT1 (hp.ext hb1) lp (hB.ext hb1) hb (by rw [hF.v, hbl]) TX TX hk (by rw [hF.yc]; exact hbl) (fun i d hd => ⟨(o3 i d hd).1, (o3 i d hd).2.1⟩) hgr2;have hsp := wy hF lp.ok hb hk hgr2;clear hgr hgr2 o2 o3 hfi;have hfi := fun w1 hT1 hb1 hd => uN p L n c b M2 m2 mc2 D k w1 hT1 (hp.ext hb1) lp (hB.ext hb1) hok hn hd hm2;rw [hE0] at hfi;clear hE hE0;have hcnt : gM 1 D = ((av (D.map Int.toNat) : Nat) : Int) := by
    have h8 := jT (D.map Int.toNat) 1 (T5 _) TY hlow;rw [← hnat, VX, T2 hmost] at h8;exact h8
   have hco := fun w1 hd => eF M2 m2 mc2 D w1 hd hm2;rw [hcnt] at hco;have hcl := fun w1 hd => lG M2 m2 mc2 D w1 hd hm2;have hm2n : m2 = n := by rw [← hDl, ← hbl, ← hnl, Ug]
   generalize hns : D.map Int.toNat = ns at *;generalize (cQ p (bp b)).1 = E at *;generalize (cQ p (bp b)).2 = S at *;have hN0 := cS ns;refine ah (sr ?_);refine cG hh 1 [_,_] (mL (mL ?_));refine bD hh (hfi _ (hT.hp hh) hh.below (hrd [_, _] _ hh)) rfl ?_;intro w26 hh;refine aI (aa (sr (mI ?_)));refine tW ?_;refine cG hh 1 [_,_] (mL ?_);refine aF (hwi _ (hT.hp hh) hh.below) al.out rfl TY ?_;rintro e_ w34 ⟨q, oq, rfl, h4⟩;refine ⟨_, rfl, ?_⟩;replace hh := hh.join h4;clear h4;simp only [Ud, Ub] at hh;replace hh := show Hp w (.row q.A q.n q.c 96 4 (az TR.cells q.ts) :: _) _ from hh;by_cases hE2 : E ≠ 0
   ·refine mT ?_;refine du ?_;refine du ?_;refine bV hh ?_;intro b9 w9 hh;refine bW hh 0 [_,_] ?_;intro ws hh;replace hh : Hp _ (.blk _ _ [_, _] _ :: _) _ := hh;refine aI (aa (ah (sr (mI ?_))));refine dn (aa (cT (sr ?_)));refine gB [_,_] (mI ?_);refine bW hh 2 [_,_] ?_;intro ws hh;replace hh : Hp _ (_ :: _ :: .blk _ _ [_, _] _ :: _) _ := hh;refine aI (aa (au (aG ?_)));refine rJ ?_;exact ⟨FX.nil, Out.err hE2, rfl, (hh.sub (Vh _)).QS⟩
   ·have hE0 : E = 0 := TX;subst hE0;obtain ⟨hso, hsr⟩ := hsp rfl;have et : q.ts = S := oq.t0;rw [et] at hh;clear oq et;generalize q.v = qv at *;generalize q.A = qA at *;generalize q.n = qn at *;generalize q.c = qc at *;have hSl : S.length = qn := (hh.aC (i := 0) rfl).bq TR.len TY;have hSn := hso.len;obtain ⟨_, _, hSm, hSc⟩ := ct hso.e;refine mT ?_;refine du ?_;refine du ?_;refine bV hh ?_;intro b9 w9 hh;refine bW hh 0 [_,_] ?_;intro ws hh;replace hh : Hp _ (.blk _ _ [_, _] _ :: _) _ := hh;refine aI (aa (ah (sr (mI ?_))));refine dn (aa (cF (ar (ai (sr (mL ?_))))));refine aF (hcl _ (hrd [_, _, _, _] _ hh)) al.out rfl TY ?_;rintro e_ w42 ⟨A42, c42, rfl, hown_, hb_⟩;refine ⟨_, rfl, ?_⟩;replace hh := hh.aW (x := .row _ _ _ _ _ _) hb_ hown_;refine mL ?_;refine bD hh (hco _ (hrd [_, _, _, _, _] _ hh)) rfl ?_;intro w44 hh;refine gi (n := (av ns)) hh rfl rfl TX TX bk.out aK.out rfl TX TX TY ?_;intro b45 w45 hh;refine gB [_,_] ?_;refine bV hh ?_;intro b11 w11 hh;refine bW hh 0 [_,_] ?_;intro ws hh;replace hh : Hp _ (.blk _ _ [_, _] _ :: _) _ := hh;refine aa (ah (sr (bH ?_)));refine bG hh 3 ?_;refine aJ (mI (aa (aq ?_)));rw [mU, ← cU ns, ← OL ns.reverse, cU] at hh
    refine aP [13, 14, 15, 16, 50, 51, 52, 53, 54, 55, 56, 57, 58, 59, 60, 61, 62, 63, 64, 65, 66, 67, 68, 69, 70, 71, 72, 73, 74, 75, 76, 77, 78, 79] 50
     (fun v w' => ∃ i : Nat, i ≤ qn ∧ v = .int .i64 i ∧ Hp w (.blk b11 39 [.slice A42 m2 c42, .slice (some ⟨b45, 0, none⟩) (av ns) (av ns)] (0, 0) :: .row (some ⟨b45, 0, none⟩) (av ns) (av ns) 65 3 (az NR.cells ((X0 ns.reverse (rQ (S.take i))).map nR)) :: .row A42 m2 c42 3 1 (bJ D) :: .blk b9 24 [.int .i64 qv, .slice qA qn qc] (0, 0) :: .row qA qn qc 96 4 (az TR.cells S) :: .blk b6 39 [.slice none 0 0, .slice none 0 0] (0, 0) :: .blk b3 24 [.int .i64 p.v, .slice p.A p.n p.c] (0, 0) :: R) w')
     (fun v _ => qn - (intOf v).toNat) ?_ ?_
    ·exact ⟨0, T6 _, rfl, hh⟩
    ·clear hh;rintro ρ2 v w2 ⟨i, hi, rfl, hh⟩;by_cases hlt : i < qn
     ·obtain ⟨x, hx⟩ := ak (l := S) (k := i) TX;have hxm := T7 hx;have hxo := hsr x hxm;have hx2 := hSm x hxm;unfold eK at hx2;rw [Uj, Up] at hx2;have hxs : x.m.size = n := TX;have hxz := hso.sz x hxm;have hxc : x.c = nR x.c.d := hSc.nf x hxm;have hex : iy x.m.data.toList = bL (cn x.m) := by rw [jE hx2.1, kT]
      have hesl : (cn x.m).length = n := by rw [jY]; exact hxs
      have hel : (iy x.m.data.toList).length = n := by rw [hex, k6]; exact hesl
      have hset := LR hsr hSc.rL hx;have hX0l : ((X0 ns.reverse (rQ (S.take i))).map nR).length = av ns := by rw [Ug]; unfold X0; rw [k9, cU]
      have hcell : az TR.cells S = az TR.cells S := rfl;have hokat : ∀ (j d r : Nat), ns[j]? = some d → (cn x.m)[j]? = some r → r ≤ d := fun j d r hd hr => by
       have hj := (Uk.1 hd).1;refine ((jO _ _).1 hxo).2 (n - 1 - j) d r ?_ ?_
       ·rw [VN TX, show ns.length - 1 - (n - 1 - j) = j by omega]; exact hd
       ·rw [VN TX, show (cn x.m).length - 1 - (n - 1 - j) = j by omega]; exact hr
      obtain ⟨gq, rfl⟩ := hh.cB (i := 4) rfl TX;refine sr ?_;refine dO ?_;refine gk ?_;refine cw (vs := [_, _, _, _]) aK.out rfl (hh.iz (f := TR.cells) (x := x) (l := S) (i := 4) rfl TR.len TY hx) rfl TY ?_;refine bV hh ?_;intro b13 w13 hh;refine bW hh 0 [_,_,_,_] ?_;intro ws hh;replace hh : Hp _ (.blk _ _ [_, _, _, _] _ :: _) _ := hh;refine aa (sr (aI (aa (ah (sr (bH ?_))))));refine bG hh 0 ?_;refine aF (gR x.m _ hxz) al.out rfl TY ?_;rintro e_ w56 ⟨A56, c56, rfl, hown_, hb_⟩;refine ⟨_, rfl, ?_⟩;replace hh := hh.aW (x := .row _ _ _ _ _ _) hb_ hown_;rw [hel, hex] at hh;rw [hel];refine aJ (mI (aa (aq ?_)));refine bK [14, 15, 16, 58, 59, 60, 61, 62, 63, 64, 65, 66, 67, 68, 69, 70, 71, 72] 14 58
       (fun a v w' => ∃ (j z : Nat), j ≤ n ∧ v = .int .i64 j ∧ a = .int .i64 z ∧ z = il (ns.take j).reverse ((cn x.m).take j).reverse ∧ z < av (ns.take j) ∧ Hp w (.row A56 n c56 3 1 (bJ (bL (cn x.m))) :: .blk b13 96 [.string x.m, .bool x.c.neg, .string x.c.bz, .int .i64 x.c.e] (0, 0) :: .blk b11 39 [.slice A42 m2 c42, .slice (some ⟨b45, 0, none⟩) (av ns) (av ns)] (0, 0) :: .row (some ⟨b45, 0, none⟩) (av ns) (av ns) 65 3 (az NR.cells ((X0 ns.reverse (rQ (S.take i))).map nR)) :: .row A42 m2 c42 3 1 (bJ D) :: .blk b9 24 [.int .i64 qv, .slice (some ⟨gq, 0, none⟩) qn qc] (0, 0) :: .row (some ⟨gq, 0, none⟩) qn qc 96 4 (az TR.cells S) :: .blk b6 39 [.slice none 0 0, .slice none 0 0] (0, 0) :: .blk b3 24 [.int .i64 p.v, .slice p.A p.n p.c] (0, 0) :: R) w')
       (fun _ v _ => n - (intOf v).toNat) ?_ ?_
      ·exact ⟨0, 0, T6 _, rfl, rfl, rfl, Nat.one_pos, hh⟩
      ·clear hh;rintro ρ3 a_ v w3 ⟨j, z, hj, rfl, rfl, hz, hz2, hh⟩;by_cases hjn : j < n
       ·obtain ⟨d, hd⟩ := ak (l := ns) (k := j) TX;obtain ⟨r, hr⟩ := ak (l := cn x.m) (k := j) TX;have hrd2 := hokat j d r hd hr;have hd7 := hlow d (T7 hd);have hgD : (bJ D)[j]? = some (.int .i64 (d : Int)) := by rw [hnat]; exact cj (ix hd)
        have hgE := cj (ix hr);have hst := IL hd hr;have hcs := Hz hd;rw [cU, cU] at hcs;rw [← hz] at hst;have hct := jg ns (j + 1);have hnew : r + (d + 1) * z < (d + 1) * av (ns.take j) := by
         have : (d + 1) * (z + 1) ≤ (d + 1) * av (ns.take j) := Uz _ hz2;rw [VM] at this;omega
        have hpr : (z : Int) * ((d : Int) + 1) = (((d + 1) * z : Nat) : Int) := by rw [UC, Vm, V0]; rfl
        have hDs := hrd [_, _, _, _, _, _, _, _, _] _ hh;obtain ⟨ad, hMe, hsr2⟩ := hDs.at_ TX;have gy : Value.slice M2 m2 mc2 = .slice (some ad) m2 mc2 := by rw [hMe]
        have hel2 : (bJ (bL (cn x.m))).length = n := by rw [bX, k6]; exact hesl
        obtain ⟨gx, rfl⟩ := hh.cB (i := 0) rfl TX;refine sr ?_;refine ek ?_;refine rj ?_;refine jn ?_;refine aI (aI (aa (ao (mI (mL (mI ?_))))));refine da (k := j) bk.out aK.size gy rfl TX TX TY ?_;refine bT aK.out rfl (hsr2.xT hgD) TY ?_;refine bj ?_;refine mulC (mI ?_);refine bj (aI (aA (bE (ai (ao ?_)))));refine bj (mI (aA (ai ?_)));rw [hpr];refine ⟨⟨j + 1, r + (d + 1) * z, TX, rfl, ?_, hst.symm, TX, hh⟩, by show n - (j + 1) < n - j; omega, ?_⟩
        ·show Value.int IntKind.i64 ((((d + 1) * z : Nat) : Int) + (r : Int)) = _;rw [show (((d + 1) * z : Nat) : Int) + (r : Int) = ((r + (d + 1) * z : Nat) : Int) by omega]
        ·exact dQ
       ·obtain rfl : j = n := TX;rw [T9 TX, T9 TX] at hz;rw [T9 TX] at hz2;rw [← hz] at hset;generalize X0 ns.reverse (rQ (S.take i)) = X at *;have hrl := eP NR.len (X.map nR);refine sr ?_;refine bg (aa (ah (cF (a6 (aD (aD (bB (ai (ao (bH ?_))))))))));refine bG hh 2 ?_;refine mI (bH ?_);refine cG hh 1 [_,_,_] ?_;refine cV (k := z) bk.out aK.size rfl rfl TX TX TY ?_;refine bO hh (i := 3) (vs := [_, _, _]) rfl rfl (gO rfl) rfl aK.out rfl TX rfl ?_;intro ws hh;simp only [Uh, UH] at hh;rw [hxc, show cq (az NR.cells (X.map nR)) (z * 3) [.bool (nR x.c.d).neg, .string (nR x.c.d).bz, .int .i64 (nR x.c.d).e] = az NR.cells ((X.map nR).set z (nR x.c.d)) from je NR.len TX, ← Wo, hset] at hh;refine fM ?_;refine bj (mI (aA (ai ?_)));replace hh := hh.sub (T8 _ (T8 _ (T4 _ (T4 _ (T4 _ (T4 _ (T4 _ (T4 _ (T4 _ (Vi _))))))))));refine ⟨⟨i + 1, TX, rfl, hh⟩, by show qn - (i + 1) < qn - i; omega, ?_⟩;exact dQ
     ·obtain rfl : i = qn := TX;rw [T9 TX, show X0 ns.reverse (rQ S) = oI ns.reverse (rQ S) 0 from rfl] at hh;have hoff := yI hsr;have hXz := B1 (Od (ds := ns.reverse) hso.ok) (fun d hd => hlow d (We.1 hd));have hnr : ns.reverse.length = n := by rw [UJ]; omega
      refine sr ?_;refine bg (aa (ah (cF (a6 (aD (aD (bB (ai (ah (sr (mL (aJ (mI (aa (aq ?_)))))))))))))));replace hh := hh.sub (T4 _ (T4 _ (T4 _ (T8 _ (T8 _ (T4 _ (T4 _ (Vi _))))))));refine aP [17, 82, 83, 84, 85, 86, 87, 88, 89, 90, 91, 92] 82
       (fun v w' => ∃ (j : Nat) (A : Option Addr) (ac : Nat), j ≤ n ∧ v = .int .i64 j ∧ Hp w (.blk b11 39 [.slice A42 m2 c42, .slice A (av ns) ac] (0, 0) :: .row A (av ns) ac 65 3 (az NR.cells ((oI ns.reverse (rQ S) j).map nR)) :: .row A42 m2 c42 3 1 (bJ D) :: .blk b6 39 [.slice none 0 0, .slice none 0 0] (0, 0) :: .blk b3 24 [.int .i64 p.v, .slice p.A p.n p.c] (0, 0) :: R) w')
       (fun v _ => n - (intOf v).toNat) ?_ ?_
      ·exact ⟨0, _, _, T6 _, rfl, hh⟩
      ·clear hh;rintro ρ4 v w4 ⟨j, A, ac, hj, rfl, hh⟩;by_cases hjn : j < n
       ·obtain ⟨d, hd⟩ := ak (l := ns) (k := j) TX;have hd7 := hlow d (T7 hd);have hrm := Lk hd;have hol : (oI ns.reverse (rQ S) j).length = av ns := by rw [AA, cU]
        have hof := fun w1 hs => lC M2 m2 mc2 j d ns w1 (by rw [← hnat]; exact hs) hmc2 TX hd hlow hmost;have hcn : av ns = av ((ns.drop (j + 1)).reverse ++ d :: (ns.take j).reverse) := by rw [← hrm, cU]
        have hli := fun w1 hT1 hS1 => mb 94 (ns.drop (j + 1)).reverse (ns.take j).reverse d (d + 1) (kt d (dX d 1 1)) A (av ns) ac (440000 + S.length + 520 * j) (oI ns.reverse (rQ S) j) w1 hT1 hS1 hcn hmost (T5 _) hd7 (hXz j) (fun Y E ec w2 hT2 hy hs => xU E (d + 1) ec d Y _ w2 hT2 hs rfl hd7 hy TX) (fun Y _ => by simp [kt]);have hM := IP (M := dX d 1 1) (A := (ns.drop (j + 1)).reverse) (B := (ns.take j).reverse) (X := oI ns.reverse (rQ S) j) (hol.trans hcn);have hsu := qb ns.reverse (rQ S) j;have hgd : ns.reverse.getD (ns.reverse.length - 1 - j) 0 = d := by
         rw [U7, VN TX, show ns.length - 1 - (ns.reverse.length - 1 - j) = j by omega, hd]
         rfl
        rw [hgd, show ns.reverse.length - 1 - j = (ns.drop (j + 1)).reverse.length by rw [UJ, UJ, Vn]; omega] at hsu;rw [hol, ← hrm, ← hsu] at hM;rw [hM, cU] at hli;clear hM hsu hgd hcn;refine sr ?_;refine bg (aa (ah (cT (ar (ai (ah (aq (sr (mI (aI (aa ?_)))))))))));refine aV 5 [[(2, none)], [(17, none)], [(85, some 0), (86, some 1)], [(11, none)], [(88, some 3)]] [(4, 89), (3, 88), (2, 87), (1, 86), (0, 85)] hh mixed TZ ?_;refine fT ?_;refine dF ?_;refine dC (fun _ hj => hof _ (hrd [_, _, _, _, _] _ hj.hp)) ?_;refine ej ?_;refine fY 0 ?_;refine aR ?_;intro f W hJ hV;have hb_24 := hJ.bl;obtain ⟨v89, v88, v87, v86, v85, _⟩ := hV;replace hh := hJ.hp;refine aY (br (ae v89 (ae v88 (ae v87 (ae v86 (ae v85 aX)))))) ?_;dsimp only [cf];clear hJ;refine aF (hli _ (hT.hp hh) (hh.aC (i := 1) rfl)) al.out rfl TY ?_;rintro e_ w90 ⟨E, ec, rfl, h4⟩;refine ⟨_, rfl, ?_⟩;replace hh := hh.join h4;clear h4;simp only [Ud, Ub] at hh;refine bH ?_;refine bW hh 1 [_] ?_;intro ws hh;replace hh : Hp _ (_ :: .blk _ _ [_, _] _ :: _) _ := hh;refine fM ?_;refine bj (mI (aA (ai ?_)))
        replace hh := hh.sub (T4 _ (T4 _ (T8 _ (T4 _ (T4 _ (T4 _ (Vi _)))))));replace hh := hh.perm (U3 (l₁ := [_]));simp only [Ud, Ub] at hh;refine ⟨⟨j + 1, E, ec, TX, rfl, hh⟩, by show n - (j + 1) < n - j; omega, ?_⟩;exact dQ
       ·obtain rfl : j = n := TX;rw [hnl, hbl] at hoff;rw [hoff] at hh;refine sr ?_;refine mM ?_;refine cG hh 0 [_,_] ?_;refine bW hh 3 [_,_] ?_;intro ws hh;replace hh : Hp _ (_ :: _ :: _ :: .blk _ _ [_, _] _ :: _) _ := hh;refine aI (aa (au ?_));refine IV ?_;exact ⟨⟨A42, m2, c42, A, av ns, ac, D, (qz ns S).map nR⟩, ⟨hnat, rfl, by show m2 ≤ 100000; omega, by show av ns ≤ 1000000; omega⟩, rfl, hh.sub (.cons _ (.cons_cons _ (.cons_cons _ (Vh _))))⟩
def u6 (a : NR) : Bool := decide ((8 : Int) < a.bz.size ∨ a.e < -60 ∨ 60 < a.e)
theorem Pn {a : NR} (h : u6 a = false) : a.ok ∧ Sz 124 a.d := by
 have h' := of_decide_eq_false h;have h1 : (a.bz.size : Int) ≤ 8 := TX;have h2 : -60 ≤ a.e := TX;have h3 : a.e ≤ 60 := TX;exact ⟨⟨TX, TX, TX⟩, Sz.raw (m := 64) (E := 60) TX h2 h3⟩
def FX.small (f : FX) : Prop := f.l9 124 ∧ f.m ≤ 60 ∧ f.n ≤ 20
abbrev TJ (l : List Int) (A : Option Addr) (a : Nat) (B : Option Addr) (b : Nat) : FX := ⟨A, 1, a, B, l.length, b, [(l.length : Int) - 1], l.map fun z : Int => nR (z : Dyadic)⟩
def wN (ds : List Int) (cs : List NR) : VP := fun v W => ∃ g : FX, v = .agg #[.slice g.A g.n g.a, .slice g.B g.m g.b] ∧ g.ds = ds ∧ g.cs = cs ∧ g.at_ W
theorem wN.ext {ds : List Int} {cs : List NR} (v : Value) (w w' : World) (h : wN ds cs v w) (hb : Below w.heap.size w w') : wN ds cs v w' := let ⟨g, h1, h2, h3, h4⟩ := h; ⟨g, h1, h2, h3, h4.ext hb⟩
variable {K : Value → World → Prop} {ag : Bool} {by' : Nat} {cs zc : List Value} {parts : Array (Nat × Operand)} {ps : List (Nat × Value)} {z : Int}
section
variable {P : Program} {ρ : Rf} {w : World}
theorem P7 {d : Option Nat} {ty : TypeId} {af : Array Edge} {t e : TypeId} {len sz : Nat} (ht : P.underlying t = some (.slice e)) (hte : dq P e = some (sz, ag, by', zc))
  (hp : vT ρ parts.toList = ps) (hzl : zc.length = sz) (hf : kr (fun i => some (i * sz, sz)) (fF len zc) ps = some cs) (h0 : ¬ len * sz = 0) (hsl : len * sz ≤ 16777216) (hl : cs.length = len * sz) (hn : len ≤ 1000000) (hbs : base ≤ w.heap.size)
  (hk : ∀ v w2, u4 base e len sz cs v w2 → Below w.heap.size w w2 → K v w2) : OG P ops ⟨d, .buildSlice t len parts, ty, pos, af, none⟩ ρ w K := by
 obtain ⟨z, hz, hzc⟩ := dz (w := w) hte;have hbl : Below w.heap.size w (w.alloc (.cells cs.toArray e)) := (Below.refl _ _).alloc (T5 _) _;refine fG rfl (w' := w.alloc (.cells cs.toArray e)) (v := .slice (some ⟨w.heap.size, 0, none⟩) len len) ?_ (hk _ _ ⟨_, _, rfl, hl, .inr ⟨w.heap.size, len, cs.toArray, rfl, hbs, heap_alloc_new w _, T5 _, by unfold maxLen; omega, by simpa using hl, by rw [← hl]; simp⟩⟩ hbl);exact OR
end
def eE (z : Int) : NR := nR (z : Dyadic)
def jV (l : List Int) : List SR := l.map fun z => ⟨nR 0, eE z⟩
theorem oG (h : z.natAbs < 256) : (eE z).ok ∧ Sz 24 (eE z).d := by
 have z1 : Sz 24 ((z : Int) : Dyadic) := LO (m := z) (e := 0) h TY TY;exact ⟨z1.ok TY, by unfold eE; rw [bR]; exact z1⟩
theorem lX (l : List Int) (A : Option Addr) (n c : Nat) (w : World) (hS : Sl w A n 1 (bJ l)) (hl : ∀ z ∈ l, z.natAbs < 256) (hn : n ≤ 1000) :
  Calls Tryz.prog 104 #[.slice A n c] w fun r w' => ∃ B c', r = .returned (.slice B n c') ∧ Hp w [.row B n c' 65 3 (az NR.cells (l.map eE))] w' := by
 have hh := Hp.start w;have hln : l.length = n := by have := hS.1; rw [bX] at this; omega
 refine aj (N := 20) (l := [.slice A n c]) Tryz.func104 rfl rfl (by simp) ?_;refine sr (aL (aa (sr (aL (aa (ah (sr (aI (aa (aq ?_))))))))));replace hh := hh.de 65 3;refine bK [3, 4, 5, 6, 7, 8, 9, 10, 11, 12, 13, 14, 15, 16, 17, 18] 3 4
  (fun a v w' => ∃ (i c1 : Nat) (B : Option Addr), i ≤ n ∧ v = .int .i64 i ∧ a = .slice B i c1 ∧ Hp w [.row B i c1 65 3 (az NR.cells ((l.take i).map eE))] w')
  (fun _ v _ => n - (intOf v).toNat) ?_ ?_
 ·exact ⟨0, 0, none, T6 _, rfl, rfl, hh⟩
 ·clear hh;rintro ρ' a_ v w' ⟨i, c1, B, hi, rfl, rfl, hh⟩;by_cases hlt : i < n
  ·obtain ⟨z, hz⟩ := ak (l := l) (k := i) TX;have hgz := cj hz;have hzb := hl z (T7 hz);obtain ⟨ad, rfl, hr⟩ := hS.at_ TX;refine ah (sr (mI (mL (aJ ?_))));refine Ka ?_;refine cu ?_;refine bT aK.out rfl ((hr.ext hh.below).xT hgz) TY ?_;refine bD hh (kX z _ TX TX) rfl ?_;intro w16 hh;refine rC ?_;intro b17 w17 hh;refine pK ?_;intro A18 c18 w18 hh;simp only [Uh, UH] at hh;replace hh := hh.sub (UM _ _);refine vP ?_;refine bj (aI (aA (ai ?_)));refine ⟨⟨i + 1, c18, A18, TX, rfl, rfl, ?_⟩, by show n - (i + 1) < n - i; omega, ?_⟩
   ·rw [ay hz, UU, bY];exact hh
   ·exact dQ
  ·exact Ry
theorem CN (l : List Int) (A : Option Addr) (n c : Nat) (w : World) (hS : Sl w A n 1 (bJ l)) (hl : ∀ z ∈ l, z.natAbs < 256) (hn : n ≤ 1000) :
  Calls Tryz.prog 105 #[.slice A n c] w fun r w' => ∃ B c', r = .returned (.slice B n c') ∧ Hp w [.row B n c' 81 6 (az SR.cells (jV l))] w' := by
 have hh := Hp.start w;have hln : l.length = n := by have := hS.1; rw [bX] at this; omega
 refine aj (N := 21) (l := [.slice A n c]) Tryz.func105 rfl rfl (by simp) ?_;refine sr (aL (aa (sr (aL (aa (ah (sr (aI (aa (aq ?_))))))))));replace hh := hh.de 81 6;refine bK [3, 4, 5, 6, 7, 8, 9, 10, 11, 12, 13, 14, 15, 16, 17, 18, 19] 3 4
  (fun a v w' => ∃ (i c1 : Nat) (B : Option Addr), i ≤ n ∧ v = .int .i64 i ∧ a = .slice B i c1 ∧ Hp w [.row B i c1 81 6 (az SR.cells (jV (l.take i)))] w')
  (fun _ v _ => n - (intOf v).toNat) ?_ ?_
 ·exact ⟨0, 0, none, T6 _, rfl, rfl, hh⟩
 ·clear hh;rintro ρ' a_ v w' ⟨i, c1, B, hi, rfl, rfl, hh⟩;by_cases hlt : i < n
  ·obtain ⟨z, hz⟩ := ak (l := l) (k := i) TX;have hgz := cj hz;have hzb := hl z (T7 hz);obtain ⟨ad, rfl, hr⟩ := hS.at_ TX;have e1 : az SR.cells (jV (l.take (i + 1))) = az SR.cells (jV (l.take i)) ++ [.bool false, .string (ByteArray.mk #[]), .int .i64 0, .bool (nR (z : Dyadic)).neg, .string (nR (z : Dyadic)).bz, .int .i64 (nR (z : Dyadic)).e] := by
    unfold jV;rw [ay hz, UU, bY, Ut, UR, j5, lB]
    rfl
   refine ah (sr (mI (mL (aJ ?_))));refine Ka ?_;refine cu ?_;refine bT aK.out rfl ((hr.ext hh.below).xT hgz) TY ?_;refine bD hh (kX z _ TX TX) rfl ?_;intro w16 hh;refine gB [_,_,_,_,_,_] ?_;refine On ?_;intro b18 w18 hh;refine pK ?_;intro A19 c19 w19 hh;simp only [Uh, UH] at hh;replace hh := hh.sub (UM _ _);refine vP ?_;refine bj (aI (aA (ai ?_)));refine ⟨⟨i + 1, c19, A19, TX, rfl, rfl, ?_⟩, by show n - (i + 1) < n - i; omega, ?_⟩
   ·rw [e1];exact hh
   ·exact dQ
  ·exact Ry
theorem yD (z : Int) (es : List UInt8) (A : Option Addr) (n c : Nat) (w : World) (hS : Sl w A n 1 (nq es)) (hz : z.natAbs < 256) (hn : es.length = n) (hn2 : n ≤ 1000) :
  Calls Tryz.prog 107 #[.int .i64 z, .slice A n c] w fun r w' => ∃ B c', r = .returned (.agg #[.int .i64 n, .slice B 1 c']) ∧ Hp w [.row B 1 c' 96 4 (az TR.cells [⟨str es, eE z⟩])] w' := by
 have hh := Hp.start w;refine aj (N := 14) (l := [.int .i64 z, .slice A n c]) Tryz.func107 rfl rfl (by simp) ?_;refine sr ?_;refine bV hh ?_;intro b4 w4 hh;refine aa (ah ?_);refine aV 8 [[(1, none)], [(5, some 0)], [(1, none)], [(7, some 2)], [(0, none)], [(9, some 4)], [(8, some 3), (10, some 5)], [(11, some 6)]] [(7, 12), (6, 11), (5, 10), (4, 9), (3, 8), (2, 7), (1, 6), (0, 5)] hh mixed TZ ?_;refine fT ?_;refine CS ?_;refine fT ?_;refine aT (i := 3) (Is (.string ⟨(es).toArray⟩)) Is.ext ?_ ?_
 ·intro ρ1 w1 hj hR;exact fG rfl (ko (l := es) bk.out bk.out bk.out (show ρ1 7 = Value.slice _ _ _ from hR.1) (hS.ext hj.hp.below)) ⟨Below.refl _ _, rfl⟩
 refine dF ?_;refine dC (fun _ hj => kX z _ TX TX) ?_;refine dB [_,_,_,_] ?_;refine aT (i := 7) (u4 hh.sz 96 1 4 (az TR.cells [⟨str es, eE z⟩])) (u4.ext) ?_ ?_
 ·intro ρ1 w1 hj hR;exact P7 (sz := 4) bk.out aK.out (show vT ρ1 [(0, .tmp 11)] = [(0, .agg #[.string (str es), .bool (eE z).neg, .string (eE z).bz, .int .i64 (eE z).e])] from aM (show ρ1 11 = _ from hR.1) bU) rfl rfl TY TY rfl TY hj.bl.size fun v w2 h hb => ⟨hb, h⟩
 refine aR ?_;intro f W hJ hV;have hb_1 := hJ.bl;obtain ⟨v12, v11, v10, v9, v8, v7, v6, v5, _⟩ := hV;obtain ⟨A12, c12, e12, o12⟩ : u4 _ _ _ _ _ (f 7) W := v12;replace hh := JJ.HM hh hJ.hp o12;clear o12;refine aY (br (ae e12 (ae v11 (ae v10 (ae v9 (ae v8 (ae v7 (ae v6 (ae v5 aX))))))))) ?_;dsimp only [cf];clear e12 hJ;refine gB [_,_] ?_;refine bW hh 1 [_,_] ?_;intro ws hh;replace hh : Hp _ (_ :: .blk _ _ [_, _] _ :: _) _ := hh;refine aa (au ?_);refine Af ?_;exact ⟨A12, c12, rfl, hh.sub (T4 _ (Vh _))⟩
theorem Gk (p : PX) (L : Option Addr) (n c : Nat) (b : List SR) (M : Option Addr) (m mc : Nat) (ds : List Int) (A : Option Addr) (k ac : Nat) (l : List Int) (w : World) (hT : eh w) (hp : p.at_ w) (lp : p.l9 124) (hB : Sl w L n 6 (az SR.cells b)) (hb : ∀ s ∈ b, s.fin 124) (hn : n ≤ 1000) (hD : Sl w M m 1 (bJ ds)) (hm : m ≤ 1000) (hmc : m ≤ mc)
  (hgr : fS (124 + 124 + 16394) (cR p.v p.ts) (124 + 1) ≤ 440000) (hS : Sl w A k 1 (bJ l)) (hl : ∀ z ∈ l, z.natAbs < 256) (hk : k ≤ 1000) (hE : nK p b ds = 0) (hX : qz (OS p ds) (cQ p (bp b)).2 = l.map fun z : Int => (z : Dyadic)) :
  Calls Tryz.prog 106 #[.agg #[.int .i64 p.v, .slice p.A p.n p.c], .slice L n c, .slice M m mc, .slice A k ac] w fun r w' => r = .returned (.bool true) ∧ Below w.heap.size w w' := by
 have hh := Hp.start w;have hof := fun w1 hT1 hb1 => we p L n c b M m mc ds 124 w1 hT1 (hp.ext hb1) lp (hB.ext hb1) hb TX (hD.ext hb1) TX hmc TY (fun _ => hgr);rw [hE, hX] at hof;have hro := fun w1 hb1 => lX l A k ac w1 (hS.ext hb1) hl hk;have hll : l.length = k := by have := hS.1; rw [bX] at this; omega
 refine aj (N := 27) (l := [.agg #[.int .i64 p.v, .slice p.A p.n p.c], .slice L n c, .slice M m mc, .slice A k ac]) Tryz.func106 rfl rfl (by simp) ?_;refine sr ?_;refine cD hh [_,_] ?_;intro b4 w4 hh;refine aB (aa (sr ?_));refine cG hh 0 [_,_] (mL (mL ?_));refine aF (hof _ (hT.hp hh) hh.below) al.out rfl TY ?_;rintro e_ w15 ⟨g, og, rfl, h4⟩;refine ⟨_, rfl, ?_⟩;replace hh := hh.join h4;clear h4;simp only [Ud, Ub] at hh;have hcs : g.cs = l.map eE := by
  rw [og.cs];show (l.map fun z : Int => (z : Dyadic)).map nR = _;rw [U5]
  rfl
 replace hh := show Hp w (.row g.B g.m g.b 65 3 (az NR.cells g.cs) :: .row g.A g.n g.a 3 1 (bJ g.ds) :: _) _ from hh;rw [hcs] at hh;have hgm : g.m = k := by have := (hh.aC (i := 0) rfl).bq NR.len TY; rw [Ug] at this; omega
 refine mT ?_;refine du ?_;refine du ?_;refine bV hh ?_;intro b9 w9 hh;refine bW hh 0 [_,_] ?_;intro ws hh;replace hh : Hp _ (.blk _ _ [_, _] _ :: _) _ := hh;refine aI (aa (ah ?_));refine aV 7 [[(10, none)], [(18, some 0)], [(19, some 1)], [(9, none), (20, some 2)], [(21, some 3), (20, some 2)], [(3, none), (20, some 2)], [(23, some 5), (20, some 2)]] [(6, 24), (5, 23), (4, 22), (3, 21), (2, 20), (1, 19), (0, 18)] hh mixed TZ ?_;refine dF ?_;refine x9 ?_;refine oC ?_;refine dG (ej ?_);refine dG (fY 0 ?_);refine dG (fT ?_);refine aT (i := 6) (Rows k 3 (az NR.cells (l.map eE))) (Rows.ext) ?_ ?_
 ·intro ρ1 w1 hj hR;exact a9 rfl (show ρ1 20 = Value.bool _ from hR.2.1) (bf rfl (aO al.out (aw (show ρ1 23 = Value.slice _ _ _ from hR.1) aZ)) (hro w1 hj.hp.below) (fun _ _ ⟨B, c', hq, h3⟩ => ⟨_, hq, h3.below, B, c', rfl, h3.aC (i := 0) rfl⟩))
 refine aR ?_;intro f W hJ hV;have hb_2 := hJ.bl;obtain ⟨v24, v23, v22, v21, v20, v19, v18, _⟩ := hV;obtain ⟨A24, c24, e24, f24⟩ : Rows _ _ _ (f 6) W := v24;replace hh := hJ.hp;refine aY (br (ae e24 (ae v23 (ae v22 (ae v21 (ae v20 (ae v19 (ae v18 aX)))))))) ?_;dsimp only [cf];clear e24 hJ;have hsg := hh.aC (i := 1) rfl;rw [hgm];rw [hgm] at hsg;refine aH rfl rfl ?_;refine bD hh (ki g.B k g.b (l.map eE) A24 c24 _ hsg f24 TX) rfl ?_;intro w25 hh;refine fL ?_;exact vc
theorem wA (j : Nat) : j % 2 = 0 ∧ (-1 : Dyadic) ^ j = 1 ∨ j % 2 = 1 ∧ (-1 : Dyadic) ^ j = -1 := by
 induction j with
 | zero => exact .inl ⟨rfl, by grind⟩
 | succ n ih =>
  rcases ih with ⟨h, e⟩ | ⟨h, e⟩
  ·exact .inr ⟨TX, by grind⟩
  ·exact .inl ⟨TX, by grind⟩
theorem Bs {ns : List Nat} {i d : Nat} (h : ns[i]? = some d) : ns.reverse = (ns.drop (i + 1)).reverse ++ d :: (ns.take i).reverse := by
 exact Ri
theorem tJ (L : Option Addr) (n c d : Nat) (xs : List Dyadic) (k : Nat) (w : World) (hT : eh w) (hS : Sl w L n 3 (az NR.cells (xs.map nR))) (hn : n = d + 1) (hd : d ≤ 127) (hx : ∀ x ∈ xs, Sz k x) (hk : k ≤ 500000) :
  Calls Tryz.prog 116 #[.slice L n c] w fun r w' => ∃ A c', r = .returned (.slice A n c') ∧ Hp w [.row A n c' 65 3 (az NR.cells ((kt d (dX d 1 (-1)) xs).map nR))] w' := by
 have hh := Hp.start w;have hln : xs.length = n := by have := hS.bq NR.len TY; simpa using this
 have ha : Sz 1 1 := Sz.one;obtain ⟨ad, rfl, hr⟩ := hS.at_ TX;refine aj (N := 57) (l := [.slice (some ad) n c]) Tryz.func116 rfl rfl (by simp) ?_;refine sr (aL (aa (sr (mL (aJ ?_)))));refine dY (aI (aa (sr (mI ?_))));refine bj ?_;refine Il ?_;intro b14 w14 hh;refine rb ?_;rw [mU, hn, ← tG d 1 (-1) xs, ← hn] at hh;refine aP [5, 6, 7, 8, 17, 18, 19, 20, 21, 22, 23, 24, 25, 26, 27, 28, 29, 30, 31, 32, 33, 34, 35, 36, 37, 38, 39, 40, 41, 42, 43, 44, 45, 46, 47, 48, 49, 50, 51, 52, 53, 54, 55] 17
  (fun v w' => ∃ i : Nat, i ≤ n ∧ v = .int .i64 i ∧ Hp w [.row (some ⟨b14, 0, none⟩) n n 65 3 (az NR.cells ((iE d 1 (-1) xs i 0).map nR))] w')
  (fun v _ => n - (intOf v).toNat) ?_ ?_
 ·exact ⟨0, T6 _, rfl, hh⟩
 ·clear hh;rintro ρ' v w' ⟨i, hi, rfl, hh⟩;by_cases hlt : i < n
  ·obtain ⟨x, hxi⟩ := ak (l := xs) (k := i) TX;have hxn : (xs.map nR)[i]? = some (nR x) := by rw [Ue, hxi]; rfl
   have hat : jm xs i = x := by unfold jm; rw [hxi]; rfl
   have zx := hx x (T7 hxi);have hch := fun w1 hT1 => kG (d - i) w1 hT1 TX;refine sr ?_;refine ek ?_;refine cu ?_;refine Hk ?_;refine bV hh ?_;intro b6 w6 hh;refine aI ?_;refine bW hh 0 [_,_,_] ?_;intro ws hh;replace hh : Hp _ (.blk _ _ [_, _, _] _ :: _) _ := hh;refine aa (sr (mI (mI ?_)));refine dY ?_;have e24 : (n : Int) - 1 - (i : Int) = ((d - i : Nat) : Int) := TX;rw [← e24] at hch;refine aF (hch _ (hT.hp hh)) al.out rfl TY ?_;rintro e_ w25 ⟨A25, c25, rfl, hown_, hb_⟩;refine ⟨_, rfl, ?_⟩;replace hh := hh.aW (x := .row _ _ _ _ _ _) hb_ hown_;refine aJ (mI (aa (aq ?_)));replace hh := hh.sub (T4 _ (T4 _ (T4 _ UA)));refine aP [7, 8, 27, 28, 29, 30, 31, 32, 33, 34, 35, 36, 37, 38, 39, 40, 41, 42, 43, 44, 45, 46, 47, 48, 49, 50, 51, 52, 53, 54] 27
    (fun v w' => ∃ j : Nat, j ≤ d - i + 1 ∧ v = .int .i64 j ∧ Hp w [.row A25 (d - i + 1) c25 65 3 (az NR.cells (lf (d - i))), .blk b6 65 [.bool (nR x).neg, .string (nR x).bz, .int .i64 (nR x).e] (0, 0), .row (some ⟨b14, 0, none⟩) n n 65 3 (az NR.cells ((iE d 1 (-1) xs i j).map nR))] w')
    (fun v _ => d - i + 1 - (intOf v).toNat) ?_ ?_
   ·exact ⟨0, T6 _, rfl, hh⟩
   ·clear hh;rintro ρ2 v w2 ⟨j, hj, rfl, hh⟩;by_cases hjn : j < d - i + 1
    ·have hbn : (lf (d - i))[j]? = some (nR (nD (bin (d - i) j))) := kj TX;have zb := qC (d - i) j TX;obtain ⟨o, ho⟩ := ak (l := iE d 1 (-1) xs i j) (k := i + j) (by rw [jQ]; omega);have hon : ((iE d 1 (-1) xs i j).map nR)[i + j]? = some (nR o) := by rw [Ue, ho]; rfl
     have zo := Dj (j := j) hx ha (show Sz 1 (-1 : Dyadic) from Sz.one.neg) hd (show i ≤ d + 1 by omega) o (T7 ho);have zy := zx.mul zb;have hset := zX (a := 1) (b := -1) (xs := xs) (show i + j ≤ d by omega) ho;have hval : jm xs i * dX d 1 (-1) i (i + j) = x * (nD (bin (d - i) j) * (-1 : Dyadic) ^ j) := by
      unfold dX;rw [hat, T3 TX, show i + j - i = j by omega, ij];generalize nD (bin (d - i) j) = u;generalize (-1 : Dyadic) ^ j = e;grind
     rw [hval] at hset;have zu : Sz (130 + 1) (nD (bin (d - i) j) * (-1 : Dyadic) ^ j) := by
      rcases wA j with e | e
      ·rw [e.2, Dyadic.mul_one]; exact zb.mono TX
      ·rw [e.2, show nD (bin (d - i) j) * (-1 : Dyadic) = - nD (bin (d - i) j) by grind]; exact zb.neg.mono TX
     have zbo : (nR (nD (bin (d - i) j))).ok := zb.ok TX;have hng := fun w1 hT1 => nN (nR (nD (bin (d - i) j))) w1 hT1 (by have := zbo.1; omega) (by have := zbo.2.1; omega) (by have := zbo.2.2; omega);rw [bR] at hng;have hsg := wA j;have hll : ((iE d 1 (-1) xs i j).map nR).length = n := by rw [Ug, jQ]; omega
     generalize iE d 1 (-1) xs i j = S at *;obtain ⟨gw, rfl⟩ := hh.cB (i := 0) rfl TX;refine sr ?_;refine ek ?_;refine rj ?_;refine N8 ?_
     rcases hsg with ⟨h2, he⟩ | ⟨h2, he⟩
     ·refine bV hh ?_;intro b8 w8 hh;refine aI ?_;refine bW hh 0 [_,_,_] ?_;intro ws hh;replace hh : Hp _ (.blk _ _ [_, _, _] _ :: _) _ := hh;refine aa (ah (sr (mI ?_)));refine H8 rfl rfl TY ?_;refine db (aa (cF (ar (ai ?_))));rw [he, Dyadic.mul_one] at hset zu;generalize nD (bin (d - i) j) = u at *;exact Na
     ·refine bV hh ?_;intro b8 w8 hh;refine aI ?_;refine bW hh 0 [_,_,_] ?_;intro ws hh;replace hh : Hp _ (.blk _ _ [_, _, _] _ :: _) _ := hh;refine aa (ah (sr (mI ?_)));refine H8 rfl rfl TY ?_;refine db (aa (cT (ao ?_)));refine cG hh 0 [_,_,_] ?_;refine bD hh (hng _ (hT.hp hh)) rfl ?_;intro w36 hh;rw [he, show nD (bin (d - i) j) * (-1 : Dyadic) = - nD (bin (d - i) j) by grind] at hset zu;refine bW hh 0 [_,_,_] ?_;intro ws hh;replace hh : Hp _ (.blk _ _ [_, _, _] _ :: _) _ := hh;refine aa ?_;generalize - nD (bin (d - i) j) = u at *;exact Na
    ·exact Nc
  ·obtain rfl : i = n := TX;rw [show iE d 1 (-1) xs i 0 = kt d (dX d 1 (-1)) xs by rw [hn, xd]] at hh;exact P9
variable {xs : List Dyadic}
theorem SY (z : Int) (h : z.natAbs < 256) : Sz 24 (z : Dyadic) := LO (e := 0) h TY TY
def Mp (d : Nat) (xs : List Dyadic) (i : Nat) : Dyadic := jm xs (i + 1) * (((i : Int) + 1 : Int) : Dyadic) - jm xs i * (((d : Int) - (i : Int) : Int) : Dyadic)
def oU (d : Nat) (xs : List Dyadic) : List Dyadic := (List.range d).map (Mp d xs)
theorem AH (d : Nat) (xs : List Dyadic) : (oU d xs).length = d := by simp [oU]
theorem Mf {d i : Nat} (h : i < d) : (oU d xs)[i]? = some (Mp d xs i) := by
 unfold oU;rw [Ue, UY h]
 rfl
theorem zz (L : Option Addr) (n c d : Nat) (xs : List Dyadic) (k : Nat) (w : World) (hT : eh w) (hS : Sl w L n 3 (az NR.cells (xs.map nR))) (hn : n = d + 1) (hd : d ≤ 127) (hx : ∀ x ∈ xs, Sz k x) (hk : k ≤ 500000) :
  Calls Tryz.prog 145 #[.slice L n c] w fun r w' => ∃ A c', r = .returned (.slice A d c') ∧ Hp w [.row A d c' 65 3 (az NR.cells ((oU d xs).map nR))] w' := by
 have hh := Hp.start w;have hln : xs.length = n := by have := hS.bq NR.len TY; simpa using this
 obtain ⟨ad, rfl, hr⟩ := hS.at_ TX;have hsl := AH d xs;refine aj (N := 41) (l := [.slice (some ad) n c]) Tryz.func145 rfl rfl (by simp) ?_;refine sr (aL (aa (sr (mL (aJ ?_)))));refine dY (aI (aa (sr (aL (aa (ah (sr (mI (mI (aa (aq ?_)))))))))));replace hh := hh.de 65 3;refine bK [4, 5, 6, 11, 12, 13, 14, 15, 16, 17, 18, 19, 20, 21, 22, 23, 24, 25, 26, 27, 28, 29, 30, 31, 32, 33, 34, 35, 36, 37, 38, 39] 4 11
  (fun a v w' => ∃ (i : Nat) (A : Option Addr) (ac : Nat), i ≤ d ∧ v = .int .i64 i ∧ a = .slice A i ac ∧ Hp w [.row A i ac 65 3 (az NR.cells (((oU d xs).take i).map nR))] w')
  (fun _ v _ => d - (intOf v).toNat) ?_ ?_
 ·exact ⟨0, none, 0, T6 _, rfl, rfl, hh⟩
 ·clear hh;rintro ρ' a_ v w' ⟨i, A, ac, hi, rfl, rfl, hh⟩;by_cases hlt : i < d
  ·obtain ⟨x, hxi⟩ := ak (l := xs) (k := i) TX;obtain ⟨y, hyi⟩ := ak (l := xs) (k := i + 1) TX;have hxn : (xs.map nR)[i]? = some (nR x) := by rw [Ue, hxi]; rfl
   have hyn : (xs.map nR)[i + 1]? = some (nR y) := by rw [Ue, hyi]; rfl
   have zx := hx x (T7 hxi);have zy := hx y (T7 hyi);have z1 := SY ((i : Int) + 1) TX;have z2 := SY ((d : Int) - (i : Int)) TX;have hv : Mp d xs i = y * (((i : Int) + 1 : Int) : Dyadic) - x * (((d : Int) - (i : Int) : Int) : Dyadic) := by
    unfold Mp jm;rw [hxi, hyi]
    rfl
   have hat := Mf (xs := xs) hlt;rw [hv] at hat;have hof1 := fun w1 hT1 => jI ((i : Int) + 1) w1 hT1 TX TX;have hof2 := fun w1 hT1 => jI ((d : Int) - (i : Int)) w1 hT1 TX TX;generalize (((i : Int) + 1 : Int) : Dyadic) = e1 at *;generalize (((d : Int) - (i : Int) : Int) : Dyadic) = e2 at *;rw [show (d : Int) - (i : Int) = (n : Int) - 1 - (i : Int) by omega] at hof2;have zp := zy.mul z1;have zq := zx.mul z2;have hm1 := fun A cc w1 hT1 hS1 => eI A 2 cc [nR y, nR e1] w1 hT1 hS1 (by simpa using ⟨zy.ok TX, z1.ok TX⟩) 600000 (by simpa [bR] using ⟨zy.mono TX, z1.mono TX⟩) TX TX;rw [show g8 ([nR y, nR e1].map NR.d) = y * e1 by simp only [Ut, UR, bR]; show 1 * y * _ = _; rw [V4]] at hm1;have hm2 := fun A cc w1 hT1 hS1 => eI A 2 cc [nR x, nR e2] w1 hT1 hS1 (by simpa using ⟨zx.ok TX, z2.ok TX⟩) 600000 (by simpa [bR] using ⟨zx.mono TX, z2.mono TX⟩) TX TX;rw [show g8 ([nR x, nR e2].map NR.d) = x * e2 by simp only [Ut, UR, bR]; show 1 * x * _ = _; rw [V4]] at hm2;generalize y * e1 = p at *;generalize x * e2 = q at *
   have hsb := fun w1 hT1 => j6 (nR p) (nR q) w1 hT1 (zp.ok TX) (zq.ok TX) (k + 24) (by rw [bR]; exact zp) (by rw [bR]; exact zq) TX;rw [bR, bR] at hsb;refine sr ?_;refine IA ?_;refine aV 11 [[(0, none)], [(5, none)], [(15, some 1)], [(14, some 0), (16, some 2)], [(17, some 3)], [(5, none)], [(19, some 5)], [(20, some 6)], [(18, some 4), (21, some 7)], [(22, some 8)], []] [(10, 6), (9, 23), (8, 22), (7, 21), (6, 20), (5, 19), (4, 18), (3, 17), (2, 16), (1, 15), (0, 14)] hh mixed TZ ?_;refine fT ?_;refine dF ?_;refine rS ?_;refine bu (i := 3) (fun ρ1 w1 hj hR => dA bk.out aK.size (show ρ1 14 = Value.slice _ _ _ from hR.1) (show ρ1 16 = Value.int _ _ from hR.2.1) TX TX) ?_;refine r9 [_,_,_] (fun _ hj => (hr.ext hj.hp.below).recAt NR.len hyn) ?_;refine dF ?_;refine rS ?_;refine dC (fun _ hj => hof1 _ (hT.hp hj.hp)) ?_;refine tQ [_,_,_,_,_,_] ?_;refine aT (i := 9) (Is (.agg #[.bool (nR p).neg, .string (nR p).bz, .int .i64 (nR p).e])) Is.ext ?_ ?_
   ·intro ρ1 w1 hj hR;obtain ⟨A22, c22, h22, s22⟩ := hR.1;exact bf rfl (aO al.out (aw h22 aZ)) (hm1 A22 c22 _ (hT.hp hj.hp) s22) (fun _ _ hq => ⟨_, hq.1, hq.2, rfl⟩)
   refine aT (i := 10) (dt _ 65 _) dt.ext (fun ρ1 w1 hj hR => jN aK.out hj.bl (fun v w2 h hb => ⟨hb, h⟩)) ?_;refine aR ?_;intro f W hJ hV;have hb_6 := hJ.bl;obtain ⟨v6, v23, v22, v21, v20, v19, v18, v17, v16, v15, v14, _⟩ := hV;obtain ⟨A22, c22, e22, f22⟩ : Rows _ _ _ (f 8) W := v22;obtain ⟨b6, e6, hl6, hc6⟩ : dt _ _ _ (f 10) W := v6;replace hh := hJ.newVar hh hl6 hc6;refine aY (br (ae e6 (ae v23 (ae e22 (ae v21 (ae v20 (ae v19 (ae v18 (ae v17 (ae v16 (ae v15 (ae v14 aX)))))))))))) ?_;dsimp only [cf];clear e22 e6 hJ;refine bW hh 0 [_,_,_] ?_;intro ws hh;replace hh : Hp _ (.blk _ _ [_, _, _] _ :: _) _ := hh;refine aa ?_;refine aV 14 [[(4, none)], [(6, none)], [(0, none)], [(5, none)], [(26, some 2), (27, some 3)], [(28, some 4)], [(3, none)], [(5, none)], [(30, some 6), (31, some 7)], [(32, some 8)], [(29, some 5), (33, some 9)], [(34, some 10)], [(25, some 1), (35, some 11)], [(36, some 12)]] [(13, 37), (12, 36), (11, 35), (10, 34), (9, 33), (8, 32), (7, 31), (6, 30), (5, 29), (4, 28), (3, 27), (2, 26), (1, 25), (0, 24)] hh mixed TZ ?_;refine fT ?_;refine fU 0 [_,_,_] ?_;refine fT ?_;refine dF ?_
   refine bu (i := 4) (fun ρ1 w1 hj hR => dA bk.out aK.size (show ρ1 26 = Value.slice _ _ _ from hR.1) (show ρ1 27 = Value.int _ _ from hR.2.1) TX TX) ?_;refine r9 [_,_,_] (fun _ hj => (hr.ext hj.hp.below).recAt NR.len hxn) ?_;refine dF ?_;refine dF ?_;refine vg ?_;refine dC (fun _ hj => hof2 _ (hT.hp hj.hp)) ?_;refine tQ [_,_,_,_,_,_] ?_;refine aT (i := 11) (Is (.agg #[.bool (nR q).neg, .string (nR q).bz, .int .i64 (nR q).e])) Is.ext ?_ ?_
   ·intro ρ1 w1 hj hR;obtain ⟨A34, c34, h34, s34⟩ := hR.1;exact bf rfl (aO al.out (aw h34 aZ)) (hm2 A34 c34 _ (hT.hp hj.hp) s34) (fun _ _ hq => ⟨_, hq.1, hq.2, rfl⟩)
   refine dC (fun _ hj => hsb _ (hT.hp hj.hp)) ?_;refine tQ [_,_,_] ?_;refine aR ?_;intro f W hJ hV;have hb_7 := hJ.bl;obtain ⟨v37, v36, v35, v34, v33, v32, v31, v30, v29, v28, v27, v26, v25, v24, _⟩ := hV;obtain ⟨A34, c34, e34, f34⟩ : Rows _ _ _ (f 10) W := v34;obtain ⟨A37, c37, e37, f37⟩ : Rows _ _ _ (f 13) W := v37;replace hh := hJ.hp;refine aY (br (ae e37 (ae v36 (ae v35 (ae e34 (ae v33 (ae v32 (ae v31 (ae v30 (ae v29 (ae v28 (ae v27 (ae v26 (ae v25 (ae v24 aX))))))))))))))) ?_;dsimp only [cf];clear e34 e37 hJ;refine cK hh (i := 1) rfl rfl rfl (f37) bk.out aK.out rfl TY (by first | rfl | exact dR _ | exact dp _ | exact bZ _ | exact cv NR.one _) TX TX TY ?_;intro A38 c38 w38 hh;simp only [Uh, UH] at hh;refine kN ?_;refine bj (mI (aA (ai ?_)));have e1 : az NR.cells (((oU d xs).take i).map nR) ++ [.bool (nR (p - q)).neg, .string (nR (p - q)).bz, .int .i64 (nR (p - q)).e] = az NR.cells (((oU d xs).take (i + 1)).map nR) := by rw [ay hat, UU, bY, Ut, UR, j5]; rfl
   rw [e1] at hh;replace hh := hh.sub (T8 _ (Vi _));refine ⟨⟨i + 1, A38, c38, TX, rfl, rfl, hh⟩, by show d - (i + 1) < d - i; omega, ?_⟩;exact dQ
  ·obtain rfl : i = d := TX;rw [T9 TX] at hh;exact P9
variable {cp : Operand} {kc kl : IntKind}
abbrev Cv := Gs
theorem Cv.ext {t : TypeId} {sz : Nat} (v : Value) (w w' : World) (h : Cv base t n sz cs v w) (hb : Below w.heap.size w w') : Cv base t n sz cs v w' := Gs.ext v w w' h hb
section
variable {P : Program} {ρ : Rf} {w : World}
theorem Iz {d : Option Nat} {ty : TypeId} {af : Array Edge} {t e : TypeId} {l : Operand} {L C : Int} {sz : Nat} (hl : ev ρ l = .int kl L) (hc : ev ρ cp = .int kc C) (hL : L = (n : Int)) (hC : C = (n : Int))
  (ht : P.underlying t = some (.slice e)) (hte : dq P e = some (sz, ag, by', zc)) (hzl : zc.length = sz) (hb : by' * n ≤ 281474976710656) (h63 : n ≤ 9223372036854775807) (hbs : base ≤ w.heap.size)
  (hk : ∀ v w2, Gs base e n sz (fF n zc) v w2 → Below w.heap.size w w2 → K v w2) : OG P ops ⟨d, .makeSlice t l cp, ty, pos, af, none⟩ ρ w K := by
 obtain ⟨i, z, dd, hi, hd, hz, hs, hby, hzc, _⟩ := eG hte;subst hL; subst hC;obtain ⟨w', hr, hown, hg⟩ := run_make_full (P := P) w base t e i z sz ht hi hz hs kl kc n (by rw [hby]; exact hb) (by unfold maxLen; omega) hbs;have hzz : (madeCells z.cells (n * sz)).toList = fF n zc := by
  exact PC
 rw [hzz] at hown;exact fG rfl (w' := w') (v := .slice (some ⟨w.heap.size, 0, none⟩) n n) (by simp [execOp, hl, hc, hr]) (hk _ _ ⟨_, _, rfl, hown⟩ ⟨hg.os, hg.tape, hg.output, hg.size, fun j hj => hg.block j hj (by simp)⟩)
end
def ow (q : Nat → Bool) (xs : List Dyadic) (i : Nat) : List Dyadic := ((List.range i).filter q).map fun p => (xs[p]?).getD 0
theorem Fx (q : Nat → Bool) (xs : List Dyadic) (i : Nat) : ow q xs (i + 1) = ow q xs i ++ if q i = true then [(xs[i]?).getD 0] else [] := by
 unfold ow;rw [Wh, W3, UU];congr 1;by_cases h : q i = true
 ·rw [T2 h, Xw h]; rfl
 ·rw [T3 h, Xb h]; rfl
theorem zR (q : Nat → Bool) (xs : List Dyadic) (i : Nat) : (ow q xs i).length ≤ i := by
 unfold ow;rw [Ug];exact Ur (List.length_filter_le _ _) (by rw [V6]; exact T5 _)
def oS (ap d : Nat) (p : Nat) : Bool := decide (p / ap % (d + 1) < d)
def Co (ns : List Nat) (a : Nat) : List Nat := ns.set a (ns.getD a 0 - 1)
def Cb (ns : List Nat) (a : Nat) (xs : List Dyadic) : List Dyadic := if ns.getD a 0 = 0 then List.replicate xs.length 0 else ow (oS (av (ns.drop (a + 1))) (ns.getD a 0)) (iP (ns.drop (a + 1)).reverse (ns.getD a 0) (ns.getD a 0) (oU (ns.getD a 0)) xs xs.length 0) xs.length
set_option maxRecDepth 10000 in
theorem yo (fx : FX) (ax : Int) (k : Nat) (w : World) (hT : eh w) (hf : fx.at_ w) (hl : fx.l9 k) (hcap : fx.n ≤ fx.a) (hk : k ≤ 500000) :
  Calls Tryz.prog 55 #[.agg #[.slice fx.A fx.n fx.a, .slice fx.B fx.m fx.b], .int .i64 ax] w fun r w' => ∃ g : FX, Out (mq fx ax) (Co fx.ns ax.toNat) (Cb fx.ns ax.toNat (fx.cs.map NR.d)) g ∧ r = .returned (.tuple #[.agg #[.slice g.A g.n g.a, .slice g.B g.m g.b], .int .i64 (mq fx ax)]) ∧ Hp w [g.vq, g.uT] w' := by
 have hh := Hp.start w;have hhas := fun w1 hT1 hb => C7 fx ax k w1 hT1 (hf.ext hb) hl;by_cases hE : mq fx ax ≠ 0
 ·refine aj (N := 78) (l := [.agg #[.slice fx.A fx.n fx.a, .slice fx.B fx.m fx.b], .int .i64 ax]) Tryz.func55 rfl rfl (by simp) ?_;refine sr ?_;refine cD hh [_,_] ?_;intro b2 w2 hh;refine bV hh ?_;intro b4 w4 hh;refine aI (aa (ah (sr ?_)));refine cG hh 1 [_,_] (mI ?_);refine bD hh (hhas _ (hT.hp hh) hh.below) rfl ?_;intro w13 hh;exact Q3
 ·have hE : mq fx ax = 0 := TX;obtain ⟨h0, hx0, hx1⟩ := FQ hE;obtain ⟨a, rfl⟩ : ∃ a : Nat, ax = a := ⟨ax.toNat, TX⟩;rw [hE] at hhas ⊢;rw [Vp];obtain ⟨hdeg, hnum, h12, hlow, hcnt, hmax⟩ := FX.fv h0;have hln := hf.ln.1;have hlm := hf.ln.2;have hnl : fx.ns.length = fx.n := by unfold FX.ns; rw [Ug]; exact hln
  obtain ⟨d, hd⟩ := ak (l := fx.ns) (k := a) TX;have hd127 := hlow d (T7 hd);have hgd0 : fx.ns.getD a 0 = d := by rw [U7, hd]; rfl
  have hgd : (bJ fx.ds)[a]? = some (.int .i64 (d : Int)) := by rw [hdeg]; exact cj (ix hd)
  obtain ⟨ad0, hAD, sD⟩ := hf.dg.at_ TX;have gy : Value.slice fx.A fx.n fx.a = .slice (some ad0) fx.n fx.a := by rw [hAD]
  by_cases yH : d = 0
  ·subst yH;have hcl := fun w1 hb => lG fx.A fx.n fx.a fx.ds w1 (hf.dg.ext hb) TX;have hDN : bL (Co fx.ns a) = fx.ds := by
    unfold Co;rw [hgd0, Az hd, hdeg]
   have hDX : Cb fx.ns a (fx.cs.map NR.d) = List.replicate fx.m 0 := by
    unfold Cb;rw [T2 hgd0, Ug, hlm]
   refine aj (N := 78) (l := [.agg #[.slice fx.A fx.n fx.a, .slice fx.B fx.m fx.b], .int .i64 a]) Tryz.func55 rfl rfl (by simp) ?_;refine sr ?_;refine cD hh [_,_] ?_;intro b2 w2 hh;refine bV hh ?_;intro b4 w4 hh;refine aI (aa (ah (sr ?_)));refine cG hh 1 [_,_] (mI ?_);refine bD hh (hhas _ (hT.hp hh) hh.below) rfl ?_;intro w13 hh;refine aI (aa (sr (mI ?_)));refine dn (aa (cF (ar (ai (ah (sr (bH ?_)))))));refine bG hh 1 ?_;refine mI ?_;refine da (k := a) bk.out aK.size gy rfl TX TX TY ?_;refine bT aK.out rfl ((sD.ext hh.below).xT hgd) TY ?_;refine db (aa (cT (ah ?_)));refine aV 7 [[(2, none)], [(24, some 0)], [(25, some 1)], [(2, none)], [(27, some 3)], [(28, some 4)], [(29, some 5)]] [(6, 30), (5, 29), (4, 28), (3, 27), (2, 26), (1, 25), (0, 24)] hh mixed TZ ?_;refine ej ?_;refine fY 1 ?_;refine aT (i := 2) (Cv hh.sz 3 fx.n 1 (bJ fx.ds)) (Cv.ext) ?_ ?_
   ·intro ρ1 w1 hj hR;exact bf rfl (aO al.out (aw (show ρ1 25 = Value.slice _ _ _ from hR.1) aZ)) (hcl w1 hj.hp.below) (fun _ _ ⟨A, c, hq, ho, hb⟩ => ⟨_, hq, hb, A, c, rfl, oa ho hj.bl.size⟩)
   refine ej ?_;refine fY 1 ?_;refine CS ?_;refine aT (i := 6) (Cv hh.sz 65 fx.m 3 (az NR.cells ((List.replicate fx.m (0 : Dyadic)).map nR))) (Cv.ext) ?_ ?_
   ·intro ρ1 w1 hj hR;exact mU fx.m ▸ Iz (n := fx.m) (show ρ1 29 = Value.int _ _ from hR.1) (show ρ1 29 = Value.int _ _ from hR.1) rfl rfl bk.out aK.out rfl TX TX hj.bl.size (fun _ _ h1 h2 => ⟨h2, h1⟩)
   refine aR ?_;intro f W hJ hV;have hb_5 := hJ.bl;obtain ⟨v30, v29, v28, v27, v26, v25, v24, _⟩ := hV;obtain ⟨A26, c26, e26, o26⟩ := v26;obtain ⟨A30, c30, e30, o30⟩ := v30;replace hh := JJ.KY hJ hh o26 o30 TY;clear o26 o30;refine aY (br (ae e30 (ae v29 (ae v28 (ae v27 (ae e26 (ae v25 (ae v24 aX)))))))) ?_;dsimp only [cf];clear e26 e30 hJ;refine gB [_,_] ?_;refine bW hh 2 [_,_] ?_;intro ws hh;replace hh : Hp _ (_ :: _ :: .blk _ _ [_, _] _ :: _) _ := hh;refine aI (aa (au (aG ?_)));replace hh := hh.sub (T4 _ (T4 _ (T4 _ (T8 _ UA))));replace hh := hh.perm (U3 (l₁ := [_]));simp only [Ud, Ub] at hh;refine rJ ?_;exact ⟨⟨A26, fx.n, c26, A30, fx.m, c30, fx.ds, (List.replicate fx.m (0 : Dyadic)).map nR⟩, ⟨hDN.symm, by rw [hDX]; rfl, by show fx.n ≤ 100000; omega, by show fx.m ≤ 1000000; omega⟩, rfl, hh.sub (T4 _ (T4 _ (Vh _)))⟩
  ·have hdg : Sl w fx.A fx.n 1 (bJ (bL fx.ns)) := by rw [← hdeg]; exact hf.dg
   have hof := fun w1 hb => lC fx.A fx.n fx.a a d fx.ns w1 (hdg.ext hb) hcap TX hd hlow hmax;have hcl := fun w1 hb => lG fx.A fx.n fx.a fx.ds w1 (hf.dg.ext hb) TX;have hDN : bL (Co fx.ns a) = fx.ds.set a ((d : Int) - 1) := by
    unfold Co;rw [hgd0]
    conv => rhs; rw [hdeg]
    unfold bL;rw [Wo, show ((d - 1 : Nat) : Int) = (d : Int) - 1 by omega]
   obtain ⟨X, hX⟩ : ∃ X, X = fx.cs.map NR.d := ⟨_, rfl⟩;rw [← hX] at hnum ⊢;have hXl : X.length = fx.m := by rw [hX, Ug]; exact hlm
   have hXz : ∀ x ∈ X, Sz k x := fun x h => by
    rw [hX] at h;obtain ⟨z, hz, rfl⟩ := Ui.1 h;exact (hl.num z hz).2
   have hDX : Cb fx.ns a X = ow (oS (av (fx.ns.drop (a + 1))) d) (iP (fx.ns.drop (a + 1)).reverse d d (oU d) X fx.m 0) fx.m := by
    unfold Cb;rw [hgd0, T3 yH, hXl]
   have hsp : fx.m = av ((fx.ns.drop (a + 1)).reverse ++ d :: (fx.ns.take a).reverse) := by
    rw [← Bs hd, cU];exact hlm.symm.trans hcnt
   have hSX : Sl w fx.B fx.m 3 (az NR.cells (X.map nR)) := by rw [← hnum]; exact hf.nm
   have hli := fun w1 hT1 hb => mb 145 (fx.ns.drop (a + 1)).reverse (fx.ns.take a).reverse d d (oU d) fx.B fx.m fx.b k X w1 hT1 (hSX.ext hb) hsp TX TX hd127 hXz (fun Y E ec w2 hT2 hy hs => zz E (d + 1) ec d Y k w2 hT2 hs rfl hd127 hy hk) (fun Y _ => AH d Y);rw [cU] at hli;have hap := cS (fx.ns.drop (a + 1));have hap2 : av (fx.ns.drop (a + 1)) ≤ 4096 := by
    have h3 : av fx.ns = av (fx.ns.take (a + 1)) * av (fx.ns.drop (a + 1)) := by rw [← dT, UZ]
    have := Nat.le_mul_of_pos_left (av (fx.ns.drop (a + 1))) (cS (fx.ns.take (a + 1)));omega
   rw [hDX];have hYl : (iP (fx.ns.drop (a + 1)).reverse d d (oU d) X fx.m 0).length = fx.m := by rw [gF, hXl]
   generalize iP (fx.ns.drop (a + 1)).reverse d d (oU d) X fx.m 0 = Y at *;generalize av (fx.ns.drop (a + 1)) = ap at *;refine aj (N := 78) (l := [.agg #[.slice fx.A fx.n fx.a, .slice fx.B fx.m fx.b], .int .i64 a]) Tryz.func55 rfl rfl (by simp) ?_;refine sr ?_;refine cD hh [_,_] ?_;intro b2 w2 hh;refine bV hh ?_;intro b4 w4 hh;refine aI (aa (ah (sr ?_)));refine cG hh 1 [_,_] (mI ?_);refine bD hh (hhas _ (hT.hp hh) hh.below) rfl ?_;intro w13 hh;refine aI (aa (sr (mI ?_)));refine dn (aa (cF (ar (ai (ah (sr (bH ?_)))))));refine bG hh 1 ?_;refine mI ?_;refine da (k := a) bk.out aK.size gy rfl TX TX TY ?_;refine bT aK.out rfl ((sD.ext hh.below).xT hgd) TY ?_;refine db (aa (cF (ar (ai (sr (bH ?_))))));refine bG hh 1 ?_;refine mI ?_;refine bD hh (hof _ hh.below) rfl ?_;intro w35 hh;refine bV hh ?_;intro b7 w7 hh;refine bW hh 0 [_,_] ?_;intro ws hh;replace hh : Hp _ (.blk _ _ [_, _] _ :: _) _ := hh;refine aa (sr (bH ?_));refine bG hh 2 ?_;refine aF (hcl _ hh.below) al.out rfl TY ?_;rintro e_ w38 ⟨A38, c38, rfl, hown_, hb_⟩;refine ⟨_, rfl, ?_⟩;replace hh := hh.aW (x := .row _ _ _ _ _ _) hb_ hown_;obtain ⟨gd, rfl⟩ := hh.cB (i := 0) rfl TX;have hil := bX fx.ds
   have hm0 : 0 < fx.m := by have := cS fx.ns; omega
   refine gB [_,_] ?_;refine bV hh ?_;intro b8 w8 hh;refine bW hh 0 [_,_] ?_;intro ws hh;replace hh : Hp _ (.blk _ _ [_, _] _ :: _) _ := hh;refine aa (sr (bH ?_));refine bG hh 0 ?_;refine mI ?_;refine cV (k := a) bk.out aK.size rfl rfl TX TX TY ?_;refine IU ?_;refine dY ?_;refine cV (k := a) bk.out aK.size rfl rfl TX TX TY ?_;refine bO hh (i := 1) (vs := [_]) rfl rfl (cJ rfl) rfl aK.out rfl TX rfl ?_;intro ws hh;simp only [Uh, UH] at hh;rw [rn _ TX] at hh;refine aa (ah (sr ?_));refine cG hh 2 [_,_] (bH ?_);refine bG hh 4 ?_;refine aF (hli _ (hT.hp hh) hh.below) al.out rfl TY ?_;rintro e_ w50 ⟨E, ec, rfl, h4⟩;refine ⟨_, rfl, ?_⟩;replace hh := hh.join h4;clear h4;simp only [Ud, Ub] at hh;obtain ⟨gn, rfl⟩ := hh.cB (i := 0) rfl TX;refine aJ (mI (aa (aq ?_)));replace hh := hh.de 65 3;refine aP [9, 10, 52, 53, 54, 55, 56, 57, 58, 59, 60, 61, 62, 63, 64, 65, 66, 67, 68, 69, 70, 71, 72, 73, 74, 75, 76] 52
    (fun v w' => ∃ (i c1 : Nat) (B : Option Addr), i ≤ fx.m ∧ v = .int .i64 i ∧ Hp w [.row B (ow (oS ap d) Y i).length c1 65 3 (az NR.cells ((ow (oS ap d) Y i).map nR)), .row (some ⟨gn, 0, none⟩) fx.m ec 65 3 (az NR.cells (Y.map nR)), .blk b8 39 [.slice (some ⟨gd, 0, none⟩) fx.n c38, .slice B (ow (oS ap d) Y i).length c1] (0, 0), .row (some ⟨gd, 0, none⟩) fx.n c38 3 1 (bJ (fx.ds.set a ((d : Int) - 1))), .blk b7 119 [.int .i64 ((d : Int) + 1), .int .i64 (ap : Int)] (0, 0), .blk b4 39 [.slice none 0 0, .slice none 0 0] (0, 0), .blk b2 39 [.slice fx.A fx.n fx.a, .slice fx.B fx.m fx.b] (0, 0)] w')
    (fun v _ => fx.m - (intOf v).toNat) ?_ ?_
   ·exact ⟨0, 0, none, T6 _, rfl, hh⟩
   ·clear hh;rintro ρ' v w' ⟨i, c1, B, hi, rfl, hh⟩;by_cases hlt : i < fx.m
    ·obtain ⟨x, hx⟩ := ak (l := Y) (k := i) TX;have hxn : (Y.map nR)[i]? = some (nR x) := by rw [Ue, hx]; rfl
     have hxd : (Y[i]?).getD 0 = x := by rw [hx]; rfl
     have hcast : ((i : Int) / (ap : Int)) % ((d : Int) + 1) = ((i / ap % (d + 1) : Nat) : Int) := by norm_cast
     have hq0 : (0 : Int) ≤ (i : Int) / (ap : Int) := Int.ediv_nonneg TX TX;have hst := Fx (oS ap d) Y i;rw [hxd] at hst;have hfl := zR (oS ap d) Y i;have hrl := eP NR.len (Y.map nR);have hYl2 : (Y.map nR).length = fx.m := by rw [Ug]; exact hYl
     have hQ : oS ap d i = decide (i / ap % (d + 1) < d) := rfl;generalize hF : ow (oS ap d) Y i = F at *;by_cases hdg2 : i / ap % (d + 1) < d
     ·rw [hQ, Um hdg2, T2 rfl] at hst;refine sr ?_;refine ek ?_;refine gk ?_;refine MH ?_;refine bV hh ?_;intro b10 w10 hh;refine aI ?_;refine bW hh 0 [_,_,_] ?_;intro ws hh;replace hh : Hp _ (.blk _ _ [_, _, _] _ :: _) _ := hh;refine aa (ah ?_);refine Nq ?_;refine dF ?_;refine ej ?_;refine fY 5 ?_;refine NW ?_;refine ej ?_;refine fY 5 ?_;refine NC ?_;refine ej ?_;refine fY 7 ?_;refine dF ?_;refine aT (i := 10) (Is (.pointer (some (ad0.add (a * 1))))) (Is.ext) ?_ ?_
      ·exact Qz
      refine rW (fun _ hj => (sD.ext hj.hp.below).xT hgd) ?_;refine aR ?_;intro f W hJ hV;have hb_12 := hJ.bl;obtain ⟨v68, v67, v66, v65, v64, v63, v62, v61, v60, v59, v58, v57, _⟩ := hV;replace hh := hJ.hp;refine N4 ?_;dsimp only [cf];clear hJ;refine bg (aa (cT (ao (bH ?_))));refine bG hh 3 ?_;refine cG hh 0 [_,_,_] ?_;refine rC ?_;intro b73 w73 hh;refine Nf ?_;intro A74 c74 w74 hh;simp only [Uh, UH] at hh;replace hh := hh.sub (UM _ _);refine bH ?_;refine bW hh 3 [_] ?_;intro ws hh;replace hh : Hp _ (_ :: _ :: _ :: .blk _ _ [_, _] _ :: _) _ := hh;refine fM ?_;refine bj (mI (aA (ai ?_)));replace hh := hh.sub (T8 _ (T4 _ (T4 _ (T4 _ (T4 _ (T4 _ (T4 _ (T4 _ UA))))))));refine ⟨⟨i + 1, c74, A74, TX, rfl, ?_⟩, by show fx.m - (i + 1) < fx.m - i; omega, ?_⟩
      ·rw [hst, Ua, UU, bY];exact hh
      ·exact dQ
     ·rw [hQ, UB hdg2, T3 TY, UF] at hst;refine sr ?_;refine ek ?_;refine gk ?_;refine MH ?_;refine bV hh ?_;intro b10 w10 hh;refine aI ?_;refine bW hh 0 [_,_,_] ?_;intro ws hh;replace hh : Hp _ (.blk _ _ [_, _, _] _ :: _) _ := hh;refine aa (ah ?_);refine Nq ?_;refine dF ?_;refine ej ?_;refine fY 5 ?_;refine NW ?_;refine ej ?_;refine fY 5 ?_;refine NC ?_;refine ej ?_;refine fY 7 ?_;refine dF ?_;refine aT (i := 10) (Is (.pointer (some (ad0.add (a * 1))))) (Is.ext) ?_ ?_
      ·exact Qz
      refine rW (fun _ hj => (sD.ext hj.hp.below).xT hgd) ?_;refine aR ?_;intro f W hJ hV;have hb_12 := hJ.bl;obtain ⟨v68, v67, v66, v65, v64, v63, v62, v61, v60, v59, v58, v57, _⟩ := hV;replace hh := hJ.hp;refine N4 ?_;dsimp only [cf];clear hJ;refine bg (aa (cF (ar (bE (ai (ao ?_))))));refine bj (mI (aA (ai ?_)));replace hh := hh.sub (T8 _ (T4 _ (T4 _ (T4 _ (T4 _ (T4 _ (T4 _ (T4 _ UA))))))));refine ⟨⟨i + 1, c1, B, TX, rfl, by rw [hst]; exact hh⟩, by show fx.m - (i + 1) < fx.m - i; omega, ?_⟩;exact dQ
    ·obtain rfl : i = fx.m := TX;refine sr ?_;refine mM ?_;refine cG hh 2 [_,_] ?_;refine bW hh 5 [_,_] ?_;intro ws hh;replace hh : Hp _ (_ :: _ :: _ :: _ :: _ :: .blk _ _ [_, _] _ :: _) _ := hh;refine aI (aa (au ?_));replace hh := hh.sub (T4 _ (T8 _ (T8 _ (T4 _ (T8 _ (T4 _ (T8 _ UA)))))));refine rJ ?_;refine ⟨⟨some ⟨gd, 0, none⟩, fx.n, c38, B, (ow (oS ap d) Y fx.m).length, c1, fx.ds.set a ((d : Int) - 1), (ow (oS ap d) Y fx.m).map nR⟩, ⟨hDN.symm, rfl, by show fx.n ≤ 100000; omega, ?_⟩, rfl, hh.sub (Wl [_, _] _)⟩;have := zR (oS ap d) Y fx.m;show (ow (oS ap d) Y fx.m).length ≤ 1000000;omega
variable {X : List Dyadic}
def uZ (ds : List Nat) (X : List Dyadic) : Nat → List Dyadic
 | 0 => X
 | k + 1 => gu ds (ds.length - 1 - k) (dX (ds.getD (ds.length - 1 - k) 0) 1 (-1)) (uZ ds X k)
theorem uV (ds : List Nat) (X : List Dyadic) (k : Nat) : uZ ds X (k + 1) = gu ds (ds.length - 1 - k) (dX (ds.getD (ds.length - 1 - k) 0) 1 (-1)) (uZ ds X k) := rfl
theorem Mn (h : X.length = av ds) (k : Nat) : (uZ ds X k).length = av ds := by
 cases k with
 | zero => exact h
 | succ k => rw [uV, nU]
theorem FK {a d : Nat} (hx : ∀ x ∈ X, Sz k x) (hd : ds.getD a 0 = d) (hd7 : d ≤ 127) : ∀ x ∈ gu ds a (dX d 1 (-1)) X, Sz (k + 520) x := fun x h => by
 obtain ⟨p, _, rfl⟩ := Ui.1 h;have hr : (cL ds p).getD a 0 ≤ d := by rw [← hd]; exact sH a (nk ds p)
 have h2 := zi (l := List.range (ds.getD a 0 + 1)) (f := fun i => co ds X ((cL ds p).set a i) * dX d 1 (-1) i ((cL ds p).getD a 0)) (k := k + (130 + 2 * (1 * d))) fun i _ => by
  refine Sz.mul ?_ (xK Sz.one (show Sz 1 (-1 : Dyadic) from Sz.one.neg) hd7 hr);exact Rw
 rw [V6, hd] at h2;rw [hd];exact h2.mono TX
theorem CU {ds : List Nat} {X : List Dyadic} {k : Nat} (h : ∀ x ∈ X, Sz k x) (hd : ∀ d ∈ ds, d ≤ 127) : ∀ i, ∀ x ∈ uZ ds X i, Sz (k + 520 * i) x
 | 0 => h
 | i + 1 => fun x hx => (FK (CU h hd i) rfl (yU hd _) x hx).mono TX
def ik (b : List SR) (i : Nat) : Dyadic := match b[i]? with | some s => s.H - s.L | none => 0
def wP (b : List SR) (ns es : List Nat) : Nat → Dyadic
 | 0 => 1
 | i + 1 => wP b ns es i * ik b i ^ (ns.getD i 0 - es.getD i 0)
def gD (ns : List Nat) (p : Nat) : List Nat := (cL ns.reverse p).reverse
def FE (b : List SR) (ns : List Nat) (C : List Dyadic) (p : Nat) : TR := ⟨fX (bL (gD ns p)), nR (jm C p * wP b ns (gD ns p) b.length)⟩
def kH (b : List SR) (ns : List Nat) (C : List Dyadic) : List TR := (List.range (av ns)).map (FE b ns C)
def mj (v i : Nat) (s : SR) : List TR := aE (l5 v i ++ kK v (-s.L))
def gW (b : List SR) : List PX := b.mapIdx fun i s => ⟨b.length, none, 0, 0, mj b.length i s⟩
theorem mu {i : Nat} {s : SR} (h : b[i]? = some s) : (gW b)[i]? = some ⟨b.length, none, 0, 0, mj b.length i s⟩ := by
 unfold gW;rw [Wr, h]
 rfl
theorem qy (b : List SR) : (gW b).length = b.length := by unfold gW; rw [List.length_mapIdx]
theorem tD {v i : Nat} {s : SR} (h : v ≤ 12) (hs : s.fin k) (hk : k ≤ 100000) : iW (v : Int) (k + 10) (mj v i s) ∧ (mj v i s).length ≤ 2 := by
 have h1 := sf (i := i) h;have h2 := si h (SR.KN hs).neg TX;have hl : (l5 v i ++ kK v (-s.L)).length ≤ 2 := by
  rw [Ua];have a1 : (l5 v i).length ≤ 1 := bP _;have a2 : (kK v (-s.L)).length ≤ 1 := bP _;omega
 have hm : ∀ {P : TR → Prop}, (∀ t ∈ l5 v i, P t) → (∀ t ∈ kK v (-s.L), P t) → ∀ t ∈ l5 v i ++ kK v (-s.L), P t := fun a b t ht => (UD.1 ht).elim (a t) (b t);refine ⟨(iQ (k := k + 4) (n := 2) (ee h) (hm (ct h1.e).2.2.1 (ct h2.e).2.2.1) (hm (h1.ok.mono TX) (h2.ok.mono TX)) (hm h1.sz h2.sz) hl TY TX).mono TX, Ur (bP _) hl⟩
theorem L8 {r : List Nat} (h : ∀ d ∈ r, d ≤ 255) : cn (fX (bL r)) = r := by
 unfold cn fX bL;rw [dv, U5, U5];refine (V7 fun d hd => ?_).trans (List.map_id r);have := h d hd;show (xx (d : Int)).toNat = d;obtain ⟨c, hc, e⟩ := QI (l := [d]) (i := 0) rfl this;unfold fX bL at hc;rw [dv] at hc;rw [show xx (d : Int) = c from UN hc];exact e
theorem El {ns : List Nat} (p : Nat) : ll ns.reverse (gD ns p).reverse := by unfold gD; rw [Wn]; exact nk _ _
theorem kY (ns : List Nat) (p : Nat) : (gD ns p).length = ns.length := by
 have := yb (El (ns := ns) p);rwa [UJ, UJ] at this
theorem pJ {ns : List Nat} {p i d r : Nat} (hd : ns[i]? = some d) (hr : (gD ns p)[i]? = some r) : r ≤ d := by
 have h1 := (Uk.1 hd).1;have h2 := kY ns p;refine ((jO _ _).1 (El (ns := ns) p)).2 (ns.length - 1 - i) d r ?_ ?_
 ·rw [VN TX, show ns.length - 1 - (ns.length - 1 - i) = i by omega]; exact hd
 ·rw [VN TX, show (gD ns p).length - 1 - (ns.length - 1 - i) = i by omega]; exact hr
theorem zg {ns : List Nat} {B p : Nat} (h : ∀ d ∈ ns, d ≤ B) : ∀ r ∈ gD ns p, r ≤ B := fun r hr => by
 obtain ⟨i, hi⟩ := Vw.1 hr;have h1 := (Uk.1 hi).1;rw [kY] at h1;obtain ⟨d, hd⟩ := ak (l := ns) (k := i) h1;exact Ur (pJ hd hi) (h d (T7 hd))
theorem pG {ns : List Nat} {p : Nat} (h : ∀ d ∈ ns, d ≤ 127) : cn (fX (bL (gD ns p))) = gD ns p := L8 fun r hr => Ur (zg h r hr) TY
theorem sU (b : List SR) (ns : List Nat) (C : List Dyadic) : (kH b ns C).length = av ns := by simp [kH]
theorem Li {ns : List Nat} {C : List Dyadic} {p : Nat} (h : p < av ns) : (kH b ns C)[p]? = some (FE b ns C p) := by
 unfold kH;rw [Ue, UY h]
 rfl
theorem Dk {b : List SR} {ns es : List Nat} {k : Nat} (hb : ∀ s ∈ b, s.fin k) : ∀ i, i ≤ ns.length → Sz (1 + i + (k + 1) * (ns.take i).sum) (wP b ns es i)
 | 0, _ => Sz.one.mono TX
 | i + 1, hi => by
  have h1 := Dk (es := es) (ns := ns) hb i TX;obtain ⟨d, hd⟩ := ak (l := ns) (k := i) hi;have hg : ns.getD i 0 = d := by rw [U7, hd]; rfl
  have hw : Sz (k + 1) (ik b i) := by
   unfold ik
   cases h : b[i]? with
   | none => exact Sz.zero _
   | some s => exact ((SR.Qj (hb s (T7 h))).sub (SR.KN (hb s (T7 h)))).mono TX
  have h2 := hw.zU (show ns.getD i 0 - es.getD i 0 ≤ d by omega);have h3 := h1.mul h2;rw [ay hd, List.sum_append, List.sum_singleton, US];exact h3.mono TX
theorem Hu {ns : List Nat} {C : List Dyadic} {K : Nat} (hb : ∀ s ∈ b, s.fin k) (hbl : b.length = ns.length) (hC : ∀ x ∈ C, Sz K x) (hlow : ∀ d ∈ ns, d ≤ 127) (hN : ns.length ≤ 100000) (hK : K + (1 + ns.length + (k + 1) * ns.sum) ≤ 2999000) : iI (K + (1 + ns.length + (k + 1) * ns.sum)) (kH b ns C) ∧ (∀ t ∈ kH b ns C, eK (ns.length : Int) t = true) ∧ (∀ t ∈ kH b ns C, t.m.size ≤ 100000 ∧ ∃ p, cn t.m = gD ns p) := by
 refine ⟨fun t ht => ?_, fun t ht => ?_, fun t ht => ?_⟩
 ·obtain ⟨p, hp, rfl⟩ := Ui.1 ht;have h1 := Dk (ns := ns) (es := gD ns p) hb ns.length (T5 _);rw [WN] at h1;have h2 := (xp hC p).mul h1;show (nR (jm C p * wP b ns (gD ns p) b.length)).ok ∧ Sz _ (nR (jm C p * wP b ns (gD ns p) b.length)).d;rw [hbl, bR];exact ⟨h2.ok TX, h2⟩
 ·obtain ⟨p, hp, rfl⟩ := Ui.1 ht;have h1 := pG (p := p) hlow;have h2 : (fX (bL (gD ns p))).size = ns.length := by rw [← jY, h1, kY]
  unfold eK;rw [Uj, Up];refine ⟨?_, by show ((fX (bL (gD ns p))).size : Int) = _; rw [h2]⟩;unfold eM;rw [Ux];intro c hc;have : c.toNat ∈ cn (fX (bL (gD ns p))) := Ui.2 ⟨c, hc, rfl⟩;rw [h1] at this;exact Um (by have := zg hlow c.toNat this; omega)
 ·obtain ⟨p, hp, rfl⟩ := Ui.1 ht;have h1 := pG (p := p) hlow;have h2 : (fX (bL (gD ns p))).size = ns.length := by rw [← jY, h1, kY]
  exact ⟨by show (fX (bL (gD ns p))).size ≤ 100000; omega, p, h1⟩
theorem Jp {ns : List Nat} {C : List Dyadic} (h12 : ns.length ≤ 12) (hm : ∀ t ∈ kH b ns C, eK (ns.length : Int) t = true) (hc : av ns ≤ 4096) : p5 (ns.length : Int) (kH b ns C) = 0 := by
 have hl := sU b ns C;unfold p5;rw [T3, T3 TX, gQ TX];rintro (h | h)
 ·rw [ee h12] at h; cases h
 ·obtain ⟨t, ht, h2⟩ := VS.1 h;rw [hm t ht] at h2
  cases h2
theorem GW {os : List PX} {R : List HE} {kb : Nat} (hcp : Bw ((gW b).map fun g => ⟨g.v, none, g.ts.length, 0, g.ts⟩) os R) (hol : os.length = b.length) (h12 : b.length ≤ 12) (hb : ∀ s ∈ b, s.fin kb) (hkb : kb ≤ 1000) : ∀ o ∈ os, o.l9 (kb + 10) ∧ o.ts.length ≤ 2 := fun o ho => by
 obtain ⟨j, hj⟩ := Vw.1 ho;have hjn : j < os.length := (Uk.1 hj).1;obtain ⟨s, hs⟩ := ak (l := b) (k := j) TX;obtain ⟨po, pl⟩ := tD (v := b.length) (i := j) h12 (hb s (T7 hs)) TX;have hx := mu hs;generalize mj b.length j s = Q at hx po pl;obtain ⟨e1, e2, e3⟩ := hcp.eq j ⟨b.length, none, Q.length, 0, Q⟩ o (by rw [Ue, hx]; rfl) hj;replace e2 : o.ts = Q := e2;replace e3 : o.n = Q.length := e3;exact Nr
def ve (b : List SR) (ns : List Nat) (C : List Dyadic) : PX := ⟨(ns.length : Int), none, 0, 0, aE (kH b ns C)⟩
def J1 (fx : FX) : List Dyadic := uZ fx.ns.reverse (fx.cs.map NR.d) fx.ns.length
def u5 (fx : FX) (b : List SR) : Int × List TR := cQ (ve b fx.ns (J1 fx)) (gW b)
def pE (fx : FX) (b : List SR) : Int := if fx.e ≠ 0 then fx.e else if kJ b ≠ 0 then kJ b else if b.length ≠ fx.n then 1 else (u5 fx b).1
def pV (n k kb : Nat) (ns : List Nat) : Nat := k + 520 * n + (1 + n + (kb + 1) * ns.sum)
set_option maxRecDepth 10000 in
theorem rl (fx : FX) (L : Option Addr) (n c : Nat) (b : List SR) (k kb : Nat) (w : World) (hT : eh w) (hf : fx.at_ w) (hl : fx.l9 k) (hcap : fx.n ≤ fx.a) (hB : Sl w L n 6 (az SR.cells b)) (hb : ∀ s ∈ b, s.fin kb) (hn : n ≤ 1000000) (hkb : kb ≤ 1000)
  (hK : fx.e = 0 → fx.n = n → pV n k kb fx.ns ≤ 400000) (hgr : fx.e = 0 → fx.n = n → fS (kb + 16394) fx.ns (pV n k kb fx.ns + 4097) ≤ 440000) :
  Calls Tryz.prog 37 #[.agg #[.slice fx.A fx.n fx.a, .slice fx.B fx.m fx.b], .slice L n c] w fun r w' => ∃ g : PX, eX (pE fx b) n (u5 fx b).2 g ∧ r = .returned (.tuple #[.agg #[.int .i64 g.v, .slice g.A g.n g.c], .int .i64 (pE fx b)]) ∧ Hp w [g.row] w' := by
 have hh := Hp.start w;have hbl : b.length = n := hB.bq SR.len TY;have hok : ∀ s ∈ b, s.ok := fun s hs => ⟨(hb s hs).1.ok, (hb s hs).2.ok⟩;have hck := fun w1 hT1 hb1 => xM fx k w1 hT1 (hf.ext hb1) hl;have hbc := fun w1 hT1 hb1 => pF L n c b w1 hT1 (hB.ext hb1) hok hn;by_cases h0 : fx.e = 0
 ·by_cases h1 : kJ b = 0
  ·by_cases h2 : n = fx.n
   ·have hE : pE fx b = (u5 fx b).1 := by unfold pE; rw [T3 TX, T3 TX, T3 TX]
    have hpos : 0 < n := by
     rw [← hbl];by_cases h : b.length = 0
     ·unfold kJ at h1;rw [T2 h] at h1;split at h1 <;> omega
     ·omega
    obtain ⟨hdeg, hnum, h12, hlow, hcnt, hmax⟩ := FX.fv h0;have hln := hf.ln.1;have hlm := hf.ln.2;have hnl : fx.ns.length = n := by unfold FX.ns; rw [Ug]; omega
    have hdg : Sl w fx.A fx.n 1 (bJ (bL fx.ns)) := by rw [← hdeg]; exact hf.dg
    obtain ⟨X, hX⟩ : ∃ X, X = fx.cs.map NR.d := ⟨_, rfl⟩;have hC : J1 fx = uZ fx.ns.reverse X n := by unfold J1; rw [hX, hnl]
    rw [← hX] at hnum;have hXl : X.length = av fx.ns := by rw [hX, Ug]; exact hcnt
    have hXz : ∀ x ∈ X, Sz k x := fun x h => by
     rw [hX] at h;obtain ⟨z, hz, rfl⟩ := Ui.1 h;exact (hl.num z hz).2
    have hSX : Sl w fx.B fx.m 3 (az NR.cells (X.map nR)) := by rw [← hnum]; exact hf.nm
    have hmc : fx.m = av fx.ns := TX;have hK := hK h0 h2.symm;have hgr := hgr h0 h2.symm;have hR : u5 fx b = cQ (ve b fx.ns (J1 fx)) (gW b) := rfl;rw [hC] at hR;rw [hE];clear hE hC;generalize u5 fx b = R0 at *;subst hR;have hfo := fun w1 hT1 hb1 => rG L n c b w1 hT1 (hB.ext hb1) hok hn;generalize fx.ns = ns at *;generalize fx.ds = ds at *;generalize fx.cs = cs at *;have hdgw : ∀ (H : List HE) (w1 : World), Hp w H w1 → Sl w1 fx.A fx.n 1 (bJ (bL ns)) := fun H w1 h => hdg.ext h.below;have hgX : ∀ j, (uZ ns.reverse X j).length = av ns := fun j => by rw [Mn (by rw [cU]; exact hXl), cU]
    have hgZ := CU (ds := ns.reverse) hXz (fun d hd => hlow d (We.1 hd));rw [h0] at hck;rw [h1] at hbc;refine Ec ?_;refine sr ?_;refine cD hh [_,_] ?_;intro b2 w2 hh;refine bV hh ?_;intro b4 w4 hh;refine aI (aa (ah (sr ?_)));refine cG hh 1 [_,_] ?_;refine fJ ?_;intro w28 hh;refine aI (aa (sr (mI ?_)));refine uz ?_;refine bD hh (hbc _ (hT.hp hh) hh.below) rfl ?_;intro w34 hh;refine aI (aa (sr (mI ?_)));refine rz ?_;refine bG hh 1 ?_;refine aJ ?_;refine dn (aa (cF (ar (ai (sr (bH ?_))))));refine bG hh 1 ?_;refine aL (aa (ah (sr (bH ?_))));refine bG hh 1 ?_;refine aJ (mI (aa (aq ?_)));refine bK [8, 9, 51, 52, 53, 54, 55, 56, 57, 58, 59, 60] 8 51
     (fun q v w' => ∃ (j : Nat) (A : Option Addr) (ac : Nat) (R : List HE), j ≤ n ∧ v = .int .i64 j ∧ q = .slice A fx.m ac ∧ (∀ (H : List HE) (w1 : World), Hp w (H ++ R) w1 → Sl w1 A fx.m 3 (az NR.cells ((uZ ns.reverse X j).map nR))) ∧ Hp w (.blk b4 24 [.int .i64 0, .slice none 0 0] (0, 0) :: .blk b2 39 [.slice fx.A fx.n fx.a, .slice fx.B fx.m fx.b] (0, 0) :: R) w')
     (fun _ v _ => n - (intOf v).toNat) ?_ ?_
    ·exact ⟨0, fx.B, fx.b, [], T6 _, rfl, rfl, fun H w1 h => hSX.ext h.below, hh⟩
    ·clear hh;rintro ρ' q_ v w' ⟨j, A, ac, R, hj, rfl, rfl, hrd, hh⟩;by_cases hlt : j < n
     ·obtain ⟨d, hd⟩ := ak (l := ns) (k := j) TX;have hd7 := hlow d (T7 hd);have hof := fun w1 hs => lC fx.A fx.n fx.a j d ns w1 hs hcap TX hd hlow TX;have hrm : ns.reverse = (ns.drop (j + 1)).reverse ++ d :: (ns.take j).reverse := Bs hd;have hcn : fx.m = av ((ns.drop (j + 1)).reverse ++ d :: (ns.take j).reverse) := by rw [← hrm, cU]; exact hmc
      have hli := fun w1 hT1 hS1 => mb 116 (ns.drop (j + 1)).reverse (ns.take j).reverse d (d + 1) (kt d (dX d 1 (-1))) A fx.m ac (k + 520 * j) (uZ ns.reverse X j) w1 hT1 hS1 hcn TX (T5 _) hd7 (hgZ j) (fun Y E ec w2 hT2 hy hs => tJ E (d + 1) ec d Y (k + 520 * j) w2 hT2 hs rfl hd7 hy (by unfold pV at hK; omega)) (fun Y _ => by simp [kt]);have hM := IP (M := dX d 1 (-1)) (A := (ns.drop (j + 1)).reverse) (B := (ns.take j).reverse) (X := uZ ns.reverse X j) ((hgX j).trans (hmc.symm.trans hcn));have hsu := uV ns.reverse X j;have hgd : ns.reverse.getD (ns.reverse.length - 1 - j) 0 = d := by
       rw [U7, VN (by rw [UJ]; omega), UJ, show ns.length - 1 - (ns.length - 1 - j) = j by omega, hd]
       rfl
      rw [hgd, show ns.reverse.length - 1 - j = (ns.drop (j + 1)).reverse.length by rw [UJ, UJ, Vn]; omega] at hsu;rw [hgX j, ← hrm, ← hsu, ← hmc] at hM;rw [hM, cU] at hli;clear hM hsu hgd hcn;refine sr ?_;refine bg (aa (ah (cT (ar (ai (ah (aq (sr (mI (aI (aa (ao (bH ?_)))))))))))));refine bG hh 1 ?_;refine mI ?_;refine bD hh (hof _ (hdgw _ _ hh)) rfl ?_;intro w57 hh;refine mL ?_;refine aF (hli _ (hT.hp hh) (hrd [_, _] _ hh)) al.out rfl TY ?_;rintro e_ w59 ⟨E, ec, rfl, h4⟩;refine ⟨_, rfl, ?_⟩;replace hh := hh.join h4;clear h4;simp only [Ud, Ub] at hh;refine kN ?_;refine bj (mI (aA (ai ?_)));replace hh := hh.sub (T4 _ (T4 _ (T4 _ (Vi _))));replace hh := hh.perm (U3 (l₁ := [_, _]));simp only [Ud, Ub] at hh;replace hh := hh.perm (U3 (l₁ := [_, _]));simp only [Ud, Ub] at hh;replace hh := hh.sub (.cons_cons _ (.cons_cons _ (.cons_cons _ (Vh _))))
      refine ⟨⟨j + 1, E, ec, [.row E fx.m ec 65 3 (az NR.cells ((uZ ns.reverse X (j + 1)).map nR))], TX, rfl, rfl, fun H w1 h => lI (h.own _ (VK _ (Un.2 rfl))), hh⟩, by show n - (j + 1) < n - j; omega, ?_⟩;exact dQ
     ·obtain rfl : n = j := TX;obtain ⟨adC, rfl⟩ : ∃ ad, A = some ad := let ⟨ad, e, _⟩ := (hrd [_, _] _ hh).at_ (by have := cS ns; omega); ⟨ad, e⟩;generalize hCC : uZ ns.reverse X n = C at *;have hCl : C.length = av ns := by rw [← hCC]; exact hgX n
      have hCz : ∀ x ∈ C, Sz (k + 520 * n) x := by rw [← hCC]; have := hgZ n; exact this
      clear hgX hgZ;refine sr ?_;refine nF ?_;refine aF (hfo _ (hT.hp hh) hh.below) al.out rfl TY ?_;rintro e_ w62 ⟨A62, c62, rfl, hown_, hb_⟩;refine ⟨_, rfl, ?_⟩;replace hh := hh.aW (x := .row _ _ _ _ _ _) hb_ hown_;obtain ⟨adS, hAS⟩ : ∃ ad, A62 = some ad := let ⟨ad, e, _⟩ := (hh.aC (i := 0) rfl).at_ hpos; ⟨ad, e⟩;rw [hAS] at hh ⊢;clear hAS;refine aL (aa (sr (aL (aa (ah (sr (mL (aJ (mI (aa (aq ?_)))))))))));replace hh := hh.de 24 2;refine bK [10, 11, 12, 13, 14, 15, 16, 17, 18, 65, 66, 67, 68, 69, 70, 71, 72, 73, 74, 75, 76, 77, 78, 79, 80, 81, 82, 83, 84, 85, 86, 87, 88, 89, 90, 91, 92, 93, 94, 95, 96, 97] 10 65
       (fun a v w' => ∃ (i c3 : Nat) (A : Option Addr) (os : List PX) (R2 : List HE), i ≤ n ∧ v = .int .i64 i ∧ a = .slice A i c3 ∧ os.length = i ∧ Bw ((gW b).map fun g => ⟨g.v, none, g.ts.length, 0, g.ts⟩) os R2 ∧ Hp w (.row A i c3 24 2 (az PX.cells os) :: .row (some adS) n c62 81 6 (az SR.cells (b.map SR.f)) :: .blk b4 24 [.int .i64 0, .slice none 0 0] (0, 0) :: .blk b2 39 [.slice fx.A fx.n fx.a, .slice fx.B fx.m fx.b] (0, 0) :: (R2 ++ R)) w')
       (fun _ v _ => n - (intOf v).toNat) ?_ ?_
      ·exact RZ
      ·clear hh;rintro ρ2 a_ v w2 ⟨i, c3, A, os, R2, hi, rfl, rfl, hol, hcp, hh⟩;by_cases hlt2 : i < n
       ·obtain ⟨s, hs⟩ := ak (l := b) (k := i) TX;have hsf := hb s (T7 hs);have hsn : (b.map SR.f)[i]? = some s.f := by rw [Ue, hs]; rfl
        have zL := SR.KN hsf;obtain ⟨po, pl⟩ := tD (v := n) (i := i) TX hsf TX;have vo := sf (v := n) (i := i) TX;have co := si (v := n) TX zL.neg TX;have hva := fun w1 hT1 => sV (n : Int) (i : Int) w1 hT1;rw [MM TX hlt2] at hva;rw [Vp] at hva;have zLo : (nR s.L).ok := zL.ok TX;have hng := fun w1 hT1 => nN (nR s.L) w1 hT1 (by have := zLo.1; omega) (by have := zLo.2.1; omega) (by have := zLo.2.2; omega);rw [bR] at hng;have hcn := fun w1 hT1 => jy (n : Int) (nR (-s.L)) kb w1 hT1 ⟨zL.neg.ok TX, by rw [bR]; exact zL.neg⟩ TX;rw [MY TX] at hcn;have hV : aE [⟨jZ n i, nR ((1 : Int) : Dyadic)⟩] = l5 n i := rfl;have hC : aE [⟨dJ n, nR (-s.L)⟩] = kK n (-s.L) := rfl;have hP : aE (l5 n i ++ kK n (-s.L)) = mj n i s := rfl;have tl1 : (l5 n i).length ≤ 1 := bP _;have ul1 : (kK n (-s.L)).length ≤ 1 := bP _;have hps := mu hs;rw [hbl] at hps;rw [hV] at hva;rw [hC] at hcn;clear hV hC;generalize l5 n i = VL at *;generalize kK n (-s.L) = CL at *;generalize mj n i s = PL at *;obtain ⟨ad', e', hrS⟩ := (hh.aC (i := 1) rfl).at_ hpos;obtain rfl := UN e';refine sr ?_;refine ek ?_;refine cu ?_;refine cw (vs := [_, _, _, _, _, _]) aK.out rfl (hrS.recAt SR.len hsn) rfl TY ?_
        refine bV hh ?_;intro b12 w12 hh;refine aI ?_;refine bW hh 0 [_,_,_,_,_,_] ?_;intro ws hh;replace hh : Hp _ (.blk _ _ [_, _, _, _, _, _] _ :: _) _ := hh;refine aa (sr (mL (aJ (mI ?_))));replace hh := show Hp w (.blk b12 81 [.bool (nR s.L).neg, .string (nR s.L).bz, .int .i64 (nR s.L).e, .bool (nR s.H).neg, .string (nR s.H).bz, .int .i64 (nR s.H).e] (0, 0) :: _) _ from hh;refine aF (hva _ (hT.hp hh)) al.out rfl TY ?_;rintro e_ w74 ⟨t, ot, rfl, h4⟩;refine ⟨_, rfl, ?_⟩;have htc : t.n ≤ t.c := h4.e8 (i := 0) rfl;replace hh := hh.join h4;clear h4;simp only [Ud, Ub] at hh;obtain ⟨tv, tA, tn, tc, tt⟩ := t;replace hh := show Hp w (.row tA tn tc 96 4 (az TR.cells tt) :: _) _ from hh;have et : VL = tt := ot.t0.symm;have ev_ : tv = (n : Int) := ot.v0;subst et ev_;have tln : VL.length = tn := (hh.aC (i := 0) rfl).bq TR.len TY;refine mT ?_;refine du ?_;refine du ?_;refine bV hh ?_;intro b13 w13 hh;refine bW hh 0 [_,_] ?_;intro ws hh;replace hh : Hp _ (.blk _ _ [_, _] _ :: _) _ := hh;refine aI (aa (sr (mL (aJ (bH ?_)))));refine cG hh 2 [_,_,_] ?_;refine bD hh (hng _ (hT.hp hh)) rfl ?_;intro w82 hh;refine aF (hcn _ (hT.hp hh)) al.out rfl TY ?_
        rintro e_ w83 ⟨u, ou, rfl, h4⟩;refine ⟨_, rfl, ?_⟩;have huc : u.n ≤ u.c := h4.e8 (i := 0) rfl;replace hh := hh.join h4;clear h4;simp only [Ud, Ub] at hh;obtain ⟨uv, uA, un, uc, ut⟩ := u;replace hh := show Hp w (.row uA un uc 96 4 (az TR.cells ut) :: _) _ from hh;have et : CL = ut := ou.t0.symm;have ev_ : uv = (n : Int) := ou.v0;subst et ev_;have uln : CL.length = un := (hh.aC (i := 0) rfl).bq TR.len TY;refine mT ?_;refine du ?_;refine du ?_;refine bV hh ?_;intro b15 w15 hh;refine bW hh 0 [_,_] ?_;intro ws hh;replace hh : Hp _ (.blk _ _ [_, _] _ :: _) _ := hh;refine aI (aa (sr ?_));refine cG hh 2 [_,_] ?_;refine cG hh 0 [_,_] ?_;refine DN ?_;intro b89 w89 hh;have hlp : eY [⟨n, tA, tn, tc, VL⟩, ⟨n, uA, un, uc, CL⟩] = 0 := o8 vo.e co.e rfl;have had := fun A3 w1 hT1 hS1 s1 s2 => n8 A3 2 2 [⟨n, tA, tn, tc, VL⟩, ⟨n, uA, un, uc, CL⟩] (kb + 10) w1 hT1 hS1 TY (fun g hg => by
         rcases Ul.1 hg with rfl | hg
         ·exact s1
         ·rw [Un.1 hg]; exact s2) (fun g hg => by
         rcases Ul.1 hg with rfl | hg
         ·exact ⟨by show tn ≤ 1000000; omega, htc, vo.ok.mono TX, vo.sz⟩
         ·rw [Un.1 hg]; exact ⟨by show un ≤ 1000000; omega, huc, co.ok.mono TX, co.sz⟩) TX
        unfold FT at had;rw [T2 hlp, Jg] at had;dsimp only at had;rw [hP] at had;rw [gQ (l := VL ++ CL) (by rw [Ua]; omega)] at had;refine aF (had _ _ (hT.hp hh) (hh.aC (i := 0) rfl) (hh.aC (i := 4) rfl) (hh.aC (i := 2) rfl)) al.out rfl TY ?_;rintro e_ w90 ⟨z, oz, rfl, h4⟩;refine ⟨_, rfl, ?_⟩;have hzc : z.n ≤ z.c := h4.e8 (i := 0) rfl;replace hh := hh.join h4;clear h4;simp only [Ud, Ub] at hh;replace hh := show Hp w (.row z.A z.n z.c 96 4 (az TR.cells z.ts) :: _) _ from hh;have zln : z.ts.length = z.n := (hh.aC (i := 0) rfl).bq TR.len TY;refine mT ?_;refine du ?_;refine du ?_;refine bV hh ?_;intro b17 w17 hh;refine bW hh 0 [_,_] ?_;intro ws hh;replace hh : Hp _ (.blk _ _ [_, _] _ :: _) _ := hh;refine aI (aa (ao (mL ?_)));refine cG hh 0 [_,_] ?_;refine cP hh (cs := [_, _]) bk.out aK.out (aM (gO rfl) bU) rfl rfl TY TY TY rfl TY ?_;intro b95 w95 hh;refine cK hh (i := 9) rfl rfl rfl (hh.aC (i := 0) rfl) bk.out aK.out rfl TY (by first | rfl | exact dR _ | exact dp _ | exact bZ _ | exact cv NR.one _) TX TX TY ?_;intro A96 c96 w96 hh;simp only [Uh, UH] at hh;replace hh := hh.sub (UM _ _)
        refine kN ?_;refine bj (mI (aA (ai ?_)));replace hh := hh.sub (T8 _ (T4 _ (T8 _ (T8 _ (T8 _ (T8 _ (T8 _ (T8 _ (T4 _ (T4 _ (T4 _ (T4 _ (Vi _)))))))))))));replace hh := hh.perm (U3 (l₁ := [_, _, _, _]));simp only [Ud, Ub] at hh;replace hh := hh.perm (U3 (l₁ := [_, _, _, _]));simp only [Ud, Ub] at hh;replace hh := hh.perm (U3 (l₁ := [_, _, _, _]));simp only [Ud, Ub] at hh;replace hh := hh.perm (U3 (l₁ := [_, _, _, _]));simp only [Ud, Ub] at hh;have hcp2 := hcp.add (g := ⟨n, none, PL.length, 0, PL⟩) (o := z) (by rw [hol, Ue, hps]; rfl) ⟨oz.v0, oz.t0, by rw [← zln, oz.t0]⟩ hzc;refine ⟨⟨i + 1, c96, A96, os ++ [z], z.row :: R2, TX, rfl, rfl, by rw [Ua, hol]; rfl, hcp2, by rw [bY, j5]; exact hh⟩, by show n - (i + 1) < n - i; omega, ?_⟩;exact dQ
       ·obtain rfl : n = i := TX;have hol2 : os.length = ((gW b).map fun g => (⟨g.v, none, g.ts.length, 0, g.ts⟩ : PX)).length := by rw [Ug, qy]; omega
        have hkey := hcp.key hol2;rw [U5] at hkey;replace hkey : os.map PX.norm = (gW b).map PX.norm := hkey;have hoc : n ≤ c3 := hh.e8 (i := 0) rfl;have hn12 : n ≤ 12 := TX;have hxb : (kH b ns C).length = av ns := sU b ns C;obtain ⟨bo1, bo2, bo3⟩ := Hu (C := C) (ns := ns) hb TX hCz hlow TX (by rw [hnl]; unfold pV at hK; omega);have hmk := Jp (b := b) (C := C) (ns := ns) TX bo2 hmax;have hal : xB (bL ns) = rr ns := by unfold xB; rw [show yt 1 (bL ns) = true from D5 ns 1 hlow TX (T5 _)]; rfl
        have hall := fun w1 hD => Gh fx.A fx.n fx.a (bL ns) w1 hD TX;rw [hal, Gw] at hall;have hrd2 : ∀ (H : List HE) (w1 : World), Hp w (H ++ (R2 ++ R)) w1 → Sl w1 (some adC) fx.m 3 (az NR.cells (C.map nR)) := fun H w1 h => hrd (H ++ R2) w1 (by rw [UI]; exact h);have hmy := hcp.my;generalize hRR : (R2 ++ R : List HE) = RR at *;refine sr ?_;refine bg (aa (ah (cF (a6 (aD (aD (bB (ai (sr (aL (aa (ah (sr (bH ?_))))))))))))));refine bG hh 3 ?_;refine aF (hall _ (hdgw _ _ hh)) al.out rfl TY ?_;rintro e_ w100 ⟨A100, c100, rfl, hown_, hb_⟩;refine ⟨_, rfl, ?_⟩;replace hh := hh.aW (x := .row _ _ _ _ _ _) hb_ hown_;refine aJ (mI (aa (aq ?_)));replace hh := hh.de 96 4;refine bK [19, 20, 21, 22, 23, 24, 102, 103, 104, 105, 106, 107, 108, 109, 110, 111, 112, 113, 114, 115, 116, 117, 118, 119, 120, 121, 122, 123, 124, 125, 126, 127, 128, 129, 130, 131, 132, 133, 134, 135, 136, 137, 138, 139, 140, 141, 142, 143, 144, 145, 146, 147, 148] 19 102
         (fun a v w' => ∃ (i c1 : Nat) (D : Option Addr), i ≤ av ns ∧ v = .int .i64 i ∧ a = .slice D i c1 ∧ Hp w (.row D i c1 96 4 (az TR.cells ((kH b ns C).take i)) :: .row A100 (av ns) c100 9 1 (lP (rr ns)) :: .row A n c3 24 2 (az PX.cells os) :: .row (some adS) n c62 81 6 (az SR.cells (b.map SR.f)) :: .blk b4 24 [.int .i64 0, .slice none 0 0] (0, 0) :: .blk b2 39 [.slice fx.A fx.n fx.a, .slice fx.B fx.m fx.b] (0, 0) :: RR) w')
         (fun _ v _ => av ns - (intOf v).toNat) ?_ ?_
        ·exact ⟨0, 0, none, T6 _, rfl, rfl, hh⟩
        ·clear hh;rintro ρ3 a_ v w3 ⟨i, c1, D, hi2, rfl, rfl, hh⟩;by_cases hlt3 : i < av ns
         ·obtain ⟨x, hx⟩ := ak (l := C) (k := i) TX;have hxn : (C.map nR)[i]? = some (nR x) := by rw [Ue, hx]; rfl
          have zx := hCz x (T7 hx);have hax : jm C i = x := by unfold jm; rw [hx]; rfl
          have hti := Li (b := b) (C := C) hlt3;have hms : (lP (rr ns))[i]? = some (.string (fX (bL (gD ns i)))) := by unfold lP; rw [Ue, Hh hlt3]; rfl
          have hmm := bo2 _ (T7 hti);have hmz := (bo3 _ (T7 hti)).1;have hrl := kY ns i;have hrr : ∀ (q d r : Nat), ns[q]? = some d → (gD ns i)[q]? = some r → r ≤ d := fun q d r h1 h2 => pJ h1 h2;have hes := pG (p := i) hlow;unfold FE at hti hmm hmz;rw [hax] at hti;generalize fX (bL (gD ns i)) = M at *;generalize gD ns i = es at *;have hex : iy M.data.toList = bL es := by rw [jE (by unfold eK at hmm; rw [Uj] at hmm; exact hmm.1), kT, hes]
          have hel : (iy M.data.toList).length = n := by rw [hex, k6]; omega
          have hxp := fun w1 => gR M w1 hmz;rw [hel, hex] at hxp;obtain ⟨ad', e', hrC⟩ := (hrd2 [_, _, _, _, _, _] _ hh).at_ TX;obtain rfl := UN e';obtain ⟨ga, rfl⟩ := hh.cB (i := 1) rfl TX;refine sr ?_;refine ek ?_;refine gk ?_;refine IU ?_;refine aI (aS (aa (sr (mL (mI ?_)))));refine da bk.out aK.size rfl rfl rfl TX TY ?_;refine cw (vs := [_, _, _]) aK.out rfl (hrC.recAt NR.len hxn) rfl TY ?_;refine bV hh ?_;intro b22 w22 hh;refine bW hh 0 [_,_,_] ?_;intro ws hh;replace hh : Hp _ (.blk _ _ [_, _, _] _ :: _) _ := hh;refine aa (ah (sr (mS ?_)));refine aF (hxp _) al.out rfl TY ?_;rintro e_ w112 ⟨A112, c112, rfl, hown_, hb_⟩;refine ⟨_, rfl, ?_⟩;replace hh := hh.aW (x := .row _ _ _ _ _ _) hb_ hown_;refine aJ (mI (aa (aq ?_)));rw [show x = x * wP b ns es 0 by show x = x * 1; rw [Dyadic.mul_one]] at hh;refine aP [23, 24, 114, 115, 116, 117, 118, 119, 120, 121, 122, 123, 124, 125, 126, 127, 128, 129, 130, 131, 132, 133, 134, 135, 136, 137, 138, 139, 140, 141] 114
           (fun v w' => ∃ q : Nat, q ≤ n ∧ v = .int .i64 q ∧ Hp w (.row A112 n c112 3 1 (bJ (bL es)) :: .blk b22 65 [.bool (nR (x * wP b ns es q)).neg, .string (nR (x * wP b ns es q)).bz, .int .i64 (nR (x * wP b ns es q)).e] (0, 0) :: .row D i c1 96 4 (az TR.cells ((kH b ns C).take i)) :: .row (some ⟨ga, 0, none⟩) (av ns) c100 9 1 (lP (rr ns)) :: .row A n c3 24 2 (az PX.cells os) :: .row (some adS) n c62 81 6 (az SR.cells (b.map SR.f)) :: .blk b4 24 [.int .i64 0, .slice none 0 0] (0, 0) :: .blk b2 39 [.slice fx.A fx.n fx.a, .slice fx.B fx.m fx.b] (0, 0) :: RR) w')
           (fun v _ => n - (intOf v).toNat) ?_ ?_
          ·exact ⟨0, T6 _, rfl, hh⟩
          ·clear hh;rintro ρ4 v w4 ⟨q, hq, rfl, hh⟩;by_cases hqn : q < n
           ·obtain ⟨s, hs⟩ := ak (l := b) (k := q) TX;obtain ⟨d, hd⟩ := ak (l := ns) (k := q) TX;obtain ⟨r, hr⟩ := ak (l := es) (k := q) TX;have hsf := hb s (T7 hs);have hsn : (b.map SR.f)[q]? = some s.f := by rw [Ue, hs]; rfl
            have hrd3 := hrr q d r hd hr;have hd7 := hlow d (T7 hd);have hgE := cj (ix hr);have hgD : (bJ (bL ns))[q]? = some (.int .i64 (d : Int)) := cj (ix hd);have zW := (SR.Qj hsf).sub (SR.KN hsf);have hsu := fun w1 hT1 => j6 (nR s.H) (nR s.L) w1 hT1 ((SR.Qj hsf).ok TX) ((SR.KN hsf).ok TX) kb (by rw [bR]; exact SR.Qj hsf) (by rw [bR]; exact SR.KN hsf) TX;rw [bR, bR] at hsu;have hwi : wP b ns es (q + 1) = wP b ns es q * (s.H - s.L) ^ (d - r) := by
             show wP b ns es q * ik b q ^ (ns.getD q 0 - es.getD q 0) = _;rw [show ik b q = s.H - s.L by unfold ik; rw [hs], U7, U7, hd, hr]
             rfl
            have zq := zx.mul (Dk (es := es) (ns := ns) hb q TX);have hsum : (ns.take q).sum ≤ ns.sum := by
             conv => rhs; rw [← UZ q ns, List.sum_append]
             omega
            have hsum2 := Uz (kb + 1) hsum;have hnw := zW.nr;have hpm : (d - r) * (nR (s.H - s.L)).bz.size ≤ 1000000 := Ur (Vs (show d - r ≤ 127 by omega) (show (nR (s.H - s.L)).bz.size ≤ 1100 by omega)) TY;have hpw := fun w1 hT1 => oE (nR (s.H - s.L)) ((d : Int) - (r : Int)) w1 hT1 (zW.ok TX) (by rw [show ((d : Int) - (r : Int)).toNat = d - r by omega]; exact hpm) TX;rw [bR, show ((d : Int) - (r : Int)).toNat = d - r by omega] at hpw;have zp := zW.zU (show d - r ≤ 127 by omega);have hm2 := fun A cc w1 hT1 hS1 => eI A 2 cc [nR (x * wP b ns es q), nR ((s.H - s.L) ^ (d - r))] w1 hT1 hS1 (by simpa using ⟨zq.ok (by unfold pV at hK; omega), zp.ok TX⟩) 600000 (by simpa [bR] using ⟨zq.mono (by unfold pV at hK; omega), zp.mono TX⟩) TX TX;rw [show g8 ([nR (x * wP b ns es q), nR ((s.H - s.L) ^ (d - r))].map NR.d) = x * wP b ns es (q + 1) by simp only [Ut, UR, bR]; show 1 * (x * wP b ns es q) * _ = _; rw [V4, hwi, Dyadic.mul_assoc]] at hm2;obtain ⟨ad', e', hrS⟩ := (hh.aC (i := 5) rfl).at_ hpos;obtain rfl := UN e';obtain ⟨adD, hAD, hrD⟩ := (hdgw _ _ hh).at_ TX
            have gy : Value.slice fx.A fx.n fx.a = .slice (some adD) fx.n fx.a := by rw [hAD]
            clear hwi;generalize x * wP b ns es q = y at *;generalize hy2 : x * wP b ns es (q + 1) = y2 at *;generalize (s.H - s.L) ^ (d - r) = u at *;obtain ⟨ge, rfl⟩ := hh.cB (i := 0) rfl TX;refine sr ?_;refine ek ?_;refine cV (k := q) bk.out aK.size rfl rfl TX TX TY ?_;refine jn ?_;refine aI (aI (aa ?_));refine aV 20 [[(22, none)], [(1, none)], [(23, none)], [(120, some 1), (121, some 2)], [(122, some 3)], [(123, some 4)], [(1, none)], [(23, none)], [(125, some 6), (126, some 7)], [(127, some 8)], [(128, some 9)], [(124, some 5), (129, some 10)], [(2, none)], [(131, some 12)], [(23, none)], [(132, some 13), (133, some 14)], [(134, some 15)], [(24, none)], [(135, some 16), (136, some 17)], [(130, some 11), (137, some 18)]] [(19, 138), (18, 137), (17, 136), (16, 135), (15, 134), (14, 133), (13, 132), (12, 131), (11, 130), (10, 129), (9, 128), (8, 127), (7, 126), (6, 125), (5, 124), (4, 123), (3, 122), (2, 121), (1, 120), (0, 119)] hh mixed TZ ?_;refine fU 1 [_,_,_] ?_;refine fT ?_;refine dF ?_;refine l3 (q) ?_;refine Kx ?_;refine r9 [_,_,_] (fun _ hj => ((((hrS.ext hj.bl).recAt SR.len hsn).drop 3).take 3)) ?_;refine fT ?_;refine dF ?_;refine l3 (q) ?_;refine Kx ?_
            refine r9 [_,_,_] (fun _ hj => ((((hrS.ext hj.bl).recAt SR.len hsn).drop 0).take 3)) ?_;refine dC (fun _ hj => hsu _ (hT.hp hj.hp)) ?_;refine ej ?_;refine fY 7 ?_;refine dF ?_;refine aT (i := 15) (Is (.pointer (some (adD.add (q * 1))))) (Is.ext) ?_ ?_
            ·intro ρ1 w1 hj hR;exact fG rfl (g7 (k := q) bk.out aK.size ((show ρ1 132 = Value.slice _ _ _ from hR.1).trans gy) (show ρ1 133 = Value.int _ _ from hR.2.1) TX TX) ⟨Below.refl _ _, rfl⟩
            refine rW (fun _ hj => (hrD.ext hj.bl).xT hgD) ?_;refine dF ?_;refine vg ?_;refine dC (fun _ hj => hpw _ (hT.hp hj.hp)) ?_;refine aR ?_;intro f W hJ hV;have hb_33 := hJ.bl;obtain ⟨v138, v137, v136, v135, v134, v133, v132, v131, v130, v129, v128, v127, v126, v125, v124, v123, v122, v121, v120, v119, _⟩ := hV;replace hh := hJ.hp;refine aY (br (ae v138 (ae v137 (ae v136 (ae v135 (ae v134 (ae v133 (ae v132 (ae v131 (ae v130 (ae v129 (ae v128 (ae v127 (ae v126 (ae v125 (ae v124 (ae v123 (ae v122 (ae v121 (ae v120 (ae v119 aX))))))))))))))))))))) ?_;dsimp only [cf];clear hJ;refine s9 ?_;intro b139 w139 hh;refine bD hh (hm2 _ _ _ (hT.hp hh) (hh.aC (i := 0) rfl)) rfl ?_;intro w140 hh;refine bW hh 2 [_,_,_] ?_;intro ws hh;replace hh : Hp _ (_ :: _ :: .blk _ _ [_, _, _] _ :: _) _ := hh;refine fM ?_;refine bj (mI (aA (ai ?_)));replace hh := hh.sub (T8 _ (T4 _ (T4 _ (T4 _ (T4 _ (T4 _ (T4 _ (T4 _ (T4 _ (Vi _))))))))))
            refine ⟨⟨q + 1, TX, rfl, by rw [hy2]; exact hh⟩, by show n - (q + 1) < n - q; omega, ?_⟩;exact dQ
           ·obtain rfl : n = q := TX;rw [hbl] at hti;refine sr ?_;refine bg (aa (ah (cF (a6 (aD (aD (bB (ai (ao (mL (mS ?_)))))))))));refine cG hh 1 [_,_,_] ?_;refine gB [_,_,_,_] ?_;refine Bf ?_;intro b146 w146 hh;refine NL ?_;intro A147 c147 w147 hh;simp only [Uh, UH] at hh;replace hh := hh.sub (UM _ _);refine kN ?_;refine bj (mI (aA (ai ?_)));have e1 : az TR.cells ((kH b ns C).take i) ++ [.string M, .bool (nR (x * wP b ns es n)).neg, .string (nR (x * wP b ns es n)).bz, .int .i64 (nR (x * wP b ns es n)).e] = az TR.cells ((kH b ns C).take (i + 1)) := by rw [ay hti, bY, j5]; rfl
            replace hh := hh.sub (T8 _ (T8 _ (T4 _ (T4 _ (T4 _ (T4 _ (T4 _ (T4 _ (Vi _)))))))));replace hh := show Hp w (.row A147 (i + 1) c147 96 4 (az TR.cells ((kH b ns C).take i) ++ [.string M, .bool (nR (x * wP b ns es n)).neg, .string (nR (x * wP b ns es n)).bz, .int .i64 (nR (x * wP b ns es n)).e]) :: _) _ from hh;rw [e1] at hh;refine ⟨⟨i + 1, c147, A147, TX, rfl, rfl, hh⟩, by show av ns - (i + 1) < av ns - i; omega, ?_⟩;exact dQ
         ·obtain rfl : av ns = i := TX;rw [T9 TX] at hh;have hbz := fun t ht => (bo3 t ht).1;have hmA := fun w1 hT1 hS1 => ml (n : Int) D (av ns) c1 (kH b ns C) (pV n k kb ns) w1 hT1 hS1 TX TX (bo1.mono (by rw [hnl]; exact T5 _)) hbz;rw [hnl] at hmk bo2;rw [hmk] at hmA;refine sr ?_;refine bg (aa (ah (cF (a6 (aD (aD (bB (ai (sr (mL (aJ (mL ?_))))))))))));refine aF (hmA _ (hT.hp hh) (hh.aC (i := 0) rfl)) al.out rfl TY ?_;rintro e_ w153 ⟨g, og, rfl, h4⟩;refine ⟨_, rfl, ?_⟩;have hgc : g.n ≤ g.c := h4.e8 (i := 0) rfl;replace hh := hh.join h4;clear h4;simp only [Ud, Ub] at hh;obtain ⟨gv, gA, gn, gc, gt⟩ := g;replace hh := show Hp w (.row gA gn gc 96 4 (az TR.cells gt) :: _) _ from hh;replace hgc : gn ≤ gc := hgc;have et : aE (kH b ns C) = gt := og.t0.symm;have ev_ : gv = (n : Int) := og.v0;subst ev_;have gln : gt.length = gn := (hh.aC (i := 0) rfl).bq TR.len TY;have gl2 : gt.length ≤ 4096 := by rw [← et]; exact Ur (bP _) TX
          have gok : iW (n : Int) (pV n k kb ns + 4096) gt := by
           rw [← et];exact iQ (ee hn12) bo2 (bo1.mono (by rw [hnl]; exact T5 _)) hbz TX (T5 _) TX
          have hgex : ∀ (i d : Nat), ns[i]? = some d → d ≤ 127 ∧ ∀ t ∈ gt, fK i t ≤ d := fun i d hd => ⟨hlow d (T7 hd), fun t ht => by
           rw [← et] at ht;obtain ⟨s, hs, e⟩ := fR t ht;obtain ⟨_, p, hp⟩ := bo3 s hs;rw [sx, ← e, hp]
           cases hr : (gD ns p)[i]? with
           | none => exact T6 _
           | some r => exact pJ hd hr⟩
          have hall := GW hcp TX TX hb TX;have hhv : eW (gW b) = n := by
           obtain ⟨s, hs⟩ := ak (l := b) (k := 0) TX;rw [j1 (mu hs), hbl]
          obtain ⟨ks, kh⟩ := EA (o := ⟨(n : Int), gA, gn, gc, gt⟩) (p := ve b ns C) (by show (n : Int) = (ns.length : Int); omega) et.symm hkey;have hfit : Sy ⟨(n : Int), gA, gn, gc, gt⟩ os (pV n k kb ns + 4096) (kb + 10) 2 (kb + 16394) ns := ⟨TX, hgex, hgr, TX, TX, fun g hg => (hall g hg).1, fun g hg => (hall g hg).2⟩;have hsu := fun w1 hT1 ha hs hm hc => pW ⟨(n : Int), gA, gn, gc, gt⟩ A c3 os (pV n k kb ns + 4096) (kb + 10) 2 (kb + 16394) ns w1 hT1 ha ⟨by show gn ≤ 1000000; omega, hgc, gok.ok, gok.sz⟩ hs hm hc hfit;rw [ks, kh, hhv, hol] at hsu;generalize cQ (ve b ns C) (gW b) = R0 at *;refine mT ?_;refine du ?_;refine du ?_;refine bV hh ?_;intro b25 w25 hh;refine bW hh 0 [_,_] ?_;intro ws hh;replace hh : Hp _ (.blk _ _ [_, _] _ :: _) _ := hh;refine aI (aa (ah (sr (mI ?_))));refine tW ?_;refine cG hh 0 [_,_] (mL ?_);refine aF (hsu _ (hT.hp hh) (hh.aC (i := 1) rfl) (hh.aC (i := 4) rfl) (fun z hz => Fc hh (Uf _ (Uf _ (Uf _ (Uf _ (Uf _ (Uf _ (Uf _ (Uf _ (hRR ▸ VT R (hmy z hz).1)))))))))) hoc) al.out rfl TY ?_
          rintro e_ w162 ⟨z, oz, rfl, h4⟩;refine ⟨_, rfl, ?_⟩;replace hh := hh.join h4;clear h4;simp only [Ud, Ub] at hh;refine du ?_;refine du ?_;refine bW hh 7 [_,_] ?_;intro ws hh;replace hh : Hp _ (_ :: _ :: _ :: _ :: _ :: _ :: _ :: .blk _ _ [_, _] _ :: _) _ := hh;refine aI (aa (au ?_));refine Qk (eO rfl (eN (vs := [_, _]) aK.out (hh.ck (i := 7) (n := 2) rfl rfl) rfl) (j4 (la rfl) gm)) ?_;exact ⟨z, oz, rfl, hh.sub (T4 _ (Vh _))⟩
   ·have hE : pE fx b = 1 := by unfold pE; rw [T3 TX, T3 TX, T2 TX]
    rw [h0] at hck;rw [h1] at hbc;rw [hE];have hln := hf.ln.1;refine Ec ?_;refine sr ?_;refine cD hh [_,_] ?_;intro b2 w2 hh;refine bV hh ?_;intro b4 w4 hh;refine aI (aa (ah (sr ?_)));refine cG hh 1 [_,_] ?_;refine fJ ?_;intro w28 hh;refine aI (aa (sr (mI ?_)));refine uz ?_;refine bD hh (hbc _ (hT.hp hh) hh.below) rfl ?_;intro w34 hh;refine aI (aa (sr (mI ?_)));refine rz ?_;refine bG hh 1 ?_;refine aJ ?_;refine dn (aa (cT (sr ?_)));refine gB [_,_] ?_;exact RY
  ·have hE : pE fx b = kJ b := by unfold pE; rw [T3 TX, T2 h1]
   rw [h0] at hck;rw [hE];refine Ec ?_;refine sr ?_;refine cD hh [_,_] ?_;intro b2 w2 hh;refine bV hh ?_;intro b4 w4 hh;refine aI (aa (ah (sr ?_)));refine cG hh 1 [_,_] ?_;refine fJ ?_;intro w28 hh;refine aI (aa (sr (mI ?_)));refine uz ?_;refine bD hh (hbc _ (hT.hp hh) hh.below) rfl ?_;intro w34 hh;exact Ou
 ·have hE : pE fx b = fx.e := by unfold pE; rw [T2 h0]
  rw [hE];refine Ec ?_;refine sr ?_;refine cD hh [_,_] ?_;intro b2 w2 hh;refine bV hh ?_;intro b4 w4 hh;refine aI (aa (ah (sr ?_)));refine cG hh 1 [_,_] ?_;refine fJ ?_;intro w28 hh;exact Ou
section
variable {P : Program} {N : Nat} {Q : Kd} {ρ : Rf} {w : World}
theorem WD.mono {c : Code} {Q' : Kd} (h : WD P N c Q ρ w) (hq : ∀ e M ρ w, Q e M ρ w → Q' e M ρ w) : WD P N c Q' ρ w :=
 ⟨fun M a hf n => wpIn_mono (h.out M a hf n) fun e a' w' ⟨M', ρ', hf', hk⟩ => ⟨M', ρ', hf', hq e M' ρ' w' hk⟩⟩
theorem Jz {c : Code} (mods : List Nat) (s0 s1 : Nat) (I : List Nat → Value → Value → World → Prop) (μ : Value → Value → World → Nat) (h0 : I [] (ρ s0) (ρ s1) w)
  (round : ∀ M ρ' v0 v1 w', I M v0 v1 w' → WD P N c (fun e M2 ρ2 w2 => yh (fun M3 ρ2 w2 => I M3 (ρ2 s0) (ρ2 s1) w2 ∧ μ (ρ2 s0) (ρ2 s1) w2 < μ v0 v1 w' ∧ iJ mods ρ2 ρ) Q e (M2 ++ M) ρ2 w2) (cI (cI (mask mods ρ' ρ) s0 v0) s1 v1) w') : WD P N (.loop c) Q ρ w :=
 K8 (fun M ρ1 w1 => I M (ρ1 s0) (ρ1 s1) w1 ∧ iJ mods ρ1 ρ) (fun ρ1 w1 => μ (ρ1 s0) (ρ1 s1) w1) ⟨h0, fun _ _ => rfl⟩ fun M ρ1 w1 ⟨hi, ha⟩ => by
  have h := round M ρ1 (ρ1 s0) (ρ1 s1) w1 hi;rw [iL ha, gG, gG] at h;exact h.mono fun e M2 ρ2 w2 hq => by
   cases e with
   | normal => exact ⟨⟨hq.1, hq.2.2⟩, hq.2.1⟩
   | _ => exact hq
theorem Pj {id : Nat} {next : List Nat → Rf → World → Prop} (h : next M ρ w) : HW (uh M (IB id (yh next Q))) .normal ρ w := h
theorem Jw {M0 : List Nat} {next : List Nat → Rf → World → Prop} (h : next (M ++ M0) ρ w) : HW (uh M (fun e M2 ρ2 w2 => yh next Q e (M2 ++ M0) ρ2 w2)) .normal ρ w := h
theorem LD {M0 : List Nat} {id : Nat} {next next' : List Nat → Rf → World → Prop} (h : next' M0 ρ w) : HW (fun e M2 ρ2 w2 => yh next (IB id (yh next' Q)) e (M2 ++ M0) ρ2 w2) (.exit id) ρ w := by
 show if id = id then yh next' Q .normal ([] ++ M0) ρ w else yh next' Q (.exit id) ([] ++ M0) ρ w
 rw [T2 rfl];exact h
end
structure Marks (w0 : World) (M : List Nat) (w : World) : Prop where
 at_ : ∀ D ∈ M, w0.heap.size ≤ D ∧ w.heap[D]? = some (.deferred (some []))
 nd : M.Nodup
theorem EW (M : List Nat) : (pP M).filterMap HE.id = M := by
 induction M with
 | nil => rfl
 | cons D M ih => rw [show pP (D :: M) = .ob D (.deferred (some [])) :: pP M from rfl, VR, show HE.id (.ob D (.deferred (some []))) = some D from rfl]; simp only [ih]
theorem Hp.marks {H : List HE} (h : Hp w0 (H ++ pP M) w) : Marks w0 M w := by
 refine ⟨fun D hD => h.own (.ob D (.deferred (some []))) (VK _ (List.mem_map_of_mem (f := fun D => HE.ob D (.deferred (some []))) hD)), ?_⟩;have := h.nd;rw [Ws, EW] at this;exact (WK.1 this).2.1
theorem Hp.OI {H : List HE} (h : Hp w0 H w) (hc : ∀ x ∈ H, x.Qh = true) (hm : Marks w0 M w) : Hp w0 (H ++ pP M) w := by
 refine ⟨h.below, fun x hx => ?_, ?_⟩
 ·rcases UD.1 hx with hx | hx
  ·exact h.own x hx
  ·obtain ⟨D, hD, rfl⟩ := Ui.1 hx;exact hm.at_ D hD
 ·rw [Ws, EW];refine WK.2 ⟨h.nd, hm.nd, fun a ha b hb e => ?_⟩;subst e;obtain ⟨y, hy, hyb⟩ := Vd.1 ha;obtain ⟨o', h2, h3⟩ := tg (h.own y hy) (hc y hy) hyb;rw [(hm.at_ a hb).2] at h2
  cases h2
  cases h3
theorem Marks.keeps (h : Marks w0 M w) (hk : KeepsOthers w w') : Marks w0 M w' := ⟨fun D hD => ⟨(h.at_ D hD).1, hk.2 D _ (h.at_ D hD).2 rfl⟩, h.nd⟩
theorem Marks.grown {ws : World} (h : Marks w0 M w) (hlt : ∀ D ∈ M, D < ws.heap.size) {row : Option Nat} (hg : w.grownBy w' row) (hr : ∀ r, row = some r → ws.heap.size ≤ r) : Marks w0 M w' := by
 refine ⟨fun D hD => ⟨(h.at_ D hD).1, ?_⟩, h.nd⟩;have h1 := (h.at_ D hD).2;refine (hg.block D (WX.1 h1).1 fun e => ?_).trans h1;have := hr D e.symm;have := hlt D hD;omega
theorem Marks.lt (h : Marks w0 M w) : ∀ D ∈ M, D < w.heap.size := fun D hD => (WX.1 (h.at_ D hD).2).1
theorem Marks.cons {ws : World} {D : Nat} (h : Marks w0 M w) (hlt : ∀ D ∈ M, D < ws.heap.size) (h0 : w0.heap.size ≤ ws.heap.size) (hD : ws.heap.size ≤ D) (h1 : w.heap[D]? = some (.deferred (some []))) : Marks w0 (D :: M) w := by
 refine ⟨fun E hE => ?_, V2.2 ⟨fun hm => ?_, h.nd⟩⟩
 ·rcases Ul.1 hE with rfl | hE
  ·exact ⟨TX, h1⟩
  ·exact h.at_ E hE
 ·have := hlt D hm;omega
theorem Hp.PD {L : List HE} (h : Hp w0 L w) (hs : (pP M).Sublist L) : Marks w0 M w := Hp.marks (H := []) (h.sub hs)
theorem Hp.OO {x y : HE} {T T' : List HE} {b : Nat} (hs : Hp w0 (x :: T) w) (hc : ∀ z ∈ x :: T, z.Qh = true) (he : Hp w0 (y :: (T' ++ BK w0.heap.size ((x :: T).filterMap HE.id) w)) w') (hid : T'.filterMap HE.id = T.filterMap HE.id) (hy : y.id = some b) : KeepsOthers w w' := by
 have hoth : ∀ k, k < w.heap.size → w0.heap.size ≤ k → k ∉ (x :: T).filterMap HE.id → ∃ o, w.heap[k]? = some o ∧ HE.ob k o ∈ BK w0.heap.size ((x :: T).filterMap HE.id) w := fun k hk h0 hm => ⟨w.heap[k], Wg hk, Vd.2 ⟨k, UT.2 hk, by
  unfold KE;rw [T2 ⟨h0, by simpa using hm⟩, Wg hk]
  rfl⟩⟩
 have hob : ∀ z ∈ BK w0.heap.size ((x :: T).filterMap HE.id) w, z ∈ y :: (T' ++ BK w0.heap.size ((x :: T).filterMap HE.id) w) := fun z hz => Uf _ (VK _ hz);have hbl := dK (he.own y Uc) hy;have hnd := he.nd;rw [VR, hy] at hnd;have hnd1 := (V2.1 hnd).1;refine ⟨?_, fun k o h1 h2 => ?_⟩
 ·rcases VZ w.heap.size with h | h
  ·omega
  ·have hk : w.heap.size - 1 < w.heap.size := TX;by_cases h0 : w.heap.size - 1 < w0.heap.size
   ·have := he.size;omega
   ·by_cases hm : w.heap.size - 1 ∈ (x :: T).filterMap HE.id
    ·rw [VR] at hm;have hT : w.heap.size - 1 ∈ T.filterMap HE.id → w.heap.size ≤ w'.heap.size := fun hm => by
      obtain ⟨z, hz, hzb⟩ := Vd.1 (hid ▸ hm);have := (dK (he.own z (Uf _ (VT _ hz))) hzb).2;omega
     split at hm
     ·exact hT hm
     ·rename_i r hr
      rcases Ul.1 hm with e | hm
      ·by_cases hb : b < w.heap.size
       ·by_cases hbk : b = w.heap.size - 1
        ·omega
        ·exfalso;by_cases hbm : b ∈ (x :: T).filterMap HE.id
         ·rw [VR, hr] at hbm
          rcases Ul.1 hbm with e2 | hbm
          ·omega
          ·rw [← hid] at hbm;exact hnd1 (by rw [Ws]; exact VT _ hbm)
         ·obtain ⟨o, _, h3⟩ := hoth b hb hbl.1 hbm;exact hnd1 (by rw [Ws]; exact VK _ (Vd.2 ⟨_, h3, rfl⟩))
       ·omega
      ·exact hT hm
    ·obtain ⟨o, _, h3⟩ := hoth _ hk TX hm;have := (dK (he.own _ (hob _ h3)) rfl).2;omega
 ·have hk := (WX.1 h1).1;by_cases h0 : k < w0.heap.size
  ·exact (he.below.block k h0).trans ((hs.below.block k h0).symm.trans h1)
  ·by_cases hm : k ∈ (x :: T).filterMap HE.id
   ·obtain ⟨z, hz, hzb⟩ := Vd.1 hm;obtain ⟨o', h3, h4⟩ := tg (hs.own z hz) (hc z hz) hzb;rw [h1] at h3
    cases h3
    rw [h2] at h4
    cases h4
   ·obtain ⟨o', h3, h4⟩ := hoth k hk TX hm;rw [h1] at h3
    cases h3
    exact (he.own _ (hob _ h4)).2
def lO (d : Nat) (t : Dyadic) (xs : List Dyadic) (i : Nat) : Dyadic := sm (List.range i) fun r => jm xs r * jx d r t
theorem Fp (d : Nat) (t : Dyadic) (xs : List Dyadic) (i : Nat) : lO d t xs (i + 1) = lO d t xs i + jm xs i * jx d i t := by
 unfold lO;rw [Wh, jz]
theorem yk {d i : Nat} {t : Dyadic} (hx : ∀ x ∈ xs, Sz k x) (ht : Sz q t) (ht1 : Sz q (1 - t)) (hi : i ≤ d + 1) : Sz (k + (2 + 2 * (q * d)) + i) (lO d t xs i) := by
 have h2 := zi (l := List.range i) (f := fun r => jm xs r * jx d r t) (k := k + (2 + 2 * (q * d))) fun r hr => by
  have hr := UT.1 hr;unfold jx;exact ((xp hx r).mul ((ht.zU (show r ≤ d by omega)).mul (ht1.zU (show d - r ≤ d by omega)))).mono TX
 rw [V6] at h2;exact h2
theorem vf (tn : NR) (t : Dyadic) (bt bl : Addr) (L : Option Addr) (n c d : Nat) (xs : List Dyadic) (k q : Nat) (w : World) (hT : eh w) (hS : Sl w L n 3 (az NR.cells (xs.map nR))) (hn : n = d + 1) (hd : d ≤ 127) (hx : ∀ x ∈ xs, Sz k x) (vt : MU q tn t) (ht1 : Sz q (1 - t))
  (hb1 : Rd w bt [.bool tn.neg, .string tn.bz, .int .i64 tn.e]) (hb2 : Rd w bl [.bool (nR (1 - t)).neg, .string (nR (1 - t)).bz, .int .i64 (nR (1 - t)).e]) (hk : k ≤ 500000) (hq : q ≤ 2000) :
  Calls Tryz.prog 191 #[.slice L n c, .pointer (some bt), .pointer (some bl)] w fun r w' => r = .returned (.agg #[.bool (nR (lO d t xs (d + 1))).neg, .string (nR (lO d t xs (d + 1))).bz, .int .i64 (nR (lO d t xs (d + 1))).e]) ∧ Below w.heap.size w w' := by
 have hh := Hp.start w;have hln : xs.length = n := by have := hS.bq NR.len TY; simpa using this
 have hqd : q * d ≤ 2000 * 127 := Vs hq hd;have ht := vt.sz;have hpw : ∀ (sn : NR) (z : Dyadic), MU q sn z → ∀ (i : Nat), i ≤ d → ∀ w1, eh w1 → Calls Tryz.prog 51 #[.agg #[.bool sn.neg, .string sn.bz, .int .i64 sn.e], .int .i64 (i : Int)] w1 fun r w' => r = .returned (.agg #[.bool (nR (z ^ i)).neg, .string (nR (z ^ i)).bz, .int .i64 (nR (z ^ i)).e]) ∧ Below w1.heap.size w1 w' := fun sn z hz i hi w1 hT1 => by
  have h1 := hz.bz;have h2 : i * sn.bz.size ≤ 127 * 2001 := Vs TX TX;have := oE sn i w1 hT1 hz.ok (by rw [Vp]; omega) TX;rwa [hz.d, Vp] at this
 obtain ⟨ad, rfl, hr⟩ := hS.at_ TX;refine aj (N := 35) (l := [.slice (some ad) n c, .pointer (some bt), .pointer (some bl)]) Tryz.func191 rfl rfl (by simp) ?_;refine sr ?_;refine bV hh ?_;intro b4 w4 hh;refine aa (sr (mL (aJ ?_)));refine dY (aI (aa (sr ?_)));refine bV hh ?_;intro b6 w6 hh;refine vS ?_;refine aP [7, 8, 14, 15, 16, 17, 18, 19, 20, 21, 22, 23, 24, 25, 26, 27, 28, 29, 30, 31, 32, 33] 14
  (fun v w' => ∃ i : Nat, i ≤ n ∧ v = .int .i64 i ∧ Hp w [.blk b6 65 [.bool (nR (lO d t xs i)).neg, .string (nR (lO d t xs i)).bz, .int .i64 (nR (lO d t xs i)).e] (0, 0), .blk b4 65 [.bool false, .string (ByteArray.mk #[]), .int .i64 0] (0, 0)] w')
  (fun v _ => n - (intOf v).toNat) ?_ ?_
 ·exact ⟨0, T6 _, rfl, hh⟩
 ·clear hh;rintro ρ' v w' ⟨i, hi, rfl, hh⟩;by_cases hlt : i < n
  ·obtain ⟨x, hxi⟩ := ak (l := xs) (k := i) TX;have hxn : (xs.map nR)[i]? = some (nR x) := by rw [Ue, hxi]; rfl
   have hat : jm xs i = x := by unfold jm; rw [hxi]; rfl
   have zx := hx x (T7 hxi);have hpa := hpw tn t vt i TX;have hpb := hpw (nR (1 - t)) (1 - t) (MU.of ht1 hq) (d - i) TX;have zp := ht.zU (show i ≤ d by omega);have zq := ht1.zU (show d - i ≤ d by omega);have zo := yk (d := d) (i := i) hx ht ht1 TX;have zy := (zx.mul zp).mul zq;have hst := Fp d t xs i;unfold jx at hst;rw [hat, ← Dyadic.mul_assoc] at hst;have hm3 := fun A cc w1 hT1 hS1 => eI A 3 cc [nR x, nR (t ^ i), nR ((1 - t) ^ (d - i))] w1 hT1 hS1 (by simpa using ⟨zx.ok TX, zp.ok TX, zq.ok TX⟩) 600000 (by simpa [bR] using ⟨zx.mono TX, zp.mono TX, zq.mono TX⟩) TX TX;rw [show g8 ([nR x, nR (t ^ i), nR ((1 - t) ^ (d - i))].map NR.d) = x * t ^ i * (1 - t) ^ (d - i) by simp only [Ut, UR, bR]; show 1 * x * _ * _ = _; rw [V4]] at hm3;generalize x * t ^ i * (1 - t) ^ (d - i) = y at *;have hsum := fun A cc w1 hT1 hS1 => iY A 2 cc [nR (lO d t xs i), nR y] w1 hT1 hS1 (by simpa using ⟨zo.ok TX, zy.ok TX⟩) 2000000 (by simpa [bR] using ⟨zo.mono TX, zy.mono TX⟩) TX;rw [show mg ([nR (lO d t xs i), nR y].map NR.d) = lO d t xs i + y by simp only [Ut, UR, bR, kS], ← hst] at hsum;generalize hS2 : lO d t xs (i + 1) = S2 at *
   generalize lO d t xs i = S1 at *;have e27 : (n : Int) - 1 - (i : Int) = ((d - i : Nat) : Int) := TX;refine sr ?_;refine ek ?_;refine uO ?_;refine Hk ?_;refine bV hh ?_;intro b8 w8 hh;refine aI ?_;refine bW hh 0 [_,_,_] ?_;intro ws hh;replace hh : Hp _ (.blk _ _ [_, _, _] _ :: _) _ := hh;refine aa ?_;rw [← e27] at hpb;refine aV 12 [[(6, none)], [(8, none)], [(1, none)], [(7, none)], [(21, some 2), (22, some 3)], [(2, none)], [(5, none)], [(7, none)], [(25, some 6), (26, some 7)], [(24, some 5), (27, some 8)], [(20, some 1), (23, some 4), (28, some 9)], [(29, some 10)]] [(11, 30), (10, 29), (9, 28), (8, 27), (7, 26), (6, 25), (5, 24), (4, 23), (3, 22), (2, 21), (1, 20), (0, 19)] hh mixed TZ ?_;refine fU 1 [_,_,_] ?_;refine fU 0 [_,_,_] ?_;refine r9 [_,_,_] (fun _ hj => hb1.ext hj.hp.below) ?_;refine dF ?_;refine dC (fun _ hj => hpa _ (hT.hp hj.hp)) ?_;refine r9 [_,_,_] (fun _ hj => hb2.ext hj.hp.below) ?_;refine dF ?_;refine dF ?_;refine vg ?_;refine dC (fun _ hj => hpb _ (hT.hp hj.hp)) ?_;refine tQ [_,_,_,_,_,_,_,_,_] ?_;refine aT (i := 11) (Is (.agg #[.bool (nR y).neg, .string (nR y).bz, .int .i64 (nR y).e])) Is.ext ?_ ?_
   ·intro ρ1 w1 hj hR;obtain ⟨A29, c29, h29, s29⟩ := hR.1;exact bf rfl (aO al.out (aw h29 aZ)) (hm3 A29 c29 _ (hT.hp hj.hp) s29) (fun _ _ hq => ⟨_, hq.1, hq.2, rfl⟩)
   refine aR ?_;intro f W hJ hV;have hb_6 := hJ.bl;obtain ⟨v30, v29, v28, v27, v26, v25, v24, v23, v22, v21, v20, v19, _⟩ := hV;obtain ⟨A29, c29, e29, f29⟩ : Rows _ _ _ (f 10) W := v29;replace hh := hJ.hp;refine aY (br (ae v30 (ae e29 (ae v28 (ae v27 (ae v26 (ae v25 (ae v24 (ae v23 (ae v22 (ae v21 (ae v20 (ae v19 aX))))))))))))) ?_;dsimp only [cf];clear e29 hJ;refine s9 ?_;intro b31 w31 hh;refine bD hh (hsum _ _ _ (hT.hp hh) (hh.aC (i := 0) rfl)) rfl ?_;intro w32 hh;refine bW hh 2 [_,_,_] ?_;intro ws hh;replace hh : Hp _ (_ :: _ :: .blk _ _ [_, _, _] _ :: _) _ := hh;refine fM ?_;refine bj (mI (aA (ai ?_)));replace hh := hh.sub (T8 _ (T8 _ (T4 _ (T4 _ UA))));refine ⟨⟨i + 1, TX, rfl, by rw [hS2]; exact hh⟩, by show n - (i + 1) < n - i; omega, ?_⟩;exact dQ
  ·obtain rfl : i = n := TX;rw [show i = d + 1 from hn] at hh;refine sr ?_;refine mM ?_;refine cG hh 0 [_,_,_] ?_;exact PJ
theorem xL (tn : NR) (t : Dyadic) (q : Nat) (w : World) (hT : eh w) (vt : MU q tn t) (hq : q ≤ 2000) :
  Calls Tryz.prog 125 #[.agg #[.bool tn.neg, .string tn.bz, .int .i64 tn.e]] w fun r w' => ∃ b1 b3, r = .returned (.func (.func 191) #[] #[.pointer (some ⟨b1, 0, none⟩), .pointer (some ⟨b3, 0, none⟩)]) ∧ Hp w [.blk b3 65 [.bool (nR (1 - t)).neg, .string (nR (1 - t)).bz, .int .i64 (nR (1 - t)).e] (0, 0), .blk b1 65 [.bool tn.neg, .string tn.bz, .int .i64 tn.e] (0, 0)] w' := by
 have hh := Hp.start w;have hof : ∀ w1, eh w1 → Calls Tryz.prog 50 #[.int .i64 1] w1 fun r w' => r = .returned (.agg #[.bool (nR (1 : Dyadic)).neg, .string (nR (1 : Dyadic)).bz, .int .i64 (nR (1 : Dyadic)).e]) ∧ Below w1.heap.size w1 w' := fun w1 hT1 => jI 1 w1 hT1 TY TY;have hsb := fun w1 hT1 => j6 (nR (1 : Dyadic)) tn w1 hT1 (Sz.one.ok TX) vt.ok (q + 1) (by rw [bR]; exact Sz.one.mono TX) (by rw [vt.d]; exact vt.sz.mono TX) TX;simp only [bR, vt.d] at hsb;refine aj (N := 8) (l := [.agg #[.bool tn.neg, .string tn.bz, .int .i64 tn.e]]) Tryz.func125 rfl rfl (by simp) ?_;refine sr ?_;refine cD hh [_,_,_] ?_;intro b1 w1 hh;refine jW (by first | exact rX rfl | exact sg rfl) TY ?_;refine aa (ah ?_);refine aV 4 [[], [(1, none)], [(4, some 0), (5, some 1)], []] [(3, 3), (2, 6), (1, 5), (0, 4)] hh mixed TZ ?_;refine dC (fun _ hj => hof _ (hT.hp hj.hp)) ?_;refine fU 0 [_,_,_] ?_;refine dC (fun _ hj => hsb _ (hT.hp hj.hp)) ?_;refine aT (i := 3) (dt _ 65 _) dt.ext (fun ρ1 w1 hj hR => jN aK.out hj.bl (fun v w2 h hb => ⟨hb, h⟩)) ?_;refine aR ?_;intro f W hJ hV;have hb_1 := hJ.bl;obtain ⟨v3, v6, v5, v4, _⟩ := hV;obtain ⟨b3, e3, hl3, hc3⟩ : dt _ _ _ (f 3) W := v3;replace hh := hJ.newVar hh hl3 hc3
 refine aY (br (ae e3 (ae v6 (ae v5 (ae v4 aX))))) ?_;dsimp only [cf];clear e3 hJ;refine bW hh 0 [_,_,_] ?_;intro ws hh;replace hh : Hp _ (.blk _ _ [_, _, _] _ :: _) _ := hh;refine aa (sr ?_);exact Ql
theorem Sl.part {l : List NR} (h : Sl w (some ad) n 3 (az NR.cells l)) (p m : Nat) (hpm : p + m ≤ n) (hm : 0 < m) : Sl w (some (ad.add (p * 3))) m 3 (az NR.cells ((l.drop p).take m)) := by
 have hl := h.bq NR.len TY;obtain ⟨ad', e, r⟩ := h.2 TX;obtain rfl : ad = ad' := UN e;refine ⟨by rw [eP NR.len, Us, Vn, hl, U0 TX], fun _ => ⟨_, rfl, fun j u hu => ?_⟩⟩;rw [lU];refine r (p * 3 + j) u ?_;rw [← k5 NR.len, ← jK NR.len, VG] at hu;split at hu
 ·rw [VD] at hu;exact hu
 ·cases hu
def mJ (K q : Nat) (X : List Dyadic) : List Dyadic := (X.drop (q * K)).take K
theorem wH (K q : Nat) (X : List Dyadic) : ((X.map nR).drop (q * K)).take K = (mJ K q X).map nR := by unfold mJ; rw [WM, Wv]
theorem qE {K : Nat} {x : Dyadic} (h : x ∈ mJ K q X) : x ∈ X := Xa (Wa h)
theorem vN {d : Nat} (t : Dyadic) (X : List Dyadic) : lO d t (mJ (d + 1) q X) (d + 1) = sm (List.range (d + 1)) fun r => (X[r + (d + 1) * q]?).getD 0 * jx d r t := by
 unfold lO;refine bo fun r hr => ?_;have hr := UT.1 hr;unfold jm mJ;rw [VG, T2 hr, VD, show q * (d + 1) + r = r + (d + 1) * q by rw [UC]; omega]
theorem Ji {d : Nat} (t : Dyadic) (X : List Dyadic) (h : q < m) : (kU d t m X)[q]? = some (lO d t (mJ (d + 1) q X) (d + 1)) := by
 unfold kU;rw [Ue, UY h, vN]
 rfl
theorem Hf {d : Nat} {t : Dyadic} (hx : ∀ x ∈ X, Sz k x) (ht : Sz q t) (ht1 : Sz q (1 - t)) : ∀ x ∈ kU d t m X, Sz (k + (2 + 2 * (q * d)) + (d + 1)) x := fun x h => by
 obtain ⟨p, _, rfl⟩ := Ui.1 h;rw [← vN];exact yk (fun y hy => hx y (qE hy)) ht ht1 (T5 _)
theorem BJ {ns : List Nat} {ts : List Dyadic} {i d : Nat} {t : Dyadic} (X : List Dyadic) (hd : ns[i]? = some d) (ht : ts[i]? = some t) : nG (ns.take (i + 1)).reverse (ts.take (i + 1)).reverse X = nG (ns.take i).reverse (ts.take i).reverse (kU d t (av (ns.take i)) X) := by
 rw [ay hd, ay ht, List.reverse_append, List.reverse_append];show nG (d :: (ns.take i).reverse) (t :: (ts.take i).reverse) X = _;rw [nG, cU]
def Ha (fx : FX) (m : Nat) : Int := if fx.e ≠ 0 then fx.e else if m ≠ fx.n then 1 else 0
def Md (fx : FX) (tn : List NR) : Dyadic := if Ha fx tn.length = 0 then mC fx.ns.reverse (fx.cs.map NR.d) (tn.map NR.d).reverse else 0
variable {fuel : Nat} {next : Rf → World → Prop} {rs : List Nat}
section
variable {P : Program} {N : Nat} {Q : Kq} {ρ : Rf} {w : World} {ro : Option Nat} {D : List Deferred}
structure WR (ro : Option Nat) (D : List Deferred) (P : Program) (N : Nat) (ops : Array Oper) (Q : Kq) (fuel : Nat) (L : Array Bool) (ρ : Rf) (w : World) : Prop where
 out : ∀ a, ew N D a ρ → ∀ n, wpAnyIn (FW ro) n P .any ops (dw N D Q) fuel L a w
theorem xR {F : Fence} {o : Oper} {a : Act} {K : Act → World → Prop} {r : Result Next} (h : o.uponIn F n P a K (dw N D (cx next Q)) r) : o.uponIn F n P a K (dw N D Q) r := by
 have hp : ∀ c a w, dw N D (cx next Q) (.panic c) a w → dw N D Q (.panic c) a w := fun _ _ _ h => h;have ho : LetsOut (dw N D (cx next Q)) → LetsOut (dw N D Q) := fun ⟨a, w, h⟩ => ⟨a, w, h⟩
 cases r with
 | ok n w' =>
  cases n <;> simp only [Oper.uponIn] at h ⊢ <;> first
   | exact h
   | exact ⟨h.1, CallsIn.mono h.2 (fun e w'' he => by cases e <;> first | exact he | exact hp _ _ _ he | exact ho he)⟩
   | exact ⟨h.1, RoundIn.mono h.2 (fun e w'' he => by cases e <;> first | exact he | exact hp _ _ _ he | exact ho he)⟩
 | halt x w' => cases x <;> simp only [Oper.uponIn] at h ⊢ <;> first | exact h | exact hp _ _ _ h | exact ho h
theorem yr {L : Array Bool} (hr : Region.ready .any ops L = rs) (hne : rs ≠ [])
  (h : ∀ i ∈ rs, ∃ o, ops[i]? = some o ∧ WL ⟨ro, D, true⟩ P N ops (cx (fun ρ w => WR ro D P N ops Q fuel (L.setIfInBounds i true) ρ w) Q) [o] ρ w) : WR ro D P N ops Q (fuel + 1) L ρ w := by
 refine ⟨fun a hf n => ⟨fun e => absurd (hr.symm.trans e) hne, fun i hi => ?_⟩⟩;rw [hr] at hi;obtain ⟨o, ho, hw⟩ := h i hi;have h1 := hw.jB a hf n;have hK : ∀ a w, wpListIn (FW ro) n P ops (dw N D (cx (fun ρ w => WR ro D P N ops Q fuel (L.setIfInBounds i true) ρ w) Q)) [] a w → wpAnyIn (FW ro) n P .any ops (dw N D Q) fuel (L.setIfInBounds i true) a w := fun a w ⟨ρ', hf', hq⟩ => by
  have hq' : WR ro D P N ops Q fuel (L.setIfInBounds i true) ρ' w := hq;exact hq'.out a hf' n
 unfold wpOpIn;rw [ho];simp only [];unfold wpListIn at h1;split at h1
 ·rename_i hwt;rw [T2 hwt];have h2 := Oper.wpIn_mono hK h1;unfold Oper.wpIn at h2 ⊢;exact ⟨h2.1, xR h2.2⟩
 ·rename_i hwt;rw [T3 hwt];exact ⟨h1.1, hK _ _ h1.2⟩
theorem PU {L : Array Bool} (hr : Region.ready .any ops L = []) (h : Q .normal ρ w) : WR ro D P N ops Q fuel L ρ w :=
 ⟨fun a hf n => by
  cases fuel with
  | zero => exact ⟨hr, ρ, hf, h⟩
  | succ fuel => exact ⟨fun _ => ⟨ρ, hf, h⟩, fun i hi => by rw [hr] at hi; cases hi⟩⟩
theorem Hi {id : Nat} {l : List Oper} {H : List HE} (hh : Hp w0 H w) (hm : P.follows .mixedOrders = true) (h : ∀ w', JJ w0 H w w' → WR ro D P N l.toArray Q l.length (Array.replicate l.length false) ρ w') : WC ⟨ro, D, true⟩ P N (.region id l.toArray true) Q ρ w := by
 refine ⟨fun h => (by cases h), fun a hf n => wpIn_region_any hm ?_⟩;have hb : Below w.heap.size w ({ w with drawn := w.drawn + 1 } : World) := ⟨rfl, rfl, rfl, T5 _, fun _ _ => rfl⟩;have := (h _ ((JJ.start hh).ext hb)).out a hf n;simpa using this
theorem yg {F : Fence} {o : Oper} {a : Act} {K : Act → World → Prop} {Q1 Q2 : Exit → Act → World → Prop} {r : Result Next} (hq : ∀ e a w, Q1 e a w → Q2 e a w) (h : o.uponIn F n P a K Q1 r) : o.uponIn F n P a K Q2 r := by
 have ho : LetsOut Q1 → LetsOut Q2 := fun ⟨a, w, h⟩ => ⟨a, w, hq _ _ _ h⟩
 cases r with
 | ok n w' =>
  cases n <;> simp only [Oper.uponIn] at h ⊢ <;> first
   | exact h
   | exact ⟨h.1, CallsIn.mono h.2 (fun e w'' he => by cases e <;> first | exact he | exact hq _ _ _ he | exact ho he)⟩
   | exact ⟨h.1, RoundIn.mono h.2 (fun e w'' he => by cases e <;> first | exact he | exact hq _ _ _ he | exact ho he)⟩
 | halt x w' => cases x <;> simp only [Oper.uponIn] at h ⊢ <;> first | exact h | exact hq _ _ _ h | exact ho h
theorem qB {o : Oper} {A B : Rf → World → Prop} (h : WL ⟨ro, D, true⟩ P N ops (cx A oP) [o] ρ w) (hi : ∀ ρ w, A ρ w → B ρ w) : WL ⟨ro, D, true⟩ P N ops (cx B Q) [o] ρ w := by
 refine ⟨fun h => (by cases h), fun a hf n => ?_⟩;have h1 := h.jB a hf n;have hq : ∀ e a w, dw N D (cx A oP) e a w → dw N D (cx B Q) e a w := fun e a w ⟨ρ', hf', hk⟩ => ⟨ρ', hf', by
  cases e with
  | normal => exact hi _ _ hk
  | _ => exact hk.elim⟩
 unfold wpListIn at h1 ⊢;split at h1
 ·rename_i hwt;rw [T2 hwt];have h2 := Oper.wpIn_mono (K' := wpListIn (FW ro) n P ops (dw N D (cx B Q)) []) (fun a w h => hq .normal a w h) h1;unfold Oper.wpIn at h2 ⊢;exact ⟨h2.1, yg hq h2.2⟩
 ·rename_i hwt;rw [T3 hwt];exact ⟨h1.1, hq .normal _ _ h1.2⟩
theorem JS {o0 o1 o2 o3 o4 o5 o6 : Oper} {I : Bool → Bool → Bool → Bool → Bool → Rf → World → Prop} {J K : Rf → World → Prop}
  (e0 : ops[0]? = some o0) (e1 : ops[1]? = some o1) (e2 : ops[2]? = some o2) (e3 : ops[3]? = some o3) (e4 : ops[4]? = some o4) (e5 : ops[5]? = some o5) (e6 : ops[6]? = some o6)
  (r0 : Region.ready .any ops #[false, false, false, false, false, false, false] = [0, 1, 2])
  (r1 : Region.ready .any ops #[false, true, false, false, false, false, false] = [0, 2])
  (r2 : Region.ready .any ops #[false, false, true, false, false, false, false] = [0, 1])
  (r3 : Region.ready .any ops #[false, true, true, false, false, false, false] = [0, 3])
  (r4 : Region.ready .any ops #[false, true, true, true, false, false, false] = [0, 4])
  (r5 : Region.ready .any ops #[false, true, true, true, true, false, false] = [0])
  (q0 : Region.ready .any ops #[true, false, false, false, false, false, false] = [1, 2])
  (q1 : Region.ready .any ops #[true, true, false, false, false, false, false] = [2])
  (q2 : Region.ready .any ops #[true, false, true, false, false, false, false] = [1])
  (q3 : Region.ready .any ops #[true, true, true, false, false, false, false] = [3])
  (q4 : Region.ready .any ops #[true, true, true, true, false, false, false] = [4])
  (q5 : Region.ready .any ops #[true, true, true, true, true, false, false] = [5])
  (q6 : Region.ready .any ops #[true, true, true, true, true, true, false] = [6])
  (q7 : Region.ready .any ops #[true, true, true, true, true, true, true] = [])
  (s0 : ∀ a b e g ρ w, I false a b e g ρ w → WL ⟨ro, D, true⟩ P N ops (cx (fun ρ w => I true a b e g ρ w) oP) [o0] ρ w)
  (s1 : ∀ c b ρ w, I c false b false false ρ w → WL ⟨ro, D, true⟩ P N ops (cx (fun ρ w => I c true b false false ρ w) oP) [o1] ρ w)
  (s2 : ∀ c a ρ w, I c a false false false ρ w → WL ⟨ro, D, true⟩ P N ops (cx (fun ρ w => I c a true false false ρ w) oP) [o2] ρ w)
  (s3 : ∀ c ρ w, I c true true false false ρ w → WL ⟨ro, D, true⟩ P N ops (cx (fun ρ w => I c true true true false ρ w) oP) [o3] ρ w)
  (s4 : ∀ c ρ w, I c true true true false ρ w → WL ⟨ro, D, true⟩ P N ops (cx (fun ρ w => I c true true true true ρ w) oP) [o4] ρ w)
  (s5 : ∀ ρ w, I true true true true true ρ w → WL ⟨ro, D, true⟩ P N ops (cx J oP) [o5] ρ w)
  (s6 : ∀ ρ w, J ρ w → WL ⟨ro, D, true⟩ P N ops (cx K oP) [o6] ρ w)
  (fin : ∀ ρ w, K ρ w → Q .normal ρ w) (st : I false false false false false ρ w) : WR ro D P N ops Q 7 #[false, false, false, false, false, false, false] ρ w := by
 have one : ∀ {fuel : Nat} {L : Array Bool} {i : Nat} {o : Oper} {ρ : Rf} {w : World} {A : Rf → World → Prop}, Region.ready .any ops L = [i] → ops[i]? = some o → WL ⟨ro, D, true⟩ P N ops (cx A oP) [o] ρ w → (∀ ρ w, A ρ w → WR ro D P N ops Q fuel (L.setIfInBounds i true) ρ w) → WR ro D P N ops Q (fuel + 1) L ρ w := fun hr ho h hi =>
  yr hr (by simp) fun j hj => by
   obtain rfl := Un.1 hj;exact ⟨_, ho, qB h hi⟩
 have two : ∀ {fuel : Nat} {L : Array Bool} {i j : Nat} {o p : Oper} {ρ : Rf} {w : World} {A B : Rf → World → Prop}, Region.ready .any ops L = [i, j] → ops[i]? = some o → ops[j]? = some p → WL ⟨ro, D, true⟩ P N ops (cx A oP) [o] ρ w → (∀ ρ w, A ρ w → WR ro D P N ops Q fuel (L.setIfInBounds i true) ρ w) → WL ⟨ro, D, true⟩ P N ops (cx B oP) [p] ρ w → (∀ ρ w, B ρ w → WR ro D P N ops Q fuel (L.setIfInBounds j true) ρ w) → WR ro D P N ops Q (fuel + 1) L ρ w := fun hr ho hp h hi h2 hi2 =>
  yr hr (by simp) fun k hk => by
   rcases Ul.1 hk with rfl | hk
   ·exact ⟨_, ho, qB h hi⟩
   ·obtain rfl := Un.1 hk;exact ⟨_, hp, qB h2 hi2⟩
 have n7 : ∀ ρ w, K ρ w → WR ro D P N ops Q 0 #[true, true, true, true, true, true, true] ρ w := fun ρ w h => PU q7 (fin ρ w h);have n6 : ∀ ρ w, J ρ w → WR ro D P N ops Q 1 #[true, true, true, true, true, true, false] ρ w := fun ρ w h => one q6 e6 (s6 ρ w h) n7;have n5 : ∀ ρ w, I true true true true true ρ w → WR ro D P N ops Q 2 #[true, true, true, true, true, false, false] ρ w := fun ρ w h => one q5 e5 (s5 ρ w h) n6;have n4 : ∀ ρ w, I true true true true false ρ w → WR ro D P N ops Q 3 #[true, true, true, true, false, false, false] ρ w := fun ρ w h => one q4 e4 (s4 true ρ w h) n5;have m5 : ∀ ρ w, I false true true true true ρ w → WR ro D P N ops Q 3 #[false, true, true, true, true, false, false] ρ w := fun ρ w h => one r5 e0 (s0 _ _ _ _ ρ w h) n5;have m4 : ∀ ρ w, I false true true true false ρ w → WR ro D P N ops Q 4 #[false, true, true, true, false, false, false] ρ w := fun ρ w h => two r4 e0 e4 (s0 _ _ _ _ ρ w h) n4 (s4 false ρ w h) m5;have n3 : ∀ ρ w, I true true true false false ρ w → WR ro D P N ops Q 4 #[true, true, true, false, false, false, false] ρ w := fun ρ w h => one q3 e3 (s3 true ρ w h) n4
 have m3 : ∀ ρ w, I false true true false false ρ w → WR ro D P N ops Q 5 #[false, true, true, false, false, false, false] ρ w := fun ρ w h => two r3 e0 e3 (s0 _ _ _ _ ρ w h) n3 (s3 false ρ w h) m4;have n1 : ∀ ρ w, I true true false false false ρ w → WR ro D P N ops Q 5 #[true, true, false, false, false, false, false] ρ w := fun ρ w h => one q1 e2 (s2 true true ρ w h) n3;have n2 : ∀ ρ w, I true false true false false ρ w → WR ro D P N ops Q 5 #[true, false, true, false, false, false, false] ρ w := fun ρ w h => one q2 e1 (s1 true true ρ w h) n3;have m1 : ∀ ρ w, I false true false false false ρ w → WR ro D P N ops Q 6 #[false, true, false, false, false, false, false] ρ w := fun ρ w h => two r1 e0 e2 (s0 _ _ _ _ ρ w h) n1 (s2 false true ρ w h) m3;have m2 : ∀ ρ w, I false false true false false ρ w → WR ro D P N ops Q 6 #[false, false, true, false, false, false, false] ρ w := fun ρ w h => two r2 e0 e1 (s0 _ _ _ _ ρ w h) n2 (s1 false true ρ w h) m3;have n0 : ∀ ρ w, I true false false false false ρ w → WR ro D P N ops Q 6 #[true, false, false, false, false, false, false] ρ w := fun ρ w h => two q0 e1 e2 (s1 true false ρ w h) n1 (s2 true false ρ w h) n2
 refine yr r0 (by simp) fun k hk => ?_
 rcases Ul.1 hk with rfl | hk
 ·exact ⟨_, e0, qB (s0 _ _ _ _ ρ w st) n0⟩
 ·rcases Ul.1 hk with rfl | hk
  ·exact ⟨_, e1, qB (s1 false false ρ w st) m1⟩
  ·obtain rfl := Un.1 hk;exact ⟨_, e2, qB (s2 false false ρ w st) m2⟩
end
end Go.Proofs.YteeckcbbnegmcaaGreatDoor
