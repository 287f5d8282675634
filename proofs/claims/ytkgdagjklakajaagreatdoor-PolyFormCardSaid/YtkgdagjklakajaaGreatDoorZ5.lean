/- Lemmas for polyForm, part 5. -/
import Derived.Test.YtkgdagjklakajaaGreatDoorZ4
/- The walks through the program's package of products of powers (mono), and through the document's answer's. -/
namespace Go.Proofs.YtkgdagjklakajaaGreatDoor
open Go.RowKit
theorem hZ (s : ByteArray) (n : Int) (w : World) (hs : s.size ≤ 9223372036854775807) :
  Calls Tryz.prog 92 #[.string s, .int .i64 n] w fun e w' => e = .returned (.bool (ep s.data.toList && decide ((s.size : Int) = n))) ∧ Below w.heap.size w w' := by
 refine al (N := 20) (l := [.string s, .int .i64 n]) Tryz.func92 rfl rfl (by simp) ?_
 refine sr (aB (ah (aj (sr (mS ?_)))))
 refine bz aG.out rfl (by decide) ?_
 refine mI (ah (ar ?_))
 refine bA [4, 5, 8, 9, 10, 11, 12, 13, 14, 15] 8
  (fun v w' => ∃ k : Nat, k ≤ s.size ∧ v = .int .i64 k ∧ ep (s.data.toList.take k) = true ∧ w' = w)
  (fun v _ => s.size - (intOf v).toNat) ?_ ?_
 ·exact ⟨0, Nat.zero_le _, rfl, rfl, rfl⟩
 ·rintro ρ' v w' ⟨k, hk, rfl, hm, rfl⟩
  by_cases hlt : k < s.size
  ·obtain ⟨c, hc⟩ := aH (l := s.data.toList) (k := k) (by rw [← dE]; exact hlt)
   have hb := c.toNat_lt
   by_cases h8 : c.toNat < 128
   ·refine sr ?_
    refine aV (ah (aj (cT (ao (ak (aj (ar (sr (mI (aI (ah ?_)))))))))))
    refine sr (mS (mI ?_))
    refine bF aG.out rfl rfl (by omega) (by assumption) (by decide) ?_
    refine cb (ah (cF (ao (aW (ak (aw ?_))))))
    refine bJ (mI (aE (ak ?_)))
    refine ⟨⟨k + 1, by omega, rfl, by rw [aT hc, tH, hm]; simpa using h8, rfl⟩, by show s.size - (k + 1) < s.size - k; omega, ?_⟩
    (repeat (first | exact az _ _ _ | refine aC rfl ?_ | refine ay rfl ?_))
   ·refine sr ?_
    refine aV (ah (aj (cT (ao (ak (aj (ar (sr (mI (aI (ah ?_)))))))))))
    refine sr (mS (mI ?_))
    refine bF aG.out rfl rfl (by omega) (by assumption) (by decide) ?_
    refine cb (ah (cT (sr (aB (ah (aq (bO (aJ (aJ (bO (aJ ?_)))))))))))
    refine cf ?_
    rw [uU hc h8]
    exact ⟨rfl, Below.refl _ _⟩
  ·refine sr ?_
   refine aV (ah (aj (cF ?_)))
   refine aX ?_
   refine aA (aA (bj (ak (sr (mS ?_)))))
   refine bz aG.out rfl (by decide) ?_
   refine mI ?_
   refine tk rfl rfl (by decide) ?_
   refine aB (ah (aq ?_))
   refine cf ?_
   rw [List.take_of_length_le (by rw [← dE]; omega)] at hm
   rw [hm]
   exact ⟨rfl, Below.refl _ _⟩
theorem iV (s : ByteArray) (w : World) (hs : s.size ≤ 9223372036854775807) :
  Calls Tryz.prog 92 #[.string s, .int .i64 s.size] w fun e w' => e = .returned (.bool (ep s.data.toList)) ∧ Below w.heap.size w w' := by
 have h := hZ s s.size w hs
 simpa using h
theorem vB (A : Option Addr) (n c : Nat) (xs : List Int) (w : World) (hsl : Sl w A n 1 (eo xs)) (hn : n ≤ 100000) :
  Calls Tryz.prog 190 #[.slice A n c] w fun e w' => e = .returned (.tuple #[.string (str (xu xs)), .int .i64 (ya xs)]) ∧ Below w.heap.size w w' := by
 have hlen : xs.length = n := by have := hsl.1; rw [ez] at this; omega
 have hh := Hp.start w
 refine al (N := 27) (l := [.slice A n c]) Tryz.func190 rfl rfl (by simp) ?_
 refine sr (aS (aI (ah (sr (aL (ah (aj (sr (mL (a0 (mI ?_)))))))))))
 refine ah (ar ?_)
 refine cE [2, 3, 4, 6, 9, 10, 11, 12, 13, 14, 15, 16, 17, 18, 19, 20, 21, 22, 23, 24] 4 9
  (fun b i w' => ∃ (k c' : Nat) (A' : Option Addr), k ≤ n ∧ i = .int .i64 k ∧ b = .slice A' k c' ∧ (xs.take k).all fC = true ∧ Hp w [.row A' k c' 5 1 (jM ((xs.take k).map wo))] w')
  (fun _ v _ => n - (intOf v).toNat) ?_ ?_
 ·exact ⟨0, 0, none, Nat.zero_le _, rfl, rfl, rfl, hh.eU _ _⟩
 ·clear hh
  rintro ρ' b i w' ⟨k, c', A', hk, rfl, rfl, hall, hh⟩
  by_cases hlt : k < n
  ·obtain ⟨x, hx⟩ := aH (l := xs) (k := k) (by omega)
   obtain ⟨ad, rfl, hr⟩ := (hsl.ext hh.below).at_ (by omega)
   by_cases h0 : x < 0
   ·refine sr ?_
    refine aV (ah (aj (cT (ao (ak (aj (ar (sr ?_))))))))
    refine fI aG.out aD.size rfl rfl (by omega) (by omega) (by decide) ?_
    refine bE aD.out rfl (gi hr (eW hx) rfl) (by decide) ?_
    refine aI (ah (aj (sr (mI ?_))))
    refine aV (mB ?_)
    first | refine gS ?_ | (refine gT ?_; refine mI ?_) | refine gV ?_
    first | refine gS ?_ | (refine gT ?_; refine cb ?_) | refine gV ?_
    first | refine cU ?_ | refine cV ?_
    refine ah (cT (sr (aS (aI (ah (aq (aJ (bO (aJ (aJ (bO ?_)))))))))))
    refine aJ ?_
    refine tW ?_
    obtain ⟨e1, e2⟩ := uR hx (by simp [fC]; omega)
    rw [e1, e2]
    exact ⟨rfl, hh.below⟩
   ·by_cases h1 : 127 < x
    ·refine sr ?_
     refine aV (ah (aj (cT (ao (ak (aj (ar (sr ?_))))))))
     refine fI aG.out aD.size rfl rfl (by omega) (by omega) (by decide) ?_
     refine bE aD.out rfl (gi hr (eW hx) rfl) (by decide) ?_
     refine aI (ah (aj (sr (mI ?_))))
     refine aV (mB ?_)
     first | refine gS ?_ | (refine gT ?_; refine mI ?_) | refine gV ?_
     first | refine gS ?_ | (refine gT ?_; refine cb ?_) | refine gV ?_
     first | refine cU ?_ | refine cV ?_
     refine ah (cT (sr (aS (aI (ah (aq (aJ (bO (aJ (aJ (bO ?_)))))))))))
     refine aJ ?_
     refine tW ?_
     obtain ⟨e1, e2⟩ := uR hx (by simp [fC]; omega)
     rw [e1, e2]
     exact ⟨rfl, hh.below⟩
    ·have hok : fC x = true := by simp [fC]; omega
     refine sr ?_
     refine aV (ah (aj (cT (ao (ak (aj (ar (sr ?_))))))))
     refine fI aG.out aD.size rfl rfl (by omega) (by omega) (by decide) ?_
     refine bE aD.out rfl (gi hr (eW hx) rfl) (by decide) ?_
     refine aI (ah (aj (sr (mI ?_))))
     refine aV (mB ?_)
     first | refine gS ?_ | (refine gT ?_; refine mI ?_) | refine gV ?_
     first | refine gS ?_ | (refine gT ?_; refine cb ?_) | refine gV ?_
     first | refine cU ?_ | refine cV ?_
     refine ah (cF (ao (ak (aw (mL (mI ?_))))))
     refine mq aG.out aG.out rfl (by decide) ?_
     refine bf hh (cs := [_]) aG.out aD.out (aZ (bB rfl) bQ) rfl rfl (by decide) (by decide) (by decide) rfl (by decide) ?_
     intro b22 w22 hh
     refine cB hh (i := 1) rfl rfl rfl (hh.aM (i := 0) rfl) aG.out aD.out rfl (by decide) rfl (by omega) (by omega) (by decide) ?_
     intro A23 c23 w23 hh
     simp only [List.set_cons_zero, List.set_cons_succ] at hh
     replace hh := hh.sub (List.sublist_cons_self _ _)
     refine aL (aE (aW (ak (aw ?_))))
     refine bJ (mI (aE (ak ?_)))
     refine ⟨⟨k + 1, c23, A23, by omega, rfl, rfl, vI hx hall hok, ?_⟩, by show n - (k + 1) < n - k; omega, ?_⟩
     ·rw [wv (by omega) (by omega), uL hx hok] at hh
      exact hh
     ·(repeat (first | exact az _ _ _ | refine aC rfl ?_ | refine ay rfl ?_))
  ·obtain rfl : k = n := by omega
   rw [List.take_of_length_le (by omega)] at hall hh
   obtain ⟨e1, e2⟩ := sU hall
   refine sr ?_
   refine aV (ah (aj (cF ?_)))
   refine aX ?_
   refine aA (aA (bj (ak (sr (mL ?_)))))
   refine iO aG.out aG.out aG.out rfl (hh.aM (i := 0) rfl) (by decide) ?_
   refine aS (aI (ah (aq ?_)))
   refine tW ?_
   rw [e1, e2]
   exact ⟨rfl, hh.below⟩
theorem gk (s : ByteArray) (w : World) (hs : s.size ≤ 100000) :
  Calls Tryz.prog 101 #[.string s] w fun e w' => ∃ A c, e = .returned (.slice A (gg s.data.toList).length c) ∧ w'.ownsRow w.heap.size 3 1 (.slice A (gg s.data.toList).length c) (gg s.data.toList).length (eo (gg s.data.toList)) ∧ Below w.heap.size w w' := by
 have hh := Hp.start w
 have hsz := dE s
 cases hm : ep s.data.toList with
 | false =>
  refine al (N := 22) (l := [.string s]) Tryz.func101 rfl rfl (by simp) ?_
  refine sr (aL (ah (aj (sr (mS (mS ?_))))))
  refine bz aG.out rfl (by decide) ?_
  refine bC hh (iV s _ (by omega)) rfl ?_
  intro w9 hh
  rw [hm]
  refine eM ?_
  refine ah (cT (sr (aL (ah (aq (aJ ?_))))))
  refine cf ?_
  rw [vY hm]
  exact ⟨none, 0, rfl, World.ownsRow_nil _ _ _ _, hh.below⟩
 | true =>
  refine al (N := 22) (l := [.string s]) Tryz.func101 rfl rfl (by simp) ?_
  refine sr (aL (ah (aj (sr (mS (mS ?_))))))
  refine bz aG.out rfl (by decide) ?_
  refine bC hh (iV s _ (by omega)) rfl ?_
  intro w9 hh
  rw [hm]
  refine eM ?_
  refine ah (cF (ao (ak (sr (aL (ah (aj (sr (mS ?_)))))))))
  refine oF hh aG.out rfl (by decide) ?_
  intro b12 w12 hh
  skip
  refine ah (ar ?_)
  refine bA [3, 5, 13, 14, 15, 16, 17, 18, 19, 20] 3
   (fun v w' => ∃ (k c' : Nat) (A' : Option Addr), k ≤ s.size ∧ v = .slice A' k c' ∧ Hp w [.row A' k c' 3 1 (eo (ints (s.data.toList.take k))), .it b12 s k] w')
   (fun v _ => s.size - lenOf v) ?_ ?_
  ·exact ⟨0, 0, none, Nat.zero_le _, rfl, hh.eU _ _⟩
  ·clear hh
   rintro ρ' v w' ⟨k, c', A', hk, rfl, hh⟩
   by_cases hlt : k < s.size
   ·obtain ⟨c, hc⟩ := aH (l := s.data.toList) (k := k) (by omega)
    have h8 := tA hm hc
    refine sr ?_
    refine pd hh (i := 1) rfl rfl hc h8 (by decide) ?_
    intro w13 hh
    simp only [List.set_cons_zero, List.set_cons_succ] at hh
    skip
    refine dw ?_
    refine ah (aj (cT (ao (ak (ar (sr ?_))))))
    refine dw ?_
    refine aI (ah (aw (mL (mI ?_))))
    refine dD aG.out aG.out rfl (by omega) (by omega) (by decide) ?_
    refine bf hh (cs := [_]) aG.out aD.out (aZ (bB rfl) bQ) rfl rfl (by decide) (by decide) (by decide) rfl (by decide) ?_
    intro b19 w19 hh
    refine cB hh (i := 1) rfl rfl rfl (hh.aM (i := 0) rfl) aG.out aD.out rfl (by decide) rfl (by omega) (by omega) (by decide) ?_
    intro A20 c20 w20 hh
    simp only [List.set_cons_zero, List.set_cons_succ] at hh
    replace hh := hh.sub (List.sublist_cons_self _ _)
    refine aL (aE (aW (ak ?_)))
    rw [l4 hc] at hh
    refine ⟨⟨k + 1, c20, A20, by omega, rfl, hh⟩, by show s.size - (k + 1) < s.size - k; omega, ?_⟩
    (repeat (first | exact az _ _ _ | refine aC rfl ?_ | refine ay rfl ?_))
   ·refine sr ?_
    refine pD hh (i := 1) rfl rfl hlt (by decide) ?_
    skip
    refine dw ?_
    refine ah (aj (cF ?_))
    refine aX ?_
    refine aA (aA (bj (ak (sr (mL (aL (ah (aq ?_))))))))
    refine cf ?_
    obtain rfl : k = s.size := by omega
    rw [List.take_of_length_le (by omega)] at hh
    have h1 := hh.at_ (i := 0) rfl
    rw [jg hm, cL, ← hsz]
    exact ⟨A', c', rfl, h1, hh.below⟩
theorem mZ (a b : ByteArray) (g : FuncId) (f : Int → Int → Int) (w : World) (ha : a.size ≤ 100000) (hb : b.size ≤ 100000) [au Tryz.prog g]
  (hg : ∀ (x y : Int) (w : World), 0 ≤ x → x ≤ 127 → 0 ≤ y → y ≤ 127 → Calls Tryz.prog g #[.int .i64 x, .int .i64 y] w fun e w' => e = .returned (.int .i64 (f x y)) ∧ Below w.heap.size w w') :
  Calls Tryz.prog 209 #[.string a, .string b, .func (.func g) #[] #[]] w fun e w' =>
   (fX f a.data.toList b.data.toList = none ∧ e = .returned (.tuple #[.slice none 0 0, .bool false]) ∧ Below w.heap.size w w') ∨
   ∃ l, fX f a.data.toList b.data.toList = some l ∧ l.length = b.size ∧ ∃ A c, e = .returned (.tuple #[.slice A l.length c, .bool true]) ∧ w'.ownsRow w.heap.size 3 1 (.slice A l.length c) l.length (eo l) ∧ Below w.heap.size w w' := by
 have hh := Hp.start w
 have hsa := dE a
 have hsb := dE b
 cases hma : ep a.data.toList with
 | false =>
  refine al (N := 45) (l := [.string a, .string b, .func (.func g) #[] #[]]) Tryz.func209 rfl rfl (by simp) ?_
  refine sr (aL (aB (ah (sr (mS ?_)))))
  refine aN (gk b _ hb) au.out rfl (by decide) ?_
  rintro e_ w12 ⟨A12, c12, rfl, hown_, hb_⟩
  refine ⟨_, rfl, ?_⟩
  replace hh := hh.a7 (x := .row _ _ _ _ _ _) hb_ hown_
  refine aL (ah (aj (sr (mS (mS ?_)))))
  refine bz aG.out rfl (by decide) ?_
  refine bC hh (iV a _ (by omega)) rfl ?_
  intro w16 hh
  rw [hma]
  refine eM ?_
  refine mB ?_
  first | refine gS ?_ | (refine gT ?_; refine mS ?_) | refine gV ?_
  first | refine gS ?_ | (refine gT ?_; refine mS ?_) | refine gV ?_
  first | refine gS ?_ | (refine gT ?_; refine bz aG.out rfl (by decide) ?_) | refine gV ?_
  refine bH (by decide) rfl rfl (by decide) ?_
  first | refine gS ?_ | (refine gT ?_; refine eM ?_) | refine gV ?_
  first | refine cU ?_ | refine cV ?_
  refine ah (cT (sr (aL (aB (ah (aq (aJ ?_)))))))
  refine tW ?_
  exact .inl ⟨by simp [fX, hma], rfl, hh.below⟩
 | true =>
  cases hmb : (ep b.data.toList && decide ((b.size : Int) = a.size)) with
  | false =>
   refine al (N := 45) (l := [.string a, .string b, .func (.func g) #[] #[]]) Tryz.func209 rfl rfl (by simp) ?_
   refine sr (aL (aB (ah (sr (mS ?_)))))
   refine aN (gk b _ hb) au.out rfl (by decide) ?_
   rintro e_ w12 ⟨A12, c12, rfl, hown_, hb_⟩
   refine ⟨_, rfl, ?_⟩
   replace hh := hh.a7 (x := .row _ _ _ _ _ _) hb_ hown_
   refine aL (ah (aj (sr (mS (mS ?_)))))
   refine bz aG.out rfl (by decide) ?_
   refine bC hh (iV a _ (by omega)) rfl ?_
   intro w16 hh
   rw [hma]
   refine eM ?_
   refine mB ?_
   first | refine gS ?_ | (refine gT ?_; refine mS ?_) | refine gV ?_
   first | refine gS ?_ | (refine gT ?_; refine mS ?_) | refine gV ?_
   first | refine gS ?_ | (refine gT ?_; refine bz aG.out rfl (by decide) ?_) | refine gV ?_
   refine a9 rfl rfl ?_
   refine bC hh (hZ b _ _ (by omega)) rfl ?_
   intro w22 hh
   rw [hmb]
   first | refine gS ?_ | (refine gT ?_; refine eM ?_) | refine gV ?_
   first | refine cU ?_ | refine cV ?_
   refine ah (cT (sr (aL (aB (ah (aq (aJ ?_)))))))
   refine tW ?_
   have : (ep b.data.toList && decide ((b.data.toList.length : Int) = a.data.toList.length)) = false := by rw [← hsa, ← hsb]; exact hmb
   exact .inl ⟨by simp only [fX, hma, this]; rfl, rfl, hh.below⟩
  | true =>
   have hmb2 := hmb
   simp only [Bool.and_eq_true, decide_eq_true_eq] at hmb2
   have hbl : fX f a.data.toList b.data.toList = some (List.zipWith f (ints a.data.toList) (ints b.data.toList)) := by
    have : (ep b.data.toList && decide ((b.data.toList.length : Int) = a.data.toList.length)) = true := by rw [← hsa, ← hsb]; exact hmb
    simp only [fX, hma, this]; rfl
   have hea := jg hma
   have heb := jg hmb2.1
   have hlab : (ints a.data.toList).length = (ints b.data.toList).length := by rw [cL, cL]; omega
   have hlb := cL b.data.toList
   have hla := cL a.data.toList
   have hA := gk a
   have hB := gk b
   rw [hea] at hA
   rw [heb] at hB
   generalize hia : ints a.data.toList = ia at *
   generalize hib : ints b.data.toList = ib at *
   have bda : ∀ (k : Nat) (x : Int), ia[k]? = some x → 0 ≤ x ∧ x ≤ 127 := fun k x h => tx (l := a.data.toList) (by rw [hea]; exact h)
   have bdb : ∀ (k : Nat) (x : Int), ib[k]? = some x → 0 ≤ x ∧ x ≤ 127 := fun k x h => tx (l := b.data.toList) (by rw [heb]; exact h)
   clear hea heb
   refine al (N := 45) (l := [.string a, .string b, .func (.func g) #[] #[]]) Tryz.func209 rfl rfl (by simp) ?_
   refine sr (aL (aB (ah (sr (mS ?_)))))
   refine aN (hB _ hb) au.out rfl (by decide) ?_
   rintro e_ w12 ⟨A12, c12, rfl, hown_, hb_⟩
   refine ⟨_, rfl, ?_⟩
   replace hh := hh.a7 (x := .row _ _ _ _ _ _) hb_ hown_
   refine aL (ah (aj (sr (mS (mS ?_)))))
   refine bz aG.out rfl (by decide) ?_
   refine bC hh (iV a _ (by omega)) rfl ?_
   intro w16 hh
   rw [hma]
   refine eM ?_
   refine mB ?_
   first | refine gS ?_ | (refine gT ?_; refine mS ?_) | refine gV ?_
   first | refine gS ?_ | (refine gT ?_; refine mS ?_) | refine gV ?_
   first | refine gS ?_ | (refine gT ?_; refine bz aG.out rfl (by decide) ?_) | refine gV ?_
   refine a9 rfl rfl ?_
   refine bC hh (hZ b _ _ (by omega)) rfl ?_
   intro w22 hh
   rw [hmb]
   first | refine gS ?_ | (refine gT ?_; refine eM ?_) | refine gV ?_
   first | refine cU ?_ | refine cV ?_
   refine ah (cF (ao (ak (aj (sr (mS ?_))))))
   refine aN (hA _ ha) au.out rfl (by decide) ?_
   rintro e_ w26 ⟨A26, c26, rfl, hown_, hb_⟩
   refine ⟨_, rfl, ?_⟩
   replace hh := hh.a7 (x := .row _ _ _ _ _ _) hb_ hown_
   refine a0 (mI (ah (ar ?_)))
   refine bA [9, 10, 28, 29, 30, 31, 32, 33, 34, 35, 36, 37, 38, 39, 40, 41, 42, 43] 28
    (fun i w' => ∃ k : Nat, k ≤ ib.length ∧ i = .int .i64 k ∧ Hp w [.row A26 ia.length c26 3 1 (eo ia), .row A12 ib.length c12 3 1 (eo (iL f ia ib k))] w')
    (fun i _ => ib.length - (intOf i).toNat) ?_ ?_
   ·exact ⟨0, Nat.zero_le _, rfl, by rw [vy]; exact hh⟩
   ·clear hh hown_ hb_
    rintro ρ' i w' ⟨k, hk, rfl, hh⟩
    by_cases hlt : k < ib.length
    ·obtain ⟨x, hx⟩ := aH (l := ia) (k := k) (by omega)
     obtain ⟨y, hy⟩ := aH hlt
     have bx := bda k x hx
     have byy := bdb k y hy
     have hx2 := eW hx
     have hy2 := eW (yC (f := f) hlab hy)
     have hml := xa (f := f) hlab hk
     have hml2 := ez (iL f ia ib k)
     obtain ⟨ga, rfl⟩ := hh.gf (i := 0) rfl (by omega)
     obtain ⟨gb, rfl⟩ := hh.gf (i := 1) rfl (by omega)
     refine sr ?_
     refine aV (ah (aj (cT (ao (ak (aj (ar (sr (mI ?_)))))))))
     refine bg aG.out aD.size rfl rfl rfl (by omega) (by decide) ?_
     refine bE aD.out rfl (hh.cd (i := 0) rfl (by first | assumption | (simp only [Nat.mul_one]; assumption))) (by decide) ?_
     refine aI (aI (ah (aw (mL (mI ?_)))))
     refine fk (by first | exact fP rfl | exact ev_nilf rfl) (by decide) ?_
     refine mI (mL (mI ?_))
     refine bg aG.out aD.size rfl rfl rfl (by omega) (by decide) ?_
     refine bE aD.out rfl (hh.cd (i := 1) rfl (by first | assumption | (simp only [Nat.mul_one]; assumption))) (by decide) ?_
     refine eS (hg x y _ bx.1 bx.2 byy.1 byy.2) au.out rfl rfl (by decide) ?_
     rintro e_ w41 ⟨rfl, hb_⟩
     refine ⟨_, rfl, ?_⟩
     replace hh := hh.ext hb_
     refine bg aG.out aD.size rfl rfl rfl (by omega) (by decide) ?_
     refine bo hh (i := 1) (vs := [_]) rfl rfl (bB rfl) rfl aD.out rfl (by omega) rfl ?_
     intro ws hh
     simp only [List.set_cons_zero, List.set_cons_succ] at hh
     refine aE (aW (ak (aw ?_)))
     refine bJ (mI (aE (ak ?_)))
     rw [Nat.mul_one, xk hlab hx hy] at hh
     refine ⟨⟨k + 1, by omega, rfl, hh⟩, by show _ - (k + 1) < _ - k; omega, ?_⟩
     (repeat (first | exact az _ _ _ | refine aC rfl ?_ | refine ay rfl ?_))
    ·refine sr ?_
     refine aV (ah (aj (cF ?_)))
     refine aX ?_
     refine aA (aA (bj (ak (sr (mL (aL (aB (ah (aq ?_)))))))))
     refine tW ?_
     obtain rfl : k = ib.length := by omega
     rw [vZ hlab] at hh
     have h1 := hh.at_ (i := 1) rfl
     have hzl : (List.zipWith f ia ib).length = ib.length := by simp [hlab]
     refine .inr ⟨_, hbl, by omega, A12, c12, ?_⟩
     rw [hzl]
     exact ⟨rfl, h1, hh.below⟩
theorem uk (a b : ByteArray) (g : FuncId) (f : Int → Int → Int) (w : World) (ha : a.size ≤ 100000) (hb : b.size ≤ 100000) [au Tryz.prog g]
  (hg : ∀ (x y : Int) (w : World), 0 ≤ x → x ≤ 127 → 0 ≤ y → y ≤ 127 → Calls Tryz.prog g #[.int .i64 x, .int .i64 y] w fun e w' => e = .returned (.int .i64 (f x y)) ∧ Below w.heap.size w w')
  (h : fX f a.data.toList b.data.toList = none) :
  Calls Tryz.prog 209 #[.string a, .string b, .func (.func g) #[] #[]] w fun e w' => e = .returned (.tuple #[.slice none 0 0, .bool false]) ∧ Below w.heap.size w w' :=
 (mZ a b g f w ha hb hg).mono fun e w' hq => by
  rcases hq with hq | ⟨l, hl, _⟩
  ·exact hq.2
  ·rw [h] at hl; cases hl
theorem ug (a b : ByteArray) (g : FuncId) (f : Int → Int → Int) (w : World) (ha : a.size ≤ 100000) (hb : b.size ≤ 100000) [au Tryz.prog g]
  (hg : ∀ (x y : Int) (w : World), 0 ≤ x → x ≤ 127 → 0 ≤ y → y ≤ 127 → Calls Tryz.prog g #[.int .i64 x, .int .i64 y] w fun e w' => e = .returned (.int .i64 (f x y)) ∧ Below w.heap.size w w')
  {l : List Int} (h : fX f a.data.toList b.data.toList = some l) :
  Calls Tryz.prog 209 #[.string a, .string b, .func (.func g) #[] #[]] w fun e w' => ∃ A c, e = .returned (.tuple #[.slice A l.length c, .bool true]) ∧ w'.ownsRow w.heap.size 3 1 (.slice A l.length c) l.length (eo l) ∧ Below w.heap.size w w' :=
 (mZ a b g f w ha hb hg).mono fun e w' hq => by
  rcases hq with ⟨hn, _⟩ | ⟨l', hl, _, hq⟩
  ·rw [h] at hn; cases hn
  ·rw [h] at hl; injection hl with hl; subst hl; exact hq
theorem uq {f : Int → Int → Int} {a b : List UInt8} {l : List Int} (h : fX f a b = some l) : l.length ≤ b.length := by
 unfold fX at h
 split at h
 ·injection h with h; subst h; simp [ints]; omega
 ·cases h
theorem m8 (x y : Int) (w : World) (h1 : 0 ≤ x) (h2 : x ≤ 127) (h3 : 0 ≤ y) (h4 : y ≤ 127) :
  Calls Tryz.prog 210 #[.int .i64 x, .int .i64 y] w fun e w' => e = .returned (.int .i64 (x + y)) ∧ Below w.heap.size w w' := by
 refine al (N := 8) (l := [.int .i64 x, .int .i64 y]) Tryz.func210 rfl rfl (by simp) ?_
 refine sr (aI (ah (sr (mI (mI ?_)))))
 refine bJ (aI (ah (aq ?_)))
 refine cf ?_
 exact ⟨rfl, Below.refl _ _⟩
theorem ur (a b : ByteArray) (w : World) (ha : a.size ≤ 100000) (hb : b.size ≤ 100000) :
  Calls Tryz.prog 175 #[.string a, .string b] w fun e w' => e = .returned (.tuple #[.string (str (mulL a.data.toList b.data.toList).1), .int .i64 (mulL a.data.toList b.data.toList).2]) ∧ Below w.heap.size w w' := by
 have hh := Hp.start w
 have hsb := dE b
 cases hbo : fX (· + ·) a.data.toList b.data.toList with
 | none =>
  refine al (N := 20) (l := [.string a, .string b]) Tryz.func175 rfl rfl (by simp) ?_
  refine sr (aS (aI (ah (sr (mS (mS ?_))))))
  refine bC hh (uk a b _ _ _ ha hb m8 hbo) rfl ?_
  intro w11 hh
  refine mT ?_
  refine dw ?_
  refine dw ?_
  refine aL (aB (ah (aj (sr (mB ?_)))))
  refine eM ?_
  refine ah (cT (sr (aS (aI (ah (aq (aJ ?_)))))))
  refine tW ?_
  simp only [mulL, hbo]
  first | exact ⟨rfl, hh.below⟩ | exact ⟨trivial, hh.below⟩
 | some l =>
  have hl := uq hbo
  refine al (N := 20) (l := [.string a, .string b]) Tryz.func175 rfl rfl (by simp) ?_
  refine sr (aS (aI (ah (sr (mS (mS ?_))))))
  refine aN (ug a b _ _ _ ha hb m8 hbo) au.out rfl (by decide) ?_
  rintro e_ w11 ⟨A11, c11, rfl, hown_, hb_⟩
  refine ⟨_, rfl, ?_⟩
  replace hh := hh.a7 (x := .row _ _ _ _ _ _) hb_ hown_
  refine mT ?_
  refine dw ?_
  refine dw ?_
  refine aL (aB (ah (aj (sr (mB ?_)))))
  refine eM ?_
  refine ah (cF (ao (ak (sr (mL ?_)))))
  refine bC hh (vB _ _ _ _ _ (hh.aM (i := 0) rfl) (by omega)) rfl ?_
  intro w17 hh
  refine dw ?_
  refine dw ?_
  refine aS (aI (ah (aq ?_)))
  refine tW ?_
  simp only [mulL, hbo]
  first | exact ⟨rfl, hh.below⟩ | exact ⟨trivial, hh.below⟩
end Go.Proofs.YtkgdagjklakajaaGreatDoor
/- The walks through poly.few and poly.Check. -/
namespace Go.Proofs.YtkgdagjklakajaaGreatDoor
open Go.RowKit
def fB (v : Int) : Bool := decide (0 ≤ v) && decide (v ≤ 12)
theorem j0 {v : Int} : fB v = true ↔ 0 ≤ v ∧ v ≤ 12 := by unfold fB; rw [Bool.and_eq_true, decide_eq_true_eq, decide_eq_true_eq]
theorem jb (v : Int) (w : World) : Calls Tryz.prog 89 #[.int .i64 v] w fun r w' => r = .returned (.bool (fB v)) ∧ Below w.heap.size w w' := by
 have hh := Hp.start w
 unfold fB
 by_cases h1 : 0 ≤ v
 ·rw [decide_eq_true h1, Bool.true_and]
  by_cases h2 : v ≤ 12
  ·rw [decide_eq_true h2]
   refine al (N := 9) (l := [.int .i64 v]) Tryz.func89 rfl rfl (by simp) ?_
   refine sr (aB (ah (sr (mI ?_))))
   refine dh (mB ?_)
   first | refine gS ?_ | (refine gT ?_; refine mI ?_) | refine gV ?_
   first | refine gS ?_ | (refine gT ?_; refine yI ?_) | refine gV ?_
   first | refine cU ?_ | refine cV ?_
   refine aB (ah (aq ?_))
   refine cf ?_
   exact ⟨rfl, hh.below⟩
  ·rw [decide_eq_false h2]
   refine al (N := 9) (l := [.int .i64 v]) Tryz.func89 rfl rfl (by simp) ?_
   refine sr (aB (ah (sr (mI ?_))))
   refine dh (mB ?_)
   first | refine gS ?_ | (refine gT ?_; refine mI ?_) | refine gV ?_
   first | refine gS ?_ | (refine gT ?_; refine yI ?_) | refine gV ?_
   first | refine cU ?_ | refine cV ?_
   refine aB (ah (aq ?_))
   refine cf ?_
   exact ⟨rfl, hh.below⟩
 ·rw [decide_eq_false h1, Bool.false_and]
  refine al (N := 9) (l := [.int .i64 v]) Tryz.func89 rfl rfl (by simp) ?_
  refine sr (aB (ah (sr (mI ?_))))
  refine dh (mB ?_)
  first | refine gS ?_ | (refine gT ?_; refine mI ?_) | refine gV ?_
  first | refine gS ?_ | (refine gT ?_; refine yI ?_) | refine gV ?_
  first | refine cU ?_ | refine cV ?_
  refine aB (ah (aq ?_))
  refine cf ?_
  exact ⟨rfl, hh.below⟩
def zI (a : NR) : Bool := decide ((nR a.d).neg = a.neg) && (decide ((nR a.d).cq = a.cq) && decide ((nR a.d).e = a.e))
theorem lU (a : NR) : zI a = true ↔ nR a.d = a := by
 unfold zI
 rw [Bool.and_eq_true, Bool.and_eq_true, decide_eq_true_eq, decide_eq_true_eq, decide_eq_true_eq]
 constructor
 ·rintro ⟨h1, h2, h3⟩
  obtain ⟨s, m, e⟩ := a
  generalize nR (NR.d ⟨s, m, e⟩) = b at *
  obtain ⟨s', m', e'⟩ := b
  simp only at h1 h2 h3
  rw [h1, h2, h3]
 ·intro h
  rw [h]
  exact ⟨rfl, rfl, rfl⟩
def jw (v : Int) (t : TR) : Bool := ep t.m.data.toList && decide ((t.m.size : Int) = v) && (pH t && zI t.c)
def kZ : List TR → Bool
 | [] => true
 | [_] => true
 | a :: b :: l => fD a.m b.m && kZ (b :: l)
theorem nS : ∀ (l : List TR) (p x : TR), kZ (l ++ [p, x]) = (kZ (l ++ [p]) && fD p.m x.m)
 | [], p, x => by show (fD p.m x.m && true) = (true && fD p.m x.m); rw [Bool.and_true, Bool.true_and]
 | [a], p, x => by
  show (fD a.m p.m && (fD p.m x.m && true)) = ((fD a.m p.m && true) && fD p.m x.m)
  rw [Bool.and_true, Bool.and_true]
 | a :: b :: l, p, x => by
  show (fD a.m b.m && kZ ((b :: l) ++ [p, x])) = ((fD a.m b.m && kZ ((b :: l) ++ [p])) && fD p.m x.m)
  rw [nS (b :: l) p x, Bool.and_assoc]
theorem sY : ∀ {l : List TR} {i : Nat} {p x : TR}, kZ l = true → l[i]? = some p → l[i + 1]? = some x → fD p.m x.m = true
 | [], i, p, x, _, h, _ => by simp at h
 | [a], i, p, x, _, _, h => by simp at h
 | a :: b :: l, 0, p, x, h, h1, h2 => by
  simp only [List.getElem?_cons_zero, Option.some.injEq, Nat.zero_add, List.getElem?_cons_succ] at h1 h2
  subst h1 h2
  exact (Bool.and_eq_true_iff.1 h).1
 | a :: b :: l, i + 1, p, x, h, h1, h2 => by
  rw [List.getElem?_cons_succ] at h1 h2
  exact sY (Bool.and_eq_true_iff.1 h).2 h1 h2
theorem kA : ∀ {l : List TR}, kZ l = true ↔ nI l
 | [] => ⟨fun _ => List.Pairwise.nil, fun _ => rfl⟩
 | [a] => ⟨fun _ => List.pairwise_singleton _ _, fun _ => rfl⟩
 | a :: b :: l => by
  show (fD a.m b.m && kZ (b :: l)) = true ↔ _
  rw [Bool.and_eq_true, kA (l := b :: l)]
  constructor
  ·rintro ⟨h1, h2⟩
   refine List.pairwise_cons.2 ⟨fun t ht => ?_, h2⟩
   rcases List.mem_cons.1 ht with rfl | ht
   ·exact h1
   ·exact fU h1 ((List.pairwise_cons.1 h2).1 t ht)
  ·intro h
   have := List.pairwise_cons.1 h
   exact ⟨this.1 b List.mem_cons_self, this.2⟩
def okB (v : Int) (ts : List TR) : Bool := ts.all (jw v) && kZ ts
def gB (v : Int) (ts : List TR) : Int := if fB v = false then 1 else if 4096 < ts.length then 3 else if okB v ts = true then 0 else 1
theorem vh {v : Int} {ts : List TR} (h1 : fB v = true) (h2 : ¬ 4096 < ts.length) (h : okB v ts = false) : gB v ts = 1 := by
 unfold gB
 rw [if_neg (by rw [h1]; decide), if_neg h2, if_neg (by rw [h]; decide)]
theorem oN {v : Int} {ts : List TR} {i : Nat} {x : TR} (hx : ts[i]? = some x) (h : jw v x = false) : okB v ts = false := by
 unfold okB
 rw [Bool.and_eq_false_iff]
 refine .inl (Bool.eq_false_iff.2 fun h2 => ?_)
 rw [List.all_eq_true.1 h2 x (List.mem_of_getElem? hx)] at h
 cases h
theorem vr {v : Int} {ts : List TR} {i : Nat} {p x : TR} (hp : ts[i]? = some p) (hx : ts[i + 1]? = some x) (h : fD p.m x.m = false) : okB v ts = false := by
 unfold okB
 rw [Bool.and_eq_false_iff]
 refine .inr (Bool.eq_false_iff.2 fun h2 => ?_)
 rw [sY h2 hp hx] at h
 cases h
theorem kC (v : Int) (A : Option Addr) (n c : Nat) (ts : List TR) (w : World) (hT : fS w) (hS : Sl w A n 4 (a8 TR.cells ts)) (hn : n ≤ 1000000) (ho : ∀ t ∈ ts, t.c.ok ∧ t.m.size ≤ 100000) :
  Calls Tryz.prog 21 #[.agg #[.int .i64 v, .slice A n c]] w fun r w' => r = .returned (.int .i64 (gB v ts)) ∧ Below w.heap.size w w' := by
 have hh := Hp.start w
 have hln := hS.bV TR.len (by decide)
 have hfw := fun w1 => jb v w1
 cases hf : fB v with
 | false =>
  rw [hf] at hfw
  rw [show gB v ts = 1 by unfold gB; rw [if_pos hf]]
  refine al (N := 58) (l := [.agg #[.int .i64 v, .slice A n c]]) Tryz.func21 rfl rfl (by simp) ?_
  refine sr ?_
  refine df hh [_,_] ?_
  intro b1 w1 hh
  refine aI (ah (aj (sr (bG ?_))))
  refine bI hh 0 ?_
  refine bC hh (hfw _) rfl ?_
  intro w7 hh
  refine eM ?_
  refine ah (cT (sr (aI (ah (aq (aJ ?_))))))
  refine cf ?_
  exact ⟨rfl, hh.below⟩
 | true =>
  rw [hf] at hfw
  by_cases h4 : 4096 < n
  ·rw [show gB v ts = 3 by unfold gB; rw [if_neg (by rw [hf]; decide), if_pos (by omega)]]
   refine al (N := 58) (l := [.agg #[.int .i64 v, .slice A n c]]) Tryz.func21 rfl rfl (by simp) ?_
   refine sr ?_
   refine df hh [_,_] ?_
   intro b1 w1 hh
   refine aI (ah (aj (sr (bG ?_))))
   refine bI hh 0 ?_
   refine bC hh (hfw _) rfl ?_
   intro w7 hh
   refine eM ?_
   refine ah (cF (ao (ak (aj (sr (bG ?_))))))
   refine bI hh 0 ?_
   refine a0 ?_
   refine cb (ah (cT (sr (aI (ah (aq (aJ ?_)))))))
   refine cf ?_
   exact ⟨rfl, hh.below⟩
  ·have hbad := fun h => vh (v := v) (ts := ts) hf (by omega) h
   refine al (N := 58) (l := [.agg #[.int .i64 v, .slice A n c]]) Tryz.func21 rfl rfl (by simp) ?_
   refine sr ?_
   refine df hh [_,_] ?_
   intro b1 w1 hh
   refine aI (ah (aj (sr (bG ?_))))
   refine bI hh 0 ?_
   refine bC hh (hfw _) rfl ?_
   intro w7 hh
   refine eM ?_
   refine ah (cF (ao (ak (aj (sr (bG ?_))))))
   refine bI hh 0 ?_
   refine a0 ?_
   refine cb (ah (cF (ao (ak (aj (sr (bG ?_)))))))
   refine bI hh 0 ?_
   refine a0 (mI (ah (ar ?_)))
   refine bA [2, 3, 4, 16, 17, 18, 19, 20, 21, 22, 23, 24, 25, 26, 27, 28, 29, 30, 31, 32, 33, 34, 35, 36, 37, 38, 39, 40, 41, 42, 43, 44, 45, 46, 47, 48, 49, 50, 51, 52, 53, 54, 55, 56, 57] 16
    (fun x w' => ∃ i : Nat, i ≤ n ∧ x = .int .i64 i ∧ (ts.take i).all (jw v) = true ∧ kZ (ts.take i) = true ∧ Hp w [.blk b1 31 [.int .i64 v, .slice A n c] (0, 0)] w')
    (fun x _ => n - (intOf x).toNat) ?_ ?_
   ·exact ⟨0, Nat.zero_le _, rfl, rfl, rfl, hh⟩
   ·clear hh
    rintro ρ' x_ w' ⟨i, hi, rfl, hall, hris, hh⟩
    by_cases hlt : i < n
    ·obtain ⟨x, hx⟩ := aH (l := ts) (k := i) (by omega)
     obtain ⟨ad, rfl, hr⟩ := hS.at_ (by omega)
     obtain ⟨hxo, hxm⟩ := ho x (List.mem_of_getElem? hx)
     have hmay := fun w1 => hZ x.m v w1 (by omega)
     have hsg := fun w1 => lA x.c w1
     have hfo := fun w1 hT1 => dM x.c w1 hT1 (by have := hxo.1; omega) (by have := hxo.2.1; omega) (by have := hxo.2.2; omega)
     have hzz : x.c.i.sign = 0 ↔ x.c.d = 0 := by
      rw [Int.sign_eq_zero_iff_zero]
      exact ⟨fun h => by unfold NR.d; rw [h]; rfl, iZ⟩
     cases hm : ep x.m.data.toList && decide ((x.m.size : Int) = v) with
     | false =>
      rw [hm] at hmay
      rw [hbad (oN hx (by unfold jw; rw [hm]; rfl))]
      refine sr ?_
      refine aV (ah (aj (cT (ao (ak (aj (ar (sr (mI ?_)))))))))
      refine aY (k := i) aG.out aD.size rfl rfl (by omega) (by omega) (by decide) ?_
      refine bS (vs := [_, _, _, _]) aD.out rfl ((hr.ext hh.below).recAt TR.len hx) rfl (by decide) ?_
      refine cx hh ?_
      intro b4 w4 hh
      refine aI ?_
      refine bL hh 0 [_,_,_,_] ?_
      intro ws hh
      replace hh : Hp _ (.blk _ _ [_, _, _, _] _ :: _) _ := hh
      refine ah (aj ?_)
      refine eH [] [] [0, 1, 0, 4, 15, 31, 63, 127, 255, 511, 1023, 2047, 4095, 8191, 16383, 32767, 8191, 73727, 262143, 524287, 1048575, 2097151, 4194303, 8388607, 16777215, 33554431, 16777215, 83886079, 268435455, 536870911, 1073741823, 16777215, 2164260863, 8589934591, 17179869183, 34359738367] 33 [[(4, none)], [(21, some 0)], [(1, none)], [(23, some 2)], [(22, some 1), (24, some 3)], [(25, some 4)], [(26, some 5)], [(4, none), (27, some 6)], [(28, some 7), (27, some 6)], [(29, some 8), (27, some 6)], [(30, some 9), (27, some 6)], [(27, some 6), (31, some 10)], [(32, some 11)], [(4, none), (33, some 12)], [(34, some 13), (33, some 12)], [(35, some 14), (33, some 12)], [(4, none), (33, some 12)], [(37, some 16), (33, some 12)], [(36, some 15), (38, some 17), (33, some 12)], [(33, some 12), (39, some 18)], [(40, some 19)], [(3, none), (41, some 20)], [(42, some 21), (41, some 20)], [(43, some 22), (41, some 20)], [(1, none), (44, some 23)], [(45, some 24), (44, some 23)], [(3, none), (44, some 23)], [(47, some 26), (44, some 23)], [(46, some 25), (48, some 27), (44, some 23)], [(49, some 28), (44, some 23)], [(50, some 29), (44, some 23)], [(4, none), (44, some 23)], [(52, some 31), (44, some 23)]] [(32, 53), (31, 52), (30, 51), (29, 50), (28, 49), (27, 48), (26, 47), (25, 46), (24, 45), (23, 44), (22, 43), (21, 42), (20, 41), (19, 40), (18, 39), (17, 38), (16, 37), (15, 36), (14, 35), (13, 34), (12, 33), (11, 32), (10, 31), (9, 30), (8, 29), (7, 28), (6, 27), (5, 26), (4, 25), (3, 24), (2, 23), (1, 22), (0, 21)] hh mixed (by kernel_rfl) fj rfl (by repeat (first | exact bY | refine bK ?_ | refine bX ?_)) ?_
      refine dx ?_
      refine fi 0 ?_
      refine dx ?_
      refine fi 1 ?_
      refine dC (fun _ hj => hmay _) ?_
      refine uv ?_
      refine ji ?_
      first | refine dS ?_ | refine dU ?_ | refine dG (dx ?_)
      first | refine dS ?_ | refine dU ?_ | refine dG (gy 0 [_,_,_] ?_)
      first | refine dS ?_ | refine dU ?_
      first | refine dS ?_ | refine dU ?_ | refine dG (k9 ?_)
      first | refine nj ?_ | refine nk ?_
      refine ji ?_
      first | refine dS ?_ | refine dU ?_ | refine dG (dx ?_)
      first | refine dS ?_ | refine dU ?_ | refine dG (gy 0 [_,_,_] ?_)
      first | refine dS ?_ | refine dU ?_
      first | refine dS ?_ | refine dU ?_ | refine dG (dx ?_)
      first | refine dS ?_ | refine dU ?_ | refine dG (gy 0 [_,_,_] ?_)
      first | refine fw (i := 18) rfl (fun ρ1 w1 hj hR => (show ρ1 33 = Value.bool _ from hR.2.2.1)) (by decide) ?_ | refine eB (i := 18) rfl (fun ρ1 w1 hj hR => (show ρ1 33 = undef from hR.2.2.1)) ?_ | refine dJ (i := 18) rfl (fun ρ1 w1 hj hR => (show ρ1 33 = Value.bool _ from hR.2.2.1)) (fun ρ1 w1 hj hR => jf (show ρ1 36 = Value.agg (List.toArray _) from hR.1) (show ρ1 38 = Value.agg (List.toArray _) from hR.2.1) (by first | assumption | rfl)) ?_ | refine dJ (i := 18) rfl (fun ρ1 w1 hj hR => (show ρ1 33 = Value.bool _ from hR.2.2.1)) (fun ρ1 w1 hj hR => jk (show ρ1 36 = Value.agg (List.toArray _) from hR.1) (show ρ1 38 = Value.agg (List.toArray _) from hR.2.1) (by assumption)) ?_
      first | refine nj ?_ | refine nk ?_
      refine ji ?_
      first | refine dS ?_ | refine dU ?_ | refine dG (eG ?_)
      first | refine dS ?_ | refine dU ?_ | refine dG (tG ?_)
      first | refine dS ?_ | refine dU ?_ | refine dG (ji ?_)
      first | refine dS ?_ | refine dU ?_ | refine dG (dx ?_)
      first | refine dS ?_ | refine dU ?_ | refine dG (fi 1 ?_)
      first | refine dS ?_ | refine dU ?_ | refine dG (eG ?_)
      first | refine dS ?_ | refine dU ?_ | refine dG (nv ?_)
      first | refine fw (i := 28) rfl (fun ρ1 w1 hj hR => (show ρ1 44 = Value.bool _ from hR.2.2.1)) (by decide) ?_ | refine eB (i := 28) rfl (fun ρ1 w1 hj hR => (show ρ1 44 = undef from hR.2.2.1)) ?_ | refine dJ (i := 28) rfl (fun ρ1 w1 hj hR => (show ρ1 44 = Value.bool _ from hR.2.2.1)) (fun ρ1 w1 hj hR => ej aG.out aD.size (show ρ1 46 = Value.slice _ _ _ from hR.1) (show ρ1 48 = Value.int _ _ from hR.2.1) rfl (by omega)) ?_
      first | refine dS ?_ | refine dU ?_ | refine dG (wq ?_)
      first | refine dS ?_ | refine dU ?_ | refine dG (kJ (fun _ hj => hT) ?_)
      first | refine dS ?_ | refine dU ?_ | refine dG (dx ?_)
      first | refine dS ?_ | refine dU ?_ | refine dG (fi 0 ?_)
      refine bp ?_
      intro f W hJ hV _
      have hb_8 := hJ.bl
      obtain ⟨v53, v52, v51, v50, v49, v48, v47, v46, v45, v44, v43, v42, v41, v40, v39, v38, v37, v36, v35, v34, v33, v32, v31, v30, v29, v28, v27, v26, v25, v24, v23, v22, v21, _⟩ := hV
      replace hh := hJ.hp
      refine a6 (bu (ai v53 (ai v52 (ai v51 (ai v50 (ai v49 (ai v48 (ai v47 (ai v46 (ai v45 (ai v44 (ai v43 (ai v42 (ai v41 (ai v40 (ai v39 (ai v38 (ai v37 (ai v36 (ai v35 (ai v34 (ai v33 (ai v32 (ai v31 (ai v30 (ai v29 (ai v28 (ai v27 (ai v26 (ai v25 (ai v24 (ai v23 (ai v22 (ai v21 a5)))))))))))))))))))))))))))))))))) ?_
      dsimp only [cC]
      clear hJ
      first | refine gS ?_ | (refine gT ?_; refine fT rfl rfl (by decide) ?_) | refine gV ?_
      first | refine gS ?_ | (refine gT ?_; (first | refine cU ?_ | refine cV ?_)) | refine gV ?_
      first | refine cU ?_ | refine cV ?_
      refine ah (cT (sr (aI (ah (aq (bO (aJ (aJ (bO (aJ ?_))))))))))
      refine cf ?_
      exact ⟨rfl, hh.below⟩
     | true =>
      rw [hm] at hmay
      by_cases hz : x.c.d = 0
      ·have hs := hzz.2 hz
       rw [hbad (oN hx (by unfold jw pH; rw [hm, decide_eq_true hz]; rfl))]
       refine sr ?_
       refine aV (ah (aj (cT (ao (ak (aj (ar (sr (mI ?_)))))))))
       refine aY (k := i) aG.out aD.size rfl rfl (by omega) (by omega) (by decide) ?_
       refine bS (vs := [_, _, _, _]) aD.out rfl ((hr.ext hh.below).recAt TR.len hx) rfl (by decide) ?_
       refine cx hh ?_
       intro b4 w4 hh
       refine aI ?_
       refine bL hh 0 [_,_,_,_] ?_
       intro ws hh
       replace hh : Hp _ (.blk _ _ [_, _, _, _] _ :: _) _ := hh
       refine ah (aj ?_)
       refine eH [] [] [0, 1, 0, 4, 15, 31, 63, 127, 255, 511, 1023, 2047, 4095, 8191, 16383, 32767, 8191, 73727, 262143, 524287, 1048575, 2097151, 4194303, 8388607, 16777215, 33554431, 16777215, 83886079, 268435455, 536870911, 1073741823, 16777215, 2164260863, 8589934591, 17179869183, 34359738367] 33 [[(4, none)], [(21, some 0)], [(1, none)], [(23, some 2)], [(22, some 1), (24, some 3)], [(25, some 4)], [(26, some 5)], [(4, none), (27, some 6)], [(28, some 7), (27, some 6)], [(29, some 8), (27, some 6)], [(30, some 9), (27, some 6)], [(27, some 6), (31, some 10)], [(32, some 11)], [(4, none), (33, some 12)], [(34, some 13), (33, some 12)], [(35, some 14), (33, some 12)], [(4, none), (33, some 12)], [(37, some 16), (33, some 12)], [(36, some 15), (38, some 17), (33, some 12)], [(33, some 12), (39, some 18)], [(40, some 19)], [(3, none), (41, some 20)], [(42, some 21), (41, some 20)], [(43, some 22), (41, some 20)], [(1, none), (44, some 23)], [(45, some 24), (44, some 23)], [(3, none), (44, some 23)], [(47, some 26), (44, some 23)], [(46, some 25), (48, some 27), (44, some 23)], [(49, some 28), (44, some 23)], [(50, some 29), (44, some 23)], [(4, none), (44, some 23)], [(52, some 31), (44, some 23)]] [(32, 53), (31, 52), (30, 51), (29, 50), (28, 49), (27, 48), (26, 47), (25, 46), (24, 45), (23, 44), (22, 43), (21, 42), (20, 41), (19, 40), (18, 39), (17, 38), (16, 37), (15, 36), (14, 35), (13, 34), (12, 33), (11, 32), (10, 31), (9, 30), (8, 29), (7, 28), (6, 27), (5, 26), (4, 25), (3, 24), (2, 23), (1, 22), (0, 21)] hh mixed (by kernel_rfl) fj rfl (by repeat (first | exact bY | refine bK ?_ | refine bX ?_)) ?_
       refine dx ?_
       refine fi 0 ?_
       refine dx ?_
       refine fi 1 ?_
       refine dC (fun _ hj => hmay _) ?_
       refine uv ?_
       refine ji ?_
       first | refine dS ?_ | refine dU ?_ | refine dG (dx ?_)
       first | refine dS ?_ | refine dU ?_ | refine dG (gy 0 [_,_,_] ?_)
       refine bM (i := 9) rfl (fun ρ1 w1 hj hR => (show ρ1 27 = Value.bool _ from hR.2.1)) (fun ρ1 w1 hj hR => bs au.out (aF (show ρ1 29 = Value.agg (List.toArray _) from hR.1) bq)) (fun w1 hj => hsg _) ?_
       first | refine dS ?_ | refine dU ?_ | refine dG (k9 ?_)
       first | refine nj ?_ | refine nk ?_
       refine ji ?_
       first | refine dS ?_ | refine dU ?_ | refine dG (dx ?_)
       first | refine dS ?_ | refine dU ?_ | refine dG (gy 0 [_,_,_] ?_)
       first | refine dS ?_ | refine dU ?_
       first | refine dS ?_ | refine dU ?_ | refine dG (dx ?_)
       first | refine dS ?_ | refine dU ?_ | refine dG (gy 0 [_,_,_] ?_)
       first | refine fw (i := 18) rfl (fun ρ1 w1 hj hR => (show ρ1 33 = Value.bool _ from hR.2.2.1)) (by decide) ?_ | refine eB (i := 18) rfl (fun ρ1 w1 hj hR => (show ρ1 33 = undef from hR.2.2.1)) ?_ | refine dJ (i := 18) rfl (fun ρ1 w1 hj hR => (show ρ1 33 = Value.bool _ from hR.2.2.1)) (fun ρ1 w1 hj hR => jf (show ρ1 36 = Value.agg (List.toArray _) from hR.1) (show ρ1 38 = Value.agg (List.toArray _) from hR.2.1) (by first | assumption | rfl)) ?_ | refine dJ (i := 18) rfl (fun ρ1 w1 hj hR => (show ρ1 33 = Value.bool _ from hR.2.2.1)) (fun ρ1 w1 hj hR => jk (show ρ1 36 = Value.agg (List.toArray _) from hR.1) (show ρ1 38 = Value.agg (List.toArray _) from hR.2.1) (by assumption)) ?_
       first | refine nj ?_ | refine nk ?_
       refine ji ?_
       first | refine dS ?_ | refine dU ?_ | refine dG (eG ?_)
       first | refine dS ?_ | refine dU ?_ | refine dG (tG ?_)
       first | refine dS ?_ | refine dU ?_ | refine dG (ji ?_)
       first | refine dS ?_ | refine dU ?_ | refine dG (dx ?_)
       first | refine dS ?_ | refine dU ?_ | refine dG (fi 1 ?_)
       first | refine dS ?_ | refine dU ?_ | refine dG (eG ?_)
       first | refine dS ?_ | refine dU ?_ | refine dG (nv ?_)
       first | refine fw (i := 28) rfl (fun ρ1 w1 hj hR => (show ρ1 44 = Value.bool _ from hR.2.2.1)) (by decide) ?_ | refine eB (i := 28) rfl (fun ρ1 w1 hj hR => (show ρ1 44 = undef from hR.2.2.1)) ?_ | refine dJ (i := 28) rfl (fun ρ1 w1 hj hR => (show ρ1 44 = Value.bool _ from hR.2.2.1)) (fun ρ1 w1 hj hR => ej aG.out aD.size (show ρ1 46 = Value.slice _ _ _ from hR.1) (show ρ1 48 = Value.int _ _ from hR.2.1) rfl (by omega)) ?_
       first | refine dS ?_ | refine dU ?_ | refine dG (wq ?_)
       first | refine dS ?_ | refine dU ?_ | refine dG (kJ (fun _ hj => hT) ?_)
       first | refine dS ?_ | refine dU ?_ | refine dG (dx ?_)
       first | refine dS ?_ | refine dU ?_ | refine dG (fi 0 ?_)
       refine bp ?_
       intro f W hJ hV _
       have hb_8 := hJ.bl
       obtain ⟨v53, v52, v51, v50, v49, v48, v47, v46, v45, v44, v43, v42, v41, v40, v39, v38, v37, v36, v35, v34, v33, v32, v31, v30, v29, v28, v27, v26, v25, v24, v23, v22, v21, _⟩ := hV
       replace hh := hJ.hp
       refine a6 (bu (ai v53 (ai v52 (ai v51 (ai v50 (ai v49 (ai v48 (ai v47 (ai v46 (ai v45 (ai v44 (ai v43 (ai v42 (ai v41 (ai v40 (ai v39 (ai v38 (ai v37 (ai v36 (ai v35 (ai v34 (ai v33 (ai v32 (ai v31 (ai v30 (ai v29 (ai v28 (ai v27 (ai v26 (ai v25 (ai v24 (ai v23 (ai v22 (ai v21 a5)))))))))))))))))))))))))))))))))) ?_
       dsimp only [cC]
       clear hJ
       first | refine gS ?_ | (refine gT ?_; refine fT rfl rfl (by decide) ?_) | refine gV ?_
       first | refine gS ?_ | (refine gT ?_; (first | refine cU ?_ | refine cV ?_)) | refine gV ?_
       first | refine cU ?_ | refine cV ?_
       refine ah (cT (sr (aI (ah (aq (bO (aJ (aJ (bO (aJ ?_))))))))))
       refine cf ?_
       exact ⟨rfl, hh.below⟩
      ·have hs : ¬ x.c.i.sign = 0 := fun h => hz (hzz.1 h)
       by_cases hnf : nR x.c.d = x.c
       ·have hgood : jw v x = true := by unfold jw pH; rw [hm, decide_eq_false hz, (lU x.c).2 hnf]; rfl
        have hall2 : (ts.take (i + 1)).all (jw v) = true := by rw [aT hx, List.all_append, hall]; simp [hgood]
        by_cases h0 : i = 0
        ·refine sr ?_
         refine aV (ah (aj (cT (ao (ak (aj (ar (sr (mI ?_)))))))))
         refine aY (k := i) aG.out aD.size rfl rfl (by omega) (by omega) (by decide) ?_
         refine bS (vs := [_, _, _, _]) aD.out rfl ((hr.ext hh.below).recAt TR.len hx) rfl (by decide) ?_
         refine cx hh ?_
         intro b4 w4 hh
         refine aI ?_
         refine bL hh 0 [_,_,_,_] ?_
         intro ws hh
         replace hh : Hp _ (.blk _ _ [_, _, _, _] _ :: _) _ := hh
         refine ah (aj ?_)
         refine eH [] [] [0, 1, 0, 4, 15, 31, 63, 127, 255, 511, 1023, 2047, 4095, 8191, 16383, 32767, 8191, 73727, 262143, 524287, 1048575, 2097151, 4194303, 8388607, 16777215, 33554431, 16777215, 83886079, 268435455, 536870911, 1073741823, 16777215, 2164260863, 8589934591, 17179869183, 34359738367] 33 [[(4, none)], [(21, some 0)], [(1, none)], [(23, some 2)], [(22, some 1), (24, some 3)], [(25, some 4)], [(26, some 5)], [(4, none), (27, some 6)], [(28, some 7), (27, some 6)], [(29, some 8), (27, some 6)], [(30, some 9), (27, some 6)], [(27, some 6), (31, some 10)], [(32, some 11)], [(4, none), (33, some 12)], [(34, some 13), (33, some 12)], [(35, some 14), (33, some 12)], [(4, none), (33, some 12)], [(37, some 16), (33, some 12)], [(36, some 15), (38, some 17), (33, some 12)], [(33, some 12), (39, some 18)], [(40, some 19)], [(3, none), (41, some 20)], [(42, some 21), (41, some 20)], [(43, some 22), (41, some 20)], [(1, none), (44, some 23)], [(45, some 24), (44, some 23)], [(3, none), (44, some 23)], [(47, some 26), (44, some 23)], [(46, some 25), (48, some 27), (44, some 23)], [(49, some 28), (44, some 23)], [(50, some 29), (44, some 23)], [(4, none), (44, some 23)], [(52, some 31), (44, some 23)]] [(32, 53), (31, 52), (30, 51), (29, 50), (28, 49), (27, 48), (26, 47), (25, 46), (24, 45), (23, 44), (22, 43), (21, 42), (20, 41), (19, 40), (18, 39), (17, 38), (16, 37), (15, 36), (14, 35), (13, 34), (12, 33), (11, 32), (10, 31), (9, 30), (8, 29), (7, 28), (6, 27), (5, 26), (4, 25), (3, 24), (2, 23), (1, 22), (0, 21)] hh mixed (by kernel_rfl) fj rfl (by repeat (first | exact bY | refine bK ?_ | refine bX ?_)) ?_
         refine dx ?_
         refine fi 0 ?_
         refine dx ?_
         refine fi 1 ?_
         refine dC (fun _ hj => hmay _) ?_
         refine uv ?_
         refine ji ?_
         first | refine dS ?_ | refine dU ?_ | refine dG (dx ?_)
         first | refine dS ?_ | refine dU ?_ | refine dG (gy 0 [_,_,_] ?_)
         refine bM (i := 9) rfl (fun ρ1 w1 hj hR => (show ρ1 27 = Value.bool _ from hR.2.1)) (fun ρ1 w1 hj hR => bs au.out (aF (show ρ1 29 = Value.agg (List.toArray _) from hR.1) bq)) (fun w1 hj => hsg _) ?_
         first | refine dS ?_ | refine dU ?_ | refine dG (k9 ?_)
         first | refine nj ?_ | refine nk ?_
         refine ji ?_
         first | refine dS ?_ | refine dU ?_ | refine dG (dx ?_)
         first | refine dS ?_ | refine dU ?_ | refine dG (gy 0 [_,_,_] ?_)
         refine bM (i := 15) rfl (fun ρ1 w1 hj hR => (show ρ1 33 = Value.bool _ from hR.2.1)) (fun ρ1 w1 hj hR => bs au.out (aF (show ρ1 35 = Value.agg (List.toArray _) from hR.1) bq)) (fun w1 hj => hfo _ (hT.hp hj.hp)) ?_
         first | refine dS ?_ | refine dU ?_ | refine dG (dx ?_)
         first | refine dS ?_ | refine dU ?_ | refine dG (gy 0 [_,_,_] ?_)
         first | refine fw (i := 18) rfl (fun ρ1 w1 hj hR => (show ρ1 33 = Value.bool _ from hR.2.2.1)) (by decide) ?_ | refine eB (i := 18) rfl (fun ρ1 w1 hj hR => (show ρ1 33 = undef from hR.2.2.1)) ?_ | refine dJ (i := 18) rfl (fun ρ1 w1 hj hR => (show ρ1 33 = Value.bool _ from hR.2.2.1)) (fun ρ1 w1 hj hR => jf (show ρ1 36 = Value.agg (List.toArray _) from hR.1) (show ρ1 38 = Value.agg (List.toArray _) from hR.2.1) (by first | assumption | rfl)) ?_ | refine dJ (i := 18) rfl (fun ρ1 w1 hj hR => (show ρ1 33 = Value.bool _ from hR.2.2.1)) (fun ρ1 w1 hj hR => jk (show ρ1 36 = Value.agg (List.toArray _) from hR.1) (show ρ1 38 = Value.agg (List.toArray _) from hR.2.1) (by assumption)) ?_
         first | refine nj ?_ | refine nk ?_
         refine ji ?_
         first | refine dS ?_ | refine dU ?_ | refine dG (eG ?_)
         first | refine dS ?_ | refine dU ?_ | refine dG (tG ?_)
         first | refine dS ?_ | refine dU ?_ | refine dG (ji ?_)
         first | refine dS ?_ | refine dU ?_ | refine dG (dx ?_)
         first | refine dS ?_ | refine dU ?_ | refine dG (fi 1 ?_)
         first | refine dS ?_ | refine dU ?_ | refine dG (eG ?_)
         first | refine dS ?_ | refine dU ?_ | refine dG (nv ?_)
         first | refine fw (i := 28) rfl (fun ρ1 w1 hj hR => (show ρ1 44 = Value.bool _ from hR.2.2.1)) (by decide) ?_ | refine eB (i := 28) rfl (fun ρ1 w1 hj hR => (show ρ1 44 = undef from hR.2.2.1)) ?_ | refine dJ (i := 28) rfl (fun ρ1 w1 hj hR => (show ρ1 44 = Value.bool _ from hR.2.2.1)) (fun ρ1 w1 hj hR => ej aG.out aD.size (show ρ1 46 = Value.slice _ _ _ from hR.1) (show ρ1 48 = Value.int _ _ from hR.2.1) rfl (by omega)) ?_
         first | refine dS ?_ | refine dU ?_ | refine dG (wq ?_)
         first | refine dS ?_ | refine dU ?_ | refine dG (kJ (fun _ hj => hT) ?_)
         first | refine dS ?_ | refine dU ?_ | refine dG (dx ?_)
         first | refine dS ?_ | refine dU ?_ | refine dG (fi 0 ?_)
         refine bp ?_
         intro f W hJ hV _
         have hb_8 := hJ.bl
         obtain ⟨v53, v52, v51, v50, v49, v48, v47, v46, v45, v44, v43, v42, v41, v40, v39, v38, v37, v36, v35, v34, v33, v32, v31, v30, v29, v28, v27, v26, v25, v24, v23, v22, v21, _⟩ := hV
         replace hh := hJ.hp
         refine a6 (bu (ai v53 (ai v52 (ai v51 (ai v50 (ai v49 (ai v48 (ai v47 (ai v46 (ai v45 (ai v44 (ai v43 (ai v42 (ai v41 (ai v40 (ai v39 (ai v38 (ai v37 (ai v36 (ai v35 (ai v34 (ai v33 (ai v32 (ai v31 (ai v30 (ai v29 (ai v28 (ai v27 (ai v26 (ai v25 (ai v24 (ai v23 (ai v22 (ai v21 a5)))))))))))))))))))))))))))))))))) ?_
         dsimp only [cC]
         clear hJ
         first | refine gS ?_ | (refine gT ?_; refine fT rfl rfl (by decide) ?_) | refine gV ?_
         first | refine gS ?_ | (refine gT ?_; (first | refine cU ?_ | refine cV ?_)) | refine gV ?_
         first | refine cU ?_ | refine cV ?_
         refine ah (cF (ao (aW (ak (aw ?_)))))
         refine bJ (mI (aE (ak ?_)))
         replace hh := hh.sub (List.Sublist.cons _ (List.Sublist.cons_cons _ List.Sublist.slnil))
         refine ⟨⟨i + 1, by omega, rfl, hall2, by rw [aT hx, h0]; rfl, hh⟩, by show n - (i + 1) < n - i; omega, ?_⟩
         (repeat (first | exact az _ _ _ | refine aC rfl ?_ | refine ay rfl ?_))
        ·obtain ⟨q, hq⟩ : ∃ q, i = q + 1 := ⟨i - 1, by omega⟩
         obtain ⟨p, hp⟩ := aH (l := ts) (k := q) (by omega)
         cases hlp : fD p.m x.m with
         | false =>
          rw [hbad (vr hp (hq ▸ hx) hlp)]
          have hge : (!(Op.bytesLess p.m.toList x.m.toList)) = true := by rw [kn, hlp]; rfl
          refine sr ?_
          refine aV (ah (aj (cT (ao (ak (aj (ar (sr (mI ?_)))))))))
          refine aY (k := i) aG.out aD.size rfl rfl (by omega) (by omega) (by decide) ?_
          refine bS (vs := [_, _, _, _]) aD.out rfl ((hr.ext hh.below).recAt TR.len hx) rfl (by decide) ?_
          refine cx hh ?_
          intro b4 w4 hh
          refine aI ?_
          refine bL hh 0 [_,_,_,_] ?_
          intro ws hh
          replace hh : Hp _ (.blk _ _ [_, _, _, _] _ :: _) _ := hh
          refine ah (aj ?_)
          refine eH [] [] [0, 1, 0, 4, 15, 31, 63, 127, 255, 511, 1023, 2047, 4095, 8191, 16383, 32767, 8191, 73727, 262143, 524287, 1048575, 2097151, 4194303, 8388607, 16777215, 33554431, 16777215, 83886079, 268435455, 536870911, 1073741823, 16777215, 2164260863, 8589934591, 17179869183, 34359738367] 33 [[(4, none)], [(21, some 0)], [(1, none)], [(23, some 2)], [(22, some 1), (24, some 3)], [(25, some 4)], [(26, some 5)], [(4, none), (27, some 6)], [(28, some 7), (27, some 6)], [(29, some 8), (27, some 6)], [(30, some 9), (27, some 6)], [(27, some 6), (31, some 10)], [(32, some 11)], [(4, none), (33, some 12)], [(34, some 13), (33, some 12)], [(35, some 14), (33, some 12)], [(4, none), (33, some 12)], [(37, some 16), (33, some 12)], [(36, some 15), (38, some 17), (33, some 12)], [(33, some 12), (39, some 18)], [(40, some 19)], [(3, none), (41, some 20)], [(42, some 21), (41, some 20)], [(43, some 22), (41, some 20)], [(1, none), (44, some 23)], [(45, some 24), (44, some 23)], [(3, none), (44, some 23)], [(47, some 26), (44, some 23)], [(46, some 25), (48, some 27), (44, some 23)], [(49, some 28), (44, some 23)], [(50, some 29), (44, some 23)], [(4, none), (44, some 23)], [(52, some 31), (44, some 23)]] [(32, 53), (31, 52), (30, 51), (29, 50), (28, 49), (27, 48), (26, 47), (25, 46), (24, 45), (23, 44), (22, 43), (21, 42), (20, 41), (19, 40), (18, 39), (17, 38), (16, 37), (15, 36), (14, 35), (13, 34), (12, 33), (11, 32), (10, 31), (9, 30), (8, 29), (7, 28), (6, 27), (5, 26), (4, 25), (3, 24), (2, 23), (1, 22), (0, 21)] hh mixed (by kernel_rfl) fj rfl (by repeat (first | exact bY | refine bK ?_ | refine bX ?_)) ?_
          refine dx ?_
          refine fi 0 ?_
          refine dx ?_
          refine fi 1 ?_
          refine dC (fun _ hj => hmay _) ?_
          refine uv ?_
          refine ji ?_
          first | refine dS ?_ | refine dU ?_ | refine dG (dx ?_)
          first | refine dS ?_ | refine dU ?_ | refine dG (gy 0 [_,_,_] ?_)
          refine bM (i := 9) rfl (fun ρ1 w1 hj hR => (show ρ1 27 = Value.bool _ from hR.2.1)) (fun ρ1 w1 hj hR => bs au.out (aF (show ρ1 29 = Value.agg (List.toArray _) from hR.1) bq)) (fun w1 hj => hsg _) ?_
          first | refine dS ?_ | refine dU ?_ | refine dG (k9 ?_)
          first | refine nj ?_ | refine nk ?_
          refine ji ?_
          first | refine dS ?_ | refine dU ?_ | refine dG (dx ?_)
          first | refine dS ?_ | refine dU ?_ | refine dG (gy 0 [_,_,_] ?_)
          refine bM (i := 15) rfl (fun ρ1 w1 hj hR => (show ρ1 33 = Value.bool _ from hR.2.1)) (fun ρ1 w1 hj hR => bs au.out (aF (show ρ1 35 = Value.agg (List.toArray _) from hR.1) bq)) (fun w1 hj => hfo _ (hT.hp hj.hp)) ?_
          first | refine dS ?_ | refine dU ?_ | refine dG (dx ?_)
          first | refine dS ?_ | refine dU ?_ | refine dG (gy 0 [_,_,_] ?_)
          first | refine fw (i := 18) rfl (fun ρ1 w1 hj hR => (show ρ1 33 = Value.bool _ from hR.2.2.1)) (by decide) ?_ | refine eB (i := 18) rfl (fun ρ1 w1 hj hR => (show ρ1 33 = undef from hR.2.2.1)) ?_ | refine dJ (i := 18) rfl (fun ρ1 w1 hj hR => (show ρ1 33 = Value.bool _ from hR.2.2.1)) (fun ρ1 w1 hj hR => jf (show ρ1 36 = Value.agg (List.toArray _) from hR.1) (show ρ1 38 = Value.agg (List.toArray _) from hR.2.1) (by first | assumption | rfl)) ?_ | refine dJ (i := 18) rfl (fun ρ1 w1 hj hR => (show ρ1 33 = Value.bool _ from hR.2.2.1)) (fun ρ1 w1 hj hR => jk (show ρ1 36 = Value.agg (List.toArray _) from hR.1) (show ρ1 38 = Value.agg (List.toArray _) from hR.2.1) (by assumption)) ?_
          first | refine nj ?_ | refine nk ?_
          refine ji ?_
          first | refine dS ?_ | refine dU ?_ | refine dG (eG ?_)
          first | refine dS ?_ | refine dU ?_ | refine dG (tG ?_)
          first | refine dS ?_ | refine dU ?_ | refine dG (ji ?_)
          first | refine dS ?_ | refine dU ?_ | refine dG (dx ?_)
          first | refine dS ?_ | refine dU ?_ | refine dG (fi 1 ?_)
          first | refine dS ?_ | refine dU ?_ | refine dG (eG ?_)
          first | refine dS ?_ | refine dU ?_ | refine dG (nv ?_)
          first | refine dS ?_ | refine dU ?_ | refine dG (jV (q) ?_)
          first | refine dS ?_ | refine dU ?_ | refine dG (wq ?_)
          first | refine dS ?_ | refine dU ?_ | refine dG (kJ (fun _ hj => ((hr.ext hj.hp.below).recAt TR.len hp).cell (i := 0) rfl) ?_)
          first | refine dS ?_ | refine dU ?_ | refine dG (dx ?_)
          first | refine dS ?_ | refine dU ?_ | refine dG (fi 0 ?_)
          refine bp ?_
          intro f W hJ hV _
          have hb_8 := hJ.bl
          obtain ⟨v53, v52, v51, v50, v49, v48, v47, v46, v45, v44, v43, v42, v41, v40, v39, v38, v37, v36, v35, v34, v33, v32, v31, v30, v29, v28, v27, v26, v25, v24, v23, v22, v21, _⟩ := hV
          replace hh := hJ.hp
          refine a6 (bu (ai v53 (ai v52 (ai v51 (ai v50 (ai v49 (ai v48 (ai v47 (ai v46 (ai v45 (ai v44 (ai v43 (ai v42 (ai v41 (ai v40 (ai v39 (ai v38 (ai v37 (ai v36 (ai v35 (ai v34 (ai v33 (ai v32 (ai v31 (ai v30 (ai v29 (ai v28 (ai v27 (ai v26 (ai v25 (ai v24 (ai v23 (ai v22 (ai v21 a5)))))))))))))))))))))))))))))))))) ?_
          dsimp only [cC]
          clear hJ
          first | refine gS ?_ | (refine gT ?_; refine fT rfl rfl (by decide) ?_) | refine gV ?_
          first | refine gS ?_ | (refine gT ?_; (first | refine cU ?_ | refine cV ?_)) | refine gV ?_
          first | refine cU ?_ | refine cV ?_
          refine ah ?_
          rw [hge]
          refine cT (sr (aI (ah (aq (bO (aJ (aJ (bO (aJ ?_)))))))))
          refine cf ?_
          exact ⟨rfl, hh.below⟩
         | true =>
          have hge : (!(Op.bytesLess p.m.toList x.m.toList)) = false := by rw [kn, hlp]; rfl
          refine sr ?_
          refine aV (ah (aj (cT (ao (ak (aj (ar (sr (mI ?_)))))))))
          refine aY (k := i) aG.out aD.size rfl rfl (by omega) (by omega) (by decide) ?_
          refine bS (vs := [_, _, _, _]) aD.out rfl ((hr.ext hh.below).recAt TR.len hx) rfl (by decide) ?_
          refine cx hh ?_
          intro b4 w4 hh
          refine aI ?_
          refine bL hh 0 [_,_,_,_] ?_
          intro ws hh
          replace hh : Hp _ (.blk _ _ [_, _, _, _] _ :: _) _ := hh
          refine ah (aj ?_)
          refine eH [] [] [0, 1, 0, 4, 15, 31, 63, 127, 255, 511, 1023, 2047, 4095, 8191, 16383, 32767, 8191, 73727, 262143, 524287, 1048575, 2097151, 4194303, 8388607, 16777215, 33554431, 16777215, 83886079, 268435455, 536870911, 1073741823, 16777215, 2164260863, 8589934591, 17179869183, 34359738367] 33 [[(4, none)], [(21, some 0)], [(1, none)], [(23, some 2)], [(22, some 1), (24, some 3)], [(25, some 4)], [(26, some 5)], [(4, none), (27, some 6)], [(28, some 7), (27, some 6)], [(29, some 8), (27, some 6)], [(30, some 9), (27, some 6)], [(27, some 6), (31, some 10)], [(32, some 11)], [(4, none), (33, some 12)], [(34, some 13), (33, some 12)], [(35, some 14), (33, some 12)], [(4, none), (33, some 12)], [(37, some 16), (33, some 12)], [(36, some 15), (38, some 17), (33, some 12)], [(33, some 12), (39, some 18)], [(40, some 19)], [(3, none), (41, some 20)], [(42, some 21), (41, some 20)], [(43, some 22), (41, some 20)], [(1, none), (44, some 23)], [(45, some 24), (44, some 23)], [(3, none), (44, some 23)], [(47, some 26), (44, some 23)], [(46, some 25), (48, some 27), (44, some 23)], [(49, some 28), (44, some 23)], [(50, some 29), (44, some 23)], [(4, none), (44, some 23)], [(52, some 31), (44, some 23)]] [(32, 53), (31, 52), (30, 51), (29, 50), (28, 49), (27, 48), (26, 47), (25, 46), (24, 45), (23, 44), (22, 43), (21, 42), (20, 41), (19, 40), (18, 39), (17, 38), (16, 37), (15, 36), (14, 35), (13, 34), (12, 33), (11, 32), (10, 31), (9, 30), (8, 29), (7, 28), (6, 27), (5, 26), (4, 25), (3, 24), (2, 23), (1, 22), (0, 21)] hh mixed (by kernel_rfl) fj rfl (by repeat (first | exact bY | refine bK ?_ | refine bX ?_)) ?_
          refine dx ?_
          refine fi 0 ?_
          refine dx ?_
          refine fi 1 ?_
          refine dC (fun _ hj => hmay _) ?_
          refine uv ?_
          refine ji ?_
          first | refine dS ?_ | refine dU ?_ | refine dG (dx ?_)
          first | refine dS ?_ | refine dU ?_ | refine dG (gy 0 [_,_,_] ?_)
          refine bM (i := 9) rfl (fun ρ1 w1 hj hR => (show ρ1 27 = Value.bool _ from hR.2.1)) (fun ρ1 w1 hj hR => bs au.out (aF (show ρ1 29 = Value.agg (List.toArray _) from hR.1) bq)) (fun w1 hj => hsg _) ?_
          first | refine dS ?_ | refine dU ?_ | refine dG (k9 ?_)
          first | refine nj ?_ | refine nk ?_
          refine ji ?_
          first | refine dS ?_ | refine dU ?_ | refine dG (dx ?_)
          first | refine dS ?_ | refine dU ?_ | refine dG (gy 0 [_,_,_] ?_)
          refine bM (i := 15) rfl (fun ρ1 w1 hj hR => (show ρ1 33 = Value.bool _ from hR.2.1)) (fun ρ1 w1 hj hR => bs au.out (aF (show ρ1 35 = Value.agg (List.toArray _) from hR.1) bq)) (fun w1 hj => hfo _ (hT.hp hj.hp)) ?_
          first | refine dS ?_ | refine dU ?_ | refine dG (dx ?_)
          first | refine dS ?_ | refine dU ?_ | refine dG (gy 0 [_,_,_] ?_)
          first | refine fw (i := 18) rfl (fun ρ1 w1 hj hR => (show ρ1 33 = Value.bool _ from hR.2.2.1)) (by decide) ?_ | refine eB (i := 18) rfl (fun ρ1 w1 hj hR => (show ρ1 33 = undef from hR.2.2.1)) ?_ | refine dJ (i := 18) rfl (fun ρ1 w1 hj hR => (show ρ1 33 = Value.bool _ from hR.2.2.1)) (fun ρ1 w1 hj hR => jf (show ρ1 36 = Value.agg (List.toArray _) from hR.1) (show ρ1 38 = Value.agg (List.toArray _) from hR.2.1) (by first | assumption | rfl)) ?_ | refine dJ (i := 18) rfl (fun ρ1 w1 hj hR => (show ρ1 33 = Value.bool _ from hR.2.2.1)) (fun ρ1 w1 hj hR => jk (show ρ1 36 = Value.agg (List.toArray _) from hR.1) (show ρ1 38 = Value.agg (List.toArray _) from hR.2.1) (by assumption)) ?_
          first | refine nj ?_ | refine nk ?_
          refine ji ?_
          first | refine dS ?_ | refine dU ?_ | refine dG (eG ?_)
          first | refine dS ?_ | refine dU ?_ | refine dG (tG ?_)
          first | refine dS ?_ | refine dU ?_ | refine dG (ji ?_)
          first | refine dS ?_ | refine dU ?_ | refine dG (dx ?_)
          first | refine dS ?_ | refine dU ?_ | refine dG (fi 1 ?_)
          first | refine dS ?_ | refine dU ?_ | refine dG (eG ?_)
          first | refine dS ?_ | refine dU ?_ | refine dG (nv ?_)
          first | refine dS ?_ | refine dU ?_ | refine dG (jV (q) ?_)
          first | refine dS ?_ | refine dU ?_ | refine dG (wq ?_)
          first | refine dS ?_ | refine dU ?_ | refine dG (kJ (fun _ hj => ((hr.ext hj.hp.below).recAt TR.len hp).cell (i := 0) rfl) ?_)
          first | refine dS ?_ | refine dU ?_ | refine dG (dx ?_)
          first | refine dS ?_ | refine dU ?_ | refine dG (fi 0 ?_)
          refine bp ?_
          intro f W hJ hV _
          have hb_8 := hJ.bl
          obtain ⟨v53, v52, v51, v50, v49, v48, v47, v46, v45, v44, v43, v42, v41, v40, v39, v38, v37, v36, v35, v34, v33, v32, v31, v30, v29, v28, v27, v26, v25, v24, v23, v22, v21, _⟩ := hV
          replace hh := hJ.hp
          refine a6 (bu (ai v53 (ai v52 (ai v51 (ai v50 (ai v49 (ai v48 (ai v47 (ai v46 (ai v45 (ai v44 (ai v43 (ai v42 (ai v41 (ai v40 (ai v39 (ai v38 (ai v37 (ai v36 (ai v35 (ai v34 (ai v33 (ai v32 (ai v31 (ai v30 (ai v29 (ai v28 (ai v27 (ai v26 (ai v25 (ai v24 (ai v23 (ai v22 (ai v21 a5)))))))))))))))))))))))))))))))))) ?_
          dsimp only [cC]
          clear hJ
          first | refine gS ?_ | (refine gT ?_; refine fT rfl rfl (by decide) ?_) | refine gV ?_
          first | refine gS ?_ | (refine gT ?_; (first | refine cU ?_ | refine cV ?_)) | refine gV ?_
          first | refine cU ?_ | refine cV ?_
          refine ah ?_
          rw [hge]
          refine cF (ao (aW (ak (aw ?_))))
          refine bJ (mI (aE (ak ?_)))
          replace hh := hh.sub (List.Sublist.cons _ (List.Sublist.cons_cons _ List.Sublist.slnil))
          refine ⟨⟨i + 1, by omega, rfl, hall2, ?_, hh⟩, by show n - (i + 1) < n - i; omega, ?_⟩
          ·rw [hq, aT hp] at hris
           rw [aT hx, hq, aT hp, List.append_assoc]
           show kZ (ts.take q ++ [p, x]) = true
           rw [nS, hris, hlp]
           rfl
          ·(repeat (first | exact az _ _ _ | refine aC rfl ?_ | refine ay rfl ?_))
       ·rw [hbad (oN hx (by unfold jw pH; rw [hm, decide_eq_false hz, Bool.eq_false_iff.2 (fun h => hnf ((lU x.c).1 h))]; rfl))]
        refine sr ?_
        refine aV (ah (aj (cT (ao (ak (aj (ar (sr (mI ?_)))))))))
        refine aY (k := i) aG.out aD.size rfl rfl (by omega) (by omega) (by decide) ?_
        refine bS (vs := [_, _, _, _]) aD.out rfl ((hr.ext hh.below).recAt TR.len hx) rfl (by decide) ?_
        refine cx hh ?_
        intro b4 w4 hh
        refine aI ?_
        refine bL hh 0 [_,_,_,_] ?_
        intro ws hh
        replace hh : Hp _ (.blk _ _ [_, _, _, _] _ :: _) _ := hh
        refine ah (aj ?_)
        refine eH [] [] [0, 1, 0, 4, 15, 31, 63, 127, 255, 511, 1023, 2047, 4095, 8191, 16383, 32767, 8191, 73727, 262143, 524287, 1048575, 2097151, 4194303, 8388607, 16777215, 33554431, 16777215, 83886079, 268435455, 536870911, 1073741823, 16777215, 2164260863, 8589934591, 17179869183, 34359738367] 33 [[(4, none)], [(21, some 0)], [(1, none)], [(23, some 2)], [(22, some 1), (24, some 3)], [(25, some 4)], [(26, some 5)], [(4, none), (27, some 6)], [(28, some 7), (27, some 6)], [(29, some 8), (27, some 6)], [(30, some 9), (27, some 6)], [(27, some 6), (31, some 10)], [(32, some 11)], [(4, none), (33, some 12)], [(34, some 13), (33, some 12)], [(35, some 14), (33, some 12)], [(4, none), (33, some 12)], [(37, some 16), (33, some 12)], [(36, some 15), (38, some 17), (33, some 12)], [(33, some 12), (39, some 18)], [(40, some 19)], [(3, none), (41, some 20)], [(42, some 21), (41, some 20)], [(43, some 22), (41, some 20)], [(1, none), (44, some 23)], [(45, some 24), (44, some 23)], [(3, none), (44, some 23)], [(47, some 26), (44, some 23)], [(46, some 25), (48, some 27), (44, some 23)], [(49, some 28), (44, some 23)], [(50, some 29), (44, some 23)], [(4, none), (44, some 23)], [(52, some 31), (44, some 23)]] [(32, 53), (31, 52), (30, 51), (29, 50), (28, 49), (27, 48), (26, 47), (25, 46), (24, 45), (23, 44), (22, 43), (21, 42), (20, 41), (19, 40), (18, 39), (17, 38), (16, 37), (15, 36), (14, 35), (13, 34), (12, 33), (11, 32), (10, 31), (9, 30), (8, 29), (7, 28), (6, 27), (5, 26), (4, 25), (3, 24), (2, 23), (1, 22), (0, 21)] hh mixed (by kernel_rfl) fj rfl (by repeat (first | exact bY | refine bK ?_ | refine bX ?_)) ?_
        refine dx ?_
        refine fi 0 ?_
        refine dx ?_
        refine fi 1 ?_
        refine dC (fun _ hj => hmay _) ?_
        refine uv ?_
        refine ji ?_
        first | refine dS ?_ | refine dU ?_ | refine dG (dx ?_)
        first | refine dS ?_ | refine dU ?_ | refine dG (gy 0 [_,_,_] ?_)
        refine bM (i := 9) rfl (fun ρ1 w1 hj hR => (show ρ1 27 = Value.bool _ from hR.2.1)) (fun ρ1 w1 hj hR => bs au.out (aF (show ρ1 29 = Value.agg (List.toArray _) from hR.1) bq)) (fun w1 hj => hsg _) ?_
        first | refine dS ?_ | refine dU ?_ | refine dG (k9 ?_)
        first | refine nj ?_ | refine nk ?_
        refine ji ?_
        first | refine dS ?_ | refine dU ?_ | refine dG (dx ?_)
        first | refine dS ?_ | refine dU ?_ | refine dG (gy 0 [_,_,_] ?_)
        refine bM (i := 15) rfl (fun ρ1 w1 hj hR => (show ρ1 33 = Value.bool _ from hR.2.1)) (fun ρ1 w1 hj hR => bs au.out (aF (show ρ1 35 = Value.agg (List.toArray _) from hR.1) bq)) (fun w1 hj => hfo _ (hT.hp hj.hp)) ?_
        first | refine dS ?_ | refine dU ?_ | refine dG (dx ?_)
        first | refine dS ?_ | refine dU ?_ | refine dG (gy 0 [_,_,_] ?_)
        first | refine fw (i := 18) rfl (fun ρ1 w1 hj hR => (show ρ1 33 = Value.bool _ from hR.2.2.1)) (by decide) ?_ | refine eB (i := 18) rfl (fun ρ1 w1 hj hR => (show ρ1 33 = undef from hR.2.2.1)) ?_ | refine dJ (i := 18) rfl (fun ρ1 w1 hj hR => (show ρ1 33 = Value.bool _ from hR.2.2.1)) (fun ρ1 w1 hj hR => jf (show ρ1 36 = Value.agg (List.toArray _) from hR.1) (show ρ1 38 = Value.agg (List.toArray _) from hR.2.1) (by first | assumption | rfl)) ?_ | refine dJ (i := 18) rfl (fun ρ1 w1 hj hR => (show ρ1 33 = Value.bool _ from hR.2.2.1)) (fun ρ1 w1 hj hR => jk (show ρ1 36 = Value.agg (List.toArray _) from hR.1) (show ρ1 38 = Value.agg (List.toArray _) from hR.2.1) (by assumption)) ?_
        first | refine nj ?_ | refine nk ?_
        refine ji ?_
        first | refine dS ?_ | refine dU ?_ | refine dG (eG ?_)
        first | refine dS ?_ | refine dU ?_ | refine dG (tG ?_)
        first | refine dS ?_ | refine dU ?_ | refine dG (ji ?_)
        first | refine dS ?_ | refine dU ?_ | refine dG (dx ?_)
        first | refine dS ?_ | refine dU ?_ | refine dG (fi 1 ?_)
        first | refine dS ?_ | refine dU ?_ | refine dG (eG ?_)
        first | refine dS ?_ | refine dU ?_ | refine dG (nv ?_)
        first | refine fw (i := 28) rfl (fun ρ1 w1 hj hR => (show ρ1 44 = Value.bool _ from hR.2.2.1)) (by decide) ?_ | refine eB (i := 28) rfl (fun ρ1 w1 hj hR => (show ρ1 44 = undef from hR.2.2.1)) ?_ | refine dJ (i := 28) rfl (fun ρ1 w1 hj hR => (show ρ1 44 = Value.bool _ from hR.2.2.1)) (fun ρ1 w1 hj hR => ej aG.out aD.size (show ρ1 46 = Value.slice _ _ _ from hR.1) (show ρ1 48 = Value.int _ _ from hR.2.1) rfl (by omega)) ?_
        first | refine dS ?_ | refine dU ?_ | refine dG (wq ?_)
        first | refine dS ?_ | refine dU ?_ | refine dG (kJ (fun _ hj => hT) ?_)
        first | refine dS ?_ | refine dU ?_ | refine dG (dx ?_)
        first | refine dS ?_ | refine dU ?_ | refine dG (fi 0 ?_)
        refine bp ?_
        intro f W hJ hV _
        have hb_8 := hJ.bl
        obtain ⟨v53, v52, v51, v50, v49, v48, v47, v46, v45, v44, v43, v42, v41, v40, v39, v38, v37, v36, v35, v34, v33, v32, v31, v30, v29, v28, v27, v26, v25, v24, v23, v22, v21, _⟩ := hV
        replace hh := hJ.hp
        refine a6 (bu (ai v53 (ai v52 (ai v51 (ai v50 (ai v49 (ai v48 (ai v47 (ai v46 (ai v45 (ai v44 (ai v43 (ai v42 (ai v41 (ai v40 (ai v39 (ai v38 (ai v37 (ai v36 (ai v35 (ai v34 (ai v33 (ai v32 (ai v31 (ai v30 (ai v29 (ai v28 (ai v27 (ai v26 (ai v25 (ai v24 (ai v23 (ai v22 (ai v21 a5)))))))))))))))))))))))))))))))))) ?_
        dsimp only [cC]
        clear hJ
        first | refine gS ?_ | (refine gT ?_; refine fT rfl rfl (by decide) ?_) | refine gV ?_
        first | refine gS ?_ | (refine gT ?_; (first | refine cU ?_ | refine cV ?_)) | refine gV ?_
        first | refine cU ?_ | refine cV ?_
        refine ah (cT (sr (aI (ah (aq (bO (aJ (aJ (bO (aJ ?_))))))))))
        refine cf ?_
        exact ⟨rfl, hh.below⟩
    ·rw [List.take_of_length_le (by omega)] at hall hris
     rw [show gB v ts = 0 by unfold gB okB; rw [if_neg (by rw [hf]; decide), if_neg (by omega), hall, hris]; rfl]
     refine sr ?_
     refine aV (ah (aj (cF ?_)))
     refine aX ?_
     refine aA (aA (bj (ak (sr (aI (ah (aq ?_)))))))
     refine cf ?_
     exact ⟨rfl, hh.below⟩
end Go.Proofs.YtkgdagjklakajaaGreatDoor
/- The walks through poly.Make. -/
namespace Go.Proofs.YtkgdagjklakajaaGreatDoor
open Go.RowKit
def fu (v : Int) (t : TR) : Bool := ep t.m.data.toList && decide ((t.m.size : Int) = v)
theorem qU (z : TR) (v : Int) (b : Nat) (w : World) (hp : w.cell? ⟨b, 0, none⟩ = some (.int .i64 v)) (hz : z.m.size ≤ 100000) : Calls Tryz.prog 91 #[.agg #[.string z.m, .bool z.c.neg, .string z.c.cq, .int .i64 z.c.e], .pointer (some ⟨b, 0, none⟩)] w fun r w' => r = .returned (.bool (!fu v z)) ∧ Below w.heap.size w w' := by
 have hh := Hp.start w
 have hmay := fun w1 => hZ z.m v w1 (by omega)
 unfold fu
 refine al (N := 9) (l := [.agg #[.string z.m, .bool z.c.neg, .string z.c.cq, .int .i64 z.c.e], .pointer (some ⟨b, 0, none⟩)]) Tryz.func91 rfl rfl (by simp) ?_
 refine sr ?_
 refine df hh [_,_,_,_] ?_
 intro b2 w2 hh
 refine aB (ah (sr (bG ?_)))
 refine bI hh 0 ?_
 refine bE aD.out rfl (dz hh.below hp) (by decide) ?_
 refine bC hh (hmay _) rfl ?_
 intro w7 hh
 cases ep z.m.data.toList && decide ((z.m.size : Int) = v) with
 | false =>
  refine eM ?_
  refine aB (ah (aq ?_))
  refine cf ?_
  exact ⟨rfl, hh.below⟩
 | true =>
  refine eM ?_
  refine aB (ah (aq ?_))
  refine cf ?_
  exact ⟨rfl, hh.below⟩
theorem nw (A : Option Addr) (n c : Nat) (l : List TR) (v : Int) (b : Nat) (w : World) (hS : Sl w A n 4 (a8 TR.cells l)) (hn : n ≤ 1000000) (hp : w.cell? ⟨b, 0, none⟩ = some (.int .i64 v)) (hz : ∀ t ∈ l, t.m.size ≤ 100000) :
  Calls Tryz.prog 90 #[.slice A n c, .func (.func 91) #[] #[.pointer (some ⟨b, 0, none⟩)]] w fun r w' => r = .returned (.bool (l.any fun t => !fu v t)) ∧ Below w.heap.size w w' :=
 ru A n c l 91 [.pointer (some ⟨b, 0, none⟩)] (fun t => !fu v t) w hS hn fun z w1 hz2 hb => qU z v b w1 (dz hb hp) (hz z hz2)
def gD (v : Int) (l : List TR) : Int := if fB v = false ∨ (l.any fun t => !fu v t) = true then 1 else if 65536 < l.length then 3 else gC l
theorem fJ (v : Int) (A : Option Addr) (n c : Nat) (l : List TR) (k : Nat) (w : World) (hT : fS w) (hS : Sl w A n 4 (a8 TR.cells l)) (hn : n ≤ 1000000) (hk : k ≤ 2999980) (ho : gm k l) (hz : ∀ t ∈ l, t.m.size ≤ 100000) :
  Calls Tryz.prog 18 #[.int .i64 v, .slice A n c] w fun r w' => ∃ g : PX, dk (gD v l) v (a3 l) g ∧ r = .returned (.tuple #[.agg #[.int .i64 g.v, .slice g.A g.n g.c], .int .i64 (gD v l)]) ∧ Hp w [g.row] w' := by
 have hh := Hp.start w
 have hln := hS.bV TR.len (by decide)
 have hfw := fun w1 => jb v w1
 have han := fun b w1 hb hp => nw A n c l v b w1 (hS.ext hb) hn hp hz
 cases hf : fB v with
 | false =>
  rw [hf] at hfw
  rw [show gD v l = 1 by unfold gD; rw [if_pos (.inl hf)]]
  refine al (N := 25) (l := [.int .i64 v, .slice A n c]) Tryz.func18 rfl rfl (by simp) ?_
  refine sr ?_
  refine df hh [_] ?_
  intro b2 w2 hh
  refine cx hh ?_
  intro b4 w4 hh
  refine aI (ah (aj (sr ?_)))
  refine bI hh 1 ?_
  refine bC hh (hfw _) rfl ?_
  intro w7 hh
  refine eM ?_
  refine mB ?_
  first | refine gS ?_ | (refine gT ?_; refine mL ?_) | refine gV ?_
  first | refine gS ?_ | (refine gT ?_; refine eZ rfl (aF (jE rfl) bq) (by decide) ?_) | refine gV ?_
  refine bH (by decide) rfl rfl (by decide) ?_
  first | refine cU ?_ | refine cV ?_
  refine ah (cT (sr ?_))
  refine eD [_,_] ?_
  refine bL hh 0 [_,_] ?_
  intro ws hh
  replace hh : Hp _ (.blk _ _ [_, _] _ :: _) _ := hh
  refine aI (ah (aq (aJ ?_)))
  refine kL (aQ rfl (aP (vs := [_, _]) aD.out (hh.ax (i := 0) (n := 2) rfl rfl) rfl) (ct (db rfl) bh)) ?_
  exact ⟨PX.nil, dk.err (by decide), rfl, (hh.sub (List.nil_sublist _)).iC⟩
 | true =>
  rw [hf] at hfw
  cases ha : l.any fun t => !fu v t with
  | true =>
   rw [ha] at han
   rw [show gD v l = 1 by unfold gD; rw [if_pos (.inr ha)]]
   refine al (N := 25) (l := [.int .i64 v, .slice A n c]) Tryz.func18 rfl rfl (by simp) ?_
   refine sr ?_
   refine df hh [_] ?_
   intro b2 w2 hh
   refine cx hh ?_
   intro b4 w4 hh
   refine aI (ah (aj (sr ?_)))
   refine bI hh 1 ?_
   refine bC hh (hfw _) rfl ?_
   intro w7 hh
   refine eM ?_
   refine mB ?_
   first | refine gS ?_ | (refine gT ?_; refine mL ?_) | refine gV ?_
   first | refine gS ?_ | (refine gT ?_; refine eZ rfl (aF (jE rfl) bq) (by decide) ?_) | refine gV ?_
   refine a9 rfl rfl ?_
   refine bC hh (han _ _ hh.below (hh.hF (i := 1) (o := 0) rfl rfl)) rfl ?_
   intro w12 hh
   first | refine cU ?_ | refine cV ?_
   refine ah (cT (sr ?_))
   refine eD [_,_] ?_
   refine bL hh 0 [_,_] ?_
   intro ws hh
   replace hh : Hp _ (.blk _ _ [_, _] _ :: _) _ := hh
   refine aI (ah (aq (aJ ?_)))
   refine kL (aQ rfl (aP (vs := [_, _]) aD.out (hh.ax (i := 0) (n := 2) rfl rfl) rfl) (ct (db rfl) bh)) ?_
   exact ⟨PX.nil, dk.err (by decide), rfl, (hh.sub (List.nil_sublist _)).iC⟩
  | false =>
   rw [ha] at han
   have e1 : gD v l = if 65536 < l.length then 3 else gC l := by unfold gD; rw [if_neg (by rw [hf, ha]; decide)]
   by_cases h6 : 65536 < n
   ·rw [e1, if_pos (by omega)]
    refine al (N := 25) (l := [.int .i64 v, .slice A n c]) Tryz.func18 rfl rfl (by simp) ?_
    refine sr ?_
    refine df hh [_] ?_
    intro b2 w2 hh
    refine cx hh ?_
    intro b4 w4 hh
    refine aI (ah (aj (sr ?_)))
    refine bI hh 1 ?_
    refine bC hh (hfw _) rfl ?_
    intro w7 hh
    refine eM ?_
    refine mB ?_
    first | refine gS ?_ | (refine gT ?_; refine mL ?_) | refine gV ?_
    first | refine gS ?_ | (refine gT ?_; refine eZ rfl (aF (jE rfl) bq) (by decide) ?_) | refine gV ?_
    refine a9 rfl rfl ?_
    refine bC hh (han _ _ hh.below (hh.hF (i := 1) (o := 0) rfl rfl)) rfl ?_
    intro w12 hh
    first | refine cU ?_ | refine cV ?_
    refine ah (cF (ao (ak (aj (sr (mL (a0 ?_)))))))
    refine cb (ah (cT (sr ?_)))
    refine eD [_,_] ?_
    refine bL hh 0 [_,_] ?_
    intro ws hh
    replace hh : Hp _ (.blk _ _ [_, _] _ :: _) _ := hh
    refine aI (ah (aq (aJ ?_)))
    refine kL (aQ rfl (aP (vs := [_, _]) aD.out (hh.ax (i := 0) (n := 2) rfl rfl) rfl) (ct (db rfl) bh)) ?_
    exact ⟨PX.nil, dk.err (by decide), rfl, (hh.sub (List.nil_sublist _)).iC⟩
   ·rw [e1, if_neg (by omega)]
    refine al (N := 25) (l := [.int .i64 v, .slice A n c]) Tryz.func18 rfl rfl (by simp) ?_
    refine sr ?_
    refine df hh [_] ?_
    intro b2 w2 hh
    refine cx hh ?_
    intro b4 w4 hh
    refine aI (ah (aj (sr ?_)))
    refine bI hh 1 ?_
    refine bC hh (hfw _) rfl ?_
    intro w7 hh
    refine eM ?_
    refine mB ?_
    first | refine gS ?_ | (refine gT ?_; refine mL ?_) | refine gV ?_
    first | refine gS ?_ | (refine gT ?_; refine eZ rfl (aF (jE rfl) bq) (by decide) ?_) | refine gV ?_
    refine a9 rfl rfl ?_
    refine bC hh (han _ _ hh.below (hh.hF (i := 1) (o := 0) rfl rfl)) rfl ?_
    intro w12 hh
    first | refine cU ?_ | refine cV ?_
    refine ah (cF (ao (ak (aj (sr (mL (a0 ?_)))))))
    refine cb (ah (cF (ao (ak (aj ?_)))))
    refine kT [] [0, 0, 2, 7, 15, 15, 63, 127] 3 [[(2, none)], [(1, none)], [(20, some 1)]] [(2, 21), (1, 20), (0, 19)] [([], 4, [(2, 21), (1, 20), (0, 19)])] hh mixed (by kernel_rfl) (by kernel_rfl) (by decide) ?_
    refine fi 1 ?_
    refine gE ?_
    refine bW (i := 2) (tF hh.sz 58 n 4 (a8 TR.cells l)) (tF.ext) ?_ ?_
    ·intro ρ1 w1 hj hR
     exact cZ rfl (bs au.out (aF (show ρ1 20 = Value.slice _ _ _ from hR.1) bq)) (ij A n c l w1 (hS.ext hj.hp.below) hn) (fun _ _ ⟨A, c, hq, ho, hb⟩ => ⟨_, hq, hb, A, c, rfl, mi ho hj.bl.size⟩)
    refine bp ?_
    intro p_ hp_
    simp only [List.mem_cons, List.not_mem_nil, or_false] at hp_
    rcases hp_ with rfl
    intro f W hJ hV
    have hb_5 := hJ.bl
    obtain ⟨v21, v20, v19, _⟩ := hV
    simp only [iH]
    have e19 : f 0 = _ := v19
    rw [e19]
    have e20 : f 1 = _ := v20
    rw [e20]
    obtain ⟨A21, c21, e21, o21⟩ : tF _ _ _ _ _ (f 2) W := v21
    rw [e21]
    replace hh := JJ.yJ hh hJ.hp o21
    clear o21
    clear e19 e20 e21 hJ
    refine aN (gF v A21 n c21 l k _ hT hh hln (by omega) (by omega) ho) au.out rfl (by decide) ?_; rintro e_ w22 ⟨g, og, rfl, hh⟩; refine ⟨_, rfl, ?_⟩
    refine cn ?_
    refine cg (i := 4) (by repeat (first | exact bY | refine bK ?_ | refine bX ?_ | refine np_scope ?_)) rfl (by kernel_rfl) (by kernel_rfl) (by kernel_rfl) (fun _ => eh (show _ = Value.tuple (List.toArray _) from rfl) rfl) (by decide) ?_
    refine cg (i := 5) (by repeat (first | exact bY | refine bK ?_ | refine bX ?_ | refine np_scope ?_)) rfl (by kernel_rfl) (by kernel_rfl) (by kernel_rfl) (fun _ => eh (show _ = Value.tuple (List.toArray _) from rfl) rfl) (by decide) ?_
    refine dH 6 (by decide) (by kernel_rfl) (by decide) (by kernel_rfl) (by kernel_rfl) ?_
    refine bL hh 1 [_,_] ?_
    intro ws hh
    replace hh : Hp _ (_ :: .blk _ _ [_, _] _ :: _) _ := hh
    refine aI (ah (aq ?_))
    refine kL (aQ rfl (aP (vs := [_, _]) aD.out (hh.ax (i := 1) (n := 2) rfl rfl) rfl) (ct (db rfl) bh)) ?_
    exact ⟨g, og, rfl, hh.sub (List.Sublist.cons_cons _ (List.nil_sublist _))⟩
end Go.Proofs.YtkgdagjklakajaaGreatDoor
/- The walk through poly.like. -/
namespace Go.Proofs.YtkgdagjklakajaaGreatDoor
open Go.RowKit
def PX.cells (g : PX) : List Value := [.int .i64 g.v, .slice g.A g.n g.c]
theorem PX.len (g : PX) : (PX.cells g).length = 2 := rfl
structure PX.oJ (g : PX) (k : Nat) : Prop where
 n : g.n ≤ 1000000
 cap : g.n ≤ g.c
 ok : gm k g.ts
 sz : ∀ t ∈ g.ts, t.m.size ≤ 100000
def PX.e (g : PX) : Int := gB g.v g.ts
theorem lM (g : PX) (k : Nat) (w : World) (hT : fS w) (h : g.at_ w) (hl : g.oJ k) :
  Calls Tryz.prog 21 #[.agg #[.int .i64 g.v, .slice g.A g.n g.c]] w fun r w' => r = .returned (.int .i64 g.e) ∧ Below w.heap.size w w' :=
 kC g.v g.A g.n g.c g.ts w hT h hl.n fun t ht => ⟨(hl.ok t ht).1, hl.sz t ht⟩
def wX (ps : List PX) : Bool := ps.any fun g => decide (g.v ≠ (ps.map PX.v).headD 0)
def iA (ps : List PX) : Int := match ps.find? (fun g => decide (g.e ≠ 0)) with | some g => g.e | none => if ps.length = 0 ∨ wX ps = true then 1 else 0
theorem rf (L : Option Addr) (n c : Nat) (ps : List PX) (f : PX) (p : Addr) (w : World) (hL : Sl w L n 2 (a8 PX.cells ps)) (hp : w.cell? p = some (.slice L n c)) (hn : 0 < n) :
  Calls Tryz.prog 174 #[.agg #[.int .i64 f.v, .slice f.A f.n f.c], .pointer (some p)] w fun r w' => r = .returned (.bool (decide (f.v ≠ (ps.map PX.v).headD 0))) ∧ Below w.heap.size w w' := by
 have hh := Hp.start w
 have hln := hL.bV PX.len (by decide)
 obtain ⟨g, ps, rfl⟩ : ∃ g l, ps = g :: l := by
  cases ps with
  | nil => exact absurd hln (by show ¬ 0 = n; omega)
  | cons g l => exact ⟨g, l, rfl⟩
 obtain ⟨ad, rfl, hr⟩ := hL.at_ hn
 have hd : (((g :: ps).map PX.v).headD 0) = g.v := rfl
 rw [hd]
 have h0 : (g :: ps)[0]? = some g := rfl
 by_cases hg : f.v = g.v
 ·refine al (N := 11) (l := [.agg #[.int .i64 f.v, .slice f.A f.n f.c], .pointer (some p)]) Tryz.func174 rfl rfl (by simp) ?_
  refine sr ?_
  refine df hh [_,_] ?_
  intro b2 w2 hh
  refine aB (ah (aj ?_))
  refine a4 6 [[(2, none)], [(4, some 0)], [(1, none)], [(6, some 2)], [(7, some 3)], [(8, some 4)]] [(5, 9), (4, 8), (3, 7), (2, 6), (1, 5), (0, 4)] hh mixed (by kernel_rfl) ?_
  refine dx ?_
  refine fi 0 ?_
  refine kJ (fun _ hj => (hj.hp.below.cell (pg hp)).trans hp) ?_
  refine bm (i := 3) (fun ρ1 w1 hj hR => dg aG.out aD.size (show ρ1 6 = Value.slice _ _ _ from hR.1) rfl (by omega) (by omega)) ?_
  refine wq ?_
  refine kJ (fun _ hj => dz hj.hp.below (((hr.recAt PX.len h0)) 0 _ rfl)) ?_
  refine bp ?_
  intro f W hJ hV
  have hb_1 := hJ.bl
  obtain ⟨v9, v8, v7, v6, v5, v4, _⟩ := hV
  replace hh := hJ.hp
  refine a6 (bu (ai v9 (ai v8 (ai v7 (ai v6 (ai v5 (ai v4 a5))))))) ?_
  dsimp only [cC]
  clear hJ
  refine er (aB (ah (aq ?_)))
  refine cf ?_
  exact ⟨by rw [decide_eq_false (by omega)], hh.below⟩
 ·refine al (N := 11) (l := [.agg #[.int .i64 f.v, .slice f.A f.n f.c], .pointer (some p)]) Tryz.func174 rfl rfl (by simp) ?_
  refine sr ?_
  refine df hh [_,_] ?_
  intro b2 w2 hh
  refine aB (ah (aj ?_))
  refine a4 6 [[(2, none)], [(4, some 0)], [(1, none)], [(6, some 2)], [(7, some 3)], [(8, some 4)]] [(5, 9), (4, 8), (3, 7), (2, 6), (1, 5), (0, 4)] hh mixed (by kernel_rfl) ?_
  refine dx ?_
  refine fi 0 ?_
  refine kJ (fun _ hj => (hj.hp.below.cell (pg hp)).trans hp) ?_
  refine bm (i := 3) (fun ρ1 w1 hj hR => dg aG.out aD.size (show ρ1 6 = Value.slice _ _ _ from hR.1) rfl (by omega) (by omega)) ?_
  refine wq ?_
  refine kJ (fun _ hj => dz hj.hp.below (((hr.recAt PX.len h0)) 0 _ rfl)) ?_
  refine bp ?_
  intro f W hJ hV
  have hb_1 := hJ.bl
  obtain ⟨v9, v8, v7, v6, v5, v4, _⟩ := hV
  replace hh := hJ.hp
  refine a6 (bu (ai v9 (ai v8 (ai v7 (ai v6 (ai v5 (ai v4 a5))))))) ?_
  dsimp only [cC]
  clear hJ
  refine er (aB (ah (aq ?_)))
  refine cf ?_
  exact ⟨by rw [decide_eq_true hg], hh.below⟩
theorem rT (A : Option Addr) (n c : Nat) (l : List PX) (g : FuncId) (cap : List Value) (p : PX → Bool) (w : World) (hS : Sl w A n 2 (a8 PX.cells l)) (hn : n ≤ 1000000) [au Tryz.prog g]
  (hg : ∀ (z : PX) (w1 : World), z ∈ l → Below w.heap.size w w1 → Calls Tryz.prog g (.agg #[.int .i64 z.v, .slice z.A z.n z.c] :: cap).toArray w1 fun r w' => r = .returned (.bool (p z)) ∧ Below w1.heap.size w1 w') :
  Calls Tryz.prog 180 #[.slice A n c, .func (.func g) #[] cap.toArray] w fun r w' => ∃ v, r = .returned (.int .i64 v) ∧ (0 ≤ v ↔ l.any p = true) ∧ Below w.heap.size w w' := by
 have hh := Hp.start w
 have hln := hS.bV PX.len (by decide)
 refine al (N := 19) (l := [.slice A n c, .func (.func g) #[] cap.toArray]) Tryz.func180 rfl rfl (by simp) ?_
 refine sr (aI (ah (aj (sr (mL (a0 (mI (ah (ar ?_)))))))))
 refine bA [4, 5, 8, 9, 10, 11, 12, 13, 14, 15, 16, 17, 18] 8
  (fun v w' => ∃ i : Nat, i ≤ n ∧ v = .int .i64 i ∧ (l.take i).any p = false ∧ Hp w [] w')
  (fun v _ => n - (intOf v).toNat) ?_ ?_
 ·exact ⟨0, Nat.zero_le _, rfl, rfl, hh⟩
 ·clear hh
  rintro ρ' v w' ⟨i, hi, rfl, hall, hh⟩
  by_cases hlt : i < n
  ·obtain ⟨z, hz⟩ := aH (l := l) (k := i) (by omega)
   obtain ⟨ad, rfl, hr⟩ := hS.at_ (by omega)
   have hc := fun w1 => hg z w1 (List.mem_of_getElem? hz)
   cases gz : p z with
   | true =>
    rw [gz] at hc
    refine sr ?_
    refine aV (ah (aj (cT (ao (ak (aj (ar (sr (mI (aI (ah ?_)))))))))))
    refine sr ?_
    refine fk (by first | exact fP rfl | exact ev_nilf rfl) (by decide) ?_
    refine mL (mI ?_)
    refine aY (k := i) aG.out aD.size rfl rfl (by omega) (by omega) (by decide) ?_
    refine bS (vs := [_, _]) aD.out rfl ((hr.ext hh.below).recAt PX.len hz) rfl (by decide) ?_
    refine eS (hc _ hh.below) au.out rfl rfl (by decide) ?_
    rintro e_ w16 ⟨rfl, hb_⟩
    refine ⟨_, rfl, ?_⟩
    replace hh := hh.ext hb_
    refine ah (cT (sr (mI (aI (ah (aq (bO (aJ (aJ (bO (aJ ?_)))))))))))
    refine cf ?_
    exact ⟨_, rfl, ⟨fun _ => List.any_eq_true.2 ⟨z, List.mem_of_getElem? hz, gz⟩, fun _ => by omega⟩, hh.below⟩
   | false =>
    rw [gz] at hc
    refine sr ?_
    refine aV (ah (aj (cT (ao (ak (aj (ar (sr (mI (aI (ah ?_)))))))))))
    refine sr ?_
    refine fk (by first | exact fP rfl | exact ev_nilf rfl) (by decide) ?_
    refine mL (mI ?_)
    refine aY (k := i) aG.out aD.size rfl rfl (by omega) (by omega) (by decide) ?_
    refine bS (vs := [_, _]) aD.out rfl ((hr.ext hh.below).recAt PX.len hz) rfl (by decide) ?_
    refine eS (hc _ hh.below) au.out rfl rfl (by decide) ?_
    rintro e_ w16 ⟨rfl, hb_⟩
    refine ⟨_, rfl, ?_⟩
    replace hh := hh.ext hb_
    refine ah (cF (ao (aW (ak (aw ?_)))))
    refine bJ (mI (aE (ak ?_)))
    refine ⟨⟨i + 1, by omega, rfl, by rw [aT hz, List.any_append, hall, List.any_cons, List.any_nil, gz]; rfl, hh⟩, by show n - (i + 1) < n - i; omega, ?_⟩
    (repeat (first | exact az _ _ _ | refine aC rfl ?_ | refine ay rfl ?_))
  ·rw [List.take_of_length_le (by omega)] at hall
   refine sr ?_
   refine aV (ah (aj (cF ?_)))
   refine aX ?_
   refine aA (aA (bj (ak (sr (aI (ah (aq ?_)))))))
   refine cf ?_
   exact ⟨_, rfl, ⟨fun h => absurd h (by decide), fun h => by rw [hall] at h; cases h⟩, hh.below⟩
theorem rg (A : Option Addr) (n c : Nat) (l : List PX) (g : FuncId) (cap : List Value) (p : PX → Bool) (w : World) (hS : Sl w A n 2 (a8 PX.cells l)) (hn : n ≤ 1000000) [au Tryz.prog g]
  (hg : ∀ (z : PX) (w1 : World), z ∈ l → Below w.heap.size w w1 → Calls Tryz.prog g (.agg #[.int .i64 z.v, .slice z.A z.n z.c] :: cap).toArray w1 fun r w' => r = .returned (.bool (p z)) ∧ Below w1.heap.size w1 w') :
  Calls Tryz.prog 119 #[.slice A n c, .func (.func g) #[] cap.toArray] w fun r w' => r = .returned (.bool (l.any p)) ∧ Below w.heap.size w w' := by
 have hh := Hp.start w
 refine al (N := 9) (l := [.slice A n c, .func (.func g) #[] cap.toArray]) Tryz.func119 rfl rfl (by simp) ?_
 refine sr (aB (ah (sr (mL ?_))))
 refine fk (by first | exact fP rfl | exact ev_nilf rfl) (by decide) ?_
 refine aN (rT A n c l g cap p _ (hS.ext hh.below) hn hg) au.out rfl (by decide) ?_
 rintro e_ w7 ⟨v_, rfl, hv_, hb_⟩
 refine ⟨_, rfl, ?_⟩
 replace hh := hh.ext hb_
 cases ga : l.any p with
 | true =>
  have h0 := hv_.2 ga
  refine dh (aB (ah (aq ?_)))
  refine cf ?_
  exact ⟨rfl, hh.below⟩
 | false =>
  have h0 : ¬ 0 ≤ v_ := fun h => by rw [hv_.1 h] at ga; cases ga
  refine dh (aB (ah (aq ?_)))
  refine cf ?_
  exact ⟨rfl, hh.below⟩
theorem lF (L : Option Addr) (n c : Nat) (ps : List PX) (k : Nat) (w : World) (hT : fS w) (hL : Sl w L n 2 (a8 PX.cells ps)) (hn : n ≤ 1000000) (hf : ∀ g ∈ ps, g.at_ w) (hl : ∀ g ∈ ps, g.oJ k) :
  Calls Tryz.prog 103 #[.slice L n c] w fun r w' => r = .returned (.int .i64 (iA ps)) ∧ Below w.heap.size w w' := by
 have hh := Hp.start w
 have hln := hL.bV PX.len (by decide)
 refine al (N := 26) (l := [.slice L n c]) Tryz.func103 rfl rfl (by simp) ?_
 refine sr ?_
 refine df hh [_] ?_
 intro b1 w1 hh
 refine aI (ah (aj (sr ?_)))
 refine bI hh 0 ?_
 refine a0 (mI (ah (ar ?_)))
 refine bA [2, 4, 5, 8, 9, 10, 11, 12, 13, 14, 15, 16, 17] 8
  (fun v w' => ∃ i : Nat, i ≤ n ∧ v = .int .i64 i ∧ (ps.take i).any (fun g => decide (g.e ≠ 0)) = false ∧ Hp w [.blk b1 45 [.slice L n c] (0, 0)] w')
  (fun v _ => n - (intOf v).toNat) ?_ ?_
 ·exact ⟨0, Nat.zero_le _, rfl, rfl, hh⟩
 ·clear hh
  rintro ρ' v w' ⟨i, hi, rfl, hall, hh⟩
  by_cases hlt : i < n
  ·obtain ⟨g, hx⟩ := aH (l := ps) (k := i) (by omega)
   have hmem := List.mem_of_getElem? hx
   have hc := fun w1 hT1 hb => lM g k w1 hT1 ((hf g hmem).ext hb) (hl g hmem)
   obtain ⟨ad, rfl, hr⟩ := hL.at_ (by omega)
   by_cases he : g.e = 0
   ·refine sr ?_
    refine aV (ah (aj (cT (ao (ak (aj (ar (sr ?_))))))))
    refine aY (k := i) aG.out aD.size rfl rfl (by omega) (by omega) (by decide) ?_
    refine bS (vs := [_, _]) aD.out rfl ((hr.ext hh.below).recAt PX.len hx) rfl (by decide) ?_
    refine cx hh ?_
    intro b4 w4 hh
    refine bL hh 0 [_,_] ?_
    intro ws hh
    replace hh : Hp _ (.blk _ _ [_, _] _ :: _) _ := hh
    refine ah (sr ?_)
    refine dp hh 0 [_,_] ?_
    refine bC hh (hc _ (hT.hp hh) hh.below) rfl ?_
    intro w13 hh
    refine aI (ah (sr (mI ?_)))
    refine er (ah (cF (ao (aW (ak (aw ?_))))))
    refine bJ (mI (aE (ak ?_)))
    replace hh := hh.sub (List.Sublist.cons _ (List.Sublist.cons_cons _ List.Sublist.slnil))
    refine ⟨⟨i + 1, by omega, rfl, by rw [aT hx, List.any_append, hall, List.any_cons, List.any_nil, decide_eq_false (by omega)]; rfl, hh⟩, by show n - (i + 1) < n - i; omega, ?_⟩
    (repeat (first | exact az _ _ _ | refine aC rfl ?_ | refine ay rfl ?_))
   ·refine sr ?_
    refine aV (ah (aj (cT (ao (ak (aj (ar (sr ?_))))))))
    refine aY (k := i) aG.out aD.size rfl rfl (by omega) (by omega) (by decide) ?_
    refine bS (vs := [_, _]) aD.out rfl ((hr.ext hh.below).recAt PX.len hx) rfl (by decide) ?_
    refine cx hh ?_
    intro b4 w4 hh
    refine bL hh 0 [_,_] ?_
    intro ws hh
    replace hh : Hp _ (.blk _ _ [_, _] _ :: _) _ := hh
    refine ah (sr ?_)
    refine dp hh 0 [_,_] ?_
    refine bC hh (hc _ (hT.hp hh) hh.below) rfl ?_
    intro w13 hh
    refine aI (ah (sr (mI ?_)))
    refine er (ah (cT (sr (mI (aI (ah (aq (bO (aJ (aJ (bO ?_)))))))))))
    refine aJ ?_
    refine cf ?_
    refine ⟨?_, hh.below⟩
    unfold iA
    rw [tJ hall hx (decide_eq_true he)]
  ·rw [List.take_of_length_le (by omega)] at hall
   have hlk : iA ps = if ps.length = 0 ∨ wX ps = true then 1 else 0 := by unfold iA; rw [hQ hall]
   rw [hlk]
   by_cases h0 : n = 0
   ·refine sr ?_
    refine aV (ah (aj (cF ?_)))
    refine aX ?_
    refine aA (aA (bj (ak (aj (sr ?_)))))
    refine bI hh 0 ?_
    refine a0 ?_
    refine ea (mB ?_)
    first | refine gS ?_ | (refine gT ?_; refine bI hh 0 ?_) | refine gV ?_
    first | refine gS ?_ | (refine gT ?_; refine eZ rfl (aF (jE rfl) bq) (by decide) ?_) | refine gV ?_
    refine bH (by decide) rfl rfl (by decide) ?_
    first | refine cU ?_ | refine cV ?_
    refine ah (cT (sr (aI (ah (aq (aJ ?_))))))
    refine cf ?_
    exact ⟨by rw [if_pos (.inl (by omega))], hh.below⟩
   ·have hcell : w'.cell? ⟨b1, 0, none⟩ = some (.slice L n c) := hh.hF (i := 0) rfl rfl
    have ho := fun w1 hb => rg L n c ps 174 [.pointer (some ⟨b1, 0, none⟩)] (fun g => decide (g.v ≠ (ps.map PX.v).headD 0)) w1 (hL.ext (hh.below.trans (hb.mono hh.below.size))) hn (fun z w2 hz hb2 => rf L n c ps z ⟨b1, 0, none⟩ w2 ((hL.ext (hh.below.trans (hb.mono hh.below.size))).ext hb2) (dz hb2 (dz hb hcell)) (by omega))
    cases hod : wX ps with
    | true =>
     have hod2 : ps.any (fun g => decide (g.v ≠ (ps.map PX.v).headD 0)) = true := hod
     rw [hod2] at ho
     refine sr ?_
     refine aV (ah (aj (cF ?_)))
     refine aX ?_
     refine aA (aA (bj (ak (aj (sr ?_)))))
     refine bI hh 0 ?_
     refine a0 ?_
     refine ea (mB ?_)
     first | refine gS ?_ | (refine gT ?_; refine bI hh 0 ?_) | refine gV ?_
     first | refine gS ?_ | (refine gT ?_; refine eZ rfl (aF (jE rfl) bq) (by decide) ?_) | refine gV ?_
     refine a9 rfl rfl ?_
     refine bC hh (ho _ (Below.refl _ _)) rfl ?_
     intro w24 hh
     first | refine cU ?_ | refine cV ?_
     refine ah (cT (sr (aI (ah (aq (aJ ?_))))))
     refine cf ?_
     exact ⟨by rw [if_pos (.inr rfl)], hh.below⟩
    | false =>
     have hod2 : ps.any (fun g => decide (g.v ≠ (ps.map PX.v).headD 0)) = false := hod
     rw [hod2] at ho
     refine sr ?_
     refine aV (ah (aj (cF ?_)))
     refine aX ?_
     refine aA (aA (bj (ak (aj (sr ?_)))))
     refine bI hh 0 ?_
     refine a0 ?_
     refine ea (mB ?_)
     first | refine gS ?_ | (refine gT ?_; refine bI hh 0 ?_) | refine gV ?_
     first | refine gS ?_ | (refine gT ?_; refine eZ rfl (aF (jE rfl) bq) (by decide) ?_) | refine gV ?_
     refine a9 rfl rfl ?_
     refine bC hh (ho _ (Below.refl _ _)) rfl ?_
     intro w24 hh
     first | refine cU ?_ | refine cV ?_
     refine ah (cF (ao (ak (sr (aI (ah (aq ?_)))))))
     refine cf ?_
     refine ⟨?_, hh.below⟩
     rw [if_neg]
     rintro (h | h)
     ·omega
     ·cases h
end Go.Proofs.YtkgdagjklakajaaGreatDoor
/- Arguments opened: terms, polynomials. -/
namespace Go.Proofs.YtkgdagjklakajaaGreatDoor
open Go.ChangeShapes Go.WideShapes Go.ChangeAt Go.RowKit Go.ChangeMaps
set_option maxRecDepth 100000 in
theorem mU {H : Type} {enc : TypeId × Value → H} {W : World} {base fuel : Nat} {sp : Nat → Bool} {held : Bool} {cs : List Value} {x : DataW H × List MemPlace} (h : DataW.trod enc Tryz.prog W base sp held fuel 58 cs = some x) :
  ∃ t : TR, cs = t.cells ∧ True := by
 have c0 : Tryz.prog.cellsOf 58 = 4 := by kernel_rfl
 have c1 : Tryz.prog.cellsOf 9 = 1 := by kernel_rfl
 have c2 : Tryz.prog.cellsOf 26 = 3 := by kernel_rfl
 obtain ⟨y0, y1, n, _, hl, h0, h1⟩ := trod_struct2 Tryz.underlying58 h
 obtain ⟨s, e0, _, _⟩ := DataW.trod_string Tryz.underlying9 h0
 obtain ⟨a, e1, _⟩ := oc h1
 rw [c0] at hl
 match cs, hl with
 | [x0, x1, x2, x3], _ =>
  simp only [c1, c2] at e0 e1
  unfold NR.cells at e1
  simp at e0 e1
  obtain ⟨e1, e2, e3⟩ := e1
  subst e0 e1 e2 e3
  exact ⟨⟨s, a⟩, rfl, trivial⟩
set_option maxRecDepth 100000 in
theorem r4 {H : Type} {enc : TypeId × Value → H} {W : World} {r : Reach} {base b0 : Nat} {sp : Nat → Bool} {held : Bool} {v : Value} {d : DataW H} {ps : List MemPlace}
  (hval : Value.okWide Tryz.prog W r b0 22 v) (hd : DataW.Trod enc Tryz.prog W base sp held 22 v d ps) : ∃ (A : Option Addr) (n c : Nat) (l : List TR), v = .slice A n c ∧ Sl W A n 4 (a8 TR.cells l) ∧ ∀ t ∈ l, True :=
 uf TR.len (by decide) Tryz.underlying22 (by kernel_rfl) (fun _ _ _ h => mU h) hval hd
set_option maxRecDepth 100000 in
theorem sg {H : Type} {enc : TypeId × Value → H} {W : World} {base fuel : Nat} {sp : Nat → Bool} {held : Bool} {cs : List Value} {x : DataW H × List MemPlace} (h : DataW.trod enc Tryz.prog W base sp held fuel 31 cs = some x) :
  ∃ g : PX, cs = g.cells ∧ (g.at_ W ∧ g.n ≤ g.c) := by
 have c0 : Tryz.prog.cellsOf 31 = 2 := by kernel_rfl
 have c1 : Tryz.prog.cellsOf 3 = 1 := by kernel_rfl
 have c2 : Tryz.prog.cellsOf 22 = 1 := by kernel_rfl
 obtain ⟨y0, y1, n, _, hl, h0, h1⟩ := trod_struct2 Tryz.underlying31 h
 obtain ⟨z, e0, _, _⟩ := DataW.trod_int Tryz.underlying3 h0
 obtain ⟨B, m, b, k, e1, s1, _⟩ := rL TR.len (by decide) Tryz.underlying22 (by kernel_rfl) (fun _ _ _ h => mU h) h1
 rw [e1] at h1
 have hroom := tI Tryz.underlying22 h1
 rw [c0] at hl
 match cs, hl with
 | [x0, x1], _ =>
  simp only [c1, c2] at e0 e1
  simp at e0 e1
  subst e0 e1
  exact ⟨⟨z, B, m, b, k⟩, rfl, s1, hroom⟩
set_option maxRecDepth 100000 in
theorem uE {H : Type} {enc : TypeId × Value → H} {W : World} {r : Reach} {base b0 : Nat} {sp : Nat → Bool} {held : Bool} {v : Value} {d : DataW H} {ps : List MemPlace}
  (hval : Value.okWide Tryz.prog W r b0 31 v) (hd : DataW.Trod enc Tryz.prog W base sp held 31 v d ps) : ∃ g : PX, v = .agg #[.int .i64 g.v, .slice g.A g.n g.c] ∧ g.at_ W ∧ g.n ≤ g.c := by
 obtain ⟨cs, rfl, _⟩ := okWide_struct Tryz.underlying31 hval
 obtain ⟨fuel, hf⟩ := hd
 obtain ⟨f, h1, h2⟩ := sg hf
 refine ⟨f, ?_, h2⟩
 have h3 : cs.toList = f.cells := h1
 rw [← Array.toList_inj.1 (show cs.toList = (#[.int .i64 f.v, .slice f.A f.n f.c] : Array Value).toList from h3)]
end Go.Proofs.YtkgdagjklakajaaGreatDoor
/- The walks through the document's answer's products of powers. -/
namespace Go.Proofs.YtkgdagjklakajaaGreatDoor
open Go.RowKit
theorem nq (A B : Option Addr) (n m c c' : Nat) (xs ys : List Int) (w : World) (hx : Sl w A n 1 (eo xs)) (hy : Sl w B m 1 (eo ys)) (hn : n ≤ 100000) (hm : m ≤ 100000) :
  Calls Tryz.prog 23 #[.slice A n c, .slice B m c'] w fun e w' => e = .returned (.bool (decide (xs = ys))) ∧ Below w.heap.size w w' := by
 have hxl : xs.length = n := by have := hx.1; rw [ez] at this; omega
 have hyl : ys.length = m := by have := hy.1; rw [ez] at this; omega
 have hh := Hp.start w
 by_cases hnm : n = m
 ·subst hnm
  refine al (N := 26) (l := [.slice A n c, .slice B n c']) Tryz.func23 rfl rfl (by simp) ?_
  refine sr (aB (ah (aj (sr (mL (a0 (mL (a0 ?_))))))))
  refine er (ah (cF (ao (ak (aj (sr (aI (ah (ar ?_)))))))))
  refine bA [4, 5, 11, 12, 13, 14, 15, 16, 17, 18, 19, 20, 21, 22, 23, 24, 25] 5
   (fun i w' => ∃ k : Nat, k ≤ n ∧ i = .int .i64 k ∧ xs.take k = ys.take k ∧ Hp w [] w')
   (fun i _ => n - (intOf i).toNat) ?_ ?_
  ·exact ⟨0, Nat.zero_le _, rfl, rfl, hh⟩
  ·clear hh
   rintro ρ' i w' ⟨k, hk, rfl, he, hh⟩
   replace hx := hx.ext hh.below
   replace hy := hy.ext hh.below
   by_cases hlt : k < n
   ·obtain ⟨x, hxk⟩ := aH (l := xs) (k := k) (by omega)
    obtain ⟨y, hyk⟩ := aH (l := ys) (k := k) (by omega)
    obtain ⟨ad, rfl, hr⟩ := hx.at_ (by omega)
    obtain ⟨bd, rfl, hs⟩ := hy.at_ (by omega)
    by_cases hxy : x = y
    ·subst hxy
     refine aj (sr (mI (mL (a0 ?_))))
     refine aV (ah (cT (ao (ak (aj (ar (aj ?_)))))))
     refine a4 8 [[(0, none)], [(5, none)], [(17, some 0), (18, some 1)], [(19, some 2)], [(1, none)], [(5, none)], [(21, some 4), (22, some 5)], [(23, some 6)]] [(7, 24), (6, 23), (5, 22), (4, 21), (3, 20), (2, 19), (1, 18), (0, 17)] hh mixed (by kernel_rfl) ?_
     refine gE ?_
     refine eG ?_
     refine bm (i := 2) (fun ρ1 w1 hj hR => dg aG.out aD.size (show ρ1 17 = Value.slice _ _ _ from hR.1) (show ρ1 18 = Value.int _ _ from hR.2.1) (by omega) (by omega)) ?_
     refine kJ (fun _ hj => gi (hr.ext hj.bl) (eW hxk) rfl) ?_
     refine gE ?_
     refine eG ?_
     refine bm (i := 6) (fun ρ1 w1 hj hR => dg aG.out aD.size (show ρ1 21 = Value.slice _ _ _ from hR.1) (show ρ1 22 = Value.int _ _ from hR.2.1) (by omega) (by omega)) ?_
     refine kJ (fun _ hj => gi (hs.ext hj.bl) (eW hyk) rfl) ?_
     refine bp ?_
     intro f W hJ hV
     have hb_6 := hJ.bl
     obtain ⟨v24, v23, v22, v21, v20, v19, v18, v17, _⟩ := hV
     replace hh := hJ.hp
     refine a6 (bu (ai v24 (ai v23 (ai v22 (ai v21 (ai v20 (ai v19 (ai v18 (ai v17 a5))))))))) ?_
     dsimp only [cC]
     clear hJ
     refine er (ah (cF (ao (aW (ak (aw (mI ?_)))))))
     refine bJ (aI (aE (ak ?_)))
     refine ⟨⟨k + 1, by omega, rfl, by rw [aT hxk, aT hyk, he], hh⟩, by show n - (k + 1) < n - k; omega, ?_⟩
     (repeat (first | exact az _ _ _ | refine aC rfl ?_ | refine ay rfl ?_))
    ·refine aj (sr (mI (mL (a0 ?_))))
     refine aV (ah (cT (ao (ak (aj (ar (aj ?_)))))))
     refine a4 8 [[(0, none)], [(5, none)], [(17, some 0), (18, some 1)], [(19, some 2)], [(1, none)], [(5, none)], [(21, some 4), (22, some 5)], [(23, some 6)]] [(7, 24), (6, 23), (5, 22), (4, 21), (3, 20), (2, 19), (1, 18), (0, 17)] hh mixed (by kernel_rfl) ?_
     refine gE ?_
     refine eG ?_
     refine bm (i := 2) (fun ρ1 w1 hj hR => dg aG.out aD.size (show ρ1 17 = Value.slice _ _ _ from hR.1) (show ρ1 18 = Value.int _ _ from hR.2.1) (by omega) (by omega)) ?_
     refine kJ (fun _ hj => gi (hr.ext hj.bl) (eW hxk) rfl) ?_
     refine gE ?_
     refine eG ?_
     refine bm (i := 6) (fun ρ1 w1 hj hR => dg aG.out aD.size (show ρ1 21 = Value.slice _ _ _ from hR.1) (show ρ1 22 = Value.int _ _ from hR.2.1) (by omega) (by omega)) ?_
     refine kJ (fun _ hj => gi (hs.ext hj.bl) (eW hyk) rfl) ?_
     refine bp ?_
     intro f W hJ hV
     have hb_6 := hJ.bl
     obtain ⟨v24, v23, v22, v21, v20, v19, v18, v17, _⟩ := hV
     replace hh := hJ.hp
     refine a6 (bu (ai v24 (ai v23 (ai v22 (ai v21 (ai v20 (ai v19 (ai v18 (ai v17 a5))))))))) ?_
     dsimp only [cC]
     clear hJ
     refine er (ah (cT (sr (aB (ah (aq (bO (aJ (aJ (bO (aJ ?_)))))))))))
     refine cf ?_
     have : ¬ xs = ys := fun h => hxy (by rw [h, hyk] at hxk; exact (Option.some.inj hxk).symm)
     simp only [this, decide_false]
     first | exact ⟨rfl, hh.below⟩ | exact ⟨trivial, hh.below⟩
   ·refine aj (sr (mI (mL (a0 ?_))))
    refine aV (ah (cF ?_))
    refine aX ?_
    refine aA (aA (bj (ak (sr (aB (ah (aq ?_)))))))
    refine cf ?_
    rw [List.take_of_length_le (by omega), List.take_of_length_le (by omega)] at he
    simp only [he, decide_true]
    first | exact ⟨rfl, hh.below⟩ | exact ⟨trivial, hh.below⟩
 ·refine al (N := 26) (l := [.slice A n c, .slice B m c']) Tryz.func23 rfl rfl (by simp) ?_
  refine sr (aB (ah (aj (sr (mL (a0 (mL (a0 ?_))))))))
  refine er (ah (cT (sr (aB (ah (aq (aJ ?_)))))))
  refine cf ?_
  have : ¬ xs = ys := fun h => hnm (by rw [← hxl, ← hyl, h])
  simp only [this, decide_false]
  first | exact ⟨rfl, hh.below⟩ | exact ⟨trivial, hh.below⟩
end Go.Proofs.YtkgdagjklakajaaGreatDoor
/- The walk through ogeeref08.Check. -/
namespace Go.Proofs.YtkgdagjklakajaaGreatDoor
open Go.RowKit
end Go.Proofs.YtkgdagjklakajaaGreatDoor
/- The walks through ogeeref08.put and Gather. -/
namespace Go.Proofs.YtkgdagjklakajaaGreatDoor
open Go.RowKit
end Go.Proofs.YtkgdagjklakajaaGreatDoor
/- Plain: products of rows of terms. No program in sight. -/
namespace Go.Proofs.YtkgdagjklakajaaGreatDoor
open Go.RowKit
def mulM (a b : ByteArray) : ByteArray := str (mulL a.data.toList b.data.toList).1
def mX (a b : ByteArray) : Int := (mulL a.data.toList b.data.toList).2
def pk (x y : TR) : TR := ⟨mulM x.m y.m, nR (x.c.d * y.c.d)⟩
def du (p q : List TR) : List TR := p.flatMap fun x => q.map (pk x)
def lv (p q : List TR) : List Int := p.flatMap fun x => q.map fun y => mX x.m y.m
def gx (p q : List TR) : Int := if 65536 < p.length * q.length then 3 else match (lv p q).find? fun e => decide (e ≠ 0) with | some e => e | none => if 4096 < (a3 (du p q)).length then 3 else 0
theorem qw {α β : Type} {f : α → List β} {k : Nat} : ∀ {l : List α}, (∀ x ∈ l, (f x).length = k) → (l.flatMap f).length = l.length * k
 | [], _ => by simp
 | x :: l, h => by
  rw [List.flatMap_cons, List.length_append, h x List.mem_cons_self, qw fun y hy => h y (List.mem_cons_of_mem _ hy), List.length_cons, Nat.succ_mul, Nat.add_comm]
theorem k7 (p q : List TR) : (du p q).length = p.length * q.length := qw fun x _ => List.length_map _
theorem kP {α β γ : Type} {f : α → β → γ} {p : List α} {q : List β} {i : Nat} {x : α} (hx : p[i]? = some x) :
  ((p.take (i + 1)).flatMap fun x => q.map (f x)) = ((p.take i).flatMap fun x => q.map (f x)) ++ (q.take q.length).map (f x) := by
 rw [aT hx, List.flatMap_append, List.take_of_length_le (Nat.le_refl _)]
 simp
theorem sv {α β γ : Type} {f : α → β → γ} {p : List α} {q : List β} {i j : Nat} {x : α} {y : β} (hx : p[i]? = some x) (hy : q[j]? = some y) :
  ∃ R, (p.flatMap fun x => q.map (f x)) = (((p.take i).flatMap fun x => q.map (f x)) ++ (q.take j).map (f x)) ++ f x y :: R := by
 refine ⟨(q.drop (j + 1)).map (f x) ++ (p.drop (i + 1)).flatMap fun x => q.map (f x), ?_⟩
 have e1 : p = p.take i ++ x :: p.drop (i + 1) := by rw [← ic hx, List.take_append_drop]
 have e2 : q = q.take j ++ y :: q.drop (j + 1) := by rw [← ic hy, List.take_append_drop]
 have e3 : q.map (f x) = (q.take j).map (f x) ++ f x y :: (q.drop (j + 1)).map (f x) := by
  rw [← List.map_cons, ← List.map_append, ← e2]
 calc (p.flatMap fun x => q.map (f x)) = (p.take i ++ x :: p.drop (i + 1)).flatMap fun x => q.map (f x) := by rw [← e1]
  _ = _ := by rw [List.flatMap_append, List.flatMap_cons, e3]; simp
theorem qa {k j : Nat} {p q : List TR} (hp : gm k p) (hq : gm j q) (h : k + j ≤ 1000000) : gm (k + j) (du p q) := fun t ht => by
 obtain ⟨x, hx, ht⟩ := List.mem_flatMap.1 ht
 obtain ⟨y, hy, rfl⟩ := List.mem_map.1 ht
 have hs := (hp x hx).2.mul (hq y hy).2
 exact ⟨hs.ok (by omega), by show Sz _ (nR _).d; rw [fh]; exact hs⟩
theorem uG (a b : ByteArray) : (mulM a b).size ≤ b.size := by
 unfold mulM
 rw [gd]
 unfold mulL
 split
 ·rename_i l hl
  have := (nx hl).2.2
  have h4 : l.length ≤ b.data.toList.length := by rw [this.2, List.length_zipWith, cL, cL]; omega
  have h5 : (xu l).length ≤ l.length := by unfold xu; split <;> simp
  rw [dE]
  exact Nat.le_trans h5 h4
 ·exact Nat.zero_le _
end Go.Proofs.YtkgdagjklakajaaGreatDoor
/- Plain laws of sums and products of rows of terms; what is in the one form. No program in sight. -/
namespace Go.Proofs.YtkgdagjklakajaaGreatDoor
open Go.RowKit
def oE (c : Dyadic) (t : TR) : TR := ⟨t.m, nR (t.c.d * c)⟩
theorem u7 (l : List TR) (m : ByteArray) : eL l.reverse m = eL l m := by
 induction l with
 | nil => rfl
 | cons t l ih => rw [List.reverse_cons, dv, ih, di, di, j9]; grind
theorem r7 {l : List TR} (h : Canon l) : a3 l.reverse = l := (jd h fun m => (u7 l m).symm).symm
theorem eV {v : Int} {ts : List TR} (h : gB v ts = 0) : fB v = true ∧ ts.length ≤ 4096 ∧ (∀ t ∈ ts, fu v t = true) ∧ Canon ts := by
 unfold gB at h
 cases hf : fB v with
 | false => rw [hf, if_pos rfl] at h; omega
 | true =>
  rw [if_neg (by rw [hf]; decide)] at h
  by_cases h4 : 4096 < ts.length
  ·rw [if_pos h4] at h; omega
  ·rw [if_neg h4] at h
   by_cases ho : okB v ts = true
   ·unfold okB at ho
    rw [Bool.and_eq_true] at ho
    have hg : ∀ t ∈ ts, jw v t = true := List.all_eq_true.1 ho.1
    refine ⟨rfl, by omega, fun t ht => ?_, kA.1 ho.2, fun t ht => ?_, fun t ht => ?_⟩
    ·exact (Bool.and_eq_true_iff.1 (hg t ht)).1
    ·exact r5 (Bool.and_eq_true_iff.1 (Bool.and_eq_true_iff.1 (hg t ht)).2).1
    ·exact ((lU _).1 (Bool.and_eq_true_iff.1 (Bool.and_eq_true_iff.1 (hg t ht)).2).2).symm
   ·rw [if_neg ho] at h; omega
theorem sE {v : Int} {ts : List TR} (hf : fB v = true) (h4 : ts.length ≤ 4096) (hm : ∀ t ∈ ts, fu v t = true) (hc : Canon ts) : gB v ts = 0 := by
 unfold gB
 rw [if_neg (by rw [hf]; decide), if_neg (by omega), if_pos]
 unfold okB
 rw [Bool.and_eq_true]
 refine ⟨List.all_eq_true.2 fun t ht => ?_, kA.2 hc.po⟩
 show (fu v t && (pH t && zI t.c)) = true
 rw [hm t ht, (lU _).2 (hc.nf t ht).symm]
 unfold pH
 rw [decide_eq_false (hc.nz t ht)]
 rfl
theorem vG {v : Int} {s t : TR} (h : s.m = t.m) (hs : fu v s = true) : fu v t = true := by unfold fu at hs ⊢; rwa [← h]
theorem rO {v : Int} {l : List TR} (h : ∀ t ∈ l, fu v t = true) : ∀ t ∈ a3 l, fu v t = true := fun t ht => by
 obtain ⟨s, hs, e⟩ := gh t ht
 exact vG e (h s hs)
theorem gN {v : Int} {l : List TR} (hf : fB v = true) (h4 : (a3 l).length ≤ 4096) (hm : ∀ t ∈ l, fu v t = true) : gB v (a3 l) = 0 := sE hf h4 (rO hm) (dX l)
theorem vW {v : Int} {x y : TR} (hx : fu v x = true) (h : mX x.m y.m = 0) : fu v (pk x y) = true := by
 unfold fu at hx ⊢
 rw [Bool.and_eq_true, decide_eq_true_eq] at hx
 obtain ⟨_, _, h3, h4, h5⟩ := xC h
 rw [Bool.and_eq_true, decide_eq_true_eq]
 have h6 := congrArg List.length h5
 rw [cL, List.length_zipWith, cL, cL, h3, Nat.min_self] at h6
 refine ⟨?_, ?_⟩
 ·show ep (mulM x.m y.m).data.toList = true
  unfold mulM
  rw [cv]
  exact h4
 ·show ((mulM x.m y.m).size : Int) = v
  unfold mulM
  rw [gd, h6, ← dE]
  exact hx.2
theorem uI {v : Int} {p q : List TR} (hp : ∀ t ∈ p, fu v t = true) (h : ∀ e ∈ lv p q, e = 0) : ∀ t ∈ du p q, fu v t = true := fun t ht => by
 obtain ⟨x, hx, ht⟩ := List.mem_flatMap.1 ht
 obtain ⟨y, hy, rfl⟩ := List.mem_map.1 ht
 exact vW (hp x hx) (h _ (List.mem_flatMap.2 ⟨x, hx, List.mem_map.2 ⟨y, hy, rfl⟩⟩))
theorem lN {p q : List TR} (h : gx p q = 0) : p.length * q.length ≤ 65536 ∧ (∀ e ∈ lv p q, e = 0) ∧ (a3 (du p q)).length ≤ 4096 := by
 unfold gx at h
 by_cases h6 : 65536 < p.length * q.length
 ·rw [if_pos h6] at h; omega
 ·rw [if_neg h6] at h
  split at h
  ·rename_i e he
   have := List.find?_some he
   rw [decide_eq_true_eq] at this
   exact absurd h this
  ·rename_i he
   refine ⟨by omega, fun e hm => ?_, ?_⟩
   ·have := List.find?_eq_none.1 he e hm
    simpa using this
   ·by_cases h4 : 4096 < (a3 (du p q)).length
    ·rw [if_pos h4] at h; omega
    ·omega
end Go.Proofs.YtkgdagjklakajaaGreatDoor
/- The walk through poly.Add. -/
namespace Go.Proofs.YtkgdagjklakajaaGreatDoor
open Go.RowKit
def n9 (ps : List PX) : Int := (ps.map PX.v).headD 0
def mv (ps : List PX) : List TR := ps.flatMap PX.ts
def rb (ps : List PX) : Int := if iA ps = 0 then gC (mv ps) else iA ps
theorem lS {ps : List PX} (h : iA ps = 0) : ps ≠ [] ∧ (∀ g ∈ ps, g.e = 0) ∧ ∀ g ∈ ps, g.v = n9 ps := by
 unfold iA at h
 split at h
 ·rename_i f hf
  have := List.find?_some hf
  simp at this
  exact absurd h this
 ·rename_i hf
  split at h
  ·cases h
  rename_i hno
  refine ⟨fun e => hno (.inl (by rw [e]; rfl)), fun f hm => ?_, fun f hm => ?_⟩
  ·have := List.find?_eq_none.1 hf f hm
   simpa using this
  ·apply Classical.byContradiction
   intro hne
   exact hno (.inr (List.any_eq_true.2 ⟨f, hm, decide_eq_true hne⟩))
theorem lK {α β : Type} {f : α → List β} {B : Nat} : ∀ {l : List α}, (∀ x ∈ l, (f x).length ≤ B) → (l.flatMap f).length ≤ l.length * B
 | [], _ => by simp
 | x :: l, h => by
  rw [List.flatMap_cons, List.length_append, List.length_cons, Nat.succ_mul]
  have h1 := h x List.mem_cons_self
  have h2 := lK fun y hy => h y (List.mem_cons_of_mem _ hy)
  omega
theorem tC {α β : Type} {f : α → List β} {l : List α} {i : Nat} {x : α} (h : l[i]? = some x) : (l.take (i + 1)).flatMap f = (l.take i).flatMap f ++ f x := by
 rw [aT h, List.flatMap_append]
 simp
theorem sk {l k : List TR} (h : a3 l = a3 k) : gC l = gC k := by unfold gC; rw [h]
theorem lY {ps : List PX} {g : PX} (h : ps[0]? = some g) : n9 ps = g.v := by
 rcases ps with _ | ⟨f, l⟩
 ·cases h
 ·have : f = g := by simpa using h
  rw [← this]; rfl
theorem m5 (L : Option Addr) (n c : Nat) (ps : List PX) (k : Nat) (w : World) (hT : fS w) (hL : Sl w L n 2 (a8 PX.cells ps)) (hn : n ≤ 100) (hf : ∀ g ∈ ps, g.at_ w) (hl : ∀ g ∈ ps, g.oJ k) (hk : k ≤ 2999000) :
  Calls Tryz.prog 37 #[.slice L n c] w fun r w' => ∃ g : PX, dk (rb ps) (n9 ps) (a3 (mv ps)) g ∧ r = .returned (.tuple #[.agg #[.int .i64 g.v, .slice g.A g.n g.c], .int .i64 (rb ps)]) ∧ Hp w [g.row] w' := by
 have hh := Hp.start w
 have hln := hL.bV PX.len (by decide)
 have hlk := fun w1 hT1 hb => lF L n c ps k w1 hT1 (hL.ext hb) (by omega) (fun g hg => (hf g hg).ext hb) hl
 unfold rb
 by_cases h0 : iA ps = 0
 ·rw [if_pos h0]
  rw [h0] at hlk
  obtain ⟨hne, hev, hvv⟩ := lS h0
  have hpos := List.length_pos_iff.2 hne
  obtain ⟨g0, h00⟩ := aH (l := ps) (k := 0) hpos
  rw [lY h00]
  have hfl : (mv ps).length ≤ ps.length * 4096 := lK fun g hg => (eV (hev g hg)).2.1
  obtain ⟨ad, rfl, hr⟩ := hL.at_ (by omega)
  refine al (N := 33) (l := [.slice (some ad) n c]) Tryz.func37 rfl rfl (by simp) ?_
  refine sr ?_
  refine cx hh ?_
  intro b2 w2 hh
  refine aI (ah (aj (sr (mL ?_))))
  refine bC hh (hlk _ (hT.hp hh) hh.below) rfl ?_
  intro w9 hh
  refine aI (ah (sr (mI ?_)))
  refine er (ah (cF (ao (ak (sr (aL (ah (aj (sr (mL (a0 ?_)))))))))))
  refine mI (ah (ar ?_))
  replace hh := hh.eU 58 4
  refine cE [5, 7, 16, 17, 18, 19, 20, 21, 22, 23, 24] 5 16
   (fun a x w' => ∃ (i : Nat) (M : List TR) (A' : Option Addr) (c' : Nat), i ≤ n ∧ x = .int .i64 i ∧ a = .slice A' M.length c' ∧ MD (k + i) ((ps.take i).flatMap PX.ts) M ∧ Hp w [.row A' M.length c' 58 4 (a8 TR.cells M), .blk b2 31 [.int .i64 0, .slice none 0 0] (0, 0)] w')
   (fun _ x _ => n - (intOf x).toNat) ?_ ?_
  ·exact ⟨0, [], none, 0, Nat.zero_le _, rfl, rfl, MD.self List.Pairwise.nil (fun t ht => nomatch ht), hh⟩
  ·clear hh
   rintro ρ' a_ x_ w' ⟨i, M, A', c', hi, rfl, rfl, hmd, hh⟩
   have hfi : ((ps.take i).flatMap PX.ts).length ≤ i * 4096 := by
    have := lK (f := PX.ts) (B := 4096) (l := ps.take i) fun g hg => (eV (hev g (List.mem_of_mem_take hg))).2.1
    rwa [List.length_take, Nat.min_eq_left (by omega)] at this
   have hML := hmd.len
   by_cases hlt : i < n
   ·obtain ⟨g, hx⟩ := aH (l := ps) (k := i) (by omega)
    have hmem := List.mem_of_getElem? hx
    have hgl := hl g hmem
    have hge := eV (hev g hmem)
    have hgc := hgl.cap
    have hgn := hgl.n
    refine sr ?_
    refine aV (ah (aj (cT (ao (ak (aj (ar (sr ?_))))))))
    refine aY (k := i) aG.out aD.size rfl rfl (by omega) (by omega) (by decide) ?_
    refine bS (vs := [_, _]) aD.out rfl ((hr.ext hh.below).recAt PX.len hx) rfl (by decide) ?_
    refine cx hh ?_
    intro b7 w7 hh
    refine bL hh 0 [_,_] ?_
    intro ws hh
    replace hh : Hp _ (.blk _ _ [_, _] _ :: _) _ := hh
    refine ah (aw (mL (bG ?_)))
    refine bI hh 0 ?_
    refine aN (j5 A' M.length c' M g.A g.n g.c g.ts (k + i) _ (hT.hp hh) (hh.aM (i := 1) rfl) ((hf g hmem).ext hh.below) (hh.g9 (i := 1) rfl) hgc (by omega) hgn (by omega) hmd.po hge.2.2.2.po hmd.ok (hgl.ok.mono (by omega))) au.out rfl (by decide) ?_
    rintro e_ w23 ⟨L2, A2, c2, hm2, rfl, h3⟩
    refine ⟨_, rfl, ?_⟩
    replace hh := hh.join h3
    simp only [List.cons_append, List.nil_append] at hh
    refine aL (aE (aW (ak (aw ?_))))
    refine bJ (mI (aE (ak ?_)))
    replace hh := hh.sub (List.Sublist.cons_cons _ (List.Sublist.cons _ (List.Sublist.cons _ (List.Sublist.cons_cons _ List.Sublist.slnil))))
    refine ⟨⟨i + 1, L2, A2, c2, by omega, rfl, rfl, ?_, hh⟩, by show n - (i + 1) < n - i; omega, ?_⟩
    ·rw [tC hx]
     exact hmd.u6 (MD.self hge.2.2.2.po (hgl.ok.mono (by omega) : gm (k + i) g.ts)) hm2 (by omega)
    ·(repeat (first | exact az _ _ _ | refine aC rfl ?_ | refine ay rfl ?_))
   ·obtain rfl : i = n := by omega
    rw [List.take_of_length_le (by omega)] at hmd hfi hML
    have hgM : a3 M = a3 (mv ps) := oH hmd.co
    have hgE := sk hgM
    refine sr ?_
    refine aV (ah (aj (cF ?_)))
    refine aX ?_
    refine aA (aA (bj (ak (sr (mL ?_)))))
    refine aY (k := 0) aG.out aD.size rfl rfl (by omega) (by omega) (by decide) ?_
    refine dT dY.out rfl (by decide) ?_
    refine bE aD.out rfl (dz hh.below ((hr.recAt PX.len h00) 0 _ rfl)) (by decide) ?_
    refine mL ?_
    refine aN (gF _ A' M.length c' M (k + i) _ hT hh rfl (by omega) (by omega) hmd.ok) au.out rfl (by decide) ?_
    rintro e_ w30 ⟨g, og, rfl, hh⟩
    refine ⟨_, rfl, ?_⟩
    refine dw ?_
    refine dw ?_
    refine bL hh 1 [_,_] ?_
    intro ws hh
    replace hh : Hp _ (_ :: .blk _ _ [_, _] _ :: _) _ := hh
    refine aI (ah (aq ?_))
    refine kL (aQ rfl (aP (vs := [_, _]) aD.out (hh.ax (i := 1) (n := 2) rfl rfl) rfl) (ct (db rfl) bh)) ?_
    rw [← hgE, ← hgM]
    exact ⟨g, og, rfl, hh.sub (List.Sublist.cons_cons _ (List.nil_sublist _))⟩
 ·rw [if_neg h0]
  generalize iA ps = e at *
  refine al (N := 33) (l := [.slice L n c]) Tryz.func37 rfl rfl (by simp) ?_
  refine sr ?_
  refine cx hh ?_
  intro b2 w2 hh
  refine aI (ah (aj (sr (mL ?_))))
  refine bC hh (hlk _ (hT.hp hh) hh.below) rfl ?_
  intro w9 hh
  refine aI (ah (sr (mI ?_)))
  refine er (ah (cT (sr ?_)))
  refine eD [_,_] (mI ?_)
  refine bL hh 0 [_,_] ?_
  intro ws hh
  replace hh : Hp _ (.blk _ _ [_, _] _ :: _) _ := hh
  refine aI (ah (aq (aJ ?_)))
  refine kL (aQ rfl (aP (vs := [_, _]) aD.out (hh.ax (i := 0) (n := 2) rfl rfl) rfl) (ct (db rfl) bh)) ?_
  exact ⟨PX.nil, dk.err h0, rfl, (hh.sub (List.nil_sublist _)).iC⟩
end Go.Proofs.YtkgdagjklakajaaGreatDoor
/- The walk through poly.times. -/
namespace Go.Proofs.YtkgdagjklakajaaGreatDoor
open Go.RowKit
theorem u1 {p q : List TR} (h : 65536 < p.length * q.length) : gx p q = 3 := by unfold gx; rw [if_pos h]
theorem xY {p q : List TR} {e : Int} (h6 : ¬ 65536 < p.length * q.length) {a b : List Int} (h : lv p q = a ++ e :: b) (ha : ∀ x ∈ a, x = 0) (he : e ≠ 0) : gx p q = e := by
 unfold gx
 rw [if_neg h6, h, List.find?_append, hQ (List.any_eq_false.2 fun x hx => by simp [ha x hx]), List.find?_cons_of_pos (p := fun e : Int => decide (e ≠ 0)) (by simpa using he)]
 rfl
theorem q7 {p q : List TR} (h6 : ¬ 65536 < p.length * q.length) (h : ∀ x ∈ lv p q, x = 0) : gx p q = gC (du p q) := by
 unfold gx gC
 rw [if_neg h6, hQ (List.any_eq_false.2 fun x hx => by simp [h x hx])]
theorem ka (p q : PX) (k k2 : Nat) (w : World) (hT : fS w) (hp : p.at_ w) (hq : q.at_ w) (lp : p.oJ k) (lq : q.oJ k2) (hk : k + k2 ≤ 900000) :
  Calls Tryz.prog 104 #[.agg #[.int .i64 p.v, .slice p.A p.n p.c], .agg #[.int .i64 q.v, .slice q.A q.n q.c]] w fun r w' => ∃ g : PX, dk (gx p.ts q.ts) p.v (a3 (du p.ts q.ts)) g ∧ r = .returned (.tuple #[.agg #[.int .i64 g.v, .slice g.A g.n g.c], .int .i64 (gx p.ts q.ts)]) ∧ Hp w [g.row] w' := by
 have hh := Hp.start w
 obtain ⟨pv, pA, pn, pc, ps⟩ := p
 obtain ⟨qv, qA, qn, qc, qs⟩ := q
 have hpl : ps.length = pn := hp.ln
 have hql : qs.length = qn := hq.ln
 have hpn : pn ≤ 1000000 := lp.n
 have hqn : qn ≤ 1000000 := lq.n
 have okp : gm k ps := lp.ok
 have okq : gm k2 qs := lq.ok
 have szp : ∀ t ∈ ps, t.m.size ≤ 100000 := lp.sz
 have szq : ∀ t ∈ qs, t.m.size ≤ 100000 := lq.sz
 replace hp : Sl w pA pn 4 (a8 TR.cells ps) := hp
 replace hq : Sl w qA qn 4 (a8 TR.cells qs) := hq
 clear lp lq
 show Calls _ _ _ _ fun r w' => ∃ g : PX, dk (gx ps qs) pv (a3 (du ps qs)) g ∧ r = .returned (.tuple #[.agg #[.int .i64 g.v, .slice g.A g.n g.c], .int .i64 (gx ps qs)]) ∧ Hp w [g.row] w'
 have hmm : pn * qn ≤ 1000000 * 1000000 := Nat.mul_le_mul hpn hqn
 obtain ⟨m, hm⟩ : ∃ m, m = pn * qn := ⟨_, rfl⟩
 have hmi : (pn : Int) * (qn : Int) = (m : Int) := by rw [hm]; exact (Int.natCast_mul _ _).symm
 by_cases h6 : 65536 < m
 ·rw [u1 (by rw [hpl, hql, ← hm]; exact h6)]
  refine al (N := 67) (l := [.agg #[.int .i64 pv, .slice pA pn pc], .agg #[.int .i64 qv, .slice qA qn qc]]) Tryz.func104 rfl rfl (by simp) ?_
  refine sr ?_
  refine df hh [_,_] ?_
  intro b2 w2 hh
  refine df hh [_,_] ?_
  intro b3 w3 hh
  refine cx hh ?_
  intro b4 w4 hh
  refine aI (ah (aj (sr (bG ?_))))
  refine bI hh 2 ?_
  refine a0 (bG ?_)
  refine bI hh 1 ?_
  refine a0 ?_
  refine mulC ?_
  refine cb (ah (cT (sr ?_)))
  refine eD [_,_] ?_
  refine bL hh 0 [_,_] ?_
  intro ws hh
  replace hh : Hp _ (.blk _ _ [_, _] _ :: _) _ := hh
  refine aI (ah (aq (aJ ?_)))
  refine kL (aQ rfl (aP (vs := [_, _]) aD.out (hh.ax (i := 0) (n := 2) rfl rfl) rfl) (ct (db rfl) bh)) ?_
  exact ⟨PX.nil, dk.err (by decide), rfl, (hh.sub (List.nil_sublist _)).iC⟩
 ·have hbig : ¬ 65536 < ps.length * qs.length := by rw [hpl, hql, ← hm]; exact h6
  refine al (N := 67) (l := [.agg #[.int .i64 pv, .slice pA pn pc], .agg #[.int .i64 qv, .slice qA qn qc]]) Tryz.func104 rfl rfl (by simp) ?_
  refine sr ?_
  refine df hh [_,_] ?_
  intro b2 w2 hh
  refine df hh [_,_] ?_
  intro b3 w3 hh
  refine cx hh ?_
  intro b4 w4 hh
  refine aI (ah (aj (sr (bG ?_))))
  refine bI hh 2 ?_
  refine a0 (bG ?_)
  refine bI hh 1 ?_
  refine a0 ?_
  refine mulC ?_
  refine cb (ah (cF (ao (ak (sr (aL (ah (aj (sr (bG ?_))))))))))
  refine bI hh 2 ?_
  refine a0 (mI (ah (ar ?_)))
  replace hh := hh.eU 58 4
  have hall : ∀ i, ((ps.take i).flatMap fun x => qs.map (pk x)).length ≤ 65536 := fun i => by
   have h1 : (du ps qs).length = ((ps.take i).flatMap fun x => qs.map (pk x)).length + ((ps.drop i).flatMap fun x => qs.map (pk x)).length := by
    unfold du
    rw [← List.length_append, ← List.flatMap_append, List.take_append_drop]
   rw [k7] at h1
   omega
  refine cE [5, 6, 8, 10, 11, 12, 25, 26, 27, 28, 29, 30, 31, 32, 33, 34, 35, 36, 37, 38, 39, 40, 41, 42, 43, 44, 45, 46, 47, 48, 49, 50, 51, 52, 53, 54, 55, 56, 57, 58, 59, 60] 6 25
   (fun a x w' => ∃ (i : Nat) (M : List TR) (A' : Option Addr) (c' : Nat), i ≤ pn ∧ x = .int .i64 i ∧ a = .slice A' M.length c' ∧ M = ((ps.take i).flatMap fun x => qs.map (pk x)) ∧ (∀ e ∈ ((ps.take i).flatMap fun x => qs.map fun y => mX x.m y.m), e = 0) ∧ Hp w [.row A' M.length c' 58 4 (a8 TR.cells M), .blk b4 31 [.int .i64 0, .slice none 0 0] (0, 0), .blk b3 31 [.int .i64 qv, .slice qA qn qc] (0, 0), .blk b2 31 [.int .i64 pv, .slice pA pn pc] (0, 0)] w')
   (fun _ x _ => pn - (intOf x).toNat) ?_ ?_
  ·exact ⟨0, [], none, 0, Nat.zero_le _, rfl, rfl, rfl, fun e he => (nomatch he), hh⟩
  ·clear hh
   rintro ρ' a_ x_ w' ⟨i, M, A', c', hi, rfl, rfl, hM, hz, hh⟩
   have hMl := hall i
   rw [← hM] at hMl
   by_cases hlt : i < pn
   ·obtain ⟨x, hx⟩ := aH (l := ps) (k := i) (by omega)
    obtain ⟨ad, rfl, hr⟩ := hp.at_ (by omega)
    have hxm := List.mem_of_getElem? hx
    have hxo := okp x hxm
    have hxs := szp x hxm
    refine sr ?_
    refine aV (ah (aj (cT (ao (ak (aj (ar (sr ?_))))))))
    refine aY (k := i) aG.out aD.size rfl rfl (by omega) (by omega) (by decide) ?_
    refine bS (vs := [_, _, _, _]) aD.out rfl ((hr.ext hh.below).recAt TR.len hx) rfl (by decide) ?_
    refine cx hh ?_
    intro b8 w8 hh
    refine bL hh 0 [_,_,_,_] ?_
    intro ws hh
    replace hh : Hp _ (.blk _ _ [_, _, _, _] _ :: _) _ := hh
    refine ah (sr (bG ?_))
    refine bI hh 3 ?_
    refine a0 (mI (ah (ar ?_)))
    replace hh := hh.perm (List.perm_middle (l₁ := [_]))
    simp only [List.cons_append, List.nil_append] at hh
    refine cE [5, 6, 10, 11, 12, 32, 33, 34, 35, 36, 37, 38, 39, 40, 41, 42, 43, 44, 45, 46, 47, 48, 49, 50, 51, 52, 53, 54, 55, 56, 57, 58, 59] 6 32
     (fun a z w' => ∃ (j : Nat) (N : List TR) (A' : Option Addr) (c' : Nat), j ≤ qn ∧ z = .int .i64 j ∧ a = .slice A' N.length c' ∧ N = M ++ (qs.take j).map (pk x) ∧ (∀ e ∈ (qs.take j).map (fun y => mX x.m y.m), e = 0) ∧ Hp w [.row A' N.length c' 58 4 (a8 TR.cells N), .blk b8 58 [.string x.m, .bool x.c.neg, .string x.c.cq, .int .i64 x.c.e] (0, 0), .blk b4 31 [.int .i64 0, .slice none 0 0] (0, 0), .blk b3 31 [.int .i64 qv, .slice qA qn qc] (0, 0), .blk b2 31 [.int .i64 pv, .slice (some ad) pn pc] (0, 0)] w')
     (fun _ z _ => qn - (intOf z).toNat) ?_ ?_
    ·refine ⟨0, M, A', c', Nat.zero_le _, rfl, rfl, by simp, fun e he => (nomatch he), hh⟩
    ·clear hh
     rintro ρ2 a2 x2 w2 ⟨j, N, A2, c2, hj, rfl, rfl, hN, hz2, hh⟩
     by_cases hjn : j < qn
     ·obtain ⟨y, hy⟩ := aH (l := qs) (k := j) (by omega)
      obtain ⟨ad2, rfl, hr2⟩ := hq.at_ (by omega)
      have hym := List.mem_of_getElem? hy
      have hyo := okq y hym
      have hys := szq y hym
      have hmul : ∀ w1, Calls Tryz.prog 175 #[.string x.m, .string y.m] w1 fun r w' => r = .returned (.tuple #[.string (mulM x.m y.m), .int .i64 (mX x.m y.m)]) ∧ Below w1.heap.size w1 w' := fun w1 => ur x.m y.m w1 hxs hys
      have hdm := fun A cc w1 hT1 hS1 => ma A 2 cc [x.c, y.c] w1 hT1 hS1 (by simpa using ⟨hxo.1, hyo.1⟩) (k + k2) (by simpa using ⟨hxo.2.mono (by omega), hyo.2.mono (by omega)⟩) (by omega) (by decide)
      rw [show iy ([x.c, y.c].map NR.d) = x.c.d * y.c.d by show 1 * x.c.d * y.c.d = _; rw [Dyadic.one_mul]] at hdm
      obtain ⟨R, hR⟩ := sv (f := fun x y => mX x.m y.m) hx hy
      have hzz : ∀ e ∈ ((ps.take i).flatMap fun x => qs.map fun y => mX x.m y.m) ++ (qs.take j).map (fun y => mX x.m y.m), e = 0 := fun e he => by
       rcases List.mem_append.1 he with he | he
       ·exact hz e he
       ·exact hz2 e he
      have hNl : N.length < 65536 := by
       have h1 := hall (i + 1)
       rw [kP hx, List.length_append, ← hM] at h1
       rw [hN, List.length_append]
       simp at h1 ⊢
       omega
      by_cases he : mX x.m y.m = 0
      ·refine sr ?_
       refine aV (ah (aj (cT (ao (ak (aj (ar (sr ?_))))))))
       refine aY (k := j) aG.out aD.size rfl rfl (by omega) (by omega) (by decide) ?_
       refine bS (vs := [_, _, _, _]) aD.out rfl ((hr2.ext hh.below).recAt TR.len hy) rfl (by decide) ?_
       refine cx hh ?_
       intro b10 w10 hh
       refine bL hh 0 [_,_,_,_] ?_
       intro ws hh
       replace hh : Hp _ (.blk _ _ [_, _, _, _] _ :: _) _ := hh
       refine ah (sr (bG ?_))
       refine bI hh 2 ?_
       refine bG ?_
       refine bI hh 0 ?_
       refine bC hh (hmul _) rfl ?_
       intro w41 hh
       refine mT ?_
       refine dw ?_
       refine dw ?_
       refine aS (aI (ah (aj (sr (mI ?_)))))
       refine er (ah (cF (ao (ak (aw (mL (mS (bG ?_))))))))
       refine dp hh 2 [_,_,_] (bG ?_)
       refine dp hh 0 [_,_,_] ?_
       refine bf hh (cs := [_, _, _, _, _, _]) aG.out aD.out (aZ (cu rfl) (aZ (cu rfl) bQ)) rfl rfl (by decide) (by decide) (by decide) rfl (by decide) ?_
       intro b54 w54 hh
       refine bC hh (hdm _ _ _ (hT.hp hh) (hh.aM (i := 0) rfl)) rfl ?_
       intro w55 hh
       refine eD [_,_,_,_] ?_
       refine bf hh (cs := [_, _, _, _]) aG.out aD.out (aZ (cu rfl) bQ) rfl rfl (by decide) (by decide) (by decide) rfl (by decide) ?_
       intro b57 w57 hh
       refine cB hh (i := 3) rfl rfl rfl (hh.aM (i := 0) rfl) aG.out aD.out rfl (by decide) (by first | rfl | exact de _ | exact cz _ | exact oneCells_i64s _ | exact ca NR.one _) (by omega) (by omega) (by decide) ?_
       intro A58 c58 w58 hh
       simp only [List.set_cons_zero, List.set_cons_succ] at hh
       replace hh := hh.sub (List.sublist_cons_self _ _)
       refine aL (aE (aW (ak (aw ?_))))
       refine bJ (mI (aE (ak ?_)))
       have e1 : a8 TR.cells N ++ [.string (mulM x.m y.m), .bool (nR (x.c.d * y.c.d)).neg, .string (nR (x.c.d * y.c.d)).cq, .int .i64 (nR (x.c.d * y.c.d)).e] = a8 TR.cells (N ++ [pk x y]) := by rw [cK, pP]; rfl
       replace hh := show Hp w (_ :: _ :: .row A58 (N.length + 1) c58 58 4 (a8 TR.cells N ++ [.string (mulM x.m y.m), .bool (nR (x.c.d * y.c.d)).neg, .string (nR (x.c.d * y.c.d)).cq, .int .i64 (nR (x.c.d * y.c.d)).e]) :: _) w58 from hh
       rw [e1] at hh
       replace hh := hh.sub (List.Sublist.cons _ (List.Sublist.cons _ (List.Sublist.cons_cons _ (List.Sublist.cons_cons _ (List.Sublist.cons_cons _ (List.Sublist.cons_cons _ (List.Sublist.cons_cons _ List.Sublist.slnil)))))))
       refine ⟨⟨j + 1, N ++ [pk x y], _, _, by omega, rfl, by rw [List.length_append]; rfl, by rw [hN, aT hy, List.map_append, List.append_assoc]; rfl, fun e h => ?_, ?_⟩, by show qn - (j + 1) < qn - j; omega, ?_⟩
       ·rw [aT hy, List.map_append, List.mem_append] at h
        rcases h with h | h
        ·exact hz2 e h
        ·rw [List.mem_singleton.1 h]; exact he
       ·rw [List.length_append]; exact hh
       ·(repeat (first | exact az _ _ _ | refine aC rfl ?_ | refine ay rfl ?_))
      ·rw [xY hbig hR hzz he]
       generalize mX x.m y.m = e at *
       refine sr ?_
       refine aV (ah (aj (cT (ao (ak (aj (ar (sr ?_))))))))
       refine aY (k := j) aG.out aD.size rfl rfl (by omega) (by omega) (by decide) ?_
       refine bS (vs := [_, _, _, _]) aD.out rfl ((hr2.ext hh.below).recAt TR.len hy) rfl (by decide) ?_
       refine cx hh ?_
       intro b10 w10 hh
       refine bL hh 0 [_,_,_,_] ?_
       intro ws hh
       replace hh : Hp _ (.blk _ _ [_, _, _, _] _ :: _) _ := hh
       refine ah (sr (bG ?_))
       refine bI hh 2 ?_
       refine bG ?_
       refine bI hh 0 ?_
       refine bC hh (hmul _) rfl ?_
       intro w41 hh
       refine mT ?_
       refine dw ?_
       refine dw ?_
       refine aS (aI (ah (aj (sr (mI ?_)))))
       refine er (ah (cT (sr ?_)))
       refine eD [_,_] (mI ?_)
       refine bL hh 3 [_,_] ?_
       intro ws hh
       replace hh : Hp _ (_ :: _ :: _ :: .blk _ _ [_, _] _ :: _) _ := hh
       refine aI (ah (aq (aJ (bO (aJ (aJ (bO (bO (aJ (aJ (bO ?_)))))))))))
       refine aJ ?_
       refine kL (aQ rfl (aP (vs := [_, _]) aD.out (hh.ax (i := 3) (n := 2) rfl rfl) rfl) (ct (db rfl) bh)) ?_
       exact ⟨PX.nil, dk.err he, rfl, (hh.sub (List.nil_sublist _)).iC⟩
     ·obtain rfl : j = qn := by omega
      rw [List.take_of_length_le (by omega)] at hz2 hN
      refine sr ?_
      refine aV (ah (aj (cF ?_)))
      refine aX ?_
      refine aA (aA (bj (aW (ak (aw ?_)))))
      refine bJ (mI (aE (ak ?_)))
      replace hh := hh.sub (List.Sublist.cons_cons _ (List.Sublist.cons _ (List.Sublist.cons_cons _ (List.Sublist.cons_cons _ (List.Sublist.cons_cons _ List.Sublist.slnil)))))
      refine ⟨⟨i + 1, N, A2, c2, by omega, rfl, rfl, by rw [kP hx, ← hM, List.take_of_length_le (by omega)]; exact hN, fun e h => ?_, hh⟩, by show pn - (i + 1) < pn - i; omega, ?_⟩
      ·rw [kP (f := fun (x y : TR) => mX x.m y.m) hx, List.mem_append, List.take_length] at h
       rcases h with h | h
       ·exact hz e h
       ·exact hz2 e h
      ·(repeat (first | exact az _ _ _ | refine aC rfl ?_ | refine ay rfl ?_))
   ·obtain rfl : i = pn := by omega
    rw [List.take_of_length_le (by omega)] at hz hM
    have hMp : M = du ps qs := hM
    rw [q7 hbig hz, ← hMp]
    have hpo := qa okp okq (by omega)
    rw [← hMp] at hpo
    refine sr ?_
    refine aV (ah (aj (cF ?_)))
    refine aX ?_
    refine aA (aA (bj (ak (sr (bG ?_)))))
    refine bI hh 3 ?_
    refine mL ?_
    refine aN (gF pv A' M.length c' M (k + k2) _ hT hh rfl (by omega) (by omega) hpo) au.out rfl (by decide) ?_
    rintro e_ w64 ⟨g, og, rfl, hh⟩
    refine ⟨_, rfl, ?_⟩
    refine dw ?_
    refine dw ?_
    refine bL hh 1 [_,_] ?_
    intro ws hh
    replace hh : Hp _ (_ :: .blk _ _ [_, _] _ :: _) _ := hh
    refine aI (ah (aq ?_))
    refine kL (aQ rfl (aP (vs := [_, _]) aD.out (hh.ax (i := 1) (n := 2) rfl rfl) rfl) (ct (db rfl) bh)) ?_
    exact ⟨g, og, rfl, hh.sub (List.Sublist.cons_cons _ (List.nil_sublist _))⟩
end Go.Proofs.YtkgdagjklakajaaGreatDoor
/- The walks through ogeeref08.Like and Times. -/
namespace Go.Proofs.YtkgdagjklakajaaGreatDoor
open Go.RowKit
end Go.Proofs.YtkgdagjklakajaaGreatDoor
/- The walks through poly.Const and poly.Var. -/
namespace Go.Proofs.YtkgdagjklakajaaGreatDoor
open Go.RowKit
def fg (v : Int) : ByteArray := ⟨(List.replicate v.toNat 0).toArray⟩
theorem jF {v : Int} (h : 0 ≤ v) : ((fg v).size : Int) = v := by
 have : (fg v).size = v.toNat := by unfold fg; show (List.replicate v.toNat (0 : UInt8)).toArray.size = _; rw [List.size_toArray, List.length_replicate]
 omega
theorem ud (v : Int) : ep (fg v).data.toList = true := by
 unfold ep fg
 rw [List.all_eq_true]
 intro c hc
 have : (⟨(List.replicate v.toNat (0 : UInt8)).toArray⟩ : ByteArray).data.toList = List.replicate v.toNat 0 := rfl
 rw [this] at hc
 rw [(List.mem_replicate.1 hc).2]
 decide
theorem vX {l : List TR} (h : l.length ≤ 4096) : gC l = 0 := by
 unfold gC
 have := gj l
 rw [if_neg (by omega)]
theorem qe {v : Int} {t : TR} (hf : fB v = true) (h : fu v t = true) : gD v [t] = 0 := by
 unfold gD
 rw [if_neg (by rw [hf]; simp [h]), if_neg (by simp), vX (by simp)]
def qy (v : Int) : Int := if fB v = false then 1 else 0
theorem ki (v : Int) (c : NR) (k : Nat) (w : World) (hT : fS w) (hc : c.ok ∧ Sz k c.d) (hk : k ≤ 2999980) :
  Calls Tryz.prog 26 #[.int .i64 v, .agg #[.bool c.neg, .string c.cq, .int .i64 c.e]] w fun r w' => ∃ g : PX, dk (qy v) v (a3 [⟨fg v, c⟩]) g ∧ r = .returned (.tuple #[.agg #[.int .i64 g.v, .slice g.A g.n g.c], .int .i64 (qy v)]) ∧ Hp w [g.row] w' := by
 have hh := Hp.start w
 have hfw := fun w1 => jb v w1
 cases hf : fB v with
 | false =>
  rw [hf] at hfw
  rw [show qy v = 1 by unfold qy; rw [if_pos hf]]
  refine al (N := 20) (l := [.int .i64 v, .agg #[.bool c.neg, .string c.cq, .int .i64 c.e]]) Tryz.func26 rfl rfl (by simp) ?_
  refine sr ?_
  refine df hh [_,_,_] ?_
  intro b3 w3 hh
  refine cx hh ?_
  intro b4 w4 hh
  refine aI (ah (aj (sr (mI ?_))))
  refine bC hh (hfw _) rfl ?_
  intro w7 hh
  refine eM ?_
  refine ah (cT (sr ?_))
  refine eD [_,_] ?_
  refine bL hh 0 [_,_] ?_
  intro ws hh
  replace hh : Hp _ (.blk _ _ [_, _] _ :: _) _ := hh
  refine aI (ah (aq (aJ ?_)))
  refine kL (aQ rfl (aP (vs := [_, _]) aD.out (hh.ax (i := 0) (n := 2) rfl rfl) rfl) (ct (db rfl) bh)) ?_
  exact ⟨PX.nil, dk.err (by decide), rfl, (hh.sub (List.nil_sublist _)).iC⟩
 | true =>
  rw [hf] at hfw
  obtain ⟨h0, h12⟩ := j0.1 hf
  have hm : gD v [⟨fg v, c⟩] = 0 := qe hf (by unfold fu; rw [ud, decide_eq_true (jF h0)]; rfl)
  have hmk := fun A cc w1 hT1 hS1 => fJ v A 1 cc [⟨fg v, c⟩] k w1 hT1 hS1 (by decide) (by omega) (fun t ht => by rw [List.mem_singleton.1 ht]; exact hc) (fun t ht => by rw [List.mem_singleton.1 ht]; have := jF h0; show (fg v).size ≤ _; omega)
  rw [hm] at hmk
  rw [show qy v = 0 by unfold qy; rw [if_neg (by rw [hf]; decide)]]
  refine al (N := 20) (l := [.int .i64 v, .agg #[.bool c.neg, .string c.cq, .int .i64 c.e]]) Tryz.func26 rfl rfl (by simp) ?_
  refine sr ?_
  refine df hh [_,_,_] ?_
  intro b3 w3 hh
  refine cx hh ?_
  intro b4 w4 hh
  refine aI (ah (aj (sr (mI ?_))))
  refine bC hh (hfw _) rfl ?_
  intro w7 hh
  refine eM ?_
  refine ah (cF (ao (ak (aj ?_))))
  refine kT [] [0, 0, 2, 6, 0, 30, 62, 127, 255, 255, 1023, 2047] 7 [[(0, none)], [(0, none)], [(11, some 1)], [(12, some 2)], [(3, none)], [(13, some 3), (14, some 4)], [(15, some 5)]] [(6, 16), (5, 15), (4, 14), (3, 13), (2, 12), (1, 11), (0, 10)] [([], 4, [(6, 16), (5, 15), (4, 14), (3, 13), (2, 12), (1, 11), (0, 10)])] hh mixed (by kernel_rfl) (by kernel_rfl) (by decide) ?_
  refine eG ?_
  refine eG ?_
  refine bW (i := 2) (jN v.toNat 1 (jM (List.replicate v.toNat 0))) (jN.ext) ?_ ?_
  ·intro ρ1 w1 hj hR
   exact mA v.toNat ▸ wA (n := v.toNat) (show ρ1 11 = Value.int _ _ from hR.1) (show ρ1 11 = Value.int _ _ from hR.1) (by omega) (by omega) aG.out aD.out rfl (by omega) (by omega) (fun _ _ h1 h2 => ⟨h2, h1⟩)
  refine bW (i := 3) (Is (.string (fg v))) (Is.ext) ?_ ?_
  ·intro ρ1 w1 hj hR
   exact let ⟨g, e, o⟩ := hR.1; fW rfl (iS (l := List.replicate v.toNat 0) aG.out aG.out aG.out e o) ⟨Below.refl _ _, rfl⟩
  refine gy 1 [_,_,_] ?_
  refine dB [_,_,_,_] ?_
  refine x9 [_,_,_,_] ?_
  refine bp ?_
  intro p_ hp_
  simp only [List.mem_cons, List.not_mem_nil, or_false] at hp_
  rcases hp_ with rfl
  intro f W hJ hV
  have hb_3 := hJ.bl
  obtain ⟨v16, v15, v14, v13, v12, v11, v10, _⟩ := hV
  simp only [iH]
  have e10 : f 0 = _ := v10
  rw [e10]
  have e11 : f 1 = _ := v11
  rw [e11]
  obtain ⟨g12, e12, o12⟩ : jN v.toNat 1 (jM (List.replicate v.toNat 0)) (f 2) W := v12
  rw [e12]
  have e13 : f 3 = _ := v13
  rw [e13]
  have e14 : f 4 = _ := v14
  rw [e14]
  have e15 : f 5 = _ := v15
  rw [e15]
  obtain ⟨A16, c16, e16, f16⟩ : Rows _ _ _ (f 6) W := v16
  rw [e16]
  replace hh := hJ.hp
  clear e10 e11 e12 e13 e14 e15 e16 hJ
  refine aN (hmk _ _ _ (hT.hp hh) f16) au.out rfl (by decide) ?_; rintro e_ w17 ⟨g, og, rfl, h3⟩; refine ⟨_, rfl, ?_⟩; replace hh := hh.join h3
  refine cn ?_
  simp only [List.cons_append, List.nil_append] at hh
  refine cg (i := 8) (by repeat (first | exact bY | refine bK ?_ | refine bX ?_ | refine np_scope ?_)) rfl (by kernel_rfl) (by kernel_rfl) (by kernel_rfl) (fun _ => eh (show _ = Value.tuple (List.toArray _) from rfl) rfl) (by decide) ?_
  refine cg (i := 9) (by repeat (first | exact bY | refine bK ?_ | refine bX ?_ | refine np_scope ?_)) rfl (by kernel_rfl) (by kernel_rfl) (by kernel_rfl) (fun _ => eh (show _ = Value.tuple (List.toArray _) from rfl) rfl) (by decide) ?_
  refine dH 10 (by decide) (by kernel_rfl) (by decide) (by kernel_rfl) (by kernel_rfl) ?_
  refine bL hh 1 [_,_] ?_
  intro ws hh
  replace hh : Hp _ (_ :: .blk _ _ [_, _] _ :: _) _ := hh
  refine aI (ah (aq ?_))
  refine kL (aQ rfl (aP (vs := [_, _]) aD.out (hh.ax (i := 1) (n := 2) rfl rfl) rfl) (ct (db rfl) bh)) ?_
  exact ⟨g, og, rfl, hh.sub (List.Sublist.cons_cons _ (List.nil_sublist _))⟩
def oU (v : Int) (x : Nat) : ByteArray := ⟨((List.replicate v.toNat (0 : UInt8)).set x 1).toArray⟩
theorem n6 {v : Int} {x : Nat} (h : 0 ≤ v) : ((oU v x).size : Int) = v := by
 have : (oU v x).size = v.toNat := by unfold oU; show ((List.replicate v.toNat (0 : UInt8)).set x 1).toArray.size = _; rw [List.size_toArray, List.length_set, List.length_replicate]
 omega
theorem vl (v : Int) (x : Nat) : ep (oU v x).data.toList = true := by
 unfold ep
 rw [List.all_eq_true]
 intro c hc
 have : (oU v x).data.toList = (List.replicate v.toNat 0).set x 1 := rfl
 rw [this] at hc
 rcases List.mem_or_eq_of_mem_set hc with h | rfl
 ·rw [(List.mem_replicate.1 h).2]; decide
 ·decide
theorem uh {l : List UInt8} {i : Nat} {c : UInt8} (h : i < l.length) : bP (jM l) (i * 1) [.int .u8 c.toNat] = jM (l.set i c) := by
 unfold bP jM
 rw [Nat.mul_one, List.set_eq_take_append_cons_drop, if_pos h, List.map_append, List.map_cons, List.map_take, List.map_drop, List.append_assoc]
 rfl
def nm (v x : Int) : Int := if fB v = false ∨ x < 0 ∨ v ≤ x then 1 else 0
theorem so (v x : Int) (w : World) (hT : fS w) :
  Calls Tryz.prog 28 #[.int .i64 v, .int .i64 x] w fun r w' => ∃ g : PX, dk (nm v x) v (a3 [⟨oU v x.toNat, nR ((1 : Int) : Dyadic)⟩]) g ∧ r = .returned (.tuple #[.agg #[.int .i64 g.v, .slice g.A g.n g.c], .int .i64 (nm v x)]) ∧ Hp w [g.row] w' := by
 have hh := Hp.start w
 have hfw := fun w1 => jb v w1
 cases hf : fB v with
 | false =>
  rw [hf] at hfw
  rw [show nm v x = 1 by unfold nm; rw [if_pos (.inl hf)]]
  refine al (N := 34) (l := [.int .i64 v, .int .i64 x]) Tryz.func28 rfl rfl (by simp) ?_
  refine sr ?_
  refine cx hh ?_
  intro b4 w4 hh
  refine aI (ah (aj (sr (mI ?_))))
  refine bC hh (hfw _) rfl ?_
  intro w8 hh
  refine eM ?_
  refine mB ?_
  first | refine gS ?_ | (refine gT ?_; refine mI ?_) | refine gV ?_
  first | refine gS ?_ | (refine gT ?_; refine aV ?_) | refine gV ?_
  first | refine cU ?_ | refine cV ?_
  refine mB ?_
  first | refine gS ?_ | (refine gT ?_; refine mI ?_) | refine gV ?_
  first | refine gS ?_ | (refine gT ?_; refine mI ?_) | refine gV ?_
  first | refine gS ?_ | (refine gT ?_; refine dh ?_) | refine gV ?_
  first | refine cU ?_ | refine cV ?_
  refine ah (cT (sr ?_))
  refine eD [_,_] ?_
  refine bL hh 0 [_,_] ?_
  intro ws hh
  replace hh : Hp _ (.blk _ _ [_, _] _ :: _) _ := hh
  refine aI (ah (aq (aJ ?_)))
  refine kL (aQ rfl (aP (vs := [_, _]) aD.out (hh.ax (i := 0) (n := 2) rfl rfl) rfl) (ct (db rfl) bh)) ?_
  exact ⟨PX.nil, dk.err (by decide), rfl, (hh.sub (List.nil_sublist _)).iC⟩
 | true =>
  rw [hf] at hfw
  obtain ⟨h0, h12⟩ := j0.1 hf
  by_cases hx0 : x < 0
  ·rw [show nm v x = 1 by unfold nm; rw [if_pos (.inr (.inl hx0))]]
   refine al (N := 34) (l := [.int .i64 v, .int .i64 x]) Tryz.func28 rfl rfl (by simp) ?_
   refine sr ?_
   refine cx hh ?_
   intro b4 w4 hh
   refine aI (ah (aj (sr (mI ?_))))
   refine bC hh (hfw _) rfl ?_
   intro w8 hh
   refine eM ?_
   refine mB ?_
   first | refine gS ?_ | (refine gT ?_; refine mI ?_) | refine gV ?_
   first | refine gS ?_ | (refine gT ?_; refine aV ?_) | refine gV ?_
   first | refine cU ?_ | refine cV ?_
   refine mB ?_
   first | refine gS ?_ | (refine gT ?_; refine mI ?_) | refine gV ?_
   first | refine gS ?_ | (refine gT ?_; refine mI ?_) | refine gV ?_
   first | refine gS ?_ | (refine gT ?_; refine dh ?_) | refine gV ?_
   first | refine cU ?_ | refine cV ?_
   refine ah (cT (sr ?_))
   refine eD [_,_] ?_
   refine bL hh 0 [_,_] ?_
   intro ws hh
   replace hh : Hp _ (.blk _ _ [_, _] _ :: _) _ := hh
   refine aI (ah (aq (aJ ?_)))
   refine kL (aQ rfl (aP (vs := [_, _]) aD.out (hh.ax (i := 0) (n := 2) rfl rfl) rfl) (ct (db rfl) bh)) ?_
   exact ⟨PX.nil, dk.err (by decide), rfl, (hh.sub (List.nil_sublist _)).iC⟩
  ·by_cases hx1 : v ≤ x
   ·rw [show nm v x = 1 by unfold nm; rw [if_pos (.inr (.inr hx1))]]
    refine al (N := 34) (l := [.int .i64 v, .int .i64 x]) Tryz.func28 rfl rfl (by simp) ?_
    refine sr ?_
    refine cx hh ?_
    intro b4 w4 hh
    refine aI (ah (aj (sr (mI ?_))))
    refine bC hh (hfw _) rfl ?_
    intro w8 hh
    refine eM ?_
    refine mB ?_
    first | refine gS ?_ | (refine gT ?_; refine mI ?_) | refine gV ?_
    first | refine gS ?_ | (refine gT ?_; refine aV ?_) | refine gV ?_
    first | refine cU ?_ | refine cV ?_
    refine mB ?_
    first | refine gS ?_ | (refine gT ?_; refine mI ?_) | refine gV ?_
    first | refine gS ?_ | (refine gT ?_; refine mI ?_) | refine gV ?_
    first | refine gS ?_ | (refine gT ?_; refine dh ?_) | refine gV ?_
    first | refine cU ?_ | refine cV ?_
    refine ah (cT (sr ?_))
    refine eD [_,_] ?_
    refine bL hh 0 [_,_] ?_
    intro ws hh
    replace hh : Hp _ (.blk _ _ [_, _] _ :: _) _ := hh
    refine aI (ah (aq (aJ ?_)))
    refine kL (aQ rfl (aP (vs := [_, _]) aD.out (hh.ax (i := 0) (n := 2) rfl rfl) rfl) (ct (db rfl) bh)) ?_
    exact ⟨PX.nil, dk.err (by decide), rfl, (hh.sub (List.nil_sublist _)).iC⟩
   ·rw [show nm v x = 0 by unfold nm; rw [if_neg (by rintro (h | h | h); exact absurd (hf.symm.trans h) (by decide); omega; omega)]]
    have hm : gD v [⟨oU v x.toNat, nR ((1 : Int) : Dyadic)⟩] = 0 := qe hf (by unfold fu; rw [vl, decide_eq_true (n6 h0)]; rfl)
    have z1 : Sz 24 ((1 : Int) : Dyadic) := xg (m := 1) (e := 0) (by decide) (by decide) (by decide)
    have hmk := fun A cc w1 hT1 hS1 => fJ v A 1 cc [⟨oU v x.toNat, nR ((1 : Int) : Dyadic)⟩] 24 w1 hT1 hS1 (by decide) (by omega) (fun t ht => by rw [List.mem_singleton.1 ht]; exact ⟨z1.ok (by decide), by show Sz 24 (nR _).d; rw [fh]; exact z1⟩) (fun t ht => by rw [List.mem_singleton.1 ht]; have := n6 (x := x.toNat) h0; show (oU v x.toNat).size ≤ _; omega)
    rw [hm] at hmk
    refine al (N := 34) (l := [.int .i64 v, .int .i64 x]) Tryz.func28 rfl rfl (by simp) ?_
    refine sr ?_
    refine cx hh ?_
    intro b4 w4 hh
    refine aI (ah (aj (sr (mI ?_))))
    refine bC hh (hfw _) rfl ?_
    intro w8 hh
    refine eM ?_
    refine mB ?_
    first | refine gS ?_ | (refine gT ?_; refine mI ?_) | refine gV ?_
    first | refine gS ?_ | (refine gT ?_; refine aV ?_) | refine gV ?_
    first | refine cU ?_ | refine cV ?_
    refine mB ?_
    first | refine gS ?_ | (refine gT ?_; refine mI ?_) | refine gV ?_
    first | refine gS ?_ | (refine gT ?_; refine mI ?_) | refine gV ?_
    first | refine gS ?_ | (refine gT ?_; refine dh ?_) | refine gV ?_
    first | refine cU ?_ | refine cV ?_
    refine ah (cF (ao (ak (sr (mI ?_)))))
    refine fv (n := (v.toNat)) hh rfl rfl (by omega) (by omega) aG.out aD.out rfl (by omega) (by omega) (by decide) ?_
    intro b21 w21 hh
    refine aL (ah (sr (mL (mI ?_))))
    refine bg (k := (x.toNat)) aG.out aD.size rfl rfl (by omega) (by omega) (by decide) ?_
    rw [mA] at hh
    have hll : (jM (List.replicate v.toNat 0)).length = v.toNat := by simp [jM]
    refine bo hh (i := 0) (vs := [_]) rfl rfl (bB rfl) rfl aD.out rfl (by rw [hll]; omega) rfl ?_
    intro ws hh
    simp only [List.set_cons_zero] at hh
    rw [show bP (jM (List.replicate v.toNat 0)) (x.toNat * 1) [.int .u8 1] = jM ((List.replicate v.toNat 0).set x.toNat 1) from uh (l := List.replicate v.toNat 0) (i := x.toNat) (c := 1) (by rw [List.length_replicate]; omega)] at hh
    refine ah (aj ?_)
    refine kT [] [0, 0, 2, 0, 14, 30, 63, 127, 127, 511, 1023] 6 [[(0, none)], [(6, none)], [(26, some 1)], [], [(27, some 2), (28, some 3)], [(29, some 4)]] [(5, 30), (4, 29), (3, 28), (2, 27), (1, 26), (0, 25)] [([], 4, [(5, 30), (4, 29), (3, 28), (2, 27), (1, 26), (0, 25)])] hh mixed (by kernel_rfl) (by kernel_rfl) (by decide) ?_
    refine eG ?_
    refine gE ?_
    refine bW (i := 2) (Is (.string ⟨(((List.replicate v.toNat 0).set x.toNat 1)).toArray⟩)) Is.ext ?_ ?_
    ·intro ρ1 w1 hj hR
     exact fW rfl (iS (l := ((List.replicate v.toNat 0).set x.toNat 1)) aG.out aG.out aG.out (show ρ1 26 = Value.slice _ _ _ from hR.1) (hj.hp.aM (i := 0) rfl)) ⟨Below.refl _ _, rfl⟩
    refine dC (fun _ hj => kS 1 _ (hT.hp hj.hp) (by decide) (by decide)) ?_
    refine dB [_,_,_,_] ?_
    refine x9 [_,_,_,_] ?_
    refine bp ?_
    intro p_ hp_
    simp only [List.mem_cons, List.not_mem_nil, or_false] at hp_
    rcases hp_ with rfl
    intro f W hJ hV
    have hb_5 := hJ.bl
    obtain ⟨v30, v29, v28, v27, v26, v25, _⟩ := hV
    simp only [iH]
    have e25 : f 0 = _ := v25
    rw [e25]
    have e26 : f 1 = _ := v26
    rw [e26]
    have e27 : f 2 = _ := v27
    rw [e27]
    have e28 : f 3 = _ := v28
    rw [e28]
    have e29 : f 4 = _ := v29
    rw [e29]
    obtain ⟨A30, c30, e30, f30⟩ : Rows _ _ _ (f 5) W := v30
    rw [e30]
    replace hh := hJ.hp
    clear e25 e26 e27 e28 e29 e30 hJ
    refine aN (hmk _ _ _ (hT.hp hh) f30) au.out rfl (by decide) ?_; rintro e_ w31 ⟨g, og, rfl, h3⟩; refine ⟨_, rfl, ?_⟩; replace hh := hh.join h3
    refine cn ?_
    simp only [List.cons_append, List.nil_append] at hh
    refine cg (i := 7) (by repeat (first | exact bY | refine bK ?_ | refine bX ?_ | refine np_scope ?_)) rfl (by kernel_rfl) (by kernel_rfl) (by kernel_rfl) (fun _ => eh (show _ = Value.tuple (List.toArray _) from rfl) rfl) (by decide) ?_
    refine cg (i := 8) (by repeat (first | exact bY | refine bK ?_ | refine bX ?_ | refine np_scope ?_)) rfl (by kernel_rfl) (by kernel_rfl) (by kernel_rfl) (fun _ => eh (show _ = Value.tuple (List.toArray _) from rfl) rfl) (by decide) ?_
    refine dH 9 (by decide) (by kernel_rfl) (by decide) (by kernel_rfl) (by kernel_rfl) ?_
    refine bL hh 2 [_,_] ?_
    intro ws hh
    replace hh : Hp _ (_ :: _ :: .blk _ _ [_, _] _ :: _) _ := hh
    refine aI (ah (aq ?_))
    refine kL (aQ rfl (aP (vs := [_, _]) aD.out (hh.ax (i := 2) (n := 2) rfl rfl) rfl) (ct (db rfl) bh)) ?_
    exact ⟨g, og, rfl, hh.sub (List.Sublist.cons_cons _ (List.nil_sublist _))⟩
end Go.Proofs.YtkgdagjklakajaaGreatDoor
/- The walks through ogeeref08.Make, Const, Var. -/
namespace Go.Proofs.YtkgdagjklakajaaGreatDoor
open Go.RowKit
end Go.Proofs.YtkgdagjklakajaaGreatDoor
/- The walk through poly.Mul. -/
namespace Go.Proofs.YtkgdagjklakajaaGreatDoor
open Go.RowKit
def jJ (base : Nat) (E v : Int) (ts : List TR) : VP := fun x W => ∃ (g : PX) (w1 : World), x = .agg #[.int .i64 g.v, .slice g.A g.n g.c] ∧ dk E v ts g ∧ base ≤ w1.heap.size ∧ Hp w1 [g.row] W
theorem jJ.ext {base : Nat} {E v : Int} {ts : List TR} (x : Value) (w w' : World) (h : jJ base E v ts x w) (hb : Below w.heap.size w w') : jJ base E v ts x w' := let ⟨g, w1, h1, h2, h3, h4⟩ := h; ⟨g, w1, h1, h2, h3, h4.ext hb⟩
def nh (base : Nat) (E v : Int) (ts : List TR) : VP := fun x W => ∃ (g : PX) (w1 : World), x = .tuple #[.agg #[.int .i64 g.v, .slice g.A g.n g.c], .int .i64 E] ∧ dk E v ts g ∧ base ≤ w1.heap.size ∧ Hp w1 [g.row] W
theorem nh.ext {base : Nat} {E v : Int} {ts : List TR} (x : Value) (w w' : World) (h : nh base E v ts x w) (hb : Below w.heap.size w w') : nh base E v ts x w' := let ⟨g, w1, h1, h2, h3, h4⟩ := h; ⟨g, w1, h1, h2, h3, h4.ext hb⟩
def qb (base : Nat) (v : Int) (ts : List TR) : VP := fun x W => ∃ (g : PX) (w1 : World), x = .slice g.A g.n g.c ∧ dk 0 v ts g ∧ base ≤ w1.heap.size ∧ Hp w1 [g.row] W
theorem qb.ext {base : Nat} {v : Int} {ts : List TR} (x : Value) (w w' : World) (h : qb base v ts x w) (hb : Below w.heap.size w w') : qb base v ts x w' := let ⟨g, w1, h1, h2, h3, h4⟩ := h; ⟨g, w1, h1, h2, h3, h4.ext hb⟩
theorem PX.ne {g : PX} {w1 W : World} {b : Nat} {t : TypeId} {cs : Array Value} {fz : Nat × Nat} (h : Hp w1 [g.row] W) (h3 : W.heap[b]? = some (.cells cs t fz)) (h1 : 58 ≠ t) : ∀ x ∈ [g.row], x.id ≠ some b := fun x hx => by
 have hx2 := h.own x hx
 obtain rfl := List.mem_singleton.1 hx
 exact yE hx2 h3 h1
def ef (a : List TR × Int) (g : PX) : List TR × Int := if a.2 = 0 then (a3 (du a.1 g.ts), gx a.1 g.ts) else a
def xl (ps : List PX) : List TR × Int := match ps with | [] => ([], 0) | g :: l => l.foldl ef (g.ts, 0)
def lu (ps : List PX) : Int := if iA ps = 0 then (xl ps).2 else iA ps
theorem qB {a : List TR × Int} (h : a.2 ≠ 0) : ∀ l : List PX, l.foldl ef a = a
 | [] => rfl
 | g :: l => by
  rw [List.foldl_cons, show ef a g = a by unfold ef; rw [if_neg h]]
  exact qB h l
theorem tR {l : List PX} {a : List TR × Int} {i : Nat} {g : PX} (hx : l[i]? = some g) (h0 : ((l.take i).foldl ef a).2 = 0) (h : gx ((l.take i).foldl ef a).1 g.ts ≠ 0) : (l.foldl ef a).2 = gx ((l.take i).foldl ef a).1 g.ts := by
 have e : l = l.take i ++ g :: l.drop (i + 1) := by rw [← ic hx, List.take_append_drop]
 have e2 : l.foldl ef a = (l.drop (i + 1)).foldl ef (ef ((l.take i).foldl ef a) g) := by
  conv => lhs; rw [e]
  rw [List.foldl_append, List.foldl_cons]
 rw [e2]
 have e3 : ef ((l.take i).foldl ef a) g = (a3 (du ((l.take i).foldl ef a).1 g.ts), gx ((l.take i).foldl ef a).1 g.ts) := if_pos h0
 rw [e3, qB h]
theorem uo {l : List PX} {a : List TR × Int} {i : Nat} {g : PX} (hx : l[i]? = some g) (h0 : ((l.take i).foldl ef a).2 = 0) : (l.take (i + 1)).foldl ef a = (a3 (du ((l.take i).foldl ef a).1 g.ts), gx ((l.take i).foldl ef a).1 g.ts) := by
 rw [aT hx, List.foldl_append, List.foldl_cons, List.foldl_nil]
 exact if_pos h0
theorem oK {p q : List TR} {k j : Nat} (hp : gm k p) (hq : gm j q) (sq : ∀ t ∈ q, t.m.size ≤ 100000) (h : gx p q = 0) (hk : k + j ≤ 900000) : gm (k + j + 65536) (a3 (du p q)) ∧ ∀ t ∈ a3 (du p q), t.m.size ≤ 100000 := by
 obtain ⟨h6, _, h4⟩ := lN h
 have ho := qa hp hq (by omega)
 have hz := jt fun t ht => (ho t ht).2
 rw [k7] at hz
 refine ⟨fun t ht => ?_, fun t ht => ?_⟩
 ·have : Sz (k + j + 65536) t.c.d := (hz t ht).mono (by omega)
  refine ⟨?_, this⟩
  rw [(dX _).nf t ht]
  exact this.ok (by omega)
 ·obtain ⟨s, hs, e⟩ := gh t ht
  obtain ⟨x, hx, hs⟩ := List.mem_flatMap.1 hs
  obtain ⟨y, hy, rfl⟩ := List.mem_map.1 hs
  rw [← e]
  exact Nat.le_trans (uG _ _) (sq y hy)
theorem mM (L : Option Addr) (n c : Nat) (ps : List PX) (k : Nat) (w : World) (hT : fS w) (hL : Sl w L n 2 (a8 PX.cells ps)) (hcn : n ≤ c) (hn : n ≤ 8) (hf : ∀ g ∈ ps, g.at_ w) (hl : ∀ g ∈ ps, g.oJ k) (hk : k ≤ 2000) :
  Calls Tryz.prog 33 #[.slice L n c] w fun r w' => ∃ g : PX, dk (lu ps) (n9 ps) (xl ps).1 g ∧ r = .returned (.tuple #[.agg #[.int .i64 g.v, .slice g.A g.n g.c], .int .i64 (lu ps)]) ∧ Hp w [g.row] w' := by
 have hh := Hp.start w
 have hln := hL.bV PX.len (by decide)
 have hlk := fun w1 hT1 hb => lF L n c ps k w1 hT1 (hL.ext hb) (by omega) (fun g hg => (hf g hg).ext hb) hl
 unfold lu
 by_cases h0 : iA ps = 0
 ·rw [if_pos h0]
  rw [h0] at hlk
  obtain ⟨hne, hev, hvv⟩ := lS h0
  obtain ⟨g0, pt, rfl⟩ := List.exists_cons_of_ne_nil hne
  rw [lY (g := g0) rfl]
  have hnp : pt.length + 1 = n := hln
  obtain ⟨ad, rfl, hr⟩ := hL.at_ (by omega)
  have hm0 : g0 ∈ g0 :: pt := List.mem_cons_self
  have hg0 := hl g0 hm0
  have h00 : (g0 :: pt)[0]? = some g0 := rfl
  show Calls _ _ _ _ fun r w' => ∃ g : PX, dk (pt.foldl ef (g0.ts, 0)).2 g0.v (pt.foldl ef (g0.ts, 0)).1 g ∧ r = .returned (.tuple #[.agg #[.int .i64 g.v, .slice g.A g.n g.c], .int .i64 (pt.foldl ef (g0.ts, 0)).2]) ∧ Hp w [g.row] w'
  refine al (N := 46) (l := [.slice (some ad) n c]) Tryz.func33 rfl rfl (by simp) ?_
  refine sr ?_
  refine cx hh ?_
  intro b2 w2 hh
  refine aI (ah (aj (sr (mL ?_))))
  refine bC hh (hlk _ (hT.hp hh) hh.below) rfl ?_
  intro w11 hh
  refine aI (ah (sr (mI ?_)))
  refine er (ah (cF (ao (ak (aj ?_)))))
  refine a4 11 [[(0, none)], [(16, some 0)], [(17, some 1)], [(18, some 2)], [(0, none)], [(20, some 4)], [(21, some 5)], [(22, some 6)], [(23, some 7)], [(19, some 3), (24, some 8)], []] [(10, 5), (9, 25), (8, 24), (7, 23), (6, 22), (5, 21), (4, 20), (3, 19), (2, 18), (1, 17), (0, 16)] hh mixed (by kernel_rfl) ?_
  refine gE ?_
  refine jV (0) ?_
  refine wq ?_
  refine kJ (fun _ hj => dz hj.hp.below ((hr.recAt PX.len h00) 0 _ rfl)) ?_
  refine gE ?_
  refine jV (0) ?_
  refine wq ?_
  refine kJ (fun _ hj => dz hj.hp.below ((hr.recAt PX.len h00) 1 _ rfl)) ?_
  refine bW (i := 8) (qb w11.heap.size g0.v g0.ts) (qb.ext) ?_ ?_
  ·intro ρ1 w1 hj hR
   exact cZ rfl (bs au.out (aF (show ρ1 23 = Value.slice _ _ _ from hR.1) bq)) (ij g0.A g0.n g0.c g0.ts w1 ((hf g0 hm0).ext hj.hp.below) hg0.n) (fun _ _ ⟨A, c, hq, ho, hb⟩ => ⟨_, hq, hb, ⟨g0.v, A, g0.n, c, g0.ts⟩, w1, rfl, ⟨rfl, rfl⟩, hj.bl.size, (Hp.start w1).a7 (x := .row _ _ _ _ _ _) hb ho⟩)
  refine bW (i := 9) (jJ w11.heap.size 0 g0.v g0.ts) (jJ.ext) ?_ ?_
  ·intro ρ1 w1 hj hR
   exact let ⟨g, u, e, o, q, h⟩ := hR.2.1; fW rfl (oV (cs := [_, _]) aD.out iz.out (aZ (show ρ1 19 = Value.int _ _ from hR.1) (aZ e bQ)) rfl) ⟨Below.refl _ _, g, u, by rw [show g.v = g0.v from o.v], o, q, h⟩
  refine bW (i := 10) (dr _ 31 _) dr.ext (fun ρ1 w1 hj hR => hG aD.out hj.bl (fun v w2 h hb => ⟨hb, h⟩)) ?_
  refine bp ?_
  intro f W hJ hV
  have hb_4 := hJ.bl
  obtain ⟨v5, v25, v24, v23, v22, v21, v20, v19, v18, v17, v16, _⟩ := hV
  obtain ⟨g24, u24, e24, -⟩ := v24
  obtain ⟨g25, u25, e25, o25, q25, h25⟩ := v25
  obtain ⟨b5, e5, hl5, hc5⟩ : dr _ _ _ (f 10) W := v5
  replace hh := hJ.nY hh hl5 hc5 q25 h25 (PX.ne h25 hc5 (by decide))
  refine a6 (bu (ai e5 (ai e25 (ai e24 (ai v23 (ai v22 (ai v21 (ai v20 (ai v19 (ai v18 (ai v17 (ai v16 a5)))))))))))) ?_
  dsimp only [cC]
  clear e24 e25 e5 hJ
  simp only [List.cons_append, List.nil_append] at hh
  obtain ⟨gv, gA, gn, gc, gts⟩ := g25
  obtain rfl : g0.v = gv := o25.v.symm
  obtain rfl : g0.ts = gts := o25.ts.symm
  replace hh := show Hp w (_ :: .row gA gn gc 58 4 (a8 TR.cells g0.ts) :: _) W from hh
  have hgn : g0.ts.length = gn := (hh.aM (i := 1) rfl).bV TR.len (by decide)
  have hgc : gn ≤ gc := hh.g9 (i := 1) rfl
  refine bL hh 0 [_,_] ?_
  intro ws hh
  replace hh : Hp _ (.blk _ _ [_, _] _ :: _) _ := hh
  refine ah (aj (sr (mL ?_)))
  refine aU rfl rfl (by decide) (hO aG.out aD.size rfl rfl (l := 1) rfl (by omega) (by omega)) ?_
  refine a0 (mI (ah (ar ?_)))
  replace hh := hh.perm (List.perm_middle (l₁ := [_]))
  simp only [List.cons_append, List.nil_append] at hh
  refine bA [3, 7, 8, 9, 29, 30, 31, 32, 33, 34, 35, 36, 37, 38, 39, 40, 41, 42, 43, 44] 29
   (fun v w' => ∃ (i : Nat) (g : PX), i ≤ n - 1 ∧ v = .int .i64 i ∧ ((pt.take i).foldl ef (g0.ts, 0)).2 = 0 ∧ g.v = g0.v ∧ g.ts = ((pt.take i).foldl ef (g0.ts, 0)).1 ∧ g.oJ (2000 + i * 67536) ∧ Hp w [.row g.A g.n g.c 58 4 (a8 TR.cells g.ts), .blk b5 31 [.int .i64 g.v, .slice g.A g.n g.c] (0, 0), .blk b2 31 [.int .i64 0, .slice none 0 0] (0, 0)] w')
   (fun v _ => n - 1 - (intOf v).toNat) ?_ ?_
  ·exact ⟨0, ⟨g0.v, gA, gn, gc, g0.ts⟩, Nat.zero_le _, rfl, rfl, rfl, rfl, ⟨by show gn ≤ 1000000; have := hg0.n; have h9 := (hf g0 hm0).ln; omega, hgc, hg0.ok.mono (by omega), hg0.sz⟩, hh⟩
  ·clear hh
   rintro ρ' v w' ⟨i, g, hi, rfl, hz, hgv, hts, hgl, hh⟩
   by_cases hlt : i < n - 1
   ·obtain ⟨f, hx⟩ := aH (l := pt) (k := i) (by omega)
    have hmem : f ∈ g0 :: pt := List.mem_cons_of_mem _ (List.mem_of_getElem? hx)
    have hbk : Sl w (if c = 1 then some ad else (some ad : Option Addr).map (·.add (1 * 2))) (n - 1) 2 (a8 PX.cells pt) := hL.back (by omega) hcn
    obtain ⟨ab, hAb, sb⟩ := hbk.at_ (by omega)
    have hev : Value.slice (if c = 1 then some ad else (some ad : Option Addr).map (·.add (1 * 2))) (n - 1) (c - 1) = .slice (some ab) (n - 1) (c - 1) := by rw [hAb]
    have hfl := hl f hmem
    have hnx := uo (a := (g0.ts, 0)) hx hz
    have hsp := tR (a := (g0.ts, 0)) hx hz
    rw [← hts] at hnx hsp
    refine sr ?_
    refine aV (ah (aj (cT (ao (ak (aj (ar (sr ?_))))))))
    refine aY (k := i) aG.out aD.size hev rfl (by omega) (by omega) (by decide) ?_
    refine bS (vs := [_, _]) aD.out rfl (show Rd _ _ [.int .i64 f.v, .slice f.A f.n f.c] from (sb.ext hh.below).recAt PX.len hx) rfl (by decide) ?_
    refine cx hh ?_
    intro b7 w7 hh
    refine bL hh 0 [_,_] ?_
    intro ws hh
    replace hh : Hp _ (.blk _ _ [_, _] _ :: _) _ := hh
    refine ah (sr ?_)
    refine dp hh 2 [_,_] ?_
    refine dp hh 0 [_,_] ?_
    refine aN (ka g f (2000 + i * 67536) k _ (hT.hp hh) (hh.aM (i := 1) rfl) ((hf f hmem).ext hh.below) hgl hfl (by omega)) au.out rfl (by decide) ?_
    rintro e_ w36 ⟨h, oh, rfl, h3⟩
    refine ⟨_, rfl, ?_⟩
    replace hh := hh.join h3
    simp only [List.cons_append, List.nil_append] at hh
    by_cases he : gx g.ts f.ts = 0
    ·obtain ⟨hv, hA, hn2, hc2, hts2⟩ := h
     rw [he] at oh
     obtain rfl : g.v = hv := oh.v.symm
     obtain rfl : a3 (du g.ts f.ts) = hts2 := oh.ts.symm
     replace hh := show Hp w (.row hA hn2 hc2 58 4 (a8 TR.cells (a3 (du g.ts f.ts))) :: _) w36 from hh
     have hhn : (a3 (du g.ts f.ts)).length = hn2 := (hh.aM (i := 0) rfl).bV TR.len (by decide)
     have hhc : hn2 ≤ hc2 := hh.g9 (i := 0) rfl
     have h4 := (lN he).2.2
     have htl := oK hgl.ok hfl.ok hfl.sz he (by omega)
     refine mT ?_
     refine dw ?_
     refine dw ?_
     refine cx hh ?_
     intro b8 w8 hh
     refine bL hh 0 [_,_] ?_
     intro ws hh
     replace hh : Hp _ (.blk _ _ [_, _] _ :: _) _ := hh
     refine aI (ah (aj (sr (mI ?_))))
     refine er (ah (cF (ao (ak (aw ?_)))))
     refine dp hh 0 [_,_] ?_
     refine bL hh 4 [_,_] ?_
     intro ws hh
     replace hh : Hp _ (_ :: _ :: _ :: _ :: .blk _ _ [_, _] _ :: _) _ := hh
     refine aE (aW (ak (aw ?_)))
     refine bJ (mI (aE (ak ?_)))
     replace hh := hh.sub (List.Sublist.cons _ (List.Sublist.cons_cons _ (List.Sublist.cons _ (List.Sublist.cons _ (List.Sublist.cons_cons _ (List.Sublist.cons_cons _ List.Sublist.slnil))))))
     refine ⟨⟨i + 1, ⟨g.v, hA, hn2, hc2, a3 (du g.ts f.ts)⟩, by omega, rfl, by rw [hnx]; exact he, hgv, by rw [hnx], ⟨by show hn2 ≤ 1000000; omega, hhc, htl.1.mono (by omega), htl.2⟩, hh⟩, by show n - 1 - (i + 1) < n - 1 - i; omega, ?_⟩
     (repeat (first | exact az _ _ _ | refine aC rfl ?_ | refine ay rfl ?_))
    ·rw [hsp he]
     refine mT ?_
     refine dw ?_
     refine dw ?_
     refine cx hh ?_
     intro b8 w8 hh
     refine bL hh 0 [_,_] ?_
     intro ws hh
     replace hh : Hp _ (.blk _ _ [_, _] _ :: _) _ := hh
     refine aI (ah (aj (sr (mI ?_))))
     refine er (ah (cT (sr ?_)))
     refine eD [_,_] (mI ?_)
     refine bL hh 5 [_,_] ?_
     intro ws hh
     replace hh : Hp _ (_ :: _ :: _ :: _ :: _ :: .blk _ _ [_, _] _ :: _) _ := hh
     refine aI (ah (aq (aJ (bO (aJ (aJ (bO (aJ ?_))))))))
     refine kL (aQ rfl (aP (vs := [_, _]) aD.out (hh.ax (i := 5) (n := 2) rfl rfl) rfl) (ct (db rfl) bh)) ?_
     exact ⟨PX.nil, dk.err he, rfl, (hh.sub (List.nil_sublist _)).iC⟩
   ·obtain rfl : i = n - 1 := by omega
    rw [List.take_of_length_le (by omega)] at hz hts
    refine sr ?_
    refine aV (ah (aj (cF ?_)))
    refine aX ?_
    refine aA (aA (bj (ak (sr ?_))))
    refine dp hh 1 [_,_] ?_
    refine bL hh 2 [_,_] ?_
    intro ws hh
    replace hh : Hp _ (_ :: _ :: .blk _ _ [_, _] _ :: _) _ := hh
    refine aI (ah (aq ?_))
    refine kL (aQ rfl (aP (vs := [_, _]) aD.out (hh.ax (i := 2) (n := 2) rfl rfl) rfl) (ct (db rfl) bh)) ?_
    rw [hz]
    exact ⟨g, ⟨hgv, hts⟩, rfl, hh.sub (List.Sublist.cons_cons _ (List.nil_sublist _))⟩
 ·rw [if_neg h0]
  generalize iA ps = e at *
  refine al (N := 46) (l := [.slice L n c]) Tryz.func33 rfl rfl (by simp) ?_
  refine sr ?_
  refine cx hh ?_
  intro b2 w2 hh
  refine aI (ah (aj (sr (mL ?_))))
  refine bC hh (hlk _ (hT.hp hh) hh.below) rfl ?_
  intro w11 hh
  refine aI (ah (sr (mI ?_)))
  refine er (ah (cT (sr ?_)))
  refine eD [_,_] (mI ?_)
  refine bL hh 0 [_,_] ?_
  intro ws hh
  replace hh : Hp _ (.blk _ _ [_, _] _ :: _) _ := hh
  refine aI (ah (aq (aJ ?_)))
  refine kL (aQ rfl (aP (vs := [_, _]) aD.out (hh.ax (i := 0) (n := 2) rfl rfl) rfl) (ct (db rfl) bh)) ?_
  exact ⟨PX.nil, dk.err h0, rfl, (hh.sub (List.nil_sublist _)).iC⟩
end Go.Proofs.YtkgdagjklakajaaGreatDoor
/- The walk through poly.Pow. -/
namespace Go.Proofs.YtkgdagjklakajaaGreatDoor
open Go.RowKit
def jI (p : PX) (n : Nat) : List TR × Int := (List.replicate n p).foldl ef (a3 [⟨fg p.v, nR ((1 : Int) : Dyadic)⟩], 0)
def me (p : PX) (n : Int) : Int := if p.e = 0 then (if n < 0 ∨ 127 < n then 1 else (jI p n.toNat).2) else p.e
theorem oe (p : PX) (i : Nat) : jI p (i + 1) = ef (jI p i) p := by unfold jI; rw [List.replicate_succ', List.foldl_append]; rfl
theorem nO {p : PX} {i : Nat} (h : (jI p i).2 ≠ 0) : ∀ {n : Nat}, i ≤ n → jI p n = jI p i
 | 0, hn => by rw [show i = 0 by omega]
 | n + 1, hn => by
  rcases Nat.lt_or_ge n i with h1 | h1
  ·rw [show i = n + 1 by omega]
  ·rw [oe, nO h h1]
   exact if_neg h
theorem mE (p : PX) (n : Int) (k : Nat) (w : World) (hT : fS w) (hp : p.at_ w) (lp : p.oJ k) (hk : k ≤ 2000) (hn : n ≤ 4 ∨ 127 < n) :
  Calls Tryz.prog 35 #[.agg #[.int .i64 p.v, .slice p.A p.n p.c], .int .i64 n] w fun r w' => ∃ g : PX, dk (me p n) p.v (jI p n.toNat).1 g ∧ r = .returned (.tuple #[.agg #[.int .i64 g.v, .slice g.A g.n g.c], .int .i64 (me p n)]) ∧ Hp w [g.row] w' := by
 have hh := Hp.start w
 have hck := fun w1 hT1 hb => lM p k w1 hT1 (hp.ext hb) lp
 unfold me
 by_cases h0 : p.e = 0
 ·rw [if_pos h0]
  rw [h0] at hck
  obtain ⟨hf, h4, _, _⟩ := eV h0
  have hpl : p.ts.length = p.n := hp.ln
  have hco : qy p.v = 0 := by unfold qy; rw [if_neg (by rw [hf]; decide)]
  have z1 : Sz 24 ((1 : Int) : Dyadic) := xg (m := 1) (e := 0) (by decide) (by decide) (by decide)
  have hcn := fun w1 hT1 => ki p.v (nR ((1 : Int) : Dyadic)) 24 w1 hT1 ⟨z1.ok (by decide), by rw [fh]; exact z1⟩ (by decide)
  rw [hco] at hcn
  have hg1 := gj [⟨fg p.v, nR ((1 : Int) : Dyadic)⟩]
  have hgo : gm 2000 (a3 [⟨fg p.v, nR ((1 : Int) : Dyadic)⟩]) := fun t ht => by
   have h1 : Sz 2000 t.c.d := (jt (k := 24) (l := [⟨fg p.v, nR ((1 : Int) : Dyadic)⟩]) (fun s hs => by rw [List.mem_singleton.1 hs, fh]; exact z1) t ht).mono (show 24 + 1 ≤ 2000 by decide)
   exact ⟨by rw [(dX _).nf t ht]; exact h1.ok (by decide), h1⟩
  have hgz : ∀ t ∈ a3 [⟨fg p.v, nR ((1 : Int) : Dyadic)⟩], t.m.size ≤ 100000 := fun t ht => by
   obtain ⟨s, hs, e⟩ := gh t ht
   rw [← e, List.mem_singleton.1 hs]
   have h1 := j0.1 hf
   have h2 := jF h1.1
   show (fg p.v).size ≤ 100000
   omega
  have hpw : jI p 0 = (a3 [⟨fg p.v, nR ((1 : Int) : Dyadic)⟩], 0) := rfl
  generalize a3 [⟨fg p.v, nR ((1 : Int) : Dyadic)⟩] = G at *
  refine al (N := 47) (l := [.agg #[.int .i64 p.v, .slice p.A p.n p.c], .int .i64 n]) Tryz.func35 rfl rfl (by simp) ?_
  refine sr ?_
  refine df hh [_,_] ?_
  intro b2 w2 hh
  refine cx hh ?_
  intro b4 w4 hh
  refine aI (ah (aj (sr ?_)))
  refine dp hh 1 [_,_] ?_
  refine bC hh (hck _ (hT.hp hh) hh.below) rfl ?_
  intro w11 hh
  refine aI (ah (sr (mI ?_)))
  refine er (ah (cF (ao (ak (aj ?_)))))
  refine eH [7] [6] [0, 1, 0, 7, 15, 31, 31, 0, 191, 511] 8 [[(2, none)], [(17, some 0)], [], [(18, some 1), (19, some 2)], [(20, some 3)], [(16, some 4)], [(16, some 4)], []] [(7, 7), (6, 22), (5, 21), (4, 16), (3, 20), (2, 19), (1, 18), (0, 17)] hh mixed (by kernel_rfl) (ua rfl aD.out fj) rfl (by repeat (first | exact bY | refine bK ?_ | refine bX ?_)) ?_
  refine dx ?_
  refine fi 1 ?_
  refine dC (fun _ hj => kS 1 _ (hT.hp hj.hp) (by decide) (by decide)) ?_
  refine bW (i := 3) (nh w11.heap.size 0 p.v G) (nh.ext) ?_ ?_
  ·intro ρ1 w1 hj hR
   exact cZ rfl (bs au.out (aF (show ρ1 18 = Value.int _ _ from hR.1) (aF (show ρ1 19 = Value.agg _ from hR.2.1) bq))) (hcn w1 (hT.hp hj.hp)) (fun _ _ ⟨g, og, hq, h3⟩ => ⟨_, hq, h3.below, g, w1, rfl, og, hj.bl.size, h3⟩)
  refine bW (i := 4) (nh w11.heap.size 0 p.v G) (nh.ext) ?_ ?_
  ·intro ρ1 w1 hj hR
   exact let ⟨g, u, e1, e2⟩ := hR.1; fW rfl (dK e1) ⟨Below.refl _ _, g, u, rfl, e2⟩
  refine bW (i := 5) (jJ w11.heap.size 0 p.v G) (jJ.ext) ?_ ?_
  ·intro ρ1 w1 hj hR
   exact let ⟨g, u, e1, e2⟩ := hR.1; fW rfl (eh (vs := [_, _]) e1 rfl) ⟨Below.refl _ _, g, u, rfl, e2⟩
  refine bW (i := 6) (Is (.int .i64 0)) (Is.ext) ?_ ?_
  ·intro ρ1 w1 hj hR
   exact let ⟨g, u, e1, e2⟩ := hR.1; fW rfl (eh (vs := [_, _]) e1 rfl) ⟨Below.refl _ _, rfl⟩
  refine bW (i := 7) (dr _ 31 _) dr.ext (fun ρ1 w1 hj hR => hG aD.out hj.bl (fun v w2 h hb => ⟨hb, h⟩)) ?_
  refine bp ?_
  intro f W hJ hV _
  have hb_4 := hJ.bl
  obtain ⟨v7, v22, v21, v16, v20, v19, v18, v17, _⟩ := hV
  obtain ⟨g20, u20, e20, -⟩ := v20
  obtain ⟨g16, u16, e16, -⟩ := v16
  obtain ⟨g21, u21, e21, o21, q21, h21⟩ := v21
  obtain ⟨b7, e7, hl7, hc7⟩ : dr _ _ _ (f 7) W := v7
  replace hh := hJ.nY hh hl7 hc7 q21 h21 (PX.ne h21 hc7 (by decide))
  refine a6 (bu (ai e7 (ai v22 (ai e21 (ai e16 (ai e20 (ai v19 (ai v18 (ai v17 a5))))))))) ?_
  dsimp only [cC]
  clear e20 e16 e21 e7 hJ
  simp only [List.cons_append, List.nil_append] at hh
  obtain ⟨gv, gA, gn, gc, gts⟩ := g21
  obtain rfl : p.v = gv := o21.v.symm
  obtain rfl : G = gts := o21.ts.symm
  replace hh := show Hp w (_ :: .row gA gn gc 58 4 (a8 TR.cells G) :: _) W from hh
  have hgn : G.length = gn := (hh.aM (i := 1) rfl).bV TR.len (by decide)
  have hgc : gn ≤ gc := hh.g9 (i := 1) rfl
  by_cases hb : n < 0 ∨ 127 < n
  ·rw [if_pos hb]
   by_cases hneg : n < 0
   ·refine bL hh 0 [_,_] ?_
    intro ws hh
    replace hh : Hp _ (.blk _ _ [_, _] _ :: _) _ := hh
    refine aI (ah (aj (sr (mI ?_))))
    refine aV (mB ?_)
    first | refine gS ?_ | (refine gT ?_; refine mI ?_) | refine gV ?_
    first | refine gS ?_ | (refine gT ?_; refine cb ?_) | refine gV ?_
    first | refine cU ?_ | refine cV ?_
    refine ah (cT (sr ?_))
    refine eD [_,_] ?_
    refine bL hh 2 [_,_] ?_
    intro ws hh
    replace hh : Hp _ (_ :: _ :: .blk _ _ [_, _] _ :: _) _ := hh
    refine aI (ah (aq (aJ ?_)))
    refine kL (aQ rfl (aP (vs := [_, _]) aD.out (hh.ax (i := 2) (n := 2) rfl rfl) rfl) (ct (db rfl) bh)) ?_
    exact ⟨PX.nil, dk.err (by decide), rfl, (hh.sub (List.nil_sublist _)).iC⟩
   ·refine bL hh 0 [_,_] ?_
    intro ws hh
    replace hh : Hp _ (.blk _ _ [_, _] _ :: _) _ := hh
    refine aI (ah (aj (sr (mI ?_))))
    refine aV (mB ?_)
    first | refine gS ?_ | (refine gT ?_; refine mI ?_) | refine gV ?_
    first | refine gS ?_ | (refine gT ?_; refine cb ?_) | refine gV ?_
    first | refine cU ?_ | refine cV ?_
    refine ah (cT (sr ?_))
    refine eD [_,_] ?_
    refine bL hh 2 [_,_] ?_
    intro ws hh
    replace hh : Hp _ (_ :: _ :: .blk _ _ [_, _] _ :: _) _ := hh
    refine aI (ah (aq (aJ ?_)))
    refine kL (aQ rfl (aP (vs := [_, _]) aD.out (hh.ax (i := 2) (n := 2) rfl rfl) rfl) (ct (db rfl) bh)) ?_
    exact ⟨PX.nil, dk.err (by decide), rfl, (hh.sub (List.nil_sublist _)).iC⟩
  ·rw [if_neg hb]
   refine bL hh 0 [_,_] ?_
   intro ws hh
   replace hh : Hp _ (.blk _ _ [_, _] _ :: _) _ := hh
   refine aI (ah (aj (sr (mI ?_))))
   refine aV (mB ?_)
   first | refine gS ?_ | (refine gT ?_; refine mI ?_) | refine gV ?_
   first | refine gS ?_ | (refine gT ?_; refine cb ?_) | refine gV ?_
   first | refine cU ?_ | refine cV ?_
   refine ah (cF (ao (ak (aj (sr (aI (ah (ar ?_))))))))
   have hnn : n = (n.toNat : Int) := by omega
   have hn4 : n.toNat ≤ 4 := by omega
   generalize n.toNat = m at *
   subst hnn
   replace hh := hh.perm (List.perm_middle (l₁ := [_]))
   simp only [List.cons_append, List.nil_append] at hh
   refine cE [8, 9, 30, 31, 32, 33, 34, 35, 36, 37, 38, 39, 40, 41, 42, 43, 44] 8 9
    (fun e x w' => ∃ (i : Nat) (g : PX), i ≤ m ∧ x = .int .i64 i ∧ e = .int .i64 (jI p i).2 ∧ dk (jI p i).2 p.v (jI p i).1 g ∧ ((jI p i).2 = 0 → g.oJ (2000 + i * 67536)) ∧ Hp w [.row g.A g.n g.c 58 4 (a8 TR.cells g.ts), .blk b7 31 [.int .i64 g.v, .slice g.A g.n g.c] (0, 0), .blk b4 31 [.int .i64 0, .slice none 0 0] (0, 0), .blk b2 31 [.int .i64 p.v, .slice p.A p.n p.c] (0, 0)] w')
    (fun _ x _ => m - (intOf x).toNat) ?_ ?_
   ·refine ⟨0, ⟨p.v, gA, gn, gc, G⟩, Nat.zero_le _, rfl, by rw [hpw]; rfl, by rw [hpw]; exact ⟨rfl, rfl⟩, fun _ => ⟨?_, hgc, hgo, hgz⟩, hh⟩
    show gn ≤ 1000000
    have : G.length ≤ 1 := hg1
    omega
   ·clear hh
    rintro ρ' e_ x_ w' ⟨i, g, hi, rfl, rfl, og, hgl, hh⟩
    have hnx := oe p i
    have hst := fun h => nO (p := p) (i := i) h hi
    generalize hpi : jI p i = a at *
    obtain ⟨av, ae⟩ := a
    by_cases hlt : i < m
    ·by_cases h0 : ae = 0
     ·subst h0
      rw [show ef (av, 0) p = (a3 (du av p.ts), gx av p.ts) from if_pos rfl] at hnx
      have hgv : g.v = p.v := og.v
      have hgt : g.ts = av := og.ts
      have hlim := hgl rfl
      have hti := fun h => oK hlim.ok lp.ok lp.sz h (by omega)
      refine aj (sr (mI (mI ?_)))
      refine aV (mB ?_)
      first | refine gS ?_ | (refine gT ?_; refine mI ?_) | refine gV ?_
      first | refine gS ?_ | (refine gT ?_; refine ea ?_) | refine gV ?_
      first | refine cU ?_ | refine cV ?_
      refine ah (cT (ao (ak (aj (ar (aw ?_))))))
      refine dp hh 1 [_,_] ?_
      refine dp hh 3 [_,_] ?_
      refine aN (ka g p (2000 + i * 67536) k _ (hT.hp hh) (hh.aM (i := 0) rfl) (hp.ext hh.below) hlim lp (by omega)) au.out rfl (by decide) ?_
      rintro e_ w42 ⟨h, oh, rfl, h3⟩
      refine ⟨_, rfl, ?_⟩
      replace hh := hh.join h3
      simp only [List.cons_append, List.nil_append] at hh
      obtain ⟨hv, hA, hn2, hc2, hts2⟩ := h
      replace hh := show Hp w (.row hA hn2 hc2 58 4 (a8 TR.cells hts2) :: _) w42 from hh
      have hhn : hts2.length = hn2 := (hh.aM (i := 0) rfl).bV TR.len (by decide)
      have hhc : hn2 ≤ hc2 := hh.g9 (i := 0) rfl
      refine mT ?_
      refine dw ?_
      refine dw ?_
      refine bL hh 2 [_,_] ?_
      intro ws hh
      replace hh : Hp _ (_ :: _ :: .blk _ _ [_, _] _ :: _) _ := hh
      refine aI (aE (aW (ak (aw (mI ?_)))))
      refine bJ (aI (aE (ak ?_)))
      replace hh := hh.sub (List.Sublist.cons_cons _ (List.Sublist.cons _ (List.Sublist.cons_cons _ (List.Sublist.cons_cons _ (List.Sublist.cons_cons _ List.Sublist.slnil)))))
      rw [hgt, hgv] at oh
      rw [hgt] at hti
      refine ⟨⟨i + 1, ⟨hv, hA, hn2, hc2, hts2⟩, by omega, rfl, by rw [hnx, hgt]; rfl, by rw [hnx]; exact oh, fun h => ?_, hh⟩, by show m - (i + 1) < m - i; omega, ?_⟩
      ·rw [hnx] at h
       have htl := hti h
       have he : hts2 = a3 (du av p.ts) := by have := oh.ts; rwa [if_pos h] at this
       subst he
       have h4 := (lN h).2.2
       exact ⟨by show hn2 ≤ 1000000; omega, hhc, htl.1.mono (by omega), htl.2⟩
      ·(repeat (first | exact az _ _ _ | refine aC rfl ?_ | refine ay rfl ?_))
     ·rw [hst h0]
      refine aj (sr (mI (mI ?_)))
      refine aV (mB ?_)
      first | refine gS ?_ | (refine gT ?_; refine mI ?_) | refine gV ?_
      first | refine gS ?_ | (refine gT ?_; refine ea ?_) | refine gV ?_
      first | refine cU ?_ | refine cV ?_
      refine ah (cF ?_)
      refine aX ?_
      refine aA (aA (bj (ak (sr ?_))))
      refine dp hh 1 [_,_] (mI ?_)
      refine bL hh 2 [_,_] ?_
      intro ws hh
      replace hh : Hp _ (_ :: _ :: .blk _ _ [_, _] _ :: _) _ := hh
      refine aI (ah (aq ?_))
      refine kL (aQ rfl (aP (vs := [_, _]) aD.out (hh.ax (i := 2) (n := 2) rfl rfl) rfl) (ct (db rfl) bh)) ?_
      exact ⟨g, og, rfl, hh.sub (List.Sublist.cons_cons _ (List.nil_sublist _))⟩
    ·obtain rfl : i = m := by omega
     rw [hpi]
     refine aj (sr (mI (mI ?_)))
     refine aV (mB ?_)
     first | refine gS ?_ | (refine gT ?_; refine mI ?_) | refine gV ?_
     first | refine gS ?_ | (refine gT ?_; refine ea ?_) | refine gV ?_
     first | refine cU ?_ | refine cV ?_
     refine ah (cF ?_)
     refine aX ?_
     refine aA (aA (bj (ak (sr ?_))))
     refine dp hh 1 [_,_] (mI ?_)
     refine bL hh 2 [_,_] ?_
     intro ws hh
     replace hh : Hp _ (_ :: _ :: .blk _ _ [_, _] _ :: _) _ := hh
     refine aI (ah (aq ?_))
     refine kL (aQ rfl (aP (vs := [_, _]) aD.out (hh.ax (i := 2) (n := 2) rfl rfl) rfl) (ct (db rfl) bh)) ?_
     exact ⟨g, og, rfl, hh.sub (List.Sublist.cons_cons _ (List.nil_sublist _))⟩
 ·rw [if_neg h0]
  refine al (N := 47) (l := [.agg #[.int .i64 p.v, .slice p.A p.n p.c], .int .i64 n]) Tryz.func35 rfl rfl (by simp) ?_
  refine sr ?_
  refine df hh [_,_] ?_
  intro b2 w2 hh
  refine cx hh ?_
  intro b4 w4 hh
  refine aI (ah (aj (sr ?_)))
  refine dp hh 1 [_,_] ?_
  refine bC hh (hck _ (hT.hp hh) hh.below) rfl ?_
  intro w11 hh
  refine aI (ah (sr (mI ?_)))
  refine er (ah (cT (sr ?_)))
  refine eD [_,_] (mI ?_)
  refine bL hh 0 [_,_] ?_
  intro ws hh
  replace hh : Hp _ (.blk _ _ [_, _] _ :: _) _ := hh
  refine aI (ah (aq (aJ ?_)))
  refine kL (aQ rfl (aP (vs := [_, _]) aD.out (hh.ax (i := 0) (n := 2) rfl rfl) rfl) (ct (db rfl) bh)) ?_
  exact ⟨PX.nil, dk.err h0, rfl, (hh.sub (List.nil_sublist _)).iC⟩
end Go.Proofs.YtkgdagjklakajaaGreatDoor
/- The walks through ogeeref08.Mul and Pow. -/
namespace Go.Proofs.YtkgdagjklakajaaGreatDoor
open Go.RowKit
def z7 (ps : List PX) (R : List HE) (g : PX) : Prop := (g ∈ ps ∧ R = []) ∨ R = [g.row]
end Go.Proofs.YtkgdagjklakajaaGreatDoor
/- The walk through poly.Degs. -/
namespace Go.Proofs.YtkgdagjklakajaaGreatDoor
open Go.RowKit
def sW (s : ByteArray) (i : Nat) : Int := match s.data.toList[i]? with | some c => c.toNat | none => 0
def wm (l : List TR) (i : Nat) : Int := l.foldl (fun m t => max m (sW t.m i)) 0
def iW (m : Nat) (l : List TR) : List Int := (List.range m).map (wm l)
def yv (v : Int) (ts : List TR) : List Int := if gB v ts = 0 then iW v.toNat ts else []
theorem fM (m : Nat) (l : List TR) : (iW m l).length = m := by unfold iW; rw [List.length_map, List.length_range]
theorem pC {m j : Nat} (l : List TR) (h : j < m) : (iW m l)[j]? = some (wm l j) := by
 unfold iW
 rw [List.getElem?_map, List.getElem?_range h]
 rfl
theorem vi (l : List TR) (t : TR) (i : Nat) : wm (l ++ [t]) i = max (wm l i) (sW t.m i) := by unfold wm; rw [List.foldl_append]; rfl
theorem uO {s : ByteArray} {i : Nat} {c : UInt8} (h : s.data.toList[i]? = some c) : sW s i = c.toNat := by unfold sW; rw [h]
theorem xo {α : Type} {A B : List α} {j : Nat} {y : α} (h : A.length = B.length) (hy : B[j]? = some y) : (B.take j ++ A.drop j).set j y = B.take (j + 1) ++ A.drop (j + 1) := by
 have hj := (List.getElem?_eq_some_iff.1 hy).1
 have hl : (B.take j).length = j := by rw [List.length_take]; omega
 obtain ⟨x, hx⟩ := aH (l := A) (k := j) (by omega)
 rw [ic hx, aT hy, List.set_append_right _ _ (by omega), hl, Nat.sub_self]
 simp
theorem wO {α : Type} {A B : List α} {j : Nat} {x : α} (h : A.length = B.length) (hx : A[j]? = some x) : (B.take j ++ A.drop j)[j]? = some x := by
 have hj := (List.getElem?_eq_some_iff.1 hx).1
 have hl : (B.take j).length = j := by rw [List.length_take]; omega
 rw [List.getElem?_append_right (by omega), hl, Nat.sub_self, List.getElem?_drop, Nat.add_zero, hx]
theorem uK (m : Nat) : eY m [.int .i64 0] = eo (iW m []) := by
 have h1 : ∀ n, eY n [.int .i64 0] = eo (List.replicate n 0) := fun n => by
  induction n with
  | zero => rfl
  | succ n ih => rw [eY, ih, List.replicate_succ]; rfl
 rw [h1]
 congr 1
 apply List.ext_getElem?
 intro i
 by_cases h : i < m
 ·rw [pC [] h, List.getElem?_replicate, if_pos h]
  rfl
 ·rw [List.getElem?_eq_none (by rw [List.length_replicate]; omega), List.getElem?_eq_none (by rw [fM]; omega)]
theorem q6 (p : PX) (k : Nat) (w : World) (hT : fS w) (hp : p.at_ w) (lp : p.oJ k) :
  Calls Tryz.prog 24 #[.agg #[.int .i64 p.v, .slice p.A p.n p.c]] w fun r w' => ∃ A c, r = .returned (.slice A (yv p.v p.ts).length c) ∧ Hp w [.row A (yv p.v p.ts).length c 3 1 (eo (yv p.v p.ts))] w' := by
 have hh := Hp.start w
 have hck := fun w1 hT1 hb => lM p k w1 hT1 (hp.ext hb) lp
 by_cases h0 : p.e = 0
 ·rw [show yv p.v p.ts = iW p.v.toNat p.ts from if_pos h0, fM]
  rw [h0] at hck
  obtain ⟨hf, h4, hmy, _⟩ := eV h0
  have hpl : p.ts.length = p.n := hp.ln
  obtain ⟨pv, pA, pn, pc, ts⟩ := p
  replace hf := j0.1 hf
  replace hmy : ∀ t ∈ ts, fu pv t = true := hmy
  replace hp : Sl w pA pn 4 (a8 TR.cells ts) := hp
  have hsz : ∀ t ∈ ts, t.m.size ≤ 100000 := lp.sz
  have hn := lp.n
  replace hn : pn ≤ 1000000 := hn
  replace hpl : ts.length = pn := hpl
  obtain ⟨m, rfl⟩ : ∃ m : Nat, pv = (m : Int) := ⟨pv.toNat, by show pv = _; have : 0 ≤ pv := hf.1; omega⟩
  replace hf : m ≤ 12 := by have h9 : (m : Int) ≤ 12 := hf.2; omega
  show Calls _ _ _ _ fun r w' => ∃ A c, r = .returned (.slice A m c) ∧ Hp w [.row A m c 3 1 (eo (iW m ts))] w'
  refine al (N := 42) (l := [.agg #[.int .i64 m, .slice pA pn pc]]) Tryz.func24 rfl rfl (by simp) ?_
  refine sr ?_
  refine df hh [_,_] ?_
  intro b1 w1 hh
  refine aL (ah (aj (sr ?_)))
  refine dp hh 0 [_,_] ?_
  refine bC hh (hck _ (hT.hp hh) hh.below) rfl ?_
  intro w9 hh
  refine er (ah (cF (ao (ak (sr (bG ?_))))))
  refine bI hh 0 ?_
  refine fv (n := m) hh rfl rfl (by omega) (by omega) aG.out aD.out rfl (by omega) (by omega) (by decide) ?_
  intro b13 w13 hh
  refine aL (ah (aj (sr (bG ?_))))
  refine bI hh 1 ?_
  refine a0 (mI (ah (ar ?_)))
  rw [uK] at hh
  refine bA [5, 6, 7, 17, 18, 19, 20, 21, 22, 23, 24, 25, 26, 27, 28, 29, 30, 31, 32, 33, 34, 35, 36, 37, 38, 39, 40] 17
   (fun v w' => ∃ i : Nat, i ≤ pn ∧ v = .int .i64 i ∧ Hp w [.row (some ⟨b13, 0, none⟩) m m 3 1 (eo (iW m (ts.take i))), .blk b1 31 [.int .i64 m, .slice pA pn pc] (0, 0)] w')
   (fun v _ => pn - (intOf v).toNat) ?_ ?_
  ·exact ⟨0, Nat.zero_le _, rfl, hh⟩
  ·clear hh
   rintro ρ' v w' ⟨i, hi, rfl, hh⟩
   by_cases hlt : i < pn
   ·obtain ⟨x, hx⟩ := aH (l := ts) (k := i) (by omega)
    obtain ⟨ad, rfl, hr⟩ := hp.at_ (by omega)
    have hxm := List.mem_of_getElem? hx
    have hxs := hsz x hxm
    have hmx := Bool.and_eq_true_iff.1 (hmy x hxm)
    have hxz : x.m.size = m := by have := of_decide_eq_true hmx.2; omega
    have hxl : x.m.data.toList.length = m := by rw [← dE]; exact hxz
    have hex : gg x.m.data.toList = ints x.m.data.toList := jg hmx.1
    have hel : (gg x.m.data.toList).length = m := by rw [hex, cL]; exact hxl
    have hBl : (iW m (ts.take i)).length = (iW m (ts.take (i + 1))).length := by rw [fM, fM]
    refine sr ?_
    refine aV (ah (aj (cT (ao (ak (aj (ar (sr ?_))))))))
    refine aY (k := i) aG.out aD.size rfl rfl (by omega) (by omega) (by decide) ?_
    refine bS (vs := [_, _, _, _]) aD.out rfl ((hr.ext hh.below).recAt TR.len hx) rfl (by decide) ?_
    refine cx hh ?_
    intro b5 w5 hh
    refine bL hh 0 [_,_,_,_] ?_
    intro ws hh
    replace hh : Hp _ (.blk _ _ [_, _, _, _] _ :: _) _ := hh
    refine ah (sr (bG ?_))
    refine bI hh 0 ?_
    refine aN (gk x.m _ hxs) au.out rfl (by decide) ?_
    rintro e_ w23 ⟨A23, c23, rfl, hown_, hb_⟩
    refine ⟨_, rfl, ?_⟩
    replace hh := hh.a7 (x := .row _ _ _ _ _ _) hb_ hown_
    rw [hel] at hh ⊢
    refine a0 (mI (ah (ar ?_)))
    refine bA [6, 7, 25, 26, 27, 28, 29, 30, 31, 32, 33, 34, 35, 36, 37, 38, 39] 25
     (fun v w' => ∃ j : Nat, j ≤ m ∧ v = .int .i64 j ∧ Hp w [.row A23 m c23 3 1 (eo (gg x.m.data.toList)), .blk b5 58 [.string x.m, .bool x.c.neg, .string x.c.cq, .int .i64 x.c.e] (0, 0), .row (some ⟨b13, 0, none⟩) m m 3 1 (eo ((iW m (ts.take (i + 1))).take j ++ (iW m (ts.take i)).drop j)), .blk b1 31 [.int .i64 m, .slice (some ad) pn pc] (0, 0)] w')
     (fun v _ => m - (intOf v).toNat) ?_ ?_
    ·exact ⟨0, Nat.zero_le _, rfl, hh⟩
    ·clear hh
     rintro ρ2 v w2 ⟨j, hj, rfl, hh⟩
     by_cases hjn : j < m
     ·obtain ⟨e, he⟩ := aH (l := x.m.data.toList) (k := j) (by omega)
      have hee : (gg x.m.data.toList)[j]? = some (e.toNat : Int) := by rw [hex]; exact xv he
      have ho := wO hBl (pC (ts.take i) hjn)
      have hset := xo hBl (pC (ts.take (i + 1)) hjn)
      have hmx2 : wm (ts.take (i + 1)) j = max (wm (ts.take i) j) (e.toNat : Int) := by rw [aT hx, vi, uO he]
      rw [hmx2] at hset
      have hol : ((iW m (ts.take (i + 1))).take j ++ (iW m (ts.take i)).drop j).length = m := by rw [List.length_append, List.length_take, List.length_drop, fM, fM]; omega
      generalize (iW m (ts.take (i + 1))).take j ++ (iW m (ts.take i)).drop j = M at *
      have hee2 := eW hee
      have ho2 := eW ho
      have hll : (eo M).length = m := by rw [ez]; exact hol
      obtain ⟨g, rfl⟩ := hh.gf (i := 0) rfl (by omega)
      refine sr ?_
      refine aV (ah (aj (cT (ao (ak (aj (ar (sr (mI ?_)))))))))
      refine bg (k := j) aG.out aD.size rfl rfl (by omega) (by omega) (by decide) ?_
      refine bE aD.out rfl (hh.cd (i := 0) rfl (by first | assumption | (simp only [Nat.mul_one]; assumption))) (by decide) ?_
      refine aI (aI (ah (aw (mL (mI (mL (mI ?_)))))))
      refine bg (k := j) aG.out aD.size rfl rfl (by omega) (by omega) (by decide) ?_
      refine bE aD.out rfl (hh.cd (i := 2) rfl (by first | assumption | (simp only [Nat.mul_one]; assumption))) (by decide) ?_
      refine mI ?_
      refine iU rfl rfl (by decide) ?_
      refine bg aG.out aD.size rfl rfl rfl (by omega) (by decide) ?_
      have hmv : (if (e.toNat : Int) > wm (ts.take i) j then (e.toNat : Int) else wm (ts.take i) j) = max (wm (ts.take i) j) (e.toNat : Int) := by split <;> omega
      refine bo hh (i := 2) (vs := [_]) rfl rfl (bB rfl) rfl aD.out rfl (by omega) rfl ?_
      intro ws hh
      simp only [List.set_cons_zero, List.set_cons_succ] at hh
      rw [hmv, pV _ (by rw [← ez]; omega), hset] at hh
      refine aE (aW (ak (aw ?_)))
      refine bJ (mI (aE (ak ?_)))
      refine ⟨⟨j + 1, by omega, rfl, hh⟩, by show m - (j + 1) < m - j; omega, ?_⟩
      (repeat (first | exact az _ _ _ | refine aC rfl ?_ | refine ay rfl ?_))
     ·obtain rfl : j = m := by omega
      rw [List.take_of_length_le (by rw [fM]; omega), List.drop_of_length_le (by rw [fM]; omega), List.append_nil] at hh
      refine sr ?_
      refine aV (ah (aj (cF ?_)))
      refine aX ?_
      refine aA (aA (bj (aW (ak (aw ?_)))))
      refine bJ (mI (aE (ak ?_)))
      replace hh := hh.sub (List.Sublist.cons _ (List.Sublist.cons _ (List.Sublist.cons_cons _ (List.Sublist.cons_cons _ List.Sublist.slnil))))
      refine ⟨⟨i + 1, by omega, rfl, hh⟩, by show pn - (i + 1) < pn - i; omega, ?_⟩
      (repeat (first | exact az _ _ _ | refine aC rfl ?_ | refine ay rfl ?_))
   ·obtain rfl : i = pn := by omega
    rw [List.take_of_length_le (by omega)] at hh
    refine sr ?_
    refine aV (ah (aj (cF ?_)))
    refine aX ?_
    refine aA (aA (bj (ak (sr (mL (aL (ah (aq ?_))))))))
    refine cf ?_
    exact ⟨_, _, rfl, hh.sub (List.Sublist.cons_cons _ (List.nil_sublist _))⟩
 ·rw [show yv p.v p.ts = [] from if_neg h0]
  refine al (N := 42) (l := [.agg #[.int .i64 p.v, .slice p.A p.n p.c]]) Tryz.func24 rfl rfl (by simp) ?_
  refine sr ?_
  refine df hh [_,_] ?_
  intro b1 w1 hh
  refine aL (ah (aj (sr ?_)))
  refine dp hh 0 [_,_] ?_
  refine bC hh (hck _ (hT.hp hh) hh.below) rfl ?_
  intro w9 hh
  refine er (ah (cT (sr (aL (ah (aq (aJ ?_)))))))
  refine cf ?_
  exact ⟨none, 0, rfl, (hh.sub (List.nil_sublist _)).eU 3 1⟩
end Go.Proofs.YtkgdagjklakajaaGreatDoor
/- The walks through ogeeref08.Degs and Own. -/
namespace Go.Proofs.YtkgdagjklakajaaGreatDoor
open Go.RowKit
end Go.Proofs.YtkgdagjklakajaaGreatDoor
/- The walks through ogeeref08.Terms and Same. -/
namespace Go.Proofs.YtkgdagjklakajaaGreatDoor
open Go.RowKit
theorem xD (n : Nat) (m m' : ByteArray) (s s' : Bool) (a a' : ByteArray) (e e' : Int) (w : World) : (Op.equalIn (n + 4) 58 (.agg #[.string m, .bool s, .string a, .int .i64 e]) (.agg #[.string m', .bool s', .string a', .int .i64 e'])).run Tryz.prog w = .ok (m == m' && ((s == s' && a == a') && e == e')) w := by
 have h1 := fun (u : ByteArray) (x : Bool) (y : ByteArray) (z : Int) => tB (P := Tryz.prog) (cs := #[.string u, .bool x, .string y, .int .i64 z]) (off := 0) (aD.out (P := Tryz.prog) (t := 9)) rfl
 have h2 := fun (u : ByteArray) (x : Bool) (y : ByteArray) (z : Int) => x4 (P := Tryz.prog) (cs := #[.string u, .bool x, .string y, .int .i64 z]) (vs := #[.bool x, .string y, .int .i64 z]) (off := 1) (aD.out (P := Tryz.prog) (t := 26)) rfl
 rw [Op.equalIn]
 simp [run_underlying Tryz.underlying58, h1, h2, y9, rK]
 cases h : m == m' <;> cases h' : ((s == s' && a == a') && e == e') <;> simp_all
theorem qf {x y : TR} : (x.m == y.m && ((x.c.neg == y.c.neg && x.c.cq == y.c.cq) && x.c.e == y.c.e)) = true ↔ x = y := by
 obtain ⟨m, s, a, e⟩ := x
 obtain ⟨m', s', a', e'⟩ := y
 rw [Bool.and_eq_true, kv, u3, TR.mk.injEq]
section
variable {ρ : Rf} {w : World} {d : Option Nat} {ty u : TypeId} {pos : String} {af : Array Edge} {g : Option (Nat × Bool)} {x y : Operand} {s t : TR}
theorem yg {r : Bool} (hx : ev ρ x = .agg s.cells.toArray) (hy : ev ρ y = .agg t.cells.toArray) (hr : (s.m == t.m && ((s.c.neg == t.c.neg && s.c.cq == t.c.cq) && s.c.e == t.c.e)) = r) :
  (execOp (ev ρ) ⟨d, .binOp .neq 58 x y u, ty, pos, af, g⟩).run Tryz.prog w = .ok (.value (.bool !r)) w := by
 have h1 : (Op.equal 58 (.agg s.cells.toArray) (.agg t.cells.toArray)).run Tryz.prog w = .ok r w := by rw [← hr]; exact xD 9996 s.m t.m s.c.neg t.c.neg s.c.cq t.c.cq s.c.e t.c.e w
 simp only [execOp, hx, hy]
 simp [eqGuard, binOp, h1]
theorem sX (hx : ev ρ x = .agg s.cells.toArray) (hy : ev ρ y = .agg t.cells.toArray) (h : s = t) :
  (execOp (ev ρ) ⟨d, .binOp .neq 58 x y u, ty, pos, af, g⟩).run Tryz.prog w = .ok (.value (.bool false)) w := yg hx hy (qf.2 h)
theorem tp (hx : ev ρ x = .agg s.cells.toArray) (hy : ev ρ y = .agg t.cells.toArray) (h : ¬ s = t) :
  (execOp (ev ρ) ⟨d, .binOp .neq 58 x y u, ty, pos, af, g⟩).run Tryz.prog w = .ok (.value (.bool true)) w := yg hx hy (r := false) (Bool.eq_false_iff.2 fun h1 => h (qf.1 h1))
end
theorem td {α : Type} {a b : List α} {i : Nat} (ha : a.length ≤ i) (hb : b.length ≤ i) (h : a.take i = b.take i) : a = b := by
 rwa [List.take_of_length_le ha, List.take_of_length_le hb] at h
theorem ku (A : Option Addr) (n c : Nat) (a : List TR) (B : Option Addr) (m d : Nat) (b : List TR) (w : World) (hS : Sl w A n 4 (a8 TR.cells a)) (hS2 : Sl w B m 4 (a8 TR.cells b)) (hn : n ≤ 1000000) (hm : m ≤ 1000000) :
  Calls Tryz.prog 30 #[.slice A n c, .slice B m d] w fun r w' => ∃ v, r = .returned (.bool v) ∧ (v = true ↔ a = b) ∧ Below w.heap.size w w' := by
 have hh := Hp.start w
 have hla := hS.bV TR.len (by decide)
 have hlb := hS2.bV TR.len (by decide)
 by_cases hnm : n = m
 ·subst hnm
  refine al (N := 26) (l := [.slice A n c, .slice B n d]) Tryz.func30 rfl rfl (by simp) ?_
  refine sr (aB (ah (aj (sr (mL (a0 (mL (a0 ?_))))))))
  refine er (ah (cF (ao (ak (aj (sr (aI (ah (ar ?_)))))))))
  refine bA [4, 5, 11, 12, 13, 14, 15, 16, 17, 18, 19, 20, 21, 22, 23, 24, 25] 5
   (fun v w' => ∃ i : Nat, i ≤ n ∧ v = .int .i64 i ∧ a.take i = b.take i ∧ Hp w [] w')
   (fun v _ => n - (intOf v).toNat) ?_ ?_
  ·exact ⟨0, Nat.zero_le _, rfl, rfl, hh⟩
  ·clear hh
   rintro ρ' v w' ⟨i, hi, rfl, he, hh⟩
   by_cases hlt : i < n
   ·obtain ⟨s, hs⟩ := aH (l := a) (k := i) (by omega)
    obtain ⟨t, ht⟩ := aH (l := b) (k := i) (by omega)
    obtain ⟨ad, rfl, hr⟩ := hS.at_ (by omega)
    obtain ⟨ad2, rfl, hr2⟩ := hS2.at_ (by omega)
    by_cases hst : s = t
    ·refine aj (sr (mI (mL (a0 ?_))))
     refine aV (ah (cT (ao (ak (aj (ar (aj ?_)))))))
     refine a4 8 [[(0, none)], [(5, none)], [(17, some 0), (18, some 1)], [(19, some 2)], [(1, none)], [(5, none)], [(21, some 4), (22, some 5)], [(23, some 6)]] [(7, 24), (6, 23), (5, 22), (4, 21), (3, 20), (2, 19), (1, 18), (0, 17)] hh mixed (by kernel_rfl) ?_
     refine gE ?_
     refine eG ?_
     refine jV (i) ?_
     refine rq [_,_,_,_] (fun _ hj => (hr.ext hj.hp.below).recAt TR.len hs) ?_
     refine gE ?_
     refine eG ?_
     refine jV (i) ?_
     refine rq [_,_,_,_] (fun _ hj => (hr2.ext hj.hp.below).recAt TR.len ht) ?_
     refine bp ?_
     intro f W hJ hV
     have hb_6 := hJ.bl
     obtain ⟨v24, v23, v22, v21, v20, v19, v18, v17, _⟩ := hV
     replace hh := hJ.hp
     refine a6 (bu (ai v24 (ai v23 (ai v22 (ai v21 (ai v20 (ai v19 (ai v18 (ai v17 a5))))))))) ?_
     dsimp only [cC]
     clear hJ
     refine aU rfl rfl (by decide) (sX (s := s) (t := t) rfl rfl hst) ?_
     skip
     refine ah (cF (ao (aW (ak (aw (mI ?_))))))
     refine bJ (aI (aE (ak ?_)))
     refine ⟨⟨i + 1, by omega, rfl, by rw [aT hs, aT ht, he, hst], hh⟩, by show n - (i + 1) < n - i; omega, ?_⟩
     (repeat (first | exact az _ _ _ | refine aC rfl ?_ | refine ay rfl ?_))
    ·refine aj (sr (mI (mL (a0 ?_))))
     refine aV (ah (cT (ao (ak (aj (ar (aj ?_)))))))
     refine a4 8 [[(0, none)], [(5, none)], [(17, some 0), (18, some 1)], [(19, some 2)], [(1, none)], [(5, none)], [(21, some 4), (22, some 5)], [(23, some 6)]] [(7, 24), (6, 23), (5, 22), (4, 21), (3, 20), (2, 19), (1, 18), (0, 17)] hh mixed (by kernel_rfl) ?_
     refine gE ?_
     refine eG ?_
     refine jV (i) ?_
     refine rq [_,_,_,_] (fun _ hj => (hr.ext hj.hp.below).recAt TR.len hs) ?_
     refine gE ?_
     refine eG ?_
     refine jV (i) ?_
     refine rq [_,_,_,_] (fun _ hj => (hr2.ext hj.hp.below).recAt TR.len ht) ?_
     refine bp ?_
     intro f W hJ hV
     have hb_6 := hJ.bl
     obtain ⟨v24, v23, v22, v21, v20, v19, v18, v17, _⟩ := hV
     replace hh := hJ.hp
     refine a6 (bu (ai v24 (ai v23 (ai v22 (ai v21 (ai v20 (ai v19 (ai v18 (ai v17 a5))))))))) ?_
     dsimp only [cC]
     clear hJ
     refine aU rfl rfl (by decide) (tp (s := s) (t := t) rfl rfl hst) ?_
     skip
     refine ah (cT (sr (aB (ah (aq (bO (aJ (aJ (bO (aJ ?_))))))))))
     refine cf ?_
     refine ⟨_, rfl, ⟨fun h => (nomatch h), fun h => absurd ?_ hst⟩, hh.below⟩
     rw [h, ht] at hs
     exact (Option.some.inj hs).symm
   ·refine aj (sr (mI (mL (a0 ?_))))
    refine aV (ah (cF ?_))
    refine aX ?_
    refine aA (aA (bj (ak (sr (aB (ah (aq ?_)))))))
    refine cf ?_
    exact ⟨_, rfl, ⟨fun _ => td (by omega) (by omega) he, fun _ => rfl⟩, hh.below⟩
 ·refine al (N := 26) (l := [.slice A n c, .slice B m d]) Tryz.func30 rfl rfl (by simp) ?_
  refine sr (aB (ah (aj (sr (mL (a0 (mL (a0 ?_))))))))
  refine er (ah (cT (sr (aB (ah (aq (aJ ?_)))))))
  refine cf ?_
  exact ⟨_, rfl, ⟨fun h => (nomatch h), fun h => absurd (by rw [← hla, ← hlb, h]) hnm⟩, hh.below⟩
theorem qq (p q : PX) (w : World) (hp : p.at_ w) (hq : q.at_ w) (hn : p.n ≤ 1000000) (hm : q.n ≤ 1000000) :
  Calls Tryz.prog 20 #[.agg #[.int .i64 p.v, .slice p.A p.n p.c], .agg #[.int .i64 q.v, .slice q.A q.n q.c]] w fun r w' => ∃ v, r = .returned (.bool v) ∧ (v = true ↔ p.v = q.v ∧ p.ts = q.ts) ∧ Below w.heap.size w w' := by
 have hh := Hp.start w
 have ht := fun w1 hb => ku p.A p.n p.c p.ts q.A q.n q.c q.ts w1 (hp.ext hb) (hq.ext hb) hn hm
 by_cases hv : p.v = q.v
 ·refine al (N := 17) (l := [.agg #[.int .i64 p.v, .slice p.A p.n p.c], .agg #[.int .i64 q.v, .slice q.A q.n q.c]]) Tryz.func20 rfl rfl (by simp) ?_
  refine sr ?_
  refine df hh [_,_] ?_
  intro b2 w2 hh
  refine df hh [_,_] ?_
  intro b3 w3 hh
  refine aB (ah (sr (bG ?_)))
  refine bI hh 1 ?_
  refine bG ?_
  refine bI hh 0 ?_
  refine ea (mB ?_)
  first | refine gS ?_ | (refine gT ?_; refine bG ?_) | refine gV ?_
  first | refine gS ?_ | (refine gT ?_; refine bI hh 1 ?_) | refine gV ?_
  first | refine gS ?_ | (refine gT ?_; refine bG ?_) | refine gV ?_
  first | refine gS ?_ | (refine gT ?_; refine bI hh 0 ?_) | refine gV ?_
  refine a9 rfl rfl ?_
  refine aN (ht _ hh.below) au.out rfl (by decide) ?_
  rintro e_ w15 ⟨v_, rfl, hv_, hb_⟩
  refine ⟨_, rfl, ?_⟩
  replace hh := hh.ext hb_
  first | refine cU ?_ | refine cV ?_
  refine aB (ah (aq ?_))
  refine cf ?_
  exact ⟨v_, rfl, hv_.trans ⟨fun h => ⟨hv, h⟩, fun h => h.2⟩, hh.below⟩
 ·refine al (N := 17) (l := [.agg #[.int .i64 p.v, .slice p.A p.n p.c], .agg #[.int .i64 q.v, .slice q.A q.n q.c]]) Tryz.func20 rfl rfl (by simp) ?_
  refine sr ?_
  refine df hh [_,_] ?_
  intro b2 w2 hh
  refine df hh [_,_] ?_
  intro b3 w3 hh
  refine aB (ah (sr (bG ?_)))
  refine bI hh 1 ?_
  refine bG ?_
  refine bI hh 0 ?_
  refine ea (mB ?_)
  first | refine gS ?_ | (refine gT ?_; refine bG ?_) | refine gV ?_
  first | refine gS ?_ | (refine gT ?_; refine bI hh 1 ?_) | refine gV ?_
  first | refine gS ?_ | (refine gT ?_; refine bG ?_) | refine gV ?_
  first | refine gS ?_ | (refine gT ?_; refine bI hh 0 ?_) | refine gV ?_
  refine bH (by decide) rfl rfl (by decide) ?_
  first | refine cU ?_ | refine cV ?_
  refine aB (ah (aq ?_))
  refine cf ?_
  exact ⟨_, rfl, ⟨fun h => (nomatch h), fun h => absurd h.1 hv⟩, hh.below⟩
end Go.Proofs.YtkgdagjklakajaaGreatDoor
/- The walks through ogeelaw08's own helpers. -/
namespace Go.Proofs.YtkgdagjklakajaaGreatDoor
open Go.RowKit
def qC (a : NR) : Bool := decide ((24 : Int) < a.cq.size ∨ a.e < -300 ∨ 300 < a.e)
theorem mC (a : NR) (w : World) :
  Calls Tryz.prog 16 #[.agg #[.bool a.neg, .string a.cq, .int .i64 a.e]] w fun r w' => r = .returned (.bool (qC a)) ∧ Below w.heap.size w w' := by
 have hh := Hp.start w
 by_cases h1 : (24 : Int) < a.cq.size
 ·refine al (N := 18) (l := [.agg #[.bool a.neg, .string a.cq, .int .i64 a.e]]) Tryz.func16 rfl rfl (by simp) ?_
  refine sr ?_
  refine df hh [_,_,_] ?_
  intro b1 w1 hh
  refine aB (ah (sr (bG (bG ?_))))
  refine bI hh 0 ?_
  refine bz aG.out rfl (by decide) ?_
  refine cb (mB ?_)
  first | refine gS ?_ | (refine gT ?_; refine bG ?_) | refine gV ?_
  first | refine gS ?_ | (refine gT ?_; refine bI hh 0 ?_) | refine gV ?_
  first | refine gS ?_ | (refine gT ?_; refine aV ?_) | refine gV ?_
  first | refine cU ?_ | refine cV ?_
  refine mB ?_
  first | refine gS ?_ | (refine gT ?_; refine bG ?_) | refine gV ?_
  first | refine gS ?_ | (refine gT ?_; refine bI hh 0 ?_) | refine gV ?_
  first | refine gS ?_ | (refine gT ?_; refine cb ?_) | refine gV ?_
  first | refine cU ?_ | refine cV ?_
  refine aB (ah (aq ?_))
  refine cf ?_
  refine ⟨?_, hh.below⟩
  unfold qC
  rw [decide_eq_true (.inl h1)]
 ·by_cases h2 : a.e < -300
  ·refine al (N := 18) (l := [.agg #[.bool a.neg, .string a.cq, .int .i64 a.e]]) Tryz.func16 rfl rfl (by simp) ?_
   refine sr ?_
   refine df hh [_,_,_] ?_
   intro b1 w1 hh
   refine aB (ah (sr (bG (bG ?_))))
   refine bI hh 0 ?_
   refine bz aG.out rfl (by decide) ?_
   refine cb (mB ?_)
   first | refine gS ?_ | (refine gT ?_; refine bG ?_) | refine gV ?_
   first | refine gS ?_ | (refine gT ?_; refine bI hh 0 ?_) | refine gV ?_
   first | refine gS ?_ | (refine gT ?_; refine aV ?_) | refine gV ?_
   first | refine cU ?_ | refine cV ?_
   refine mB ?_
   first | refine gS ?_ | (refine gT ?_; refine bG ?_) | refine gV ?_
   first | refine gS ?_ | (refine gT ?_; refine bI hh 0 ?_) | refine gV ?_
   first | refine gS ?_ | (refine gT ?_; refine cb ?_) | refine gV ?_
   first | refine cU ?_ | refine cV ?_
   refine aB (ah (aq ?_))
   refine cf ?_
   refine ⟨?_, hh.below⟩
   unfold qC
   rw [decide_eq_true (.inr (.inl h2))]
  ·by_cases h3 : 300 < a.e
   ·refine al (N := 18) (l := [.agg #[.bool a.neg, .string a.cq, .int .i64 a.e]]) Tryz.func16 rfl rfl (by simp) ?_
    refine sr ?_
    refine df hh [_,_,_] ?_
    intro b1 w1 hh
    refine aB (ah (sr (bG (bG ?_))))
    refine bI hh 0 ?_
    refine bz aG.out rfl (by decide) ?_
    refine cb (mB ?_)
    first | refine gS ?_ | (refine gT ?_; refine bG ?_) | refine gV ?_
    first | refine gS ?_ | (refine gT ?_; refine bI hh 0 ?_) | refine gV ?_
    first | refine gS ?_ | (refine gT ?_; refine aV ?_) | refine gV ?_
    first | refine cU ?_ | refine cV ?_
    refine mB ?_
    first | refine gS ?_ | (refine gT ?_; refine bG ?_) | refine gV ?_
    first | refine gS ?_ | (refine gT ?_; refine bI hh 0 ?_) | refine gV ?_
    first | refine gS ?_ | (refine gT ?_; refine cb ?_) | refine gV ?_
    first | refine cU ?_ | refine cV ?_
    refine aB (ah (aq ?_))
    refine cf ?_
    refine ⟨?_, hh.below⟩
    unfold qC
    rw [decide_eq_true (.inr (.inr h3))]
   ·refine al (N := 18) (l := [.agg #[.bool a.neg, .string a.cq, .int .i64 a.e]]) Tryz.func16 rfl rfl (by simp) ?_
    refine sr ?_
    refine df hh [_,_,_] ?_
    intro b1 w1 hh
    refine aB (ah (sr (bG (bG ?_))))
    refine bI hh 0 ?_
    refine bz aG.out rfl (by decide) ?_
    refine cb (mB ?_)
    first | refine gS ?_ | (refine gT ?_; refine bG ?_) | refine gV ?_
    first | refine gS ?_ | (refine gT ?_; refine bI hh 0 ?_) | refine gV ?_
    first | refine gS ?_ | (refine gT ?_; refine aV ?_) | refine gV ?_
    first | refine cU ?_ | refine cV ?_
    refine mB ?_
    first | refine gS ?_ | (refine gT ?_; refine bG ?_) | refine gV ?_
    first | refine gS ?_ | (refine gT ?_; refine bI hh 0 ?_) | refine gV ?_
    first | refine gS ?_ | (refine gT ?_; refine cb ?_) | refine gV ?_
    first | refine cU ?_ | refine cV ?_
    refine aB (ah (aq ?_))
    refine cf ?_
    refine ⟨?_, hh.below⟩
    unfold qC
    rw [decide_eq_false (by omega)]
theorem zz {a : NR} (h : qC a = false) : a.ok ∧ Sz 492 a.d := by
 have h' := of_decide_eq_false h
 have h1 : (a.cq.size : Int) ≤ 24 := by omega
 have h2 : -300 ≤ a.e := by omega
 have h3 : a.e ≤ 300 := by omega
 exact ⟨⟨by omega, by omega, by omega⟩, Sz.raw (m := 192) (E := 300) (by omega) h2 h3⟩
structure zh (ts : List TR) : Prop where
 n : ts.length ≤ 12
 ok : gm 492 ts
 sz : ∀ t ∈ ts, t.m.size ≤ 50
theorem lC (A : Option Addr) (n c : Nat) (ts : List TR) (w : World) (hS : Sl w A n 4 (a8 TR.cells ts)) :
  Calls Tryz.prog 15 #[.slice A n c] w fun r w' => ∃ b : Bool, r = .returned (.bool b) ∧ (b = false → zh ts) ∧ Below w.heap.size w w' := by
 have hh := Hp.start w
 have hln := hS.bV TR.len (by decide)
 by_cases h1 : 12 < n
 ·refine al (N := 28) (l := [.slice A n c]) Tryz.func15 rfl rfl (by simp) ?_
  refine sr (aB (ah (aj (sr (mL (a0 ?_))))))
  refine cb (ah (cT (sr (aB (ah (aq (aJ ?_)))))))
  refine cf ?_
  exact ⟨_, rfl, fun h => (nomatch h), hh.below⟩
 ·refine al (N := 28) (l := [.slice A n c]) Tryz.func15 rfl rfl (by simp) ?_
  refine sr (aB (ah (aj (sr (mL (a0 ?_))))))
  refine cb (ah (cF (ao (ak (aj (sr (aI (ah (ar ?_)))))))))
  refine bA [2, 3, 7, 8, 9, 10, 11, 12, 13, 14, 15, 16, 17, 18, 19, 20, 21, 22, 23, 24, 25, 26, 27] 3
   (fun v w' => ∃ i : Nat, i ≤ n ∧ v = .int .i64 i ∧ gm 492 (ts.take i) ∧ (∀ t ∈ ts.take i, t.m.size ≤ 50) ∧ Hp w [] w')
   (fun v _ => n - (intOf v).toNat) ?_ ?_
  ·exact ⟨0, Nat.zero_le _, rfl, fun t ht => (nomatch ht), fun t ht => (nomatch ht), hh⟩
  ·clear hh
   rintro ρ' v w' ⟨i, hi, rfl, hall, hsz, hh⟩
   by_cases hlt : i < n
   ·obtain ⟨x, hx⟩ := aH (l := ts) (k := i) (by omega)
    obtain ⟨ad, rfl, hr⟩ := hS.at_ (by omega)
    have hfa := fun w1 => mC x.c w1
    have hbm := dE x.m
    cases hf : qC x.c with
    | true =>
     rw [hf] at hfa
     refine aj (sr (mI (mL (a0 ?_))))
     refine aV (ah (cT (ao (ak (aj (ar (sr (mL (mI ?_)))))))))
     refine aY (k := i) aG.out aD.size rfl rfl (by omega) (by omega) (by decide) ?_
     refine dT dY.out rfl (by decide) ?_
     refine bS (vs := [_, _, _]) aD.out rfl (((hr.ext hh.below).recAt TR.len hx).drop 1) rfl (by decide) ?_
     refine bC hh (hfa _) rfl ?_
     intro w18 hh
     refine mB ?_
     first | refine gS ?_ | (refine gT ?_; refine mL ?_) | refine gV ?_
     first | refine gS ?_ | (refine gT ?_; refine mI ?_) | refine gV ?_
     first | refine gS ?_ | (refine gT ?_; refine aY aG.out aD.size rfl rfl rfl (by omega) (by decide) ?_) | refine gV ?_
     first | refine gS ?_ | (refine gT ?_; refine dT dY.out rfl (by decide) ?_) | refine gV ?_
     first | (refine bH (by decide) rfl rfl (by decide) ?_) | (refine fm (by decide) rfl rfl ?_)
     first | refine gS ?_ | (refine gT ?_; refine bz aG.out rfl (by decide) ?_) | refine gV ?_
     first | refine gS ?_ | (refine gT ?_; refine cb ?_) | refine gV ?_
     first | refine cU ?_ | refine cV ?_
     refine ah (cT (sr (aB (ah (aq (bO (aJ (aJ (bO (aJ ?_))))))))))
     refine cf ?_
     exact ⟨_, rfl, fun h => (nomatch h), hh.below⟩
    | false =>
     rw [hf] at hfa
     by_cases h5 : 50 < x.m.size
     ·refine aj (sr (mI (mL (a0 ?_))))
      refine aV (ah (cT (ao (ak (aj (ar (sr (mL (mI ?_)))))))))
      refine aY (k := i) aG.out aD.size rfl rfl (by omega) (by omega) (by decide) ?_
      refine dT dY.out rfl (by decide) ?_
      refine bS (vs := [_, _, _]) aD.out rfl (((hr.ext hh.below).recAt TR.len hx).drop 1) rfl (by decide) ?_
      refine bC hh (hfa _) rfl ?_
      intro w18 hh
      refine mB ?_
      first | refine gS ?_ | (refine gT ?_; refine mL ?_) | refine gV ?_
      first | refine gS ?_ | (refine gT ?_; refine mI ?_) | refine gV ?_
      first | refine gS ?_ | (refine gT ?_; refine aY (k := i) aG.out aD.size rfl rfl (by omega) (by omega) (by decide) ?_) | refine gV ?_
      first | refine gS ?_ | (refine gT ?_; refine dT dY.out rfl (by decide) ?_) | refine gV ?_
      refine a9 rfl rfl ?_
      refine bE aD.out rfl (((hr.ext hh.below).recAt TR.len hx).cell (i := 0) rfl) (by decide) ?_
      first | refine gS ?_ | (refine gT ?_; refine bz aG.out rfl (by decide) ?_) | refine gV ?_
      first | refine gS ?_ | (refine gT ?_; refine cb ?_) | refine gV ?_
      first | refine cU ?_ | refine cV ?_
      refine ah (cT (sr (aB (ah (aq (bO (aJ (aJ (bO (aJ ?_))))))))))
      refine cf ?_
      exact ⟨_, rfl, fun h => (nomatch h), hh.below⟩
     ·refine aj (sr (mI (mL (a0 ?_))))
      refine aV (ah (cT (ao (ak (aj (ar (sr (mL (mI ?_)))))))))
      refine aY (k := i) aG.out aD.size rfl rfl (by omega) (by omega) (by decide) ?_
      refine dT dY.out rfl (by decide) ?_
      refine bS (vs := [_, _, _]) aD.out rfl (((hr.ext hh.below).recAt TR.len hx).drop 1) rfl (by decide) ?_
      refine bC hh (hfa _) rfl ?_
      intro w18 hh
      refine mB ?_
      first | refine gS ?_ | (refine gT ?_; refine mL ?_) | refine gV ?_
      first | refine gS ?_ | (refine gT ?_; refine mI ?_) | refine gV ?_
      first | refine gS ?_ | (refine gT ?_; refine aY (k := i) aG.out aD.size rfl rfl (by omega) (by omega) (by decide) ?_) | refine gV ?_
      first | refine gS ?_ | (refine gT ?_; refine dT dY.out rfl (by decide) ?_) | refine gV ?_
      refine a9 rfl rfl ?_
      refine bE aD.out rfl (((hr.ext hh.below).recAt TR.len hx).cell (i := 0) rfl) (by decide) ?_
      first | refine gS ?_ | (refine gT ?_; refine bz aG.out rfl (by decide) ?_) | refine gV ?_
      first | refine gS ?_ | (refine gT ?_; refine cb ?_) | refine gV ?_
      first | refine cU ?_ | refine cV ?_
      refine ah (cF (ao (aW (ak (aw (mI ?_))))))
      refine bJ (aI (aE (ak ?_)))
      refine ⟨⟨i + 1, by omega, rfl, fun t ht => ?_, fun t ht => ?_, hh⟩, by show n - (i + 1) < n - i; omega, ?_⟩
      ·rw [aT hx] at ht
       rcases List.mem_append.1 ht with ht | ht
       ·exact hall t ht
       ·rw [List.mem_singleton.1 ht]; exact zz hf
      ·rw [aT hx] at ht
       rcases List.mem_append.1 ht with ht | ht
       ·exact hsz t ht
       ·rw [List.mem_singleton.1 ht]; omega
      ·(repeat (first | exact az _ _ _ | refine aC rfl ?_ | refine ay rfl ?_))
   ·rw [List.take_of_length_le (by omega)] at hall hsz
    refine aj (sr (mI (mL (a0 ?_))))
    refine aV (ah (cF ?_))
    refine aX ?_
    refine aA (aA (bj (ak (sr (aB (ah (aq ?_)))))))
    refine cf ?_
    exact ⟨_, rfl, fun _ => ⟨by omega, hall, hsz⟩, hh.below⟩
end Go.Proofs.YtkgdagjklakajaaGreatDoor
/- Plain: what polynomials come to hangs on their variables and terms alone; how long it is. -/
namespace Go.Proofs.YtkgdagjklakajaaGreatDoor
open Go.RowKit
def PX.norm (g : PX) : PX := ⟨g.v, none, 0, 0, g.ts⟩
theorem dk.n4 {E v : Int} {ts : List TR} {g : PX} {w : World} (o : dk E v ts g) (h : g.at_ w) (hb : E = 0 → ts.length ≤ 4096) : g.n ≤ 4096 := by
 have hl := h.ln
 have hts := o.ts
 by_cases hE : E = 0
 ·rw [if_pos hE] at hts
  have := hb hE
  rw [hts] at hl
  omega
 ·rw [if_neg hE] at hts
  rw [hts] at hl
  have h0 : g.n = 0 := hl.symm
  omega
structure z9 (ps os : List PX) (R : List HE) : Prop where
 eq : ∀ (j : Nat) (g o : PX), ps[j]? = some g → os[j]? = some o → o.v = g.v ∧ o.ts = g.ts ∧ o.n = g.n
 my : ∀ o ∈ os, o.row ∈ R ∧ o.n ≤ o.c
theorem kD {w w' : World} {H : List HE} {g : PX} (hh : Hp w H w') (h : g.row ∈ H) : g.at_ w' := oI (hh.own g.row h)
theorem zh.oJ {g : PX} {w : World} (h : zh g.ts) (ha : g.at_ w) (hc : g.n ≤ g.c) : g.oJ 492 := ⟨by have := h.n; have := ha.ln; omega, hc, h.ok, fun t ht => Nat.le_trans (h.sz t ht) (by decide)⟩
end Go.Proofs.YtkgdagjklakajaaGreatDoor
/- The walk through poly.Scale. -/
namespace Go.Proofs.YtkgdagjklakajaaGreatDoor
open Go.RowKit
def rl (p : PX) (c : Dyadic) : Int := if p.e = 0 then gC (p.ts.map (oE c)) else p.e
theorem uz {l X : List TR} {c : Dyadic} {i : Nat} {z : TR} (hz : l[i]? = some z) (hX : X = (l.take i).map (oE c) ++ l.drop i) : X[i]? = some z ∧ X.set i ⟨z.m, nR (z.c.d * c)⟩ = (l.take (i + 1)).map (oE c) ++ l.drop (i + 1) := by
 obtain ⟨h1, h2⟩ := List.getElem?_eq_some_iff.1 hz
 have hl : ((l.take i).map (oE c)).length = i := by rw [List.length_map, List.length_take]; omega
 refine ⟨?_, ?_⟩
 ·rw [hX, List.getElem?_append_right (by omega), hl, Nat.sub_self, List.getElem?_drop]
  exact hz
 ·rw [aT hz, List.map_append, hX, List.set_append_right _ _ (by omega), hl, Nat.sub_self, List.append_assoc, ic hz]
  rfl
theorem sR {k j : Nat} {l : List TR} {c : Dyadic} (ho : gm k l) (hc : Sz j c) (hk : k + j ≤ 1000000) : gm (k + j) (l.map (oE c)) := fun t ht => by
 obtain ⟨z, hz, rfl⟩ := List.mem_map.1 ht
 have hs := (ho z hz).2.mul hc
 exact ⟨hs.ok (by omega), by show Sz _ (nR _).d; rw [fh]; exact hs⟩
theorem o7 (p : PX) (c : NR) (k : Nat) (w : World) (hT : fS w) (hp : p.at_ w) (lp : p.oJ k) (hc : c.ok ∧ Sz k c.d) (hk : k ≤ 400000) :
  Calls Tryz.prog 39 #[.agg #[.int .i64 p.v, .slice p.A p.n p.c], .agg #[.bool c.neg, .string c.cq, .int .i64 c.e]] w fun r w' => ∃ g : PX, dk (rl p c.d) p.v (a3 (p.ts.map (oE c.d))) g ∧ r = .returned (.tuple #[.agg #[.int .i64 g.v, .slice g.A g.n g.c], .int .i64 (rl p c.d)]) ∧ Hp w [g.row] w' := by
 have hh := Hp.start w
 have hck := fun w1 hT1 hb => lM p k w1 hT1 (hp.ext hb) lp
 unfold rl
 by_cases h0 : p.e = 0
 ·rw [if_pos h0]
  rw [h0] at hck
  obtain ⟨_, h4, _, _⟩ := eV h0
  have hpl : p.ts.length = p.n := hp.ln
  refine al (N := 42) (l := [.agg #[.int .i64 p.v, .slice p.A p.n p.c], .agg #[.bool c.neg, .string c.cq, .int .i64 c.e]]) Tryz.func39 rfl rfl (by simp) ?_
  refine sr ?_
  refine df hh [_,_] ?_
  intro b2 w2 hh
  refine df hh [_,_,_] ?_
  intro b3 w3 hh
  refine cx hh ?_
  intro b4 w4 hh
  refine aI (ah (aj (sr ?_)))
  refine dp hh 2 [_,_] ?_
  refine bC hh (hck _ (hT.hp hh) hh.below) rfl ?_
  intro w10 hh
  refine aI (ah (sr (mI ?_)))
  refine er (ah (cF (ao (ak (sr (bG ?_))))))
  refine bI hh 2 ?_
  refine aN (ij p.A p.n p.c p.ts _ (hp.ext hh.below) lp.n) au.out rfl (by decide) ?_
  rintro e_ w17 ⟨A17, c17, rfl, hown_, hb_⟩
  refine ⟨_, rfl, ?_⟩
  replace hh := hh.a7 (x := .row _ _ _ _ _ _) hb_ hown_
  refine aL (ah (aj (sr (mL (a0 (mI (ah (ar ?_))))))))
  refine bA [8, 20, 21, 22, 23, 24, 25, 26, 27, 28, 29, 30, 31, 32, 33, 34, 35] 20
   (fun v w' => ∃ (i : Nat) (X : List TR), i ≤ p.n ∧ v = .int .i64 i ∧ X = (p.ts.take i).map (oE c.d) ++ p.ts.drop i ∧ Hp w [.row A17 p.n c17 58 4 (a8 TR.cells X), .blk b4 31 [.int .i64 0, .slice none 0 0] (0, 0), .blk b3 26 [.bool c.neg, .string c.cq, .int .i64 c.e] (0, 0), .blk b2 31 [.int .i64 p.v, .slice p.A p.n p.c] (0, 0)] w')
   (fun v _ => p.n - (intOf v).toNat) ?_ ?_
  ·exact ⟨0, p.ts, Nat.zero_le _, rfl, rfl, hh⟩
  ·clear hh
   rintro ρ' v w' ⟨i, X, hi, rfl, hX, hh⟩
   have hXl : X.length = p.n := by rw [hX, List.length_append, List.length_map, List.length_take, List.length_drop]; omega
   by_cases hlt : i < p.n
   ·obtain ⟨z, hz⟩ := aH (l := p.ts) (k := i) (by omega)
    obtain ⟨hXz, hXn⟩ := uz hz hX
    have hzo := lp.ok z (List.mem_of_getElem? hz)
    have hdm := fun A cc w1 hT1 hS1 => ma A 2 cc [z.c, c] w1 hT1 hS1 (by simpa using ⟨hzo.1, hc.1⟩) k (by simpa using ⟨hzo.2, hc.2⟩) (by omega) (by decide)
    rw [show iy ([z.c, c].map NR.d) = z.c.d * c.d by show 1 * z.c.d * c.d = _; rw [Dyadic.one_mul]] at hdm
    have hrl := fL TR.len X
    obtain ⟨g0, rfl⟩ := hh.gf (i := 0) rfl (by omega)
    refine sr ?_
    refine aV (ah (aj (cT (ao (ak (aj (ar (sr (mI (aI (ah ?_)))))))))))
    refine a4 10 [[(7, none)], [(8, none)], [(7, none)], [(8, none)], [(25, some 2), (26, some 3)], [(27, some 4)], [(28, some 5)], [(3, none)], [(29, some 6), (30, some 7)], [(31, some 8)]] [(9, 32), (8, 31), (7, 30), (6, 29), (5, 28), (4, 27), (3, 26), (2, 25), (1, 24), (0, 23)] hh mixed (by kernel_rfl) ?_
    refine gE ?_
    refine eG ?_
    refine gE ?_
    refine eG ?_
    refine y2 (i) ?_
    refine dx ?_
    refine rq [_,_,_] (fun _ hj => (hj.hp.o0 (f := TR.cells) (x := z) (l := X) (i := 0) rfl TR.len (by decide) hXz).drop 1) ?_
    refine gy 2 [_,_,_] ?_
    refine x9 [_,_,_,_,_,_] ?_
    refine bW (i := 9) (Is (.agg #[.bool (nR (z.c.d * c.d)).neg, .string (nR (z.c.d * c.d)).cq, .int .i64 (nR (z.c.d * c.d)).e])) Is.ext ?_ ?_
    ·intro ρ1 w1 hj hR
     obtain ⟨A31, c31, h31, s31⟩ := hR.1
     exact cZ rfl (bs au.out (aF h31 bq)) (hdm A31 c31 _ (hT.hp hj.hp) s31) (fun _ _ hq => ⟨_, hq.1, hq.2, rfl⟩)
    refine bp ?_
    intro f W hJ hV
    have hb_8 := hJ.bl
    obtain ⟨v32, v31, v30, v29, v28, v27, v26, v25, v24, v23, _⟩ := hV
    obtain ⟨A31, c31, e31, f31⟩ : Rows _ _ _ (f 8) W := v31
    replace hh := hJ.hp
    refine a6 (bu (ai v32 (ai e31 (ai v30 (ai v29 (ai v28 (ai v27 (ai v26 (ai v25 (ai v24 (ai v23 a5))))))))))) ?_
    dsimp only [cC]
    clear e31 hJ
    refine bg (k := i) aG.out aD.size rfl rfl (by omega) (by omega) (by decide) ?_
    refine bG ?_
    refine bo hh (i := 0) (vs := [_, _, _]) rfl rfl (cu rfl) rfl aD.out rfl (by omega) rfl ?_
    intro ws hh
    simp only [List.set_cons_zero] at hh
    rw [nD hXz, hXn] at hh
    refine aE (aW (ak (aw ?_)))
    refine bJ (mI (aE (ak ?_)))
    replace hh := hh.sub (List.Sublist.cons_cons _ (List.Sublist.cons_cons _ (List.Sublist.cons_cons _ (List.Sublist.cons_cons _ List.Sublist.slnil))))
    refine ⟨⟨i + 1, _, by omega, rfl, rfl, hh⟩, by show p.n - (i + 1) < p.n - i; omega, ?_⟩
    (repeat (first | exact az _ _ _ | refine aC rfl ?_ | refine ay rfl ?_))
   ·obtain rfl : i = p.n := by omega
    rw [List.take_of_length_le (by omega), List.drop_of_length_le (by omega), List.append_nil] at hX
    have hso := sR lp.ok hc.2 (by omega)
    rw [← hX] at hso ⊢
    refine sr ?_
    refine aV (ah (aj (cF ?_)))
    refine aX ?_
    refine aA (aA (bj (ak (sr (bG ?_)))))
    refine bI hh 3 ?_
    refine mL ?_
    refine aN (gF p.v A17 p.n c17 X (k + k) _ hT hh hXl (by omega) (by omega) hso) au.out rfl (by decide) ?_
    rintro e_ w39 ⟨g, og, rfl, hh⟩
    refine ⟨_, rfl, ?_⟩
    refine dw ?_
    refine dw ?_
    refine bL hh 1 [_,_] ?_
    intro ws hh
    replace hh : Hp _ (_ :: .blk _ _ [_, _] _ :: _) _ := hh
    refine aI (ah (aq ?_))
    refine kL (aQ rfl (aP (vs := [_, _]) aD.out (hh.ax (i := 1) (n := 2) rfl rfl) rfl) (ct (db rfl) bh)) ?_
    exact ⟨g, og, rfl, hh.sub (List.Sublist.cons_cons _ (List.nil_sublist _))⟩
 ·rw [if_neg h0]
  refine al (N := 42) (l := [.agg #[.int .i64 p.v, .slice p.A p.n p.c], .agg #[.bool c.neg, .string c.cq, .int .i64 c.e]]) Tryz.func39 rfl rfl (by simp) ?_
  refine sr ?_
  refine df hh [_,_] ?_
  intro b2 w2 hh
  refine df hh [_,_,_] ?_
  intro b3 w3 hh
  refine cx hh ?_
  intro b4 w4 hh
  refine aI (ah (aj (sr ?_)))
  refine dp hh 2 [_,_] ?_
  refine bC hh (hck _ (hT.hp hh) hh.below) rfl ?_
  intro w10 hh
  refine aI (ah (sr (mI ?_)))
  refine er (ah (cT (sr ?_)))
  refine eD [_,_] (mI ?_)
  refine bL hh 0 [_,_] ?_
  intro ws hh
  replace hh : Hp _ (.blk _ _ [_, _] _ :: _) _ := hh
  refine aI (ah (aq (aJ ?_)))
  refine kL (aQ rfl (aP (vs := [_, _]) aD.out (hh.ax (i := 0) (n := 2) rfl rfl) rfl) (ct (db rfl) bh)) ?_
  exact ⟨PX.nil, dk.err h0, rfl, (hh.sub (List.nil_sublist _)).iC⟩
end Go.Proofs.YtkgdagjklakajaaGreatDoor
/- Plain: polynomials with whole numbers, given byte by byte; what they come to can be reckoned. No program in sight. -/
namespace Go.Proofs.YtkgdagjklakajaaGreatDoor
open Go.RowKit
abbrev ZT := List (List UInt8 × Int)
def zT (L : ZT) : List TR := L.map fun x => ⟨str x.1, nR ((x.2 : Int) : Dyadic)⟩
def zS (L : ZT) (b : List UInt8) : Int := match L with | [] => 0 | x :: L => (if x.1 = b then x.2 else 0) + zS L b
theorem xX (a b : Int) : ((a + b : Int) : Dyadic) = (a : Dyadic) + (b : Dyadic) := (pB a b 0).symm
theorem wP (a b : Int) : ((a * b : Int) : Dyadic) = (a : Dyadic) * (b : Dyadic) := (pe a b 0 0).symm
theorem xM {a : Int} (h : (a : Dyadic) = 0) : a = 0 := iZ (p := 0) h
theorem oG (m : ByteArray) : ∀ L : ZT, eL (zT L) m = (zS L m.data.toList : Int)
 | [] => rfl
 | x :: L => by
  show eL (⟨str x.1, nR ((x.2 : Int) : Dyadic)⟩ :: zT L) m = ((if x.1 = m.data.toList then x.2 else 0) + zS L m.data.toList : Int)
  rw [di, oG m L, xX]
  congr 1
  by_cases h : x.1 = m.data.toList
  ·rw [if_pos h, if_pos (by rw [h]; exact vJ m)]
   exact fh _
  ·rw [if_neg h, if_neg (fun e => h (by rw [← e]; exact (cv _).symm))]
   rfl
def zC : ZT → Bool
 | [] => true
 | [x] => !decide (x.2 = 0)
 | x :: y :: L => !decide (x.2 = 0) && (Op.bytesLess x.1 y.1 && zC (y :: L))
theorem pN : ∀ {L : ZT}, zC L = true → Canon (zT L) := fun {L} h => by
 have h1 : ∀ {L : ZT}, zC L = true → kZ (zT L) = true ∧ ∀ x ∈ L, x.2 ≠ 0 := fun {L} => by
  induction L with
  | nil => exact fun _ => ⟨rfl, fun x hx => nomatch hx⟩
  | cons x L ih =>
   intro h
   cases L with
   | nil => exact ⟨rfl, fun y hy => by rw [List.mem_singleton.1 hy]; simpa [zC] using h⟩
   | cons y L =>
    simp only [zC, Bool.and_eq_true, Bool.not_eq_true', decide_eq_false_iff_not] at h
    obtain ⟨i1, i2⟩ := ih h.2.2
    refine ⟨?_, fun z hz => ?_⟩
    ·show (fD (str x.1) (str y.1) && kZ (zT (y :: L))) = true
     rw [i1, show fD (str x.1) (str y.1) = true by unfold fD; rw [cv, cv]; exact h.2.1]
     rfl
    ·rcases List.mem_cons.1 hz with rfl | hz
     ·exact h.1
     ·exact i2 z hz
 obtain ⟨i1, i2⟩ := h1 h
 refine ⟨kA.1 i1, fun t ht => ?_, fun t ht => ?_⟩
 ·obtain ⟨x, hx, rfl⟩ := List.mem_map.1 ht
  show (nR _).d ≠ 0
  rw [fh]
  exact fun e => i2 x hx (xM e)
 ·obtain ⟨x, hx, rfl⟩ := List.mem_map.1 ht
  show nR _ = nR (nR _).d
  rw [fh]
def zE (L K : ZT) : Bool := (L ++ K).all fun x => decide (zS L x.1 = zS K x.1)
theorem tf {L : ZT} {b : List UInt8} (h : ∀ x ∈ L, x.1 ≠ b) : zS L b = 0 := by
 induction L with
 | nil => rfl
 | cons x L ih => rw [zS, if_neg (h x List.mem_cons_self), ih fun y hy => h y (List.mem_cons_of_mem _ hy)]; rfl
theorem zx {L K : ZT} (h : zE L K = true) (b : List UInt8) : zS L b = zS K b := by
 by_cases hb : ∃ x ∈ L ++ K, x.1 = b
 ·obtain ⟨x, hx, rfl⟩ := hb
  exact of_decide_eq_true (List.all_eq_true.1 h x hx)
 ·rw [tf fun x hx e => hb ⟨x, List.mem_append_left _ hx, e⟩, tf fun x hx e => hb ⟨x, List.mem_append_right _ hx, e⟩]
theorem kN {L K : ZT} (h : (zC K && zE K L) = true) : a3 (zT L) = zT K := by
 rw [Bool.and_eq_true] at h
 exact (jd (pN h.1) fun m => by rw [oG, oG, zx h.2]).symm
def zP (P Q : ZT) : ZT := P.flatMap fun x => Q.map fun y => ((mulL x.1 y.1).1, x.2 * y.2)
def yY (P Q : ZT) : List Int := P.flatMap fun x => Q.map fun y => (mulL x.1 y.1).2
theorem we (P Q : ZT) : du (zT P) (zT Q) = zT (zP P Q) := by
 unfold du zT zP
 rw [List.flatMap_map, List.map_flatMap]
 refine congrArg (fun f => P.flatMap f) (funext fun x => ?_)
 rw [List.map_map, List.map_map]
 refine List.map_congr_left fun y _ => ?_
 show (⟨str (mulL (str x.1).data.toList (str y.1).data.toList).1, nR ((nR _).d * (nR _).d)⟩ : TR) = ⟨str (mulL x.1 y.1).1, nR ((x.2 * y.2 : Int) : Dyadic)⟩
 rw [cv, cv, fh, fh, wP]
theorem vN (P Q : ZT) : lv (zT P) (zT Q) = yY P Q := by
 unfold lv zT yY
 rw [List.flatMap_map]
 refine congrArg (fun f => P.flatMap f) (funext fun x => ?_)
 rw [List.map_map]
 refine List.map_congr_left fun y _ => ?_
 show (mulL (str x.1).data.toList (str y.1).data.toList).2 = _
 rw [cv, cv]
theorem gw (L : ZT) : (zT L).length = L.length := List.length_map _
theorem rj {P Q K : ZT} (h : (zC K && zE K (zP P Q)) = true) (he : (yY P Q).all (fun e => decide (e = 0)) = true) (hn : P.length * Q.length ≤ 4096) : ef (zT P, 0) ⟨0, none, 0, 0, zT Q⟩ = (zT K, 0) := by
 have h1 : ∀ e ∈ lv (zT P) (zT Q), e = 0 := fun e hm => by
  rw [vN] at hm
  exact of_decide_eq_true (List.all_eq_true.1 he e hm)
 have h2 : gx (zT P) (zT Q) = 0 := by
  rw [q7 (by rw [gw, gw]; omega) h1]
  unfold gC
  rw [if_neg]
  have := gj (du (zT P) (zT Q))
  rw [k7, gw, gw] at this
  omega
 unfold ef
 rw [if_pos rfl]
 show (a3 (du (zT P) (zT Q)), gx (zT P) (zT Q)) = _
 rw [h2, we, kN h]
theorem sT {a : List TR × Int} {g h : PX} (e : g.ts = h.ts) : ef a g = ef a h := by unfold ef; rw [e]
def zM (v : Int) (L : ZT) : Bool := L.all fun x => ep x.1 && decide ((x.1.length : Int) = v)
theorem uN {v : Int} {L : ZT} (h : zM v L = true) : ∀ t ∈ zT L, fu v t = true := fun t ht => by
 obtain ⟨x, hx, rfl⟩ := List.mem_map.1 ht
 have := List.all_eq_true.1 h x hx
 unfold fu
 show (ep (str x.1).data.toList && decide (((str x.1).size : Int) = v)) = true
 rw [cv, gd]
 exact this
theorem jX {v : Int} {L : ZT} (hf : fB v = true) (h : (zC L && zM v L) = true) (hn : L.length ≤ 4096) : gB v (zT L) = 0 := by
 rw [Bool.and_eq_true] at h
 exact sE hf (by rw [gw]; exact hn) (uN h.2) (pN h.1)
theorem wF {v : Int} {L : ZT} (hf : fB v = true) (h : zM v L = true) (hn : L.length ≤ 4096) : gD v (zT L) = 0 := by
 unfold gD
 rw [if_neg, if_neg (by rw [gw]; omega)]
 ·unfold gC
  rw [if_neg]
  have := gj (zT L)
  rw [gw] at this
  omega
 ·rintro (h1 | h1)
  ·rw [hf] at h1; cases h1
  ·obtain ⟨t, ht, h2⟩ := List.any_eq_true.1 h1
   rw [uN h t ht] at h2
   cases h2
def zB (L : ZT) : Bool := L.all fun x => decide (x.2.natAbs < 256) && decide (x.1.length ≤ 50)
theorem sO {L : ZT} (h : zB L = true) : gm 24 (zT L) ∧ ∀ t ∈ zT L, t.m.size ≤ 50 := by
 refine ⟨fun t ht => ?_, fun t ht => ?_⟩
 ·obtain ⟨x, hx, rfl⟩ := List.mem_map.1 ht
  have := Bool.and_eq_true_iff.1 (List.all_eq_true.1 h x hx)
  have z : Sz 24 ((x.2 : Int) : Dyadic) := xg (m := x.2) (e := 0) (of_decide_eq_true this.1) (by decide) (by decide)
  exact ⟨z.ok (by decide), by show Sz 24 (nR _).d; rw [fh]; exact z⟩
 ·obtain ⟨x, hx, rfl⟩ := List.mem_map.1 ht
  have := Bool.and_eq_true_iff.1 (List.all_eq_true.1 h x hx)
  show (str x.1).size ≤ 50
  rw [gd]
  exact of_decide_eq_true this.2
theorem mD {v : Int} {A : Option Addr} {n c : Nat} {L : ZT} (h : zB L = true) (hn : n ≤ 1000000) (hc : n ≤ c) : (⟨v, A, n, c, zT L⟩ : PX).oJ 24 := ⟨hn, hc, (sO h).1, fun t ht => Nat.le_trans ((sO h).2 t ht) (by decide)⟩
end Go.Proofs.YtkgdagjklakajaaGreatDoor
/- The walks through ogeelaw08.whole and two; the chapter's examples one by one. -/
namespace Go.Proofs.YtkgdagjklakajaaGreatDoor
open Go.RowKit
theorem bZ (n : Int) (w : World) (h1 : -9223372036854775808 ≤ n) (h2 : n ≤ 9223372036854775807) :
  Calls Tryz.prog 40 #[.int .i64 n] w fun r w' => r = .returned (.agg #[.bool (nR (n : Dyadic)).neg, .string (nR (n : Dyadic)).cq, .int .i64 (nR (n : Dyadic)).e]) ∧ Below w.heap.size w w' := by
 have hh := Hp.start w
 refine al (N := 5) (l := [.int .i64 n]) Tryz.func40 rfl rfl (by simp) ?_
 refine sr ?_
 refine cx hh ?_
 intro b2 w2 hh
 refine ah (sr (mI ?_))
 refine bC hh (tP n _ h1 h2) rfl ?_
 intro w4 hh
 refine bL hh 0 [_,_,_] ?_
 intro ws hh
 replace hh : Hp _ (.blk _ _ [_, _, _] _ :: _) _ := hh
 refine ah (aq ?_)
 refine gL (aQ rfl (aP (vs := [_, _, _]) aD.out (hh.ax (i := 0) (n := 3) rfl rfl) rfl) bh) ?_
 exact ⟨rfl, hh.below⟩
def rz (n : Int) : ZT := [([0, 1], n), ([1, 0], 1)]
theorem kR (n : Int) (w : World) (h1 : -9223372036854775808 ≤ n) (h2 : n ≤ 9223372036854775807) :
  Calls Tryz.prog 88 #[.int .i64 n] w fun r w' => ∃ (A : Option Addr) (c : Nat), r = .returned (.agg #[.int .i64 2, .slice A 2 c]) ∧ Hp w [.row A 2 c 58 4 (a8 TR.cells (zT (rz n)))] w' := by
 have hh := Hp.start w
 refine al (N := 10) (l := [.int .i64 n]) Tryz.func88 rfl rfl (by simp) ?_
 refine sr ?_
 refine cx hh ?_
 intro b2 w2 hh
 refine ah (sr (mI ?_))
 refine bC hh (bZ n _ h1 h2) rfl ?_
 intro w4 hh
 refine eD [_,_,_,_] ?_
 refine bC hh (bZ 1 _ (by decide) (by decide)) rfl ?_
 intro w6 hh
 refine eD [_,_,_,_] ?_
 refine bf hh (cs := [_, _, _, _, _, _, _, _]) aG.out aD.out (aZ (cu rfl) (aZ (cu rfl) bQ)) rfl rfl (by decide) (by decide) (by decide) rfl (by decide) ?_
 intro b8 w8 hh
 refine eD [_,_] ?_
 refine bL hh 1 [_,_] ?_
 intro ws hh
 replace hh : Hp _ (_ :: .blk _ _ [_, _] _ :: _) _ := hh
 refine ah (aq ?_)
 refine gL (aQ rfl (aP (vs := [_, _]) aD.out (hh.ax (i := 1) (n := 2) rfl rfl) rfl) bh) ?_
 exact ⟨_, _, rfl, hh.sub (List.Sublist.cons_cons _ (List.nil_sublist _))⟩
theorem dk.zT {v : Int} {K : ZT} {g : PX} {w : World} (o : dk 0 v (zT K) g) (h : g.at_ w) : ∃ A c, g = ⟨v, A, K.length, c, zT K⟩ := by
 obtain ⟨gv, gA, gn, gc, gts⟩ := g
 obtain rfl : v = gv := o.v.symm
 obtain rfl : Go.Proofs.YtkgdagjklakajaaGreatDoor.zT K = gts := o.ts.symm
 have : (Go.Proofs.YtkgdagjklakajaaGreatDoor.zT K).length = gn := h.ln
 rw [gw] at this
 exact ⟨gA, gc, by rw [this]⟩
theorem zm (L K : ZT) (v : Int) (A : Option Addr) (n c : Nat) (w : World) (hT : fS w) (hS : Sl w A n 4 (a8 TR.cells (zT L))) (hn : n ≤ 4096) (hf : fB v = true) (hk : (zC K && zE K L) = true) (hm : zM v L = true) (hb : zB L = true) :
  Calls Tryz.prog 18 #[.int .i64 v, .slice A n c] w fun r w' => ∃ A' c', r = .returned (.tuple #[.agg #[.int .i64 v, .slice A' K.length c'], .int .i64 0]) ∧ Hp w [.row A' K.length c' 58 4 (a8 TR.cells (zT K))] w' := by
 have hln := hS.bV TR.len (by decide)
 rw [gw] at hln
 have := fJ v A n c (zT L) 24 w hT hS (by omega) (by decide) (sO hb).1 fun t ht => Nat.le_trans ((sO hb).2 t ht) (by decide)
 rw [wF hf hm (by omega), kN hk] at this
 refine this.mono fun r w' ⟨g, og, hr, h3⟩ => ?_
 obtain ⟨A', c', rfl⟩ := og.zT (h3.aM (i := 0) rfl)
 exact ⟨A', c', hr, h3⟩
theorem vq {g h : PX} (h1 : g.e = 0) (h2 : h.e = 0) (h3 : h.v = g.v) : iA [g, h] = 0 := by
 have e : [g, h].find? (fun g => decide (g.e ≠ 0)) = none := hQ (List.any_eq_false.2 fun x hx => by
  rcases List.mem_cons.1 hx with rfl | hx
  ·simp [h1]
  ·rw [List.mem_singleton.1 hx]; simp [h2])
 unfold iA
 rw [e]
 show (if 2 = 0 ∨ wX [g, h] = true then (1 : Int) else 0) = 0
 rw [if_neg]
 rintro (h0 | h0)
 ·cases h0
 ·obtain ⟨x, hx, hx2⟩ := List.any_eq_true.1 h0
  have hx3 : x.v ≠ g.v := of_decide_eq_true hx2
  rcases List.mem_cons.1 hx with rfl | hx
  ·exact hx3 rfl
  ·rw [List.mem_singleton.1 hx] at hx3
   exact hx3 h3
theorem zN (P Q K : ZT) (v : Int) (L : Option Addr) (A B : Option Addr) (a b n c : Nat) (w : World) (hT : fS w) (hL : Sl w L 2 2 [.int .i64 v, .slice A n a, .int .i64 v, .slice B n b]) (hA : Sl w A n 4 (a8 TR.cells (zT P))) (hB : Sl w B n 4 (a8 TR.cells (zT Q))) (hc : 2 ≤ c) (ha : n ≤ a) (hb : n ≤ b) (hn : n ≤ 60) (hf : fB v = true)
  (h1 : (zC P && zM v P) = true) (h2 : (zC Q && zM v Q) = true) (h3 : (zB P && zB Q) = true) (hk : (zC K && zE K (zP P Q)) = true) (he : (yY P Q).all (fun e => decide (e = 0)) = true) :
  Calls Tryz.prog 33 #[.slice L 2 c] w fun r w' => ∃ A' c', r = .returned (.tuple #[.agg #[.int .i64 v, .slice A' K.length c'], .int .i64 0]) ∧ Hp w [.row A' K.length c' 58 4 (a8 TR.cells (zT K))] w' := by
 have hlp := hA.bV TR.len (by decide)
 have hlq := hB.bV TR.len (by decide)
 rw [gw] at hlp hlq
 rw [Bool.and_eq_true] at h3
 have hpe : (⟨v, A, n, a, zT P⟩ : PX).e = 0 := jX hf h1 (by omega)
 have hqe : (⟨v, B, n, b, zT Q⟩ : PX).e = 0 := jX hf h2 (by omega)
 have := mM L 2 c [⟨v, A, n, a, zT P⟩, ⟨v, B, n, b, zT Q⟩] 24 w hT hL hc (by decide) (fun g hg => by
  rcases List.mem_cons.1 hg with rfl | hg
  ·exact hA
  ·rw [List.mem_singleton.1 hg]; exact hB) (fun g hg => by
  rcases List.mem_cons.1 hg with rfl | hg
  ·exact mD h3.1 (by omega) ha
  ·rw [List.mem_singleton.1 hg]; exact mD h3.2 (by omega) hb) (by decide)
 have hlk := vq hpe hqe rfl
 have hms : xl [⟨v, A, n, a, zT P⟩, ⟨v, B, n, b, zT Q⟩] = (zT K, 0) := by
  show ef (zT P, 0) ⟨v, B, n, b, zT Q⟩ = _
  exact (sT (g := ⟨v, B, n, b, zT Q⟩) (h := ⟨0, none, 0, 0, zT Q⟩) rfl).trans (rj hk he (by rw [hlp, hlq]; exact Nat.le_trans (Nat.mul_le_mul hn hn) (by decide)))
 unfold lu at this
 rw [if_pos hlk, hms] at this
 refine this.mono fun r w' ⟨g, og, hr, h3⟩ => ?_
 obtain ⟨A', c', rfl⟩ := og.zT (h3.aM (i := 0) rfl)
 exact ⟨A', c', hr, h3⟩
theorem zQ (P K : ZT) (A : Option Addr) (n c : Nat) (w : World) (hT : fS w) (hA : Sl w A n 4 (a8 TR.cells (zT P))) (hc : n ≤ c) (hn : n ≤ 60)
  (h1 : (zC P && zM 1 P) = true) (h3 : zB P = true) (h0 : (zC P && zE P (zP [([0], 1)] P)) = true) (e0 : (yY [([0], 1)] P).all (fun e => decide (e = 0)) = true) (hk : (zC K && zE K (zP P P)) = true) (he : (yY P P).all (fun e => decide (e = 0)) = true) :
  Calls Tryz.prog 35 #[.agg #[.int .i64 1, .slice A n c], .int .i64 2] w fun r w' => ∃ A' c', r = .returned (.tuple #[.agg #[.int .i64 1, .slice A' K.length c'], .int .i64 0]) ∧ Hp w [.row A' K.length c' 58 4 (a8 TR.cells (zT K))] w' := by
 have hlp := hA.bV TR.len (by decide)
 rw [gw] at hlp
 have hpe : (⟨1, A, n, c, zT P⟩ : PX).e = 0 := jX (show fB 1 = true by decide) h1 (by omega)
 have := mE ⟨1, A, n, c, zT P⟩ 2 24 w hT hA (mD h3 (by omega) hc) (by decide) (.inl (by decide))
 have hg1 : a3 [⟨fg 1, nR ((1 : Int) : Dyadic)⟩] = zT [([0], 1)] := kN (L := [([0], 1)]) (K := [([0], 1)]) rfl
 have hpw : jI ⟨1, A, n, c, zT P⟩ 2 = (zT K, 0) := by
  show ef (ef (a3 [⟨fg 1, nR ((1 : Int) : Dyadic)⟩], 0) ⟨1, A, n, c, zT P⟩) ⟨1, A, n, c, zT P⟩ = _
  have e : ∀ a, ef a ⟨1, A, n, c, zT P⟩ = ef a ⟨0, none, 0, 0, zT P⟩ := fun a => sT rfl
  rw [hg1, e, e, rj h0 e0 (by rw [hlp]; show 1 * n ≤ 4096; omega)]
  exact rj hk he (by rw [hlp]; exact Nat.le_trans (Nat.mul_le_mul hn hn) (by decide))
 have e2 : me ⟨1, A, n, c, zT P⟩ 2 = 0 := by
  unfold me
  rw [if_pos hpe, if_neg (by decide), show ((2 : Int).toNat) = 2 from rfl, hpw]
 rw [e2, show ((2 : Int).toNat) = 2 from rfl, hpw] at this
 refine this.mono fun r w' ⟨g, og, hr, h3⟩ => ?_
 obtain ⟨A', c', rfl⟩ := og.zT (h3.aM (i := 0) rfl)
 exact ⟨A', c', hr, h3⟩
theorem rP (K : ZT) (A : Option Addr) (n c : Nat) (B : Option Addr) (d : Nat) (w : World) (hA : Sl w A n 4 (a8 TR.cells (zT K))) (hB : Sl w B n 4 (a8 TR.cells (zT K))) (hn : n ≤ 60) :
  Calls Tryz.prog 30 #[.slice A n c, .slice B n d] w fun r w' => r = .returned (.bool true) ∧ Below w.heap.size w w' :=
 (ku A n c (zT K) B n d (zT K) w hA hB (by omega) (by omega)).mono fun r w' ⟨v, hr, hv, hb⟩ => ⟨by rw [hr, hv.2 rfl], hb⟩
end Go.Proofs.YtkgdagjklakajaaGreatDoor
