/- Lemmas for polyMakes, part 5. -/
import Derived.Test.YtkgdagjklakajaaGreatDoorZ4
/- The walks through the program's package of products of powers (mono), and through the document's answer's. -/
namespace Go.Proofs.YtkgdagjklakajaaGreatDoor
open Go.RowKit
theorem iq (s : ByteArray) (n : Int) (w : World) (hs : s.size ≤ 9223372036854775807) :
  Calls Tryz.prog 92 #[.string s, .int .i64 n] w fun e w' => e = .returned (.bool (eR s.data.toList && decide ((s.size : Int) = n))) ∧ Below w.heap.size w w' := by
 refine ak (N := 20) (l := [.string s, .int .i64 n]) Tryz.func92 rfl rfl (by simp) ?_
 refine sr (aB (ah (ai (sr (mS ?_)))))
 refine bo aG.out rfl (by decide) ?_
 refine mI (ah (ao ?_))
 refine bC [4, 5, 8, 9, 10, 11, 12, 13, 14, 15] 8
  (fun v w' => ∃ k : Nat, k ≤ s.size ∧ v = .int .i64 k ∧ eR (s.data.toList.take k) = true ∧ w' = w)
  (fun v _ => s.size - (intOf v).toNat) ?_ ?_
 ·exact ⟨0, Nat.zero_le _, rfl, rfl, rfl⟩
 ·rintro ρ' v w' ⟨k, hk, rfl, hm, rfl⟩
  by_cases hlt : k < s.size
  ·obtain ⟨c, hc⟩ := aK (l := s.data.toList) (k := k) (by rw [← dA]; exact hlt)
   have hb := c.toNat_lt
   by_cases h8 : c.toNat < 128
   ·refine sr ?_
    refine aO (ah (ai (cT (al (aj (ai (ao (sr (mI (aI (ah ?_)))))))))))
    refine sr (mS (mI ?_))
    refine bD aG.out rfl rfl (by omega) (by assumption) (by decide) ?_
    refine bQ (ah (cF (al (aZ (aj (aq ?_))))))
    refine bJ (mI (aF (aj ?_)))
    refine ⟨⟨k + 1, by omega, rfl, by rw [aN hc, nP, hm]; simpa using h8, rfl⟩, by show s.size - (k + 1) < s.size - k; omega, ?_⟩
    (repeat (first | exact ax _ _ _ | refine aA rfl ?_ | refine aw rfl ?_))
   ·refine sr ?_
    refine aO (ah (ai (cT (al (aj (ai (ao (sr (mI (aI (ah ?_)))))))))))
    refine sr (mS (mI ?_))
    refine bD aG.out rfl rfl (by omega) (by assumption) (by decide) ?_
    refine bQ (ah (cT (sr (aB (ah (an (bP (aC (aC (bP (aC ?_)))))))))))
    refine cf ?_
    rw [rq hc h8]
    exact ⟨rfl, Below.refl _ _⟩
  ·refine sr ?_
   refine aO (ah (ai (cF ?_)))
   refine aY ?_
   refine ay (ay (bg (aj (sr (mS ?_)))))
   refine bo aG.out rfl (by decide) ?_
   refine mI ?_
   refine oM rfl rfl (by decide) ?_
   refine aB (ah (an ?_))
   refine cf ?_
   rw [List.take_of_length_le (by rw [← dA]; omega)] at hm
   rw [hm]
   exact ⟨rfl, Below.refl _ _⟩
theorem ji (s : ByteArray) (w : World) (hs : s.size ≤ 9223372036854775807) :
  Calls Tryz.prog 92 #[.string s, .int .i64 s.size] w fun e w' => e = .returned (.bool (eR s.data.toList)) ∧ Below w.heap.size w w' := by
 have h := iq s s.size w hs
 simpa using h
theorem mA (s : ByteArray) (n : Int) (w : World) (hs : s.size ≤ 9223372036854775807) :
  Calls Tryz.prog 95 #[.string s, .int .i64 n] w fun e w' => e = .returned (.bool (eR s.data.toList && decide ((s.size : Int) = n))) ∧ Below w.heap.size w w' := by
 refine ak (N := 20) (l := [.string s, .int .i64 n]) Tryz.func95 rfl rfl (by simp) ?_
 refine sr (aB (ah (ai (sr (aI (ah (ao ?_)))))))
 refine bC [4, 5, 6, 7, 8, 9, 10, 11, 12, 13, 14, 15] 5
  (fun v w' => ∃ k : Nat, k ≤ s.size ∧ v = .int .i64 k ∧ eR (s.data.toList.take k) = true ∧ w' = w)
  (fun v _ => s.size - (intOf v).toNat) ?_ ?_
 ·exact ⟨0, Nat.zero_le _, rfl, rfl, rfl⟩
 ·rintro ρ' v w' ⟨k, hk, rfl, hm, rfl⟩
  by_cases hlt : k < s.size
  ·obtain ⟨c, hc⟩ := aK (l := s.data.toList) (k := k) (by rw [← dA]; exact hlt)
   have hb := c.toNat_lt
   by_cases h8 : c.toNat < 128
   ·refine ai (sr (mI (mS ?_)))
    refine bo aG.out rfl (by decide) ?_
    refine aO (ah (cT (al (aj (ai (ao (sr (mS (mI ?_)))))))))
    refine bD aG.out rfl rfl (by omega) (by assumption) (by decide) ?_
    refine cP (ah (cF (al (aZ (aj (aq (mI ?_)))))))
    refine bJ (aI (aF (aj ?_)))
    refine ⟨⟨k + 1, by omega, rfl, by rw [aN hc, nP, hm]; simpa using h8, rfl⟩, by show s.size - (k + 1) < s.size - k; omega, ?_⟩
    (repeat (first | exact ax _ _ _ | refine aA rfl ?_ | refine aw rfl ?_))
   ·refine ai (sr (mI (mS ?_)))
    refine bo aG.out rfl (by decide) ?_
    refine aO (ah (cT (al (aj (ai (ao (sr (mS (mI ?_)))))))))
    refine bD aG.out rfl rfl (by omega) (by assumption) (by decide) ?_
    refine cP (ah (cT (sr (aB (ah (an (bP (aC (aC (bP (aC ?_)))))))))))
    refine cf ?_
    rw [rq hc h8]
    exact ⟨rfl, Below.refl _ _⟩
  ·refine ai (sr (mI (mS ?_)))
   refine bo aG.out rfl (by decide) ?_
   refine aO (ah (cF ?_))
   refine aY ?_
   refine ay (ay (bg (aj (sr (mS ?_)))))
   refine bo aG.out rfl (by decide) ?_
   refine mI ?_
   refine oM rfl rfl (by decide) ?_
   refine aB (ah (an ?_))
   refine cf ?_
   rw [List.take_of_length_le (by rw [← dA]; omega)] at hm
   rw [hm]
   exact ⟨rfl, Below.refl _ _⟩
theorem vz (A : Option Addr) (n c : Nat) (xs : List Int) (w : World) (hsl : Sl w A n 1 (dF xs)) (hn : n ≤ 100000) :
  Calls Tryz.prog 190 #[.slice A n c] w fun e w' => e = .returned (.tuple #[.string (str (wm xs)), .int .i64 (ye xs)]) ∧ Below w.heap.size w w' := by
 have hlen : xs.length = n := by have := hsl.1; rw [eL] at this; omega
 have hh := Hp.start w
 refine ak (N := 27) (l := [.slice A n c]) Tryz.func190 rfl rfl (by simp) ?_
 refine sr (aS (aI (ah (sr (aL (ah (ai (sr (mL (a3 (mI ?_)))))))))))
 refine ah (ao ?_)
 refine cD [2, 3, 4, 6, 9, 10, 11, 12, 13, 14, 15, 16, 17, 18, 19, 20, 21, 22, 23, 24] 4 9
  (fun b i w' => ∃ (k c' : Nat) (A' : Option Addr), k ≤ n ∧ i = .int .i64 k ∧ b = .slice A' k c' ∧ (xs.take k).all gZ = true ∧ Hp w [.row A' k c' 5 1 (je ((xs.take k).map yF))] w')
  (fun _ v _ => n - (intOf v).toNat) ?_ ?_
 ·exact ⟨0, 0, none, Nat.zero_le _, rfl, rfl, rfl, hh.er _ _⟩
 ·clear hh
  rintro ρ' b i w' ⟨k, c', A', hk, rfl, rfl, hall, hh⟩
  by_cases hlt : k < n
  ·obtain ⟨x, hx⟩ := aK (l := xs) (k := k) (by omega)
   obtain ⟨ad, rfl, hr⟩ := (hsl.ext hh.below).at_ (by omega)
   by_cases h0 : x < 0
   ·refine sr ?_
    refine aO (ah (ai (cT (al (aj (ai (ao (sr ?_))))))))
    refine fW aG.out az.size rfl rfl (by omega) (by omega) (by decide) ?_
    refine bF az.out rfl (gJ hr (fL hx) rfl) (by decide) ?_
    refine aI (ah (ai (sr (mI ?_))))
    refine aO (mB ?_)
    first | refine gS ?_ | (refine gT ?_; refine mI ?_) | refine gV ?_
    first | refine gS ?_ | (refine gT ?_; refine bQ ?_) | refine gV ?_
    first | refine ct ?_ | refine cu ?_
    refine ah (cT (sr (aS (aI (ah (an (aC (bP (aC (aC (bP ?_)))))))))))
    refine aC ?_
    refine tT ?_
    obtain ⟨e1, e2⟩ := wi hx (by simp [gZ]; omega)
    rw [e1, e2]
    exact ⟨rfl, hh.below⟩
   ·by_cases h1 : 127 < x
    ·refine sr ?_
     refine aO (ah (ai (cT (al (aj (ai (ao (sr ?_))))))))
     refine fW aG.out az.size rfl rfl (by omega) (by omega) (by decide) ?_
     refine bF az.out rfl (gJ hr (fL hx) rfl) (by decide) ?_
     refine aI (ah (ai (sr (mI ?_))))
     refine aO (mB ?_)
     first | refine gS ?_ | (refine gT ?_; refine mI ?_) | refine gV ?_
     first | refine gS ?_ | (refine gT ?_; refine bQ ?_) | refine gV ?_
     first | refine ct ?_ | refine cu ?_
     refine ah (cT (sr (aS (aI (ah (an (aC (bP (aC (aC (bP ?_)))))))))))
     refine aC ?_
     refine tT ?_
     obtain ⟨e1, e2⟩ := wi hx (by simp [gZ]; omega)
     rw [e1, e2]
     exact ⟨rfl, hh.below⟩
    ·have hok : gZ x = true := by simp [gZ]; omega
     refine sr ?_
     refine aO (ah (ai (cT (al (aj (ai (ao (sr ?_))))))))
     refine fW aG.out az.size rfl rfl (by omega) (by omega) (by decide) ?_
     refine bF az.out rfl (gJ hr (fL hx) rfl) (by decide) ?_
     refine aI (ah (ai (sr (mI ?_))))
     refine aO (mB ?_)
     first | refine gS ?_ | (refine gT ?_; refine mI ?_) | refine gV ?_
     first | refine gS ?_ | (refine gT ?_; refine bQ ?_) | refine gV ?_
     first | refine ct ?_ | refine cu ?_
     refine ah (cF (al (aj (aq (mL (mI ?_))))))
     refine mK aG.out aG.out rfl (by decide) ?_
     refine bz hh (cs := [_]) aG.out az.out (bp (bG rfl) cn) rfl rfl (by decide) (by decide) (by decide) rfl (by decide) ?_
     intro b22 w22 hh
     refine bO hh (i := 1) rfl rfl rfl (hh.aE (i := 0) rfl) aG.out az.out rfl (by decide) rfl (by omega) (by omega) (by decide) ?_
     intro A23 c23 w23 hh
     simp only [List.set_cons_zero, List.set_cons_succ] at hh
     replace hh := hh.sub (List.sublist_cons_self _ _)
     refine aL (aF (aZ (aj (aq ?_))))
     refine bJ (mI (aF (aj ?_)))
     refine ⟨⟨k + 1, c23, A23, by omega, rfl, rfl, vX hx hall hok, ?_⟩, by show n - (k + 1) < n - k; omega, ?_⟩
     ·rw [xy (by omega) (by omega), vU hx hok] at hh
      exact hh
     ·(repeat (first | exact ax _ _ _ | refine aA rfl ?_ | refine aw rfl ?_))
  ·obtain rfl : k = n := by omega
   rw [List.take_of_length_le (by omega)] at hall hh
   obtain ⟨e1, e2⟩ := wH hall
   refine sr ?_
   refine aO (ah (ai (cF ?_)))
   refine aY ?_
   refine ay (ay (bg (aj (sr (mL ?_)))))
   refine js aG.out aG.out aG.out rfl (hh.aE (i := 0) rfl) (by decide) ?_
   refine aS (aI (ah (an ?_)))
   refine tT ?_
   rw [e1, e2]
   exact ⟨rfl, hh.below⟩
theorem gP (s : ByteArray) (w : World) (hs : s.size ≤ 100000) :
  Calls Tryz.prog 101 #[.string s] w fun e w' => ∃ A c, e = .returned (.slice A (gC s.data.toList).length c) ∧ w'.ownsRow w.heap.size 3 1 (.slice A (gC s.data.toList).length c) (gC s.data.toList).length (dF (gC s.data.toList)) ∧ Below w.heap.size w w' := by
 have hh := Hp.start w
 have hsz := dA s
 cases hm : eR s.data.toList with
 | false =>
  refine ak (N := 22) (l := [.string s]) Tryz.func101 rfl rfl (by simp) ?_
  refine sr (aL (ah (ai (sr (mS (mS ?_))))))
  refine bo aG.out rfl (by decide) ?_
  refine bB hh (ji s _ (by omega)) rfl ?_
  intro w9 hh
  rw [hm]
  refine eS ?_
  refine ah (cT (sr (aL (ah (an (aC ?_))))))
  refine cf ?_
  rw [vf hm]
  exact ⟨none, 0, rfl, World.ownsRow_nil _ _ _ _, hh.below⟩
 | true =>
  refine ak (N := 22) (l := [.string s]) Tryz.func101 rfl rfl (by simp) ?_
  refine sr (aL (ah (ai (sr (mS (mS ?_))))))
  refine bo aG.out rfl (by decide) ?_
  refine bB hh (ji s _ (by omega)) rfl ?_
  intro w9 hh
  rw [hm]
  refine eS ?_
  refine ah (cF (al (aj (sr (aL (ah (ai (sr (mS ?_)))))))))
  refine pM hh aG.out rfl (by decide) ?_
  intro b12 w12 hh
  skip
  refine ah (ao ?_)
  refine bC [3, 5, 13, 14, 15, 16, 17, 18, 19, 20] 3
   (fun v w' => ∃ (k c' : Nat) (A' : Option Addr), k ≤ s.size ∧ v = .slice A' k c' ∧ Hp w [.row A' k c' 3 1 (dF (ints (s.data.toList.take k))), .it b12 s k] w')
   (fun v _ => s.size - lenOf v) ?_ ?_
  ·exact ⟨0, 0, none, Nat.zero_le _, rfl, hh.er _ _⟩
  ·clear hh
   rintro ρ' v w' ⟨k, c', A', hk, rfl, hh⟩
   by_cases hlt : k < s.size
   ·obtain ⟨c, hc⟩ := aK (l := s.data.toList) (k := k) (by omega)
    have h8 := tQ hm hc
    refine sr ?_
    refine pK hh (i := 1) rfl rfl hc h8 (by decide) ?_
    intro w13 hh
    simp only [List.set_cons_zero, List.set_cons_succ] at hh
    skip
    refine dL ?_
    refine ah (ai (cT (al (aj (ao (sr ?_))))))
    refine dL ?_
    refine aI (ah (aq (mL (mI ?_))))
    refine dx aG.out aG.out rfl (by omega) (by omega) (by decide) ?_
    refine bz hh (cs := [_]) aG.out az.out (bp (bG rfl) cn) rfl rfl (by decide) (by decide) (by decide) rfl (by decide) ?_
    intro b19 w19 hh
    refine bO hh (i := 1) rfl rfl rfl (hh.aE (i := 0) rfl) aG.out az.out rfl (by decide) rfl (by omega) (by omega) (by decide) ?_
    intro A20 c20 w20 hh
    simp only [List.set_cons_zero, List.set_cons_succ] at hh
    replace hh := hh.sub (List.sublist_cons_self _ _)
    refine aL (aF (aZ (aj ?_)))
    rw [mU hc] at hh
    refine ⟨⟨k + 1, c20, A20, by omega, rfl, hh⟩, by show s.size - (k + 1) < s.size - k; omega, ?_⟩
    (repeat (first | exact ax _ _ _ | refine aA rfl ?_ | refine aw rfl ?_))
   ·refine sr ?_
    refine pL hh (i := 1) rfl rfl hlt (by decide) ?_
    skip
    refine dL ?_
    refine ah (ai (cF ?_))
    refine aY ?_
    refine ay (ay (bg (aj (sr (mL (aL (ah (an ?_))))))))
    refine cf ?_
    obtain rfl : k = s.size := by omega
    rw [List.take_of_length_le (by omega)] at hh
    have h1 := hh.at_ (i := 0) rfl
    rw [jP hm, eg, ← hsz]
    exact ⟨A', c', rfl, h1, hh.below⟩
theorem ng (a b : ByteArray) (g : FuncId) (f : Int → Int → Int) (w : World) (ha : a.size ≤ 100000) (hb : b.size ≤ 100000) [ar Tryz.prog g]
  (hg : ∀ (x y : Int) (w : World), 0 ≤ x → x ≤ 127 → 0 ≤ y → y ≤ 127 → Calls Tryz.prog g #[.int .i64 x, .int .i64 y] w fun e w' => e = .returned (.int .i64 (f x y)) ∧ Below w.heap.size w w') :
  Calls Tryz.prog 209 #[.string a, .string b, .func (.func g) #[] #[]] w fun e w' =>
   (gO f a.data.toList b.data.toList = none ∧ e = .returned (.tuple #[.slice none 0 0, .bool false]) ∧ Below w.heap.size w w') ∨
   ∃ l, gO f a.data.toList b.data.toList = some l ∧ l.length = b.size ∧ ∃ A c, e = .returned (.tuple #[.slice A l.length c, .bool true]) ∧ w'.ownsRow w.heap.size 3 1 (.slice A l.length c) l.length (dF l) ∧ Below w.heap.size w w' := by
 have hh := Hp.start w
 have hsa := dA a
 have hsb := dA b
 cases hma : eR a.data.toList with
 | false =>
  refine ak (N := 45) (l := [.string a, .string b, .func (.func g) #[] #[]]) Tryz.func209 rfl rfl (by simp) ?_
  refine sr (aL (aB (ah (sr (mS ?_)))))
  refine aM (gP b _ hb) ar.out rfl (by decide) ?_
  rintro e_ w12 ⟨A12, c12, rfl, hown_, hb_⟩
  refine ⟨_, rfl, ?_⟩
  replace hh := hh.bf (x := .row _ _ _ _ _ _) hb_ hown_
  refine aL (ah (ai (sr (mS (mS ?_)))))
  refine bo aG.out rfl (by decide) ?_
  refine bB hh (ji a _ (by omega)) rfl ?_
  intro w16 hh
  rw [hma]
  refine eS ?_
  refine mB ?_
  first | refine gS ?_ | (refine gT ?_; refine mS ?_) | refine gV ?_
  first | refine gS ?_ | (refine gT ?_; refine mS ?_) | refine gV ?_
  first | refine gS ?_ | (refine gT ?_; refine bo aG.out rfl (by decide) ?_) | refine gV ?_
  refine bZ (by decide) rfl rfl (by decide) ?_
  first | refine gS ?_ | (refine gT ?_; refine eS ?_) | refine gV ?_
  first | refine ct ?_ | refine cu ?_
  refine ah (cT (sr (aL (aB (ah (an (aC ?_)))))))
  refine tT ?_
  exact .inl ⟨by simp [gO, hma], rfl, hh.below⟩
 | true =>
  cases hmb : (eR b.data.toList && decide ((b.size : Int) = a.size)) with
  | false =>
   refine ak (N := 45) (l := [.string a, .string b, .func (.func g) #[] #[]]) Tryz.func209 rfl rfl (by simp) ?_
   refine sr (aL (aB (ah (sr (mS ?_)))))
   refine aM (gP b _ hb) ar.out rfl (by decide) ?_
   rintro e_ w12 ⟨A12, c12, rfl, hown_, hb_⟩
   refine ⟨_, rfl, ?_⟩
   replace hh := hh.bf (x := .row _ _ _ _ _ _) hb_ hown_
   refine aL (ah (ai (sr (mS (mS ?_)))))
   refine bo aG.out rfl (by decide) ?_
   refine bB hh (ji a _ (by omega)) rfl ?_
   intro w16 hh
   rw [hma]
   refine eS ?_
   refine mB ?_
   first | refine gS ?_ | (refine gT ?_; refine mS ?_) | refine gV ?_
   first | refine gS ?_ | (refine gT ?_; refine mS ?_) | refine gV ?_
   first | refine gS ?_ | (refine gT ?_; refine bo aG.out rfl (by decide) ?_) | refine gV ?_
   refine a8 rfl rfl ?_
   refine bB hh (iq b _ _ (by omega)) rfl ?_
   intro w22 hh
   rw [hmb]
   first | refine gS ?_ | (refine gT ?_; refine eS ?_) | refine gV ?_
   first | refine ct ?_ | refine cu ?_
   refine ah (cT (sr (aL (aB (ah (an (aC ?_)))))))
   refine tT ?_
   have : (eR b.data.toList && decide ((b.data.toList.length : Int) = a.data.toList.length)) = false := by rw [← hsa, ← hsb]; exact hmb
   exact .inl ⟨by simp only [gO, hma, this]; rfl, rfl, hh.below⟩
  | true =>
   have hmb2 := hmb
   simp only [Bool.and_eq_true, decide_eq_true_eq] at hmb2
   have hbl : gO f a.data.toList b.data.toList = some (List.zipWith f (ints a.data.toList) (ints b.data.toList)) := by
    have : (eR b.data.toList && decide ((b.data.toList.length : Int) = a.data.toList.length)) = true := by rw [← hsa, ← hsb]; exact hmb
    simp only [gO, hma, this]; rfl
   have hea := jP hma
   have heb := jP hmb2.1
   have hlab : (ints a.data.toList).length = (ints b.data.toList).length := by rw [eg, eg]; omega
   have hlb := eg b.data.toList
   have hla := eg a.data.toList
   have hA := gP a
   have hB := gP b
   rw [hea] at hA
   rw [heb] at hB
   generalize hia : ints a.data.toList = ia at *
   generalize hib : ints b.data.toList = ib at *
   have bda : ∀ (k : Nat) (x : Int), ia[k]? = some x → 0 ≤ x ∧ x ≤ 127 := fun k x h => tM (l := a.data.toList) (by rw [hea]; exact h)
   have bdb : ∀ (k : Nat) (x : Int), ib[k]? = some x → 0 ≤ x ∧ x ≤ 127 := fun k x h => tM (l := b.data.toList) (by rw [heb]; exact h)
   clear hea heb
   refine ak (N := 45) (l := [.string a, .string b, .func (.func g) #[] #[]]) Tryz.func209 rfl rfl (by simp) ?_
   refine sr (aL (aB (ah (sr (mS ?_)))))
   refine aM (hB _ hb) ar.out rfl (by decide) ?_
   rintro e_ w12 ⟨A12, c12, rfl, hown_, hb_⟩
   refine ⟨_, rfl, ?_⟩
   replace hh := hh.bf (x := .row _ _ _ _ _ _) hb_ hown_
   refine aL (ah (ai (sr (mS (mS ?_)))))
   refine bo aG.out rfl (by decide) ?_
   refine bB hh (ji a _ (by omega)) rfl ?_
   intro w16 hh
   rw [hma]
   refine eS ?_
   refine mB ?_
   first | refine gS ?_ | (refine gT ?_; refine mS ?_) | refine gV ?_
   first | refine gS ?_ | (refine gT ?_; refine mS ?_) | refine gV ?_
   first | refine gS ?_ | (refine gT ?_; refine bo aG.out rfl (by decide) ?_) | refine gV ?_
   refine a8 rfl rfl ?_
   refine bB hh (iq b _ _ (by omega)) rfl ?_
   intro w22 hh
   rw [hmb]
   first | refine gS ?_ | (refine gT ?_; refine eS ?_) | refine gV ?_
   first | refine ct ?_ | refine cu ?_
   refine ah (cF (al (aj (ai (sr (mS ?_))))))
   refine aM (hA _ ha) ar.out rfl (by decide) ?_
   rintro e_ w26 ⟨A26, c26, rfl, hown_, hb_⟩
   refine ⟨_, rfl, ?_⟩
   replace hh := hh.bf (x := .row _ _ _ _ _ _) hb_ hown_
   refine a3 (mI (ah (ao ?_)))
   refine bC [9, 10, 28, 29, 30, 31, 32, 33, 34, 35, 36, 37, 38, 39, 40, 41, 42, 43] 28
    (fun i w' => ∃ k : Nat, k ≤ ib.length ∧ i = .int .i64 k ∧ Hp w [.row A26 ia.length c26 3 1 (dF ia), .row A12 ib.length c12 3 1 (dF (jr f ia ib k))] w')
    (fun i _ => ib.length - (intOf i).toNat) ?_ ?_
   ·exact ⟨0, Nat.zero_le _, rfl, by rw [vD]; exact hh⟩
   ·clear hh hown_ hb_
    rintro ρ' i w' ⟨k, hk, rfl, hh⟩
    by_cases hlt : k < ib.length
    ·obtain ⟨x, hx⟩ := aK (l := ia) (k := k) (by omega)
     obtain ⟨y, hy⟩ := aK hlt
     have bx := bda k x hx
     have byy := bdb k y hy
     have hx2 := fL hx
     have hy2 := fL (yb (f := f) hlab hy)
     have hml := wT (f := f) hlab hk
     have hml2 := eL (jr f ia ib k)
     obtain ⟨ga, rfl⟩ := hh.gG (i := 0) rfl (by omega)
     obtain ⟨gb, rfl⟩ := hh.gG (i := 1) rfl (by omega)
     refine sr ?_
     refine aO (ah (ai (cT (al (aj (ai (ao (sr (mI ?_)))))))))
     refine bj aG.out az.size rfl rfl rfl (by omega) (by decide) ?_
     refine bF az.out rfl (hh.cG (i := 0) rfl (by first | assumption | (simp only [Nat.mul_one]; assumption))) (by decide) ?_
     refine aI (aI (ah (aq (mL (mI ?_)))))
     refine fC (by first | exact gu rfl | exact ev_nilf rfl) (by decide) ?_
     refine mI (mL (mI ?_))
     refine bj aG.out az.size rfl rfl rfl (by omega) (by decide) ?_
     refine bF az.out rfl (hh.cG (i := 1) rfl (by first | assumption | (simp only [Nat.mul_one]; assumption))) (by decide) ?_
     refine fe (hg x y _ bx.1 bx.2 byy.1 byy.2) ar.out rfl rfl (by decide) ?_
     rintro e_ w41 ⟨rfl, hb_⟩
     refine ⟨_, rfl, ?_⟩
     replace hh := hh.ext hb_
     refine bj aG.out az.size rfl rfl rfl (by omega) (by decide) ?_
     refine bq hh (i := 1) (vs := [_]) rfl rfl (bG rfl) rfl az.out rfl (by omega) rfl ?_
     intro ws hh
     simp only [List.set_cons_zero, List.set_cons_succ] at hh
     refine aF (aZ (aj (aq ?_)))
     refine bJ (mI (aF (aj ?_)))
     rw [Nat.mul_one, wB hlab hx hy] at hh
     refine ⟨⟨k + 1, by omega, rfl, hh⟩, by show _ - (k + 1) < _ - k; omega, ?_⟩
     (repeat (first | exact ax _ _ _ | refine aA rfl ?_ | refine aw rfl ?_))
    ·refine sr ?_
     refine aO (ah (ai (cF ?_)))
     refine aY ?_
     refine ay (ay (bg (aj (sr (mL (aL (aB (ah (an ?_)))))))))
     refine tT ?_
     obtain rfl : k = ib.length := by omega
     rw [uX hlab] at hh
     have h1 := hh.at_ (i := 1) rfl
     have hzl : (List.zipWith f ia ib).length = ib.length := by simp [hlab]
     refine .inr ⟨_, hbl, by omega, A12, c12, ?_⟩
     rw [hzl]
     exact ⟨rfl, h1, hh.below⟩
theorem uv (a b : ByteArray) (g : FuncId) (f : Int → Int → Int) (w : World) (ha : a.size ≤ 100000) (hb : b.size ≤ 100000) [ar Tryz.prog g]
  (hg : ∀ (x y : Int) (w : World), 0 ≤ x → x ≤ 127 → 0 ≤ y → y ≤ 127 → Calls Tryz.prog g #[.int .i64 x, .int .i64 y] w fun e w' => e = .returned (.int .i64 (f x y)) ∧ Below w.heap.size w w')
  (h : gO f a.data.toList b.data.toList = none) :
  Calls Tryz.prog 209 #[.string a, .string b, .func (.func g) #[] #[]] w fun e w' => e = .returned (.tuple #[.slice none 0 0, .bool false]) ∧ Below w.heap.size w w' :=
 (ng a b g f w ha hb hg).mono fun e w' hq => by
  rcases hq with hq | ⟨l, hl, _⟩
  ·exact hq.2
  ·rw [h] at hl; cases hl
theorem um (a b : ByteArray) (g : FuncId) (f : Int → Int → Int) (w : World) (ha : a.size ≤ 100000) (hb : b.size ≤ 100000) [ar Tryz.prog g]
  (hg : ∀ (x y : Int) (w : World), 0 ≤ x → x ≤ 127 → 0 ≤ y → y ≤ 127 → Calls Tryz.prog g #[.int .i64 x, .int .i64 y] w fun e w' => e = .returned (.int .i64 (f x y)) ∧ Below w.heap.size w w')
  {l : List Int} (h : gO f a.data.toList b.data.toList = some l) :
  Calls Tryz.prog 209 #[.string a, .string b, .func (.func g) #[] #[]] w fun e w' => ∃ A c, e = .returned (.tuple #[.slice A l.length c, .bool true]) ∧ w'.ownsRow w.heap.size 3 1 (.slice A l.length c) l.length (dF l) ∧ Below w.heap.size w w' :=
 (ng a b g f w ha hb hg).mono fun e w' hq => by
  rcases hq with ⟨hn, _⟩ | ⟨l', hl, _, hq⟩
  ·rw [h] at hn; cases hn
  ·rw [h] at hl; injection hl with hl; subst hl; exact hq
theorem ud {f : Int → Int → Int} {a b : List UInt8} {l : List Int} (h : gO f a b = some l) : l.length ≤ b.length := by
 unfold gO at h
 split at h
 ·injection h with h; subst h; simp [ints]; omega
 ·cases h
theorem mW (x y : Int) (w : World) (h1 : 0 ≤ x) (h2 : x ≤ 127) (h3 : 0 ≤ y) (h4 : y ≤ 127) :
  Calls Tryz.prog 210 #[.int .i64 x, .int .i64 y] w fun e w' => e = .returned (.int .i64 (x + y)) ∧ Below w.heap.size w w' := by
 refine ak (N := 8) (l := [.int .i64 x, .int .i64 y]) Tryz.func210 rfl rfl (by simp) ?_
 refine sr (aI (ah (sr (mI (mI ?_)))))
 refine bJ (aI (ah (an ?_)))
 refine cf ?_
 exact ⟨rfl, Below.refl _ _⟩
theorem uA (a b : ByteArray) (w : World) (ha : a.size ≤ 100000) (hb : b.size ≤ 100000) :
  Calls Tryz.prog 175 #[.string a, .string b] w fun e w' => e = .returned (.tuple #[.string (str (mulL a.data.toList b.data.toList).1), .int .i64 (mulL a.data.toList b.data.toList).2]) ∧ Below w.heap.size w w' := by
 have hh := Hp.start w
 have hsb := dA b
 cases hbo : gO (· + ·) a.data.toList b.data.toList with
 | none =>
  refine ak (N := 20) (l := [.string a, .string b]) Tryz.func175 rfl rfl (by simp) ?_
  refine sr (aS (aI (ah (sr (mS (mS ?_))))))
  refine bB hh (uv a b _ _ _ ha hb mW hbo) rfl ?_
  intro w11 hh
  refine mT ?_
  refine dL ?_
  refine dL ?_
  refine aL (aB (ah (ai (sr (mB ?_)))))
  refine eS ?_
  refine ah (cT (sr (aS (aI (ah (an (aC ?_)))))))
  refine tT ?_
  simp only [mulL, hbo]
  first | exact ⟨rfl, hh.below⟩ | exact ⟨trivial, hh.below⟩
 | some l =>
  have hl := ud hbo
  refine ak (N := 20) (l := [.string a, .string b]) Tryz.func175 rfl rfl (by simp) ?_
  refine sr (aS (aI (ah (sr (mS (mS ?_))))))
  refine aM (um a b _ _ _ ha hb mW hbo) ar.out rfl (by decide) ?_
  rintro e_ w11 ⟨A11, c11, rfl, hown_, hb_⟩
  refine ⟨_, rfl, ?_⟩
  replace hh := hh.bf (x := .row _ _ _ _ _ _) hb_ hown_
  refine mT ?_
  refine dL ?_
  refine dL ?_
  refine aL (aB (ah (ai (sr (mB ?_)))))
  refine eS ?_
  refine ah (cF (al (aj (sr (mL ?_)))))
  refine bB hh (vz _ _ _ _ _ (hh.aE (i := 0) rfl) (by omega)) rfl ?_
  intro w17 hh
  refine dL ?_
  refine dL ?_
  refine aS (aI (ah (an ?_)))
  refine tT ?_
  simp only [mulL, hbo]
  first | exact ⟨rfl, hh.below⟩ | exact ⟨trivial, hh.below⟩
end Go.Proofs.YtkgdagjklakajaaGreatDoor
/- The walks through poly.few and poly.Check. -/
namespace Go.Proofs.YtkgdagjklakajaaGreatDoor
open Go.RowKit
def fA (v : Int) : Bool := decide (0 ≤ v) && decide (v ≤ 12)
theorem dw {v : Int} : fA v = true ↔ 0 ≤ v ∧ v ≤ 12 := by unfold fA; rw [Bool.and_eq_true, decide_eq_true_eq, decide_eq_true_eq]
theorem jJ (v : Int) (w : World) : Calls Tryz.prog 89 #[.int .i64 v] w fun r w' => r = .returned (.bool (fA v)) ∧ Below w.heap.size w w' := by
 have hh := Hp.start w
 unfold fA
 by_cases h1 : 0 ≤ v
 ·rw [decide_eq_true h1, Bool.true_and]
  by_cases h2 : v ≤ 12
  ·rw [decide_eq_true h2]
   refine ak (N := 9) (l := [.int .i64 v]) Tryz.func89 rfl rfl (by simp) ?_
   refine sr (aB (ah (sr (mI ?_))))
   refine cP (mB ?_)
   first | refine gS ?_ | (refine gT ?_; refine mI ?_) | refine gV ?_
   first | refine gS ?_ | (refine gT ?_; refine yG ?_) | refine gV ?_
   first | refine ct ?_ | refine cu ?_
   refine aB (ah (an ?_))
   refine cf ?_
   exact ⟨rfl, hh.below⟩
  ·rw [decide_eq_false h2]
   refine ak (N := 9) (l := [.int .i64 v]) Tryz.func89 rfl rfl (by simp) ?_
   refine sr (aB (ah (sr (mI ?_))))
   refine cP (mB ?_)
   first | refine gS ?_ | (refine gT ?_; refine mI ?_) | refine gV ?_
   first | refine gS ?_ | (refine gT ?_; refine yG ?_) | refine gV ?_
   first | refine ct ?_ | refine cu ?_
   refine aB (ah (an ?_))
   refine cf ?_
   exact ⟨rfl, hh.below⟩
 ·rw [decide_eq_false h1, Bool.false_and]
  refine ak (N := 9) (l := [.int .i64 v]) Tryz.func89 rfl rfl (by simp) ?_
  refine sr (aB (ah (sr (mI ?_))))
  refine cP (mB ?_)
  first | refine gS ?_ | (refine gT ?_; refine mI ?_) | refine gV ?_
  first | refine gS ?_ | (refine gT ?_; refine yG ?_) | refine gV ?_
  first | refine ct ?_ | refine cu ?_
  refine aB (ah (an ?_))
  refine cf ?_
  exact ⟨rfl, hh.below⟩
def zp (a : NR) : Bool := decide ((nR a.d).neg = a.neg) && (decide ((nR a.d).bV = a.bV) && decide ((nR a.d).e = a.e))
theorem jF (a : NR) : zp a = true ↔ nR a.d = a := by
 unfold zp
 rw [Bool.and_eq_true, Bool.and_eq_true, decide_eq_true_eq, decide_eq_true_eq, decide_eq_true_eq]
 constructor
 ·rintro ⟨h1, h2, h3⟩
  obtain ⟨s, m, e⟩ := a
  generalize nR (NR.d ⟨s, m, e⟩) = b at *
  obtain ⟨s', m', e'⟩ := b
  simp only at h1 h2 h3
  rw [h1, h2, h3]
 ·intro h
  rw [h]
  exact ⟨rfl, rfl, rfl⟩
def fY (v : Int) (t : TR) : Bool := eR t.m.data.toList && decide ((t.m.size : Int) = v) && (jV t && zp t.c)
def kp : List TR → Bool
 | [] => true
 | [_] => true
 | a :: b :: l => fc a.m b.m && kp (b :: l)
theorem lf : ∀ (l : List TR) (p x : TR), kp (l ++ [p, x]) = (kp (l ++ [p]) && fc p.m x.m)
 | [], p, x => by show (fc p.m x.m && true) = (true && fc p.m x.m); rw [Bool.and_true, Bool.true_and]
 | [a], p, x => by
  show (fc a.m p.m && (fc p.m x.m && true)) = ((fc a.m p.m && true) && fc p.m x.m)
  rw [Bool.and_true, Bool.and_true]
 | a :: b :: l, p, x => by
  show (fc a.m b.m && kp ((b :: l) ++ [p, x])) = ((fc a.m b.m && kp ((b :: l) ++ [p])) && fc p.m x.m)
  rw [lf (b :: l) p x, Bool.and_assoc]
theorem tv : ∀ {l : List TR} {i : Nat} {p x : TR}, kp l = true → l[i]? = some p → l[i + 1]? = some x → fc p.m x.m = true
 | [], i, p, x, _, h, _ => by simp at h
 | [a], i, p, x, _, _, h => by simp at h
 | a :: b :: l, 0, p, x, h, h1, h2 => by
  simp only [List.getElem?_cons_zero, Option.some.injEq, Nat.zero_add, List.getElem?_cons_succ] at h1 h2
  subst h1 h2
  exact (Bool.and_eq_true_iff.1 h).1
 | a :: b :: l, i + 1, p, x, h, h1, h2 => by
  rw [List.getElem?_cons_succ] at h1 h2
  exact tv (Bool.and_eq_true_iff.1 h).2 h1 h2
theorem ks : ∀ {l : List TR}, kp l = true ↔ nN l
 | [] => ⟨fun _ => List.Pairwise.nil, fun _ => rfl⟩
 | [a] => ⟨fun _ => List.pairwise_singleton _ _, fun _ => rfl⟩
 | a :: b :: l => by
  show (fc a.m b.m && kp (b :: l)) = true ↔ _
  rw [Bool.and_eq_true, ks (l := b :: l)]
  constructor
  ·rintro ⟨h1, h2⟩
   refine List.pairwise_cons.2 ⟨fun t ht => ?_, h2⟩
   rcases List.mem_cons.1 ht with rfl | ht
   ·exact h1
   ·exact gw h1 ((List.pairwise_cons.1 h2).1 t ht)
  ·intro h
   have := List.pairwise_cons.1 h
   exact ⟨this.1 b List.mem_cons_self, this.2⟩
def okB (v : Int) (ts : List TR) : Bool := ts.all (fY v) && kp ts
def gj (v : Int) (ts : List TR) : Int := if fA v = false then 1 else if 4096 < ts.length then 3 else if okB v ts = true then 0 else 1
theorem qU {v : Int} {ts : List TR} (h1 : fA v = true) (h2 : ¬ 4096 < ts.length) (h : okB v ts = false) : gj v ts = 1 := by
 unfold gj
 rw [if_neg (by rw [h1]; decide), if_neg h2, if_neg (by rw [h]; decide)]
theorem jM {v : Int} {ts : List TR} {i : Nat} {x : TR} (hx : ts[i]? = some x) (h : fY v x = false) : okB v ts = false := by
 unfold okB
 rw [Bool.and_eq_false_iff]
 refine .inl (Bool.eq_false_iff.2 fun h2 => ?_)
 rw [List.all_eq_true.1 h2 x (List.mem_of_getElem? hx)] at h
 cases h
theorem qI {v : Int} {ts : List TR} {i : Nat} {p x : TR} (hp : ts[i]? = some p) (hx : ts[i + 1]? = some x) (h : fc p.m x.m = false) : okB v ts = false := by
 unfold okB
 rw [Bool.and_eq_false_iff]
 refine .inr (Bool.eq_false_iff.2 fun h2 => ?_)
 rw [tv h2 hp hx] at h
 cases h
theorem kJ (v : Int) (A : Option Addr) (n c : Nat) (ts : List TR) (w : World) (hT : gQ w) (hS : Sl w A n 4 (a6 TR.cells ts)) (hn : n ≤ 1000000) (ho : ∀ t ∈ ts, t.c.ok ∧ t.m.size ≤ 100000) :
  Calls Tryz.prog 21 #[.agg #[.int .i64 v, .slice A n c]] w fun r w' => r = .returned (.int .i64 (gj v ts)) ∧ Below w.heap.size w w' := by
 have hh := Hp.start w
 have hln := hS.cd TR.len (by decide)
 have hfw := fun w1 => jJ v w1
 cases hf : fA v with
 | false =>
  rw [hf] at hfw
  rw [show gj v ts = 1 by unfold gj; rw [if_pos hf]]
  refine ak (N := 58) (l := [.agg #[.int .i64 v, .slice A n c]]) Tryz.func21 rfl rfl (by simp) ?_
  refine sr ?_
  refine cR hh [_,_] ?_
  intro b1 w1 hh
  refine aI (ah (ai (sr (bH ?_))))
  refine bK hh 0 ?_
  refine bB hh (hfw _) rfl ?_
  intro w7 hh
  refine eS ?_
  refine ah (cT (sr (aI (ah (an (aC ?_))))))
  refine cf ?_
  exact ⟨rfl, hh.below⟩
 | true =>
  rw [hf] at hfw
  by_cases h4 : 4096 < n
  ·rw [show gj v ts = 3 by unfold gj; rw [if_neg (by rw [hf]; decide), if_pos (by omega)]]
   refine ak (N := 58) (l := [.agg #[.int .i64 v, .slice A n c]]) Tryz.func21 rfl rfl (by simp) ?_
   refine sr ?_
   refine cR hh [_,_] ?_
   intro b1 w1 hh
   refine aI (ah (ai (sr (bH ?_))))
   refine bK hh 0 ?_
   refine bB hh (hfw _) rfl ?_
   intro w7 hh
   refine eS ?_
   refine ah (cF (al (aj (ai (sr (bH ?_))))))
   refine bK hh 0 ?_
   refine a3 ?_
   refine bQ (ah (cT (sr (aI (ah (an (aC ?_)))))))
   refine cf ?_
   exact ⟨rfl, hh.below⟩
  ·have hbad := fun h => qU (v := v) (ts := ts) hf (by omega) h
   refine ak (N := 58) (l := [.agg #[.int .i64 v, .slice A n c]]) Tryz.func21 rfl rfl (by simp) ?_
   refine sr ?_
   refine cR hh [_,_] ?_
   intro b1 w1 hh
   refine aI (ah (ai (sr (bH ?_))))
   refine bK hh 0 ?_
   refine bB hh (hfw _) rfl ?_
   intro w7 hh
   refine eS ?_
   refine ah (cF (al (aj (ai (sr (bH ?_))))))
   refine bK hh 0 ?_
   refine a3 ?_
   refine bQ (ah (cF (al (aj (ai (sr (bH ?_)))))))
   refine bK hh 0 ?_
   refine a3 (mI (ah (ao ?_)))
   refine bC [2, 3, 4, 16, 17, 18, 19, 20, 21, 22, 23, 24, 25, 26, 27, 28, 29, 30, 31, 32, 33, 34, 35, 36, 37, 38, 39, 40, 41, 42, 43, 44, 45, 46, 47, 48, 49, 50, 51, 52, 53, 54, 55, 56, 57] 16
    (fun x w' => ∃ i : Nat, i ≤ n ∧ x = .int .i64 i ∧ (ts.take i).all (fY v) = true ∧ kp (ts.take i) = true ∧ Hp w [.blk b1 31 [.int .i64 v, .slice A n c] (0, 0)] w')
    (fun x _ => n - (intOf x).toNat) ?_ ?_
   ·exact ⟨0, Nat.zero_le _, rfl, rfl, rfl, hh⟩
   ·clear hh
    rintro ρ' x_ w' ⟨i, hi, rfl, hall, hris, hh⟩
    by_cases hlt : i < n
    ·obtain ⟨x, hx⟩ := aK (l := ts) (k := i) (by omega)
     obtain ⟨ad, rfl, hr⟩ := hS.at_ (by omega)
     obtain ⟨hxo, hxm⟩ := ho x (List.mem_of_getElem? hx)
     have hmay := fun w1 => iq x.m v w1 (by omega)
     have hsg := fun w1 => lU x.c w1
     have hfo := fun w1 hT1 => eh x.c w1 hT1 (by have := hxo.1; omega) (by have := hxo.2.1; omega) (by have := hxo.2.2; omega)
     have hzz : x.c.i.sign = 0 ↔ x.c.d = 0 := by
      rw [Int.sign_eq_zero_iff_zero]
      exact ⟨fun h => by unfold NR.d; rw [h]; rfl, fX⟩
     cases hm : eR x.m.data.toList && decide ((x.m.size : Int) = v) with
     | false =>
      rw [hm] at hmay
      rw [hbad (jM hx (by unfold fY; rw [hm]; rfl))]
      refine sr ?_
      refine aO (ah (ai (cT (al (aj (ai (ao (sr (mI ?_)))))))))
      refine aV (k := i) aG.out az.size rfl rfl (by omega) (by omega) (by decide) ?_
      refine bR (vs := [_, _, _, _]) az.out rfl ((hr.ext hh.below).recAt TR.len hx) rfl (by decide) ?_
      refine cg hh ?_
      intro b4 w4 hh
      refine aI ?_
      refine bE hh 0 [_,_,_,_] ?_
      intro ws hh
      replace hh : Hp _ (.blk _ _ [_, _, _, _] _ :: _) _ := hh
      refine ah (ai ?_)
      refine cH [] [] [0, 1, 0, 4, 15, 31, 63, 127, 255, 511, 1023, 2047, 4095, 8191, 16383, 32767, 8191, 73727, 262143, 524287, 1048575, 2097151, 4194303, 8388607, 16777215, 33554431, 16777215, 83886079, 268435455, 536870911, 1073741823, 16777215, 2164260863, 8589934591, 17179869183, 34359738367] 33 [[(4, none)], [(21, some 0)], [(1, none)], [(23, some 2)], [(22, some 1), (24, some 3)], [(25, some 4)], [(26, some 5)], [(4, none), (27, some 6)], [(28, some 7), (27, some 6)], [(29, some 8), (27, some 6)], [(30, some 9), (27, some 6)], [(27, some 6), (31, some 10)], [(32, some 11)], [(4, none), (33, some 12)], [(34, some 13), (33, some 12)], [(35, some 14), (33, some 12)], [(4, none), (33, some 12)], [(37, some 16), (33, some 12)], [(36, some 15), (38, some 17), (33, some 12)], [(33, some 12), (39, some 18)], [(40, some 19)], [(3, none), (41, some 20)], [(42, some 21), (41, some 20)], [(43, some 22), (41, some 20)], [(1, none), (44, some 23)], [(45, some 24), (44, some 23)], [(3, none), (44, some 23)], [(47, some 26), (44, some 23)], [(46, some 25), (48, some 27), (44, some 23)], [(49, some 28), (44, some 23)], [(50, some 29), (44, some 23)], [(4, none), (44, some 23)], [(52, some 31), (44, some 23)]] [(32, 53), (31, 52), (30, 51), (29, 50), (28, 49), (27, 48), (26, 47), (25, 46), (24, 45), (23, 44), (22, 43), (21, 42), (20, 41), (19, 40), (18, 39), (17, 38), (16, 37), (15, 36), (14, 35), (13, 34), (12, 33), (11, 32), (10, 31), (9, 30), (8, 29), (7, 28), (6, 27), (5, 26), (4, 25), (3, 24), (2, 23), (1, 22), (0, 21)] hh mixed (by kernel_rfl) dg rfl (by repeat (first | exact bM | refine br ?_ | refine bL ?_)) ?_
      refine cv ?_
      refine dH 0 ?_
      refine cv ?_
      refine dH 1 ?_
      refine dC (fun _ hj => hmay _) ?_
      refine lY ?_
      refine fQ ?_
      first | refine dS ?_ | refine dU ?_ | refine dG (cv ?_)
      first | refine dS ?_ | refine dU ?_ | refine dG (ec 0 [_,_,_] ?_)
      first | refine dS ?_ | refine dU ?_
      first | refine dS ?_ | refine dU ?_ | refine dG (jn ?_)
      first | refine k0 ?_ | refine kZ ?_
      refine fQ ?_
      first | refine dS ?_ | refine dU ?_ | refine dG (cv ?_)
      first | refine dS ?_ | refine dU ?_ | refine dG (ec 0 [_,_,_] ?_)
      first | refine dS ?_ | refine dU ?_
      first | refine dS ?_ | refine dU ?_ | refine dG (cv ?_)
      first | refine dS ?_ | refine dU ?_ | refine dG (ec 0 [_,_,_] ?_)
      first | refine eI (i := 18) rfl (fun ρ1 w1 hj hR => (show ρ1 33 = Value.bool _ from hR.2.2.1)) (by decide) ?_ | refine dN (i := 18) rfl (fun ρ1 w1 hj hR => (show ρ1 33 = undef from hR.2.2.1)) ?_ | refine dr (i := 18) rfl (fun ρ1 w1 hj hR => (show ρ1 33 = Value.bool _ from hR.2.2.1)) (fun ρ1 w1 hj hR => iQ (show ρ1 36 = Value.agg (List.toArray _) from hR.1) (show ρ1 38 = Value.agg (List.toArray _) from hR.2.1) (by first | assumption | rfl)) ?_ | refine dr (i := 18) rfl (fun ρ1 w1 hj hR => (show ρ1 33 = Value.bool _ from hR.2.2.1)) (fun ρ1 w1 hj hR => ja (show ρ1 36 = Value.agg (List.toArray _) from hR.1) (show ρ1 38 = Value.agg (List.toArray _) from hR.2.1) (by assumption)) ?_
      first | refine k0 ?_ | refine kZ ?_
      refine fQ ?_
      first | refine dS ?_ | refine dU ?_ | refine dG (dP ?_)
      first | refine dS ?_ | refine dU ?_ | refine dG (pG ?_)
      first | refine dS ?_ | refine dU ?_ | refine dG (fQ ?_)
      first | refine dS ?_ | refine dU ?_ | refine dG (cv ?_)
      first | refine dS ?_ | refine dU ?_ | refine dG (dH 1 ?_)
      first | refine dS ?_ | refine dU ?_ | refine dG (dP ?_)
      first | refine dS ?_ | refine dU ?_ | refine dG (j7 ?_)
      first | refine eI (i := 28) rfl (fun ρ1 w1 hj hR => (show ρ1 44 = Value.bool _ from hR.2.2.1)) (by decide) ?_ | refine dN (i := 28) rfl (fun ρ1 w1 hj hR => (show ρ1 44 = undef from hR.2.2.1)) ?_ | refine dr (i := 28) rfl (fun ρ1 w1 hj hR => (show ρ1 44 = Value.bool _ from hR.2.2.1)) (fun ρ1 w1 hj hR => dZ aG.out az.size (show ρ1 46 = Value.slice _ _ _ from hR.1) (show ρ1 48 = Value.int _ _ from hR.2.1) rfl (by omega)) ?_
      first | refine dS ?_ | refine dU ?_ | refine dG (oc ?_)
      first | refine dS ?_ | refine dU ?_ | refine dG (jd (fun _ hj => hT) ?_)
      first | refine dS ?_ | refine dU ?_ | refine dG (cv ?_)
      first | refine dS ?_ | refine dU ?_ | refine dG (dH 0 ?_)
      refine a0 ?_
      intro f W hJ hV _
      have hb_8 := hJ.bl
      obtain ⟨v53, v52, v51, v50, v49, v48, v47, v46, v45, v44, v43, v42, v41, v40, v39, v38, v37, v36, v35, v34, v33, v32, v31, v30, v29, v28, v27, v26, v25, v24, v23, v22, v21, _⟩ := hV
      replace hh := hJ.hp
      refine aR (a5 (aa v53 (aa v52 (aa v51 (aa v50 (aa v49 (aa v48 (aa v47 (aa v46 (aa v45 (aa v44 (aa v43 (aa v42 (aa v41 (aa v40 (aa v39 (aa v38 (aa v37 (aa v36 (aa v35 (aa v34 (aa v33 (aa v32 (aa v31 (aa v30 (aa v29 (aa v28 (aa v27 (aa v26 (aa v25 (aa v24 (aa v23 (aa v22 (aa v21 aQ)))))))))))))))))))))))))))))))))) ?_
      dsimp only [bX]
      clear hJ
      first | refine gS ?_ | (refine gT ?_; refine eP rfl rfl (by decide) ?_) | refine gV ?_
      first | refine gS ?_ | (refine gT ?_; (first | refine ct ?_ | refine cu ?_)) | refine gV ?_
      first | refine ct ?_ | refine cu ?_
      refine ah (cT (sr (aI (ah (an (bP (aC (aC (bP (aC ?_))))))))))
      refine cf ?_
      exact ⟨rfl, hh.below⟩
     | true =>
      rw [hm] at hmay
      by_cases hz : x.c.d = 0
      ·have hs := hzz.2 hz
       rw [hbad (jM hx (by unfold fY jV; rw [hm, decide_eq_true hz]; rfl))]
       refine sr ?_
       refine aO (ah (ai (cT (al (aj (ai (ao (sr (mI ?_)))))))))
       refine aV (k := i) aG.out az.size rfl rfl (by omega) (by omega) (by decide) ?_
       refine bR (vs := [_, _, _, _]) az.out rfl ((hr.ext hh.below).recAt TR.len hx) rfl (by decide) ?_
       refine cg hh ?_
       intro b4 w4 hh
       refine aI ?_
       refine bE hh 0 [_,_,_,_] ?_
       intro ws hh
       replace hh : Hp _ (.blk _ _ [_, _, _, _] _ :: _) _ := hh
       refine ah (ai ?_)
       refine cH [] [] [0, 1, 0, 4, 15, 31, 63, 127, 255, 511, 1023, 2047, 4095, 8191, 16383, 32767, 8191, 73727, 262143, 524287, 1048575, 2097151, 4194303, 8388607, 16777215, 33554431, 16777215, 83886079, 268435455, 536870911, 1073741823, 16777215, 2164260863, 8589934591, 17179869183, 34359738367] 33 [[(4, none)], [(21, some 0)], [(1, none)], [(23, some 2)], [(22, some 1), (24, some 3)], [(25, some 4)], [(26, some 5)], [(4, none), (27, some 6)], [(28, some 7), (27, some 6)], [(29, some 8), (27, some 6)], [(30, some 9), (27, some 6)], [(27, some 6), (31, some 10)], [(32, some 11)], [(4, none), (33, some 12)], [(34, some 13), (33, some 12)], [(35, some 14), (33, some 12)], [(4, none), (33, some 12)], [(37, some 16), (33, some 12)], [(36, some 15), (38, some 17), (33, some 12)], [(33, some 12), (39, some 18)], [(40, some 19)], [(3, none), (41, some 20)], [(42, some 21), (41, some 20)], [(43, some 22), (41, some 20)], [(1, none), (44, some 23)], [(45, some 24), (44, some 23)], [(3, none), (44, some 23)], [(47, some 26), (44, some 23)], [(46, some 25), (48, some 27), (44, some 23)], [(49, some 28), (44, some 23)], [(50, some 29), (44, some 23)], [(4, none), (44, some 23)], [(52, some 31), (44, some 23)]] [(32, 53), (31, 52), (30, 51), (29, 50), (28, 49), (27, 48), (26, 47), (25, 46), (24, 45), (23, 44), (22, 43), (21, 42), (20, 41), (19, 40), (18, 39), (17, 38), (16, 37), (15, 36), (14, 35), (13, 34), (12, 33), (11, 32), (10, 31), (9, 30), (8, 29), (7, 28), (6, 27), (5, 26), (4, 25), (3, 24), (2, 23), (1, 22), (0, 21)] hh mixed (by kernel_rfl) dg rfl (by repeat (first | exact bM | refine br ?_ | refine bL ?_)) ?_
       refine cv ?_
       refine dH 0 ?_
       refine cv ?_
       refine dH 1 ?_
       refine dC (fun _ hj => hmay _) ?_
       refine lY ?_
       refine fQ ?_
       first | refine dS ?_ | refine dU ?_ | refine dG (cv ?_)
       first | refine dS ?_ | refine dU ?_ | refine dG (ec 0 [_,_,_] ?_)
       refine bs (i := 9) rfl (fun ρ1 w1 hj hR => (show ρ1 27 = Value.bool _ from hR.2.1)) (fun ρ1 w1 hj hR => a7 ar.out (aD (show ρ1 29 = Value.agg (List.toArray _) from hR.1) a9)) (fun w1 hj => hsg _) ?_
       first | refine dS ?_ | refine dU ?_ | refine dG (jn ?_)
       first | refine k0 ?_ | refine kZ ?_
       refine fQ ?_
       first | refine dS ?_ | refine dU ?_ | refine dG (cv ?_)
       first | refine dS ?_ | refine dU ?_ | refine dG (ec 0 [_,_,_] ?_)
       first | refine dS ?_ | refine dU ?_
       first | refine dS ?_ | refine dU ?_ | refine dG (cv ?_)
       first | refine dS ?_ | refine dU ?_ | refine dG (ec 0 [_,_,_] ?_)
       first | refine eI (i := 18) rfl (fun ρ1 w1 hj hR => (show ρ1 33 = Value.bool _ from hR.2.2.1)) (by decide) ?_ | refine dN (i := 18) rfl (fun ρ1 w1 hj hR => (show ρ1 33 = undef from hR.2.2.1)) ?_ | refine dr (i := 18) rfl (fun ρ1 w1 hj hR => (show ρ1 33 = Value.bool _ from hR.2.2.1)) (fun ρ1 w1 hj hR => iQ (show ρ1 36 = Value.agg (List.toArray _) from hR.1) (show ρ1 38 = Value.agg (List.toArray _) from hR.2.1) (by first | assumption | rfl)) ?_ | refine dr (i := 18) rfl (fun ρ1 w1 hj hR => (show ρ1 33 = Value.bool _ from hR.2.2.1)) (fun ρ1 w1 hj hR => ja (show ρ1 36 = Value.agg (List.toArray _) from hR.1) (show ρ1 38 = Value.agg (List.toArray _) from hR.2.1) (by assumption)) ?_
       first | refine k0 ?_ | refine kZ ?_
       refine fQ ?_
       first | refine dS ?_ | refine dU ?_ | refine dG (dP ?_)
       first | refine dS ?_ | refine dU ?_ | refine dG (pG ?_)
       first | refine dS ?_ | refine dU ?_ | refine dG (fQ ?_)
       first | refine dS ?_ | refine dU ?_ | refine dG (cv ?_)
       first | refine dS ?_ | refine dU ?_ | refine dG (dH 1 ?_)
       first | refine dS ?_ | refine dU ?_ | refine dG (dP ?_)
       first | refine dS ?_ | refine dU ?_ | refine dG (j7 ?_)
       first | refine eI (i := 28) rfl (fun ρ1 w1 hj hR => (show ρ1 44 = Value.bool _ from hR.2.2.1)) (by decide) ?_ | refine dN (i := 28) rfl (fun ρ1 w1 hj hR => (show ρ1 44 = undef from hR.2.2.1)) ?_ | refine dr (i := 28) rfl (fun ρ1 w1 hj hR => (show ρ1 44 = Value.bool _ from hR.2.2.1)) (fun ρ1 w1 hj hR => dZ aG.out az.size (show ρ1 46 = Value.slice _ _ _ from hR.1) (show ρ1 48 = Value.int _ _ from hR.2.1) rfl (by omega)) ?_
       first | refine dS ?_ | refine dU ?_ | refine dG (oc ?_)
       first | refine dS ?_ | refine dU ?_ | refine dG (jd (fun _ hj => hT) ?_)
       first | refine dS ?_ | refine dU ?_ | refine dG (cv ?_)
       first | refine dS ?_ | refine dU ?_ | refine dG (dH 0 ?_)
       refine a0 ?_
       intro f W hJ hV _
       have hb_8 := hJ.bl
       obtain ⟨v53, v52, v51, v50, v49, v48, v47, v46, v45, v44, v43, v42, v41, v40, v39, v38, v37, v36, v35, v34, v33, v32, v31, v30, v29, v28, v27, v26, v25, v24, v23, v22, v21, _⟩ := hV
       replace hh := hJ.hp
       refine aR (a5 (aa v53 (aa v52 (aa v51 (aa v50 (aa v49 (aa v48 (aa v47 (aa v46 (aa v45 (aa v44 (aa v43 (aa v42 (aa v41 (aa v40 (aa v39 (aa v38 (aa v37 (aa v36 (aa v35 (aa v34 (aa v33 (aa v32 (aa v31 (aa v30 (aa v29 (aa v28 (aa v27 (aa v26 (aa v25 (aa v24 (aa v23 (aa v22 (aa v21 aQ)))))))))))))))))))))))))))))))))) ?_
       dsimp only [bX]
       clear hJ
       first | refine gS ?_ | (refine gT ?_; refine eP rfl rfl (by decide) ?_) | refine gV ?_
       first | refine gS ?_ | (refine gT ?_; (first | refine ct ?_ | refine cu ?_)) | refine gV ?_
       first | refine ct ?_ | refine cu ?_
       refine ah (cT (sr (aI (ah (an (bP (aC (aC (bP (aC ?_))))))))))
       refine cf ?_
       exact ⟨rfl, hh.below⟩
      ·have hs : ¬ x.c.i.sign = 0 := fun h => hz (hzz.1 h)
       by_cases hnf : nR x.c.d = x.c
       ·have hgood : fY v x = true := by unfold fY jV; rw [hm, decide_eq_false hz, (jF x.c).2 hnf]; rfl
        have hall2 : (ts.take (i + 1)).all (fY v) = true := by rw [aN hx, List.all_append, hall]; simp [hgood]
        by_cases h0 : i = 0
        ·refine sr ?_
         refine aO (ah (ai (cT (al (aj (ai (ao (sr (mI ?_)))))))))
         refine aV (k := i) aG.out az.size rfl rfl (by omega) (by omega) (by decide) ?_
         refine bR (vs := [_, _, _, _]) az.out rfl ((hr.ext hh.below).recAt TR.len hx) rfl (by decide) ?_
         refine cg hh ?_
         intro b4 w4 hh
         refine aI ?_
         refine bE hh 0 [_,_,_,_] ?_
         intro ws hh
         replace hh : Hp _ (.blk _ _ [_, _, _, _] _ :: _) _ := hh
         refine ah (ai ?_)
         refine cH [] [] [0, 1, 0, 4, 15, 31, 63, 127, 255, 511, 1023, 2047, 4095, 8191, 16383, 32767, 8191, 73727, 262143, 524287, 1048575, 2097151, 4194303, 8388607, 16777215, 33554431, 16777215, 83886079, 268435455, 536870911, 1073741823, 16777215, 2164260863, 8589934591, 17179869183, 34359738367] 33 [[(4, none)], [(21, some 0)], [(1, none)], [(23, some 2)], [(22, some 1), (24, some 3)], [(25, some 4)], [(26, some 5)], [(4, none), (27, some 6)], [(28, some 7), (27, some 6)], [(29, some 8), (27, some 6)], [(30, some 9), (27, some 6)], [(27, some 6), (31, some 10)], [(32, some 11)], [(4, none), (33, some 12)], [(34, some 13), (33, some 12)], [(35, some 14), (33, some 12)], [(4, none), (33, some 12)], [(37, some 16), (33, some 12)], [(36, some 15), (38, some 17), (33, some 12)], [(33, some 12), (39, some 18)], [(40, some 19)], [(3, none), (41, some 20)], [(42, some 21), (41, some 20)], [(43, some 22), (41, some 20)], [(1, none), (44, some 23)], [(45, some 24), (44, some 23)], [(3, none), (44, some 23)], [(47, some 26), (44, some 23)], [(46, some 25), (48, some 27), (44, some 23)], [(49, some 28), (44, some 23)], [(50, some 29), (44, some 23)], [(4, none), (44, some 23)], [(52, some 31), (44, some 23)]] [(32, 53), (31, 52), (30, 51), (29, 50), (28, 49), (27, 48), (26, 47), (25, 46), (24, 45), (23, 44), (22, 43), (21, 42), (20, 41), (19, 40), (18, 39), (17, 38), (16, 37), (15, 36), (14, 35), (13, 34), (12, 33), (11, 32), (10, 31), (9, 30), (8, 29), (7, 28), (6, 27), (5, 26), (4, 25), (3, 24), (2, 23), (1, 22), (0, 21)] hh mixed (by kernel_rfl) dg rfl (by repeat (first | exact bM | refine br ?_ | refine bL ?_)) ?_
         refine cv ?_
         refine dH 0 ?_
         refine cv ?_
         refine dH 1 ?_
         refine dC (fun _ hj => hmay _) ?_
         refine lY ?_
         refine fQ ?_
         first | refine dS ?_ | refine dU ?_ | refine dG (cv ?_)
         first | refine dS ?_ | refine dU ?_ | refine dG (ec 0 [_,_,_] ?_)
         refine bs (i := 9) rfl (fun ρ1 w1 hj hR => (show ρ1 27 = Value.bool _ from hR.2.1)) (fun ρ1 w1 hj hR => a7 ar.out (aD (show ρ1 29 = Value.agg (List.toArray _) from hR.1) a9)) (fun w1 hj => hsg _) ?_
         first | refine dS ?_ | refine dU ?_ | refine dG (jn ?_)
         first | refine k0 ?_ | refine kZ ?_
         refine fQ ?_
         first | refine dS ?_ | refine dU ?_ | refine dG (cv ?_)
         first | refine dS ?_ | refine dU ?_ | refine dG (ec 0 [_,_,_] ?_)
         refine bs (i := 15) rfl (fun ρ1 w1 hj hR => (show ρ1 33 = Value.bool _ from hR.2.1)) (fun ρ1 w1 hj hR => a7 ar.out (aD (show ρ1 35 = Value.agg (List.toArray _) from hR.1) a9)) (fun w1 hj => hfo _ (hT.hp hj.hp)) ?_
         first | refine dS ?_ | refine dU ?_ | refine dG (cv ?_)
         first | refine dS ?_ | refine dU ?_ | refine dG (ec 0 [_,_,_] ?_)
         first | refine eI (i := 18) rfl (fun ρ1 w1 hj hR => (show ρ1 33 = Value.bool _ from hR.2.2.1)) (by decide) ?_ | refine dN (i := 18) rfl (fun ρ1 w1 hj hR => (show ρ1 33 = undef from hR.2.2.1)) ?_ | refine dr (i := 18) rfl (fun ρ1 w1 hj hR => (show ρ1 33 = Value.bool _ from hR.2.2.1)) (fun ρ1 w1 hj hR => iQ (show ρ1 36 = Value.agg (List.toArray _) from hR.1) (show ρ1 38 = Value.agg (List.toArray _) from hR.2.1) (by first | assumption | rfl)) ?_ | refine dr (i := 18) rfl (fun ρ1 w1 hj hR => (show ρ1 33 = Value.bool _ from hR.2.2.1)) (fun ρ1 w1 hj hR => ja (show ρ1 36 = Value.agg (List.toArray _) from hR.1) (show ρ1 38 = Value.agg (List.toArray _) from hR.2.1) (by assumption)) ?_
         first | refine k0 ?_ | refine kZ ?_
         refine fQ ?_
         first | refine dS ?_ | refine dU ?_ | refine dG (dP ?_)
         first | refine dS ?_ | refine dU ?_ | refine dG (pG ?_)
         first | refine dS ?_ | refine dU ?_ | refine dG (fQ ?_)
         first | refine dS ?_ | refine dU ?_ | refine dG (cv ?_)
         first | refine dS ?_ | refine dU ?_ | refine dG (dH 1 ?_)
         first | refine dS ?_ | refine dU ?_ | refine dG (dP ?_)
         first | refine dS ?_ | refine dU ?_ | refine dG (j7 ?_)
         first | refine eI (i := 28) rfl (fun ρ1 w1 hj hR => (show ρ1 44 = Value.bool _ from hR.2.2.1)) (by decide) ?_ | refine dN (i := 28) rfl (fun ρ1 w1 hj hR => (show ρ1 44 = undef from hR.2.2.1)) ?_ | refine dr (i := 28) rfl (fun ρ1 w1 hj hR => (show ρ1 44 = Value.bool _ from hR.2.2.1)) (fun ρ1 w1 hj hR => dZ aG.out az.size (show ρ1 46 = Value.slice _ _ _ from hR.1) (show ρ1 48 = Value.int _ _ from hR.2.1) rfl (by omega)) ?_
         first | refine dS ?_ | refine dU ?_ | refine dG (oc ?_)
         first | refine dS ?_ | refine dU ?_ | refine dG (jd (fun _ hj => hT) ?_)
         first | refine dS ?_ | refine dU ?_ | refine dG (cv ?_)
         first | refine dS ?_ | refine dU ?_ | refine dG (dH 0 ?_)
         refine a0 ?_
         intro f W hJ hV _
         have hb_8 := hJ.bl
         obtain ⟨v53, v52, v51, v50, v49, v48, v47, v46, v45, v44, v43, v42, v41, v40, v39, v38, v37, v36, v35, v34, v33, v32, v31, v30, v29, v28, v27, v26, v25, v24, v23, v22, v21, _⟩ := hV
         replace hh := hJ.hp
         refine aR (a5 (aa v53 (aa v52 (aa v51 (aa v50 (aa v49 (aa v48 (aa v47 (aa v46 (aa v45 (aa v44 (aa v43 (aa v42 (aa v41 (aa v40 (aa v39 (aa v38 (aa v37 (aa v36 (aa v35 (aa v34 (aa v33 (aa v32 (aa v31 (aa v30 (aa v29 (aa v28 (aa v27 (aa v26 (aa v25 (aa v24 (aa v23 (aa v22 (aa v21 aQ)))))))))))))))))))))))))))))))))) ?_
         dsimp only [bX]
         clear hJ
         first | refine gS ?_ | (refine gT ?_; refine eP rfl rfl (by decide) ?_) | refine gV ?_
         first | refine gS ?_ | (refine gT ?_; (first | refine ct ?_ | refine cu ?_)) | refine gV ?_
         first | refine ct ?_ | refine cu ?_
         refine ah (cF (al (aZ (aj (aq ?_)))))
         refine bJ (mI (aF (aj ?_)))
         replace hh := hh.sub (List.Sublist.cons _ (List.Sublist.cons_cons _ List.Sublist.slnil))
         refine ⟨⟨i + 1, by omega, rfl, hall2, by rw [aN hx, h0]; rfl, hh⟩, by show n - (i + 1) < n - i; omega, ?_⟩
         (repeat (first | exact ax _ _ _ | refine aA rfl ?_ | refine aw rfl ?_))
        ·obtain ⟨q, hq⟩ : ∃ q, i = q + 1 := ⟨i - 1, by omega⟩
         obtain ⟨p, hp⟩ := aK (l := ts) (k := q) (by omega)
         cases hlp : fc p.m x.m with
         | false =>
          rw [hbad (qI hp (hq ▸ hx) hlp)]
          have hge : (!(Op.bytesLess p.m.toList x.m.toList)) = true := by rw [gg, hlp]; rfl
          refine sr ?_
          refine aO (ah (ai (cT (al (aj (ai (ao (sr (mI ?_)))))))))
          refine aV (k := i) aG.out az.size rfl rfl (by omega) (by omega) (by decide) ?_
          refine bR (vs := [_, _, _, _]) az.out rfl ((hr.ext hh.below).recAt TR.len hx) rfl (by decide) ?_
          refine cg hh ?_
          intro b4 w4 hh
          refine aI ?_
          refine bE hh 0 [_,_,_,_] ?_
          intro ws hh
          replace hh : Hp _ (.blk _ _ [_, _, _, _] _ :: _) _ := hh
          refine ah (ai ?_)
          refine cH [] [] [0, 1, 0, 4, 15, 31, 63, 127, 255, 511, 1023, 2047, 4095, 8191, 16383, 32767, 8191, 73727, 262143, 524287, 1048575, 2097151, 4194303, 8388607, 16777215, 33554431, 16777215, 83886079, 268435455, 536870911, 1073741823, 16777215, 2164260863, 8589934591, 17179869183, 34359738367] 33 [[(4, none)], [(21, some 0)], [(1, none)], [(23, some 2)], [(22, some 1), (24, some 3)], [(25, some 4)], [(26, some 5)], [(4, none), (27, some 6)], [(28, some 7), (27, some 6)], [(29, some 8), (27, some 6)], [(30, some 9), (27, some 6)], [(27, some 6), (31, some 10)], [(32, some 11)], [(4, none), (33, some 12)], [(34, some 13), (33, some 12)], [(35, some 14), (33, some 12)], [(4, none), (33, some 12)], [(37, some 16), (33, some 12)], [(36, some 15), (38, some 17), (33, some 12)], [(33, some 12), (39, some 18)], [(40, some 19)], [(3, none), (41, some 20)], [(42, some 21), (41, some 20)], [(43, some 22), (41, some 20)], [(1, none), (44, some 23)], [(45, some 24), (44, some 23)], [(3, none), (44, some 23)], [(47, some 26), (44, some 23)], [(46, some 25), (48, some 27), (44, some 23)], [(49, some 28), (44, some 23)], [(50, some 29), (44, some 23)], [(4, none), (44, some 23)], [(52, some 31), (44, some 23)]] [(32, 53), (31, 52), (30, 51), (29, 50), (28, 49), (27, 48), (26, 47), (25, 46), (24, 45), (23, 44), (22, 43), (21, 42), (20, 41), (19, 40), (18, 39), (17, 38), (16, 37), (15, 36), (14, 35), (13, 34), (12, 33), (11, 32), (10, 31), (9, 30), (8, 29), (7, 28), (6, 27), (5, 26), (4, 25), (3, 24), (2, 23), (1, 22), (0, 21)] hh mixed (by kernel_rfl) dg rfl (by repeat (first | exact bM | refine br ?_ | refine bL ?_)) ?_
          refine cv ?_
          refine dH 0 ?_
          refine cv ?_
          refine dH 1 ?_
          refine dC (fun _ hj => hmay _) ?_
          refine lY ?_
          refine fQ ?_
          first | refine dS ?_ | refine dU ?_ | refine dG (cv ?_)
          first | refine dS ?_ | refine dU ?_ | refine dG (ec 0 [_,_,_] ?_)
          refine bs (i := 9) rfl (fun ρ1 w1 hj hR => (show ρ1 27 = Value.bool _ from hR.2.1)) (fun ρ1 w1 hj hR => a7 ar.out (aD (show ρ1 29 = Value.agg (List.toArray _) from hR.1) a9)) (fun w1 hj => hsg _) ?_
          first | refine dS ?_ | refine dU ?_ | refine dG (jn ?_)
          first | refine k0 ?_ | refine kZ ?_
          refine fQ ?_
          first | refine dS ?_ | refine dU ?_ | refine dG (cv ?_)
          first | refine dS ?_ | refine dU ?_ | refine dG (ec 0 [_,_,_] ?_)
          refine bs (i := 15) rfl (fun ρ1 w1 hj hR => (show ρ1 33 = Value.bool _ from hR.2.1)) (fun ρ1 w1 hj hR => a7 ar.out (aD (show ρ1 35 = Value.agg (List.toArray _) from hR.1) a9)) (fun w1 hj => hfo _ (hT.hp hj.hp)) ?_
          first | refine dS ?_ | refine dU ?_ | refine dG (cv ?_)
          first | refine dS ?_ | refine dU ?_ | refine dG (ec 0 [_,_,_] ?_)
          first | refine eI (i := 18) rfl (fun ρ1 w1 hj hR => (show ρ1 33 = Value.bool _ from hR.2.2.1)) (by decide) ?_ | refine dN (i := 18) rfl (fun ρ1 w1 hj hR => (show ρ1 33 = undef from hR.2.2.1)) ?_ | refine dr (i := 18) rfl (fun ρ1 w1 hj hR => (show ρ1 33 = Value.bool _ from hR.2.2.1)) (fun ρ1 w1 hj hR => iQ (show ρ1 36 = Value.agg (List.toArray _) from hR.1) (show ρ1 38 = Value.agg (List.toArray _) from hR.2.1) (by first | assumption | rfl)) ?_ | refine dr (i := 18) rfl (fun ρ1 w1 hj hR => (show ρ1 33 = Value.bool _ from hR.2.2.1)) (fun ρ1 w1 hj hR => ja (show ρ1 36 = Value.agg (List.toArray _) from hR.1) (show ρ1 38 = Value.agg (List.toArray _) from hR.2.1) (by assumption)) ?_
          first | refine k0 ?_ | refine kZ ?_
          refine fQ ?_
          first | refine dS ?_ | refine dU ?_ | refine dG (dP ?_)
          first | refine dS ?_ | refine dU ?_ | refine dG (pG ?_)
          first | refine dS ?_ | refine dU ?_ | refine dG (fQ ?_)
          first | refine dS ?_ | refine dU ?_ | refine dG (cv ?_)
          first | refine dS ?_ | refine dU ?_ | refine dG (dH 1 ?_)
          first | refine dS ?_ | refine dU ?_ | refine dG (dP ?_)
          first | refine dS ?_ | refine dU ?_ | refine dG (j7 ?_)
          first | refine dS ?_ | refine dU ?_ | refine dG (jT (q) ?_)
          first | refine dS ?_ | refine dU ?_ | refine dG (oc ?_)
          first | refine dS ?_ | refine dU ?_ | refine dG (jd (fun _ hj => ((hr.ext hj.hp.below).recAt TR.len hp).cell (i := 0) rfl) ?_)
          first | refine dS ?_ | refine dU ?_ | refine dG (cv ?_)
          first | refine dS ?_ | refine dU ?_ | refine dG (dH 0 ?_)
          refine a0 ?_
          intro f W hJ hV _
          have hb_8 := hJ.bl
          obtain ⟨v53, v52, v51, v50, v49, v48, v47, v46, v45, v44, v43, v42, v41, v40, v39, v38, v37, v36, v35, v34, v33, v32, v31, v30, v29, v28, v27, v26, v25, v24, v23, v22, v21, _⟩ := hV
          replace hh := hJ.hp
          refine aR (a5 (aa v53 (aa v52 (aa v51 (aa v50 (aa v49 (aa v48 (aa v47 (aa v46 (aa v45 (aa v44 (aa v43 (aa v42 (aa v41 (aa v40 (aa v39 (aa v38 (aa v37 (aa v36 (aa v35 (aa v34 (aa v33 (aa v32 (aa v31 (aa v30 (aa v29 (aa v28 (aa v27 (aa v26 (aa v25 (aa v24 (aa v23 (aa v22 (aa v21 aQ)))))))))))))))))))))))))))))))))) ?_
          dsimp only [bX]
          clear hJ
          first | refine gS ?_ | (refine gT ?_; refine eP rfl rfl (by decide) ?_) | refine gV ?_
          first | refine gS ?_ | (refine gT ?_; (first | refine ct ?_ | refine cu ?_)) | refine gV ?_
          first | refine ct ?_ | refine cu ?_
          refine ah ?_
          rw [hge]
          refine cT (sr (aI (ah (an (bP (aC (aC (bP (aC ?_)))))))))
          refine cf ?_
          exact ⟨rfl, hh.below⟩
         | true =>
          have hge : (!(Op.bytesLess p.m.toList x.m.toList)) = false := by rw [gg, hlp]; rfl
          refine sr ?_
          refine aO (ah (ai (cT (al (aj (ai (ao (sr (mI ?_)))))))))
          refine aV (k := i) aG.out az.size rfl rfl (by omega) (by omega) (by decide) ?_
          refine bR (vs := [_, _, _, _]) az.out rfl ((hr.ext hh.below).recAt TR.len hx) rfl (by decide) ?_
          refine cg hh ?_
          intro b4 w4 hh
          refine aI ?_
          refine bE hh 0 [_,_,_,_] ?_
          intro ws hh
          replace hh : Hp _ (.blk _ _ [_, _, _, _] _ :: _) _ := hh
          refine ah (ai ?_)
          refine cH [] [] [0, 1, 0, 4, 15, 31, 63, 127, 255, 511, 1023, 2047, 4095, 8191, 16383, 32767, 8191, 73727, 262143, 524287, 1048575, 2097151, 4194303, 8388607, 16777215, 33554431, 16777215, 83886079, 268435455, 536870911, 1073741823, 16777215, 2164260863, 8589934591, 17179869183, 34359738367] 33 [[(4, none)], [(21, some 0)], [(1, none)], [(23, some 2)], [(22, some 1), (24, some 3)], [(25, some 4)], [(26, some 5)], [(4, none), (27, some 6)], [(28, some 7), (27, some 6)], [(29, some 8), (27, some 6)], [(30, some 9), (27, some 6)], [(27, some 6), (31, some 10)], [(32, some 11)], [(4, none), (33, some 12)], [(34, some 13), (33, some 12)], [(35, some 14), (33, some 12)], [(4, none), (33, some 12)], [(37, some 16), (33, some 12)], [(36, some 15), (38, some 17), (33, some 12)], [(33, some 12), (39, some 18)], [(40, some 19)], [(3, none), (41, some 20)], [(42, some 21), (41, some 20)], [(43, some 22), (41, some 20)], [(1, none), (44, some 23)], [(45, some 24), (44, some 23)], [(3, none), (44, some 23)], [(47, some 26), (44, some 23)], [(46, some 25), (48, some 27), (44, some 23)], [(49, some 28), (44, some 23)], [(50, some 29), (44, some 23)], [(4, none), (44, some 23)], [(52, some 31), (44, some 23)]] [(32, 53), (31, 52), (30, 51), (29, 50), (28, 49), (27, 48), (26, 47), (25, 46), (24, 45), (23, 44), (22, 43), (21, 42), (20, 41), (19, 40), (18, 39), (17, 38), (16, 37), (15, 36), (14, 35), (13, 34), (12, 33), (11, 32), (10, 31), (9, 30), (8, 29), (7, 28), (6, 27), (5, 26), (4, 25), (3, 24), (2, 23), (1, 22), (0, 21)] hh mixed (by kernel_rfl) dg rfl (by repeat (first | exact bM | refine br ?_ | refine bL ?_)) ?_
          refine cv ?_
          refine dH 0 ?_
          refine cv ?_
          refine dH 1 ?_
          refine dC (fun _ hj => hmay _) ?_
          refine lY ?_
          refine fQ ?_
          first | refine dS ?_ | refine dU ?_ | refine dG (cv ?_)
          first | refine dS ?_ | refine dU ?_ | refine dG (ec 0 [_,_,_] ?_)
          refine bs (i := 9) rfl (fun ρ1 w1 hj hR => (show ρ1 27 = Value.bool _ from hR.2.1)) (fun ρ1 w1 hj hR => a7 ar.out (aD (show ρ1 29 = Value.agg (List.toArray _) from hR.1) a9)) (fun w1 hj => hsg _) ?_
          first | refine dS ?_ | refine dU ?_ | refine dG (jn ?_)
          first | refine k0 ?_ | refine kZ ?_
          refine fQ ?_
          first | refine dS ?_ | refine dU ?_ | refine dG (cv ?_)
          first | refine dS ?_ | refine dU ?_ | refine dG (ec 0 [_,_,_] ?_)
          refine bs (i := 15) rfl (fun ρ1 w1 hj hR => (show ρ1 33 = Value.bool _ from hR.2.1)) (fun ρ1 w1 hj hR => a7 ar.out (aD (show ρ1 35 = Value.agg (List.toArray _) from hR.1) a9)) (fun w1 hj => hfo _ (hT.hp hj.hp)) ?_
          first | refine dS ?_ | refine dU ?_ | refine dG (cv ?_)
          first | refine dS ?_ | refine dU ?_ | refine dG (ec 0 [_,_,_] ?_)
          first | refine eI (i := 18) rfl (fun ρ1 w1 hj hR => (show ρ1 33 = Value.bool _ from hR.2.2.1)) (by decide) ?_ | refine dN (i := 18) rfl (fun ρ1 w1 hj hR => (show ρ1 33 = undef from hR.2.2.1)) ?_ | refine dr (i := 18) rfl (fun ρ1 w1 hj hR => (show ρ1 33 = Value.bool _ from hR.2.2.1)) (fun ρ1 w1 hj hR => iQ (show ρ1 36 = Value.agg (List.toArray _) from hR.1) (show ρ1 38 = Value.agg (List.toArray _) from hR.2.1) (by first | assumption | rfl)) ?_ | refine dr (i := 18) rfl (fun ρ1 w1 hj hR => (show ρ1 33 = Value.bool _ from hR.2.2.1)) (fun ρ1 w1 hj hR => ja (show ρ1 36 = Value.agg (List.toArray _) from hR.1) (show ρ1 38 = Value.agg (List.toArray _) from hR.2.1) (by assumption)) ?_
          first | refine k0 ?_ | refine kZ ?_
          refine fQ ?_
          first | refine dS ?_ | refine dU ?_ | refine dG (dP ?_)
          first | refine dS ?_ | refine dU ?_ | refine dG (pG ?_)
          first | refine dS ?_ | refine dU ?_ | refine dG (fQ ?_)
          first | refine dS ?_ | refine dU ?_ | refine dG (cv ?_)
          first | refine dS ?_ | refine dU ?_ | refine dG (dH 1 ?_)
          first | refine dS ?_ | refine dU ?_ | refine dG (dP ?_)
          first | refine dS ?_ | refine dU ?_ | refine dG (j7 ?_)
          first | refine dS ?_ | refine dU ?_ | refine dG (jT (q) ?_)
          first | refine dS ?_ | refine dU ?_ | refine dG (oc ?_)
          first | refine dS ?_ | refine dU ?_ | refine dG (jd (fun _ hj => ((hr.ext hj.hp.below).recAt TR.len hp).cell (i := 0) rfl) ?_)
          first | refine dS ?_ | refine dU ?_ | refine dG (cv ?_)
          first | refine dS ?_ | refine dU ?_ | refine dG (dH 0 ?_)
          refine a0 ?_
          intro f W hJ hV _
          have hb_8 := hJ.bl
          obtain ⟨v53, v52, v51, v50, v49, v48, v47, v46, v45, v44, v43, v42, v41, v40, v39, v38, v37, v36, v35, v34, v33, v32, v31, v30, v29, v28, v27, v26, v25, v24, v23, v22, v21, _⟩ := hV
          replace hh := hJ.hp
          refine aR (a5 (aa v53 (aa v52 (aa v51 (aa v50 (aa v49 (aa v48 (aa v47 (aa v46 (aa v45 (aa v44 (aa v43 (aa v42 (aa v41 (aa v40 (aa v39 (aa v38 (aa v37 (aa v36 (aa v35 (aa v34 (aa v33 (aa v32 (aa v31 (aa v30 (aa v29 (aa v28 (aa v27 (aa v26 (aa v25 (aa v24 (aa v23 (aa v22 (aa v21 aQ)))))))))))))))))))))))))))))))))) ?_
          dsimp only [bX]
          clear hJ
          first | refine gS ?_ | (refine gT ?_; refine eP rfl rfl (by decide) ?_) | refine gV ?_
          first | refine gS ?_ | (refine gT ?_; (first | refine ct ?_ | refine cu ?_)) | refine gV ?_
          first | refine ct ?_ | refine cu ?_
          refine ah ?_
          rw [hge]
          refine cF (al (aZ (aj (aq ?_))))
          refine bJ (mI (aF (aj ?_)))
          replace hh := hh.sub (List.Sublist.cons _ (List.Sublist.cons_cons _ List.Sublist.slnil))
          refine ⟨⟨i + 1, by omega, rfl, hall2, ?_, hh⟩, by show n - (i + 1) < n - i; omega, ?_⟩
          ·rw [hq, aN hp] at hris
           rw [aN hx, hq, aN hp, List.append_assoc]
           show kp (ts.take q ++ [p, x]) = true
           rw [lf, hris, hlp]
           rfl
          ·(repeat (first | exact ax _ _ _ | refine aA rfl ?_ | refine aw rfl ?_))
       ·rw [hbad (jM hx (by unfold fY jV; rw [hm, decide_eq_false hz, Bool.eq_false_iff.2 (fun h => hnf ((jF x.c).1 h))]; rfl))]
        refine sr ?_
        refine aO (ah (ai (cT (al (aj (ai (ao (sr (mI ?_)))))))))
        refine aV (k := i) aG.out az.size rfl rfl (by omega) (by omega) (by decide) ?_
        refine bR (vs := [_, _, _, _]) az.out rfl ((hr.ext hh.below).recAt TR.len hx) rfl (by decide) ?_
        refine cg hh ?_
        intro b4 w4 hh
        refine aI ?_
        refine bE hh 0 [_,_,_,_] ?_
        intro ws hh
        replace hh : Hp _ (.blk _ _ [_, _, _, _] _ :: _) _ := hh
        refine ah (ai ?_)
        refine cH [] [] [0, 1, 0, 4, 15, 31, 63, 127, 255, 511, 1023, 2047, 4095, 8191, 16383, 32767, 8191, 73727, 262143, 524287, 1048575, 2097151, 4194303, 8388607, 16777215, 33554431, 16777215, 83886079, 268435455, 536870911, 1073741823, 16777215, 2164260863, 8589934591, 17179869183, 34359738367] 33 [[(4, none)], [(21, some 0)], [(1, none)], [(23, some 2)], [(22, some 1), (24, some 3)], [(25, some 4)], [(26, some 5)], [(4, none), (27, some 6)], [(28, some 7), (27, some 6)], [(29, some 8), (27, some 6)], [(30, some 9), (27, some 6)], [(27, some 6), (31, some 10)], [(32, some 11)], [(4, none), (33, some 12)], [(34, some 13), (33, some 12)], [(35, some 14), (33, some 12)], [(4, none), (33, some 12)], [(37, some 16), (33, some 12)], [(36, some 15), (38, some 17), (33, some 12)], [(33, some 12), (39, some 18)], [(40, some 19)], [(3, none), (41, some 20)], [(42, some 21), (41, some 20)], [(43, some 22), (41, some 20)], [(1, none), (44, some 23)], [(45, some 24), (44, some 23)], [(3, none), (44, some 23)], [(47, some 26), (44, some 23)], [(46, some 25), (48, some 27), (44, some 23)], [(49, some 28), (44, some 23)], [(50, some 29), (44, some 23)], [(4, none), (44, some 23)], [(52, some 31), (44, some 23)]] [(32, 53), (31, 52), (30, 51), (29, 50), (28, 49), (27, 48), (26, 47), (25, 46), (24, 45), (23, 44), (22, 43), (21, 42), (20, 41), (19, 40), (18, 39), (17, 38), (16, 37), (15, 36), (14, 35), (13, 34), (12, 33), (11, 32), (10, 31), (9, 30), (8, 29), (7, 28), (6, 27), (5, 26), (4, 25), (3, 24), (2, 23), (1, 22), (0, 21)] hh mixed (by kernel_rfl) dg rfl (by repeat (first | exact bM | refine br ?_ | refine bL ?_)) ?_
        refine cv ?_
        refine dH 0 ?_
        refine cv ?_
        refine dH 1 ?_
        refine dC (fun _ hj => hmay _) ?_
        refine lY ?_
        refine fQ ?_
        first | refine dS ?_ | refine dU ?_ | refine dG (cv ?_)
        first | refine dS ?_ | refine dU ?_ | refine dG (ec 0 [_,_,_] ?_)
        refine bs (i := 9) rfl (fun ρ1 w1 hj hR => (show ρ1 27 = Value.bool _ from hR.2.1)) (fun ρ1 w1 hj hR => a7 ar.out (aD (show ρ1 29 = Value.agg (List.toArray _) from hR.1) a9)) (fun w1 hj => hsg _) ?_
        first | refine dS ?_ | refine dU ?_ | refine dG (jn ?_)
        first | refine k0 ?_ | refine kZ ?_
        refine fQ ?_
        first | refine dS ?_ | refine dU ?_ | refine dG (cv ?_)
        first | refine dS ?_ | refine dU ?_ | refine dG (ec 0 [_,_,_] ?_)
        refine bs (i := 15) rfl (fun ρ1 w1 hj hR => (show ρ1 33 = Value.bool _ from hR.2.1)) (fun ρ1 w1 hj hR => a7 ar.out (aD (show ρ1 35 = Value.agg (List.toArray _) from hR.1) a9)) (fun w1 hj => hfo _ (hT.hp hj.hp)) ?_
        first | refine dS ?_ | refine dU ?_ | refine dG (cv ?_)
        first | refine dS ?_ | refine dU ?_ | refine dG (ec 0 [_,_,_] ?_)
        first | refine eI (i := 18) rfl (fun ρ1 w1 hj hR => (show ρ1 33 = Value.bool _ from hR.2.2.1)) (by decide) ?_ | refine dN (i := 18) rfl (fun ρ1 w1 hj hR => (show ρ1 33 = undef from hR.2.2.1)) ?_ | refine dr (i := 18) rfl (fun ρ1 w1 hj hR => (show ρ1 33 = Value.bool _ from hR.2.2.1)) (fun ρ1 w1 hj hR => iQ (show ρ1 36 = Value.agg (List.toArray _) from hR.1) (show ρ1 38 = Value.agg (List.toArray _) from hR.2.1) (by first | assumption | rfl)) ?_ | refine dr (i := 18) rfl (fun ρ1 w1 hj hR => (show ρ1 33 = Value.bool _ from hR.2.2.1)) (fun ρ1 w1 hj hR => ja (show ρ1 36 = Value.agg (List.toArray _) from hR.1) (show ρ1 38 = Value.agg (List.toArray _) from hR.2.1) (by assumption)) ?_
        first | refine k0 ?_ | refine kZ ?_
        refine fQ ?_
        first | refine dS ?_ | refine dU ?_ | refine dG (dP ?_)
        first | refine dS ?_ | refine dU ?_ | refine dG (pG ?_)
        first | refine dS ?_ | refine dU ?_ | refine dG (fQ ?_)
        first | refine dS ?_ | refine dU ?_ | refine dG (cv ?_)
        first | refine dS ?_ | refine dU ?_ | refine dG (dH 1 ?_)
        first | refine dS ?_ | refine dU ?_ | refine dG (dP ?_)
        first | refine dS ?_ | refine dU ?_ | refine dG (j7 ?_)
        first | refine eI (i := 28) rfl (fun ρ1 w1 hj hR => (show ρ1 44 = Value.bool _ from hR.2.2.1)) (by decide) ?_ | refine dN (i := 28) rfl (fun ρ1 w1 hj hR => (show ρ1 44 = undef from hR.2.2.1)) ?_ | refine dr (i := 28) rfl (fun ρ1 w1 hj hR => (show ρ1 44 = Value.bool _ from hR.2.2.1)) (fun ρ1 w1 hj hR => dZ aG.out az.size (show ρ1 46 = Value.slice _ _ _ from hR.1) (show ρ1 48 = Value.int _ _ from hR.2.1) rfl (by omega)) ?_
        first | refine dS ?_ | refine dU ?_ | refine dG (oc ?_)
        first | refine dS ?_ | refine dU ?_ | refine dG (jd (fun _ hj => hT) ?_)
        first | refine dS ?_ | refine dU ?_ | refine dG (cv ?_)
        first | refine dS ?_ | refine dU ?_ | refine dG (dH 0 ?_)
        refine a0 ?_
        intro f W hJ hV _
        have hb_8 := hJ.bl
        obtain ⟨v53, v52, v51, v50, v49, v48, v47, v46, v45, v44, v43, v42, v41, v40, v39, v38, v37, v36, v35, v34, v33, v32, v31, v30, v29, v28, v27, v26, v25, v24, v23, v22, v21, _⟩ := hV
        replace hh := hJ.hp
        refine aR (a5 (aa v53 (aa v52 (aa v51 (aa v50 (aa v49 (aa v48 (aa v47 (aa v46 (aa v45 (aa v44 (aa v43 (aa v42 (aa v41 (aa v40 (aa v39 (aa v38 (aa v37 (aa v36 (aa v35 (aa v34 (aa v33 (aa v32 (aa v31 (aa v30 (aa v29 (aa v28 (aa v27 (aa v26 (aa v25 (aa v24 (aa v23 (aa v22 (aa v21 aQ)))))))))))))))))))))))))))))))))) ?_
        dsimp only [bX]
        clear hJ
        first | refine gS ?_ | (refine gT ?_; refine eP rfl rfl (by decide) ?_) | refine gV ?_
        first | refine gS ?_ | (refine gT ?_; (first | refine ct ?_ | refine cu ?_)) | refine gV ?_
        first | refine ct ?_ | refine cu ?_
        refine ah (cT (sr (aI (ah (an (bP (aC (aC (bP (aC ?_))))))))))
        refine cf ?_
        exact ⟨rfl, hh.below⟩
    ·rw [List.take_of_length_le (by omega)] at hall hris
     rw [show gj v ts = 0 by unfold gj okB; rw [if_neg (by rw [hf]; decide), if_neg (by omega), hall, hris]; rfl]
     refine sr ?_
     refine aO (ah (ai (cF ?_)))
     refine aY ?_
     refine ay (ay (bg (aj (sr (aI (ah (an ?_)))))))
     refine cf ?_
     exact ⟨rfl, hh.below⟩
end Go.Proofs.YtkgdagjklakajaaGreatDoor
/- The walks through poly.Make. -/
namespace Go.Proofs.YtkgdagjklakajaaGreatDoor
open Go.RowKit
def iI (v : Int) (t : TR) : Bool := eR t.m.data.toList && decide ((t.m.size : Int) = v)
theorem q8 (z : TR) (v : Int) (b : Nat) (w : World) (hp : w.cell? ⟨b, 0, none⟩ = some (.int .i64 v)) (hz : z.m.size ≤ 100000) : Calls Tryz.prog 91 #[.agg #[.string z.m, .bool z.c.neg, .string z.c.bV, .int .i64 z.c.e], .pointer (some ⟨b, 0, none⟩)] w fun r w' => r = .returned (.bool (!iI v z)) ∧ Below w.heap.size w w' := by
 have hh := Hp.start w
 have hmay := fun w1 => iq z.m v w1 (by omega)
 unfold iI
 refine ak (N := 9) (l := [.agg #[.string z.m, .bool z.c.neg, .string z.c.bV, .int .i64 z.c.e], .pointer (some ⟨b, 0, none⟩)]) Tryz.func91 rfl rfl (by simp) ?_
 refine sr ?_
 refine cR hh [_,_,_,_] ?_
 intro b2 w2 hh
 refine aB (ah (sr (bH ?_)))
 refine bK hh 0 ?_
 refine bF az.out rfl (dR hh.below hp) (by decide) ?_
 refine bB hh (hmay _) rfl ?_
 intro w7 hh
 cases eR z.m.data.toList && decide ((z.m.size : Int) = v) with
 | false =>
  refine eS ?_
  refine aB (ah (an ?_))
  refine cf ?_
  exact ⟨rfl, hh.below⟩
 | true =>
  refine eS ?_
  refine aB (ah (an ?_))
  refine cf ?_
  exact ⟨rfl, hh.below⟩
theorem nI (A : Option Addr) (n c : Nat) (l : List TR) (v : Int) (b : Nat) (w : World) (hS : Sl w A n 4 (a6 TR.cells l)) (hn : n ≤ 1000000) (hp : w.cell? ⟨b, 0, none⟩ = some (.int .i64 v)) (hz : ∀ t ∈ l, t.m.size ≤ 100000) :
  Calls Tryz.prog 90 #[.slice A n c, .func (.func 91) #[] #[.pointer (some ⟨b, 0, none⟩)]] w fun r w' => r = .returned (.bool (l.any fun t => !iI v t)) ∧ Below w.heap.size w w' :=
 sm A n c l 91 [.pointer (some ⟨b, 0, none⟩)] (fun t => !iI v t) w hS hn fun z w1 hz2 hb => q8 z v b w1 (dR hb hp) (hz z hz2)
def gM (v : Int) (l : List TR) : Int := if fA v = false ∨ (l.any fun t => !iI v t) = true then 1 else if 65536 < l.length then 3 else gH l
theorem g1 (v : Int) (A : Option Addr) (n c : Nat) (l : List TR) (k : Nat) (w : World) (hT : gQ w) (hS : Sl w A n 4 (a6 TR.cells l)) (hn : n ≤ 1000000) (hk : k ≤ 2999980) (ho : jb k l) (hz : ∀ t ∈ l, t.m.size ≤ 100000) :
  Calls Tryz.prog 18 #[.int .i64 v, .slice A n c] w fun r w' => ∃ g : PX, cQ (gM v l) v (bu l) g ∧ r = .returned (.tuple #[.agg #[.int .i64 g.v, .slice g.A g.n g.c], .int .i64 (gM v l)]) ∧ Hp w [g.row] w' := by
 have hh := Hp.start w
 have hln := hS.cd TR.len (by decide)
 have hfw := fun w1 => jJ v w1
 have han := fun b w1 hb hp => nI A n c l v b w1 (hS.ext hb) hn hp hz
 cases hf : fA v with
 | false =>
  rw [hf] at hfw
  rw [show gM v l = 1 by unfold gM; rw [if_pos (.inl hf)]]
  refine ak (N := 25) (l := [.int .i64 v, .slice A n c]) Tryz.func18 rfl rfl (by simp) ?_
  refine sr ?_
  refine cR hh [_] ?_
  intro b2 w2 hh
  refine cg hh ?_
  intro b4 w4 hh
  refine aI (ah (ai (sr ?_)))
  refine bK hh 1 ?_
  refine bB hh (hfw _) rfl ?_
  intro w7 hh
  refine eS ?_
  refine mB ?_
  first | refine gS ?_ | (refine gT ?_; refine mL ?_) | refine gV ?_
  first | refine gS ?_ | (refine gT ?_; refine fg rfl (aD (ka rfl) a9) (by decide) ?_) | refine gV ?_
  refine bZ (by decide) rfl rfl (by decide) ?_
  first | refine ct ?_ | refine cu ?_
  refine ah (cT (sr ?_))
  refine dY [_,_] ?_
  refine bE hh 0 [_,_] ?_
  intro ws hh
  replace hh : Hp _ (.blk _ _ [_, _] _ :: _) _ := hh
  refine aI (ah (an (aC ?_)))
  refine iF (aJ rfl (aH (vs := [_, _]) az.out (hh.au (i := 0) (n := 2) rfl rfl) rfl) (bT (cm rfl) a4)) ?_
  exact ⟨PX.nil, cQ.err (by decide), rfl, (hh.sub (List.nil_sublist _)).fR⟩
 | true =>
  rw [hf] at hfw
  cases ha : l.any fun t => !iI v t with
  | true =>
   rw [ha] at han
   rw [show gM v l = 1 by unfold gM; rw [if_pos (.inr ha)]]
   refine ak (N := 25) (l := [.int .i64 v, .slice A n c]) Tryz.func18 rfl rfl (by simp) ?_
   refine sr ?_
   refine cR hh [_] ?_
   intro b2 w2 hh
   refine cg hh ?_
   intro b4 w4 hh
   refine aI (ah (ai (sr ?_)))
   refine bK hh 1 ?_
   refine bB hh (hfw _) rfl ?_
   intro w7 hh
   refine eS ?_
   refine mB ?_
   first | refine gS ?_ | (refine gT ?_; refine mL ?_) | refine gV ?_
   first | refine gS ?_ | (refine gT ?_; refine fg rfl (aD (ka rfl) a9) (by decide) ?_) | refine gV ?_
   refine a8 rfl rfl ?_
   refine bB hh (han _ _ hh.below (hh.ig (i := 1) (o := 0) rfl rfl)) rfl ?_
   intro w12 hh
   first | refine ct ?_ | refine cu ?_
   refine ah (cT (sr ?_))
   refine dY [_,_] ?_
   refine bE hh 0 [_,_] ?_
   intro ws hh
   replace hh : Hp _ (.blk _ _ [_, _] _ :: _) _ := hh
   refine aI (ah (an (aC ?_)))
   refine iF (aJ rfl (aH (vs := [_, _]) az.out (hh.au (i := 0) (n := 2) rfl rfl) rfl) (bT (cm rfl) a4)) ?_
   exact ⟨PX.nil, cQ.err (by decide), rfl, (hh.sub (List.nil_sublist _)).fR⟩
  | false =>
   rw [ha] at han
   have e1 : gM v l = if 65536 < l.length then 3 else gH l := by unfold gM; rw [if_neg (by rw [hf, ha]; decide)]
   by_cases h6 : 65536 < n
   ·rw [e1, if_pos (by omega)]
    refine ak (N := 25) (l := [.int .i64 v, .slice A n c]) Tryz.func18 rfl rfl (by simp) ?_
    refine sr ?_
    refine cR hh [_] ?_
    intro b2 w2 hh
    refine cg hh ?_
    intro b4 w4 hh
    refine aI (ah (ai (sr ?_)))
    refine bK hh 1 ?_
    refine bB hh (hfw _) rfl ?_
    intro w7 hh
    refine eS ?_
    refine mB ?_
    first | refine gS ?_ | (refine gT ?_; refine mL ?_) | refine gV ?_
    first | refine gS ?_ | (refine gT ?_; refine fg rfl (aD (ka rfl) a9) (by decide) ?_) | refine gV ?_
    refine a8 rfl rfl ?_
    refine bB hh (han _ _ hh.below (hh.ig (i := 1) (o := 0) rfl rfl)) rfl ?_
    intro w12 hh
    first | refine ct ?_ | refine cu ?_
    refine ah (cF (al (aj (ai (sr (mL (a3 ?_)))))))
    refine bQ (ah (cT (sr ?_)))
    refine dY [_,_] ?_
    refine bE hh 0 [_,_] ?_
    intro ws hh
    replace hh : Hp _ (.blk _ _ [_, _] _ :: _) _ := hh
    refine aI (ah (an (aC ?_)))
    refine iF (aJ rfl (aH (vs := [_, _]) az.out (hh.au (i := 0) (n := 2) rfl rfl) rfl) (bT (cm rfl) a4)) ?_
    exact ⟨PX.nil, cQ.err (by decide), rfl, (hh.sub (List.nil_sublist _)).fR⟩
   ·rw [e1, if_neg (by omega)]
    refine ak (N := 25) (l := [.int .i64 v, .slice A n c]) Tryz.func18 rfl rfl (by simp) ?_
    refine sr ?_
    refine cR hh [_] ?_
    intro b2 w2 hh
    refine cg hh ?_
    intro b4 w4 hh
    refine aI (ah (ai (sr ?_)))
    refine bK hh 1 ?_
    refine bB hh (hfw _) rfl ?_
    intro w7 hh
    refine eS ?_
    refine mB ?_
    first | refine gS ?_ | (refine gT ?_; refine mL ?_) | refine gV ?_
    first | refine gS ?_ | (refine gT ?_; refine fg rfl (aD (ka rfl) a9) (by decide) ?_) | refine gV ?_
    refine a8 rfl rfl ?_
    refine bB hh (han _ _ hh.below (hh.ig (i := 1) (o := 0) rfl rfl)) rfl ?_
    intro w12 hh
    first | refine ct ?_ | refine cu ?_
    refine ah (cF (al (aj (ai (sr (mL (a3 ?_)))))))
    refine bQ (ah (cF (al (aj (ai ?_)))))
    refine ij [] [0, 0, 2, 7, 15, 15, 63, 127] 3 [[(2, none)], [(1, none)], [(20, some 1)]] [(2, 21), (1, 20), (0, 19)] [([], 4, [(2, 21), (1, 20), (0, 19)])] hh mixed (by kernel_rfl) (by kernel_rfl) (by decide) ?_
    refine dH 1 ?_
    refine fO ?_
    refine bU (i := 2) (uC hh.sz 58 n 4 (a6 TR.cells l)) (uC.ext) ?_ ?_
    ·intro ρ1 w1 hj hR
     exact cK rfl (a7 ar.out (aD (show ρ1 20 = Value.slice _ _ _ from hR.1) a9)) (kU A n c l w1 (hS.ext hj.hp.below) hn) (fun _ _ ⟨A, c, hq, ho, hb⟩ => ⟨_, hq, hb, A, c, rfl, mM ho hj.bl.size⟩)
    refine a0 ?_
    intro p_ hp_
    simp only [List.mem_cons, List.not_mem_nil, or_false] at hp_
    rcases hp_ with rfl
    intro f W hJ hV
    have hb_5 := hJ.bl
    obtain ⟨v21, v20, v19, _⟩ := hV
    simp only [iZ]
    have e19 : f 0 = _ := v19
    rw [e19]
    have e20 : f 1 = _ := v20
    rw [e20]
    obtain ⟨A21, c21, e21, o21⟩ : uC _ _ _ _ _ (f 2) W := v21
    rw [e21]
    replace hh := JJ.yq hh hJ.hp o21
    clear o21
    clear e19 e20 e21 hJ
    refine aM (jA v A21 n c21 l k _ hT hh hln (by omega) (by omega) ho) ar.out rfl (by decide) ?_; rintro e_ w22 ⟨g, og, rfl, hh⟩; refine ⟨_, rfl, ?_⟩
    refine cw ?_
    refine bY (i := 4) (by repeat (first | exact bM | refine br ?_ | refine bL ?_ | refine np_scope ?_)) rfl (by kernel_rfl) (by kernel_rfl) (by kernel_rfl) (fun _ => dk (show _ = Value.tuple (List.toArray _) from rfl) rfl) (by decide) ?_
    refine bY (i := 5) (by repeat (first | exact bM | refine br ?_ | refine bL ?_ | refine np_scope ?_)) rfl (by kernel_rfl) (by kernel_rfl) (by kernel_rfl) (fun _ => dk (show _ = Value.tuple (List.toArray _) from rfl) rfl) (by decide) ?_
    refine dz 6 (by decide) (by kernel_rfl) (by decide) (by kernel_rfl) (by kernel_rfl) ?_
    refine bE hh 1 [_,_] ?_
    intro ws hh
    replace hh : Hp _ (_ :: .blk _ _ [_, _] _ :: _) _ := hh
    refine aI (ah (an ?_))
    refine iF (aJ rfl (aH (vs := [_, _]) az.out (hh.au (i := 1) (n := 2) rfl rfl) rfl) (bT (cm rfl) a4)) ?_
    exact ⟨g, og, rfl, hh.sub (List.Sublist.cons_cons _ (List.nil_sublist _))⟩
end Go.Proofs.YtkgdagjklakajaaGreatDoor
/- The walk through poly.like. -/
namespace Go.Proofs.YtkgdagjklakajaaGreatDoor
open Go.RowKit
def PX.cells (g : PX) : List Value := [.int .i64 g.v, .slice g.A g.n g.c]
theorem PX.len (g : PX) : (PX.cells g).length = 2 := rfl
structure PX.pP (g : PX) (k : Nat) : Prop where
 n : g.n ≤ 1000000
 cap : g.n ≤ g.c
 ok : jb k g.ts
 sz : ∀ t ∈ g.ts, t.m.size ≤ 100000
def PX.e (g : PX) : Int := gj g.v g.ts
theorem oQ (g : PX) (k : Nat) (w : World) (hT : gQ w) (h : g.at_ w) (hl : g.pP k) :
  Calls Tryz.prog 21 #[.agg #[.int .i64 g.v, .slice g.A g.n g.c]] w fun r w' => r = .returned (.int .i64 g.e) ∧ Below w.heap.size w w' :=
 kJ g.v g.A g.n g.c g.ts w hT h hl.n fun t ht => ⟨(hl.ok t ht).1, hl.sz t ht⟩
def wk (ps : List PX) : Bool := ps.any fun g => decide (g.v ≠ (ps.map PX.v).headD 0)
def jX (ps : List PX) : Int := match ps.find? (fun g => decide (g.e ≠ 0)) with | some g => g.e | none => if ps.length = 0 ∨ wk ps = true then 1 else 0
theorem rE (L : Option Addr) (n c : Nat) (ps : List PX) (f : PX) (p : Addr) (w : World) (hL : Sl w L n 2 (a6 PX.cells ps)) (hp : w.cell? p = some (.slice L n c)) (hn : 0 < n) :
  Calls Tryz.prog 174 #[.agg #[.int .i64 f.v, .slice f.A f.n f.c], .pointer (some p)] w fun r w' => r = .returned (.bool (decide (f.v ≠ (ps.map PX.v).headD 0))) ∧ Below w.heap.size w w' := by
 have hh := Hp.start w
 have hln := hL.cd PX.len (by decide)
 obtain ⟨g, ps, rfl⟩ : ∃ g l, ps = g :: l := by
  cases ps with
  | nil => exact absurd hln (by show ¬ 0 = n; omega)
  | cons g l => exact ⟨g, l, rfl⟩
 obtain ⟨ad, rfl, hr⟩ := hL.at_ hn
 have hd : (((g :: ps).map PX.v).headD 0) = g.v := rfl
 rw [hd]
 have h0 : (g :: ps)[0]? = some g := rfl
 by_cases hg : f.v = g.v
 ·refine ak (N := 11) (l := [.agg #[.int .i64 f.v, .slice f.A f.n f.c], .pointer (some p)]) Tryz.func174 rfl rfl (by simp) ?_
  refine sr ?_
  refine cR hh [_,_] ?_
  intro b2 w2 hh
  refine aB (ah (ai ?_))
  refine aX 6 [[(2, none)], [(4, some 0)], [(1, none)], [(6, some 2)], [(7, some 3)], [(8, some 4)]] [(5, 9), (4, 8), (3, 7), (2, 6), (1, 5), (0, 4)] hh mixed (by kernel_rfl) ?_
  refine cv ?_
  refine dH 0 ?_
  refine jd (fun _ hj => (hj.hp.below.cell (pF hp)).trans hp) ?_
  refine bh (i := 3) (fun ρ1 w1 hj hR => cM aG.out az.size (show ρ1 6 = Value.slice _ _ _ from hR.1) rfl (by omega) (by omega)) ?_
  refine oc ?_
  refine jd (fun _ hj => dR hj.hp.below (((hr.recAt PX.len h0)) 0 _ rfl)) ?_
  refine a0 ?_
  intro f W hJ hV
  have hb_1 := hJ.bl
  obtain ⟨v9, v8, v7, v6, v5, v4, _⟩ := hV
  replace hh := hJ.hp
  refine aR (a5 (aa v9 (aa v8 (aa v7 (aa v6 (aa v5 (aa v4 aQ))))))) ?_
  dsimp only [bX]
  clear hJ
  refine fj (aB (ah (an ?_)))
  refine cf ?_
  exact ⟨by rw [decide_eq_false (by omega)], hh.below⟩
 ·refine ak (N := 11) (l := [.agg #[.int .i64 f.v, .slice f.A f.n f.c], .pointer (some p)]) Tryz.func174 rfl rfl (by simp) ?_
  refine sr ?_
  refine cR hh [_,_] ?_
  intro b2 w2 hh
  refine aB (ah (ai ?_))
  refine aX 6 [[(2, none)], [(4, some 0)], [(1, none)], [(6, some 2)], [(7, some 3)], [(8, some 4)]] [(5, 9), (4, 8), (3, 7), (2, 6), (1, 5), (0, 4)] hh mixed (by kernel_rfl) ?_
  refine cv ?_
  refine dH 0 ?_
  refine jd (fun _ hj => (hj.hp.below.cell (pF hp)).trans hp) ?_
  refine bh (i := 3) (fun ρ1 w1 hj hR => cM aG.out az.size (show ρ1 6 = Value.slice _ _ _ from hR.1) rfl (by omega) (by omega)) ?_
  refine oc ?_
  refine jd (fun _ hj => dR hj.hp.below (((hr.recAt PX.len h0)) 0 _ rfl)) ?_
  refine a0 ?_
  intro f W hJ hV
  have hb_1 := hJ.bl
  obtain ⟨v9, v8, v7, v6, v5, v4, _⟩ := hV
  replace hh := hJ.hp
  refine aR (a5 (aa v9 (aa v8 (aa v7 (aa v6 (aa v5 (aa v4 aQ))))))) ?_
  dsimp only [bX]
  clear hJ
  refine fj (aB (ah (an ?_)))
  refine cf ?_
  exact ⟨by rw [decide_eq_true hg], hh.below⟩
theorem rI (A : Option Addr) (n c : Nat) (l : List PX) (g : FuncId) (cap : List Value) (p : PX → Bool) (w : World) (hS : Sl w A n 2 (a6 PX.cells l)) (hn : n ≤ 1000000) [ar Tryz.prog g]
  (hg : ∀ (z : PX) (w1 : World), z ∈ l → Below w.heap.size w w1 → Calls Tryz.prog g (.agg #[.int .i64 z.v, .slice z.A z.n z.c] :: cap).toArray w1 fun r w' => r = .returned (.bool (p z)) ∧ Below w1.heap.size w1 w') :
  Calls Tryz.prog 180 #[.slice A n c, .func (.func g) #[] cap.toArray] w fun r w' => ∃ v, r = .returned (.int .i64 v) ∧ (0 ≤ v ↔ l.any p = true) ∧ Below w.heap.size w w' := by
 have hh := Hp.start w
 have hln := hS.cd PX.len (by decide)
 refine ak (N := 19) (l := [.slice A n c, .func (.func g) #[] cap.toArray]) Tryz.func180 rfl rfl (by simp) ?_
 refine sr (aI (ah (ai (sr (mL (a3 (mI (ah (ao ?_)))))))))
 refine bC [4, 5, 8, 9, 10, 11, 12, 13, 14, 15, 16, 17, 18] 8
  (fun v w' => ∃ i : Nat, i ≤ n ∧ v = .int .i64 i ∧ (l.take i).any p = false ∧ Hp w [] w')
  (fun v _ => n - (intOf v).toNat) ?_ ?_
 ·exact ⟨0, Nat.zero_le _, rfl, rfl, hh⟩
 ·clear hh
  rintro ρ' v w' ⟨i, hi, rfl, hall, hh⟩
  by_cases hlt : i < n
  ·obtain ⟨z, hz⟩ := aK (l := l) (k := i) (by omega)
   obtain ⟨ad, rfl, hr⟩ := hS.at_ (by omega)
   have hc := fun w1 => hg z w1 (List.mem_of_getElem? hz)
   cases gz : p z with
   | true =>
    rw [gz] at hc
    refine sr ?_
    refine aO (ah (ai (cT (al (aj (ai (ao (sr (mI (aI (ah ?_)))))))))))
    refine sr ?_
    refine fC (by first | exact gu rfl | exact ev_nilf rfl) (by decide) ?_
    refine mL (mI ?_)
    refine aV (k := i) aG.out az.size rfl rfl (by omega) (by omega) (by decide) ?_
    refine bR (vs := [_, _]) az.out rfl ((hr.ext hh.below).recAt PX.len hz) rfl (by decide) ?_
    refine fe (hc _ hh.below) ar.out rfl rfl (by decide) ?_
    rintro e_ w16 ⟨rfl, hb_⟩
    refine ⟨_, rfl, ?_⟩
    replace hh := hh.ext hb_
    refine ah (cT (sr (mI (aI (ah (an (bP (aC (aC (bP (aC ?_)))))))))))
    refine cf ?_
    exact ⟨_, rfl, ⟨fun _ => List.any_eq_true.2 ⟨z, List.mem_of_getElem? hz, gz⟩, fun _ => by omega⟩, hh.below⟩
   | false =>
    rw [gz] at hc
    refine sr ?_
    refine aO (ah (ai (cT (al (aj (ai (ao (sr (mI (aI (ah ?_)))))))))))
    refine sr ?_
    refine fC (by first | exact gu rfl | exact ev_nilf rfl) (by decide) ?_
    refine mL (mI ?_)
    refine aV (k := i) aG.out az.size rfl rfl (by omega) (by omega) (by decide) ?_
    refine bR (vs := [_, _]) az.out rfl ((hr.ext hh.below).recAt PX.len hz) rfl (by decide) ?_
    refine fe (hc _ hh.below) ar.out rfl rfl (by decide) ?_
    rintro e_ w16 ⟨rfl, hb_⟩
    refine ⟨_, rfl, ?_⟩
    replace hh := hh.ext hb_
    refine ah (cF (al (aZ (aj (aq ?_)))))
    refine bJ (mI (aF (aj ?_)))
    refine ⟨⟨i + 1, by omega, rfl, by rw [aN hz, List.any_append, hall, List.any_cons, List.any_nil, gz]; rfl, hh⟩, by show n - (i + 1) < n - i; omega, ?_⟩
    (repeat (first | exact ax _ _ _ | refine aA rfl ?_ | refine aw rfl ?_))
  ·rw [List.take_of_length_le (by omega)] at hall
   refine sr ?_
   refine aO (ah (ai (cF ?_)))
   refine aY ?_
   refine ay (ay (bg (aj (sr (aI (ah (an ?_)))))))
   refine cf ?_
   exact ⟨_, rfl, ⟨fun h => absurd h (by decide), fun h => by rw [hall] at h; cases h⟩, hh.below⟩
theorem ru (A : Option Addr) (n c : Nat) (l : List PX) (g : FuncId) (cap : List Value) (p : PX → Bool) (w : World) (hS : Sl w A n 2 (a6 PX.cells l)) (hn : n ≤ 1000000) [ar Tryz.prog g]
  (hg : ∀ (z : PX) (w1 : World), z ∈ l → Below w.heap.size w w1 → Calls Tryz.prog g (.agg #[.int .i64 z.v, .slice z.A z.n z.c] :: cap).toArray w1 fun r w' => r = .returned (.bool (p z)) ∧ Below w1.heap.size w1 w') :
  Calls Tryz.prog 119 #[.slice A n c, .func (.func g) #[] cap.toArray] w fun r w' => r = .returned (.bool (l.any p)) ∧ Below w.heap.size w w' := by
 have hh := Hp.start w
 refine ak (N := 9) (l := [.slice A n c, .func (.func g) #[] cap.toArray]) Tryz.func119 rfl rfl (by simp) ?_
 refine sr (aB (ah (sr (mL ?_))))
 refine fC (by first | exact gu rfl | exact ev_nilf rfl) (by decide) ?_
 refine aM (rI A n c l g cap p _ (hS.ext hh.below) hn hg) ar.out rfl (by decide) ?_
 rintro e_ w7 ⟨v_, rfl, hv_, hb_⟩
 refine ⟨_, rfl, ?_⟩
 replace hh := hh.ext hb_
 cases ga : l.any p with
 | true =>
  have h0 := hv_.2 ga
  refine cP (aB (ah (an ?_)))
  refine cf ?_
  exact ⟨rfl, hh.below⟩
 | false =>
  have h0 : ¬ 0 ≤ v_ := fun h => by rw [hv_.1 h] at ga; cases ga
  refine cP (aB (ah (an ?_)))
  refine cf ?_
  exact ⟨rfl, hh.below⟩
theorem lH (L : Option Addr) (n c : Nat) (ps : List PX) (k : Nat) (w : World) (hT : gQ w) (hL : Sl w L n 2 (a6 PX.cells ps)) (hn : n ≤ 1000000) (hf : ∀ g ∈ ps, g.at_ w) (hl : ∀ g ∈ ps, g.pP k) :
  Calls Tryz.prog 103 #[.slice L n c] w fun r w' => r = .returned (.int .i64 (jX ps)) ∧ Below w.heap.size w w' := by
 have hh := Hp.start w
 have hln := hL.cd PX.len (by decide)
 refine ak (N := 26) (l := [.slice L n c]) Tryz.func103 rfl rfl (by simp) ?_
 refine sr ?_
 refine cR hh [_] ?_
 intro b1 w1 hh
 refine aI (ah (ai (sr ?_)))
 refine bK hh 0 ?_
 refine a3 (mI (ah (ao ?_)))
 refine bC [2, 4, 5, 8, 9, 10, 11, 12, 13, 14, 15, 16, 17] 8
  (fun v w' => ∃ i : Nat, i ≤ n ∧ v = .int .i64 i ∧ (ps.take i).any (fun g => decide (g.e ≠ 0)) = false ∧ Hp w [.blk b1 45 [.slice L n c] (0, 0)] w')
  (fun v _ => n - (intOf v).toNat) ?_ ?_
 ·exact ⟨0, Nat.zero_le _, rfl, rfl, hh⟩
 ·clear hh
  rintro ρ' v w' ⟨i, hi, rfl, hall, hh⟩
  by_cases hlt : i < n
  ·obtain ⟨g, hx⟩ := aK (l := ps) (k := i) (by omega)
   have hmem := List.mem_of_getElem? hx
   have hc := fun w1 hT1 hb => oQ g k w1 hT1 ((hf g hmem).ext hb) (hl g hmem)
   obtain ⟨ad, rfl, hr⟩ := hL.at_ (by omega)
   by_cases he : g.e = 0
   ·refine sr ?_
    refine aO (ah (ai (cT (al (aj (ai (ao (sr ?_))))))))
    refine aV (k := i) aG.out az.size rfl rfl (by omega) (by omega) (by decide) ?_
    refine bR (vs := [_, _]) az.out rfl ((hr.ext hh.below).recAt PX.len hx) rfl (by decide) ?_
    refine cg hh ?_
    intro b4 w4 hh
    refine bE hh 0 [_,_] ?_
    intro ws hh
    replace hh : Hp _ (.blk _ _ [_, _] _ :: _) _ := hh
    refine ah (sr ?_)
    refine du hh 0 [_,_] ?_
    refine bB hh (hc _ (hT.hp hh) hh.below) rfl ?_
    intro w13 hh
    refine aI (ah (sr (mI ?_)))
    refine fj (ah (cF (al (aZ (aj (aq ?_))))))
    refine bJ (mI (aF (aj ?_)))
    replace hh := hh.sub (List.Sublist.cons _ (List.Sublist.cons_cons _ List.Sublist.slnil))
    refine ⟨⟨i + 1, by omega, rfl, by rw [aN hx, List.any_append, hall, List.any_cons, List.any_nil, decide_eq_false (by omega)]; rfl, hh⟩, by show n - (i + 1) < n - i; omega, ?_⟩
    (repeat (first | exact ax _ _ _ | refine aA rfl ?_ | refine aw rfl ?_))
   ·refine sr ?_
    refine aO (ah (ai (cT (al (aj (ai (ao (sr ?_))))))))
    refine aV (k := i) aG.out az.size rfl rfl (by omega) (by omega) (by decide) ?_
    refine bR (vs := [_, _]) az.out rfl ((hr.ext hh.below).recAt PX.len hx) rfl (by decide) ?_
    refine cg hh ?_
    intro b4 w4 hh
    refine bE hh 0 [_,_] ?_
    intro ws hh
    replace hh : Hp _ (.blk _ _ [_, _] _ :: _) _ := hh
    refine ah (sr ?_)
    refine du hh 0 [_,_] ?_
    refine bB hh (hc _ (hT.hp hh) hh.below) rfl ?_
    intro w13 hh
    refine aI (ah (sr (mI ?_)))
    refine fj (ah (cT (sr (mI (aI (ah (an (bP (aC (aC (bP ?_)))))))))))
    refine aC ?_
    refine cf ?_
    refine ⟨?_, hh.below⟩
    unfold jX
    rw [tU hall hx (decide_eq_true he)]
  ·rw [List.take_of_length_le (by omega)] at hall
   have hlk : jX ps = if ps.length = 0 ∨ wk ps = true then 1 else 0 := by unfold jX; rw [ik hall]
   rw [hlk]
   by_cases h0 : n = 0
   ·refine sr ?_
    refine aO (ah (ai (cF ?_)))
    refine aY ?_
    refine ay (ay (bg (aj (ai (sr ?_)))))
    refine bK hh 0 ?_
    refine a3 ?_
    refine dK (mB ?_)
    first | refine gS ?_ | (refine gT ?_; refine bK hh 0 ?_) | refine gV ?_
    first | refine gS ?_ | (refine gT ?_; refine fg rfl (aD (ka rfl) a9) (by decide) ?_) | refine gV ?_
    refine bZ (by decide) rfl rfl (by decide) ?_
    first | refine ct ?_ | refine cu ?_
    refine ah (cT (sr (aI (ah (an (aC ?_))))))
    refine cf ?_
    exact ⟨by rw [if_pos (.inl (by omega))], hh.below⟩
   ·have hcell : w'.cell? ⟨b1, 0, none⟩ = some (.slice L n c) := hh.ig (i := 0) rfl rfl
    have ho := fun w1 hb => ru L n c ps 174 [.pointer (some ⟨b1, 0, none⟩)] (fun g => decide (g.v ≠ (ps.map PX.v).headD 0)) w1 (hL.ext (hh.below.trans (hb.mono hh.below.size))) hn (fun z w2 hz hb2 => rE L n c ps z ⟨b1, 0, none⟩ w2 ((hL.ext (hh.below.trans (hb.mono hh.below.size))).ext hb2) (dR hb2 (dR hb hcell)) (by omega))
    cases hod : wk ps with
    | true =>
     have hod2 : ps.any (fun g => decide (g.v ≠ (ps.map PX.v).headD 0)) = true := hod
     rw [hod2] at ho
     refine sr ?_
     refine aO (ah (ai (cF ?_)))
     refine aY ?_
     refine ay (ay (bg (aj (ai (sr ?_)))))
     refine bK hh 0 ?_
     refine a3 ?_
     refine dK (mB ?_)
     first | refine gS ?_ | (refine gT ?_; refine bK hh 0 ?_) | refine gV ?_
     first | refine gS ?_ | (refine gT ?_; refine fg rfl (aD (ka rfl) a9) (by decide) ?_) | refine gV ?_
     refine a8 rfl rfl ?_
     refine bB hh (ho _ (Below.refl _ _)) rfl ?_
     intro w24 hh
     first | refine ct ?_ | refine cu ?_
     refine ah (cT (sr (aI (ah (an (aC ?_))))))
     refine cf ?_
     exact ⟨by rw [if_pos (.inr rfl)], hh.below⟩
    | false =>
     have hod2 : ps.any (fun g => decide (g.v ≠ (ps.map PX.v).headD 0)) = false := hod
     rw [hod2] at ho
     refine sr ?_
     refine aO (ah (ai (cF ?_)))
     refine aY ?_
     refine ay (ay (bg (aj (ai (sr ?_)))))
     refine bK hh 0 ?_
     refine a3 ?_
     refine dK (mB ?_)
     first | refine gS ?_ | (refine gT ?_; refine bK hh 0 ?_) | refine gV ?_
     first | refine gS ?_ | (refine gT ?_; refine fg rfl (aD (ka rfl) a9) (by decide) ?_) | refine gV ?_
     refine a8 rfl rfl ?_
     refine bB hh (ho _ (Below.refl _ _)) rfl ?_
     intro w24 hh
     first | refine ct ?_ | refine cu ?_
     refine ah (cF (al (aj (sr (aI (ah (an ?_)))))))
     refine cf ?_
     refine ⟨?_, hh.below⟩
     rw [if_neg]
     rintro (h | h)
     ·omega
     ·cases h
end Go.Proofs.YtkgdagjklakajaaGreatDoor
/- Arguments opened: terms, polynomials. -/
namespace Go.Proofs.YtkgdagjklakajaaGreatDoor
open Go.ChangeShapes Go.WideShapes Go.ChangeAt Go.RowKit Go.ChangeMaps
set_option maxRecDepth 100000 in
theorem rV {H : Type} {enc : TypeId × Value → H} {W : World} {base fuel : Nat} {sp : Nat → Bool} {held : Bool} {cs : List Value} {x : DataW H × List MemPlace} (h : DataW.trod enc Tryz.prog W base sp held fuel 58 cs = some x) :
  ∃ t : TR, cs = t.cells ∧ True := by
 have c0 : Tryz.prog.cellsOf 58 = 4 := by kernel_rfl
 have c1 : Tryz.prog.cellsOf 9 = 1 := by kernel_rfl
 have c2 : Tryz.prog.cellsOf 26 = 3 := by kernel_rfl
 obtain ⟨y0, y1, n, _, hl, h0, h1⟩ := trod_struct2 Tryz.underlying58 h
 obtain ⟨s, e0, _, _⟩ := DataW.trod_string Tryz.underlying9 h0
 obtain ⟨a, e1, _⟩ := oI h1
 rw [c0] at hl
 match cs, hl with
 | [x0, x1, x2, x3], _ =>
  simp only [c1, c2] at e0 e1
  unfold NR.cells at e1
  simp at e0 e1
  obtain ⟨e1, e2, e3⟩ := e1
  subst e0 e1 e2 e3
  exact ⟨⟨s, a⟩, rfl, trivial⟩
set_option maxRecDepth 100000 in
theorem rB {H : Type} {enc : TypeId × Value → H} {W : World} {r : Reach} {base b0 : Nat} {sp : Nat → Bool} {held : Bool} {v : Value} {d : DataW H} {ps : List MemPlace}
  (hval : Value.okWide Tryz.prog W r b0 22 v) (hd : DataW.Trod enc Tryz.prog W base sp held 22 v d ps) : ∃ (A : Option Addr) (n c : Nat) (l : List TR), v = .slice A n c ∧ Sl W A n 4 (a6 TR.cells l) ∧ ∀ t ∈ l, True :=
 uq TR.len (by decide) Tryz.underlying22 (by kernel_rfl) (fun _ _ _ h => rV h) hval hd
end Go.Proofs.YtkgdagjklakajaaGreatDoor
/- Plain: products of rows of terms. No program in sight. -/
namespace Go.Proofs.YtkgdagjklakajaaGreatDoor
open Go.RowKit
def mulM (a b : ByteArray) : ByteArray := str (mulL a.data.toList b.data.toList).1
def nH (a b : ByteArray) : Int := (mulL a.data.toList b.data.toList).2
def p9 (x y : TR) : TR := ⟨mulM x.m y.m, nR (x.c.d * y.c.d)⟩
def ej (p q : List TR) : List TR := p.flatMap fun x => q.map (p9 x)
def mG (p q : List TR) : List Int := p.flatMap fun x => q.map fun y => nH x.m y.m
def gU (p q : List TR) : Int := if 65536 < p.length * q.length then 3 else match (mG p q).find? fun e => decide (e ≠ 0) with | some e => e | none => if 4096 < (bu (ej p q)).length then 3 else 0
theorem pS {α β : Type} {f : α → List β} {k : Nat} : ∀ {l : List α}, (∀ x ∈ l, (f x).length = k) → (l.flatMap f).length = l.length * k
 | [], _ => by simp
 | x :: l, h => by
  rw [List.flatMap_cons, List.length_append, h x List.mem_cons_self, pS fun y hy => h y (List.mem_cons_of_mem _ hy), List.length_cons, Nat.succ_mul, Nat.add_comm]
theorem ld (p q : List TR) : (ej p q).length = p.length * q.length := pS fun x _ => List.length_map _
theorem k8 {α β γ : Type} {f : α → β → γ} {p : List α} {q : List β} {i : Nat} {x : α} (hx : p[i]? = some x) :
  ((p.take (i + 1)).flatMap fun x => q.map (f x)) = ((p.take i).flatMap fun x => q.map (f x)) ++ (q.take q.length).map (f x) := by
 rw [aN hx, List.flatMap_append, List.take_of_length_le (Nat.le_refl _)]
 simp
theorem rD {α β γ : Type} {f : α → β → γ} {p : List α} {q : List β} {i j : Nat} {x : α} {y : β} (hx : p[i]? = some x) (hy : q[j]? = some y) :
  ∃ R, (p.flatMap fun x => q.map (f x)) = (((p.take i).flatMap fun x => q.map (f x)) ++ (q.take j).map (f x)) ++ f x y :: R := by
 refine ⟨(q.drop (j + 1)).map (f x) ++ (p.drop (i + 1)).flatMap fun x => q.map (f x), ?_⟩
 have e1 : p = p.take i ++ x :: p.drop (i + 1) := by rw [← iJ hx, List.take_append_drop]
 have e2 : q = q.take j ++ y :: q.drop (j + 1) := by rw [← iJ hy, List.take_append_drop]
 have e3 : q.map (f x) = (q.take j).map (f x) ++ f x y :: (q.drop (j + 1)).map (f x) := by
  rw [← List.map_cons, ← List.map_append, ← e2]
 calc (p.flatMap fun x => q.map (f x)) = (p.take i ++ x :: p.drop (i + 1)).flatMap fun x => q.map (f x) := by rw [← e1]
  _ = _ := by rw [List.flatMap_append, List.flatMap_cons, e3]; simp
theorem q6 {k j : Nat} {p q : List TR} (hp : jb k p) (hq : jb j q) (h : k + j ≤ 1000000) : jb (k + j) (ej p q) := fun t ht => by
 obtain ⟨x, hx, ht⟩ := List.mem_flatMap.1 ht
 obtain ⟨y, hy, rfl⟩ := List.mem_map.1 ht
 have hs := (hp x hx).2.mul (hq y hy).2
 exact ⟨hs.ok (by omega), by show Sz _ (nR _).d; rw [eM]; exact hs⟩
theorem uN (a b : ByteArray) : (mulM a b).size ≤ b.size := by
 unfold mulM
 rw [im]
 unfold mulL
 split
 ·rename_i l hl
  have := (tX hl).2.2
  have h4 : l.length ≤ b.data.toList.length := by rw [this.2, List.length_zipWith, eg, eg]; omega
  have h5 : (wm l).length ≤ l.length := by unfold wm; split <;> simp
  rw [dA]
  exact Nat.le_trans h5 h4
 ·exact Nat.zero_le _
end Go.Proofs.YtkgdagjklakajaaGreatDoor
/- Plain laws of sums and products of rows of terms; what is in the one form. No program in sight. -/
namespace Go.Proofs.YtkgdagjklakajaaGreatDoor
open Go.RowKit
def zI (c : Dyadic) (t : TR) : TR := ⟨t.m, nR (t.c.d * c)⟩
theorem iG {v : Int} {ts : List TR} (h : gj v ts = 0) : fA v = true ∧ ts.length ≤ 4096 ∧ (∀ t ∈ ts, iI v t = true) ∧ Canon ts := by
 unfold gj at h
 cases hf : fA v with
 | false => rw [hf, if_pos rfl] at h; omega
 | true =>
  rw [if_neg (by rw [hf]; decide)] at h
  by_cases h4 : 4096 < ts.length
  ·rw [if_pos h4] at h; omega
  ·rw [if_neg h4] at h
   by_cases ho : okB v ts = true
   ·unfold okB at ho
    rw [Bool.and_eq_true] at ho
    have hg : ∀ t ∈ ts, fY v t = true := List.all_eq_true.1 ho.1
    refine ⟨rfl, by omega, fun t ht => ?_, ks.1 ho.2, fun t ht => ?_, fun t ht => ?_⟩
    ·exact (Bool.and_eq_true_iff.1 (hg t ht)).1
    ·exact rK (Bool.and_eq_true_iff.1 (Bool.and_eq_true_iff.1 (hg t ht)).2).1
    ·exact ((jF _).1 (Bool.and_eq_true_iff.1 (Bool.and_eq_true_iff.1 (hg t ht)).2).2).symm
   ·rw [if_neg ho] at h; omega
theorem wK {v : Int} {ts : List TR} (hf : fA v = true) (h4 : ts.length ≤ 4096) (hm : ∀ t ∈ ts, iI v t = true) (hc : Canon ts) : gj v ts = 0 := by
 unfold gj
 rw [if_neg (by rw [hf]; decide), if_neg (by omega), if_pos]
 unfold okB
 rw [Bool.and_eq_true]
 refine ⟨List.all_eq_true.2 fun t ht => ?_, ks.2 hc.ph⟩
 show (iI v t && (jV t && zp t.c)) = true
 rw [hm t ht, (jF _).2 (hc.nf t ht).symm]
 unfold jV
 rw [decide_eq_false (hc.nz t ht)]
 rfl
theorem oR {p q : List TR} (h : gU p q = 0) : p.length * q.length ≤ 65536 ∧ (∀ e ∈ mG p q, e = 0) ∧ (bu (ej p q)).length ≤ 4096 := by
 unfold gU at h
 by_cases h6 : 65536 < p.length * q.length
 ·rw [if_pos h6] at h; omega
 ·rw [if_neg h6] at h
  split at h
  ·rename_i e he
   have := List.find?_some he
   rw [decide_eq_true_eq] at this
   exact absurd h this
  ·rename_i he
   refine ⟨by omega, fun e hm => ?_, ?_⟩
   ·have := List.find?_eq_none.1 he e hm
    simpa using this
   ·by_cases h4 : 4096 < (bu (ej p q)).length
    ·rw [if_pos h4] at h; omega
    ·omega
end Go.Proofs.YtkgdagjklakajaaGreatDoor
/- The walk through poly.Add. -/
namespace Go.Proofs.YtkgdagjklakajaaGreatDoor
open Go.RowKit
def s7 (ps : List PX) : Int := (ps.map PX.v).headD 0
def tc (ps : List PX) : List TR := ps.flatMap PX.ts
def yl (ps : List PX) : Int := if jX ps = 0 then gH (tc ps) else jX ps
theorem tJ {ps : List PX} (h : jX ps = 0) : ps ≠ [] ∧ (∀ g ∈ ps, g.e = 0) ∧ ∀ g ∈ ps, g.v = s7 ps := by
 unfold jX at h
 split at h
 ·rename_i f hf
  have := List.find?_some hf
  simp at this
  exact absurd h this
 ·rename_i hf
  split at h
  ·cases h
  rename_i hno
  refine ⟨fun e => hno (.inl (by rw [e]; rfl)), fun f hm => ?_, fun f hm => ?_⟩
  ·have := List.find?_eq_none.1 hf f hm
   simpa using this
  ·apply Classical.byContradiction
   intro hne
   exact hno (.inr (List.any_eq_true.2 ⟨f, hm, decide_eq_true hne⟩))
theorem o5 {α β : Type} {f : α → List β} {B : Nat} : ∀ {l : List α}, (∀ x ∈ l, (f x).length ≤ B) → (l.flatMap f).length ≤ l.length * B
 | [], _ => by simp
 | x :: l, h => by
  rw [List.flatMap_cons, List.length_append, List.length_cons, Nat.succ_mul]
  have h1 := h x List.mem_cons_self
  have h2 := o5 fun y hy => h y (List.mem_cons_of_mem _ hy)
  omega
theorem ur {α β : Type} {f : α → List β} {l : List α} {i : Nat} {x : α} (h : l[i]? = some x) : (l.take (i + 1)).flatMap f = (l.take i).flatMap f ++ f x := by
 rw [aN h, List.flatMap_append]
 simp
theorem sF {l k : List TR} (h : bu l = bu k) : gH l = gH k := by unfold gH; rw [h]
theorem qB {ps : List PX} {g : PX} (h : ps[0]? = some g) : s7 ps = g.v := by
 rcases ps with _ | ⟨f, l⟩
 ·cases h
 ·have : f = g := by simpa using h
  rw [← this]; rfl
theorem rS (L : Option Addr) (n c : Nat) (ps : List PX) (k : Nat) (w : World) (hT : gQ w) (hL : Sl w L n 2 (a6 PX.cells ps)) (hn : n ≤ 100) (hf : ∀ g ∈ ps, g.at_ w) (hl : ∀ g ∈ ps, g.pP k) (hk : k ≤ 2999000) :
  Calls Tryz.prog 37 #[.slice L n c] w fun r w' => ∃ g : PX, cQ (yl ps) (s7 ps) (bu (tc ps)) g ∧ r = .returned (.tuple #[.agg #[.int .i64 g.v, .slice g.A g.n g.c], .int .i64 (yl ps)]) ∧ Hp w [g.row] w' := by
 have hh := Hp.start w
 have hln := hL.cd PX.len (by decide)
 have hlk := fun w1 hT1 hb => lH L n c ps k w1 hT1 (hL.ext hb) (by omega) (fun g hg => (hf g hg).ext hb) hl
 unfold yl
 by_cases h0 : jX ps = 0
 ·rw [if_pos h0]
  rw [h0] at hlk
  obtain ⟨hne, hev, hvv⟩ := tJ h0
  have hpos := List.length_pos_iff.2 hne
  obtain ⟨g0, h00⟩ := aK (l := ps) (k := 0) hpos
  rw [qB h00]
  have hfl : (tc ps).length ≤ ps.length * 4096 := o5 fun g hg => (iG (hev g hg)).2.1
  obtain ⟨ad, rfl, hr⟩ := hL.at_ (by omega)
  refine ak (N := 33) (l := [.slice (some ad) n c]) Tryz.func37 rfl rfl (by simp) ?_
  refine sr ?_
  refine cg hh ?_
  intro b2 w2 hh
  refine aI (ah (ai (sr (mL ?_))))
  refine bB hh (hlk _ (hT.hp hh) hh.below) rfl ?_
  intro w9 hh
  refine aI (ah (sr (mI ?_)))
  refine fj (ah (cF (al (aj (sr (aL (ah (ai (sr (mL (a3 ?_)))))))))))
  refine mI (ah (ao ?_))
  replace hh := hh.er 58 4
  refine cD [5, 7, 16, 17, 18, 19, 20, 21, 22, 23, 24] 5 16
   (fun a x w' => ∃ (i : Nat) (M : List TR) (A' : Option Addr) (c' : Nat), i ≤ n ∧ x = .int .i64 i ∧ a = .slice A' M.length c' ∧ MD (k + i) ((ps.take i).flatMap PX.ts) M ∧ Hp w [.row A' M.length c' 58 4 (a6 TR.cells M), .blk b2 31 [.int .i64 0, .slice none 0 0] (0, 0)] w')
   (fun _ x _ => n - (intOf x).toNat) ?_ ?_
  ·exact ⟨0, [], none, 0, Nat.zero_le _, rfl, rfl, MD.self List.Pairwise.nil (fun t ht => nomatch ht), hh⟩
  ·clear hh
   rintro ρ' a_ x_ w' ⟨i, M, A', c', hi, rfl, rfl, hmd, hh⟩
   have hfi : ((ps.take i).flatMap PX.ts).length ≤ i * 4096 := by
    have := o5 (f := PX.ts) (B := 4096) (l := ps.take i) fun g hg => (iG (hev g (List.mem_of_mem_take hg))).2.1
    rwa [List.length_take, Nat.min_eq_left (by omega)] at this
   have hML := hmd.len
   by_cases hlt : i < n
   ·obtain ⟨g, hx⟩ := aK (l := ps) (k := i) (by omega)
    have hmem := List.mem_of_getElem? hx
    have hgl := hl g hmem
    have hge := iG (hev g hmem)
    have hgc := hgl.cap
    have hgn := hgl.n
    refine sr ?_
    refine aO (ah (ai (cT (al (aj (ai (ao (sr ?_))))))))
    refine aV (k := i) aG.out az.size rfl rfl (by omega) (by omega) (by decide) ?_
    refine bR (vs := [_, _]) az.out rfl ((hr.ext hh.below).recAt PX.len hx) rfl (by decide) ?_
    refine cg hh ?_
    intro b7 w7 hh
    refine bE hh 0 [_,_] ?_
    intro ws hh
    replace hh : Hp _ (.blk _ _ [_, _] _ :: _) _ := hh
    refine ah (aq (mL (bH ?_)))
    refine bK hh 0 ?_
    refine aM (kB A' M.length c' M g.A g.n g.c g.ts (k + i) _ (hT.hp hh) (hh.aE (i := 1) rfl) ((hf g hmem).ext hh.below) (hh.gp (i := 1) rfl) hgc (by omega) hgn (by omega) hmd.ph hge.2.2.2.ph hmd.ok (hgl.ok.mono (by omega))) ar.out rfl (by decide) ?_
    rintro e_ w23 ⟨L2, A2, c2, hm2, rfl, h3⟩
    refine ⟨_, rfl, ?_⟩
    replace hh := hh.join h3
    simp only [List.cons_append, List.nil_append] at hh
    refine aL (aF (aZ (aj (aq ?_))))
    refine bJ (mI (aF (aj ?_)))
    replace hh := hh.sub (List.Sublist.cons_cons _ (List.Sublist.cons _ (List.Sublist.cons _ (List.Sublist.cons_cons _ List.Sublist.slnil))))
    refine ⟨⟨i + 1, L2, A2, c2, by omega, rfl, rfl, ?_, hh⟩, by show n - (i + 1) < n - i; omega, ?_⟩
    ·rw [ur hx]
     exact hmd.vn (MD.self hge.2.2.2.ph (hgl.ok.mono (by omega) : jb (k + i) g.ts)) hm2 (by omega)
    ·(repeat (first | exact ax _ _ _ | refine aA rfl ?_ | refine aw rfl ?_))
   ·obtain rfl : i = n := by omega
    rw [List.take_of_length_le (by omega)] at hmd hfi hML
    have hgM : bu M = bu (tc ps) := pd hmd.co
    have hgE := sF hgM
    refine sr ?_
    refine aO (ah (ai (cF ?_)))
    refine aY ?_
    refine ay (ay (bg (aj (sr (mL ?_)))))
    refine aV (k := 0) aG.out az.size rfl rfl (by omega) (by omega) (by decide) ?_
    refine cY ee.out rfl (by decide) ?_
    refine bF az.out rfl (dR hh.below ((hr.recAt PX.len h00) 0 _ rfl)) (by decide) ?_
    refine mL ?_
    refine aM (jA _ A' M.length c' M (k + i) _ hT hh rfl (by omega) (by omega) hmd.ok) ar.out rfl (by decide) ?_
    rintro e_ w30 ⟨g, og, rfl, hh⟩
    refine ⟨_, rfl, ?_⟩
    refine dL ?_
    refine dL ?_
    refine bE hh 1 [_,_] ?_
    intro ws hh
    replace hh : Hp _ (_ :: .blk _ _ [_, _] _ :: _) _ := hh
    refine aI (ah (an ?_))
    refine iF (aJ rfl (aH (vs := [_, _]) az.out (hh.au (i := 1) (n := 2) rfl rfl) rfl) (bT (cm rfl) a4)) ?_
    rw [← hgE, ← hgM]
    exact ⟨g, og, rfl, hh.sub (List.Sublist.cons_cons _ (List.nil_sublist _))⟩
 ·rw [if_neg h0]
  generalize jX ps = e at *
  refine ak (N := 33) (l := [.slice L n c]) Tryz.func37 rfl rfl (by simp) ?_
  refine sr ?_
  refine cg hh ?_
  intro b2 w2 hh
  refine aI (ah (ai (sr (mL ?_))))
  refine bB hh (hlk _ (hT.hp hh) hh.below) rfl ?_
  intro w9 hh
  refine aI (ah (sr (mI ?_)))
  refine fj (ah (cT (sr ?_)))
  refine dY [_,_] (mI ?_)
  refine bE hh 0 [_,_] ?_
  intro ws hh
  replace hh : Hp _ (.blk _ _ [_, _] _ :: _) _ := hh
  refine aI (ah (an (aC ?_)))
  refine iF (aJ rfl (aH (vs := [_, _]) az.out (hh.au (i := 0) (n := 2) rfl rfl) rfl) (bT (cm rfl) a4)) ?_
  exact ⟨PX.nil, cQ.err h0, rfl, (hh.sub (List.nil_sublist _)).fR⟩
end Go.Proofs.YtkgdagjklakajaaGreatDoor
/- The walk through poly.times. -/
namespace Go.Proofs.YtkgdagjklakajaaGreatDoor
open Go.RowKit
theorem vx {p q : List TR} (h : 65536 < p.length * q.length) : gU p q = 3 := by unfold gU; rw [if_pos h]
theorem xt {p q : List TR} {e : Int} (h6 : ¬ 65536 < p.length * q.length) {a b : List Int} (h : mG p q = a ++ e :: b) (ha : ∀ x ∈ a, x = 0) (he : e ≠ 0) : gU p q = e := by
 unfold gU
 rw [if_neg h6, h, List.find?_append, ik (List.any_eq_false.2 fun x hx => by simp [ha x hx]), List.find?_cons_of_pos (p := fun e : Int => decide (e ≠ 0)) (by simpa using he)]
 rfl
theorem qf {p q : List TR} (h6 : ¬ 65536 < p.length * q.length) (h : ∀ x ∈ mG p q, x = 0) : gU p q = gH (ej p q) := by
 unfold gU gH
 rw [if_neg h6, ik (List.any_eq_false.2 fun x hx => by simp [h x hx])]
theorem kH (p q : PX) (k k2 : Nat) (w : World) (hT : gQ w) (hp : p.at_ w) (hq : q.at_ w) (lp : p.pP k) (lq : q.pP k2) (hk : k + k2 ≤ 900000) :
  Calls Tryz.prog 104 #[.agg #[.int .i64 p.v, .slice p.A p.n p.c], .agg #[.int .i64 q.v, .slice q.A q.n q.c]] w fun r w' => ∃ g : PX, cQ (gU p.ts q.ts) p.v (bu (ej p.ts q.ts)) g ∧ r = .returned (.tuple #[.agg #[.int .i64 g.v, .slice g.A g.n g.c], .int .i64 (gU p.ts q.ts)]) ∧ Hp w [g.row] w' := by
 have hh := Hp.start w
 obtain ⟨pv, pA, pn, pc, ps⟩ := p
 obtain ⟨qv, qA, qn, qc, qs⟩ := q
 have hpl : ps.length = pn := hp.ln
 have hql : qs.length = qn := hq.ln
 have hpn : pn ≤ 1000000 := lp.n
 have hqn : qn ≤ 1000000 := lq.n
 have okp : jb k ps := lp.ok
 have okq : jb k2 qs := lq.ok
 have szp : ∀ t ∈ ps, t.m.size ≤ 100000 := lp.sz
 have szq : ∀ t ∈ qs, t.m.size ≤ 100000 := lq.sz
 replace hp : Sl w pA pn 4 (a6 TR.cells ps) := hp
 replace hq : Sl w qA qn 4 (a6 TR.cells qs) := hq
 clear lp lq
 show Calls _ _ _ _ fun r w' => ∃ g : PX, cQ (gU ps qs) pv (bu (ej ps qs)) g ∧ r = .returned (.tuple #[.agg #[.int .i64 g.v, .slice g.A g.n g.c], .int .i64 (gU ps qs)]) ∧ Hp w [g.row] w'
 have hmm : pn * qn ≤ 1000000 * 1000000 := Nat.mul_le_mul hpn hqn
 obtain ⟨m, hm⟩ : ∃ m, m = pn * qn := ⟨_, rfl⟩
 have hmi : (pn : Int) * (qn : Int) = (m : Int) := by rw [hm]; exact (Int.natCast_mul _ _).symm
 by_cases h6 : 65536 < m
 ·rw [vx (by rw [hpl, hql, ← hm]; exact h6)]
  refine ak (N := 67) (l := [.agg #[.int .i64 pv, .slice pA pn pc], .agg #[.int .i64 qv, .slice qA qn qc]]) Tryz.func104 rfl rfl (by simp) ?_
  refine sr ?_
  refine cR hh [_,_] ?_
  intro b2 w2 hh
  refine cR hh [_,_] ?_
  intro b3 w3 hh
  refine cg hh ?_
  intro b4 w4 hh
  refine aI (ah (ai (sr (bH ?_))))
  refine bK hh 2 ?_
  refine a3 (bH ?_)
  refine bK hh 1 ?_
  refine a3 ?_
  refine mulC ?_
  refine bQ (ah (cT (sr ?_)))
  refine dY [_,_] ?_
  refine bE hh 0 [_,_] ?_
  intro ws hh
  replace hh : Hp _ (.blk _ _ [_, _] _ :: _) _ := hh
  refine aI (ah (an (aC ?_)))
  refine iF (aJ rfl (aH (vs := [_, _]) az.out (hh.au (i := 0) (n := 2) rfl rfl) rfl) (bT (cm rfl) a4)) ?_
  exact ⟨PX.nil, cQ.err (by decide), rfl, (hh.sub (List.nil_sublist _)).fR⟩
 ·have hbig : ¬ 65536 < ps.length * qs.length := by rw [hpl, hql, ← hm]; exact h6
  refine ak (N := 67) (l := [.agg #[.int .i64 pv, .slice pA pn pc], .agg #[.int .i64 qv, .slice qA qn qc]]) Tryz.func104 rfl rfl (by simp) ?_
  refine sr ?_
  refine cR hh [_,_] ?_
  intro b2 w2 hh
  refine cR hh [_,_] ?_
  intro b3 w3 hh
  refine cg hh ?_
  intro b4 w4 hh
  refine aI (ah (ai (sr (bH ?_))))
  refine bK hh 2 ?_
  refine a3 (bH ?_)
  refine bK hh 1 ?_
  refine a3 ?_
  refine mulC ?_
  refine bQ (ah (cF (al (aj (sr (aL (ah (ai (sr (bH ?_))))))))))
  refine bK hh 2 ?_
  refine a3 (mI (ah (ao ?_)))
  replace hh := hh.er 58 4
  have hall : ∀ i, ((ps.take i).flatMap fun x => qs.map (p9 x)).length ≤ 65536 := fun i => by
   have h1 : (ej ps qs).length = ((ps.take i).flatMap fun x => qs.map (p9 x)).length + ((ps.drop i).flatMap fun x => qs.map (p9 x)).length := by
    unfold ej
    rw [← List.length_append, ← List.flatMap_append, List.take_append_drop]
   rw [ld] at h1
   omega
  refine cD [5, 6, 8, 10, 11, 12, 25, 26, 27, 28, 29, 30, 31, 32, 33, 34, 35, 36, 37, 38, 39, 40, 41, 42, 43, 44, 45, 46, 47, 48, 49, 50, 51, 52, 53, 54, 55, 56, 57, 58, 59, 60] 6 25
   (fun a x w' => ∃ (i : Nat) (M : List TR) (A' : Option Addr) (c' : Nat), i ≤ pn ∧ x = .int .i64 i ∧ a = .slice A' M.length c' ∧ M = ((ps.take i).flatMap fun x => qs.map (p9 x)) ∧ (∀ e ∈ ((ps.take i).flatMap fun x => qs.map fun y => nH x.m y.m), e = 0) ∧ Hp w [.row A' M.length c' 58 4 (a6 TR.cells M), .blk b4 31 [.int .i64 0, .slice none 0 0] (0, 0), .blk b3 31 [.int .i64 qv, .slice qA qn qc] (0, 0), .blk b2 31 [.int .i64 pv, .slice pA pn pc] (0, 0)] w')
   (fun _ x _ => pn - (intOf x).toNat) ?_ ?_
  ·exact ⟨0, [], none, 0, Nat.zero_le _, rfl, rfl, rfl, fun e he => (nomatch he), hh⟩
  ·clear hh
   rintro ρ' a_ x_ w' ⟨i, M, A', c', hi, rfl, rfl, hM, hz, hh⟩
   have hMl := hall i
   rw [← hM] at hMl
   by_cases hlt : i < pn
   ·obtain ⟨x, hx⟩ := aK (l := ps) (k := i) (by omega)
    obtain ⟨ad, rfl, hr⟩ := hp.at_ (by omega)
    have hxm := List.mem_of_getElem? hx
    have hxo := okp x hxm
    have hxs := szp x hxm
    refine sr ?_
    refine aO (ah (ai (cT (al (aj (ai (ao (sr ?_))))))))
    refine aV (k := i) aG.out az.size rfl rfl (by omega) (by omega) (by decide) ?_
    refine bR (vs := [_, _, _, _]) az.out rfl ((hr.ext hh.below).recAt TR.len hx) rfl (by decide) ?_
    refine cg hh ?_
    intro b8 w8 hh
    refine bE hh 0 [_,_,_,_] ?_
    intro ws hh
    replace hh : Hp _ (.blk _ _ [_, _, _, _] _ :: _) _ := hh
    refine ah (sr (bH ?_))
    refine bK hh 3 ?_
    refine a3 (mI (ah (ao ?_)))
    replace hh := hh.perm (List.perm_middle (l₁ := [_]))
    simp only [List.cons_append, List.nil_append] at hh
    refine cD [5, 6, 10, 11, 12, 32, 33, 34, 35, 36, 37, 38, 39, 40, 41, 42, 43, 44, 45, 46, 47, 48, 49, 50, 51, 52, 53, 54, 55, 56, 57, 58, 59] 6 32
     (fun a z w' => ∃ (j : Nat) (N : List TR) (A' : Option Addr) (c' : Nat), j ≤ qn ∧ z = .int .i64 j ∧ a = .slice A' N.length c' ∧ N = M ++ (qs.take j).map (p9 x) ∧ (∀ e ∈ (qs.take j).map (fun y => nH x.m y.m), e = 0) ∧ Hp w [.row A' N.length c' 58 4 (a6 TR.cells N), .blk b8 58 [.string x.m, .bool x.c.neg, .string x.c.bV, .int .i64 x.c.e] (0, 0), .blk b4 31 [.int .i64 0, .slice none 0 0] (0, 0), .blk b3 31 [.int .i64 qv, .slice qA qn qc] (0, 0), .blk b2 31 [.int .i64 pv, .slice (some ad) pn pc] (0, 0)] w')
     (fun _ z _ => qn - (intOf z).toNat) ?_ ?_
    ·refine ⟨0, M, A', c', Nat.zero_le _, rfl, rfl, by simp, fun e he => (nomatch he), hh⟩
    ·clear hh
     rintro ρ2 a2 x2 w2 ⟨j, N, A2, c2, hj, rfl, rfl, hN, hz2, hh⟩
     by_cases hjn : j < qn
     ·obtain ⟨y, hy⟩ := aK (l := qs) (k := j) (by omega)
      obtain ⟨ad2, rfl, hr2⟩ := hq.at_ (by omega)
      have hym := List.mem_of_getElem? hy
      have hyo := okq y hym
      have hys := szq y hym
      have hmul : ∀ w1, Calls Tryz.prog 175 #[.string x.m, .string y.m] w1 fun r w' => r = .returned (.tuple #[.string (mulM x.m y.m), .int .i64 (nH x.m y.m)]) ∧ Below w1.heap.size w1 w' := fun w1 => uA x.m y.m w1 hxs hys
      have hdm := fun A cc w1 hT1 hS1 => r7 A 2 cc [x.c, y.c] w1 hT1 hS1 (by simpa using ⟨hxo.1, hyo.1⟩) (k + k2) (by simpa using ⟨hxo.2.mono (by omega), hyo.2.mono (by omega)⟩) (by omega) (by decide)
      rw [show jq ([x.c, y.c].map NR.d) = x.c.d * y.c.d by show 1 * x.c.d * y.c.d = _; rw [Dyadic.one_mul]] at hdm
      obtain ⟨R, hR⟩ := rD (f := fun x y => nH x.m y.m) hx hy
      have hzz : ∀ e ∈ ((ps.take i).flatMap fun x => qs.map fun y => nH x.m y.m) ++ (qs.take j).map (fun y => nH x.m y.m), e = 0 := fun e he => by
       rcases List.mem_append.1 he with he | he
       ·exact hz e he
       ·exact hz2 e he
      have hNl : N.length < 65536 := by
       have h1 := hall (i + 1)
       rw [k8 hx, List.length_append, ← hM] at h1
       rw [hN, List.length_append]
       simp at h1 ⊢
       omega
      by_cases he : nH x.m y.m = 0
      ·refine sr ?_
       refine aO (ah (ai (cT (al (aj (ai (ao (sr ?_))))))))
       refine aV (k := j) aG.out az.size rfl rfl (by omega) (by omega) (by decide) ?_
       refine bR (vs := [_, _, _, _]) az.out rfl ((hr2.ext hh.below).recAt TR.len hy) rfl (by decide) ?_
       refine cg hh ?_
       intro b10 w10 hh
       refine bE hh 0 [_,_,_,_] ?_
       intro ws hh
       replace hh : Hp _ (.blk _ _ [_, _, _, _] _ :: _) _ := hh
       refine ah (sr (bH ?_))
       refine bK hh 2 ?_
       refine bH ?_
       refine bK hh 0 ?_
       refine bB hh (hmul _) rfl ?_
       intro w41 hh
       refine mT ?_
       refine dL ?_
       refine dL ?_
       refine aS (aI (ah (ai (sr (mI ?_)))))
       refine fj (ah (cF (al (aj (aq (mL (mS (bH ?_))))))))
       refine du hh 2 [_,_,_] (bH ?_)
       refine du hh 0 [_,_,_] ?_
       refine bz hh (cs := [_, _, _, _, _, _]) aG.out az.out (bp (dJ rfl) (bp (dJ rfl) cn)) rfl rfl (by decide) (by decide) (by decide) rfl (by decide) ?_
       intro b54 w54 hh
       refine bB hh (hdm _ _ _ (hT.hp hh) (hh.aE (i := 0) rfl)) rfl ?_
       intro w55 hh
       refine dY [_,_,_,_] ?_
       refine bz hh (cs := [_, _, _, _]) aG.out az.out (bp (dJ rfl) cn) rfl rfl (by decide) (by decide) (by decide) rfl (by decide) ?_
       intro b57 w57 hh
       refine bO hh (i := 3) rfl rfl rfl (hh.aE (i := 0) rfl) aG.out az.out rfl (by decide) (by first | rfl | exact cq _ | exact bW _ | exact oneCells_i64s _ | exact bk NR.one _) (by omega) (by omega) (by decide) ?_
       intro A58 c58 w58 hh
       simp only [List.set_cons_zero, List.set_cons_succ] at hh
       replace hh := hh.sub (List.sublist_cons_self _ _)
       refine aL (aF (aZ (aj (aq ?_))))
       refine bJ (mI (aF (aj ?_)))
       have e1 : a6 TR.cells N ++ [.string (mulM x.m y.m), .bool (nR (x.c.d * y.c.d)).neg, .string (nR (x.c.d * y.c.d)).bV, .int .i64 (nR (x.c.d * y.c.d)).e] = a6 TR.cells (N ++ [p9 x y]) := by rw [cz, qP]; rfl
       replace hh := show Hp w (_ :: _ :: .row A58 (N.length + 1) c58 58 4 (a6 TR.cells N ++ [.string (mulM x.m y.m), .bool (nR (x.c.d * y.c.d)).neg, .string (nR (x.c.d * y.c.d)).bV, .int .i64 (nR (x.c.d * y.c.d)).e]) :: _) w58 from hh
       rw [e1] at hh
       replace hh := hh.sub (List.Sublist.cons _ (List.Sublist.cons _ (List.Sublist.cons_cons _ (List.Sublist.cons_cons _ (List.Sublist.cons_cons _ (List.Sublist.cons_cons _ (List.Sublist.cons_cons _ List.Sublist.slnil)))))))
       refine ⟨⟨j + 1, N ++ [p9 x y], _, _, by omega, rfl, by rw [List.length_append]; rfl, by rw [hN, aN hy, List.map_append, List.append_assoc]; rfl, fun e h => ?_, ?_⟩, by show qn - (j + 1) < qn - j; omega, ?_⟩
       ·rw [aN hy, List.map_append, List.mem_append] at h
        rcases h with h | h
        ·exact hz2 e h
        ·rw [List.mem_singleton.1 h]; exact he
       ·rw [List.length_append]; exact hh
       ·(repeat (first | exact ax _ _ _ | refine aA rfl ?_ | refine aw rfl ?_))
      ·rw [xt hbig hR hzz he]
       generalize nH x.m y.m = e at *
       refine sr ?_
       refine aO (ah (ai (cT (al (aj (ai (ao (sr ?_))))))))
       refine aV (k := j) aG.out az.size rfl rfl (by omega) (by omega) (by decide) ?_
       refine bR (vs := [_, _, _, _]) az.out rfl ((hr2.ext hh.below).recAt TR.len hy) rfl (by decide) ?_
       refine cg hh ?_
       intro b10 w10 hh
       refine bE hh 0 [_,_,_,_] ?_
       intro ws hh
       replace hh : Hp _ (.blk _ _ [_, _, _, _] _ :: _) _ := hh
       refine ah (sr (bH ?_))
       refine bK hh 2 ?_
       refine bH ?_
       refine bK hh 0 ?_
       refine bB hh (hmul _) rfl ?_
       intro w41 hh
       refine mT ?_
       refine dL ?_
       refine dL ?_
       refine aS (aI (ah (ai (sr (mI ?_)))))
       refine fj (ah (cT (sr ?_)))
       refine dY [_,_] (mI ?_)
       refine bE hh 3 [_,_] ?_
       intro ws hh
       replace hh : Hp _ (_ :: _ :: _ :: .blk _ _ [_, _] _ :: _) _ := hh
       refine aI (ah (an (aC (bP (aC (aC (bP (bP (aC (aC (bP ?_)))))))))))
       refine aC ?_
       refine iF (aJ rfl (aH (vs := [_, _]) az.out (hh.au (i := 3) (n := 2) rfl rfl) rfl) (bT (cm rfl) a4)) ?_
       exact ⟨PX.nil, cQ.err he, rfl, (hh.sub (List.nil_sublist _)).fR⟩
     ·obtain rfl : j = qn := by omega
      rw [List.take_of_length_le (by omega)] at hz2 hN
      refine sr ?_
      refine aO (ah (ai (cF ?_)))
      refine aY ?_
      refine ay (ay (bg (aZ (aj (aq ?_)))))
      refine bJ (mI (aF (aj ?_)))
      replace hh := hh.sub (List.Sublist.cons_cons _ (List.Sublist.cons _ (List.Sublist.cons_cons _ (List.Sublist.cons_cons _ (List.Sublist.cons_cons _ List.Sublist.slnil)))))
      refine ⟨⟨i + 1, N, A2, c2, by omega, rfl, rfl, by rw [k8 hx, ← hM, List.take_of_length_le (by omega)]; exact hN, fun e h => ?_, hh⟩, by show pn - (i + 1) < pn - i; omega, ?_⟩
      ·rw [k8 (f := fun (x y : TR) => nH x.m y.m) hx, List.mem_append, List.take_length] at h
       rcases h with h | h
       ·exact hz e h
       ·exact hz2 e h
      ·(repeat (first | exact ax _ _ _ | refine aA rfl ?_ | refine aw rfl ?_))
   ·obtain rfl : i = pn := by omega
    rw [List.take_of_length_le (by omega)] at hz hM
    have hMp : M = ej ps qs := hM
    rw [qf hbig hz, ← hMp]
    have hpo := q6 okp okq (by omega)
    rw [← hMp] at hpo
    refine sr ?_
    refine aO (ah (ai (cF ?_)))
    refine aY ?_
    refine ay (ay (bg (aj (sr (bH ?_)))))
    refine bK hh 3 ?_
    refine mL ?_
    refine aM (jA pv A' M.length c' M (k + k2) _ hT hh rfl (by omega) (by omega) hpo) ar.out rfl (by decide) ?_
    rintro e_ w64 ⟨g, og, rfl, hh⟩
    refine ⟨_, rfl, ?_⟩
    refine dL ?_
    refine dL ?_
    refine bE hh 1 [_,_] ?_
    intro ws hh
    replace hh : Hp _ (_ :: .blk _ _ [_, _] _ :: _) _ := hh
    refine aI (ah (an ?_))
    refine iF (aJ rfl (aH (vs := [_, _]) az.out (hh.au (i := 1) (n := 2) rfl rfl) rfl) (bT (cm rfl) a4)) ?_
    exact ⟨g, og, rfl, hh.sub (List.Sublist.cons_cons _ (List.nil_sublist _))⟩
end Go.Proofs.YtkgdagjklakajaaGreatDoor
/- The walk through poly.Mul. -/
namespace Go.Proofs.YtkgdagjklakajaaGreatDoor
open Go.RowKit
def km (base : Nat) (E v : Int) (ts : List TR) : VP := fun x W => ∃ (g : PX) (w1 : World), x = .agg #[.int .i64 g.v, .slice g.A g.n g.c] ∧ cQ E v ts g ∧ base ≤ w1.heap.size ∧ Hp w1 [g.row] W
theorem km.ext {base : Nat} {E v : Int} {ts : List TR} (x : Value) (w w' : World) (h : km base E v ts x w) (hb : Below w.heap.size w w') : km base E v ts x w' := let ⟨g, w1, h1, h2, h3, h4⟩ := h; ⟨g, w1, h1, h2, h3, h4.ext hb⟩
def nu (base : Nat) (E v : Int) (ts : List TR) : VP := fun x W => ∃ (g : PX) (w1 : World), x = .tuple #[.agg #[.int .i64 g.v, .slice g.A g.n g.c], .int .i64 E] ∧ cQ E v ts g ∧ base ≤ w1.heap.size ∧ Hp w1 [g.row] W
theorem nu.ext {base : Nat} {E v : Int} {ts : List TR} (x : Value) (w w' : World) (h : nu base E v ts x w) (hb : Below w.heap.size w w') : nu base E v ts x w' := let ⟨g, w1, h1, h2, h3, h4⟩ := h; ⟨g, w1, h1, h2, h3, h4.ext hb⟩
def qh (base : Nat) (v : Int) (ts : List TR) : VP := fun x W => ∃ (g : PX) (w1 : World), x = .slice g.A g.n g.c ∧ cQ 0 v ts g ∧ base ≤ w1.heap.size ∧ Hp w1 [g.row] W
theorem qh.ext {base : Nat} {v : Int} {ts : List TR} (x : Value) (w w' : World) (h : qh base v ts x w) (hb : Below w.heap.size w w') : qh base v ts x w' := let ⟨g, w1, h1, h2, h3, h4⟩ := h; ⟨g, w1, h1, h2, h3, h4.ext hb⟩
theorem PX.ne {g : PX} {w1 W : World} {b : Nat} {t : TypeId} {cs : Array Value} {fz : Nat × Nat} (h : Hp w1 [g.row] W) (h3 : W.heap[b]? = some (.cells cs t fz)) (h1 : 58 ≠ t) : ∀ x ∈ [g.row], x.id ≠ some b := fun x hx => by
 have hx2 := h.own x hx
 obtain rfl := List.mem_singleton.1 hx
 exact yx hx2 h3 h1
def eC (a : List TR × Int) (g : PX) : List TR × Int := if a.2 = 0 then (bu (ej a.1 g.ts), gU a.1 g.ts) else a
def yo (ps : List PX) : List TR × Int := match ps with | [] => ([], 0) | g :: l => l.foldl eC (g.ts, 0)
def td (ps : List PX) : Int := if jX ps = 0 then (yo ps).2 else jX ps
theorem qF {a : List TR × Int} (h : a.2 ≠ 0) : ∀ l : List PX, l.foldl eC a = a
 | [] => rfl
 | g :: l => by
  rw [List.foldl_cons, show eC a g = a by unfold eC; rw [if_neg h]]
  exact qF h l
theorem uf {l : List PX} {a : List TR × Int} {i : Nat} {g : PX} (hx : l[i]? = some g) (h0 : ((l.take i).foldl eC a).2 = 0) (h : gU ((l.take i).foldl eC a).1 g.ts ≠ 0) : (l.foldl eC a).2 = gU ((l.take i).foldl eC a).1 g.ts := by
 have e : l = l.take i ++ g :: l.drop (i + 1) := by rw [← iJ hx, List.take_append_drop]
 have e2 : l.foldl eC a = (l.drop (i + 1)).foldl eC (eC ((l.take i).foldl eC a) g) := by
  conv => lhs; rw [e]
  rw [List.foldl_append, List.foldl_cons]
 rw [e2]
 have e3 : eC ((l.take i).foldl eC a) g = (bu (ej ((l.take i).foldl eC a).1 g.ts), gU ((l.take i).foldl eC a).1 g.ts) := if_pos h0
 rw [e3, qF h]
theorem tW {l : List PX} {a : List TR × Int} {i : Nat} {g : PX} (hx : l[i]? = some g) (h0 : ((l.take i).foldl eC a).2 = 0) : (l.take (i + 1)).foldl eC a = (bu (ej ((l.take i).foldl eC a).1 g.ts), gU ((l.take i).foldl eC a).1 g.ts) := by
 rw [aN hx, List.foldl_append, List.foldl_cons, List.foldl_nil]
 exact if_pos h0
theorem s9 {p q : List TR} {k j : Nat} (hp : jb k p) (hq : jb j q) (sq : ∀ t ∈ q, t.m.size ≤ 100000) (h : gU p q = 0) (hk : k + j ≤ 900000) : jb (k + j + 65536) (bu (ej p q)) ∧ ∀ t ∈ bu (ej p q), t.m.size ≤ 100000 := by
 obtain ⟨h6, _, h4⟩ := oR h
 have ho := q6 hp hq (by omega)
 have hz := k7 fun t ht => (ho t ht).2
 rw [ld] at hz
 refine ⟨fun t ht => ?_, fun t ht => ?_⟩
 ·have : Sz (k + j + 65536) t.c.d := (hz t ht).mono (by omega)
  refine ⟨?_, this⟩
  rw [(fH _).nf t ht]
  exact this.ok (by omega)
 ·obtain ⟨s, hs, e⟩ := kh t ht
  obtain ⟨x, hx, hs⟩ := List.mem_flatMap.1 hs
  obtain ⟨y, hy, rfl⟩ := List.mem_map.1 hs
  rw [← e]
  exact Nat.le_trans (uN _ _) (sq y hy)
theorem rX (L : Option Addr) (n c : Nat) (ps : List PX) (k : Nat) (w : World) (hT : gQ w) (hL : Sl w L n 2 (a6 PX.cells ps)) (hcn : n ≤ c) (hn : n ≤ 8) (hf : ∀ g ∈ ps, g.at_ w) (hl : ∀ g ∈ ps, g.pP k) (hk : k ≤ 2000) :
  Calls Tryz.prog 33 #[.slice L n c] w fun r w' => ∃ g : PX, cQ (td ps) (s7 ps) (yo ps).1 g ∧ r = .returned (.tuple #[.agg #[.int .i64 g.v, .slice g.A g.n g.c], .int .i64 (td ps)]) ∧ Hp w [g.row] w' := by
 have hh := Hp.start w
 have hln := hL.cd PX.len (by decide)
 have hlk := fun w1 hT1 hb => lH L n c ps k w1 hT1 (hL.ext hb) (by omega) (fun g hg => (hf g hg).ext hb) hl
 unfold td
 by_cases h0 : jX ps = 0
 ·rw [if_pos h0]
  rw [h0] at hlk
  obtain ⟨hne, hev, hvv⟩ := tJ h0
  obtain ⟨g0, pt, rfl⟩ := List.exists_cons_of_ne_nil hne
  rw [qB (g := g0) rfl]
  have hnp : pt.length + 1 = n := hln
  obtain ⟨ad, rfl, hr⟩ := hL.at_ (by omega)
  have hm0 : g0 ∈ g0 :: pt := List.mem_cons_self
  have hg0 := hl g0 hm0
  have h00 : (g0 :: pt)[0]? = some g0 := rfl
  show Calls _ _ _ _ fun r w' => ∃ g : PX, cQ (pt.foldl eC (g0.ts, 0)).2 g0.v (pt.foldl eC (g0.ts, 0)).1 g ∧ r = .returned (.tuple #[.agg #[.int .i64 g.v, .slice g.A g.n g.c], .int .i64 (pt.foldl eC (g0.ts, 0)).2]) ∧ Hp w [g.row] w'
  refine ak (N := 46) (l := [.slice (some ad) n c]) Tryz.func33 rfl rfl (by simp) ?_
  refine sr ?_
  refine cg hh ?_
  intro b2 w2 hh
  refine aI (ah (ai (sr (mL ?_))))
  refine bB hh (hlk _ (hT.hp hh) hh.below) rfl ?_
  intro w11 hh
  refine aI (ah (sr (mI ?_)))
  refine fj (ah (cF (al (aj (ai ?_)))))
  refine aX 11 [[(0, none)], [(16, some 0)], [(17, some 1)], [(18, some 2)], [(0, none)], [(20, some 4)], [(21, some 5)], [(22, some 6)], [(23, some 7)], [(19, some 3), (24, some 8)], []] [(10, 5), (9, 25), (8, 24), (7, 23), (6, 22), (5, 21), (4, 20), (3, 19), (2, 18), (1, 17), (0, 16)] hh mixed (by kernel_rfl) ?_
  refine fO ?_
  refine jT (0) ?_
  refine oc ?_
  refine jd (fun _ hj => dR hj.hp.below ((hr.recAt PX.len h00) 0 _ rfl)) ?_
  refine fO ?_
  refine jT (0) ?_
  refine oc ?_
  refine jd (fun _ hj => dR hj.hp.below ((hr.recAt PX.len h00) 1 _ rfl)) ?_
  refine bU (i := 8) (qh w11.heap.size g0.v g0.ts) (qh.ext) ?_ ?_
  ·intro ρ1 w1 hj hR
   exact cK rfl (a7 ar.out (aD (show ρ1 23 = Value.slice _ _ _ from hR.1) a9)) (kU g0.A g0.n g0.c g0.ts w1 ((hf g0 hm0).ext hj.hp.below) hg0.n) (fun _ _ ⟨A, c, hq, ho, hb⟩ => ⟨_, hq, hb, ⟨g0.v, A, g0.n, c, g0.ts⟩, w1, rfl, ⟨rfl, rfl⟩, hj.bl.size, (Hp.start w1).bf (x := .row _ _ _ _ _ _) hb ho⟩)
  refine bU (i := 9) (km w11.heap.size 0 g0.v g0.ts) (km.ext) ?_ ?_
  ·intro ρ1 w1 hj hR
   exact let ⟨g, u, e, o, q, h⟩ := hR.2.1; fS rfl (o0 (cs := [_, _]) az.out jf.out (bp (show ρ1 19 = Value.int _ _ from hR.1) (bp e cn)) rfl) ⟨Below.refl _ _, g, u, by rw [show g.v = g0.v from o.v], o, q, h⟩
  refine bU (i := 10) (dI _ 31 _) dI.ext (fun ρ1 w1 hj hR => ic az.out hj.bl (fun v w2 h hb => ⟨hb, h⟩)) ?_
  refine a0 ?_
  intro f W hJ hV
  have hb_4 := hJ.bl
  obtain ⟨v5, v25, v24, v23, v22, v21, v20, v19, v18, v17, v16, _⟩ := hV
  obtain ⟨g24, u24, e24, -⟩ := v24
  obtain ⟨g25, u25, e25, o25, q25, h25⟩ := v25
  obtain ⟨b5, e5, hl5, hc5⟩ : dI _ _ _ (f 10) W := v5
  replace hh := hJ.nX hh hl5 hc5 q25 h25 (PX.ne h25 hc5 (by decide))
  refine aR (a5 (aa e5 (aa e25 (aa e24 (aa v23 (aa v22 (aa v21 (aa v20 (aa v19 (aa v18 (aa v17 (aa v16 aQ)))))))))))) ?_
  dsimp only [bX]
  clear e24 e25 e5 hJ
  simp only [List.cons_append, List.nil_append] at hh
  obtain ⟨gv, gA, gn, gc, gts⟩ := g25
  obtain rfl : g0.v = gv := o25.v.symm
  obtain rfl : g0.ts = gts := o25.ts.symm
  replace hh := show Hp w (_ :: .row gA gn gc 58 4 (a6 TR.cells g0.ts) :: _) W from hh
  have hgn : g0.ts.length = gn := (hh.aE (i := 1) rfl).cd TR.len (by decide)
  have hgc : gn ≤ gc := hh.gp (i := 1) rfl
  refine bE hh 0 [_,_] ?_
  intro ws hh
  replace hh : Hp _ (.blk _ _ [_, _] _ :: _) _ := hh
  refine ah (ai (sr (mL ?_)))
  refine aW rfl rfl (by decide) (fI aG.out az.size rfl rfl (l := 1) rfl (by omega) (by omega)) ?_
  refine a3 (mI (ah (ao ?_)))
  replace hh := hh.perm (List.perm_middle (l₁ := [_]))
  simp only [List.cons_append, List.nil_append] at hh
  refine bC [3, 7, 8, 9, 29, 30, 31, 32, 33, 34, 35, 36, 37, 38, 39, 40, 41, 42, 43, 44] 29
   (fun v w' => ∃ (i : Nat) (g : PX), i ≤ n - 1 ∧ v = .int .i64 i ∧ ((pt.take i).foldl eC (g0.ts, 0)).2 = 0 ∧ g.v = g0.v ∧ g.ts = ((pt.take i).foldl eC (g0.ts, 0)).1 ∧ g.pP (2000 + i * 67536) ∧ Hp w [.row g.A g.n g.c 58 4 (a6 TR.cells g.ts), .blk b5 31 [.int .i64 g.v, .slice g.A g.n g.c] (0, 0), .blk b2 31 [.int .i64 0, .slice none 0 0] (0, 0)] w')
   (fun v _ => n - 1 - (intOf v).toNat) ?_ ?_
  ·exact ⟨0, ⟨g0.v, gA, gn, gc, g0.ts⟩, Nat.zero_le _, rfl, rfl, rfl, rfl, ⟨by show gn ≤ 1000000; have := hg0.n; have h9 := (hf g0 hm0).ln; omega, hgc, hg0.ok.mono (by omega), hg0.sz⟩, hh⟩
  ·clear hh
   rintro ρ' v w' ⟨i, g, hi, rfl, hz, hgv, hts, hgl, hh⟩
   by_cases hlt : i < n - 1
   ·obtain ⟨f, hx⟩ := aK (l := pt) (k := i) (by omega)
    have hmem : f ∈ g0 :: pt := List.mem_cons_of_mem _ (List.mem_of_getElem? hx)
    have hbk : Sl w (if c = 1 then some ad else (some ad : Option Addr).map (·.add (1 * 2))) (n - 1) 2 (a6 PX.cells pt) := hL.back (by omega) hcn
    obtain ⟨ab, hAb, sb⟩ := hbk.at_ (by omega)
    have hev : Value.slice (if c = 1 then some ad else (some ad : Option Addr).map (·.add (1 * 2))) (n - 1) (c - 1) = .slice (some ab) (n - 1) (c - 1) := by rw [hAb]
    have hfl := hl f hmem
    have hnx := tW (a := (g0.ts, 0)) hx hz
    have hsp := uf (a := (g0.ts, 0)) hx hz
    rw [← hts] at hnx hsp
    refine sr ?_
    refine aO (ah (ai (cT (al (aj (ai (ao (sr ?_))))))))
    refine aV (k := i) aG.out az.size hev rfl (by omega) (by omega) (by decide) ?_
    refine bR (vs := [_, _]) az.out rfl (show Rd _ _ [.int .i64 f.v, .slice f.A f.n f.c] from (sb.ext hh.below).recAt PX.len hx) rfl (by decide) ?_
    refine cg hh ?_
    intro b7 w7 hh
    refine bE hh 0 [_,_] ?_
    intro ws hh
    replace hh : Hp _ (.blk _ _ [_, _] _ :: _) _ := hh
    refine ah (sr ?_)
    refine du hh 2 [_,_] ?_
    refine du hh 0 [_,_] ?_
    refine aM (kH g f (2000 + i * 67536) k _ (hT.hp hh) (hh.aE (i := 1) rfl) ((hf f hmem).ext hh.below) hgl hfl (by omega)) ar.out rfl (by decide) ?_
    rintro e_ w36 ⟨h, oh, rfl, h3⟩
    refine ⟨_, rfl, ?_⟩
    replace hh := hh.join h3
    simp only [List.cons_append, List.nil_append] at hh
    by_cases he : gU g.ts f.ts = 0
    ·obtain ⟨hv, hA, hn2, hc2, hts2⟩ := h
     rw [he] at oh
     obtain rfl : g.v = hv := oh.v.symm
     obtain rfl : bu (ej g.ts f.ts) = hts2 := oh.ts.symm
     replace hh := show Hp w (.row hA hn2 hc2 58 4 (a6 TR.cells (bu (ej g.ts f.ts))) :: _) w36 from hh
     have hhn : (bu (ej g.ts f.ts)).length = hn2 := (hh.aE (i := 0) rfl).cd TR.len (by decide)
     have hhc : hn2 ≤ hc2 := hh.gp (i := 0) rfl
     have h4 := (oR he).2.2
     have htl := s9 hgl.ok hfl.ok hfl.sz he (by omega)
     refine mT ?_
     refine dL ?_
     refine dL ?_
     refine cg hh ?_
     intro b8 w8 hh
     refine bE hh 0 [_,_] ?_
     intro ws hh
     replace hh : Hp _ (.blk _ _ [_, _] _ :: _) _ := hh
     refine aI (ah (ai (sr (mI ?_))))
     refine fj (ah (cF (al (aj (aq ?_)))))
     refine du hh 0 [_,_] ?_
     refine bE hh 4 [_,_] ?_
     intro ws hh
     replace hh : Hp _ (_ :: _ :: _ :: _ :: .blk _ _ [_, _] _ :: _) _ := hh
     refine aF (aZ (aj (aq ?_)))
     refine bJ (mI (aF (aj ?_)))
     replace hh := hh.sub (List.Sublist.cons _ (List.Sublist.cons_cons _ (List.Sublist.cons _ (List.Sublist.cons _ (List.Sublist.cons_cons _ (List.Sublist.cons_cons _ List.Sublist.slnil))))))
     refine ⟨⟨i + 1, ⟨g.v, hA, hn2, hc2, bu (ej g.ts f.ts)⟩, by omega, rfl, by rw [hnx]; exact he, hgv, by rw [hnx], ⟨by show hn2 ≤ 1000000; omega, hhc, htl.1.mono (by omega), htl.2⟩, hh⟩, by show n - 1 - (i + 1) < n - 1 - i; omega, ?_⟩
     (repeat (first | exact ax _ _ _ | refine aA rfl ?_ | refine aw rfl ?_))
    ·rw [hsp he]
     refine mT ?_
     refine dL ?_
     refine dL ?_
     refine cg hh ?_
     intro b8 w8 hh
     refine bE hh 0 [_,_] ?_
     intro ws hh
     replace hh : Hp _ (.blk _ _ [_, _] _ :: _) _ := hh
     refine aI (ah (ai (sr (mI ?_))))
     refine fj (ah (cT (sr ?_)))
     refine dY [_,_] (mI ?_)
     refine bE hh 5 [_,_] ?_
     intro ws hh
     replace hh : Hp _ (_ :: _ :: _ :: _ :: _ :: .blk _ _ [_, _] _ :: _) _ := hh
     refine aI (ah (an (aC (bP (aC (aC (bP (aC ?_))))))))
     refine iF (aJ rfl (aH (vs := [_, _]) az.out (hh.au (i := 5) (n := 2) rfl rfl) rfl) (bT (cm rfl) a4)) ?_
     exact ⟨PX.nil, cQ.err he, rfl, (hh.sub (List.nil_sublist _)).fR⟩
   ·obtain rfl : i = n - 1 := by omega
    rw [List.take_of_length_le (by omega)] at hz hts
    refine sr ?_
    refine aO (ah (ai (cF ?_)))
    refine aY ?_
    refine ay (ay (bg (aj (sr ?_))))
    refine du hh 1 [_,_] ?_
    refine bE hh 2 [_,_] ?_
    intro ws hh
    replace hh : Hp _ (_ :: _ :: .blk _ _ [_, _] _ :: _) _ := hh
    refine aI (ah (an ?_))
    refine iF (aJ rfl (aH (vs := [_, _]) az.out (hh.au (i := 2) (n := 2) rfl rfl) rfl) (bT (cm rfl) a4)) ?_
    rw [hz]
    exact ⟨g, ⟨hgv, hts⟩, rfl, hh.sub (List.Sublist.cons_cons _ (List.nil_sublist _))⟩
 ·rw [if_neg h0]
  generalize jX ps = e at *
  refine ak (N := 46) (l := [.slice L n c]) Tryz.func33 rfl rfl (by simp) ?_
  refine sr ?_
  refine cg hh ?_
  intro b2 w2 hh
  refine aI (ah (ai (sr (mL ?_))))
  refine bB hh (hlk _ (hT.hp hh) hh.below) rfl ?_
  intro w11 hh
  refine aI (ah (sr (mI ?_)))
  refine fj (ah (cT (sr ?_)))
  refine dY [_,_] (mI ?_)
  refine bE hh 0 [_,_] ?_
  intro ws hh
  replace hh : Hp _ (.blk _ _ [_, _] _ :: _) _ := hh
  refine aI (ah (an (aC ?_)))
  refine iF (aJ rfl (aH (vs := [_, _]) az.out (hh.au (i := 0) (n := 2) rfl rfl) rfl) (bT (cm rfl) a4)) ?_
  exact ⟨PX.nil, cQ.err h0, rfl, (hh.sub (List.nil_sublist _)).fR⟩
end Go.Proofs.YtkgdagjklakajaaGreatDoor
/- The walks through poly.Const and poly.Var. -/
namespace Go.Proofs.YtkgdagjklakajaaGreatDoor
open Go.RowKit
def eG (v : Int) : ByteArray := ⟨(List.replicate v.toNat 0).toArray⟩
theorem kf {v : Int} (h : 0 ≤ v) : ((eG v).size : Int) = v := by
 have : (eG v).size = v.toNat := by unfold eG; show (List.replicate v.toNat (0 : UInt8)).toArray.size = _; rw [List.size_toArray, List.length_replicate]
 omega
theorem uI (v : Int) : eR (eG v).data.toList = true := by
 unfold eR eG
 rw [List.all_eq_true]
 intro c hc
 have : (⟨(List.replicate v.toNat (0 : UInt8)).toArray⟩ : ByteArray).data.toList = List.replicate v.toNat 0 := rfl
 rw [this] at hc
 rw [(List.mem_replicate.1 hc).2]
 decide
theorem mH {l : List TR} (h : l.length ≤ 4096) : gH l = 0 := by
 unfold gH
 have := eo l
 rw [if_neg (by omega)]
theorem rn {v : Int} {t : TR} (hf : fA v = true) (h : iI v t = true) : gM v [t] = 0 := by
 unfold gM
 rw [if_neg (by rw [hf]; simp [h]), if_neg (by simp), mH (by simp)]
def kv (v : Int) : Int := if fA v = false then 1 else 0
theorem iK (v : Int) (c : NR) (k : Nat) (w : World) (hT : gQ w) (hc : c.ok ∧ Sz k c.d) (hk : k ≤ 2999980) :
  Calls Tryz.prog 26 #[.int .i64 v, .agg #[.bool c.neg, .string c.bV, .int .i64 c.e]] w fun r w' => ∃ g : PX, cQ (kv v) v (bu [⟨eG v, c⟩]) g ∧ r = .returned (.tuple #[.agg #[.int .i64 g.v, .slice g.A g.n g.c], .int .i64 (kv v)]) ∧ Hp w [g.row] w' := by
 have hh := Hp.start w
 have hfw := fun w1 => jJ v w1
 cases hf : fA v with
 | false =>
  rw [hf] at hfw
  rw [show kv v = 1 by unfold kv; rw [if_pos hf]]
  refine ak (N := 20) (l := [.int .i64 v, .agg #[.bool c.neg, .string c.bV, .int .i64 c.e]]) Tryz.func26 rfl rfl (by simp) ?_
  refine sr ?_
  refine cR hh [_,_,_] ?_
  intro b3 w3 hh
  refine cg hh ?_
  intro b4 w4 hh
  refine aI (ah (ai (sr (mI ?_))))
  refine bB hh (hfw _) rfl ?_
  intro w7 hh
  refine eS ?_
  refine ah (cT (sr ?_))
  refine dY [_,_] ?_
  refine bE hh 0 [_,_] ?_
  intro ws hh
  replace hh : Hp _ (.blk _ _ [_, _] _ :: _) _ := hh
  refine aI (ah (an (aC ?_)))
  refine iF (aJ rfl (aH (vs := [_, _]) az.out (hh.au (i := 0) (n := 2) rfl rfl) rfl) (bT (cm rfl) a4)) ?_
  exact ⟨PX.nil, cQ.err (by decide), rfl, (hh.sub (List.nil_sublist _)).fR⟩
 | true =>
  rw [hf] at hfw
  obtain ⟨h0, h12⟩ := dw.1 hf
  have hm : gM v [⟨eG v, c⟩] = 0 := rn hf (by unfold iI; rw [uI, decide_eq_true (kf h0)]; rfl)
  have hmk := fun A cc w1 hT1 hS1 => g1 v A 1 cc [⟨eG v, c⟩] k w1 hT1 hS1 (by decide) (by omega) (fun t ht => by rw [List.mem_singleton.1 ht]; exact hc) (fun t ht => by rw [List.mem_singleton.1 ht]; have := kf h0; show (eG v).size ≤ _; omega)
  rw [hm] at hmk
  rw [show kv v = 0 by unfold kv; rw [if_neg (by rw [hf]; decide)]]
  refine ak (N := 20) (l := [.int .i64 v, .agg #[.bool c.neg, .string c.bV, .int .i64 c.e]]) Tryz.func26 rfl rfl (by simp) ?_
  refine sr ?_
  refine cR hh [_,_,_] ?_
  intro b3 w3 hh
  refine cg hh ?_
  intro b4 w4 hh
  refine aI (ah (ai (sr (mI ?_))))
  refine bB hh (hfw _) rfl ?_
  intro w7 hh
  refine eS ?_
  refine ah (cF (al (aj (ai ?_))))
  refine ij [] [0, 0, 2, 6, 0, 30, 62, 127, 255, 255, 1023, 2047] 7 [[(0, none)], [(0, none)], [(11, some 1)], [(12, some 2)], [(3, none)], [(13, some 3), (14, some 4)], [(15, some 5)]] [(6, 16), (5, 15), (4, 14), (3, 13), (2, 12), (1, 11), (0, 10)] [([], 4, [(6, 16), (5, 15), (4, 14), (3, 13), (2, 12), (1, 11), (0, 10)])] hh mixed (by kernel_rfl) (by kernel_rfl) (by decide) ?_
  refine dP ?_
  refine dP ?_
  refine bU (i := 2) (hH v.toNat 1 (je (List.replicate v.toNat 0))) (hH.ext) ?_ ?_
  ·intro ρ1 w1 hj hR
   exact iV v.toNat ▸ tO (n := v.toNat) (show ρ1 11 = Value.int _ _ from hR.1) (show ρ1 11 = Value.int _ _ from hR.1) (by omega) (by omega) aG.out az.out rfl (by omega) (by omega) (fun _ _ h1 h2 => ⟨h2, h1⟩)
  refine bU (i := 3) (Is (.string (eG v))) (Is.ext) ?_ ?_
  ·intro ρ1 w1 hj hR
   exact let ⟨g, e, o⟩ := hR.1; fS rfl (gd (l := List.replicate v.toNat 0) aG.out aG.out aG.out e o) ⟨Below.refl _ _, rfl⟩
  refine ec 1 [_,_,_] ?_
  refine dB [_,_,_,_] ?_
  refine uT [_,_,_,_] ?_
  refine a0 ?_
  intro p_ hp_
  simp only [List.mem_cons, List.not_mem_nil, or_false] at hp_
  rcases hp_ with rfl
  intro f W hJ hV
  have hb_3 := hJ.bl
  obtain ⟨v16, v15, v14, v13, v12, v11, v10, _⟩ := hV
  simp only [iZ]
  have e10 : f 0 = _ := v10
  rw [e10]
  have e11 : f 1 = _ := v11
  rw [e11]
  obtain ⟨g12, e12, o12⟩ : hH v.toNat 1 (je (List.replicate v.toNat 0)) (f 2) W := v12
  rw [e12]
  have e13 : f 3 = _ := v13
  rw [e13]
  have e14 : f 4 = _ := v14
  rw [e14]
  have e15 : f 5 = _ := v15
  rw [e15]
  obtain ⟨A16, c16, e16, f16⟩ : Rows _ _ _ (f 6) W := v16
  rw [e16]
  replace hh := hJ.hp
  clear e10 e11 e12 e13 e14 e15 e16 hJ
  refine aM (hmk _ _ _ (hT.hp hh) f16) ar.out rfl (by decide) ?_; rintro e_ w17 ⟨g, og, rfl, h3⟩; refine ⟨_, rfl, ?_⟩; replace hh := hh.join h3
  refine cw ?_
  simp only [List.cons_append, List.nil_append] at hh
  refine bY (i := 8) (by repeat (first | exact bM | refine br ?_ | refine bL ?_ | refine np_scope ?_)) rfl (by kernel_rfl) (by kernel_rfl) (by kernel_rfl) (fun _ => dk (show _ = Value.tuple (List.toArray _) from rfl) rfl) (by decide) ?_
  refine bY (i := 9) (by repeat (first | exact bM | refine br ?_ | refine bL ?_ | refine np_scope ?_)) rfl (by kernel_rfl) (by kernel_rfl) (by kernel_rfl) (fun _ => dk (show _ = Value.tuple (List.toArray _) from rfl) rfl) (by decide) ?_
  refine dz 10 (by decide) (by kernel_rfl) (by decide) (by kernel_rfl) (by kernel_rfl) ?_
  refine bE hh 1 [_,_] ?_
  intro ws hh
  replace hh : Hp _ (_ :: .blk _ _ [_, _] _ :: _) _ := hh
  refine aI (ah (an ?_))
  refine iF (aJ rfl (aH (vs := [_, _]) az.out (hh.au (i := 1) (n := 2) rfl rfl) rfl) (bT (cm rfl) a4)) ?_
  exact ⟨g, og, rfl, hh.sub (List.Sublist.cons_cons _ (List.nil_sublist _))⟩
def l3 (v : Int) (x : Nat) : ByteArray := ⟨((List.replicate v.toNat (0 : UInt8)).set x 1).toArray⟩
theorem ov {v : Int} {x : Nat} (h : 0 ≤ v) : ((l3 v x).size : Int) = v := by
 have : (l3 v x).size = v.toNat := by unfold l3; show ((List.replicate v.toNat (0 : UInt8)).set x 1).toArray.size = _; rw [List.size_toArray, List.length_set, List.length_replicate]
 omega
theorem vh (v : Int) (x : Nat) : eR (l3 v x).data.toList = true := by
 unfold eR
 rw [List.all_eq_true]
 intro c hc
 have : (l3 v x).data.toList = (List.replicate v.toNat 0).set x 1 := rfl
 rw [this] at hc
 rcases List.mem_or_eq_of_mem_set hc with h | rfl
 ·rw [(List.mem_replicate.1 h).2]; decide
 ·decide
theorem oC {l : List UInt8} {i : Nat} {c : UInt8} (h : i < l.length) : bS (je l) (i * 1) [.int .u8 c.toNat] = je (l.set i c) := by
 unfold bS je
 rw [Nat.mul_one, List.set_eq_take_append_cons_drop, if_pos h, List.map_append, List.map_cons, List.map_take, List.map_drop, List.append_assoc]
 rfl
def gR (v x : Int) : Int := if fA v = false ∨ x < 0 ∨ v ≤ x then 1 else 0
theorem nk (v x : Int) (w : World) (hT : gQ w) :
  Calls Tryz.prog 28 #[.int .i64 v, .int .i64 x] w fun r w' => ∃ g : PX, cQ (gR v x) v (bu [⟨l3 v x.toNat, nR ((1 : Int) : Dyadic)⟩]) g ∧ r = .returned (.tuple #[.agg #[.int .i64 g.v, .slice g.A g.n g.c], .int .i64 (gR v x)]) ∧ Hp w [g.row] w' := by
 have hh := Hp.start w
 have hfw := fun w1 => jJ v w1
 cases hf : fA v with
 | false =>
  rw [hf] at hfw
  rw [show gR v x = 1 by unfold gR; rw [if_pos (.inl hf)]]
  refine ak (N := 34) (l := [.int .i64 v, .int .i64 x]) Tryz.func28 rfl rfl (by simp) ?_
  refine sr ?_
  refine cg hh ?_
  intro b4 w4 hh
  refine aI (ah (ai (sr (mI ?_))))
  refine bB hh (hfw _) rfl ?_
  intro w8 hh
  refine eS ?_
  refine mB ?_
  first | refine gS ?_ | (refine gT ?_; refine mI ?_) | refine gV ?_
  first | refine gS ?_ | (refine gT ?_; refine aO ?_) | refine gV ?_
  first | refine ct ?_ | refine cu ?_
  refine mB ?_
  first | refine gS ?_ | (refine gT ?_; refine mI ?_) | refine gV ?_
  first | refine gS ?_ | (refine gT ?_; refine mI ?_) | refine gV ?_
  first | refine gS ?_ | (refine gT ?_; refine cP ?_) | refine gV ?_
  first | refine ct ?_ | refine cu ?_
  refine ah (cT (sr ?_))
  refine dY [_,_] ?_
  refine bE hh 0 [_,_] ?_
  intro ws hh
  replace hh : Hp _ (.blk _ _ [_, _] _ :: _) _ := hh
  refine aI (ah (an (aC ?_)))
  refine iF (aJ rfl (aH (vs := [_, _]) az.out (hh.au (i := 0) (n := 2) rfl rfl) rfl) (bT (cm rfl) a4)) ?_
  exact ⟨PX.nil, cQ.err (by decide), rfl, (hh.sub (List.nil_sublist _)).fR⟩
 | true =>
  rw [hf] at hfw
  obtain ⟨h0, h12⟩ := dw.1 hf
  by_cases hx0 : x < 0
  ·rw [show gR v x = 1 by unfold gR; rw [if_pos (.inr (.inl hx0))]]
   refine ak (N := 34) (l := [.int .i64 v, .int .i64 x]) Tryz.func28 rfl rfl (by simp) ?_
   refine sr ?_
   refine cg hh ?_
   intro b4 w4 hh
   refine aI (ah (ai (sr (mI ?_))))
   refine bB hh (hfw _) rfl ?_
   intro w8 hh
   refine eS ?_
   refine mB ?_
   first | refine gS ?_ | (refine gT ?_; refine mI ?_) | refine gV ?_
   first | refine gS ?_ | (refine gT ?_; refine aO ?_) | refine gV ?_
   first | refine ct ?_ | refine cu ?_
   refine mB ?_
   first | refine gS ?_ | (refine gT ?_; refine mI ?_) | refine gV ?_
   first | refine gS ?_ | (refine gT ?_; refine mI ?_) | refine gV ?_
   first | refine gS ?_ | (refine gT ?_; refine cP ?_) | refine gV ?_
   first | refine ct ?_ | refine cu ?_
   refine ah (cT (sr ?_))
   refine dY [_,_] ?_
   refine bE hh 0 [_,_] ?_
   intro ws hh
   replace hh : Hp _ (.blk _ _ [_, _] _ :: _) _ := hh
   refine aI (ah (an (aC ?_)))
   refine iF (aJ rfl (aH (vs := [_, _]) az.out (hh.au (i := 0) (n := 2) rfl rfl) rfl) (bT (cm rfl) a4)) ?_
   exact ⟨PX.nil, cQ.err (by decide), rfl, (hh.sub (List.nil_sublist _)).fR⟩
  ·by_cases hx1 : v ≤ x
   ·rw [show gR v x = 1 by unfold gR; rw [if_pos (.inr (.inr hx1))]]
    refine ak (N := 34) (l := [.int .i64 v, .int .i64 x]) Tryz.func28 rfl rfl (by simp) ?_
    refine sr ?_
    refine cg hh ?_
    intro b4 w4 hh
    refine aI (ah (ai (sr (mI ?_))))
    refine bB hh (hfw _) rfl ?_
    intro w8 hh
    refine eS ?_
    refine mB ?_
    first | refine gS ?_ | (refine gT ?_; refine mI ?_) | refine gV ?_
    first | refine gS ?_ | (refine gT ?_; refine aO ?_) | refine gV ?_
    first | refine ct ?_ | refine cu ?_
    refine mB ?_
    first | refine gS ?_ | (refine gT ?_; refine mI ?_) | refine gV ?_
    first | refine gS ?_ | (refine gT ?_; refine mI ?_) | refine gV ?_
    first | refine gS ?_ | (refine gT ?_; refine cP ?_) | refine gV ?_
    first | refine ct ?_ | refine cu ?_
    refine ah (cT (sr ?_))
    refine dY [_,_] ?_
    refine bE hh 0 [_,_] ?_
    intro ws hh
    replace hh : Hp _ (.blk _ _ [_, _] _ :: _) _ := hh
    refine aI (ah (an (aC ?_)))
    refine iF (aJ rfl (aH (vs := [_, _]) az.out (hh.au (i := 0) (n := 2) rfl rfl) rfl) (bT (cm rfl) a4)) ?_
    exact ⟨PX.nil, cQ.err (by decide), rfl, (hh.sub (List.nil_sublist _)).fR⟩
   ·rw [show gR v x = 0 by unfold gR; rw [if_neg (by rintro (h | h | h); exact absurd (hf.symm.trans h) (by decide); omega; omega)]]
    have hm : gM v [⟨l3 v x.toNat, nR ((1 : Int) : Dyadic)⟩] = 0 := rn hf (by unfold iI; rw [vh, decide_eq_true (ov h0)]; rfl)
    have z1 : Sz 24 ((1 : Int) : Dyadic) := vg (m := 1) (e := 0) (by decide) (by decide) (by decide)
    have hmk := fun A cc w1 hT1 hS1 => g1 v A 1 cc [⟨l3 v x.toNat, nR ((1 : Int) : Dyadic)⟩] 24 w1 hT1 hS1 (by decide) (by omega) (fun t ht => by rw [List.mem_singleton.1 ht]; exact ⟨z1.ok (by decide), by show Sz 24 (nR _).d; rw [eM]; exact z1⟩) (fun t ht => by rw [List.mem_singleton.1 ht]; have := ov (x := x.toNat) h0; show (l3 v x.toNat).size ≤ _; omega)
    rw [hm] at hmk
    refine ak (N := 34) (l := [.int .i64 v, .int .i64 x]) Tryz.func28 rfl rfl (by simp) ?_
    refine sr ?_
    refine cg hh ?_
    intro b4 w4 hh
    refine aI (ah (ai (sr (mI ?_))))
    refine bB hh (hfw _) rfl ?_
    intro w8 hh
    refine eS ?_
    refine mB ?_
    first | refine gS ?_ | (refine gT ?_; refine mI ?_) | refine gV ?_
    first | refine gS ?_ | (refine gT ?_; refine aO ?_) | refine gV ?_
    first | refine ct ?_ | refine cu ?_
    refine mB ?_
    first | refine gS ?_ | (refine gT ?_; refine mI ?_) | refine gV ?_
    first | refine gS ?_ | (refine gT ?_; refine mI ?_) | refine gV ?_
    first | refine gS ?_ | (refine gT ?_; refine cP ?_) | refine gV ?_
    first | refine ct ?_ | refine cu ?_
    refine ah (cF (al (aj (sr (mI ?_)))))
    refine ff (n := (v.toNat)) hh rfl rfl (by omega) (by omega) aG.out az.out rfl (by omega) (by omega) (by decide) ?_
    intro b21 w21 hh
    refine aL (ah (sr (mL (mI ?_))))
    refine bj (k := (x.toNat)) aG.out az.size rfl rfl (by omega) (by omega) (by decide) ?_
    rw [iV] at hh
    have hll : (je (List.replicate v.toNat 0)).length = v.toNat := by simp [je]
    refine bq hh (i := 0) (vs := [_]) rfl rfl (bG rfl) rfl az.out rfl (by rw [hll]; omega) rfl ?_
    intro ws hh
    simp only [List.set_cons_zero] at hh
    rw [show bS (je (List.replicate v.toNat 0)) (x.toNat * 1) [.int .u8 1] = je ((List.replicate v.toNat 0).set x.toNat 1) from oC (l := List.replicate v.toNat 0) (i := x.toNat) (c := 1) (by rw [List.length_replicate]; omega)] at hh
    refine ah (ai ?_)
    refine ij [] [0, 0, 2, 0, 14, 30, 63, 127, 127, 511, 1023] 6 [[(0, none)], [(6, none)], [(26, some 1)], [], [(27, some 2), (28, some 3)], [(29, some 4)]] [(5, 30), (4, 29), (3, 28), (2, 27), (1, 26), (0, 25)] [([], 4, [(5, 30), (4, 29), (3, 28), (2, 27), (1, 26), (0, 25)])] hh mixed (by kernel_rfl) (by kernel_rfl) (by decide) ?_
    refine dP ?_
    refine fO ?_
    refine bU (i := 2) (Is (.string ⟨(((List.replicate v.toNat 0).set x.toNat 1)).toArray⟩)) Is.ext ?_ ?_
    ·intro ρ1 w1 hj hR
     exact fS rfl (gd (l := ((List.replicate v.toNat 0).set x.toNat 1)) aG.out aG.out aG.out (show ρ1 26 = Value.slice _ _ _ from hR.1) (hj.hp.aE (i := 0) rfl)) ⟨Below.refl _ _, rfl⟩
    refine dC (fun _ hj => k9 1 _ (hT.hp hj.hp) (by decide) (by decide)) ?_
    refine dB [_,_,_,_] ?_
    refine uT [_,_,_,_] ?_
    refine a0 ?_
    intro p_ hp_
    simp only [List.mem_cons, List.not_mem_nil, or_false] at hp_
    rcases hp_ with rfl
    intro f W hJ hV
    have hb_5 := hJ.bl
    obtain ⟨v30, v29, v28, v27, v26, v25, _⟩ := hV
    simp only [iZ]
    have e25 : f 0 = _ := v25
    rw [e25]
    have e26 : f 1 = _ := v26
    rw [e26]
    have e27 : f 2 = _ := v27
    rw [e27]
    have e28 : f 3 = _ := v28
    rw [e28]
    have e29 : f 4 = _ := v29
    rw [e29]
    obtain ⟨A30, c30, e30, f30⟩ : Rows _ _ _ (f 5) W := v30
    rw [e30]
    replace hh := hJ.hp
    clear e25 e26 e27 e28 e29 e30 hJ
    refine aM (hmk _ _ _ (hT.hp hh) f30) ar.out rfl (by decide) ?_; rintro e_ w31 ⟨g, og, rfl, h3⟩; refine ⟨_, rfl, ?_⟩; replace hh := hh.join h3
    refine cw ?_
    simp only [List.cons_append, List.nil_append] at hh
    refine bY (i := 7) (by repeat (first | exact bM | refine br ?_ | refine bL ?_ | refine np_scope ?_)) rfl (by kernel_rfl) (by kernel_rfl) (by kernel_rfl) (fun _ => dk (show _ = Value.tuple (List.toArray _) from rfl) rfl) (by decide) ?_
    refine bY (i := 8) (by repeat (first | exact bM | refine br ?_ | refine bL ?_ | refine np_scope ?_)) rfl (by kernel_rfl) (by kernel_rfl) (by kernel_rfl) (fun _ => dk (show _ = Value.tuple (List.toArray _) from rfl) rfl) (by decide) ?_
    refine dz 9 (by decide) (by kernel_rfl) (by decide) (by kernel_rfl) (by kernel_rfl) ?_
    refine bE hh 2 [_,_] ?_
    intro ws hh
    replace hh : Hp _ (_ :: _ :: .blk _ _ [_, _] _ :: _) _ := hh
    refine aI (ah (an ?_))
    refine iF (aJ rfl (aH (vs := [_, _]) az.out (hh.au (i := 2) (n := 2) rfl rfl) rfl) (bT (cm rfl) a4)) ?_
    exact ⟨g, og, rfl, hh.sub (List.Sublist.cons_cons _ (List.nil_sublist _))⟩
end Go.Proofs.YtkgdagjklakajaaGreatDoor
/- The walk through poly.Pow. -/
namespace Go.Proofs.YtkgdagjklakajaaGreatDoor
open Go.RowKit
def j6 (p : PX) (n : Nat) : List TR × Int := (List.replicate n p).foldl eC (bu [⟨eG p.v, nR ((1 : Int) : Dyadic)⟩], 0)
def mQ (p : PX) (n : Int) : Int := if p.e = 0 then (if n < 0 ∨ 127 < n then 1 else (j6 p n.toNat).2) else p.e
theorem od (p : PX) (i : Nat) : j6 p (i + 1) = eC (j6 p i) p := by unfold j6; rw [List.replicate_succ', List.foldl_append]; rfl
theorem oH {p : PX} {i : Nat} (h : (j6 p i).2 ≠ 0) : ∀ {n : Nat}, i ≤ n → j6 p n = j6 p i
 | 0, hn => by rw [show i = 0 by omega]
 | n + 1, hn => by
  rcases Nat.lt_or_ge n i with h1 | h1
  ·rw [show i = n + 1 by omega]
  ·rw [od, oH h h1]
   exact if_neg h
theorem m3 (p : PX) (n : Int) (k : Nat) (w : World) (hT : gQ w) (hp : p.at_ w) (lp : p.pP k) (hk : k ≤ 2000) (hn : n ≤ 4 ∨ 127 < n) :
  Calls Tryz.prog 35 #[.agg #[.int .i64 p.v, .slice p.A p.n p.c], .int .i64 n] w fun r w' => ∃ g : PX, cQ (mQ p n) p.v (j6 p n.toNat).1 g ∧ r = .returned (.tuple #[.agg #[.int .i64 g.v, .slice g.A g.n g.c], .int .i64 (mQ p n)]) ∧ Hp w [g.row] w' := by
 have hh := Hp.start w
 have hck := fun w1 hT1 hb => oQ p k w1 hT1 (hp.ext hb) lp
 unfold mQ
 by_cases h0 : p.e = 0
 ·rw [if_pos h0]
  rw [h0] at hck
  obtain ⟨hf, h4, _, _⟩ := iG h0
  have hpl : p.ts.length = p.n := hp.ln
  have hco : kv p.v = 0 := by unfold kv; rw [if_neg (by rw [hf]; decide)]
  have z1 : Sz 24 ((1 : Int) : Dyadic) := vg (m := 1) (e := 0) (by decide) (by decide) (by decide)
  have hcn := fun w1 hT1 => iK p.v (nR ((1 : Int) : Dyadic)) 24 w1 hT1 ⟨z1.ok (by decide), by rw [eM]; exact z1⟩ (by decide)
  rw [hco] at hcn
  have hg1 := eo [⟨eG p.v, nR ((1 : Int) : Dyadic)⟩]
  have hgo : jb 2000 (bu [⟨eG p.v, nR ((1 : Int) : Dyadic)⟩]) := fun t ht => by
   have h1 : Sz 2000 t.c.d := (k7 (k := 24) (l := [⟨eG p.v, nR ((1 : Int) : Dyadic)⟩]) (fun s hs => by rw [List.mem_singleton.1 hs, eM]; exact z1) t ht).mono (show 24 + 1 ≤ 2000 by decide)
   exact ⟨by rw [(fH _).nf t ht]; exact h1.ok (by decide), h1⟩
  have hgz : ∀ t ∈ bu [⟨eG p.v, nR ((1 : Int) : Dyadic)⟩], t.m.size ≤ 100000 := fun t ht => by
   obtain ⟨s, hs, e⟩ := kh t ht
   rw [← e, List.mem_singleton.1 hs]
   have h1 := dw.1 hf
   have h2 := kf h1.1
   show (eG p.v).size ≤ 100000
   omega
  have hpw : j6 p 0 = (bu [⟨eG p.v, nR ((1 : Int) : Dyadic)⟩], 0) := rfl
  generalize bu [⟨eG p.v, nR ((1 : Int) : Dyadic)⟩] = G at *
  refine ak (N := 47) (l := [.agg #[.int .i64 p.v, .slice p.A p.n p.c], .int .i64 n]) Tryz.func35 rfl rfl (by simp) ?_
  refine sr ?_
  refine cR hh [_,_] ?_
  intro b2 w2 hh
  refine cg hh ?_
  intro b4 w4 hh
  refine aI (ah (ai (sr ?_)))
  refine du hh 1 [_,_] ?_
  refine bB hh (hck _ (hT.hp hh) hh.below) rfl ?_
  intro w11 hh
  refine aI (ah (sr (mI ?_)))
  refine fj (ah (cF (al (aj (ai ?_)))))
  refine cH [7] [6] [0, 1, 0, 7, 15, 31, 31, 0, 191, 511] 8 [[(2, none)], [(17, some 0)], [], [(18, some 1), (19, some 2)], [(20, some 3)], [(16, some 4)], [(16, some 4)], []] [(7, 7), (6, 22), (5, 21), (4, 16), (3, 20), (2, 19), (1, 18), (0, 17)] hh mixed (by kernel_rfl) (uy rfl az.out dg) rfl (by repeat (first | exact bM | refine br ?_ | refine bL ?_)) ?_
  refine cv ?_
  refine dH 1 ?_
  refine dC (fun _ hj => k9 1 _ (hT.hp hj.hp) (by decide) (by decide)) ?_
  refine bU (i := 3) (nu w11.heap.size 0 p.v G) (nu.ext) ?_ ?_
  ·intro ρ1 w1 hj hR
   exact cK rfl (a7 ar.out (aD (show ρ1 18 = Value.int _ _ from hR.1) (aD (show ρ1 19 = Value.agg _ from hR.2.1) a9))) (hcn w1 (hT.hp hj.hp)) (fun _ _ ⟨g, og, hq, h3⟩ => ⟨_, hq, h3.below, g, w1, rfl, og, hj.bl.size, h3⟩)
  refine bU (i := 4) (nu w11.heap.size 0 p.v G) (nu.ext) ?_ ?_
  ·intro ρ1 w1 hj hR
   exact let ⟨g, u, e1, e2⟩ := hR.1; fS rfl (ea e1) ⟨Below.refl _ _, g, u, rfl, e2⟩
  refine bU (i := 5) (km w11.heap.size 0 p.v G) (km.ext) ?_ ?_
  ·intro ρ1 w1 hj hR
   exact let ⟨g, u, e1, e2⟩ := hR.1; fS rfl (dk (vs := [_, _]) e1 rfl) ⟨Below.refl _ _, g, u, rfl, e2⟩
  refine bU (i := 6) (Is (.int .i64 0)) (Is.ext) ?_ ?_
  ·intro ρ1 w1 hj hR
   exact let ⟨g, u, e1, e2⟩ := hR.1; fS rfl (dk (vs := [_, _]) e1 rfl) ⟨Below.refl _ _, rfl⟩
  refine bU (i := 7) (dI _ 31 _) dI.ext (fun ρ1 w1 hj hR => ic az.out hj.bl (fun v w2 h hb => ⟨hb, h⟩)) ?_
  refine a0 ?_
  intro f W hJ hV _
  have hb_4 := hJ.bl
  obtain ⟨v7, v22, v21, v16, v20, v19, v18, v17, _⟩ := hV
  obtain ⟨g20, u20, e20, -⟩ := v20
  obtain ⟨g16, u16, e16, -⟩ := v16
  obtain ⟨g21, u21, e21, o21, q21, h21⟩ := v21
  obtain ⟨b7, e7, hl7, hc7⟩ : dI _ _ _ (f 7) W := v7
  replace hh := hJ.nX hh hl7 hc7 q21 h21 (PX.ne h21 hc7 (by decide))
  refine aR (a5 (aa e7 (aa v22 (aa e21 (aa e16 (aa e20 (aa v19 (aa v18 (aa v17 aQ))))))))) ?_
  dsimp only [bX]
  clear e20 e16 e21 e7 hJ
  simp only [List.cons_append, List.nil_append] at hh
  obtain ⟨gv, gA, gn, gc, gts⟩ := g21
  obtain rfl : p.v = gv := o21.v.symm
  obtain rfl : G = gts := o21.ts.symm
  replace hh := show Hp w (_ :: .row gA gn gc 58 4 (a6 TR.cells G) :: _) W from hh
  have hgn : G.length = gn := (hh.aE (i := 1) rfl).cd TR.len (by decide)
  have hgc : gn ≤ gc := hh.gp (i := 1) rfl
  by_cases hb : n < 0 ∨ 127 < n
  ·rw [if_pos hb]
   by_cases hneg : n < 0
   ·refine bE hh 0 [_,_] ?_
    intro ws hh
    replace hh : Hp _ (.blk _ _ [_, _] _ :: _) _ := hh
    refine aI (ah (ai (sr (mI ?_))))
    refine aO (mB ?_)
    first | refine gS ?_ | (refine gT ?_; refine mI ?_) | refine gV ?_
    first | refine gS ?_ | (refine gT ?_; refine bQ ?_) | refine gV ?_
    first | refine ct ?_ | refine cu ?_
    refine ah (cT (sr ?_))
    refine dY [_,_] ?_
    refine bE hh 2 [_,_] ?_
    intro ws hh
    replace hh : Hp _ (_ :: _ :: .blk _ _ [_, _] _ :: _) _ := hh
    refine aI (ah (an (aC ?_)))
    refine iF (aJ rfl (aH (vs := [_, _]) az.out (hh.au (i := 2) (n := 2) rfl rfl) rfl) (bT (cm rfl) a4)) ?_
    exact ⟨PX.nil, cQ.err (by decide), rfl, (hh.sub (List.nil_sublist _)).fR⟩
   ·refine bE hh 0 [_,_] ?_
    intro ws hh
    replace hh : Hp _ (.blk _ _ [_, _] _ :: _) _ := hh
    refine aI (ah (ai (sr (mI ?_))))
    refine aO (mB ?_)
    first | refine gS ?_ | (refine gT ?_; refine mI ?_) | refine gV ?_
    first | refine gS ?_ | (refine gT ?_; refine bQ ?_) | refine gV ?_
    first | refine ct ?_ | refine cu ?_
    refine ah (cT (sr ?_))
    refine dY [_,_] ?_
    refine bE hh 2 [_,_] ?_
    intro ws hh
    replace hh : Hp _ (_ :: _ :: .blk _ _ [_, _] _ :: _) _ := hh
    refine aI (ah (an (aC ?_)))
    refine iF (aJ rfl (aH (vs := [_, _]) az.out (hh.au (i := 2) (n := 2) rfl rfl) rfl) (bT (cm rfl) a4)) ?_
    exact ⟨PX.nil, cQ.err (by decide), rfl, (hh.sub (List.nil_sublist _)).fR⟩
  ·rw [if_neg hb]
   refine bE hh 0 [_,_] ?_
   intro ws hh
   replace hh : Hp _ (.blk _ _ [_, _] _ :: _) _ := hh
   refine aI (ah (ai (sr (mI ?_))))
   refine aO (mB ?_)
   first | refine gS ?_ | (refine gT ?_; refine mI ?_) | refine gV ?_
   first | refine gS ?_ | (refine gT ?_; refine bQ ?_) | refine gV ?_
   first | refine ct ?_ | refine cu ?_
   refine ah (cF (al (aj (ai (sr (aI (ah (ao ?_))))))))
   have hnn : n = (n.toNat : Int) := by omega
   have hn4 : n.toNat ≤ 4 := by omega
   generalize n.toNat = m at *
   subst hnn
   replace hh := hh.perm (List.perm_middle (l₁ := [_]))
   simp only [List.cons_append, List.nil_append] at hh
   refine cD [8, 9, 30, 31, 32, 33, 34, 35, 36, 37, 38, 39, 40, 41, 42, 43, 44] 8 9
    (fun e x w' => ∃ (i : Nat) (g : PX), i ≤ m ∧ x = .int .i64 i ∧ e = .int .i64 (j6 p i).2 ∧ cQ (j6 p i).2 p.v (j6 p i).1 g ∧ ((j6 p i).2 = 0 → g.pP (2000 + i * 67536)) ∧ Hp w [.row g.A g.n g.c 58 4 (a6 TR.cells g.ts), .blk b7 31 [.int .i64 g.v, .slice g.A g.n g.c] (0, 0), .blk b4 31 [.int .i64 0, .slice none 0 0] (0, 0), .blk b2 31 [.int .i64 p.v, .slice p.A p.n p.c] (0, 0)] w')
    (fun _ x _ => m - (intOf x).toNat) ?_ ?_
   ·refine ⟨0, ⟨p.v, gA, gn, gc, G⟩, Nat.zero_le _, rfl, by rw [hpw]; rfl, by rw [hpw]; exact ⟨rfl, rfl⟩, fun _ => ⟨?_, hgc, hgo, hgz⟩, hh⟩
    show gn ≤ 1000000
    have : G.length ≤ 1 := hg1
    omega
   ·clear hh
    rintro ρ' e_ x_ w' ⟨i, g, hi, rfl, rfl, og, hgl, hh⟩
    have hnx := od p i
    have hst := fun h => oH (p := p) (i := i) h hi
    generalize hpi : j6 p i = a at *
    obtain ⟨av, ae⟩ := a
    by_cases hlt : i < m
    ·by_cases h0 : ae = 0
     ·subst h0
      rw [show eC (av, 0) p = (bu (ej av p.ts), gU av p.ts) from if_pos rfl] at hnx
      have hgv : g.v = p.v := og.v
      have hgt : g.ts = av := og.ts
      have hlim := hgl rfl
      have hti := fun h => s9 hlim.ok lp.ok lp.sz h (by omega)
      refine ai (sr (mI (mI ?_)))
      refine aO (mB ?_)
      first | refine gS ?_ | (refine gT ?_; refine mI ?_) | refine gV ?_
      first | refine gS ?_ | (refine gT ?_; refine dK ?_) | refine gV ?_
      first | refine ct ?_ | refine cu ?_
      refine ah (cT (al (aj (ai (ao (aq ?_))))))
      refine du hh 1 [_,_] ?_
      refine du hh 3 [_,_] ?_
      refine aM (kH g p (2000 + i * 67536) k _ (hT.hp hh) (hh.aE (i := 0) rfl) (hp.ext hh.below) hlim lp (by omega)) ar.out rfl (by decide) ?_
      rintro e_ w42 ⟨h, oh, rfl, h3⟩
      refine ⟨_, rfl, ?_⟩
      replace hh := hh.join h3
      simp only [List.cons_append, List.nil_append] at hh
      obtain ⟨hv, hA, hn2, hc2, hts2⟩ := h
      replace hh := show Hp w (.row hA hn2 hc2 58 4 (a6 TR.cells hts2) :: _) w42 from hh
      have hhn : hts2.length = hn2 := (hh.aE (i := 0) rfl).cd TR.len (by decide)
      have hhc : hn2 ≤ hc2 := hh.gp (i := 0) rfl
      refine mT ?_
      refine dL ?_
      refine dL ?_
      refine bE hh 2 [_,_] ?_
      intro ws hh
      replace hh : Hp _ (_ :: _ :: .blk _ _ [_, _] _ :: _) _ := hh
      refine aI (aF (aZ (aj (aq (mI ?_)))))
      refine bJ (aI (aF (aj ?_)))
      replace hh := hh.sub (List.Sublist.cons_cons _ (List.Sublist.cons _ (List.Sublist.cons_cons _ (List.Sublist.cons_cons _ (List.Sublist.cons_cons _ List.Sublist.slnil)))))
      rw [hgt, hgv] at oh
      rw [hgt] at hti
      refine ⟨⟨i + 1, ⟨hv, hA, hn2, hc2, hts2⟩, by omega, rfl, by rw [hnx, hgt]; rfl, by rw [hnx]; exact oh, fun h => ?_, hh⟩, by show m - (i + 1) < m - i; omega, ?_⟩
      ·rw [hnx] at h
       have htl := hti h
       have he : hts2 = bu (ej av p.ts) := by have := oh.ts; rwa [if_pos h] at this
       subst he
       have h4 := (oR h).2.2
       exact ⟨by show hn2 ≤ 1000000; omega, hhc, htl.1.mono (by omega), htl.2⟩
      ·(repeat (first | exact ax _ _ _ | refine aA rfl ?_ | refine aw rfl ?_))
     ·rw [hst h0]
      refine ai (sr (mI (mI ?_)))
      refine aO (mB ?_)
      first | refine gS ?_ | (refine gT ?_; refine mI ?_) | refine gV ?_
      first | refine gS ?_ | (refine gT ?_; refine dK ?_) | refine gV ?_
      first | refine ct ?_ | refine cu ?_
      refine ah (cF ?_)
      refine aY ?_
      refine ay (ay (bg (aj (sr ?_))))
      refine du hh 1 [_,_] (mI ?_)
      refine bE hh 2 [_,_] ?_
      intro ws hh
      replace hh : Hp _ (_ :: _ :: .blk _ _ [_, _] _ :: _) _ := hh
      refine aI (ah (an ?_))
      refine iF (aJ rfl (aH (vs := [_, _]) az.out (hh.au (i := 2) (n := 2) rfl rfl) rfl) (bT (cm rfl) a4)) ?_
      exact ⟨g, og, rfl, hh.sub (List.Sublist.cons_cons _ (List.nil_sublist _))⟩
    ·obtain rfl : i = m := by omega
     rw [hpi]
     refine ai (sr (mI (mI ?_)))
     refine aO (mB ?_)
     first | refine gS ?_ | (refine gT ?_; refine mI ?_) | refine gV ?_
     first | refine gS ?_ | (refine gT ?_; refine dK ?_) | refine gV ?_
     first | refine ct ?_ | refine cu ?_
     refine ah (cF ?_)
     refine aY ?_
     refine ay (ay (bg (aj (sr ?_))))
     refine du hh 1 [_,_] (mI ?_)
     refine bE hh 2 [_,_] ?_
     intro ws hh
     replace hh : Hp _ (_ :: _ :: .blk _ _ [_, _] _ :: _) _ := hh
     refine aI (ah (an ?_))
     refine iF (aJ rfl (aH (vs := [_, _]) az.out (hh.au (i := 2) (n := 2) rfl rfl) rfl) (bT (cm rfl) a4)) ?_
     exact ⟨g, og, rfl, hh.sub (List.Sublist.cons_cons _ (List.nil_sublist _))⟩
 ·rw [if_neg h0]
  refine ak (N := 47) (l := [.agg #[.int .i64 p.v, .slice p.A p.n p.c], .int .i64 n]) Tryz.func35 rfl rfl (by simp) ?_
  refine sr ?_
  refine cR hh [_,_] ?_
  intro b2 w2 hh
  refine cg hh ?_
  intro b4 w4 hh
  refine aI (ah (ai (sr ?_)))
  refine du hh 1 [_,_] ?_
  refine bB hh (hck _ (hT.hp hh) hh.below) rfl ?_
  intro w11 hh
  refine aI (ah (sr (mI ?_)))
  refine fj (ah (cT (sr ?_)))
  refine dY [_,_] (mI ?_)
  refine bE hh 0 [_,_] ?_
  intro ws hh
  replace hh : Hp _ (.blk _ _ [_, _] _ :: _) _ := hh
  refine aI (ah (an (aC ?_)))
  refine iF (aJ rfl (aH (vs := [_, _]) az.out (hh.au (i := 0) (n := 2) rfl rfl) rfl) (bT (cm rfl) a4)) ?_
  exact ⟨PX.nil, cQ.err h0, rfl, (hh.sub (List.nil_sublist _)).fR⟩
end Go.Proofs.YtkgdagjklakajaaGreatDoor
/- The walk through poly.Scale. -/
namespace Go.Proofs.YtkgdagjklakajaaGreatDoor
open Go.RowKit
def zZ (p : PX) (c : Dyadic) : Int := if p.e = 0 then gH (p.ts.map (zI c)) else p.e
end Go.Proofs.YtkgdagjklakajaaGreatDoor
/- The walk through poly.Degs. -/
namespace Go.Proofs.YtkgdagjklakajaaGreatDoor
open Go.RowKit
def tg (s : ByteArray) (i : Nat) : Int := match s.data.toList[i]? with | some c => c.toNat | none => 0
def pC (l : List TR) (i : Nat) : Int := l.foldl (fun m t => max m (tg t.m i)) 0
def gf (m : Nat) (l : List TR) : List Int := (List.range m).map (pC l)
def l8 (v : Int) (ts : List TR) : List Int := if gj v ts = 0 then gf v.toNat ts else []
theorem eX (m : Nat) (l : List TR) : (gf m l).length = m := by unfold gf; rw [List.length_map, List.length_range]
theorem oO {m j : Nat} (l : List TR) (h : j < m) : (gf m l)[j]? = some (pC l j) := by
 unfold gf
 rw [List.getElem?_map, List.getElem?_range h]
 rfl
theorem pV (l : List TR) (t : TR) (i : Nat) : pC (l ++ [t]) i = max (pC l i) (tg t.m i) := by unfold pC; rw [List.foldl_append]; rfl
theorem qk {s : ByteArray} {i : Nat} {c : UInt8} (h : s.data.toList[i]? = some c) : tg s i = c.toNat := by unfold tg; rw [h]
theorem xz {α : Type} {A B : List α} {j : Nat} {y : α} (h : A.length = B.length) (hy : B[j]? = some y) : (B.take j ++ A.drop j).set j y = B.take (j + 1) ++ A.drop (j + 1) := by
 have hj := (List.getElem?_eq_some_iff.1 hy).1
 have hl : (B.take j).length = j := by rw [List.length_take]; omega
 obtain ⟨x, hx⟩ := aK (l := A) (k := j) (by omega)
 rw [iJ hx, aN hy, List.set_append_right _ _ (by omega), hl, Nat.sub_self]
 simp
theorem xf {α : Type} {A B : List α} {j : Nat} {x : α} (h : A.length = B.length) (hx : A[j]? = some x) : (B.take j ++ A.drop j)[j]? = some x := by
 have hj := (List.getElem?_eq_some_iff.1 hx).1
 have hl : (B.take j).length = j := by rw [List.length_take]; omega
 rw [List.getElem?_append_right (by omega), hl, Nat.sub_self, List.getElem?_drop, Nat.add_zero, hx]
theorem vp (m : Nat) : ez m [.int .i64 0] = dF (gf m []) := by
 have h1 : ∀ n, ez n [.int .i64 0] = dF (List.replicate n 0) := fun n => by
  induction n with
  | zero => rfl
  | succ n ih => rw [ez, ih, List.replicate_succ]; rfl
 rw [h1]
 congr 1
 apply List.ext_getElem?
 intro i
 by_cases h : i < m
 ·rw [oO [] h, List.getElem?_replicate, if_pos h]
  rfl
 ·rw [List.getElem?_eq_none (by rw [List.length_replicate]; omega), List.getElem?_eq_none (by rw [eX]; omega)]
theorem jk (p : PX) (k : Nat) (w : World) (hT : gQ w) (hp : p.at_ w) (lp : p.pP k) :
  Calls Tryz.prog 24 #[.agg #[.int .i64 p.v, .slice p.A p.n p.c]] w fun r w' => ∃ A c, r = .returned (.slice A (l8 p.v p.ts).length c) ∧ Hp w [.row A (l8 p.v p.ts).length c 3 1 (dF (l8 p.v p.ts))] w' := by
 have hh := Hp.start w
 have hck := fun w1 hT1 hb => oQ p k w1 hT1 (hp.ext hb) lp
 by_cases h0 : p.e = 0
 ·rw [show l8 p.v p.ts = gf p.v.toNat p.ts from if_pos h0, eX]
  rw [h0] at hck
  obtain ⟨hf, h4, hmy, _⟩ := iG h0
  have hpl : p.ts.length = p.n := hp.ln
  obtain ⟨pv, pA, pn, pc, ts⟩ := p
  replace hf := dw.1 hf
  replace hmy : ∀ t ∈ ts, iI pv t = true := hmy
  replace hp : Sl w pA pn 4 (a6 TR.cells ts) := hp
  have hsz : ∀ t ∈ ts, t.m.size ≤ 100000 := lp.sz
  have hn := lp.n
  replace hn : pn ≤ 1000000 := hn
  replace hpl : ts.length = pn := hpl
  obtain ⟨m, rfl⟩ : ∃ m : Nat, pv = (m : Int) := ⟨pv.toNat, by show pv = _; have : 0 ≤ pv := hf.1; omega⟩
  replace hf : m ≤ 12 := by have h9 : (m : Int) ≤ 12 := hf.2; omega
  show Calls _ _ _ _ fun r w' => ∃ A c, r = .returned (.slice A m c) ∧ Hp w [.row A m c 3 1 (dF (gf m ts))] w'
  refine ak (N := 42) (l := [.agg #[.int .i64 m, .slice pA pn pc]]) Tryz.func24 rfl rfl (by simp) ?_
  refine sr ?_
  refine cR hh [_,_] ?_
  intro b1 w1 hh
  refine aL (ah (ai (sr ?_)))
  refine du hh 0 [_,_] ?_
  refine bB hh (hck _ (hT.hp hh) hh.below) rfl ?_
  intro w9 hh
  refine fj (ah (cF (al (aj (sr (bH ?_))))))
  refine bK hh 0 ?_
  refine ff (n := m) hh rfl rfl (by omega) (by omega) aG.out az.out rfl (by omega) (by omega) (by decide) ?_
  intro b13 w13 hh
  refine aL (ah (ai (sr (bH ?_))))
  refine bK hh 1 ?_
  refine a3 (mI (ah (ao ?_)))
  rw [vp] at hh
  refine bC [5, 6, 7, 17, 18, 19, 20, 21, 22, 23, 24, 25, 26, 27, 28, 29, 30, 31, 32, 33, 34, 35, 36, 37, 38, 39, 40] 17
   (fun v w' => ∃ i : Nat, i ≤ pn ∧ v = .int .i64 i ∧ Hp w [.row (some ⟨b13, 0, none⟩) m m 3 1 (dF (gf m (ts.take i))), .blk b1 31 [.int .i64 m, .slice pA pn pc] (0, 0)] w')
   (fun v _ => pn - (intOf v).toNat) ?_ ?_
  ·exact ⟨0, Nat.zero_le _, rfl, hh⟩
  ·clear hh
   rintro ρ' v w' ⟨i, hi, rfl, hh⟩
   by_cases hlt : i < pn
   ·obtain ⟨x, hx⟩ := aK (l := ts) (k := i) (by omega)
    obtain ⟨ad, rfl, hr⟩ := hp.at_ (by omega)
    have hxm := List.mem_of_getElem? hx
    have hxs := hsz x hxm
    have hmx := Bool.and_eq_true_iff.1 (hmy x hxm)
    have hxz : x.m.size = m := by have := of_decide_eq_true hmx.2; omega
    have hxl : x.m.data.toList.length = m := by rw [← dA]; exact hxz
    have hex : gC x.m.data.toList = ints x.m.data.toList := jP hmx.1
    have hel : (gC x.m.data.toList).length = m := by rw [hex, eg]; exact hxl
    have hBl : (gf m (ts.take i)).length = (gf m (ts.take (i + 1))).length := by rw [eX, eX]
    refine sr ?_
    refine aO (ah (ai (cT (al (aj (ai (ao (sr ?_))))))))
    refine aV (k := i) aG.out az.size rfl rfl (by omega) (by omega) (by decide) ?_
    refine bR (vs := [_, _, _, _]) az.out rfl ((hr.ext hh.below).recAt TR.len hx) rfl (by decide) ?_
    refine cg hh ?_
    intro b5 w5 hh
    refine bE hh 0 [_,_,_,_] ?_
    intro ws hh
    replace hh : Hp _ (.blk _ _ [_, _, _, _] _ :: _) _ := hh
    refine ah (sr (bH ?_))
    refine bK hh 0 ?_
    refine aM (gP x.m _ hxs) ar.out rfl (by decide) ?_
    rintro e_ w23 ⟨A23, c23, rfl, hown_, hb_⟩
    refine ⟨_, rfl, ?_⟩
    replace hh := hh.bf (x := .row _ _ _ _ _ _) hb_ hown_
    rw [hel] at hh ⊢
    refine a3 (mI (ah (ao ?_)))
    refine bC [6, 7, 25, 26, 27, 28, 29, 30, 31, 32, 33, 34, 35, 36, 37, 38, 39] 25
     (fun v w' => ∃ j : Nat, j ≤ m ∧ v = .int .i64 j ∧ Hp w [.row A23 m c23 3 1 (dF (gC x.m.data.toList)), .blk b5 58 [.string x.m, .bool x.c.neg, .string x.c.bV, .int .i64 x.c.e] (0, 0), .row (some ⟨b13, 0, none⟩) m m 3 1 (dF ((gf m (ts.take (i + 1))).take j ++ (gf m (ts.take i)).drop j)), .blk b1 31 [.int .i64 m, .slice (some ad) pn pc] (0, 0)] w')
     (fun v _ => m - (intOf v).toNat) ?_ ?_
    ·exact ⟨0, Nat.zero_le _, rfl, hh⟩
    ·clear hh
     rintro ρ2 v w2 ⟨j, hj, rfl, hh⟩
     by_cases hjn : j < m
     ·obtain ⟨e, he⟩ := aK (l := x.m.data.toList) (k := j) (by omega)
      have hee : (gC x.m.data.toList)[j]? = some (e.toNat : Int) := by rw [hex]; exact wQ he
      have ho := xf hBl (oO (ts.take i) hjn)
      have hset := xz hBl (oO (ts.take (i + 1)) hjn)
      have hmx2 : pC (ts.take (i + 1)) j = max (pC (ts.take i) j) (e.toNat : Int) := by rw [aN hx, pV, qk he]
      rw [hmx2] at hset
      have hol : ((gf m (ts.take (i + 1))).take j ++ (gf m (ts.take i)).drop j).length = m := by rw [List.length_append, List.length_take, List.length_drop, eX, eX]; omega
      generalize (gf m (ts.take (i + 1))).take j ++ (gf m (ts.take i)).drop j = M at *
      have hee2 := fL hee
      have ho2 := fL ho
      have hll : (dF M).length = m := by rw [eL]; exact hol
      obtain ⟨g, rfl⟩ := hh.gG (i := 0) rfl (by omega)
      refine sr ?_
      refine aO (ah (ai (cT (al (aj (ai (ao (sr (mI ?_)))))))))
      refine bj (k := j) aG.out az.size rfl rfl (by omega) (by omega) (by decide) ?_
      refine bF az.out rfl (hh.cG (i := 0) rfl (by first | assumption | (simp only [Nat.mul_one]; assumption))) (by decide) ?_
      refine aI (aI (ah (aq (mL (mI (mL (mI ?_)))))))
      refine bj (k := j) aG.out az.size rfl rfl (by omega) (by omega) (by decide) ?_
      refine bF az.out rfl (hh.cG (i := 2) rfl (by first | assumption | (simp only [Nat.mul_one]; assumption))) (by decide) ?_
      refine mI ?_
      refine hZ rfl rfl (by decide) ?_
      refine bj aG.out az.size rfl rfl rfl (by omega) (by decide) ?_
      have hmv : (if (e.toNat : Int) > pC (ts.take i) j then (e.toNat : Int) else pC (ts.take i) j) = max (pC (ts.take i) j) (e.toNat : Int) := by split <;> omega
      refine bq hh (i := 2) (vs := [_]) rfl rfl (bG rfl) rfl az.out rfl (by omega) rfl ?_
      intro ws hh
      simp only [List.set_cons_zero, List.set_cons_succ] at hh
      rw [hmv, q5 _ (by rw [← eL]; omega), hset] at hh
      refine aF (aZ (aj (aq ?_)))
      refine bJ (mI (aF (aj ?_)))
      refine ⟨⟨j + 1, by omega, rfl, hh⟩, by show m - (j + 1) < m - j; omega, ?_⟩
      (repeat (first | exact ax _ _ _ | refine aA rfl ?_ | refine aw rfl ?_))
     ·obtain rfl : j = m := by omega
      rw [List.take_of_length_le (by rw [eX]; omega), List.drop_of_length_le (by rw [eX]; omega), List.append_nil] at hh
      refine sr ?_
      refine aO (ah (ai (cF ?_)))
      refine aY ?_
      refine ay (ay (bg (aZ (aj (aq ?_)))))
      refine bJ (mI (aF (aj ?_)))
      replace hh := hh.sub (List.Sublist.cons _ (List.Sublist.cons _ (List.Sublist.cons_cons _ (List.Sublist.cons_cons _ List.Sublist.slnil))))
      refine ⟨⟨i + 1, by omega, rfl, hh⟩, by show pn - (i + 1) < pn - i; omega, ?_⟩
      (repeat (first | exact ax _ _ _ | refine aA rfl ?_ | refine aw rfl ?_))
   ·obtain rfl : i = pn := by omega
    rw [List.take_of_length_le (by omega)] at hh
    refine sr ?_
    refine aO (ah (ai (cF ?_)))
    refine aY ?_
    refine ay (ay (bg (aj (sr (mL (aL (ah (an ?_))))))))
    refine cf ?_
    exact ⟨_, _, rfl, hh.sub (List.Sublist.cons_cons _ (List.nil_sublist _))⟩
 ·rw [show l8 p.v p.ts = [] from if_neg h0]
  refine ak (N := 42) (l := [.agg #[.int .i64 p.v, .slice p.A p.n p.c]]) Tryz.func24 rfl rfl (by simp) ?_
  refine sr ?_
  refine cR hh [_,_] ?_
  intro b1 w1 hh
  refine aL (ah (ai (sr ?_)))
  refine du hh 0 [_,_] ?_
  refine bB hh (hck _ (hT.hp hh) hh.below) rfl ?_
  intro w9 hh
  refine fj (ah (cT (sr (aL (ah (an (aC ?_)))))))
  refine cf ?_
  exact ⟨none, 0, rfl, (hh.sub (List.nil_sublist _)).er 3 1⟩
end Go.Proofs.YtkgdagjklakajaaGreatDoor
/- Plain: polynomials with whole numbers, given byte by byte; what they come to can be reckoned. No program in sight. -/
namespace Go.Proofs.YtkgdagjklakajaaGreatDoor
open Go.RowKit
abbrev ZT := List (List UInt8 × Int)
def zT (L : ZT) : List TR := L.map fun x => ⟨str x.1, nR ((x.2 : Int) : Dyadic)⟩
def zS (L : ZT) (b : List UInt8) : Int := match L with | [] => 0 | x :: L => (if x.1 = b then x.2 else 0) + zS L b
theorem wz (a b : Int) : ((a + b : Int) : Dyadic) = (a : Dyadic) + (b : Dyadic) := (mg a b 0).symm
theorem xp (a b : Int) : ((a * b : Int) : Dyadic) = (a : Dyadic) * (b : Dyadic) := (oN a b 0 0).symm
theorem xh {a : Int} (h : (a : Dyadic) = 0) : a = 0 := fX (p := 0) h
theorem oU (m : ByteArray) : ∀ L : ZT, fh (zT L) m = (zS L m.data.toList : Int)
 | [] => rfl
 | x :: L => by
  show fh (⟨str x.1, nR ((x.2 : Int) : Dyadic)⟩ :: zT L) m = ((if x.1 = m.data.toList then x.2 else 0) + zS L m.data.toList : Int)
  rw [eb, oU m L, wz]
  congr 1
  by_cases h : x.1 = m.data.toList
  ·rw [if_pos h, if_pos (by rw [h]; exact vy m)]
   exact eM _
  ·rw [if_neg h, if_neg (fun e => h (by rw [← e]; exact (cL _).symm))]
   rfl
def zC : ZT → Bool
 | [] => true
 | [x] => !decide (x.2 = 0)
 | x :: y :: L => !decide (x.2 = 0) && (Op.bytesLess x.1 y.1 && zC (y :: L))
theorem pQ : ∀ {L : ZT}, zC L = true → Canon (zT L) := fun {L} h => by
 have h1 : ∀ {L : ZT}, zC L = true → kp (zT L) = true ∧ ∀ x ∈ L, x.2 ≠ 0 := fun {L} => by
  induction L with
  | nil => exact fun _ => ⟨rfl, fun x hx => nomatch hx⟩
  | cons x L ih =>
   intro h
   cases L with
   | nil => exact ⟨rfl, fun y hy => by rw [List.mem_singleton.1 hy]; simpa [zC] using h⟩
   | cons y L =>
    simp only [zC, Bool.and_eq_true, Bool.not_eq_true', decide_eq_false_iff_not] at h
    obtain ⟨i1, i2⟩ := ih h.2.2
    refine ⟨?_, fun z hz => ?_⟩
    ·show (fc (str x.1) (str y.1) && kp (zT (y :: L))) = true
     rw [i1, show fc (str x.1) (str y.1) = true by unfold fc; rw [cL, cL]; exact h.2.1]
     rfl
    ·rcases List.mem_cons.1 hz with rfl | hz
     ·exact h.1
     ·exact i2 z hz
 obtain ⟨i1, i2⟩ := h1 h
 refine ⟨ks.1 i1, fun t ht => ?_, fun t ht => ?_⟩
 ·obtain ⟨x, hx, rfl⟩ := List.mem_map.1 ht
  show (nR _).d ≠ 0
  rw [eM]
  exact fun e => i2 x hx (xh e)
 ·obtain ⟨x, hx, rfl⟩ := List.mem_map.1 ht
  show nR _ = nR (nR _).d
  rw [eM]
def zE (L K : ZT) : Bool := (L ++ K).all fun x => decide (zS L x.1 = zS K x.1)
theorem tj {L : ZT} {b : List UInt8} (h : ∀ x ∈ L, x.1 ≠ b) : zS L b = 0 := by
 induction L with
 | nil => rfl
 | cons x L ih => rw [zS, if_neg (h x List.mem_cons_self), ih fun y hy => h y (List.mem_cons_of_mem _ hy)]; rfl
theorem yU {L K : ZT} (h : zE L K = true) (b : List UInt8) : zS L b = zS K b := by
 by_cases hb : ∃ x ∈ L ++ K, x.1 = b
 ·obtain ⟨x, hx, rfl⟩ := hb
  exact of_decide_eq_true (List.all_eq_true.1 h x hx)
 ·rw [tj fun x hx e => hb ⟨x, List.mem_append_left _ hx, e⟩, tj fun x hx e => hb ⟨x, List.mem_append_right _ hx, e⟩]
theorem lz {L K : ZT} (h : (zC K && zE K L) = true) : bu (zT L) = zT K := by
 rw [Bool.and_eq_true] at h
 exact (lF (pQ h.1) fun m => by rw [oU, oU, yU h.2]).symm
def zP (P Q : ZT) : ZT := P.flatMap fun x => Q.map fun y => ((mulL x.1 y.1).1, x.2 * y.2)
def yP (P Q : ZT) : List Int := P.flatMap fun x => Q.map fun y => (mulL x.1 y.1).2
theorem uU (P Q : ZT) : ej (zT P) (zT Q) = zT (zP P Q) := by
 unfold ej zT zP
 rw [List.flatMap_map, List.map_flatMap]
 refine congrArg (fun f => P.flatMap f) (funext fun x => ?_)
 rw [List.map_map, List.map_map]
 refine List.map_congr_left fun y _ => ?_
 show (⟨str (mulL (str x.1).data.toList (str y.1).data.toList).1, nR ((nR _).d * (nR _).d)⟩ : TR) = ⟨str (mulL x.1 y.1).1, nR ((x.2 * y.2 : Int) : Dyadic)⟩
 rw [cL, cL, eM, eM, xp]
theorem vj (P Q : ZT) : mG (zT P) (zT Q) = yP P Q := by
 unfold mG zT yP
 rw [List.flatMap_map]
 refine congrArg (fun f => P.flatMap f) (funext fun x => ?_)
 rw [List.map_map]
 refine List.map_congr_left fun y _ => ?_
 show (mulL (str x.1).data.toList (str y.1).data.toList).2 = _
 rw [cL, cL]
theorem gL (L : ZT) : (zT L).length = L.length := List.length_map _
theorem sv {P Q K : ZT} (h : (zC K && zE K (zP P Q)) = true) (he : (yP P Q).all (fun e => decide (e = 0)) = true) (hn : P.length * Q.length ≤ 4096) : eC (zT P, 0) ⟨0, none, 0, 0, zT Q⟩ = (zT K, 0) := by
 have h1 : ∀ e ∈ mG (zT P) (zT Q), e = 0 := fun e hm => by
  rw [vj] at hm
  exact of_decide_eq_true (List.all_eq_true.1 he e hm)
 have h2 : gU (zT P) (zT Q) = 0 := by
  rw [qf (by rw [gL, gL]; omega) h1]
  unfold gH
  rw [if_neg]
  have := eo (ej (zT P) (zT Q))
  rw [ld, gL, gL] at this
  omega
 unfold eC
 rw [if_pos rfl]
 show (bu (ej (zT P) (zT Q)), gU (zT P) (zT Q)) = _
 rw [h2, uU, lz h]
theorem s8 {a : List TR × Int} {g h : PX} (e : g.ts = h.ts) : eC a g = eC a h := by unfold eC; rw [e]
def zM (v : Int) (L : ZT) : Bool := L.all fun x => eR x.1 && decide ((x.1.length : Int) = v)
theorem u7 {v : Int} {L : ZT} (h : zM v L = true) : ∀ t ∈ zT L, iI v t = true := fun t ht => by
 obtain ⟨x, hx, rfl⟩ := List.mem_map.1 ht
 have := List.all_eq_true.1 h x hx
 unfold iI
 show (eR (str x.1).data.toList && decide (((str x.1).size : Int) = v)) = true
 rw [cL, im]
 exact this
theorem kQ {v : Int} {L : ZT} (hf : fA v = true) (h : (zC L && zM v L) = true) (hn : L.length ≤ 4096) : gj v (zT L) = 0 := by
 rw [Bool.and_eq_true] at h
 exact wK hf (by rw [gL]; exact hn) (u7 h.2) (pQ h.1)
theorem wI {v : Int} {L : ZT} (hf : fA v = true) (h : zM v L = true) (hn : L.length ≤ 4096) : gM v (zT L) = 0 := by
 unfold gM
 rw [if_neg, if_neg (by rw [gL]; omega)]
 ·unfold gH
  rw [if_neg]
  have := eo (zT L)
  rw [gL] at this
  omega
 ·rintro (h1 | h1)
  ·rw [hf] at h1; cases h1
  ·obtain ⟨t, ht, h2⟩ := List.any_eq_true.1 h1
   rw [u7 h t ht] at h2
   cases h2
def zB (L : ZT) : Bool := L.all fun x => decide (x.2.natAbs < 256) && decide (x.1.length ≤ 50)
theorem sU {L : ZT} (h : zB L = true) : jb 24 (zT L) ∧ ∀ t ∈ zT L, t.m.size ≤ 50 := by
 refine ⟨fun t ht => ?_, fun t ht => ?_⟩
 ·obtain ⟨x, hx, rfl⟩ := List.mem_map.1 ht
  have := Bool.and_eq_true_iff.1 (List.all_eq_true.1 h x hx)
  have z : Sz 24 ((x.2 : Int) : Dyadic) := vg (m := x.2) (e := 0) (of_decide_eq_true this.1) (by decide) (by decide)
  exact ⟨z.ok (by decide), by show Sz 24 (nR _).d; rw [eM]; exact z⟩
 ·obtain ⟨x, hx, rfl⟩ := List.mem_map.1 ht
  have := Bool.and_eq_true_iff.1 (List.all_eq_true.1 h x hx)
  show (str x.1).size ≤ 50
  rw [im]
  exact of_decide_eq_true this.2
theorem mR {v : Int} {A : Option Addr} {n c : Nat} {L : ZT} (h : zB L = true) (hn : n ≤ 1000000) (hc : n ≤ c) : (⟨v, A, n, c, zT L⟩ : PX).pP 24 := ⟨hn, hc, (sU h).1, fun t ht => Nat.le_trans ((sU h).2 t ht) (by decide)⟩
end Go.Proofs.YtkgdagjklakajaaGreatDoor
/- The walks through the document's answer's products of powers. -/
namespace Go.Proofs.YtkgdagjklakajaaGreatDoor
open Go.RowKit
theorem jY (A B : Option Addr) (n m c c' : Nat) (xs ys : List Int) (w : World) (hx : Sl w A n 1 (dF xs)) (hy : Sl w B m 1 (dF ys)) (hn : n ≤ 100000) (hm : m ≤ 100000) :
  Calls Tryz.prog 23 #[.slice A n c, .slice B m c'] w fun e w' => e = .returned (.bool (decide (xs = ys))) ∧ Below w.heap.size w w' := by
 have hxl : xs.length = n := by have := hx.1; rw [eL] at this; omega
 have hyl : ys.length = m := by have := hy.1; rw [eL] at this; omega
 have hh := Hp.start w
 by_cases hnm : n = m
 ·subst hnm
  refine ak (N := 26) (l := [.slice A n c, .slice B n c']) Tryz.func23 rfl rfl (by simp) ?_
  refine sr (aB (ah (ai (sr (mL (a3 (mL (a3 ?_))))))))
  refine fj (ah (cF (al (aj (ai (sr (aI (ah (ao ?_)))))))))
  refine bC [4, 5, 11, 12, 13, 14, 15, 16, 17, 18, 19, 20, 21, 22, 23, 24, 25] 5
   (fun i w' => ∃ k : Nat, k ≤ n ∧ i = .int .i64 k ∧ xs.take k = ys.take k ∧ Hp w [] w')
   (fun i _ => n - (intOf i).toNat) ?_ ?_
  ·exact ⟨0, Nat.zero_le _, rfl, rfl, hh⟩
  ·clear hh
   rintro ρ' i w' ⟨k, hk, rfl, he, hh⟩
   replace hx := hx.ext hh.below
   replace hy := hy.ext hh.below
   by_cases hlt : k < n
   ·obtain ⟨x, hxk⟩ := aK (l := xs) (k := k) (by omega)
    obtain ⟨y, hyk⟩ := aK (l := ys) (k := k) (by omega)
    obtain ⟨ad, rfl, hr⟩ := hx.at_ (by omega)
    obtain ⟨bd, rfl, hs⟩ := hy.at_ (by omega)
    by_cases hxy : x = y
    ·subst hxy
     refine ai (sr (mI (mL (a3 ?_))))
     refine aO (ah (cT (al (aj (ai (ao (ai ?_)))))))
     refine aX 8 [[(0, none)], [(5, none)], [(17, some 0), (18, some 1)], [(19, some 2)], [(1, none)], [(5, none)], [(21, some 4), (22, some 5)], [(23, some 6)]] [(7, 24), (6, 23), (5, 22), (4, 21), (3, 20), (2, 19), (1, 18), (0, 17)] hh mixed (by kernel_rfl) ?_
     refine fO ?_
     refine dP ?_
     refine bh (i := 2) (fun ρ1 w1 hj hR => cM aG.out az.size (show ρ1 17 = Value.slice _ _ _ from hR.1) (show ρ1 18 = Value.int _ _ from hR.2.1) (by omega) (by omega)) ?_
     refine jd (fun _ hj => gJ (hr.ext hj.bl) (fL hxk) rfl) ?_
     refine fO ?_
     refine dP ?_
     refine bh (i := 6) (fun ρ1 w1 hj hR => cM aG.out az.size (show ρ1 21 = Value.slice _ _ _ from hR.1) (show ρ1 22 = Value.int _ _ from hR.2.1) (by omega) (by omega)) ?_
     refine jd (fun _ hj => gJ (hs.ext hj.bl) (fL hyk) rfl) ?_
     refine a0 ?_
     intro f W hJ hV
     have hb_6 := hJ.bl
     obtain ⟨v24, v23, v22, v21, v20, v19, v18, v17, _⟩ := hV
     replace hh := hJ.hp
     refine aR (a5 (aa v24 (aa v23 (aa v22 (aa v21 (aa v20 (aa v19 (aa v18 (aa v17 aQ))))))))) ?_
     dsimp only [bX]
     clear hJ
     refine fj (ah (cF (al (aZ (aj (aq (mI ?_)))))))
     refine bJ (aI (aF (aj ?_)))
     refine ⟨⟨k + 1, by omega, rfl, by rw [aN hxk, aN hyk, he], hh⟩, by show n - (k + 1) < n - k; omega, ?_⟩
     (repeat (first | exact ax _ _ _ | refine aA rfl ?_ | refine aw rfl ?_))
    ·refine ai (sr (mI (mL (a3 ?_))))
     refine aO (ah (cT (al (aj (ai (ao (ai ?_)))))))
     refine aX 8 [[(0, none)], [(5, none)], [(17, some 0), (18, some 1)], [(19, some 2)], [(1, none)], [(5, none)], [(21, some 4), (22, some 5)], [(23, some 6)]] [(7, 24), (6, 23), (5, 22), (4, 21), (3, 20), (2, 19), (1, 18), (0, 17)] hh mixed (by kernel_rfl) ?_
     refine fO ?_
     refine dP ?_
     refine bh (i := 2) (fun ρ1 w1 hj hR => cM aG.out az.size (show ρ1 17 = Value.slice _ _ _ from hR.1) (show ρ1 18 = Value.int _ _ from hR.2.1) (by omega) (by omega)) ?_
     refine jd (fun _ hj => gJ (hr.ext hj.bl) (fL hxk) rfl) ?_
     refine fO ?_
     refine dP ?_
     refine bh (i := 6) (fun ρ1 w1 hj hR => cM aG.out az.size (show ρ1 21 = Value.slice _ _ _ from hR.1) (show ρ1 22 = Value.int _ _ from hR.2.1) (by omega) (by omega)) ?_
     refine jd (fun _ hj => gJ (hs.ext hj.bl) (fL hyk) rfl) ?_
     refine a0 ?_
     intro f W hJ hV
     have hb_6 := hJ.bl
     obtain ⟨v24, v23, v22, v21, v20, v19, v18, v17, _⟩ := hV
     replace hh := hJ.hp
     refine aR (a5 (aa v24 (aa v23 (aa v22 (aa v21 (aa v20 (aa v19 (aa v18 (aa v17 aQ))))))))) ?_
     dsimp only [bX]
     clear hJ
     refine fj (ah (cT (sr (aB (ah (an (bP (aC (aC (bP (aC ?_)))))))))))
     refine cf ?_
     have : ¬ xs = ys := fun h => hxy (by rw [h, hyk] at hxk; exact (Option.some.inj hxk).symm)
     simp only [this, decide_false]
     first | exact ⟨rfl, hh.below⟩ | exact ⟨trivial, hh.below⟩
   ·refine ai (sr (mI (mL (a3 ?_))))
    refine aO (ah (cF ?_))
    refine aY ?_
    refine ay (ay (bg (aj (sr (aB (ah (an ?_)))))))
    refine cf ?_
    rw [List.take_of_length_le (by omega), List.take_of_length_le (by omega)] at he
    simp only [he, decide_true]
    first | exact ⟨rfl, hh.below⟩ | exact ⟨trivial, hh.below⟩
 ·refine ak (N := 26) (l := [.slice A n c, .slice B m c']) Tryz.func23 rfl rfl (by simp) ?_
  refine sr (aB (ah (ai (sr (mL (a3 (mL (a3 ?_))))))))
  refine fj (ah (cT (sr (aB (ah (an (aC ?_)))))))
  refine cf ?_
  have : ¬ xs = ys := fun h => hnm (by rw [← hxl, ← hyl, h])
  simp only [this, decide_false]
  first | exact ⟨rfl, hh.below⟩ | exact ⟨trivial, hh.below⟩
end Go.Proofs.YtkgdagjklakajaaGreatDoor
/- The walk through ogeeref08.Check. -/
namespace Go.Proofs.YtkgdagjklakajaaGreatDoor
open Go.RowKit
theorem j3 (v : Int) (A : Option Addr) (n c : Nat) (ts : List TR) (w : World) (hS : Sl w A n 4 (a6 TR.cells ts)) (hn : n ≤ 1000000) (ho : ∀ t ∈ ts, t.c.ok ∧ t.m.size ≤ 100000) :
  Calls Tryz.prog 22 #[.agg #[.int .i64 v, .slice A n c]] w fun r w' => r = .returned (.int .i64 (gj v ts)) ∧ Below w.heap.size w w' := by
 have hh := Hp.start w
 have hln := hS.cd TR.len (by decide)
 cases hf : fA v with
 | false =>
  have hbv : ¬ (0 ≤ v ∧ v ≤ 12) := fun h => by rw [dw.2 h] at hf; cases hf
  rw [show gj v ts = 1 by unfold gj; rw [if_pos hf]]
  by_cases h0 : v < 0
  ·refine ak (N := 63) (l := [.agg #[.int .i64 v, .slice A n c]]) Tryz.func22 rfl rfl (by simp) ?_
   refine sr ?_
   refine cR hh [_,_] ?_
   intro b1 w1 hh
   refine aI (ah (ai (sr (bH ?_))))
   refine bK hh 0 ?_
   refine aO (mB ?_)
   first | refine gS ?_ | (refine gT ?_; refine bH ?_) | refine gV ?_
   first | refine gS ?_ | (refine gT ?_; refine bK hh 0 ?_) | refine gV ?_
   first | refine gS ?_ | (refine gT ?_; refine bQ ?_) | refine gV ?_
   first | refine ct ?_ | refine cu ?_
   refine ah (cT (sr (aI (ah (an (aC ?_))))))
   refine cf ?_
   exact ⟨rfl, hh.below⟩
  ·refine ak (N := 63) (l := [.agg #[.int .i64 v, .slice A n c]]) Tryz.func22 rfl rfl (by simp) ?_
   refine sr ?_
   refine cR hh [_,_] ?_
   intro b1 w1 hh
   refine aI (ah (ai (sr (bH ?_))))
   refine bK hh 0 ?_
   refine aO (mB ?_)
   first | refine gS ?_ | (refine gT ?_; refine bH ?_) | refine gV ?_
   first | refine gS ?_ | (refine gT ?_; refine bK hh 0 ?_) | refine gV ?_
   first | refine gS ?_ | (refine gT ?_; refine bQ ?_) | refine gV ?_
   first | refine ct ?_ | refine cu ?_
   refine ah (cT (sr (aI (ah (an (aC ?_))))))
   refine cf ?_
   exact ⟨rfl, hh.below⟩
 | true =>
  obtain ⟨hv0, hv12⟩ := dw.1 hf
  by_cases h4 : 4096 < n
  ·rw [show gj v ts = 3 by unfold gj; rw [if_neg (by rw [hf]; decide), if_pos (by omega)]]
   refine ak (N := 63) (l := [.agg #[.int .i64 v, .slice A n c]]) Tryz.func22 rfl rfl (by simp) ?_
   refine sr ?_
   refine cR hh [_,_] ?_
   intro b1 w1 hh
   refine aI (ah (ai (sr (bH ?_))))
   refine bK hh 0 ?_
   refine aO (mB ?_)
   first | refine gS ?_ | (refine gT ?_; refine bH ?_) | refine gV ?_
   first | refine gS ?_ | (refine gT ?_; refine bK hh 0 ?_) | refine gV ?_
   first | refine gS ?_ | (refine gT ?_; refine bQ ?_) | refine gV ?_
   first | refine ct ?_ | refine cu ?_
   refine ah (cF (al (aj (ai (sr (bH ?_))))))
   refine bK hh 0 ?_
   refine a3 ?_
   refine bQ (ah (cT (sr (aI (ah (an (aC ?_)))))))
   refine cf ?_
   exact ⟨rfl, hh.below⟩
  ·have hbad := fun h => qU (v := v) (ts := ts) hf (by omega) h
   refine ak (N := 63) (l := [.agg #[.int .i64 v, .slice A n c]]) Tryz.func22 rfl rfl (by simp) ?_
   refine sr ?_
   refine cR hh [_,_] ?_
   intro b1 w1 hh
   refine aI (ah (ai (sr (bH ?_))))
   refine bK hh 0 ?_
   refine aO (mB ?_)
   first | refine gS ?_ | (refine gT ?_; refine bH ?_) | refine gV ?_
   first | refine gS ?_ | (refine gT ?_; refine bK hh 0 ?_) | refine gV ?_
   first | refine gS ?_ | (refine gT ?_; refine bQ ?_) | refine gV ?_
   first | refine ct ?_ | refine cu ?_
   refine ah (cF (al (aj (ai (sr (bH ?_))))))
   refine bK hh 0 ?_
   refine a3 ?_
   refine bQ (ah (cF (al (aj (ai (sr (aI (ah (ao ?_)))))))))
   refine bC [2, 3, 4, 17, 18, 19, 20, 21, 22, 23, 24, 25, 26, 27, 28, 29, 30, 31, 32, 33, 34, 35, 36, 37, 38, 39, 40, 41, 42, 43, 44, 45, 46, 47, 48, 49, 50, 51, 52, 53, 54, 55, 56, 57, 58, 59, 60, 61, 62] 3
    (fun x w' => ∃ i : Nat, i ≤ n ∧ x = .int .i64 i ∧ (ts.take i).all (fY v) = true ∧ kp (ts.take i) = true ∧ Hp w [.blk b1 31 [.int .i64 v, .slice A n c] (0, 0)] w')
    (fun x _ => n - (intOf x).toNat) ?_ ?_
   ·exact ⟨0, Nat.zero_le _, rfl, rfl, rfl, hh⟩
   ·clear hh
    rintro ρ' x_ w' ⟨i, hi, rfl, hall, hris, hh⟩
    by_cases hlt : i < n
    ·obtain ⟨x, hx⟩ := aK (l := ts) (k := i) (by omega)
     obtain ⟨ad, rfl, hr⟩ := hS.at_ (by omega)
     obtain ⟨hxo, hxm⟩ := ho x (List.mem_of_getElem? hx)
     have hmay := fun w1 => mA x.m v w1 (by omega)
     have hsg := fun w1 => dM x.c w1 (by have := hxo.1; omega)
     have hfo := fun w1 => dt x.c w1 (by have := hxo.1; omega) (by have := hxo.2.1; omega) (by have := hxo.2.2; omega)
     have hzz : x.c.i.sign = 0 ↔ x.c.d = 0 := by
      rw [Int.sign_eq_zero_iff_zero]
      exact ⟨fun h => by unfold NR.d; rw [h]; rfl, fX⟩
     cases hm : eR x.m.data.toList && decide ((x.m.size : Int) = v) with
     | false =>
      rw [hm] at hmay
      rw [hbad (jM hx (by unfold fY; rw [hm]; rfl))]
      refine ai (sr (mI (bH ?_)))
      refine bK hh 0 ?_
      refine a3 ?_
      refine aO (ah (cT (al (aj (ai (ao (sr (bH ?_))))))))
      refine bK hh 0 ?_
      refine mI ?_
      refine aV (k := i) aG.out az.size rfl rfl (by omega) (by omega) (by decide) ?_
      refine bR (vs := [_, _, _, _]) az.out rfl ((hr.ext hh.below).recAt TR.len hx) rfl (by decide) ?_
      refine cg hh ?_
      intro b4 w4 hh
      refine bE hh 0 [_,_,_,_] ?_
      intro ws hh
      replace hh : Hp _ (.blk _ _ [_, _, _, _] _ :: _) _ := hh
      refine ah (ai (ai ?_))
      refine cH [] [] [0, 1, 0, 4, 15, 31, 63, 127, 255, 511, 1023, 2047, 4095, 8191, 16383, 32767, 8191, 73727, 262143, 524287] 18 [[(4, none)], [(29, some 0)], [(1, none)], [(31, some 2)], [(30, some 1), (32, some 3)], [(33, some 4)], [(34, some 5)], [(4, none), (35, some 6)], [(36, some 7), (35, some 6)], [(37, some 8), (35, some 6)], [(38, some 9), (35, some 6)], [(35, some 6), (39, some 10)], [(40, some 11)], [(4, none), (41, some 12)], [(42, some 13), (41, some 12)], [(43, some 14), (41, some 12)], [(4, none), (41, some 12)], [(45, some 16), (41, some 12)]] [(17, 46), (16, 45), (15, 44), (14, 43), (13, 42), (12, 41), (11, 40), (10, 39), (9, 38), (8, 37), (7, 36), (6, 35), (5, 34), (4, 33), (3, 32), (2, 31), (1, 30), (0, 29)] hh mixed (by kernel_rfl) dg rfl (by repeat (first | exact bM | refine br ?_ | refine bL ?_)) ?_
      refine cv ?_
      refine dH 0 ?_
      refine cv ?_
      refine dH 1 ?_
      refine dC (fun _ hj => hmay _) ?_
      refine lY ?_
      refine fQ ?_
      first | refine dS ?_ | refine dU ?_ | refine dG (cv ?_)
      first | refine dS ?_ | refine dU ?_ | refine dG (ec 0 [_,_,_] ?_)
      first | refine dS ?_ | refine dU ?_
      first | refine dS ?_ | refine dU ?_ | refine dG (jn ?_)
      first | refine k0 ?_ | refine kZ ?_
      refine fQ ?_
      first | refine dS ?_ | refine dU ?_ | refine dG (cv ?_)
      first | refine dS ?_ | refine dU ?_ | refine dG (ec 0 [_,_,_] ?_)
      first | refine dS ?_ | refine dU ?_
      first | refine dS ?_ | refine dU ?_ | refine dG (cv ?_)
      first | refine dS ?_ | refine dU ?_ | refine dG (ec 0 [_,_,_] ?_)
      refine a0 ?_
      intro f W hJ hV _
      have hb_9 := hJ.bl
      obtain ⟨v46, v45, v44, v43, v42, v41, v40, v39, v38, v37, v36, v35, v34, v33, v32, v31, v30, v29, _⟩ := hV
      replace hh := hJ.hp
      refine aR (a5 (aa v46 (aa v45 (aa v44 (aa v43 (aa v42 (aa v41 (aa v40 (aa v39 (aa v38 (aa v37 (aa v36 (aa v35 (aa v34 (aa v33 (aa v32 (aa v31 (aa v30 (aa v29 aQ))))))))))))))))))) ?_
      dsimp only [bX]
      clear hJ
      first | refine gS ?_ | (refine gT ?_; (first | refine mb rfl rfl (by first | assumption | rfl) (by decide) ?_ | refine md rfl rfl (by assumption) (by decide) ?_)) | refine gV ?_
      first | refine ct ?_ | refine cu ?_
      refine ah (cT (sr (aI (ah (an (aC (bP (aC (aC (bP (aC ?_)))))))))))
      refine cf ?_
      exact ⟨rfl, hh.below⟩
     | true =>
      rw [hm] at hmay
      by_cases hz : x.c.d = 0
      ·have hs := hzz.2 hz
       rw [hbad (jM hx (by unfold fY jV; rw [hm, decide_eq_true hz]; rfl))]
       refine ai (sr (mI (bH ?_)))
       refine bK hh 0 ?_
       refine a3 ?_
       refine aO (ah (cT (al (aj (ai (ao (sr (bH ?_))))))))
       refine bK hh 0 ?_
       refine mI ?_
       refine aV (k := i) aG.out az.size rfl rfl (by omega) (by omega) (by decide) ?_
       refine bR (vs := [_, _, _, _]) az.out rfl ((hr.ext hh.below).recAt TR.len hx) rfl (by decide) ?_
       refine cg hh ?_
       intro b4 w4 hh
       refine bE hh 0 [_,_,_,_] ?_
       intro ws hh
       replace hh : Hp _ (.blk _ _ [_, _, _, _] _ :: _) _ := hh
       refine ah (ai (ai ?_))
       refine cH [] [] [0, 1, 0, 4, 15, 31, 63, 127, 255, 511, 1023, 2047, 4095, 8191, 16383, 32767, 8191, 73727, 262143, 524287] 18 [[(4, none)], [(29, some 0)], [(1, none)], [(31, some 2)], [(30, some 1), (32, some 3)], [(33, some 4)], [(34, some 5)], [(4, none), (35, some 6)], [(36, some 7), (35, some 6)], [(37, some 8), (35, some 6)], [(38, some 9), (35, some 6)], [(35, some 6), (39, some 10)], [(40, some 11)], [(4, none), (41, some 12)], [(42, some 13), (41, some 12)], [(43, some 14), (41, some 12)], [(4, none), (41, some 12)], [(45, some 16), (41, some 12)]] [(17, 46), (16, 45), (15, 44), (14, 43), (13, 42), (12, 41), (11, 40), (10, 39), (9, 38), (8, 37), (7, 36), (6, 35), (5, 34), (4, 33), (3, 32), (2, 31), (1, 30), (0, 29)] hh mixed (by kernel_rfl) dg rfl (by repeat (first | exact bM | refine br ?_ | refine bL ?_)) ?_
       refine cv ?_
       refine dH 0 ?_
       refine cv ?_
       refine dH 1 ?_
       refine dC (fun _ hj => hmay _) ?_
       refine lY ?_
       refine fQ ?_
       first | refine dS ?_ | refine dU ?_ | refine dG (cv ?_)
       first | refine dS ?_ | refine dU ?_ | refine dG (ec 0 [_,_,_] ?_)
       refine bs (i := 9) rfl (fun ρ1 w1 hj hR => (show ρ1 35 = Value.bool _ from hR.2.1)) (fun ρ1 w1 hj hR => a7 ar.out (aD (show ρ1 37 = Value.agg (List.toArray _) from hR.1) a9)) (fun w1 hj => hsg _) ?_
       first | refine dS ?_ | refine dU ?_ | refine dG (jn ?_)
       first | refine k0 ?_ | refine kZ ?_
       refine fQ ?_
       first | refine dS ?_ | refine dU ?_ | refine dG (cv ?_)
       first | refine dS ?_ | refine dU ?_ | refine dG (ec 0 [_,_,_] ?_)
       first | refine dS ?_ | refine dU ?_
       first | refine dS ?_ | refine dU ?_ | refine dG (cv ?_)
       first | refine dS ?_ | refine dU ?_ | refine dG (ec 0 [_,_,_] ?_)
       refine a0 ?_
       intro f W hJ hV _
       have hb_9 := hJ.bl
       obtain ⟨v46, v45, v44, v43, v42, v41, v40, v39, v38, v37, v36, v35, v34, v33, v32, v31, v30, v29, _⟩ := hV
       replace hh := hJ.hp
       refine aR (a5 (aa v46 (aa v45 (aa v44 (aa v43 (aa v42 (aa v41 (aa v40 (aa v39 (aa v38 (aa v37 (aa v36 (aa v35 (aa v34 (aa v33 (aa v32 (aa v31 (aa v30 (aa v29 aQ))))))))))))))))))) ?_
       dsimp only [bX]
       clear hJ
       first | refine gS ?_ | (refine gT ?_; (first | refine mb rfl rfl (by first | assumption | rfl) (by decide) ?_ | refine md rfl rfl (by assumption) (by decide) ?_)) | refine gV ?_
       first | refine ct ?_ | refine cu ?_
       refine ah (cT (sr (aI (ah (an (aC (bP (aC (aC (bP (aC ?_)))))))))))
       refine cf ?_
       exact ⟨rfl, hh.below⟩
      ·have hs : ¬ x.c.i.sign = 0 := fun h => hz (hzz.1 h)
       by_cases hnf : nR x.c.d = x.c
       ·have hgood : fY v x = true := by unfold fY jV; rw [hm, decide_eq_false hz, (jF x.c).2 hnf]; rfl
        have hall2 : (ts.take (i + 1)).all (fY v) = true := by rw [aN hx, List.all_append, hall]; simp [hgood]
        refine ai (sr (mI (bH ?_)))
        refine bK hh 0 ?_
        refine a3 ?_
        refine aO (ah (cT (al (aj (ai (ao (sr (bH ?_))))))))
        refine bK hh 0 ?_
        refine mI ?_
        refine aV (k := i) aG.out az.size rfl rfl (by omega) (by omega) (by decide) ?_
        refine bR (vs := [_, _, _, _]) az.out rfl ((hr.ext hh.below).recAt TR.len hx) rfl (by decide) ?_
        refine cg hh ?_
        intro b4 w4 hh
        refine bE hh 0 [_,_,_,_] ?_
        intro ws hh
        replace hh : Hp _ (.blk _ _ [_, _, _, _] _ :: _) _ := hh
        refine ah (ai (ai ?_))
        refine cH [] [] [0, 1, 0, 4, 15, 31, 63, 127, 255, 511, 1023, 2047, 4095, 8191, 16383, 32767, 8191, 73727, 262143, 524287] 18 [[(4, none)], [(29, some 0)], [(1, none)], [(31, some 2)], [(30, some 1), (32, some 3)], [(33, some 4)], [(34, some 5)], [(4, none), (35, some 6)], [(36, some 7), (35, some 6)], [(37, some 8), (35, some 6)], [(38, some 9), (35, some 6)], [(35, some 6), (39, some 10)], [(40, some 11)], [(4, none), (41, some 12)], [(42, some 13), (41, some 12)], [(43, some 14), (41, some 12)], [(4, none), (41, some 12)], [(45, some 16), (41, some 12)]] [(17, 46), (16, 45), (15, 44), (14, 43), (13, 42), (12, 41), (11, 40), (10, 39), (9, 38), (8, 37), (7, 36), (6, 35), (5, 34), (4, 33), (3, 32), (2, 31), (1, 30), (0, 29)] hh mixed (by kernel_rfl) dg rfl (by repeat (first | exact bM | refine br ?_ | refine bL ?_)) ?_
        refine cv ?_
        refine dH 0 ?_
        refine cv ?_
        refine dH 1 ?_
        refine dC (fun _ hj => hmay _) ?_
        refine lY ?_
        refine fQ ?_
        first | refine dS ?_ | refine dU ?_ | refine dG (cv ?_)
        first | refine dS ?_ | refine dU ?_ | refine dG (ec 0 [_,_,_] ?_)
        refine bs (i := 9) rfl (fun ρ1 w1 hj hR => (show ρ1 35 = Value.bool _ from hR.2.1)) (fun ρ1 w1 hj hR => a7 ar.out (aD (show ρ1 37 = Value.agg (List.toArray _) from hR.1) a9)) (fun w1 hj => hsg _) ?_
        first | refine dS ?_ | refine dU ?_ | refine dG (jn ?_)
        first | refine k0 ?_ | refine kZ ?_
        refine fQ ?_
        first | refine dS ?_ | refine dU ?_ | refine dG (cv ?_)
        first | refine dS ?_ | refine dU ?_ | refine dG (ec 0 [_,_,_] ?_)
        refine bs (i := 15) rfl (fun ρ1 w1 hj hR => (show ρ1 41 = Value.bool _ from hR.2.1)) (fun ρ1 w1 hj hR => a7 ar.out (aD (show ρ1 43 = Value.agg (List.toArray _) from hR.1) a9)) (fun w1 hj => hfo _) ?_
        first | refine dS ?_ | refine dU ?_ | refine dG (cv ?_)
        first | refine dS ?_ | refine dU ?_ | refine dG (ec 0 [_,_,_] ?_)
        refine a0 ?_
        intro f W hJ hV _
        have hb_9 := hJ.bl
        obtain ⟨v46, v45, v44, v43, v42, v41, v40, v39, v38, v37, v36, v35, v34, v33, v32, v31, v30, v29, _⟩ := hV
        replace hh := hJ.hp
        refine aR (a5 (aa v46 (aa v45 (aa v44 (aa v43 (aa v42 (aa v41 (aa v40 (aa v39 (aa v38 (aa v37 (aa v36 (aa v35 (aa v34 (aa v33 (aa v32 (aa v31 (aa v30 (aa v29 aQ))))))))))))))))))) ?_
        dsimp only [bX]
        clear hJ
        first | refine gS ?_ | (refine gT ?_; (first | refine mb rfl rfl (by first | assumption | rfl) (by decide) ?_ | refine md rfl rfl (by assumption) (by decide) ?_)) | refine gV ?_
        first | refine ct ?_ | refine cu ?_
        refine ah (cF (al (aj (ai ?_))))
        by_cases h0 : i = 0
        ·refine cH [] [] [0, 1, 3, 7, 15, 7, 39, 127, 255, 511, 7, 1031, 4095, 8191] 12 [[(3, none)], [(49, some 0)], [(50, some 1)], [(1, none), (51, some 2)], [(52, some 3), (51, some 2)], [(3, none), (51, some 2)], [(54, some 5), (51, some 2)], [(53, some 4), (55, some 6), (51, some 2)], [(56, some 7), (51, some 2)], [(57, some 8), (51, some 2)], [(4, none), (51, some 2)], [(59, some 10), (51, some 2)]] [(11, 60), (10, 59), (9, 58), (8, 57), (7, 56), (6, 55), (5, 54), (4, 53), (3, 52), (2, 51), (1, 50), (0, 49)] hh mixed (by kernel_rfl) dg rfl (by repeat (first | exact bM | refine br ?_ | refine bL ?_)) ?_
         refine dP ?_
         refine pG ?_
         refine fQ ?_
         first | refine dS ?_ | refine dU ?_ | refine dG (cv ?_)
         first | refine dS ?_ | refine dU ?_ | refine dG (dH 1 ?_)
         first | refine dS ?_ | refine dU ?_ | refine dG (dP ?_)
         first | refine dS ?_ | refine dU ?_ | refine dG (j7 ?_)
         first | refine eI (i := 7) rfl (fun ρ1 w1 hj hR => (show ρ1 51 = Value.bool _ from hR.2.2.1)) (by decide) ?_ | refine dN (i := 7) rfl (fun ρ1 w1 hj hR => (show ρ1 51 = undef from hR.2.2.1)) ?_ | refine dr (i := 7) rfl (fun ρ1 w1 hj hR => (show ρ1 51 = Value.bool _ from hR.2.2.1)) (fun ρ1 w1 hj hR => dZ aG.out az.size (show ρ1 53 = Value.slice _ _ _ from hR.1) (show ρ1 55 = Value.int _ _ from hR.2.1) rfl (by omega)) ?_
         first | refine dS ?_ | refine dU ?_ | refine dG (oc ?_)
         first | refine dS ?_ | refine dU ?_ | refine dG (jd (fun _ hj => hr) ?_)
         first | refine dS ?_ | refine dU ?_ | refine dG (cv ?_)
         first | refine dS ?_ | refine dU ?_ | refine dG (dH 0 ?_)
         refine a0 ?_
         intro f W hJ hV _
         have hb_11 := hJ.bl
         obtain ⟨v60, v59, v58, v57, v56, v55, v54, v53, v52, v51, v50, v49, _⟩ := hV
         replace hh := hJ.hp
         refine aR (a5 (aa v60 (aa v59 (aa v58 (aa v57 (aa v56 (aa v55 (aa v54 (aa v53 (aa v52 (aa v51 (aa v50 (aa v49 aQ))))))))))))) ?_
         dsimp only [bX]
         clear hJ
         first | refine gS ?_ | (refine gT ?_; refine eP rfl rfl (by decide) ?_) | refine gV ?_
         first | refine ct ?_ | refine cu ?_
         refine ah (cF (al (aZ (aj (aq (mI ?_))))))
         refine bJ (aI (aF (aj ?_)))
         replace hh := hh.sub (List.Sublist.cons _ (List.Sublist.cons_cons _ List.Sublist.slnil))
         refine ⟨⟨i + 1, by omega, rfl, hall2, by rw [aN hx, h0]; rfl, hh⟩, by show n - (i + 1) < n - i; omega, ?_⟩
         (repeat (first | exact ax _ _ _ | refine aA rfl ?_ | refine aw rfl ?_))
        ·obtain ⟨q, hq⟩ : ∃ q, i = q + 1 := ⟨i - 1, by omega⟩
         obtain ⟨p, hp⟩ := aK (l := ts) (k := q) (by omega)
         cases hlp : fc p.m x.m with
         | false =>
          rw [hbad (qI hp (hq ▸ hx) hlp)]
          have hge : (!(Op.bytesLess p.m.toList x.m.toList)) = true := by rw [gg, hlp]; rfl
          refine cH [] [] [0, 1, 3, 7, 15, 7, 39, 127, 255, 511, 7, 1031, 4095, 8191] 12 [[(3, none)], [(49, some 0)], [(50, some 1)], [(1, none), (51, some 2)], [(52, some 3), (51, some 2)], [(3, none), (51, some 2)], [(54, some 5), (51, some 2)], [(53, some 4), (55, some 6), (51, some 2)], [(56, some 7), (51, some 2)], [(57, some 8), (51, some 2)], [(4, none), (51, some 2)], [(59, some 10), (51, some 2)]] [(11, 60), (10, 59), (9, 58), (8, 57), (7, 56), (6, 55), (5, 54), (4, 53), (3, 52), (2, 51), (1, 50), (0, 49)] hh mixed (by kernel_rfl) dg rfl (by repeat (first | exact bM | refine br ?_ | refine bL ?_)) ?_
          refine dP ?_
          refine pG ?_
          refine fQ ?_
          first | refine dS ?_ | refine dU ?_ | refine dG (cv ?_)
          first | refine dS ?_ | refine dU ?_ | refine dG (dH 1 ?_)
          first | refine dS ?_ | refine dU ?_ | refine dG (dP ?_)
          first | refine dS ?_ | refine dU ?_ | refine dG (j7 ?_)
          first | refine dS ?_ | refine dU ?_ | refine dG (jT (q) ?_)
          first | refine dS ?_ | refine dU ?_ | refine dG (oc ?_)
          first | refine dS ?_ | refine dU ?_ | refine dG (jd (fun _ hj => ((hr.ext hj.hp.below).recAt TR.len hp).cell (i := 0) rfl) ?_)
          first | refine dS ?_ | refine dU ?_ | refine dG (cv ?_)
          first | refine dS ?_ | refine dU ?_ | refine dG (dH 0 ?_)
          refine a0 ?_
          intro f W hJ hV _
          have hb_11 := hJ.bl
          obtain ⟨v60, v59, v58, v57, v56, v55, v54, v53, v52, v51, v50, v49, _⟩ := hV
          replace hh := hJ.hp
          refine aR (a5 (aa v60 (aa v59 (aa v58 (aa v57 (aa v56 (aa v55 (aa v54 (aa v53 (aa v52 (aa v51 (aa v50 (aa v49 aQ))))))))))))) ?_
          dsimp only [bX]
          clear hJ
          first | refine gS ?_ | (refine gT ?_; refine eP rfl rfl (by decide) ?_) | refine gV ?_
          first | refine ct ?_ | refine cu ?_
          refine ah ?_
          rw [hge]
          refine cT (sr (aI (ah (an (bP (aC (aC (bP (aC ?_)))))))))
          refine cf ?_
          exact ⟨rfl, hh.below⟩
         | true =>
          have hge : (!(Op.bytesLess p.m.toList x.m.toList)) = false := by rw [gg, hlp]; rfl
          refine cH [] [] [0, 1, 3, 7, 15, 7, 39, 127, 255, 511, 7, 1031, 4095, 8191] 12 [[(3, none)], [(49, some 0)], [(50, some 1)], [(1, none), (51, some 2)], [(52, some 3), (51, some 2)], [(3, none), (51, some 2)], [(54, some 5), (51, some 2)], [(53, some 4), (55, some 6), (51, some 2)], [(56, some 7), (51, some 2)], [(57, some 8), (51, some 2)], [(4, none), (51, some 2)], [(59, some 10), (51, some 2)]] [(11, 60), (10, 59), (9, 58), (8, 57), (7, 56), (6, 55), (5, 54), (4, 53), (3, 52), (2, 51), (1, 50), (0, 49)] hh mixed (by kernel_rfl) dg rfl (by repeat (first | exact bM | refine br ?_ | refine bL ?_)) ?_
          refine dP ?_
          refine pG ?_
          refine fQ ?_
          first | refine dS ?_ | refine dU ?_ | refine dG (cv ?_)
          first | refine dS ?_ | refine dU ?_ | refine dG (dH 1 ?_)
          first | refine dS ?_ | refine dU ?_ | refine dG (dP ?_)
          first | refine dS ?_ | refine dU ?_ | refine dG (j7 ?_)
          first | refine dS ?_ | refine dU ?_ | refine dG (jT (q) ?_)
          first | refine dS ?_ | refine dU ?_ | refine dG (oc ?_)
          first | refine dS ?_ | refine dU ?_ | refine dG (jd (fun _ hj => ((hr.ext hj.hp.below).recAt TR.len hp).cell (i := 0) rfl) ?_)
          first | refine dS ?_ | refine dU ?_ | refine dG (cv ?_)
          first | refine dS ?_ | refine dU ?_ | refine dG (dH 0 ?_)
          refine a0 ?_
          intro f W hJ hV _
          have hb_11 := hJ.bl
          obtain ⟨v60, v59, v58, v57, v56, v55, v54, v53, v52, v51, v50, v49, _⟩ := hV
          replace hh := hJ.hp
          refine aR (a5 (aa v60 (aa v59 (aa v58 (aa v57 (aa v56 (aa v55 (aa v54 (aa v53 (aa v52 (aa v51 (aa v50 (aa v49 aQ))))))))))))) ?_
          dsimp only [bX]
          clear hJ
          first | refine gS ?_ | (refine gT ?_; refine eP rfl rfl (by decide) ?_) | refine gV ?_
          first | refine ct ?_ | refine cu ?_
          refine ah ?_
          rw [hge]
          refine cF (al (aZ (aj (aq (mI ?_)))))
          refine bJ (aI (aF (aj ?_)))
          replace hh := hh.sub (List.Sublist.cons _ (List.Sublist.cons_cons _ List.Sublist.slnil))
          refine ⟨⟨i + 1, by omega, rfl, hall2, ?_, hh⟩, by show n - (i + 1) < n - i; omega, ?_⟩
          ·rw [hq, aN hp] at hris
           rw [aN hx, hq, aN hp, List.append_assoc]
           show kp (ts.take q ++ [p, x]) = true
           rw [lf, hris, hlp]
           rfl
          ·(repeat (first | exact ax _ _ _ | refine aA rfl ?_ | refine aw rfl ?_))
       ·rw [hbad (jM hx (by unfold fY jV; rw [hm, decide_eq_false hz, Bool.eq_false_iff.2 (fun h => hnf ((jF x.c).1 h))]; rfl))]
        refine ai (sr (mI (bH ?_)))
        refine bK hh 0 ?_
        refine a3 ?_
        refine aO (ah (cT (al (aj (ai (ao (sr (bH ?_))))))))
        refine bK hh 0 ?_
        refine mI ?_
        refine aV (k := i) aG.out az.size rfl rfl (by omega) (by omega) (by decide) ?_
        refine bR (vs := [_, _, _, _]) az.out rfl ((hr.ext hh.below).recAt TR.len hx) rfl (by decide) ?_
        refine cg hh ?_
        intro b4 w4 hh
        refine bE hh 0 [_,_,_,_] ?_
        intro ws hh
        replace hh : Hp _ (.blk _ _ [_, _, _, _] _ :: _) _ := hh
        refine ah (ai (ai ?_))
        refine cH [] [] [0, 1, 0, 4, 15, 31, 63, 127, 255, 511, 1023, 2047, 4095, 8191, 16383, 32767, 8191, 73727, 262143, 524287] 18 [[(4, none)], [(29, some 0)], [(1, none)], [(31, some 2)], [(30, some 1), (32, some 3)], [(33, some 4)], [(34, some 5)], [(4, none), (35, some 6)], [(36, some 7), (35, some 6)], [(37, some 8), (35, some 6)], [(38, some 9), (35, some 6)], [(35, some 6), (39, some 10)], [(40, some 11)], [(4, none), (41, some 12)], [(42, some 13), (41, some 12)], [(43, some 14), (41, some 12)], [(4, none), (41, some 12)], [(45, some 16), (41, some 12)]] [(17, 46), (16, 45), (15, 44), (14, 43), (13, 42), (12, 41), (11, 40), (10, 39), (9, 38), (8, 37), (7, 36), (6, 35), (5, 34), (4, 33), (3, 32), (2, 31), (1, 30), (0, 29)] hh mixed (by kernel_rfl) dg rfl (by repeat (first | exact bM | refine br ?_ | refine bL ?_)) ?_
        refine cv ?_
        refine dH 0 ?_
        refine cv ?_
        refine dH 1 ?_
        refine dC (fun _ hj => hmay _) ?_
        refine lY ?_
        refine fQ ?_
        first | refine dS ?_ | refine dU ?_ | refine dG (cv ?_)
        first | refine dS ?_ | refine dU ?_ | refine dG (ec 0 [_,_,_] ?_)
        refine bs (i := 9) rfl (fun ρ1 w1 hj hR => (show ρ1 35 = Value.bool _ from hR.2.1)) (fun ρ1 w1 hj hR => a7 ar.out (aD (show ρ1 37 = Value.agg (List.toArray _) from hR.1) a9)) (fun w1 hj => hsg _) ?_
        first | refine dS ?_ | refine dU ?_ | refine dG (jn ?_)
        first | refine k0 ?_ | refine kZ ?_
        refine fQ ?_
        first | refine dS ?_ | refine dU ?_ | refine dG (cv ?_)
        first | refine dS ?_ | refine dU ?_ | refine dG (ec 0 [_,_,_] ?_)
        refine bs (i := 15) rfl (fun ρ1 w1 hj hR => (show ρ1 41 = Value.bool _ from hR.2.1)) (fun ρ1 w1 hj hR => a7 ar.out (aD (show ρ1 43 = Value.agg (List.toArray _) from hR.1) a9)) (fun w1 hj => hfo _) ?_
        first | refine dS ?_ | refine dU ?_ | refine dG (cv ?_)
        first | refine dS ?_ | refine dU ?_ | refine dG (ec 0 [_,_,_] ?_)
        refine a0 ?_
        intro f W hJ hV _
        have hb_9 := hJ.bl
        obtain ⟨v46, v45, v44, v43, v42, v41, v40, v39, v38, v37, v36, v35, v34, v33, v32, v31, v30, v29, _⟩ := hV
        replace hh := hJ.hp
        refine aR (a5 (aa v46 (aa v45 (aa v44 (aa v43 (aa v42 (aa v41 (aa v40 (aa v39 (aa v38 (aa v37 (aa v36 (aa v35 (aa v34 (aa v33 (aa v32 (aa v31 (aa v30 (aa v29 aQ))))))))))))))))))) ?_
        dsimp only [bX]
        clear hJ
        first | refine gS ?_ | (refine gT ?_; (first | refine mb rfl rfl (by first | assumption | rfl) (by decide) ?_ | refine md rfl rfl (by assumption) (by decide) ?_)) | refine gV ?_
        first | refine ct ?_ | refine cu ?_
        refine ah (cT (sr (aI (ah (an (aC (bP (aC (aC (bP (aC ?_)))))))))))
        refine cf ?_
        exact ⟨rfl, hh.below⟩
    ·rw [List.take_of_length_le (by omega)] at hall hris
     rw [show gj v ts = 0 by unfold gj okB; rw [if_neg (by rw [hf]; decide), if_neg (by omega), hall, hris]; rfl]
     refine ai (sr (mI (bH ?_)))
     refine bK hh 0 ?_
     refine a3 ?_
     refine aO (ah (cF ?_))
     refine aY ?_
     refine ay (ay (bg (aj (sr (aI (ah (an ?_)))))))
     refine cf ?_
     exact ⟨rfl, hh.below⟩
end Go.Proofs.YtkgdagjklakajaaGreatDoor
