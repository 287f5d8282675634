/- Lemmas for polyRing, part 5. -/
import Derived.Test.YtkgdagjklakajaaGreatDoorZ4
/- The walks through the program's package of products of powers (mono), and through the document's answer's. -/
namespace Go.Proofs.YtkgdagjklakajaaGreatDoor
open Go.RowKit
theorem iI (s : ByteArray) (n : Int) (w : World) (hs : s.size ≤ 9223372036854775807) :
  Calls Tryz.prog 92 #[.string s, .int .i64 n] w fun e w' => e = .returned (.bool (dJ s.data.toList && decide ((s.size : Int) = n))) ∧ Below w.heap.size w w' := by
 refine ak (N := 20) (l := [.string s, .int .i64 n]) Tryz.func92 rfl rfl (by simp) ?_
 refine sr (aB (aa (ai (sr (mS ?_)))))
 refine bB aJ.out rfl (by decide) ?_
 refine mI (aa (aq ?_))
 refine bD [4, 5, 8, 9, 10, 11, 12, 13, 14, 15] 8
  (fun v w' => ∃ k : Nat, k ≤ s.size ∧ v = .int .i64 k ∧ dJ (s.data.toList.take k) = true ∧ w' = w)
  (fun v _ => s.size - (intOf v).toNat) ?_ ?_
 ·exact ⟨0, Nat.zero_le _, rfl, rfl, rfl⟩
 ·rintro ρ' v w' ⟨k, hk, rfl, hm, rfl⟩
  by_cases hlt : k < s.size
  ·obtain ⟨c, hc⟩ := aR (l := s.data.toList) (k := k) (by rw [← dF]; exact hlt)
   have hb := c.toNat_lt
   by_cases h8 : c.toNat < 128
   ·refine sr ?_
    refine aZ (aa (ai (cT (al (aj (ai (aq (sr (mI (aI (aa ?_)))))))))))
    refine sr (mS (mI ?_))
    refine bL aJ.out rfl rfl (by omega) (by assumption) (by decide) ?_
    refine cg (aa (cF (al (a3 (aj (au ?_))))))
    refine bO (mI (aK (aj ?_)))
    refine ⟨⟨k + 1, by omega, rfl, by rw [aW hc, vt, hm]; simpa using h8, rfl⟩, by show s.size - (k + 1) < s.size - k; omega, ?_⟩
    (repeat (first | exact aA _ _ _ | refine aE rfl ?_ | refine ax rfl ?_))
   ·refine sr ?_
    refine aZ (aa (ai (cT (al (aj (ai (aq (sr (mI (aI (aa ?_)))))))))))
    refine sr (mS (mI ?_))
    refine bL aJ.out rfl rfl (by omega) (by assumption) (by decide) ?_
    refine cg (aa (cT (sr (aB (aa (ao (bU (aM (aM (bU (aM ?_)))))))))))
    refine cd ?_
    rw [wD hc h8]
    exact ⟨rfl, Below.refl _ _⟩
  ·refine sr ?_
   refine aZ (aa (ai (cF ?_)))
   refine a4 ?_
   refine aD (aD (bp (aj (sr (mS ?_)))))
   refine bB aJ.out rfl (by decide) ?_
   refine mI ?_
   refine tH rfl rfl (by decide) ?_
   refine aB (aa (ao ?_))
   refine cd ?_
   rw [List.take_of_length_le (by rw [← dF]; omega)] at hm
   rw [hm]
   exact ⟨rfl, Below.refl _ _⟩
theorem je (s : ByteArray) (w : World) (hs : s.size ≤ 9223372036854775807) :
  Calls Tryz.prog 92 #[.string s, .int .i64 s.size] w fun e w' => e = .returned (.bool (dJ s.data.toList)) ∧ Below w.heap.size w w' := by
 have h := iI s s.size w hs
 simpa using h
theorem vy (A : Option Addr) (n c : Nat) (xs : List Int) (w : World) (hsl : Sl w A n 1 (eU xs)) (hn : n ≤ 100000) :
  Calls Tryz.prog 190 #[.slice A n c] w fun e w' => e = .returned (.tuple #[.string (str (x7 xs)), .int .i64 (wL xs)]) ∧ Below w.heap.size w w' := by
 have hlen : xs.length = n := by have := hsl.1; rw [eK] at this; omega
 have hh := Hp.start w
 refine ak (N := 27) (l := [.slice A n c]) Tryz.func190 rfl rfl (by simp) ?_
 refine sr (aS (aI (aa (sr (aL (aa (ai (sr (mL (a5 (mI ?_)))))))))))
 refine aa (aq ?_)
 refine cY [2, 3, 4, 6, 9, 10, 11, 12, 13, 14, 15, 16, 17, 18, 19, 20, 21, 22, 23, 24] 4 9
  (fun b i w' => ∃ (k c' : Nat) (A' : Option Addr), k ≤ n ∧ i = .int .i64 k ∧ b = .slice A' k c' ∧ (xs.take k).all fR = true ∧ Hp w [.row A' k c' 5 1 (j6 ((xs.take k).map xn))] w')
  (fun _ v _ => n - (intOf v).toNat) ?_ ?_
 ·exact ⟨0, 0, none, Nat.zero_le _, rfl, rfl, rfl, hh.fE _ _⟩
 ·clear hh
  rintro ρ' b i w' ⟨k, c', A', hk, rfl, rfl, hall, hh⟩
  by_cases hlt : k < n
  ·obtain ⟨x, hx⟩ := aR (l := xs) (k := k) (by omega)
   obtain ⟨ad, rfl, hr⟩ := (hsl.ext hh.below).at_ (by omega)
   by_cases h0 : x < 0
   ·refine sr ?_
    refine aZ (aa (ai (cT (al (aj (ai (aq (sr ?_))))))))
    refine fY aJ.out aC.size rfl rfl (by omega) (by omega) (by decide) ?_
    refine bJ aC.out rfl (gE hr (fG hx) rfl) (by decide) ?_
    refine aI (aa (ai (sr (mI ?_))))
    refine aZ (mB ?_)
    first | refine gS ?_ | (refine gT ?_; refine mI ?_) | refine gV ?_
    first | refine gS ?_ | (refine gT ?_; refine cg ?_) | refine gV ?_
    first | refine ct ?_ | refine cq ?_
    refine aa (cT (sr (aS (aI (aa (ao (aM (bU (aM (aM (bU ?_)))))))))))
    refine aM ?_
    refine u4 ?_
    obtain ⟨e1, e2⟩ := wY hx (by simp [fR]; omega)
    rw [e1, e2]
    exact ⟨rfl, hh.below⟩
   ·by_cases h1 : 127 < x
    ·refine sr ?_
     refine aZ (aa (ai (cT (al (aj (ai (aq (sr ?_))))))))
     refine fY aJ.out aC.size rfl rfl (by omega) (by omega) (by decide) ?_
     refine bJ aC.out rfl (gE hr (fG hx) rfl) (by decide) ?_
     refine aI (aa (ai (sr (mI ?_))))
     refine aZ (mB ?_)
     first | refine gS ?_ | (refine gT ?_; refine mI ?_) | refine gV ?_
     first | refine gS ?_ | (refine gT ?_; refine cg ?_) | refine gV ?_
     first | refine ct ?_ | refine cq ?_
     refine aa (cT (sr (aS (aI (aa (ao (aM (bU (aM (aM (bU ?_)))))))))))
     refine aM ?_
     refine u4 ?_
     obtain ⟨e1, e2⟩ := wY hx (by simp [fR]; omega)
     rw [e1, e2]
     exact ⟨rfl, hh.below⟩
    ·have hok : fR x = true := by simp [fR]; omega
     refine sr ?_
     refine aZ (aa (ai (cT (al (aj (ai (aq (sr ?_))))))))
     refine fY aJ.out aC.size rfl rfl (by omega) (by omega) (by decide) ?_
     refine bJ aC.out rfl (gE hr (fG hx) rfl) (by decide) ?_
     refine aI (aa (ai (sr (mI ?_))))
     refine aZ (mB ?_)
     first | refine gS ?_ | (refine gT ?_; refine mI ?_) | refine gV ?_
     first | refine gS ?_ | (refine gT ?_; refine cg ?_) | refine gV ?_
     first | refine ct ?_ | refine cq ?_
     refine aa (cF (al (aj (au (mL (mI ?_))))))
     refine nJ aJ.out aJ.out rfl (by decide) ?_
     refine aO hh (cs := [_]) aJ.out aC.out (aG (bI rfl) bC) rfl rfl (by decide) (by decide) (by decide) rfl (by decide) ?_
     intro b22 w22 hh
     refine cO hh (i := 1) rfl rfl rfl (hh.az (i := 0) rfl) aJ.out aC.out rfl (by decide) rfl (by omega) (by omega) (by decide) ?_
     intro A23 c23 w23 hh
     simp only [List.set_cons_zero, List.set_cons_succ] at hh
     replace hh := hh.sub (List.sublist_cons_self _ _)
     refine aL (aK (a3 (aj (au ?_))))
     refine bO (mI (aK (aj ?_)))
     refine ⟨⟨k + 1, c23, A23, by omega, rfl, rfl, wi hx hall hok, ?_⟩, by show n - (k + 1) < n - k; omega, ?_⟩
     ·rw [yD (by omega) (by omega), wk hx hok] at hh
      exact hh
     ·(repeat (first | exact aA _ _ _ | refine aE rfl ?_ | refine ax rfl ?_))
  ·obtain rfl : k = n := by omega
   rw [List.take_of_length_le (by omega)] at hall hh
   obtain ⟨e1, e2⟩ := ug hall
   refine sr ?_
   refine aZ (aa (ai (cF ?_)))
   refine a4 ?_
   refine aD (aD (bp (aj (sr (mL ?_)))))
   refine jl aJ.out aJ.out aJ.out rfl (hh.az (i := 0) rfl) (by decide) ?_
   refine aS (aI (aa (ao ?_)))
   refine u4 ?_
   rw [e1, e2]
   exact ⟨rfl, hh.below⟩
theorem gO (s : ByteArray) (w : World) (hs : s.size ≤ 100000) :
  Calls Tryz.prog 101 #[.string s] w fun e w' => ∃ A c, e = .returned (.slice A (gQ s.data.toList).length c) ∧ w'.ownsRow w.heap.size 3 1 (.slice A (gQ s.data.toList).length c) (gQ s.data.toList).length (eU (gQ s.data.toList)) ∧ Below w.heap.size w w' := by
 have hh := Hp.start w
 have hsz := dF s
 cases hm : dJ s.data.toList with
 | false =>
  refine ak (N := 22) (l := [.string s]) Tryz.func101 rfl rfl (by simp) ?_
  refine sr (aL (aa (ai (sr (mS (mS ?_))))))
  refine bB aJ.out rfl (by decide) ?_
  refine bE hh (je s _ (by omega)) rfl ?_
  intro w9 hh
  rw [hm]
  refine eo ?_
  refine aa (cT (sr (aL (aa (ao (aM ?_))))))
  refine cd ?_
  rw [wE hm]
  exact ⟨none, 0, rfl, World.ownsRow_nil _ _ _ _, hh.below⟩
 | true =>
  refine ak (N := 22) (l := [.string s]) Tryz.func101 rfl rfl (by simp) ?_
  refine sr (aL (aa (ai (sr (mS (mS ?_))))))
  refine bB aJ.out rfl (by decide) ?_
  refine bE hh (je s _ (by omega)) rfl ?_
  intro w9 hh
  rw [hm]
  refine eo ?_
  refine aa (cF (al (aj (sr (aL (aa (ai (sr (mS ?_)))))))))
  refine pz hh aJ.out rfl (by decide) ?_
  intro b12 w12 hh
  skip
  refine aa (aq ?_)
  refine bD [3, 5, 13, 14, 15, 16, 17, 18, 19, 20] 3
   (fun v w' => ∃ (k c' : Nat) (A' : Option Addr), k ≤ s.size ∧ v = .slice A' k c' ∧ Hp w [.row A' k c' 3 1 (eU (ints (s.data.toList.take k))), .it b12 s k] w')
   (fun v _ => s.size - lenOf v) ?_ ?_
  ·exact ⟨0, 0, none, Nat.zero_le _, rfl, hh.fE _ _⟩
  ·clear hh
   rintro ρ' v w' ⟨k, c', A', hk, rfl, hh⟩
   by_cases hlt : k < s.size
   ·obtain ⟨c, hc⟩ := aR (l := s.data.toList) (k := k) (by omega)
    have h8 := uk hm hc
    refine sr ?_
    refine pM hh (i := 1) rfl rfl hc h8 (by decide) ?_
    intro w13 hh
    simp only [List.set_cons_zero, List.set_cons_succ] at hh
    skip
    refine cM ?_
    refine aa (ai (cT (al (aj (aq (sr ?_))))))
    refine cM ?_
    refine aI (aa (au (mL (mI ?_))))
    refine dO aJ.out aJ.out rfl (by omega) (by omega) (by decide) ?_
    refine aO hh (cs := [_]) aJ.out aC.out (aG (bI rfl) bC) rfl rfl (by decide) (by decide) (by decide) rfl (by decide) ?_
    intro b19 w19 hh
    refine cO hh (i := 1) rfl rfl rfl (hh.az (i := 0) rfl) aJ.out aC.out rfl (by decide) rfl (by omega) (by omega) (by decide) ?_
    intro A20 c20 w20 hh
    simp only [List.set_cons_zero, List.set_cons_succ] at hh
    replace hh := hh.sub (List.sublist_cons_self _ _)
    refine aL (aK (a3 (aj ?_)))
    rw [mR hc] at hh
    refine ⟨⟨k + 1, c20, A20, by omega, rfl, hh⟩, by show s.size - (k + 1) < s.size - k; omega, ?_⟩
    (repeat (first | exact aA _ _ _ | refine aE rfl ?_ | refine ax rfl ?_))
   ·refine sr ?_
    refine qi hh (i := 1) rfl rfl hlt (by decide) ?_
    skip
    refine cM ?_
    refine aa (ai (cF ?_))
    refine a4 ?_
    refine aD (aD (bp (aj (sr (mL (aL (aa (ao ?_))))))))
    refine cd ?_
    obtain rfl : k = s.size := by omega
    rw [List.take_of_length_le (by omega)] at hh
    have h1 := hh.at_ (i := 0) rfl
    rw [jC hm, da, ← hsz]
    exact ⟨A', c', rfl, h1, hh.below⟩
theorem mZ (a b : ByteArray) (g : FuncId) (f : Int → Int → Int) (w : World) (ha : a.size ≤ 100000) (hb : b.size ≤ 100000) [ar Tryz.prog g]
  (hg : ∀ (x y : Int) (w : World), 0 ≤ x → x ≤ 127 → 0 ≤ y → y ≤ 127 → Calls Tryz.prog g #[.int .i64 x, .int .i64 y] w fun e w' => e = .returned (.int .i64 (f x y)) ∧ Below w.heap.size w w') :
  Calls Tryz.prog 209 #[.string a, .string b, .func (.func g) #[] #[]] w fun e w' =>
   (fa f a.data.toList b.data.toList = none ∧ e = .returned (.tuple #[.slice none 0 0, .bool false]) ∧ Below w.heap.size w w') ∨
   ∃ l, fa f a.data.toList b.data.toList = some l ∧ l.length = b.size ∧ ∃ A c, e = .returned (.tuple #[.slice A l.length c, .bool true]) ∧ w'.ownsRow w.heap.size 3 1 (.slice A l.length c) l.length (eU l) ∧ Below w.heap.size w w' := by
 have hh := Hp.start w
 have hsa := dF a
 have hsb := dF b
 cases hma : dJ a.data.toList with
 | false =>
  refine ak (N := 45) (l := [.string a, .string b, .func (.func g) #[] #[]]) Tryz.func209 rfl rfl (by simp) ?_
  refine sr (aL (aB (aa (sr (mS ?_)))))
  refine aH (gO b _ hb) ar.out rfl (by decide) ?_
  rintro e_ w12 ⟨A12, c12, rfl, hown_, hb_⟩
  refine ⟨_, rfl, ?_⟩
  replace hh := hh.a9 (x := .row _ _ _ _ _ _) hb_ hown_
  refine aL (aa (ai (sr (mS (mS ?_)))))
  refine bB aJ.out rfl (by decide) ?_
  refine bE hh (je a _ (by omega)) rfl ?_
  intro w16 hh
  rw [hma]
  refine eo ?_
  refine mB ?_
  first | refine gS ?_ | (refine gT ?_; refine mS ?_) | refine gV ?_
  first | refine gS ?_ | (refine gT ?_; refine mS ?_) | refine gV ?_
  first | refine gS ?_ | (refine gT ?_; refine bB aJ.out rfl (by decide) ?_) | refine gV ?_
  refine bH (by decide) rfl rfl (by decide) ?_
  first | refine gS ?_ | (refine gT ?_; refine eo ?_) | refine gV ?_
  first | refine ct ?_ | refine cq ?_
  refine aa (cT (sr (aL (aB (aa (ao (aM ?_)))))))
  refine u4 ?_
  exact .inl ⟨by simp [fa, hma], rfl, hh.below⟩
 | true =>
  cases hmb : (dJ b.data.toList && decide ((b.size : Int) = a.size)) with
  | false =>
   refine ak (N := 45) (l := [.string a, .string b, .func (.func g) #[] #[]]) Tryz.func209 rfl rfl (by simp) ?_
   refine sr (aL (aB (aa (sr (mS ?_)))))
   refine aH (gO b _ hb) ar.out rfl (by decide) ?_
   rintro e_ w12 ⟨A12, c12, rfl, hown_, hb_⟩
   refine ⟨_, rfl, ?_⟩
   replace hh := hh.a9 (x := .row _ _ _ _ _ _) hb_ hown_
   refine aL (aa (ai (sr (mS (mS ?_)))))
   refine bB aJ.out rfl (by decide) ?_
   refine bE hh (je a _ (by omega)) rfl ?_
   intro w16 hh
   rw [hma]
   refine eo ?_
   refine mB ?_
   first | refine gS ?_ | (refine gT ?_; refine mS ?_) | refine gV ?_
   first | refine gS ?_ | (refine gT ?_; refine mS ?_) | refine gV ?_
   first | refine gS ?_ | (refine gT ?_; refine bB aJ.out rfl (by decide) ?_) | refine gV ?_
   refine aX rfl rfl ?_
   refine bE hh (iI b _ _ (by omega)) rfl ?_
   intro w22 hh
   rw [hmb]
   first | refine gS ?_ | (refine gT ?_; refine eo ?_) | refine gV ?_
   first | refine ct ?_ | refine cq ?_
   refine aa (cT (sr (aL (aB (aa (ao (aM ?_)))))))
   refine u4 ?_
   have : (dJ b.data.toList && decide ((b.data.toList.length : Int) = a.data.toList.length)) = false := by rw [← hsa, ← hsb]; exact hmb
   exact .inl ⟨by simp only [fa, hma, this]; rfl, rfl, hh.below⟩
  | true =>
   have hmb2 := hmb
   simp only [Bool.and_eq_true, decide_eq_true_eq] at hmb2
   have hbl : fa f a.data.toList b.data.toList = some (List.zipWith f (ints a.data.toList) (ints b.data.toList)) := by
    have : (dJ b.data.toList && decide ((b.data.toList.length : Int) = a.data.toList.length)) = true := by rw [← hsa, ← hsb]; exact hmb
    simp only [fa, hma, this]; rfl
   have hea := jC hma
   have heb := jC hmb2.1
   have hlab : (ints a.data.toList).length = (ints b.data.toList).length := by rw [da, da]; omega
   have hlb := da b.data.toList
   have hla := da a.data.toList
   have hA := gO a
   have hB := gO b
   rw [hea] at hA
   rw [heb] at hB
   generalize hia : ints a.data.toList = ia at *
   generalize hib : ints b.data.toList = ib at *
   have bda : ∀ (k : Nat) (x : Int), ia[k]? = some x → 0 ≤ x ∧ x ≤ 127 := fun k x h => ud (l := a.data.toList) (by rw [hea]; exact h)
   have bdb : ∀ (k : Nat) (x : Int), ib[k]? = some x → 0 ≤ x ∧ x ≤ 127 := fun k x h => ud (l := b.data.toList) (by rw [heb]; exact h)
   clear hea heb
   refine ak (N := 45) (l := [.string a, .string b, .func (.func g) #[] #[]]) Tryz.func209 rfl rfl (by simp) ?_
   refine sr (aL (aB (aa (sr (mS ?_)))))
   refine aH (hB _ hb) ar.out rfl (by decide) ?_
   rintro e_ w12 ⟨A12, c12, rfl, hown_, hb_⟩
   refine ⟨_, rfl, ?_⟩
   replace hh := hh.a9 (x := .row _ _ _ _ _ _) hb_ hown_
   refine aL (aa (ai (sr (mS (mS ?_)))))
   refine bB aJ.out rfl (by decide) ?_
   refine bE hh (je a _ (by omega)) rfl ?_
   intro w16 hh
   rw [hma]
   refine eo ?_
   refine mB ?_
   first | refine gS ?_ | (refine gT ?_; refine mS ?_) | refine gV ?_
   first | refine gS ?_ | (refine gT ?_; refine mS ?_) | refine gV ?_
   first | refine gS ?_ | (refine gT ?_; refine bB aJ.out rfl (by decide) ?_) | refine gV ?_
   refine aX rfl rfl ?_
   refine bE hh (iI b _ _ (by omega)) rfl ?_
   intro w22 hh
   rw [hmb]
   first | refine gS ?_ | (refine gT ?_; refine eo ?_) | refine gV ?_
   first | refine ct ?_ | refine cq ?_
   refine aa (cF (al (aj (ai (sr (mS ?_))))))
   refine aH (hA _ ha) ar.out rfl (by decide) ?_
   rintro e_ w26 ⟨A26, c26, rfl, hown_, hb_⟩
   refine ⟨_, rfl, ?_⟩
   replace hh := hh.a9 (x := .row _ _ _ _ _ _) hb_ hown_
   refine a5 (mI (aa (aq ?_)))
   refine bD [9, 10, 28, 29, 30, 31, 32, 33, 34, 35, 36, 37, 38, 39, 40, 41, 42, 43] 28
    (fun i w' => ∃ k : Nat, k ≤ ib.length ∧ i = .int .i64 k ∧ Hp w [.row A26 ia.length c26 3 1 (eU ia), .row A12 ib.length c12 3 1 (eU (js f ia ib k))] w')
    (fun i _ => ib.length - (intOf i).toNat) ?_ ?_
   ·exact ⟨0, Nat.zero_le _, rfl, by rw [v3]; exact hh⟩
   ·clear hh hown_ hb_
    rintro ρ' i w' ⟨k, hk, rfl, hh⟩
    by_cases hlt : k < ib.length
    ·obtain ⟨x, hx⟩ := aR (l := ia) (k := k) (by omega)
     obtain ⟨y, hy⟩ := aR hlt
     have bx := bda k x hx
     have byy := bdb k y hy
     have hx2 := fG hx
     have hy2 := fG (zj (f := f) hlab hy)
     have hml := yr (f := f) hlab hk
     have hml2 := eK (js f ia ib k)
     obtain ⟨ga, rfl⟩ := hh.gH (i := 0) rfl (by omega)
     obtain ⟨gb, rfl⟩ := hh.gH (i := 1) rfl (by omega)
     refine sr ?_
     refine aZ (aa (ai (cT (al (aj (ai (aq (sr (mI ?_)))))))))
     refine bs aJ.out aC.size rfl rfl rfl (by omega) (by decide) ?_
     refine bJ aC.out rfl (hh.cE (i := 0) rfl (by first | assumption | (simp only [Nat.mul_one]; assumption))) (by decide) ?_
     refine aI (aI (aa (au (mL (mI ?_)))))
     refine fL (by first | exact gm rfl | exact ev_nilf rfl) (by decide) ?_
     refine mI (mL (mI ?_))
     refine bs aJ.out aC.size rfl rfl rfl (by omega) (by decide) ?_
     refine bJ aC.out rfl (hh.cE (i := 1) rfl (by first | assumption | (simp only [Nat.mul_one]; assumption))) (by decide) ?_
     refine fg (hg x y _ bx.1 bx.2 byy.1 byy.2) ar.out rfl rfl (by decide) ?_
     rintro e_ w41 ⟨rfl, hb_⟩
     refine ⟨_, rfl, ?_⟩
     replace hh := hh.ext hb_
     refine bs aJ.out aC.size rfl rfl rfl (by omega) (by decide) ?_
     refine br hh (i := 1) (vs := [_]) rfl rfl (bI rfl) rfl aC.out rfl (by omega) rfl ?_
     intro ws hh
     simp only [List.set_cons_zero, List.set_cons_succ] at hh
     refine aK (a3 (aj (au ?_)))
     refine bO (mI (aK (aj ?_)))
     rw [Nat.mul_one, yt hlab hx hy] at hh
     refine ⟨⟨k + 1, by omega, rfl, hh⟩, by show _ - (k + 1) < _ - k; omega, ?_⟩
     (repeat (first | exact aA _ _ _ | refine aE rfl ?_ | refine ax rfl ?_))
    ·refine sr ?_
     refine aZ (aa (ai (cF ?_)))
     refine a4 ?_
     refine aD (aD (bp (aj (sr (mL (aL (aB (aa (ao ?_)))))))))
     refine u4 ?_
     obtain rfl : k = ib.length := by omega
     rw [wB hlab] at hh
     have h1 := hh.at_ (i := 1) rfl
     have hzl : (List.zipWith f ia ib).length = ib.length := by simp [hlab]
     refine .inr ⟨_, hbl, by omega, A12, c12, ?_⟩
     rw [hzl]
     exact ⟨rfl, h1, hh.below⟩
theorem vg (a b : ByteArray) (g : FuncId) (f : Int → Int → Int) (w : World) (ha : a.size ≤ 100000) (hb : b.size ≤ 100000) [ar Tryz.prog g]
  (hg : ∀ (x y : Int) (w : World), 0 ≤ x → x ≤ 127 → 0 ≤ y → y ≤ 127 → Calls Tryz.prog g #[.int .i64 x, .int .i64 y] w fun e w' => e = .returned (.int .i64 (f x y)) ∧ Below w.heap.size w w')
  (h : fa f a.data.toList b.data.toList = none) :
  Calls Tryz.prog 209 #[.string a, .string b, .func (.func g) #[] #[]] w fun e w' => e = .returned (.tuple #[.slice none 0 0, .bool false]) ∧ Below w.heap.size w w' :=
 (mZ a b g f w ha hb hg).mono fun e w' hq => by
  rcases hq with hq | ⟨l, hl, _⟩
  ·exact hq.2
  ·rw [h] at hl; cases hl
theorem vw (a b : ByteArray) (g : FuncId) (f : Int → Int → Int) (w : World) (ha : a.size ≤ 100000) (hb : b.size ≤ 100000) [ar Tryz.prog g]
  (hg : ∀ (x y : Int) (w : World), 0 ≤ x → x ≤ 127 → 0 ≤ y → y ≤ 127 → Calls Tryz.prog g #[.int .i64 x, .int .i64 y] w fun e w' => e = .returned (.int .i64 (f x y)) ∧ Below w.heap.size w w')
  {l : List Int} (h : fa f a.data.toList b.data.toList = some l) :
  Calls Tryz.prog 209 #[.string a, .string b, .func (.func g) #[] #[]] w fun e w' => ∃ A c, e = .returned (.tuple #[.slice A l.length c, .bool true]) ∧ w'.ownsRow w.heap.size 3 1 (.slice A l.length c) l.length (eU l) ∧ Below w.heap.size w w' :=
 (mZ a b g f w ha hb hg).mono fun e w' hq => by
  rcases hq with ⟨hn, _⟩ | ⟨l', hl, _, hq⟩
  ·rw [h] at hn; cases hn
  ·rw [h] at hl; injection hl with hl; subst hl; exact hq
theorem uQ {f : Int → Int → Int} {a b : List UInt8} {l : List Int} (h : fa f a b = some l) : l.length ≤ b.length := by
 unfold fa at h
 split at h
 ·injection h with h; subst h; simp [ints]; omega
 ·cases h
theorem mP (x y : Int) (w : World) (h1 : 0 ≤ x) (h2 : x ≤ 127) (h3 : 0 ≤ y) (h4 : y ≤ 127) :
  Calls Tryz.prog 210 #[.int .i64 x, .int .i64 y] w fun e w' => e = .returned (.int .i64 (x + y)) ∧ Below w.heap.size w w' := by
 refine ak (N := 8) (l := [.int .i64 x, .int .i64 y]) Tryz.func210 rfl rfl (by simp) ?_
 refine sr (aI (aa (sr (mI (mI ?_)))))
 refine bO (aI (aa (ao ?_)))
 refine cd ?_
 exact ⟨rfl, Below.refl _ _⟩
theorem vr (a b : ByteArray) (w : World) (ha : a.size ≤ 100000) (hb : b.size ≤ 100000) :
  Calls Tryz.prog 175 #[.string a, .string b] w fun e w' => e = .returned (.tuple #[.string (str (mulL a.data.toList b.data.toList).1), .int .i64 (mulL a.data.toList b.data.toList).2]) ∧ Below w.heap.size w w' := by
 have hh := Hp.start w
 have hsb := dF b
 cases hbo : fa (· + ·) a.data.toList b.data.toList with
 | none =>
  refine ak (N := 20) (l := [.string a, .string b]) Tryz.func175 rfl rfl (by simp) ?_
  refine sr (aS (aI (aa (sr (mS (mS ?_))))))
  refine bE hh (vg a b _ _ _ ha hb mP hbo) rfl ?_
  intro w11 hh
  refine mT ?_
  refine cM ?_
  refine cM ?_
  refine aL (aB (aa (ai (sr (mB ?_)))))
  refine eo ?_
  refine aa (cT (sr (aS (aI (aa (ao (aM ?_)))))))
  refine u4 ?_
  simp only [mulL, hbo]
  first | exact ⟨rfl, hh.below⟩ | exact ⟨trivial, hh.below⟩
 | some l =>
  have hl := uQ hbo
  refine ak (N := 20) (l := [.string a, .string b]) Tryz.func175 rfl rfl (by simp) ?_
  refine sr (aS (aI (aa (sr (mS (mS ?_))))))
  refine aH (vw a b _ _ _ ha hb mP hbo) ar.out rfl (by decide) ?_
  rintro e_ w11 ⟨A11, c11, rfl, hown_, hb_⟩
  refine ⟨_, rfl, ?_⟩
  replace hh := hh.a9 (x := .row _ _ _ _ _ _) hb_ hown_
  refine mT ?_
  refine cM ?_
  refine cM ?_
  refine aL (aB (aa (ai (sr (mB ?_)))))
  refine eo ?_
  refine aa (cF (al (aj (sr (mL ?_)))))
  refine bE hh (vy _ _ _ _ _ (hh.az (i := 0) rfl) (by omega)) rfl ?_
  intro w17 hh
  refine cM ?_
  refine cM ?_
  refine aS (aI (aa (ao ?_)))
  refine u4 ?_
  simp only [mulL, hbo]
  first | exact ⟨rfl, hh.below⟩ | exact ⟨trivial, hh.below⟩
end Go.Proofs.YtkgdagjklakajaaGreatDoor
/- The walks through poly.few and poly.Check. -/
namespace Go.Proofs.YtkgdagjklakajaaGreatDoor
open Go.RowKit
def gh (v : Int) : Bool := decide (0 ≤ v) && decide (v ≤ 12)
theorem kB {v : Int} : gh v = true ↔ 0 ≤ v ∧ v ≤ 12 := by unfold gh; rw [Bool.and_eq_true, decide_eq_true_eq, decide_eq_true_eq]
theorem jH (v : Int) (w : World) : Calls Tryz.prog 89 #[.int .i64 v] w fun r w' => r = .returned (.bool (gh v)) ∧ Below w.heap.size w w' := by
 have hh := Hp.start w
 unfold gh
 by_cases h1 : 0 ≤ v
 ·rw [decide_eq_true h1, Bool.true_and]
  by_cases h2 : v ≤ 12
  ·rw [decide_eq_true h2]
   refine ak (N := 9) (l := [.int .i64 v]) Tryz.func89 rfl rfl (by simp) ?_
   refine sr (aB (aa (sr (mI ?_))))
   refine dx (mB ?_)
   first | refine gS ?_ | (refine gT ?_; refine mI ?_) | refine gV ?_
   first | refine gS ?_ | (refine gT ?_; refine zK ?_) | refine gV ?_
   first | refine ct ?_ | refine cq ?_
   refine aB (aa (ao ?_))
   refine cd ?_
   exact ⟨rfl, hh.below⟩
  ·rw [decide_eq_false h2]
   refine ak (N := 9) (l := [.int .i64 v]) Tryz.func89 rfl rfl (by simp) ?_
   refine sr (aB (aa (sr (mI ?_))))
   refine dx (mB ?_)
   first | refine gS ?_ | (refine gT ?_; refine mI ?_) | refine gV ?_
   first | refine gS ?_ | (refine gT ?_; refine zK ?_) | refine gV ?_
   first | refine ct ?_ | refine cq ?_
   refine aB (aa (ao ?_))
   refine cd ?_
   exact ⟨rfl, hh.below⟩
 ·rw [decide_eq_false h1, Bool.false_and]
  refine ak (N := 9) (l := [.int .i64 v]) Tryz.func89 rfl rfl (by simp) ?_
  refine sr (aB (aa (sr (mI ?_))))
  refine dx (mB ?_)
  first | refine gS ?_ | (refine gT ?_; refine mI ?_) | refine gV ?_
  first | refine gS ?_ | (refine gT ?_; refine zK ?_) | refine gV ?_
  first | refine ct ?_ | refine cq ?_
  refine aB (aa (ao ?_))
  refine cd ?_
  exact ⟨rfl, hh.below⟩
def Au (a : NR) : Bool := decide ((nR a.d).neg = a.neg) && (decide ((nR a.d).cC = a.cC) && decide ((nR a.d).e = a.e))
theorem mz (a : NR) : Au a = true ↔ nR a.d = a := by
 unfold Au
 rw [Bool.and_eq_true, Bool.and_eq_true, decide_eq_true_eq, decide_eq_true_eq, decide_eq_true_eq]
 constructor
 ·rintro ⟨h1, h2, h3⟩
  obtain ⟨s, m, e⟩ := a
  generalize nR (NR.d ⟨s, m, e⟩) = b at *
  obtain ⟨s', m', e'⟩ := b
  simp only at h1 h2 h3
  rw [h1, h2, h3]
 ·intro h
  rw [h]
  exact ⟨rfl, rfl, rfl⟩
def j0 (v : Int) (t : TR) : Bool := dJ t.m.data.toList && decide ((t.m.size : Int) = v) && (qt t && Au t.c)
def ll : List TR → Bool
 | [] => true
 | [_] => true
 | a :: b :: l => fS a.m b.m && ll (b :: l)
theorem oD : ∀ (l : List TR) (p x : TR), ll (l ++ [p, x]) = (ll (l ++ [p]) && fS p.m x.m)
 | [], p, x => by show (fS p.m x.m && true) = (true && fS p.m x.m); rw [Bool.and_true, Bool.true_and]
 | [a], p, x => by
  show (fS a.m p.m && (fS p.m x.m && true)) = ((fS a.m p.m && true) && fS p.m x.m)
  rw [Bool.and_true, Bool.and_true]
 | a :: b :: l, p, x => by
  show (fS a.m b.m && ll ((b :: l) ++ [p, x])) = ((fS a.m b.m && ll ((b :: l) ++ [p])) && fS p.m x.m)
  rw [oD (b :: l) p x, Bool.and_assoc]
theorem ub : ∀ {l : List TR} {i : Nat} {p x : TR}, ll l = true → l[i]? = some p → l[i + 1]? = some x → fS p.m x.m = true
 | [], i, p, x, _, h, _ => by simp at h
 | [a], i, p, x, _, _, h => by simp at h
 | a :: b :: l, 0, p, x, h, h1, h2 => by
  simp only [List.getElem?_cons_zero, Option.some.injEq, Nat.zero_add, List.getElem?_cons_succ] at h1 h2
  subst h1 h2
  exact (Bool.and_eq_true_iff.1 h).1
 | a :: b :: l, i + 1, p, x, h, h1, h2 => by
  rw [List.getElem?_cons_succ] at h1 h2
  exact ub (Bool.and_eq_true_iff.1 h).2 h1 h2
theorem kE : ∀ {l : List TR}, ll l = true ↔ pb l
 | [] => ⟨fun _ => List.Pairwise.nil, fun _ => rfl⟩
 | [a] => ⟨fun _ => List.pairwise_singleton _ _, fun _ => rfl⟩
 | a :: b :: l => by
  show (fS a.m b.m && ll (b :: l)) = true ↔ _
  rw [Bool.and_eq_true, kE (l := b :: l)]
  constructor
  ·rintro ⟨h1, h2⟩
   refine List.pairwise_cons.2 ⟨fun t ht => ?_, h2⟩
   rcases List.mem_cons.1 ht with rfl | ht
   ·exact h1
   ·exact gy h1 ((List.pairwise_cons.1 h2).1 t ht)
  ·intro h
   have := List.pairwise_cons.1 h
   exact ⟨this.1 b List.mem_cons_self, this.2⟩
def okB (v : Int) (ts : List TR) : Bool := ts.all (j0 v) && ll ts
def gC (v : Int) (ts : List TR) : Int := if gh v = false then 1 else if 4096 < ts.length then 3 else if okB v ts = true then 0 else 1
theorem xi {v : Int} {ts : List TR} (h1 : gh v = true) (h2 : ¬ 4096 < ts.length) (h : okB v ts = false) : gC v ts = 1 := by
 unfold gC
 rw [if_neg (by rw [h1]; decide), if_neg h2, if_neg (by rw [h]; decide)]
theorem qf {v : Int} {ts : List TR} {i : Nat} {x : TR} (hx : ts[i]? = some x) (h : j0 v x = false) : okB v ts = false := by
 unfold okB
 rw [Bool.and_eq_false_iff]
 refine .inl (Bool.eq_false_iff.2 fun h2 => ?_)
 rw [List.all_eq_true.1 h2 x (List.mem_of_getElem? hx)] at h
 cases h
theorem vE {v : Int} {ts : List TR} {i : Nat} {p x : TR} (hp : ts[i]? = some p) (hx : ts[i + 1]? = some x) (h : fS p.m x.m = false) : okB v ts = false := by
 unfold okB
 rw [Bool.and_eq_false_iff]
 refine .inr (Bool.eq_false_iff.2 fun h2 => ?_)
 rw [ub h2 hp hx] at h
 cases h
theorem pW (v : Int) (A : Option Addr) (n c : Nat) (ts : List TR) (w : World) (hT : gM w) (hS : Sl w A n 4 (a8 TR.cells ts)) (hn : n ≤ 1000000) (ho : ∀ t ∈ ts, t.c.ok ∧ t.m.size ≤ 100000) :
  Calls Tryz.prog 21 #[.agg #[.int .i64 v, .slice A n c]] w fun r w' => r = .returned (.int .i64 (gC v ts)) ∧ Below w.heap.size w w' := by
 have hh := Hp.start w
 have hln := hS.ck TR.len (by decide)
 have hfw := fun w1 => jH v w1
 cases hf : gh v with
 | false =>
  rw [hf] at hfw
  rw [show gC v ts = 1 by unfold gC; rw [if_pos hf]]
  refine ak (N := 58) (l := [.agg #[.int .i64 v, .slice A n c]]) Tryz.func21 rfl rfl (by simp) ?_
  refine sr ?_
  refine dp hh [_,_] ?_
  intro b1 w1 hh
  refine aI (aa (ai (sr (bP ?_))))
  refine bQ hh 0 ?_
  refine bE hh (hfw _) rfl ?_
  intro w7 hh
  refine eo ?_
  refine aa (cT (sr (aI (aa (ao (aM ?_))))))
  refine cd ?_
  exact ⟨rfl, hh.below⟩
 | true =>
  rw [hf] at hfw
  by_cases h4 : 4096 < n
  ·rw [show gC v ts = 3 by unfold gC; rw [if_neg (by rw [hf]; decide), if_pos (by omega)]]
   refine ak (N := 58) (l := [.agg #[.int .i64 v, .slice A n c]]) Tryz.func21 rfl rfl (by simp) ?_
   refine sr ?_
   refine dp hh [_,_] ?_
   intro b1 w1 hh
   refine aI (aa (ai (sr (bP ?_))))
   refine bQ hh 0 ?_
   refine bE hh (hfw _) rfl ?_
   intro w7 hh
   refine eo ?_
   refine aa (cF (al (aj (ai (sr (bP ?_))))))
   refine bQ hh 0 ?_
   refine a5 ?_
   refine cg (aa (cT (sr (aI (aa (ao (aM ?_)))))))
   refine cd ?_
   exact ⟨rfl, hh.below⟩
  ·have hbad := fun h => xi (v := v) (ts := ts) hf (by omega) h
   refine ak (N := 58) (l := [.agg #[.int .i64 v, .slice A n c]]) Tryz.func21 rfl rfl (by simp) ?_
   refine sr ?_
   refine dp hh [_,_] ?_
   intro b1 w1 hh
   refine aI (aa (ai (sr (bP ?_))))
   refine bQ hh 0 ?_
   refine bE hh (hfw _) rfl ?_
   intro w7 hh
   refine eo ?_
   refine aa (cF (al (aj (ai (sr (bP ?_))))))
   refine bQ hh 0 ?_
   refine a5 ?_
   refine cg (aa (cF (al (aj (ai (sr (bP ?_)))))))
   refine bQ hh 0 ?_
   refine a5 (mI (aa (aq ?_)))
   refine bD [2, 3, 4, 16, 17, 18, 19, 20, 21, 22, 23, 24, 25, 26, 27, 28, 29, 30, 31, 32, 33, 34, 35, 36, 37, 38, 39, 40, 41, 42, 43, 44, 45, 46, 47, 48, 49, 50, 51, 52, 53, 54, 55, 56, 57] 16
    (fun x w' => ∃ i : Nat, i ≤ n ∧ x = .int .i64 i ∧ (ts.take i).all (j0 v) = true ∧ ll (ts.take i) = true ∧ Hp w [.blk b1 31 [.int .i64 v, .slice A n c] (0, 0)] w')
    (fun x _ => n - (intOf x).toNat) ?_ ?_
   ·exact ⟨0, Nat.zero_le _, rfl, rfl, rfl, hh⟩
   ·clear hh
    rintro ρ' x_ w' ⟨i, hi, rfl, hall, hris, hh⟩
    by_cases hlt : i < n
    ·obtain ⟨x, hx⟩ := aR (l := ts) (k := i) (by omega)
     obtain ⟨ad, rfl, hr⟩ := hS.at_ (by omega)
     obtain ⟨hxo, hxm⟩ := ho x (List.mem_of_getElem? hx)
     have hmay := fun w1 => iI x.m v w1 (by omega)
     have hsg := fun w1 => ma x.c w1
     have hfo := fun w1 hT1 => ea x.c w1 hT1 (by have := hxo.1; omega) (by have := hxo.2.1; omega) (by have := hxo.2.2; omega)
     have hzz : x.c.i.sign = 0 ↔ x.c.d = 0 := by
      rw [Int.sign_eq_zero_iff_zero]
      exact ⟨fun h => by unfold NR.d; rw [h]; rfl, jb⟩
     cases hm : dJ x.m.data.toList && decide ((x.m.size : Int) = v) with
     | false =>
      rw [hm] at hmay
      rw [hbad (qf hx (by unfold j0; rw [hm]; rfl))]
      refine sr ?_
      refine aZ (aa (ai (cT (al (aj (ai (aq (sr (mI ?_)))))))))
      refine a0 (k := i) aJ.out aC.size rfl rfl (by omega) (by omega) (by decide) ?_
      refine cb (vs := [_, _, _, _]) aC.out rfl ((hr.ext hh.below).recAt TR.len hx) rfl (by decide) ?_
      refine cj hh ?_
      intro b4 w4 hh
      refine aI ?_
      refine bK hh 0 [_,_,_,_] ?_
      intro ws hh
      replace hh : Hp _ (.blk _ _ [_, _, _, _] _ :: _) _ := hh
      refine aa (ai ?_)
      refine dw [] [] [0, 1, 0, 4, 15, 31, 63, 127, 255, 511, 1023, 2047, 4095, 8191, 16383, 32767, 8191, 73727, 262143, 524287, 1048575, 2097151, 4194303, 8388607, 16777215, 33554431, 16777215, 83886079, 268435455, 536870911, 1073741823, 16777215, 2164260863, 8589934591, 17179869183, 34359738367] 33 [[(4, none)], [(21, some 0)], [(1, none)], [(23, some 2)], [(22, some 1), (24, some 3)], [(25, some 4)], [(26, some 5)], [(4, none), (27, some 6)], [(28, some 7), (27, some 6)], [(29, some 8), (27, some 6)], [(30, some 9), (27, some 6)], [(27, some 6), (31, some 10)], [(32, some 11)], [(4, none), (33, some 12)], [(34, some 13), (33, some 12)], [(35, some 14), (33, some 12)], [(4, none), (33, some 12)], [(37, some 16), (33, some 12)], [(36, some 15), (38, some 17), (33, some 12)], [(33, some 12), (39, some 18)], [(40, some 19)], [(3, none), (41, some 20)], [(42, some 21), (41, some 20)], [(43, some 22), (41, some 20)], [(1, none), (44, some 23)], [(45, some 24), (44, some 23)], [(3, none), (44, some 23)], [(47, some 26), (44, some 23)], [(46, some 25), (48, some 27), (44, some 23)], [(49, some 28), (44, some 23)], [(50, some 29), (44, some 23)], [(4, none), (44, some 23)], [(52, some 31), (44, some 23)]] [(32, 53), (31, 52), (30, 51), (29, 50), (28, 49), (27, 48), (26, 47), (25, 46), (24, 45), (23, 44), (22, 43), (21, 42), (20, 41), (19, 40), (18, 39), (17, 38), (16, 37), (15, 36), (14, 35), (13, 34), (12, 33), (11, 32), (10, 31), (9, 30), (8, 29), (7, 28), (6, 27), (5, 26), (4, 25), (3, 24), (2, 23), (1, 22), (0, 21)] hh mixed (by kernel_rfl) dZ rfl (by repeat (first | exact bS | refine bG ?_ | refine bT ?_)) ?_
      refine dN ?_
      refine fC 0 ?_
      refine dN ?_
      refine fC 1 ?_
      refine dC (fun _ hj => hmay _) ?_
      refine uT ?_
      refine jJ ?_
      first | refine dS ?_ | refine dU ?_ | refine dG (dN ?_)
      first | refine dS ?_ | refine dU ?_ | refine dG (gj 0 [_,_,_] ?_)
      first | refine dS ?_ | refine dU ?_
      first | refine dS ?_ | refine dU ?_ | refine dG (lM ?_)
      first | refine ov ?_ | refine n6 ?_
      refine jJ ?_
      first | refine dS ?_ | refine dU ?_ | refine dG (dN ?_)
      first | refine dS ?_ | refine dU ?_ | refine dG (gj 0 [_,_,_] ?_)
      first | refine dS ?_ | refine dU ?_
      first | refine dS ?_ | refine dU ?_ | refine dG (dN ?_)
      first | refine dS ?_ | refine dU ?_ | refine dG (gj 0 [_,_,_] ?_)
      first | refine fK (i := 18) rfl (fun ρ1 w1 hj hR => (show ρ1 33 = Value.bool _ from hR.2.2.1)) (by decide) ?_ | refine eL (i := 18) rfl (fun ρ1 w1 hj hR => (show ρ1 33 = undef from hR.2.2.1)) ?_ | refine dW (i := 18) rfl (fun ρ1 w1 hj hR => (show ρ1 33 = Value.bool _ from hR.2.2.1)) (fun ρ1 w1 hj hR => jS (show ρ1 36 = Value.agg (List.toArray _) from hR.1) (show ρ1 38 = Value.agg (List.toArray _) from hR.2.1) (by first | assumption | rfl)) ?_ | refine dW (i := 18) rfl (fun ρ1 w1 hj hR => (show ρ1 33 = Value.bool _ from hR.2.2.1)) (fun ρ1 w1 hj hR => jG (show ρ1 36 = Value.agg (List.toArray _) from hR.1) (show ρ1 38 = Value.agg (List.toArray _) from hR.2.1) (by assumption)) ?_
      first | refine ov ?_ | refine n6 ?_
      refine jJ ?_
      first | refine dS ?_ | refine dU ?_ | refine dG (fe ?_)
      first | refine dS ?_ | refine dU ?_ | refine dG (u9 ?_)
      first | refine dS ?_ | refine dU ?_ | refine dG (jJ ?_)
      first | refine dS ?_ | refine dU ?_ | refine dG (dN ?_)
      first | refine dS ?_ | refine dU ?_ | refine dG (fC 1 ?_)
      first | refine dS ?_ | refine dU ?_ | refine dG (fe ?_)
      first | refine dS ?_ | refine dU ?_ | refine dG (n8 ?_)
      first | refine fK (i := 28) rfl (fun ρ1 w1 hj hR => (show ρ1 44 = Value.bool _ from hR.2.2.1)) (by decide) ?_ | refine eL (i := 28) rfl (fun ρ1 w1 hj hR => (show ρ1 44 = undef from hR.2.2.1)) ?_ | refine dW (i := 28) rfl (fun ρ1 w1 hj hR => (show ρ1 44 = Value.bool _ from hR.2.2.1)) (fun ρ1 w1 hj hR => eC aJ.out aC.size (show ρ1 46 = Value.slice _ _ _ from hR.1) (show ρ1 48 = Value.int _ _ from hR.2.1) rfl (by omega)) ?_
      first | refine dS ?_ | refine dU ?_ | refine dG (xp ?_)
      first | refine dS ?_ | refine dU ?_ | refine dG (lf (fun _ hj => hT) ?_)
      first | refine dS ?_ | refine dU ?_ | refine dG (dN ?_)
      first | refine dS ?_ | refine dU ?_ | refine dG (fC 0 ?_)
      refine bo ?_
      intro f W hJ hV _
      have hb_8 := hJ.bl
      obtain ⟨v53, v52, v51, v50, v49, v48, v47, v46, v45, v44, v43, v42, v41, v40, v39, v38, v37, v36, v35, v34, v33, v32, v31, v30, v29, v28, v27, v26, v25, v24, v23, v22, v21, _⟩ := hV
      replace hh := hJ.hp
      refine a7 (bu (ah v53 (ah v52 (ah v51 (ah v50 (ah v49 (ah v48 (ah v47 (ah v46 (ah v45 (ah v44 (ah v43 (ah v42 (ah v41 (ah v40 (ah v39 (ah v38 (ah v37 (ah v36 (ah v35 (ah v34 (ah v33 (ah v32 (ah v31 (ah v30 (ah v29 (ah v28 (ah v27 (ah v26 (ah v25 (ah v24 (ah v23 (ah v22 (ah v21 a6)))))))))))))))))))))))))))))))))) ?_
      dsimp only [cJ]
      clear hJ
      first | refine gS ?_ | (refine gT ?_; refine gp rfl rfl (by decide) ?_) | refine gV ?_
      first | refine gS ?_ | (refine gT ?_; (first | refine ct ?_ | refine cq ?_)) | refine gV ?_
      first | refine ct ?_ | refine cq ?_
      refine aa (cT (sr (aI (aa (ao (bU (aM (aM (bU (aM ?_))))))))))
      refine cd ?_
      exact ⟨rfl, hh.below⟩
     | true =>
      rw [hm] at hmay
      by_cases hz : x.c.d = 0
      ·have hs := hzz.2 hz
       rw [hbad (qf hx (by unfold j0 qt; rw [hm, decide_eq_true hz]; rfl))]
       refine sr ?_
       refine aZ (aa (ai (cT (al (aj (ai (aq (sr (mI ?_)))))))))
       refine a0 (k := i) aJ.out aC.size rfl rfl (by omega) (by omega) (by decide) ?_
       refine cb (vs := [_, _, _, _]) aC.out rfl ((hr.ext hh.below).recAt TR.len hx) rfl (by decide) ?_
       refine cj hh ?_
       intro b4 w4 hh
       refine aI ?_
       refine bK hh 0 [_,_,_,_] ?_
       intro ws hh
       replace hh : Hp _ (.blk _ _ [_, _, _, _] _ :: _) _ := hh
       refine aa (ai ?_)
       refine dw [] [] [0, 1, 0, 4, 15, 31, 63, 127, 255, 511, 1023, 2047, 4095, 8191, 16383, 32767, 8191, 73727, 262143, 524287, 1048575, 2097151, 4194303, 8388607, 16777215, 33554431, 16777215, 83886079, 268435455, 536870911, 1073741823, 16777215, 2164260863, 8589934591, 17179869183, 34359738367] 33 [[(4, none)], [(21, some 0)], [(1, none)], [(23, some 2)], [(22, some 1), (24, some 3)], [(25, some 4)], [(26, some 5)], [(4, none), (27, some 6)], [(28, some 7), (27, some 6)], [(29, some 8), (27, some 6)], [(30, some 9), (27, some 6)], [(27, some 6), (31, some 10)], [(32, some 11)], [(4, none), (33, some 12)], [(34, some 13), (33, some 12)], [(35, some 14), (33, some 12)], [(4, none), (33, some 12)], [(37, some 16), (33, some 12)], [(36, some 15), (38, some 17), (33, some 12)], [(33, some 12), (39, some 18)], [(40, some 19)], [(3, none), (41, some 20)], [(42, some 21), (41, some 20)], [(43, some 22), (41, some 20)], [(1, none), (44, some 23)], [(45, some 24), (44, some 23)], [(3, none), (44, some 23)], [(47, some 26), (44, some 23)], [(46, some 25), (48, some 27), (44, some 23)], [(49, some 28), (44, some 23)], [(50, some 29), (44, some 23)], [(4, none), (44, some 23)], [(52, some 31), (44, some 23)]] [(32, 53), (31, 52), (30, 51), (29, 50), (28, 49), (27, 48), (26, 47), (25, 46), (24, 45), (23, 44), (22, 43), (21, 42), (20, 41), (19, 40), (18, 39), (17, 38), (16, 37), (15, 36), (14, 35), (13, 34), (12, 33), (11, 32), (10, 31), (9, 30), (8, 29), (7, 28), (6, 27), (5, 26), (4, 25), (3, 24), (2, 23), (1, 22), (0, 21)] hh mixed (by kernel_rfl) dZ rfl (by repeat (first | exact bS | refine bG ?_ | refine bT ?_)) ?_
       refine dN ?_
       refine fC 0 ?_
       refine dN ?_
       refine fC 1 ?_
       refine dC (fun _ hj => hmay _) ?_
       refine uT ?_
       refine jJ ?_
       first | refine dS ?_ | refine dU ?_ | refine dG (dN ?_)
       first | refine dS ?_ | refine dU ?_ | refine dG (gj 0 [_,_,_] ?_)
       refine bR (i := 9) rfl (fun ρ1 w1 hj hR => (show ρ1 27 = Value.bool _ from hR.2.1)) (fun ρ1 w1 hj hR => bh ar.out (aF (show ρ1 29 = Value.agg (List.toArray _) from hR.1) bj)) (fun w1 hj => hsg _) ?_
       first | refine dS ?_ | refine dU ?_ | refine dG (lM ?_)
       first | refine ov ?_ | refine n6 ?_
       refine jJ ?_
       first | refine dS ?_ | refine dU ?_ | refine dG (dN ?_)
       first | refine dS ?_ | refine dU ?_ | refine dG (gj 0 [_,_,_] ?_)
       first | refine dS ?_ | refine dU ?_
       first | refine dS ?_ | refine dU ?_ | refine dG (dN ?_)
       first | refine dS ?_ | refine dU ?_ | refine dG (gj 0 [_,_,_] ?_)
       first | refine fK (i := 18) rfl (fun ρ1 w1 hj hR => (show ρ1 33 = Value.bool _ from hR.2.2.1)) (by decide) ?_ | refine eL (i := 18) rfl (fun ρ1 w1 hj hR => (show ρ1 33 = undef from hR.2.2.1)) ?_ | refine dW (i := 18) rfl (fun ρ1 w1 hj hR => (show ρ1 33 = Value.bool _ from hR.2.2.1)) (fun ρ1 w1 hj hR => jS (show ρ1 36 = Value.agg (List.toArray _) from hR.1) (show ρ1 38 = Value.agg (List.toArray _) from hR.2.1) (by first | assumption | rfl)) ?_ | refine dW (i := 18) rfl (fun ρ1 w1 hj hR => (show ρ1 33 = Value.bool _ from hR.2.2.1)) (fun ρ1 w1 hj hR => jG (show ρ1 36 = Value.agg (List.toArray _) from hR.1) (show ρ1 38 = Value.agg (List.toArray _) from hR.2.1) (by assumption)) ?_
       first | refine ov ?_ | refine n6 ?_
       refine jJ ?_
       first | refine dS ?_ | refine dU ?_ | refine dG (fe ?_)
       first | refine dS ?_ | refine dU ?_ | refine dG (u9 ?_)
       first | refine dS ?_ | refine dU ?_ | refine dG (jJ ?_)
       first | refine dS ?_ | refine dU ?_ | refine dG (dN ?_)
       first | refine dS ?_ | refine dU ?_ | refine dG (fC 1 ?_)
       first | refine dS ?_ | refine dU ?_ | refine dG (fe ?_)
       first | refine dS ?_ | refine dU ?_ | refine dG (n8 ?_)
       first | refine fK (i := 28) rfl (fun ρ1 w1 hj hR => (show ρ1 44 = Value.bool _ from hR.2.2.1)) (by decide) ?_ | refine eL (i := 28) rfl (fun ρ1 w1 hj hR => (show ρ1 44 = undef from hR.2.2.1)) ?_ | refine dW (i := 28) rfl (fun ρ1 w1 hj hR => (show ρ1 44 = Value.bool _ from hR.2.2.1)) (fun ρ1 w1 hj hR => eC aJ.out aC.size (show ρ1 46 = Value.slice _ _ _ from hR.1) (show ρ1 48 = Value.int _ _ from hR.2.1) rfl (by omega)) ?_
       first | refine dS ?_ | refine dU ?_ | refine dG (xp ?_)
       first | refine dS ?_ | refine dU ?_ | refine dG (lf (fun _ hj => hT) ?_)
       first | refine dS ?_ | refine dU ?_ | refine dG (dN ?_)
       first | refine dS ?_ | refine dU ?_ | refine dG (fC 0 ?_)
       refine bo ?_
       intro f W hJ hV _
       have hb_8 := hJ.bl
       obtain ⟨v53, v52, v51, v50, v49, v48, v47, v46, v45, v44, v43, v42, v41, v40, v39, v38, v37, v36, v35, v34, v33, v32, v31, v30, v29, v28, v27, v26, v25, v24, v23, v22, v21, _⟩ := hV
       replace hh := hJ.hp
       refine a7 (bu (ah v53 (ah v52 (ah v51 (ah v50 (ah v49 (ah v48 (ah v47 (ah v46 (ah v45 (ah v44 (ah v43 (ah v42 (ah v41 (ah v40 (ah v39 (ah v38 (ah v37 (ah v36 (ah v35 (ah v34 (ah v33 (ah v32 (ah v31 (ah v30 (ah v29 (ah v28 (ah v27 (ah v26 (ah v25 (ah v24 (ah v23 (ah v22 (ah v21 a6)))))))))))))))))))))))))))))))))) ?_
       dsimp only [cJ]
       clear hJ
       first | refine gS ?_ | (refine gT ?_; refine gp rfl rfl (by decide) ?_) | refine gV ?_
       first | refine gS ?_ | (refine gT ?_; (first | refine ct ?_ | refine cq ?_)) | refine gV ?_
       first | refine ct ?_ | refine cq ?_
       refine aa (cT (sr (aI (aa (ao (bU (aM (aM (bU (aM ?_))))))))))
       refine cd ?_
       exact ⟨rfl, hh.below⟩
      ·have hs : ¬ x.c.i.sign = 0 := fun h => hz (hzz.1 h)
       by_cases hnf : nR x.c.d = x.c
       ·have hgood : j0 v x = true := by unfold j0 qt; rw [hm, decide_eq_false hz, (mz x.c).2 hnf]; rfl
        have hall2 : (ts.take (i + 1)).all (j0 v) = true := by rw [aW hx, List.all_append, hall]; simp [hgood]
        by_cases h0 : i = 0
        ·refine sr ?_
         refine aZ (aa (ai (cT (al (aj (ai (aq (sr (mI ?_)))))))))
         refine a0 (k := i) aJ.out aC.size rfl rfl (by omega) (by omega) (by decide) ?_
         refine cb (vs := [_, _, _, _]) aC.out rfl ((hr.ext hh.below).recAt TR.len hx) rfl (by decide) ?_
         refine cj hh ?_
         intro b4 w4 hh
         refine aI ?_
         refine bK hh 0 [_,_,_,_] ?_
         intro ws hh
         replace hh : Hp _ (.blk _ _ [_, _, _, _] _ :: _) _ := hh
         refine aa (ai ?_)
         refine dw [] [] [0, 1, 0, 4, 15, 31, 63, 127, 255, 511, 1023, 2047, 4095, 8191, 16383, 32767, 8191, 73727, 262143, 524287, 1048575, 2097151, 4194303, 8388607, 16777215, 33554431, 16777215, 83886079, 268435455, 536870911, 1073741823, 16777215, 2164260863, 8589934591, 17179869183, 34359738367] 33 [[(4, none)], [(21, some 0)], [(1, none)], [(23, some 2)], [(22, some 1), (24, some 3)], [(25, some 4)], [(26, some 5)], [(4, none), (27, some 6)], [(28, some 7), (27, some 6)], [(29, some 8), (27, some 6)], [(30, some 9), (27, some 6)], [(27, some 6), (31, some 10)], [(32, some 11)], [(4, none), (33, some 12)], [(34, some 13), (33, some 12)], [(35, some 14), (33, some 12)], [(4, none), (33, some 12)], [(37, some 16), (33, some 12)], [(36, some 15), (38, some 17), (33, some 12)], [(33, some 12), (39, some 18)], [(40, some 19)], [(3, none), (41, some 20)], [(42, some 21), (41, some 20)], [(43, some 22), (41, some 20)], [(1, none), (44, some 23)], [(45, some 24), (44, some 23)], [(3, none), (44, some 23)], [(47, some 26), (44, some 23)], [(46, some 25), (48, some 27), (44, some 23)], [(49, some 28), (44, some 23)], [(50, some 29), (44, some 23)], [(4, none), (44, some 23)], [(52, some 31), (44, some 23)]] [(32, 53), (31, 52), (30, 51), (29, 50), (28, 49), (27, 48), (26, 47), (25, 46), (24, 45), (23, 44), (22, 43), (21, 42), (20, 41), (19, 40), (18, 39), (17, 38), (16, 37), (15, 36), (14, 35), (13, 34), (12, 33), (11, 32), (10, 31), (9, 30), (8, 29), (7, 28), (6, 27), (5, 26), (4, 25), (3, 24), (2, 23), (1, 22), (0, 21)] hh mixed (by kernel_rfl) dZ rfl (by repeat (first | exact bS | refine bG ?_ | refine bT ?_)) ?_
         refine dN ?_
         refine fC 0 ?_
         refine dN ?_
         refine fC 1 ?_
         refine dC (fun _ hj => hmay _) ?_
         refine uT ?_
         refine jJ ?_
         first | refine dS ?_ | refine dU ?_ | refine dG (dN ?_)
         first | refine dS ?_ | refine dU ?_ | refine dG (gj 0 [_,_,_] ?_)
         refine bR (i := 9) rfl (fun ρ1 w1 hj hR => (show ρ1 27 = Value.bool _ from hR.2.1)) (fun ρ1 w1 hj hR => bh ar.out (aF (show ρ1 29 = Value.agg (List.toArray _) from hR.1) bj)) (fun w1 hj => hsg _) ?_
         first | refine dS ?_ | refine dU ?_ | refine dG (lM ?_)
         first | refine ov ?_ | refine n6 ?_
         refine jJ ?_
         first | refine dS ?_ | refine dU ?_ | refine dG (dN ?_)
         first | refine dS ?_ | refine dU ?_ | refine dG (gj 0 [_,_,_] ?_)
         refine bR (i := 15) rfl (fun ρ1 w1 hj hR => (show ρ1 33 = Value.bool _ from hR.2.1)) (fun ρ1 w1 hj hR => bh ar.out (aF (show ρ1 35 = Value.agg (List.toArray _) from hR.1) bj)) (fun w1 hj => hfo _ (hT.hp hj.hp)) ?_
         first | refine dS ?_ | refine dU ?_ | refine dG (dN ?_)
         first | refine dS ?_ | refine dU ?_ | refine dG (gj 0 [_,_,_] ?_)
         first | refine fK (i := 18) rfl (fun ρ1 w1 hj hR => (show ρ1 33 = Value.bool _ from hR.2.2.1)) (by decide) ?_ | refine eL (i := 18) rfl (fun ρ1 w1 hj hR => (show ρ1 33 = undef from hR.2.2.1)) ?_ | refine dW (i := 18) rfl (fun ρ1 w1 hj hR => (show ρ1 33 = Value.bool _ from hR.2.2.1)) (fun ρ1 w1 hj hR => jS (show ρ1 36 = Value.agg (List.toArray _) from hR.1) (show ρ1 38 = Value.agg (List.toArray _) from hR.2.1) (by first | assumption | rfl)) ?_ | refine dW (i := 18) rfl (fun ρ1 w1 hj hR => (show ρ1 33 = Value.bool _ from hR.2.2.1)) (fun ρ1 w1 hj hR => jG (show ρ1 36 = Value.agg (List.toArray _) from hR.1) (show ρ1 38 = Value.agg (List.toArray _) from hR.2.1) (by assumption)) ?_
         first | refine ov ?_ | refine n6 ?_
         refine jJ ?_
         first | refine dS ?_ | refine dU ?_ | refine dG (fe ?_)
         first | refine dS ?_ | refine dU ?_ | refine dG (u9 ?_)
         first | refine dS ?_ | refine dU ?_ | refine dG (jJ ?_)
         first | refine dS ?_ | refine dU ?_ | refine dG (dN ?_)
         first | refine dS ?_ | refine dU ?_ | refine dG (fC 1 ?_)
         first | refine dS ?_ | refine dU ?_ | refine dG (fe ?_)
         first | refine dS ?_ | refine dU ?_ | refine dG (n8 ?_)
         first | refine fK (i := 28) rfl (fun ρ1 w1 hj hR => (show ρ1 44 = Value.bool _ from hR.2.2.1)) (by decide) ?_ | refine eL (i := 28) rfl (fun ρ1 w1 hj hR => (show ρ1 44 = undef from hR.2.2.1)) ?_ | refine dW (i := 28) rfl (fun ρ1 w1 hj hR => (show ρ1 44 = Value.bool _ from hR.2.2.1)) (fun ρ1 w1 hj hR => eC aJ.out aC.size (show ρ1 46 = Value.slice _ _ _ from hR.1) (show ρ1 48 = Value.int _ _ from hR.2.1) rfl (by omega)) ?_
         first | refine dS ?_ | refine dU ?_ | refine dG (xp ?_)
         first | refine dS ?_ | refine dU ?_ | refine dG (lf (fun _ hj => hT) ?_)
         first | refine dS ?_ | refine dU ?_ | refine dG (dN ?_)
         first | refine dS ?_ | refine dU ?_ | refine dG (fC 0 ?_)
         refine bo ?_
         intro f W hJ hV _
         have hb_8 := hJ.bl
         obtain ⟨v53, v52, v51, v50, v49, v48, v47, v46, v45, v44, v43, v42, v41, v40, v39, v38, v37, v36, v35, v34, v33, v32, v31, v30, v29, v28, v27, v26, v25, v24, v23, v22, v21, _⟩ := hV
         replace hh := hJ.hp
         refine a7 (bu (ah v53 (ah v52 (ah v51 (ah v50 (ah v49 (ah v48 (ah v47 (ah v46 (ah v45 (ah v44 (ah v43 (ah v42 (ah v41 (ah v40 (ah v39 (ah v38 (ah v37 (ah v36 (ah v35 (ah v34 (ah v33 (ah v32 (ah v31 (ah v30 (ah v29 (ah v28 (ah v27 (ah v26 (ah v25 (ah v24 (ah v23 (ah v22 (ah v21 a6)))))))))))))))))))))))))))))))))) ?_
         dsimp only [cJ]
         clear hJ
         first | refine gS ?_ | (refine gT ?_; refine gp rfl rfl (by decide) ?_) | refine gV ?_
         first | refine gS ?_ | (refine gT ?_; (first | refine ct ?_ | refine cq ?_)) | refine gV ?_
         first | refine ct ?_ | refine cq ?_
         refine aa (cF (al (a3 (aj (au ?_)))))
         refine bO (mI (aK (aj ?_)))
         replace hh := hh.sub (List.Sublist.cons _ (List.Sublist.cons_cons _ List.Sublist.slnil))
         refine ⟨⟨i + 1, by omega, rfl, hall2, by rw [aW hx, h0]; rfl, hh⟩, by show n - (i + 1) < n - i; omega, ?_⟩
         (repeat (first | exact aA _ _ _ | refine aE rfl ?_ | refine ax rfl ?_))
        ·obtain ⟨q, hq⟩ : ∃ q, i = q + 1 := ⟨i - 1, by omega⟩
         obtain ⟨p, hp⟩ := aR (l := ts) (k := q) (by omega)
         cases hlp : fS p.m x.m with
         | false =>
          rw [hbad (vE hp (hq ▸ hx) hlp)]
          have hge : (!(Op.bytesLess p.m.toList x.m.toList)) = true := by rw [kJ, hlp]; rfl
          refine sr ?_
          refine aZ (aa (ai (cT (al (aj (ai (aq (sr (mI ?_)))))))))
          refine a0 (k := i) aJ.out aC.size rfl rfl (by omega) (by omega) (by decide) ?_
          refine cb (vs := [_, _, _, _]) aC.out rfl ((hr.ext hh.below).recAt TR.len hx) rfl (by decide) ?_
          refine cj hh ?_
          intro b4 w4 hh
          refine aI ?_
          refine bK hh 0 [_,_,_,_] ?_
          intro ws hh
          replace hh : Hp _ (.blk _ _ [_, _, _, _] _ :: _) _ := hh
          refine aa (ai ?_)
          refine dw [] [] [0, 1, 0, 4, 15, 31, 63, 127, 255, 511, 1023, 2047, 4095, 8191, 16383, 32767, 8191, 73727, 262143, 524287, 1048575, 2097151, 4194303, 8388607, 16777215, 33554431, 16777215, 83886079, 268435455, 536870911, 1073741823, 16777215, 2164260863, 8589934591, 17179869183, 34359738367] 33 [[(4, none)], [(21, some 0)], [(1, none)], [(23, some 2)], [(22, some 1), (24, some 3)], [(25, some 4)], [(26, some 5)], [(4, none), (27, some 6)], [(28, some 7), (27, some 6)], [(29, some 8), (27, some 6)], [(30, some 9), (27, some 6)], [(27, some 6), (31, some 10)], [(32, some 11)], [(4, none), (33, some 12)], [(34, some 13), (33, some 12)], [(35, some 14), (33, some 12)], [(4, none), (33, some 12)], [(37, some 16), (33, some 12)], [(36, some 15), (38, some 17), (33, some 12)], [(33, some 12), (39, some 18)], [(40, some 19)], [(3, none), (41, some 20)], [(42, some 21), (41, some 20)], [(43, some 22), (41, some 20)], [(1, none), (44, some 23)], [(45, some 24), (44, some 23)], [(3, none), (44, some 23)], [(47, some 26), (44, some 23)], [(46, some 25), (48, some 27), (44, some 23)], [(49, some 28), (44, some 23)], [(50, some 29), (44, some 23)], [(4, none), (44, some 23)], [(52, some 31), (44, some 23)]] [(32, 53), (31, 52), (30, 51), (29, 50), (28, 49), (27, 48), (26, 47), (25, 46), (24, 45), (23, 44), (22, 43), (21, 42), (20, 41), (19, 40), (18, 39), (17, 38), (16, 37), (15, 36), (14, 35), (13, 34), (12, 33), (11, 32), (10, 31), (9, 30), (8, 29), (7, 28), (6, 27), (5, 26), (4, 25), (3, 24), (2, 23), (1, 22), (0, 21)] hh mixed (by kernel_rfl) dZ rfl (by repeat (first | exact bS | refine bG ?_ | refine bT ?_)) ?_
          refine dN ?_
          refine fC 0 ?_
          refine dN ?_
          refine fC 1 ?_
          refine dC (fun _ hj => hmay _) ?_
          refine uT ?_
          refine jJ ?_
          first | refine dS ?_ | refine dU ?_ | refine dG (dN ?_)
          first | refine dS ?_ | refine dU ?_ | refine dG (gj 0 [_,_,_] ?_)
          refine bR (i := 9) rfl (fun ρ1 w1 hj hR => (show ρ1 27 = Value.bool _ from hR.2.1)) (fun ρ1 w1 hj hR => bh ar.out (aF (show ρ1 29 = Value.agg (List.toArray _) from hR.1) bj)) (fun w1 hj => hsg _) ?_
          first | refine dS ?_ | refine dU ?_ | refine dG (lM ?_)
          first | refine ov ?_ | refine n6 ?_
          refine jJ ?_
          first | refine dS ?_ | refine dU ?_ | refine dG (dN ?_)
          first | refine dS ?_ | refine dU ?_ | refine dG (gj 0 [_,_,_] ?_)
          refine bR (i := 15) rfl (fun ρ1 w1 hj hR => (show ρ1 33 = Value.bool _ from hR.2.1)) (fun ρ1 w1 hj hR => bh ar.out (aF (show ρ1 35 = Value.agg (List.toArray _) from hR.1) bj)) (fun w1 hj => hfo _ (hT.hp hj.hp)) ?_
          first | refine dS ?_ | refine dU ?_ | refine dG (dN ?_)
          first | refine dS ?_ | refine dU ?_ | refine dG (gj 0 [_,_,_] ?_)
          first | refine fK (i := 18) rfl (fun ρ1 w1 hj hR => (show ρ1 33 = Value.bool _ from hR.2.2.1)) (by decide) ?_ | refine eL (i := 18) rfl (fun ρ1 w1 hj hR => (show ρ1 33 = undef from hR.2.2.1)) ?_ | refine dW (i := 18) rfl (fun ρ1 w1 hj hR => (show ρ1 33 = Value.bool _ from hR.2.2.1)) (fun ρ1 w1 hj hR => jS (show ρ1 36 = Value.agg (List.toArray _) from hR.1) (show ρ1 38 = Value.agg (List.toArray _) from hR.2.1) (by first | assumption | rfl)) ?_ | refine dW (i := 18) rfl (fun ρ1 w1 hj hR => (show ρ1 33 = Value.bool _ from hR.2.2.1)) (fun ρ1 w1 hj hR => jG (show ρ1 36 = Value.agg (List.toArray _) from hR.1) (show ρ1 38 = Value.agg (List.toArray _) from hR.2.1) (by assumption)) ?_
          first | refine ov ?_ | refine n6 ?_
          refine jJ ?_
          first | refine dS ?_ | refine dU ?_ | refine dG (fe ?_)
          first | refine dS ?_ | refine dU ?_ | refine dG (u9 ?_)
          first | refine dS ?_ | refine dU ?_ | refine dG (jJ ?_)
          first | refine dS ?_ | refine dU ?_ | refine dG (dN ?_)
          first | refine dS ?_ | refine dU ?_ | refine dG (fC 1 ?_)
          first | refine dS ?_ | refine dU ?_ | refine dG (fe ?_)
          first | refine dS ?_ | refine dU ?_ | refine dG (n8 ?_)
          first | refine dS ?_ | refine dU ?_ | refine dG (lY (q) ?_)
          first | refine dS ?_ | refine dU ?_ | refine dG (xp ?_)
          first | refine dS ?_ | refine dU ?_ | refine dG (lf (fun _ hj => ((hr.ext hj.hp.below).recAt TR.len hp).cell (i := 0) rfl) ?_)
          first | refine dS ?_ | refine dU ?_ | refine dG (dN ?_)
          first | refine dS ?_ | refine dU ?_ | refine dG (fC 0 ?_)
          refine bo ?_
          intro f W hJ hV _
          have hb_8 := hJ.bl
          obtain ⟨v53, v52, v51, v50, v49, v48, v47, v46, v45, v44, v43, v42, v41, v40, v39, v38, v37, v36, v35, v34, v33, v32, v31, v30, v29, v28, v27, v26, v25, v24, v23, v22, v21, _⟩ := hV
          replace hh := hJ.hp
          refine a7 (bu (ah v53 (ah v52 (ah v51 (ah v50 (ah v49 (ah v48 (ah v47 (ah v46 (ah v45 (ah v44 (ah v43 (ah v42 (ah v41 (ah v40 (ah v39 (ah v38 (ah v37 (ah v36 (ah v35 (ah v34 (ah v33 (ah v32 (ah v31 (ah v30 (ah v29 (ah v28 (ah v27 (ah v26 (ah v25 (ah v24 (ah v23 (ah v22 (ah v21 a6)))))))))))))))))))))))))))))))))) ?_
          dsimp only [cJ]
          clear hJ
          first | refine gS ?_ | (refine gT ?_; refine gp rfl rfl (by decide) ?_) | refine gV ?_
          first | refine gS ?_ | (refine gT ?_; (first | refine ct ?_ | refine cq ?_)) | refine gV ?_
          first | refine ct ?_ | refine cq ?_
          refine aa ?_
          rw [hge]
          refine cT (sr (aI (aa (ao (bU (aM (aM (bU (aM ?_)))))))))
          refine cd ?_
          exact ⟨rfl, hh.below⟩
         | true =>
          have hge : (!(Op.bytesLess p.m.toList x.m.toList)) = false := by rw [kJ, hlp]; rfl
          refine sr ?_
          refine aZ (aa (ai (cT (al (aj (ai (aq (sr (mI ?_)))))))))
          refine a0 (k := i) aJ.out aC.size rfl rfl (by omega) (by omega) (by decide) ?_
          refine cb (vs := [_, _, _, _]) aC.out rfl ((hr.ext hh.below).recAt TR.len hx) rfl (by decide) ?_
          refine cj hh ?_
          intro b4 w4 hh
          refine aI ?_
          refine bK hh 0 [_,_,_,_] ?_
          intro ws hh
          replace hh : Hp _ (.blk _ _ [_, _, _, _] _ :: _) _ := hh
          refine aa (ai ?_)
          refine dw [] [] [0, 1, 0, 4, 15, 31, 63, 127, 255, 511, 1023, 2047, 4095, 8191, 16383, 32767, 8191, 73727, 262143, 524287, 1048575, 2097151, 4194303, 8388607, 16777215, 33554431, 16777215, 83886079, 268435455, 536870911, 1073741823, 16777215, 2164260863, 8589934591, 17179869183, 34359738367] 33 [[(4, none)], [(21, some 0)], [(1, none)], [(23, some 2)], [(22, some 1), (24, some 3)], [(25, some 4)], [(26, some 5)], [(4, none), (27, some 6)], [(28, some 7), (27, some 6)], [(29, some 8), (27, some 6)], [(30, some 9), (27, some 6)], [(27, some 6), (31, some 10)], [(32, some 11)], [(4, none), (33, some 12)], [(34, some 13), (33, some 12)], [(35, some 14), (33, some 12)], [(4, none), (33, some 12)], [(37, some 16), (33, some 12)], [(36, some 15), (38, some 17), (33, some 12)], [(33, some 12), (39, some 18)], [(40, some 19)], [(3, none), (41, some 20)], [(42, some 21), (41, some 20)], [(43, some 22), (41, some 20)], [(1, none), (44, some 23)], [(45, some 24), (44, some 23)], [(3, none), (44, some 23)], [(47, some 26), (44, some 23)], [(46, some 25), (48, some 27), (44, some 23)], [(49, some 28), (44, some 23)], [(50, some 29), (44, some 23)], [(4, none), (44, some 23)], [(52, some 31), (44, some 23)]] [(32, 53), (31, 52), (30, 51), (29, 50), (28, 49), (27, 48), (26, 47), (25, 46), (24, 45), (23, 44), (22, 43), (21, 42), (20, 41), (19, 40), (18, 39), (17, 38), (16, 37), (15, 36), (14, 35), (13, 34), (12, 33), (11, 32), (10, 31), (9, 30), (8, 29), (7, 28), (6, 27), (5, 26), (4, 25), (3, 24), (2, 23), (1, 22), (0, 21)] hh mixed (by kernel_rfl) dZ rfl (by repeat (first | exact bS | refine bG ?_ | refine bT ?_)) ?_
          refine dN ?_
          refine fC 0 ?_
          refine dN ?_
          refine fC 1 ?_
          refine dC (fun _ hj => hmay _) ?_
          refine uT ?_
          refine jJ ?_
          first | refine dS ?_ | refine dU ?_ | refine dG (dN ?_)
          first | refine dS ?_ | refine dU ?_ | refine dG (gj 0 [_,_,_] ?_)
          refine bR (i := 9) rfl (fun ρ1 w1 hj hR => (show ρ1 27 = Value.bool _ from hR.2.1)) (fun ρ1 w1 hj hR => bh ar.out (aF (show ρ1 29 = Value.agg (List.toArray _) from hR.1) bj)) (fun w1 hj => hsg _) ?_
          first | refine dS ?_ | refine dU ?_ | refine dG (lM ?_)
          first | refine ov ?_ | refine n6 ?_
          refine jJ ?_
          first | refine dS ?_ | refine dU ?_ | refine dG (dN ?_)
          first | refine dS ?_ | refine dU ?_ | refine dG (gj 0 [_,_,_] ?_)
          refine bR (i := 15) rfl (fun ρ1 w1 hj hR => (show ρ1 33 = Value.bool _ from hR.2.1)) (fun ρ1 w1 hj hR => bh ar.out (aF (show ρ1 35 = Value.agg (List.toArray _) from hR.1) bj)) (fun w1 hj => hfo _ (hT.hp hj.hp)) ?_
          first | refine dS ?_ | refine dU ?_ | refine dG (dN ?_)
          first | refine dS ?_ | refine dU ?_ | refine dG (gj 0 [_,_,_] ?_)
          first | refine fK (i := 18) rfl (fun ρ1 w1 hj hR => (show ρ1 33 = Value.bool _ from hR.2.2.1)) (by decide) ?_ | refine eL (i := 18) rfl (fun ρ1 w1 hj hR => (show ρ1 33 = undef from hR.2.2.1)) ?_ | refine dW (i := 18) rfl (fun ρ1 w1 hj hR => (show ρ1 33 = Value.bool _ from hR.2.2.1)) (fun ρ1 w1 hj hR => jS (show ρ1 36 = Value.agg (List.toArray _) from hR.1) (show ρ1 38 = Value.agg (List.toArray _) from hR.2.1) (by first | assumption | rfl)) ?_ | refine dW (i := 18) rfl (fun ρ1 w1 hj hR => (show ρ1 33 = Value.bool _ from hR.2.2.1)) (fun ρ1 w1 hj hR => jG (show ρ1 36 = Value.agg (List.toArray _) from hR.1) (show ρ1 38 = Value.agg (List.toArray _) from hR.2.1) (by assumption)) ?_
          first | refine ov ?_ | refine n6 ?_
          refine jJ ?_
          first | refine dS ?_ | refine dU ?_ | refine dG (fe ?_)
          first | refine dS ?_ | refine dU ?_ | refine dG (u9 ?_)
          first | refine dS ?_ | refine dU ?_ | refine dG (jJ ?_)
          first | refine dS ?_ | refine dU ?_ | refine dG (dN ?_)
          first | refine dS ?_ | refine dU ?_ | refine dG (fC 1 ?_)
          first | refine dS ?_ | refine dU ?_ | refine dG (fe ?_)
          first | refine dS ?_ | refine dU ?_ | refine dG (n8 ?_)
          first | refine dS ?_ | refine dU ?_ | refine dG (lY (q) ?_)
          first | refine dS ?_ | refine dU ?_ | refine dG (xp ?_)
          first | refine dS ?_ | refine dU ?_ | refine dG (lf (fun _ hj => ((hr.ext hj.hp.below).recAt TR.len hp).cell (i := 0) rfl) ?_)
          first | refine dS ?_ | refine dU ?_ | refine dG (dN ?_)
          first | refine dS ?_ | refine dU ?_ | refine dG (fC 0 ?_)
          refine bo ?_
          intro f W hJ hV _
          have hb_8 := hJ.bl
          obtain ⟨v53, v52, v51, v50, v49, v48, v47, v46, v45, v44, v43, v42, v41, v40, v39, v38, v37, v36, v35, v34, v33, v32, v31, v30, v29, v28, v27, v26, v25, v24, v23, v22, v21, _⟩ := hV
          replace hh := hJ.hp
          refine a7 (bu (ah v53 (ah v52 (ah v51 (ah v50 (ah v49 (ah v48 (ah v47 (ah v46 (ah v45 (ah v44 (ah v43 (ah v42 (ah v41 (ah v40 (ah v39 (ah v38 (ah v37 (ah v36 (ah v35 (ah v34 (ah v33 (ah v32 (ah v31 (ah v30 (ah v29 (ah v28 (ah v27 (ah v26 (ah v25 (ah v24 (ah v23 (ah v22 (ah v21 a6)))))))))))))))))))))))))))))))))) ?_
          dsimp only [cJ]
          clear hJ
          first | refine gS ?_ | (refine gT ?_; refine gp rfl rfl (by decide) ?_) | refine gV ?_
          first | refine gS ?_ | (refine gT ?_; (first | refine ct ?_ | refine cq ?_)) | refine gV ?_
          first | refine ct ?_ | refine cq ?_
          refine aa ?_
          rw [hge]
          refine cF (al (a3 (aj (au ?_))))
          refine bO (mI (aK (aj ?_)))
          replace hh := hh.sub (List.Sublist.cons _ (List.Sublist.cons_cons _ List.Sublist.slnil))
          refine ⟨⟨i + 1, by omega, rfl, hall2, ?_, hh⟩, by show n - (i + 1) < n - i; omega, ?_⟩
          ·rw [hq, aW hp] at hris
           rw [aW hx, hq, aW hp, List.append_assoc]
           show ll (ts.take q ++ [p, x]) = true
           rw [oD, hris, hlp]
           rfl
          ·(repeat (first | exact aA _ _ _ | refine aE rfl ?_ | refine ax rfl ?_))
       ·rw [hbad (qf hx (by unfold j0 qt; rw [hm, decide_eq_false hz, Bool.eq_false_iff.2 (fun h => hnf ((mz x.c).1 h))]; rfl))]
        refine sr ?_
        refine aZ (aa (ai (cT (al (aj (ai (aq (sr (mI ?_)))))))))
        refine a0 (k := i) aJ.out aC.size rfl rfl (by omega) (by omega) (by decide) ?_
        refine cb (vs := [_, _, _, _]) aC.out rfl ((hr.ext hh.below).recAt TR.len hx) rfl (by decide) ?_
        refine cj hh ?_
        intro b4 w4 hh
        refine aI ?_
        refine bK hh 0 [_,_,_,_] ?_
        intro ws hh
        replace hh : Hp _ (.blk _ _ [_, _, _, _] _ :: _) _ := hh
        refine aa (ai ?_)
        refine dw [] [] [0, 1, 0, 4, 15, 31, 63, 127, 255, 511, 1023, 2047, 4095, 8191, 16383, 32767, 8191, 73727, 262143, 524287, 1048575, 2097151, 4194303, 8388607, 16777215, 33554431, 16777215, 83886079, 268435455, 536870911, 1073741823, 16777215, 2164260863, 8589934591, 17179869183, 34359738367] 33 [[(4, none)], [(21, some 0)], [(1, none)], [(23, some 2)], [(22, some 1), (24, some 3)], [(25, some 4)], [(26, some 5)], [(4, none), (27, some 6)], [(28, some 7), (27, some 6)], [(29, some 8), (27, some 6)], [(30, some 9), (27, some 6)], [(27, some 6), (31, some 10)], [(32, some 11)], [(4, none), (33, some 12)], [(34, some 13), (33, some 12)], [(35, some 14), (33, some 12)], [(4, none), (33, some 12)], [(37, some 16), (33, some 12)], [(36, some 15), (38, some 17), (33, some 12)], [(33, some 12), (39, some 18)], [(40, some 19)], [(3, none), (41, some 20)], [(42, some 21), (41, some 20)], [(43, some 22), (41, some 20)], [(1, none), (44, some 23)], [(45, some 24), (44, some 23)], [(3, none), (44, some 23)], [(47, some 26), (44, some 23)], [(46, some 25), (48, some 27), (44, some 23)], [(49, some 28), (44, some 23)], [(50, some 29), (44, some 23)], [(4, none), (44, some 23)], [(52, some 31), (44, some 23)]] [(32, 53), (31, 52), (30, 51), (29, 50), (28, 49), (27, 48), (26, 47), (25, 46), (24, 45), (23, 44), (22, 43), (21, 42), (20, 41), (19, 40), (18, 39), (17, 38), (16, 37), (15, 36), (14, 35), (13, 34), (12, 33), (11, 32), (10, 31), (9, 30), (8, 29), (7, 28), (6, 27), (5, 26), (4, 25), (3, 24), (2, 23), (1, 22), (0, 21)] hh mixed (by kernel_rfl) dZ rfl (by repeat (first | exact bS | refine bG ?_ | refine bT ?_)) ?_
        refine dN ?_
        refine fC 0 ?_
        refine dN ?_
        refine fC 1 ?_
        refine dC (fun _ hj => hmay _) ?_
        refine uT ?_
        refine jJ ?_
        first | refine dS ?_ | refine dU ?_ | refine dG (dN ?_)
        first | refine dS ?_ | refine dU ?_ | refine dG (gj 0 [_,_,_] ?_)
        refine bR (i := 9) rfl (fun ρ1 w1 hj hR => (show ρ1 27 = Value.bool _ from hR.2.1)) (fun ρ1 w1 hj hR => bh ar.out (aF (show ρ1 29 = Value.agg (List.toArray _) from hR.1) bj)) (fun w1 hj => hsg _) ?_
        first | refine dS ?_ | refine dU ?_ | refine dG (lM ?_)
        first | refine ov ?_ | refine n6 ?_
        refine jJ ?_
        first | refine dS ?_ | refine dU ?_ | refine dG (dN ?_)
        first | refine dS ?_ | refine dU ?_ | refine dG (gj 0 [_,_,_] ?_)
        refine bR (i := 15) rfl (fun ρ1 w1 hj hR => (show ρ1 33 = Value.bool _ from hR.2.1)) (fun ρ1 w1 hj hR => bh ar.out (aF (show ρ1 35 = Value.agg (List.toArray _) from hR.1) bj)) (fun w1 hj => hfo _ (hT.hp hj.hp)) ?_
        first | refine dS ?_ | refine dU ?_ | refine dG (dN ?_)
        first | refine dS ?_ | refine dU ?_ | refine dG (gj 0 [_,_,_] ?_)
        first | refine fK (i := 18) rfl (fun ρ1 w1 hj hR => (show ρ1 33 = Value.bool _ from hR.2.2.1)) (by decide) ?_ | refine eL (i := 18) rfl (fun ρ1 w1 hj hR => (show ρ1 33 = undef from hR.2.2.1)) ?_ | refine dW (i := 18) rfl (fun ρ1 w1 hj hR => (show ρ1 33 = Value.bool _ from hR.2.2.1)) (fun ρ1 w1 hj hR => jS (show ρ1 36 = Value.agg (List.toArray _) from hR.1) (show ρ1 38 = Value.agg (List.toArray _) from hR.2.1) (by first | assumption | rfl)) ?_ | refine dW (i := 18) rfl (fun ρ1 w1 hj hR => (show ρ1 33 = Value.bool _ from hR.2.2.1)) (fun ρ1 w1 hj hR => jG (show ρ1 36 = Value.agg (List.toArray _) from hR.1) (show ρ1 38 = Value.agg (List.toArray _) from hR.2.1) (by assumption)) ?_
        first | refine ov ?_ | refine n6 ?_
        refine jJ ?_
        first | refine dS ?_ | refine dU ?_ | refine dG (fe ?_)
        first | refine dS ?_ | refine dU ?_ | refine dG (u9 ?_)
        first | refine dS ?_ | refine dU ?_ | refine dG (jJ ?_)
        first | refine dS ?_ | refine dU ?_ | refine dG (dN ?_)
        first | refine dS ?_ | refine dU ?_ | refine dG (fC 1 ?_)
        first | refine dS ?_ | refine dU ?_ | refine dG (fe ?_)
        first | refine dS ?_ | refine dU ?_ | refine dG (n8 ?_)
        first | refine fK (i := 28) rfl (fun ρ1 w1 hj hR => (show ρ1 44 = Value.bool _ from hR.2.2.1)) (by decide) ?_ | refine eL (i := 28) rfl (fun ρ1 w1 hj hR => (show ρ1 44 = undef from hR.2.2.1)) ?_ | refine dW (i := 28) rfl (fun ρ1 w1 hj hR => (show ρ1 44 = Value.bool _ from hR.2.2.1)) (fun ρ1 w1 hj hR => eC aJ.out aC.size (show ρ1 46 = Value.slice _ _ _ from hR.1) (show ρ1 48 = Value.int _ _ from hR.2.1) rfl (by omega)) ?_
        first | refine dS ?_ | refine dU ?_ | refine dG (xp ?_)
        first | refine dS ?_ | refine dU ?_ | refine dG (lf (fun _ hj => hT) ?_)
        first | refine dS ?_ | refine dU ?_ | refine dG (dN ?_)
        first | refine dS ?_ | refine dU ?_ | refine dG (fC 0 ?_)
        refine bo ?_
        intro f W hJ hV _
        have hb_8 := hJ.bl
        obtain ⟨v53, v52, v51, v50, v49, v48, v47, v46, v45, v44, v43, v42, v41, v40, v39, v38, v37, v36, v35, v34, v33, v32, v31, v30, v29, v28, v27, v26, v25, v24, v23, v22, v21, _⟩ := hV
        replace hh := hJ.hp
        refine a7 (bu (ah v53 (ah v52 (ah v51 (ah v50 (ah v49 (ah v48 (ah v47 (ah v46 (ah v45 (ah v44 (ah v43 (ah v42 (ah v41 (ah v40 (ah v39 (ah v38 (ah v37 (ah v36 (ah v35 (ah v34 (ah v33 (ah v32 (ah v31 (ah v30 (ah v29 (ah v28 (ah v27 (ah v26 (ah v25 (ah v24 (ah v23 (ah v22 (ah v21 a6)))))))))))))))))))))))))))))))))) ?_
        dsimp only [cJ]
        clear hJ
        first | refine gS ?_ | (refine gT ?_; refine gp rfl rfl (by decide) ?_) | refine gV ?_
        first | refine gS ?_ | (refine gT ?_; (first | refine ct ?_ | refine cq ?_)) | refine gV ?_
        first | refine ct ?_ | refine cq ?_
        refine aa (cT (sr (aI (aa (ao (bU (aM (aM (bU (aM ?_))))))))))
        refine cd ?_
        exact ⟨rfl, hh.below⟩
    ·rw [List.take_of_length_le (by omega)] at hall hris
     rw [show gC v ts = 0 by unfold gC okB; rw [if_neg (by rw [hf]; decide), if_neg (by omega), hall, hris]; rfl]
     refine sr ?_
     refine aZ (aa (ai (cF ?_)))
     refine a4 ?_
     refine aD (aD (bp (aj (sr (aI (aa (ao ?_)))))))
     refine cd ?_
     exact ⟨rfl, hh.below⟩
end Go.Proofs.YtkgdagjklakajaaGreatDoor
/- The walks through poly.Make. -/
namespace Go.Proofs.YtkgdagjklakajaaGreatDoor
open Go.RowKit
def eW (v : Int) (t : TR) : Bool := dJ t.m.data.toList && decide ((t.m.size : Int) = v)
theorem qu (z : TR) (v : Int) (b : Nat) (w : World) (hp : w.cell? ⟨b, 0, none⟩ = some (.int .i64 v)) (hz : z.m.size ≤ 100000) : Calls Tryz.prog 91 #[.agg #[.string z.m, .bool z.c.neg, .string z.c.cC, .int .i64 z.c.e], .pointer (some ⟨b, 0, none⟩)] w fun r w' => r = .returned (.bool (!eW v z)) ∧ Below w.heap.size w w' := by
 have hh := Hp.start w
 have hmay := fun w1 => iI z.m v w1 (by omega)
 unfold eW
 refine ak (N := 9) (l := [.agg #[.string z.m, .bool z.c.neg, .string z.c.cC, .int .i64 z.c.e], .pointer (some ⟨b, 0, none⟩)]) Tryz.func91 rfl rfl (by simp) ?_
 refine sr ?_
 refine dp hh [_,_,_,_] ?_
 intro b2 w2 hh
 refine aB (aa (sr (bP ?_)))
 refine bQ hh 0 ?_
 refine bJ aC.out rfl (dA hh.below hp) (by decide) ?_
 refine bE hh (hmay _) rfl ?_
 intro w7 hh
 cases dJ z.m.data.toList && decide ((z.m.size : Int) = v) with
 | false =>
  refine eo ?_
  refine aB (aa (ao ?_))
  refine cd ?_
  exact ⟨rfl, hh.below⟩
 | true =>
  refine eo ?_
  refine aB (aa (ao ?_))
  refine cd ?_
  exact ⟨rfl, hh.below⟩
theorem n0 (A : Option Addr) (n c : Nat) (l : List TR) (v : Int) (b : Nat) (w : World) (hS : Sl w A n 4 (a8 TR.cells l)) (hn : n ≤ 1000000) (hp : w.cell? ⟨b, 0, none⟩ = some (.int .i64 v)) (hz : ∀ t ∈ l, t.m.size ≤ 100000) :
  Calls Tryz.prog 90 #[.slice A n c, .func (.func 91) #[] #[.pointer (some ⟨b, 0, none⟩)]] w fun r w' => r = .returned (.bool (l.any fun t => !eW v t)) ∧ Below w.heap.size w w' :=
 tf A n c l 91 [.pointer (some ⟨b, 0, none⟩)] (fun t => !eW v t) w hS hn fun z w1 hz2 hb => qu z v b w1 (dA hb hp) (hz z hz2)
def k9 (v : Int) (l : List TR) : Int := if gh v = false ∨ (l.any fun t => !eW v t) = true then 1 else if 65536 < l.length then 3 else gJ l
theorem jk (v : Int) (A : Option Addr) (n c : Nat) (l : List TR) (k : Nat) (w : World) (hT : gM w) (hS : Sl w A n 4 (a8 TR.cells l)) (hn : n ≤ 1000000) (hk : k ≤ 2999980) (ho : gi k l) (hz : ∀ t ∈ l, t.m.size ≤ 100000) :
  Calls Tryz.prog 18 #[.int .i64 v, .slice A n c] w fun r w' => ∃ g : PX, dm (k9 v l) v (aP l) g ∧ r = .returned (.tuple #[.agg #[.int .i64 g.v, .slice g.A g.n g.c], .int .i64 (k9 v l)]) ∧ Hp w [g.row] w' := by
 have hh := Hp.start w
 have hln := hS.ck TR.len (by decide)
 have hfw := fun w1 => jH v w1
 have han := fun b w1 hb hp => n0 A n c l v b w1 (hS.ext hb) hn hp hz
 cases hf : gh v with
 | false =>
  rw [hf] at hfw
  rw [show k9 v l = 1 by unfold k9; rw [if_pos (.inl hf)]]
  refine ak (N := 25) (l := [.int .i64 v, .slice A n c]) Tryz.func18 rfl rfl (by simp) ?_
  refine sr ?_
  refine dp hh [_] ?_
  intro b2 w2 hh
  refine cj hh ?_
  intro b4 w4 hh
  refine aI (aa (ai (sr ?_)))
  refine bQ hh 1 ?_
  refine bE hh (hfw _) rfl ?_
  intro w7 hh
  refine eo ?_
  refine mB ?_
  first | refine gS ?_ | (refine gT ?_; refine mL ?_) | refine gV ?_
  first | refine gS ?_ | (refine gT ?_; refine fi rfl (aF (km rfl) bj) (by decide) ?_) | refine gV ?_
  refine bH (by decide) rfl rfl (by decide) ?_
  first | refine ct ?_ | refine cq ?_
  refine aa (cT (sr ?_))
  refine eM [_,_] ?_
  refine bK hh 0 [_,_] ?_
  intro ws hh
  replace hh : Hp _ (.blk _ _ [_, _] _ :: _) _ := hh
  refine aI (aa (ao (aM ?_)))
  refine lB (aU rfl (aV (vs := [_, _]) aC.out (hh.aw (i := 0) (n := 2) rfl rfl) rfl) (cB (dq rfl) bg)) ?_
  exact ⟨PX.nil, dm.err (by decide), rfl, (hh.sub (List.nil_sublist _)).ja⟩
 | true =>
  rw [hf] at hfw
  cases ha : l.any fun t => !eW v t with
  | true =>
   rw [ha] at han
   rw [show k9 v l = 1 by unfold k9; rw [if_pos (.inr ha)]]
   refine ak (N := 25) (l := [.int .i64 v, .slice A n c]) Tryz.func18 rfl rfl (by simp) ?_
   refine sr ?_
   refine dp hh [_] ?_
   intro b2 w2 hh
   refine cj hh ?_
   intro b4 w4 hh
   refine aI (aa (ai (sr ?_)))
   refine bQ hh 1 ?_
   refine bE hh (hfw _) rfl ?_
   intro w7 hh
   refine eo ?_
   refine mB ?_
   first | refine gS ?_ | (refine gT ?_; refine mL ?_) | refine gV ?_
   first | refine gS ?_ | (refine gT ?_; refine fi rfl (aF (km rfl) bj) (by decide) ?_) | refine gV ?_
   refine aX rfl rfl ?_
   refine bE hh (han _ _ hh.below (hh.iH (i := 1) (o := 0) rfl rfl)) rfl ?_
   intro w12 hh
   first | refine ct ?_ | refine cq ?_
   refine aa (cT (sr ?_))
   refine eM [_,_] ?_
   refine bK hh 0 [_,_] ?_
   intro ws hh
   replace hh : Hp _ (.blk _ _ [_, _] _ :: _) _ := hh
   refine aI (aa (ao (aM ?_)))
   refine lB (aU rfl (aV (vs := [_, _]) aC.out (hh.aw (i := 0) (n := 2) rfl rfl) rfl) (cB (dq rfl) bg)) ?_
   exact ⟨PX.nil, dm.err (by decide), rfl, (hh.sub (List.nil_sublist _)).ja⟩
  | false =>
   rw [ha] at han
   have e1 : k9 v l = if 65536 < l.length then 3 else gJ l := by unfold k9; rw [if_neg (by rw [hf, ha]; decide)]
   by_cases h6 : 65536 < n
   ·rw [e1, if_pos (by omega)]
    refine ak (N := 25) (l := [.int .i64 v, .slice A n c]) Tryz.func18 rfl rfl (by simp) ?_
    refine sr ?_
    refine dp hh [_] ?_
    intro b2 w2 hh
    refine cj hh ?_
    intro b4 w4 hh
    refine aI (aa (ai (sr ?_)))
    refine bQ hh 1 ?_
    refine bE hh (hfw _) rfl ?_
    intro w7 hh
    refine eo ?_
    refine mB ?_
    first | refine gS ?_ | (refine gT ?_; refine mL ?_) | refine gV ?_
    first | refine gS ?_ | (refine gT ?_; refine fi rfl (aF (km rfl) bj) (by decide) ?_) | refine gV ?_
    refine aX rfl rfl ?_
    refine bE hh (han _ _ hh.below (hh.iH (i := 1) (o := 0) rfl rfl)) rfl ?_
    intro w12 hh
    first | refine ct ?_ | refine cq ?_
    refine aa (cF (al (aj (ai (sr (mL (a5 ?_)))))))
    refine cg (aa (cT (sr ?_)))
    refine eM [_,_] ?_
    refine bK hh 0 [_,_] ?_
    intro ws hh
    replace hh : Hp _ (.blk _ _ [_, _] _ :: _) _ := hh
    refine aI (aa (ao (aM ?_)))
    refine lB (aU rfl (aV (vs := [_, _]) aC.out (hh.aw (i := 0) (n := 2) rfl rfl) rfl) (cB (dq rfl) bg)) ?_
    exact ⟨PX.nil, dm.err (by decide), rfl, (hh.sub (List.nil_sublist _)).ja⟩
   ·rw [e1, if_neg (by omega)]
    refine ak (N := 25) (l := [.int .i64 v, .slice A n c]) Tryz.func18 rfl rfl (by simp) ?_
    refine sr ?_
    refine dp hh [_] ?_
    intro b2 w2 hh
    refine cj hh ?_
    intro b4 w4 hh
    refine aI (aa (ai (sr ?_)))
    refine bQ hh 1 ?_
    refine bE hh (hfw _) rfl ?_
    intro w7 hh
    refine eo ?_
    refine mB ?_
    first | refine gS ?_ | (refine gT ?_; refine mL ?_) | refine gV ?_
    first | refine gS ?_ | (refine gT ?_; refine fi rfl (aF (km rfl) bj) (by decide) ?_) | refine gV ?_
    refine aX rfl rfl ?_
    refine bE hh (han _ _ hh.below (hh.iH (i := 1) (o := 0) rfl rfl)) rfl ?_
    intro w12 hh
    first | refine ct ?_ | refine cq ?_
    refine aa (cF (al (aj (ai (sr (mL (a5 ?_)))))))
    refine cg (aa (cF (al (aj (ai ?_)))))
    refine lz [] [0, 0, 2, 7, 15, 15, 63, 127] 3 [[(2, none)], [(1, none)], [(20, some 1)]] [(2, 21), (1, 20), (0, 19)] [([], 4, [(2, 21), (1, 20), (0, 19)])] hh mixed (by kernel_rfl) (by kernel_rfl) (by decide) ?_
    refine fC 1 ?_
    refine iB ?_
    refine bz (i := 2) (vk hh.sz 58 n 4 (a8 TR.cells l)) (vk.ext) ?_ ?_
    ·intro ρ1 w1 hj hR
     exact cG rfl (bh ar.out (aF (show ρ1 20 = Value.slice _ _ _ from hR.1) bj)) (iO A n c l w1 (hS.ext hj.hp.below) hn) (fun _ _ ⟨A, c, hq, ho, hb⟩ => ⟨_, hq, hb, A, c, rfl, m9 ho hj.bl.size⟩)
    refine bo ?_
    intro p_ hp_
    simp only [List.mem_cons, List.not_mem_nil, or_false] at hp_
    rcases hp_ with rfl
    intro f W hJ hV
    have hb_5 := hJ.bl
    obtain ⟨v21, v20, v19, _⟩ := hV
    simp only [jg]
    have e19 : f 0 = _ := v19
    rw [e19]
    have e20 : f 1 = _ := v20
    rw [e20]
    obtain ⟨A21, c21, e21, o21⟩ : vk _ _ _ _ _ (f 2) W := v21
    rw [e21]
    replace hh := JJ.zO hh hJ.hp o21
    clear o21
    clear e19 e20 e21 hJ
    refine aH (hG v A21 n c21 l k _ hT hh hln (by omega) (by omega) ho) ar.out rfl (by decide) ?_; rintro e_ w22 ⟨g, og, rfl, hh⟩; refine ⟨_, rfl, ?_⟩
    refine cx ?_
    refine cn (i := 4) (by repeat (first | exact bS | refine bG ?_ | refine bT ?_ | refine np_scope ?_)) rfl (by kernel_rfl) (by kernel_rfl) (by kernel_rfl) (fun _ => cw (show _ = Value.tuple (List.toArray _) from rfl) rfl) (by decide) ?_
    refine cn (i := 5) (by repeat (first | exact bS | refine bG ?_ | refine bT ?_ | refine np_scope ?_)) rfl (by kernel_rfl) (by kernel_rfl) (by kernel_rfl) (fun _ => cw (show _ = Value.tuple (List.toArray _) from rfl) rfl) (by decide) ?_
    refine dX 6 (by decide) (by kernel_rfl) (by decide) (by kernel_rfl) (by kernel_rfl) ?_
    refine bK hh 1 [_,_] ?_
    intro ws hh
    replace hh : Hp _ (_ :: .blk _ _ [_, _] _ :: _) _ := hh
    refine aI (aa (ao ?_))
    refine lB (aU rfl (aV (vs := [_, _]) aC.out (hh.aw (i := 1) (n := 2) rfl rfl) rfl) (cB (dq rfl) bg)) ?_
    exact ⟨g, og, rfl, hh.sub (List.Sublist.cons_cons _ (List.nil_sublist _))⟩
end Go.Proofs.YtkgdagjklakajaaGreatDoor
/- The walk through poly.like. -/
namespace Go.Proofs.YtkgdagjklakajaaGreatDoor
open Go.RowKit
def PX.cells (g : PX) : List Value := [.int .i64 g.v, .slice g.A g.n g.c]
theorem PX.len (g : PX) : (PX.cells g).length = 2 := rfl
structure PX.md (g : PX) (k : Nat) : Prop where
 n : g.n ≤ 1000000
 cap : g.n ≤ g.c
 ok : gi k g.ts
 sz : ∀ t ∈ g.ts, t.m.size ≤ 100000
def PX.e (g : PX) : Int := gC g.v g.ts
theorem mh (g : PX) (k : Nat) (w : World) (hT : gM w) (h : g.at_ w) (hl : g.md k) :
  Calls Tryz.prog 21 #[.agg #[.int .i64 g.v, .slice g.A g.n g.c]] w fun r w' => r = .returned (.int .i64 g.e) ∧ Below w.heap.size w w' :=
 pW g.v g.A g.n g.c g.ts w hT h hl.n fun t ht => ⟨(hl.ok t ht).1, hl.sz t ht⟩
def vV (ps : List PX) : Bool := ps.any fun g => decide (g.v ≠ (ps.map PX.v).headD 0)
def eX (ps : List PX) : Int := match ps.find? (fun g => decide (g.e ≠ 0)) with | some g => g.e | none => if ps.length = 0 ∨ vV ps = true then 1 else 0
theorem sG (L : Option Addr) (n c : Nat) (ps : List PX) (f : PX) (p : Addr) (w : World) (hL : Sl w L n 2 (a8 PX.cells ps)) (hp : w.cell? p = some (.slice L n c)) (hn : 0 < n) :
  Calls Tryz.prog 174 #[.agg #[.int .i64 f.v, .slice f.A f.n f.c], .pointer (some p)] w fun r w' => r = .returned (.bool (decide (f.v ≠ (ps.map PX.v).headD 0))) ∧ Below w.heap.size w w' := by
 have hh := Hp.start w
 have hln := hL.ck PX.len (by decide)
 obtain ⟨g, ps, rfl⟩ : ∃ g l, ps = g :: l := by
  cases ps with
  | nil => exact absurd hln (by show ¬ 0 = n; omega)
  | cons g l => exact ⟨g, l, rfl⟩
 obtain ⟨ad, rfl, hr⟩ := hL.at_ hn
 have hd : (((g :: ps).map PX.v).headD 0) = g.v := rfl
 rw [hd]
 have h0 : (g :: ps)[0]? = some g := rfl
 by_cases hg : f.v = g.v
 ·refine ak (N := 11) (l := [.agg #[.int .i64 f.v, .slice f.A f.n f.c], .pointer (some p)]) Tryz.func174 rfl rfl (by simp) ?_
  refine sr ?_
  refine dp hh [_,_] ?_
  intro b2 w2 hh
  refine aB (aa (ai ?_))
  refine bf 6 [[(2, none)], [(4, some 0)], [(1, none)], [(6, some 2)], [(7, some 3)], [(8, some 4)]] [(5, 9), (4, 8), (3, 7), (2, 6), (1, 5), (0, 4)] hh mixed (by kernel_rfl) ?_
  refine dN ?_
  refine fC 0 ?_
  refine lf (fun _ hj => (hj.hp.below.cell (pV hp)).trans hp) ?_
  refine bm (i := 3) (fun ρ1 w1 hj hR => dv aJ.out aC.size (show ρ1 6 = Value.slice _ _ _ from hR.1) rfl (by omega) (by omega)) ?_
  refine xp ?_
  refine lf (fun _ hj => dA hj.hp.below (((hr.recAt PX.len h0)) 0 _ rfl)) ?_
  refine bo ?_
  intro f W hJ hV
  have hb_1 := hJ.bl
  obtain ⟨v9, v8, v7, v6, v5, v4, _⟩ := hV
  replace hh := hJ.hp
  refine a7 (bu (ah v9 (ah v8 (ah v7 (ah v6 (ah v5 (ah v4 a6))))))) ?_
  dsimp only [cJ]
  clear hJ
  refine dR (aB (aa (ao ?_)))
  refine cd ?_
  exact ⟨by rw [decide_eq_false (by omega)], hh.below⟩
 ·refine ak (N := 11) (l := [.agg #[.int .i64 f.v, .slice f.A f.n f.c], .pointer (some p)]) Tryz.func174 rfl rfl (by simp) ?_
  refine sr ?_
  refine dp hh [_,_] ?_
  intro b2 w2 hh
  refine aB (aa (ai ?_))
  refine bf 6 [[(2, none)], [(4, some 0)], [(1, none)], [(6, some 2)], [(7, some 3)], [(8, some 4)]] [(5, 9), (4, 8), (3, 7), (2, 6), (1, 5), (0, 4)] hh mixed (by kernel_rfl) ?_
  refine dN ?_
  refine fC 0 ?_
  refine lf (fun _ hj => (hj.hp.below.cell (pV hp)).trans hp) ?_
  refine bm (i := 3) (fun ρ1 w1 hj hR => dv aJ.out aC.size (show ρ1 6 = Value.slice _ _ _ from hR.1) rfl (by omega) (by omega)) ?_
  refine xp ?_
  refine lf (fun _ hj => dA hj.hp.below (((hr.recAt PX.len h0)) 0 _ rfl)) ?_
  refine bo ?_
  intro f W hJ hV
  have hb_1 := hJ.bl
  obtain ⟨v9, v8, v7, v6, v5, v4, _⟩ := hV
  replace hh := hJ.hp
  refine a7 (bu (ah v9 (ah v8 (ah v7 (ah v6 (ah v5 (ah v4 a6))))))) ?_
  dsimp only [cJ]
  clear hJ
  refine dR (aB (aa (ao ?_)))
  refine cd ?_
  exact ⟨by rw [decide_eq_true hg], hh.below⟩
theorem sA (A : Option Addr) (n c : Nat) (l : List PX) (g : FuncId) (cap : List Value) (p : PX → Bool) (w : World) (hS : Sl w A n 2 (a8 PX.cells l)) (hn : n ≤ 1000000) [ar Tryz.prog g]
  (hg : ∀ (z : PX) (w1 : World), z ∈ l → Below w.heap.size w w1 → Calls Tryz.prog g (.agg #[.int .i64 z.v, .slice z.A z.n z.c] :: cap).toArray w1 fun r w' => r = .returned (.bool (p z)) ∧ Below w1.heap.size w1 w') :
  Calls Tryz.prog 180 #[.slice A n c, .func (.func g) #[] cap.toArray] w fun r w' => ∃ v, r = .returned (.int .i64 v) ∧ (0 ≤ v ↔ l.any p = true) ∧ Below w.heap.size w w' := by
 have hh := Hp.start w
 have hln := hS.ck PX.len (by decide)
 refine ak (N := 19) (l := [.slice A n c, .func (.func g) #[] cap.toArray]) Tryz.func180 rfl rfl (by simp) ?_
 refine sr (aI (aa (ai (sr (mL (a5 (mI (aa (aq ?_)))))))))
 refine bD [4, 5, 8, 9, 10, 11, 12, 13, 14, 15, 16, 17, 18] 8
  (fun v w' => ∃ i : Nat, i ≤ n ∧ v = .int .i64 i ∧ (l.take i).any p = false ∧ Hp w [] w')
  (fun v _ => n - (intOf v).toNat) ?_ ?_
 ·exact ⟨0, Nat.zero_le _, rfl, rfl, hh⟩
 ·clear hh
  rintro ρ' v w' ⟨i, hi, rfl, hall, hh⟩
  by_cases hlt : i < n
  ·obtain ⟨z, hz⟩ := aR (l := l) (k := i) (by omega)
   obtain ⟨ad, rfl, hr⟩ := hS.at_ (by omega)
   have hc := fun w1 => hg z w1 (List.mem_of_getElem? hz)
   cases gz : p z with
   | true =>
    rw [gz] at hc
    refine sr ?_
    refine aZ (aa (ai (cT (al (aj (ai (aq (sr (mI (aI (aa ?_)))))))))))
    refine sr ?_
    refine fL (by first | exact gm rfl | exact ev_nilf rfl) (by decide) ?_
    refine mL (mI ?_)
    refine a0 (k := i) aJ.out aC.size rfl rfl (by omega) (by omega) (by decide) ?_
    refine cb (vs := [_, _]) aC.out rfl ((hr.ext hh.below).recAt PX.len hz) rfl (by decide) ?_
    refine fg (hc _ hh.below) ar.out rfl rfl (by decide) ?_
    rintro e_ w16 ⟨rfl, hb_⟩
    refine ⟨_, rfl, ?_⟩
    replace hh := hh.ext hb_
    refine aa (cT (sr (mI (aI (aa (ao (bU (aM (aM (bU (aM ?_)))))))))))
    refine cd ?_
    exact ⟨_, rfl, ⟨fun _ => List.any_eq_true.2 ⟨z, List.mem_of_getElem? hz, gz⟩, fun _ => by omega⟩, hh.below⟩
   | false =>
    rw [gz] at hc
    refine sr ?_
    refine aZ (aa (ai (cT (al (aj (ai (aq (sr (mI (aI (aa ?_)))))))))))
    refine sr ?_
    refine fL (by first | exact gm rfl | exact ev_nilf rfl) (by decide) ?_
    refine mL (mI ?_)
    refine a0 (k := i) aJ.out aC.size rfl rfl (by omega) (by omega) (by decide) ?_
    refine cb (vs := [_, _]) aC.out rfl ((hr.ext hh.below).recAt PX.len hz) rfl (by decide) ?_
    refine fg (hc _ hh.below) ar.out rfl rfl (by decide) ?_
    rintro e_ w16 ⟨rfl, hb_⟩
    refine ⟨_, rfl, ?_⟩
    replace hh := hh.ext hb_
    refine aa (cF (al (a3 (aj (au ?_)))))
    refine bO (mI (aK (aj ?_)))
    refine ⟨⟨i + 1, by omega, rfl, by rw [aW hz, List.any_append, hall, List.any_cons, List.any_nil, gz]; rfl, hh⟩, by show n - (i + 1) < n - i; omega, ?_⟩
    (repeat (first | exact aA _ _ _ | refine aE rfl ?_ | refine ax rfl ?_))
  ·rw [List.take_of_length_le (by omega)] at hall
   refine sr ?_
   refine aZ (aa (ai (cF ?_)))
   refine a4 ?_
   refine aD (aD (bp (aj (sr (aI (aa (ao ?_)))))))
   refine cd ?_
   exact ⟨_, rfl, ⟨fun h => absurd h (by decide), fun h => by rw [hall] at h; cases h⟩, hh.below⟩
theorem r6 (A : Option Addr) (n c : Nat) (l : List PX) (g : FuncId) (cap : List Value) (p : PX → Bool) (w : World) (hS : Sl w A n 2 (a8 PX.cells l)) (hn : n ≤ 1000000) [ar Tryz.prog g]
  (hg : ∀ (z : PX) (w1 : World), z ∈ l → Below w.heap.size w w1 → Calls Tryz.prog g (.agg #[.int .i64 z.v, .slice z.A z.n z.c] :: cap).toArray w1 fun r w' => r = .returned (.bool (p z)) ∧ Below w1.heap.size w1 w') :
  Calls Tryz.prog 119 #[.slice A n c, .func (.func g) #[] cap.toArray] w fun r w' => r = .returned (.bool (l.any p)) ∧ Below w.heap.size w w' := by
 have hh := Hp.start w
 refine ak (N := 9) (l := [.slice A n c, .func (.func g) #[] cap.toArray]) Tryz.func119 rfl rfl (by simp) ?_
 refine sr (aB (aa (sr (mL ?_))))
 refine fL (by first | exact gm rfl | exact ev_nilf rfl) (by decide) ?_
 refine aH (sA A n c l g cap p _ (hS.ext hh.below) hn hg) ar.out rfl (by decide) ?_
 rintro e_ w7 ⟨v_, rfl, hv_, hb_⟩
 refine ⟨_, rfl, ?_⟩
 replace hh := hh.ext hb_
 cases ga : l.any p with
 | true =>
  have h0 := hv_.2 ga
  refine dx (aB (aa (ao ?_)))
  refine cd ?_
  exact ⟨rfl, hh.below⟩
 | false =>
  have h0 : ¬ 0 ≤ v_ := fun h => by rw [hv_.1 h] at ga; cases ga
  refine dx (aB (aa (ao ?_)))
  refine cd ?_
  exact ⟨rfl, hh.below⟩
theorem lZ (L : Option Addr) (n c : Nat) (ps : List PX) (k : Nat) (w : World) (hT : gM w) (hL : Sl w L n 2 (a8 PX.cells ps)) (hn : n ≤ 1000000) (hf : ∀ g ∈ ps, g.at_ w) (hl : ∀ g ∈ ps, g.md k) :
  Calls Tryz.prog 103 #[.slice L n c] w fun r w' => r = .returned (.int .i64 (eX ps)) ∧ Below w.heap.size w w' := by
 have hh := Hp.start w
 have hln := hL.ck PX.len (by decide)
 refine ak (N := 26) (l := [.slice L n c]) Tryz.func103 rfl rfl (by simp) ?_
 refine sr ?_
 refine dp hh [_] ?_
 intro b1 w1 hh
 refine aI (aa (ai (sr ?_)))
 refine bQ hh 0 ?_
 refine a5 (mI (aa (aq ?_)))
 refine bD [2, 4, 5, 8, 9, 10, 11, 12, 13, 14, 15, 16, 17] 8
  (fun v w' => ∃ i : Nat, i ≤ n ∧ v = .int .i64 i ∧ (ps.take i).any (fun g => decide (g.e ≠ 0)) = false ∧ Hp w [.blk b1 45 [.slice L n c] (0, 0)] w')
  (fun v _ => n - (intOf v).toNat) ?_ ?_
 ·exact ⟨0, Nat.zero_le _, rfl, rfl, hh⟩
 ·clear hh
  rintro ρ' v w' ⟨i, hi, rfl, hall, hh⟩
  by_cases hlt : i < n
  ·obtain ⟨g, hx⟩ := aR (l := ps) (k := i) (by omega)
   have hmem := List.mem_of_getElem? hx
   have hc := fun w1 hT1 hb => mh g k w1 hT1 ((hf g hmem).ext hb) (hl g hmem)
   obtain ⟨ad, rfl, hr⟩ := hL.at_ (by omega)
   by_cases he : g.e = 0
   ·refine sr ?_
    refine aZ (aa (ai (cT (al (aj (ai (aq (sr ?_))))))))
    refine a0 (k := i) aJ.out aC.size rfl rfl (by omega) (by omega) (by decide) ?_
    refine cb (vs := [_, _]) aC.out rfl ((hr.ext hh.below).recAt PX.len hx) rfl (by decide) ?_
    refine cj hh ?_
    intro b4 w4 hh
    refine bK hh 0 [_,_] ?_
    intro ws hh
    replace hh : Hp _ (.blk _ _ [_, _] _ :: _) _ := hh
    refine aa (sr ?_)
    refine cf hh 0 [_,_] ?_
    refine bE hh (hc _ (hT.hp hh) hh.below) rfl ?_
    intro w13 hh
    refine aI (aa (sr (mI ?_)))
    refine dR (aa (cF (al (a3 (aj (au ?_))))))
    refine bO (mI (aK (aj ?_)))
    replace hh := hh.sub (List.Sublist.cons _ (List.Sublist.cons_cons _ List.Sublist.slnil))
    refine ⟨⟨i + 1, by omega, rfl, by rw [aW hx, List.any_append, hall, List.any_cons, List.any_nil, decide_eq_false (by omega)]; rfl, hh⟩, by show n - (i + 1) < n - i; omega, ?_⟩
    (repeat (first | exact aA _ _ _ | refine aE rfl ?_ | refine ax rfl ?_))
   ·refine sr ?_
    refine aZ (aa (ai (cT (al (aj (ai (aq (sr ?_))))))))
    refine a0 (k := i) aJ.out aC.size rfl rfl (by omega) (by omega) (by decide) ?_
    refine cb (vs := [_, _]) aC.out rfl ((hr.ext hh.below).recAt PX.len hx) rfl (by decide) ?_
    refine cj hh ?_
    intro b4 w4 hh
    refine bK hh 0 [_,_] ?_
    intro ws hh
    replace hh : Hp _ (.blk _ _ [_, _] _ :: _) _ := hh
    refine aa (sr ?_)
    refine cf hh 0 [_,_] ?_
    refine bE hh (hc _ (hT.hp hh) hh.below) rfl ?_
    intro w13 hh
    refine aI (aa (sr (mI ?_)))
    refine dR (aa (cT (sr (mI (aI (aa (ao (bU (aM (aM (bU ?_)))))))))))
    refine aM ?_
    refine cd ?_
    refine ⟨?_, hh.below⟩
    unfold eX
    rw [uV hall hx (decide_eq_true he)]
  ·rw [List.take_of_length_le (by omega)] at hall
   have hlk : eX ps = if ps.length = 0 ∨ vV ps = true then 1 else 0 := by unfold eX; rw [gx hall]
   rw [hlk]
   by_cases h0 : n = 0
   ·refine sr ?_
    refine aZ (aa (ai (cF ?_)))
    refine a4 ?_
    refine aD (aD (bp (aj (ai (sr ?_)))))
    refine bQ hh 0 ?_
    refine a5 ?_
    refine cI (mB ?_)
    first | refine gS ?_ | (refine gT ?_; refine bQ hh 0 ?_) | refine gV ?_
    first | refine gS ?_ | (refine gT ?_; refine fi rfl (aF (km rfl) bj) (by decide) ?_) | refine gV ?_
    refine bH (by decide) rfl rfl (by decide) ?_
    first | refine ct ?_ | refine cq ?_
    refine aa (cT (sr (aI (aa (ao (aM ?_))))))
    refine cd ?_
    exact ⟨by rw [if_pos (.inl (by omega))], hh.below⟩
   ·have hcell : w'.cell? ⟨b1, 0, none⟩ = some (.slice L n c) := hh.iH (i := 0) rfl rfl
    have ho := fun w1 hb => r6 L n c ps 174 [.pointer (some ⟨b1, 0, none⟩)] (fun g => decide (g.v ≠ (ps.map PX.v).headD 0)) w1 (hL.ext (hh.below.trans (hb.mono hh.below.size))) hn (fun z w2 hz hb2 => sG L n c ps z ⟨b1, 0, none⟩ w2 ((hL.ext (hh.below.trans (hb.mono hh.below.size))).ext hb2) (dA hb2 (dA hb hcell)) (by omega))
    cases hod : vV ps with
    | true =>
     have hod2 : ps.any (fun g => decide (g.v ≠ (ps.map PX.v).headD 0)) = true := hod
     rw [hod2] at ho
     refine sr ?_
     refine aZ (aa (ai (cF ?_)))
     refine a4 ?_
     refine aD (aD (bp (aj (ai (sr ?_)))))
     refine bQ hh 0 ?_
     refine a5 ?_
     refine cI (mB ?_)
     first | refine gS ?_ | (refine gT ?_; refine bQ hh 0 ?_) | refine gV ?_
     first | refine gS ?_ | (refine gT ?_; refine fi rfl (aF (km rfl) bj) (by decide) ?_) | refine gV ?_
     refine aX rfl rfl ?_
     refine bE hh (ho _ (Below.refl _ _)) rfl ?_
     intro w24 hh
     first | refine ct ?_ | refine cq ?_
     refine aa (cT (sr (aI (aa (ao (aM ?_))))))
     refine cd ?_
     exact ⟨by rw [if_pos (.inr rfl)], hh.below⟩
    | false =>
     have hod2 : ps.any (fun g => decide (g.v ≠ (ps.map PX.v).headD 0)) = false := hod
     rw [hod2] at ho
     refine sr ?_
     refine aZ (aa (ai (cF ?_)))
     refine a4 ?_
     refine aD (aD (bp (aj (ai (sr ?_)))))
     refine bQ hh 0 ?_
     refine a5 ?_
     refine cI (mB ?_)
     first | refine gS ?_ | (refine gT ?_; refine bQ hh 0 ?_) | refine gV ?_
     first | refine gS ?_ | (refine gT ?_; refine fi rfl (aF (km rfl) bj) (by decide) ?_) | refine gV ?_
     refine aX rfl rfl ?_
     refine bE hh (ho _ (Below.refl _ _)) rfl ?_
     intro w24 hh
     first | refine ct ?_ | refine cq ?_
     refine aa (cF (al (aj (sr (aI (aa (ao ?_)))))))
     refine cd ?_
     refine ⟨?_, hh.below⟩
     rw [if_neg]
     rintro (h | h)
     ·omega
     ·cases h
end Go.Proofs.YtkgdagjklakajaaGreatDoor
/- Arguments opened: terms, polynomials. -/
namespace Go.Proofs.YtkgdagjklakajaaGreatDoor
open Go.ChangeShapes Go.WideShapes Go.ChangeAt Go.RowKit Go.ChangeMaps
set_option maxRecDepth 100000 in
theorem rV {H : Type} {enc : TypeId × Value → H} {W : World} {base fuel : Nat} {sp : Nat → Bool} {held : Bool} {cs : List Value} {x : DataW H × List MemPlace} (h : DataW.trod enc Tryz.prog W base sp held fuel 58 cs = some x) :
  ∃ t : TR, cs = t.cells ∧ True := by
 have c0 : Tryz.prog.cellsOf 58 = 4 := by kernel_rfl
 have c1 : Tryz.prog.cellsOf 9 = 1 := by kernel_rfl
 have c2 : Tryz.prog.cellsOf 26 = 3 := by kernel_rfl
 obtain ⟨y0, y1, n, _, hl, h0, h1⟩ := trod_struct2 Tryz.underlying58 h
 obtain ⟨s, e0, _, _⟩ := DataW.trod_string Tryz.underlying9 h0
 obtain ⟨a, e1, _⟩ := uY h1
 rw [c0] at hl
 match cs, hl with
 | [x0, x1, x2, x3], _ =>
  simp only [c1, c2] at e0 e1
  unfold NR.cells at e1
  simp at e0 e1
  obtain ⟨e1, e2, e3⟩ := e1
  subst e0 e1 e2 e3
  exact ⟨⟨s, a⟩, rfl, trivial⟩
set_option maxRecDepth 100000 in
theorem rX {H : Type} {enc : TypeId × Value → H} {W : World} {base fuel : Nat} {sp : Nat → Bool} {held : Bool} {cs : List Value} {x : DataW H × List MemPlace} (h : DataW.trod enc Tryz.prog W base sp held fuel 31 cs = some x) :
  ∃ g : PX, cs = g.cells ∧ (g.at_ W ∧ g.n ≤ g.c) := by
 have c0 : Tryz.prog.cellsOf 31 = 2 := by kernel_rfl
 have c1 : Tryz.prog.cellsOf 3 = 1 := by kernel_rfl
 have c2 : Tryz.prog.cellsOf 22 = 1 := by kernel_rfl
 obtain ⟨y0, y1, n, _, hl, h0, h1⟩ := trod_struct2 Tryz.underlying31 h
 obtain ⟨z, e0, _, _⟩ := DataW.trod_int Tryz.underlying3 h0
 obtain ⟨B, m, b, k, e1, s1, _⟩ := sX TR.len (by decide) Tryz.underlying22 (by kernel_rfl) (fun _ _ _ h => rV h) h1
 rw [e1] at h1
 have hroom := uF Tryz.underlying22 h1
 rw [c0] at hl
 match cs, hl with
 | [x0, x1], _ =>
  simp only [c1, c2] at e0 e1
  simp at e0 e1
  subst e0 e1
  exact ⟨⟨z, B, m, b, k⟩, rfl, s1, hroom⟩
set_option maxRecDepth 100000 in
theorem lh {H : Type} {enc : TypeId × Value → H} {W : World} {r : Reach} {base b0 : Nat} {sp : Nat → Bool} {held : Bool} {v : Value} {d : DataW H} {ps : List MemPlace}
  (hval : Value.okWide Tryz.prog W r b0 31 v) (hd : DataW.Trod enc Tryz.prog W base sp held 31 v d ps) : ∃ g : PX, v = .agg #[.int .i64 g.v, .slice g.A g.n g.c] ∧ g.at_ W ∧ g.n ≤ g.c := by
 obtain ⟨cs, rfl, _⟩ := okWide_struct Tryz.underlying31 hval
 obtain ⟨fuel, hf⟩ := hd
 obtain ⟨f, h1, h2⟩ := rX hf
 refine ⟨f, ?_, h2⟩
 have h3 : cs.toList = f.cells := h1
 rw [← Array.toList_inj.1 (show cs.toList = (#[.int .i64 f.v, .slice f.A f.n f.c] : Array Value).toList from h3)]
end Go.Proofs.YtkgdagjklakajaaGreatDoor
/- The walks through the document's answer's products of powers. -/
namespace Go.Proofs.YtkgdagjklakajaaGreatDoor
open Go.RowKit
theorem n5 (A B : Option Addr) (n m c c' : Nat) (xs ys : List Int) (w : World) (hx : Sl w A n 1 (eU xs)) (hy : Sl w B m 1 (eU ys)) (hn : n ≤ 100000) (hm : m ≤ 100000) :
  Calls Tryz.prog 23 #[.slice A n c, .slice B m c'] w fun e w' => e = .returned (.bool (decide (xs = ys))) ∧ Below w.heap.size w w' := by
 have hxl : xs.length = n := by have := hx.1; rw [eK] at this; omega
 have hyl : ys.length = m := by have := hy.1; rw [eK] at this; omega
 have hh := Hp.start w
 by_cases hnm : n = m
 ·subst hnm
  refine ak (N := 26) (l := [.slice A n c, .slice B n c']) Tryz.func23 rfl rfl (by simp) ?_
  refine sr (aB (aa (ai (sr (mL (a5 (mL (a5 ?_))))))))
  refine dR (aa (cF (al (aj (ai (sr (aI (aa (aq ?_)))))))))
  refine bD [4, 5, 11, 12, 13, 14, 15, 16, 17, 18, 19, 20, 21, 22, 23, 24, 25] 5
   (fun i w' => ∃ k : Nat, k ≤ n ∧ i = .int .i64 k ∧ xs.take k = ys.take k ∧ Hp w [] w')
   (fun i _ => n - (intOf i).toNat) ?_ ?_
  ·exact ⟨0, Nat.zero_le _, rfl, rfl, hh⟩
  ·clear hh
   rintro ρ' i w' ⟨k, hk, rfl, he, hh⟩
   replace hx := hx.ext hh.below
   replace hy := hy.ext hh.below
   by_cases hlt : k < n
   ·obtain ⟨x, hxk⟩ := aR (l := xs) (k := k) (by omega)
    obtain ⟨y, hyk⟩ := aR (l := ys) (k := k) (by omega)
    obtain ⟨ad, rfl, hr⟩ := hx.at_ (by omega)
    obtain ⟨bd, rfl, hs⟩ := hy.at_ (by omega)
    by_cases hxy : x = y
    ·subst hxy
     refine ai (sr (mI (mL (a5 ?_))))
     refine aZ (aa (cT (al (aj (ai (aq (ai ?_)))))))
     refine bf 8 [[(0, none)], [(5, none)], [(17, some 0), (18, some 1)], [(19, some 2)], [(1, none)], [(5, none)], [(21, some 4), (22, some 5)], [(23, some 6)]] [(7, 24), (6, 23), (5, 22), (4, 21), (3, 20), (2, 19), (1, 18), (0, 17)] hh mixed (by kernel_rfl) ?_
     refine iB ?_
     refine fe ?_
     refine bm (i := 2) (fun ρ1 w1 hj hR => dv aJ.out aC.size (show ρ1 17 = Value.slice _ _ _ from hR.1) (show ρ1 18 = Value.int _ _ from hR.2.1) (by omega) (by omega)) ?_
     refine lf (fun _ hj => gE (hr.ext hj.bl) (fG hxk) rfl) ?_
     refine iB ?_
     refine fe ?_
     refine bm (i := 6) (fun ρ1 w1 hj hR => dv aJ.out aC.size (show ρ1 21 = Value.slice _ _ _ from hR.1) (show ρ1 22 = Value.int _ _ from hR.2.1) (by omega) (by omega)) ?_
     refine lf (fun _ hj => gE (hs.ext hj.bl) (fG hyk) rfl) ?_
     refine bo ?_
     intro f W hJ hV
     have hb_6 := hJ.bl
     obtain ⟨v24, v23, v22, v21, v20, v19, v18, v17, _⟩ := hV
     replace hh := hJ.hp
     refine a7 (bu (ah v24 (ah v23 (ah v22 (ah v21 (ah v20 (ah v19 (ah v18 (ah v17 a6))))))))) ?_
     dsimp only [cJ]
     clear hJ
     refine dR (aa (cF (al (a3 (aj (au (mI ?_)))))))
     refine bO (aI (aK (aj ?_)))
     refine ⟨⟨k + 1, by omega, rfl, by rw [aW hxk, aW hyk, he], hh⟩, by show n - (k + 1) < n - k; omega, ?_⟩
     (repeat (first | exact aA _ _ _ | refine aE rfl ?_ | refine ax rfl ?_))
    ·refine ai (sr (mI (mL (a5 ?_))))
     refine aZ (aa (cT (al (aj (ai (aq (ai ?_)))))))
     refine bf 8 [[(0, none)], [(5, none)], [(17, some 0), (18, some 1)], [(19, some 2)], [(1, none)], [(5, none)], [(21, some 4), (22, some 5)], [(23, some 6)]] [(7, 24), (6, 23), (5, 22), (4, 21), (3, 20), (2, 19), (1, 18), (0, 17)] hh mixed (by kernel_rfl) ?_
     refine iB ?_
     refine fe ?_
     refine bm (i := 2) (fun ρ1 w1 hj hR => dv aJ.out aC.size (show ρ1 17 = Value.slice _ _ _ from hR.1) (show ρ1 18 = Value.int _ _ from hR.2.1) (by omega) (by omega)) ?_
     refine lf (fun _ hj => gE (hr.ext hj.bl) (fG hxk) rfl) ?_
     refine iB ?_
     refine fe ?_
     refine bm (i := 6) (fun ρ1 w1 hj hR => dv aJ.out aC.size (show ρ1 21 = Value.slice _ _ _ from hR.1) (show ρ1 22 = Value.int _ _ from hR.2.1) (by omega) (by omega)) ?_
     refine lf (fun _ hj => gE (hs.ext hj.bl) (fG hyk) rfl) ?_
     refine bo ?_
     intro f W hJ hV
     have hb_6 := hJ.bl
     obtain ⟨v24, v23, v22, v21, v20, v19, v18, v17, _⟩ := hV
     replace hh := hJ.hp
     refine a7 (bu (ah v24 (ah v23 (ah v22 (ah v21 (ah v20 (ah v19 (ah v18 (ah v17 a6))))))))) ?_
     dsimp only [cJ]
     clear hJ
     refine dR (aa (cT (sr (aB (aa (ao (bU (aM (aM (bU (aM ?_)))))))))))
     refine cd ?_
     have : ¬ xs = ys := fun h => hxy (by rw [h, hyk] at hxk; exact (Option.some.inj hxk).symm)
     simp only [this, decide_false]
     first | exact ⟨rfl, hh.below⟩ | exact ⟨trivial, hh.below⟩
   ·refine ai (sr (mI (mL (a5 ?_))))
    refine aZ (aa (cF ?_))
    refine a4 ?_
    refine aD (aD (bp (aj (sr (aB (aa (ao ?_)))))))
    refine cd ?_
    rw [List.take_of_length_le (by omega), List.take_of_length_le (by omega)] at he
    simp only [he, decide_true]
    first | exact ⟨rfl, hh.below⟩ | exact ⟨trivial, hh.below⟩
 ·refine ak (N := 26) (l := [.slice A n c, .slice B m c']) Tryz.func23 rfl rfl (by simp) ?_
  refine sr (aB (aa (ai (sr (mL (a5 (mL (a5 ?_))))))))
  refine dR (aa (cT (sr (aB (aa (ao (aM ?_)))))))
  refine cd ?_
  have : ¬ xs = ys := fun h => hnm (by rw [← hxl, ← hyl, h])
  simp only [this, decide_false]
  first | exact ⟨rfl, hh.below⟩ | exact ⟨trivial, hh.below⟩
end Go.Proofs.YtkgdagjklakajaaGreatDoor
/- The walk through ogeeref08.Check. -/
namespace Go.Proofs.YtkgdagjklakajaaGreatDoor
open Go.RowKit
end Go.Proofs.YtkgdagjklakajaaGreatDoor
/- The walks through ogeeref08.put and Gather. -/
namespace Go.Proofs.YtkgdagjklakajaaGreatDoor
open Go.RowKit
end Go.Proofs.YtkgdagjklakajaaGreatDoor
/- Plain: products of rows of terms. No program in sight. -/
namespace Go.Proofs.YtkgdagjklakajaaGreatDoor
open Go.RowKit
def mulM (a b : ByteArray) : ByteArray := str (mulL a.data.toList b.data.toList).1
def iC (a b : ByteArray) : Int := (mulL a.data.toList b.data.toList).2
def nI (x y : TR) : TR := ⟨mulM x.m y.m, nR (x.c.d * y.c.d)⟩
def cL (p q : List TR) : List TR := p.flatMap fun x => q.map (nI x)
def jj (p q : List TR) : List Int := p.flatMap fun x => q.map fun y => iC x.m y.m
def fm (p q : List TR) : Int := if 65536 < p.length * q.length then 3 else match (jj p q).find? fun e => decide (e ≠ 0) with | some e => e | none => if 4096 < (aP (cL p q)).length then 3 else 0
theorem qO {α β : Type} {f : α → List β} {k : Nat} : ∀ {l : List α}, (∀ x ∈ l, (f x).length = k) → (l.flatMap f).length = l.length * k
 | [], _ => by simp
 | x :: l, h => by
  rw [List.flatMap_cons, List.length_append, h x List.mem_cons_self, qO fun y hy => h y (List.mem_cons_of_mem _ hy), List.length_cons, Nat.succ_mul, Nat.add_comm]
theorem jN (p q : List TR) : (cL p q).length = p.length * q.length := qO fun x _ => List.length_map _
theorem lu {α β γ : Type} {f : α → β → γ} {p : List α} {q : List β} {i : Nat} {x : α} (hx : p[i]? = some x) :
  ((p.take (i + 1)).flatMap fun x => q.map (f x)) = ((p.take i).flatMap fun x => q.map (f x)) ++ (q.take q.length).map (f x) := by
 rw [aW hx, List.flatMap_append, List.take_of_length_le (Nat.le_refl _)]
 simp
theorem sR {α β γ : Type} {f : α → β → γ} {p : List α} {q : List β} {i j : Nat} {x : α} {y : β} (hx : p[i]? = some x) (hy : q[j]? = some y) :
  ∃ R, (p.flatMap fun x => q.map (f x)) = (((p.take i).flatMap fun x => q.map (f x)) ++ (q.take j).map (f x)) ++ f x y :: R := by
 refine ⟨(q.drop (j + 1)).map (f x) ++ (p.drop (i + 1)).flatMap fun x => q.map (f x), ?_⟩
 have e1 : p = p.take i ++ x :: p.drop (i + 1) := by rw [← jF hx, List.take_append_drop]
 have e2 : q = q.take j ++ y :: q.drop (j + 1) := by rw [← jF hy, List.take_append_drop]
 have e3 : q.map (f x) = (q.take j).map (f x) ++ f x y :: (q.drop (j + 1)).map (f x) := by
  rw [← List.map_cons, ← List.map_append, ← e2]
 calc (p.flatMap fun x => q.map (f x)) = (p.take i ++ x :: p.drop (i + 1)).flatMap fun x => q.map (f x) := by rw [← e1]
  _ = _ := by rw [List.flatMap_append, List.flatMap_cons, e3]; simp
theorem qI {k j : Nat} {p q : List TR} (hp : gi k p) (hq : gi j q) (h : k + j ≤ 1000000) : gi (k + j) (cL p q) := fun t ht => by
 obtain ⟨x, hx, ht⟩ := List.mem_flatMap.1 ht
 obtain ⟨y, hy, rfl⟩ := List.mem_map.1 ht
 have hs := (hp x hx).2.mul (hq y hy).2
 exact ⟨hs.ok (by omega), by show Sz _ (nR _).d; rw [eO]; exact hs⟩
theorem uM (a b : ByteArray) : (mulM a b).size ≤ b.size := by
 unfold mulM
 rw [gI]
 unfold mulL
 split
 ·rename_i l hl
  have := (ow hl).2.2
  have h4 : l.length ≤ b.data.toList.length := by rw [this.2, List.length_zipWith, da, da]; omega
  have h5 : (x7 l).length ≤ l.length := by unfold x7; split <;> simp
  rw [dF]
  exact Nat.le_trans h5 h4
 ·exact Nat.zero_le _
end Go.Proofs.YtkgdagjklakajaaGreatDoor
/- Plain laws of sums and products of rows of terms; what is in the one form. No program in sight. -/
namespace Go.Proofs.YtkgdagjklakajaaGreatDoor
open Go.RowKit
theorem xf (f g : ByteArray → Dyadic) (l : List TR) : wS (fun m => f m + g m) l = wS f l + wS g l := by
 induction l with
 | nil => exact (Dyadic.zero_add _).symm
 | cons t l ih => rw [wS, wS, wS, ih]; grind
theorem zk (c : Dyadic) (f : ByteArray → Dyadic) (l : List TR) : wS (fun m => c * f m) l = c * wS f l := by
 induction l with
 | nil => exact (Dyadic.mul_zero _).symm
 | cons t l ih => rw [wS, wS, ih]; grind
theorem xW (l : List TR) : wS (fun _ => 0) l = 0 := by
 induction l with
 | nil => rfl
 | cons t l ih => rw [wS, ih, Dyadic.mul_zero, Dyadic.zero_add]
theorem pP {f g : ByteArray → Dyadic} (h : ∀ m, f m = g m) (l : List TR) : wS f l = wS g l := by rw [show f = g from funext h]
theorem tr (F : ByteArray → ByteArray → Dyadic) (q : List TR) : ∀ p : List TR, wS (fun a => wS (fun b => F a b) q) p = wS (fun b => wS (fun a => F a b) p) q
 | [] => (xW q).symm
 | t :: p => by
  rw [wS, tr F q p, ← zk, ← xf]
  exact pP (fun m => rfl) q
theorem vH (f : ByteArray → Dyadic) (x : TR) (q : List TR) : wS f (q.map (nI x)) = x.c.d * wS (fun b => f (mulM x.m b)) q := by
 induction q with
 | nil => exact (Dyadic.mul_zero _).symm
 | cons t q ih =>
  rw [List.map_cons, wS, ih, wS]
  show (nR _).d * f (mulM x.m t.m) + _ = _
  rw [eO]
  grind
theorem iE (f : ByteArray → Dyadic) (q : List TR) : ∀ p : List TR, wS f (cL p q) = wS (fun a => wS (fun b => f (mulM a b)) q) p
 | [] => rfl
 | t :: p => by
  show wS f (q.map (nI t) ++ cL p q) = _
  rw [iw, vH, iE f q p, wS]
theorem oK (a b : List UInt8) : mulL a b = mulL b a := by
 have h : fa (· + ·) a b = fa (· + ·) b a := by
  unfold fa
  have hz : List.zipWith (fun x y : Int => x + y) (ints a) (ints b) = List.zipWith (fun x y => x + y) (ints b) (ints a) := by
   rw [List.zipWith_comm]
   congr 1
   funext x y
   exact Int.add_comm _ _
  have hc : (dJ a && (dJ b && decide ((b.length : Int) = a.length))) = (dJ b && (dJ a && decide ((a.length : Int) = b.length))) := by
   rw [show decide ((b.length : Int) = a.length) = decide ((a.length : Int) = b.length) from decide_eq_decide.2 eq_comm]
   cases dJ a <;> cases dJ b <;> rfl
  rw [hc, hz]
 unfold mulL
 rw [h]
theorem uH (a b : ByteArray) : mulM a b = mulM b a := by unfold mulM; rw [oK]
theorem o5 (a b : ByteArray) : iC a b = iC b a := by unfold iC; rw [oK]
theorem sI (p q : List TR) : aP (cL p q) = aP (cL q p) := gk fun m => by
 unfold eJ
 rw [iE, iE, tr]
 exact pP (fun b => pP (fun a => by rw [uH]) p) q
theorem r5 (p q r : List TR) : aP (cL p (aP (q ++ r))) = aP (aP (cL p q) ++ aP (cL p r)) := gk fun m => by
 unfold eJ
 rw [iw, jD, jD, iE, iE, iE, ← xf]
 exact pP (fun a => by rw [jD, iw]) p
def fP (c : Dyadic) (t : TR) : TR := ⟨t.m, nR (t.c.d * c)⟩
theorem uD (c : Dyadic) (l : List TR) (m : ByteArray) : eJ (l.map (fP c)) m = eJ l m * c := by
 induction l with
 | nil => exact (Dyadic.zero_mul _).symm
 | cons t l ih =>
  rw [List.map_cons, dy, dy, ih]
  show (if t.m = m then (nR _).d else 0) + _ = _
  rw [eO]
  split
  ·grind
  ·grind
theorem gX {p : List TR} (q : List TR) (h : Canon p) : aP (aP (p ++ q) ++ aP (q.map (fP ((-1 : Int) : Dyadic)))) = p := by
 refine (jP h fun m => ?_).symm
 rw [cm, hQ, hQ, cm, uD]
 grind
theorem eR {v : Int} {ts : List TR} (h : gC v ts = 0) : gh v = true ∧ ts.length ≤ 4096 ∧ (∀ t ∈ ts, eW v t = true) ∧ Canon ts := by
 unfold gC at h
 cases hf : gh v with
 | false => rw [hf, if_pos rfl] at h; omega
 | true =>
  rw [if_neg (by rw [hf]; decide)] at h
  by_cases h4 : 4096 < ts.length
  ·rw [if_pos h4] at h; omega
  ·rw [if_neg h4] at h
   by_cases ho : okB v ts = true
   ·unfold okB at ho
    rw [Bool.and_eq_true] at ho
    have hg : ∀ t ∈ ts, j0 v t = true := List.all_eq_true.1 ho.1
    refine ⟨rfl, by omega, fun t ht => ?_, kE.1 ho.2, fun t ht => ?_, fun t ht => ?_⟩
    ·exact (Bool.and_eq_true_iff.1 (hg t ht)).1
    ·exact rT (Bool.and_eq_true_iff.1 (Bool.and_eq_true_iff.1 (hg t ht)).2).1
    ·exact ((mz _).1 (Bool.and_eq_true_iff.1 (Bool.and_eq_true_iff.1 (hg t ht)).2).2).symm
   ·rw [if_neg ho] at h; omega
theorem tu {v : Int} {ts : List TR} (hf : gh v = true) (h4 : ts.length ≤ 4096) (hm : ∀ t ∈ ts, eW v t = true) (hc : Canon ts) : gC v ts = 0 := by
 unfold gC
 rw [if_neg (by rw [hf]; decide), if_neg (by omega), if_pos]
 unfold okB
 rw [Bool.and_eq_true]
 refine ⟨List.all_eq_true.2 fun t ht => ?_, kE.2 hc.pO⟩
 show (eW v t && (qt t && Au t.c)) = true
 rw [hm t ht, (mz _).2 (hc.nf t ht).symm]
 unfold qt
 rw [decide_eq_false (hc.nz t ht)]
 rfl
theorem vI {v : Int} {s t : TR} (h : s.m = t.m) (hs : eW v s = true) : eW v t = true := by unfold eW at hs ⊢; rwa [← h]
theorem s9 {v : Int} {l : List TR} (h : ∀ t ∈ l, eW v t = true) : ∀ t ∈ aP l, eW v t = true := fun t ht => by
 obtain ⟨s, hs, e⟩ := iJ t ht
 exact vI e (h s hs)
theorem ji {v : Int} {l : List TR} (hf : gh v = true) (h4 : (aP l).length ≤ 4096) (hm : ∀ t ∈ l, eW v t = true) : gC v (aP l) = 0 := tu hf h4 (s9 hm) (eP l)
theorem wq {v : Int} {x y : TR} (hx : eW v x = true) (h : iC x.m y.m = 0) : eW v (nI x y) = true := by
 unfold eW at hx ⊢
 rw [Bool.and_eq_true, decide_eq_true_eq] at hx
 obtain ⟨_, _, h3, h4, h5⟩ := xu h
 rw [Bool.and_eq_true, decide_eq_true_eq]
 have h6 := congrArg List.length h5
 rw [da, List.length_zipWith, da, da, h3, Nat.min_self] at h6
 refine ⟨?_, ?_⟩
 ·show dJ (mulM x.m y.m).data.toList = true
  unfold mulM
  rw [cD]
  exact h4
 ·show ((mulM x.m y.m).size : Int) = v
  unfold mulM
  rw [gI, h6, ← dF]
  exact hx.2
theorem vc {v : Int} {p q : List TR} (hp : ∀ t ∈ p, eW v t = true) (h : ∀ e ∈ jj p q, e = 0) : ∀ t ∈ cL p q, eW v t = true := fun t ht => by
 obtain ⟨x, hx, ht⟩ := List.mem_flatMap.1 ht
 obtain ⟨y, hy, rfl⟩ := List.mem_map.1 ht
 exact wq (hp x hx) (h _ (List.mem_flatMap.2 ⟨x, hx, List.mem_map.2 ⟨y, hy, rfl⟩⟩))
theorem lb {p q : List TR} (h : fm p q = 0) : p.length * q.length ≤ 65536 ∧ (∀ e ∈ jj p q, e = 0) ∧ (aP (cL p q)).length ≤ 4096 := by
 unfold fm at h
 by_cases h6 : 65536 < p.length * q.length
 ·rw [if_pos h6] at h; omega
 ·rw [if_neg h6] at h
  split at h
  ·rename_i e he
   have := List.find?_some he
   rw [decide_eq_true_eq] at this
   exact absurd h this
  ·rename_i he
   refine ⟨by omega, fun e hm => ?_, ?_⟩
   ·have := List.find?_eq_none.1 he e hm
    simpa using this
   ·by_cases h4 : 4096 < (aP (cL p q)).length
    ·rw [if_pos h4] at h; omega
    ·omega
end Go.Proofs.YtkgdagjklakajaaGreatDoor
/- The walk through poly.Add. -/
namespace Go.Proofs.YtkgdagjklakajaaGreatDoor
open Go.RowKit
def l0 (ps : List PX) : Int := (ps.map PX.v).headD 0
def gf (ps : List PX) : List TR := ps.flatMap PX.ts
def gd (ps : List PX) : Int := if eX ps = 0 then gJ (gf ps) else eX ps
theorem g9 {ps : List PX} (h : eX ps = 0) : ps ≠ [] ∧ (∀ g ∈ ps, g.e = 0) ∧ ∀ g ∈ ps, g.v = l0 ps := by
 unfold eX at h
 split at h
 ·rename_i f hf
  have := List.find?_some hf
  simp at this
  exact absurd h this
 ·rename_i hf
  split at h
  ·cases h
  rename_i hno
  refine ⟨fun e => hno (.inl (by rw [e]; rfl)), fun f hm => ?_, fun f hm => ?_⟩
  ·have := List.find?_eq_none.1 hf f hm
   simpa using this
  ·apply Classical.byContradiction
   intro hne
   exact hno (.inr (List.any_eq_true.2 ⟨f, hm, decide_eq_true hne⟩))
theorem mm {α β : Type} {f : α → List β} {B : Nat} : ∀ {l : List α}, (∀ x ∈ l, (f x).length ≤ B) → (l.flatMap f).length ≤ l.length * B
 | [], _ => by simp
 | x :: l, h => by
  rw [List.flatMap_cons, List.length_append, List.length_cons, Nat.succ_mul]
  have h1 := h x List.mem_cons_self
  have h2 := mm fun y hy => h y (List.mem_cons_of_mem _ hy)
  omega
theorem vh {α β : Type} {f : α → List β} {l : List α} {i : Nat} {x : α} (h : l[i]? = some x) : (l.take (i + 1)).flatMap f = (l.take i).flatMap f ++ f x := by
 rw [aW h, List.flatMap_append]
 simp
theorem rR {l k : List TR} (h : aP l = aP k) : gJ l = gJ k := by unfold gJ; rw [h]
theorem mV {ps : List PX} {g : PX} (h : ps[0]? = some g) : l0 ps = g.v := by
 rcases ps with _ | ⟨f, l⟩
 ·cases h
 ·have : f = g := by simpa using h
  rw [← this]; rfl
theorem cP (L : Option Addr) (n c : Nat) (ps : List PX) (k : Nat) (w : World) (hT : gM w) (hL : Sl w L n 2 (a8 PX.cells ps)) (hn : n ≤ 100) (hf : ∀ g ∈ ps, g.at_ w) (hl : ∀ g ∈ ps, g.md k) (hk : k ≤ 2999000) :
  Calls Tryz.prog 37 #[.slice L n c] w fun r w' => ∃ g : PX, dm (gd ps) (l0 ps) (aP (gf ps)) g ∧ r = .returned (.tuple #[.agg #[.int .i64 g.v, .slice g.A g.n g.c], .int .i64 (gd ps)]) ∧ Hp w [g.row] w' := by
 have hh := Hp.start w
 have hln := hL.ck PX.len (by decide)
 have hlk := fun w1 hT1 hb => lZ L n c ps k w1 hT1 (hL.ext hb) (by omega) (fun g hg => (hf g hg).ext hb) hl
 unfold gd
 by_cases h0 : eX ps = 0
 ·rw [if_pos h0]
  rw [h0] at hlk
  obtain ⟨hne, hev, hvv⟩ := g9 h0
  have hpos := List.length_pos_iff.2 hne
  obtain ⟨g0, h00⟩ := aR (l := ps) (k := 0) hpos
  rw [mV h00]
  have hfl : (gf ps).length ≤ ps.length * 4096 := mm fun g hg => (eR (hev g hg)).2.1
  obtain ⟨ad, rfl, hr⟩ := hL.at_ (by omega)
  refine ak (N := 33) (l := [.slice (some ad) n c]) Tryz.func37 rfl rfl (by simp) ?_
  refine sr ?_
  refine cj hh ?_
  intro b2 w2 hh
  refine aI (aa (ai (sr (mL ?_))))
  refine bE hh (hlk _ (hT.hp hh) hh.below) rfl ?_
  intro w9 hh
  refine aI (aa (sr (mI ?_)))
  refine dR (aa (cF (al (aj (sr (aL (aa (ai (sr (mL (a5 ?_)))))))))))
  refine mI (aa (aq ?_))
  replace hh := hh.fE 58 4
  refine cY [5, 7, 16, 17, 18, 19, 20, 21, 22, 23, 24] 5 16
   (fun a x w' => ∃ (i : Nat) (M : List TR) (A' : Option Addr) (c' : Nat), i ≤ n ∧ x = .int .i64 i ∧ a = .slice A' M.length c' ∧ MD (k + i) ((ps.take i).flatMap PX.ts) M ∧ Hp w [.row A' M.length c' 58 4 (a8 TR.cells M), .blk b2 31 [.int .i64 0, .slice none 0 0] (0, 0)] w')
   (fun _ x _ => n - (intOf x).toNat) ?_ ?_
  ·exact ⟨0, [], none, 0, Nat.zero_le _, rfl, rfl, MD.self List.Pairwise.nil (fun t ht => nomatch ht), hh⟩
  ·clear hh
   rintro ρ' a_ x_ w' ⟨i, M, A', c', hi, rfl, rfl, hmd, hh⟩
   have hfi : ((ps.take i).flatMap PX.ts).length ≤ i * 4096 := by
    have := mm (f := PX.ts) (B := 4096) (l := ps.take i) fun g hg => (eR (hev g (List.mem_of_mem_take hg))).2.1
    rwa [List.length_take, Nat.min_eq_left (by omega)] at this
   have hML := hmd.len
   by_cases hlt : i < n
   ·obtain ⟨g, hx⟩ := aR (l := ps) (k := i) (by omega)
    have hmem := List.mem_of_getElem? hx
    have hgl := hl g hmem
    have hge := eR (hev g hmem)
    have hgc := hgl.cap
    have hgn := hgl.n
    refine sr ?_
    refine aZ (aa (ai (cT (al (aj (ai (aq (sr ?_))))))))
    refine a0 (k := i) aJ.out aC.size rfl rfl (by omega) (by omega) (by decide) ?_
    refine cb (vs := [_, _]) aC.out rfl ((hr.ext hh.below).recAt PX.len hx) rfl (by decide) ?_
    refine cj hh ?_
    intro b7 w7 hh
    refine bK hh 0 [_,_] ?_
    intro ws hh
    replace hh : Hp _ (.blk _ _ [_, _] _ :: _) _ := hh
    refine aa (au (mL (bP ?_)))
    refine bQ hh 0 ?_
    refine aH (kD A' M.length c' M g.A g.n g.c g.ts (k + i) _ (hT.hp hh) (hh.az (i := 1) rfl) ((hf g hmem).ext hh.below) (hh.dI (i := 1) rfl) hgc (by omega) hgn (by omega) hmd.pO hge.2.2.2.pO hmd.ok (hgl.ok.mono (by omega))) ar.out rfl (by decide) ?_
    rintro e_ w23 ⟨L2, A2, c2, hm2, rfl, h3⟩
    refine ⟨_, rfl, ?_⟩
    replace hh := hh.join h3
    simp only [List.cons_append, List.nil_append] at hh
    refine aL (aK (a3 (aj (au ?_))))
    refine bO (mI (aK (aj ?_)))
    replace hh := hh.sub (List.Sublist.cons_cons _ (List.Sublist.cons _ (List.Sublist.cons _ (List.Sublist.cons_cons _ List.Sublist.slnil))))
    refine ⟨⟨i + 1, L2, A2, c2, by omega, rfl, rfl, ?_, hh⟩, by show n - (i + 1) < n - i; omega, ?_⟩
    ·rw [vh hx]
     exact hmd.wU (MD.self hge.2.2.2.pO (hgl.ok.mono (by omega) : gi (k + i) g.ts)) hm2 (by omega)
    ·(repeat (first | exact aA _ _ _ | refine aE rfl ?_ | refine ax rfl ?_))
   ·obtain rfl : i = n := by omega
    rw [List.take_of_length_le (by omega)] at hmd hfi hML
    have hgM : aP M = aP (gf ps) := gk hmd.co
    have hgE := rR hgM
    refine sr ?_
    refine aZ (aa (ai (cF ?_)))
    refine a4 ?_
    refine aD (aD (bp (aj (sr (mL ?_)))))
    refine a0 (k := 0) aJ.out aC.size rfl rfl (by omega) (by omega) (by decide) ?_
    refine dM eh.out rfl (by decide) ?_
    refine bJ aC.out rfl (dA hh.below ((hr.recAt PX.len h00) 0 _ rfl)) (by decide) ?_
    refine mL ?_
    refine aH (hG _ A' M.length c' M (k + i) _ hT hh rfl (by omega) (by omega) hmd.ok) ar.out rfl (by decide) ?_
    rintro e_ w30 ⟨g, og, rfl, hh⟩
    refine ⟨_, rfl, ?_⟩
    refine cM ?_
    refine cM ?_
    refine bK hh 1 [_,_] ?_
    intro ws hh
    replace hh : Hp _ (_ :: .blk _ _ [_, _] _ :: _) _ := hh
    refine aI (aa (ao ?_))
    refine lB (aU rfl (aV (vs := [_, _]) aC.out (hh.aw (i := 1) (n := 2) rfl rfl) rfl) (cB (dq rfl) bg)) ?_
    rw [← hgE, ← hgM]
    exact ⟨g, og, rfl, hh.sub (List.Sublist.cons_cons _ (List.nil_sublist _))⟩
 ·rw [if_neg h0]
  generalize eX ps = e at *
  refine ak (N := 33) (l := [.slice L n c]) Tryz.func37 rfl rfl (by simp) ?_
  refine sr ?_
  refine cj hh ?_
  intro b2 w2 hh
  refine aI (aa (ai (sr (mL ?_))))
  refine bE hh (hlk _ (hT.hp hh) hh.below) rfl ?_
  intro w9 hh
  refine aI (aa (sr (mI ?_)))
  refine dR (aa (cT (sr ?_)))
  refine eM [_,_] (mI ?_)
  refine bK hh 0 [_,_] ?_
  intro ws hh
  replace hh : Hp _ (.blk _ _ [_, _] _ :: _) _ := hh
  refine aI (aa (ao (aM ?_)))
  refine lB (aU rfl (aV (vs := [_, _]) aC.out (hh.aw (i := 0) (n := 2) rfl rfl) rfl) (cB (dq rfl) bg)) ?_
  exact ⟨PX.nil, dm.err h0, rfl, (hh.sub (List.nil_sublist _)).ja⟩
end Go.Proofs.YtkgdagjklakajaaGreatDoor
/- The walk through poly.times. -/
namespace Go.Proofs.YtkgdagjklakajaaGreatDoor
open Go.RowKit
theorem xg {p q : List TR} (h : 65536 < p.length * q.length) : fm p q = 3 := by unfold fm; rw [if_pos h]
theorem ya {p q : List TR} {e : Int} (h6 : ¬ 65536 < p.length * q.length) {a b : List Int} (h : jj p q = a ++ e :: b) (ha : ∀ x ∈ a, x = 0) (he : e ≠ 0) : fm p q = e := by
 unfold fm
 rw [if_neg h6, h, List.find?_append, gx (List.any_eq_false.2 fun x hx => by simp [ha x hx]), List.find?_cons_of_pos (p := fun e : Int => decide (e ≠ 0)) (by simpa using he)]
 rfl
theorem nH {p q : List TR} (h6 : ¬ 65536 < p.length * q.length) (h : ∀ x ∈ jj p q, x = 0) : fm p q = gJ (cL p q) := by
 unfold fm gJ
 rw [if_neg h6, gx (List.any_eq_false.2 fun x hx => by simp [h x hx])]
theorem k0 (p q : PX) (k k2 : Nat) (w : World) (hT : gM w) (hp : p.at_ w) (hq : q.at_ w) (lp : p.md k) (lq : q.md k2) (hk : k + k2 ≤ 900000) :
  Calls Tryz.prog 104 #[.agg #[.int .i64 p.v, .slice p.A p.n p.c], .agg #[.int .i64 q.v, .slice q.A q.n q.c]] w fun r w' => ∃ g : PX, dm (fm p.ts q.ts) p.v (aP (cL p.ts q.ts)) g ∧ r = .returned (.tuple #[.agg #[.int .i64 g.v, .slice g.A g.n g.c], .int .i64 (fm p.ts q.ts)]) ∧ Hp w [g.row] w' := by
 have hh := Hp.start w
 obtain ⟨pv, pA, pn, pc, ps⟩ := p
 obtain ⟨qv, qA, qn, qc, qs⟩ := q
 have hpl : ps.length = pn := hp.ln
 have hql : qs.length = qn := hq.ln
 have hpn : pn ≤ 1000000 := lp.n
 have hqn : qn ≤ 1000000 := lq.n
 have okp : gi k ps := lp.ok
 have okq : gi k2 qs := lq.ok
 have szp : ∀ t ∈ ps, t.m.size ≤ 100000 := lp.sz
 have szq : ∀ t ∈ qs, t.m.size ≤ 100000 := lq.sz
 replace hp : Sl w pA pn 4 (a8 TR.cells ps) := hp
 replace hq : Sl w qA qn 4 (a8 TR.cells qs) := hq
 clear lp lq
 show Calls _ _ _ _ fun r w' => ∃ g : PX, dm (fm ps qs) pv (aP (cL ps qs)) g ∧ r = .returned (.tuple #[.agg #[.int .i64 g.v, .slice g.A g.n g.c], .int .i64 (fm ps qs)]) ∧ Hp w [g.row] w'
 have hmm : pn * qn ≤ 1000000 * 1000000 := Nat.mul_le_mul hpn hqn
 obtain ⟨m, hm⟩ : ∃ m, m = pn * qn := ⟨_, rfl⟩
 have hmi : (pn : Int) * (qn : Int) = (m : Int) := by rw [hm]; exact (Int.natCast_mul _ _).symm
 by_cases h6 : 65536 < m
 ·rw [xg (by rw [hpl, hql, ← hm]; exact h6)]
  refine ak (N := 67) (l := [.agg #[.int .i64 pv, .slice pA pn pc], .agg #[.int .i64 qv, .slice qA qn qc]]) Tryz.func104 rfl rfl (by simp) ?_
  refine sr ?_
  refine dp hh [_,_] ?_
  intro b2 w2 hh
  refine dp hh [_,_] ?_
  intro b3 w3 hh
  refine cj hh ?_
  intro b4 w4 hh
  refine aI (aa (ai (sr (bP ?_))))
  refine bQ hh 2 ?_
  refine a5 (bP ?_)
  refine bQ hh 1 ?_
  refine a5 ?_
  refine mulC ?_
  refine cg (aa (cT (sr ?_)))
  refine eM [_,_] ?_
  refine bK hh 0 [_,_] ?_
  intro ws hh
  replace hh : Hp _ (.blk _ _ [_, _] _ :: _) _ := hh
  refine aI (aa (ao (aM ?_)))
  refine lB (aU rfl (aV (vs := [_, _]) aC.out (hh.aw (i := 0) (n := 2) rfl rfl) rfl) (cB (dq rfl) bg)) ?_
  exact ⟨PX.nil, dm.err (by decide), rfl, (hh.sub (List.nil_sublist _)).ja⟩
 ·have hbig : ¬ 65536 < ps.length * qs.length := by rw [hpl, hql, ← hm]; exact h6
  refine ak (N := 67) (l := [.agg #[.int .i64 pv, .slice pA pn pc], .agg #[.int .i64 qv, .slice qA qn qc]]) Tryz.func104 rfl rfl (by simp) ?_
  refine sr ?_
  refine dp hh [_,_] ?_
  intro b2 w2 hh
  refine dp hh [_,_] ?_
  intro b3 w3 hh
  refine cj hh ?_
  intro b4 w4 hh
  refine aI (aa (ai (sr (bP ?_))))
  refine bQ hh 2 ?_
  refine a5 (bP ?_)
  refine bQ hh 1 ?_
  refine a5 ?_
  refine mulC ?_
  refine cg (aa (cF (al (aj (sr (aL (aa (ai (sr (bP ?_))))))))))
  refine bQ hh 2 ?_
  refine a5 (mI (aa (aq ?_)))
  replace hh := hh.fE 58 4
  have hall : ∀ i, ((ps.take i).flatMap fun x => qs.map (nI x)).length ≤ 65536 := fun i => by
   have h1 : (cL ps qs).length = ((ps.take i).flatMap fun x => qs.map (nI x)).length + ((ps.drop i).flatMap fun x => qs.map (nI x)).length := by
    unfold cL
    rw [← List.length_append, ← List.flatMap_append, List.take_append_drop]
   rw [jN] at h1
   omega
  refine cY [5, 6, 8, 10, 11, 12, 25, 26, 27, 28, 29, 30, 31, 32, 33, 34, 35, 36, 37, 38, 39, 40, 41, 42, 43, 44, 45, 46, 47, 48, 49, 50, 51, 52, 53, 54, 55, 56, 57, 58, 59, 60] 6 25
   (fun a x w' => ∃ (i : Nat) (M : List TR) (A' : Option Addr) (c' : Nat), i ≤ pn ∧ x = .int .i64 i ∧ a = .slice A' M.length c' ∧ M = ((ps.take i).flatMap fun x => qs.map (nI x)) ∧ (∀ e ∈ ((ps.take i).flatMap fun x => qs.map fun y => iC x.m y.m), e = 0) ∧ Hp w [.row A' M.length c' 58 4 (a8 TR.cells M), .blk b4 31 [.int .i64 0, .slice none 0 0] (0, 0), .blk b3 31 [.int .i64 qv, .slice qA qn qc] (0, 0), .blk b2 31 [.int .i64 pv, .slice pA pn pc] (0, 0)] w')
   (fun _ x _ => pn - (intOf x).toNat) ?_ ?_
  ·exact ⟨0, [], none, 0, Nat.zero_le _, rfl, rfl, rfl, fun e he => (nomatch he), hh⟩
  ·clear hh
   rintro ρ' a_ x_ w' ⟨i, M, A', c', hi, rfl, rfl, hM, hz, hh⟩
   have hMl := hall i
   rw [← hM] at hMl
   by_cases hlt : i < pn
   ·obtain ⟨x, hx⟩ := aR (l := ps) (k := i) (by omega)
    obtain ⟨ad, rfl, hr⟩ := hp.at_ (by omega)
    have hxm := List.mem_of_getElem? hx
    have hxo := okp x hxm
    have hxs := szp x hxm
    refine sr ?_
    refine aZ (aa (ai (cT (al (aj (ai (aq (sr ?_))))))))
    refine a0 (k := i) aJ.out aC.size rfl rfl (by omega) (by omega) (by decide) ?_
    refine cb (vs := [_, _, _, _]) aC.out rfl ((hr.ext hh.below).recAt TR.len hx) rfl (by decide) ?_
    refine cj hh ?_
    intro b8 w8 hh
    refine bK hh 0 [_,_,_,_] ?_
    intro ws hh
    replace hh : Hp _ (.blk _ _ [_, _, _, _] _ :: _) _ := hh
    refine aa (sr (bP ?_))
    refine bQ hh 3 ?_
    refine a5 (mI (aa (aq ?_)))
    replace hh := hh.perm (List.perm_middle (l₁ := [_]))
    simp only [List.cons_append, List.nil_append] at hh
    refine cY [5, 6, 10, 11, 12, 32, 33, 34, 35, 36, 37, 38, 39, 40, 41, 42, 43, 44, 45, 46, 47, 48, 49, 50, 51, 52, 53, 54, 55, 56, 57, 58, 59] 6 32
     (fun a z w' => ∃ (j : Nat) (N : List TR) (A' : Option Addr) (c' : Nat), j ≤ qn ∧ z = .int .i64 j ∧ a = .slice A' N.length c' ∧ N = M ++ (qs.take j).map (nI x) ∧ (∀ e ∈ (qs.take j).map (fun y => iC x.m y.m), e = 0) ∧ Hp w [.row A' N.length c' 58 4 (a8 TR.cells N), .blk b8 58 [.string x.m, .bool x.c.neg, .string x.c.cC, .int .i64 x.c.e] (0, 0), .blk b4 31 [.int .i64 0, .slice none 0 0] (0, 0), .blk b3 31 [.int .i64 qv, .slice qA qn qc] (0, 0), .blk b2 31 [.int .i64 pv, .slice (some ad) pn pc] (0, 0)] w')
     (fun _ z _ => qn - (intOf z).toNat) ?_ ?_
    ·refine ⟨0, M, A', c', Nat.zero_le _, rfl, rfl, by simp, fun e he => (nomatch he), hh⟩
    ·clear hh
     rintro ρ2 a2 x2 w2 ⟨j, N, A2, c2, hj, rfl, rfl, hN, hz2, hh⟩
     by_cases hjn : j < qn
     ·obtain ⟨y, hy⟩ := aR (l := qs) (k := j) (by omega)
      obtain ⟨ad2, rfl, hr2⟩ := hq.at_ (by omega)
      have hym := List.mem_of_getElem? hy
      have hyo := okq y hym
      have hys := szq y hym
      have hmul : ∀ w1, Calls Tryz.prog 175 #[.string x.m, .string y.m] w1 fun r w' => r = .returned (.tuple #[.string (mulM x.m y.m), .int .i64 (iC x.m y.m)]) ∧ Below w1.heap.size w1 w' := fun w1 => vr x.m y.m w1 hxs hys
      have hdm := fun A cc w1 hT1 hS1 => nS A 2 cc [x.c, y.c] w1 hT1 hS1 (by simpa using ⟨hxo.1, hyo.1⟩) (k + k2) (by simpa using ⟨hxo.2.mono (by omega), hyo.2.mono (by omega)⟩) (by omega) (by decide)
      rw [show iW ([x.c, y.c].map NR.d) = x.c.d * y.c.d by show 1 * x.c.d * y.c.d = _; rw [Dyadic.one_mul]] at hdm
      obtain ⟨R, hR⟩ := sR (f := fun x y => iC x.m y.m) hx hy
      have hzz : ∀ e ∈ ((ps.take i).flatMap fun x => qs.map fun y => iC x.m y.m) ++ (qs.take j).map (fun y => iC x.m y.m), e = 0 := fun e he => by
       rcases List.mem_append.1 he with he | he
       ·exact hz e he
       ·exact hz2 e he
      have hNl : N.length < 65536 := by
       have h1 := hall (i + 1)
       rw [lu hx, List.length_append, ← hM] at h1
       rw [hN, List.length_append]
       simp at h1 ⊢
       omega
      by_cases he : iC x.m y.m = 0
      ·refine sr ?_
       refine aZ (aa (ai (cT (al (aj (ai (aq (sr ?_))))))))
       refine a0 (k := j) aJ.out aC.size rfl rfl (by omega) (by omega) (by decide) ?_
       refine cb (vs := [_, _, _, _]) aC.out rfl ((hr2.ext hh.below).recAt TR.len hy) rfl (by decide) ?_
       refine cj hh ?_
       intro b10 w10 hh
       refine bK hh 0 [_,_,_,_] ?_
       intro ws hh
       replace hh : Hp _ (.blk _ _ [_, _, _, _] _ :: _) _ := hh
       refine aa (sr (bP ?_))
       refine bQ hh 2 ?_
       refine bP ?_
       refine bQ hh 0 ?_
       refine bE hh (hmul _) rfl ?_
       intro w41 hh
       refine mT ?_
       refine cM ?_
       refine cM ?_
       refine aS (aI (aa (ai (sr (mI ?_)))))
       refine dR (aa (cF (al (aj (au (mL (mS (bP ?_))))))))
       refine cf hh 2 [_,_,_] (bP ?_)
       refine cf hh 0 [_,_,_] ?_
       refine aO hh (cs := [_, _, _, _, _, _]) aJ.out aC.out (aG (bq rfl) (aG (bq rfl) bC)) rfl rfl (by decide) (by decide) (by decide) rfl (by decide) ?_
       intro b54 w54 hh
       refine bE hh (hdm _ _ _ (hT.hp hh) (hh.az (i := 0) rfl)) rfl ?_
       intro w55 hh
       refine eM [_,_,_,_] ?_
       refine aO hh (cs := [_, _, _, _]) aJ.out aC.out (aG (bq rfl) bC) rfl rfl (by decide) (by decide) (by decide) rfl (by decide) ?_
       intro b57 w57 hh
       refine cO hh (i := 3) rfl rfl rfl (hh.az (i := 0) rfl) aJ.out aC.out rfl (by decide) (by first | rfl | exact dK _ | exact cU _ | exact oneCells_i64s _ | exact cz NR.one _) (by omega) (by omega) (by decide) ?_
       intro A58 c58 w58 hh
       simp only [List.set_cons_zero, List.set_cons_succ] at hh
       replace hh := hh.sub (List.sublist_cons_self _ _)
       refine aL (aK (a3 (aj (au ?_))))
       refine bO (mI (aK (aj ?_)))
       have e1 : a8 TR.cells N ++ [.string (mulM x.m y.m), .bool (nR (x.c.d * y.c.d)).neg, .string (nR (x.c.d * y.c.d)).cC, .int .i64 (nR (x.c.d * y.c.d)).e] = a8 TR.cells (N ++ [nI x y]) := by rw [du, vM]; rfl
       replace hh := show Hp w (_ :: _ :: .row A58 (N.length + 1) c58 58 4 (a8 TR.cells N ++ [.string (mulM x.m y.m), .bool (nR (x.c.d * y.c.d)).neg, .string (nR (x.c.d * y.c.d)).cC, .int .i64 (nR (x.c.d * y.c.d)).e]) :: _) w58 from hh
       rw [e1] at hh
       replace hh := hh.sub (List.Sublist.cons _ (List.Sublist.cons _ (List.Sublist.cons_cons _ (List.Sublist.cons_cons _ (List.Sublist.cons_cons _ (List.Sublist.cons_cons _ (List.Sublist.cons_cons _ List.Sublist.slnil)))))))
       refine ⟨⟨j + 1, N ++ [nI x y], _, _, by omega, rfl, by rw [List.length_append]; rfl, by rw [hN, aW hy, List.map_append, List.append_assoc]; rfl, fun e h => ?_, ?_⟩, by show qn - (j + 1) < qn - j; omega, ?_⟩
       ·rw [aW hy, List.map_append, List.mem_append] at h
        rcases h with h | h
        ·exact hz2 e h
        ·rw [List.mem_singleton.1 h]; exact he
       ·rw [List.length_append]; exact hh
       ·(repeat (first | exact aA _ _ _ | refine aE rfl ?_ | refine ax rfl ?_))
      ·rw [ya hbig hR hzz he]
       generalize iC x.m y.m = e at *
       refine sr ?_
       refine aZ (aa (ai (cT (al (aj (ai (aq (sr ?_))))))))
       refine a0 (k := j) aJ.out aC.size rfl rfl (by omega) (by omega) (by decide) ?_
       refine cb (vs := [_, _, _, _]) aC.out rfl ((hr2.ext hh.below).recAt TR.len hy) rfl (by decide) ?_
       refine cj hh ?_
       intro b10 w10 hh
       refine bK hh 0 [_,_,_,_] ?_
       intro ws hh
       replace hh : Hp _ (.blk _ _ [_, _, _, _] _ :: _) _ := hh
       refine aa (sr (bP ?_))
       refine bQ hh 2 ?_
       refine bP ?_
       refine bQ hh 0 ?_
       refine bE hh (hmul _) rfl ?_
       intro w41 hh
       refine mT ?_
       refine cM ?_
       refine cM ?_
       refine aS (aI (aa (ai (sr (mI ?_)))))
       refine dR (aa (cT (sr ?_)))
       refine eM [_,_] (mI ?_)
       refine bK hh 3 [_,_] ?_
       intro ws hh
       replace hh : Hp _ (_ :: _ :: _ :: .blk _ _ [_, _] _ :: _) _ := hh
       refine aI (aa (ao (aM (bU (aM (aM (bU (bU (aM (aM (bU ?_)))))))))))
       refine aM ?_
       refine lB (aU rfl (aV (vs := [_, _]) aC.out (hh.aw (i := 3) (n := 2) rfl rfl) rfl) (cB (dq rfl) bg)) ?_
       exact ⟨PX.nil, dm.err he, rfl, (hh.sub (List.nil_sublist _)).ja⟩
     ·obtain rfl : j = qn := by omega
      rw [List.take_of_length_le (by omega)] at hz2 hN
      refine sr ?_
      refine aZ (aa (ai (cF ?_)))
      refine a4 ?_
      refine aD (aD (bp (a3 (aj (au ?_)))))
      refine bO (mI (aK (aj ?_)))
      replace hh := hh.sub (List.Sublist.cons_cons _ (List.Sublist.cons _ (List.Sublist.cons_cons _ (List.Sublist.cons_cons _ (List.Sublist.cons_cons _ List.Sublist.slnil)))))
      refine ⟨⟨i + 1, N, A2, c2, by omega, rfl, rfl, by rw [lu hx, ← hM, List.take_of_length_le (by omega)]; exact hN, fun e h => ?_, hh⟩, by show pn - (i + 1) < pn - i; omega, ?_⟩
      ·rw [lu (f := fun (x y : TR) => iC x.m y.m) hx, List.mem_append, List.take_length] at h
       rcases h with h | h
       ·exact hz e h
       ·exact hz2 e h
      ·(repeat (first | exact aA _ _ _ | refine aE rfl ?_ | refine ax rfl ?_))
   ·obtain rfl : i = pn := by omega
    rw [List.take_of_length_le (by omega)] at hz hM
    have hMp : M = cL ps qs := hM
    rw [nH hbig hz, ← hMp]
    have hpo := qI okp okq (by omega)
    rw [← hMp] at hpo
    refine sr ?_
    refine aZ (aa (ai (cF ?_)))
    refine a4 ?_
    refine aD (aD (bp (aj (sr (bP ?_)))))
    refine bQ hh 3 ?_
    refine mL ?_
    refine aH (hG pv A' M.length c' M (k + k2) _ hT hh rfl (by omega) (by omega) hpo) ar.out rfl (by decide) ?_
    rintro e_ w64 ⟨g, og, rfl, hh⟩
    refine ⟨_, rfl, ?_⟩
    refine cM ?_
    refine cM ?_
    refine bK hh 1 [_,_] ?_
    intro ws hh
    replace hh : Hp _ (_ :: .blk _ _ [_, _] _ :: _) _ := hh
    refine aI (aa (ao ?_))
    refine lB (aU rfl (aV (vs := [_, _]) aC.out (hh.aw (i := 1) (n := 2) rfl rfl) rfl) (cB (dq rfl) bg)) ?_
    exact ⟨g, og, rfl, hh.sub (List.Sublist.cons_cons _ (List.nil_sublist _))⟩
end Go.Proofs.YtkgdagjklakajaaGreatDoor
/- The walks through ogeeref08.Like and Times. -/
namespace Go.Proofs.YtkgdagjklakajaaGreatDoor
open Go.RowKit
end Go.Proofs.YtkgdagjklakajaaGreatDoor
/- The walks through poly.Const and poly.Var. -/
namespace Go.Proofs.YtkgdagjklakajaaGreatDoor
open Go.RowKit
def fu (v : Int) : ByteArray := ⟨(List.replicate v.toNat 0).toArray⟩
theorem ka {v : Int} (h : 0 ≤ v) : ((fu v).size : Int) = v := by
 have : (fu v).size = v.toNat := by unfold fu; show (List.replicate v.toNat (0 : UInt8)).toArray.size = _; rw [List.size_toArray, List.length_replicate]
 omega
theorem uW (v : Int) : dJ (fu v).data.toList = true := by
 unfold dJ fu
 rw [List.all_eq_true]
 intro c hc
 have : (⟨(List.replicate v.toNat (0 : UInt8)).toArray⟩ : ByteArray).data.toList = List.replicate v.toNat 0 := rfl
 rw [this] at hc
 rw [(List.mem_replicate.1 hc).2]
 decide
theorem vX {l : List TR} (h : l.length ≤ 4096) : gJ l = 0 := by
 unfold gJ
 have := bW l
 rw [if_neg (by omega)]
theorem rC {v : Int} {t : TR} (hf : gh v = true) (h : eW v t = true) : k9 v [t] = 0 := by
 unfold k9
 rw [if_neg (by rw [hf]; simp [h]), if_neg (by simp), vX (by simp)]
def rI (v : Int) : Int := if gh v = false then 1 else 0
theorem kF (v : Int) (c : NR) (k : Nat) (w : World) (hT : gM w) (hc : c.ok ∧ Sz k c.d) (hk : k ≤ 2999980) :
  Calls Tryz.prog 26 #[.int .i64 v, .agg #[.bool c.neg, .string c.cC, .int .i64 c.e]] w fun r w' => ∃ g : PX, dm (rI v) v (aP [⟨fu v, c⟩]) g ∧ r = .returned (.tuple #[.agg #[.int .i64 g.v, .slice g.A g.n g.c], .int .i64 (rI v)]) ∧ Hp w [g.row] w' := by
 have hh := Hp.start w
 have hfw := fun w1 => jH v w1
 cases hf : gh v with
 | false =>
  rw [hf] at hfw
  rw [show rI v = 1 by unfold rI; rw [if_pos hf]]
  refine ak (N := 20) (l := [.int .i64 v, .agg #[.bool c.neg, .string c.cC, .int .i64 c.e]]) Tryz.func26 rfl rfl (by simp) ?_
  refine sr ?_
  refine dp hh [_,_,_] ?_
  intro b3 w3 hh
  refine cj hh ?_
  intro b4 w4 hh
  refine aI (aa (ai (sr (mI ?_))))
  refine bE hh (hfw _) rfl ?_
  intro w7 hh
  refine eo ?_
  refine aa (cT (sr ?_))
  refine eM [_,_] ?_
  refine bK hh 0 [_,_] ?_
  intro ws hh
  replace hh : Hp _ (.blk _ _ [_, _] _ :: _) _ := hh
  refine aI (aa (ao (aM ?_)))
  refine lB (aU rfl (aV (vs := [_, _]) aC.out (hh.aw (i := 0) (n := 2) rfl rfl) rfl) (cB (dq rfl) bg)) ?_
  exact ⟨PX.nil, dm.err (by decide), rfl, (hh.sub (List.nil_sublist _)).ja⟩
 | true =>
  rw [hf] at hfw
  obtain ⟨h0, h12⟩ := kB.1 hf
  have hm : k9 v [⟨fu v, c⟩] = 0 := rC hf (by unfold eW; rw [uW, decide_eq_true (ka h0)]; rfl)
  have hmk := fun A cc w1 hT1 hS1 => jk v A 1 cc [⟨fu v, c⟩] k w1 hT1 hS1 (by decide) (by omega) (fun t ht => by rw [List.mem_singleton.1 ht]; exact hc) (fun t ht => by rw [List.mem_singleton.1 ht]; have := ka h0; show (fu v).size ≤ _; omega)
  rw [hm] at hmk
  rw [show rI v = 0 by unfold rI; rw [if_neg (by rw [hf]; decide)]]
  refine ak (N := 20) (l := [.int .i64 v, .agg #[.bool c.neg, .string c.cC, .int .i64 c.e]]) Tryz.func26 rfl rfl (by simp) ?_
  refine sr ?_
  refine dp hh [_,_,_] ?_
  intro b3 w3 hh
  refine cj hh ?_
  intro b4 w4 hh
  refine aI (aa (ai (sr (mI ?_))))
  refine bE hh (hfw _) rfl ?_
  intro w7 hh
  refine eo ?_
  refine aa (cF (al (aj (ai ?_))))
  refine lz [] [0, 0, 2, 6, 0, 30, 62, 127, 255, 255, 1023, 2047] 7 [[(0, none)], [(0, none)], [(11, some 1)], [(12, some 2)], [(3, none)], [(13, some 3), (14, some 4)], [(15, some 5)]] [(6, 16), (5, 15), (4, 14), (3, 13), (2, 12), (1, 11), (0, 10)] [([], 4, [(6, 16), (5, 15), (4, 14), (3, 13), (2, 12), (1, 11), (0, 10)])] hh mixed (by kernel_rfl) (by kernel_rfl) (by decide) ?_
  refine fe ?_
  refine fe ?_
  refine bz (i := 2) (kf v.toNat 1 (j6 (List.replicate v.toNat 0))) (kf.ext) ?_ ?_
  ·intro ρ1 w1 hj hR
   exact nA v.toNat ▸ xC (n := v.toNat) (show ρ1 11 = Value.int _ _ from hR.1) (show ρ1 11 = Value.int _ _ from hR.1) (by omega) (by omega) aJ.out aC.out rfl (by omega) (by omega) (fun _ _ h1 h2 => ⟨h2, h1⟩)
  refine bz (i := 3) (Is (.string (fu v))) (Is.ext) ?_ ?_
  ·intro ρ1 w1 hj hR
   exact let ⟨g, e, o⟩ := hR.1; dD rfl (jt (l := List.replicate v.toNat 0) aJ.out aJ.out aJ.out e o) ⟨Below.refl _ _, rfl⟩
  refine gj 1 [_,_,_] ?_
  refine dB [_,_,_,_] ?_
  refine yQ [_,_,_,_] ?_
  refine bo ?_
  intro p_ hp_
  simp only [List.mem_cons, List.not_mem_nil, or_false] at hp_
  rcases hp_ with rfl
  intro f W hJ hV
  have hb_3 := hJ.bl
  obtain ⟨v16, v15, v14, v13, v12, v11, v10, _⟩ := hV
  simp only [jg]
  have e10 : f 0 = _ := v10
  rw [e10]
  have e11 : f 1 = _ := v11
  rw [e11]
  obtain ⟨g12, e12, o12⟩ : kf v.toNat 1 (j6 (List.replicate v.toNat 0)) (f 2) W := v12
  rw [e12]
  have e13 : f 3 = _ := v13
  rw [e13]
  have e14 : f 4 = _ := v14
  rw [e14]
  have e15 : f 5 = _ := v15
  rw [e15]
  obtain ⟨A16, c16, e16, f16⟩ : Rows _ _ _ (f 6) W := v16
  rw [e16]
  replace hh := hJ.hp
  clear e10 e11 e12 e13 e14 e15 e16 hJ
  refine aH (hmk _ _ _ (hT.hp hh) f16) ar.out rfl (by decide) ?_; rintro e_ w17 ⟨g, og, rfl, h3⟩; refine ⟨_, rfl, ?_⟩; replace hh := hh.join h3
  refine cx ?_
  simp only [List.cons_append, List.nil_append] at hh
  refine cn (i := 8) (by repeat (first | exact bS | refine bG ?_ | refine bT ?_ | refine np_scope ?_)) rfl (by kernel_rfl) (by kernel_rfl) (by kernel_rfl) (fun _ => cw (show _ = Value.tuple (List.toArray _) from rfl) rfl) (by decide) ?_
  refine cn (i := 9) (by repeat (first | exact bS | refine bG ?_ | refine bT ?_ | refine np_scope ?_)) rfl (by kernel_rfl) (by kernel_rfl) (by kernel_rfl) (fun _ => cw (show _ = Value.tuple (List.toArray _) from rfl) rfl) (by decide) ?_
  refine dX 10 (by decide) (by kernel_rfl) (by decide) (by kernel_rfl) (by kernel_rfl) ?_
  refine bK hh 1 [_,_] ?_
  intro ws hh
  replace hh : Hp _ (_ :: .blk _ _ [_, _] _ :: _) _ := hh
  refine aI (aa (ao ?_))
  refine lB (aU rfl (aV (vs := [_, _]) aC.out (hh.aw (i := 1) (n := 2) rfl rfl) rfl) (cB (dq rfl) bg)) ?_
  exact ⟨g, og, rfl, hh.sub (List.Sublist.cons_cons _ (List.nil_sublist _))⟩
def pI (v : Int) (x : Nat) : ByteArray := ⟨((List.replicate v.toNat (0 : UInt8)).set x 1).toArray⟩
theorem oM {v : Int} {x : Nat} (h : 0 ≤ v) : ((pI v x).size : Int) = v := by
 have : (pI v x).size = v.toNat := by unfold pI; show ((List.replicate v.toNat (0 : UInt8)).set x 1).toArray.size = _; rw [List.size_toArray, List.length_set, List.length_replicate]
 omega
theorem wW (v : Int) (x : Nat) : dJ (pI v x).data.toList = true := by
 unfold dJ
 rw [List.all_eq_true]
 intro c hc
 have : (pI v x).data.toList = (List.replicate v.toNat 0).set x 1 := rfl
 rw [this] at hc
 rcases List.mem_or_eq_of_mem_set hc with h | rfl
 ·rw [(List.mem_replicate.1 h).2]; decide
 ·decide
theorem vu {l : List UInt8} {i : Nat} {c : UInt8} (h : i < l.length) : bV (j6 l) (i * 1) [.int .u8 c.toNat] = j6 (l.set i c) := by
 unfold bV j6
 rw [Nat.mul_one, List.set_eq_take_append_cons_drop, if_pos h, List.map_append, List.map_cons, List.map_take, List.map_drop, List.append_assoc]
 rfl
def oe (v x : Int) : Int := if gh v = false ∨ x < 0 ∨ v ≤ x then 1 else 0
theorem rY (v x : Int) (w : World) (hT : gM w) :
  Calls Tryz.prog 28 #[.int .i64 v, .int .i64 x] w fun r w' => ∃ g : PX, dm (oe v x) v (aP [⟨pI v x.toNat, nR ((1 : Int) : Dyadic)⟩]) g ∧ r = .returned (.tuple #[.agg #[.int .i64 g.v, .slice g.A g.n g.c], .int .i64 (oe v x)]) ∧ Hp w [g.row] w' := by
 have hh := Hp.start w
 have hfw := fun w1 => jH v w1
 cases hf : gh v with
 | false =>
  rw [hf] at hfw
  rw [show oe v x = 1 by unfold oe; rw [if_pos (.inl hf)]]
  refine ak (N := 34) (l := [.int .i64 v, .int .i64 x]) Tryz.func28 rfl rfl (by simp) ?_
  refine sr ?_
  refine cj hh ?_
  intro b4 w4 hh
  refine aI (aa (ai (sr (mI ?_))))
  refine bE hh (hfw _) rfl ?_
  intro w8 hh
  refine eo ?_
  refine mB ?_
  first | refine gS ?_ | (refine gT ?_; refine mI ?_) | refine gV ?_
  first | refine gS ?_ | (refine gT ?_; refine aZ ?_) | refine gV ?_
  first | refine ct ?_ | refine cq ?_
  refine mB ?_
  first | refine gS ?_ | (refine gT ?_; refine mI ?_) | refine gV ?_
  first | refine gS ?_ | (refine gT ?_; refine mI ?_) | refine gV ?_
  first | refine gS ?_ | (refine gT ?_; refine dx ?_) | refine gV ?_
  first | refine ct ?_ | refine cq ?_
  refine aa (cT (sr ?_))
  refine eM [_,_] ?_
  refine bK hh 0 [_,_] ?_
  intro ws hh
  replace hh : Hp _ (.blk _ _ [_, _] _ :: _) _ := hh
  refine aI (aa (ao (aM ?_)))
  refine lB (aU rfl (aV (vs := [_, _]) aC.out (hh.aw (i := 0) (n := 2) rfl rfl) rfl) (cB (dq rfl) bg)) ?_
  exact ⟨PX.nil, dm.err (by decide), rfl, (hh.sub (List.nil_sublist _)).ja⟩
 | true =>
  rw [hf] at hfw
  obtain ⟨h0, h12⟩ := kB.1 hf
  by_cases hx0 : x < 0
  ·rw [show oe v x = 1 by unfold oe; rw [if_pos (.inr (.inl hx0))]]
   refine ak (N := 34) (l := [.int .i64 v, .int .i64 x]) Tryz.func28 rfl rfl (by simp) ?_
   refine sr ?_
   refine cj hh ?_
   intro b4 w4 hh
   refine aI (aa (ai (sr (mI ?_))))
   refine bE hh (hfw _) rfl ?_
   intro w8 hh
   refine eo ?_
   refine mB ?_
   first | refine gS ?_ | (refine gT ?_; refine mI ?_) | refine gV ?_
   first | refine gS ?_ | (refine gT ?_; refine aZ ?_) | refine gV ?_
   first | refine ct ?_ | refine cq ?_
   refine mB ?_
   first | refine gS ?_ | (refine gT ?_; refine mI ?_) | refine gV ?_
   first | refine gS ?_ | (refine gT ?_; refine mI ?_) | refine gV ?_
   first | refine gS ?_ | (refine gT ?_; refine dx ?_) | refine gV ?_
   first | refine ct ?_ | refine cq ?_
   refine aa (cT (sr ?_))
   refine eM [_,_] ?_
   refine bK hh 0 [_,_] ?_
   intro ws hh
   replace hh : Hp _ (.blk _ _ [_, _] _ :: _) _ := hh
   refine aI (aa (ao (aM ?_)))
   refine lB (aU rfl (aV (vs := [_, _]) aC.out (hh.aw (i := 0) (n := 2) rfl rfl) rfl) (cB (dq rfl) bg)) ?_
   exact ⟨PX.nil, dm.err (by decide), rfl, (hh.sub (List.nil_sublist _)).ja⟩
  ·by_cases hx1 : v ≤ x
   ·rw [show oe v x = 1 by unfold oe; rw [if_pos (.inr (.inr hx1))]]
    refine ak (N := 34) (l := [.int .i64 v, .int .i64 x]) Tryz.func28 rfl rfl (by simp) ?_
    refine sr ?_
    refine cj hh ?_
    intro b4 w4 hh
    refine aI (aa (ai (sr (mI ?_))))
    refine bE hh (hfw _) rfl ?_
    intro w8 hh
    refine eo ?_
    refine mB ?_
    first | refine gS ?_ | (refine gT ?_; refine mI ?_) | refine gV ?_
    first | refine gS ?_ | (refine gT ?_; refine aZ ?_) | refine gV ?_
    first | refine ct ?_ | refine cq ?_
    refine mB ?_
    first | refine gS ?_ | (refine gT ?_; refine mI ?_) | refine gV ?_
    first | refine gS ?_ | (refine gT ?_; refine mI ?_) | refine gV ?_
    first | refine gS ?_ | (refine gT ?_; refine dx ?_) | refine gV ?_
    first | refine ct ?_ | refine cq ?_
    refine aa (cT (sr ?_))
    refine eM [_,_] ?_
    refine bK hh 0 [_,_] ?_
    intro ws hh
    replace hh : Hp _ (.blk _ _ [_, _] _ :: _) _ := hh
    refine aI (aa (ao (aM ?_)))
    refine lB (aU rfl (aV (vs := [_, _]) aC.out (hh.aw (i := 0) (n := 2) rfl rfl) rfl) (cB (dq rfl) bg)) ?_
    exact ⟨PX.nil, dm.err (by decide), rfl, (hh.sub (List.nil_sublist _)).ja⟩
   ·rw [show oe v x = 0 by unfold oe; rw [if_neg (by rintro (h | h | h); exact absurd (hf.symm.trans h) (by decide); omega; omega)]]
    have hm : k9 v [⟨pI v x.toNat, nR ((1 : Int) : Dyadic)⟩] = 0 := rC hf (by unfold eW; rw [wW, decide_eq_true (oM h0)]; rfl)
    have z1 : Sz 24 ((1 : Int) : Dyadic) := wR (m := 1) (e := 0) (by decide) (by decide) (by decide)
    have hmk := fun A cc w1 hT1 hS1 => jk v A 1 cc [⟨pI v x.toNat, nR ((1 : Int) : Dyadic)⟩] 24 w1 hT1 hS1 (by decide) (by omega) (fun t ht => by rw [List.mem_singleton.1 ht]; exact ⟨z1.ok (by decide), by show Sz 24 (nR _).d; rw [eO]; exact z1⟩) (fun t ht => by rw [List.mem_singleton.1 ht]; have := oM (x := x.toNat) h0; show (pI v x.toNat).size ≤ _; omega)
    rw [hm] at hmk
    refine ak (N := 34) (l := [.int .i64 v, .int .i64 x]) Tryz.func28 rfl rfl (by simp) ?_
    refine sr ?_
    refine cj hh ?_
    intro b4 w4 hh
    refine aI (aa (ai (sr (mI ?_))))
    refine bE hh (hfw _) rfl ?_
    intro w8 hh
    refine eo ?_
    refine mB ?_
    first | refine gS ?_ | (refine gT ?_; refine mI ?_) | refine gV ?_
    first | refine gS ?_ | (refine gT ?_; refine aZ ?_) | refine gV ?_
    first | refine ct ?_ | refine cq ?_
    refine mB ?_
    first | refine gS ?_ | (refine gT ?_; refine mI ?_) | refine gV ?_
    first | refine gS ?_ | (refine gT ?_; refine mI ?_) | refine gV ?_
    first | refine gS ?_ | (refine gT ?_; refine dx ?_) | refine gV ?_
    first | refine ct ?_ | refine cq ?_
    refine aa (cF (al (aj (sr (mI ?_)))))
    refine fH (n := (v.toNat)) hh rfl rfl (by omega) (by omega) aJ.out aC.out rfl (by omega) (by omega) (by decide) ?_
    intro b21 w21 hh
    refine aL (aa (sr (mL (mI ?_))))
    refine bs (k := (x.toNat)) aJ.out aC.size rfl rfl (by omega) (by omega) (by decide) ?_
    rw [nA] at hh
    have hll : (j6 (List.replicate v.toNat 0)).length = v.toNat := by simp [j6]
    refine br hh (i := 0) (vs := [_]) rfl rfl (bI rfl) rfl aC.out rfl (by rw [hll]; omega) rfl ?_
    intro ws hh
    simp only [List.set_cons_zero] at hh
    rw [show bV (j6 (List.replicate v.toNat 0)) (x.toNat * 1) [.int .u8 1] = j6 ((List.replicate v.toNat 0).set x.toNat 1) from vu (l := List.replicate v.toNat 0) (i := x.toNat) (c := 1) (by rw [List.length_replicate]; omega)] at hh
    refine aa (ai ?_)
    refine lz [] [0, 0, 2, 0, 14, 30, 63, 127, 127, 511, 1023] 6 [[(0, none)], [(6, none)], [(26, some 1)], [], [(27, some 2), (28, some 3)], [(29, some 4)]] [(5, 30), (4, 29), (3, 28), (2, 27), (1, 26), (0, 25)] [([], 4, [(5, 30), (4, 29), (3, 28), (2, 27), (1, 26), (0, 25)])] hh mixed (by kernel_rfl) (by kernel_rfl) (by decide) ?_
    refine fe ?_
    refine iB ?_
    refine bz (i := 2) (Is (.string ⟨(((List.replicate v.toNat 0).set x.toNat 1)).toArray⟩)) Is.ext ?_ ?_
    ·intro ρ1 w1 hj hR
     exact dD rfl (jt (l := ((List.replicate v.toNat 0).set x.toNat 1)) aJ.out aJ.out aJ.out (show ρ1 26 = Value.slice _ _ _ from hR.1) (hj.hp.az (i := 0) rfl)) ⟨Below.refl _ _, rfl⟩
    refine dC (fun _ hj => lR 1 _ (hT.hp hj.hp) (by decide) (by decide)) ?_
    refine dB [_,_,_,_] ?_
    refine yQ [_,_,_,_] ?_
    refine bo ?_
    intro p_ hp_
    simp only [List.mem_cons, List.not_mem_nil, or_false] at hp_
    rcases hp_ with rfl
    intro f W hJ hV
    have hb_5 := hJ.bl
    obtain ⟨v30, v29, v28, v27, v26, v25, _⟩ := hV
    simp only [jg]
    have e25 : f 0 = _ := v25
    rw [e25]
    have e26 : f 1 = _ := v26
    rw [e26]
    have e27 : f 2 = _ := v27
    rw [e27]
    have e28 : f 3 = _ := v28
    rw [e28]
    have e29 : f 4 = _ := v29
    rw [e29]
    obtain ⟨A30, c30, e30, f30⟩ : Rows _ _ _ (f 5) W := v30
    rw [e30]
    replace hh := hJ.hp
    clear e25 e26 e27 e28 e29 e30 hJ
    refine aH (hmk _ _ _ (hT.hp hh) f30) ar.out rfl (by decide) ?_; rintro e_ w31 ⟨g, og, rfl, h3⟩; refine ⟨_, rfl, ?_⟩; replace hh := hh.join h3
    refine cx ?_
    simp only [List.cons_append, List.nil_append] at hh
    refine cn (i := 7) (by repeat (first | exact bS | refine bG ?_ | refine bT ?_ | refine np_scope ?_)) rfl (by kernel_rfl) (by kernel_rfl) (by kernel_rfl) (fun _ => cw (show _ = Value.tuple (List.toArray _) from rfl) rfl) (by decide) ?_
    refine cn (i := 8) (by repeat (first | exact bS | refine bG ?_ | refine bT ?_ | refine np_scope ?_)) rfl (by kernel_rfl) (by kernel_rfl) (by kernel_rfl) (fun _ => cw (show _ = Value.tuple (List.toArray _) from rfl) rfl) (by decide) ?_
    refine dX 9 (by decide) (by kernel_rfl) (by decide) (by kernel_rfl) (by kernel_rfl) ?_
    refine bK hh 2 [_,_] ?_
    intro ws hh
    replace hh : Hp _ (_ :: _ :: .blk _ _ [_, _] _ :: _) _ := hh
    refine aI (aa (ao ?_))
    refine lB (aU rfl (aV (vs := [_, _]) aC.out (hh.aw (i := 2) (n := 2) rfl rfl) rfl) (cB (dq rfl) bg)) ?_
    exact ⟨g, og, rfl, hh.sub (List.Sublist.cons_cons _ (List.nil_sublist _))⟩
end Go.Proofs.YtkgdagjklakajaaGreatDoor
/- The walks through ogeeref08.Make, Const, Var. -/
namespace Go.Proofs.YtkgdagjklakajaaGreatDoor
open Go.RowKit
end Go.Proofs.YtkgdagjklakajaaGreatDoor
/- The walk through poly.Mul. -/
namespace Go.Proofs.YtkgdagjklakajaaGreatDoor
open Go.RowKit
def fo (base : Nat) (E v : Int) (ts : List TR) : VP := fun x W => ∃ (g : PX) (w1 : World), x = .agg #[.int .i64 g.v, .slice g.A g.n g.c] ∧ dm E v ts g ∧ base ≤ w1.heap.size ∧ Hp w1 [g.row] W
theorem fo.ext {base : Nat} {E v : Int} {ts : List TR} (x : Value) (w w' : World) (h : fo base E v ts x w) (hb : Below w.heap.size w w') : fo base E v ts x w' := let ⟨g, w1, h1, h2, h3, h4⟩ := h; ⟨g, w1, h1, h2, h3, h4.ext hb⟩
def eI (base : Nat) (E v : Int) (ts : List TR) : VP := fun x W => ∃ (g : PX) (w1 : World), x = .tuple #[.agg #[.int .i64 g.v, .slice g.A g.n g.c], .int .i64 E] ∧ dm E v ts g ∧ base ≤ w1.heap.size ∧ Hp w1 [g.row] W
theorem eI.ext {base : Nat} {E v : Int} {ts : List TR} (x : Value) (w w' : World) (h : eI base E v ts x w) (hb : Below w.heap.size w w') : eI base E v ts x w' := let ⟨g, w1, h1, h2, h3, h4⟩ := h; ⟨g, w1, h1, h2, h3, h4.ext hb⟩
def qw (base : Nat) (v : Int) (ts : List TR) : VP := fun x W => ∃ (g : PX) (w1 : World), x = .slice g.A g.n g.c ∧ dm 0 v ts g ∧ base ≤ w1.heap.size ∧ Hp w1 [g.row] W
theorem qw.ext {base : Nat} {v : Int} {ts : List TR} (x : Value) (w w' : World) (h : qw base v ts x w) (hb : Below w.heap.size w w') : qw base v ts x w' := let ⟨g, w1, h1, h2, h3, h4⟩ := h; ⟨g, w1, h1, h2, h3, h4.ext hb⟩
theorem PX.ne {g : PX} {w1 W : World} {b : Nat} {t : TypeId} {cs : Array Value} {fz : Nat × Nat} (h : Hp w1 [g.row] W) (h3 : W.heap[b]? = some (.cells cs t fz)) (h1 : 58 ≠ t) : ∀ x ∈ [g.row], x.id ≠ some b := fun x hx => by
 have hx2 := h.own x hx
 obtain rfl := List.mem_singleton.1 hx
 exact zd hx2 h3 h1
def dT (a : List TR × Int) (g : PX) : List TR × Int := if a.2 = 0 then (aP (cL a.1 g.ts), fm a.1 g.ts) else a
def uA (ps : List PX) : List TR × Int := match ps with | [] => ([], 0) | g :: l => l.foldl dT (g.ts, 0)
def eE (ps : List PX) : Int := if eX ps = 0 then (uA ps).2 else eX ps
theorem nC {a : List TR × Int} (h : a.2 ≠ 0) : ∀ l : List PX, l.foldl dT a = a
 | [] => rfl
 | g :: l => by
  rw [List.foldl_cons, show dT a g = a by unfold dT; rw [if_neg h]]
  exact nC h l
theorem uP {l : List PX} {a : List TR × Int} {i : Nat} {g : PX} (hx : l[i]? = some g) (h0 : ((l.take i).foldl dT a).2 = 0) (h : fm ((l.take i).foldl dT a).1 g.ts ≠ 0) : (l.foldl dT a).2 = fm ((l.take i).foldl dT a).1 g.ts := by
 have e : l = l.take i ++ g :: l.drop (i + 1) := by rw [← jF hx, List.take_append_drop]
 have e2 : l.foldl dT a = (l.drop (i + 1)).foldl dT (dT ((l.take i).foldl dT a) g) := by
  conv => lhs; rw [e]
  rw [List.foldl_append, List.foldl_cons]
 rw [e2]
 have e3 : dT ((l.take i).foldl dT a) g = (aP (cL ((l.take i).foldl dT a).1 g.ts), fm ((l.take i).foldl dT a).1 g.ts) := if_pos h0
 rw [e3, nC h]
theorem vm {l : List PX} {a : List TR × Int} {i : Nat} {g : PX} (hx : l[i]? = some g) (h0 : ((l.take i).foldl dT a).2 = 0) : (l.take (i + 1)).foldl dT a = (aP (cL ((l.take i).foldl dT a).1 g.ts), fm ((l.take i).foldl dT a).1 g.ts) := by
 rw [aW hx, List.foldl_append, List.foldl_cons, List.foldl_nil]
 exact if_pos h0
theorem p6 {p q : List TR} {k j : Nat} (hp : gi k p) (hq : gi j q) (sq : ∀ t ∈ q, t.m.size ≤ 100000) (h : fm p q = 0) (hk : k + j ≤ 900000) : gi (k + j + 65536) (aP (cL p q)) ∧ ∀ t ∈ aP (cL p q), t.m.size ≤ 100000 := by
 obtain ⟨h6, _, h4⟩ := lb h
 have ho := qI hp hq (by omega)
 have hz := lv fun t ht => (ho t ht).2
 rw [jN] at hz
 refine ⟨fun t ht => ?_, fun t ht => ?_⟩
 ·have : Sz (k + j + 65536) t.c.d := (hz t ht).mono (by omega)
  refine ⟨?_, this⟩
  rw [(eP _).nf t ht]
  exact this.ok (by omega)
 ·obtain ⟨s, hs, e⟩ := iJ t ht
  obtain ⟨x, hx, hs⟩ := List.mem_flatMap.1 hs
  obtain ⟨y, hy, rfl⟩ := List.mem_map.1 hs
  rw [← e]
  exact Nat.le_trans (uM _ _) (sq y hy)
theorem gF (L : Option Addr) (n c : Nat) (ps : List PX) (k : Nat) (w : World) (hT : gM w) (hL : Sl w L n 2 (a8 PX.cells ps)) (hcn : n ≤ c) (hn : n ≤ 8) (hf : ∀ g ∈ ps, g.at_ w) (hl : ∀ g ∈ ps, g.md k) (hk : k ≤ 2000) :
  Calls Tryz.prog 33 #[.slice L n c] w fun r w' => ∃ g : PX, dm (eE ps) (l0 ps) (uA ps).1 g ∧ r = .returned (.tuple #[.agg #[.int .i64 g.v, .slice g.A g.n g.c], .int .i64 (eE ps)]) ∧ Hp w [g.row] w' := by
 have hh := Hp.start w
 have hln := hL.ck PX.len (by decide)
 have hlk := fun w1 hT1 hb => lZ L n c ps k w1 hT1 (hL.ext hb) (by omega) (fun g hg => (hf g hg).ext hb) hl
 unfold eE
 by_cases h0 : eX ps = 0
 ·rw [if_pos h0]
  rw [h0] at hlk
  obtain ⟨hne, hev, hvv⟩ := g9 h0
  obtain ⟨g0, pt, rfl⟩ := List.exists_cons_of_ne_nil hne
  rw [mV (g := g0) rfl]
  have hnp : pt.length + 1 = n := hln
  obtain ⟨ad, rfl, hr⟩ := hL.at_ (by omega)
  have hm0 : g0 ∈ g0 :: pt := List.mem_cons_self
  have hg0 := hl g0 hm0
  have h00 : (g0 :: pt)[0]? = some g0 := rfl
  show Calls _ _ _ _ fun r w' => ∃ g : PX, dm (pt.foldl dT (g0.ts, 0)).2 g0.v (pt.foldl dT (g0.ts, 0)).1 g ∧ r = .returned (.tuple #[.agg #[.int .i64 g.v, .slice g.A g.n g.c], .int .i64 (pt.foldl dT (g0.ts, 0)).2]) ∧ Hp w [g.row] w'
  refine ak (N := 46) (l := [.slice (some ad) n c]) Tryz.func33 rfl rfl (by simp) ?_
  refine sr ?_
  refine cj hh ?_
  intro b2 w2 hh
  refine aI (aa (ai (sr (mL ?_))))
  refine bE hh (hlk _ (hT.hp hh) hh.below) rfl ?_
  intro w11 hh
  refine aI (aa (sr (mI ?_)))
  refine dR (aa (cF (al (aj (ai ?_)))))
  refine bf 11 [[(0, none)], [(16, some 0)], [(17, some 1)], [(18, some 2)], [(0, none)], [(20, some 4)], [(21, some 5)], [(22, some 6)], [(23, some 7)], [(19, some 3), (24, some 8)], []] [(10, 5), (9, 25), (8, 24), (7, 23), (6, 22), (5, 21), (4, 20), (3, 19), (2, 18), (1, 17), (0, 16)] hh mixed (by kernel_rfl) ?_
  refine iB ?_
  refine lY (0) ?_
  refine xp ?_
  refine lf (fun _ hj => dA hj.hp.below ((hr.recAt PX.len h00) 0 _ rfl)) ?_
  refine iB ?_
  refine lY (0) ?_
  refine xp ?_
  refine lf (fun _ hj => dA hj.hp.below ((hr.recAt PX.len h00) 1 _ rfl)) ?_
  refine bz (i := 8) (qw w11.heap.size g0.v g0.ts) (qw.ext) ?_ ?_
  ·intro ρ1 w1 hj hR
   exact cG rfl (bh ar.out (aF (show ρ1 23 = Value.slice _ _ _ from hR.1) bj)) (iO g0.A g0.n g0.c g0.ts w1 ((hf g0 hm0).ext hj.hp.below) hg0.n) (fun _ _ ⟨A, c, hq, ho, hb⟩ => ⟨_, hq, hb, ⟨g0.v, A, g0.n, c, g0.ts⟩, w1, rfl, ⟨rfl, rfl⟩, hj.bl.size, (Hp.start w1).a9 (x := .row _ _ _ _ _ _) hb ho⟩)
  refine bz (i := 9) (fo w11.heap.size 0 g0.v g0.ts) (fo.ext) ?_ ?_
  ·intro ρ1 w1 hj hR
   exact let ⟨g, u, e, o, q, h⟩ := hR.2.1; dD rfl (pH (cs := [_, _]) aC.out iY.out (aG (show ρ1 19 = Value.int _ _ from hR.1) (aG e bC)) rfl) ⟨Below.refl _ _, g, u, by rw [show g.v = g0.v from o.v], o, q, h⟩
  refine bz (i := 10) (ca _ 31 _) ca.ext (fun ρ1 w1 hj hR => eY aC.out hj.bl (fun v w2 h hb => ⟨hb, h⟩)) ?_
  refine bo ?_
  intro f W hJ hV
  have hb_4 := hJ.bl
  obtain ⟨v5, v25, v24, v23, v22, v21, v20, v19, v18, v17, v16, _⟩ := hV
  obtain ⟨g24, u24, e24, -⟩ := v24
  obtain ⟨g25, u25, e25, o25, q25, h25⟩ := v25
  obtain ⟨b5, e5, hl5, hc5⟩ : ca _ _ _ (f 10) W := v5
  replace hh := hJ.gu hh hl5 hc5 q25 h25 (PX.ne h25 hc5 (by decide))
  refine a7 (bu (ah e5 (ah e25 (ah e24 (ah v23 (ah v22 (ah v21 (ah v20 (ah v19 (ah v18 (ah v17 (ah v16 a6)))))))))))) ?_
  dsimp only [cJ]
  clear e24 e25 e5 hJ
  simp only [List.cons_append, List.nil_append] at hh
  obtain ⟨gv, gA, gn, gc, gts⟩ := g25
  obtain rfl : g0.v = gv := o25.v.symm
  obtain rfl : g0.ts = gts := o25.ts.symm
  replace hh := show Hp w (_ :: .row gA gn gc 58 4 (a8 TR.cells g0.ts) :: _) W from hh
  have hgn : g0.ts.length = gn := (hh.az (i := 1) rfl).ck TR.len (by decide)
  have hgc : gn ≤ gc := hh.dI (i := 1) rfl
  refine bK hh 0 [_,_] ?_
  intro ws hh
  replace hh : Hp _ (.blk _ _ [_, _] _ :: _) _ := hh
  refine aa (ai (sr (mL ?_)))
  refine aY rfl rfl (by decide) (ix aJ.out aC.size rfl rfl (l := 1) rfl (by omega) (by omega)) ?_
  refine a5 (mI (aa (aq ?_)))
  replace hh := hh.perm (List.perm_middle (l₁ := [_]))
  simp only [List.cons_append, List.nil_append] at hh
  refine bD [3, 7, 8, 9, 29, 30, 31, 32, 33, 34, 35, 36, 37, 38, 39, 40, 41, 42, 43, 44] 29
   (fun v w' => ∃ (i : Nat) (g : PX), i ≤ n - 1 ∧ v = .int .i64 i ∧ ((pt.take i).foldl dT (g0.ts, 0)).2 = 0 ∧ g.v = g0.v ∧ g.ts = ((pt.take i).foldl dT (g0.ts, 0)).1 ∧ g.md (2000 + i * 67536) ∧ Hp w [.row g.A g.n g.c 58 4 (a8 TR.cells g.ts), .blk b5 31 [.int .i64 g.v, .slice g.A g.n g.c] (0, 0), .blk b2 31 [.int .i64 0, .slice none 0 0] (0, 0)] w')
   (fun v _ => n - 1 - (intOf v).toNat) ?_ ?_
  ·exact ⟨0, ⟨g0.v, gA, gn, gc, g0.ts⟩, Nat.zero_le _, rfl, rfl, rfl, rfl, ⟨by show gn ≤ 1000000; have := hg0.n; have h9 := (hf g0 hm0).ln; omega, hgc, hg0.ok.mono (by omega), hg0.sz⟩, hh⟩
  ·clear hh
   rintro ρ' v w' ⟨i, g, hi, rfl, hz, hgv, hts, hgl, hh⟩
   by_cases hlt : i < n - 1
   ·obtain ⟨f, hx⟩ := aR (l := pt) (k := i) (by omega)
    have hmem : f ∈ g0 :: pt := List.mem_cons_of_mem _ (List.mem_of_getElem? hx)
    have hbk : Sl w (if c = 1 then some ad else (some ad : Option Addr).map (·.add (1 * 2))) (n - 1) 2 (a8 PX.cells pt) := hL.back (by omega) hcn
    obtain ⟨ab, hAb, sb⟩ := hbk.at_ (by omega)
    have hev : Value.slice (if c = 1 then some ad else (some ad : Option Addr).map (·.add (1 * 2))) (n - 1) (c - 1) = .slice (some ab) (n - 1) (c - 1) := by rw [hAb]
    have hfl := hl f hmem
    have hnx := vm (a := (g0.ts, 0)) hx hz
    have hsp := uP (a := (g0.ts, 0)) hx hz
    rw [← hts] at hnx hsp
    refine sr ?_
    refine aZ (aa (ai (cT (al (aj (ai (aq (sr ?_))))))))
    refine a0 (k := i) aJ.out aC.size hev rfl (by omega) (by omega) (by decide) ?_
    refine cb (vs := [_, _]) aC.out rfl (show Rd _ _ [.int .i64 f.v, .slice f.A f.n f.c] from (sb.ext hh.below).recAt PX.len hx) rfl (by decide) ?_
    refine cj hh ?_
    intro b7 w7 hh
    refine bK hh 0 [_,_] ?_
    intro ws hh
    replace hh : Hp _ (.blk _ _ [_, _] _ :: _) _ := hh
    refine aa (sr ?_)
    refine cf hh 2 [_,_] ?_
    refine cf hh 0 [_,_] ?_
    refine aH (k0 g f (2000 + i * 67536) k _ (hT.hp hh) (hh.az (i := 1) rfl) ((hf f hmem).ext hh.below) hgl hfl (by omega)) ar.out rfl (by decide) ?_
    rintro e_ w36 ⟨h, oh, rfl, h3⟩
    refine ⟨_, rfl, ?_⟩
    replace hh := hh.join h3
    simp only [List.cons_append, List.nil_append] at hh
    by_cases he : fm g.ts f.ts = 0
    ·obtain ⟨hv, hA, hn2, hc2, hts2⟩ := h
     rw [he] at oh
     obtain rfl : g.v = hv := oh.v.symm
     obtain rfl : aP (cL g.ts f.ts) = hts2 := oh.ts.symm
     replace hh := show Hp w (.row hA hn2 hc2 58 4 (a8 TR.cells (aP (cL g.ts f.ts))) :: _) w36 from hh
     have hhn : (aP (cL g.ts f.ts)).length = hn2 := (hh.az (i := 0) rfl).ck TR.len (by decide)
     have hhc : hn2 ≤ hc2 := hh.dI (i := 0) rfl
     have h4 := (lb he).2.2
     have htl := p6 hgl.ok hfl.ok hfl.sz he (by omega)
     refine mT ?_
     refine cM ?_
     refine cM ?_
     refine cj hh ?_
     intro b8 w8 hh
     refine bK hh 0 [_,_] ?_
     intro ws hh
     replace hh : Hp _ (.blk _ _ [_, _] _ :: _) _ := hh
     refine aI (aa (ai (sr (mI ?_))))
     refine dR (aa (cF (al (aj (au ?_)))))
     refine cf hh 0 [_,_] ?_
     refine bK hh 4 [_,_] ?_
     intro ws hh
     replace hh : Hp _ (_ :: _ :: _ :: _ :: .blk _ _ [_, _] _ :: _) _ := hh
     refine aK (a3 (aj (au ?_)))
     refine bO (mI (aK (aj ?_)))
     replace hh := hh.sub (List.Sublist.cons _ (List.Sublist.cons_cons _ (List.Sublist.cons _ (List.Sublist.cons _ (List.Sublist.cons_cons _ (List.Sublist.cons_cons _ List.Sublist.slnil))))))
     refine ⟨⟨i + 1, ⟨g.v, hA, hn2, hc2, aP (cL g.ts f.ts)⟩, by omega, rfl, by rw [hnx]; exact he, hgv, by rw [hnx], ⟨by show hn2 ≤ 1000000; omega, hhc, htl.1.mono (by omega), htl.2⟩, hh⟩, by show n - 1 - (i + 1) < n - 1 - i; omega, ?_⟩
     (repeat (first | exact aA _ _ _ | refine aE rfl ?_ | refine ax rfl ?_))
    ·rw [hsp he]
     refine mT ?_
     refine cM ?_
     refine cM ?_
     refine cj hh ?_
     intro b8 w8 hh
     refine bK hh 0 [_,_] ?_
     intro ws hh
     replace hh : Hp _ (.blk _ _ [_, _] _ :: _) _ := hh
     refine aI (aa (ai (sr (mI ?_))))
     refine dR (aa (cT (sr ?_)))
     refine eM [_,_] (mI ?_)
     refine bK hh 5 [_,_] ?_
     intro ws hh
     replace hh : Hp _ (_ :: _ :: _ :: _ :: _ :: .blk _ _ [_, _] _ :: _) _ := hh
     refine aI (aa (ao (aM (bU (aM (aM (bU (aM ?_))))))))
     refine lB (aU rfl (aV (vs := [_, _]) aC.out (hh.aw (i := 5) (n := 2) rfl rfl) rfl) (cB (dq rfl) bg)) ?_
     exact ⟨PX.nil, dm.err he, rfl, (hh.sub (List.nil_sublist _)).ja⟩
   ·obtain rfl : i = n - 1 := by omega
    rw [List.take_of_length_le (by omega)] at hz hts
    refine sr ?_
    refine aZ (aa (ai (cF ?_)))
    refine a4 ?_
    refine aD (aD (bp (aj (sr ?_))))
    refine cf hh 1 [_,_] ?_
    refine bK hh 2 [_,_] ?_
    intro ws hh
    replace hh : Hp _ (_ :: _ :: .blk _ _ [_, _] _ :: _) _ := hh
    refine aI (aa (ao ?_))
    refine lB (aU rfl (aV (vs := [_, _]) aC.out (hh.aw (i := 2) (n := 2) rfl rfl) rfl) (cB (dq rfl) bg)) ?_
    rw [hz]
    exact ⟨g, ⟨hgv, hts⟩, rfl, hh.sub (List.Sublist.cons_cons _ (List.nil_sublist _))⟩
 ·rw [if_neg h0]
  generalize eX ps = e at *
  refine ak (N := 46) (l := [.slice L n c]) Tryz.func33 rfl rfl (by simp) ?_
  refine sr ?_
  refine cj hh ?_
  intro b2 w2 hh
  refine aI (aa (ai (sr (mL ?_))))
  refine bE hh (hlk _ (hT.hp hh) hh.below) rfl ?_
  intro w11 hh
  refine aI (aa (sr (mI ?_)))
  refine dR (aa (cT (sr ?_)))
  refine eM [_,_] (mI ?_)
  refine bK hh 0 [_,_] ?_
  intro ws hh
  replace hh : Hp _ (.blk _ _ [_, _] _ :: _) _ := hh
  refine aI (aa (ao (aM ?_)))
  refine lB (aU rfl (aV (vs := [_, _]) aC.out (hh.aw (i := 0) (n := 2) rfl rfl) rfl) (cB (dq rfl) bg)) ?_
  exact ⟨PX.nil, dm.err h0, rfl, (hh.sub (List.nil_sublist _)).ja⟩
end Go.Proofs.YtkgdagjklakajaaGreatDoor
/- The walk through poly.Pow. -/
namespace Go.Proofs.YtkgdagjklakajaaGreatDoor
open Go.RowKit
def j9 (p : PX) (n : Nat) : List TR × Int := (List.replicate n p).foldl dT (aP [⟨fu p.v, nR ((1 : Int) : Dyadic)⟩], 0)
def nO (p : PX) (n : Int) : Int := if p.e = 0 then (if n < 0 ∨ 127 < n then 1 else (j9 p n.toNat).2) else p.e
theorem pf (p : PX) (i : Nat) : j9 p (i + 1) = dT (j9 p i) p := by unfold j9; rw [List.replicate_succ', List.foldl_append]; rfl
theorem oW {p : PX} {i : Nat} (h : (j9 p i).2 ≠ 0) : ∀ {n : Nat}, i ≤ n → j9 p n = j9 p i
 | 0, hn => by rw [show i = 0 by omega]
 | n + 1, hn => by
  rcases Nat.lt_or_ge n i with h1 | h1
  ·rw [show i = n + 1 by omega]
  ·rw [pf, oW h h1]
   exact if_neg h
theorem nm (p : PX) (n : Int) (k : Nat) (w : World) (hT : gM w) (hp : p.at_ w) (lp : p.md k) (hk : k ≤ 2000) (hn : n ≤ 4 ∨ 127 < n) :
  Calls Tryz.prog 35 #[.agg #[.int .i64 p.v, .slice p.A p.n p.c], .int .i64 n] w fun r w' => ∃ g : PX, dm (nO p n) p.v (j9 p n.toNat).1 g ∧ r = .returned (.tuple #[.agg #[.int .i64 g.v, .slice g.A g.n g.c], .int .i64 (nO p n)]) ∧ Hp w [g.row] w' := by
 have hh := Hp.start w
 have hck := fun w1 hT1 hb => mh p k w1 hT1 (hp.ext hb) lp
 unfold nO
 by_cases h0 : p.e = 0
 ·rw [if_pos h0]
  rw [h0] at hck
  obtain ⟨hf, h4, _, _⟩ := eR h0
  have hpl : p.ts.length = p.n := hp.ln
  have hco : rI p.v = 0 := by unfold rI; rw [if_neg (by rw [hf]; decide)]
  have z1 : Sz 24 ((1 : Int) : Dyadic) := wR (m := 1) (e := 0) (by decide) (by decide) (by decide)
  have hcn := fun w1 hT1 => kF p.v (nR ((1 : Int) : Dyadic)) 24 w1 hT1 ⟨z1.ok (by decide), by rw [eO]; exact z1⟩ (by decide)
  rw [hco] at hcn
  have hg1 := bW [⟨fu p.v, nR ((1 : Int) : Dyadic)⟩]
  have hgo : gi 2000 (aP [⟨fu p.v, nR ((1 : Int) : Dyadic)⟩]) := fun t ht => by
   have h1 : Sz 2000 t.c.d := (lv (k := 24) (l := [⟨fu p.v, nR ((1 : Int) : Dyadic)⟩]) (fun s hs => by rw [List.mem_singleton.1 hs, eO]; exact z1) t ht).mono (show 24 + 1 ≤ 2000 by decide)
   exact ⟨by rw [(eP _).nf t ht]; exact h1.ok (by decide), h1⟩
  have hgz : ∀ t ∈ aP [⟨fu p.v, nR ((1 : Int) : Dyadic)⟩], t.m.size ≤ 100000 := fun t ht => by
   obtain ⟨s, hs, e⟩ := iJ t ht
   rw [← e, List.mem_singleton.1 hs]
   have h1 := kB.1 hf
   have h2 := ka h1.1
   show (fu p.v).size ≤ 100000
   omega
  have hpw : j9 p 0 = (aP [⟨fu p.v, nR ((1 : Int) : Dyadic)⟩], 0) := rfl
  generalize aP [⟨fu p.v, nR ((1 : Int) : Dyadic)⟩] = G at *
  refine ak (N := 47) (l := [.agg #[.int .i64 p.v, .slice p.A p.n p.c], .int .i64 n]) Tryz.func35 rfl rfl (by simp) ?_
  refine sr ?_
  refine dp hh [_,_] ?_
  intro b2 w2 hh
  refine cj hh ?_
  intro b4 w4 hh
  refine aI (aa (ai (sr ?_)))
  refine cf hh 1 [_,_] ?_
  refine bE hh (hck _ (hT.hp hh) hh.below) rfl ?_
  intro w11 hh
  refine aI (aa (sr (mI ?_)))
  refine dR (aa (cF (al (aj (ai ?_)))))
  refine dw [7] [6] [0, 1, 0, 7, 15, 31, 31, 0, 191, 511] 8 [[(2, none)], [(17, some 0)], [], [(18, some 1), (19, some 2)], [(20, some 3)], [(16, some 4)], [(16, some 4)], []] [(7, 7), (6, 22), (5, 21), (4, 16), (3, 20), (2, 19), (1, 18), (0, 17)] hh mixed (by kernel_rfl) (il rfl aC.out dZ) rfl (by repeat (first | exact bS | refine bG ?_ | refine bT ?_)) ?_
  refine dN ?_
  refine fC 1 ?_
  refine dC (fun _ hj => lR 1 _ (hT.hp hj.hp) (by decide) (by decide)) ?_
  refine bz (i := 3) (eI w11.heap.size 0 p.v G) (eI.ext) ?_ ?_
  ·intro ρ1 w1 hj hR
   exact cG rfl (bh ar.out (aF (show ρ1 18 = Value.int _ _ from hR.1) (aF (show ρ1 19 = Value.agg _ from hR.2.1) bj))) (hcn w1 (hT.hp hj.hp)) (fun _ _ ⟨g, og, hq, h3⟩ => ⟨_, hq, h3.below, g, w1, rfl, og, hj.bl.size, h3⟩)
  refine bz (i := 4) (eI w11.heap.size 0 p.v G) (eI.ext) ?_ ?_
  ·intro ρ1 w1 hj hR
   exact let ⟨g, u, e1, e2⟩ := hR.1; dD rfl (dt e1) ⟨Below.refl _ _, g, u, rfl, e2⟩
  refine bz (i := 5) (fo w11.heap.size 0 p.v G) (fo.ext) ?_ ?_
  ·intro ρ1 w1 hj hR
   exact let ⟨g, u, e1, e2⟩ := hR.1; dD rfl (cw (vs := [_, _]) e1 rfl) ⟨Below.refl _ _, g, u, rfl, e2⟩
  refine bz (i := 6) (Is (.int .i64 0)) (Is.ext) ?_ ?_
  ·intro ρ1 w1 hj hR
   exact let ⟨g, u, e1, e2⟩ := hR.1; dD rfl (cw (vs := [_, _]) e1 rfl) ⟨Below.refl _ _, rfl⟩
  refine bz (i := 7) (ca _ 31 _) ca.ext (fun ρ1 w1 hj hR => eY aC.out hj.bl (fun v w2 h hb => ⟨hb, h⟩)) ?_
  refine bo ?_
  intro f W hJ hV _
  have hb_4 := hJ.bl
  obtain ⟨v7, v22, v21, v16, v20, v19, v18, v17, _⟩ := hV
  obtain ⟨g20, u20, e20, -⟩ := v20
  obtain ⟨g16, u16, e16, -⟩ := v16
  obtain ⟨g21, u21, e21, o21, q21, h21⟩ := v21
  obtain ⟨b7, e7, hl7, hc7⟩ : ca _ _ _ (f 7) W := v7
  replace hh := hJ.gu hh hl7 hc7 q21 h21 (PX.ne h21 hc7 (by decide))
  refine a7 (bu (ah e7 (ah v22 (ah e21 (ah e16 (ah e20 (ah v19 (ah v18 (ah v17 a6))))))))) ?_
  dsimp only [cJ]
  clear e20 e16 e21 e7 hJ
  simp only [List.cons_append, List.nil_append] at hh
  obtain ⟨gv, gA, gn, gc, gts⟩ := g21
  obtain rfl : p.v = gv := o21.v.symm
  obtain rfl : G = gts := o21.ts.symm
  replace hh := show Hp w (_ :: .row gA gn gc 58 4 (a8 TR.cells G) :: _) W from hh
  have hgn : G.length = gn := (hh.az (i := 1) rfl).ck TR.len (by decide)
  have hgc : gn ≤ gc := hh.dI (i := 1) rfl
  by_cases hb : n < 0 ∨ 127 < n
  ·rw [if_pos hb]
   by_cases hneg : n < 0
   ·refine bK hh 0 [_,_] ?_
    intro ws hh
    replace hh : Hp _ (.blk _ _ [_, _] _ :: _) _ := hh
    refine aI (aa (ai (sr (mI ?_))))
    refine aZ (mB ?_)
    first | refine gS ?_ | (refine gT ?_; refine mI ?_) | refine gV ?_
    first | refine gS ?_ | (refine gT ?_; refine cg ?_) | refine gV ?_
    first | refine ct ?_ | refine cq ?_
    refine aa (cT (sr ?_))
    refine eM [_,_] ?_
    refine bK hh 2 [_,_] ?_
    intro ws hh
    replace hh : Hp _ (_ :: _ :: .blk _ _ [_, _] _ :: _) _ := hh
    refine aI (aa (ao (aM ?_)))
    refine lB (aU rfl (aV (vs := [_, _]) aC.out (hh.aw (i := 2) (n := 2) rfl rfl) rfl) (cB (dq rfl) bg)) ?_
    exact ⟨PX.nil, dm.err (by decide), rfl, (hh.sub (List.nil_sublist _)).ja⟩
   ·refine bK hh 0 [_,_] ?_
    intro ws hh
    replace hh : Hp _ (.blk _ _ [_, _] _ :: _) _ := hh
    refine aI (aa (ai (sr (mI ?_))))
    refine aZ (mB ?_)
    first | refine gS ?_ | (refine gT ?_; refine mI ?_) | refine gV ?_
    first | refine gS ?_ | (refine gT ?_; refine cg ?_) | refine gV ?_
    first | refine ct ?_ | refine cq ?_
    refine aa (cT (sr ?_))
    refine eM [_,_] ?_
    refine bK hh 2 [_,_] ?_
    intro ws hh
    replace hh : Hp _ (_ :: _ :: .blk _ _ [_, _] _ :: _) _ := hh
    refine aI (aa (ao (aM ?_)))
    refine lB (aU rfl (aV (vs := [_, _]) aC.out (hh.aw (i := 2) (n := 2) rfl rfl) rfl) (cB (dq rfl) bg)) ?_
    exact ⟨PX.nil, dm.err (by decide), rfl, (hh.sub (List.nil_sublist _)).ja⟩
  ·rw [if_neg hb]
   refine bK hh 0 [_,_] ?_
   intro ws hh
   replace hh : Hp _ (.blk _ _ [_, _] _ :: _) _ := hh
   refine aI (aa (ai (sr (mI ?_))))
   refine aZ (mB ?_)
   first | refine gS ?_ | (refine gT ?_; refine mI ?_) | refine gV ?_
   first | refine gS ?_ | (refine gT ?_; refine cg ?_) | refine gV ?_
   first | refine ct ?_ | refine cq ?_
   refine aa (cF (al (aj (ai (sr (aI (aa (aq ?_))))))))
   have hnn : n = (n.toNat : Int) := by omega
   have hn4 : n.toNat ≤ 4 := by omega
   generalize n.toNat = m at *
   subst hnn
   replace hh := hh.perm (List.perm_middle (l₁ := [_]))
   simp only [List.cons_append, List.nil_append] at hh
   refine cY [8, 9, 30, 31, 32, 33, 34, 35, 36, 37, 38, 39, 40, 41, 42, 43, 44] 8 9
    (fun e x w' => ∃ (i : Nat) (g : PX), i ≤ m ∧ x = .int .i64 i ∧ e = .int .i64 (j9 p i).2 ∧ dm (j9 p i).2 p.v (j9 p i).1 g ∧ ((j9 p i).2 = 0 → g.md (2000 + i * 67536)) ∧ Hp w [.row g.A g.n g.c 58 4 (a8 TR.cells g.ts), .blk b7 31 [.int .i64 g.v, .slice g.A g.n g.c] (0, 0), .blk b4 31 [.int .i64 0, .slice none 0 0] (0, 0), .blk b2 31 [.int .i64 p.v, .slice p.A p.n p.c] (0, 0)] w')
    (fun _ x _ => m - (intOf x).toNat) ?_ ?_
   ·refine ⟨0, ⟨p.v, gA, gn, gc, G⟩, Nat.zero_le _, rfl, by rw [hpw]; rfl, by rw [hpw]; exact ⟨rfl, rfl⟩, fun _ => ⟨?_, hgc, hgo, hgz⟩, hh⟩
    show gn ≤ 1000000
    have : G.length ≤ 1 := hg1
    omega
   ·clear hh
    rintro ρ' e_ x_ w' ⟨i, g, hi, rfl, rfl, og, hgl, hh⟩
    have hnx := pf p i
    have hst := fun h => oW (p := p) (i := i) h hi
    generalize hpi : j9 p i = a at *
    obtain ⟨av, ae⟩ := a
    by_cases hlt : i < m
    ·by_cases h0 : ae = 0
     ·subst h0
      rw [show dT (av, 0) p = (aP (cL av p.ts), fm av p.ts) from if_pos rfl] at hnx
      have hgv : g.v = p.v := og.v
      have hgt : g.ts = av := og.ts
      have hlim := hgl rfl
      have hti := fun h => p6 hlim.ok lp.ok lp.sz h (by omega)
      refine ai (sr (mI (mI ?_)))
      refine aZ (mB ?_)
      first | refine gS ?_ | (refine gT ?_; refine mI ?_) | refine gV ?_
      first | refine gS ?_ | (refine gT ?_; refine cI ?_) | refine gV ?_
      first | refine ct ?_ | refine cq ?_
      refine aa (cT (al (aj (ai (aq (au ?_))))))
      refine cf hh 1 [_,_] ?_
      refine cf hh 3 [_,_] ?_
      refine aH (k0 g p (2000 + i * 67536) k _ (hT.hp hh) (hh.az (i := 0) rfl) (hp.ext hh.below) hlim lp (by omega)) ar.out rfl (by decide) ?_
      rintro e_ w42 ⟨h, oh, rfl, h3⟩
      refine ⟨_, rfl, ?_⟩
      replace hh := hh.join h3
      simp only [List.cons_append, List.nil_append] at hh
      obtain ⟨hv, hA, hn2, hc2, hts2⟩ := h
      replace hh := show Hp w (.row hA hn2 hc2 58 4 (a8 TR.cells hts2) :: _) w42 from hh
      have hhn : hts2.length = hn2 := (hh.az (i := 0) rfl).ck TR.len (by decide)
      have hhc : hn2 ≤ hc2 := hh.dI (i := 0) rfl
      refine mT ?_
      refine cM ?_
      refine cM ?_
      refine bK hh 2 [_,_] ?_
      intro ws hh
      replace hh : Hp _ (_ :: _ :: .blk _ _ [_, _] _ :: _) _ := hh
      refine aI (aK (a3 (aj (au (mI ?_)))))
      refine bO (aI (aK (aj ?_)))
      replace hh := hh.sub (List.Sublist.cons_cons _ (List.Sublist.cons _ (List.Sublist.cons_cons _ (List.Sublist.cons_cons _ (List.Sublist.cons_cons _ List.Sublist.slnil)))))
      rw [hgt, hgv] at oh
      rw [hgt] at hti
      refine ⟨⟨i + 1, ⟨hv, hA, hn2, hc2, hts2⟩, by omega, rfl, by rw [hnx, hgt]; rfl, by rw [hnx]; exact oh, fun h => ?_, hh⟩, by show m - (i + 1) < m - i; omega, ?_⟩
      ·rw [hnx] at h
       have htl := hti h
       have he : hts2 = aP (cL av p.ts) := by have := oh.ts; rwa [if_pos h] at this
       subst he
       have h4 := (lb h).2.2
       exact ⟨by show hn2 ≤ 1000000; omega, hhc, htl.1.mono (by omega), htl.2⟩
      ·(repeat (first | exact aA _ _ _ | refine aE rfl ?_ | refine ax rfl ?_))
     ·rw [hst h0]
      refine ai (sr (mI (mI ?_)))
      refine aZ (mB ?_)
      first | refine gS ?_ | (refine gT ?_; refine mI ?_) | refine gV ?_
      first | refine gS ?_ | (refine gT ?_; refine cI ?_) | refine gV ?_
      first | refine ct ?_ | refine cq ?_
      refine aa (cF ?_)
      refine a4 ?_
      refine aD (aD (bp (aj (sr ?_))))
      refine cf hh 1 [_,_] (mI ?_)
      refine bK hh 2 [_,_] ?_
      intro ws hh
      replace hh : Hp _ (_ :: _ :: .blk _ _ [_, _] _ :: _) _ := hh
      refine aI (aa (ao ?_))
      refine lB (aU rfl (aV (vs := [_, _]) aC.out (hh.aw (i := 2) (n := 2) rfl rfl) rfl) (cB (dq rfl) bg)) ?_
      exact ⟨g, og, rfl, hh.sub (List.Sublist.cons_cons _ (List.nil_sublist _))⟩
    ·obtain rfl : i = m := by omega
     rw [hpi]
     refine ai (sr (mI (mI ?_)))
     refine aZ (mB ?_)
     first | refine gS ?_ | (refine gT ?_; refine mI ?_) | refine gV ?_
     first | refine gS ?_ | (refine gT ?_; refine cI ?_) | refine gV ?_
     first | refine ct ?_ | refine cq ?_
     refine aa (cF ?_)
     refine a4 ?_
     refine aD (aD (bp (aj (sr ?_))))
     refine cf hh 1 [_,_] (mI ?_)
     refine bK hh 2 [_,_] ?_
     intro ws hh
     replace hh : Hp _ (_ :: _ :: .blk _ _ [_, _] _ :: _) _ := hh
     refine aI (aa (ao ?_))
     refine lB (aU rfl (aV (vs := [_, _]) aC.out (hh.aw (i := 2) (n := 2) rfl rfl) rfl) (cB (dq rfl) bg)) ?_
     exact ⟨g, og, rfl, hh.sub (List.Sublist.cons_cons _ (List.nil_sublist _))⟩
 ·rw [if_neg h0]
  refine ak (N := 47) (l := [.agg #[.int .i64 p.v, .slice p.A p.n p.c], .int .i64 n]) Tryz.func35 rfl rfl (by simp) ?_
  refine sr ?_
  refine dp hh [_,_] ?_
  intro b2 w2 hh
  refine cj hh ?_
  intro b4 w4 hh
  refine aI (aa (ai (sr ?_)))
  refine cf hh 1 [_,_] ?_
  refine bE hh (hck _ (hT.hp hh) hh.below) rfl ?_
  intro w11 hh
  refine aI (aa (sr (mI ?_)))
  refine dR (aa (cT (sr ?_)))
  refine eM [_,_] (mI ?_)
  refine bK hh 0 [_,_] ?_
  intro ws hh
  replace hh : Hp _ (.blk _ _ [_, _] _ :: _) _ := hh
  refine aI (aa (ao (aM ?_)))
  refine lB (aU rfl (aV (vs := [_, _]) aC.out (hh.aw (i := 0) (n := 2) rfl rfl) rfl) (cB (dq rfl) bg)) ?_
  exact ⟨PX.nil, dm.err h0, rfl, (hh.sub (List.nil_sublist _)).ja⟩
end Go.Proofs.YtkgdagjklakajaaGreatDoor
/- The walks through ogeeref08.Mul and Pow. -/
namespace Go.Proofs.YtkgdagjklakajaaGreatDoor
open Go.RowKit
def AN (ps : List PX) (R : List HE) (g : PX) : Prop := (g ∈ ps ∧ R = []) ∨ R = [g.row]
end Go.Proofs.YtkgdagjklakajaaGreatDoor
/- The walk through poly.Degs. -/
namespace Go.Proofs.YtkgdagjklakajaaGreatDoor
open Go.RowKit
def tB (s : ByteArray) (i : Nat) : Int := match s.data.toList[i]? with | some c => c.toNat | none => 0
def xo (l : List TR) (i : Nat) : Int := l.foldl (fun m t => max m (tB t.m i)) 0
def jh (m : Nat) (l : List TR) : List Int := (List.range m).map (xo l)
def zy (v : Int) (ts : List TR) : List Int := if gC v ts = 0 then jh v.toNat ts else []
theorem fZ (m : Nat) (l : List TR) : (jh m l).length = m := by unfold jh; rw [List.length_map, List.length_range]
theorem qj {m j : Nat} (l : List TR) (h : j < m) : (jh m l)[j]? = some (xo l j) := by
 unfold jh
 rw [List.getElem?_map, List.getElem?_range h]
 rfl
theorem wN (l : List TR) (t : TR) (i : Nat) : xo (l ++ [t]) i = max (xo l i) (tB t.m i) := by unfold xo; rw [List.foldl_append]; rfl
theorem xm {s : ByteArray} {i : Nat} {c : UInt8} (h : s.data.toList[i]? = some c) : tB s i = c.toNat := by unfold tB; rw [h]
theorem xw {α : Type} {A B : List α} {j : Nat} {y : α} (h : A.length = B.length) (hy : B[j]? = some y) : (B.take j ++ A.drop j).set j y = B.take (j + 1) ++ A.drop (j + 1) := by
 have hj := (List.getElem?_eq_some_iff.1 hy).1
 have hl : (B.take j).length = j := by rw [List.length_take]; omega
 obtain ⟨x, hx⟩ := aR (l := A) (k := j) (by omega)
 rw [jF hx, aW hy, List.set_append_right _ _ (by omega), hl, Nat.sub_self]
 simp
theorem xD {α : Type} {A B : List α} {j : Nat} {x : α} (h : A.length = B.length) (hx : A[j]? = some x) : (B.take j ++ A.drop j)[j]? = some x := by
 have hj := (List.getElem?_eq_some_iff.1 hx).1
 have hl : (B.take j).length = j := by rw [List.length_take]; omega
 rw [List.getElem?_append_right (by omega), hl, Nat.sub_self, List.getElem?_drop, Nat.add_zero, hx]
theorem wZ (m : Nat) : fj m [.int .i64 0] = eU (jh m []) := by
 have h1 : ∀ n, fj n [.int .i64 0] = eU (List.replicate n 0) := fun n => by
  induction n with
  | zero => rfl
  | succ n ih => rw [fj, ih, List.replicate_succ]; rfl
 rw [h1]
 congr 1
 apply List.ext_getElem?
 intro i
 by_cases h : i < m
 ·rw [qj [] h, List.getElem?_replicate, if_pos h]
  rfl
 ·rw [List.getElem?_eq_none (by rw [List.length_replicate]; omega), List.getElem?_eq_none (by rw [fZ]; omega)]
theorem rG (p : PX) (k : Nat) (w : World) (hT : gM w) (hp : p.at_ w) (lp : p.md k) :
  Calls Tryz.prog 24 #[.agg #[.int .i64 p.v, .slice p.A p.n p.c]] w fun r w' => ∃ A c, r = .returned (.slice A (zy p.v p.ts).length c) ∧ Hp w [.row A (zy p.v p.ts).length c 3 1 (eU (zy p.v p.ts))] w' := by
 have hh := Hp.start w
 have hck := fun w1 hT1 hb => mh p k w1 hT1 (hp.ext hb) lp
 by_cases h0 : p.e = 0
 ·rw [show zy p.v p.ts = jh p.v.toNat p.ts from if_pos h0, fZ]
  rw [h0] at hck
  obtain ⟨hf, h4, hmy, _⟩ := eR h0
  have hpl : p.ts.length = p.n := hp.ln
  obtain ⟨pv, pA, pn, pc, ts⟩ := p
  replace hf := kB.1 hf
  replace hmy : ∀ t ∈ ts, eW pv t = true := hmy
  replace hp : Sl w pA pn 4 (a8 TR.cells ts) := hp
  have hsz : ∀ t ∈ ts, t.m.size ≤ 100000 := lp.sz
  have hn := lp.n
  replace hn : pn ≤ 1000000 := hn
  replace hpl : ts.length = pn := hpl
  obtain ⟨m, rfl⟩ : ∃ m : Nat, pv = (m : Int) := ⟨pv.toNat, by show pv = _; have : 0 ≤ pv := hf.1; omega⟩
  replace hf : m ≤ 12 := by have h9 : (m : Int) ≤ 12 := hf.2; omega
  show Calls _ _ _ _ fun r w' => ∃ A c, r = .returned (.slice A m c) ∧ Hp w [.row A m c 3 1 (eU (jh m ts))] w'
  refine ak (N := 42) (l := [.agg #[.int .i64 m, .slice pA pn pc]]) Tryz.func24 rfl rfl (by simp) ?_
  refine sr ?_
  refine dp hh [_,_] ?_
  intro b1 w1 hh
  refine aL (aa (ai (sr ?_)))
  refine cf hh 0 [_,_] ?_
  refine bE hh (hck _ (hT.hp hh) hh.below) rfl ?_
  intro w9 hh
  refine dR (aa (cF (al (aj (sr (bP ?_))))))
  refine bQ hh 0 ?_
  refine fH (n := m) hh rfl rfl (by omega) (by omega) aJ.out aC.out rfl (by omega) (by omega) (by decide) ?_
  intro b13 w13 hh
  refine aL (aa (ai (sr (bP ?_))))
  refine bQ hh 1 ?_
  refine a5 (mI (aa (aq ?_)))
  rw [wZ] at hh
  refine bD [5, 6, 7, 17, 18, 19, 20, 21, 22, 23, 24, 25, 26, 27, 28, 29, 30, 31, 32, 33, 34, 35, 36, 37, 38, 39, 40] 17
   (fun v w' => ∃ i : Nat, i ≤ pn ∧ v = .int .i64 i ∧ Hp w [.row (some ⟨b13, 0, none⟩) m m 3 1 (eU (jh m (ts.take i))), .blk b1 31 [.int .i64 m, .slice pA pn pc] (0, 0)] w')
   (fun v _ => pn - (intOf v).toNat) ?_ ?_
  ·exact ⟨0, Nat.zero_le _, rfl, hh⟩
  ·clear hh
   rintro ρ' v w' ⟨i, hi, rfl, hh⟩
   by_cases hlt : i < pn
   ·obtain ⟨x, hx⟩ := aR (l := ts) (k := i) (by omega)
    obtain ⟨ad, rfl, hr⟩ := hp.at_ (by omega)
    have hxm := List.mem_of_getElem? hx
    have hxs := hsz x hxm
    have hmx := Bool.and_eq_true_iff.1 (hmy x hxm)
    have hxz : x.m.size = m := by have := of_decide_eq_true hmx.2; omega
    have hxl : x.m.data.toList.length = m := by rw [← dF]; exact hxz
    have hex : gQ x.m.data.toList = ints x.m.data.toList := jC hmx.1
    have hel : (gQ x.m.data.toList).length = m := by rw [hex, da]; exact hxl
    have hBl : (jh m (ts.take i)).length = (jh m (ts.take (i + 1))).length := by rw [fZ, fZ]
    refine sr ?_
    refine aZ (aa (ai (cT (al (aj (ai (aq (sr ?_))))))))
    refine a0 (k := i) aJ.out aC.size rfl rfl (by omega) (by omega) (by decide) ?_
    refine cb (vs := [_, _, _, _]) aC.out rfl ((hr.ext hh.below).recAt TR.len hx) rfl (by decide) ?_
    refine cj hh ?_
    intro b5 w5 hh
    refine bK hh 0 [_,_,_,_] ?_
    intro ws hh
    replace hh : Hp _ (.blk _ _ [_, _, _, _] _ :: _) _ := hh
    refine aa (sr (bP ?_))
    refine bQ hh 0 ?_
    refine aH (gO x.m _ hxs) ar.out rfl (by decide) ?_
    rintro e_ w23 ⟨A23, c23, rfl, hown_, hb_⟩
    refine ⟨_, rfl, ?_⟩
    replace hh := hh.a9 (x := .row _ _ _ _ _ _) hb_ hown_
    rw [hel] at hh ⊢
    refine a5 (mI (aa (aq ?_)))
    refine bD [6, 7, 25, 26, 27, 28, 29, 30, 31, 32, 33, 34, 35, 36, 37, 38, 39] 25
     (fun v w' => ∃ j : Nat, j ≤ m ∧ v = .int .i64 j ∧ Hp w [.row A23 m c23 3 1 (eU (gQ x.m.data.toList)), .blk b5 58 [.string x.m, .bool x.c.neg, .string x.c.cC, .int .i64 x.c.e] (0, 0), .row (some ⟨b13, 0, none⟩) m m 3 1 (eU ((jh m (ts.take (i + 1))).take j ++ (jh m (ts.take i)).drop j)), .blk b1 31 [.int .i64 m, .slice (some ad) pn pc] (0, 0)] w')
     (fun v _ => m - (intOf v).toNat) ?_ ?_
    ·exact ⟨0, Nat.zero_le _, rfl, hh⟩
    ·clear hh
     rintro ρ2 v w2 ⟨j, hj, rfl, hh⟩
     by_cases hjn : j < m
     ·obtain ⟨e, he⟩ := aR (l := x.m.data.toList) (k := j) (by omega)
      have hee : (gQ x.m.data.toList)[j]? = some (e.toNat : Int) := by rw [hex]; exact xX he
      have ho := xD hBl (qj (ts.take i) hjn)
      have hset := xw hBl (qj (ts.take (i + 1)) hjn)
      have hmx2 : xo (ts.take (i + 1)) j = max (xo (ts.take i) j) (e.toNat : Int) := by rw [aW hx, wN, xm he]
      rw [hmx2] at hset
      have hol : ((jh m (ts.take (i + 1))).take j ++ (jh m (ts.take i)).drop j).length = m := by rw [List.length_append, List.length_take, List.length_drop, fZ, fZ]; omega
      generalize (jh m (ts.take (i + 1))).take j ++ (jh m (ts.take i)).drop j = M at *
      have hee2 := fG hee
      have ho2 := fG ho
      have hll : (eU M).length = m := by rw [eK]; exact hol
      obtain ⟨g, rfl⟩ := hh.gH (i := 0) rfl (by omega)
      refine sr ?_
      refine aZ (aa (ai (cT (al (aj (ai (aq (sr (mI ?_)))))))))
      refine bs (k := j) aJ.out aC.size rfl rfl (by omega) (by omega) (by decide) ?_
      refine bJ aC.out rfl (hh.cE (i := 0) rfl (by first | assumption | (simp only [Nat.mul_one]; assumption))) (by decide) ?_
      refine aI (aI (aa (au (mL (mI (mL (mI ?_)))))))
      refine bs (k := j) aJ.out aC.size rfl rfl (by omega) (by omega) (by decide) ?_
      refine bJ aC.out rfl (hh.cE (i := 2) rfl (by first | assumption | (simp only [Nat.mul_one]; assumption))) (by decide) ?_
      refine mI ?_
      refine jc rfl rfl (by decide) ?_
      refine bs aJ.out aC.size rfl rfl rfl (by omega) (by decide) ?_
      have hmv : (if (e.toNat : Int) > xo (ts.take i) j then (e.toNat : Int) else xo (ts.take i) j) = max (xo (ts.take i) j) (e.toNat : Int) := by split <;> omega
      refine br hh (i := 2) (vs := [_]) rfl rfl (bI rfl) rfl aC.out rfl (by omega) rfl ?_
      intro ws hh
      simp only [List.set_cons_zero, List.set_cons_succ] at hh
      rw [hmv, rg _ (by rw [← eK]; omega), hset] at hh
      refine aK (a3 (aj (au ?_)))
      refine bO (mI (aK (aj ?_)))
      refine ⟨⟨j + 1, by omega, rfl, hh⟩, by show m - (j + 1) < m - j; omega, ?_⟩
      (repeat (first | exact aA _ _ _ | refine aE rfl ?_ | refine ax rfl ?_))
     ·obtain rfl : j = m := by omega
      rw [List.take_of_length_le (by rw [fZ]; omega), List.drop_of_length_le (by rw [fZ]; omega), List.append_nil] at hh
      refine sr ?_
      refine aZ (aa (ai (cF ?_)))
      refine a4 ?_
      refine aD (aD (bp (a3 (aj (au ?_)))))
      refine bO (mI (aK (aj ?_)))
      replace hh := hh.sub (List.Sublist.cons _ (List.Sublist.cons _ (List.Sublist.cons_cons _ (List.Sublist.cons_cons _ List.Sublist.slnil))))
      refine ⟨⟨i + 1, by omega, rfl, hh⟩, by show pn - (i + 1) < pn - i; omega, ?_⟩
      (repeat (first | exact aA _ _ _ | refine aE rfl ?_ | refine ax rfl ?_))
   ·obtain rfl : i = pn := by omega
    rw [List.take_of_length_le (by omega)] at hh
    refine sr ?_
    refine aZ (aa (ai (cF ?_)))
    refine a4 ?_
    refine aD (aD (bp (aj (sr (mL (aL (aa (ao ?_))))))))
    refine cd ?_
    exact ⟨_, _, rfl, hh.sub (List.Sublist.cons_cons _ (List.nil_sublist _))⟩
 ·rw [show zy p.v p.ts = [] from if_neg h0]
  refine ak (N := 42) (l := [.agg #[.int .i64 p.v, .slice p.A p.n p.c]]) Tryz.func24 rfl rfl (by simp) ?_
  refine sr ?_
  refine dp hh [_,_] ?_
  intro b1 w1 hh
  refine aL (aa (ai (sr ?_)))
  refine cf hh 0 [_,_] ?_
  refine bE hh (hck _ (hT.hp hh) hh.below) rfl ?_
  intro w9 hh
  refine dR (aa (cT (sr (aL (aa (ao (aM ?_)))))))
  refine cd ?_
  exact ⟨none, 0, rfl, (hh.sub (List.nil_sublist _)).fE 3 1⟩
end Go.Proofs.YtkgdagjklakajaaGreatDoor
/- The walks through ogeeref08.Degs and Own. -/
namespace Go.Proofs.YtkgdagjklakajaaGreatDoor
open Go.RowKit
end Go.Proofs.YtkgdagjklakajaaGreatDoor
/- The walks through ogeeref08.Terms and Same. -/
namespace Go.Proofs.YtkgdagjklakajaaGreatDoor
open Go.RowKit
theorem yI (n : Nat) (m m' : ByteArray) (s s' : Bool) (a a' : ByteArray) (e e' : Int) (w : World) : (Op.equalIn (n + 4) 58 (.agg #[.string m, .bool s, .string a, .int .i64 e]) (.agg #[.string m', .bool s', .string a', .int .i64 e'])).run Tryz.prog w = .ok (m == m' && ((s == s' && a == a') && e == e')) w := by
 have h1 := fun (u : ByteArray) (x : Bool) (y : ByteArray) (z : Int) => tv (P := Tryz.prog) (cs := #[.string u, .bool x, .string y, .int .i64 z]) (off := 0) (aC.out (P := Tryz.prog) (t := 9)) rfl
 have h2 := fun (u : ByteArray) (x : Bool) (y : ByteArray) (z : Int) => yV (P := Tryz.prog) (cs := #[.string u, .bool x, .string y, .int .i64 z]) (vs := #[.bool x, .string y, .int .i64 z]) (off := 1) (aC.out (P := Tryz.prog) (t := 26)) rfl
 rw [Op.equalIn]
 simp [run_underlying Tryz.underlying58, h1, h2, z3, sw]
 cases h : m == m' <;> cases h' : ((s == s' && a == a') && e == e') <;> simp_all
theorem qZ {x y : TR} : (x.m == y.m && ((x.c.neg == y.c.neg && x.c.cC == y.c.cC) && x.c.e == y.c.e)) = true ↔ x = y := by
 obtain ⟨m, s, a, e⟩ := x
 obtain ⟨m', s', a', e'⟩ := y
 rw [Bool.and_eq_true, kI, vx, TR.mk.injEq]
section
variable {ρ : Rf} {w : World} {d : Option Nat} {ty u : TypeId} {pos : String} {af : Array Edge} {g : Option (Nat × Bool)} {x y : Operand} {s t : TR}
theorem yZ {r : Bool} (hx : ev ρ x = .agg s.cells.toArray) (hy : ev ρ y = .agg t.cells.toArray) (hr : (s.m == t.m && ((s.c.neg == t.c.neg && s.c.cC == t.c.cC) && s.c.e == t.c.e)) = r) :
  (execOp (ev ρ) ⟨d, .binOp .neq 58 x y u, ty, pos, af, g⟩).run Tryz.prog w = .ok (.value (.bool !r)) w := by
 have h1 : (Op.equal 58 (.agg s.cells.toArray) (.agg t.cells.toArray)).run Tryz.prog w = .ok r w := by rw [← hr]; exact yI 9996 s.m t.m s.c.neg t.c.neg s.c.cC t.c.cC s.c.e t.c.e w
 simp only [execOp, hx, hy]
 simp [eqGuard, binOp, h1]
theorem yl (hx : ev ρ x = .agg s.cells.toArray) (hy : ev ρ y = .agg t.cells.toArray) (h : s = t) :
  (execOp (ev ρ) ⟨d, .binOp .neq 58 x y u, ty, pos, af, g⟩).run Tryz.prog w = .ok (.value (.bool false)) w := yZ hx hy (qZ.2 h)
theorem yg (hx : ev ρ x = .agg s.cells.toArray) (hy : ev ρ y = .agg t.cells.toArray) (h : ¬ s = t) :
  (execOp (ev ρ) ⟨d, .binOp .neq 58 x y u, ty, pos, af, g⟩).run Tryz.prog w = .ok (.value (.bool true)) w := yZ hx hy (r := false) (Bool.eq_false_iff.2 fun h1 => h (qZ.1 h1))
end
theorem yx {α : Type} {a b : List α} {i : Nat} (ha : a.length ≤ i) (hb : b.length ≤ i) (h : a.take i = b.take i) : a = b := by
 rwa [List.take_of_length_le ha, List.take_of_length_le hb] at h
theorem k5 (A : Option Addr) (n c : Nat) (a : List TR) (B : Option Addr) (m d : Nat) (b : List TR) (w : World) (hS : Sl w A n 4 (a8 TR.cells a)) (hS2 : Sl w B m 4 (a8 TR.cells b)) (hn : n ≤ 1000000) (hm : m ≤ 1000000) :
  Calls Tryz.prog 30 #[.slice A n c, .slice B m d] w fun r w' => ∃ v, r = .returned (.bool v) ∧ (v = true ↔ a = b) ∧ Below w.heap.size w w' := by
 have hh := Hp.start w
 have hla := hS.ck TR.len (by decide)
 have hlb := hS2.ck TR.len (by decide)
 by_cases hnm : n = m
 ·subst hnm
  refine ak (N := 26) (l := [.slice A n c, .slice B n d]) Tryz.func30 rfl rfl (by simp) ?_
  refine sr (aB (aa (ai (sr (mL (a5 (mL (a5 ?_))))))))
  refine dR (aa (cF (al (aj (ai (sr (aI (aa (aq ?_)))))))))
  refine bD [4, 5, 11, 12, 13, 14, 15, 16, 17, 18, 19, 20, 21, 22, 23, 24, 25] 5
   (fun v w' => ∃ i : Nat, i ≤ n ∧ v = .int .i64 i ∧ a.take i = b.take i ∧ Hp w [] w')
   (fun v _ => n - (intOf v).toNat) ?_ ?_
  ·exact ⟨0, Nat.zero_le _, rfl, rfl, hh⟩
  ·clear hh
   rintro ρ' v w' ⟨i, hi, rfl, he, hh⟩
   by_cases hlt : i < n
   ·obtain ⟨s, hs⟩ := aR (l := a) (k := i) (by omega)
    obtain ⟨t, ht⟩ := aR (l := b) (k := i) (by omega)
    obtain ⟨ad, rfl, hr⟩ := hS.at_ (by omega)
    obtain ⟨ad2, rfl, hr2⟩ := hS2.at_ (by omega)
    by_cases hst : s = t
    ·refine ai (sr (mI (mL (a5 ?_))))
     refine aZ (aa (cT (al (aj (ai (aq (ai ?_)))))))
     refine bf 8 [[(0, none)], [(5, none)], [(17, some 0), (18, some 1)], [(19, some 2)], [(1, none)], [(5, none)], [(21, some 4), (22, some 5)], [(23, some 6)]] [(7, 24), (6, 23), (5, 22), (4, 21), (3, 20), (2, 19), (1, 18), (0, 17)] hh mixed (by kernel_rfl) ?_
     refine iB ?_
     refine fe ?_
     refine lY (i) ?_
     refine vP [_,_,_,_] (fun _ hj => (hr.ext hj.hp.below).recAt TR.len hs) ?_
     refine iB ?_
     refine fe ?_
     refine lY (i) ?_
     refine vP [_,_,_,_] (fun _ hj => (hr2.ext hj.hp.below).recAt TR.len ht) ?_
     refine bo ?_
     intro f W hJ hV
     have hb_6 := hJ.bl
     obtain ⟨v24, v23, v22, v21, v20, v19, v18, v17, _⟩ := hV
     replace hh := hJ.hp
     refine a7 (bu (ah v24 (ah v23 (ah v22 (ah v21 (ah v20 (ah v19 (ah v18 (ah v17 a6))))))))) ?_
     dsimp only [cJ]
     clear hJ
     refine aY rfl rfl (by decide) (yl (s := s) (t := t) rfl rfl hst) ?_
     skip
     refine aa (cF (al (a3 (aj (au (mI ?_))))))
     refine bO (aI (aK (aj ?_)))
     refine ⟨⟨i + 1, by omega, rfl, by rw [aW hs, aW ht, he, hst], hh⟩, by show n - (i + 1) < n - i; omega, ?_⟩
     (repeat (first | exact aA _ _ _ | refine aE rfl ?_ | refine ax rfl ?_))
    ·refine ai (sr (mI (mL (a5 ?_))))
     refine aZ (aa (cT (al (aj (ai (aq (ai ?_)))))))
     refine bf 8 [[(0, none)], [(5, none)], [(17, some 0), (18, some 1)], [(19, some 2)], [(1, none)], [(5, none)], [(21, some 4), (22, some 5)], [(23, some 6)]] [(7, 24), (6, 23), (5, 22), (4, 21), (3, 20), (2, 19), (1, 18), (0, 17)] hh mixed (by kernel_rfl) ?_
     refine iB ?_
     refine fe ?_
     refine lY (i) ?_
     refine vP [_,_,_,_] (fun _ hj => (hr.ext hj.hp.below).recAt TR.len hs) ?_
     refine iB ?_
     refine fe ?_
     refine lY (i) ?_
     refine vP [_,_,_,_] (fun _ hj => (hr2.ext hj.hp.below).recAt TR.len ht) ?_
     refine bo ?_
     intro f W hJ hV
     have hb_6 := hJ.bl
     obtain ⟨v24, v23, v22, v21, v20, v19, v18, v17, _⟩ := hV
     replace hh := hJ.hp
     refine a7 (bu (ah v24 (ah v23 (ah v22 (ah v21 (ah v20 (ah v19 (ah v18 (ah v17 a6))))))))) ?_
     dsimp only [cJ]
     clear hJ
     refine aY rfl rfl (by decide) (yg (s := s) (t := t) rfl rfl hst) ?_
     skip
     refine aa (cT (sr (aB (aa (ao (bU (aM (aM (bU (aM ?_))))))))))
     refine cd ?_
     refine ⟨_, rfl, ⟨fun h => (nomatch h), fun h => absurd ?_ hst⟩, hh.below⟩
     rw [h, ht] at hs
     exact (Option.some.inj hs).symm
   ·refine ai (sr (mI (mL (a5 ?_))))
    refine aZ (aa (cF ?_))
    refine a4 ?_
    refine aD (aD (bp (aj (sr (aB (aa (ao ?_)))))))
    refine cd ?_
    exact ⟨_, rfl, ⟨fun _ => yx (by omega) (by omega) he, fun _ => rfl⟩, hh.below⟩
 ·refine ak (N := 26) (l := [.slice A n c, .slice B m d]) Tryz.func30 rfl rfl (by simp) ?_
  refine sr (aB (aa (ai (sr (mL (a5 (mL (a5 ?_))))))))
  refine dR (aa (cT (sr (aB (aa (ao (aM ?_)))))))
  refine cd ?_
  exact ⟨_, rfl, ⟨fun h => (nomatch h), fun h => absurd (by rw [← hla, ← hlb, h]) hnm⟩, hh.below⟩
theorem qW (p q : PX) (w : World) (hp : p.at_ w) (hq : q.at_ w) (hn : p.n ≤ 1000000) (hm : q.n ≤ 1000000) :
  Calls Tryz.prog 20 #[.agg #[.int .i64 p.v, .slice p.A p.n p.c], .agg #[.int .i64 q.v, .slice q.A q.n q.c]] w fun r w' => ∃ v, r = .returned (.bool v) ∧ (v = true ↔ p.v = q.v ∧ p.ts = q.ts) ∧ Below w.heap.size w w' := by
 have hh := Hp.start w
 have ht := fun w1 hb => k5 p.A p.n p.c p.ts q.A q.n q.c q.ts w1 (hp.ext hb) (hq.ext hb) hn hm
 by_cases hv : p.v = q.v
 ·refine ak (N := 17) (l := [.agg #[.int .i64 p.v, .slice p.A p.n p.c], .agg #[.int .i64 q.v, .slice q.A q.n q.c]]) Tryz.func20 rfl rfl (by simp) ?_
  refine sr ?_
  refine dp hh [_,_] ?_
  intro b2 w2 hh
  refine dp hh [_,_] ?_
  intro b3 w3 hh
  refine aB (aa (sr (bP ?_)))
  refine bQ hh 1 ?_
  refine bP ?_
  refine bQ hh 0 ?_
  refine cI (mB ?_)
  first | refine gS ?_ | (refine gT ?_; refine bP ?_) | refine gV ?_
  first | refine gS ?_ | (refine gT ?_; refine bQ hh 1 ?_) | refine gV ?_
  first | refine gS ?_ | (refine gT ?_; refine bP ?_) | refine gV ?_
  first | refine gS ?_ | (refine gT ?_; refine bQ hh 0 ?_) | refine gV ?_
  refine aX rfl rfl ?_
  refine aH (ht _ hh.below) ar.out rfl (by decide) ?_
  rintro e_ w15 ⟨v_, rfl, hv_, hb_⟩
  refine ⟨_, rfl, ?_⟩
  replace hh := hh.ext hb_
  first | refine ct ?_ | refine cq ?_
  refine aB (aa (ao ?_))
  refine cd ?_
  exact ⟨v_, rfl, hv_.trans ⟨fun h => ⟨hv, h⟩, fun h => h.2⟩, hh.below⟩
 ·refine ak (N := 17) (l := [.agg #[.int .i64 p.v, .slice p.A p.n p.c], .agg #[.int .i64 q.v, .slice q.A q.n q.c]]) Tryz.func20 rfl rfl (by simp) ?_
  refine sr ?_
  refine dp hh [_,_] ?_
  intro b2 w2 hh
  refine dp hh [_,_] ?_
  intro b3 w3 hh
  refine aB (aa (sr (bP ?_)))
  refine bQ hh 1 ?_
  refine bP ?_
  refine bQ hh 0 ?_
  refine cI (mB ?_)
  first | refine gS ?_ | (refine gT ?_; refine bP ?_) | refine gV ?_
  first | refine gS ?_ | (refine gT ?_; refine bQ hh 1 ?_) | refine gV ?_
  first | refine gS ?_ | (refine gT ?_; refine bP ?_) | refine gV ?_
  first | refine gS ?_ | (refine gT ?_; refine bQ hh 0 ?_) | refine gV ?_
  refine bH (by decide) rfl rfl (by decide) ?_
  first | refine ct ?_ | refine cq ?_
  refine aB (aa (ao ?_))
  refine cd ?_
  exact ⟨_, rfl, ⟨fun h => (nomatch h), fun h => absurd h.1 hv⟩, hh.below⟩
end Go.Proofs.YtkgdagjklakajaaGreatDoor
/- The walks through ogeelaw08's own helpers. -/
namespace Go.Proofs.YtkgdagjklakajaaGreatDoor
open Go.RowKit
def sP (a : NR) : Bool := decide ((24 : Int) < a.cC.size ∨ a.e < -300 ∨ 300 < a.e)
theorem sj (a : NR) (w : World) :
  Calls Tryz.prog 16 #[.agg #[.bool a.neg, .string a.cC, .int .i64 a.e]] w fun r w' => r = .returned (.bool (sP a)) ∧ Below w.heap.size w w' := by
 have hh := Hp.start w
 by_cases h1 : (24 : Int) < a.cC.size
 ·refine ak (N := 18) (l := [.agg #[.bool a.neg, .string a.cC, .int .i64 a.e]]) Tryz.func16 rfl rfl (by simp) ?_
  refine sr ?_
  refine dp hh [_,_,_] ?_
  intro b1 w1 hh
  refine aB (aa (sr (bP (bP ?_))))
  refine bQ hh 0 ?_
  refine bB aJ.out rfl (by decide) ?_
  refine cg (mB ?_)
  first | refine gS ?_ | (refine gT ?_; refine bP ?_) | refine gV ?_
  first | refine gS ?_ | (refine gT ?_; refine bQ hh 0 ?_) | refine gV ?_
  first | refine gS ?_ | (refine gT ?_; refine aZ ?_) | refine gV ?_
  first | refine ct ?_ | refine cq ?_
  refine mB ?_
  first | refine gS ?_ | (refine gT ?_; refine bP ?_) | refine gV ?_
  first | refine gS ?_ | (refine gT ?_; refine bQ hh 0 ?_) | refine gV ?_
  first | refine gS ?_ | (refine gT ?_; refine cg ?_) | refine gV ?_
  first | refine ct ?_ | refine cq ?_
  refine aB (aa (ao ?_))
  refine cd ?_
  refine ⟨?_, hh.below⟩
  unfold sP
  rw [decide_eq_true (.inl h1)]
 ·by_cases h2 : a.e < -300
  ·refine ak (N := 18) (l := [.agg #[.bool a.neg, .string a.cC, .int .i64 a.e]]) Tryz.func16 rfl rfl (by simp) ?_
   refine sr ?_
   refine dp hh [_,_,_] ?_
   intro b1 w1 hh
   refine aB (aa (sr (bP (bP ?_))))
   refine bQ hh 0 ?_
   refine bB aJ.out rfl (by decide) ?_
   refine cg (mB ?_)
   first | refine gS ?_ | (refine gT ?_; refine bP ?_) | refine gV ?_
   first | refine gS ?_ | (refine gT ?_; refine bQ hh 0 ?_) | refine gV ?_
   first | refine gS ?_ | (refine gT ?_; refine aZ ?_) | refine gV ?_
   first | refine ct ?_ | refine cq ?_
   refine mB ?_
   first | refine gS ?_ | (refine gT ?_; refine bP ?_) | refine gV ?_
   first | refine gS ?_ | (refine gT ?_; refine bQ hh 0 ?_) | refine gV ?_
   first | refine gS ?_ | (refine gT ?_; refine cg ?_) | refine gV ?_
   first | refine ct ?_ | refine cq ?_
   refine aB (aa (ao ?_))
   refine cd ?_
   refine ⟨?_, hh.below⟩
   unfold sP
   rw [decide_eq_true (.inr (.inl h2))]
  ·by_cases h3 : 300 < a.e
   ·refine ak (N := 18) (l := [.agg #[.bool a.neg, .string a.cC, .int .i64 a.e]]) Tryz.func16 rfl rfl (by simp) ?_
    refine sr ?_
    refine dp hh [_,_,_] ?_
    intro b1 w1 hh
    refine aB (aa (sr (bP (bP ?_))))
    refine bQ hh 0 ?_
    refine bB aJ.out rfl (by decide) ?_
    refine cg (mB ?_)
    first | refine gS ?_ | (refine gT ?_; refine bP ?_) | refine gV ?_
    first | refine gS ?_ | (refine gT ?_; refine bQ hh 0 ?_) | refine gV ?_
    first | refine gS ?_ | (refine gT ?_; refine aZ ?_) | refine gV ?_
    first | refine ct ?_ | refine cq ?_
    refine mB ?_
    first | refine gS ?_ | (refine gT ?_; refine bP ?_) | refine gV ?_
    first | refine gS ?_ | (refine gT ?_; refine bQ hh 0 ?_) | refine gV ?_
    first | refine gS ?_ | (refine gT ?_; refine cg ?_) | refine gV ?_
    first | refine ct ?_ | refine cq ?_
    refine aB (aa (ao ?_))
    refine cd ?_
    refine ⟨?_, hh.below⟩
    unfold sP
    rw [decide_eq_true (.inr (.inr h3))]
   ·refine ak (N := 18) (l := [.agg #[.bool a.neg, .string a.cC, .int .i64 a.e]]) Tryz.func16 rfl rfl (by simp) ?_
    refine sr ?_
    refine dp hh [_,_,_] ?_
    intro b1 w1 hh
    refine aB (aa (sr (bP (bP ?_))))
    refine bQ hh 0 ?_
    refine bB aJ.out rfl (by decide) ?_
    refine cg (mB ?_)
    first | refine gS ?_ | (refine gT ?_; refine bP ?_) | refine gV ?_
    first | refine gS ?_ | (refine gT ?_; refine bQ hh 0 ?_) | refine gV ?_
    first | refine gS ?_ | (refine gT ?_; refine aZ ?_) | refine gV ?_
    first | refine ct ?_ | refine cq ?_
    refine mB ?_
    first | refine gS ?_ | (refine gT ?_; refine bP ?_) | refine gV ?_
    first | refine gS ?_ | (refine gT ?_; refine bQ hh 0 ?_) | refine gV ?_
    first | refine gS ?_ | (refine gT ?_; refine cg ?_) | refine gV ?_
    first | refine ct ?_ | refine cq ?_
    refine aB (aa (ao ?_))
    refine cd ?_
    refine ⟨?_, hh.below⟩
    unfold sP
    rw [decide_eq_false (by omega)]
theorem AB {a : NR} (h : sP a = false) : a.ok ∧ Sz 492 a.d := by
 have h' := of_decide_eq_false h
 have h1 : (a.cC.size : Int) ≤ 24 := by omega
 have h2 : -300 ≤ a.e := by omega
 have h3 : a.e ≤ 300 := by omega
 exact ⟨⟨by omega, by omega, by omega⟩, Sz.raw (m := 192) (E := 300) (by omega) h2 h3⟩
structure Ad (ts : List TR) : Prop where
 n : ts.length ≤ 12
 ok : gi 492 ts
 sz : ∀ t ∈ ts, t.m.size ≤ 50
theorem qT (A : Option Addr) (n c : Nat) (ts : List TR) (w : World) (hS : Sl w A n 4 (a8 TR.cells ts)) :
  Calls Tryz.prog 15 #[.slice A n c] w fun r w' => ∃ b : Bool, r = .returned (.bool b) ∧ (b = false → Ad ts) ∧ Below w.heap.size w w' := by
 have hh := Hp.start w
 have hln := hS.ck TR.len (by decide)
 by_cases h1 : 12 < n
 ·refine ak (N := 28) (l := [.slice A n c]) Tryz.func15 rfl rfl (by simp) ?_
  refine sr (aB (aa (ai (sr (mL (a5 ?_))))))
  refine cg (aa (cT (sr (aB (aa (ao (aM ?_)))))))
  refine cd ?_
  exact ⟨_, rfl, fun h => (nomatch h), hh.below⟩
 ·refine ak (N := 28) (l := [.slice A n c]) Tryz.func15 rfl rfl (by simp) ?_
  refine sr (aB (aa (ai (sr (mL (a5 ?_))))))
  refine cg (aa (cF (al (aj (ai (sr (aI (aa (aq ?_)))))))))
  refine bD [2, 3, 7, 8, 9, 10, 11, 12, 13, 14, 15, 16, 17, 18, 19, 20, 21, 22, 23, 24, 25, 26, 27] 3
   (fun v w' => ∃ i : Nat, i ≤ n ∧ v = .int .i64 i ∧ gi 492 (ts.take i) ∧ (∀ t ∈ ts.take i, t.m.size ≤ 50) ∧ Hp w [] w')
   (fun v _ => n - (intOf v).toNat) ?_ ?_
  ·exact ⟨0, Nat.zero_le _, rfl, fun t ht => (nomatch ht), fun t ht => (nomatch ht), hh⟩
  ·clear hh
   rintro ρ' v w' ⟨i, hi, rfl, hall, hsz, hh⟩
   by_cases hlt : i < n
   ·obtain ⟨x, hx⟩ := aR (l := ts) (k := i) (by omega)
    obtain ⟨ad, rfl, hr⟩ := hS.at_ (by omega)
    have hfa := fun w1 => sj x.c w1
    have hbm := dF x.m
    cases hf : sP x.c with
    | true =>
     rw [hf] at hfa
     refine ai (sr (mI (mL (a5 ?_))))
     refine aZ (aa (cT (al (aj (ai (aq (sr (mL (mI ?_)))))))))
     refine a0 (k := i) aJ.out aC.size rfl rfl (by omega) (by omega) (by decide) ?_
     refine dM eh.out rfl (by decide) ?_
     refine cb (vs := [_, _, _]) aC.out rfl (((hr.ext hh.below).recAt TR.len hx).drop 1) rfl (by decide) ?_
     refine bE hh (hfa _) rfl ?_
     intro w18 hh
     refine mB ?_
     first | refine gS ?_ | (refine gT ?_; refine mL ?_) | refine gV ?_
     first | refine gS ?_ | (refine gT ?_; refine mI ?_) | refine gV ?_
     first | refine gS ?_ | (refine gT ?_; refine a0 aJ.out aC.size rfl rfl rfl (by omega) (by decide) ?_) | refine gV ?_
     first | refine gS ?_ | (refine gT ?_; refine dM eh.out rfl (by decide) ?_) | refine gV ?_
     first | (refine bH (by decide) rfl rfl (by decide) ?_) | (refine fF (by decide) rfl rfl ?_)
     first | refine gS ?_ | (refine gT ?_; refine bB aJ.out rfl (by decide) ?_) | refine gV ?_
     first | refine gS ?_ | (refine gT ?_; refine cg ?_) | refine gV ?_
     first | refine ct ?_ | refine cq ?_
     refine aa (cT (sr (aB (aa (ao (bU (aM (aM (bU (aM ?_))))))))))
     refine cd ?_
     exact ⟨_, rfl, fun h => (nomatch h), hh.below⟩
    | false =>
     rw [hf] at hfa
     by_cases h5 : 50 < x.m.size
     ·refine ai (sr (mI (mL (a5 ?_))))
      refine aZ (aa (cT (al (aj (ai (aq (sr (mL (mI ?_)))))))))
      refine a0 (k := i) aJ.out aC.size rfl rfl (by omega) (by omega) (by decide) ?_
      refine dM eh.out rfl (by decide) ?_
      refine cb (vs := [_, _, _]) aC.out rfl (((hr.ext hh.below).recAt TR.len hx).drop 1) rfl (by decide) ?_
      refine bE hh (hfa _) rfl ?_
      intro w18 hh
      refine mB ?_
      first | refine gS ?_ | (refine gT ?_; refine mL ?_) | refine gV ?_
      first | refine gS ?_ | (refine gT ?_; refine mI ?_) | refine gV ?_
      first | refine gS ?_ | (refine gT ?_; refine a0 (k := i) aJ.out aC.size rfl rfl (by omega) (by omega) (by decide) ?_) | refine gV ?_
      first | refine gS ?_ | (refine gT ?_; refine dM eh.out rfl (by decide) ?_) | refine gV ?_
      refine aX rfl rfl ?_
      refine bJ aC.out rfl (((hr.ext hh.below).recAt TR.len hx).cell (i := 0) rfl) (by decide) ?_
      first | refine gS ?_ | (refine gT ?_; refine bB aJ.out rfl (by decide) ?_) | refine gV ?_
      first | refine gS ?_ | (refine gT ?_; refine cg ?_) | refine gV ?_
      first | refine ct ?_ | refine cq ?_
      refine aa (cT (sr (aB (aa (ao (bU (aM (aM (bU (aM ?_))))))))))
      refine cd ?_
      exact ⟨_, rfl, fun h => (nomatch h), hh.below⟩
     ·refine ai (sr (mI (mL (a5 ?_))))
      refine aZ (aa (cT (al (aj (ai (aq (sr (mL (mI ?_)))))))))
      refine a0 (k := i) aJ.out aC.size rfl rfl (by omega) (by omega) (by decide) ?_
      refine dM eh.out rfl (by decide) ?_
      refine cb (vs := [_, _, _]) aC.out rfl (((hr.ext hh.below).recAt TR.len hx).drop 1) rfl (by decide) ?_
      refine bE hh (hfa _) rfl ?_
      intro w18 hh
      refine mB ?_
      first | refine gS ?_ | (refine gT ?_; refine mL ?_) | refine gV ?_
      first | refine gS ?_ | (refine gT ?_; refine mI ?_) | refine gV ?_
      first | refine gS ?_ | (refine gT ?_; refine a0 (k := i) aJ.out aC.size rfl rfl (by omega) (by omega) (by decide) ?_) | refine gV ?_
      first | refine gS ?_ | (refine gT ?_; refine dM eh.out rfl (by decide) ?_) | refine gV ?_
      refine aX rfl rfl ?_
      refine bJ aC.out rfl (((hr.ext hh.below).recAt TR.len hx).cell (i := 0) rfl) (by decide) ?_
      first | refine gS ?_ | (refine gT ?_; refine bB aJ.out rfl (by decide) ?_) | refine gV ?_
      first | refine gS ?_ | (refine gT ?_; refine cg ?_) | refine gV ?_
      first | refine ct ?_ | refine cq ?_
      refine aa (cF (al (a3 (aj (au (mI ?_))))))
      refine bO (aI (aK (aj ?_)))
      refine ⟨⟨i + 1, by omega, rfl, fun t ht => ?_, fun t ht => ?_, hh⟩, by show n - (i + 1) < n - i; omega, ?_⟩
      ·rw [aW hx] at ht
       rcases List.mem_append.1 ht with ht | ht
       ·exact hall t ht
       ·rw [List.mem_singleton.1 ht]; exact AB hf
      ·rw [aW hx] at ht
       rcases List.mem_append.1 ht with ht | ht
       ·exact hsz t ht
       ·rw [List.mem_singleton.1 ht]; omega
      ·(repeat (first | exact aA _ _ _ | refine aE rfl ?_ | refine ax rfl ?_))
   ·rw [List.take_of_length_le (by omega)] at hall hsz
    refine ai (sr (mI (mL (a5 ?_))))
    refine aZ (aa (cF ?_))
    refine a4 ?_
    refine aD (aD (bp (aj (sr (aB (aa (ao ?_)))))))
    refine cd ?_
    exact ⟨_, rfl, fun _ => ⟨by omega, hall, hsz⟩, hh.below⟩
theorem sD (L : Option Addr) (n c : Nat) (ps : List PX) (w : World) (hL : Sl w L n 2 (a8 PX.cells ps)) (hf : ∀ g ∈ ps, g.at_ w) :
  Calls Tryz.prog 31 #[.slice L n c] w fun r w' => ∃ b : Bool, r = .returned (.bool b) ∧ (b = false → n ≤ 3 ∧ ∀ g ∈ ps, Ad g.ts) ∧ Below w.heap.size w w' := by
 have hh := Hp.start w
 have hln := hL.ck PX.len (by decide)
 by_cases h1 : 3 < n
 ·refine ak (N := 19) (l := [.slice L n c]) Tryz.func31 rfl rfl (by simp) ?_
  refine sr (aB (aa (ai (sr (mL (a5 ?_))))))
  refine cg (aa (cT (sr (aB (aa (ao (aM ?_)))))))
  refine cd ?_
  exact ⟨_, rfl, fun h => (nomatch h), hh.below⟩
 ·refine ak (N := 19) (l := [.slice L n c]) Tryz.func31 rfl rfl (by simp) ?_
  refine sr (aB (aa (ai (sr (mL (a5 ?_))))))
  refine cg (aa (cF (al (aj (ai (sr (aI (aa (aq ?_)))))))))
  refine bD [2, 3, 7, 8, 9, 10, 11, 12, 13, 14, 15, 16, 17, 18] 3
   (fun v w' => ∃ i : Nat, i ≤ n ∧ v = .int .i64 i ∧ (∀ g ∈ ps.take i, Ad g.ts) ∧ Hp w [] w')
   (fun v _ => n - (intOf v).toNat) ?_ ?_
  ·exact ⟨0, Nat.zero_le _, rfl, fun t ht => (nomatch ht), hh⟩
  ·clear hh
   rintro ρ' v w' ⟨i, hi, rfl, hall, hh⟩
   by_cases hlt : i < n
   ·obtain ⟨g, hx⟩ := aR (l := ps) (k := i) (by omega)
    obtain ⟨ad, rfl, hr⟩ := hL.at_ (by omega)
    refine ai (sr (mI (mL (a5 ?_))))
    refine aZ (aa (cT (al (aj (ai (aq (sr (mL (mI ?_)))))))))
    refine a0 (k := i) aJ.out aC.size rfl rfl (by omega) (by omega) (by decide) ?_
    refine dM eh.out rfl (by decide) ?_
    refine bJ aC.out rfl (dA hh.below ((hr.recAt PX.len hx) 1 _ rfl)) (by decide) ?_
    refine aH (qT g.A g.n g.c g.ts _ ((hf g (List.mem_of_getElem? hx)).ext hh.below)) ar.out rfl (by decide) ?_
    rintro e_ w18 ⟨b, rfl, hb, hb_⟩
    refine ⟨_, rfl, ?_⟩
    replace hh := hh.ext hb_
    cases b with
    | true =>
     refine aa (cT (sr (aB (aa (ao (bU (aM (aM (bU (aM ?_))))))))))
     refine cd ?_
     exact ⟨_, rfl, fun h => (nomatch h), hh.below⟩
    | false =>
     refine aa (cF (al (a3 (aj (au (mI ?_))))))
     refine bO (aI (aK (aj ?_)))
     refine ⟨⟨i + 1, by omega, rfl, fun t ht => ?_, hh⟩, by show n - (i + 1) < n - i; omega, ?_⟩
     ·rw [aW hx] at ht
      rcases List.mem_append.1 ht with ht | ht
      ·exact hall t ht
      ·rw [List.mem_singleton.1 ht]; exact hb rfl
     ·(repeat (first | exact aA _ _ _ | refine aE rfl ?_ | refine ax rfl ?_))
   ·rw [List.take_of_length_le (by omega)] at hall
    refine ai (sr (mI (mL (a5 ?_))))
    refine aZ (aa (cF ?_))
    refine a4 ?_
    refine aD (aD (bp (aj (sr (aB (aa (ao ?_)))))))
    refine cd ?_
    exact ⟨_, rfl, fun _ => ⟨by omega, hall⟩, hh.below⟩
end Go.Proofs.YtkgdagjklakajaaGreatDoor
/- Plain: what polynomials come to hangs on their variables and terms alone; how long it is. -/
namespace Go.Proofs.YtkgdagjklakajaaGreatDoor
open Go.RowKit
def PX.norm (g : PX) : PX := ⟨g.v, none, 0, 0, g.ts⟩
theorem rJ : ∀ (l : List PX) (a : List TR × Int), (l.foldl dT a).2 = 0 → a.1.length ≤ 4096 → (l.foldl dT a).1.length ≤ 4096
 | [], _, _, h => h
 | g :: l, a, h0, h => by
  rw [List.foldl_cons] at h0 ⊢
  refine rJ l _ h0 ?_
  by_cases ha : a.2 = 0
  ·have e : dT a g = (aP (cL a.1 g.ts), fm a.1 g.ts) := if_pos ha
   by_cases ht : fm a.1 g.ts = 0
   ·rw [e]
    exact (lb ht).2.2
   ·rw [nC (by rw [e]; exact ht) l, e] at h0
    exact absurd h0 ht
  ·have e : dT a g = a := if_neg ha
   rw [e]
   exact h
theorem kt {ps : List PX} (h : ∀ g ∈ ps, g.ts.length ≤ 4096) (h0 : eE ps = 0) : (uA ps).1.length ≤ 4096 := by
 have h1 : (uA ps).2 = 0 := by
  unfold eE at h0
  by_cases hl : eX ps = 0
  ·rwa [if_pos hl] at h0
  ·rw [if_neg hl] at h0; exact absurd h0 hl
 cases ps with
 | nil => exact Nat.zero_le _
 | cons g l => exact rJ l (g.ts, 0) h1 (h g List.mem_cons_self)
theorem dm.n4 {E v : Int} {ts : List TR} {g : PX} {w : World} (o : dm E v ts g) (h : g.at_ w) (hb : E = 0 → ts.length ≤ 4096) : g.n ≤ 4096 := by
 have hl := h.ln
 have hts := o.ts
 by_cases hE : E = 0
 ·rw [if_pos hE] at hts
  have := hb hE
  rw [hts] at hl
  omega
 ·rw [if_neg hE] at hts
  rw [hts] at hl
  have h0 : g.n = 0 := hl.symm
  omega
structure AY (ps os : List PX) (R : List HE) : Prop where
 eq : ∀ (j : Nat) (g o : PX), ps[j]? = some g → os[j]? = some o → o.v = g.v ∧ o.ts = g.ts ∧ o.n = g.n
 my : ∀ o ∈ os, o.row ∈ R ∧ o.n ≤ o.c
theorem Ad.md {g : PX} {w : World} (h : Ad g.ts) (ha : g.at_ w) (hc : g.n ≤ g.c) : g.md 492 := ⟨by have := h.n; have := ha.ln; omega, hc, h.ok, fun t ht => Nat.le_trans (h.sz t ht) (by decide)⟩
end Go.Proofs.YtkgdagjklakajaaGreatDoor
/- The walk through poly.Scale. -/
namespace Go.Proofs.YtkgdagjklakajaaGreatDoor
open Go.RowKit
def rA (p : PX) (c : Dyadic) : Int := if p.e = 0 then gJ (p.ts.map (fP c)) else p.e
theorem uy {l X : List TR} {c : Dyadic} {i : Nat} {z : TR} (hz : l[i]? = some z) (hX : X = (l.take i).map (fP c) ++ l.drop i) : X[i]? = some z ∧ X.set i ⟨z.m, nR (z.c.d * c)⟩ = (l.take (i + 1)).map (fP c) ++ l.drop (i + 1) := by
 obtain ⟨h1, h2⟩ := List.getElem?_eq_some_iff.1 hz
 have hl : ((l.take i).map (fP c)).length = i := by rw [List.length_map, List.length_take]; omega
 refine ⟨?_, ?_⟩
 ·rw [hX, List.getElem?_append_right (by omega), hl, Nat.sub_self, List.getElem?_drop]
  exact hz
 ·rw [aW hz, List.map_append, hX, List.set_append_right _ _ (by omega), hl, Nat.sub_self, List.append_assoc, jF hz]
  rfl
theorem tj {k j : Nat} {l : List TR} {c : Dyadic} (ho : gi k l) (hc : Sz j c) (hk : k + j ≤ 1000000) : gi (k + j) (l.map (fP c)) := fun t ht => by
 obtain ⟨z, hz, rfl⟩ := List.mem_map.1 ht
 have hs := (ho z hz).2.mul hc
 exact ⟨hs.ok (by omega), by show Sz _ (nR _).d; rw [eO]; exact hs⟩
theorem qp (p : PX) (c : NR) (k : Nat) (w : World) (hT : gM w) (hp : p.at_ w) (lp : p.md k) (hc : c.ok ∧ Sz k c.d) (hk : k ≤ 400000) :
  Calls Tryz.prog 39 #[.agg #[.int .i64 p.v, .slice p.A p.n p.c], .agg #[.bool c.neg, .string c.cC, .int .i64 c.e]] w fun r w' => ∃ g : PX, dm (rA p c.d) p.v (aP (p.ts.map (fP c.d))) g ∧ r = .returned (.tuple #[.agg #[.int .i64 g.v, .slice g.A g.n g.c], .int .i64 (rA p c.d)]) ∧ Hp w [g.row] w' := by
 have hh := Hp.start w
 have hck := fun w1 hT1 hb => mh p k w1 hT1 (hp.ext hb) lp
 unfold rA
 by_cases h0 : p.e = 0
 ·rw [if_pos h0]
  rw [h0] at hck
  obtain ⟨_, h4, _, _⟩ := eR h0
  have hpl : p.ts.length = p.n := hp.ln
  refine ak (N := 42) (l := [.agg #[.int .i64 p.v, .slice p.A p.n p.c], .agg #[.bool c.neg, .string c.cC, .int .i64 c.e]]) Tryz.func39 rfl rfl (by simp) ?_
  refine sr ?_
  refine dp hh [_,_] ?_
  intro b2 w2 hh
  refine dp hh [_,_,_] ?_
  intro b3 w3 hh
  refine cj hh ?_
  intro b4 w4 hh
  refine aI (aa (ai (sr ?_)))
  refine cf hh 2 [_,_] ?_
  refine bE hh (hck _ (hT.hp hh) hh.below) rfl ?_
  intro w10 hh
  refine aI (aa (sr (mI ?_)))
  refine dR (aa (cF (al (aj (sr (bP ?_))))))
  refine bQ hh 2 ?_
  refine aH (iO p.A p.n p.c p.ts _ (hp.ext hh.below) lp.n) ar.out rfl (by decide) ?_
  rintro e_ w17 ⟨A17, c17, rfl, hown_, hb_⟩
  refine ⟨_, rfl, ?_⟩
  replace hh := hh.a9 (x := .row _ _ _ _ _ _) hb_ hown_
  refine aL (aa (ai (sr (mL (a5 (mI (aa (aq ?_))))))))
  refine bD [8, 20, 21, 22, 23, 24, 25, 26, 27, 28, 29, 30, 31, 32, 33, 34, 35] 20
   (fun v w' => ∃ (i : Nat) (X : List TR), i ≤ p.n ∧ v = .int .i64 i ∧ X = (p.ts.take i).map (fP c.d) ++ p.ts.drop i ∧ Hp w [.row A17 p.n c17 58 4 (a8 TR.cells X), .blk b4 31 [.int .i64 0, .slice none 0 0] (0, 0), .blk b3 26 [.bool c.neg, .string c.cC, .int .i64 c.e] (0, 0), .blk b2 31 [.int .i64 p.v, .slice p.A p.n p.c] (0, 0)] w')
   (fun v _ => p.n - (intOf v).toNat) ?_ ?_
  ·exact ⟨0, p.ts, Nat.zero_le _, rfl, rfl, hh⟩
  ·clear hh
   rintro ρ' v w' ⟨i, X, hi, rfl, hX, hh⟩
   have hXl : X.length = p.n := by rw [hX, List.length_append, List.length_map, List.length_take, List.length_drop]; omega
   by_cases hlt : i < p.n
   ·obtain ⟨z, hz⟩ := aR (l := p.ts) (k := i) (by omega)
    obtain ⟨hXz, hXn⟩ := uy hz hX
    have hzo := lp.ok z (List.mem_of_getElem? hz)
    have hdm := fun A cc w1 hT1 hS1 => nS A 2 cc [z.c, c] w1 hT1 hS1 (by simpa using ⟨hzo.1, hc.1⟩) k (by simpa using ⟨hzo.2, hc.2⟩) (by omega) (by decide)
    rw [show iW ([z.c, c].map NR.d) = z.c.d * c.d by show 1 * z.c.d * c.d = _; rw [Dyadic.one_mul]] at hdm
    have hrl := ij TR.len X
    obtain ⟨g0, rfl⟩ := hh.gH (i := 0) rfl (by omega)
    refine sr ?_
    refine aZ (aa (ai (cT (al (aj (ai (aq (sr (mI (aI (aa ?_)))))))))))
    refine bf 10 [[(7, none)], [(8, none)], [(7, none)], [(8, none)], [(25, some 2), (26, some 3)], [(27, some 4)], [(28, some 5)], [(3, none)], [(29, some 6), (30, some 7)], [(31, some 8)]] [(9, 32), (8, 31), (7, 30), (6, 29), (5, 28), (4, 27), (3, 26), (2, 25), (1, 24), (0, 23)] hh mixed (by kernel_rfl) ?_
    refine iB ?_
    refine fe ?_
    refine iB ?_
    refine fe ?_
    refine zQ (i) ?_
    refine dN ?_
    refine vP [_,_,_] (fun _ hj => (hj.hp.td (f := TR.cells) (x := z) (l := X) (i := 0) rfl TR.len (by decide) hXz).drop 1) ?_
    refine gj 2 [_,_,_] ?_
    refine yQ [_,_,_,_,_,_] ?_
    refine bz (i := 9) (Is (.agg #[.bool (nR (z.c.d * c.d)).neg, .string (nR (z.c.d * c.d)).cC, .int .i64 (nR (z.c.d * c.d)).e])) Is.ext ?_ ?_
    ·intro ρ1 w1 hj hR
     obtain ⟨A31, c31, h31, s31⟩ := hR.1
     exact cG rfl (bh ar.out (aF h31 bj)) (hdm A31 c31 _ (hT.hp hj.hp) s31) (fun _ _ hq => ⟨_, hq.1, hq.2, rfl⟩)
    refine bo ?_
    intro f W hJ hV
    have hb_8 := hJ.bl
    obtain ⟨v32, v31, v30, v29, v28, v27, v26, v25, v24, v23, _⟩ := hV
    obtain ⟨A31, c31, e31, f31⟩ : Rows _ _ _ (f 8) W := v31
    replace hh := hJ.hp
    refine a7 (bu (ah v32 (ah e31 (ah v30 (ah v29 (ah v28 (ah v27 (ah v26 (ah v25 (ah v24 (ah v23 a6))))))))))) ?_
    dsimp only [cJ]
    clear e31 hJ
    refine bs (k := i) aJ.out aC.size rfl rfl (by omega) (by omega) (by decide) ?_
    refine bP ?_
    refine br hh (i := 0) (vs := [_, _, _]) rfl rfl (bq rfl) rfl aC.out rfl (by omega) rfl ?_
    intro ws hh
    simp only [List.set_cons_zero] at hh
    rw [ph hXz, hXn] at hh
    refine aK (a3 (aj (au ?_)))
    refine bO (mI (aK (aj ?_)))
    replace hh := hh.sub (List.Sublist.cons_cons _ (List.Sublist.cons_cons _ (List.Sublist.cons_cons _ (List.Sublist.cons_cons _ List.Sublist.slnil))))
    refine ⟨⟨i + 1, _, by omega, rfl, rfl, hh⟩, by show p.n - (i + 1) < p.n - i; omega, ?_⟩
    (repeat (first | exact aA _ _ _ | refine aE rfl ?_ | refine ax rfl ?_))
   ·obtain rfl : i = p.n := by omega
    rw [List.take_of_length_le (by omega), List.drop_of_length_le (by omega), List.append_nil] at hX
    have hso := tj lp.ok hc.2 (by omega)
    rw [← hX] at hso ⊢
    refine sr ?_
    refine aZ (aa (ai (cF ?_)))
    refine a4 ?_
    refine aD (aD (bp (aj (sr (bP ?_)))))
    refine bQ hh 3 ?_
    refine mL ?_
    refine aH (hG p.v A17 p.n c17 X (k + k) _ hT hh hXl (by omega) (by omega) hso) ar.out rfl (by decide) ?_
    rintro e_ w39 ⟨g, og, rfl, hh⟩
    refine ⟨_, rfl, ?_⟩
    refine cM ?_
    refine cM ?_
    refine bK hh 1 [_,_] ?_
    intro ws hh
    replace hh : Hp _ (_ :: .blk _ _ [_, _] _ :: _) _ := hh
    refine aI (aa (ao ?_))
    refine lB (aU rfl (aV (vs := [_, _]) aC.out (hh.aw (i := 1) (n := 2) rfl rfl) rfl) (cB (dq rfl) bg)) ?_
    exact ⟨g, og, rfl, hh.sub (List.Sublist.cons_cons _ (List.nil_sublist _))⟩
 ·rw [if_neg h0]
  refine ak (N := 42) (l := [.agg #[.int .i64 p.v, .slice p.A p.n p.c], .agg #[.bool c.neg, .string c.cC, .int .i64 c.e]]) Tryz.func39 rfl rfl (by simp) ?_
  refine sr ?_
  refine dp hh [_,_] ?_
  intro b2 w2 hh
  refine dp hh [_,_,_] ?_
  intro b3 w3 hh
  refine cj hh ?_
  intro b4 w4 hh
  refine aI (aa (ai (sr ?_)))
  refine cf hh 2 [_,_] ?_
  refine bE hh (hck _ (hT.hp hh) hh.below) rfl ?_
  intro w10 hh
  refine aI (aa (sr (mI ?_)))
  refine dR (aa (cT (sr ?_)))
  refine eM [_,_] (mI ?_)
  refine bK hh 0 [_,_] ?_
  intro ws hh
  replace hh : Hp _ (.blk _ _ [_, _] _ :: _) _ := hh
  refine aI (aa (ao (aM ?_)))
  refine lB (aU rfl (aV (vs := [_, _]) aC.out (hh.aw (i := 0) (n := 2) rfl rfl) rfl) (cB (dq rfl) bg)) ?_
  exact ⟨PX.nil, dm.err h0, rfl, (hh.sub (List.nil_sublist _)).ja⟩
end Go.Proofs.YtkgdagjklakajaaGreatDoor
/- Plain: polynomials with whole numbers, given byte by byte; what they come to can be reckoned. No program in sight. -/
namespace Go.Proofs.YtkgdagjklakajaaGreatDoor
open Go.RowKit
abbrev ZT := List (List UInt8 × Int)
def zT (L : ZT) : List TR := L.map fun x => ⟨str x.1, nR ((x.2 : Int) : Dyadic)⟩
def zS (L : ZT) (b : List UInt8) : Int := match L with | [] => 0 | x :: L => (if x.1 = b then x.2 else 0) + zS L b
theorem x6 (a b : Int) : ((a + b : Int) : Dyadic) = (a : Dyadic) + (b : Dyadic) := (qd a b 0).symm
theorem xx (a b : Int) : ((a * b : Int) : Dyadic) = (a : Dyadic) * (b : Dyadic) := (pF a b 0 0).symm
theorem yk {a : Int} (h : (a : Dyadic) = 0) : a = 0 := jb (p := 0) h
theorem pN (m : ByteArray) : ∀ L : ZT, eJ (zT L) m = (zS L m.data.toList : Int)
 | [] => rfl
 | x :: L => by
  show eJ (⟨str x.1, nR ((x.2 : Int) : Dyadic)⟩ :: zT L) m = ((if x.1 = m.data.toList then x.2 else 0) + zS L m.data.toList : Int)
  rw [dy, pN m L, x6]
  congr 1
  by_cases h : x.1 = m.data.toList
  ·rw [if_pos h, if_pos (by rw [h]; exact wI m)]
   exact eO _
  ·rw [if_neg h, if_neg (fun e => h (by rw [← e]; exact (cD _).symm))]
   rfl
def zC : ZT → Bool
 | [] => true
 | [x] => !decide (x.2 = 0)
 | x :: y :: L => !decide (x.2 = 0) && (Op.bytesLess x.1 y.1 && zC (y :: L))
theorem qy : ∀ {L : ZT}, zC L = true → Canon (zT L) := fun {L} h => by
 have h1 : ∀ {L : ZT}, zC L = true → ll (zT L) = true ∧ ∀ x ∈ L, x.2 ≠ 0 := fun {L} => by
  induction L with
  | nil => exact fun _ => ⟨rfl, fun x hx => nomatch hx⟩
  | cons x L ih =>
   intro h
   cases L with
   | nil => exact ⟨rfl, fun y hy => by rw [List.mem_singleton.1 hy]; simpa [zC] using h⟩
   | cons y L =>
    simp only [zC, Bool.and_eq_true, Bool.not_eq_true', decide_eq_false_iff_not] at h
    obtain ⟨i1, i2⟩ := ih h.2.2
    refine ⟨?_, fun z hz => ?_⟩
    ·show (fS (str x.1) (str y.1) && ll (zT (y :: L))) = true
     rw [i1, show fS (str x.1) (str y.1) = true by unfold fS; rw [cD, cD]; exact h.2.1]
     rfl
    ·rcases List.mem_cons.1 hz with rfl | hz
     ·exact h.1
     ·exact i2 z hz
 obtain ⟨i1, i2⟩ := h1 h
 refine ⟨kE.1 i1, fun t ht => ?_, fun t ht => ?_⟩
 ·obtain ⟨x, hx, rfl⟩ := List.mem_map.1 ht
  show (nR _).d ≠ 0
  rw [eO]
  exact fun e => i2 x hx (yk e)
 ·obtain ⟨x, hx, rfl⟩ := List.mem_map.1 ht
  show nR _ = nR (nR _).d
  rw [eO]
def zE (L K : ZT) : Bool := (L ++ K).all fun x => decide (zS L x.1 = zS K x.1)
theorem tx {L : ZT} {b : List UInt8} (h : ∀ x ∈ L, x.1 ≠ b) : zS L b = 0 := by
 induction L with
 | nil => rfl
 | cons x L ih => rw [zS, if_neg (h x List.mem_cons_self), ih fun y hy => h y (List.mem_cons_of_mem _ hy)]; rfl
theorem z6 {L K : ZT} (h : zE L K = true) (b : List UInt8) : zS L b = zS K b := by
 by_cases hb : ∃ x ∈ L ++ K, x.1 = b
 ·obtain ⟨x, hx, rfl⟩ := hb
  exact of_decide_eq_true (List.all_eq_true.1 h x hx)
 ·rw [tx fun x hx e => hb ⟨x, List.mem_append_left _ hx, e⟩, tx fun x hx e => hb ⟨x, List.mem_append_right _ hx, e⟩]
theorem lI {L K : ZT} (h : (zC K && zE K L) = true) : aP (zT L) = zT K := by
 rw [Bool.and_eq_true] at h
 exact (jP (qy h.1) fun m => by rw [pN, pN, z6 h.2]).symm
def zP (P Q : ZT) : ZT := P.flatMap fun x => Q.map fun y => ((mulL x.1 y.1).1, x.2 * y.2)
def zU (P Q : ZT) : List Int := P.flatMap fun x => Q.map fun y => (mulL x.1 y.1).2
theorem wv (P Q : ZT) : cL (zT P) (zT Q) = zT (zP P Q) := by
 unfold cL zT zP
 rw [List.flatMap_map, List.map_flatMap]
 refine congrArg (fun f => P.flatMap f) (funext fun x => ?_)
 rw [List.map_map, List.map_map]
 refine List.map_congr_left fun y _ => ?_
 show (⟨str (mulL (str x.1).data.toList (str y.1).data.toList).1, nR ((nR _).d * (nR _).d)⟩ : TR) = ⟨str (mulL x.1 y.1).1, nR ((x.2 * y.2 : Int) : Dyadic)⟩
 rw [cD, cD, eO, eO, xx]
theorem wm (P Q : ZT) : jj (zT P) (zT Q) = zU P Q := by
 unfold jj zT zU
 rw [List.flatMap_map]
 refine congrArg (fun f => P.flatMap f) (funext fun x => ?_)
 rw [List.map_map]
 refine List.map_congr_left fun y _ => ?_
 show (mulL (str x.1).data.toList (str y.1).data.toList).2 = _
 rw [cD, cD]
theorem gG (L : ZT) : (zT L).length = L.length := List.length_map _
theorem sv {P Q K : ZT} (h : (zC K && zE K (zP P Q)) = true) (he : (zU P Q).all (fun e => decide (e = 0)) = true) (hn : P.length * Q.length ≤ 4096) : dT (zT P, 0) ⟨0, none, 0, 0, zT Q⟩ = (zT K, 0) := by
 have h1 : ∀ e ∈ jj (zT P) (zT Q), e = 0 := fun e hm => by
  rw [wm] at hm
  exact of_decide_eq_true (List.all_eq_true.1 he e hm)
 have h2 : fm (zT P) (zT Q) = 0 := by
  rw [nH (by rw [gG, gG]; omega) h1]
  unfold gJ
  rw [if_neg]
  have := bW (cL (zT P) (zT Q))
  rw [jN, gG, gG] at this
  omega
 unfold dT
 rw [if_pos rfl]
 show (aP (cL (zT P) (zT Q)), fm (zT P) (zT Q)) = _
 rw [h2, wv, lI h]
theorem tL {a : List TR × Int} {g h : PX} (e : g.ts = h.ts) : dT a g = dT a h := by unfold dT; rw [e]
def zM (v : Int) (L : ZT) : Bool := L.all fun x => dJ x.1 && decide ((x.1.length : Int) = v)
theorem we {v : Int} {L : ZT} (h : zM v L = true) : ∀ t ∈ zT L, eW v t = true := fun t ht => by
 obtain ⟨x, hx, rfl⟩ := List.mem_map.1 ht
 have := List.all_eq_true.1 h x hx
 unfold eW
 show (dJ (str x.1).data.toList && decide (((str x.1).size : Int) = v)) = true
 rw [cD, gI]
 exact this
theorem kA {v : Int} {L : ZT} (hf : gh v = true) (h : (zC L && zM v L) = true) (hn : L.length ≤ 4096) : gC v (zT L) = 0 := by
 rw [Bool.and_eq_true] at h
 exact tu hf (by rw [gG]; exact hn) (we h.2) (qy h.1)
theorem xE {v : Int} {L : ZT} (hf : gh v = true) (h : zM v L = true) (hn : L.length ≤ 4096) : k9 v (zT L) = 0 := by
 unfold k9
 rw [if_neg, if_neg (by rw [gG]; omega)]
 ·unfold gJ
  rw [if_neg]
  have := bW (zT L)
  rw [gG] at this
  omega
 ·rintro (h1 | h1)
  ·rw [hf] at h1; cases h1
  ·obtain ⟨t, ht, h2⟩ := List.any_eq_true.1 h1
   rw [we h t ht] at h2
   cases h2
def zB (L : ZT) : Bool := L.all fun x => decide (x.2.natAbs < 256) && decide (x.1.length ≤ 50)
theorem tW {L : ZT} (h : zB L = true) : gi 24 (zT L) ∧ ∀ t ∈ zT L, t.m.size ≤ 50 := by
 refine ⟨fun t ht => ?_, fun t ht => ?_⟩
 ·obtain ⟨x, hx, rfl⟩ := List.mem_map.1 ht
  have := Bool.and_eq_true_iff.1 (List.all_eq_true.1 h x hx)
  have z : Sz 24 ((x.2 : Int) : Dyadic) := wR (m := x.2) (e := 0) (of_decide_eq_true this.1) (by decide) (by decide)
  exact ⟨z.ok (by decide), by show Sz 24 (nR _).d; rw [eO]; exact z⟩
 ·obtain ⟨x, hx, rfl⟩ := List.mem_map.1 ht
  have := Bool.and_eq_true_iff.1 (List.all_eq_true.1 h x hx)
  show (str x.1).size ≤ 50
  rw [gI]
  exact of_decide_eq_true this.2
theorem nV {v : Int} {A : Option Addr} {n c : Nat} {L : ZT} (h : zB L = true) (hn : n ≤ 1000000) (hc : n ≤ c) : (⟨v, A, n, c, zT L⟩ : PX).md 24 := ⟨hn, hc, (tW h).1, fun t ht => Nat.le_trans ((tW h).2 t ht) (by decide)⟩
end Go.Proofs.YtkgdagjklakajaaGreatDoor
