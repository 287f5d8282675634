/- Lemmas for polyMuls, part 5. -/
import Derived.Test.YtkgdagjklakajaaGreatDoorZ4
/- The walk through poly.clean. -/
namespace Go.Proofs.YtkgdagjklakajaaGreatDoor
open Go.RowKit
structure PX where
 v : Int
 A : Option Addr
 n : Nat
 c : Nat
 ts : List TR
def PX.row (g : PX) : HE := .row g.A g.n g.c 58 4 (a5 TR.cells g.ts)
def PX.at_ (g : PX) (w : World) : Prop := Sl w g.A g.n 4 (a5 TR.cells g.ts)
theorem PX.at_.ext {g : PX} {w w' : World} (h : g.at_ w) (hb : Below w.heap.size w w') : g.at_ w' := Sl.ext h hb
theorem PX.at_.ln {g : PX} {w : World} (h : g.at_ w) : g.ts.length = g.n := Sl.bX h TR.len (by decide)
structure cV (E v : Int) (ts : List TR) (g : PX) : Prop where
 v : g.v = if E = 0 then v else 0
 ts : g.ts = if E = 0 then ts else []
def PX.nil : PX := ⟨0, none, 0, 0, []⟩
theorem cV.err {E v : Int} {ts : List TR} (h : E ≠ 0) : cV E v ts PX.nil := ⟨by rw [if_neg h]; rfl, by rw [if_neg h]; rfl⟩
theorem Hp.gd {w0 w : World} {H : List HE} (h : Hp w0 H w) : Hp w0 (PX.nil.row :: H) w := h.dY 58 4
theorem ot {w0 : World} {Hr : List HE} (A : Option Addr) (n c : Nat) (l : List TR) (k : Nat) (w : World) (hT : g9 w) (hh : Hp w0 (.row A n c 58 4 (a5 TR.cells l) :: Hr) w) (hl : l.length = n) (hn : n ≤ 1000000) (hk : k + n ≤ 3999980) (ho : iS k l) :
  Calls Tryz.prog 167 #[.slice A n c, .func (.func 108) #[] #[], .func (.func 109) #[] #[]] w fun r w' => ∃ (L : List TR) (A' : Option Addr) (c' : Nat), MD (k + n) l L ∧ r = .returned (.slice A' L.length c') ∧ Hp w0 (.row A' L.length c' 58 4 (a5 TR.cells L) :: Hr) w' := by
 refine (jJ k n A n c l w (Nat.le_refl _) hT (hh.aJ (i := 0) rfl) (hh.fW (i := 0) rfl) hn hk ho).mono fun r w' h => ?_
 rcases h with ⟨h1, rfl, hb⟩ | ⟨h1, L, A', c', hm, rfl, h3⟩
 ·exact ⟨l, A, c, (MD.self (po (by omega)) ho).mono (by omega), by rw [hl], by rw [hl]; exact hh.ext hb⟩
 ·refine ⟨L, A', c', hm, rfl, ?_⟩
  exact (hh.join h3).sub (List.Sublist.cons_cons _ (List.Sublist.cons _ (List.Sublist.refl _)))
def Aa (t : TR) : Bool := decide (t.c.d = 0)
theorem sM (l : List TR) : (l.filter fun z => !Aa z) = l.filter kb := rfl
theorem p5 (z : TR) (w : World) : Calls Tryz.prog 168 #[.agg #[.string z.m, .bool z.c.neg, .string z.c.bT, .int .i64 z.c.e]] w fun r w' => r = .returned (.bool (Aa z)) ∧ Below w.heap.size w w' := by
 have hh := Hp.start w
 refine ak (N := 7) (l := [.agg #[.string z.m, .bool z.c.neg, .string z.c.bT, .int .i64 z.c.e]]) Tryz.func168 rfl rfl (by simp) ?_
 refine sr ?_
 refine cN hh [_,_,_,_] ?_
 intro b1 w1 hh
 refine aB (ah (sr (bI ?_)))
 refine dx hh 0 [_,_,_] ?_
 refine bz hh (l5 z.c _) rfl ?_
 intro w5 hh
 have hz : z.c.i.sign = 0 ↔ z.c.d = 0 := by
  rw [Int.sign_eq_zero_iff_zero]
  exact ⟨fun h => by unfold NR.d; rw [h]; rfl, gk⟩
 unfold Aa
 by_cases h0 : z.c.d = 0
 ·have hs := hz.2 h0
  rw [decide_eq_true h0]
  refine dv (aB (ah (an ?_)))
  refine cb ?_
  exact ⟨rfl, hh.below⟩
 ·have hs : ¬ z.c.i.sign = 0 := fun h => h0 (hz.1 h)
  rw [decide_eq_false h0]
  refine dv (aB (ah (an ?_)))
  refine cb ?_
  exact ⟨rfl, hh.below⟩
def hF (l : List TR) : Int := if 4096 < (bg l).length then 3 else 0
theorem rm {xs ys : List Value} {o : Nat} {v : Value} (h : xs[o]? = some v) : ca xs o (v :: ys) = ca xs (o + 1) ys := by
 unfold ca
 rw [aM h, List.length_cons, show o + (ys.length + 1) = o + 1 + ys.length by omega]
 simp
def Av (t : TR) : TR := ⟨t.m, nR t.c.d⟩
theorem uQ {X : List TR} {i : Nat} {z : TR} (h : X[i]? = some z) (y : NR) : ca (a5 TR.cells X) (i * 4 + 1) [.bool y.neg, .string y.bT, .int .i64 y.e] = a5 TR.cells (X.set i ⟨z.m, y⟩) := by
 have h0 : (a5 TR.cells X)[i * 4]? = some (.string z.m) := by
  have h1 := k7 TR.len h
  have h2 : (((a5 TR.cells X).drop (i * 4)).take 4)[0]? = some (.string z.m) := by rw [h1]; rfl
  rwa [List.getElem?_take_of_lt (by decide), List.getElem?_drop, Nat.add_zero] at h2
 rw [← rm h0]
 exact mf TR.len (y := ⟨z.m, y⟩) (List.getElem?_eq_some_iff.1 h).1
theorem jt {w0 : World} {Hr : List HE} (v : Int) (A : Option Addr) (n c : Nat) (l : List TR) (k : Nat) (w : World) (hT : g9 w0) (hh : Hp w0 (.row A n c 58 4 (a5 TR.cells l) :: Hr) w) (hl : l.length = n) (hn : n ≤ 1000000) (hk : k + n ≤ 3999980) (ho : iS k l) :
  Calls Tryz.prog 93 #[.int .i64 v, .slice A n c] w fun r w' => ∃ g : PX, cV (hF l) v (bg l) g ∧ r = .returned (.tuple #[.agg #[.int .i64 g.v, .slice g.A g.n g.c], .int .i64 (hF l)]) ∧ Hp w0 (g.row :: Hr) w' := by
 refine ak (N := 33) (l := [.int .i64 v, .slice A n c]) Tryz.func93 rfl rfl (by simp) ?_
 refine sr ?_
 refine cm hh ?_
 intro b4 w4 hh
 refine aI (ah (sr (mL ?_)))
 replace hh := hh.perm (List.perm_middle (l₁ := [_]))
 simp only [List.cons_append, List.nil_append] at hh
 refine aP (ot A n c l k _ (hT.hp hh) hh hl hn hk ho) ar.out rfl (by decide) ?_
 rintro e_ w8 ⟨L, A1, c1, hmd, rfl, hh⟩
 refine ⟨_, rfl, ?_⟩
 have hlen := hmd.len
 refine aP (sm A1 L.length c1 L _ Aa _ hh rfl (by omega) (fun z w1 _ => p5 z w1)) ar.out rfl (by decide) ?_
 rintro e_ w9 ⟨rfl, hh⟩
 refine ⟨_, rfl, ?_⟩
 rw [sM] at hh ⊢
 have hML : (L.filter kb).length ≤ L.length := List.length_filter_le _ _
 have hgl : (bg l).length = (L.filter kb).length := by rw [← hmd.bg, List.length_map]
 have hgm := hmd.bg
 have hok : iS (k + n) (L.filter kb) := fun t ht => hmd.ok t (List.mem_filter.1 ht).1
 generalize hM : L.filter kb = M at *
 by_cases h4 : 4096 < M.length
 ·rw [show hF l = 3 by unfold hF; rw [if_pos (by omega)]]
  refine aL (ah (ai (sr (mL (aW ?_)))))
  refine bO (ah (cT (sr ?_)))
  refine eh [_,_] ?_
  refine bE hh 1 [_,_] ?_
  intro ws hh
  replace hh : Hp _ (_ :: .blk _ _ [_, _] _ :: _) _ := hh
  refine aI (ah (an (aA ?_)))
  replace hh := hh.sub (List.Sublist.cons _ (List.Sublist.cons_cons _ (List.Sublist.refl _)))
  refine iL (aH rfl (aK (vs := [_, _]) aC.out (hh.au (i := 0) (n := 2) rfl rfl) rfl) (bZ (cv rfl) a6)) ?_
  exact ⟨PX.nil, cV.err (by decide), rfl, (hh.sub (List.sublist_cons_self _ _)).gd⟩
 ·rw [show hF l = 0 by unfold hF; rw [if_neg (by omega)]]
  refine aL (ah (ai (sr (mL (aW ?_)))))
  refine bO (ah (cF (al (aj (ai (sr (mL (aW (mI (ah (ao ?_)))))))))))
  refine bp [6, 16, 17, 18, 19, 20, 21, 22, 23, 24, 25, 26, 27, 28, 29] 16
   (fun v w' => ∃ (i : Nat) (X : List TR), i ≤ M.length ∧ v = .int .i64 i ∧ X.length = M.length ∧ X = (M.take i).map Av ++ M.drop i ∧ Hp w0 (.row A1 M.length c1 58 4 (a5 TR.cells X) :: .blk b4 31 [.int .i64 0, .slice none 0 0] (0, 0) :: Hr) w')
   (fun v _ => M.length - (intOf v).toNat) ?_ ?_
  ·exact ⟨0, M, Nat.zero_le _, rfl, rfl, rfl, hh⟩
  ·clear hh
   rintro ρ' v w' ⟨i, X, hi, rfl, hX, hXe, hh⟩
   by_cases hlt : i < M.length
   ·obtain ⟨z, hz⟩ := aD (l := M) (k := i) (by omega)
    have hXz : X[i]? = some z := by
     rw [hXe, List.getElem?_append_right (by rw [List.length_map, List.length_take]; omega), List.length_map, List.length_take, Nat.min_eq_left (by omega), Nat.sub_self, List.getElem?_drop]
     exact hz
    have hzo := hok z (List.mem_of_getElem? hz)
    have hXn : X.set i ⟨z.m, nR z.c.d⟩ = (M.take (i + 1)).map Av ++ M.drop (i + 1) := by
     rw [aM hz, List.map_append, hXe, List.set_append_right _ _ (by rw [List.length_map, List.length_take]; omega), List.length_map, List.length_take, Nat.min_eq_left (by omega), Nat.sub_self, List.append_assoc]
     congr 1
     obtain ⟨h1, h2⟩ := List.getElem?_eq_some_iff.1 hz
     rw [List.drop_eq_getElem_cons h1, h2]
     rfl
    have hrl := g1 TR.len X
    obtain ⟨g0, rfl⟩ := hh.fm (i := 0) rfl (by omega)
    refine sr ?_
    refine aN (ah (ai (cT (al (aj (ai (ao (sr (mI (aI (ah ?_)))))))))))
    refine aq (mL (mI (mL (mI ?_))))
    refine bj (k := i) aF.out aC.size rfl rfl (by omega) (by omega) (by decide) ?_
    refine bI ?_
    refine bK (vs := [_, _, _]) aC.out rfl ((hh.jH (f := TR.cells) (x := z) (l := X) (i := 0) rfl TR.len (by decide) hXz).drop 1) rfl (by decide) ?_
    refine bz hh (eB z.c _ (hT.hp hh) (by have := hzo.1.1; omega) (by have := hzo.1.2.1; omega) (by have := hzo.1.2.2; omega)) rfl ?_
    intro w26 hh
    refine bj (k := i) aF.out aC.size rfl rfl (by omega) (by omega) (by decide) ?_
    refine bI ?_
    refine bC hh (i := 0) (vs := [_, _, _]) rfl rfl (dL rfl) rfl aC.out rfl (by omega) rfl ?_
    intro ws hh
    simp only [List.set_cons_zero] at hh
    rw [uQ hXz, hXn] at hh
    refine aE (aY (aj (aq ?_)))
    refine bF (mI (aE (aj ?_)))
    refine ⟨⟨i + 1, _, by omega, rfl, ?_, rfl, hh⟩, by show M.length - (i + 1) < M.length - i; omega, ?_⟩
    ·rw [← hXn, List.length_set, hX]
    ·(repeat (first | exact ax _ _ _ | refine az rfl ?_ | refine aw rfl ?_))
   ·obtain rfl : i = M.length := by omega
    rw [List.take_of_length_le (Nat.le_refl _), List.drop_of_length_le (Nat.le_refl _), List.append_nil] at hXe
    have hXg : X = bg l := by rw [hXe]; exact hgm
    rw [hXg] at hh
    refine sr ?_
    refine aN (ah (ai (cF ?_)))
    refine aU ?_
    refine ay (ay (a7 (aj (sr (mI (mL ?_))))))
    refine eh [_,_] ?_
    refine bE hh 1 [_,_] ?_
    intro ws hh
    replace hh : Hp _ (_ :: .blk _ _ [_, _] _ :: _) _ := hh
    refine aI (ah (an ?_))
    refine iL (aH rfl (aK (vs := [_, _]) aC.out (hh.au (i := 1) (n := 2) rfl rfl) rfl) (bZ (cv rfl) a6)) ?_
    exact ⟨⟨v, A1, M.length, c1, bg l⟩, ⟨rfl, rfl⟩, rfl, hh.sub (List.Sublist.cons_cons _ (List.Sublist.cons _ (List.Sublist.refl _)))⟩
end Go.Proofs.YtkgdagjklakajaaGreatDoor
/- The walks through the program's package of products of powers (mono), and through the document's answer's. -/
namespace Go.Proofs.YtkgdagjklakajaaGreatDoor
open Go.RowKit
theorem ix (s : ByteArray) (n : Int) (w : World) (hs : s.size ≤ 9223372036854775807) :
  Calls Tryz.prog 92 #[.string s, .int .i64 n] w fun e w' => e = .returned (.bool (eE s.data.toList && decide ((s.size : Int) = n))) ∧ Below w.heap.size w w' := by
 refine ak (N := 20) (l := [.string s, .int .i64 n]) Tryz.func92 rfl rfl (by simp) ?_
 refine sr (aB (ah (ai (sr (mS ?_)))))
 refine a9 aF.out rfl (by decide) ?_
 refine mI (ah (ao ?_))
 refine bp [4, 5, 8, 9, 10, 11, 12, 13, 14, 15] 8
  (fun v w' => ∃ k : Nat, k ≤ s.size ∧ v = .int .i64 k ∧ eE (s.data.toList.take k) = true ∧ w' = w)
  (fun v _ => s.size - (intOf v).toNat) ?_ ?_
 ·exact ⟨0, Nat.zero_le _, rfl, rfl, rfl⟩
 ·rintro ρ' v w' ⟨k, hk, rfl, hm, rfl⟩
  by_cases hlt : k < s.size
  ·obtain ⟨c, hc⟩ := aD (l := s.data.toList) (k := k) (by rw [← dD]; exact hlt)
   have hb := c.toNat_lt
   by_cases h8 : c.toNat < 128
   ·refine sr ?_
    refine aN (ah (ai (cT (al (aj (ai (ao (sr (mI (aI (ah ?_)))))))))))
    refine sr (mS (mI ?_))
    refine bJ aF.out rfl rfl (by omega) (by assumption) (by decide) ?_
    refine bO (ah (cF (al (aY (aj (aq ?_))))))
    refine bF (mI (aE (aj ?_)))
    refine ⟨⟨k + 1, by omega, rfl, by rw [aM hc, o4, hm]; simpa using h8, rfl⟩, by show s.size - (k + 1) < s.size - k; omega, ?_⟩
    (repeat (first | exact ax _ _ _ | refine az rfl ?_ | refine aw rfl ?_))
   ·refine sr ?_
    refine aN (ah (ai (cT (al (aj (ai (ao (sr (mI (aI (ah ?_)))))))))))
    refine sr (mS (mI ?_))
    refine bJ aF.out rfl rfl (by omega) (by assumption) (by decide) ?_
    refine bO (ah (cT (sr (aB (ah (an (bA (aA (aA (bA (aA ?_)))))))))))
    refine cb ?_
    rw [qO hc h8]
    exact ⟨rfl, Below.refl _ _⟩
  ·refine sr ?_
   refine aN (ah (ai (cF ?_)))
   refine aU ?_
   refine ay (ay (a7 (aj (sr (mS ?_)))))
   refine a9 aF.out rfl (by decide) ?_
   refine mI ?_
   refine pY rfl rfl (by decide) ?_
   refine aB (ah (an ?_))
   refine cb ?_
   rw [List.take_of_length_le (by rw [← dD]; omega)] at hm
   rw [hm]
   exact ⟨rfl, Below.refl _ _⟩
theorem jG (s : ByteArray) (w : World) (hs : s.size ≤ 9223372036854775807) :
  Calls Tryz.prog 92 #[.string s, .int .i64 s.size] w fun e w' => e = .returned (.bool (eE s.data.toList)) ∧ Below w.heap.size w w' := by
 have h := ix s s.size w hs
 simpa using h
theorem jh (s : ByteArray) (n : Int) (w : World) (hs : s.size ≤ 9223372036854775807) :
  Calls Tryz.prog 95 #[.string s, .int .i64 n] w fun e w' => e = .returned (.bool (eE s.data.toList && decide ((s.size : Int) = n))) ∧ Below w.heap.size w w' := by
 refine ak (N := 20) (l := [.string s, .int .i64 n]) Tryz.func95 rfl rfl (by simp) ?_
 refine sr (aB (ah (ai (sr (aI (ah (ao ?_)))))))
 refine bp [4, 5, 6, 7, 8, 9, 10, 11, 12, 13, 14, 15] 5
  (fun v w' => ∃ k : Nat, k ≤ s.size ∧ v = .int .i64 k ∧ eE (s.data.toList.take k) = true ∧ w' = w)
  (fun v _ => s.size - (intOf v).toNat) ?_ ?_
 ·exact ⟨0, Nat.zero_le _, rfl, rfl, rfl⟩
 ·rintro ρ' v w' ⟨k, hk, rfl, hm, rfl⟩
  by_cases hlt : k < s.size
  ·obtain ⟨c, hc⟩ := aD (l := s.data.toList) (k := k) (by rw [← dD]; exact hlt)
   have hb := c.toNat_lt
   by_cases h8 : c.toNat < 128
   ·refine ai (sr (mI (mS ?_)))
    refine a9 aF.out rfl (by decide) ?_
    refine aN (ah (cT (al (aj (ai (ao (sr (mS (mI ?_)))))))))
    refine bJ aF.out rfl rfl (by omega) (by assumption) (by decide) ?_
    refine dw (ah (cF (al (aY (aj (aq (mI ?_)))))))
    refine bF (aI (aE (aj ?_)))
    refine ⟨⟨k + 1, by omega, rfl, by rw [aM hc, o4, hm]; simpa using h8, rfl⟩, by show s.size - (k + 1) < s.size - k; omega, ?_⟩
    (repeat (first | exact ax _ _ _ | refine az rfl ?_ | refine aw rfl ?_))
   ·refine ai (sr (mI (mS ?_)))
    refine a9 aF.out rfl (by decide) ?_
    refine aN (ah (cT (al (aj (ai (ao (sr (mS (mI ?_)))))))))
    refine bJ aF.out rfl rfl (by omega) (by assumption) (by decide) ?_
    refine dw (ah (cT (sr (aB (ah (an (bA (aA (aA (bA (aA ?_)))))))))))
    refine cb ?_
    rw [qO hc h8]
    exact ⟨rfl, Below.refl _ _⟩
  ·refine ai (sr (mI (mS ?_)))
   refine a9 aF.out rfl (by decide) ?_
   refine aN (ah (cF ?_))
   refine aU ?_
   refine ay (ay (a7 (aj (sr (mS ?_)))))
   refine a9 aF.out rfl (by decide) ?_
   refine mI ?_
   refine pY rfl rfl (by decide) ?_
   refine aB (ah (an ?_))
   refine cb ?_
   rw [List.take_of_length_le (by rw [← dD]; omega)] at hm
   rw [hm]
   exact ⟨rfl, Below.refl _ _⟩
theorem vV (A : Option Addr) (n c : Nat) (xs : List Int) (w : World) (hsl : Sl w A n 1 (er xs)) (hn : n ≤ 100000) :
  Calls Tryz.prog 190 #[.slice A n c] w fun e w' => e = .returned (.tuple #[.string (str (xc xs)), .int .i64 (yx xs)]) ∧ Below w.heap.size w w' := by
 have hlen : xs.length = n := by have := hsl.1; rw [ez] at this; omega
 have hh := Hp.start w
 refine ak (N := 27) (l := [.slice A n c]) Tryz.func190 rfl rfl (by simp) ?_
 refine sr (aS (aI (ah (sr (aL (ah (ai (sr (mL (aW (mI ?_)))))))))))
 refine ah (ao ?_)
 refine cd [2, 3, 4, 6, 9, 10, 11, 12, 13, 14, 15, 16, 17, 18, 19, 20, 21, 22, 23, 24] 4 9
  (fun b i w' => ∃ (k c' : Nat) (A' : Option Addr), k ≤ n ∧ i = .int .i64 k ∧ b = .slice A' k c' ∧ (xs.take k).all fQ = true ∧ Hp w [.row A' k c' 5 1 (jV ((xs.take k).map ui))] w')
  (fun _ v _ => n - (intOf v).toNat) ?_ ?_
 ·exact ⟨0, 0, none, Nat.zero_le _, rfl, rfl, rfl, hh.dY _ _⟩
 ·clear hh
  rintro ρ' b i w' ⟨k, c', A', hk, rfl, rfl, hall, hh⟩
  by_cases hlt : k < n
  ·obtain ⟨x, hx⟩ := aD (l := xs) (k := k) (by omega)
   obtain ⟨ad, rfl, hr⟩ := (hsl.ext hh.below).at_ (by omega)
   by_cases h0 : x < 0
   ·refine sr ?_
    refine aN (ah (ai (cT (al (aj (ai (ao (sr ?_))))))))
    refine cK aF.out aC.size rfl rfl (by omega) (by omega) (by decide) ?_
    refine bu aC.out rfl (ek hr (dX hx) rfl) (by decide) ?_
    refine aI (ah (ai (sr (mI ?_))))
    refine aN (mB ?_)
    first | refine gS ?_ | (refine gT ?_; refine mI ?_) | refine gV ?_
    first | refine gS ?_ | (refine gT ?_; refine bO ?_) | refine gV ?_
    first | refine cw ?_ | refine cx ?_
    refine ah (cT (sr (aS (aI (ah (an (aA (bA (aA (aA (bA ?_)))))))))))
    refine aA ?_
    refine qd ?_
    obtain ⟨e1, e2⟩ := pM hx (by simp [fQ]; omega)
    rw [e1, e2]
    exact ⟨rfl, hh.below⟩
   ·by_cases h1 : 127 < x
    ·refine sr ?_
     refine aN (ah (ai (cT (al (aj (ai (ao (sr ?_))))))))
     refine cK aF.out aC.size rfl rfl (by omega) (by omega) (by decide) ?_
     refine bu aC.out rfl (ek hr (dX hx) rfl) (by decide) ?_
     refine aI (ah (ai (sr (mI ?_))))
     refine aN (mB ?_)
     first | refine gS ?_ | (refine gT ?_; refine mI ?_) | refine gV ?_
     first | refine gS ?_ | (refine gT ?_; refine bO ?_) | refine gV ?_
     first | refine cw ?_ | refine cx ?_
     refine ah (cT (sr (aS (aI (ah (an (aA (bA (aA (aA (bA ?_)))))))))))
     refine aA ?_
     refine qd ?_
     obtain ⟨e1, e2⟩ := pM hx (by simp [fQ]; omega)
     rw [e1, e2]
     exact ⟨rfl, hh.below⟩
    ·have hok : fQ x = true := by simp [fQ]; omega
     refine sr ?_
     refine aN (ah (ai (cT (al (aj (ai (ao (sr ?_))))))))
     refine cK aF.out aC.size rfl rfl (by omega) (by omega) (by decide) ?_
     refine bu aC.out rfl (ek hr (dX hx) rfl) (by decide) ?_
     refine aI (ah (ai (sr (mI ?_))))
     refine aN (mB ?_)
     first | refine gS ?_ | (refine gT ?_; refine mI ?_) | refine gV ?_
     first | refine gS ?_ | (refine gT ?_; refine bO ?_) | refine gV ?_
     first | refine cw ?_ | refine cx ?_
     refine ah (cF (al (aj (aq (mL (mI ?_))))))
     refine kr aF.out aF.out rfl (by decide) ?_
     refine bs hh (cs := [_]) aF.out aC.out (br (bM rfl) cn) rfl rfl (by decide) (by decide) (by decide) rfl (by decide) ?_
     intro b22 w22 hh
     refine bQ hh (i := 1) rfl rfl rfl (hh.aJ (i := 0) rfl) aF.out aC.out rfl (by decide) rfl (by omega) (by omega) (by decide) ?_
     intro A23 c23 w23 hh
     simp only [List.set_cons_zero, List.set_cons_succ] at hh
     replace hh := hh.sub (List.sublist_cons_self _ _)
     refine aL (aE (aY (aj (aq ?_))))
     refine bF (mI (aE (aj ?_)))
     refine ⟨⟨k + 1, c23, A23, by omega, rfl, rfl, qV hx hall hok, ?_⟩, by show n - (k + 1) < n - k; omega, ?_⟩
     ·rw [ug (by omega) (by omega), wL hx hok] at hh
      exact hh
     ·(repeat (first | exact ax _ _ _ | refine az rfl ?_ | refine aw rfl ?_))
  ·obtain rfl : k = n := by omega
   rw [List.take_of_length_le (by omega)] at hall hh
   obtain ⟨e1, e2⟩ := tK hall
   refine sr ?_
   refine aN (ah (ai (cF ?_)))
   refine aU ?_
   refine ay (ay (a7 (aj (sr (mL ?_)))))
   refine ik aF.out aF.out aF.out rfl (hh.aJ (i := 0) rfl) (by decide) ?_
   refine aS (aI (ah (an ?_)))
   refine qd ?_
   rw [e1, e2]
   exact ⟨rfl, hh.below⟩
theorem g8 (s : ByteArray) (w : World) (hs : s.size ≤ 100000) :
  Calls Tryz.prog 101 #[.string s] w fun e w' => ∃ A c, e = .returned (.slice A (gQ s.data.toList).length c) ∧ w'.ownsRow w.heap.size 3 1 (.slice A (gQ s.data.toList).length c) (gQ s.data.toList).length (er (gQ s.data.toList)) ∧ Below w.heap.size w w' := by
 have hh := Hp.start w
 have hsz := dD s
 cases hm : eE s.data.toList with
 | false =>
  refine ak (N := 22) (l := [.string s]) Tryz.func101 rfl rfl (by simp) ?_
  refine sr (aL (ah (ai (sr (mS (mS ?_))))))
  refine a9 aF.out rfl (by decide) ?_
  refine bz hh (jG s _ (by omega)) rfl ?_
  intro w9 hh
  rw [hm]
  refine eF ?_
  refine ah (cT (sr (aL (ah (an (aA ?_))))))
  refine cb ?_
  rw [xb hm]
  exact ⟨none, 0, rfl, World.ownsRow_nil _ _ _ _, hh.below⟩
 | true =>
  refine ak (N := 22) (l := [.string s]) Tryz.func101 rfl rfl (by simp) ?_
  refine sr (aL (ah (ai (sr (mS (mS ?_))))))
  refine a9 aF.out rfl (by decide) ?_
  refine bz hh (jG s _ (by omega)) rfl ?_
  intro w9 hh
  rw [hm]
  refine eF ?_
  refine ah (cF (al (aj (sr (aL (ah (ai (sr (mS ?_)))))))))
  refine p6 hh aF.out rfl (by decide) ?_
  intro b12 w12 hh
  skip
  refine ah (ao ?_)
  refine bp [3, 5, 13, 14, 15, 16, 17, 18, 19, 20] 3
   (fun v w' => ∃ (k c' : Nat) (A' : Option Addr), k ≤ s.size ∧ v = .slice A' k c' ∧ Hp w [.row A' k c' 3 1 (er (ints (s.data.toList.take k))), .it b12 s k] w')
   (fun v _ => s.size - lenOf v) ?_ ?_
  ·exact ⟨0, 0, none, Nat.zero_le _, rfl, hh.dY _ _⟩
  ·clear hh
   rintro ρ' v w' ⟨k, c', A', hk, rfl, hh⟩
   by_cases hlt : k < s.size
   ·obtain ⟨c, hc⟩ := aD (l := s.data.toList) (k := k) (by omega)
    have h8 := mz hm hc
    refine sr ?_
    refine qD hh (i := 1) rfl rfl hc h8 (by decide) ?_
    intro w13 hh
    simp only [List.set_cons_zero, List.set_cons_succ] at hh
    skip
    refine dJ ?_
    refine ah (ai (cT (al (aj (ao (sr ?_))))))
    refine dJ ?_
    refine aI (ah (aq (mL (mI ?_))))
    refine ea aF.out aF.out rfl (by omega) (by omega) (by decide) ?_
    refine bs hh (cs := [_]) aF.out aC.out (br (bM rfl) cn) rfl rfl (by decide) (by decide) (by decide) rfl (by decide) ?_
    intro b19 w19 hh
    refine bQ hh (i := 1) rfl rfl rfl (hh.aJ (i := 0) rfl) aF.out aC.out rfl (by decide) rfl (by omega) (by omega) (by decide) ?_
    intro A20 c20 w20 hh
    simp only [List.set_cons_zero, List.set_cons_succ] at hh
    replace hh := hh.sub (List.sublist_cons_self _ _)
    refine aL (aE (aY (aj ?_)))
    rw [ns hc] at hh
    refine ⟨⟨k + 1, c20, A20, by omega, rfl, hh⟩, by show s.size - (k + 1) < s.size - k; omega, ?_⟩
    (repeat (first | exact ax _ _ _ | refine az rfl ?_ | refine aw rfl ?_))
   ·refine sr ?_
    refine pK hh (i := 1) rfl rfl hlt (by decide) ?_
    skip
    refine dJ ?_
    refine ah (ai (cF ?_))
    refine aU ?_
    refine ay (ay (a7 (aj (sr (mL (aL (ah (an ?_))))))))
    refine cb ?_
    obtain rfl : k = s.size := by omega
    rw [List.take_of_length_le (by omega)] at hh
    have h1 := hh.at_ (i := 0) rfl
    rw [jP hm, eA, ← hsz]
    exact ⟨A', c', rfl, h1, hh.below⟩
theorem nt (a b : ByteArray) (g : FuncId) (f : Int → Int → Int) (w : World) (ha : a.size ≤ 100000) (hb : b.size ≤ 100000) [ar Tryz.prog g]
  (hg : ∀ (x y : Int) (w : World), 0 ≤ x → x ≤ 127 → 0 ≤ y → y ≤ 127 → Calls Tryz.prog g #[.int .i64 x, .int .i64 y] w fun e w' => e = .returned (.int .i64 (f x y)) ∧ Below w.heap.size w w') :
  Calls Tryz.prog 209 #[.string a, .string b, .func (.func g) #[] #[]] w fun e w' =>
   (fi f a.data.toList b.data.toList = none ∧ e = .returned (.tuple #[.slice none 0 0, .bool false]) ∧ Below w.heap.size w w') ∨
   ∃ l, fi f a.data.toList b.data.toList = some l ∧ l.length = b.size ∧ ∃ A c, e = .returned (.tuple #[.slice A l.length c, .bool true]) ∧ w'.ownsRow w.heap.size 3 1 (.slice A l.length c) l.length (er l) ∧ Below w.heap.size w w' := by
 have hh := Hp.start w
 have hsa := dD a
 have hsb := dD b
 cases hma : eE a.data.toList with
 | false =>
  refine ak (N := 45) (l := [.string a, .string b, .func (.func g) #[] #[]]) Tryz.func209 rfl rfl (by simp) ?_
  refine sr (aL (aB (ah (sr (mS ?_)))))
  refine aP (g8 b _ hb) ar.out rfl (by decide) ?_
  rintro e_ w12 ⟨A12, c12, rfl, hown_, hb_⟩
  refine ⟨_, rfl, ?_⟩
  replace hh := hh.bf (x := .row _ _ _ _ _ _) hb_ hown_
  refine aL (ah (ai (sr (mS (mS ?_)))))
  refine a9 aF.out rfl (by decide) ?_
  refine bz hh (jG a _ (by omega)) rfl ?_
  intro w16 hh
  rw [hma]
  refine eF ?_
  refine mB ?_
  first | refine gS ?_ | (refine gT ?_; refine mS ?_) | refine gV ?_
  first | refine gS ?_ | (refine gT ?_; refine mS ?_) | refine gV ?_
  first | refine gS ?_ | (refine gT ?_; refine a9 aF.out rfl (by decide) ?_) | refine gV ?_
  refine bV (by decide) rfl rfl (by decide) ?_
  first | refine gS ?_ | (refine gT ?_; refine eF ?_) | refine gV ?_
  first | refine cw ?_ | refine cx ?_
  refine ah (cT (sr (aL (aB (ah (an (aA ?_)))))))
  refine qd ?_
  exact .inl ⟨by simp [fi, hma], rfl, hh.below⟩
 | true =>
  cases hmb : (eE b.data.toList && decide ((b.size : Int) = a.size)) with
  | false =>
   refine ak (N := 45) (l := [.string a, .string b, .func (.func g) #[] #[]]) Tryz.func209 rfl rfl (by simp) ?_
   refine sr (aL (aB (ah (sr (mS ?_)))))
   refine aP (g8 b _ hb) ar.out rfl (by decide) ?_
   rintro e_ w12 ⟨A12, c12, rfl, hown_, hb_⟩
   refine ⟨_, rfl, ?_⟩
   replace hh := hh.bf (x := .row _ _ _ _ _ _) hb_ hown_
   refine aL (ah (ai (sr (mS (mS ?_)))))
   refine a9 aF.out rfl (by decide) ?_
   refine bz hh (jG a _ (by omega)) rfl ?_
   intro w16 hh
   rw [hma]
   refine eF ?_
   refine mB ?_
   first | refine gS ?_ | (refine gT ?_; refine mS ?_) | refine gV ?_
   first | refine gS ?_ | (refine gT ?_; refine mS ?_) | refine gV ?_
   first | refine gS ?_ | (refine gT ?_; refine a9 aF.out rfl (by decide) ?_) | refine gV ?_
   refine a8 rfl rfl ?_
   refine bz hh (ix b _ _ (by omega)) rfl ?_
   intro w22 hh
   rw [hmb]
   first | refine gS ?_ | (refine gT ?_; refine eF ?_) | refine gV ?_
   first | refine cw ?_ | refine cx ?_
   refine ah (cT (sr (aL (aB (ah (an (aA ?_)))))))
   refine qd ?_
   have : (eE b.data.toList && decide ((b.data.toList.length : Int) = a.data.toList.length)) = false := by rw [← hsa, ← hsb]; exact hmb
   exact .inl ⟨by simp only [fi, hma, this]; rfl, rfl, hh.below⟩
  | true =>
   have hmb2 := hmb
   simp only [Bool.and_eq_true, decide_eq_true_eq] at hmb2
   have hbl : fi f a.data.toList b.data.toList = some (List.zipWith f (ints a.data.toList) (ints b.data.toList)) := by
    have : (eE b.data.toList && decide ((b.data.toList.length : Int) = a.data.toList.length)) = true := by rw [← hsa, ← hsb]; exact hmb
    simp only [fi, hma, this]; rfl
   have hea := jP hma
   have heb := jP hmb2.1
   have hlab : (ints a.data.toList).length = (ints b.data.toList).length := by rw [eA, eA]; omega
   have hlb := eA b.data.toList
   have hla := eA a.data.toList
   have hA := g8 a
   have hB := g8 b
   rw [hea] at hA
   rw [heb] at hB
   generalize hia : ints a.data.toList = ia at *
   generalize hib : ints b.data.toList = ib at *
   have bda : ∀ (k : Nat) (x : Int), ia[k]? = some x → 0 ≤ x ∧ x ≤ 127 := fun k x h => uC (l := a.data.toList) (by rw [hea]; exact h)
   have bdb : ∀ (k : Nat) (x : Int), ib[k]? = some x → 0 ≤ x ∧ x ≤ 127 := fun k x h => uC (l := b.data.toList) (by rw [heb]; exact h)
   clear hea heb
   refine ak (N := 45) (l := [.string a, .string b, .func (.func g) #[] #[]]) Tryz.func209 rfl rfl (by simp) ?_
   refine sr (aL (aB (ah (sr (mS ?_)))))
   refine aP (hB _ hb) ar.out rfl (by decide) ?_
   rintro e_ w12 ⟨A12, c12, rfl, hown_, hb_⟩
   refine ⟨_, rfl, ?_⟩
   replace hh := hh.bf (x := .row _ _ _ _ _ _) hb_ hown_
   refine aL (ah (ai (sr (mS (mS ?_)))))
   refine a9 aF.out rfl (by decide) ?_
   refine bz hh (jG a _ (by omega)) rfl ?_
   intro w16 hh
   rw [hma]
   refine eF ?_
   refine mB ?_
   first | refine gS ?_ | (refine gT ?_; refine mS ?_) | refine gV ?_
   first | refine gS ?_ | (refine gT ?_; refine mS ?_) | refine gV ?_
   first | refine gS ?_ | (refine gT ?_; refine a9 aF.out rfl (by decide) ?_) | refine gV ?_
   refine a8 rfl rfl ?_
   refine bz hh (ix b _ _ (by omega)) rfl ?_
   intro w22 hh
   rw [hmb]
   first | refine gS ?_ | (refine gT ?_; refine eF ?_) | refine gV ?_
   first | refine cw ?_ | refine cx ?_
   refine ah (cF (al (aj (ai (sr (mS ?_))))))
   refine aP (hA _ ha) ar.out rfl (by decide) ?_
   rintro e_ w26 ⟨A26, c26, rfl, hown_, hb_⟩
   refine ⟨_, rfl, ?_⟩
   replace hh := hh.bf (x := .row _ _ _ _ _ _) hb_ hown_
   refine aW (mI (ah (ao ?_)))
   refine bp [9, 10, 28, 29, 30, 31, 32, 33, 34, 35, 36, 37, 38, 39, 40, 41, 42, 43] 28
    (fun i w' => ∃ k : Nat, k ≤ ib.length ∧ i = .int .i64 k ∧ Hp w [.row A26 ia.length c26 3 1 (er ia), .row A12 ib.length c12 3 1 (er (jz f ia ib k))] w')
    (fun i _ => ib.length - (intOf i).toNat) ?_ ?_
   ·exact ⟨0, Nat.zero_le _, rfl, by rw [wJ]; exact hh⟩
   ·clear hh hown_ hb_
    rintro ρ' i w' ⟨k, hk, rfl, hh⟩
    by_cases hlt : k < ib.length
    ·obtain ⟨x, hx⟩ := aD (l := ia) (k := k) (by omega)
     obtain ⟨y, hy⟩ := aD hlt
     have bx := bda k x hx
     have byy := bdb k y hy
     have hx2 := dX hx
     have hy2 := dX (y8 (f := f) hlab hy)
     have hml := xC (f := f) hlab hk
     have hml2 := ez (jz f ia ib k)
     obtain ⟨ga, rfl⟩ := hh.fm (i := 0) rfl (by omega)
     obtain ⟨gb, rfl⟩ := hh.fm (i := 1) rfl (by omega)
     refine sr ?_
     refine aN (ah (ai (cT (al (aj (ai (ao (sr (mI ?_)))))))))
     refine bj aF.out aC.size rfl rfl rfl (by omega) (by decide) ?_
     refine bu aC.out rfl (hh.cz (i := 0) rfl (by first | assumption | (simp only [Nat.mul_one]; assumption))) (by decide) ?_
     refine aI (aI (ah (aq (mL (mI ?_)))))
     refine fK (by first | exact gE rfl | exact ev_nilf rfl) (by decide) ?_
     refine mI (mL (mI ?_))
     refine bj aF.out aC.size rfl rfl rfl (by omega) (by decide) ?_
     refine bu aC.out rfl (hh.cz (i := 1) rfl (by first | assumption | (simp only [Nat.mul_one]; assumption))) (by decide) ?_
     refine fu (hg x y _ bx.1 bx.2 byy.1 byy.2) ar.out rfl rfl (by decide) ?_
     rintro e_ w41 ⟨rfl, hb_⟩
     refine ⟨_, rfl, ?_⟩
     replace hh := hh.ext hb_
     refine bj aF.out aC.size rfl rfl rfl (by omega) (by decide) ?_
     refine bC hh (i := 1) (vs := [_]) rfl rfl (bM rfl) rfl aC.out rfl (by omega) rfl ?_
     intro ws hh
     simp only [List.set_cons_zero, List.set_cons_succ] at hh
     refine aE (aY (aj (aq ?_)))
     refine bF (mI (aE (aj ?_)))
     rw [Nat.mul_one, xu hlab hx hy] at hh
     refine ⟨⟨k + 1, by omega, rfl, hh⟩, by show _ - (k + 1) < _ - k; omega, ?_⟩
     (repeat (first | exact ax _ _ _ | refine az rfl ?_ | refine aw rfl ?_))
    ·refine sr ?_
     refine aN (ah (ai (cF ?_)))
     refine aU ?_
     refine ay (ay (a7 (aj (sr (mL (aL (aB (ah (an ?_)))))))))
     refine qd ?_
     obtain rfl : k = ib.length := by omega
     rw [vK hlab] at hh
     have h1 := hh.at_ (i := 1) rfl
     have hzl : (List.zipWith f ia ib).length = ib.length := by simp [hlab]
     refine .inr ⟨_, hbl, by omega, A12, c12, ?_⟩
     rw [hzl]
     exact ⟨rfl, h1, hh.below⟩
theorem uZ (a b : ByteArray) (g : FuncId) (f : Int → Int → Int) (w : World) (ha : a.size ≤ 100000) (hb : b.size ≤ 100000) [ar Tryz.prog g]
  (hg : ∀ (x y : Int) (w : World), 0 ≤ x → x ≤ 127 → 0 ≤ y → y ≤ 127 → Calls Tryz.prog g #[.int .i64 x, .int .i64 y] w fun e w' => e = .returned (.int .i64 (f x y)) ∧ Below w.heap.size w w')
  (h : fi f a.data.toList b.data.toList = none) :
  Calls Tryz.prog 209 #[.string a, .string b, .func (.func g) #[] #[]] w fun e w' => e = .returned (.tuple #[.slice none 0 0, .bool false]) ∧ Below w.heap.size w w' :=
 (nt a b g f w ha hb hg).mono fun e w' hq => by
  rcases hq with hq | ⟨l, hl, _⟩
  ·exact hq.2
  ·rw [h] at hl; cases hl
theorem vt (a b : ByteArray) (g : FuncId) (f : Int → Int → Int) (w : World) (ha : a.size ≤ 100000) (hb : b.size ≤ 100000) [ar Tryz.prog g]
  (hg : ∀ (x y : Int) (w : World), 0 ≤ x → x ≤ 127 → 0 ≤ y → y ≤ 127 → Calls Tryz.prog g #[.int .i64 x, .int .i64 y] w fun e w' => e = .returned (.int .i64 (f x y)) ∧ Below w.heap.size w w')
  {l : List Int} (h : fi f a.data.toList b.data.toList = some l) :
  Calls Tryz.prog 209 #[.string a, .string b, .func (.func g) #[] #[]] w fun e w' => ∃ A c, e = .returned (.tuple #[.slice A l.length c, .bool true]) ∧ w'.ownsRow w.heap.size 3 1 (.slice A l.length c) l.length (er l) ∧ Below w.heap.size w w' :=
 (nt a b g f w ha hb hg).mono fun e w' hq => by
  rcases hq with ⟨hn, _⟩ | ⟨l', hl, _, hq⟩
  ·rw [h] at hn; cases hn
  ·rw [h] at hl; injection hl with hl; subst hl; exact hq
theorem vn {f : Int → Int → Int} {a b : List UInt8} {l : List Int} (h : fi f a b = some l) : l.length ≤ b.length := by
 unfold fi at h
 split at h
 ·injection h with h; subst h; simp [ints]; omega
 ·cases h
theorem nU (x y : Int) (w : World) (h1 : 0 ≤ x) (h2 : x ≤ 127) (h3 : 0 ≤ y) (h4 : y ≤ 127) :
  Calls Tryz.prog 210 #[.int .i64 x, .int .i64 y] w fun e w' => e = .returned (.int .i64 (x + y)) ∧ Below w.heap.size w w' := by
 refine ak (N := 8) (l := [.int .i64 x, .int .i64 y]) Tryz.func210 rfl rfl (by simp) ?_
 refine sr (aI (ah (sr (mI (mI ?_)))))
 refine bF (aI (ah (an ?_)))
 refine cb ?_
 exact ⟨rfl, Below.refl _ _⟩
theorem uY (a b : ByteArray) (w : World) (ha : a.size ≤ 100000) (hb : b.size ≤ 100000) :
  Calls Tryz.prog 175 #[.string a, .string b] w fun e w' => e = .returned (.tuple #[.string (str (mulL a.data.toList b.data.toList).1), .int .i64 (mulL a.data.toList b.data.toList).2]) ∧ Below w.heap.size w w' := by
 have hh := Hp.start w
 have hsb := dD b
 cases hbo : fi (· + ·) a.data.toList b.data.toList with
 | none =>
  refine ak (N := 20) (l := [.string a, .string b]) Tryz.func175 rfl rfl (by simp) ?_
  refine sr (aS (aI (ah (sr (mS (mS ?_))))))
  refine bz hh (uZ a b _ _ _ ha hb nU hbo) rfl ?_
  intro w11 hh
  refine mT ?_
  refine dJ ?_
  refine dJ ?_
  refine aL (aB (ah (ai (sr (mB ?_)))))
  refine eF ?_
  refine ah (cT (sr (aS (aI (ah (an (aA ?_)))))))
  refine qd ?_
  simp only [mulL, hbo]
  first | exact ⟨rfl, hh.below⟩ | exact ⟨trivial, hh.below⟩
 | some l =>
  have hl := vn hbo
  refine ak (N := 20) (l := [.string a, .string b]) Tryz.func175 rfl rfl (by simp) ?_
  refine sr (aS (aI (ah (sr (mS (mS ?_))))))
  refine aP (vt a b _ _ _ ha hb nU hbo) ar.out rfl (by decide) ?_
  rintro e_ w11 ⟨A11, c11, rfl, hown_, hb_⟩
  refine ⟨_, rfl, ?_⟩
  replace hh := hh.bf (x := .row _ _ _ _ _ _) hb_ hown_
  refine mT ?_
  refine dJ ?_
  refine dJ ?_
  refine aL (aB (ah (ai (sr (mB ?_)))))
  refine eF ?_
  refine ah (cF (al (aj (sr (mL ?_)))))
  refine bz hh (vV _ _ _ _ _ (hh.aJ (i := 0) rfl) (by omega)) rfl ?_
  intro w17 hh
  refine dJ ?_
  refine dJ ?_
  refine aS (aI (ah (an ?_)))
  refine qd ?_
  simp only [mulL, hbo]
  first | exact ⟨rfl, hh.below⟩ | exact ⟨trivial, hh.below⟩
end Go.Proofs.YtkgdagjklakajaaGreatDoor
/- The walks through poly.few and poly.Check. -/
namespace Go.Proofs.YtkgdagjklakajaaGreatDoor
open Go.RowKit
def gm (v : Int) : Bool := decide (0 ≤ v) && decide (v ≤ 12)
theorem fI {v : Int} : gm v = true ↔ 0 ≤ v ∧ v ≤ 12 := by unfold gm; rw [Bool.and_eq_true, decide_eq_true_eq, decide_eq_true_eq]
theorem j7 (v : Int) (w : World) : Calls Tryz.prog 89 #[.int .i64 v] w fun r w' => r = .returned (.bool (gm v)) ∧ Below w.heap.size w w' := by
 have hh := Hp.start w
 unfold gm
 by_cases h1 : 0 ≤ v
 ·rw [decide_eq_true h1, Bool.true_and]
  by_cases h2 : v ≤ 12
  ·rw [decide_eq_true h2]
   refine ak (N := 9) (l := [.int .i64 v]) Tryz.func89 rfl rfl (by simp) ?_
   refine sr (aB (ah (sr (mI ?_))))
   refine dw (mB ?_)
   first | refine gS ?_ | (refine gT ?_; refine mI ?_) | refine gV ?_
   first | refine gS ?_ | (refine gT ?_; refine q5 ?_) | refine gV ?_
   first | refine cw ?_ | refine cx ?_
   refine aB (ah (an ?_))
   refine cb ?_
   exact ⟨rfl, hh.below⟩
  ·rw [decide_eq_false h2]
   refine ak (N := 9) (l := [.int .i64 v]) Tryz.func89 rfl rfl (by simp) ?_
   refine sr (aB (ah (sr (mI ?_))))
   refine dw (mB ?_)
   first | refine gS ?_ | (refine gT ?_; refine mI ?_) | refine gV ?_
   first | refine gS ?_ | (refine gT ?_; refine q5 ?_) | refine gV ?_
   first | refine cw ?_ | refine cx ?_
   refine aB (ah (an ?_))
   refine cb ?_
   exact ⟨rfl, hh.below⟩
 ·rw [decide_eq_false h1, Bool.false_and]
  refine ak (N := 9) (l := [.int .i64 v]) Tryz.func89 rfl rfl (by simp) ?_
  refine sr (aB (ah (sr (mI ?_))))
  refine dw (mB ?_)
  first | refine gS ?_ | (refine gT ?_; refine mI ?_) | refine gV ?_
  first | refine gS ?_ | (refine gT ?_; refine q5 ?_) | refine gV ?_
  first | refine cw ?_ | refine cx ?_
  refine aB (ah (an ?_))
  refine cb ?_
  exact ⟨rfl, hh.below⟩
def z8 (a : NR) : Bool := decide ((nR a.d).neg = a.neg) && (decide ((nR a.d).bT = a.bT) && decide ((nR a.d).e = a.e))
theorem jY (a : NR) : z8 a = true ↔ nR a.d = a := by
 unfold z8
 rw [Bool.and_eq_true, Bool.and_eq_true, decide_eq_true_eq, decide_eq_true_eq, decide_eq_true_eq]
 constructor
 ·rintro ⟨h1, h2, h3⟩
  obtain ⟨s, m, e⟩ := a
  generalize nR (NR.d ⟨s, m, e⟩) = b at *
  obtain ⟨s', m', e'⟩ := b
  simp only at h1 h2 h3
  rw [h1, h2, h3]
 ·intro h
  rw [h]
  exact ⟨rfl, rfl, rfl⟩
def gl (v : Int) (t : TR) : Bool := eE t.m.data.toList && decide ((t.m.size : Int) = v) && (kb t && z8 t.c)
def ks : List TR → Bool
 | [] => true
 | [_] => true
 | a :: b :: l => fq a.m b.m && ks (b :: l)
theorem lT : ∀ (l : List TR) (p x : TR), ks (l ++ [p, x]) = (ks (l ++ [p]) && fq p.m x.m)
 | [], p, x => by show (fq p.m x.m && true) = (true && fq p.m x.m); rw [Bool.and_true, Bool.true_and]
 | [a], p, x => by
  show (fq a.m p.m && (fq p.m x.m && true)) = ((fq a.m p.m && true) && fq p.m x.m)
  rw [Bool.and_true, Bool.and_true]
 | a :: b :: l, p, x => by
  show (fq a.m b.m && ks ((b :: l) ++ [p, x])) = ((fq a.m b.m && ks ((b :: l) ++ [p])) && fq p.m x.m)
  rw [lT (b :: l) p x, Bool.and_assoc]
theorem uE : ∀ {l : List TR} {i : Nat} {p x : TR}, ks l = true → l[i]? = some p → l[i + 1]? = some x → fq p.m x.m = true
 | [], i, p, x, _, h, _ => by simp at h
 | [a], i, p, x, _, _, h => by simp at h
 | a :: b :: l, 0, p, x, h, h1, h2 => by
  simp only [List.getElem?_cons_zero, Option.some.injEq, Nat.zero_add, List.getElem?_cons_succ] at h1 h2
  subst h1 h2
  exact (Bool.and_eq_true_iff.1 h).1
 | a :: b :: l, i + 1, p, x, h, h1, h2 => by
  rw [List.getElem?_cons_succ] at h1 h2
  exact uE (Bool.and_eq_true_iff.1 h).2 h1 h2
theorem lz : ∀ {l : List TR}, ks l = true ↔ o5 l
 | [] => ⟨fun _ => List.Pairwise.nil, fun _ => rfl⟩
 | [a] => ⟨fun _ => List.pairwise_singleton _ _, fun _ => rfl⟩
 | a :: b :: l => by
  show (fq a.m b.m && ks (b :: l)) = true ↔ _
  rw [Bool.and_eq_true, lz (l := b :: l)]
  constructor
  ·rintro ⟨h1, h2⟩
   refine List.pairwise_cons.2 ⟨fun t ht => ?_, h2⟩
   rcases List.mem_cons.1 ht with rfl | ht
   ·exact h1
   ·exact gH h1 ((List.pairwise_cons.1 h2).1 t ht)
  ·intro h
   have := List.pairwise_cons.1 h
   exact ⟨this.1 b List.mem_cons_self, this.2⟩
def okB (v : Int) (ts : List TR) : Bool := ts.all (gl v) && ks ts
def gF (v : Int) (ts : List TR) : Int := if gm v = false then 1 else if 4096 < ts.length then 3 else if okB v ts = true then 0 else 1
theorem q7 {v : Int} {ts : List TR} (h1 : gm v = true) (h2 : ¬ 4096 < ts.length) (h : okB v ts = false) : gF v ts = 1 := by
 unfold gF
 rw [if_neg (by rw [h1]; decide), if_neg h2, if_neg (by rw [h]; decide)]
theorem jU {v : Int} {ts : List TR} {i : Nat} {x : TR} (hx : ts[i]? = some x) (h : gl v x = false) : okB v ts = false := by
 unfold okB
 rw [Bool.and_eq_false_iff]
 refine .inl (Bool.eq_false_iff.2 fun h2 => ?_)
 rw [List.all_eq_true.1 h2 x (List.mem_of_getElem? hx)] at h
 cases h
theorem rN {v : Int} {ts : List TR} {i : Nat} {p x : TR} (hp : ts[i]? = some p) (hx : ts[i + 1]? = some x) (h : fq p.m x.m = false) : okB v ts = false := by
 unfold okB
 rw [Bool.and_eq_false_iff]
 refine .inr (Bool.eq_false_iff.2 fun h2 => ?_)
 rw [uE h2 hp hx] at h
 cases h
theorem qb (v : Int) (A : Option Addr) (n c : Nat) (ts : List TR) (w : World) (hT : g9 w) (hS : Sl w A n 4 (a5 TR.cells ts)) (hn : n ≤ 1000000) (ho : ∀ t ∈ ts, t.c.ok ∧ t.m.size ≤ 100000) :
  Calls Tryz.prog 21 #[.agg #[.int .i64 v, .slice A n c]] w fun r w' => r = .returned (.int .i64 (gF v ts)) ∧ Below w.heap.size w w' := by
 have hh := Hp.start w
 have hln := hS.bX TR.len (by decide)
 have hfw := fun w1 => j7 v w1
 cases hf : gm v with
 | false =>
  rw [hf] at hfw
  rw [show gF v ts = 1 by unfold gF; rw [if_pos hf]]
  refine ak (N := 58) (l := [.agg #[.int .i64 v, .slice A n c]]) Tryz.func21 rfl rfl (by simp) ?_
  refine sr ?_
  refine cN hh [_,_] ?_
  intro b1 w1 hh
  refine aI (ah (ai (sr (bI ?_))))
  refine bL hh 0 ?_
  refine bz hh (hfw _) rfl ?_
  intro w7 hh
  refine eF ?_
  refine ah (cT (sr (aI (ah (an (aA ?_))))))
  refine cb ?_
  exact ⟨rfl, hh.below⟩
 | true =>
  rw [hf] at hfw
  by_cases h4 : 4096 < n
  ·rw [show gF v ts = 3 by unfold gF; rw [if_neg (by rw [hf]; decide), if_pos (by omega)]]
   refine ak (N := 58) (l := [.agg #[.int .i64 v, .slice A n c]]) Tryz.func21 rfl rfl (by simp) ?_
   refine sr ?_
   refine cN hh [_,_] ?_
   intro b1 w1 hh
   refine aI (ah (ai (sr (bI ?_))))
   refine bL hh 0 ?_
   refine bz hh (hfw _) rfl ?_
   intro w7 hh
   refine eF ?_
   refine ah (cF (al (aj (ai (sr (bI ?_))))))
   refine bL hh 0 ?_
   refine aW ?_
   refine bO (ah (cT (sr (aI (ah (an (aA ?_)))))))
   refine cb ?_
   exact ⟨rfl, hh.below⟩
  ·have hbad := fun h => q7 (v := v) (ts := ts) hf (by omega) h
   refine ak (N := 58) (l := [.agg #[.int .i64 v, .slice A n c]]) Tryz.func21 rfl rfl (by simp) ?_
   refine sr ?_
   refine cN hh [_,_] ?_
   intro b1 w1 hh
   refine aI (ah (ai (sr (bI ?_))))
   refine bL hh 0 ?_
   refine bz hh (hfw _) rfl ?_
   intro w7 hh
   refine eF ?_
   refine ah (cF (al (aj (ai (sr (bI ?_))))))
   refine bL hh 0 ?_
   refine aW ?_
   refine bO (ah (cF (al (aj (ai (sr (bI ?_)))))))
   refine bL hh 0 ?_
   refine aW (mI (ah (ao ?_)))
   refine bp [2, 3, 4, 16, 17, 18, 19, 20, 21, 22, 23, 24, 25, 26, 27, 28, 29, 30, 31, 32, 33, 34, 35, 36, 37, 38, 39, 40, 41, 42, 43, 44, 45, 46, 47, 48, 49, 50, 51, 52, 53, 54, 55, 56, 57] 16
    (fun x w' => ∃ i : Nat, i ≤ n ∧ x = .int .i64 i ∧ (ts.take i).all (gl v) = true ∧ ks (ts.take i) = true ∧ Hp w [.blk b1 31 [.int .i64 v, .slice A n c] (0, 0)] w')
    (fun x _ => n - (intOf x).toNat) ?_ ?_
   ·exact ⟨0, Nat.zero_le _, rfl, rfl, rfl, hh⟩
   ·clear hh
    rintro ρ' x_ w' ⟨i, hi, rfl, hall, hris, hh⟩
    by_cases hlt : i < n
    ·obtain ⟨x, hx⟩ := aD (l := ts) (k := i) (by omega)
     obtain ⟨ad, rfl, hr⟩ := hS.at_ (by omega)
     obtain ⟨hxo, hxm⟩ := ho x (List.mem_of_getElem? hx)
     have hmay := fun w1 => ix x.m v w1 (by omega)
     have hsg := fun w1 => l5 x.c w1
     have hfo := fun w1 hT1 => eB x.c w1 hT1 (by have := hxo.1; omega) (by have := hxo.2.1; omega) (by have := hxo.2.2; omega)
     have hzz : x.c.i.sign = 0 ↔ x.c.d = 0 := by
      rw [Int.sign_eq_zero_iff_zero]
      exact ⟨fun h => by unfold NR.d; rw [h]; rfl, gk⟩
     cases hm : eE x.m.data.toList && decide ((x.m.size : Int) = v) with
     | false =>
      rw [hm] at hmay
      rw [hbad (jU hx (by unfold gl; rw [hm]; rfl))]
      refine sr ?_
      refine aN (ah (ai (cT (al (aj (ai (ao (sr (mI ?_)))))))))
      refine aV (k := i) aF.out aC.size rfl rfl (by omega) (by omega) (by decide) ?_
      refine bK (vs := [_, _, _, _]) aC.out rfl ((hr.ext hh.below).recAt TR.len hx) rfl (by decide) ?_
      refine cm hh ?_
      intro b4 w4 hh
      refine aI ?_
      refine bE hh 0 [_,_,_,_] ?_
      intro ws hh
      replace hh : Hp _ (.blk _ _ [_, _, _, _] _ :: _) _ := hh
      refine ah (ai ?_)
      refine cH [] [] [0, 1, 0, 4, 15, 31, 63, 127, 255, 511, 1023, 2047, 4095, 8191, 16383, 32767, 8191, 73727, 262143, 524287, 1048575, 2097151, 4194303, 8388607, 16777215, 33554431, 16777215, 83886079, 268435455, 536870911, 1073741823, 16777215, 2164260863, 8589934591, 17179869183, 34359738367] 33 [[(4, none)], [(21, some 0)], [(1, none)], [(23, some 2)], [(22, some 1), (24, some 3)], [(25, some 4)], [(26, some 5)], [(4, none), (27, some 6)], [(28, some 7), (27, some 6)], [(29, some 8), (27, some 6)], [(30, some 9), (27, some 6)], [(27, some 6), (31, some 10)], [(32, some 11)], [(4, none), (33, some 12)], [(34, some 13), (33, some 12)], [(35, some 14), (33, some 12)], [(4, none), (33, some 12)], [(37, some 16), (33, some 12)], [(36, some 15), (38, some 17), (33, some 12)], [(33, some 12), (39, some 18)], [(40, some 19)], [(3, none), (41, some 20)], [(42, some 21), (41, some 20)], [(43, some 22), (41, some 20)], [(1, none), (44, some 23)], [(45, some 24), (44, some 23)], [(3, none), (44, some 23)], [(47, some 26), (44, some 23)], [(46, some 25), (48, some 27), (44, some 23)], [(49, some 28), (44, some 23)], [(50, some 29), (44, some 23)], [(4, none), (44, some 23)], [(52, some 31), (44, some 23)]] [(32, 53), (31, 52), (30, 51), (29, 50), (28, 49), (27, 48), (26, 47), (25, 46), (24, 45), (23, 44), (22, 43), (21, 42), (20, 41), (19, 40), (18, 39), (17, 38), (16, 37), (15, 36), (14, 35), (13, 34), (12, 33), (11, 32), (10, 31), (9, 30), (8, 29), (7, 28), (6, 27), (5, 26), (4, 25), (3, 24), (2, 23), (1, 22), (0, 21)] hh mixed (by kernel_rfl) cW rfl (by repeat (first | exact bS | refine bB ?_ | refine bR ?_)) ?_
      refine cf ?_
      refine df 0 ?_
      refine cf ?_
      refine df 1 ?_
      refine dC (fun _ hj => hmay _) ?_
      refine ov ?_
      refine gB ?_
      first | refine dS ?_ | refine dU ?_ | refine dG (cf ?_)
      first | refine dS ?_ | refine dU ?_ | refine dG (eL 0 [_,_,_] ?_)
      first | refine dS ?_ | refine dU ?_
      first | refine dS ?_ | refine dU ?_ | refine dG (jL ?_)
      first | refine mm ?_ | refine ml ?_
      refine gB ?_
      first | refine dS ?_ | refine dU ?_ | refine dG (cf ?_)
      first | refine dS ?_ | refine dU ?_ | refine dG (eL 0 [_,_,_] ?_)
      first | refine dS ?_ | refine dU ?_
      first | refine dS ?_ | refine dU ?_ | refine dG (cf ?_)
      first | refine dS ?_ | refine dU ?_ | refine dG (eL 0 [_,_,_] ?_)
      first | refine eO (i := 18) rfl (fun ρ1 w1 hj hR => (show ρ1 33 = Value.bool _ from hR.2.2.1)) (by decide) ?_ | refine dV (i := 18) rfl (fun ρ1 w1 hj hR => (show ρ1 33 = undef from hR.2.2.1)) ?_ | refine dz (i := 18) rfl (fun ρ1 w1 hj hR => (show ρ1 33 = Value.bool _ from hR.2.2.1)) (fun ρ1 w1 hj hR => iU (show ρ1 36 = Value.agg (List.toArray _) from hR.1) (show ρ1 38 = Value.agg (List.toArray _) from hR.2.1) (by first | assumption | rfl)) ?_ | refine dz (i := 18) rfl (fun ρ1 w1 hj hR => (show ρ1 33 = Value.bool _ from hR.2.2.1)) (fun ρ1 w1 hj hR => ja (show ρ1 36 = Value.agg (List.toArray _) from hR.1) (show ρ1 38 = Value.agg (List.toArray _) from hR.2.1) (by assumption)) ?_
      first | refine mm ?_ | refine ml ?_
      refine gB ?_
      first | refine dS ?_ | refine dU ?_ | refine dG (dH ?_)
      first | refine dS ?_ | refine dU ?_ | refine dG (pV ?_)
      first | refine dS ?_ | refine dU ?_ | refine dG (gB ?_)
      first | refine dS ?_ | refine dU ?_ | refine dG (cf ?_)
      first | refine dS ?_ | refine dU ?_ | refine dG (df 1 ?_)
      first | refine dS ?_ | refine dU ?_ | refine dG (dH ?_)
      first | refine dS ?_ | refine dU ?_ | refine dG (kG ?_)
      first | refine eO (i := 28) rfl (fun ρ1 w1 hj hR => (show ρ1 44 = Value.bool _ from hR.2.2.1)) (by decide) ?_ | refine dV (i := 28) rfl (fun ρ1 w1 hj hR => (show ρ1 44 = undef from hR.2.2.1)) ?_ | refine dz (i := 28) rfl (fun ρ1 w1 hj hR => (show ρ1 44 = Value.bool _ from hR.2.2.1)) (fun ρ1 w1 hj hR => en aF.out aC.size (show ρ1 46 = Value.slice _ _ _ from hR.1) (show ρ1 48 = Value.int _ _ from hR.2.1) rfl (by omega)) ?_
      first | refine dS ?_ | refine dU ?_ | refine dG (kI ?_)
      first | refine dS ?_ | refine dU ?_ | refine dG (hH (fun _ hj => hT) ?_)
      first | refine dS ?_ | refine dU ?_ | refine dG (cf ?_)
      first | refine dS ?_ | refine dU ?_ | refine dG (df 0 ?_)
      refine a0 ?_
      intro f W hJ hV _
      have hb_8 := hJ.bl
      obtain ⟨v53, v52, v51, v50, v49, v48, v47, v46, v45, v44, v43, v42, v41, v40, v39, v38, v37, v36, v35, v34, v33, v32, v31, v30, v29, v28, v27, v26, v25, v24, v23, v22, v21, _⟩ := hV
      replace hh := hJ.hp
      refine aO (a4 (aa v53 (aa v52 (aa v51 (aa v50 (aa v49 (aa v48 (aa v47 (aa v46 (aa v45 (aa v44 (aa v43 (aa v42 (aa v41 (aa v40 (aa v39 (aa v38 (aa v37 (aa v36 (aa v35 (aa v34 (aa v33 (aa v32 (aa v31 (aa v30 (aa v29 (aa v28 (aa v27 (aa v26 (aa v25 (aa v24 (aa v23 (aa v22 (aa v21 aQ)))))))))))))))))))))))))))))))))) ?_
      dsimp only [bU]
      clear hJ
      first | refine gS ?_ | (refine gT ?_; refine eY rfl rfl (by decide) ?_) | refine gV ?_
      first | refine gS ?_ | (refine gT ?_; (first | refine cw ?_ | refine cx ?_)) | refine gV ?_
      first | refine cw ?_ | refine cx ?_
      refine ah (cT (sr (aI (ah (an (bA (aA (aA (bA (aA ?_))))))))))
      refine cb ?_
      exact ⟨rfl, hh.below⟩
     | true =>
      rw [hm] at hmay
      by_cases hz : x.c.d = 0
      ·have hs := hzz.2 hz
       rw [hbad (jU hx (by unfold gl kb; rw [hm, decide_eq_true hz]; rfl))]
       refine sr ?_
       refine aN (ah (ai (cT (al (aj (ai (ao (sr (mI ?_)))))))))
       refine aV (k := i) aF.out aC.size rfl rfl (by omega) (by omega) (by decide) ?_
       refine bK (vs := [_, _, _, _]) aC.out rfl ((hr.ext hh.below).recAt TR.len hx) rfl (by decide) ?_
       refine cm hh ?_
       intro b4 w4 hh
       refine aI ?_
       refine bE hh 0 [_,_,_,_] ?_
       intro ws hh
       replace hh : Hp _ (.blk _ _ [_, _, _, _] _ :: _) _ := hh
       refine ah (ai ?_)
       refine cH [] [] [0, 1, 0, 4, 15, 31, 63, 127, 255, 511, 1023, 2047, 4095, 8191, 16383, 32767, 8191, 73727, 262143, 524287, 1048575, 2097151, 4194303, 8388607, 16777215, 33554431, 16777215, 83886079, 268435455, 536870911, 1073741823, 16777215, 2164260863, 8589934591, 17179869183, 34359738367] 33 [[(4, none)], [(21, some 0)], [(1, none)], [(23, some 2)], [(22, some 1), (24, some 3)], [(25, some 4)], [(26, some 5)], [(4, none), (27, some 6)], [(28, some 7), (27, some 6)], [(29, some 8), (27, some 6)], [(30, some 9), (27, some 6)], [(27, some 6), (31, some 10)], [(32, some 11)], [(4, none), (33, some 12)], [(34, some 13), (33, some 12)], [(35, some 14), (33, some 12)], [(4, none), (33, some 12)], [(37, some 16), (33, some 12)], [(36, some 15), (38, some 17), (33, some 12)], [(33, some 12), (39, some 18)], [(40, some 19)], [(3, none), (41, some 20)], [(42, some 21), (41, some 20)], [(43, some 22), (41, some 20)], [(1, none), (44, some 23)], [(45, some 24), (44, some 23)], [(3, none), (44, some 23)], [(47, some 26), (44, some 23)], [(46, some 25), (48, some 27), (44, some 23)], [(49, some 28), (44, some 23)], [(50, some 29), (44, some 23)], [(4, none), (44, some 23)], [(52, some 31), (44, some 23)]] [(32, 53), (31, 52), (30, 51), (29, 50), (28, 49), (27, 48), (26, 47), (25, 46), (24, 45), (23, 44), (22, 43), (21, 42), (20, 41), (19, 40), (18, 39), (17, 38), (16, 37), (15, 36), (14, 35), (13, 34), (12, 33), (11, 32), (10, 31), (9, 30), (8, 29), (7, 28), (6, 27), (5, 26), (4, 25), (3, 24), (2, 23), (1, 22), (0, 21)] hh mixed (by kernel_rfl) cW rfl (by repeat (first | exact bS | refine bB ?_ | refine bR ?_)) ?_
       refine cf ?_
       refine df 0 ?_
       refine cf ?_
       refine df 1 ?_
       refine dC (fun _ hj => hmay _) ?_
       refine ov ?_
       refine gB ?_
       first | refine dS ?_ | refine dU ?_ | refine dG (cf ?_)
       first | refine dS ?_ | refine dU ?_ | refine dG (eL 0 [_,_,_] ?_)
       refine bG (i := 9) rfl (fun ρ1 w1 hj hR => (show ρ1 27 = Value.bool _ from hR.2.1)) (fun ρ1 w1 hj hR => bk ar.out (aG (show ρ1 29 = Value.agg (List.toArray _) from hR.1) bo)) (fun w1 hj => hsg _) ?_
       first | refine dS ?_ | refine dU ?_ | refine dG (jL ?_)
       first | refine mm ?_ | refine ml ?_
       refine gB ?_
       first | refine dS ?_ | refine dU ?_ | refine dG (cf ?_)
       first | refine dS ?_ | refine dU ?_ | refine dG (eL 0 [_,_,_] ?_)
       first | refine dS ?_ | refine dU ?_
       first | refine dS ?_ | refine dU ?_ | refine dG (cf ?_)
       first | refine dS ?_ | refine dU ?_ | refine dG (eL 0 [_,_,_] ?_)
       first | refine eO (i := 18) rfl (fun ρ1 w1 hj hR => (show ρ1 33 = Value.bool _ from hR.2.2.1)) (by decide) ?_ | refine dV (i := 18) rfl (fun ρ1 w1 hj hR => (show ρ1 33 = undef from hR.2.2.1)) ?_ | refine dz (i := 18) rfl (fun ρ1 w1 hj hR => (show ρ1 33 = Value.bool _ from hR.2.2.1)) (fun ρ1 w1 hj hR => iU (show ρ1 36 = Value.agg (List.toArray _) from hR.1) (show ρ1 38 = Value.agg (List.toArray _) from hR.2.1) (by first | assumption | rfl)) ?_ | refine dz (i := 18) rfl (fun ρ1 w1 hj hR => (show ρ1 33 = Value.bool _ from hR.2.2.1)) (fun ρ1 w1 hj hR => ja (show ρ1 36 = Value.agg (List.toArray _) from hR.1) (show ρ1 38 = Value.agg (List.toArray _) from hR.2.1) (by assumption)) ?_
       first | refine mm ?_ | refine ml ?_
       refine gB ?_
       first | refine dS ?_ | refine dU ?_ | refine dG (dH ?_)
       first | refine dS ?_ | refine dU ?_ | refine dG (pV ?_)
       first | refine dS ?_ | refine dU ?_ | refine dG (gB ?_)
       first | refine dS ?_ | refine dU ?_ | refine dG (cf ?_)
       first | refine dS ?_ | refine dU ?_ | refine dG (df 1 ?_)
       first | refine dS ?_ | refine dU ?_ | refine dG (dH ?_)
       first | refine dS ?_ | refine dU ?_ | refine dG (kG ?_)
       first | refine eO (i := 28) rfl (fun ρ1 w1 hj hR => (show ρ1 44 = Value.bool _ from hR.2.2.1)) (by decide) ?_ | refine dV (i := 28) rfl (fun ρ1 w1 hj hR => (show ρ1 44 = undef from hR.2.2.1)) ?_ | refine dz (i := 28) rfl (fun ρ1 w1 hj hR => (show ρ1 44 = Value.bool _ from hR.2.2.1)) (fun ρ1 w1 hj hR => en aF.out aC.size (show ρ1 46 = Value.slice _ _ _ from hR.1) (show ρ1 48 = Value.int _ _ from hR.2.1) rfl (by omega)) ?_
       first | refine dS ?_ | refine dU ?_ | refine dG (kI ?_)
       first | refine dS ?_ | refine dU ?_ | refine dG (hH (fun _ hj => hT) ?_)
       first | refine dS ?_ | refine dU ?_ | refine dG (cf ?_)
       first | refine dS ?_ | refine dU ?_ | refine dG (df 0 ?_)
       refine a0 ?_
       intro f W hJ hV _
       have hb_8 := hJ.bl
       obtain ⟨v53, v52, v51, v50, v49, v48, v47, v46, v45, v44, v43, v42, v41, v40, v39, v38, v37, v36, v35, v34, v33, v32, v31, v30, v29, v28, v27, v26, v25, v24, v23, v22, v21, _⟩ := hV
       replace hh := hJ.hp
       refine aO (a4 (aa v53 (aa v52 (aa v51 (aa v50 (aa v49 (aa v48 (aa v47 (aa v46 (aa v45 (aa v44 (aa v43 (aa v42 (aa v41 (aa v40 (aa v39 (aa v38 (aa v37 (aa v36 (aa v35 (aa v34 (aa v33 (aa v32 (aa v31 (aa v30 (aa v29 (aa v28 (aa v27 (aa v26 (aa v25 (aa v24 (aa v23 (aa v22 (aa v21 aQ)))))))))))))))))))))))))))))))))) ?_
       dsimp only [bU]
       clear hJ
       first | refine gS ?_ | (refine gT ?_; refine eY rfl rfl (by decide) ?_) | refine gV ?_
       first | refine gS ?_ | (refine gT ?_; (first | refine cw ?_ | refine cx ?_)) | refine gV ?_
       first | refine cw ?_ | refine cx ?_
       refine ah (cT (sr (aI (ah (an (bA (aA (aA (bA (aA ?_))))))))))
       refine cb ?_
       exact ⟨rfl, hh.below⟩
      ·have hs : ¬ x.c.i.sign = 0 := fun h => hz (hzz.1 h)
       by_cases hnf : nR x.c.d = x.c
       ·have hgood : gl v x = true := by unfold gl kb; rw [hm, decide_eq_false hz, (jY x.c).2 hnf]; rfl
        have hall2 : (ts.take (i + 1)).all (gl v) = true := by rw [aM hx, List.all_append, hall]; simp [hgood]
        by_cases h0 : i = 0
        ·refine sr ?_
         refine aN (ah (ai (cT (al (aj (ai (ao (sr (mI ?_)))))))))
         refine aV (k := i) aF.out aC.size rfl rfl (by omega) (by omega) (by decide) ?_
         refine bK (vs := [_, _, _, _]) aC.out rfl ((hr.ext hh.below).recAt TR.len hx) rfl (by decide) ?_
         refine cm hh ?_
         intro b4 w4 hh
         refine aI ?_
         refine bE hh 0 [_,_,_,_] ?_
         intro ws hh
         replace hh : Hp _ (.blk _ _ [_, _, _, _] _ :: _) _ := hh
         refine ah (ai ?_)
         refine cH [] [] [0, 1, 0, 4, 15, 31, 63, 127, 255, 511, 1023, 2047, 4095, 8191, 16383, 32767, 8191, 73727, 262143, 524287, 1048575, 2097151, 4194303, 8388607, 16777215, 33554431, 16777215, 83886079, 268435455, 536870911, 1073741823, 16777215, 2164260863, 8589934591, 17179869183, 34359738367] 33 [[(4, none)], [(21, some 0)], [(1, none)], [(23, some 2)], [(22, some 1), (24, some 3)], [(25, some 4)], [(26, some 5)], [(4, none), (27, some 6)], [(28, some 7), (27, some 6)], [(29, some 8), (27, some 6)], [(30, some 9), (27, some 6)], [(27, some 6), (31, some 10)], [(32, some 11)], [(4, none), (33, some 12)], [(34, some 13), (33, some 12)], [(35, some 14), (33, some 12)], [(4, none), (33, some 12)], [(37, some 16), (33, some 12)], [(36, some 15), (38, some 17), (33, some 12)], [(33, some 12), (39, some 18)], [(40, some 19)], [(3, none), (41, some 20)], [(42, some 21), (41, some 20)], [(43, some 22), (41, some 20)], [(1, none), (44, some 23)], [(45, some 24), (44, some 23)], [(3, none), (44, some 23)], [(47, some 26), (44, some 23)], [(46, some 25), (48, some 27), (44, some 23)], [(49, some 28), (44, some 23)], [(50, some 29), (44, some 23)], [(4, none), (44, some 23)], [(52, some 31), (44, some 23)]] [(32, 53), (31, 52), (30, 51), (29, 50), (28, 49), (27, 48), (26, 47), (25, 46), (24, 45), (23, 44), (22, 43), (21, 42), (20, 41), (19, 40), (18, 39), (17, 38), (16, 37), (15, 36), (14, 35), (13, 34), (12, 33), (11, 32), (10, 31), (9, 30), (8, 29), (7, 28), (6, 27), (5, 26), (4, 25), (3, 24), (2, 23), (1, 22), (0, 21)] hh mixed (by kernel_rfl) cW rfl (by repeat (first | exact bS | refine bB ?_ | refine bR ?_)) ?_
         refine cf ?_
         refine df 0 ?_
         refine cf ?_
         refine df 1 ?_
         refine dC (fun _ hj => hmay _) ?_
         refine ov ?_
         refine gB ?_
         first | refine dS ?_ | refine dU ?_ | refine dG (cf ?_)
         first | refine dS ?_ | refine dU ?_ | refine dG (eL 0 [_,_,_] ?_)
         refine bG (i := 9) rfl (fun ρ1 w1 hj hR => (show ρ1 27 = Value.bool _ from hR.2.1)) (fun ρ1 w1 hj hR => bk ar.out (aG (show ρ1 29 = Value.agg (List.toArray _) from hR.1) bo)) (fun w1 hj => hsg _) ?_
         first | refine dS ?_ | refine dU ?_ | refine dG (jL ?_)
         first | refine mm ?_ | refine ml ?_
         refine gB ?_
         first | refine dS ?_ | refine dU ?_ | refine dG (cf ?_)
         first | refine dS ?_ | refine dU ?_ | refine dG (eL 0 [_,_,_] ?_)
         refine bG (i := 15) rfl (fun ρ1 w1 hj hR => (show ρ1 33 = Value.bool _ from hR.2.1)) (fun ρ1 w1 hj hR => bk ar.out (aG (show ρ1 35 = Value.agg (List.toArray _) from hR.1) bo)) (fun w1 hj => hfo _ (hT.hp hj.hp)) ?_
         first | refine dS ?_ | refine dU ?_ | refine dG (cf ?_)
         first | refine dS ?_ | refine dU ?_ | refine dG (eL 0 [_,_,_] ?_)
         first | refine eO (i := 18) rfl (fun ρ1 w1 hj hR => (show ρ1 33 = Value.bool _ from hR.2.2.1)) (by decide) ?_ | refine dV (i := 18) rfl (fun ρ1 w1 hj hR => (show ρ1 33 = undef from hR.2.2.1)) ?_ | refine dz (i := 18) rfl (fun ρ1 w1 hj hR => (show ρ1 33 = Value.bool _ from hR.2.2.1)) (fun ρ1 w1 hj hR => iU (show ρ1 36 = Value.agg (List.toArray _) from hR.1) (show ρ1 38 = Value.agg (List.toArray _) from hR.2.1) (by first | assumption | rfl)) ?_ | refine dz (i := 18) rfl (fun ρ1 w1 hj hR => (show ρ1 33 = Value.bool _ from hR.2.2.1)) (fun ρ1 w1 hj hR => ja (show ρ1 36 = Value.agg (List.toArray _) from hR.1) (show ρ1 38 = Value.agg (List.toArray _) from hR.2.1) (by assumption)) ?_
         first | refine mm ?_ | refine ml ?_
         refine gB ?_
         first | refine dS ?_ | refine dU ?_ | refine dG (dH ?_)
         first | refine dS ?_ | refine dU ?_ | refine dG (pV ?_)
         first | refine dS ?_ | refine dU ?_ | refine dG (gB ?_)
         first | refine dS ?_ | refine dU ?_ | refine dG (cf ?_)
         first | refine dS ?_ | refine dU ?_ | refine dG (df 1 ?_)
         first | refine dS ?_ | refine dU ?_ | refine dG (dH ?_)
         first | refine dS ?_ | refine dU ?_ | refine dG (kG ?_)
         first | refine eO (i := 28) rfl (fun ρ1 w1 hj hR => (show ρ1 44 = Value.bool _ from hR.2.2.1)) (by decide) ?_ | refine dV (i := 28) rfl (fun ρ1 w1 hj hR => (show ρ1 44 = undef from hR.2.2.1)) ?_ | refine dz (i := 28) rfl (fun ρ1 w1 hj hR => (show ρ1 44 = Value.bool _ from hR.2.2.1)) (fun ρ1 w1 hj hR => en aF.out aC.size (show ρ1 46 = Value.slice _ _ _ from hR.1) (show ρ1 48 = Value.int _ _ from hR.2.1) rfl (by omega)) ?_
         first | refine dS ?_ | refine dU ?_ | refine dG (kI ?_)
         first | refine dS ?_ | refine dU ?_ | refine dG (hH (fun _ hj => hT) ?_)
         first | refine dS ?_ | refine dU ?_ | refine dG (cf ?_)
         first | refine dS ?_ | refine dU ?_ | refine dG (df 0 ?_)
         refine a0 ?_
         intro f W hJ hV _
         have hb_8 := hJ.bl
         obtain ⟨v53, v52, v51, v50, v49, v48, v47, v46, v45, v44, v43, v42, v41, v40, v39, v38, v37, v36, v35, v34, v33, v32, v31, v30, v29, v28, v27, v26, v25, v24, v23, v22, v21, _⟩ := hV
         replace hh := hJ.hp
         refine aO (a4 (aa v53 (aa v52 (aa v51 (aa v50 (aa v49 (aa v48 (aa v47 (aa v46 (aa v45 (aa v44 (aa v43 (aa v42 (aa v41 (aa v40 (aa v39 (aa v38 (aa v37 (aa v36 (aa v35 (aa v34 (aa v33 (aa v32 (aa v31 (aa v30 (aa v29 (aa v28 (aa v27 (aa v26 (aa v25 (aa v24 (aa v23 (aa v22 (aa v21 aQ)))))))))))))))))))))))))))))))))) ?_
         dsimp only [bU]
         clear hJ
         first | refine gS ?_ | (refine gT ?_; refine eY rfl rfl (by decide) ?_) | refine gV ?_
         first | refine gS ?_ | (refine gT ?_; (first | refine cw ?_ | refine cx ?_)) | refine gV ?_
         first | refine cw ?_ | refine cx ?_
         refine ah (cF (al (aY (aj (aq ?_)))))
         refine bF (mI (aE (aj ?_)))
         replace hh := hh.sub (List.Sublist.cons _ (List.Sublist.cons_cons _ List.Sublist.slnil))
         refine ⟨⟨i + 1, by omega, rfl, hall2, by rw [aM hx, h0]; rfl, hh⟩, by show n - (i + 1) < n - i; omega, ?_⟩
         (repeat (first | exact ax _ _ _ | refine az rfl ?_ | refine aw rfl ?_))
        ·obtain ⟨q, hq⟩ : ∃ q, i = q + 1 := ⟨i - 1, by omega⟩
         obtain ⟨p, hp⟩ := aD (l := ts) (k := q) (by omega)
         cases hlp : fq p.m x.m with
         | false =>
          rw [hbad (rN hp (hq ▸ hx) hlp)]
          have hge : (!(Op.bytesLess p.m.toList x.m.toList)) = true := by rw [gr, hlp]; rfl
          refine sr ?_
          refine aN (ah (ai (cT (al (aj (ai (ao (sr (mI ?_)))))))))
          refine aV (k := i) aF.out aC.size rfl rfl (by omega) (by omega) (by decide) ?_
          refine bK (vs := [_, _, _, _]) aC.out rfl ((hr.ext hh.below).recAt TR.len hx) rfl (by decide) ?_
          refine cm hh ?_
          intro b4 w4 hh
          refine aI ?_
          refine bE hh 0 [_,_,_,_] ?_
          intro ws hh
          replace hh : Hp _ (.blk _ _ [_, _, _, _] _ :: _) _ := hh
          refine ah (ai ?_)
          refine cH [] [] [0, 1, 0, 4, 15, 31, 63, 127, 255, 511, 1023, 2047, 4095, 8191, 16383, 32767, 8191, 73727, 262143, 524287, 1048575, 2097151, 4194303, 8388607, 16777215, 33554431, 16777215, 83886079, 268435455, 536870911, 1073741823, 16777215, 2164260863, 8589934591, 17179869183, 34359738367] 33 [[(4, none)], [(21, some 0)], [(1, none)], [(23, some 2)], [(22, some 1), (24, some 3)], [(25, some 4)], [(26, some 5)], [(4, none), (27, some 6)], [(28, some 7), (27, some 6)], [(29, some 8), (27, some 6)], [(30, some 9), (27, some 6)], [(27, some 6), (31, some 10)], [(32, some 11)], [(4, none), (33, some 12)], [(34, some 13), (33, some 12)], [(35, some 14), (33, some 12)], [(4, none), (33, some 12)], [(37, some 16), (33, some 12)], [(36, some 15), (38, some 17), (33, some 12)], [(33, some 12), (39, some 18)], [(40, some 19)], [(3, none), (41, some 20)], [(42, some 21), (41, some 20)], [(43, some 22), (41, some 20)], [(1, none), (44, some 23)], [(45, some 24), (44, some 23)], [(3, none), (44, some 23)], [(47, some 26), (44, some 23)], [(46, some 25), (48, some 27), (44, some 23)], [(49, some 28), (44, some 23)], [(50, some 29), (44, some 23)], [(4, none), (44, some 23)], [(52, some 31), (44, some 23)]] [(32, 53), (31, 52), (30, 51), (29, 50), (28, 49), (27, 48), (26, 47), (25, 46), (24, 45), (23, 44), (22, 43), (21, 42), (20, 41), (19, 40), (18, 39), (17, 38), (16, 37), (15, 36), (14, 35), (13, 34), (12, 33), (11, 32), (10, 31), (9, 30), (8, 29), (7, 28), (6, 27), (5, 26), (4, 25), (3, 24), (2, 23), (1, 22), (0, 21)] hh mixed (by kernel_rfl) cW rfl (by repeat (first | exact bS | refine bB ?_ | refine bR ?_)) ?_
          refine cf ?_
          refine df 0 ?_
          refine cf ?_
          refine df 1 ?_
          refine dC (fun _ hj => hmay _) ?_
          refine ov ?_
          refine gB ?_
          first | refine dS ?_ | refine dU ?_ | refine dG (cf ?_)
          first | refine dS ?_ | refine dU ?_ | refine dG (eL 0 [_,_,_] ?_)
          refine bG (i := 9) rfl (fun ρ1 w1 hj hR => (show ρ1 27 = Value.bool _ from hR.2.1)) (fun ρ1 w1 hj hR => bk ar.out (aG (show ρ1 29 = Value.agg (List.toArray _) from hR.1) bo)) (fun w1 hj => hsg _) ?_
          first | refine dS ?_ | refine dU ?_ | refine dG (jL ?_)
          first | refine mm ?_ | refine ml ?_
          refine gB ?_
          first | refine dS ?_ | refine dU ?_ | refine dG (cf ?_)
          first | refine dS ?_ | refine dU ?_ | refine dG (eL 0 [_,_,_] ?_)
          refine bG (i := 15) rfl (fun ρ1 w1 hj hR => (show ρ1 33 = Value.bool _ from hR.2.1)) (fun ρ1 w1 hj hR => bk ar.out (aG (show ρ1 35 = Value.agg (List.toArray _) from hR.1) bo)) (fun w1 hj => hfo _ (hT.hp hj.hp)) ?_
          first | refine dS ?_ | refine dU ?_ | refine dG (cf ?_)
          first | refine dS ?_ | refine dU ?_ | refine dG (eL 0 [_,_,_] ?_)
          first | refine eO (i := 18) rfl (fun ρ1 w1 hj hR => (show ρ1 33 = Value.bool _ from hR.2.2.1)) (by decide) ?_ | refine dV (i := 18) rfl (fun ρ1 w1 hj hR => (show ρ1 33 = undef from hR.2.2.1)) ?_ | refine dz (i := 18) rfl (fun ρ1 w1 hj hR => (show ρ1 33 = Value.bool _ from hR.2.2.1)) (fun ρ1 w1 hj hR => iU (show ρ1 36 = Value.agg (List.toArray _) from hR.1) (show ρ1 38 = Value.agg (List.toArray _) from hR.2.1) (by first | assumption | rfl)) ?_ | refine dz (i := 18) rfl (fun ρ1 w1 hj hR => (show ρ1 33 = Value.bool _ from hR.2.2.1)) (fun ρ1 w1 hj hR => ja (show ρ1 36 = Value.agg (List.toArray _) from hR.1) (show ρ1 38 = Value.agg (List.toArray _) from hR.2.1) (by assumption)) ?_
          first | refine mm ?_ | refine ml ?_
          refine gB ?_
          first | refine dS ?_ | refine dU ?_ | refine dG (dH ?_)
          first | refine dS ?_ | refine dU ?_ | refine dG (pV ?_)
          first | refine dS ?_ | refine dU ?_ | refine dG (gB ?_)
          first | refine dS ?_ | refine dU ?_ | refine dG (cf ?_)
          first | refine dS ?_ | refine dU ?_ | refine dG (df 1 ?_)
          first | refine dS ?_ | refine dU ?_ | refine dG (dH ?_)
          first | refine dS ?_ | refine dU ?_ | refine dG (kG ?_)
          first | refine dS ?_ | refine dU ?_ | refine dG (hG (q) ?_)
          first | refine dS ?_ | refine dU ?_ | refine dG (kI ?_)
          first | refine dS ?_ | refine dU ?_ | refine dG (hH (fun _ hj => ((hr.ext hj.hp.below).recAt TR.len hp).cell (i := 0) rfl) ?_)
          first | refine dS ?_ | refine dU ?_ | refine dG (cf ?_)
          first | refine dS ?_ | refine dU ?_ | refine dG (df 0 ?_)
          refine a0 ?_
          intro f W hJ hV _
          have hb_8 := hJ.bl
          obtain ⟨v53, v52, v51, v50, v49, v48, v47, v46, v45, v44, v43, v42, v41, v40, v39, v38, v37, v36, v35, v34, v33, v32, v31, v30, v29, v28, v27, v26, v25, v24, v23, v22, v21, _⟩ := hV
          replace hh := hJ.hp
          refine aO (a4 (aa v53 (aa v52 (aa v51 (aa v50 (aa v49 (aa v48 (aa v47 (aa v46 (aa v45 (aa v44 (aa v43 (aa v42 (aa v41 (aa v40 (aa v39 (aa v38 (aa v37 (aa v36 (aa v35 (aa v34 (aa v33 (aa v32 (aa v31 (aa v30 (aa v29 (aa v28 (aa v27 (aa v26 (aa v25 (aa v24 (aa v23 (aa v22 (aa v21 aQ)))))))))))))))))))))))))))))))))) ?_
          dsimp only [bU]
          clear hJ
          first | refine gS ?_ | (refine gT ?_; refine eY rfl rfl (by decide) ?_) | refine gV ?_
          first | refine gS ?_ | (refine gT ?_; (first | refine cw ?_ | refine cx ?_)) | refine gV ?_
          first | refine cw ?_ | refine cx ?_
          refine ah ?_
          rw [hge]
          refine cT (sr (aI (ah (an (bA (aA (aA (bA (aA ?_)))))))))
          refine cb ?_
          exact ⟨rfl, hh.below⟩
         | true =>
          have hge : (!(Op.bytesLess p.m.toList x.m.toList)) = false := by rw [gr, hlp]; rfl
          refine sr ?_
          refine aN (ah (ai (cT (al (aj (ai (ao (sr (mI ?_)))))))))
          refine aV (k := i) aF.out aC.size rfl rfl (by omega) (by omega) (by decide) ?_
          refine bK (vs := [_, _, _, _]) aC.out rfl ((hr.ext hh.below).recAt TR.len hx) rfl (by decide) ?_
          refine cm hh ?_
          intro b4 w4 hh
          refine aI ?_
          refine bE hh 0 [_,_,_,_] ?_
          intro ws hh
          replace hh : Hp _ (.blk _ _ [_, _, _, _] _ :: _) _ := hh
          refine ah (ai ?_)
          refine cH [] [] [0, 1, 0, 4, 15, 31, 63, 127, 255, 511, 1023, 2047, 4095, 8191, 16383, 32767, 8191, 73727, 262143, 524287, 1048575, 2097151, 4194303, 8388607, 16777215, 33554431, 16777215, 83886079, 268435455, 536870911, 1073741823, 16777215, 2164260863, 8589934591, 17179869183, 34359738367] 33 [[(4, none)], [(21, some 0)], [(1, none)], [(23, some 2)], [(22, some 1), (24, some 3)], [(25, some 4)], [(26, some 5)], [(4, none), (27, some 6)], [(28, some 7), (27, some 6)], [(29, some 8), (27, some 6)], [(30, some 9), (27, some 6)], [(27, some 6), (31, some 10)], [(32, some 11)], [(4, none), (33, some 12)], [(34, some 13), (33, some 12)], [(35, some 14), (33, some 12)], [(4, none), (33, some 12)], [(37, some 16), (33, some 12)], [(36, some 15), (38, some 17), (33, some 12)], [(33, some 12), (39, some 18)], [(40, some 19)], [(3, none), (41, some 20)], [(42, some 21), (41, some 20)], [(43, some 22), (41, some 20)], [(1, none), (44, some 23)], [(45, some 24), (44, some 23)], [(3, none), (44, some 23)], [(47, some 26), (44, some 23)], [(46, some 25), (48, some 27), (44, some 23)], [(49, some 28), (44, some 23)], [(50, some 29), (44, some 23)], [(4, none), (44, some 23)], [(52, some 31), (44, some 23)]] [(32, 53), (31, 52), (30, 51), (29, 50), (28, 49), (27, 48), (26, 47), (25, 46), (24, 45), (23, 44), (22, 43), (21, 42), (20, 41), (19, 40), (18, 39), (17, 38), (16, 37), (15, 36), (14, 35), (13, 34), (12, 33), (11, 32), (10, 31), (9, 30), (8, 29), (7, 28), (6, 27), (5, 26), (4, 25), (3, 24), (2, 23), (1, 22), (0, 21)] hh mixed (by kernel_rfl) cW rfl (by repeat (first | exact bS | refine bB ?_ | refine bR ?_)) ?_
          refine cf ?_
          refine df 0 ?_
          refine cf ?_
          refine df 1 ?_
          refine dC (fun _ hj => hmay _) ?_
          refine ov ?_
          refine gB ?_
          first | refine dS ?_ | refine dU ?_ | refine dG (cf ?_)
          first | refine dS ?_ | refine dU ?_ | refine dG (eL 0 [_,_,_] ?_)
          refine bG (i := 9) rfl (fun ρ1 w1 hj hR => (show ρ1 27 = Value.bool _ from hR.2.1)) (fun ρ1 w1 hj hR => bk ar.out (aG (show ρ1 29 = Value.agg (List.toArray _) from hR.1) bo)) (fun w1 hj => hsg _) ?_
          first | refine dS ?_ | refine dU ?_ | refine dG (jL ?_)
          first | refine mm ?_ | refine ml ?_
          refine gB ?_
          first | refine dS ?_ | refine dU ?_ | refine dG (cf ?_)
          first | refine dS ?_ | refine dU ?_ | refine dG (eL 0 [_,_,_] ?_)
          refine bG (i := 15) rfl (fun ρ1 w1 hj hR => (show ρ1 33 = Value.bool _ from hR.2.1)) (fun ρ1 w1 hj hR => bk ar.out (aG (show ρ1 35 = Value.agg (List.toArray _) from hR.1) bo)) (fun w1 hj => hfo _ (hT.hp hj.hp)) ?_
          first | refine dS ?_ | refine dU ?_ | refine dG (cf ?_)
          first | refine dS ?_ | refine dU ?_ | refine dG (eL 0 [_,_,_] ?_)
          first | refine eO (i := 18) rfl (fun ρ1 w1 hj hR => (show ρ1 33 = Value.bool _ from hR.2.2.1)) (by decide) ?_ | refine dV (i := 18) rfl (fun ρ1 w1 hj hR => (show ρ1 33 = undef from hR.2.2.1)) ?_ | refine dz (i := 18) rfl (fun ρ1 w1 hj hR => (show ρ1 33 = Value.bool _ from hR.2.2.1)) (fun ρ1 w1 hj hR => iU (show ρ1 36 = Value.agg (List.toArray _) from hR.1) (show ρ1 38 = Value.agg (List.toArray _) from hR.2.1) (by first | assumption | rfl)) ?_ | refine dz (i := 18) rfl (fun ρ1 w1 hj hR => (show ρ1 33 = Value.bool _ from hR.2.2.1)) (fun ρ1 w1 hj hR => ja (show ρ1 36 = Value.agg (List.toArray _) from hR.1) (show ρ1 38 = Value.agg (List.toArray _) from hR.2.1) (by assumption)) ?_
          first | refine mm ?_ | refine ml ?_
          refine gB ?_
          first | refine dS ?_ | refine dU ?_ | refine dG (dH ?_)
          first | refine dS ?_ | refine dU ?_ | refine dG (pV ?_)
          first | refine dS ?_ | refine dU ?_ | refine dG (gB ?_)
          first | refine dS ?_ | refine dU ?_ | refine dG (cf ?_)
          first | refine dS ?_ | refine dU ?_ | refine dG (df 1 ?_)
          first | refine dS ?_ | refine dU ?_ | refine dG (dH ?_)
          first | refine dS ?_ | refine dU ?_ | refine dG (kG ?_)
          first | refine dS ?_ | refine dU ?_ | refine dG (hG (q) ?_)
          first | refine dS ?_ | refine dU ?_ | refine dG (kI ?_)
          first | refine dS ?_ | refine dU ?_ | refine dG (hH (fun _ hj => ((hr.ext hj.hp.below).recAt TR.len hp).cell (i := 0) rfl) ?_)
          first | refine dS ?_ | refine dU ?_ | refine dG (cf ?_)
          first | refine dS ?_ | refine dU ?_ | refine dG (df 0 ?_)
          refine a0 ?_
          intro f W hJ hV _
          have hb_8 := hJ.bl
          obtain ⟨v53, v52, v51, v50, v49, v48, v47, v46, v45, v44, v43, v42, v41, v40, v39, v38, v37, v36, v35, v34, v33, v32, v31, v30, v29, v28, v27, v26, v25, v24, v23, v22, v21, _⟩ := hV
          replace hh := hJ.hp
          refine aO (a4 (aa v53 (aa v52 (aa v51 (aa v50 (aa v49 (aa v48 (aa v47 (aa v46 (aa v45 (aa v44 (aa v43 (aa v42 (aa v41 (aa v40 (aa v39 (aa v38 (aa v37 (aa v36 (aa v35 (aa v34 (aa v33 (aa v32 (aa v31 (aa v30 (aa v29 (aa v28 (aa v27 (aa v26 (aa v25 (aa v24 (aa v23 (aa v22 (aa v21 aQ)))))))))))))))))))))))))))))))))) ?_
          dsimp only [bU]
          clear hJ
          first | refine gS ?_ | (refine gT ?_; refine eY rfl rfl (by decide) ?_) | refine gV ?_
          first | refine gS ?_ | (refine gT ?_; (first | refine cw ?_ | refine cx ?_)) | refine gV ?_
          first | refine cw ?_ | refine cx ?_
          refine ah ?_
          rw [hge]
          refine cF (al (aY (aj (aq ?_))))
          refine bF (mI (aE (aj ?_)))
          replace hh := hh.sub (List.Sublist.cons _ (List.Sublist.cons_cons _ List.Sublist.slnil))
          refine ⟨⟨i + 1, by omega, rfl, hall2, ?_, hh⟩, by show n - (i + 1) < n - i; omega, ?_⟩
          ·rw [hq, aM hp] at hris
           rw [aM hx, hq, aM hp, List.append_assoc]
           show ks (ts.take q ++ [p, x]) = true
           rw [lT, hris, hlp]
           rfl
          ·(repeat (first | exact ax _ _ _ | refine az rfl ?_ | refine aw rfl ?_))
       ·rw [hbad (jU hx (by unfold gl kb; rw [hm, decide_eq_false hz, Bool.eq_false_iff.2 (fun h => hnf ((jY x.c).1 h))]; rfl))]
        refine sr ?_
        refine aN (ah (ai (cT (al (aj (ai (ao (sr (mI ?_)))))))))
        refine aV (k := i) aF.out aC.size rfl rfl (by omega) (by omega) (by decide) ?_
        refine bK (vs := [_, _, _, _]) aC.out rfl ((hr.ext hh.below).recAt TR.len hx) rfl (by decide) ?_
        refine cm hh ?_
        intro b4 w4 hh
        refine aI ?_
        refine bE hh 0 [_,_,_,_] ?_
        intro ws hh
        replace hh : Hp _ (.blk _ _ [_, _, _, _] _ :: _) _ := hh
        refine ah (ai ?_)
        refine cH [] [] [0, 1, 0, 4, 15, 31, 63, 127, 255, 511, 1023, 2047, 4095, 8191, 16383, 32767, 8191, 73727, 262143, 524287, 1048575, 2097151, 4194303, 8388607, 16777215, 33554431, 16777215, 83886079, 268435455, 536870911, 1073741823, 16777215, 2164260863, 8589934591, 17179869183, 34359738367] 33 [[(4, none)], [(21, some 0)], [(1, none)], [(23, some 2)], [(22, some 1), (24, some 3)], [(25, some 4)], [(26, some 5)], [(4, none), (27, some 6)], [(28, some 7), (27, some 6)], [(29, some 8), (27, some 6)], [(30, some 9), (27, some 6)], [(27, some 6), (31, some 10)], [(32, some 11)], [(4, none), (33, some 12)], [(34, some 13), (33, some 12)], [(35, some 14), (33, some 12)], [(4, none), (33, some 12)], [(37, some 16), (33, some 12)], [(36, some 15), (38, some 17), (33, some 12)], [(33, some 12), (39, some 18)], [(40, some 19)], [(3, none), (41, some 20)], [(42, some 21), (41, some 20)], [(43, some 22), (41, some 20)], [(1, none), (44, some 23)], [(45, some 24), (44, some 23)], [(3, none), (44, some 23)], [(47, some 26), (44, some 23)], [(46, some 25), (48, some 27), (44, some 23)], [(49, some 28), (44, some 23)], [(50, some 29), (44, some 23)], [(4, none), (44, some 23)], [(52, some 31), (44, some 23)]] [(32, 53), (31, 52), (30, 51), (29, 50), (28, 49), (27, 48), (26, 47), (25, 46), (24, 45), (23, 44), (22, 43), (21, 42), (20, 41), (19, 40), (18, 39), (17, 38), (16, 37), (15, 36), (14, 35), (13, 34), (12, 33), (11, 32), (10, 31), (9, 30), (8, 29), (7, 28), (6, 27), (5, 26), (4, 25), (3, 24), (2, 23), (1, 22), (0, 21)] hh mixed (by kernel_rfl) cW rfl (by repeat (first | exact bS | refine bB ?_ | refine bR ?_)) ?_
        refine cf ?_
        refine df 0 ?_
        refine cf ?_
        refine df 1 ?_
        refine dC (fun _ hj => hmay _) ?_
        refine ov ?_
        refine gB ?_
        first | refine dS ?_ | refine dU ?_ | refine dG (cf ?_)
        first | refine dS ?_ | refine dU ?_ | refine dG (eL 0 [_,_,_] ?_)
        refine bG (i := 9) rfl (fun ρ1 w1 hj hR => (show ρ1 27 = Value.bool _ from hR.2.1)) (fun ρ1 w1 hj hR => bk ar.out (aG (show ρ1 29 = Value.agg (List.toArray _) from hR.1) bo)) (fun w1 hj => hsg _) ?_
        first | refine dS ?_ | refine dU ?_ | refine dG (jL ?_)
        first | refine mm ?_ | refine ml ?_
        refine gB ?_
        first | refine dS ?_ | refine dU ?_ | refine dG (cf ?_)
        first | refine dS ?_ | refine dU ?_ | refine dG (eL 0 [_,_,_] ?_)
        refine bG (i := 15) rfl (fun ρ1 w1 hj hR => (show ρ1 33 = Value.bool _ from hR.2.1)) (fun ρ1 w1 hj hR => bk ar.out (aG (show ρ1 35 = Value.agg (List.toArray _) from hR.1) bo)) (fun w1 hj => hfo _ (hT.hp hj.hp)) ?_
        first | refine dS ?_ | refine dU ?_ | refine dG (cf ?_)
        first | refine dS ?_ | refine dU ?_ | refine dG (eL 0 [_,_,_] ?_)
        first | refine eO (i := 18) rfl (fun ρ1 w1 hj hR => (show ρ1 33 = Value.bool _ from hR.2.2.1)) (by decide) ?_ | refine dV (i := 18) rfl (fun ρ1 w1 hj hR => (show ρ1 33 = undef from hR.2.2.1)) ?_ | refine dz (i := 18) rfl (fun ρ1 w1 hj hR => (show ρ1 33 = Value.bool _ from hR.2.2.1)) (fun ρ1 w1 hj hR => iU (show ρ1 36 = Value.agg (List.toArray _) from hR.1) (show ρ1 38 = Value.agg (List.toArray _) from hR.2.1) (by first | assumption | rfl)) ?_ | refine dz (i := 18) rfl (fun ρ1 w1 hj hR => (show ρ1 33 = Value.bool _ from hR.2.2.1)) (fun ρ1 w1 hj hR => ja (show ρ1 36 = Value.agg (List.toArray _) from hR.1) (show ρ1 38 = Value.agg (List.toArray _) from hR.2.1) (by assumption)) ?_
        first | refine mm ?_ | refine ml ?_
        refine gB ?_
        first | refine dS ?_ | refine dU ?_ | refine dG (dH ?_)
        first | refine dS ?_ | refine dU ?_ | refine dG (pV ?_)
        first | refine dS ?_ | refine dU ?_ | refine dG (gB ?_)
        first | refine dS ?_ | refine dU ?_ | refine dG (cf ?_)
        first | refine dS ?_ | refine dU ?_ | refine dG (df 1 ?_)
        first | refine dS ?_ | refine dU ?_ | refine dG (dH ?_)
        first | refine dS ?_ | refine dU ?_ | refine dG (kG ?_)
        first | refine eO (i := 28) rfl (fun ρ1 w1 hj hR => (show ρ1 44 = Value.bool _ from hR.2.2.1)) (by decide) ?_ | refine dV (i := 28) rfl (fun ρ1 w1 hj hR => (show ρ1 44 = undef from hR.2.2.1)) ?_ | refine dz (i := 28) rfl (fun ρ1 w1 hj hR => (show ρ1 44 = Value.bool _ from hR.2.2.1)) (fun ρ1 w1 hj hR => en aF.out aC.size (show ρ1 46 = Value.slice _ _ _ from hR.1) (show ρ1 48 = Value.int _ _ from hR.2.1) rfl (by omega)) ?_
        first | refine dS ?_ | refine dU ?_ | refine dG (kI ?_)
        first | refine dS ?_ | refine dU ?_ | refine dG (hH (fun _ hj => hT) ?_)
        first | refine dS ?_ | refine dU ?_ | refine dG (cf ?_)
        first | refine dS ?_ | refine dU ?_ | refine dG (df 0 ?_)
        refine a0 ?_
        intro f W hJ hV _
        have hb_8 := hJ.bl
        obtain ⟨v53, v52, v51, v50, v49, v48, v47, v46, v45, v44, v43, v42, v41, v40, v39, v38, v37, v36, v35, v34, v33, v32, v31, v30, v29, v28, v27, v26, v25, v24, v23, v22, v21, _⟩ := hV
        replace hh := hJ.hp
        refine aO (a4 (aa v53 (aa v52 (aa v51 (aa v50 (aa v49 (aa v48 (aa v47 (aa v46 (aa v45 (aa v44 (aa v43 (aa v42 (aa v41 (aa v40 (aa v39 (aa v38 (aa v37 (aa v36 (aa v35 (aa v34 (aa v33 (aa v32 (aa v31 (aa v30 (aa v29 (aa v28 (aa v27 (aa v26 (aa v25 (aa v24 (aa v23 (aa v22 (aa v21 aQ)))))))))))))))))))))))))))))))))) ?_
        dsimp only [bU]
        clear hJ
        first | refine gS ?_ | (refine gT ?_; refine eY rfl rfl (by decide) ?_) | refine gV ?_
        first | refine gS ?_ | (refine gT ?_; (first | refine cw ?_ | refine cx ?_)) | refine gV ?_
        first | refine cw ?_ | refine cx ?_
        refine ah (cT (sr (aI (ah (an (bA (aA (aA (bA (aA ?_))))))))))
        refine cb ?_
        exact ⟨rfl, hh.below⟩
    ·rw [List.take_of_length_le (by omega)] at hall hris
     rw [show gF v ts = 0 by unfold gF okB; rw [if_neg (by rw [hf]; decide), if_neg (by omega), hall, hris]; rfl]
     refine sr ?_
     refine aN (ah (ai (cF ?_)))
     refine aU ?_
     refine ay (ay (a7 (aj (sr (aI (ah (an ?_)))))))
     refine cb ?_
     exact ⟨rfl, hh.below⟩
end Go.Proofs.YtkgdagjklakajaaGreatDoor
/- The walks through poly.Make. -/
namespace Go.Proofs.YtkgdagjklakajaaGreatDoor
open Go.RowKit
def kv (v : Int) (t : TR) : Bool := eE t.m.data.toList && decide ((t.m.size : Int) = v)
theorem rA (z : TR) (v : Int) (b : Nat) (w : World) (hp : w.cell? ⟨b, 0, none⟩ = some (.int .i64 v)) (hz : z.m.size ≤ 100000) : Calls Tryz.prog 91 #[.agg #[.string z.m, .bool z.c.neg, .string z.c.bT, .int .i64 z.c.e], .pointer (some ⟨b, 0, none⟩)] w fun r w' => r = .returned (.bool (!kv v z)) ∧ Below w.heap.size w w' := by
 have hh := Hp.start w
 have hmay := fun w1 => ix z.m v w1 (by omega)
 unfold kv
 refine ak (N := 9) (l := [.agg #[.string z.m, .bool z.c.neg, .string z.c.bT, .int .i64 z.c.e], .pointer (some ⟨b, 0, none⟩)]) Tryz.func91 rfl rfl (by simp) ?_
 refine sr ?_
 refine cN hh [_,_,_,_] ?_
 intro b2 w2 hh
 refine aB (ah (sr (bI ?_)))
 refine bL hh 0 ?_
 refine bu aC.out rfl (cD hh.below hp) (by decide) ?_
 refine bz hh (hmay _) rfl ?_
 intro w7 hh
 cases eE z.m.data.toList && decide ((z.m.size : Int) = v) with
 | false =>
  refine eF ?_
  refine aB (ah (an ?_))
  refine cb ?_
  exact ⟨rfl, hh.below⟩
 | true =>
  refine eF ?_
  refine aB (ah (an ?_))
  refine cb ?_
  exact ⟨rfl, hh.below⟩
theorem n9 (A : Option Addr) (n c : Nat) (l : List TR) (v : Int) (b : Nat) (w : World) (hS : Sl w A n 4 (a5 TR.cells l)) (hn : n ≤ 1000000) (hp : w.cell? ⟨b, 0, none⟩ = some (.int .i64 v)) (hz : ∀ t ∈ l, t.m.size ≤ 100000) :
  Calls Tryz.prog 90 #[.slice A n c, .func (.func 91) #[] #[.pointer (some ⟨b, 0, none⟩)]] w fun r w' => r = .returned (.bool (l.any fun t => !kv v t)) ∧ Below w.heap.size w w' :=
 sY A n c l 91 [.pointer (some ⟨b, 0, none⟩)] (fun t => !kv v t) w hS hn fun z w1 hz2 hb => rA z v b w1 (cD hb hp) (hz z hz2)
def kW (v : Int) (l : List TR) : Int := if gm v = false ∨ (l.any fun t => !kv v t) = true then 1 else if 65536 < l.length then 3 else hF l
theorem jD (v : Int) (A : Option Addr) (n c : Nat) (l : List TR) (k : Nat) (w : World) (hT : g9 w) (hS : Sl w A n 4 (a5 TR.cells l)) (hn : n ≤ 1000000) (hk : k ≤ 2999980) (ho : iS k l) (hz : ∀ t ∈ l, t.m.size ≤ 100000) :
  Calls Tryz.prog 18 #[.int .i64 v, .slice A n c] w fun r w' => ∃ g : PX, cV (kW v l) v (bg l) g ∧ r = .returned (.tuple #[.agg #[.int .i64 g.v, .slice g.A g.n g.c], .int .i64 (kW v l)]) ∧ Hp w [g.row] w' := by
 have hh := Hp.start w
 have hln := hS.bX TR.len (by decide)
 have hfw := fun w1 => j7 v w1
 have han := fun b w1 hb hp => n9 A n c l v b w1 (hS.ext hb) hn hp hz
 cases hf : gm v with
 | false =>
  rw [hf] at hfw
  rw [show kW v l = 1 by unfold kW; rw [if_pos (.inl hf)]]
  refine ak (N := 25) (l := [.int .i64 v, .slice A n c]) Tryz.func18 rfl rfl (by simp) ?_
  refine sr ?_
  refine cN hh [_] ?_
  intro b2 w2 hh
  refine cm hh ?_
  intro b4 w4 hh
  refine aI (ah (ai (sr ?_)))
  refine bL hh 1 ?_
  refine bz hh (hfw _) rfl ?_
  intro w7 hh
  refine eF ?_
  refine mB ?_
  first | refine gS ?_ | (refine gT ?_; refine mL ?_) | refine gV ?_
  first | refine gS ?_ | (refine gT ?_; refine fx rfl (aG (ky rfl) bo) (by decide) ?_) | refine gV ?_
  refine bV (by decide) rfl rfl (by decide) ?_
  first | refine cw ?_ | refine cx ?_
  refine ah (cT (sr ?_))
  refine eh [_,_] ?_
  refine bE hh 0 [_,_] ?_
  intro ws hh
  replace hh : Hp _ (.blk _ _ [_, _] _ :: _) _ := hh
  refine aI (ah (an (aA ?_)))
  refine iL (aH rfl (aK (vs := [_, _]) aC.out (hh.au (i := 0) (n := 2) rfl rfl) rfl) (bZ (cv rfl) a6)) ?_
  exact ⟨PX.nil, cV.err (by decide), rfl, (hh.sub (List.nil_sublist _)).gd⟩
 | true =>
  rw [hf] at hfw
  cases ha : l.any fun t => !kv v t with
  | true =>
   rw [ha] at han
   rw [show kW v l = 1 by unfold kW; rw [if_pos (.inr ha)]]
   refine ak (N := 25) (l := [.int .i64 v, .slice A n c]) Tryz.func18 rfl rfl (by simp) ?_
   refine sr ?_
   refine cN hh [_] ?_
   intro b2 w2 hh
   refine cm hh ?_
   intro b4 w4 hh
   refine aI (ah (ai (sr ?_)))
   refine bL hh 1 ?_
   refine bz hh (hfw _) rfl ?_
   intro w7 hh
   refine eF ?_
   refine mB ?_
   first | refine gS ?_ | (refine gT ?_; refine mL ?_) | refine gV ?_
   first | refine gS ?_ | (refine gT ?_; refine fx rfl (aG (ky rfl) bo) (by decide) ?_) | refine gV ?_
   refine a8 rfl rfl ?_
   refine bz hh (han _ _ hh.below (hh.iF (i := 1) (o := 0) rfl rfl)) rfl ?_
   intro w12 hh
   first | refine cw ?_ | refine cx ?_
   refine ah (cT (sr ?_))
   refine eh [_,_] ?_
   refine bE hh 0 [_,_] ?_
   intro ws hh
   replace hh : Hp _ (.blk _ _ [_, _] _ :: _) _ := hh
   refine aI (ah (an (aA ?_)))
   refine iL (aH rfl (aK (vs := [_, _]) aC.out (hh.au (i := 0) (n := 2) rfl rfl) rfl) (bZ (cv rfl) a6)) ?_
   exact ⟨PX.nil, cV.err (by decide), rfl, (hh.sub (List.nil_sublist _)).gd⟩
  | false =>
   rw [ha] at han
   have e1 : kW v l = if 65536 < l.length then 3 else hF l := by unfold kW; rw [if_neg (by rw [hf, ha]; decide)]
   by_cases h6 : 65536 < n
   ·rw [e1, if_pos (by omega)]
    refine ak (N := 25) (l := [.int .i64 v, .slice A n c]) Tryz.func18 rfl rfl (by simp) ?_
    refine sr ?_
    refine cN hh [_] ?_
    intro b2 w2 hh
    refine cm hh ?_
    intro b4 w4 hh
    refine aI (ah (ai (sr ?_)))
    refine bL hh 1 ?_
    refine bz hh (hfw _) rfl ?_
    intro w7 hh
    refine eF ?_
    refine mB ?_
    first | refine gS ?_ | (refine gT ?_; refine mL ?_) | refine gV ?_
    first | refine gS ?_ | (refine gT ?_; refine fx rfl (aG (ky rfl) bo) (by decide) ?_) | refine gV ?_
    refine a8 rfl rfl ?_
    refine bz hh (han _ _ hh.below (hh.iF (i := 1) (o := 0) rfl rfl)) rfl ?_
    intro w12 hh
    first | refine cw ?_ | refine cx ?_
    refine ah (cF (al (aj (ai (sr (mL (aW ?_)))))))
    refine bO (ah (cT (sr ?_)))
    refine eh [_,_] ?_
    refine bE hh 0 [_,_] ?_
    intro ws hh
    replace hh : Hp _ (.blk _ _ [_, _] _ :: _) _ := hh
    refine aI (ah (an (aA ?_)))
    refine iL (aH rfl (aK (vs := [_, _]) aC.out (hh.au (i := 0) (n := 2) rfl rfl) rfl) (bZ (cv rfl) a6)) ?_
    exact ⟨PX.nil, cV.err (by decide), rfl, (hh.sub (List.nil_sublist _)).gd⟩
   ·rw [e1, if_neg (by omega)]
    refine ak (N := 25) (l := [.int .i64 v, .slice A n c]) Tryz.func18 rfl rfl (by simp) ?_
    refine sr ?_
    refine cN hh [_] ?_
    intro b2 w2 hh
    refine cm hh ?_
    intro b4 w4 hh
    refine aI (ah (ai (sr ?_)))
    refine bL hh 1 ?_
    refine bz hh (hfw _) rfl ?_
    intro w7 hh
    refine eF ?_
    refine mB ?_
    first | refine gS ?_ | (refine gT ?_; refine mL ?_) | refine gV ?_
    first | refine gS ?_ | (refine gT ?_; refine fx rfl (aG (ky rfl) bo) (by decide) ?_) | refine gV ?_
    refine a8 rfl rfl ?_
    refine bz hh (han _ _ hh.below (hh.iF (i := 1) (o := 0) rfl rfl)) rfl ?_
    intro w12 hh
    first | refine cw ?_ | refine cx ?_
    refine ah (cF (al (aj (ai (sr (mL (aW ?_)))))))
    refine bO (ah (cF (al (aj (ai ?_)))))
    refine iC [] [0, 0, 2, 7, 15, 15, 63, 127] 3 [[(2, none)], [(1, none)], [(20, some 1)]] [(2, 21), (1, 20), (0, 19)] [([], 4, [(2, 21), (1, 20), (0, 19)])] hh mixed (by kernel_rfl) (by kernel_rfl) (by decide) ?_
    refine df 1 ?_
    refine fp ?_
    refine bP (i := 2) (n7 hh.sz 58 n 4 (a5 TR.cells l)) (n7.ext) ?_ ?_
    ·intro ρ1 w1 hj hR
     exact dn rfl (bk ar.out (aG (show ρ1 20 = Value.slice _ _ _ from hR.1) bo)) (k6 A n c l w1 (hS.ext hj.hp.below) hn) (fun _ _ ⟨A, c, hq, ho, hb⟩ => ⟨_, hq, hb, A, c, rfl, nW ho hj.bl.size⟩)
    refine a0 ?_
    intro p_ hp_
    simp only [List.mem_cons, List.not_mem_nil, or_false] at hp_
    rcases hp_ with rfl
    intro f W hJ hV
    have hb_5 := hJ.bl
    obtain ⟨v21, v20, v19, _⟩ := hV
    simp only [iX]
    have e19 : f 0 = _ := v19
    rw [e19]
    have e20 : f 1 = _ := v20
    rw [e20]
    obtain ⟨A21, c21, e21, o21⟩ : n7 _ _ _ _ _ (f 2) W := v21
    rw [e21]
    replace hh := JJ.wF hh hJ.hp o21
    clear o21
    clear e19 e20 e21 hJ
    refine aP (jt v A21 n c21 l k _ hT hh hln (by omega) (by omega) ho) ar.out rfl (by decide) ?_; rintro e_ w22 ⟨g, og, rfl, hh⟩; refine ⟨_, rfl, ?_⟩
    refine cA ?_
    refine cq (i := 4) (by repeat (first | exact bS | refine bB ?_ | refine bR ?_ | refine np_scope ?_)) rfl (by kernel_rfl) (by kernel_rfl) (by kernel_rfl) (fun _ => cR (show _ = Value.tuple (List.toArray _) from rfl) rfl) (by decide) ?_
    refine cq (i := 5) (by repeat (first | exact bS | refine bB ?_ | refine bR ?_ | refine np_scope ?_)) rfl (by kernel_rfl) (by kernel_rfl) (by kernel_rfl) (fun _ => cR (show _ = Value.tuple (List.toArray _) from rfl) rfl) (by decide) ?_
    refine dP 6 (by decide) (by kernel_rfl) (by decide) (by kernel_rfl) (by kernel_rfl) ?_
    refine bE hh 1 [_,_] ?_
    intro ws hh
    replace hh : Hp _ (_ :: .blk _ _ [_, _] _ :: _) _ := hh
    refine aI (ah (an ?_))
    refine iL (aH rfl (aK (vs := [_, _]) aC.out (hh.au (i := 1) (n := 2) rfl rfl) rfl) (bZ (cv rfl) a6)) ?_
    exact ⟨g, og, rfl, hh.sub (List.Sublist.cons_cons _ (List.nil_sublist _))⟩
end Go.Proofs.YtkgdagjklakajaaGreatDoor
/- The walk through poly.like. -/
namespace Go.Proofs.YtkgdagjklakajaaGreatDoor
open Go.RowKit
def PX.cells (g : PX) : List Value := [.int .i64 g.v, .slice g.A g.n g.c]
theorem PX.len (g : PX) : (PX.cells g).length = 2 := rfl
structure PX.mw (g : PX) (k : Nat) : Prop where
 n : g.n ≤ 1000000
 cap : g.n ≤ g.c
 ok : iS k g.ts
 sz : ∀ t ∈ g.ts, t.m.size ≤ 100000
def PX.e (g : PX) : Int := gF g.v g.ts
theorem pH (g : PX) (k : Nat) (w : World) (hT : g9 w) (h : g.at_ w) (hl : g.mw k) :
  Calls Tryz.prog 21 #[.agg #[.int .i64 g.v, .slice g.A g.n g.c]] w fun r w' => r = .returned (.int .i64 g.e) ∧ Below w.heap.size w w' :=
 qb g.v g.A g.n g.c g.ts w hT h hl.n fun t ht => ⟨(hl.ok t ht).1, hl.sz t ht⟩
def qm (ps : List PX) : Bool := ps.any fun g => decide (g.v ≠ (ps.map PX.v).headD 0)
def fV (ps : List PX) : Int := match ps.find? (fun g => decide (g.e ≠ 0)) with | some g => g.e | none => if ps.length = 0 ∨ qm ps = true then 1 else 0
theorem sT (L : Option Addr) (n c : Nat) (ps : List PX) (f : PX) (p : Addr) (w : World) (hL : Sl w L n 2 (a5 PX.cells ps)) (hp : w.cell? p = some (.slice L n c)) (hn : 0 < n) :
  Calls Tryz.prog 174 #[.agg #[.int .i64 f.v, .slice f.A f.n f.c], .pointer (some p)] w fun r w' => r = .returned (.bool (decide (f.v ≠ (ps.map PX.v).headD 0))) ∧ Below w.heap.size w w' := by
 have hh := Hp.start w
 have hln := hL.bX PX.len (by decide)
 obtain ⟨g, ps, rfl⟩ : ∃ g l, ps = g :: l := by
  cases ps with
  | nil => exact absurd hln (by show ¬ 0 = n; omega)
  | cons g l => exact ⟨g, l, rfl⟩
 obtain ⟨ad, rfl, hr⟩ := hL.at_ hn
 have hd : (((g :: ps).map PX.v).headD 0) = g.v := rfl
 rw [hd]
 have h0 : (g :: ps)[0]? = some g := rfl
 by_cases hg : f.v = g.v
 ·refine ak (N := 11) (l := [.agg #[.int .i64 f.v, .slice f.A f.n f.c], .pointer (some p)]) Tryz.func174 rfl rfl (by simp) ?_
  refine sr ?_
  refine cN hh [_,_] ?_
  intro b2 w2 hh
  refine aB (ah (ai ?_))
  refine aR 6 [[(2, none)], [(4, some 0)], [(1, none)], [(6, some 2)], [(7, some 3)], [(8, some 4)]] [(5, 9), (4, 8), (3, 7), (2, 6), (1, 5), (0, 4)] hh mixed (by kernel_rfl) ?_
  refine cf ?_
  refine df 0 ?_
  refine hH (fun _ hj => (hj.hp.below.cell (pE hp)).trans hp) ?_
  refine bh (i := 3) (fun ρ1 w1 hj hR => cS aF.out aC.size (show ρ1 6 = Value.slice _ _ _ from hR.1) rfl (by omega) (by omega)) ?_
  refine kI ?_
  refine hH (fun _ hj => cD hj.hp.below (((hr.recAt PX.len h0)) 0 _ rfl)) ?_
  refine a0 ?_
  intro f W hJ hV
  have hb_1 := hJ.bl
  obtain ⟨v9, v8, v7, v6, v5, v4, _⟩ := hV
  replace hh := hJ.hp
  refine aO (a4 (aa v9 (aa v8 (aa v7 (aa v6 (aa v5 (aa v4 aQ))))))) ?_
  dsimp only [bU]
  clear hJ
  refine dQ (aB (ah (an ?_)))
  refine cb ?_
  exact ⟨by rw [decide_eq_false (by omega)], hh.below⟩
 ·refine ak (N := 11) (l := [.agg #[.int .i64 f.v, .slice f.A f.n f.c], .pointer (some p)]) Tryz.func174 rfl rfl (by simp) ?_
  refine sr ?_
  refine cN hh [_,_] ?_
  intro b2 w2 hh
  refine aB (ah (ai ?_))
  refine aR 6 [[(2, none)], [(4, some 0)], [(1, none)], [(6, some 2)], [(7, some 3)], [(8, some 4)]] [(5, 9), (4, 8), (3, 7), (2, 6), (1, 5), (0, 4)] hh mixed (by kernel_rfl) ?_
  refine cf ?_
  refine df 0 ?_
  refine hH (fun _ hj => (hj.hp.below.cell (pE hp)).trans hp) ?_
  refine bh (i := 3) (fun ρ1 w1 hj hR => cS aF.out aC.size (show ρ1 6 = Value.slice _ _ _ from hR.1) rfl (by omega) (by omega)) ?_
  refine kI ?_
  refine hH (fun _ hj => cD hj.hp.below (((hr.recAt PX.len h0)) 0 _ rfl)) ?_
  refine a0 ?_
  intro f W hJ hV
  have hb_1 := hJ.bl
  obtain ⟨v9, v8, v7, v6, v5, v4, _⟩ := hV
  replace hh := hJ.hp
  refine aO (a4 (aa v9 (aa v8 (aa v7 (aa v6 (aa v5 (aa v4 aQ))))))) ?_
  dsimp only [bU]
  clear hJ
  refine dQ (aB (ah (an ?_)))
  refine cb ?_
  exact ⟨by rw [decide_eq_true hg], hh.below⟩
theorem s8 (A : Option Addr) (n c : Nat) (l : List PX) (g : FuncId) (cap : List Value) (p : PX → Bool) (w : World) (hS : Sl w A n 2 (a5 PX.cells l)) (hn : n ≤ 1000000) [ar Tryz.prog g]
  (hg : ∀ (z : PX) (w1 : World), z ∈ l → Below w.heap.size w w1 → Calls Tryz.prog g (.agg #[.int .i64 z.v, .slice z.A z.n z.c] :: cap).toArray w1 fun r w' => r = .returned (.bool (p z)) ∧ Below w1.heap.size w1 w') :
  Calls Tryz.prog 180 #[.slice A n c, .func (.func g) #[] cap.toArray] w fun r w' => ∃ v, r = .returned (.int .i64 v) ∧ (0 ≤ v ↔ l.any p = true) ∧ Below w.heap.size w w' := by
 have hh := Hp.start w
 have hln := hS.bX PX.len (by decide)
 refine ak (N := 19) (l := [.slice A n c, .func (.func g) #[] cap.toArray]) Tryz.func180 rfl rfl (by simp) ?_
 refine sr (aI (ah (ai (sr (mL (aW (mI (ah (ao ?_)))))))))
 refine bp [4, 5, 8, 9, 10, 11, 12, 13, 14, 15, 16, 17, 18] 8
  (fun v w' => ∃ i : Nat, i ≤ n ∧ v = .int .i64 i ∧ (l.take i).any p = false ∧ Hp w [] w')
  (fun v _ => n - (intOf v).toNat) ?_ ?_
 ·exact ⟨0, Nat.zero_le _, rfl, rfl, hh⟩
 ·clear hh
  rintro ρ' v w' ⟨i, hi, rfl, hall, hh⟩
  by_cases hlt : i < n
  ·obtain ⟨z, hz⟩ := aD (l := l) (k := i) (by omega)
   obtain ⟨ad, rfl, hr⟩ := hS.at_ (by omega)
   have hc := fun w1 => hg z w1 (List.mem_of_getElem? hz)
   cases gz : p z with
   | true =>
    rw [gz] at hc
    refine sr ?_
    refine aN (ah (ai (cT (al (aj (ai (ao (sr (mI (aI (ah ?_)))))))))))
    refine sr ?_
    refine fK (by first | exact gE rfl | exact ev_nilf rfl) (by decide) ?_
    refine mL (mI ?_)
    refine aV (k := i) aF.out aC.size rfl rfl (by omega) (by omega) (by decide) ?_
    refine bK (vs := [_, _]) aC.out rfl ((hr.ext hh.below).recAt PX.len hz) rfl (by decide) ?_
    refine fu (hc _ hh.below) ar.out rfl rfl (by decide) ?_
    rintro e_ w16 ⟨rfl, hb_⟩
    refine ⟨_, rfl, ?_⟩
    replace hh := hh.ext hb_
    refine ah (cT (sr (mI (aI (ah (an (bA (aA (aA (bA (aA ?_)))))))))))
    refine cb ?_
    exact ⟨_, rfl, ⟨fun _ => List.any_eq_true.2 ⟨z, List.mem_of_getElem? hz, gz⟩, fun _ => by omega⟩, hh.below⟩
   | false =>
    rw [gz] at hc
    refine sr ?_
    refine aN (ah (ai (cT (al (aj (ai (ao (sr (mI (aI (ah ?_)))))))))))
    refine sr ?_
    refine fK (by first | exact gE rfl | exact ev_nilf rfl) (by decide) ?_
    refine mL (mI ?_)
    refine aV (k := i) aF.out aC.size rfl rfl (by omega) (by omega) (by decide) ?_
    refine bK (vs := [_, _]) aC.out rfl ((hr.ext hh.below).recAt PX.len hz) rfl (by decide) ?_
    refine fu (hc _ hh.below) ar.out rfl rfl (by decide) ?_
    rintro e_ w16 ⟨rfl, hb_⟩
    refine ⟨_, rfl, ?_⟩
    replace hh := hh.ext hb_
    refine ah (cF (al (aY (aj (aq ?_)))))
    refine bF (mI (aE (aj ?_)))
    refine ⟨⟨i + 1, by omega, rfl, by rw [aM hz, List.any_append, hall, List.any_cons, List.any_nil, gz]; rfl, hh⟩, by show n - (i + 1) < n - i; omega, ?_⟩
    (repeat (first | exact ax _ _ _ | refine az rfl ?_ | refine aw rfl ?_))
  ·rw [List.take_of_length_le (by omega)] at hall
   refine sr ?_
   refine aN (ah (ai (cF ?_)))
   refine aU ?_
   refine ay (ay (a7 (aj (sr (aI (ah (an ?_)))))))
   refine cb ?_
   exact ⟨_, rfl, ⟨fun h => absurd h (by decide), fun h => by rw [hall] at h; cases h⟩, hh.below⟩
theorem so (A : Option Addr) (n c : Nat) (l : List PX) (g : FuncId) (cap : List Value) (p : PX → Bool) (w : World) (hS : Sl w A n 2 (a5 PX.cells l)) (hn : n ≤ 1000000) [ar Tryz.prog g]
  (hg : ∀ (z : PX) (w1 : World), z ∈ l → Below w.heap.size w w1 → Calls Tryz.prog g (.agg #[.int .i64 z.v, .slice z.A z.n z.c] :: cap).toArray w1 fun r w' => r = .returned (.bool (p z)) ∧ Below w1.heap.size w1 w') :
  Calls Tryz.prog 119 #[.slice A n c, .func (.func g) #[] cap.toArray] w fun r w' => r = .returned (.bool (l.any p)) ∧ Below w.heap.size w w' := by
 have hh := Hp.start w
 refine ak (N := 9) (l := [.slice A n c, .func (.func g) #[] cap.toArray]) Tryz.func119 rfl rfl (by simp) ?_
 refine sr (aB (ah (sr (mL ?_))))
 refine fK (by first | exact gE rfl | exact ev_nilf rfl) (by decide) ?_
 refine aP (s8 A n c l g cap p _ (hS.ext hh.below) hn hg) ar.out rfl (by decide) ?_
 rintro e_ w7 ⟨v_, rfl, hv_, hb_⟩
 refine ⟨_, rfl, ?_⟩
 replace hh := hh.ext hb_
 cases ga : l.any p with
 | true =>
  have h0 := hv_.2 ga
  refine dw (aB (ah (an ?_)))
  refine cb ?_
  exact ⟨rfl, hh.below⟩
 | false =>
  have h0 : ¬ 0 ≤ v_ := fun h => by rw [hv_.1 h] at ga; cases ga
  refine dw (aB (ah (an ?_)))
  refine cb ?_
  exact ⟨rfl, hh.below⟩
theorem md (L : Option Addr) (n c : Nat) (ps : List PX) (k : Nat) (w : World) (hT : g9 w) (hL : Sl w L n 2 (a5 PX.cells ps)) (hn : n ≤ 1000000) (hf : ∀ g ∈ ps, g.at_ w) (hl : ∀ g ∈ ps, g.mw k) :
  Calls Tryz.prog 103 #[.slice L n c] w fun r w' => r = .returned (.int .i64 (fV ps)) ∧ Below w.heap.size w w' := by
 have hh := Hp.start w
 have hln := hL.bX PX.len (by decide)
 refine ak (N := 26) (l := [.slice L n c]) Tryz.func103 rfl rfl (by simp) ?_
 refine sr ?_
 refine cN hh [_] ?_
 intro b1 w1 hh
 refine aI (ah (ai (sr ?_)))
 refine bL hh 0 ?_
 refine aW (mI (ah (ao ?_)))
 refine bp [2, 4, 5, 8, 9, 10, 11, 12, 13, 14, 15, 16, 17] 8
  (fun v w' => ∃ i : Nat, i ≤ n ∧ v = .int .i64 i ∧ (ps.take i).any (fun g => decide (g.e ≠ 0)) = false ∧ Hp w [.blk b1 45 [.slice L n c] (0, 0)] w')
  (fun v _ => n - (intOf v).toNat) ?_ ?_
 ·exact ⟨0, Nat.zero_le _, rfl, rfl, hh⟩
 ·clear hh
  rintro ρ' v w' ⟨i, hi, rfl, hall, hh⟩
  by_cases hlt : i < n
  ·obtain ⟨g, hx⟩ := aD (l := ps) (k := i) (by omega)
   have hmem := List.mem_of_getElem? hx
   have hc := fun w1 hT1 hb => pH g k w1 hT1 ((hf g hmem).ext hb) (hl g hmem)
   obtain ⟨ad, rfl, hr⟩ := hL.at_ (by omega)
   by_cases he : g.e = 0
   ·refine sr ?_
    refine aN (ah (ai (cT (al (aj (ai (ao (sr ?_))))))))
    refine aV (k := i) aF.out aC.size rfl rfl (by omega) (by omega) (by decide) ?_
    refine bK (vs := [_, _]) aC.out rfl ((hr.ext hh.below).recAt PX.len hx) rfl (by decide) ?_
    refine cm hh ?_
    intro b4 w4 hh
    refine bE hh 0 [_,_] ?_
    intro ws hh
    replace hh : Hp _ (.blk _ _ [_, _] _ :: _) _ := hh
    refine ah (sr ?_)
    refine dx hh 0 [_,_] ?_
    refine bz hh (hc _ (hT.hp hh) hh.below) rfl ?_
    intro w13 hh
    refine aI (ah (sr (mI ?_)))
    refine dQ (ah (cF (al (aY (aj (aq ?_))))))
    refine bF (mI (aE (aj ?_)))
    replace hh := hh.sub (List.Sublist.cons _ (List.Sublist.cons_cons _ List.Sublist.slnil))
    refine ⟨⟨i + 1, by omega, rfl, by rw [aM hx, List.any_append, hall, List.any_cons, List.any_nil, decide_eq_false (by omega)]; rfl, hh⟩, by show n - (i + 1) < n - i; omega, ?_⟩
    (repeat (first | exact ax _ _ _ | refine az rfl ?_ | refine aw rfl ?_))
   ·refine sr ?_
    refine aN (ah (ai (cT (al (aj (ai (ao (sr ?_))))))))
    refine aV (k := i) aF.out aC.size rfl rfl (by omega) (by omega) (by decide) ?_
    refine bK (vs := [_, _]) aC.out rfl ((hr.ext hh.below).recAt PX.len hx) rfl (by decide) ?_
    refine cm hh ?_
    intro b4 w4 hh
    refine bE hh 0 [_,_] ?_
    intro ws hh
    replace hh : Hp _ (.blk _ _ [_, _] _ :: _) _ := hh
    refine ah (sr ?_)
    refine dx hh 0 [_,_] ?_
    refine bz hh (hc _ (hT.hp hh) hh.below) rfl ?_
    intro w13 hh
    refine aI (ah (sr (mI ?_)))
    refine dQ (ah (cT (sr (mI (aI (ah (an (bA (aA (aA (bA ?_)))))))))))
    refine aA ?_
    refine cb ?_
    refine ⟨?_, hh.below⟩
    unfold fV
    rw [oN hall hx (decide_eq_true he)]
  ·rw [List.take_of_length_le (by omega)] at hall
   have hlk : fV ps = if ps.length = 0 ∨ qm ps = true then 1 else 0 := by unfold fV; rw [gJ hall]
   rw [hlk]
   by_cases h0 : n = 0
   ·refine sr ?_
    refine aN (ah (ai (cF ?_)))
    refine aU ?_
    refine ay (ay (a7 (aj (ai (sr ?_)))))
    refine bL hh 0 ?_
    refine aW ?_
    refine dv (mB ?_)
    first | refine gS ?_ | (refine gT ?_; refine bL hh 0 ?_) | refine gV ?_
    first | refine gS ?_ | (refine gT ?_; refine fx rfl (aG (ky rfl) bo) (by decide) ?_) | refine gV ?_
    refine bV (by decide) rfl rfl (by decide) ?_
    first | refine cw ?_ | refine cx ?_
    refine ah (cT (sr (aI (ah (an (aA ?_))))))
    refine cb ?_
    exact ⟨by rw [if_pos (.inl (by omega))], hh.below⟩
   ·have hcell : w'.cell? ⟨b1, 0, none⟩ = some (.slice L n c) := hh.iF (i := 0) rfl rfl
    have ho := fun w1 hb => so L n c ps 174 [.pointer (some ⟨b1, 0, none⟩)] (fun g => decide (g.v ≠ (ps.map PX.v).headD 0)) w1 (hL.ext (hh.below.trans (hb.mono hh.below.size))) hn (fun z w2 hz hb2 => sT L n c ps z ⟨b1, 0, none⟩ w2 ((hL.ext (hh.below.trans (hb.mono hh.below.size))).ext hb2) (cD hb2 (cD hb hcell)) (by omega))
    cases hod : qm ps with
    | true =>
     have hod2 : ps.any (fun g => decide (g.v ≠ (ps.map PX.v).headD 0)) = true := hod
     rw [hod2] at ho
     refine sr ?_
     refine aN (ah (ai (cF ?_)))
     refine aU ?_
     refine ay (ay (a7 (aj (ai (sr ?_)))))
     refine bL hh 0 ?_
     refine aW ?_
     refine dv (mB ?_)
     first | refine gS ?_ | (refine gT ?_; refine bL hh 0 ?_) | refine gV ?_
     first | refine gS ?_ | (refine gT ?_; refine fx rfl (aG (ky rfl) bo) (by decide) ?_) | refine gV ?_
     refine a8 rfl rfl ?_
     refine bz hh (ho _ (Below.refl _ _)) rfl ?_
     intro w24 hh
     first | refine cw ?_ | refine cx ?_
     refine ah (cT (sr (aI (ah (an (aA ?_))))))
     refine cb ?_
     exact ⟨by rw [if_pos (.inr rfl)], hh.below⟩
    | false =>
     have hod2 : ps.any (fun g => decide (g.v ≠ (ps.map PX.v).headD 0)) = false := hod
     rw [hod2] at ho
     refine sr ?_
     refine aN (ah (ai (cF ?_)))
     refine aU ?_
     refine ay (ay (a7 (aj (ai (sr ?_)))))
     refine bL hh 0 ?_
     refine aW ?_
     refine dv (mB ?_)
     first | refine gS ?_ | (refine gT ?_; refine bL hh 0 ?_) | refine gV ?_
     first | refine gS ?_ | (refine gT ?_; refine fx rfl (aG (ky rfl) bo) (by decide) ?_) | refine gV ?_
     refine a8 rfl rfl ?_
     refine bz hh (ho _ (Below.refl _ _)) rfl ?_
     intro w24 hh
     first | refine cw ?_ | refine cx ?_
     refine ah (cF (al (aj (sr (aI (ah (an ?_)))))))
     refine cb ?_
     refine ⟨?_, hh.below⟩
     rw [if_neg]
     rintro (h | h)
     ·omega
     ·cases h
end Go.Proofs.YtkgdagjklakajaaGreatDoor
/- Arguments opened: terms, polynomials. -/
namespace Go.Proofs.YtkgdagjklakajaaGreatDoor
open Go.ChangeShapes Go.WideShapes Go.ChangeAt Go.RowKit Go.ChangeMaps
set_option maxRecDepth 100000 in
theorem tF {H : Type} {enc : TypeId × Value → H} {W : World} {base fuel : Nat} {sp : Nat → Bool} {held : Bool} {cs : List Value} {x : DataW H × List MemPlace} (h : DataW.trod enc Tryz.prog W base sp held fuel 58 cs = some x) :
  ∃ t : TR, cs = t.cells ∧ True := by
 have c0 : Tryz.prog.cellsOf 58 = 4 := by kernel_rfl
 have c1 : Tryz.prog.cellsOf 9 = 1 := by kernel_rfl
 have c2 : Tryz.prog.cellsOf 26 = 3 := by kernel_rfl
 obtain ⟨y0, y1, n, _, hl, h0, h1⟩ := trod_struct2 Tryz.underlying58 h
 obtain ⟨s, e0, _, _⟩ := DataW.trod_string Tryz.underlying9 h0
 obtain ⟨a, e1, _⟩ := uL h1
 rw [c0] at hl
 match cs, hl with
 | [x0, x1, x2, x3], _ =>
  simp only [c1, c2] at e0 e1
  unfold NR.cells at e1
  simp at e0 e1
  obtain ⟨e1, e2, e3⟩ := e1
  subst e0 e1 e2 e3
  exact ⟨⟨s, a⟩, rfl, trivial⟩
set_option maxRecDepth 100000 in
theorem tj {H : Type} {enc : TypeId × Value → H} {W : World} {base fuel : Nat} {sp : Nat → Bool} {held : Bool} {cs : List Value} {x : DataW H × List MemPlace} (h : DataW.trod enc Tryz.prog W base sp held fuel 31 cs = some x) :
  ∃ g : PX, cs = g.cells ∧ (g.at_ W ∧ g.n ≤ g.c) := by
 have c0 : Tryz.prog.cellsOf 31 = 2 := by kernel_rfl
 have c1 : Tryz.prog.cellsOf 3 = 1 := by kernel_rfl
 have c2 : Tryz.prog.cellsOf 22 = 1 := by kernel_rfl
 obtain ⟨y0, y1, n, _, hl, h0, h1⟩ := trod_struct2 Tryz.underlying31 h
 obtain ⟨z, e0, _, _⟩ := DataW.trod_int Tryz.underlying3 h0
 obtain ⟨B, m, b, k, e1, s1, _⟩ := tn TR.len (by decide) Tryz.underlying22 (by kernel_rfl) (fun _ _ _ h => tF h) h1
 rw [e1] at h1
 have hroom := u9 Tryz.underlying22 h1
 rw [c0] at hl
 match cs, hl with
 | [x0, x1], _ =>
  simp only [c1, c2] at e0 e1
  simp at e0 e1
  subst e0 e1
  exact ⟨⟨z, B, m, b, k⟩, rfl, s1, hroom⟩
set_option maxRecDepth 100000 in
theorem tx {H : Type} {enc : TypeId × Value → H} {W : World} {r : Reach} {base b0 : Nat} {sp : Nat → Bool} {held : Bool} {v : Value} {d : DataW H} {ps : List MemPlace}
  (hval : Value.okWide Tryz.prog W r b0 45 v) (hd : DataW.Trod enc Tryz.prog W base sp held 45 v d ps) : ∃ (A : Option Addr) (n c : Nat) (l : List PX), v = .slice A n c ∧ Sl W A n 2 (a5 PX.cells l) ∧ ∀ g ∈ l, g.at_ W ∧ g.n ≤ g.c :=
 vC PX.len (by decide) Tryz.underlying45 (by kernel_rfl) (fun _ _ _ h => tj h) hval hd
end Go.Proofs.YtkgdagjklakajaaGreatDoor
/- The walks through the document's answer's products of powers. -/
namespace Go.Proofs.YtkgdagjklakajaaGreatDoor
open Go.RowKit
theorem vw (A : Option Addr) (n c : Nat) (xs : List Int) (w : World) (hsl : Sl w A n 1 (er xs)) (hn : n ≤ 100000) :
  Calls Tryz.prog 211 #[.slice A n c] w fun e w' => e = .returned (.tuple #[.string (str (xc xs)), .int .i64 (yx xs)]) ∧ Below w.heap.size w w' := by
 have hlen : xs.length = n := by have := hsl.1; rw [ez] at this; omega
 have hh := Hp.start w
 refine ak (N := 34) (l := [.slice A n c]) Tryz.func211 rfl rfl (by simp) ?_
 refine sr (aS (aI (ah (sr (aS (ah (ai (sr (aI (ah (ao ?_)))))))))))
 refine cd [2, 3, 4, 5, 6, 7, 8, 9, 10, 11, 12, 13, 14, 15, 16, 17, 18, 19, 20, 21, 22, 23, 24, 25, 26, 27, 28, 29, 30, 31, 32] 4 5
  (fun b i w' => ∃ (k : Nat), k ≤ n ∧ i = .int .i64 k ∧ b = .string (str ((xs.take k).map ui)) ∧ (xs.take k).all fQ = true ∧ Hp w [] w')
  (fun _ v _ => n - (intOf v).toNat) ?_ ?_
 ·exact ⟨0, Nat.zero_le _, rfl, rfl, rfl, hh⟩
 ·clear hh
  rintro ρ' b i w' ⟨k, hk, rfl, rfl, hall, hh⟩
  by_cases hlt : k < n
  ·obtain ⟨x, hx⟩ := aD (l := xs) (k := k) (by omega)
   obtain ⟨ad, rfl, hr⟩ := (hsl.ext hh.below).at_ (by omega)
   by_cases h0 : x < 0
   ·refine ai (sr (mI (mL (aW ?_))))
    refine aN (ah (cT (al (aj (ai (ao (ai (sr (mL (mI ?_))))))))))
    refine cK aF.out aC.size rfl rfl (by omega) (by omega) (by decide) ?_
    refine bu aC.out rfl (ek hr (dX hx) rfl) (by decide) ?_
    refine aN (mB ?_)
    first | refine gS ?_ | (refine gT ?_; refine mL ?_) | refine gV ?_
    first | refine gS ?_ | (refine gT ?_; refine mI ?_) | refine gV ?_
    first | refine gS ?_ | (refine gT ?_; refine cK aF.out aC.size rfl rfl (by omega) (by omega) (by decide) ?_) | refine gV ?_
    refine bV (by decide) rfl rfl (by decide) ?_
    first | refine gS ?_ | (refine gT ?_; refine bO ?_) | refine gV ?_
    first | refine cw ?_ | refine cx ?_
    refine ah (cT (sr (aS (aI (ah (an (aA (bA (aA (aA (bA ?_)))))))))))
    refine aA ?_
    refine qd ?_
    obtain ⟨e1, e2⟩ := pM hx (by simp [fQ]; omega)
    rw [e1, e2]
    first | exact ⟨rfl, hh.below⟩ | exact ⟨trivial, hh.below⟩
   ·by_cases h1 : 127 < x
    ·refine ai (sr (mI (mL (aW ?_))))
     refine aN (ah (cT (al (aj (ai (ao (ai (sr (mL (mI ?_))))))))))
     refine cK aF.out aC.size rfl rfl (by omega) (by omega) (by decide) ?_
     refine bu aC.out rfl (ek hr (dX hx) rfl) (by decide) ?_
     refine aN (mB ?_)
     first | refine gS ?_ | (refine gT ?_; refine mL ?_) | refine gV ?_
     first | refine gS ?_ | (refine gT ?_; refine mI ?_) | refine gV ?_
     first | refine gS ?_ | (refine gT ?_; refine cK aF.out aC.size rfl rfl (by omega) (by omega) (by decide) ?_) | refine gV ?_
     refine a8 rfl rfl (bu aC.out rfl (ek hr (dX hx) rfl) (by decide) ?_)
     first | refine gS ?_ | (refine gT ?_; refine bO ?_) | refine gV ?_
     first | refine cw ?_ | refine cx ?_
     refine ah (cT (sr (aS (aI (ah (an (aA (bA (aA (aA (bA ?_)))))))))))
     refine aA ?_
     refine qd ?_
     obtain ⟨e1, e2⟩ := pM hx (by simp [fQ]; omega)
     rw [e1, e2]
     first | exact ⟨rfl, hh.below⟩ | exact ⟨trivial, hh.below⟩
    ·have hok : fQ x = true := by simp [fQ]; omega
     refine ai (sr (mI (mL (aW ?_))))
     refine aN (ah (cT (al (aj (ai (ao (ai (sr (mL (mI ?_))))))))))
     refine cK aF.out aC.size rfl rfl (by omega) (by omega) (by decide) ?_
     refine bu aC.out rfl (ek hr (dX hx) rfl) (by decide) ?_
     refine aN (mB ?_)
     first | refine gS ?_ | (refine gT ?_; refine mL ?_) | refine gV ?_
     first | refine gS ?_ | (refine gT ?_; refine mI ?_) | refine gV ?_
     first | refine gS ?_ | (refine gT ?_; refine cK aF.out aC.size rfl rfl (by omega) (by omega) (by decide) ?_) | refine gV ?_
     refine a8 rfl rfl (bu aC.out rfl (ek hr (dX hx) rfl) (by decide) ?_)
     first | refine gS ?_ | (refine gT ?_; refine bO ?_) | refine gV ?_
     first | refine cw ?_ | refine cx ?_
     refine ah (cF (al (aj (aq (mS (mL (mI ?_)))))))
     refine cK aF.out aC.size rfl rfl (by omega) (by omega) (by decide) ?_
     refine bu aC.out rfl (ek hr (dX hx) rfl) (by decide) ?_
     refine kr aF.out aF.out rfl (by decide) ?_
     refine bs hh (cs := [_]) aF.out aC.out (br (bM rfl) cn) rfl rfl (by decide) (by decide) (by decide) rfl (by decide) ?_
     intro b30 w30 hh
     rw [ug (by omega) (by omega)] at hh
     have hsl1 : Sl w30 (some ⟨b30, 0, none⟩) 1 1 (jV [ui x]) := by
      have := hh.aJ (i := 0) rfl
      rw [uq hok] at this
      exact this
     refine ik aF.out aF.out aF.out rfl (hsl1) (by decide) ?_
     replace hh := hh.sub (List.sublist_cons_self _ _)
     refine z4 rfl rfl (by rw [gU]; show _ + 1 ≤ _; simp; omega) (by decide) ?_
     refine aS (aE (aY (aj (aq (mI ?_)))))
     refine bF (aI (aE (aj ?_)))
     have e0 : str ((xs.take k).map ui) ++ ByteArray.mk #[ui x] = str ((xs.take (k + 1)).map ui) := by
      rw [show ByteArray.mk #[ui x] = str [ui x] from rfl, sl, aM hx, List.map_append]; rfl
     refine ⟨⟨k + 1, by omega, rfl, congrArg Value.string e0, qV hx hall hok, hh⟩, by show n - (k + 1) < n - k; omega, ?_⟩
     (repeat (first | exact ax _ _ _ | refine az rfl ?_ | refine aw rfl ?_))
  ·obtain rfl : k = n := by omega
   rw [List.take_of_length_le (by omega)] at hall
   obtain ⟨e1, e2⟩ := tK hall
   refine ai (sr (mI (mL (aW ?_))))
   refine aN (ah (cF ?_))
   refine aU ?_
   refine ay (ay (a7 (aj (sr (mS (aS (aI (ah (an ?_)))))))))
   refine qd ?_
   rw [e1, e2, List.take_of_length_le (by omega)]
   first | exact ⟨rfl, hh.below⟩ | exact ⟨trivial, hh.below⟩
theorem lL (s : ByteArray) (w : World) (hs : s.size ≤ 9223372036854775807) :
  Calls Tryz.prog 95 #[.string s, .int .i64 s.size] w fun e w' => e = .returned (.bool (eE s.data.toList)) ∧ Below w.heap.size w w' := by
 have h := jh s s.size w hs
 simpa using h
theorem sR (a b : ByteArray) (w : World) (ha : a.size ≤ 100000) (hb : b.size ≤ 100000) :
  Calls Tryz.prog 176 #[.string a, .string b] w fun e w' => e = .returned (.tuple #[.string (str (mulL a.data.toList b.data.toList).1), .int .i64 (mulL a.data.toList b.data.toList).2]) ∧ Below w.heap.size w w' := by
 have hh := Hp.start w
 have hsa := dD a
 have hsb := dD b
 cases hma : eE a.data.toList with
 | false =>
  refine ak (N := 42) (l := [.string a, .string b]) Tryz.func176 rfl rfl (by simp) ?_
  refine sr (aS (aI (ah (ai (sr (mS (mS ?_)))))))
  refine a9 aF.out rfl (by decide) ?_
  refine bz hh (lL a _ (by omega)) rfl ?_
  intro w11 hh
  rw [hma]
  refine eF ?_
  refine mB ?_
  first | refine gS ?_ | (refine gT ?_; refine mS ?_) | refine gV ?_
  first | refine gS ?_ | (refine gT ?_; refine mS ?_) | refine gV ?_
  first | refine gS ?_ | (refine gT ?_; refine a9 aF.out rfl (by decide) ?_) | refine gV ?_
  refine bV (by decide) rfl rfl (by decide) ?_
  first | refine gS ?_ | (refine gT ?_; refine eF ?_) | refine gV ?_
  first | refine cw ?_ | refine cx ?_
  refine ah (cT (sr (aS (aI (ah (an (aA ?_)))))))
  refine qd ?_
  have : fi (· + ·) a.data.toList b.data.toList = none := by simp [fi, hma]
  simp only [mulL, this]
  first | exact ⟨rfl, hh.below⟩ | exact ⟨trivial, hh.below⟩
 | true =>
  cases hmb : (eE b.data.toList && decide ((b.size : Int) = a.size)) with
  | false =>
   refine ak (N := 42) (l := [.string a, .string b]) Tryz.func176 rfl rfl (by simp) ?_
   refine sr (aS (aI (ah (ai (sr (mS (mS ?_)))))))
   refine a9 aF.out rfl (by decide) ?_
   refine bz hh (lL a _ (by omega)) rfl ?_
   intro w11 hh
   rw [hma]
   refine eF ?_
   refine mB ?_
   first | refine gS ?_ | (refine gT ?_; refine mS ?_) | refine gV ?_
   first | refine gS ?_ | (refine gT ?_; refine mS ?_) | refine gV ?_
   first | refine gS ?_ | (refine gT ?_; refine a9 aF.out rfl (by decide) ?_) | refine gV ?_
   refine a8 rfl rfl ?_
   refine bz hh (jh b _ _ (by omega)) rfl ?_
   intro w17 hh
   rw [hmb]
   first | refine gS ?_ | (refine gT ?_; refine eF ?_) | refine gV ?_
   first | refine cw ?_ | refine cx ?_
   refine ah (cT (sr (aS (aI (ah (an (aA ?_)))))))
   refine qd ?_
   have h2 : (eE b.data.toList && decide ((b.data.toList.length : Int) = a.data.toList.length)) = false := by rw [← hsa, ← hsb]; exact hmb
   have : fi (· + ·) a.data.toList b.data.toList = none := by simp only [fi, hma, h2]; rfl
   simp only [mulL, this]
   first | exact ⟨rfl, hh.below⟩ | exact ⟨trivial, hh.below⟩
  | true =>
   have hmb2 := hmb
   simp only [Bool.and_eq_true, decide_eq_true_eq] at hmb2
   have hbl : fi (· + ·) a.data.toList b.data.toList = some (List.zipWith (· + ·) (ints a.data.toList) (ints b.data.toList)) := by
    have : (eE b.data.toList && decide ((b.data.toList.length : Int) = a.data.toList.length)) = true := by rw [← hsa, ← hsb]; exact hmb
    simp only [fi, hma, this]; rfl
   have hzl : (List.zipWith (· + ·) (ints a.data.toList) (ints b.data.toList)).length = a.size := by simp [ints]; omega
   refine ak (N := 42) (l := [.string a, .string b]) Tryz.func176 rfl rfl (by simp) ?_
   refine sr (aS (aI (ah (ai (sr (mS (mS ?_)))))))
   refine a9 aF.out rfl (by decide) ?_
   refine bz hh (lL a _ (by omega)) rfl ?_
   intro w11 hh
   rw [hma]
   refine eF ?_
   refine mB ?_
   first | refine gS ?_ | (refine gT ?_; refine mS ?_) | refine gV ?_
   first | refine gS ?_ | (refine gT ?_; refine mS ?_) | refine gV ?_
   first | refine gS ?_ | (refine gT ?_; refine a9 aF.out rfl (by decide) ?_) | refine gV ?_
   refine a8 rfl rfl ?_
   refine bz hh (jh b _ _ (by omega)) rfl ?_
   intro w17 hh
   rw [hmb]
   first | refine gS ?_ | (refine gT ?_; refine eF ?_) | refine gV ?_
   first | refine cw ?_ | refine cx ?_
   refine ah (cF (al (aj (sr (aL (ah (ai (sr (aI (ah (ao ?_)))))))))))
   refine cd [6, 7, 20, 21, 22, 23, 24, 25, 26, 27, 28, 29, 30, 31, 32, 33, 34, 35, 36, 37] 6 7
    (fun v i w' => ∃ (k c' : Nat) (A' : Option Addr), k ≤ a.size ∧ i = .int .i64 k ∧ v = .slice A' k c' ∧ Hp w [.row A' k c' 3 1 (er ((List.zipWith (· + ·) (ints a.data.toList) (ints b.data.toList)).take k))] w')
    (fun _ i _ => a.size - (intOf i).toNat) ?_ ?_
   ·exact ⟨0, 0, none, Nat.zero_le _, rfl, rfl, hh.dY _ _⟩
   ·clear hh
    rintro ρ' v i w' ⟨k, c', A', hk, rfl, rfl, hh⟩
    by_cases hlt : k < a.size
    ·obtain ⟨x, hx⟩ := aD (l := a.data.toList) (k := k) (by omega)
     obtain ⟨y, hy⟩ := aD (l := b.data.toList) (k := k) (by omega)
     have bx := mz hma hx
     have byy := mz hmb2.1 hy
     refine ai (sr (mI (mS ?_)))
     refine a9 aF.out rfl (by decide) ?_
     refine aN (ah (cT (al (aj (ai (ao ?_))))))
     refine aR 11 [[(6, none)], [(0, none)], [(7, none)], [(27, some 1), (28, some 2)], [(29, some 3)], [(1, none)], [(7, none)], [(31, some 5), (32, some 6)], [(33, some 7)], [(30, some 4), (34, some 8)], [(35, some 9)]] [(10, 36), (9, 35), (8, 34), (7, 33), (6, 32), (5, 31), (4, 30), (3, 29), (2, 28), (1, 27), (0, 26)] hh mixed (by kernel_rfl) ?_
     refine fp ?_
     refine z7 ?_
     refine dH ?_
     refine bh (i := 3) (fun ρ1 w1 hj hR => hU aF.out (show ρ1 27 = Value.string _ from hR.1) (show ρ1 28 = Value.int _ _ from hR.2.1) (by omega) (by assumption)) ?_
     refine bh (i := 4) (fun ρ1 w1 hj hR => ku aF.out aF.out (show ρ1 29 = Value.int _ _ from hR.1) (by omega) (by omega)) ?_
     refine z7 ?_
     refine dH ?_
     refine bh (i := 7) (fun ρ1 w1 hj hR => hU aF.out (show ρ1 31 = Value.string _ from hR.1) (show ρ1 32 = Value.int _ _ from hR.2.1) (by omega) (by assumption)) ?_
     refine bh (i := 8) (fun ρ1 w1 hj hR => ku aF.out aF.out (show ρ1 33 = Value.int _ _ from hR.1) (by omega) (by omega)) ?_
     refine ve ?_
     refine vp [_] ?_
     refine a0 ?_
     intro f W hJ hV
     have hb_7 := hJ.bl
     obtain ⟨v36, v35, v34, v33, v32, v31, v30, v29, v28, v27, v26, _⟩ := hV
     obtain ⟨A36, c36, e36, f36⟩ : Rows _ _ _ (f 10) W := v36
     replace hh := hJ.hp
     refine aO (a4 (aa e36 (aa v35 (aa v34 (aa v33 (aa v32 (aa v31 (aa v30 (aa v29 (aa v28 (aa v27 (aa v26 aQ)))))))))))) ?_
     dsimp only [bU]
     clear e36 hJ
     refine bQ hh (i := 0) rfl rfl rfl (f36) aF.out aC.out rfl (by decide) rfl (by omega) (by omega) (by decide) ?_
     intro A37 c37 w37 hh
     simp only [List.set_cons_zero] at hh
     refine aL (aE (aY (aj (aq (mI ?_)))))
     refine bF (aI (aE (aj ?_)))
     refine ⟨⟨k + 1, c37, A37, by omega, rfl, rfl, ?_⟩, by show a.size - (k + 1) < a.size - k; omega, ?_⟩
     ·rw [aM (vQ (pX hx) (pX hy)), qU]
      exact hh
     ·(repeat (first | exact ax _ _ _ | refine az rfl ?_ | refine aw rfl ?_))
    ·refine ai (sr (mI (mS ?_)))
     refine a9 aF.out rfl (by decide) ?_
     refine aN (ah (cF ?_))
     refine aU ?_
     refine ay (ay (a7 (aj (sr (mL ?_)))))
     obtain rfl : k = a.size := by omega
     rw [List.take_of_length_le (by omega)] at hh
     refine bz hh (vw _ _ _ _ _ (hh.aJ (i := 0) rfl) (by omega)) rfl ?_
     intro w39 hh
     refine dJ ?_
     refine dJ ?_
     refine aS (aI (ah (an ?_)))
     refine qd ?_
     simp only [mulL, hbl]
     first | exact ⟨rfl, hh.below⟩ | exact ⟨trivial, hh.below⟩
theorem n8 (A B : Option Addr) (n m c c' : Nat) (xs ys : List Int) (w : World) (hx : Sl w A n 1 (er xs)) (hy : Sl w B m 1 (er ys)) (hn : n ≤ 100000) (hm : m ≤ 100000) :
  Calls Tryz.prog 23 #[.slice A n c, .slice B m c'] w fun e w' => e = .returned (.bool (decide (xs = ys))) ∧ Below w.heap.size w w' := by
 have hxl : xs.length = n := by have := hx.1; rw [ez] at this; omega
 have hyl : ys.length = m := by have := hy.1; rw [ez] at this; omega
 have hh := Hp.start w
 by_cases hnm : n = m
 ·subst hnm
  refine ak (N := 26) (l := [.slice A n c, .slice B n c']) Tryz.func23 rfl rfl (by simp) ?_
  refine sr (aB (ah (ai (sr (mL (aW (mL (aW ?_))))))))
  refine dQ (ah (cF (al (aj (ai (sr (aI (ah (ao ?_)))))))))
  refine bp [4, 5, 11, 12, 13, 14, 15, 16, 17, 18, 19, 20, 21, 22, 23, 24, 25] 5
   (fun i w' => ∃ k : Nat, k ≤ n ∧ i = .int .i64 k ∧ xs.take k = ys.take k ∧ Hp w [] w')
   (fun i _ => n - (intOf i).toNat) ?_ ?_
  ·exact ⟨0, Nat.zero_le _, rfl, rfl, hh⟩
  ·clear hh
   rintro ρ' i w' ⟨k, hk, rfl, he, hh⟩
   replace hx := hx.ext hh.below
   replace hy := hy.ext hh.below
   by_cases hlt : k < n
   ·obtain ⟨x, hxk⟩ := aD (l := xs) (k := k) (by omega)
    obtain ⟨y, hyk⟩ := aD (l := ys) (k := k) (by omega)
    obtain ⟨ad, rfl, hr⟩ := hx.at_ (by omega)
    obtain ⟨bd, rfl, hs⟩ := hy.at_ (by omega)
    by_cases hxy : x = y
    ·subst hxy
     refine ai (sr (mI (mL (aW ?_))))
     refine aN (ah (cT (al (aj (ai (ao (ai ?_)))))))
     refine aR 8 [[(0, none)], [(5, none)], [(17, some 0), (18, some 1)], [(19, some 2)], [(1, none)], [(5, none)], [(21, some 4), (22, some 5)], [(23, some 6)]] [(7, 24), (6, 23), (5, 22), (4, 21), (3, 20), (2, 19), (1, 18), (0, 17)] hh mixed (by kernel_rfl) ?_
     refine fp ?_
     refine dH ?_
     refine bh (i := 2) (fun ρ1 w1 hj hR => cS aF.out aC.size (show ρ1 17 = Value.slice _ _ _ from hR.1) (show ρ1 18 = Value.int _ _ from hR.2.1) (by omega) (by omega)) ?_
     refine hH (fun _ hj => ek (hr.ext hj.bl) (dX hxk) rfl) ?_
     refine fp ?_
     refine dH ?_
     refine bh (i := 6) (fun ρ1 w1 hj hR => cS aF.out aC.size (show ρ1 21 = Value.slice _ _ _ from hR.1) (show ρ1 22 = Value.int _ _ from hR.2.1) (by omega) (by omega)) ?_
     refine hH (fun _ hj => ek (hs.ext hj.bl) (dX hyk) rfl) ?_
     refine a0 ?_
     intro f W hJ hV
     have hb_6 := hJ.bl
     obtain ⟨v24, v23, v22, v21, v20, v19, v18, v17, _⟩ := hV
     replace hh := hJ.hp
     refine aO (a4 (aa v24 (aa v23 (aa v22 (aa v21 (aa v20 (aa v19 (aa v18 (aa v17 aQ))))))))) ?_
     dsimp only [bU]
     clear hJ
     refine dQ (ah (cF (al (aY (aj (aq (mI ?_)))))))
     refine bF (aI (aE (aj ?_)))
     refine ⟨⟨k + 1, by omega, rfl, by rw [aM hxk, aM hyk, he], hh⟩, by show n - (k + 1) < n - k; omega, ?_⟩
     (repeat (first | exact ax _ _ _ | refine az rfl ?_ | refine aw rfl ?_))
    ·refine ai (sr (mI (mL (aW ?_))))
     refine aN (ah (cT (al (aj (ai (ao (ai ?_)))))))
     refine aR 8 [[(0, none)], [(5, none)], [(17, some 0), (18, some 1)], [(19, some 2)], [(1, none)], [(5, none)], [(21, some 4), (22, some 5)], [(23, some 6)]] [(7, 24), (6, 23), (5, 22), (4, 21), (3, 20), (2, 19), (1, 18), (0, 17)] hh mixed (by kernel_rfl) ?_
     refine fp ?_
     refine dH ?_
     refine bh (i := 2) (fun ρ1 w1 hj hR => cS aF.out aC.size (show ρ1 17 = Value.slice _ _ _ from hR.1) (show ρ1 18 = Value.int _ _ from hR.2.1) (by omega) (by omega)) ?_
     refine hH (fun _ hj => ek (hr.ext hj.bl) (dX hxk) rfl) ?_
     refine fp ?_
     refine dH ?_
     refine bh (i := 6) (fun ρ1 w1 hj hR => cS aF.out aC.size (show ρ1 21 = Value.slice _ _ _ from hR.1) (show ρ1 22 = Value.int _ _ from hR.2.1) (by omega) (by omega)) ?_
     refine hH (fun _ hj => ek (hs.ext hj.bl) (dX hyk) rfl) ?_
     refine a0 ?_
     intro f W hJ hV
     have hb_6 := hJ.bl
     obtain ⟨v24, v23, v22, v21, v20, v19, v18, v17, _⟩ := hV
     replace hh := hJ.hp
     refine aO (a4 (aa v24 (aa v23 (aa v22 (aa v21 (aa v20 (aa v19 (aa v18 (aa v17 aQ))))))))) ?_
     dsimp only [bU]
     clear hJ
     refine dQ (ah (cT (sr (aB (ah (an (bA (aA (aA (bA (aA ?_)))))))))))
     refine cb ?_
     have : ¬ xs = ys := fun h => hxy (by rw [h, hyk] at hxk; exact (Option.some.inj hxk).symm)
     simp only [this, decide_false]
     first | exact ⟨rfl, hh.below⟩ | exact ⟨trivial, hh.below⟩
   ·refine ai (sr (mI (mL (aW ?_))))
    refine aN (ah (cF ?_))
    refine aU ?_
    refine ay (ay (a7 (aj (sr (aB (ah (an ?_)))))))
    refine cb ?_
    rw [List.take_of_length_le (by omega), List.take_of_length_le (by omega)] at he
    simp only [he, decide_true]
    first | exact ⟨rfl, hh.below⟩ | exact ⟨trivial, hh.below⟩
 ·refine ak (N := 26) (l := [.slice A n c, .slice B m c']) Tryz.func23 rfl rfl (by simp) ?_
  refine sr (aB (ah (ai (sr (mL (aW (mL (aW ?_))))))))
  refine dQ (ah (cT (sr (aB (ah (an (aA ?_)))))))
  refine cb ?_
  have : ¬ xs = ys := fun h => hnm (by rw [← hxl, ← hyl, h])
  simp only [this, decide_false]
  first | exact ⟨rfl, hh.below⟩ | exact ⟨trivial, hh.below⟩
end Go.Proofs.YtkgdagjklakajaaGreatDoor
/- The walk through ogeeref08.Check. -/
namespace Go.Proofs.YtkgdagjklakajaaGreatDoor
open Go.RowKit
theorem oa (v : Int) (A : Option Addr) (n c : Nat) (ts : List TR) (w : World) (hS : Sl w A n 4 (a5 TR.cells ts)) (hn : n ≤ 1000000) (ho : ∀ t ∈ ts, t.c.ok ∧ t.m.size ≤ 100000) :
  Calls Tryz.prog 22 #[.agg #[.int .i64 v, .slice A n c]] w fun r w' => r = .returned (.int .i64 (gF v ts)) ∧ Below w.heap.size w w' := by
 have hh := Hp.start w
 have hln := hS.bX TR.len (by decide)
 cases hf : gm v with
 | false =>
  have hbv : ¬ (0 ≤ v ∧ v ≤ 12) := fun h => by rw [fI.2 h] at hf; cases hf
  rw [show gF v ts = 1 by unfold gF; rw [if_pos hf]]
  by_cases h0 : v < 0
  ·refine ak (N := 63) (l := [.agg #[.int .i64 v, .slice A n c]]) Tryz.func22 rfl rfl (by simp) ?_
   refine sr ?_
   refine cN hh [_,_] ?_
   intro b1 w1 hh
   refine aI (ah (ai (sr (bI ?_))))
   refine bL hh 0 ?_
   refine aN (mB ?_)
   first | refine gS ?_ | (refine gT ?_; refine bI ?_) | refine gV ?_
   first | refine gS ?_ | (refine gT ?_; refine bL hh 0 ?_) | refine gV ?_
   first | refine gS ?_ | (refine gT ?_; refine bO ?_) | refine gV ?_
   first | refine cw ?_ | refine cx ?_
   refine ah (cT (sr (aI (ah (an (aA ?_))))))
   refine cb ?_
   exact ⟨rfl, hh.below⟩
  ·refine ak (N := 63) (l := [.agg #[.int .i64 v, .slice A n c]]) Tryz.func22 rfl rfl (by simp) ?_
   refine sr ?_
   refine cN hh [_,_] ?_
   intro b1 w1 hh
   refine aI (ah (ai (sr (bI ?_))))
   refine bL hh 0 ?_
   refine aN (mB ?_)
   first | refine gS ?_ | (refine gT ?_; refine bI ?_) | refine gV ?_
   first | refine gS ?_ | (refine gT ?_; refine bL hh 0 ?_) | refine gV ?_
   first | refine gS ?_ | (refine gT ?_; refine bO ?_) | refine gV ?_
   first | refine cw ?_ | refine cx ?_
   refine ah (cT (sr (aI (ah (an (aA ?_))))))
   refine cb ?_
   exact ⟨rfl, hh.below⟩
 | true =>
  obtain ⟨hv0, hv12⟩ := fI.1 hf
  by_cases h4 : 4096 < n
  ·rw [show gF v ts = 3 by unfold gF; rw [if_neg (by rw [hf]; decide), if_pos (by omega)]]
   refine ak (N := 63) (l := [.agg #[.int .i64 v, .slice A n c]]) Tryz.func22 rfl rfl (by simp) ?_
   refine sr ?_
   refine cN hh [_,_] ?_
   intro b1 w1 hh
   refine aI (ah (ai (sr (bI ?_))))
   refine bL hh 0 ?_
   refine aN (mB ?_)
   first | refine gS ?_ | (refine gT ?_; refine bI ?_) | refine gV ?_
   first | refine gS ?_ | (refine gT ?_; refine bL hh 0 ?_) | refine gV ?_
   first | refine gS ?_ | (refine gT ?_; refine bO ?_) | refine gV ?_
   first | refine cw ?_ | refine cx ?_
   refine ah (cF (al (aj (ai (sr (bI ?_))))))
   refine bL hh 0 ?_
   refine aW ?_
   refine bO (ah (cT (sr (aI (ah (an (aA ?_)))))))
   refine cb ?_
   exact ⟨rfl, hh.below⟩
  ·have hbad := fun h => q7 (v := v) (ts := ts) hf (by omega) h
   refine ak (N := 63) (l := [.agg #[.int .i64 v, .slice A n c]]) Tryz.func22 rfl rfl (by simp) ?_
   refine sr ?_
   refine cN hh [_,_] ?_
   intro b1 w1 hh
   refine aI (ah (ai (sr (bI ?_))))
   refine bL hh 0 ?_
   refine aN (mB ?_)
   first | refine gS ?_ | (refine gT ?_; refine bI ?_) | refine gV ?_
   first | refine gS ?_ | (refine gT ?_; refine bL hh 0 ?_) | refine gV ?_
   first | refine gS ?_ | (refine gT ?_; refine bO ?_) | refine gV ?_
   first | refine cw ?_ | refine cx ?_
   refine ah (cF (al (aj (ai (sr (bI ?_))))))
   refine bL hh 0 ?_
   refine aW ?_
   refine bO (ah (cF (al (aj (ai (sr (aI (ah (ao ?_)))))))))
   refine bp [2, 3, 4, 17, 18, 19, 20, 21, 22, 23, 24, 25, 26, 27, 28, 29, 30, 31, 32, 33, 34, 35, 36, 37, 38, 39, 40, 41, 42, 43, 44, 45, 46, 47, 48, 49, 50, 51, 52, 53, 54, 55, 56, 57, 58, 59, 60, 61, 62] 3
    (fun x w' => ∃ i : Nat, i ≤ n ∧ x = .int .i64 i ∧ (ts.take i).all (gl v) = true ∧ ks (ts.take i) = true ∧ Hp w [.blk b1 31 [.int .i64 v, .slice A n c] (0, 0)] w')
    (fun x _ => n - (intOf x).toNat) ?_ ?_
   ·exact ⟨0, Nat.zero_le _, rfl, rfl, rfl, hh⟩
   ·clear hh
    rintro ρ' x_ w' ⟨i, hi, rfl, hall, hris, hh⟩
    by_cases hlt : i < n
    ·obtain ⟨x, hx⟩ := aD (l := ts) (k := i) (by omega)
     obtain ⟨ad, rfl, hr⟩ := hS.at_ (by omega)
     obtain ⟨hxo, hxm⟩ := ho x (List.mem_of_getElem? hx)
     have hmay := fun w1 => jh x.m v w1 (by omega)
     have hsg := fun w1 => dW x.c w1 (by have := hxo.1; omega)
     have hfo := fun w1 => dF x.c w1 (by have := hxo.1; omega) (by have := hxo.2.1; omega) (by have := hxo.2.2; omega)
     have hzz : x.c.i.sign = 0 ↔ x.c.d = 0 := by
      rw [Int.sign_eq_zero_iff_zero]
      exact ⟨fun h => by unfold NR.d; rw [h]; rfl, gk⟩
     cases hm : eE x.m.data.toList && decide ((x.m.size : Int) = v) with
     | false =>
      rw [hm] at hmay
      rw [hbad (jU hx (by unfold gl; rw [hm]; rfl))]
      refine ai (sr (mI (bI ?_)))
      refine bL hh 0 ?_
      refine aW ?_
      refine aN (ah (cT (al (aj (ai (ao (sr (bI ?_))))))))
      refine bL hh 0 ?_
      refine mI ?_
      refine aV (k := i) aF.out aC.size rfl rfl (by omega) (by omega) (by decide) ?_
      refine bK (vs := [_, _, _, _]) aC.out rfl ((hr.ext hh.below).recAt TR.len hx) rfl (by decide) ?_
      refine cm hh ?_
      intro b4 w4 hh
      refine bE hh 0 [_,_,_,_] ?_
      intro ws hh
      replace hh : Hp _ (.blk _ _ [_, _, _, _] _ :: _) _ := hh
      refine ah (ai (ai ?_))
      refine cH [] [] [0, 1, 0, 4, 15, 31, 63, 127, 255, 511, 1023, 2047, 4095, 8191, 16383, 32767, 8191, 73727, 262143, 524287] 18 [[(4, none)], [(29, some 0)], [(1, none)], [(31, some 2)], [(30, some 1), (32, some 3)], [(33, some 4)], [(34, some 5)], [(4, none), (35, some 6)], [(36, some 7), (35, some 6)], [(37, some 8), (35, some 6)], [(38, some 9), (35, some 6)], [(35, some 6), (39, some 10)], [(40, some 11)], [(4, none), (41, some 12)], [(42, some 13), (41, some 12)], [(43, some 14), (41, some 12)], [(4, none), (41, some 12)], [(45, some 16), (41, some 12)]] [(17, 46), (16, 45), (15, 44), (14, 43), (13, 42), (12, 41), (11, 40), (10, 39), (9, 38), (8, 37), (7, 36), (6, 35), (5, 34), (4, 33), (3, 32), (2, 31), (1, 30), (0, 29)] hh mixed (by kernel_rfl) cW rfl (by repeat (first | exact bS | refine bB ?_ | refine bR ?_)) ?_
      refine cf ?_
      refine df 0 ?_
      refine cf ?_
      refine df 1 ?_
      refine dC (fun _ hj => hmay _) ?_
      refine ov ?_
      refine gB ?_
      first | refine dS ?_ | refine dU ?_ | refine dG (cf ?_)
      first | refine dS ?_ | refine dU ?_ | refine dG (eL 0 [_,_,_] ?_)
      first | refine dS ?_ | refine dU ?_
      first | refine dS ?_ | refine dU ?_ | refine dG (jL ?_)
      first | refine mm ?_ | refine ml ?_
      refine gB ?_
      first | refine dS ?_ | refine dU ?_ | refine dG (cf ?_)
      first | refine dS ?_ | refine dU ?_ | refine dG (eL 0 [_,_,_] ?_)
      first | refine dS ?_ | refine dU ?_
      first | refine dS ?_ | refine dU ?_ | refine dG (cf ?_)
      first | refine dS ?_ | refine dU ?_ | refine dG (eL 0 [_,_,_] ?_)
      refine a0 ?_
      intro f W hJ hV _
      have hb_9 := hJ.bl
      obtain ⟨v46, v45, v44, v43, v42, v41, v40, v39, v38, v37, v36, v35, v34, v33, v32, v31, v30, v29, _⟩ := hV
      replace hh := hJ.hp
      refine aO (a4 (aa v46 (aa v45 (aa v44 (aa v43 (aa v42 (aa v41 (aa v40 (aa v39 (aa v38 (aa v37 (aa v36 (aa v35 (aa v34 (aa v33 (aa v32 (aa v31 (aa v30 (aa v29 aQ))))))))))))))))))) ?_
      dsimp only [bU]
      clear hJ
      first | refine gS ?_ | (refine gT ?_; (first | refine mD rfl rfl (by first | assumption | rfl) (by decide) ?_ | refine mv rfl rfl (by assumption) (by decide) ?_)) | refine gV ?_
      first | refine cw ?_ | refine cx ?_
      refine ah (cT (sr (aI (ah (an (aA (bA (aA (aA (bA (aA ?_)))))))))))
      refine cb ?_
      exact ⟨rfl, hh.below⟩
     | true =>
      rw [hm] at hmay
      by_cases hz : x.c.d = 0
      ·have hs := hzz.2 hz
       rw [hbad (jU hx (by unfold gl kb; rw [hm, decide_eq_true hz]; rfl))]
       refine ai (sr (mI (bI ?_)))
       refine bL hh 0 ?_
       refine aW ?_
       refine aN (ah (cT (al (aj (ai (ao (sr (bI ?_))))))))
       refine bL hh 0 ?_
       refine mI ?_
       refine aV (k := i) aF.out aC.size rfl rfl (by omega) (by omega) (by decide) ?_
       refine bK (vs := [_, _, _, _]) aC.out rfl ((hr.ext hh.below).recAt TR.len hx) rfl (by decide) ?_
       refine cm hh ?_
       intro b4 w4 hh
       refine bE hh 0 [_,_,_,_] ?_
       intro ws hh
       replace hh : Hp _ (.blk _ _ [_, _, _, _] _ :: _) _ := hh
       refine ah (ai (ai ?_))
       refine cH [] [] [0, 1, 0, 4, 15, 31, 63, 127, 255, 511, 1023, 2047, 4095, 8191, 16383, 32767, 8191, 73727, 262143, 524287] 18 [[(4, none)], [(29, some 0)], [(1, none)], [(31, some 2)], [(30, some 1), (32, some 3)], [(33, some 4)], [(34, some 5)], [(4, none), (35, some 6)], [(36, some 7), (35, some 6)], [(37, some 8), (35, some 6)], [(38, some 9), (35, some 6)], [(35, some 6), (39, some 10)], [(40, some 11)], [(4, none), (41, some 12)], [(42, some 13), (41, some 12)], [(43, some 14), (41, some 12)], [(4, none), (41, some 12)], [(45, some 16), (41, some 12)]] [(17, 46), (16, 45), (15, 44), (14, 43), (13, 42), (12, 41), (11, 40), (10, 39), (9, 38), (8, 37), (7, 36), (6, 35), (5, 34), (4, 33), (3, 32), (2, 31), (1, 30), (0, 29)] hh mixed (by kernel_rfl) cW rfl (by repeat (first | exact bS | refine bB ?_ | refine bR ?_)) ?_
       refine cf ?_
       refine df 0 ?_
       refine cf ?_
       refine df 1 ?_
       refine dC (fun _ hj => hmay _) ?_
       refine ov ?_
       refine gB ?_
       first | refine dS ?_ | refine dU ?_ | refine dG (cf ?_)
       first | refine dS ?_ | refine dU ?_ | refine dG (eL 0 [_,_,_] ?_)
       refine bG (i := 9) rfl (fun ρ1 w1 hj hR => (show ρ1 35 = Value.bool _ from hR.2.1)) (fun ρ1 w1 hj hR => bk ar.out (aG (show ρ1 37 = Value.agg (List.toArray _) from hR.1) bo)) (fun w1 hj => hsg _) ?_
       first | refine dS ?_ | refine dU ?_ | refine dG (jL ?_)
       first | refine mm ?_ | refine ml ?_
       refine gB ?_
       first | refine dS ?_ | refine dU ?_ | refine dG (cf ?_)
       first | refine dS ?_ | refine dU ?_ | refine dG (eL 0 [_,_,_] ?_)
       first | refine dS ?_ | refine dU ?_
       first | refine dS ?_ | refine dU ?_ | refine dG (cf ?_)
       first | refine dS ?_ | refine dU ?_ | refine dG (eL 0 [_,_,_] ?_)
       refine a0 ?_
       intro f W hJ hV _
       have hb_9 := hJ.bl
       obtain ⟨v46, v45, v44, v43, v42, v41, v40, v39, v38, v37, v36, v35, v34, v33, v32, v31, v30, v29, _⟩ := hV
       replace hh := hJ.hp
       refine aO (a4 (aa v46 (aa v45 (aa v44 (aa v43 (aa v42 (aa v41 (aa v40 (aa v39 (aa v38 (aa v37 (aa v36 (aa v35 (aa v34 (aa v33 (aa v32 (aa v31 (aa v30 (aa v29 aQ))))))))))))))))))) ?_
       dsimp only [bU]
       clear hJ
       first | refine gS ?_ | (refine gT ?_; (first | refine mD rfl rfl (by first | assumption | rfl) (by decide) ?_ | refine mv rfl rfl (by assumption) (by decide) ?_)) | refine gV ?_
       first | refine cw ?_ | refine cx ?_
       refine ah (cT (sr (aI (ah (an (aA (bA (aA (aA (bA (aA ?_)))))))))))
       refine cb ?_
       exact ⟨rfl, hh.below⟩
      ·have hs : ¬ x.c.i.sign = 0 := fun h => hz (hzz.1 h)
       by_cases hnf : nR x.c.d = x.c
       ·have hgood : gl v x = true := by unfold gl kb; rw [hm, decide_eq_false hz, (jY x.c).2 hnf]; rfl
        have hall2 : (ts.take (i + 1)).all (gl v) = true := by rw [aM hx, List.all_append, hall]; simp [hgood]
        refine ai (sr (mI (bI ?_)))
        refine bL hh 0 ?_
        refine aW ?_
        refine aN (ah (cT (al (aj (ai (ao (sr (bI ?_))))))))
        refine bL hh 0 ?_
        refine mI ?_
        refine aV (k := i) aF.out aC.size rfl rfl (by omega) (by omega) (by decide) ?_
        refine bK (vs := [_, _, _, _]) aC.out rfl ((hr.ext hh.below).recAt TR.len hx) rfl (by decide) ?_
        refine cm hh ?_
        intro b4 w4 hh
        refine bE hh 0 [_,_,_,_] ?_
        intro ws hh
        replace hh : Hp _ (.blk _ _ [_, _, _, _] _ :: _) _ := hh
        refine ah (ai (ai ?_))
        refine cH [] [] [0, 1, 0, 4, 15, 31, 63, 127, 255, 511, 1023, 2047, 4095, 8191, 16383, 32767, 8191, 73727, 262143, 524287] 18 [[(4, none)], [(29, some 0)], [(1, none)], [(31, some 2)], [(30, some 1), (32, some 3)], [(33, some 4)], [(34, some 5)], [(4, none), (35, some 6)], [(36, some 7), (35, some 6)], [(37, some 8), (35, some 6)], [(38, some 9), (35, some 6)], [(35, some 6), (39, some 10)], [(40, some 11)], [(4, none), (41, some 12)], [(42, some 13), (41, some 12)], [(43, some 14), (41, some 12)], [(4, none), (41, some 12)], [(45, some 16), (41, some 12)]] [(17, 46), (16, 45), (15, 44), (14, 43), (13, 42), (12, 41), (11, 40), (10, 39), (9, 38), (8, 37), (7, 36), (6, 35), (5, 34), (4, 33), (3, 32), (2, 31), (1, 30), (0, 29)] hh mixed (by kernel_rfl) cW rfl (by repeat (first | exact bS | refine bB ?_ | refine bR ?_)) ?_
        refine cf ?_
        refine df 0 ?_
        refine cf ?_
        refine df 1 ?_
        refine dC (fun _ hj => hmay _) ?_
        refine ov ?_
        refine gB ?_
        first | refine dS ?_ | refine dU ?_ | refine dG (cf ?_)
        first | refine dS ?_ | refine dU ?_ | refine dG (eL 0 [_,_,_] ?_)
        refine bG (i := 9) rfl (fun ρ1 w1 hj hR => (show ρ1 35 = Value.bool _ from hR.2.1)) (fun ρ1 w1 hj hR => bk ar.out (aG (show ρ1 37 = Value.agg (List.toArray _) from hR.1) bo)) (fun w1 hj => hsg _) ?_
        first | refine dS ?_ | refine dU ?_ | refine dG (jL ?_)
        first | refine mm ?_ | refine ml ?_
        refine gB ?_
        first | refine dS ?_ | refine dU ?_ | refine dG (cf ?_)
        first | refine dS ?_ | refine dU ?_ | refine dG (eL 0 [_,_,_] ?_)
        refine bG (i := 15) rfl (fun ρ1 w1 hj hR => (show ρ1 41 = Value.bool _ from hR.2.1)) (fun ρ1 w1 hj hR => bk ar.out (aG (show ρ1 43 = Value.agg (List.toArray _) from hR.1) bo)) (fun w1 hj => hfo _) ?_
        first | refine dS ?_ | refine dU ?_ | refine dG (cf ?_)
        first | refine dS ?_ | refine dU ?_ | refine dG (eL 0 [_,_,_] ?_)
        refine a0 ?_
        intro f W hJ hV _
        have hb_9 := hJ.bl
        obtain ⟨v46, v45, v44, v43, v42, v41, v40, v39, v38, v37, v36, v35, v34, v33, v32, v31, v30, v29, _⟩ := hV
        replace hh := hJ.hp
        refine aO (a4 (aa v46 (aa v45 (aa v44 (aa v43 (aa v42 (aa v41 (aa v40 (aa v39 (aa v38 (aa v37 (aa v36 (aa v35 (aa v34 (aa v33 (aa v32 (aa v31 (aa v30 (aa v29 aQ))))))))))))))))))) ?_
        dsimp only [bU]
        clear hJ
        first | refine gS ?_ | (refine gT ?_; (first | refine mD rfl rfl (by first | assumption | rfl) (by decide) ?_ | refine mv rfl rfl (by assumption) (by decide) ?_)) | refine gV ?_
        first | refine cw ?_ | refine cx ?_
        refine ah (cF (al (aj (ai ?_))))
        by_cases h0 : i = 0
        ·refine cH [] [] [0, 1, 3, 7, 15, 7, 39, 127, 255, 511, 7, 1031, 4095, 8191] 12 [[(3, none)], [(49, some 0)], [(50, some 1)], [(1, none), (51, some 2)], [(52, some 3), (51, some 2)], [(3, none), (51, some 2)], [(54, some 5), (51, some 2)], [(53, some 4), (55, some 6), (51, some 2)], [(56, some 7), (51, some 2)], [(57, some 8), (51, some 2)], [(4, none), (51, some 2)], [(59, some 10), (51, some 2)]] [(11, 60), (10, 59), (9, 58), (8, 57), (7, 56), (6, 55), (5, 54), (4, 53), (3, 52), (2, 51), (1, 50), (0, 49)] hh mixed (by kernel_rfl) cW rfl (by repeat (first | exact bS | refine bB ?_ | refine bR ?_)) ?_
         refine dH ?_
         refine pV ?_
         refine gB ?_
         first | refine dS ?_ | refine dU ?_ | refine dG (cf ?_)
         first | refine dS ?_ | refine dU ?_ | refine dG (df 1 ?_)
         first | refine dS ?_ | refine dU ?_ | refine dG (dH ?_)
         first | refine dS ?_ | refine dU ?_ | refine dG (kG ?_)
         first | refine eO (i := 7) rfl (fun ρ1 w1 hj hR => (show ρ1 51 = Value.bool _ from hR.2.2.1)) (by decide) ?_ | refine dV (i := 7) rfl (fun ρ1 w1 hj hR => (show ρ1 51 = undef from hR.2.2.1)) ?_ | refine dz (i := 7) rfl (fun ρ1 w1 hj hR => (show ρ1 51 = Value.bool _ from hR.2.2.1)) (fun ρ1 w1 hj hR => en aF.out aC.size (show ρ1 53 = Value.slice _ _ _ from hR.1) (show ρ1 55 = Value.int _ _ from hR.2.1) rfl (by omega)) ?_
         first | refine dS ?_ | refine dU ?_ | refine dG (kI ?_)
         first | refine dS ?_ | refine dU ?_ | refine dG (hH (fun _ hj => hr) ?_)
         first | refine dS ?_ | refine dU ?_ | refine dG (cf ?_)
         first | refine dS ?_ | refine dU ?_ | refine dG (df 0 ?_)
         refine a0 ?_
         intro f W hJ hV _
         have hb_11 := hJ.bl
         obtain ⟨v60, v59, v58, v57, v56, v55, v54, v53, v52, v51, v50, v49, _⟩ := hV
         replace hh := hJ.hp
         refine aO (a4 (aa v60 (aa v59 (aa v58 (aa v57 (aa v56 (aa v55 (aa v54 (aa v53 (aa v52 (aa v51 (aa v50 (aa v49 aQ))))))))))))) ?_
         dsimp only [bU]
         clear hJ
         first | refine gS ?_ | (refine gT ?_; refine eY rfl rfl (by decide) ?_) | refine gV ?_
         first | refine cw ?_ | refine cx ?_
         refine ah (cF (al (aY (aj (aq (mI ?_))))))
         refine bF (aI (aE (aj ?_)))
         replace hh := hh.sub (List.Sublist.cons _ (List.Sublist.cons_cons _ List.Sublist.slnil))
         refine ⟨⟨i + 1, by omega, rfl, hall2, by rw [aM hx, h0]; rfl, hh⟩, by show n - (i + 1) < n - i; omega, ?_⟩
         (repeat (first | exact ax _ _ _ | refine az rfl ?_ | refine aw rfl ?_))
        ·obtain ⟨q, hq⟩ : ∃ q, i = q + 1 := ⟨i - 1, by omega⟩
         obtain ⟨p, hp⟩ := aD (l := ts) (k := q) (by omega)
         cases hlp : fq p.m x.m with
         | false =>
          rw [hbad (rN hp (hq ▸ hx) hlp)]
          have hge : (!(Op.bytesLess p.m.toList x.m.toList)) = true := by rw [gr, hlp]; rfl
          refine cH [] [] [0, 1, 3, 7, 15, 7, 39, 127, 255, 511, 7, 1031, 4095, 8191] 12 [[(3, none)], [(49, some 0)], [(50, some 1)], [(1, none), (51, some 2)], [(52, some 3), (51, some 2)], [(3, none), (51, some 2)], [(54, some 5), (51, some 2)], [(53, some 4), (55, some 6), (51, some 2)], [(56, some 7), (51, some 2)], [(57, some 8), (51, some 2)], [(4, none), (51, some 2)], [(59, some 10), (51, some 2)]] [(11, 60), (10, 59), (9, 58), (8, 57), (7, 56), (6, 55), (5, 54), (4, 53), (3, 52), (2, 51), (1, 50), (0, 49)] hh mixed (by kernel_rfl) cW rfl (by repeat (first | exact bS | refine bB ?_ | refine bR ?_)) ?_
          refine dH ?_
          refine pV ?_
          refine gB ?_
          first | refine dS ?_ | refine dU ?_ | refine dG (cf ?_)
          first | refine dS ?_ | refine dU ?_ | refine dG (df 1 ?_)
          first | refine dS ?_ | refine dU ?_ | refine dG (dH ?_)
          first | refine dS ?_ | refine dU ?_ | refine dG (kG ?_)
          first | refine dS ?_ | refine dU ?_ | refine dG (hG (q) ?_)
          first | refine dS ?_ | refine dU ?_ | refine dG (kI ?_)
          first | refine dS ?_ | refine dU ?_ | refine dG (hH (fun _ hj => ((hr.ext hj.hp.below).recAt TR.len hp).cell (i := 0) rfl) ?_)
          first | refine dS ?_ | refine dU ?_ | refine dG (cf ?_)
          first | refine dS ?_ | refine dU ?_ | refine dG (df 0 ?_)
          refine a0 ?_
          intro f W hJ hV _
          have hb_11 := hJ.bl
          obtain ⟨v60, v59, v58, v57, v56, v55, v54, v53, v52, v51, v50, v49, _⟩ := hV
          replace hh := hJ.hp
          refine aO (a4 (aa v60 (aa v59 (aa v58 (aa v57 (aa v56 (aa v55 (aa v54 (aa v53 (aa v52 (aa v51 (aa v50 (aa v49 aQ))))))))))))) ?_
          dsimp only [bU]
          clear hJ
          first | refine gS ?_ | (refine gT ?_; refine eY rfl rfl (by decide) ?_) | refine gV ?_
          first | refine cw ?_ | refine cx ?_
          refine ah ?_
          rw [hge]
          refine cT (sr (aI (ah (an (bA (aA (aA (bA (aA ?_)))))))))
          refine cb ?_
          exact ⟨rfl, hh.below⟩
         | true =>
          have hge : (!(Op.bytesLess p.m.toList x.m.toList)) = false := by rw [gr, hlp]; rfl
          refine cH [] [] [0, 1, 3, 7, 15, 7, 39, 127, 255, 511, 7, 1031, 4095, 8191] 12 [[(3, none)], [(49, some 0)], [(50, some 1)], [(1, none), (51, some 2)], [(52, some 3), (51, some 2)], [(3, none), (51, some 2)], [(54, some 5), (51, some 2)], [(53, some 4), (55, some 6), (51, some 2)], [(56, some 7), (51, some 2)], [(57, some 8), (51, some 2)], [(4, none), (51, some 2)], [(59, some 10), (51, some 2)]] [(11, 60), (10, 59), (9, 58), (8, 57), (7, 56), (6, 55), (5, 54), (4, 53), (3, 52), (2, 51), (1, 50), (0, 49)] hh mixed (by kernel_rfl) cW rfl (by repeat (first | exact bS | refine bB ?_ | refine bR ?_)) ?_
          refine dH ?_
          refine pV ?_
          refine gB ?_
          first | refine dS ?_ | refine dU ?_ | refine dG (cf ?_)
          first | refine dS ?_ | refine dU ?_ | refine dG (df 1 ?_)
          first | refine dS ?_ | refine dU ?_ | refine dG (dH ?_)
          first | refine dS ?_ | refine dU ?_ | refine dG (kG ?_)
          first | refine dS ?_ | refine dU ?_ | refine dG (hG (q) ?_)
          first | refine dS ?_ | refine dU ?_ | refine dG (kI ?_)
          first | refine dS ?_ | refine dU ?_ | refine dG (hH (fun _ hj => ((hr.ext hj.hp.below).recAt TR.len hp).cell (i := 0) rfl) ?_)
          first | refine dS ?_ | refine dU ?_ | refine dG (cf ?_)
          first | refine dS ?_ | refine dU ?_ | refine dG (df 0 ?_)
          refine a0 ?_
          intro f W hJ hV _
          have hb_11 := hJ.bl
          obtain ⟨v60, v59, v58, v57, v56, v55, v54, v53, v52, v51, v50, v49, _⟩ := hV
          replace hh := hJ.hp
          refine aO (a4 (aa v60 (aa v59 (aa v58 (aa v57 (aa v56 (aa v55 (aa v54 (aa v53 (aa v52 (aa v51 (aa v50 (aa v49 aQ))))))))))))) ?_
          dsimp only [bU]
          clear hJ
          first | refine gS ?_ | (refine gT ?_; refine eY rfl rfl (by decide) ?_) | refine gV ?_
          first | refine cw ?_ | refine cx ?_
          refine ah ?_
          rw [hge]
          refine cF (al (aY (aj (aq (mI ?_)))))
          refine bF (aI (aE (aj ?_)))
          replace hh := hh.sub (List.Sublist.cons _ (List.Sublist.cons_cons _ List.Sublist.slnil))
          refine ⟨⟨i + 1, by omega, rfl, hall2, ?_, hh⟩, by show n - (i + 1) < n - i; omega, ?_⟩
          ·rw [hq, aM hp] at hris
           rw [aM hx, hq, aM hp, List.append_assoc]
           show ks (ts.take q ++ [p, x]) = true
           rw [lT, hris, hlp]
           rfl
          ·(repeat (first | exact ax _ _ _ | refine az rfl ?_ | refine aw rfl ?_))
       ·rw [hbad (jU hx (by unfold gl kb; rw [hm, decide_eq_false hz, Bool.eq_false_iff.2 (fun h => hnf ((jY x.c).1 h))]; rfl))]
        refine ai (sr (mI (bI ?_)))
        refine bL hh 0 ?_
        refine aW ?_
        refine aN (ah (cT (al (aj (ai (ao (sr (bI ?_))))))))
        refine bL hh 0 ?_
        refine mI ?_
        refine aV (k := i) aF.out aC.size rfl rfl (by omega) (by omega) (by decide) ?_
        refine bK (vs := [_, _, _, _]) aC.out rfl ((hr.ext hh.below).recAt TR.len hx) rfl (by decide) ?_
        refine cm hh ?_
        intro b4 w4 hh
        refine bE hh 0 [_,_,_,_] ?_
        intro ws hh
        replace hh : Hp _ (.blk _ _ [_, _, _, _] _ :: _) _ := hh
        refine ah (ai (ai ?_))
        refine cH [] [] [0, 1, 0, 4, 15, 31, 63, 127, 255, 511, 1023, 2047, 4095, 8191, 16383, 32767, 8191, 73727, 262143, 524287] 18 [[(4, none)], [(29, some 0)], [(1, none)], [(31, some 2)], [(30, some 1), (32, some 3)], [(33, some 4)], [(34, some 5)], [(4, none), (35, some 6)], [(36, some 7), (35, some 6)], [(37, some 8), (35, some 6)], [(38, some 9), (35, some 6)], [(35, some 6), (39, some 10)], [(40, some 11)], [(4, none), (41, some 12)], [(42, some 13), (41, some 12)], [(43, some 14), (41, some 12)], [(4, none), (41, some 12)], [(45, some 16), (41, some 12)]] [(17, 46), (16, 45), (15, 44), (14, 43), (13, 42), (12, 41), (11, 40), (10, 39), (9, 38), (8, 37), (7, 36), (6, 35), (5, 34), (4, 33), (3, 32), (2, 31), (1, 30), (0, 29)] hh mixed (by kernel_rfl) cW rfl (by repeat (first | exact bS | refine bB ?_ | refine bR ?_)) ?_
        refine cf ?_
        refine df 0 ?_
        refine cf ?_
        refine df 1 ?_
        refine dC (fun _ hj => hmay _) ?_
        refine ov ?_
        refine gB ?_
        first | refine dS ?_ | refine dU ?_ | refine dG (cf ?_)
        first | refine dS ?_ | refine dU ?_ | refine dG (eL 0 [_,_,_] ?_)
        refine bG (i := 9) rfl (fun ρ1 w1 hj hR => (show ρ1 35 = Value.bool _ from hR.2.1)) (fun ρ1 w1 hj hR => bk ar.out (aG (show ρ1 37 = Value.agg (List.toArray _) from hR.1) bo)) (fun w1 hj => hsg _) ?_
        first | refine dS ?_ | refine dU ?_ | refine dG (jL ?_)
        first | refine mm ?_ | refine ml ?_
        refine gB ?_
        first | refine dS ?_ | refine dU ?_ | refine dG (cf ?_)
        first | refine dS ?_ | refine dU ?_ | refine dG (eL 0 [_,_,_] ?_)
        refine bG (i := 15) rfl (fun ρ1 w1 hj hR => (show ρ1 41 = Value.bool _ from hR.2.1)) (fun ρ1 w1 hj hR => bk ar.out (aG (show ρ1 43 = Value.agg (List.toArray _) from hR.1) bo)) (fun w1 hj => hfo _) ?_
        first | refine dS ?_ | refine dU ?_ | refine dG (cf ?_)
        first | refine dS ?_ | refine dU ?_ | refine dG (eL 0 [_,_,_] ?_)
        refine a0 ?_
        intro f W hJ hV _
        have hb_9 := hJ.bl
        obtain ⟨v46, v45, v44, v43, v42, v41, v40, v39, v38, v37, v36, v35, v34, v33, v32, v31, v30, v29, _⟩ := hV
        replace hh := hJ.hp
        refine aO (a4 (aa v46 (aa v45 (aa v44 (aa v43 (aa v42 (aa v41 (aa v40 (aa v39 (aa v38 (aa v37 (aa v36 (aa v35 (aa v34 (aa v33 (aa v32 (aa v31 (aa v30 (aa v29 aQ))))))))))))))))))) ?_
        dsimp only [bU]
        clear hJ
        first | refine gS ?_ | (refine gT ?_; (first | refine mD rfl rfl (by first | assumption | rfl) (by decide) ?_ | refine mv rfl rfl (by assumption) (by decide) ?_)) | refine gV ?_
        first | refine cw ?_ | refine cx ?_
        refine ah (cT (sr (aI (ah (an (aA (bA (aA (aA (bA (aA ?_)))))))))))
        refine cb ?_
        exact ⟨rfl, hh.below⟩
    ·rw [List.take_of_length_le (by omega)] at hall hris
     rw [show gF v ts = 0 by unfold gF okB; rw [if_neg (by rw [hf]; decide), if_neg (by omega), hall, hris]; rfl]
     refine ai (sr (mI (bI ?_)))
     refine bL hh 0 ?_
     refine aW ?_
     refine aN (ah (cF ?_))
     refine aU ?_
     refine ay (ay (a7 (aj (sr (aI (ah (an ?_)))))))
     refine cb ?_
     exact ⟨rfl, hh.below⟩
end Go.Proofs.YtkgdagjklakajaaGreatDoor
/- The walks through ogeeref08.put and Gather. -/
namespace Go.Proofs.YtkgdagjklakajaaGreatDoor
open Go.RowKit
theorem lP {x : TR} (b : List TR) : ∀ {a : List TR}, (∀ t ∈ a, fq t.m x.m = true) → fk (a ++ b) x = a ++ fk b x
 | [], _ => rfl
 | t :: a, h => by
  rw [List.cons_append, fk, if_pos (h t List.mem_cons_self), lP b fun s hs => h s (List.mem_cons_of_mem _ hs)]
  rfl
theorem wq {x : TR} {l : List TR} (h : ∀ t ∈ l, fq t.m x.m = true) : fk l x = l ++ [⟨x.m, nR x.c.d⟩] := by
 have := lP [] h
 rwa [List.append_nil] at this
theorem xl {x t : TR} {l : List TR} {i : Nat} (hx : l[i]? = some t) (h : ∀ s ∈ l.take i, fq s.m x.m = true) (h1 : fq t.m x.m = false) : fk l x = if t.m = x.m then l.take i ++ ⟨x.m, nR (t.c.d + x.c.d)⟩ :: l.drop (i + 1) else l.take i ++ ⟨x.m, nR x.c.d⟩ :: l.drop i := by
 have e : l = l.take i ++ t :: l.drop (i + 1) := by rw [← jk hx, List.take_append_drop]
 have e2 : fk l x = l.take i ++ fk (t :: l.drop (i + 1)) x := by
  conv => lhs; rw [e]
  exact lP _ h
 rw [e2, fk, if_neg (by rw [h1]; decide), jk hx]
 by_cases he : t.m = x.m
 ·rw [if_pos he, if_neg (by rw [he, g3]; decide)]
 ·rw [if_neg he, if_pos]
  cases h2 : fq x.m t.m with
  | true => rfl
  | false => exact absurd (j2 h1 h2) he
theorem tu (A : Option Addr) (n c : Nat) (l : List TR) (x : TR) (w : World) (hS : Sl w A n 4 (a5 TR.cells l)) (hcn : n ≤ c) (hn : n ≤ 1000000) (ho : ∀ t ∈ l, t.c.ok) (hx : x.c.ok) :
  Calls Tryz.prog 169 #[.slice A n c, .agg #[.string x.m, .bool x.c.neg, .string x.c.bT, .int .i64 x.c.e]] w fun r w' => ∃ A' c', r = .returned (.slice A' (fk l x).length c') ∧ Hp w [.row A' (fk l x).length c' 58 4 (a5 TR.cells (fk l x))] w' := by
 have hh := Hp.start w
 have hln := hS.bX TR.len (by decide)
 have hfo := fun w1 => dF x.c w1 (by have := hx.1; omega) (by have := hx.2.1; omega) (by have := hx.2.2; omega)
 refine ak (N := 76) (l := [.slice A n c, .agg #[.string x.m, .bool x.c.neg, .string x.c.bT, .int .i64 x.c.e]]) Tryz.func169 rfl rfl (by simp) ?_
 refine sr ?_
 refine cN hh [_,_,_,_] ?_
 intro b3 w3 hh
 refine aL (ah (sr (aI (ah (ai (ao ?_))))))
 refine bp [5, 7, 8, 9, 10, 11, 12, 13, 14, 15, 16, 17, 18, 19, 20, 21, 22] 5
  (fun v w' => ∃ i : Nat, i ≤ n ∧ v = .int .i64 i ∧ (∀ t ∈ l.take i, fq t.m x.m = true) ∧ Hp w [.blk b3 58 [.string x.m, .bool x.c.neg, .string x.c.bT, .int .i64 x.c.e] (0, 0)] w')
  (fun v _ => n - (intOf v).toNat) ?_ ?_
 ·exact ⟨0, Nat.zero_le _, rfl, fun t ht => (nomatch ht), hh⟩
 ·clear hh
  rintro ρ' v w' ⟨i, hi, rfl, hall, hh⟩
  by_cases hlt : i < n
  ·obtain ⟨t, ht⟩ := aD (l := l) (k := i) (by omega)
   obtain ⟨ad, rfl, hr⟩ := hS.at_ (by omega)
   have hto := ho t (List.mem_of_getElem? ht)
   cases hl : fq t.m x.m with
   | true =>
    have hbl : Op.bytesLess t.m.toList x.m.toList = true := by rw [gr, hl]
    refine ai (ai ?_)
    refine aR 12 [[(5, none)], [(0, none)], [(8, some 1)], [(7, some 0), (9, some 2)], [(10, some 3)], [(0, none), (11, some 4)], [(5, none), (11, some 4)], [(12, some 5), (13, some 6), (11, some 4)], [(14, some 7), (11, some 4)], [(15, some 8), (11, some 4)], [(3, none), (11, some 4)], [(17, some 10), (11, some 4)]] [(11, 18), (10, 17), (9, 16), (8, 15), (7, 14), (6, 13), (5, 12), (4, 11), (3, 10), (2, 9), (1, 8), (0, 7)] hh mixed (by kernel_rfl) ?_
    refine dH ?_
    refine fp ?_
    refine sx ?_
    refine vv ?_
    refine gB ?_
    first | refine dS ?_ | refine dU ?_ | refine dG (fp ?_)
    first | refine dS ?_ | refine dU ?_ | refine dG (dH ?_)
    first | refine dS ?_ | refine dU ?_ | refine dG (hG (i) ?_)
    first | refine dS ?_ | refine dU ?_ | refine dG (kI ?_)
    first | refine dS ?_ | refine dU ?_ | refine dG (hH (fun _ hj => ((hr.ext hj.hp.below).recAt TR.len ht).cell (i := 0) rfl) ?_)
    first | refine dS ?_ | refine dU ?_ | refine dG (cf ?_)
    first | refine dS ?_ | refine dU ?_ | refine dG (df 0 ?_)
    refine a0 ?_
    intro f W hJ hV
    have hb_2 := hJ.bl
    obtain ⟨v18, v17, v16, v15, v14, v13, v12, v11, v10, v9, v8, v7, _⟩ := hV
    replace hh := hJ.hp
    refine aO (a4 (aa v18 (aa v17 (aa v16 (aa v15 (aa v14 (aa v13 (aa v12 (aa v11 (aa v10 (aa v9 (aa v8 (aa v7 aQ))))))))))))) ?_
    dsimp only [bU]
    clear hJ
    first | refine gS ?_ | (refine gT ?_; refine j5 rfl rfl (by decide) ?_) | refine gV ?_
    first | refine cw ?_ | refine cx ?_
    refine ah ?_
    rw [hbl]
    refine cT (al (aj (ao (aq (mI ?_)))))
    refine bF (aI (aE (aY (aj ?_))))
    refine ⟨⟨i + 1, by omega, rfl, fun s hs => ?_, hh⟩, by show n - (i + 1) < n - i; omega, ?_⟩
    ·rw [aM ht] at hs
     rcases List.mem_append.1 hs with hs | hs
     ·exact hall s hs
     ·rw [List.mem_singleton.1 hs]; exact hl
    ·(repeat (first | exact ax _ _ _ | refine az rfl ?_ | refine aw rfl ?_))
   | false =>
    have hbl : Op.bytesLess t.m.toList x.m.toList = false := by rw [gr, hl]
    have hput := xl ht hall hl
    have hS1 := hS.front (m := i) (by omega)
    rw [show (a5 TR.cells l).take (i * 4) = a5 TR.cells (l.take i) from iH TR.len l i] at hS1
    have o1 := bm TR.one (l.take i)
    refine ai (ai ?_)
    refine aR 12 [[(5, none)], [(0, none)], [(8, some 1)], [(7, some 0), (9, some 2)], [(10, some 3)], [(0, none), (11, some 4)], [(5, none), (11, some 4)], [(12, some 5), (13, some 6), (11, some 4)], [(14, some 7), (11, some 4)], [(15, some 8), (11, some 4)], [(3, none), (11, some 4)], [(17, some 10), (11, some 4)]] [(11, 18), (10, 17), (9, 16), (8, 15), (7, 14), (6, 13), (5, 12), (4, 11), (3, 10), (2, 9), (1, 8), (0, 7)] hh mixed (by kernel_rfl) ?_
    refine dH ?_
    refine fp ?_
    refine sx ?_
    refine vv ?_
    refine gB ?_
    first | refine dS ?_ | refine dU ?_ | refine dG (fp ?_)
    first | refine dS ?_ | refine dU ?_ | refine dG (dH ?_)
    first | refine dS ?_ | refine dU ?_ | refine dG (hG (i) ?_)
    first | refine dS ?_ | refine dU ?_ | refine dG (kI ?_)
    first | refine dS ?_ | refine dU ?_ | refine dG (hH (fun _ hj => ((hr.ext hj.hp.below).recAt TR.len ht).cell (i := 0) rfl) ?_)
    first | refine dS ?_ | refine dU ?_ | refine dG (cf ?_)
    first | refine dS ?_ | refine dU ?_ | refine dG (df 0 ?_)
    refine a0 ?_
    intro f W hJ hV
    have hb_2 := hJ.bl
    obtain ⟨v18, v17, v16, v15, v14, v13, v12, v11, v10, v9, v8, v7, _⟩ := hV
    replace hh := hJ.hp
    refine aO (a4 (aa v18 (aa v17 (aa v16 (aa v15 (aa v14 (aa v13 (aa v12 (aa v11 (aa v10 (aa v9 (aa v8 (aa v7 aQ))))))))))))) ?_
    dsimp only [bU]
    clear hJ
    first | refine gS ?_ | (refine gT ?_; refine j5 rfl rfl (by decide) ?_) | refine gV ?_
    first | refine cw ?_ | refine cx ?_
    refine ah ?_
    rw [hbl]
    refine cF ?_
    refine aU ?_
    refine ay (ay (a7 (aj (sr ?_))))
    refine gX hh aF.out aC.out (by decide) ?_
    intro b23 w23 hh
    refine mL (mI ?_)
    refine iw (h := i) aF.out aC.size rfl rfl (by omega) (by omega) (by decide) ?_
    refine bQ hh (i := 0) rfl rfl rfl (hS1.ext hh.below) aF.out aC.out rfl (by decide) ?one9 (by omega) (by omega) (by decide) ?kk9
    case one9 => first | rfl | assumption | exact oneCells_i64s _ | exact oneCells_u8s _
    intro A27 c27 w27 hh
    simp only [List.set_cons_zero] at hh
    refine aL (ah (ai (ai ?_)))
    have hpl := fun w1 => rF t.c x.c w1 hto hx
    by_cases he : t.m = x.m
    ·rw [if_pos he] at hput
     have hS2 := hS.back (l := i + 1) (by omega) hcn
     rw [show (a5 TR.cells l).drop ((i + 1) * 4) = a5 TR.cells (l.drop (i + 1)) from gf TR.len l (i + 1)] at hS2
     have o2 := bm TR.one (l.drop (i + 1))
     refine aR 12 [[(5, none)], [(0, none)], [(29, some 1)], [(28, some 0), (30, some 2)], [(31, some 3)], [(0, none), (32, some 4)], [(5, none), (32, some 4)], [(33, some 5), (34, some 6), (32, some 4)], [(35, some 7), (32, some 4)], [(36, some 8), (32, some 4)], [(3, none), (32, some 4)], [(38, some 10), (32, some 4)]] [(11, 39), (10, 38), (9, 37), (8, 36), (7, 35), (6, 34), (5, 33), (4, 32), (3, 31), (2, 30), (1, 29), (0, 28)] hh mixed (by kernel_rfl) ?_
     refine dH ?_
     refine fp ?_
     refine sx ?_
     refine vv ?_
     refine gB ?_
     first | refine dS ?_ | refine dU ?_ | refine dG (fp ?_)
     first | refine dS ?_ | refine dU ?_ | refine dG (dH ?_)
     first | refine dS ?_ | refine dU ?_ | refine dG (hG (i) ?_)
     first | refine dS ?_ | refine dU ?_ | refine dG (kI ?_)
     first | refine dS ?_ | refine dU ?_ | refine dG (hH (fun _ hj => ((hr.ext hj.hp.below).recAt TR.len ht).cell (i := 0) rfl) ?_)
     first | refine dS ?_ | refine dU ?_ | refine dG (cf ?_)
     first | refine dS ?_ | refine dU ?_ | refine dG (df 1 ?_)
     refine a0 ?_
     intro f W hJ hV
     have hb_5 := hJ.bl
     obtain ⟨v39, v38, v37, v36, v35, v34, v33, v32, v31, v30, v29, v28, _⟩ := hV
     replace hh := hJ.hp
     refine aO (a4 (aa v39 (aa v38 (aa v37 (aa v36 (aa v35 (aa v34 (aa v33 (aa v32 (aa v31 (aa v30 (aa v29 (aa v28 aQ))))))))))))) ?_
     dsimp only [bU]
     clear hJ
     first | refine gS ?_ | (refine gT ?_; (first | refine dk rfl rfl (by first | rfl | assumption | decide) (by decide) ?_ | refine dp rfl rfl (by first | assumption | decide) (by decide) ?_)) | refine gV ?_
     first | refine cw ?_ | refine cx ?_
     refine ah (cT (ai ?_))
     refine aR 13 [[(6, none)], [(3, none)], [(43, some 1)], [(0, none)], [(5, none)], [(45, some 3), (46, some 4)], [(47, some 5)], [(48, some 6)], [(3, none)], [(50, some 8)], [(49, some 7), (51, some 9)], [(44, some 2), (52, some 10)], [(53, some 11)]] [(12, 54), (11, 53), (10, 52), (9, 51), (8, 50), (7, 49), (6, 48), (5, 47), (4, 46), (3, 45), (2, 44), (1, 43), (0, 42)] hh mixed (by kernel_rfl) ?_
     refine fp ?_
     refine cf ?_
     refine df 1 ?_
     refine fp ?_
     refine dH ?_
     refine hG (i) ?_
     refine kI ?_
     refine sf [_,_,_] (fun _ hj => ((hr.ext hj.hp.below).recAt TR.len ht).drop 1) ?_
     refine cf ?_
     refine eL 1 [_,_,_] ?_
     refine dC (fun _ hj => hpl _) ?_
     refine dB [_,_,_,_] ?_
     refine vp [_,_,_,_] ?_
     refine a0 ?_
     intro f W hJ hV
     have hb_6 := hJ.bl
     obtain ⟨v54, v53, v52, v51, v50, v49, v48, v47, v46, v45, v44, v43, v42, _⟩ := hV
     obtain ⟨A54, c54, e54, f54⟩ : Rows _ _ _ (f 12) W := v54
     replace hh := hJ.hp
     refine aO (a4 (aa e54 (aa v53 (aa v52 (aa v51 (aa v50 (aa v49 (aa v48 (aa v47 (aa v46 (aa v45 (aa v44 (aa v43 (aa v42 aQ)))))))))))))) ?_
     dsimp only [bU]
     clear e54 hJ
     refine bQ hh (i := 0) rfl rfl rfl (f54) aF.out aC.out rfl (by decide) (by first | rfl | exact ck _ | exact bW _ | exact oneCells_i64s _ | exact bm NR.one _) (by omega) (by omega) (by decide) ?_
     intro A55 c55 w55 hh
     simp only [List.set_cons_zero] at hh
     refine aL (ah (sr (mL (mL (mI ?_)))))
     refine bF ?_
     refine a3 rfl rfl (by decide) (fO aF.out aC.size rfl rfl (l := i + 1) (by omega) (by omega) (by omega)) ?_
     refine bQ hh (i := 0) rfl rfl rfl (hS2.ext hh.below) aF.out aC.out rfl (by decide) ?one10 (by omega) (by omega) (by decide) ?kk10
     case one10 => first | rfl | assumption | exact oneCells_i64s _ | exact oneCells_u8s _
     intro A61 c61 w61 hh
     simp only [List.set_cons_zero] at hh
     refine aL (ah (an (aA ?_)))
     refine cb ?_
     have e1 : (fk l x).length = 0 + i + 1 + (n - (i + 1)) := by rw [hput, List.length_append, List.length_cons, List.length_take, List.length_drop]; omega
     have e2 : a5 TR.cells (fk l x) = [] ++ a5 TR.cells (l.take i) ++ [.string x.m, .bool (nR (t.c.d + x.c.d)).neg, .string (nR (t.c.d + x.c.d)).bT, .int .i64 (nR (t.c.d + x.c.d)).e] ++ a5 TR.cells (l.drop (i + 1)) := by rw [hput, cg, fG, List.nil_append, List.append_assoc]; rfl
     exact ⟨_, _, by rw [e1], by rw [e1, e2]; exact hh.sub (List.Sublist.cons_cons _ (List.nil_sublist _))⟩
    ·rw [if_neg he] at hput
     have hS2 := hS.back (l := i) (by omega) hcn
     rw [show (a5 TR.cells l).drop (i * 4) = a5 TR.cells (l.drop i) from gf TR.len l i] at hS2
     have o2 := bm TR.one (l.drop i)
     refine aR 12 [[(5, none)], [(0, none)], [(29, some 1)], [(28, some 0), (30, some 2)], [(31, some 3)], [(0, none), (32, some 4)], [(5, none), (32, some 4)], [(33, some 5), (34, some 6), (32, some 4)], [(35, some 7), (32, some 4)], [(36, some 8), (32, some 4)], [(3, none), (32, some 4)], [(38, some 10), (32, some 4)]] [(11, 39), (10, 38), (9, 37), (8, 36), (7, 35), (6, 34), (5, 33), (4, 32), (3, 31), (2, 30), (1, 29), (0, 28)] hh mixed (by kernel_rfl) ?_
     refine dH ?_
     refine fp ?_
     refine sx ?_
     refine vv ?_
     refine gB ?_
     first | refine dS ?_ | refine dU ?_ | refine dG (fp ?_)
     first | refine dS ?_ | refine dU ?_ | refine dG (dH ?_)
     first | refine dS ?_ | refine dU ?_ | refine dG (hG (i) ?_)
     first | refine dS ?_ | refine dU ?_ | refine dG (kI ?_)
     first | refine dS ?_ | refine dU ?_ | refine dG (hH (fun _ hj => ((hr.ext hj.hp.below).recAt TR.len ht).cell (i := 0) rfl) ?_)
     first | refine dS ?_ | refine dU ?_ | refine dG (cf ?_)
     first | refine dS ?_ | refine dU ?_ | refine dG (df 1 ?_)
     refine a0 ?_
     intro f W hJ hV
     have hb_5 := hJ.bl
     obtain ⟨v39, v38, v37, v36, v35, v34, v33, v32, v31, v30, v29, v28, _⟩ := hV
     replace hh := hJ.hp
     refine aO (a4 (aa v39 (aa v38 (aa v37 (aa v36 (aa v35 (aa v34 (aa v33 (aa v32 (aa v31 (aa v30 (aa v29 (aa v28 aQ))))))))))))) ?_
     dsimp only [bU]
     clear hJ
     first | refine gS ?_ | (refine gT ?_; (first | refine dk rfl rfl (by first | rfl | assumption | decide) (by decide) ?_ | refine dp rfl rfl (by first | assumption | decide) (by decide) ?_)) | refine gV ?_
     first | refine cw ?_ | refine cx ?_
     refine ah (cF (al (aj (ai ?_))))
     refine aR 8 [[(6, none)], [(3, none)], [(63, some 1)], [(3, none)], [(65, some 3)], [(66, some 4)], [(64, some 2), (67, some 5)], [(68, some 6)]] [(7, 69), (6, 68), (5, 67), (4, 66), (3, 65), (2, 64), (1, 63), (0, 62)] hh mixed (by kernel_rfl) ?_
     refine fp ?_
     refine cf ?_
     refine df 1 ?_
     refine cf ?_
     refine eL 1 [_,_,_] ?_
     refine dC (fun _ hj => hfo _) ?_
     refine dB [_,_,_,_] ?_
     refine vp [_,_,_,_] ?_
     refine a0 ?_
     intro f W hJ hV
     have hb_8 := hJ.bl
     obtain ⟨v69, v68, v67, v66, v65, v64, v63, v62, _⟩ := hV
     obtain ⟨A69, c69, e69, f69⟩ : Rows _ _ _ (f 7) W := v69
     replace hh := hJ.hp
     refine aO (a4 (aa e69 (aa v68 (aa v67 (aa v66 (aa v65 (aa v64 (aa v63 (aa v62 aQ))))))))) ?_
     dsimp only [bU]
     clear e69 hJ
     refine bQ hh (i := 0) rfl rfl rfl (f69) aF.out aC.out rfl (by decide) (by first | rfl | exact ck _ | exact bW _ | exact oneCells_i64s _ | exact bm NR.one _) (by omega) (by omega) (by decide) ?_
     intro A70 c70 w70 hh
     simp only [List.set_cons_zero] at hh
     refine aL (ah (sr (mL (mL (mI ?_)))))
     refine a3 rfl rfl (by decide) (fO aF.out aC.size rfl rfl (l := i) (by omega) (by omega) (by omega)) ?_
     refine bQ hh (i := 0) rfl rfl rfl (hS2.ext hh.below) aF.out aC.out rfl (by decide) ?one11 (by omega) (by omega) (by decide) ?kk11
     case one11 => first | rfl | assumption | exact oneCells_i64s _ | exact oneCells_u8s _
     intro A75 c75 w75 hh
     simp only [List.set_cons_zero] at hh
     refine aL (ah (an ?_))
     refine cb ?_
     have e1 : (fk l x).length = 0 + i + 1 + (n - i) := by rw [hput, List.length_append, List.length_cons, List.length_take, List.length_drop]; omega
     have e2 : a5 TR.cells (fk l x) = [] ++ a5 TR.cells (l.take i) ++ [.string x.m, .bool (nR x.c.d).neg, .string (nR x.c.d).bT, .int .i64 (nR x.c.d).e] ++ a5 TR.cells (l.drop i) := by rw [hput, cg, fG, List.nil_append, List.append_assoc]; rfl
     exact ⟨_, _, by rw [e1], by rw [e1, e2]; exact hh.sub (List.Sublist.cons_cons _ (List.nil_sublist _))⟩
  ·obtain rfl : i = n := by omega
   have hput := wq (x := x) (l := l) (by rwa [List.take_of_length_le (by omega)] at hall)
   rw [show l ++ [⟨x.m, nR x.c.d⟩] = l.take i ++ ⟨x.m, nR x.c.d⟩ :: l.drop i by rw [List.take_of_length_le (by omega), List.drop_of_length_le (by omega)]] at hput
   have hS1 := hS.front (m := i) (by omega)
   rw [show (a5 TR.cells l).take (i * 4) = a5 TR.cells (l.take i) from iH TR.len l i] at hS1
   have o1 := bm TR.one (l.take i)
   have hS2 := hS.back (l := i) (by omega) hcn
   rw [show (a5 TR.cells l).drop (i * 4) = a5 TR.cells (l.drop i) from gf TR.len l i] at hS2
   have o2 := bm TR.one (l.drop i)
   refine ai (ai ?_)
   refine aR 12 [[(5, none)], [(0, none)], [(8, some 1)], [(7, some 0), (9, some 2)], [(10, some 3)], [(0, none), (11, some 4)], [(5, none), (11, some 4)], [(12, some 5), (13, some 6), (11, some 4)], [(14, some 7), (11, some 4)], [(15, some 8), (11, some 4)], [(3, none), (11, some 4)], [(17, some 10), (11, some 4)]] [(11, 18), (10, 17), (9, 16), (8, 15), (7, 14), (6, 13), (5, 12), (4, 11), (3, 10), (2, 9), (1, 8), (0, 7)] hh mixed (by kernel_rfl) ?_
   refine dH ?_
   refine fp ?_
   refine sx ?_
   refine vv ?_
   refine gB ?_
   first | refine dS ?_ | refine dU ?_ | refine dG (fp ?_)
   first | refine dS ?_ | refine dU ?_ | refine dG (dH ?_)
   first | refine eO (i := 7) rfl (fun ρ1 w1 hj hR => (show ρ1 11 = Value.bool _ from hR.2.2.1)) (by decide) ?_ | refine dV (i := 7) rfl (fun ρ1 w1 hj hR => (show ρ1 11 = undef from hR.2.2.1)) ?_ | refine dz (i := 7) rfl (fun ρ1 w1 hj hR => (show ρ1 11 = Value.bool _ from hR.2.2.1)) (fun ρ1 w1 hj hR => cS aF.out aC.size (show ρ1 12 = Value.slice _ _ _ from hR.1) (show ρ1 13 = Value.int _ _ from hR.2.1) (by omega) (by omega)) ?_
   first | refine dS ?_ | refine dU ?_ | refine dG (kI ?_)
   first | refine dS ?_ | refine dU ?_ | refine dG (hH (fun _ hj => hT) ?_)
   first | refine dS ?_ | refine dU ?_ | refine dG (cf ?_)
   first | refine dS ?_ | refine dU ?_ | refine dG (df 0 ?_)
   refine a0 ?_
   intro f W hJ hV
   have hb_2 := hJ.bl
   obtain ⟨v18, v17, v16, v15, v14, v13, v12, v11, v10, v9, v8, v7, _⟩ := hV
   replace hh := hJ.hp
   refine aO (a4 (aa v18 (aa v17 (aa v16 (aa v15 (aa v14 (aa v13 (aa v12 (aa v11 (aa v10 (aa v9 (aa v8 (aa v7 aQ))))))))))))) ?_
   dsimp only [bU]
   clear hJ
   first | refine gS ?_ | (refine gT ?_; refine j5 rfl rfl (by decide) ?_) | refine gV ?_
   first | refine cw ?_ | refine cx ?_
   refine ah (cF ?_)
   refine aU ?_
   refine ay (ay (a7 (aj (sr ?_))))
   refine gX hh aF.out aC.out (by decide) ?_
   intro b23 w23 hh
   refine mL (mI ?_)
   refine iw (h := i) aF.out aC.size rfl rfl (by omega) (by omega) (by decide) ?_
   refine bQ hh (i := 0) rfl rfl rfl (hS1.ext hh.below) aF.out aC.out rfl (by decide) ?one12 (by omega) (by omega) (by decide) ?kk12
   case one12 => first | rfl | assumption | exact oneCells_i64s _ | exact oneCells_u8s _
   intro A27 c27 w27 hh
   simp only [List.set_cons_zero] at hh
   refine aL (ah (ai (ai ?_)))
   refine aR 12 [[(5, none)], [(0, none)], [(29, some 1)], [(28, some 0), (30, some 2)], [(31, some 3)], [(0, none), (32, some 4)], [(5, none), (32, some 4)], [(33, some 5), (34, some 6), (32, some 4)], [(35, some 7), (32, some 4)], [(36, some 8), (32, some 4)], [(3, none), (32, some 4)], [(38, some 10), (32, some 4)]] [(11, 39), (10, 38), (9, 37), (8, 36), (7, 35), (6, 34), (5, 33), (4, 32), (3, 31), (2, 30), (1, 29), (0, 28)] hh mixed (by kernel_rfl) ?_
   refine dH ?_
   refine fp ?_
   refine sx ?_
   refine vv ?_
   refine gB ?_
   first | refine dS ?_ | refine dU ?_ | refine dG (fp ?_)
   first | refine dS ?_ | refine dU ?_ | refine dG (dH ?_)
   first | refine eO (i := 7) rfl (fun ρ1 w1 hj hR => (show ρ1 32 = Value.bool _ from hR.2.2.1)) (by decide) ?_ | refine dV (i := 7) rfl (fun ρ1 w1 hj hR => (show ρ1 32 = undef from hR.2.2.1)) ?_ | refine dz (i := 7) rfl (fun ρ1 w1 hj hR => (show ρ1 32 = Value.bool _ from hR.2.2.1)) (fun ρ1 w1 hj hR => cS aF.out aC.size (show ρ1 33 = Value.slice _ _ _ from hR.1) (show ρ1 34 = Value.int _ _ from hR.2.1) (by omega) (by omega)) ?_
   first | refine dS ?_ | refine dU ?_ | refine dG (kI ?_)
   first | refine dS ?_ | refine dU ?_ | refine dG (hH (fun _ hj => hT) ?_)
   first | refine dS ?_ | refine dU ?_ | refine dG (cf ?_)
   first | refine dS ?_ | refine dU ?_ | refine dG (df 1 ?_)
   refine a0 ?_
   intro f W hJ hV
   have hb_5 := hJ.bl
   obtain ⟨v39, v38, v37, v36, v35, v34, v33, v32, v31, v30, v29, v28, _⟩ := hV
   replace hh := hJ.hp
   refine aO (a4 (aa v39 (aa v38 (aa v37 (aa v36 (aa v35 (aa v34 (aa v33 (aa v32 (aa v31 (aa v30 (aa v29 (aa v28 aQ))))))))))))) ?_
   dsimp only [bU]
   clear hJ
   first | refine gS ?_ | (refine gT ?_; (first | refine dk rfl rfl (by first | rfl | assumption | decide) (by decide) ?_ | refine dp rfl rfl (by first | assumption | decide) (by decide) ?_)) | refine gV ?_
   first | refine cw ?_ | refine cx ?_
   refine ah (cF (al (aj (ai ?_))))
   refine aR 8 [[(6, none)], [(3, none)], [(63, some 1)], [(3, none)], [(65, some 3)], [(66, some 4)], [(64, some 2), (67, some 5)], [(68, some 6)]] [(7, 69), (6, 68), (5, 67), (4, 66), (3, 65), (2, 64), (1, 63), (0, 62)] hh mixed (by kernel_rfl) ?_
   refine fp ?_
   refine cf ?_
   refine df 1 ?_
   refine cf ?_
   refine eL 1 [_,_,_] ?_
   refine dC (fun _ hj => hfo _) ?_
   refine dB [_,_,_,_] ?_
   refine vp [_,_,_,_] ?_
   refine a0 ?_
   intro f W hJ hV
   have hb_8 := hJ.bl
   obtain ⟨v69, v68, v67, v66, v65, v64, v63, v62, _⟩ := hV
   obtain ⟨A69, c69, e69, f69⟩ : Rows _ _ _ (f 7) W := v69
   replace hh := hJ.hp
   refine aO (a4 (aa e69 (aa v68 (aa v67 (aa v66 (aa v65 (aa v64 (aa v63 (aa v62 aQ))))))))) ?_
   dsimp only [bU]
   clear e69 hJ
   refine bQ hh (i := 0) rfl rfl rfl (f69) aF.out aC.out rfl (by decide) (by first | rfl | exact ck _ | exact bW _ | exact oneCells_i64s _ | exact bm NR.one _) (by omega) (by omega) (by decide) ?_
   intro A70 c70 w70 hh
   simp only [List.set_cons_zero] at hh
   refine aL (ah (sr (mL (mL (mI ?_)))))
   refine a3 rfl rfl (by decide) (fO aF.out aC.size rfl rfl (l := i) (by omega) (by omega) (by omega)) ?_
   refine bQ hh (i := 0) rfl rfl rfl (hS2.ext hh.below) aF.out aC.out rfl (by decide) ?one13 (by omega) (by omega) (by decide) ?kk13
   case one13 => first | rfl | assumption | exact oneCells_i64s _ | exact oneCells_u8s _
   intro A75 c75 w75 hh
   simp only [List.set_cons_zero] at hh
   refine aL (ah (an ?_))
   refine cb ?_
   have e1 : (fk l x).length = 0 + i + 1 + (i - i) := by rw [hput, List.length_append, List.length_cons, List.length_take, List.length_drop]; omega
   have e2 : a5 TR.cells (fk l x) = [] ++ a5 TR.cells (l.take i) ++ [.string x.m, .bool (nR x.c.d).neg, .string (nR x.c.d).bT, .int .i64 (nR x.c.d).e] ++ a5 TR.cells (l.drop i) := by rw [hput, cg, fG, List.nil_append, List.append_assoc]; rfl
   exact ⟨_, _, by rw [e1], by rw [e1, e2]; exact hh.sub (List.Sublist.cons_cons _ (List.nil_sublist _))⟩
theorem oE {k : Nat} {l : List TR} (ho : iS k l) (hk : k + l.length ≤ 3999980) : iS (k + l.length) (fS l) := fun t ht => by
 have h := ru l (fun t ht => (ho t ht).2) t ht
 exact ⟨by rw [q8 l t ht]; exact h.ok (by omega), h⟩
theorem ko (v : Int) (A : Option Addr) (n c : Nat) (l : List TR) (k : Nat) (w : World) (hS : Sl w A n 4 (a5 TR.cells l)) (hn : n ≤ 100000) (ho : iS k l) (hk : k + n ≤ 3999980) :
  Calls Tryz.prog 96 #[.int .i64 v, .slice A n c] w fun r w' => ∃ g : PX, cV (hF l) v (bg l) g ∧ r = .returned (.tuple #[.agg #[.int .i64 g.v, .slice g.A g.n g.c], .int .i64 (hF l)]) ∧ Hp w [g.row] w' := by
 have hh := Hp.start w
 have hln := hS.bX TR.len (by decide)
 refine ak (N := 49) (l := [.int .i64 v, .slice A n c]) Tryz.func96 rfl rfl (by simp) ?_
 refine sr ?_
 refine cm hh ?_
 intro b4 w4 hh
 refine aI (ah (sr (aL (ah (ai (sr (aI (ah (ao ?_)))))))))
 replace hh := hh.dY 58 4
 refine cd [6, 7, 10, 11, 12, 13, 14, 15, 16, 17, 18, 19, 20, 21] 6 7
  (fun a x w' => ∃ (i : Nat) (A' : Option Addr) (c' : Nat), i ≤ n ∧ x = .int .i64 i ∧ a = .slice A' (fS (l.take i)).length c' ∧ Hp w [.row A' (fS (l.take i)).length c' 58 4 (a5 TR.cells (fS (l.take i))), .blk b4 31 [.int .i64 0, .slice none 0 0] (0, 0)] w')
  (fun _ x _ => n - (intOf x).toNat) ?_ ?_
 ·exact ⟨0, none, 0, Nat.zero_le _, rfl, rfl, hh⟩
 ·clear hh
  rintro ρ' a_ x_ w' ⟨i, A', c', hi, rfl, rfl, hh⟩
  have hGl := pr (l.take i)
  rw [List.length_take] at hGl
  by_cases hlt : i < n
  ·obtain ⟨x, hx⟩ := aD (l := l) (k := i) (by omega)
   obtain ⟨ad, rfl, hr⟩ := hS.at_ (by omega)
   have hgo := oE (l := l.take i) (k := k) (fun t ht => ho t (List.mem_of_mem_take ht)) (by rw [List.length_take]; omega)
   refine ai (sr (mI (mL (aW ?_))))
   refine aN (ah (cT (al (aj (ai (ao (aq (mL (mL (mI ?_))))))))))
   refine aV (k := i) aF.out aC.size rfl rfl (by omega) (by omega) (by decide) ?_
   refine bK (vs := [_, _, _, _]) aC.out rfl ((hr.ext hh.below).recAt TR.len hx) rfl (by decide) ?_
   refine aP (tu A' (fS (l.take i)).length c' (fS (l.take i)) x _ (hh.aJ (i := 0) rfl) (hh.fW (i := 0) rfl) (by omega) (fun t ht => (hgo t ht).1) (ho x (List.mem_of_getElem? hx)).1) ar.out rfl (by decide) ?_
   rintro e_ w21 ⟨A2, c2, rfl, h3⟩
   refine ⟨_, rfl, ?_⟩
   replace hh := hh.join h3
   simp only [List.cons_append, List.nil_append] at hh
   rw [← fw, ← aM hx] at hh ⊢
   refine aL (aE (aY (aj (aq (mI ?_)))))
   refine bF (aI (aE (aj ?_)))
   replace hh := hh.sub (List.Sublist.cons_cons _ (List.Sublist.cons _ (List.Sublist.cons_cons _ List.Sublist.slnil)))
   refine ⟨⟨i + 1, A2, c2, by omega, rfl, rfl, hh⟩, by show n - (i + 1) < n - i; omega, ?_⟩
   (repeat (first | exact ax _ _ _ | refine az rfl ?_ | refine aw rfl ?_))
  ·obtain rfl : i = n := by omega
   rw [List.take_of_length_le (by omega)] at hh hGl ⊢
   have hgo := oE ho (by omega)
   have hgt : bg l = (fS l).filter kb := rfl
   unfold hF
   rw [hgt]
   generalize fS l = G at *
   obtain ⟨m, hm⟩ : ∃ m, m = G.length := ⟨_, rfl⟩
   rw [← hm] at hh ⊢
   refine ai (sr (mI (mL (aW ?_))))
   refine aN (ah (cF ?_))
   refine aU ?_
   refine ay (ay (a7 (aj (sr (aL (ah (ai (sr (aI (ah (ao ?_)))))))))))
   replace hh := hh.dY 58 4
   refine cd [8, 9, 22, 23, 24, 25, 26, 27, 28, 29, 30, 31, 32, 33, 34, 35, 36, 37, 38, 39, 40, 41] 8 9
    (fun a x w' => ∃ (j : Nat) (B : Option Addr) (d : Nat), j ≤ m ∧ x = .int .i64 j ∧ a = .slice B ((G.take j).filter kb).length d ∧ Hp w [.row B ((G.take j).filter kb).length d 58 4 (a5 TR.cells ((G.take j).filter kb)), .row A' m c' 58 4 (a5 TR.cells G), .blk b4 31 [.int .i64 0, .slice none 0 0] (0, 0)] w')
    (fun _ x _ => m - (intOf x).toNat) ?_ ?_
   ·exact ⟨0, none, 0, Nat.zero_le _, rfl, rfl, hh⟩
   ·clear hh
    rintro ρ2 a2 x2 w2 ⟨j, B, d, hj, rfl, rfl, hh⟩
    have hfl : ((G.take j).filter kb).length ≤ j := Nat.le_trans (List.length_filter_le _ _) (by rw [List.length_take]; omega)
    by_cases hjm : j < m
    ·obtain ⟨t, ht⟩ := aD (l := G) (k := j) (by omega)
     have hto := hgo t (List.mem_of_getElem? ht)
     have hsg := fun w1 => dW t.c w1 (by have := hto.1.1; omega)
     have hzz : t.c.i.sign = 0 ↔ t.c.d = 0 := by
      rw [Int.sign_eq_zero_iff_zero]
      exact ⟨fun h => by unfold NR.d; rw [h]; rfl, gk⟩
     obtain ⟨g0, rfl⟩ := hh.fm (i := 1) rfl (by omega)
     by_cases hz : t.c.d = 0
     ·have hs := hzz.2 hz
      have hft : (G.take (j + 1)).filter kb = (G.take j).filter kb := by
       rw [aM ht, List.filter_append, List.filter_cons, if_neg (by unfold kb; rw [decide_eq_true hz]; decide)]
       simp
      refine ai (sr (mI (mL (aW ?_))))
      refine aN (ah (cT (al (aj (ai (ao (sr (mL (mI ?_)))))))))
      refine bj (k := j) aF.out aC.size rfl rfl (by omega) (by omega) (by decide) ?_
      refine bI ?_
      refine bK (vs := [_, _, _]) aC.out rfl ((hh.jH (f := TR.cells) (x := t) (l := G) (i := 1) rfl TR.len (by decide) ht).drop 1) rfl (by decide) ?_
      refine bz hh (hsg _) rfl ?_
      intro w33 hh
      refine dQ (ah (cF (al (aY (aj (aq (mI ?_)))))))
      refine bF (aI (aE (aj ?_)))
      refine ⟨⟨j + 1, B, d, by omega, rfl, by rw [hft]; rfl, by rw [hft]; exact hh⟩, by show m - (j + 1) < m - j; omega, ?_⟩
      (repeat (first | exact ax _ _ _ | refine az rfl ?_ | refine aw rfl ?_))
     ·have hs : ¬ t.c.i.sign = 0 := fun h => hz (hzz.1 h)
      have hft : (G.take (j + 1)).filter kb = (G.take j).filter kb ++ [t] := by
       rw [aM ht, List.filter_append, List.filter_cons, if_pos (by unfold kb; rw [decide_eq_false hz]; rfl)]
       simp
      refine ai (sr (mI (mL (aW ?_))))
      refine aN (ah (cT (al (aj (ai (ao (sr (mL (mI ?_)))))))))
      refine bj (k := j) aF.out aC.size rfl rfl (by omega) (by omega) (by decide) ?_
      refine bI ?_
      refine bK (vs := [_, _, _]) aC.out rfl ((hh.jH (f := TR.cells) (x := t) (l := G) (i := 1) rfl TR.len (by decide) ht).drop 1) rfl (by decide) ?_
      refine bz hh (hsg _) rfl ?_
      intro w33 hh
      refine dQ (ah (cT (aq (mL (mL (mI ?_))))))
      refine bj (k := j) aF.out aC.size rfl rfl (by omega) (by omega) (by decide) ?_
      refine bK (vs := [_, _, _, _]) aC.out rfl (hh.jH (f := TR.cells) (x := t) (l := G) (i := 1) rfl TR.len (by decide) ht) rfl (by decide) ?_
      refine bs hh (cs := [_, _, _, _]) aF.out aC.out (br (dL rfl) cn) rfl rfl (by decide) (by decide) (by decide) rfl (by decide) ?_
      intro b40 w40 hh
      refine bQ hh (i := 1) rfl rfl rfl (hh.aJ (i := 0) rfl) aF.out aC.out rfl (by decide) (by first | rfl | exact ck _ | exact bW _ | exact oneCells_i64s _ | exact bm NR.one _) (by omega) (by omega) (by decide) ?_
      intro A41 c41 w41 hh
      simp only [List.set_cons_zero, List.set_cons_succ] at hh
      replace hh := hh.sub (List.sublist_cons_self _ _)
      refine aL (aE (aY (aj (aq (mI ?_)))))
      refine bF (aI (aE (aj ?_)))
      refine ⟨⟨j + 1, A41, c41, by omega, rfl, by rw [hft, List.length_append]; rfl, by rw [hft, List.length_append, cg, lr]; exact hh⟩, by show m - (j + 1) < m - j; omega, ?_⟩
      (repeat (first | exact ax _ _ _ | refine az rfl ?_ | refine aw rfl ?_))
    ·obtain rfl : j = m := by omega
     rw [List.take_of_length_le (by omega)] at hh hfl ⊢
     generalize G.filter kb = F at *
     by_cases h4 : 4096 < F.length
     ·rw [if_pos h4]
      refine ai (sr (mI (mL (aW ?_))))
      refine aN (ah (cF ?_))
      refine aU ?_
      refine ay (ay (a7 (aj (ai (sr (mL (aW ?_)))))))
      refine bO (ah (cT (sr ?_)))
      refine eh [_,_] ?_
      refine bE hh 2 [_,_] ?_
      intro ws hh
      replace hh : Hp _ (_ :: _ :: .blk _ _ [_, _] _ :: _) _ := hh
      refine aI (ah (an (aA ?_)))
      refine iL (aH rfl (aK (vs := [_, _]) aC.out (hh.au (i := 2) (n := 2) rfl rfl) rfl) (bZ (cv rfl) a6)) ?_
      exact ⟨PX.nil, cV.err (by decide), rfl, (hh.sub (List.nil_sublist _)).gd⟩
     ·rw [if_neg h4]
      refine ai (sr (mI (mL (aW ?_))))
      refine aN (ah (cF ?_))
      refine aU ?_
      refine ay (ay (a7 (aj (ai (sr (mL (aW ?_)))))))
      refine bO (ah (cF (al (aj (sr (mI (mL ?_)))))))
      refine eh [_,_] ?_
      refine bE hh 2 [_,_] ?_
      intro ws hh
      replace hh : Hp _ (_ :: _ :: .blk _ _ [_, _] _ :: _) _ := hh
      refine aI (ah (an ?_))
      refine iL (aH rfl (aK (vs := [_, _]) aC.out (hh.au (i := 2) (n := 2) rfl rfl) rfl) (bZ (cv rfl) a6)) ?_
      exact ⟨⟨v, B, F.length, d, F⟩, ⟨rfl, rfl⟩, rfl, hh.sub (List.Sublist.cons_cons _ (List.nil_sublist _))⟩
end Go.Proofs.YtkgdagjklakajaaGreatDoor
/- Plain: products of rows of terms. No program in sight. -/
namespace Go.Proofs.YtkgdagjklakajaaGreatDoor
open Go.RowKit
def mulM (a b : ByteArray) : ByteArray := str (mulL a.data.toList b.data.toList).1
def jg (a b : ByteArray) : Int := (mulL a.data.toList b.data.toList).2
def kt (x y : TR) : TR := ⟨mulM x.m y.m, nR (x.c.d * y.c.d)⟩
def cM (p q : List TR) : List TR := p.flatMap fun x => q.map (kt x)
def nO (p q : List TR) : List Int := p.flatMap fun x => q.map fun y => jg x.m y.m
def eU (p q : List TR) : Int := if 65536 < p.length * q.length then 3 else match (nO p q).find? fun e => decide (e ≠ 0) with | some e => e | none => if 4096 < (bg (cM p q)).length then 3 else 0
theorem rZ {α β : Type} {f : α → List β} {k : Nat} : ∀ {l : List α}, (∀ x ∈ l, (f x).length = k) → (l.flatMap f).length = l.length * k
 | [], _ => by simp
 | x :: l, h => by
  rw [List.flatMap_cons, List.length_append, h x List.mem_cons_self, rZ fun y hy => h y (List.mem_cons_of_mem _ hy), List.length_cons, Nat.succ_mul, Nat.add_comm]
theorem jX (p q : List TR) : (cM p q).length = p.length * q.length := rZ fun x _ => List.length_map _
theorem gK {α β γ : Type} {f : α → β → γ} {p : List α} {q : List β} {i : Nat} {x : α} (hx : p[i]? = some x) :
  ((p.take (i + 1)).flatMap fun x => q.map (f x)) = ((p.take i).flatMap fun x => q.map (f x)) ++ (q.take q.length).map (f x) := by
 rw [aM hx, List.flatMap_append, List.take_of_length_le (Nat.le_refl _)]
 simp
theorem nG {α β γ : Type} {f : α → β → γ} {p : List α} {q : List β} {i j : Nat} {x : α} {y : β} (hx : p[i]? = some x) (hy : q[j]? = some y) :
  ∃ R, (p.flatMap fun x => q.map (f x)) = (((p.take i).flatMap fun x => q.map (f x)) ++ (q.take j).map (f x)) ++ f x y :: R := by
 refine ⟨(q.drop (j + 1)).map (f x) ++ (p.drop (i + 1)).flatMap fun x => q.map (f x), ?_⟩
 have e1 : p = p.take i ++ x :: p.drop (i + 1) := by rw [← jk hx, List.take_append_drop]
 have e2 : q = q.take j ++ y :: q.drop (j + 1) := by rw [← jk hy, List.take_append_drop]
 have e3 : q.map (f x) = (q.take j).map (f x) ++ f x y :: (q.drop (j + 1)).map (f x) := by
  rw [← List.map_cons, ← List.map_append, ← e2]
 calc (p.flatMap fun x => q.map (f x)) = (p.take i ++ x :: p.drop (i + 1)).flatMap fun x => q.map (f x) := by rw [← e1]
  _ = _ := by rw [List.flatMap_append, List.flatMap_cons, e3]; simp
theorem nx {k j : Nat} {p q : List TR} (hp : iS k p) (hq : iS j q) (h : k + j ≤ 1000000) : iS (k + j) (cM p q) := fun t ht => by
 obtain ⟨x, hx, ht⟩ := List.mem_flatMap.1 ht
 obtain ⟨y, hy, rfl⟩ := List.mem_map.1 ht
 have hs := (hp x hx).2.mul (hq y hy).2
 exact ⟨hs.ok (by omega), by show Sz _ (nR _).d; rw [eQ]; exact hs⟩
theorem u6 (a b : ByteArray) : (mulM a b).size ≤ b.size := by
 unfold mulM
 rw [gU]
 unfold mulL
 split
 ·rename_i l hl
  have := (vr hl).2.2
  have h4 : l.length ≤ b.data.toList.length := by rw [this.2, List.length_zipWith, eA, eA]; omega
  have h5 : (xc l).length ≤ l.length := by unfold xc; split <;> simp
  rw [dD]
  exact Nat.le_trans h5 h4
 ·exact Nat.zero_le _
end Go.Proofs.YtkgdagjklakajaaGreatDoor
/- Plain laws of sums and products of rows of terms; what is in the one form. No program in sight. -/
namespace Go.Proofs.YtkgdagjklakajaaGreatDoor
open Go.RowKit
def Ah (c : Dyadic) (t : TR) : TR := ⟨t.m, nR (t.c.d * c)⟩
theorem jZ {v : Int} {ts : List TR} (h : gF v ts = 0) : gm v = true ∧ ts.length ≤ 4096 ∧ (∀ t ∈ ts, kv v t = true) ∧ Canon ts := by
 unfold gF at h
 cases hf : gm v with
 | false => rw [hf, if_pos rfl] at h; omega
 | true =>
  rw [if_neg (by rw [hf]; decide)] at h
  by_cases h4 : 4096 < ts.length
  ·rw [if_pos h4] at h; omega
  ·rw [if_neg h4] at h
   by_cases ho : okB v ts = true
   ·unfold okB at ho
    rw [Bool.and_eq_true] at ho
    have hg : ∀ t ∈ ts, gl v t = true := List.all_eq_true.1 ho.1
    refine ⟨rfl, by omega, fun t ht => ?_, lz.1 ho.2, fun t ht => ?_, fun t ht => ?_⟩
    ·exact (Bool.and_eq_true_iff.1 (hg t ht)).1
    ·exact td (Bool.and_eq_true_iff.1 (Bool.and_eq_true_iff.1 (hg t ht)).2).1
    ·exact ((jY _).1 (Bool.and_eq_true_iff.1 (Bool.and_eq_true_iff.1 (hg t ht)).2).2).symm
   ·rw [if_neg ho] at h; omega
theorem xT {v : Int} {ts : List TR} (hf : gm v = true) (h4 : ts.length ≤ 4096) (hm : ∀ t ∈ ts, kv v t = true) (hc : Canon ts) : gF v ts = 0 := by
 unfold gF
 rw [if_neg (by rw [hf]; decide), if_neg (by omega), if_pos]
 unfold okB
 rw [Bool.and_eq_true]
 refine ⟨List.all_eq_true.2 fun t ht => ?_, lz.2 hc.pN⟩
 show (kv v t && (kb t && z8 t.c)) = true
 rw [hm t ht, (jY _).2 (hc.nf t ht).symm]
 unfold kb
 rw [decide_eq_false (hc.nz t ht)]
 rfl
theorem jM {p q : List TR} (h : eU p q = 0) : p.length * q.length ≤ 65536 ∧ (∀ e ∈ nO p q, e = 0) ∧ (bg (cM p q)).length ≤ 4096 := by
 unfold eU at h
 by_cases h6 : 65536 < p.length * q.length
 ·rw [if_pos h6] at h; omega
 ·rw [if_neg h6] at h
  split at h
  ·rename_i e he
   have := List.find?_some he
   rw [decide_eq_true_eq] at this
   exact absurd h this
  ·rename_i he
   refine ⟨by omega, fun e hm => ?_, ?_⟩
   ·have := List.find?_eq_none.1 he e hm
    simpa using this
   ·by_cases h4 : 4096 < (bg (cM p q)).length
    ·rw [if_pos h4] at h; omega
    ·omega
end Go.Proofs.YtkgdagjklakajaaGreatDoor
/- The walk through poly.Add. -/
namespace Go.Proofs.YtkgdagjklakajaaGreatDoor
open Go.RowKit
def jy (ps : List PX) : Int := (ps.map PX.v).headD 0
def ud (ps : List PX) : List TR := ps.flatMap PX.ts
def y9 (ps : List PX) : Int := if fV ps = 0 then hF (ud ps) else fV ps
theorem pF {ps : List PX} (h : fV ps = 0) : ps ≠ [] ∧ (∀ g ∈ ps, g.e = 0) ∧ ∀ g ∈ ps, g.v = jy ps := by
 unfold fV at h
 split at h
 ·rename_i f hf
  have := List.find?_some hf
  simp at this
  exact absurd h this
 ·rename_i hf
  split at h
  ·cases h
  rename_i hno
  refine ⟨fun e => hno (.inl (by rw [e]; rfl)), fun f hm => ?_, fun f hm => ?_⟩
  ·have := List.find?_eq_none.1 hf f hm
   simpa using this
  ·apply Classical.byContradiction
   intro hne
   exact hno (.inr (List.any_eq_true.2 ⟨f, hm, decide_eq_true hne⟩))
theorem pJ {α β : Type} {f : α → List β} {B : Nat} : ∀ {l : List α}, (∀ x ∈ l, (f x).length ≤ B) → (l.flatMap f).length ≤ l.length * B
 | [], _ => by simp
 | x :: l, h => by
  rw [List.flatMap_cons, List.length_append, List.length_cons, Nat.succ_mul]
  have h1 := h x List.mem_cons_self
  have h2 := pJ fun y hy => h y (List.mem_cons_of_mem _ hy)
  omega
theorem vy {α β : Type} {f : α → List β} {l : List α} {i : Nat} {x : α} (h : l[i]? = some x) : (l.take (i + 1)).flatMap f = (l.take i).flatMap f ++ f x := by
 rw [aM h, List.flatMap_append]
 simp
theorem sU {l k : List TR} (h : bg l = bg k) : hF l = hF k := by unfold hF; rw [h]
theorem nF {ps : List PX} {g : PX} (h : ps[0]? = some g) : jy ps = g.v := by
 rcases ps with _ | ⟨f, l⟩
 ·cases h
 ·have : f = g := by simpa using h
  rw [← this]; rfl
theorem sI (L : Option Addr) (n c : Nat) (ps : List PX) (k : Nat) (w : World) (hT : g9 w) (hL : Sl w L n 2 (a5 PX.cells ps)) (hn : n ≤ 100) (hf : ∀ g ∈ ps, g.at_ w) (hl : ∀ g ∈ ps, g.mw k) (hk : k ≤ 2999000) :
  Calls Tryz.prog 37 #[.slice L n c] w fun r w' => ∃ g : PX, cV (y9 ps) (jy ps) (bg (ud ps)) g ∧ r = .returned (.tuple #[.agg #[.int .i64 g.v, .slice g.A g.n g.c], .int .i64 (y9 ps)]) ∧ Hp w [g.row] w' := by
 have hh := Hp.start w
 have hln := hL.bX PX.len (by decide)
 have hlk := fun w1 hT1 hb => md L n c ps k w1 hT1 (hL.ext hb) (by omega) (fun g hg => (hf g hg).ext hb) hl
 unfold y9
 by_cases h0 : fV ps = 0
 ·rw [if_pos h0]
  rw [h0] at hlk
  obtain ⟨hne, hev, hvv⟩ := pF h0
  have hpos := List.length_pos_iff.2 hne
  obtain ⟨g0, h00⟩ := aD (l := ps) (k := 0) hpos
  rw [nF h00]
  have hfl : (ud ps).length ≤ ps.length * 4096 := pJ fun g hg => (jZ (hev g hg)).2.1
  obtain ⟨ad, rfl, hr⟩ := hL.at_ (by omega)
  refine ak (N := 33) (l := [.slice (some ad) n c]) Tryz.func37 rfl rfl (by simp) ?_
  refine sr ?_
  refine cm hh ?_
  intro b2 w2 hh
  refine aI (ah (ai (sr (mL ?_))))
  refine bz hh (hlk _ (hT.hp hh) hh.below) rfl ?_
  intro w9 hh
  refine aI (ah (sr (mI ?_)))
  refine dQ (ah (cF (al (aj (sr (aL (ah (ai (sr (mL (aW ?_)))))))))))
  refine mI (ah (ao ?_))
  replace hh := hh.dY 58 4
  refine cd [5, 7, 16, 17, 18, 19, 20, 21, 22, 23, 24] 5 16
   (fun a x w' => ∃ (i : Nat) (M : List TR) (A' : Option Addr) (c' : Nat), i ≤ n ∧ x = .int .i64 i ∧ a = .slice A' M.length c' ∧ MD (k + i) ((ps.take i).flatMap PX.ts) M ∧ Hp w [.row A' M.length c' 58 4 (a5 TR.cells M), .blk b2 31 [.int .i64 0, .slice none 0 0] (0, 0)] w')
   (fun _ x _ => n - (intOf x).toNat) ?_ ?_
  ·exact ⟨0, [], none, 0, Nat.zero_le _, rfl, rfl, MD.self List.Pairwise.nil (fun t ht => nomatch ht), hh⟩
  ·clear hh
   rintro ρ' a_ x_ w' ⟨i, M, A', c', hi, rfl, rfl, hmd, hh⟩
   have hfi : ((ps.take i).flatMap PX.ts).length ≤ i * 4096 := by
    have := pJ (f := PX.ts) (B := 4096) (l := ps.take i) fun g hg => (jZ (hev g (List.mem_of_mem_take hg))).2.1
    rwa [List.length_take, Nat.min_eq_left (by omega)] at this
   have hML := hmd.len
   by_cases hlt : i < n
   ·obtain ⟨g, hx⟩ := aD (l := ps) (k := i) (by omega)
    have hmem := List.mem_of_getElem? hx
    have hgl := hl g hmem
    have hge := jZ (hev g hmem)
    have hgc := hgl.cap
    have hgn := hgl.n
    refine sr ?_
    refine aN (ah (ai (cT (al (aj (ai (ao (sr ?_))))))))
    refine aV (k := i) aF.out aC.size rfl rfl (by omega) (by omega) (by decide) ?_
    refine bK (vs := [_, _]) aC.out rfl ((hr.ext hh.below).recAt PX.len hx) rfl (by decide) ?_
    refine cm hh ?_
    intro b7 w7 hh
    refine bE hh 0 [_,_] ?_
    intro ws hh
    replace hh : Hp _ (.blk _ _ [_, _] _ :: _) _ := hh
    refine ah (aq (mL (bI ?_)))
    refine bL hh 0 ?_
    refine aP (k5 A' M.length c' M g.A g.n g.c g.ts (k + i) _ (hT.hp hh) (hh.aJ (i := 1) rfl) ((hf g hmem).ext hh.below) (hh.fW (i := 1) rfl) hgc (by omega) hgn (by omega) hmd.pN hge.2.2.2.pN hmd.ok (hgl.ok.mono (by omega))) ar.out rfl (by decide) ?_
    rintro e_ w23 ⟨L2, A2, c2, hm2, rfl, h3⟩
    refine ⟨_, rfl, ?_⟩
    replace hh := hh.join h3
    simp only [List.cons_append, List.nil_append] at hh
    refine aL (aE (aY (aj (aq ?_))))
    refine bF (mI (aE (aj ?_)))
    replace hh := hh.sub (List.Sublist.cons_cons _ (List.Sublist.cons _ (List.Sublist.cons _ (List.Sublist.cons_cons _ List.Sublist.slnil))))
    refine ⟨⟨i + 1, L2, A2, c2, by omega, rfl, rfl, ?_, hh⟩, by show n - (i + 1) < n - i; omega, ?_⟩
    ·rw [vy hx]
     exact hmd.wK (MD.self hge.2.2.2.pN (hgl.ok.mono (by omega) : iS (k + i) g.ts)) hm2 (by omega)
    ·(repeat (first | exact ax _ _ _ | refine az rfl ?_ | refine aw rfl ?_))
   ·obtain rfl : i = n := by omega
    rw [List.take_of_length_le (by omega)] at hmd hfi hML
    have hgM : bg M = bg (ud ps) := qg hmd.co
    have hgE := sU hgM
    refine sr ?_
    refine aN (ah (ai (cF ?_)))
    refine aU ?_
    refine ay (ay (a7 (aj (sr (mL ?_)))))
    refine aV (k := 0) aF.out aC.size rfl rfl (by omega) (by omega) (by decide) ?_
    refine db eu.out rfl (by decide) ?_
    refine bu aC.out rfl (cD hh.below ((hr.recAt PX.len h00) 0 _ rfl)) (by decide) ?_
    refine mL ?_
    refine aP (jt _ A' M.length c' M (k + i) _ hT hh rfl (by omega) (by omega) hmd.ok) ar.out rfl (by decide) ?_
    rintro e_ w30 ⟨g, og, rfl, hh⟩
    refine ⟨_, rfl, ?_⟩
    refine dJ ?_
    refine dJ ?_
    refine bE hh 1 [_,_] ?_
    intro ws hh
    replace hh : Hp _ (_ :: .blk _ _ [_, _] _ :: _) _ := hh
    refine aI (ah (an ?_))
    refine iL (aH rfl (aK (vs := [_, _]) aC.out (hh.au (i := 1) (n := 2) rfl rfl) rfl) (bZ (cv rfl) a6)) ?_
    rw [← hgE, ← hgM]
    exact ⟨g, og, rfl, hh.sub (List.Sublist.cons_cons _ (List.nil_sublist _))⟩
 ·rw [if_neg h0]
  generalize fV ps = e at *
  refine ak (N := 33) (l := [.slice L n c]) Tryz.func37 rfl rfl (by simp) ?_
  refine sr ?_
  refine cm hh ?_
  intro b2 w2 hh
  refine aI (ah (ai (sr (mL ?_))))
  refine bz hh (hlk _ (hT.hp hh) hh.below) rfl ?_
  intro w9 hh
  refine aI (ah (sr (mI ?_)))
  refine dQ (ah (cT (sr ?_)))
  refine eh [_,_] (mI ?_)
  refine bE hh 0 [_,_] ?_
  intro ws hh
  replace hh : Hp _ (.blk _ _ [_, _] _ :: _) _ := hh
  refine aI (ah (an (aA ?_)))
  refine iL (aH rfl (aK (vs := [_, _]) aC.out (hh.au (i := 0) (n := 2) rfl rfl) rfl) (bZ (cv rfl) a6)) ?_
  exact ⟨PX.nil, cV.err h0, rfl, (hh.sub (List.nil_sublist _)).gd⟩
end Go.Proofs.YtkgdagjklakajaaGreatDoor
/- The walk through poly.times. -/
namespace Go.Proofs.YtkgdagjklakajaaGreatDoor
open Go.RowKit
theorem qP {p q : List TR} (h : 65536 < p.length * q.length) : eU p q = 3 := by unfold eU; rw [if_pos h]
theorem tU {p q : List TR} {e : Int} (h6 : ¬ 65536 < p.length * q.length) {a b : List Int} (h : nO p q = a ++ e :: b) (ha : ∀ x ∈ a, x = 0) (he : e ≠ 0) : eU p q = e := by
 unfold eU
 rw [if_neg h6, h, List.find?_append, gJ (List.any_eq_false.2 fun x hx => by simp [ha x hx]), List.find?_cons_of_pos (p := fun e : Int => decide (e ≠ 0)) (by simpa using he)]
 rfl
theorem m0 {p q : List TR} (h6 : ¬ 65536 < p.length * q.length) (h : ∀ x ∈ nO p q, x = 0) : eU p q = hF (cM p q) := by
 unfold eU hF
 rw [if_neg h6, gJ (List.any_eq_false.2 fun x hx => by simp [h x hx])]
theorem kO (p q : PX) (k k2 : Nat) (w : World) (hT : g9 w) (hp : p.at_ w) (hq : q.at_ w) (lp : p.mw k) (lq : q.mw k2) (hk : k + k2 ≤ 900000) :
  Calls Tryz.prog 104 #[.agg #[.int .i64 p.v, .slice p.A p.n p.c], .agg #[.int .i64 q.v, .slice q.A q.n q.c]] w fun r w' => ∃ g : PX, cV (eU p.ts q.ts) p.v (bg (cM p.ts q.ts)) g ∧ r = .returned (.tuple #[.agg #[.int .i64 g.v, .slice g.A g.n g.c], .int .i64 (eU p.ts q.ts)]) ∧ Hp w [g.row] w' := by
 have hh := Hp.start w
 obtain ⟨pv, pA, pn, pc, ps⟩ := p
 obtain ⟨qv, qA, qn, qc, qs⟩ := q
 have hpl : ps.length = pn := hp.ln
 have hql : qs.length = qn := hq.ln
 have hpn : pn ≤ 1000000 := lp.n
 have hqn : qn ≤ 1000000 := lq.n
 have okp : iS k ps := lp.ok
 have okq : iS k2 qs := lq.ok
 have szp : ∀ t ∈ ps, t.m.size ≤ 100000 := lp.sz
 have szq : ∀ t ∈ qs, t.m.size ≤ 100000 := lq.sz
 replace hp : Sl w pA pn 4 (a5 TR.cells ps) := hp
 replace hq : Sl w qA qn 4 (a5 TR.cells qs) := hq
 clear lp lq
 show Calls _ _ _ _ fun r w' => ∃ g : PX, cV (eU ps qs) pv (bg (cM ps qs)) g ∧ r = .returned (.tuple #[.agg #[.int .i64 g.v, .slice g.A g.n g.c], .int .i64 (eU ps qs)]) ∧ Hp w [g.row] w'
 have hmm : pn * qn ≤ 1000000 * 1000000 := Nat.mul_le_mul hpn hqn
 obtain ⟨m, hm⟩ : ∃ m, m = pn * qn := ⟨_, rfl⟩
 have hmi : (pn : Int) * (qn : Int) = (m : Int) := by rw [hm]; exact (Int.natCast_mul _ _).symm
 by_cases h6 : 65536 < m
 ·rw [qP (by rw [hpl, hql, ← hm]; exact h6)]
  refine ak (N := 67) (l := [.agg #[.int .i64 pv, .slice pA pn pc], .agg #[.int .i64 qv, .slice qA qn qc]]) Tryz.func104 rfl rfl (by simp) ?_
  refine sr ?_
  refine cN hh [_,_] ?_
  intro b2 w2 hh
  refine cN hh [_,_] ?_
  intro b3 w3 hh
  refine cm hh ?_
  intro b4 w4 hh
  refine aI (ah (ai (sr (bI ?_))))
  refine bL hh 2 ?_
  refine aW (bI ?_)
  refine bL hh 1 ?_
  refine aW ?_
  refine mulC ?_
  refine bO (ah (cT (sr ?_)))
  refine eh [_,_] ?_
  refine bE hh 0 [_,_] ?_
  intro ws hh
  replace hh : Hp _ (.blk _ _ [_, _] _ :: _) _ := hh
  refine aI (ah (an (aA ?_)))
  refine iL (aH rfl (aK (vs := [_, _]) aC.out (hh.au (i := 0) (n := 2) rfl rfl) rfl) (bZ (cv rfl) a6)) ?_
  exact ⟨PX.nil, cV.err (by decide), rfl, (hh.sub (List.nil_sublist _)).gd⟩
 ·have hbig : ¬ 65536 < ps.length * qs.length := by rw [hpl, hql, ← hm]; exact h6
  refine ak (N := 67) (l := [.agg #[.int .i64 pv, .slice pA pn pc], .agg #[.int .i64 qv, .slice qA qn qc]]) Tryz.func104 rfl rfl (by simp) ?_
  refine sr ?_
  refine cN hh [_,_] ?_
  intro b2 w2 hh
  refine cN hh [_,_] ?_
  intro b3 w3 hh
  refine cm hh ?_
  intro b4 w4 hh
  refine aI (ah (ai (sr (bI ?_))))
  refine bL hh 2 ?_
  refine aW (bI ?_)
  refine bL hh 1 ?_
  refine aW ?_
  refine mulC ?_
  refine bO (ah (cF (al (aj (sr (aL (ah (ai (sr (bI ?_))))))))))
  refine bL hh 2 ?_
  refine aW (mI (ah (ao ?_)))
  replace hh := hh.dY 58 4
  have hall : ∀ i, ((ps.take i).flatMap fun x => qs.map (kt x)).length ≤ 65536 := fun i => by
   have h1 : (cM ps qs).length = ((ps.take i).flatMap fun x => qs.map (kt x)).length + ((ps.drop i).flatMap fun x => qs.map (kt x)).length := by
    unfold cM
    rw [← List.length_append, ← List.flatMap_append, List.take_append_drop]
   rw [jX] at h1
   omega
  refine cd [5, 6, 8, 10, 11, 12, 25, 26, 27, 28, 29, 30, 31, 32, 33, 34, 35, 36, 37, 38, 39, 40, 41, 42, 43, 44, 45, 46, 47, 48, 49, 50, 51, 52, 53, 54, 55, 56, 57, 58, 59, 60] 6 25
   (fun a x w' => ∃ (i : Nat) (M : List TR) (A' : Option Addr) (c' : Nat), i ≤ pn ∧ x = .int .i64 i ∧ a = .slice A' M.length c' ∧ M = ((ps.take i).flatMap fun x => qs.map (kt x)) ∧ (∀ e ∈ ((ps.take i).flatMap fun x => qs.map fun y => jg x.m y.m), e = 0) ∧ Hp w [.row A' M.length c' 58 4 (a5 TR.cells M), .blk b4 31 [.int .i64 0, .slice none 0 0] (0, 0), .blk b3 31 [.int .i64 qv, .slice qA qn qc] (0, 0), .blk b2 31 [.int .i64 pv, .slice pA pn pc] (0, 0)] w')
   (fun _ x _ => pn - (intOf x).toNat) ?_ ?_
  ·exact ⟨0, [], none, 0, Nat.zero_le _, rfl, rfl, rfl, fun e he => (nomatch he), hh⟩
  ·clear hh
   rintro ρ' a_ x_ w' ⟨i, M, A', c', hi, rfl, rfl, hM, hz, hh⟩
   have hMl := hall i
   rw [← hM] at hMl
   by_cases hlt : i < pn
   ·obtain ⟨x, hx⟩ := aD (l := ps) (k := i) (by omega)
    obtain ⟨ad, rfl, hr⟩ := hp.at_ (by omega)
    have hxm := List.mem_of_getElem? hx
    have hxo := okp x hxm
    have hxs := szp x hxm
    refine sr ?_
    refine aN (ah (ai (cT (al (aj (ai (ao (sr ?_))))))))
    refine aV (k := i) aF.out aC.size rfl rfl (by omega) (by omega) (by decide) ?_
    refine bK (vs := [_, _, _, _]) aC.out rfl ((hr.ext hh.below).recAt TR.len hx) rfl (by decide) ?_
    refine cm hh ?_
    intro b8 w8 hh
    refine bE hh 0 [_,_,_,_] ?_
    intro ws hh
    replace hh : Hp _ (.blk _ _ [_, _, _, _] _ :: _) _ := hh
    refine ah (sr (bI ?_))
    refine bL hh 3 ?_
    refine aW (mI (ah (ao ?_)))
    replace hh := hh.perm (List.perm_middle (l₁ := [_]))
    simp only [List.cons_append, List.nil_append] at hh
    refine cd [5, 6, 10, 11, 12, 32, 33, 34, 35, 36, 37, 38, 39, 40, 41, 42, 43, 44, 45, 46, 47, 48, 49, 50, 51, 52, 53, 54, 55, 56, 57, 58, 59] 6 32
     (fun a z w' => ∃ (j : Nat) (N : List TR) (A' : Option Addr) (c' : Nat), j ≤ qn ∧ z = .int .i64 j ∧ a = .slice A' N.length c' ∧ N = M ++ (qs.take j).map (kt x) ∧ (∀ e ∈ (qs.take j).map (fun y => jg x.m y.m), e = 0) ∧ Hp w [.row A' N.length c' 58 4 (a5 TR.cells N), .blk b8 58 [.string x.m, .bool x.c.neg, .string x.c.bT, .int .i64 x.c.e] (0, 0), .blk b4 31 [.int .i64 0, .slice none 0 0] (0, 0), .blk b3 31 [.int .i64 qv, .slice qA qn qc] (0, 0), .blk b2 31 [.int .i64 pv, .slice (some ad) pn pc] (0, 0)] w')
     (fun _ z _ => qn - (intOf z).toNat) ?_ ?_
    ·refine ⟨0, M, A', c', Nat.zero_le _, rfl, rfl, by simp, fun e he => (nomatch he), hh⟩
    ·clear hh
     rintro ρ2 a2 x2 w2 ⟨j, N, A2, c2, hj, rfl, rfl, hN, hz2, hh⟩
     by_cases hjn : j < qn
     ·obtain ⟨y, hy⟩ := aD (l := qs) (k := j) (by omega)
      obtain ⟨ad2, rfl, hr2⟩ := hq.at_ (by omega)
      have hym := List.mem_of_getElem? hy
      have hyo := okq y hym
      have hys := szq y hym
      have hmul : ∀ w1, Calls Tryz.prog 175 #[.string x.m, .string y.m] w1 fun r w' => r = .returned (.tuple #[.string (mulM x.m y.m), .int .i64 (jg x.m y.m)]) ∧ Below w1.heap.size w1 w' := fun w1 => uY x.m y.m w1 hxs hys
      have hdm := fun A cc w1 hT1 hS1 => tA A 2 cc [x.c, y.c] w1 hT1 hS1 (by simpa using ⟨hxo.1, hyo.1⟩) (k + k2) (by simpa using ⟨hxo.2.mono (by omega), hyo.2.mono (by omega)⟩) (by omega) (by decide)
      rw [show jv ([x.c, y.c].map NR.d) = x.c.d * y.c.d by show 1 * x.c.d * y.c.d = _; rw [Dyadic.one_mul]] at hdm
      obtain ⟨R, hR⟩ := nG (f := fun x y => jg x.m y.m) hx hy
      have hzz : ∀ e ∈ ((ps.take i).flatMap fun x => qs.map fun y => jg x.m y.m) ++ (qs.take j).map (fun y => jg x.m y.m), e = 0 := fun e he => by
       rcases List.mem_append.1 he with he | he
       ·exact hz e he
       ·exact hz2 e he
      have hNl : N.length < 65536 := by
       have h1 := hall (i + 1)
       rw [gK hx, List.length_append, ← hM] at h1
       rw [hN, List.length_append]
       simp at h1 ⊢
       omega
      by_cases he : jg x.m y.m = 0
      ·refine sr ?_
       refine aN (ah (ai (cT (al (aj (ai (ao (sr ?_))))))))
       refine aV (k := j) aF.out aC.size rfl rfl (by omega) (by omega) (by decide) ?_
       refine bK (vs := [_, _, _, _]) aC.out rfl ((hr2.ext hh.below).recAt TR.len hy) rfl (by decide) ?_
       refine cm hh ?_
       intro b10 w10 hh
       refine bE hh 0 [_,_,_,_] ?_
       intro ws hh
       replace hh : Hp _ (.blk _ _ [_, _, _, _] _ :: _) _ := hh
       refine ah (sr (bI ?_))
       refine bL hh 2 ?_
       refine bI ?_
       refine bL hh 0 ?_
       refine bz hh (hmul _) rfl ?_
       intro w41 hh
       refine mT ?_
       refine dJ ?_
       refine dJ ?_
       refine aS (aI (ah (ai (sr (mI ?_)))))
       refine dQ (ah (cF (al (aj (aq (mL (mS (bI ?_))))))))
       refine dx hh 2 [_,_,_] (bI ?_)
       refine dx hh 0 [_,_,_] ?_
       refine bs hh (cs := [_, _, _, _, _, _]) aF.out aC.out (br (dL rfl) (br (dL rfl) cn)) rfl rfl (by decide) (by decide) (by decide) rfl (by decide) ?_
       intro b54 w54 hh
       refine bz hh (hdm _ _ _ (hT.hp hh) (hh.aJ (i := 0) rfl)) rfl ?_
       intro w55 hh
       refine eh [_,_,_,_] ?_
       refine bs hh (cs := [_, _, _, _]) aF.out aC.out (br (dL rfl) cn) rfl rfl (by decide) (by decide) (by decide) rfl (by decide) ?_
       intro b57 w57 hh
       refine bQ hh (i := 3) rfl rfl rfl (hh.aJ (i := 0) rfl) aF.out aC.out rfl (by decide) (by first | rfl | exact ck _ | exact bW _ | exact oneCells_i64s _ | exact bm NR.one _) (by omega) (by omega) (by decide) ?_
       intro A58 c58 w58 hh
       simp only [List.set_cons_zero, List.set_cons_succ] at hh
       replace hh := hh.sub (List.sublist_cons_self _ _)
       refine aL (aE (aY (aj (aq ?_))))
       refine bF (mI (aE (aj ?_)))
       have e1 : a5 TR.cells N ++ [.string (mulM x.m y.m), .bool (nR (x.c.d * y.c.d)).neg, .string (nR (x.c.d * y.c.d)).bT, .int .i64 (nR (x.c.d * y.c.d)).e] = a5 TR.cells (N ++ [kt x y]) := by rw [cg, lr]; rfl
       replace hh := show Hp w (_ :: _ :: .row A58 (N.length + 1) c58 58 4 (a5 TR.cells N ++ [.string (mulM x.m y.m), .bool (nR (x.c.d * y.c.d)).neg, .string (nR (x.c.d * y.c.d)).bT, .int .i64 (nR (x.c.d * y.c.d)).e]) :: _) w58 from hh
       rw [e1] at hh
       replace hh := hh.sub (List.Sublist.cons _ (List.Sublist.cons _ (List.Sublist.cons_cons _ (List.Sublist.cons_cons _ (List.Sublist.cons_cons _ (List.Sublist.cons_cons _ (List.Sublist.cons_cons _ List.Sublist.slnil)))))))
       refine ⟨⟨j + 1, N ++ [kt x y], _, _, by omega, rfl, by rw [List.length_append]; rfl, by rw [hN, aM hy, List.map_append, List.append_assoc]; rfl, fun e h => ?_, ?_⟩, by show qn - (j + 1) < qn - j; omega, ?_⟩
       ·rw [aM hy, List.map_append, List.mem_append] at h
        rcases h with h | h
        ·exact hz2 e h
        ·rw [List.mem_singleton.1 h]; exact he
       ·rw [List.length_append]; exact hh
       ·(repeat (first | exact ax _ _ _ | refine az rfl ?_ | refine aw rfl ?_))
      ·rw [tU hbig hR hzz he]
       generalize jg x.m y.m = e at *
       refine sr ?_
       refine aN (ah (ai (cT (al (aj (ai (ao (sr ?_))))))))
       refine aV (k := j) aF.out aC.size rfl rfl (by omega) (by omega) (by decide) ?_
       refine bK (vs := [_, _, _, _]) aC.out rfl ((hr2.ext hh.below).recAt TR.len hy) rfl (by decide) ?_
       refine cm hh ?_
       intro b10 w10 hh
       refine bE hh 0 [_,_,_,_] ?_
       intro ws hh
       replace hh : Hp _ (.blk _ _ [_, _, _, _] _ :: _) _ := hh
       refine ah (sr (bI ?_))
       refine bL hh 2 ?_
       refine bI ?_
       refine bL hh 0 ?_
       refine bz hh (hmul _) rfl ?_
       intro w41 hh
       refine mT ?_
       refine dJ ?_
       refine dJ ?_
       refine aS (aI (ah (ai (sr (mI ?_)))))
       refine dQ (ah (cT (sr ?_)))
       refine eh [_,_] (mI ?_)
       refine bE hh 3 [_,_] ?_
       intro ws hh
       replace hh : Hp _ (_ :: _ :: _ :: .blk _ _ [_, _] _ :: _) _ := hh
       refine aI (ah (an (aA (bA (aA (aA (bA (bA (aA (aA (bA ?_)))))))))))
       refine aA ?_
       refine iL (aH rfl (aK (vs := [_, _]) aC.out (hh.au (i := 3) (n := 2) rfl rfl) rfl) (bZ (cv rfl) a6)) ?_
       exact ⟨PX.nil, cV.err he, rfl, (hh.sub (List.nil_sublist _)).gd⟩
     ·obtain rfl : j = qn := by omega
      rw [List.take_of_length_le (by omega)] at hz2 hN
      refine sr ?_
      refine aN (ah (ai (cF ?_)))
      refine aU ?_
      refine ay (ay (a7 (aY (aj (aq ?_)))))
      refine bF (mI (aE (aj ?_)))
      replace hh := hh.sub (List.Sublist.cons_cons _ (List.Sublist.cons _ (List.Sublist.cons_cons _ (List.Sublist.cons_cons _ (List.Sublist.cons_cons _ List.Sublist.slnil)))))
      refine ⟨⟨i + 1, N, A2, c2, by omega, rfl, rfl, by rw [gK hx, ← hM, List.take_of_length_le (by omega)]; exact hN, fun e h => ?_, hh⟩, by show pn - (i + 1) < pn - i; omega, ?_⟩
      ·rw [gK (f := fun (x y : TR) => jg x.m y.m) hx, List.mem_append, List.take_length] at h
       rcases h with h | h
       ·exact hz e h
       ·exact hz2 e h
      ·(repeat (first | exact ax _ _ _ | refine az rfl ?_ | refine aw rfl ?_))
   ·obtain rfl : i = pn := by omega
    rw [List.take_of_length_le (by omega)] at hz hM
    have hMp : M = cM ps qs := hM
    rw [m0 hbig hz, ← hMp]
    have hpo := nx okp okq (by omega)
    rw [← hMp] at hpo
    refine sr ?_
    refine aN (ah (ai (cF ?_)))
    refine aU ?_
    refine ay (ay (a7 (aj (sr (bI ?_)))))
    refine bL hh 3 ?_
    refine mL ?_
    refine aP (jt pv A' M.length c' M (k + k2) _ hT hh rfl (by omega) (by omega) hpo) ar.out rfl (by decide) ?_
    rintro e_ w64 ⟨g, og, rfl, hh⟩
    refine ⟨_, rfl, ?_⟩
    refine dJ ?_
    refine dJ ?_
    refine bE hh 1 [_,_] ?_
    intro ws hh
    replace hh : Hp _ (_ :: .blk _ _ [_, _] _ :: _) _ := hh
    refine aI (ah (an ?_))
    refine iL (aH rfl (aK (vs := [_, _]) aC.out (hh.au (i := 1) (n := 2) rfl rfl) rfl) (bZ (cv rfl) a6)) ?_
    exact ⟨g, og, rfl, hh.sub (List.Sublist.cons_cons _ (List.nil_sublist _))⟩
end Go.Proofs.YtkgdagjklakajaaGreatDoor
