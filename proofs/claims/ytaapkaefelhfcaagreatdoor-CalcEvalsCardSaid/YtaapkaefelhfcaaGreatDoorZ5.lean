/- Lemmas for calcEvals, part 5. -/
import Derived.Test.YtaapkaefelhfcaaGreatDoorZ4
/- The walks through slices.IndexFunc, ContainsFunc, DeleteFunc, Clone of terms. -/
namespace Go.Proofs.YtaapkaefelhfcaaGreatDoor
open Go.RowKit
theorem n6 (A : Option Addr) (n c : Nat) (l : List TR) (g : FuncId) (cap : List Value) (p : TR → Bool) (w : World) (hS : Sl w A n 4 (aP TR.cells l)) (hn : n ≤ 1000000) [ar Tryz.prog g]
  (hg : ∀ (z : TR) (w1 : World), z ∈ l → Below w.heap.size w w1 → Calls Tryz.prog g (.agg #[.string z.m, .bool z.c.neg, .string z.c.bu, .int .i64 z.c.e] :: cap).toArray w1 fun r w' => r = .returned (.bool (p z)) ∧ Below w1.heap.size w1 w') :
  Calls Tryz.prog 239 #[.slice A n c, .func (.func g) #[] cap.toArray] w fun r w' => ∃ v, r = .returned (.int .i64 v) ∧ ((l.any p = false ∧ v = -1) ∨ ∃ (i : Nat) (z : TR), i < n ∧ v = i ∧ (l.take i).any p = false ∧ l[i]? = some z ∧ p z = true) ∧ Below w.heap.size w w' := by
 have hh := Hp.start w
 have hln := hS.cx TR.len (by decide)
 refine aj (N := 19) (l := [.slice A n c, .func (.func g) #[] cap.toArray]) Tryz.func239 rfl rfl (by simp) ?_
 refine sr (aI (ae (ah (sr (mL (a0 (mI (ae (ao ?_)))))))))
 refine bs [4, 5, 8, 9, 10, 11, 12, 13, 14, 15, 16, 17, 18] 8
  (fun v w' => ∃ i : Nat, i ≤ n ∧ v = .int .i64 i ∧ (l.take i).any p = false ∧ Hp w [] w')
  (fun v _ => n - (intOf v).toNat) ?_ ?_
 ·exact ⟨0, Nat.zero_le _, rfl, rfl, hh⟩
 ·clear hh
  rintro ρ' v w' ⟨i, hi, rfl, hall, hh⟩
  by_cases hlt : i < n
  ·obtain ⟨z, hz⟩ := aE (l := l) (k := i) (by omega)
   obtain ⟨ad, rfl, hr⟩ := hS.at_ (by omega)
   have hc := fun w1 => hg z w1 (List.mem_of_getElem? hz)
   cases gz : p z with
   | true =>
    rw [gz] at hc
    refine sr ?_
    refine aW (ae (ah (cT (ak (ai (ah (ao (sr (mI (aI (ae ?_)))))))))))
    refine sr ?_
    refine fI (by first | exact g6 rfl | exact ev_nilf rfl) (by decide) ?_
    refine mL (mI ?_)
    refine aQ (k := i) aF.out aA.size rfl rfl (by omega) (by omega) (by decide) ?_
    refine bR (vs := [_, _, _, _]) aA.out rfl ((hr.ext hh.below).recAt TR.len hz) rfl (by decide) ?_
    refine fB (hc _ hh.below) ar.out rfl rfl (by decide) ?_
    rintro e_ w16 ⟨rfl, hb_⟩
    refine ⟨_, rfl, ?_⟩
    replace hh := hh.ext hb_
    refine ae (cT (sr (mI (aI (ae (al (bP (aD (aD (bP (aD ?_)))))))))))
    refine cn ?_
    exact ⟨_, rfl, .inr ⟨i, z, hlt, rfl, hall, hz, gz⟩, hh.below⟩
   | false =>
    rw [gz] at hc
    refine sr ?_
    refine aW (ae (ah (cT (ak (ai (ah (ao (sr (mI (aI (ae ?_)))))))))))
    refine sr ?_
    refine fI (by first | exact g6 rfl | exact ev_nilf rfl) (by decide) ?_
    refine mL (mI ?_)
    refine aQ (k := i) aF.out aA.size rfl rfl (by omega) (by omega) (by decide) ?_
    refine bR (vs := [_, _, _, _]) aA.out rfl ((hr.ext hh.below).recAt TR.len hz) rfl (by decide) ?_
    refine fB (hc _ hh.below) ar.out rfl rfl (by decide) ?_
    rintro e_ w16 ⟨rfl, hb_⟩
    refine ⟨_, rfl, ?_⟩
    replace hh := hh.ext hb_
    refine ae (cF (ak (aT (ai (aq ?_)))))
    refine bL (mI (aC (ai ?_)))
    refine ⟨⟨i + 1, by omega, rfl, by rw [aN hz, List.any_append, hall, List.any_cons, List.any_nil, gz]; rfl, hh⟩, by show n - (i + 1) < n - i; omega, ?_⟩
    (repeat (first | exact aw _ _ _ | refine ax rfl ?_ | refine au rfl ?_))
  ·rw [List.take_of_length_le (by omega)] at hall
   refine sr ?_
   refine aW (ae (ah (cF ?_)))
   refine aO ?_
   refine ay (ay (a8 (ai (sr (aI (ae (al ?_)))))))
   refine cn ?_
   exact ⟨_, rfl, .inl ⟨hall, rfl⟩, hh.below⟩
theorem u0 (A : Option Addr) (n c : Nat) (l : List TR) (g : FuncId) (cap : List Value) (p : TR → Bool) (w : World) (hS : Sl w A n 4 (aP TR.cells l)) (hn : n ≤ 1000000) [ar Tryz.prog g]
  (hg : ∀ (z : TR) (w1 : World), z ∈ l → Below w.heap.size w w1 → Calls Tryz.prog g (.agg #[.string z.m, .bool z.c.neg, .string z.c.bu, .int .i64 z.c.e] :: cap).toArray w1 fun r w' => r = .returned (.bool (p z)) ∧ Below w1.heap.size w1 w') :
  Calls Tryz.prog 187 #[.slice A n c, .func (.func g) #[] cap.toArray] w fun r w' => r = .returned (.bool (l.any p)) ∧ Below w.heap.size w w' := by
 have hh := Hp.start w
 refine aj (N := 9) (l := [.slice A n c, .func (.func g) #[] cap.toArray]) Tryz.func187 rfl rfl (by simp) ?_
 refine sr (aB (ae (sr (mL ?_))))
 refine fI (by first | exact g6 rfl | exact ev_nilf rfl) (by decide) ?_
 refine aR (n6 A n c l g cap p _ (hS.ext hh.below) hn hg) ar.out rfl (by decide) ?_
 rintro e_ w7 ⟨v_, rfl, hv_, hb_⟩
 refine ⟨_, rfl, ?_⟩
 replace hh := hh.ext hb_
 rcases hv_ with ⟨ha, rfl⟩ | ⟨i, z, hi, rfl, ht, hz, hp⟩
 ·rw [ha]
  refine dg (aB (ae (al ?_)))
  refine cn ?_
  exact ⟨rfl, hh.below⟩
 ·rw [show l.any p = true from List.any_eq_true.2 ⟨z, List.mem_of_getElem? hz, hp⟩]
  refine dg (aB (ae (al ?_)))
  refine cn ?_
  exact ⟨rfl, hh.below⟩
theorem lI (A : Option Addr) (n c : Nat) (l : List TR) (w : World) (hS : Sl w A n 4 (aP TR.cells l)) (hn : n ≤ 1000000) :
  Calls Tryz.prog 107 #[.slice A n c] w fun r w' => ∃ A' c', r = .returned (.slice A' n c') ∧ w'.ownsRow w.heap.size 55 4 (.slice A' n c') n (aP TR.cells l) ∧ Below w.heap.size w w' := by
 have hh := Hp.start w
 have oX := bf TR.one l
 rcases A with _ | ad
 ·have hn0 : n = 0 := by
   rcases Nat.eq_zero_or_pos n with h | h
   ·exact h
   ·obtain ⟨_, h1, _⟩ := hS.2 h; cases h1
  subst hn0
  have hl : l = [] := List.eq_nil_of_length_eq_zero (by have := hS.cx TR.len (by decide); omega)
  subst hl
  refine aj (N := 8) (l := [.slice none 0 c]) Tryz.func107 rfl rfl (by simp) ?_
  refine sr (aL (ae (ah (sr (mL ?_)))))
  refine wh aF.out rfl rfl (by decide) ?_
  refine ae (cT (sr (aL (ae (al (aD ?_))))))
  refine cn ?_
  exact ⟨_, _, rfl, World.ownsRow_nil _ _ _ _, hh.below⟩
 ·refine aj (N := 8) (l := [.slice (some ad) n c]) Tryz.func107 rfl rfl (by simp) ?_
  refine sr (aL (ae (ah (sr (mL ?_)))))
  refine wh aF.out rfl rfl (by decide) ?_
  refine ae (cF (ak (ai (sr ?_))))
  refine gi hh aF.out aA.out (by decide) ?_
  intro b5 w5 hh
  refine mL ?_
  refine bG hh (i := 0) rfl rfl rfl (hS.ext hh.below) aF.out aA.out rfl (by decide) ?one8 (by omega) (by omega) (by decide) ?kk8
  case one8 => first | rfl | assumption | exact oneCells_i64s _ | exact oneCells_u8s _
  intro A7 c7 w7 hh
  simp only [List.set_cons_zero] at hh
  rw [Nat.zero_add] at hh ⊢
  rw [List.nil_append] at hh
  refine aL (ae (al ?_))
  refine cn ?_
  exact ⟨_, _, rfl, hh.at_ (i := 0) rfl, hh.below⟩
theorem tC {α : Type} {l : List α} {i j : Nat} (h : i < j) (x : α) : (l.set i x).drop j = l.drop j := by
 refine List.ext_getElem? fun k => ?_
 rw [List.getElem?_drop, List.getElem?_drop, List.getElem?_set, if_neg (by omega)]
theorem pk {α : Type} {l : List α} {i : Nat} (h : i < l.length) (x : α) : (l.set i x).take (i + 1) = l.take i ++ [x] := by
 rw [aN (show (l.set i x)[i]? = some x by rw [List.getElem?_set, if_pos rfl, if_pos h]), List.take_set_of_le (Nat.le_refl _)]
theorem uP {w0 : World} {Hr : List HE} (A : Option Addr) (n c : Nat) (l : List TR) (g : FuncId) (p : TR → Bool) (w : World) (hh : Hp w0 (.row A n c 55 4 (aP TR.cells l) :: Hr) w) (hl : l.length = n) (hn : n ≤ 1000000) [ar Tryz.prog g]
  (hg : ∀ (z : TR) (w1 : World), z ∈ l → Calls Tryz.prog g (.agg #[.string z.m, .bool z.c.neg, .string z.c.bu, .int .i64 z.c.e] :: []).toArray w1 fun r w' => r = .returned (.bool (p z)) ∧ Below w1.heap.size w1 w') :
  Calls Tryz.prog 195 #[.slice A n c, .func (.func g) #[] #[]] w fun r w' => r = .returned (.slice A (l.filter fun z => !p z).length c) ∧ Hp w0 (.row A (l.filter fun z => !p z).length c 55 4 (aP TR.cells (l.filter fun z => !p z)) :: Hr) w' := by
 have hc := hh.jK (i := 0) rfl
 have hsl := hh.aJ (i := 0) rfl
 refine aj (N := 42) (l := [.slice A n c, .func (.func g) #[] #[]]) Tryz.func195 rfl rfl (by simp) ?_
 refine sr (aL (ae (sr (mL ?_))))
 refine fI (by first | exact g6 rfl | exact ev_nilf rfl) (by decide) ?_
 refine aR (n6 A n c l g [] p _ hsl hn (fun z w1 hz _ => hg z w1 hz)) ar.out rfl (by decide) ?_
 rintro e_ w10 ⟨v_, rfl, hv_, hb_⟩
 refine ⟨_, rfl, ?_⟩
 replace hh := hh.ext hb_
 rcases hv_ with ⟨ha, rfl⟩ | ⟨i0, z0, hi0, rfl, ht0, hz0, hp0⟩
 ·have hf : (l.filter fun z => !p z) = l := List.filter_eq_self.2 fun z hz => by
   have := List.any_eq_false.1 ha z hz
   simpa using this
  rw [hf, hl]
  refine aI (ae (ah (sr (mI ?_))))
  refine cu (ae (cT (sr (mL (aL (ae (al (aD ?_))))))))
  refine cn ?_
  exact ⟨rfl, hh⟩
 ·have hf0 : ((l.take (i0 + 1)).filter fun z => !p z) = l.take i0 := by
   rw [aN hz0, List.filter_append, List.filter_cons_of_neg (by rw [hp0]; decide), List.filter_nil, List.append_nil]
   exact List.filter_eq_self.2 fun z hz => by
    have := List.any_eq_false.1 ht0 z hz
    simpa using this
  obtain ⟨g0, rfl⟩ := hh.eM (i := 0) rfl (by omega)
  refine aI (ae (ah (sr (mI ?_))))
  refine cu (ae (cF (ak (ai (ah (sr (mI ?_)))))))
  refine bL (aI (ae (ao ?_)))
  refine cE [5, 6, 7, 16, 17, 18, 19, 20, 21, 22, 23, 24, 25, 26, 27, 28, 29, 30, 31, 32, 33, 34, 35] 5 6
   (fun v5 v6 w' => ∃ (i j : Nat) (X : List TR), i < j ∧ j ≤ n ∧ v5 = .int .i64 i ∧ v6 = .int .i64 j ∧ X.length = n ∧ i = ((l.take j).filter fun z => !p z).length ∧ X.take i = ((l.take j).filter fun z => !p z) ∧ X.drop j = l.drop j ∧ Hp w0 (.row (some ⟨g0, 0, none⟩) n c 55 4 (aP TR.cells X) :: Hr) w')
   (fun _ v _ => n - (intOf v).toNat) ?_ ?_
  ·exact ⟨i0, i0 + 1, l, by omega, by omega, rfl, rfl, hl, by rw [hf0, List.length_take]; omega, hf0.symm, rfl, hh⟩
  ·clear hh
   rintro ρ' v5 v6 w' ⟨i, j, X, hij, hj, rfl, rfl, hX, hi, htk, hdr, hh⟩
   by_cases hlt : j < n
   ·obtain ⟨z, hz⟩ := aE (l := l) (k := j) (by omega)
    have hXj : X[j]? = some z := by
     have h1 : (X.drop j)[0]? = (l.drop j)[0]? := by rw [hdr]
     rw [List.getElem?_drop, List.getElem?_drop, Nat.add_zero] at h1
     rw [h1, hz]
    have hgz := fun w1 => hg z w1 (List.mem_of_getElem? hz)
    have hdr2 : X.drop (j + 1) = l.drop (j + 1) := by rw [← List.drop_drop, ← List.drop_drop, hdr]
    have hrl := ij TR.len X
    refine ah (sr (mI (mL (a0 ?_))))
    refine aW (ae (cT (ak (ai (ah (ao (sr (mL (mI ?_)))))))))
    refine bg (k := j) aF.out aA.size rfl rfl (by omega) (by omega) (by decide) ?_
    refine bR (vs := [_, _, _, _]) aA.out rfl (hh.iX (f := TR.cells) (x := z) (l := X) (i := 0) rfl TR.len (by decide) hXj) rfl (by decide) ?_
    refine cj hh ?_
    intro b7 w7 hh
    refine bD hh 0 [_,_,_,_] ?_
    intro ws hh
    replace hh : Hp _ (.blk _ _ [_, _, _, _] _ :: _) _ := hh
    refine ae (sr ?_)
    refine fI (by first | exact g6 rfl | exact ev_nilf rfl) (by decide) ?_
    refine cB hh 0 [_,_,_,_] ?_
    cases hpz : p z with
    | true =>
     rw [hpz] at hgz
     have hfl : ((l.take (j + 1)).filter fun z => !p z) = ((l.take j).filter fun z => !p z) := by rw [aN hz, List.filter_append, List.filter_cons_of_neg (by rw [hpz]; decide), List.filter_nil, List.append_nil]
     refine fB (hgz _) ar.out rfl rfl (by decide) ?_
     rintro e_ w28 ⟨rfl, hb_⟩
     refine ⟨_, rfl, ?_⟩
     replace hh := hh.ext hb_
     refine gg ?_
     refine ae (cF (ak (aT (ai (aq (mI ?_))))))
     refine bL (aI (aC (ai ?_)))
     replace hh := hh.sub (List.Sublist.cons _ (List.Sublist.cons_cons _ (List.Sublist.refl _)))
     refine ⟨⟨i, j + 1, X, by omega, by omega, rfl, rfl, hX, by rw [hfl]; exact hi, by rw [hfl]; exact htk, hdr2, hh⟩, by show n - (j + 1) < n - j; omega, ?_⟩
     (repeat (first | exact aw _ _ _ | refine ax rfl ?_ | refine au rfl ?_))
    | false =>
     rw [hpz] at hgz
     have hfl : ((l.take (j + 1)).filter fun z => !p z) = ((l.take j).filter fun z => !p z) ++ [z] := by rw [aN hz, List.filter_append, List.filter_cons_of_pos (by rw [hpz]; decide), List.filter_nil]
     refine fB (hgz _) ar.out rfl rfl (by decide) ?_
     rintro e_ w28 ⟨rfl, hb_⟩
     refine ⟨_, rfl, ?_⟩
     replace hh := hh.ext hb_
     refine gg ?_
     refine ae (cT (sr (mL (mI ?_))))
     refine cB hh 0 [_,_,_,_] ?_
     refine bg (k := i) aF.out aA.size rfl rfl (by omega) (by omega) (by decide) ?_
     refine bJ hh (i := 1) (vs := [_, _, _, _]) rfl rfl (ez rfl) rfl aA.out rfl (by omega) rfl ?_
     intro ws hh
     simp only [List.set_cons_zero, List.set_cons_succ] at hh
     rw [show cq (aP TR.cells X) (i * 4) [.string z.m, .bool z.c.neg, .string z.c.bu, .int .i64 z.c.e] = aP TR.cells (X.set i z) from na TR.len (by omega)] at hh
     refine ae (aq (mI ?_))
     refine bL (aI (aC (aT (ai (aq (mI ?_))))))
     refine bL (aI (aC (ai ?_)))
     replace hh := hh.sub (List.Sublist.cons _ (List.Sublist.cons_cons _ (List.Sublist.refl _)))
     refine ⟨⟨i + 1, j + 1, X.set i z, by omega, by omega, rfl, rfl, by rw [List.length_set]; exact hX, by rw [hfl, List.length_append, ← hi]; rfl, by rw [hfl, pk (by omega), htk], by rw [tC (by omega)]; exact hdr2, hh⟩, by show n - (j + 1) < n - j; omega, ?_⟩
     (repeat (first | exact aw _ _ _ | refine ax rfl ?_ | refine au rfl ?_))
   ·obtain rfl : j = n := by omega
    rw [show l.take j = l from List.take_of_length_le (by omega)] at hi htk
    have hcap := hh.jK (i := 0) rfl
    have hp31 : (if c = i then some (⟨g0, 0, none⟩ : Addr) else (some (⟨g0, 0, none⟩ : Addr)).map (·.add (i * 4))) = some ⟨g0, i * 4, none⟩ := by
     rw [if_neg (by omega)]
     show some ((⟨g0, 0, none⟩ : Addr).add (i * 4)) = _
     rw [eL, Nat.zero_add]
    have htt : (aP TR.cells X).take (i * 4) = aP TR.cells (l.filter fun z => !p z) := by rw [hU TR.len, htk]
    refine ah (sr (mI (mL (a0 ?_))))
    refine aW (ae (cF ?_))
    refine aO ?_
    refine ay (ay (a8 (ai (sr (mL (mI ?_))))))
    refine a5 rfl rfl (by decide) (gE (l := i) (h := j) aF.out aA.size rfl ⟨_, _, rfl, rfl⟩ rfl (by omega) (by omega)) ?_
    rw [hp31]
    replace hh := hh.uR (k := i) (by omega)
    rw [htt] at hh
    refine q9 hh (i := 0) (o := i * 4) (m := j - i) rfl rfl (by omega) (by omega) (by omega) aF.out aA.out rfl rfl ?_
    intro w38 hh
    refine ae (sr (mL (mI ?_)))
    refine jc (h := i) aF.out aA.size rfl rfl (by omega) (by omega) (by decide) ?_
    refine aL (ae (al ?_))
    refine cn ?_
    rw [← hi]
    exact ⟨rfl, hh⟩
end Go.Proofs.YtaapkaefelhfcaaGreatDoor
/- The walk through poly.clean. -/
namespace Go.Proofs.YtaapkaefelhfcaaGreatDoor
open Go.RowKit
structure PX where
 v : Int
 A : Option Addr
 n : Nat
 c : Nat
 ts : List TR
def PX.row (g : PX) : HE := .row g.A g.n g.c 55 4 (aP TR.cells g.ts)
def PX.at_ (g : PX) (w : World) : Prop := Sl w g.A g.n 4 (aP TR.cells g.ts)
theorem PX.at_.ext {g : PX} {w w' : World} (h : g.at_ w) (hb : Below w.heap.size w w') : g.at_ w' := Sl.ext h hb
theorem PX.at_.ln {g : PX} {w : World} (h : g.at_ w) : g.ts.length = g.n := Sl.cx h TR.len (by decide)
structure cZ (E v : Int) (ts : List TR) (g : PX) : Prop where
 v : g.v = if E = 0 then v else 0
 ts : g.ts = if E = 0 then ts else []
def PX.nil : PX := ⟨0, none, 0, 0, []⟩
theorem cZ.err {E v : Int} {ts : List TR} (h : E ≠ 0) : cZ E v ts PX.nil := ⟨by rw [if_neg h]; rfl, by rw [if_neg h]; rfl⟩
theorem Hp.iW {w0 w : World} {H : List HE} (h : Hp w0 H w) : Hp w0 (PX.nil.row :: H) w := h.dK 55 4
theorem po {w0 : World} {Hr : List HE} (A : Option Addr) (n c : Nat) (l : List TR) (k : Nat) (w : World) (hT : gW w) (hh : Hp w0 (.row A n c 55 4 (aP TR.cells l) :: Hr) w) (hl : l.length = n) (hn : n ≤ 1000000) (hk : k + n ≤ 3999980) (ho : fT k l) :
  Calls Tryz.prog 196 #[.slice A n c, .func (.func 104) #[] #[], .func (.func 105) #[] #[]] w fun r w' => ∃ (L : List TR) (A' : Option Addr) (c' : Nat), MD (k + n) l L ∧ r = .returned (.slice A' L.length c') ∧ Hp w0 (.row A' L.length c' 55 4 (aP TR.cells L) :: Hr) w' := by
 refine (jU k n A n c l w (Nat.le_refl _) hT (hh.aJ (i := 0) rfl) (hh.jK (i := 0) rfl) hn hk ho).mono fun r w' h => ?_
 rcases h with ⟨h1, rfl, hb⟩ | ⟨h1, L, A', c', hm, rfl, h3⟩
 ·exact ⟨l, A, c, (MD.self (pG (by omega)) ho).mono (by omega), by rw [hl], by rw [hl]; exact hh.ext hb⟩
 ·refine ⟨L, A', c', hm, rfl, ?_⟩
  exact (hh.join h3).sub (List.Sublist.cons_cons _ (List.Sublist.cons _ (List.Sublist.refl _)))
def Cb (t : TR) : Bool := decide (t.c.d = 0)
theorem tL (l : List TR) : (l.filter fun z => !Cb z) = l.filter kt := rfl
theorem rz (z : TR) (w : World) : Calls Tryz.prog 197 #[.agg #[.string z.m, .bool z.c.neg, .string z.c.bu, .int .i64 z.c.e]] w fun r w' => r = .returned (.bool (Cb z)) ∧ Below w.heap.size w w' := by
 have hh := Hp.start w
 refine aj (N := 7) (l := [.agg #[.string z.m, .bool z.c.neg, .string z.c.bu, .int .i64 z.c.e]]) Tryz.func197 rfl rfl (by simp) ?_
 refine sr ?_
 refine cz hh [_,_,_,_] ?_
 intro b1 w1 hh
 refine aB (ae (sr (bB ?_)))
 refine cB hh 0 [_,_,_] ?_
 refine bA hh (ng z.c _) rfl ?_
 intro w5 hh
 have hz : z.c.i.sign = 0 ↔ z.c.d = 0 := by
  rw [Int.sign_eq_zero_iff_zero]
  exact ⟨fun h => by unfold NR.d; rw [h]; rfl, gN⟩
 unfold Cb
 by_cases h0 : z.c.d = 0
 ·have hs := hz.2 h0
  rw [decide_eq_true h0]
  refine cu (aB (ae (al ?_)))
  refine cn ?_
  exact ⟨rfl, hh.below⟩
 ·have hs : ¬ z.c.i.sign = 0 := fun h => h0 (hz.1 h)
  rw [decide_eq_false h0]
  refine cu (aB (ae (al ?_)))
  refine cn ?_
  exact ⟨rfl, hh.below⟩
def fe (l : List TR) : Int := if 4096 < (aZ l).length then 3 else 0
theorem rL {xs ys : List Value} {o : Nat} {v : Value} (h : xs[o]? = some v) : cq xs o (v :: ys) = cq xs (o + 1) ys := by
 unfold cq
 rw [aN h, List.length_cons, show o + (ys.length + 1) = o + 1 + ys.length by omega]
 simp
def Cy (t : TR) : TR := ⟨t.m, nR t.c.d⟩
theorem wQ {X : List TR} {i : Nat} {z : TR} (h : X[i]? = some z) (y : NR) : cq (aP TR.cells X) (i * 4 + 1) [.bool y.neg, .string y.bu, .int .i64 y.e] = aP TR.cells (X.set i ⟨z.m, y⟩) := by
 have h0 : (aP TR.cells X)[i * 4]? = some (.string z.m) := by
  have h1 := l3 TR.len h
  have h2 : (((aP TR.cells X).drop (i * 4)).take 4)[0]? = some (.string z.m) := by rw [h1]; rfl
  rwa [List.getElem?_take_of_lt (by decide), List.getElem?_drop, Nat.add_zero] at h2
 rw [← rL h0]
 exact na TR.len (y := ⟨z.m, y⟩) (List.getElem?_eq_some_iff.1 h).1
theorem j6 {w0 : World} {Hr : List HE} (v : Int) (A : Option Addr) (n c : Nat) (l : List TR) (k : Nat) (w : World) (hT : gW w0) (hh : Hp w0 (.row A n c 55 4 (aP TR.cells l) :: Hr) w) (hl : l.length = n) (hn : n ≤ 1000000) (hk : k + n ≤ 3999980) (ho : fT k l) :
  Calls Tryz.prog 106 #[.int .i64 v, .slice A n c] w fun r w' => ∃ g : PX, cZ (fe l) v (aZ l) g ∧ r = .returned (.tuple #[.agg #[.int .i64 g.v, .slice g.A g.n g.c], .int .i64 (fe l)]) ∧ Hp w0 (g.row :: Hr) w' := by
 refine aj (N := 33) (l := [.int .i64 v, .slice A n c]) Tryz.func106 rfl rfl (by simp) ?_
 refine sr ?_
 refine cj hh ?_
 intro b4 w4 hh
 refine aI (ae (sr (mL ?_)))
 replace hh := hh.perm (List.perm_middle (l₁ := [_]))
 simp only [List.cons_append, List.nil_append] at hh
 refine aR (po A n c l k _ (hT.hp hh) hh hl hn hk ho) ar.out rfl (by decide) ?_
 rintro e_ w8 ⟨L, A1, c1, hmd, rfl, hh⟩
 refine ⟨_, rfl, ?_⟩
 have hlen := hmd.len
 refine aR (uP A1 L.length c1 L _ Cb _ hh rfl (by omega) (fun z w1 _ => rz z w1)) ar.out rfl (by decide) ?_
 rintro e_ w9 ⟨rfl, hh⟩
 refine ⟨_, rfl, ?_⟩
 rw [tL] at hh ⊢
 have hML : (L.filter kt).length ≤ L.length := List.length_filter_le _ _
 have hgl : (aZ l).length = (L.filter kt).length := by rw [← hmd.aZ, List.length_map]
 have hgm := hmd.aZ
 have hok : fT (k + n) (L.filter kt) := fun t ht => hmd.ok t (List.mem_filter.1 ht).1
 generalize hM : L.filter kt = M at *
 by_cases h4 : 4096 < M.length
 ·rw [show fe l = 3 by unfold fe; rw [if_pos (by omega)]]
  refine aL (ae (ah (sr (mL (a0 ?_)))))
  refine ck (ae (cT (sr ?_)))
  refine eH [_,_] ?_
  refine bD hh 1 [_,_] ?_
  intro ws hh
  replace hh : Hp _ (_ :: .blk _ _ [_, _] _ :: _) _ := hh
  refine aI (ae (al (aD ?_)))
  replace hh := hh.sub (List.Sublist.cons _ (List.Sublist.cons_cons _ (List.Sublist.refl _)))
  refine iV (aH rfl (aG (vs := [_, _]) aA.out (hh.av (i := 0) (n := 2) rfl rfl) rfl) (cb (cv rfl) a9)) ?_
  exact ⟨PX.nil, cZ.err (by decide), rfl, (hh.sub (List.sublist_cons_self _ _)).iW⟩
 ·rw [show fe l = 0 by unfold fe; rw [if_neg (by omega)]]
  refine aL (ae (ah (sr (mL (a0 ?_)))))
  refine ck (ae (cF (ak (ai (ah (sr (mL (a0 (mI (ae (ao ?_)))))))))))
  refine bs [6, 16, 17, 18, 19, 20, 21, 22, 23, 24, 25, 26, 27, 28, 29] 16
   (fun v w' => ∃ (i : Nat) (X : List TR), i ≤ M.length ∧ v = .int .i64 i ∧ X.length = M.length ∧ X = (M.take i).map Cy ++ M.drop i ∧ Hp w0 (.row A1 M.length c1 55 4 (aP TR.cells X) :: .blk b4 24 [.int .i64 0, .slice none 0 0] (0, 0) :: Hr) w')
   (fun v _ => M.length - (intOf v).toNat) ?_ ?_
  ·exact ⟨0, M, Nat.zero_le _, rfl, rfl, rfl, hh⟩
  ·clear hh
   rintro ρ' v w' ⟨i, X, hi, rfl, hX, hXe, hh⟩
   by_cases hlt : i < M.length
   ·obtain ⟨z, hz⟩ := aE (l := M) (k := i) (by omega)
    have hXz : X[i]? = some z := by
     rw [hXe, List.getElem?_append_right (by rw [List.length_map, List.length_take]; omega), List.length_map, List.length_take, Nat.min_eq_left (by omega), Nat.sub_self, List.getElem?_drop]
     exact hz
    have hzo := hok z (List.mem_of_getElem? hz)
    have hXn : X.set i ⟨z.m, nR z.c.d⟩ = (M.take (i + 1)).map Cy ++ M.drop (i + 1) := by
     rw [aN hz, List.map_append, hXe, List.set_append_right _ _ (by rw [List.length_map, List.length_take]; omega), List.length_map, List.length_take, Nat.min_eq_left (by omega), Nat.sub_self, List.append_assoc]
     congr 1
     obtain ⟨h1, h2⟩ := List.getElem?_eq_some_iff.1 hz
     rw [List.drop_eq_getElem_cons h1, h2]
     rfl
    have hrl := ij TR.len X
    obtain ⟨g0, rfl⟩ := hh.eM (i := 0) rfl (by omega)
    refine sr ?_
    refine aW (ae (ah (cT (ak (ai (ah (ao (sr (mI (aI (ae ?_)))))))))))
    refine aq (mL (mI (mL (mI ?_))))
    refine bg (k := i) aF.out aA.size rfl rfl (by omega) (by omega) (by decide) ?_
    refine bB ?_
    refine bR (vs := [_, _, _]) aA.out rfl ((hh.iX (f := TR.cells) (x := z) (l := X) (i := 0) rfl TR.len (by decide) hXz).drop 1) rfl (by decide) ?_
    refine bA hh (eD z.c _ (hT.hp hh) (by have := hzo.1.1; omega) (by have := hzo.1.2.1; omega) (by have := hzo.1.2.2; omega)) rfl ?_
    intro w26 hh
    refine bg (k := i) aF.out aA.size rfl rfl (by omega) (by omega) (by decide) ?_
    refine bB ?_
    refine bJ hh (i := 0) (vs := [_, _, _]) rfl rfl (ez rfl) rfl aA.out rfl (by omega) rfl ?_
    intro ws hh
    simp only [List.set_cons_zero] at hh
    rw [wQ hXz, hXn] at hh
    refine aC (aT (ai (aq ?_)))
    refine bL (mI (aC (ai ?_)))
    refine ⟨⟨i + 1, _, by omega, rfl, ?_, rfl, hh⟩, by show M.length - (i + 1) < M.length - i; omega, ?_⟩
    ·rw [← hXn, List.length_set, hX]
    ·(repeat (first | exact aw _ _ _ | refine ax rfl ?_ | refine au rfl ?_))
   ·obtain rfl : i = M.length := by omega
    rw [List.take_of_length_le (Nat.le_refl _), List.drop_of_length_le (Nat.le_refl _), List.append_nil] at hXe
    have hXg : X = aZ l := by rw [hXe]; exact hgm
    rw [hXg] at hh
    refine sr ?_
    refine aW (ae (ah (cF ?_)))
    refine aO ?_
    refine ay (ay (a8 (ai (sr (mI (mL ?_))))))
    refine eH [_,_] ?_
    refine bD hh 1 [_,_] ?_
    intro ws hh
    replace hh : Hp _ (_ :: .blk _ _ [_, _] _ :: _) _ := hh
    refine aI (ae (al ?_))
    refine iV (aH rfl (aG (vs := [_, _]) aA.out (hh.av (i := 1) (n := 2) rfl rfl) rfl) (cb (cv rfl) a9)) ?_
    exact ⟨⟨v, A1, M.length, c1, aZ l⟩, ⟨rfl, rfl⟩, rfl, hh.sub (List.Sublist.cons_cons _ (List.Sublist.cons _ (List.Sublist.refl _)))⟩
end Go.Proofs.YtaapkaefelhfcaaGreatDoor
/- The walks through the program's package of products of powers (mono), and through the document's answer's. -/
namespace Go.Proofs.YtaapkaefelhfcaaGreatDoor
open Go.RowKit
theorem jn (s : ByteArray) (n : Int) (w : World) (hs : s.size ≤ 9223372036854775807) :
  Calls Tryz.prog 179 #[.string s, .int .i64 n] w fun e w' => e = .returned (.bool (ef s.data.toList && decide ((s.size : Int) = n))) ∧ Below w.heap.size w w' := by
 refine aj (N := 20) (l := [.string s, .int .i64 n]) Tryz.func179 rfl rfl (by simp) ?_
 refine sr (aB (ae (ah (sr (mS ?_)))))
 refine bp aF.out rfl (by decide) ?_
 refine mI (ae (ao ?_))
 refine bs [4, 5, 8, 9, 10, 11, 12, 13, 14, 15] 8
  (fun v w' => ∃ k : Nat, k ≤ s.size ∧ v = .int .i64 k ∧ ef (s.data.toList.take k) = true ∧ w' = w)
  (fun v _ => s.size - (intOf v).toNat) ?_ ?_
 ·exact ⟨0, Nat.zero_le _, rfl, rfl, rfl⟩
 ·rintro ρ' v w' ⟨k, hk, rfl, hm, rfl⟩
  by_cases hlt : k < s.size
  ·obtain ⟨c, hc⟩ := aE (l := s.data.toList) (k := k) (by rw [← bZ]; exact hlt)
   have hb := c.toNat_lt
   by_cases h8 : c.toNat < 128
   ·refine sr ?_
    refine aW (ae (ah (cT (ak (ai (ah (ao (sr (mI (aI (ae ?_)))))))))))
    refine sr (mS (mI ?_))
    refine bo aF.out rfl rfl (by omega) (by assumption) (by decide) ?_
    refine ck (ae (cF (ak (aT (ai (aq ?_))))))
    refine bL (mI (aC (ai ?_)))
    refine ⟨⟨k + 1, by omega, rfl, by rw [aN hc, ql, hm]; simpa using h8, rfl⟩, by show s.size - (k + 1) < s.size - k; omega, ?_⟩
    (repeat (first | exact aw _ _ _ | refine ax rfl ?_ | refine au rfl ?_))
   ·refine sr ?_
    refine aW (ae (ah (cT (ak (ai (ah (ao (sr (mI (aI (ae ?_)))))))))))
    refine sr (mS (mI ?_))
    refine bo aF.out rfl rfl (by omega) (by assumption) (by decide) ?_
    refine ck (ae (cT (sr (aB (ae (al (bP (aD (aD (bP (aD ?_)))))))))))
    refine cn ?_
    rw [rU hc h8]
    exact ⟨rfl, Below.refl _ _⟩
  ·refine sr ?_
   refine aW (ae (ah (cF ?_)))
   refine aO ?_
   refine ay (ay (a8 (ai (sr (mS ?_)))))
   refine bp aF.out rfl (by decide) ?_
   refine mI ?_
   refine rf rfl rfl (by decide) ?_
   refine aB (ae (al ?_))
   refine cn ?_
   rw [List.take_of_length_le (by rw [← bZ]; omega)] at hm
   rw [hm]
   exact ⟨rfl, Below.refl _ _⟩
theorem jO (s : ByteArray) (w : World) (hs : s.size ≤ 9223372036854775807) :
  Calls Tryz.prog 179 #[.string s, .int .i64 s.size] w fun e w' => e = .returned (.bool (ef s.data.toList)) ∧ Below w.heap.size w w' := by
 have h := jn s s.size w hs
 simpa using h
theorem ua (s : ByteArray) (n : Int) (w : World) (hs : s.size ≤ 9223372036854775807) :
  Calls Tryz.prog 181 #[.string s, .int .i64 n] w fun e w' => e = .returned (.bool (ef s.data.toList && decide ((s.size : Int) = n))) ∧ Below w.heap.size w w' := by
 refine aj (N := 20) (l := [.string s, .int .i64 n]) Tryz.func181 rfl rfl (by simp) ?_
 refine sr (aB (ae (ah (sr (aI (ae (ao ?_)))))))
 refine bs [4, 5, 6, 7, 8, 9, 10, 11, 12, 13, 14, 15] 5
  (fun v w' => ∃ k : Nat, k ≤ s.size ∧ v = .int .i64 k ∧ ef (s.data.toList.take k) = true ∧ w' = w)
  (fun v _ => s.size - (intOf v).toNat) ?_ ?_
 ·exact ⟨0, Nat.zero_le _, rfl, rfl, rfl⟩
 ·rintro ρ' v w' ⟨k, hk, rfl, hm, rfl⟩
  by_cases hlt : k < s.size
  ·obtain ⟨c, hc⟩ := aE (l := s.data.toList) (k := k) (by rw [← bZ]; exact hlt)
   have hb := c.toNat_lt
   by_cases h8 : c.toNat < 128
   ·refine ah (sr (mI (mS ?_)))
    refine bp aF.out rfl (by decide) ?_
    refine aW (ae (cT (ak (ai (ah (ao (sr (mS (mI ?_)))))))))
    refine bo aF.out rfl rfl (by omega) (by assumption) (by decide) ?_
    refine dg (ae (cF (ak (aT (ai (aq (mI ?_)))))))
    refine bL (aI (aC (ai ?_)))
    refine ⟨⟨k + 1, by omega, rfl, by rw [aN hc, ql, hm]; simpa using h8, rfl⟩, by show s.size - (k + 1) < s.size - k; omega, ?_⟩
    (repeat (first | exact aw _ _ _ | refine ax rfl ?_ | refine au rfl ?_))
   ·refine ah (sr (mI (mS ?_)))
    refine bp aF.out rfl (by decide) ?_
    refine aW (ae (cT (ak (ai (ah (ao (sr (mS (mI ?_)))))))))
    refine bo aF.out rfl rfl (by omega) (by assumption) (by decide) ?_
    refine dg (ae (cT (sr (aB (ae (al (bP (aD (aD (bP (aD ?_)))))))))))
    refine cn ?_
    rw [rU hc h8]
    exact ⟨rfl, Below.refl _ _⟩
  ·refine ah (sr (mI (mS ?_)))
   refine bp aF.out rfl (by decide) ?_
   refine aW (ae (cF ?_))
   refine aO ?_
   refine ay (ay (a8 (ai (sr (mS ?_)))))
   refine bp aF.out rfl (by decide) ?_
   refine mI ?_
   refine rf rfl rfl (by decide) ?_
   refine aB (ae (al ?_))
   refine cn ?_
   rw [List.take_of_length_le (by rw [← bZ]; omega)] at hm
   rw [hm]
   exact ⟨rfl, Below.refl _ _⟩
theorem yv (A : Option Addr) (n c : Nat) (xs : List Int) (w : World) (hsl : Sl w A n 1 (jL xs)) (hn : n ≤ 100000) :
  Calls Tryz.prog 216 #[.slice A n c] w fun e w' => e = .returned (.tuple #[.string (str (zf xs)), .int .i64 (Au xs)]) ∧ Below w.heap.size w w' := by
 have hlen : xs.length = n := by have := hsl.1; rw [m7] at this; omega
 have hh := Hp.start w
 refine aj (N := 27) (l := [.slice A n c]) Tryz.func216 rfl rfl (by simp) ?_
 refine sr (aS (aI (ae (sr (aL (ae (ah (sr (mL (a0 (mI ?_)))))))))))
 refine ae (ao ?_)
 refine cE [2, 3, 4, 6, 9, 10, 11, 12, 13, 14, 15, 16, 17, 18, 19, 20, 21, 22, 23, 24] 4 9
  (fun b i w' => ∃ (k c' : Nat) (A' : Option Addr), k ≤ n ∧ i = .int .i64 k ∧ b = .slice A' k c' ∧ (xs.take k).all gu = true ∧ Hp w [.row A' k c' 5 1 (iQ ((xs.take k).map yU))] w')
  (fun _ v _ => n - (intOf v).toNat) ?_ ?_
 ·exact ⟨0, 0, none, Nat.zero_le _, rfl, rfl, rfl, hh.dK _ _⟩
 ·clear hh
  rintro ρ' b i w' ⟨k, c', A', hk, rfl, rfl, hall, hh⟩
  by_cases hlt : k < n
  ·obtain ⟨x, hx⟩ := aE (l := xs) (k := k) (by omega)
   obtain ⟨ad, rfl, hr⟩ := (hsl.ext hh.below).at_ (by omega)
   by_cases h0 : x < 0
   ·refine sr ?_
    refine aW (ae (ah (cT (ak (ai (ah (ao (sr ?_))))))))
    refine fQ aF.out aA.size rfl rfl (by omega) (by omega) (by decide) ?_
    refine bj aA.out rfl (n7 hr (lL hx) rfl) (by decide) ?_
    refine aI (ae (ah (sr (mI ?_))))
    refine aW (mB ?_)
    first | refine gS ?_ | (refine gT ?_; refine mI ?_) | refine gV ?_
    first | refine gS ?_ | (refine gT ?_; refine ck ?_) | refine gV ?_
    first | refine cS ?_ | refine cU ?_
    refine ae (cT (sr (aS (aI (ae (al (aD (bP (aD (aD (bP ?_)))))))))))
    refine aD ?_
    refine xp ?_
    obtain ⟨e1, e2⟩ := xF hx (by simp [gu]; omega)
    rw [e1, e2]
    exact ⟨rfl, hh.below⟩
   ·by_cases h1 : 127 < x
    ·refine sr ?_
     refine aW (ae (ah (cT (ak (ai (ah (ao (sr ?_))))))))
     refine fQ aF.out aA.size rfl rfl (by omega) (by omega) (by decide) ?_
     refine bj aA.out rfl (n7 hr (lL hx) rfl) (by decide) ?_
     refine aI (ae (ah (sr (mI ?_))))
     refine aW (mB ?_)
     first | refine gS ?_ | (refine gT ?_; refine mI ?_) | refine gV ?_
     first | refine gS ?_ | (refine gT ?_; refine ck ?_) | refine gV ?_
     first | refine cS ?_ | refine cU ?_
     refine ae (cT (sr (aS (aI (ae (al (aD (bP (aD (aD (bP ?_)))))))))))
     refine aD ?_
     refine xp ?_
     obtain ⟨e1, e2⟩ := xF hx (by simp [gu]; omega)
     rw [e1, e2]
     exact ⟨rfl, hh.below⟩
    ·have hok : gu x = true := by simp [gu]; omega
     refine sr ?_
     refine aW (ae (ah (cT (ak (ai (ah (ao (sr ?_))))))))
     refine fQ aF.out aA.size rfl rfl (by omega) (by omega) (by decide) ?_
     refine bj aA.out rfl (n7 hr (lL hx) rfl) (by decide) ?_
     refine aI (ae (ah (sr (mI ?_))))
     refine aW (mB ?_)
     first | refine gS ?_ | (refine gT ?_; refine mI ?_) | refine gV ?_
     first | refine gS ?_ | (refine gT ?_; refine ck ?_) | refine gV ?_
     first | refine cS ?_ | refine cU ?_
     refine ae (cF (ak (ai (aq (mL (mI ?_))))))
     refine oB aF.out aF.out rfl (by decide) ?_
     refine bO hh (cs := [_]) aF.out aA.out (br (bT rfl) ct) rfl rfl (by decide) (by decide) (by decide) rfl (by decide) ?_
     intro b22 w22 hh
     refine bG hh (i := 1) rfl rfl rfl (hh.aJ (i := 0) rfl) aF.out aA.out rfl (by decide) rfl (by omega) (by omega) (by decide) ?_
     intro A23 c23 w23 hh
     simp only [List.set_cons_zero, List.set_cons_succ] at hh
     replace hh := hh.sub (List.sublist_cons_self _ _)
     refine aL (aC (aT (ai (aq ?_))))
     refine bL (mI (aC (ai ?_)))
     refine ⟨⟨k + 1, c23, A23, by omega, rfl, rfl, yI hx hall hok, ?_⟩, by show n - (k + 1) < n - k; omega, ?_⟩
     ·rw [zZ (by omega) (by omega), yc hx hok] at hh
      exact hh
     ·(repeat (first | exact aw _ _ _ | refine ax rfl ?_ | refine au rfl ?_))
  ·obtain rfl : k = n := by omega
   rw [List.take_of_length_le (by omega)] at hall hh
   obtain ⟨e1, e2⟩ := we hall
   refine sr ?_
   refine aW (ae (ah (cF ?_)))
   refine aO ?_
   refine ay (ay (a8 (ai (sr (mL ?_)))))
   refine kb aF.out aF.out aF.out rfl (hh.aJ (i := 0) rfl) (by decide) ?_
   refine aS (aI (ae (al ?_)))
   refine xp ?_
   rw [e1, e2]
   exact ⟨rfl, hh.below⟩
theorem jy (s : ByteArray) (w : World) (hs : s.size ≤ 100000) :
  Calls Tryz.prog 113 #[.string s] w fun e w' => ∃ A c, e = .returned (.slice A (jX s.data.toList).length c) ∧ w'.ownsRow w.heap.size 3 1 (.slice A (jX s.data.toList).length c) (jX s.data.toList).length (jL (jX s.data.toList)) ∧ Below w.heap.size w w' := by
 have hh := Hp.start w
 have hsz := bZ s
 cases hm : ef s.data.toList with
 | false =>
  refine aj (N := 22) (l := [.string s]) Tryz.func113 rfl rfl (by simp) ?_
  refine sr (aL (ae (ah (sr (mS (mS ?_))))))
  refine bp aF.out rfl (by decide) ?_
  refine bA hh (jO s _ (by omega)) rfl ?_
  intro w9 hh
  rw [hm]
  refine gg ?_
  refine ae (cT (sr (aL (ae (al (aD ?_))))))
  refine cn ?_
  rw [xQ hm]
  exact ⟨none, 0, rfl, World.ownsRow_nil _ _ _ _, hh.below⟩
 | true =>
  refine aj (N := 22) (l := [.string s]) Tryz.func113 rfl rfl (by simp) ?_
  refine sr (aL (ae (ah (sr (mS (mS ?_))))))
  refine bp aF.out rfl (by decide) ?_
  refine bA hh (jO s _ (by omega)) rfl ?_
  intro w9 hh
  rw [hm]
  refine gg ?_
  refine ae (cF (ak (ai (sr (aL (ae (ah (sr (mS ?_)))))))))
  refine lR hh aF.out rfl (by decide) ?_
  intro b12 w12 hh
  skip
  refine ae (ao ?_)
  refine bs [3, 5, 13, 14, 15, 16, 17, 18, 19, 20] 3
   (fun v w' => ∃ (k c' : Nat) (A' : Option Addr), k ≤ s.size ∧ v = .slice A' k c' ∧ Hp w [.row A' k c' 3 1 (jL (ints (s.data.toList.take k))), .it b12 s k] w')
   (fun v _ => s.size - lenOf v) ?_ ?_
  ·exact ⟨0, 0, none, Nat.zero_le _, rfl, hh.dK _ _⟩
  ·clear hh
   rintro ρ' v w' ⟨k, c', A', hk, rfl, hh⟩
   by_cases hlt : k < s.size
   ·obtain ⟨c, hc⟩ := aE (l := s.data.toList) (k := k) (by omega)
    have h8 := g9 hm hc
    refine sr ?_
    refine l4 hh (i := 1) rfl rfl hc h8 (by decide) ?_
    intro w13 hh
    simp only [List.set_cons_zero, List.set_cons_succ] at hh
    skip
    refine dx ?_
    refine ae (ah (cT (ak (ai (ao (sr ?_))))))
    refine dx ?_
    refine aI (ae (aq (mL (mI ?_))))
    refine cJ aF.out aF.out rfl (by omega) (by omega) (by decide) ?_
    refine bO hh (cs := [_]) aF.out aA.out (br (bT rfl) ct) rfl rfl (by decide) (by decide) (by decide) rfl (by decide) ?_
    intro b19 w19 hh
    refine bG hh (i := 1) rfl rfl rfl (hh.aJ (i := 0) rfl) aF.out aA.out rfl (by decide) rfl (by omega) (by omega) (by decide) ?_
    intro A20 c20 w20 hh
    simp only [List.set_cons_zero, List.set_cons_succ] at hh
    replace hh := hh.sub (List.sublist_cons_self _ _)
    refine aL (aC (aT (ai ?_)))
    rw [oL hc] at hh
    refine ⟨⟨k + 1, c20, A20, by omega, rfl, hh⟩, by show s.size - (k + 1) < s.size - k; omega, ?_⟩
    (repeat (first | exact aw _ _ _ | refine ax rfl ?_ | refine au rfl ?_))
   ·refine sr ?_
    refine lQ hh (i := 1) rfl rfl hlt (by decide) ?_
    skip
    refine dx ?_
    refine ae (ah (cF ?_))
    refine aO ?_
    refine ay (ay (a8 (ai (sr (mL (aL (ae (al ?_))))))))
    refine cn ?_
    obtain rfl : k = s.size := by omega
    rw [List.take_of_length_le (by omega)] at hh
    have h1 := hh.at_ (i := 0) rfl
    rw [mv hm, dN, ← hsz]
    exact ⟨A', c', rfl, h1, hh.below⟩
theorem n9 (a b : ByteArray) (g : FuncId) (f : Int → Int → Int) (w : World) (ha : a.size ≤ 100000) (hb : b.size ≤ 100000) [ar Tryz.prog g]
  (hg : ∀ (x y : Int) (w : World), 0 ≤ x → x ≤ 127 → 0 ≤ y → y ≤ 127 → Calls Tryz.prog g #[.int .i64 x, .int .i64 y] w fun e w' => e = .returned (.int .i64 (f x y)) ∧ Below w.heap.size w w') :
  Calls Tryz.prog 242 #[.string a, .string b, .func (.func g) #[] #[]] w fun e w' =>
   (im f a.data.toList b.data.toList = none ∧ e = .returned (.tuple #[.slice none 0 0, .bool false]) ∧ Below w.heap.size w w') ∨
   ∃ l, im f a.data.toList b.data.toList = some l ∧ l.length = b.size ∧ ∃ A c, e = .returned (.tuple #[.slice A l.length c, .bool true]) ∧ w'.ownsRow w.heap.size 3 1 (.slice A l.length c) l.length (jL l) ∧ Below w.heap.size w w' := by
 have hh := Hp.start w
 have hsa := bZ a
 have hsb := bZ b
 cases hma : ef a.data.toList with
 | false =>
  refine aj (N := 45) (l := [.string a, .string b, .func (.func g) #[] #[]]) Tryz.func242 rfl rfl (by simp) ?_
  refine sr (aL (aB (ae (sr (mS ?_)))))
  refine aR (jy b _ hb) ar.out rfl (by decide) ?_
  rintro e_ w12 ⟨A12, c12, rfl, hown_, hb_⟩
  refine ⟨_, rfl, ?_⟩
  replace hh := hh.bh (x := .row _ _ _ _ _ _) hb_ hown_
  refine aL (ae (ah (sr (mS (mS ?_)))))
  refine bp aF.out rfl (by decide) ?_
  refine bA hh (jO a _ (by omega)) rfl ?_
  intro w16 hh
  rw [hma]
  refine gg ?_
  refine mB ?_
  first | refine gS ?_ | (refine gT ?_; refine mS ?_) | refine gV ?_
  first | refine gS ?_ | (refine gT ?_; refine mS ?_) | refine gV ?_
  first | refine gS ?_ | (refine gT ?_; refine bp aF.out rfl (by decide) ?_) | refine gV ?_
  refine cd (by decide) rfl rfl (by decide) ?_
  first | refine gS ?_ | (refine gT ?_; refine gg ?_) | refine gV ?_
  first | refine cS ?_ | refine cU ?_
  refine ae (cT (sr (aL (aB (ae (al (aD ?_)))))))
  refine xp ?_
  exact .inl ⟨by simp [im, hma], rfl, hh.below⟩
 | true =>
  cases hmb : (ef b.data.toList && decide ((b.size : Int) = a.size)) with
  | false =>
   refine aj (N := 45) (l := [.string a, .string b, .func (.func g) #[] #[]]) Tryz.func242 rfl rfl (by simp) ?_
   refine sr (aL (aB (ae (sr (mS ?_)))))
   refine aR (jy b _ hb) ar.out rfl (by decide) ?_
   rintro e_ w12 ⟨A12, c12, rfl, hown_, hb_⟩
   refine ⟨_, rfl, ?_⟩
   replace hh := hh.bh (x := .row _ _ _ _ _ _) hb_ hown_
   refine aL (ae (ah (sr (mS (mS ?_)))))
   refine bp aF.out rfl (by decide) ?_
   refine bA hh (jO a _ (by omega)) rfl ?_
   intro w16 hh
   rw [hma]
   refine gg ?_
   refine mB ?_
   first | refine gS ?_ | (refine gT ?_; refine mS ?_) | refine gV ?_
   first | refine gS ?_ | (refine gT ?_; refine mS ?_) | refine gV ?_
   first | refine gS ?_ | (refine gT ?_; refine bp aF.out rfl (by decide) ?_) | refine gV ?_
   refine bq rfl rfl ?_
   refine bA hh (jn b _ _ (by omega)) rfl ?_
   intro w22 hh
   rw [hmb]
   first | refine gS ?_ | (refine gT ?_; refine gg ?_) | refine gV ?_
   first | refine cS ?_ | refine cU ?_
   refine ae (cT (sr (aL (aB (ae (al (aD ?_)))))))
   refine xp ?_
   have : (ef b.data.toList && decide ((b.data.toList.length : Int) = a.data.toList.length)) = false := by rw [← hsa, ← hsb]; exact hmb
   exact .inl ⟨by simp only [im, hma, this]; rfl, rfl, hh.below⟩
  | true =>
   have hmb2 := hmb
   simp only [Bool.and_eq_true, decide_eq_true_eq] at hmb2
   have hbl : im f a.data.toList b.data.toList = some (List.zipWith f (ints a.data.toList) (ints b.data.toList)) := by
    have : (ef b.data.toList && decide ((b.data.toList.length : Int) = a.data.toList.length)) = true := by rw [← hsa, ← hsb]; exact hmb
    simp only [im, hma, this]; rfl
   have hea := mv hma
   have heb := mv hmb2.1
   have hlab : (ints a.data.toList).length = (ints b.data.toList).length := by rw [dN, dN]; omega
   have hlb := dN b.data.toList
   have hla := dN a.data.toList
   have hA := jy a
   have hB := jy b
   rw [hea] at hA
   rw [heb] at hB
   generalize hia : ints a.data.toList = ia at *
   generalize hib : ints b.data.toList = ib at *
   have bda : ∀ (k : Nat) (x : Int), ia[k]? = some x → 0 ≤ x ∧ x ≤ 127 := fun k x h => vK (l := a.data.toList) (by rw [hea]; exact h)
   have bdb : ∀ (k : Nat) (x : Int), ib[k]? = some x → 0 ≤ x ∧ x ≤ 127 := fun k x h => vK (l := b.data.toList) (by rw [heb]; exact h)
   clear hea heb
   refine aj (N := 45) (l := [.string a, .string b, .func (.func g) #[] #[]]) Tryz.func242 rfl rfl (by simp) ?_
   refine sr (aL (aB (ae (sr (mS ?_)))))
   refine aR (hB _ hb) ar.out rfl (by decide) ?_
   rintro e_ w12 ⟨A12, c12, rfl, hown_, hb_⟩
   refine ⟨_, rfl, ?_⟩
   replace hh := hh.bh (x := .row _ _ _ _ _ _) hb_ hown_
   refine aL (ae (ah (sr (mS (mS ?_)))))
   refine bp aF.out rfl (by decide) ?_
   refine bA hh (jO a _ (by omega)) rfl ?_
   intro w16 hh
   rw [hma]
   refine gg ?_
   refine mB ?_
   first | refine gS ?_ | (refine gT ?_; refine mS ?_) | refine gV ?_
   first | refine gS ?_ | (refine gT ?_; refine mS ?_) | refine gV ?_
   first | refine gS ?_ | (refine gT ?_; refine bp aF.out rfl (by decide) ?_) | refine gV ?_
   refine bq rfl rfl ?_
   refine bA hh (jn b _ _ (by omega)) rfl ?_
   intro w22 hh
   rw [hmb]
   first | refine gS ?_ | (refine gT ?_; refine gg ?_) | refine gV ?_
   first | refine cS ?_ | refine cU ?_
   refine ae (cF (ak (ai (ah (sr (mS ?_))))))
   refine aR (hA _ ha) ar.out rfl (by decide) ?_
   rintro e_ w26 ⟨A26, c26, rfl, hown_, hb_⟩
   refine ⟨_, rfl, ?_⟩
   replace hh := hh.bh (x := .row _ _ _ _ _ _) hb_ hown_
   refine a0 (mI (ae (ao ?_)))
   refine bs [9, 10, 28, 29, 30, 31, 32, 33, 34, 35, 36, 37, 38, 39, 40, 41, 42, 43] 28
    (fun i w' => ∃ k : Nat, k ≤ ib.length ∧ i = .int .i64 k ∧ Hp w [.row A26 ia.length c26 3 1 (jL ia), .row A12 ib.length c12 3 1 (jL (kd f ia ib k))] w')
    (fun i _ => ib.length - (intOf i).toNat) ?_ ?_
   ·exact ⟨0, Nat.zero_le _, rfl, by rw [yA]; exact hh⟩
   ·clear hh hown_ hb_
    rintro ρ' i w' ⟨k, hk, rfl, hh⟩
    by_cases hlt : k < ib.length
    ·obtain ⟨x, hx⟩ := aE (l := ia) (k := k) (by omega)
     obtain ⟨y, hy⟩ := aE hlt
     have bx := bda k x hx
     have byy := bdb k y hy
     have hx2 := lL hx
     have hy2 := lL (Bf (f := f) hlab hy)
     have hml := zr (f := f) hlab hk
     have hml2 := m7 (kd f ia ib k)
     obtain ⟨ga, rfl⟩ := hh.eM (i := 0) rfl (by omega)
     obtain ⟨gb, rfl⟩ := hh.eM (i := 1) rfl (by omega)
     refine sr ?_
     refine aW (ae (ah (cT (ak (ai (ah (ao (sr (mI ?_)))))))))
     refine bg aF.out aA.size rfl rfl rfl (by omega) (by decide) ?_
     refine bj aA.out rfl (hh.cC (i := 0) rfl (by first | assumption | (simp only [Nat.mul_one]; assumption))) (by decide) ?_
     refine aI (aI (ae (aq (mL (mI ?_)))))
     refine fI (by first | exact g6 rfl | exact ev_nilf rfl) (by decide) ?_
     refine mI (mL (mI ?_))
     refine bg aF.out aA.size rfl rfl rfl (by omega) (by decide) ?_
     refine bj aA.out rfl (hh.cC (i := 1) rfl (by first | assumption | (simp only [Nat.mul_one]; assumption))) (by decide) ?_
     refine fB (hg x y _ bx.1 bx.2 byy.1 byy.2) ar.out rfl rfl (by decide) ?_
     rintro e_ w41 ⟨rfl, hb_⟩
     refine ⟨_, rfl, ?_⟩
     replace hh := hh.ext hb_
     refine bg aF.out aA.size rfl rfl rfl (by omega) (by decide) ?_
     refine bJ hh (i := 1) (vs := [_]) rfl rfl (bT rfl) rfl aA.out rfl (by omega) rfl ?_
     intro ws hh
     simp only [List.set_cons_zero, List.set_cons_succ] at hh
     refine aC (aT (ai (aq ?_)))
     refine bL (mI (aC (ai ?_)))
     rw [Nat.mul_one, zG hlab hx hy] at hh
     refine ⟨⟨k + 1, by omega, rfl, hh⟩, by show _ - (k + 1) < _ - k; omega, ?_⟩
     (repeat (first | exact aw _ _ _ | refine ax rfl ?_ | refine au rfl ?_))
    ·refine sr ?_
     refine aW (ae (ah (cF ?_)))
     refine aO ?_
     refine ay (ay (a8 (ai (sr (mL (aL (aB (ae (al ?_)))))))))
     refine xp ?_
     obtain rfl : k = ib.length := by omega
     rw [yR hlab] at hh
     have h1 := hh.at_ (i := 1) rfl
     have hzl : (List.zipWith f ia ib).length = ib.length := by simp [hlab]
     refine .inr ⟨_, hbl, by omega, A12, c12, ?_⟩
     rw [hzl]
     exact ⟨rfl, h1, hh.below⟩
theorem wo (a b : ByteArray) (g : FuncId) (f : Int → Int → Int) (w : World) (ha : a.size ≤ 100000) (hb : b.size ≤ 100000) [ar Tryz.prog g]
  (hg : ∀ (x y : Int) (w : World), 0 ≤ x → x ≤ 127 → 0 ≤ y → y ≤ 127 → Calls Tryz.prog g #[.int .i64 x, .int .i64 y] w fun e w' => e = .returned (.int .i64 (f x y)) ∧ Below w.heap.size w w')
  (h : im f a.data.toList b.data.toList = none) :
  Calls Tryz.prog 242 #[.string a, .string b, .func (.func g) #[] #[]] w fun e w' => e = .returned (.tuple #[.slice none 0 0, .bool false]) ∧ Below w.heap.size w w' :=
 (n9 a b g f w ha hb hg).mono fun e w' hq => by
  rcases hq with hq | ⟨l, hl, _⟩
  ·exact hq.2
  ·rw [h] at hl; cases hl
theorem wY (a b : ByteArray) (g : FuncId) (f : Int → Int → Int) (w : World) (ha : a.size ≤ 100000) (hb : b.size ≤ 100000) [ar Tryz.prog g]
  (hg : ∀ (x y : Int) (w : World), 0 ≤ x → x ≤ 127 → 0 ≤ y → y ≤ 127 → Calls Tryz.prog g #[.int .i64 x, .int .i64 y] w fun e w' => e = .returned (.int .i64 (f x y)) ∧ Below w.heap.size w w')
  {l : List Int} (h : im f a.data.toList b.data.toList = some l) :
  Calls Tryz.prog 242 #[.string a, .string b, .func (.func g) #[] #[]] w fun e w' => ∃ A c, e = .returned (.tuple #[.slice A l.length c, .bool true]) ∧ w'.ownsRow w.heap.size 3 1 (.slice A l.length c) l.length (jL l) ∧ Below w.heap.size w w' :=
 (n9 a b g f w ha hb hg).mono fun e w' hq => by
  rcases hq with ⟨hn, _⟩ | ⟨l', hl, _, hq⟩
  ·rw [h] at hn; cases hn
  ·rw [h] at hl; injection hl with hl; subst hl; exact hq
theorem wK {f : Int → Int → Int} {a b : List UInt8} {l : List Int} (h : im f a b = some l) : l.length ≤ b.length := by
 unfold im at h
 split at h
 ·injection h with h; subst h; simp [ints]; omega
 ·cases h
theorem oQ (x y : Int) (w : World) (h1 : 0 ≤ x) (h2 : x ≤ 127) (h3 : 0 ≤ y) (h4 : y ≤ 127) :
  Calls Tryz.prog 243 #[.int .i64 x, .int .i64 y] w fun e w' => e = .returned (.int .i64 (x + y)) ∧ Below w.heap.size w w' := by
 refine aj (N := 8) (l := [.int .i64 x, .int .i64 y]) Tryz.func243 rfl rfl (by simp) ?_
 refine sr (aI (ae (sr (mI (mI ?_)))))
 refine bL (aI (ae (al ?_)))
 refine cn ?_
 exact ⟨rfl, Below.refl _ _⟩
theorem wM (a b : ByteArray) (w : World) (ha : a.size ≤ 100000) (hb : b.size ≤ 100000) :
  Calls Tryz.prog 198 #[.string a, .string b] w fun e w' => e = .returned (.tuple #[.string (str (mulL a.data.toList b.data.toList).1), .int .i64 (mulL a.data.toList b.data.toList).2]) ∧ Below w.heap.size w w' := by
 have hh := Hp.start w
 have hsb := bZ b
 cases hbo : im (· + ·) a.data.toList b.data.toList with
 | none =>
  refine aj (N := 20) (l := [.string a, .string b]) Tryz.func198 rfl rfl (by simp) ?_
  refine sr (aS (aI (ae (sr (mS (mS ?_))))))
  refine bA hh (wo a b _ _ _ ha hb oQ hbo) rfl ?_
  intro w11 hh
  refine mT ?_
  refine dx ?_
  refine dx ?_
  refine aL (aB (ae (ah (sr (mB ?_)))))
  refine gg ?_
  refine ae (cT (sr (aS (aI (ae (al (aD ?_)))))))
  refine xp ?_
  simp only [mulL, hbo]
  first | exact ⟨rfl, hh.below⟩ | exact ⟨trivial, hh.below⟩
 | some l =>
  have hl := wK hbo
  refine aj (N := 20) (l := [.string a, .string b]) Tryz.func198 rfl rfl (by simp) ?_
  refine sr (aS (aI (ae (sr (mS (mS ?_))))))
  refine aR (wY a b _ _ _ ha hb oQ hbo) ar.out rfl (by decide) ?_
  rintro e_ w11 ⟨A11, c11, rfl, hown_, hb_⟩
  refine ⟨_, rfl, ?_⟩
  replace hh := hh.bh (x := .row _ _ _ _ _ _) hb_ hown_
  refine mT ?_
  refine dx ?_
  refine dx ?_
  refine aL (aB (ae (ah (sr (mB ?_)))))
  refine gg ?_
  refine ae (cF (ak (ai (sr (mL ?_)))))
  refine bA hh (yv _ _ _ _ _ (hh.aJ (i := 0) rfl) (by omega)) rfl ?_
  intro w17 hh
  refine dx ?_
  refine dx ?_
  refine aS (aI (ae (al ?_)))
  refine xp ?_
  simp only [mulL, hbo]
  first | exact ⟨rfl, hh.below⟩ | exact ⟨trivial, hh.below⟩
end Go.Proofs.YtaapkaefelhfcaaGreatDoor
/- The walks through poly.Cx and poly.Check. -/
namespace Go.Proofs.YtaapkaefelhfcaaGreatDoor
open Go.RowKit
def gl (v : Int) : Bool := decide (0 ≤ v) && decide (v ≤ 12)
theorem eB {v : Int} : gl v = true ↔ 0 ≤ v ∧ v ≤ 12 := by unfold gl; rw [Bool.and_eq_true, decide_eq_true_eq, decide_eq_true_eq]
theorem mi (v : Int) (w : World) : Calls Tryz.prog 161 #[.int .i64 v] w fun r w' => r = .returned (.bool (gl v)) ∧ Below w.heap.size w w' := by
 have hh := Hp.start w
 unfold gl
 by_cases h1 : 0 ≤ v
 ·rw [decide_eq_true h1, Bool.true_and]
  by_cases h2 : v ≤ 12
  ·rw [decide_eq_true h2]
   refine aj (N := 9) (l := [.int .i64 v]) Tryz.func161 rfl rfl (by simp) ?_
   refine sr (aB (ae (sr (mI ?_))))
   refine dg (mB ?_)
   first | refine gS ?_ | (refine gT ?_; refine mI ?_) | refine gV ?_
   first | refine gS ?_ | (refine gT ?_; refine tQ ?_) | refine gV ?_
   first | refine cS ?_ | refine cU ?_
   refine aB (ae (al ?_))
   refine cn ?_
   exact ⟨rfl, hh.below⟩
  ·rw [decide_eq_false h2]
   refine aj (N := 9) (l := [.int .i64 v]) Tryz.func161 rfl rfl (by simp) ?_
   refine sr (aB (ae (sr (mI ?_))))
   refine dg (mB ?_)
   first | refine gS ?_ | (refine gT ?_; refine mI ?_) | refine gV ?_
   first | refine gS ?_ | (refine gT ?_; refine tQ ?_) | refine gV ?_
   first | refine cS ?_ | refine cU ?_
   refine aB (ae (al ?_))
   refine cn ?_
   exact ⟨rfl, hh.below⟩
 ·rw [decide_eq_false h1, Bool.false_and]
  refine aj (N := 9) (l := [.int .i64 v]) Tryz.func161 rfl rfl (by simp) ?_
  refine sr (aB (ae (sr (mI ?_))))
  refine dg (mB ?_)
  first | refine gS ?_ | (refine gT ?_; refine mI ?_) | refine gV ?_
  first | refine gS ?_ | (refine gT ?_; refine tQ ?_) | refine gV ?_
  first | refine cS ?_ | refine cU ?_
  refine aB (ae (al ?_))
  refine cn ?_
  exact ⟨rfl, hh.below⟩
def Cd (a : NR) : Bool := decide ((nR a.d).neg = a.neg) && (decide ((nR a.d).bu = a.bu) && decide ((nR a.d).e = a.e))
theorem kr (a : NR) : Cd a = true ↔ nR a.d = a := by
 unfold Cd
 rw [Bool.and_eq_true, Bool.and_eq_true, decide_eq_true_eq, decide_eq_true_eq, decide_eq_true_eq]
 constructor
 ·rintro ⟨h1, h2, h3⟩
  obtain ⟨s, m, e⟩ := a
  generalize nR (NR.d ⟨s, m, e⟩) = b at *
  obtain ⟨s', m', e'⟩ := b
  simp only at h1 h2 h3
  rw [h1, h2, h3]
 ·intro h
  rw [h]
  exact ⟨rfl, rfl, rfl⟩
def gO (v : Int) (t : TR) : Bool := ef t.m.data.toList && decide ((t.m.size : Int) = v) && (kt t && Cd t.c)
def kQ : List TR → Bool
 | [] => true
 | [_] => true
 | a :: b :: l => fC a.m b.m && kQ (b :: l)
theorem mD : ∀ (l : List TR) (p x : TR), kQ (l ++ [p, x]) = (kQ (l ++ [p]) && fC p.m x.m)
 | [], p, x => by show (fC p.m x.m && true) = (true && fC p.m x.m); rw [Bool.and_true, Bool.true_and]
 | [a], p, x => by
  show (fC a.m p.m && (fC p.m x.m && true)) = ((fC a.m p.m && true) && fC p.m x.m)
  rw [Bool.and_true, Bool.and_true]
 | a :: b :: l, p, x => by
  show (fC a.m b.m && kQ ((b :: l) ++ [p, x])) = ((fC a.m b.m && kQ ((b :: l) ++ [p])) && fC p.m x.m)
  rw [mD (b :: l) p x, Bool.and_assoc]
theorem vC : ∀ {l : List TR} {i : Nat} {p x : TR}, kQ l = true → l[i]? = some p → l[i + 1]? = some x → fC p.m x.m = true
 | [], i, p, x, _, h, _ => by simp at h
 | [a], i, p, x, _, _, h => by simp at h
 | a :: b :: l, 0, p, x, h, h1, h2 => by
  simp only [List.getElem?_cons_zero, Option.some.injEq, Nat.zero_add, List.getElem?_cons_succ] at h1 h2
  subst h1 h2
  exact (Bool.and_eq_true_iff.1 h).1
 | a :: b :: l, i + 1, p, x, h, h1, h2 => by
  rw [List.getElem?_cons_succ] at h1 h2
  exact vC (Bool.and_eq_true_iff.1 h).2 h1 h2
theorem lF : ∀ {l : List TR}, kQ l = true ↔ ph l
 | [] => ⟨fun _ => List.Pairwise.nil, fun _ => rfl⟩
 | [a] => ⟨fun _ => List.pairwise_singleton _ _, fun _ => rfl⟩
 | a :: b :: l => by
  show (fC a.m b.m && kQ (b :: l)) = true ↔ _
  rw [Bool.and_eq_true, lF (l := b :: l)]
  constructor
  ·rintro ⟨h1, h2⟩
   refine List.pairwise_cons.2 ⟨fun t ht => ?_, h2⟩
   rcases List.mem_cons.1 ht with rfl | ht
   ·exact h1
   ·exact hZ h1 ((List.pairwise_cons.1 h2).1 t ht)
  ·intro h
   have := List.pairwise_cons.1 h
   exact ⟨this.1 b List.mem_cons_self, this.2⟩
def okB (v : Int) (ts : List TR) : Bool := ts.all (gO v) && kQ ts
def fy (v : Int) (ts : List TR) : Int := if gl v = false then 1 else if 4096 < ts.length then 3 else if okB v ts = true then 0 else 1
theorem sG {v : Int} {ts : List TR} (h1 : gl v = true) (h2 : ¬ 4096 < ts.length) (h : okB v ts = false) : fy v ts = 1 := by
 unfold fy
 rw [if_neg (by rw [h1]; decide), if_neg h2, if_neg (by rw [h]; decide)]
theorem kh {v : Int} {ts : List TR} {i : Nat} {x : TR} (hx : ts[i]? = some x) (h : gO v x = false) : okB v ts = false := by
 unfold okB
 rw [Bool.and_eq_false_iff]
 refine .inl (Bool.eq_false_iff.2 fun h2 => ?_)
 rw [List.all_eq_true.1 h2 x (List.mem_of_getElem? hx)] at h
 cases h
theorem sF {v : Int} {ts : List TR} {i : Nat} {p x : TR} (hp : ts[i]? = some p) (hx : ts[i + 1]? = some x) (h : fC p.m x.m = false) : okB v ts = false := by
 unfold okB
 rw [Bool.and_eq_false_iff]
 refine .inr (Bool.eq_false_iff.2 fun h2 => ?_)
 rw [vC h2 hp hx] at h
 cases h
theorem qJ (v : Int) (A : Option Addr) (n c : Nat) (ts : List TR) (w : World) (hT : gW w) (hS : Sl w A n 4 (aP TR.cells ts)) (hn : n ≤ 1000000) (ho : ∀ t ∈ ts, t.c.ok ∧ t.m.size ≤ 100000) :
  Calls Tryz.prog 85 #[.agg #[.int .i64 v, .slice A n c]] w fun r w' => r = .returned (.int .i64 (fy v ts)) ∧ Below w.heap.size w w' := by
 have hh := Hp.start w
 have hln := hS.cx TR.len (by decide)
 have hfw := fun w1 => mi v w1
 cases hf : gl v with
 | false =>
  rw [hf] at hfw
  rw [show fy v ts = 1 by unfold fy; rw [if_pos hf]]
  refine aj (N := 58) (l := [.agg #[.int .i64 v, .slice A n c]]) Tryz.func85 rfl rfl (by simp) ?_
  refine sr ?_
  refine cz hh [_,_] ?_
  intro b1 w1 hh
  refine aI (ae (ah (sr (bB ?_))))
  refine bE hh 0 ?_
  refine bA hh (hfw _) rfl ?_
  intro w7 hh
  refine gg ?_
  refine ae (cT (sr (aI (ae (al (aD ?_))))))
  refine cn ?_
  exact ⟨rfl, hh.below⟩
 | true =>
  rw [hf] at hfw
  by_cases h4 : 4096 < n
  ·rw [show fy v ts = 3 by unfold fy; rw [if_neg (by rw [hf]; decide), if_pos (by omega)]]
   refine aj (N := 58) (l := [.agg #[.int .i64 v, .slice A n c]]) Tryz.func85 rfl rfl (by simp) ?_
   refine sr ?_
   refine cz hh [_,_] ?_
   intro b1 w1 hh
   refine aI (ae (ah (sr (bB ?_))))
   refine bE hh 0 ?_
   refine bA hh (hfw _) rfl ?_
   intro w7 hh
   refine gg ?_
   refine ae (cF (ak (ai (ah (sr (bB ?_))))))
   refine bE hh 0 ?_
   refine a0 ?_
   refine ck (ae (cT (sr (aI (ae (al (aD ?_)))))))
   refine cn ?_
   exact ⟨rfl, hh.below⟩
  ·have hbad := fun h => sG (v := v) (ts := ts) hf (by omega) h
   refine aj (N := 58) (l := [.agg #[.int .i64 v, .slice A n c]]) Tryz.func85 rfl rfl (by simp) ?_
   refine sr ?_
   refine cz hh [_,_] ?_
   intro b1 w1 hh
   refine aI (ae (ah (sr (bB ?_))))
   refine bE hh 0 ?_
   refine bA hh (hfw _) rfl ?_
   intro w7 hh
   refine gg ?_
   refine ae (cF (ak (ai (ah (sr (bB ?_))))))
   refine bE hh 0 ?_
   refine a0 ?_
   refine ck (ae (cF (ak (ai (ah (sr (bB ?_)))))))
   refine bE hh 0 ?_
   refine a0 (mI (ae (ao ?_)))
   refine bs [2, 3, 4, 16, 17, 18, 19, 20, 21, 22, 23, 24, 25, 26, 27, 28, 29, 30, 31, 32, 33, 34, 35, 36, 37, 38, 39, 40, 41, 42, 43, 44, 45, 46, 47, 48, 49, 50, 51, 52, 53, 54, 55, 56, 57] 16
    (fun x w' => ∃ i : Nat, i ≤ n ∧ x = .int .i64 i ∧ (ts.take i).all (gO v) = true ∧ kQ (ts.take i) = true ∧ Hp w [.blk b1 24 [.int .i64 v, .slice A n c] (0, 0)] w')
    (fun x _ => n - (intOf x).toNat) ?_ ?_
   ·exact ⟨0, Nat.zero_le _, rfl, rfl, rfl, hh⟩
   ·clear hh
    rintro ρ' x_ w' ⟨i, hi, rfl, hall, hris, hh⟩
    by_cases hlt : i < n
    ·obtain ⟨x, hx⟩ := aE (l := ts) (k := i) (by omega)
     obtain ⟨ad, rfl, hr⟩ := hS.at_ (by omega)
     obtain ⟨hxo, hxm⟩ := ho x (List.mem_of_getElem? hx)
     have hmay := fun w1 => jn x.m v w1 (by omega)
     have hsg := fun w1 => ng x.c w1
     have hfo := fun w1 hT1 => eD x.c w1 hT1 (by have := hxo.1; omega) (by have := hxo.2.1; omega) (by have := hxo.2.2; omega)
     have hzz : x.c.i.sign = 0 ↔ x.c.d = 0 := by
      rw [Int.sign_eq_zero_iff_zero]
      exact ⟨fun h => by unfold NR.d; rw [h]; rfl, gN⟩
     cases hm : ef x.m.data.toList && decide ((x.m.size : Int) = v) with
     | false =>
      rw [hm] at hmay
      rw [hbad (kh hx (by unfold gO; rw [hm]; rfl))]
      refine sr ?_
      refine aW (ae (ah (cT (ak (ai (ah (ao (sr (mI ?_)))))))))
      refine aQ (k := i) aF.out aA.size rfl rfl (by omega) (by omega) (by decide) ?_
      refine bR (vs := [_, _, _, _]) aA.out rfl ((hr.ext hh.below).recAt TR.len hx) rfl (by decide) ?_
      refine cj hh ?_
      intro b4 w4 hh
      refine aI ?_
      refine bD hh 0 [_,_,_,_] ?_
      intro ws hh
      replace hh : Hp _ (.blk _ _ [_, _, _, _] _ :: _) _ := hh
      refine ae (ah ?_)
      refine cg [] [] [0, 1, 0, 4, 15, 31, 63, 127, 255, 511, 1023, 2047, 4095, 8191, 16383, 32767, 8191, 73727, 262143, 524287, 1048575, 2097151, 4194303, 8388607, 16777215, 33554431, 16777215, 83886079, 268435455, 536870911, 1073741823, 16777215, 2164260863, 8589934591, 17179869183, 34359738367] 33 [[(4, none)], [(21, some 0)], [(1, none)], [(23, some 2)], [(22, some 1), (24, some 3)], [(25, some 4)], [(26, some 5)], [(4, none), (27, some 6)], [(28, some 7), (27, some 6)], [(29, some 8), (27, some 6)], [(30, some 9), (27, some 6)], [(27, some 6), (31, some 10)], [(32, some 11)], [(4, none), (33, some 12)], [(34, some 13), (33, some 12)], [(35, some 14), (33, some 12)], [(4, none), (33, some 12)], [(37, some 16), (33, some 12)], [(36, some 15), (38, some 17), (33, some 12)], [(33, some 12), (39, some 18)], [(40, some 19)], [(3, none), (41, some 20)], [(42, some 21), (41, some 20)], [(43, some 22), (41, some 20)], [(1, none), (44, some 23)], [(45, some 24), (44, some 23)], [(3, none), (44, some 23)], [(47, some 26), (44, some 23)], [(46, some 25), (48, some 27), (44, some 23)], [(49, some 28), (44, some 23)], [(50, some 29), (44, some 23)], [(4, none), (44, some 23)], [(52, some 31), (44, some 23)]] [(32, 53), (31, 52), (30, 51), (29, 50), (28, 49), (27, 48), (26, 47), (25, 46), (24, 45), (23, 44), (22, 43), (21, 42), (20, 41), (19, 40), (18, 39), (17, 38), (16, 37), (15, 36), (14, 35), (13, 34), (12, 33), (11, 32), (10, 31), (9, 30), (8, 29), (7, 28), (6, 27), (5, 26), (4, 25), (3, 24), (2, 23), (1, 22), (0, 21)] hh mixed (by kernel_rfl) cA rfl (by repeat (first | exact bW | refine bC ?_ | refine bV ?_)) ?_
      refine cw ?_
      refine dI 0 ?_
      refine cw ?_
      refine dI 1 ?_
      refine dC (fun _ hj => hmay _) ?_
      refine pz ?_
      refine gY ?_
      first | refine dS ?_ | refine dU ?_ | refine dG (cw ?_)
      first | refine dS ?_ | refine dU ?_ | refine dG (dZ 0 [_,_,_] ?_)
      first | refine dS ?_ | refine dU ?_
      first | refine dS ?_ | refine dU ?_ | refine dG (lZ ?_)
      first | refine n0 ?_ | refine oP ?_
      refine gY ?_
      first | refine dS ?_ | refine dU ?_ | refine dG (cw ?_)
      first | refine dS ?_ | refine dU ?_ | refine dG (dZ 0 [_,_,_] ?_)
      first | refine dS ?_ | refine dU ?_
      first | refine dS ?_ | refine dU ?_ | refine dG (cw ?_)
      first | refine dS ?_ | refine dU ?_ | refine dG (dZ 0 [_,_,_] ?_)
      first | refine eU (i := 18) rfl (fun ρ1 w1 hj hR => (show ρ1 33 = Value.bool _ from hR.2.2.1)) (by decide) ?_ | refine ee (i := 18) rfl (fun ρ1 w1 hj hR => (show ρ1 33 = undef from hR.2.2.1)) ?_ | refine dL (i := 18) rfl (fun ρ1 w1 hj hR => (show ρ1 33 = Value.bool _ from hR.2.2.1)) (fun ρ1 w1 hj hR => jD (show ρ1 36 = Value.agg (List.toArray _) from hR.1) (show ρ1 38 = Value.agg (List.toArray _) from hR.2.1) (by first | assumption | rfl)) ?_ | refine dL (i := 18) rfl (fun ρ1 w1 hj hR => (show ρ1 33 = Value.bool _ from hR.2.2.1)) (fun ρ1 w1 hj hR => ju (show ρ1 36 = Value.agg (List.toArray _) from hR.1) (show ρ1 38 = Value.agg (List.toArray _) from hR.2.1) (by assumption)) ?_
      first | refine n0 ?_ | refine oP ?_
      refine gY ?_
      first | refine dS ?_ | refine dU ?_ | refine dG (ej ?_)
      first | refine dS ?_ | refine dU ?_ | refine dG (qP ?_)
      first | refine dS ?_ | refine dU ?_ | refine dG (gY ?_)
      first | refine dS ?_ | refine dU ?_ | refine dG (cw ?_)
      first | refine dS ?_ | refine dU ?_ | refine dG (dI 1 ?_)
      first | refine dS ?_ | refine dU ?_ | refine dG (ej ?_)
      first | refine dS ?_ | refine dU ?_ | refine dG (jS ?_)
      first | refine eU (i := 28) rfl (fun ρ1 w1 hj hR => (show ρ1 44 = Value.bool _ from hR.2.2.1)) (by decide) ?_ | refine ee (i := 28) rfl (fun ρ1 w1 hj hR => (show ρ1 44 = undef from hR.2.2.1)) ?_ | refine dL (i := 28) rfl (fun ρ1 w1 hj hR => (show ρ1 44 = Value.bool _ from hR.2.2.1)) (fun ρ1 w1 hj hR => ea aF.out aA.size (show ρ1 46 = Value.slice _ _ _ from hR.1) (show ρ1 48 = Value.int _ _ from hR.2.1) rfl (by omega)) ?_
      first | refine dS ?_ | refine dU ?_ | refine dG (lT ?_)
      first | refine dS ?_ | refine dU ?_ | refine dG (jq (fun _ hj => hT) ?_)
      first | refine dS ?_ | refine dU ?_ | refine dG (cw ?_)
      first | refine dS ?_ | refine dU ?_ | refine dG (dI 0 ?_)
      refine a6 ?_
      intro f W hJ hV _
      have hb_8 := hJ.bl
      obtain ⟨v53, v52, v51, v50, v49, v48, v47, v46, v45, v44, v43, v42, v41, v40, v39, v38, v37, v36, v35, v34, v33, v32, v31, v30, v29, v28, v27, v26, v25, v24, v23, v22, v21, _⟩ := hV
      replace hh := hJ.hp
      refine aK (a4 (aa v53 (aa v52 (aa v51 (aa v50 (aa v49 (aa v48 (aa v47 (aa v46 (aa v45 (aa v44 (aa v43 (aa v42 (aa v41 (aa v40 (aa v39 (aa v38 (aa v37 (aa v36 (aa v35 (aa v34 (aa v33 (aa v32 (aa v31 (aa v30 (aa v29 (aa v28 (aa v27 (aa v26 (aa v25 (aa v24 (aa v23 (aa v22 (aa v21 aM)))))))))))))))))))))))))))))))))) ?_
      dsimp only [bX]
      clear hJ
      first | refine gS ?_ | (refine gT ?_; refine fh rfl rfl (by decide) ?_) | refine gV ?_
      first | refine gS ?_ | (refine gT ?_; (first | refine cS ?_ | refine cU ?_)) | refine gV ?_
      first | refine cS ?_ | refine cU ?_
      refine ae (cT (sr (aI (ae (al (bP (aD (aD (bP (aD ?_))))))))))
      refine cn ?_
      exact ⟨rfl, hh.below⟩
     | true =>
      rw [hm] at hmay
      by_cases hz : x.c.d = 0
      ·have hs := hzz.2 hz
       rw [hbad (kh hx (by unfold gO kt; rw [hm, decide_eq_true hz]; rfl))]
       refine sr ?_
       refine aW (ae (ah (cT (ak (ai (ah (ao (sr (mI ?_)))))))))
       refine aQ (k := i) aF.out aA.size rfl rfl (by omega) (by omega) (by decide) ?_
       refine bR (vs := [_, _, _, _]) aA.out rfl ((hr.ext hh.below).recAt TR.len hx) rfl (by decide) ?_
       refine cj hh ?_
       intro b4 w4 hh
       refine aI ?_
       refine bD hh 0 [_,_,_,_] ?_
       intro ws hh
       replace hh : Hp _ (.blk _ _ [_, _, _, _] _ :: _) _ := hh
       refine ae (ah ?_)
       refine cg [] [] [0, 1, 0, 4, 15, 31, 63, 127, 255, 511, 1023, 2047, 4095, 8191, 16383, 32767, 8191, 73727, 262143, 524287, 1048575, 2097151, 4194303, 8388607, 16777215, 33554431, 16777215, 83886079, 268435455, 536870911, 1073741823, 16777215, 2164260863, 8589934591, 17179869183, 34359738367] 33 [[(4, none)], [(21, some 0)], [(1, none)], [(23, some 2)], [(22, some 1), (24, some 3)], [(25, some 4)], [(26, some 5)], [(4, none), (27, some 6)], [(28, some 7), (27, some 6)], [(29, some 8), (27, some 6)], [(30, some 9), (27, some 6)], [(27, some 6), (31, some 10)], [(32, some 11)], [(4, none), (33, some 12)], [(34, some 13), (33, some 12)], [(35, some 14), (33, some 12)], [(4, none), (33, some 12)], [(37, some 16), (33, some 12)], [(36, some 15), (38, some 17), (33, some 12)], [(33, some 12), (39, some 18)], [(40, some 19)], [(3, none), (41, some 20)], [(42, some 21), (41, some 20)], [(43, some 22), (41, some 20)], [(1, none), (44, some 23)], [(45, some 24), (44, some 23)], [(3, none), (44, some 23)], [(47, some 26), (44, some 23)], [(46, some 25), (48, some 27), (44, some 23)], [(49, some 28), (44, some 23)], [(50, some 29), (44, some 23)], [(4, none), (44, some 23)], [(52, some 31), (44, some 23)]] [(32, 53), (31, 52), (30, 51), (29, 50), (28, 49), (27, 48), (26, 47), (25, 46), (24, 45), (23, 44), (22, 43), (21, 42), (20, 41), (19, 40), (18, 39), (17, 38), (16, 37), (15, 36), (14, 35), (13, 34), (12, 33), (11, 32), (10, 31), (9, 30), (8, 29), (7, 28), (6, 27), (5, 26), (4, 25), (3, 24), (2, 23), (1, 22), (0, 21)] hh mixed (by kernel_rfl) cA rfl (by repeat (first | exact bW | refine bC ?_ | refine bV ?_)) ?_
       refine cw ?_
       refine dI 0 ?_
       refine cw ?_
       refine dI 1 ?_
       refine dC (fun _ hj => hmay _) ?_
       refine pz ?_
       refine gY ?_
       first | refine dS ?_ | refine dU ?_ | refine dG (cw ?_)
       first | refine dS ?_ | refine dU ?_ | refine dG (dZ 0 [_,_,_] ?_)
       refine bK (i := 9) rfl (fun ρ1 w1 hj hR => (show ρ1 27 = Value.bool _ from hR.2.1)) (fun ρ1 w1 hj hR => a3 ar.out (az (show ρ1 29 = Value.agg (List.toArray _) from hR.1) a7)) (fun w1 hj => hsg _) ?_
       first | refine dS ?_ | refine dU ?_ | refine dG (lZ ?_)
       first | refine n0 ?_ | refine oP ?_
       refine gY ?_
       first | refine dS ?_ | refine dU ?_ | refine dG (cw ?_)
       first | refine dS ?_ | refine dU ?_ | refine dG (dZ 0 [_,_,_] ?_)
       first | refine dS ?_ | refine dU ?_
       first | refine dS ?_ | refine dU ?_ | refine dG (cw ?_)
       first | refine dS ?_ | refine dU ?_ | refine dG (dZ 0 [_,_,_] ?_)
       first | refine eU (i := 18) rfl (fun ρ1 w1 hj hR => (show ρ1 33 = Value.bool _ from hR.2.2.1)) (by decide) ?_ | refine ee (i := 18) rfl (fun ρ1 w1 hj hR => (show ρ1 33 = undef from hR.2.2.1)) ?_ | refine dL (i := 18) rfl (fun ρ1 w1 hj hR => (show ρ1 33 = Value.bool _ from hR.2.2.1)) (fun ρ1 w1 hj hR => jD (show ρ1 36 = Value.agg (List.toArray _) from hR.1) (show ρ1 38 = Value.agg (List.toArray _) from hR.2.1) (by first | assumption | rfl)) ?_ | refine dL (i := 18) rfl (fun ρ1 w1 hj hR => (show ρ1 33 = Value.bool _ from hR.2.2.1)) (fun ρ1 w1 hj hR => ju (show ρ1 36 = Value.agg (List.toArray _) from hR.1) (show ρ1 38 = Value.agg (List.toArray _) from hR.2.1) (by assumption)) ?_
       first | refine n0 ?_ | refine oP ?_
       refine gY ?_
       first | refine dS ?_ | refine dU ?_ | refine dG (ej ?_)
       first | refine dS ?_ | refine dU ?_ | refine dG (qP ?_)
       first | refine dS ?_ | refine dU ?_ | refine dG (gY ?_)
       first | refine dS ?_ | refine dU ?_ | refine dG (cw ?_)
       first | refine dS ?_ | refine dU ?_ | refine dG (dI 1 ?_)
       first | refine dS ?_ | refine dU ?_ | refine dG (ej ?_)
       first | refine dS ?_ | refine dU ?_ | refine dG (jS ?_)
       first | refine eU (i := 28) rfl (fun ρ1 w1 hj hR => (show ρ1 44 = Value.bool _ from hR.2.2.1)) (by decide) ?_ | refine ee (i := 28) rfl (fun ρ1 w1 hj hR => (show ρ1 44 = undef from hR.2.2.1)) ?_ | refine dL (i := 28) rfl (fun ρ1 w1 hj hR => (show ρ1 44 = Value.bool _ from hR.2.2.1)) (fun ρ1 w1 hj hR => ea aF.out aA.size (show ρ1 46 = Value.slice _ _ _ from hR.1) (show ρ1 48 = Value.int _ _ from hR.2.1) rfl (by omega)) ?_
       first | refine dS ?_ | refine dU ?_ | refine dG (lT ?_)
       first | refine dS ?_ | refine dU ?_ | refine dG (jq (fun _ hj => hT) ?_)
       first | refine dS ?_ | refine dU ?_ | refine dG (cw ?_)
       first | refine dS ?_ | refine dU ?_ | refine dG (dI 0 ?_)
       refine a6 ?_
       intro f W hJ hV _
       have hb_8 := hJ.bl
       obtain ⟨v53, v52, v51, v50, v49, v48, v47, v46, v45, v44, v43, v42, v41, v40, v39, v38, v37, v36, v35, v34, v33, v32, v31, v30, v29, v28, v27, v26, v25, v24, v23, v22, v21, _⟩ := hV
       replace hh := hJ.hp
       refine aK (a4 (aa v53 (aa v52 (aa v51 (aa v50 (aa v49 (aa v48 (aa v47 (aa v46 (aa v45 (aa v44 (aa v43 (aa v42 (aa v41 (aa v40 (aa v39 (aa v38 (aa v37 (aa v36 (aa v35 (aa v34 (aa v33 (aa v32 (aa v31 (aa v30 (aa v29 (aa v28 (aa v27 (aa v26 (aa v25 (aa v24 (aa v23 (aa v22 (aa v21 aM)))))))))))))))))))))))))))))))))) ?_
       dsimp only [bX]
       clear hJ
       first | refine gS ?_ | (refine gT ?_; refine fh rfl rfl (by decide) ?_) | refine gV ?_
       first | refine gS ?_ | (refine gT ?_; (first | refine cS ?_ | refine cU ?_)) | refine gV ?_
       first | refine cS ?_ | refine cU ?_
       refine ae (cT (sr (aI (ae (al (bP (aD (aD (bP (aD ?_))))))))))
       refine cn ?_
       exact ⟨rfl, hh.below⟩
      ·have hs : ¬ x.c.i.sign = 0 := fun h => hz (hzz.1 h)
       by_cases hnf : nR x.c.d = x.c
       ·have hgood : gO v x = true := by unfold gO kt; rw [hm, decide_eq_false hz, (kr x.c).2 hnf]; rfl
        have hall2 : (ts.take (i + 1)).all (gO v) = true := by rw [aN hx, List.all_append, hall]; simp [hgood]
        by_cases h0 : i = 0
        ·refine sr ?_
         refine aW (ae (ah (cT (ak (ai (ah (ao (sr (mI ?_)))))))))
         refine aQ (k := i) aF.out aA.size rfl rfl (by omega) (by omega) (by decide) ?_
         refine bR (vs := [_, _, _, _]) aA.out rfl ((hr.ext hh.below).recAt TR.len hx) rfl (by decide) ?_
         refine cj hh ?_
         intro b4 w4 hh
         refine aI ?_
         refine bD hh 0 [_,_,_,_] ?_
         intro ws hh
         replace hh : Hp _ (.blk _ _ [_, _, _, _] _ :: _) _ := hh
         refine ae (ah ?_)
         refine cg [] [] [0, 1, 0, 4, 15, 31, 63, 127, 255, 511, 1023, 2047, 4095, 8191, 16383, 32767, 8191, 73727, 262143, 524287, 1048575, 2097151, 4194303, 8388607, 16777215, 33554431, 16777215, 83886079, 268435455, 536870911, 1073741823, 16777215, 2164260863, 8589934591, 17179869183, 34359738367] 33 [[(4, none)], [(21, some 0)], [(1, none)], [(23, some 2)], [(22, some 1), (24, some 3)], [(25, some 4)], [(26, some 5)], [(4, none), (27, some 6)], [(28, some 7), (27, some 6)], [(29, some 8), (27, some 6)], [(30, some 9), (27, some 6)], [(27, some 6), (31, some 10)], [(32, some 11)], [(4, none), (33, some 12)], [(34, some 13), (33, some 12)], [(35, some 14), (33, some 12)], [(4, none), (33, some 12)], [(37, some 16), (33, some 12)], [(36, some 15), (38, some 17), (33, some 12)], [(33, some 12), (39, some 18)], [(40, some 19)], [(3, none), (41, some 20)], [(42, some 21), (41, some 20)], [(43, some 22), (41, some 20)], [(1, none), (44, some 23)], [(45, some 24), (44, some 23)], [(3, none), (44, some 23)], [(47, some 26), (44, some 23)], [(46, some 25), (48, some 27), (44, some 23)], [(49, some 28), (44, some 23)], [(50, some 29), (44, some 23)], [(4, none), (44, some 23)], [(52, some 31), (44, some 23)]] [(32, 53), (31, 52), (30, 51), (29, 50), (28, 49), (27, 48), (26, 47), (25, 46), (24, 45), (23, 44), (22, 43), (21, 42), (20, 41), (19, 40), (18, 39), (17, 38), (16, 37), (15, 36), (14, 35), (13, 34), (12, 33), (11, 32), (10, 31), (9, 30), (8, 29), (7, 28), (6, 27), (5, 26), (4, 25), (3, 24), (2, 23), (1, 22), (0, 21)] hh mixed (by kernel_rfl) cA rfl (by repeat (first | exact bW | refine bC ?_ | refine bV ?_)) ?_
         refine cw ?_
         refine dI 0 ?_
         refine cw ?_
         refine dI 1 ?_
         refine dC (fun _ hj => hmay _) ?_
         refine pz ?_
         refine gY ?_
         first | refine dS ?_ | refine dU ?_ | refine dG (cw ?_)
         first | refine dS ?_ | refine dU ?_ | refine dG (dZ 0 [_,_,_] ?_)
         refine bK (i := 9) rfl (fun ρ1 w1 hj hR => (show ρ1 27 = Value.bool _ from hR.2.1)) (fun ρ1 w1 hj hR => a3 ar.out (az (show ρ1 29 = Value.agg (List.toArray _) from hR.1) a7)) (fun w1 hj => hsg _) ?_
         first | refine dS ?_ | refine dU ?_ | refine dG (lZ ?_)
         first | refine n0 ?_ | refine oP ?_
         refine gY ?_
         first | refine dS ?_ | refine dU ?_ | refine dG (cw ?_)
         first | refine dS ?_ | refine dU ?_ | refine dG (dZ 0 [_,_,_] ?_)
         refine bK (i := 15) rfl (fun ρ1 w1 hj hR => (show ρ1 33 = Value.bool _ from hR.2.1)) (fun ρ1 w1 hj hR => a3 ar.out (az (show ρ1 35 = Value.agg (List.toArray _) from hR.1) a7)) (fun w1 hj => hfo _ (hT.hp hj.hp)) ?_
         first | refine dS ?_ | refine dU ?_ | refine dG (cw ?_)
         first | refine dS ?_ | refine dU ?_ | refine dG (dZ 0 [_,_,_] ?_)
         first | refine eU (i := 18) rfl (fun ρ1 w1 hj hR => (show ρ1 33 = Value.bool _ from hR.2.2.1)) (by decide) ?_ | refine ee (i := 18) rfl (fun ρ1 w1 hj hR => (show ρ1 33 = undef from hR.2.2.1)) ?_ | refine dL (i := 18) rfl (fun ρ1 w1 hj hR => (show ρ1 33 = Value.bool _ from hR.2.2.1)) (fun ρ1 w1 hj hR => jD (show ρ1 36 = Value.agg (List.toArray _) from hR.1) (show ρ1 38 = Value.agg (List.toArray _) from hR.2.1) (by first | assumption | rfl)) ?_ | refine dL (i := 18) rfl (fun ρ1 w1 hj hR => (show ρ1 33 = Value.bool _ from hR.2.2.1)) (fun ρ1 w1 hj hR => ju (show ρ1 36 = Value.agg (List.toArray _) from hR.1) (show ρ1 38 = Value.agg (List.toArray _) from hR.2.1) (by assumption)) ?_
         first | refine n0 ?_ | refine oP ?_
         refine gY ?_
         first | refine dS ?_ | refine dU ?_ | refine dG (ej ?_)
         first | refine dS ?_ | refine dU ?_ | refine dG (qP ?_)
         first | refine dS ?_ | refine dU ?_ | refine dG (gY ?_)
         first | refine dS ?_ | refine dU ?_ | refine dG (cw ?_)
         first | refine dS ?_ | refine dU ?_ | refine dG (dI 1 ?_)
         first | refine dS ?_ | refine dU ?_ | refine dG (ej ?_)
         first | refine dS ?_ | refine dU ?_ | refine dG (jS ?_)
         first | refine eU (i := 28) rfl (fun ρ1 w1 hj hR => (show ρ1 44 = Value.bool _ from hR.2.2.1)) (by decide) ?_ | refine ee (i := 28) rfl (fun ρ1 w1 hj hR => (show ρ1 44 = undef from hR.2.2.1)) ?_ | refine dL (i := 28) rfl (fun ρ1 w1 hj hR => (show ρ1 44 = Value.bool _ from hR.2.2.1)) (fun ρ1 w1 hj hR => ea aF.out aA.size (show ρ1 46 = Value.slice _ _ _ from hR.1) (show ρ1 48 = Value.int _ _ from hR.2.1) rfl (by omega)) ?_
         first | refine dS ?_ | refine dU ?_ | refine dG (lT ?_)
         first | refine dS ?_ | refine dU ?_ | refine dG (jq (fun _ hj => hT) ?_)
         first | refine dS ?_ | refine dU ?_ | refine dG (cw ?_)
         first | refine dS ?_ | refine dU ?_ | refine dG (dI 0 ?_)
         refine a6 ?_
         intro f W hJ hV _
         have hb_8 := hJ.bl
         obtain ⟨v53, v52, v51, v50, v49, v48, v47, v46, v45, v44, v43, v42, v41, v40, v39, v38, v37, v36, v35, v34, v33, v32, v31, v30, v29, v28, v27, v26, v25, v24, v23, v22, v21, _⟩ := hV
         replace hh := hJ.hp
         refine aK (a4 (aa v53 (aa v52 (aa v51 (aa v50 (aa v49 (aa v48 (aa v47 (aa v46 (aa v45 (aa v44 (aa v43 (aa v42 (aa v41 (aa v40 (aa v39 (aa v38 (aa v37 (aa v36 (aa v35 (aa v34 (aa v33 (aa v32 (aa v31 (aa v30 (aa v29 (aa v28 (aa v27 (aa v26 (aa v25 (aa v24 (aa v23 (aa v22 (aa v21 aM)))))))))))))))))))))))))))))))))) ?_
         dsimp only [bX]
         clear hJ
         first | refine gS ?_ | (refine gT ?_; refine fh rfl rfl (by decide) ?_) | refine gV ?_
         first | refine gS ?_ | (refine gT ?_; (first | refine cS ?_ | refine cU ?_)) | refine gV ?_
         first | refine cS ?_ | refine cU ?_
         refine ae (cF (ak (aT (ai (aq ?_)))))
         refine bL (mI (aC (ai ?_)))
         replace hh := hh.sub (List.Sublist.cons _ (List.Sublist.cons_cons _ List.Sublist.slnil))
         refine ⟨⟨i + 1, by omega, rfl, hall2, by rw [aN hx, h0]; rfl, hh⟩, by show n - (i + 1) < n - i; omega, ?_⟩
         (repeat (first | exact aw _ _ _ | refine ax rfl ?_ | refine au rfl ?_))
        ·obtain ⟨q, hq⟩ : ∃ q, i = q + 1 := ⟨i - 1, by omega⟩
         obtain ⟨p, hp⟩ := aE (l := ts) (k := q) (by omega)
         cases hlp : fC p.m x.m with
         | false =>
          rw [hbad (sF hp (hq ▸ hx) hlp)]
          have hge : (!(Op.bytesLess p.m.toList x.m.toList)) = true := by rw [gP, hlp]; rfl
          refine sr ?_
          refine aW (ae (ah (cT (ak (ai (ah (ao (sr (mI ?_)))))))))
          refine aQ (k := i) aF.out aA.size rfl rfl (by omega) (by omega) (by decide) ?_
          refine bR (vs := [_, _, _, _]) aA.out rfl ((hr.ext hh.below).recAt TR.len hx) rfl (by decide) ?_
          refine cj hh ?_
          intro b4 w4 hh
          refine aI ?_
          refine bD hh 0 [_,_,_,_] ?_
          intro ws hh
          replace hh : Hp _ (.blk _ _ [_, _, _, _] _ :: _) _ := hh
          refine ae (ah ?_)
          refine cg [] [] [0, 1, 0, 4, 15, 31, 63, 127, 255, 511, 1023, 2047, 4095, 8191, 16383, 32767, 8191, 73727, 262143, 524287, 1048575, 2097151, 4194303, 8388607, 16777215, 33554431, 16777215, 83886079, 268435455, 536870911, 1073741823, 16777215, 2164260863, 8589934591, 17179869183, 34359738367] 33 [[(4, none)], [(21, some 0)], [(1, none)], [(23, some 2)], [(22, some 1), (24, some 3)], [(25, some 4)], [(26, some 5)], [(4, none), (27, some 6)], [(28, some 7), (27, some 6)], [(29, some 8), (27, some 6)], [(30, some 9), (27, some 6)], [(27, some 6), (31, some 10)], [(32, some 11)], [(4, none), (33, some 12)], [(34, some 13), (33, some 12)], [(35, some 14), (33, some 12)], [(4, none), (33, some 12)], [(37, some 16), (33, some 12)], [(36, some 15), (38, some 17), (33, some 12)], [(33, some 12), (39, some 18)], [(40, some 19)], [(3, none), (41, some 20)], [(42, some 21), (41, some 20)], [(43, some 22), (41, some 20)], [(1, none), (44, some 23)], [(45, some 24), (44, some 23)], [(3, none), (44, some 23)], [(47, some 26), (44, some 23)], [(46, some 25), (48, some 27), (44, some 23)], [(49, some 28), (44, some 23)], [(50, some 29), (44, some 23)], [(4, none), (44, some 23)], [(52, some 31), (44, some 23)]] [(32, 53), (31, 52), (30, 51), (29, 50), (28, 49), (27, 48), (26, 47), (25, 46), (24, 45), (23, 44), (22, 43), (21, 42), (20, 41), (19, 40), (18, 39), (17, 38), (16, 37), (15, 36), (14, 35), (13, 34), (12, 33), (11, 32), (10, 31), (9, 30), (8, 29), (7, 28), (6, 27), (5, 26), (4, 25), (3, 24), (2, 23), (1, 22), (0, 21)] hh mixed (by kernel_rfl) cA rfl (by repeat (first | exact bW | refine bC ?_ | refine bV ?_)) ?_
          refine cw ?_
          refine dI 0 ?_
          refine cw ?_
          refine dI 1 ?_
          refine dC (fun _ hj => hmay _) ?_
          refine pz ?_
          refine gY ?_
          first | refine dS ?_ | refine dU ?_ | refine dG (cw ?_)
          first | refine dS ?_ | refine dU ?_ | refine dG (dZ 0 [_,_,_] ?_)
          refine bK (i := 9) rfl (fun ρ1 w1 hj hR => (show ρ1 27 = Value.bool _ from hR.2.1)) (fun ρ1 w1 hj hR => a3 ar.out (az (show ρ1 29 = Value.agg (List.toArray _) from hR.1) a7)) (fun w1 hj => hsg _) ?_
          first | refine dS ?_ | refine dU ?_ | refine dG (lZ ?_)
          first | refine n0 ?_ | refine oP ?_
          refine gY ?_
          first | refine dS ?_ | refine dU ?_ | refine dG (cw ?_)
          first | refine dS ?_ | refine dU ?_ | refine dG (dZ 0 [_,_,_] ?_)
          refine bK (i := 15) rfl (fun ρ1 w1 hj hR => (show ρ1 33 = Value.bool _ from hR.2.1)) (fun ρ1 w1 hj hR => a3 ar.out (az (show ρ1 35 = Value.agg (List.toArray _) from hR.1) a7)) (fun w1 hj => hfo _ (hT.hp hj.hp)) ?_
          first | refine dS ?_ | refine dU ?_ | refine dG (cw ?_)
          first | refine dS ?_ | refine dU ?_ | refine dG (dZ 0 [_,_,_] ?_)
          first | refine eU (i := 18) rfl (fun ρ1 w1 hj hR => (show ρ1 33 = Value.bool _ from hR.2.2.1)) (by decide) ?_ | refine ee (i := 18) rfl (fun ρ1 w1 hj hR => (show ρ1 33 = undef from hR.2.2.1)) ?_ | refine dL (i := 18) rfl (fun ρ1 w1 hj hR => (show ρ1 33 = Value.bool _ from hR.2.2.1)) (fun ρ1 w1 hj hR => jD (show ρ1 36 = Value.agg (List.toArray _) from hR.1) (show ρ1 38 = Value.agg (List.toArray _) from hR.2.1) (by first | assumption | rfl)) ?_ | refine dL (i := 18) rfl (fun ρ1 w1 hj hR => (show ρ1 33 = Value.bool _ from hR.2.2.1)) (fun ρ1 w1 hj hR => ju (show ρ1 36 = Value.agg (List.toArray _) from hR.1) (show ρ1 38 = Value.agg (List.toArray _) from hR.2.1) (by assumption)) ?_
          first | refine n0 ?_ | refine oP ?_
          refine gY ?_
          first | refine dS ?_ | refine dU ?_ | refine dG (ej ?_)
          first | refine dS ?_ | refine dU ?_ | refine dG (qP ?_)
          first | refine dS ?_ | refine dU ?_ | refine dG (gY ?_)
          first | refine dS ?_ | refine dU ?_ | refine dG (cw ?_)
          first | refine dS ?_ | refine dU ?_ | refine dG (dI 1 ?_)
          first | refine dS ?_ | refine dU ?_ | refine dG (ej ?_)
          first | refine dS ?_ | refine dU ?_ | refine dG (jS ?_)
          first | refine dS ?_ | refine dU ?_ | refine dG (jN (q) ?_)
          first | refine dS ?_ | refine dU ?_ | refine dG (lT ?_)
          first | refine dS ?_ | refine dU ?_ | refine dG (jq (fun _ hj => ((hr.ext hj.hp.below).recAt TR.len hp).cell (i := 0) rfl) ?_)
          first | refine dS ?_ | refine dU ?_ | refine dG (cw ?_)
          first | refine dS ?_ | refine dU ?_ | refine dG (dI 0 ?_)
          refine a6 ?_
          intro f W hJ hV _
          have hb_8 := hJ.bl
          obtain ⟨v53, v52, v51, v50, v49, v48, v47, v46, v45, v44, v43, v42, v41, v40, v39, v38, v37, v36, v35, v34, v33, v32, v31, v30, v29, v28, v27, v26, v25, v24, v23, v22, v21, _⟩ := hV
          replace hh := hJ.hp
          refine aK (a4 (aa v53 (aa v52 (aa v51 (aa v50 (aa v49 (aa v48 (aa v47 (aa v46 (aa v45 (aa v44 (aa v43 (aa v42 (aa v41 (aa v40 (aa v39 (aa v38 (aa v37 (aa v36 (aa v35 (aa v34 (aa v33 (aa v32 (aa v31 (aa v30 (aa v29 (aa v28 (aa v27 (aa v26 (aa v25 (aa v24 (aa v23 (aa v22 (aa v21 aM)))))))))))))))))))))))))))))))))) ?_
          dsimp only [bX]
          clear hJ
          first | refine gS ?_ | (refine gT ?_; refine fh rfl rfl (by decide) ?_) | refine gV ?_
          first | refine gS ?_ | (refine gT ?_; (first | refine cS ?_ | refine cU ?_)) | refine gV ?_
          first | refine cS ?_ | refine cU ?_
          refine ae ?_
          rw [hge]
          refine cT (sr (aI (ae (al (bP (aD (aD (bP (aD ?_)))))))))
          refine cn ?_
          exact ⟨rfl, hh.below⟩
         | true =>
          have hge : (!(Op.bytesLess p.m.toList x.m.toList)) = false := by rw [gP, hlp]; rfl
          refine sr ?_
          refine aW (ae (ah (cT (ak (ai (ah (ao (sr (mI ?_)))))))))
          refine aQ (k := i) aF.out aA.size rfl rfl (by omega) (by omega) (by decide) ?_
          refine bR (vs := [_, _, _, _]) aA.out rfl ((hr.ext hh.below).recAt TR.len hx) rfl (by decide) ?_
          refine cj hh ?_
          intro b4 w4 hh
          refine aI ?_
          refine bD hh 0 [_,_,_,_] ?_
          intro ws hh
          replace hh : Hp _ (.blk _ _ [_, _, _, _] _ :: _) _ := hh
          refine ae (ah ?_)
          refine cg [] [] [0, 1, 0, 4, 15, 31, 63, 127, 255, 511, 1023, 2047, 4095, 8191, 16383, 32767, 8191, 73727, 262143, 524287, 1048575, 2097151, 4194303, 8388607, 16777215, 33554431, 16777215, 83886079, 268435455, 536870911, 1073741823, 16777215, 2164260863, 8589934591, 17179869183, 34359738367] 33 [[(4, none)], [(21, some 0)], [(1, none)], [(23, some 2)], [(22, some 1), (24, some 3)], [(25, some 4)], [(26, some 5)], [(4, none), (27, some 6)], [(28, some 7), (27, some 6)], [(29, some 8), (27, some 6)], [(30, some 9), (27, some 6)], [(27, some 6), (31, some 10)], [(32, some 11)], [(4, none), (33, some 12)], [(34, some 13), (33, some 12)], [(35, some 14), (33, some 12)], [(4, none), (33, some 12)], [(37, some 16), (33, some 12)], [(36, some 15), (38, some 17), (33, some 12)], [(33, some 12), (39, some 18)], [(40, some 19)], [(3, none), (41, some 20)], [(42, some 21), (41, some 20)], [(43, some 22), (41, some 20)], [(1, none), (44, some 23)], [(45, some 24), (44, some 23)], [(3, none), (44, some 23)], [(47, some 26), (44, some 23)], [(46, some 25), (48, some 27), (44, some 23)], [(49, some 28), (44, some 23)], [(50, some 29), (44, some 23)], [(4, none), (44, some 23)], [(52, some 31), (44, some 23)]] [(32, 53), (31, 52), (30, 51), (29, 50), (28, 49), (27, 48), (26, 47), (25, 46), (24, 45), (23, 44), (22, 43), (21, 42), (20, 41), (19, 40), (18, 39), (17, 38), (16, 37), (15, 36), (14, 35), (13, 34), (12, 33), (11, 32), (10, 31), (9, 30), (8, 29), (7, 28), (6, 27), (5, 26), (4, 25), (3, 24), (2, 23), (1, 22), (0, 21)] hh mixed (by kernel_rfl) cA rfl (by repeat (first | exact bW | refine bC ?_ | refine bV ?_)) ?_
          refine cw ?_
          refine dI 0 ?_
          refine cw ?_
          refine dI 1 ?_
          refine dC (fun _ hj => hmay _) ?_
          refine pz ?_
          refine gY ?_
          first | refine dS ?_ | refine dU ?_ | refine dG (cw ?_)
          first | refine dS ?_ | refine dU ?_ | refine dG (dZ 0 [_,_,_] ?_)
          refine bK (i := 9) rfl (fun ρ1 w1 hj hR => (show ρ1 27 = Value.bool _ from hR.2.1)) (fun ρ1 w1 hj hR => a3 ar.out (az (show ρ1 29 = Value.agg (List.toArray _) from hR.1) a7)) (fun w1 hj => hsg _) ?_
          first | refine dS ?_ | refine dU ?_ | refine dG (lZ ?_)
          first | refine n0 ?_ | refine oP ?_
          refine gY ?_
          first | refine dS ?_ | refine dU ?_ | refine dG (cw ?_)
          first | refine dS ?_ | refine dU ?_ | refine dG (dZ 0 [_,_,_] ?_)
          refine bK (i := 15) rfl (fun ρ1 w1 hj hR => (show ρ1 33 = Value.bool _ from hR.2.1)) (fun ρ1 w1 hj hR => a3 ar.out (az (show ρ1 35 = Value.agg (List.toArray _) from hR.1) a7)) (fun w1 hj => hfo _ (hT.hp hj.hp)) ?_
          first | refine dS ?_ | refine dU ?_ | refine dG (cw ?_)
          first | refine dS ?_ | refine dU ?_ | refine dG (dZ 0 [_,_,_] ?_)
          first | refine eU (i := 18) rfl (fun ρ1 w1 hj hR => (show ρ1 33 = Value.bool _ from hR.2.2.1)) (by decide) ?_ | refine ee (i := 18) rfl (fun ρ1 w1 hj hR => (show ρ1 33 = undef from hR.2.2.1)) ?_ | refine dL (i := 18) rfl (fun ρ1 w1 hj hR => (show ρ1 33 = Value.bool _ from hR.2.2.1)) (fun ρ1 w1 hj hR => jD (show ρ1 36 = Value.agg (List.toArray _) from hR.1) (show ρ1 38 = Value.agg (List.toArray _) from hR.2.1) (by first | assumption | rfl)) ?_ | refine dL (i := 18) rfl (fun ρ1 w1 hj hR => (show ρ1 33 = Value.bool _ from hR.2.2.1)) (fun ρ1 w1 hj hR => ju (show ρ1 36 = Value.agg (List.toArray _) from hR.1) (show ρ1 38 = Value.agg (List.toArray _) from hR.2.1) (by assumption)) ?_
          first | refine n0 ?_ | refine oP ?_
          refine gY ?_
          first | refine dS ?_ | refine dU ?_ | refine dG (ej ?_)
          first | refine dS ?_ | refine dU ?_ | refine dG (qP ?_)
          first | refine dS ?_ | refine dU ?_ | refine dG (gY ?_)
          first | refine dS ?_ | refine dU ?_ | refine dG (cw ?_)
          first | refine dS ?_ | refine dU ?_ | refine dG (dI 1 ?_)
          first | refine dS ?_ | refine dU ?_ | refine dG (ej ?_)
          first | refine dS ?_ | refine dU ?_ | refine dG (jS ?_)
          first | refine dS ?_ | refine dU ?_ | refine dG (jN (q) ?_)
          first | refine dS ?_ | refine dU ?_ | refine dG (lT ?_)
          first | refine dS ?_ | refine dU ?_ | refine dG (jq (fun _ hj => ((hr.ext hj.hp.below).recAt TR.len hp).cell (i := 0) rfl) ?_)
          first | refine dS ?_ | refine dU ?_ | refine dG (cw ?_)
          first | refine dS ?_ | refine dU ?_ | refine dG (dI 0 ?_)
          refine a6 ?_
          intro f W hJ hV _
          have hb_8 := hJ.bl
          obtain ⟨v53, v52, v51, v50, v49, v48, v47, v46, v45, v44, v43, v42, v41, v40, v39, v38, v37, v36, v35, v34, v33, v32, v31, v30, v29, v28, v27, v26, v25, v24, v23, v22, v21, _⟩ := hV
          replace hh := hJ.hp
          refine aK (a4 (aa v53 (aa v52 (aa v51 (aa v50 (aa v49 (aa v48 (aa v47 (aa v46 (aa v45 (aa v44 (aa v43 (aa v42 (aa v41 (aa v40 (aa v39 (aa v38 (aa v37 (aa v36 (aa v35 (aa v34 (aa v33 (aa v32 (aa v31 (aa v30 (aa v29 (aa v28 (aa v27 (aa v26 (aa v25 (aa v24 (aa v23 (aa v22 (aa v21 aM)))))))))))))))))))))))))))))))))) ?_
          dsimp only [bX]
          clear hJ
          first | refine gS ?_ | (refine gT ?_; refine fh rfl rfl (by decide) ?_) | refine gV ?_
          first | refine gS ?_ | (refine gT ?_; (first | refine cS ?_ | refine cU ?_)) | refine gV ?_
          first | refine cS ?_ | refine cU ?_
          refine ae ?_
          rw [hge]
          refine cF (ak (aT (ai (aq ?_))))
          refine bL (mI (aC (ai ?_)))
          replace hh := hh.sub (List.Sublist.cons _ (List.Sublist.cons_cons _ List.Sublist.slnil))
          refine ⟨⟨i + 1, by omega, rfl, hall2, ?_, hh⟩, by show n - (i + 1) < n - i; omega, ?_⟩
          ·rw [hq, aN hp] at hris
           rw [aN hx, hq, aN hp, List.append_assoc]
           show kQ (ts.take q ++ [p, x]) = true
           rw [mD, hris, hlp]
           rfl
          ·(repeat (first | exact aw _ _ _ | refine ax rfl ?_ | refine au rfl ?_))
       ·rw [hbad (kh hx (by unfold gO kt; rw [hm, decide_eq_false hz, Bool.eq_false_iff.2 (fun h => hnf ((kr x.c).1 h))]; rfl))]
        refine sr ?_
        refine aW (ae (ah (cT (ak (ai (ah (ao (sr (mI ?_)))))))))
        refine aQ (k := i) aF.out aA.size rfl rfl (by omega) (by omega) (by decide) ?_
        refine bR (vs := [_, _, _, _]) aA.out rfl ((hr.ext hh.below).recAt TR.len hx) rfl (by decide) ?_
        refine cj hh ?_
        intro b4 w4 hh
        refine aI ?_
        refine bD hh 0 [_,_,_,_] ?_
        intro ws hh
        replace hh : Hp _ (.blk _ _ [_, _, _, _] _ :: _) _ := hh
        refine ae (ah ?_)
        refine cg [] [] [0, 1, 0, 4, 15, 31, 63, 127, 255, 511, 1023, 2047, 4095, 8191, 16383, 32767, 8191, 73727, 262143, 524287, 1048575, 2097151, 4194303, 8388607, 16777215, 33554431, 16777215, 83886079, 268435455, 536870911, 1073741823, 16777215, 2164260863, 8589934591, 17179869183, 34359738367] 33 [[(4, none)], [(21, some 0)], [(1, none)], [(23, some 2)], [(22, some 1), (24, some 3)], [(25, some 4)], [(26, some 5)], [(4, none), (27, some 6)], [(28, some 7), (27, some 6)], [(29, some 8), (27, some 6)], [(30, some 9), (27, some 6)], [(27, some 6), (31, some 10)], [(32, some 11)], [(4, none), (33, some 12)], [(34, some 13), (33, some 12)], [(35, some 14), (33, some 12)], [(4, none), (33, some 12)], [(37, some 16), (33, some 12)], [(36, some 15), (38, some 17), (33, some 12)], [(33, some 12), (39, some 18)], [(40, some 19)], [(3, none), (41, some 20)], [(42, some 21), (41, some 20)], [(43, some 22), (41, some 20)], [(1, none), (44, some 23)], [(45, some 24), (44, some 23)], [(3, none), (44, some 23)], [(47, some 26), (44, some 23)], [(46, some 25), (48, some 27), (44, some 23)], [(49, some 28), (44, some 23)], [(50, some 29), (44, some 23)], [(4, none), (44, some 23)], [(52, some 31), (44, some 23)]] [(32, 53), (31, 52), (30, 51), (29, 50), (28, 49), (27, 48), (26, 47), (25, 46), (24, 45), (23, 44), (22, 43), (21, 42), (20, 41), (19, 40), (18, 39), (17, 38), (16, 37), (15, 36), (14, 35), (13, 34), (12, 33), (11, 32), (10, 31), (9, 30), (8, 29), (7, 28), (6, 27), (5, 26), (4, 25), (3, 24), (2, 23), (1, 22), (0, 21)] hh mixed (by kernel_rfl) cA rfl (by repeat (first | exact bW | refine bC ?_ | refine bV ?_)) ?_
        refine cw ?_
        refine dI 0 ?_
        refine cw ?_
        refine dI 1 ?_
        refine dC (fun _ hj => hmay _) ?_
        refine pz ?_
        refine gY ?_
        first | refine dS ?_ | refine dU ?_ | refine dG (cw ?_)
        first | refine dS ?_ | refine dU ?_ | refine dG (dZ 0 [_,_,_] ?_)
        refine bK (i := 9) rfl (fun ρ1 w1 hj hR => (show ρ1 27 = Value.bool _ from hR.2.1)) (fun ρ1 w1 hj hR => a3 ar.out (az (show ρ1 29 = Value.agg (List.toArray _) from hR.1) a7)) (fun w1 hj => hsg _) ?_
        first | refine dS ?_ | refine dU ?_ | refine dG (lZ ?_)
        first | refine n0 ?_ | refine oP ?_
        refine gY ?_
        first | refine dS ?_ | refine dU ?_ | refine dG (cw ?_)
        first | refine dS ?_ | refine dU ?_ | refine dG (dZ 0 [_,_,_] ?_)
        refine bK (i := 15) rfl (fun ρ1 w1 hj hR => (show ρ1 33 = Value.bool _ from hR.2.1)) (fun ρ1 w1 hj hR => a3 ar.out (az (show ρ1 35 = Value.agg (List.toArray _) from hR.1) a7)) (fun w1 hj => hfo _ (hT.hp hj.hp)) ?_
        first | refine dS ?_ | refine dU ?_ | refine dG (cw ?_)
        first | refine dS ?_ | refine dU ?_ | refine dG (dZ 0 [_,_,_] ?_)
        first | refine eU (i := 18) rfl (fun ρ1 w1 hj hR => (show ρ1 33 = Value.bool _ from hR.2.2.1)) (by decide) ?_ | refine ee (i := 18) rfl (fun ρ1 w1 hj hR => (show ρ1 33 = undef from hR.2.2.1)) ?_ | refine dL (i := 18) rfl (fun ρ1 w1 hj hR => (show ρ1 33 = Value.bool _ from hR.2.2.1)) (fun ρ1 w1 hj hR => jD (show ρ1 36 = Value.agg (List.toArray _) from hR.1) (show ρ1 38 = Value.agg (List.toArray _) from hR.2.1) (by first | assumption | rfl)) ?_ | refine dL (i := 18) rfl (fun ρ1 w1 hj hR => (show ρ1 33 = Value.bool _ from hR.2.2.1)) (fun ρ1 w1 hj hR => ju (show ρ1 36 = Value.agg (List.toArray _) from hR.1) (show ρ1 38 = Value.agg (List.toArray _) from hR.2.1) (by assumption)) ?_
        first | refine n0 ?_ | refine oP ?_
        refine gY ?_
        first | refine dS ?_ | refine dU ?_ | refine dG (ej ?_)
        first | refine dS ?_ | refine dU ?_ | refine dG (qP ?_)
        first | refine dS ?_ | refine dU ?_ | refine dG (gY ?_)
        first | refine dS ?_ | refine dU ?_ | refine dG (cw ?_)
        first | refine dS ?_ | refine dU ?_ | refine dG (dI 1 ?_)
        first | refine dS ?_ | refine dU ?_ | refine dG (ej ?_)
        first | refine dS ?_ | refine dU ?_ | refine dG (jS ?_)
        first | refine eU (i := 28) rfl (fun ρ1 w1 hj hR => (show ρ1 44 = Value.bool _ from hR.2.2.1)) (by decide) ?_ | refine ee (i := 28) rfl (fun ρ1 w1 hj hR => (show ρ1 44 = undef from hR.2.2.1)) ?_ | refine dL (i := 28) rfl (fun ρ1 w1 hj hR => (show ρ1 44 = Value.bool _ from hR.2.2.1)) (fun ρ1 w1 hj hR => ea aF.out aA.size (show ρ1 46 = Value.slice _ _ _ from hR.1) (show ρ1 48 = Value.int _ _ from hR.2.1) rfl (by omega)) ?_
        first | refine dS ?_ | refine dU ?_ | refine dG (lT ?_)
        first | refine dS ?_ | refine dU ?_ | refine dG (jq (fun _ hj => hT) ?_)
        first | refine dS ?_ | refine dU ?_ | refine dG (cw ?_)
        first | refine dS ?_ | refine dU ?_ | refine dG (dI 0 ?_)
        refine a6 ?_
        intro f W hJ hV _
        have hb_8 := hJ.bl
        obtain ⟨v53, v52, v51, v50, v49, v48, v47, v46, v45, v44, v43, v42, v41, v40, v39, v38, v37, v36, v35, v34, v33, v32, v31, v30, v29, v28, v27, v26, v25, v24, v23, v22, v21, _⟩ := hV
        replace hh := hJ.hp
        refine aK (a4 (aa v53 (aa v52 (aa v51 (aa v50 (aa v49 (aa v48 (aa v47 (aa v46 (aa v45 (aa v44 (aa v43 (aa v42 (aa v41 (aa v40 (aa v39 (aa v38 (aa v37 (aa v36 (aa v35 (aa v34 (aa v33 (aa v32 (aa v31 (aa v30 (aa v29 (aa v28 (aa v27 (aa v26 (aa v25 (aa v24 (aa v23 (aa v22 (aa v21 aM)))))))))))))))))))))))))))))))))) ?_
        dsimp only [bX]
        clear hJ
        first | refine gS ?_ | (refine gT ?_; refine fh rfl rfl (by decide) ?_) | refine gV ?_
        first | refine gS ?_ | (refine gT ?_; (first | refine cS ?_ | refine cU ?_)) | refine gV ?_
        first | refine cS ?_ | refine cU ?_
        refine ae (cT (sr (aI (ae (al (bP (aD (aD (bP (aD ?_))))))))))
        refine cn ?_
        exact ⟨rfl, hh.below⟩
    ·rw [List.take_of_length_le (by omega)] at hall hris
     rw [show fy v ts = 0 by unfold fy okB; rw [if_neg (by rw [hf]; decide), if_neg (by omega), hall, hris]; rfl]
     refine sr ?_
     refine aW (ae (ah (cF ?_)))
     refine aO ?_
     refine ay (ay (a8 (ai (sr (aI (ae (al ?_)))))))
     refine cn ?_
     exact ⟨rfl, hh.below⟩
end Go.Proofs.YtaapkaefelhfcaaGreatDoor
/- The walks through poly.Make. -/
namespace Go.Proofs.YtaapkaefelhfcaaGreatDoor
open Go.RowKit
def ew (v : Int) (t : TR) : Bool := ef t.m.data.toList && decide ((t.m.size : Int) = v)
theorem sl (z : TR) (v : Int) (b : Nat) (w : World) (hp : w.cell? ⟨b, 0, none⟩ = some (.int .i64 v)) (hz : z.m.size ≤ 100000) : Calls Tryz.prog 188 #[.agg #[.string z.m, .bool z.c.neg, .string z.c.bu, .int .i64 z.c.e], .pointer (some ⟨b, 0, none⟩)] w fun r w' => r = .returned (.bool (!ew v z)) ∧ Below w.heap.size w w' := by
 have hh := Hp.start w
 have hmay := fun w1 => jn z.m v w1 (by omega)
 unfold ew
 refine aj (N := 9) (l := [.agg #[.string z.m, .bool z.c.neg, .string z.c.bu, .int .i64 z.c.e], .pointer (some ⟨b, 0, none⟩)]) Tryz.func188 rfl rfl (by simp) ?_
 refine sr ?_
 refine cz hh [_,_,_,_] ?_
 intro b2 w2 hh
 refine aB (ae (sr (bB ?_)))
 refine bE hh 0 ?_
 refine bj aA.out rfl (dz hh.below hp) (by decide) ?_
 refine bA hh (hmay _) rfl ?_
 intro w7 hh
 cases ef z.m.data.toList && decide ((z.m.size : Int) = v) with
 | false =>
  refine gg ?_
  refine aB (ae (al ?_))
  refine cn ?_
  exact ⟨rfl, hh.below⟩
 | true =>
  refine gg ?_
  refine aB (ae (al ?_))
  refine cn ?_
  exact ⟨rfl, hh.below⟩
theorem pC (A : Option Addr) (n c : Nat) (l : List TR) (v : Int) (b : Nat) (w : World) (hS : Sl w A n 4 (aP TR.cells l)) (hn : n ≤ 1000000) (hp : w.cell? ⟨b, 0, none⟩ = some (.int .i64 v)) (hz : ∀ t ∈ l, t.m.size ≤ 100000) :
  Calls Tryz.prog 187 #[.slice A n c, .func (.func 188) #[] #[.pointer (some ⟨b, 0, none⟩)]] w fun r w' => r = .returned (.bool (l.any fun t => !ew v t)) ∧ Below w.heap.size w w' :=
 u0 A n c l 188 [.pointer (some ⟨b, 0, none⟩)] (fun t => !ew v t) w hS hn fun z w1 hz2 hb => sl z v b w1 (dz hb hp) (hz z hz2)
def iT (v : Int) (l : List TR) : Int := if gl v = false ∨ (l.any fun t => !ew v t) = true then 1 else if 65536 < l.length then 3 else fe l
theorem j0 (v : Int) (A : Option Addr) (n c : Nat) (l : List TR) (k : Nat) (w : World) (hT : gW w) (hS : Sl w A n 4 (aP TR.cells l)) (hn : n ≤ 1000000) (hk : k ≤ 2999980) (ho : fT k l) (hz : ∀ t ∈ l, t.m.size ≤ 100000) :
  Calls Tryz.prog 91 #[.int .i64 v, .slice A n c] w fun r w' => ∃ g : PX, cZ (iT v l) v (aZ l) g ∧ r = .returned (.tuple #[.agg #[.int .i64 g.v, .slice g.A g.n g.c], .int .i64 (iT v l)]) ∧ Hp w [g.row] w' := by
 have hh := Hp.start w
 have hln := hS.cx TR.len (by decide)
 have hfw := fun w1 => mi v w1
 have han := fun b w1 hb hp => pC A n c l v b w1 (hS.ext hb) hn hp hz
 cases hf : gl v with
 | false =>
  rw [hf] at hfw
  rw [show iT v l = 1 by unfold iT; rw [if_pos (.inl hf)]]
  refine aj (N := 25) (l := [.int .i64 v, .slice A n c]) Tryz.func91 rfl rfl (by simp) ?_
  refine sr ?_
  refine cz hh [_] ?_
  intro b2 w2 hh
  refine cj hh ?_
  intro b4 w4 hh
  refine aI (ae (ah (sr ?_)))
  refine bE hh 1 ?_
  refine bA hh (hfw _) rfl ?_
  intro w7 hh
  refine gg ?_
  refine mB ?_
  first | refine gS ?_ | (refine gT ?_; refine mL ?_) | refine gV ?_
  first | refine gS ?_ | (refine gT ?_; refine eZ rfl (az (j3 rfl) a7) (by decide) ?_) | refine gV ?_
  refine cd (by decide) rfl rfl (by decide) ?_
  first | refine cS ?_ | refine cU ?_
  refine ae (cT (sr ?_))
  refine eH [_,_] ?_
  refine bD hh 0 [_,_] ?_
  intro ws hh
  replace hh : Hp _ (.blk _ _ [_, _] _ :: _) _ := hh
  refine aI (ae (al (aD ?_)))
  refine iV (aH rfl (aG (vs := [_, _]) aA.out (hh.av (i := 0) (n := 2) rfl rfl) rfl) (cb (cv rfl) a9)) ?_
  exact ⟨PX.nil, cZ.err (by decide), rfl, (hh.sub (List.nil_sublist _)).iW⟩
 | true =>
  rw [hf] at hfw
  cases ha : l.any fun t => !ew v t with
  | true =>
   rw [ha] at han
   rw [show iT v l = 1 by unfold iT; rw [if_pos (.inr ha)]]
   refine aj (N := 25) (l := [.int .i64 v, .slice A n c]) Tryz.func91 rfl rfl (by simp) ?_
   refine sr ?_
   refine cz hh [_] ?_
   intro b2 w2 hh
   refine cj hh ?_
   intro b4 w4 hh
   refine aI (ae (ah (sr ?_)))
   refine bE hh 1 ?_
   refine bA hh (hfw _) rfl ?_
   intro w7 hh
   refine gg ?_
   refine mB ?_
   first | refine gS ?_ | (refine gT ?_; refine mL ?_) | refine gV ?_
   first | refine gS ?_ | (refine gT ?_; refine eZ rfl (az (j3 rfl) a7) (by decide) ?_) | refine gV ?_
   refine bq rfl rfl ?_
   refine bA hh (han _ _ hh.below (hh.dh (i := 1) (o := 0) rfl rfl)) rfl ?_
   intro w12 hh
   first | refine cS ?_ | refine cU ?_
   refine ae (cT (sr ?_))
   refine eH [_,_] ?_
   refine bD hh 0 [_,_] ?_
   intro ws hh
   replace hh : Hp _ (.blk _ _ [_, _] _ :: _) _ := hh
   refine aI (ae (al (aD ?_)))
   refine iV (aH rfl (aG (vs := [_, _]) aA.out (hh.av (i := 0) (n := 2) rfl rfl) rfl) (cb (cv rfl) a9)) ?_
   exact ⟨PX.nil, cZ.err (by decide), rfl, (hh.sub (List.nil_sublist _)).iW⟩
  | false =>
   rw [ha] at han
   have e1 : iT v l = if 65536 < l.length then 3 else fe l := by unfold iT; rw [if_neg (by rw [hf, ha]; decide)]
   by_cases h6 : 65536 < n
   ·rw [e1, if_pos (by omega)]
    refine aj (N := 25) (l := [.int .i64 v, .slice A n c]) Tryz.func91 rfl rfl (by simp) ?_
    refine sr ?_
    refine cz hh [_] ?_
    intro b2 w2 hh
    refine cj hh ?_
    intro b4 w4 hh
    refine aI (ae (ah (sr ?_)))
    refine bE hh 1 ?_
    refine bA hh (hfw _) rfl ?_
    intro w7 hh
    refine gg ?_
    refine mB ?_
    first | refine gS ?_ | (refine gT ?_; refine mL ?_) | refine gV ?_
    first | refine gS ?_ | (refine gT ?_; refine eZ rfl (az (j3 rfl) a7) (by decide) ?_) | refine gV ?_
    refine bq rfl rfl ?_
    refine bA hh (han _ _ hh.below (hh.dh (i := 1) (o := 0) rfl rfl)) rfl ?_
    intro w12 hh
    first | refine cS ?_ | refine cU ?_
    refine ae (cF (ak (ai (ah (sr (mL (a0 ?_)))))))
    refine ck (ae (cT (sr ?_)))
    refine eH [_,_] ?_
    refine bD hh 0 [_,_] ?_
    intro ws hh
    replace hh : Hp _ (.blk _ _ [_, _] _ :: _) _ := hh
    refine aI (ae (al (aD ?_)))
    refine iV (aH rfl (aG (vs := [_, _]) aA.out (hh.av (i := 0) (n := 2) rfl rfl) rfl) (cb (cv rfl) a9)) ?_
    exact ⟨PX.nil, cZ.err (by decide), rfl, (hh.sub (List.nil_sublist _)).iW⟩
   ·rw [e1, if_neg (by omega)]
    refine aj (N := 25) (l := [.int .i64 v, .slice A n c]) Tryz.func91 rfl rfl (by simp) ?_
    refine sr ?_
    refine cz hh [_] ?_
    intro b2 w2 hh
    refine cj hh ?_
    intro b4 w4 hh
    refine aI (ae (ah (sr ?_)))
    refine bE hh 1 ?_
    refine bA hh (hfw _) rfl ?_
    intro w7 hh
    refine gg ?_
    refine mB ?_
    first | refine gS ?_ | (refine gT ?_; refine mL ?_) | refine gV ?_
    first | refine gS ?_ | (refine gT ?_; refine eZ rfl (az (j3 rfl) a7) (by decide) ?_) | refine gV ?_
    refine bq rfl rfl ?_
    refine bA hh (han _ _ hh.below (hh.dh (i := 1) (o := 0) rfl rfl)) rfl ?_
    intro w12 hh
    first | refine cS ?_ | refine cU ?_
    refine ae (cF (ak (ai (ah (sr (mL (a0 ?_)))))))
    refine ck (ae (cF (ak (ai (ah ?_)))))
    refine mf [] [0, 0, 2, 7, 15, 15, 63, 127] 3 [[(2, none)], [(1, none)], [(20, some 1)]] [(2, 21), (1, 20), (0, 19)] [([], 4, [(2, 21), (1, 20), (0, 19)])] hh mixed (by kernel_rfl) (by kernel_rfl) (by decide) ?_
    refine dI 1 ?_
    refine fX ?_
    refine bk (i := 2) (pD hh.sz 55 n 4 (aP TR.cells l)) (pD.ext) ?_ ?_
    ·intro ρ1 w1 hj hR
     exact bU rfl (a3 ar.out (az (show ρ1 20 = Value.slice _ _ _ from hR.1) a7)) (lI A n c l w1 (hS.ext hj.hp.below) hn) (fun _ _ ⟨A, c, hq, ho, hb⟩ => ⟨_, hq, hb, A, c, rfl, od ho hj.bl.size⟩)
    refine a6 ?_
    intro p_ hp_
    simp only [List.mem_cons, List.not_mem_nil, or_false] at hp_
    rcases hp_ with rfl
    intro f W hJ hV
    have hb_5 := hJ.bl
    obtain ⟨v21, v20, v19, _⟩ := hV
    simp only [iB]
    have e19 : f 0 = _ := v19
    rw [e19]
    have e20 : f 1 = _ := v20
    rw [e20]
    obtain ⟨A21, c21, e21, o21⟩ : pD _ _ _ _ _ (f 2) W := v21
    rw [e21]
    replace hh := JJ.xI hh hJ.hp o21
    clear o21
    clear e19 e20 e21 hJ
    refine aR (j6 v A21 n c21 l k _ hT hh hln (by omega) (by omega) ho) ar.out rfl (by decide) ?_; rintro e_ w22 ⟨g, og, rfl, hh⟩; refine ⟨_, rfl, ?_⟩
    refine cN ?_
    refine cY (i := 4) (by repeat (first | exact bW | refine bC ?_ | refine bV ?_ | refine np_scope ?_)) rfl (by kernel_rfl) (by kernel_rfl) (by kernel_rfl) (fun _ => eb (show _ = Value.tuple (List.toArray _) from rfl) rfl) (by decide) ?_
    refine cY (i := 5) (by repeat (first | exact bW | refine bC ?_ | refine bV ?_ | refine np_scope ?_)) rfl (by kernel_rfl) (by kernel_rfl) (by kernel_rfl) (fun _ => eb (show _ = Value.tuple (List.toArray _) from rfl) rfl) (by decide) ?_
    refine dY 6 (by decide) (by kernel_rfl) (by decide) (by kernel_rfl) (by kernel_rfl) ?_
    refine bD hh 1 [_,_] ?_
    intro ws hh
    replace hh : Hp _ (_ :: .blk _ _ [_, _] _ :: _) _ := hh
    refine aI (ae (al ?_))
    refine iV (aH rfl (aG (vs := [_, _]) aA.out (hh.av (i := 1) (n := 2) rfl rfl) rfl) (cb (cv rfl) a9)) ?_
    exact ⟨g, og, rfl, hh.sub (List.Sublist.cons_cons _ (List.nil_sublist _))⟩
end Go.Proofs.YtaapkaefelhfcaaGreatDoor
/- The walk through poly.like. -/
namespace Go.Proofs.YtaapkaefelhfcaaGreatDoor
open Go.RowKit
def PX.cells (g : PX) : List Value := [.int .i64 g.v, .slice g.A g.n g.c]
theorem PX.len (g : PX) : (PX.cells g).length = 2 := rfl
structure PX.lk (g : PX) (k : Nat) : Prop where
 n : g.n ≤ 1000000
 cap : g.n ≤ g.c
 ok : fT k g.ts
 sz : ∀ t ∈ g.ts, t.m.size ≤ 100000
def PX.e (g : PX) : Int := fy g.v g.ts
theorem lB (g : PX) (k : Nat) (w : World) (hT : gW w) (h : g.at_ w) (hl : g.lk k) :
  Calls Tryz.prog 85 #[.agg #[.int .i64 g.v, .slice g.A g.n g.c]] w fun r w' => r = .returned (.int .i64 g.e) ∧ Below w.heap.size w w' :=
 qJ g.v g.A g.n g.c g.ts w hT h hl.n fun t ht => ⟨(hl.ok t ht).1, hl.sz t ht⟩
def wC (ps : List PX) : Bool := ps.any fun g => decide (g.v ≠ (ps.map PX.v).headD 0)
def gp (ps : List PX) : Int := match ps.find? (fun g => decide (g.e ≠ 0)) with | some g => g.e | none => if ps.length = 0 ∨ wC ps = true then 1 else 0
theorem uW (L : Option Addr) (n c : Nat) (ps : List PX) (f : PX) (p : Addr) (w : World) (hL : Sl w L n 2 (aP PX.cells ps)) (hp : w.cell? p = some (.slice L n c)) (hn : 0 < n) :
  Calls Tryz.prog 194 #[.agg #[.int .i64 f.v, .slice f.A f.n f.c], .pointer (some p)] w fun r w' => r = .returned (.bool (decide (f.v ≠ (ps.map PX.v).headD 0))) ∧ Below w.heap.size w w' := by
 have hh := Hp.start w
 have hln := hL.cx PX.len (by decide)
 obtain ⟨g, ps, rfl⟩ : ∃ g l, ps = g :: l := by
  cases ps with
  | nil => exact absurd hln (by show ¬ 0 = n; omega)
  | cons g l => exact ⟨g, l, rfl⟩
 obtain ⟨ad, rfl, hr⟩ := hL.at_ hn
 have hd : (((g :: ps).map PX.v).headD 0) = g.v := rfl
 rw [hd]
 have h0 : (g :: ps)[0]? = some g := rfl
 by_cases hg : f.v = g.v
 ·refine aj (N := 11) (l := [.agg #[.int .i64 f.v, .slice f.A f.n f.c], .pointer (some p)]) Tryz.func194 rfl rfl (by simp) ?_
  refine sr ?_
  refine cz hh [_,_] ?_
  intro b2 w2 hh
  refine aB (ae (ah ?_))
  refine aU 6 [[(2, none)], [(4, some 0)], [(1, none)], [(6, some 2)], [(7, some 3)], [(8, some 4)]] [(5, 9), (4, 8), (3, 7), (2, 6), (1, 5), (0, 4)] hh mixed (by kernel_rfl) ?_
  refine cw ?_
  refine dI 0 ?_
  refine jq (fun _ hj => (hj.hp.below.cell (l5 hp)).trans hp) ?_
  refine bm (i := 3) (fun ρ1 w1 hj hR => eh aF.out aA.size (show ρ1 6 = Value.slice _ _ _ from hR.1) rfl (by omega) (by omega)) ?_
  refine lT ?_
  refine jq (fun _ hj => dz hj.hp.below (((hr.recAt PX.len h0)) 0 _ rfl)) ?_
  refine a6 ?_
  intro f W hJ hV
  have hb_1 := hJ.bl
  obtain ⟨v9, v8, v7, v6, v5, v4, _⟩ := hV
  replace hh := hJ.hp
  refine aK (a4 (aa v9 (aa v8 (aa v7 (aa v6 (aa v5 (aa v4 aM))))))) ?_
  dsimp only [bX]
  clear hJ
  refine cQ (aB (ae (al ?_)))
  refine cn ?_
  exact ⟨by rw [decide_eq_false (by omega)], hh.below⟩
 ·refine aj (N := 11) (l := [.agg #[.int .i64 f.v, .slice f.A f.n f.c], .pointer (some p)]) Tryz.func194 rfl rfl (by simp) ?_
  refine sr ?_
  refine cz hh [_,_] ?_
  intro b2 w2 hh
  refine aB (ae (ah ?_))
  refine aU 6 [[(2, none)], [(4, some 0)], [(1, none)], [(6, some 2)], [(7, some 3)], [(8, some 4)]] [(5, 9), (4, 8), (3, 7), (2, 6), (1, 5), (0, 4)] hh mixed (by kernel_rfl) ?_
  refine cw ?_
  refine dI 0 ?_
  refine jq (fun _ hj => (hj.hp.below.cell (l5 hp)).trans hp) ?_
  refine bm (i := 3) (fun ρ1 w1 hj hR => eh aF.out aA.size (show ρ1 6 = Value.slice _ _ _ from hR.1) rfl (by omega) (by omega)) ?_
  refine lT ?_
  refine jq (fun _ hj => dz hj.hp.below (((hr.recAt PX.len h0)) 0 _ rfl)) ?_
  refine a6 ?_
  intro f W hJ hV
  have hb_1 := hJ.bl
  obtain ⟨v9, v8, v7, v6, v5, v4, _⟩ := hV
  replace hh := hJ.hp
  refine aK (a4 (aa v9 (aa v8 (aa v7 (aa v6 (aa v5 (aa v4 aM))))))) ?_
  dsimp only [bX]
  clear hJ
  refine cQ (aB (ae (al ?_)))
  refine cn ?_
  exact ⟨by rw [decide_eq_true hg], hh.below⟩
theorem uy (A : Option Addr) (n c : Nat) (l : List PX) (g : FuncId) (cap : List Value) (p : PX → Bool) (w : World) (hS : Sl w A n 2 (aP PX.cells l)) (hn : n ≤ 1000000) [ar Tryz.prog g]
  (hg : ∀ (z : PX) (w1 : World), z ∈ l → Below w.heap.size w w1 → Calls Tryz.prog g (.agg #[.int .i64 z.v, .slice z.A z.n z.c] :: cap).toArray w1 fun r w' => r = .returned (.bool (p z)) ∧ Below w1.heap.size w1 w') :
  Calls Tryz.prog 191 #[.slice A n c, .func (.func g) #[] cap.toArray] w fun r w' => ∃ v, r = .returned (.int .i64 v) ∧ (0 ≤ v ↔ l.any p = true) ∧ Below w.heap.size w w' := by
 have hh := Hp.start w
 have hln := hS.cx PX.len (by decide)
 refine aj (N := 19) (l := [.slice A n c, .func (.func g) #[] cap.toArray]) Tryz.func191 rfl rfl (by simp) ?_
 refine sr (aI (ae (ah (sr (mL (a0 (mI (ae (ao ?_)))))))))
 refine bs [4, 5, 8, 9, 10, 11, 12, 13, 14, 15, 16, 17, 18] 8
  (fun v w' => ∃ i : Nat, i ≤ n ∧ v = .int .i64 i ∧ (l.take i).any p = false ∧ Hp w [] w')
  (fun v _ => n - (intOf v).toNat) ?_ ?_
 ·exact ⟨0, Nat.zero_le _, rfl, rfl, hh⟩
 ·clear hh
  rintro ρ' v w' ⟨i, hi, rfl, hall, hh⟩
  by_cases hlt : i < n
  ·obtain ⟨z, hz⟩ := aE (l := l) (k := i) (by omega)
   obtain ⟨ad, rfl, hr⟩ := hS.at_ (by omega)
   have hc := fun w1 => hg z w1 (List.mem_of_getElem? hz)
   cases gz : p z with
   | true =>
    rw [gz] at hc
    refine sr ?_
    refine aW (ae (ah (cT (ak (ai (ah (ao (sr (mI (aI (ae ?_)))))))))))
    refine sr ?_
    refine fI (by first | exact g6 rfl | exact ev_nilf rfl) (by decide) ?_
    refine mL (mI ?_)
    refine aQ (k := i) aF.out aA.size rfl rfl (by omega) (by omega) (by decide) ?_
    refine bR (vs := [_, _]) aA.out rfl ((hr.ext hh.below).recAt PX.len hz) rfl (by decide) ?_
    refine fB (hc _ hh.below) ar.out rfl rfl (by decide) ?_
    rintro e_ w16 ⟨rfl, hb_⟩
    refine ⟨_, rfl, ?_⟩
    replace hh := hh.ext hb_
    refine ae (cT (sr (mI (aI (ae (al (bP (aD (aD (bP (aD ?_)))))))))))
    refine cn ?_
    exact ⟨_, rfl, ⟨fun _ => List.any_eq_true.2 ⟨z, List.mem_of_getElem? hz, gz⟩, fun _ => by omega⟩, hh.below⟩
   | false =>
    rw [gz] at hc
    refine sr ?_
    refine aW (ae (ah (cT (ak (ai (ah (ao (sr (mI (aI (ae ?_)))))))))))
    refine sr ?_
    refine fI (by first | exact g6 rfl | exact ev_nilf rfl) (by decide) ?_
    refine mL (mI ?_)
    refine aQ (k := i) aF.out aA.size rfl rfl (by omega) (by omega) (by decide) ?_
    refine bR (vs := [_, _]) aA.out rfl ((hr.ext hh.below).recAt PX.len hz) rfl (by decide) ?_
    refine fB (hc _ hh.below) ar.out rfl rfl (by decide) ?_
    rintro e_ w16 ⟨rfl, hb_⟩
    refine ⟨_, rfl, ?_⟩
    replace hh := hh.ext hb_
    refine ae (cF (ak (aT (ai (aq ?_)))))
    refine bL (mI (aC (ai ?_)))
    refine ⟨⟨i + 1, by omega, rfl, by rw [aN hz, List.any_append, hall, List.any_cons, List.any_nil, gz]; rfl, hh⟩, by show n - (i + 1) < n - i; omega, ?_⟩
    (repeat (first | exact aw _ _ _ | refine ax rfl ?_ | refine au rfl ?_))
  ·rw [List.take_of_length_le (by omega)] at hall
   refine sr ?_
   refine aW (ae (ah (cF ?_)))
   refine aO ?_
   refine ay (ay (a8 (ai (sr (aI (ae (al ?_)))))))
   refine cn ?_
   exact ⟨_, rfl, ⟨fun h => absurd h (by decide), fun h => by rw [hall] at h; cases h⟩, hh.below⟩
theorem oe (A : Option Addr) (n c : Nat) (l : List PX) (g : FuncId) (cap : List Value) (p : PX → Bool) (w : World) (hS : Sl w A n 2 (aP PX.cells l)) (hn : n ≤ 1000000) [ar Tryz.prog g]
  (hg : ∀ (z : PX) (w1 : World), z ∈ l → Below w.heap.size w w1 → Calls Tryz.prog g (.agg #[.int .i64 z.v, .slice z.A z.n z.c] :: cap).toArray w1 fun r w' => r = .returned (.bool (p z)) ∧ Below w1.heap.size w1 w') :
  Calls Tryz.prog 97 #[.slice A n c, .func (.func g) #[] cap.toArray] w fun r w' => r = .returned (.bool (l.any p)) ∧ Below w.heap.size w w' := by
 have hh := Hp.start w
 refine aj (N := 9) (l := [.slice A n c, .func (.func g) #[] cap.toArray]) Tryz.func97 rfl rfl (by simp) ?_
 refine sr (aB (ae (sr (mL ?_))))
 refine fI (by first | exact g6 rfl | exact ev_nilf rfl) (by decide) ?_
 refine aR (uy A n c l g cap p _ (hS.ext hh.below) hn hg) ar.out rfl (by decide) ?_
 rintro e_ w7 ⟨v_, rfl, hv_, hb_⟩
 refine ⟨_, rfl, ?_⟩
 replace hh := hh.ext hb_
 cases ga : l.any p with
 | true =>
  have h0 := hv_.2 ga
  refine dg (aB (ae (al ?_)))
  refine cn ?_
  exact ⟨rfl, hh.below⟩
 | false =>
  have h0 : ¬ 0 ≤ v_ := fun h => by rw [hv_.1 h] at ga; cases ga
  refine dg (aB (ae (al ?_)))
  refine cn ?_
  exact ⟨rfl, hh.below⟩
theorem mV (L : Option Addr) (n c : Nat) (ps : List PX) (k : Nat) (w : World) (hT : gW w) (hL : Sl w L n 2 (aP PX.cells ps)) (hn : n ≤ 1000000) (hf : ∀ g ∈ ps, g.at_ w) (hl : ∀ g ∈ ps, g.lk k) :
  Calls Tryz.prog 102 #[.slice L n c] w fun r w' => r = .returned (.int .i64 (gp ps)) ∧ Below w.heap.size w w' := by
 have hh := Hp.start w
 have hln := hL.cx PX.len (by decide)
 refine aj (N := 26) (l := [.slice L n c]) Tryz.func102 rfl rfl (by simp) ?_
 refine sr ?_
 refine cz hh [_] ?_
 intro b1 w1 hh
 refine aI (ae (ah (sr ?_)))
 refine bE hh 0 ?_
 refine a0 (mI (ae (ao ?_)))
 refine bs [2, 4, 5, 8, 9, 10, 11, 12, 13, 14, 15, 16, 17] 8
  (fun v w' => ∃ i : Nat, i ≤ n ∧ v = .int .i64 i ∧ (ps.take i).any (fun g => decide (g.e ≠ 0)) = false ∧ Hp w [.blk b1 44 [.slice L n c] (0, 0)] w')
  (fun v _ => n - (intOf v).toNat) ?_ ?_
 ·exact ⟨0, Nat.zero_le _, rfl, rfl, hh⟩
 ·clear hh
  rintro ρ' v w' ⟨i, hi, rfl, hall, hh⟩
  by_cases hlt : i < n
  ·obtain ⟨g, hx⟩ := aE (l := ps) (k := i) (by omega)
   have hmem := List.mem_of_getElem? hx
   have hc := fun w1 hT1 hb => lB g k w1 hT1 ((hf g hmem).ext hb) (hl g hmem)
   obtain ⟨ad, rfl, hr⟩ := hL.at_ (by omega)
   by_cases he : g.e = 0
   ·refine sr ?_
    refine aW (ae (ah (cT (ak (ai (ah (ao (sr ?_))))))))
    refine aQ (k := i) aF.out aA.size rfl rfl (by omega) (by omega) (by decide) ?_
    refine bR (vs := [_, _]) aA.out rfl ((hr.ext hh.below).recAt PX.len hx) rfl (by decide) ?_
    refine cj hh ?_
    intro b4 w4 hh
    refine bD hh 0 [_,_] ?_
    intro ws hh
    replace hh : Hp _ (.blk _ _ [_, _] _ :: _) _ := hh
    refine ae (sr ?_)
    refine cB hh 0 [_,_] ?_
    refine bA hh (hc _ (hT.hp hh) hh.below) rfl ?_
    intro w13 hh
    refine aI (ae (sr (mI ?_)))
    refine cQ (ae (cF (ak (aT (ai (aq ?_))))))
    refine bL (mI (aC (ai ?_)))
    replace hh := hh.sub (List.Sublist.cons _ (List.Sublist.cons_cons _ List.Sublist.slnil))
    refine ⟨⟨i + 1, by omega, rfl, by rw [aN hx, List.any_append, hall, List.any_cons, List.any_nil, decide_eq_false (by omega)]; rfl, hh⟩, by show n - (i + 1) < n - i; omega, ?_⟩
    (repeat (first | exact aw _ _ _ | refine ax rfl ?_ | refine au rfl ?_))
   ·refine sr ?_
    refine aW (ae (ah (cT (ak (ai (ah (ao (sr ?_))))))))
    refine aQ (k := i) aF.out aA.size rfl rfl (by omega) (by omega) (by decide) ?_
    refine bR (vs := [_, _]) aA.out rfl ((hr.ext hh.below).recAt PX.len hx) rfl (by decide) ?_
    refine cj hh ?_
    intro b4 w4 hh
    refine bD hh 0 [_,_] ?_
    intro ws hh
    replace hh : Hp _ (.blk _ _ [_, _] _ :: _) _ := hh
    refine ae (sr ?_)
    refine cB hh 0 [_,_] ?_
    refine bA hh (hc _ (hT.hp hh) hh.below) rfl ?_
    intro w13 hh
    refine aI (ae (sr (mI ?_)))
    refine cQ (ae (cT (sr (mI (aI (ae (al (bP (aD (aD (bP ?_)))))))))))
    refine aD ?_
    refine cn ?_
    refine ⟨?_, hh.below⟩
    unfold gp
    rw [pN hall hx (decide_eq_true he)]
  ·rw [List.take_of_length_le (by omega)] at hall
   have hlk : gp ps = if ps.length = 0 ∨ wC ps = true then 1 else 0 := by unfold gp; rw [gF hall]
   rw [hlk]
   by_cases h0 : n = 0
   ·refine sr ?_
    refine aW (ae (ah (cF ?_)))
    refine aO ?_
    refine ay (ay (a8 (ai (ah (sr ?_)))))
    refine bE hh 0 ?_
    refine a0 ?_
    refine cu (mB ?_)
    first | refine gS ?_ | (refine gT ?_; refine bE hh 0 ?_) | refine gV ?_
    first | refine gS ?_ | (refine gT ?_; refine eZ rfl (az (j3 rfl) a7) (by decide) ?_) | refine gV ?_
    refine cd (by decide) rfl rfl (by decide) ?_
    first | refine cS ?_ | refine cU ?_
    refine ae (cT (sr (aI (ae (al (aD ?_))))))
    refine cn ?_
    exact ⟨by rw [if_pos (.inl (by omega))], hh.below⟩
   ·have hcell : w'.cell? ⟨b1, 0, none⟩ = some (.slice L n c) := hh.dh (i := 0) rfl rfl
    have ho := fun w1 hb => oe L n c ps 194 [.pointer (some ⟨b1, 0, none⟩)] (fun g => decide (g.v ≠ (ps.map PX.v).headD 0)) w1 (hL.ext (hh.below.trans (hb.mono hh.below.size))) hn (fun z w2 hz hb2 => uW L n c ps z ⟨b1, 0, none⟩ w2 ((hL.ext (hh.below.trans (hb.mono hh.below.size))).ext hb2) (dz hb2 (dz hb hcell)) (by omega))
    cases hod : wC ps with
    | true =>
     have hod2 : ps.any (fun g => decide (g.v ≠ (ps.map PX.v).headD 0)) = true := hod
     rw [hod2] at ho
     refine sr ?_
     refine aW (ae (ah (cF ?_)))
     refine aO ?_
     refine ay (ay (a8 (ai (ah (sr ?_)))))
     refine bE hh 0 ?_
     refine a0 ?_
     refine cu (mB ?_)
     first | refine gS ?_ | (refine gT ?_; refine bE hh 0 ?_) | refine gV ?_
     first | refine gS ?_ | (refine gT ?_; refine eZ rfl (az (j3 rfl) a7) (by decide) ?_) | refine gV ?_
     refine bq rfl rfl ?_
     refine bA hh (ho _ (Below.refl _ _)) rfl ?_
     intro w24 hh
     first | refine cS ?_ | refine cU ?_
     refine ae (cT (sr (aI (ae (al (aD ?_))))))
     refine cn ?_
     exact ⟨by rw [if_pos (.inr rfl)], hh.below⟩
    | false =>
     have hod2 : ps.any (fun g => decide (g.v ≠ (ps.map PX.v).headD 0)) = false := hod
     rw [hod2] at ho
     refine sr ?_
     refine aW (ae (ah (cF ?_)))
     refine aO ?_
     refine ay (ay (a8 (ai (ah (sr ?_)))))
     refine bE hh 0 ?_
     refine a0 ?_
     refine cu (mB ?_)
     first | refine gS ?_ | (refine gT ?_; refine bE hh 0 ?_) | refine gV ?_
     first | refine gS ?_ | (refine gT ?_; refine eZ rfl (az (j3 rfl) a7) (by decide) ?_) | refine gV ?_
     refine bq rfl rfl ?_
     refine bA hh (ho _ (Below.refl _ _)) rfl ?_
     intro w24 hh
     first | refine cS ?_ | refine cU ?_
     refine ae (cF (ak (ai (sr (aI (ae (al ?_)))))))
     refine cn ?_
     refine ⟨?_, hh.below⟩
     rw [if_neg]
     rintro (h | h)
     ·omega
     ·cases h
end Go.Proofs.YtaapkaefelhfcaaGreatDoor
/- Arguments opened: terms, polynomials. -/
namespace Go.Proofs.YtaapkaefelhfcaaGreatDoor
open Go.ChangeShapes Go.WideShapes Go.ChangeAt Go.RowKit Go.ChangeMaps
set_option maxRecDepth 100000 in
theorem uI {H : Type} {enc : TypeId × Value → H} {W : World} {base fuel : Nat} {sp : Nat → Bool} {held : Bool} {cs : List Value} {x : DataW H × List MemPlace} (h : DataW.trod enc Tryz.prog W base sp held fuel 55 cs = some x) :
  ∃ t : TR, cs = t.cells ∧ True := by
 have c0 : Tryz.prog.cellsOf 55 = 4 := by kernel_rfl
 have c1 : Tryz.prog.cellsOf 9 = 1 := by kernel_rfl
 have c2 : Tryz.prog.cellsOf 29 = 3 := by kernel_rfl
 obtain ⟨y0, y1, n, _, hl, h0, h1⟩ := trod_struct2 Tryz.underlying55 h
 obtain ⟨s, e0, _, _⟩ := DataW.trod_string Tryz.underlying9 h0
 obtain ⟨a, e1, _⟩ := mc h1
 rw [c0] at hl
 match cs, hl with
 | [x0, x1, x2, x3], _ =>
  simp only [c1, c2] at e0 e1
  unfold NR.cells at e1
  simp at e0 e1
  obtain ⟨e1, e2, e3⟩ := e1
  subst e0 e1 e2 e3
  exact ⟨⟨s, a⟩, rfl, trivial⟩
set_option maxRecDepth 100000 in
theorem tZ {H : Type} {enc : TypeId × Value → H} {W : World} {base fuel : Nat} {sp : Nat → Bool} {held : Bool} {cs : List Value} {x : DataW H × List MemPlace} (h : DataW.trod enc Tryz.prog W base sp held fuel 24 cs = some x) :
  ∃ g : PX, cs = g.cells ∧ (g.at_ W ∧ g.n ≤ g.c) := by
 have c0 : Tryz.prog.cellsOf 24 = 2 := by kernel_rfl
 have c1 : Tryz.prog.cellsOf 3 = 1 := by kernel_rfl
 have c2 : Tryz.prog.cellsOf 22 = 1 := by kernel_rfl
 obtain ⟨y0, y1, n, _, hl, h0, h1⟩ := trod_struct2 Tryz.underlying24 h
 obtain ⟨z, e0, _, _⟩ := DataW.trod_int Tryz.underlying3 h0
 obtain ⟨B, m, b, k, e1, s1, _⟩ := uA TR.len (by decide) Tryz.underlying22 (by kernel_rfl) (fun _ _ _ h => uI h) h1
 rw [e1] at h1
 have hroom := xa Tryz.underlying22 h1
 rw [c0] at hl
 match cs, hl with
 | [x0, x1], _ =>
  simp only [c1, c2] at e0 e1
  simp at e0 e1
  subst e0 e1
  exact ⟨⟨z, B, m, b, k⟩, rfl, s1, hroom⟩
set_option maxRecDepth 100000 in
theorem xr {H : Type} {enc : TypeId × Value → H} {W : World} {r : Reach} {base b0 : Nat} {sp : Nat → Bool} {held : Bool} {v : Value} {d : DataW H} {ps : List MemPlace}
  (hval : Value.okWide Tryz.prog W r b0 24 v) (hd : DataW.Trod enc Tryz.prog W base sp held 24 v d ps) : ∃ g : PX, v = .agg #[.int .i64 g.v, .slice g.A g.n g.c] ∧ g.at_ W ∧ g.n ≤ g.c := by
 obtain ⟨cs, rfl, _⟩ := okWide_struct Tryz.underlying24 hval
 obtain ⟨fuel, hf⟩ := hd
 obtain ⟨f, h1, h2⟩ := tZ hf
 refine ⟨f, ?_, h2⟩
 have h3 : cs.toList = f.cells := h1
 rw [← Array.toList_inj.1 (show cs.toList = (#[.int .i64 f.v, .slice f.A f.n f.c] : Array Value).toList from h3)]
end Go.Proofs.YtaapkaefelhfcaaGreatDoor
/- Plain: products of rows of terms. No program in sight. -/
namespace Go.Proofs.YtaapkaefelhfcaaGreatDoor
open Go.RowKit
def mulM (a b : ByteArray) : ByteArray := str (mulL a.data.toList b.data.toList).1
def oJ (a b : ByteArray) : Int := (mulL a.data.toList b.data.toList).2
def rl (x y : TR) : TR := ⟨mulM x.m y.m, nR (x.c.d * y.c.d)⟩
def cW (p q : List TR) : List TR := p.flatMap fun x => q.map (rl x)
def so (p q : List TR) : List Int := p.flatMap fun x => q.map fun y => oJ x.m y.m
def fo (p q : List TR) : Int := if 65536 < p.length * q.length then 3 else match (so p q).find? fun e => decide (e ≠ 0) with | some e => e | none => if 4096 < (aZ (cW p q)).length then 3 else 0
theorem sn {α β : Type} {f : α → List β} {k : Nat} : ∀ {l : List α}, (∀ x ∈ l, (f x).length = k) → (l.flatMap f).length = l.length * k
 | [], _ => by simp
 | x :: l, h => by
  rw [List.flatMap_cons, List.length_append, h x List.mem_cons_self, sn fun y hy => h y (List.mem_cons_of_mem _ hy), List.length_cons, Nat.succ_mul, Nat.add_comm]
theorem mb (p q : List TR) : (cW p q).length = p.length * q.length := sn fun x _ => List.length_map _
theorem me {α β γ : Type} {f : α → β → γ} {p : List α} {q : List β} {i : Nat} {x : α} (hx : p[i]? = some x) :
  ((p.take (i + 1)).flatMap fun x => q.map (f x)) = ((p.take i).flatMap fun x => q.map (f x)) ++ (q.take q.length).map (f x) := by
 rw [aN hx, List.flatMap_append, List.take_of_length_le (Nat.le_refl _)]
 simp
theorem tY {α β γ : Type} {f : α → β → γ} {p : List α} {q : List β} {i j : Nat} {x : α} {y : β} (hx : p[i]? = some x) (hy : q[j]? = some y) :
  ∃ R, (p.flatMap fun x => q.map (f x)) = (((p.take i).flatMap fun x => q.map (f x)) ++ (q.take j).map (f x)) ++ f x y :: R := by
 refine ⟨(q.drop (j + 1)).map (f x) ++ (p.drop (i + 1)).flatMap fun x => q.map (f x), ?_⟩
 have e1 : p = p.take i ++ x :: p.drop (i + 1) := by rw [← iG hx, List.take_append_drop]
 have e2 : q = q.take j ++ y :: q.drop (j + 1) := by rw [← iG hy, List.take_append_drop]
 have e3 : q.map (f x) = (q.take j).map (f x) ++ f x y :: (q.drop (j + 1)).map (f x) := by
  rw [← List.map_cons, ← List.map_append, ← e2]
 calc (p.flatMap fun x => q.map (f x)) = (p.take i ++ x :: p.drop (i + 1)).flatMap fun x => q.map (f x) := by rw [← e1]
  _ = _ := by rw [List.flatMap_append, List.flatMap_cons, e3]; simp
theorem pd {k j : Nat} {p q : List TR} (hp : fT k p) (hq : fT j q) (h : k + j ≤ 1000000) : fT (k + j) (cW p q) := fun t ht => by
 obtain ⟨x, hx, ht⟩ := List.mem_flatMap.1 ht
 obtain ⟨y, hy, rfl⟩ := List.mem_map.1 ht
 have hs := (hp x hx).2.mul (hq y hy).2
 exact ⟨hs.ok (by omega), by show Sz _ (nR _).d; rw [dy]; exact hs⟩
theorem wR (a b : ByteArray) : (mulM a b).size ≤ b.size := by
 unfold mulM
 rw [dT]
 unfold mulL
 split
 ·rename_i l hl
  have := (pK hl).2.2
  have h4 : l.length ≤ b.data.toList.length := by rw [this.2, List.length_zipWith, dN, dN]; omega
  have h5 : (zf l).length ≤ l.length := by unfold zf; split <;> simp
  rw [bZ]
  exact Nat.le_trans h5 h4
 ·exact Nat.zero_le _
end Go.Proofs.YtaapkaefelhfcaaGreatDoor
/- Plain laws of sums and products of rows of terms; what is in the one form. No program in sight. -/
namespace Go.Proofs.YtaapkaefelhfcaaGreatDoor
open Go.RowKit
def Ck (c : Dyadic) (t : TR) : TR := ⟨t.m, nR (t.c.d * c)⟩
theorem dW {v : Int} {ts : List TR} (h : fy v ts = 0) : gl v = true ∧ ts.length ≤ 4096 ∧ (∀ t ∈ ts, ew v t = true) ∧ Canon ts := by
 unfold fy at h
 cases hf : gl v with
 | false => rw [hf, if_pos rfl] at h; omega
 | true =>
  rw [if_neg (by rw [hf]; decide)] at h
  by_cases h4 : 4096 < ts.length
  ·rw [if_pos h4] at h; omega
  ·rw [if_neg h4] at h
   by_cases ho : okB v ts = true
   ·unfold okB at ho
    rw [Bool.and_eq_true] at ho
    have hg : ∀ t ∈ ts, gO v t = true := List.all_eq_true.1 ho.1
    refine ⟨rfl, by omega, fun t ht => ?_, lF.1 ho.2, fun t ht => ?_, fun t ht => ?_⟩
    ·exact (Bool.and_eq_true_iff.1 (hg t ht)).1
    ·exact tP (Bool.and_eq_true_iff.1 (Bool.and_eq_true_iff.1 (hg t ht)).2).1
    ·exact ((kr _).1 (Bool.and_eq_true_iff.1 (Bool.and_eq_true_iff.1 (hg t ht)).2).2).symm
   ·rw [if_neg ho] at h; omega
theorem qB {v : Int} {ts : List TR} (hf : gl v = true) (h4 : ts.length ≤ 4096) (hm : ∀ t ∈ ts, ew v t = true) (hc : Canon ts) : fy v ts = 0 := by
 unfold fy
 rw [if_neg (by rw [hf]; decide), if_neg (by omega), if_pos]
 unfold okB
 rw [Bool.and_eq_true]
 refine ⟨List.all_eq_true.2 fun t ht => ?_, lF.2 hc.nU⟩
 show (ew v t && (kt t && Cd t.c)) = true
 rw [hm t ht, (kr _).2 (hc.nf t ht).symm]
 unfold kt
 rw [decide_eq_false (hc.nz t ht)]
 rfl
theorem AU {v : Int} {s t : TR} (h : s.m = t.m) (hs : ew v s = true) : ew v t = true := by unfold ew at hs ⊢; rwa [← h]
theorem tO {v : Int} {l : List TR} (h : ∀ t ∈ l, ew v t = true) : ∀ t ∈ aZ l, ew v t = true := fun t ht => by
 obtain ⟨s, hs, e⟩ := jG t ht
 exact AU e (h s hs)
theorem jY {v : Int} {l : List TR} (hf : gl v = true) (h4 : (aZ l).length ≤ 4096) (hm : ∀ t ∈ l, ew v t = true) : fy v (aZ l) = 0 := qB hf h4 (tO hm) (eJ l)
theorem yO {v : Int} {x y : TR} (hx : ew v x = true) (h : oJ x.m y.m = 0) : ew v (rl x y) = true := by
 unfold ew at hx ⊢
 rw [Bool.and_eq_true, decide_eq_true_eq] at hx
 obtain ⟨_, _, h3, h4, h5⟩ := za h
 rw [Bool.and_eq_true, decide_eq_true_eq]
 have h6 := congrArg List.length h5
 rw [dN, List.length_zipWith, dN, dN, h3, Nat.min_self] at h6
 refine ⟨?_, ?_⟩
 ·show ef (mulM x.m y.m).data.toList = true
  unfold mulM
  rw [db]
  exact h4
 ·show ((mulM x.m y.m).size : Int) = v
  unfold mulM
  rw [dT, h6, ← bZ]
  exact hx.2
theorem wP {v : Int} {p q : List TR} (hp : ∀ t ∈ p, ew v t = true) (h : ∀ e ∈ so p q, e = 0) : ∀ t ∈ cW p q, ew v t = true := fun t ht => by
 obtain ⟨x, hx, ht⟩ := List.mem_flatMap.1 ht
 obtain ⟨y, hy, rfl⟩ := List.mem_map.1 ht
 exact yO (hp x hx) (h _ (List.mem_flatMap.2 ⟨x, hx, List.mem_map.2 ⟨y, hy, rfl⟩⟩))
theorem nt {p q : List TR} (h : fo p q = 0) : p.length * q.length ≤ 65536 ∧ (∀ e ∈ so p q, e = 0) ∧ (aZ (cW p q)).length ≤ 4096 := by
 unfold fo at h
 by_cases h6 : 65536 < p.length * q.length
 ·rw [if_pos h6] at h; omega
 ·rw [if_neg h6] at h
  split at h
  ·rename_i e he
   have := List.find?_some he
   rw [decide_eq_true_eq] at this
   exact absurd h this
  ·rename_i he
   refine ⟨by omega, fun e hm => ?_, ?_⟩
   ·have := List.find?_eq_none.1 he e hm
    simpa using this
   ·by_cases h4 : 4096 < (aZ (cW p q)).length
    ·rw [if_pos h4] at h; omega
    ·omega
end Go.Proofs.YtaapkaefelhfcaaGreatDoor
/- The walk through poly.Add. -/
namespace Go.Proofs.YtaapkaefelhfcaaGreatDoor
open Go.RowKit
def jj (ps : List PX) : Int := (ps.map PX.v).headD 0
def sW (ps : List PX) : List TR := ps.flatMap PX.ts
def zz (ps : List PX) : Int := if gp ps = 0 then fe (sW ps) else gp ps
theorem rq {ps : List PX} (h : gp ps = 0) : ps ≠ [] ∧ (∀ g ∈ ps, g.e = 0) ∧ ∀ g ∈ ps, g.v = jj ps := by
 unfold gp at h
 split at h
 ·rename_i f hf
  have := List.find?_some hf
  simp at this
  exact absurd h this
 ·rename_i hf
  split at h
  ·cases h
  rename_i hno
  refine ⟨fun e => hno (.inl (by rw [e]; rfl)), fun f hm => ?_, fun f hm => ?_⟩
  ·have := List.find?_eq_none.1 hf f hm
   simpa using this
  ·apply Classical.byContradiction
   intro hne
   exact hno (.inr (List.any_eq_true.2 ⟨f, hm, decide_eq_true hne⟩))
theorem rC {α β : Type} {f : α → List β} {B : Nat} : ∀ {l : List α}, (∀ x ∈ l, (f x).length ≤ B) → (l.flatMap f).length ≤ l.length * B
 | [], _ => by simp
 | x :: l, h => by
  rw [List.flatMap_cons, List.length_append, List.length_cons, Nat.succ_mul]
  have h1 := h x List.mem_cons_self
  have h2 := rC fun y hy => h y (List.mem_cons_of_mem _ hy)
  omega
theorem xg {α β : Type} {f : α → List β} {l : List α} {i : Nat} {x : α} (h : l[i]? = some x) : (l.take (i + 1)).flatMap f = (l.take i).flatMap f ++ f x := by
 rw [aN h, List.flatMap_append]
 simp
theorem uv {l k : List TR} (h : aZ l = aZ k) : fe l = fe k := by unfold fe; rw [h]
theorem sB {ps : List PX} {g : PX} (h : ps[0]? = some g) : jj ps = g.v := by
 rcases ps with _ | ⟨f, l⟩
 ·cases h
 ·have : f = g := by simpa using h
  rw [← this]; rfl
theorem tR (L : Option Addr) (n c : Nat) (ps : List PX) (k : Nat) (w : World) (hT : gW w) (hL : Sl w L n 2 (aP PX.cells ps)) (hn : n ≤ 100) (hf : ∀ g ∈ ps, g.at_ w) (hl : ∀ g ∈ ps, g.lk k) (hk : k ≤ 2999000) :
  Calls Tryz.prog 30 #[.slice L n c] w fun r w' => ∃ g : PX, cZ (zz ps) (jj ps) (aZ (sW ps)) g ∧ r = .returned (.tuple #[.agg #[.int .i64 g.v, .slice g.A g.n g.c], .int .i64 (zz ps)]) ∧ Hp w [g.row] w' := by
 have hh := Hp.start w
 have hln := hL.cx PX.len (by decide)
 have hlk := fun w1 hT1 hb => mV L n c ps k w1 hT1 (hL.ext hb) (by omega) (fun g hg => (hf g hg).ext hb) hl
 unfold zz
 by_cases h0 : gp ps = 0
 ·rw [if_pos h0]
  rw [h0] at hlk
  obtain ⟨hne, hev, hvv⟩ := rq h0
  have hpos := List.length_pos_iff.2 hne
  obtain ⟨g0, h00⟩ := aE (l := ps) (k := 0) hpos
  rw [sB h00]
  have hfl : (sW ps).length ≤ ps.length * 4096 := rC fun g hg => (dW (hev g hg)).2.1
  obtain ⟨ad, rfl, hr⟩ := hL.at_ (by omega)
  refine aj (N := 33) (l := [.slice (some ad) n c]) Tryz.func30 rfl rfl (by simp) ?_
  refine sr ?_
  refine cj hh ?_
  intro b2 w2 hh
  refine aI (ae (ah (sr (mL ?_))))
  refine bA hh (hlk _ (hT.hp hh) hh.below) rfl ?_
  intro w9 hh
  refine aI (ae (sr (mI ?_)))
  refine cQ (ae (cF (ak (ai (sr (aL (ae (ah (sr (mL (a0 ?_)))))))))))
  refine mI (ae (ao ?_))
  replace hh := hh.dK 55 4
  refine cE [5, 7, 16, 17, 18, 19, 20, 21, 22, 23, 24] 5 16
   (fun a x w' => ∃ (i : Nat) (M : List TR) (A' : Option Addr) (c' : Nat), i ≤ n ∧ x = .int .i64 i ∧ a = .slice A' M.length c' ∧ MD (k + i) ((ps.take i).flatMap PX.ts) M ∧ Hp w [.row A' M.length c' 55 4 (aP TR.cells M), .blk b2 24 [.int .i64 0, .slice none 0 0] (0, 0)] w')
   (fun _ x _ => n - (intOf x).toNat) ?_ ?_
  ·exact ⟨0, [], none, 0, Nat.zero_le _, rfl, rfl, MD.self List.Pairwise.nil (fun t ht => nomatch ht), hh⟩
  ·clear hh
   rintro ρ' a_ x_ w' ⟨i, M, A', c', hi, rfl, rfl, hmd, hh⟩
   have hfi : ((ps.take i).flatMap PX.ts).length ≤ i * 4096 := by
    have := rC (f := PX.ts) (B := 4096) (l := ps.take i) fun g hg => (dW (hev g (List.mem_of_mem_take hg))).2.1
    rwa [List.length_take, Nat.min_eq_left (by omega)] at this
   have hML := hmd.len
   by_cases hlt : i < n
   ·obtain ⟨g, hx⟩ := aE (l := ps) (k := i) (by omega)
    have hmem := List.mem_of_getElem? hx
    have hgl := hl g hmem
    have hge := dW (hev g hmem)
    have hgc := hgl.cap
    have hgn := hgl.n
    refine sr ?_
    refine aW (ae (ah (cT (ak (ai (ah (ao (sr ?_))))))))
    refine aQ (k := i) aF.out aA.size rfl rfl (by omega) (by omega) (by decide) ?_
    refine bR (vs := [_, _]) aA.out rfl ((hr.ext hh.below).recAt PX.len hx) rfl (by decide) ?_
    refine cj hh ?_
    intro b7 w7 hh
    refine bD hh 0 [_,_] ?_
    intro ws hh
    replace hh : Hp _ (.blk _ _ [_, _] _ :: _) _ := hh
    refine ae (aq (mL (bB ?_)))
    refine bE hh 0 ?_
    refine aR (lG A' M.length c' M g.A g.n g.c g.ts (k + i) _ (hT.hp hh) (hh.aJ (i := 1) rfl) ((hf g hmem).ext hh.below) (hh.jK (i := 1) rfl) hgc (by omega) hgn (by omega) hmd.nU hge.2.2.2.nU hmd.ok (hgl.ok.mono (by omega))) ar.out rfl (by decide) ?_
    rintro e_ w23 ⟨L2, A2, c2, hm2, rfl, h3⟩
    refine ⟨_, rfl, ?_⟩
    replace hh := hh.join h3
    simp only [List.cons_append, List.nil_append] at hh
    refine aL (aC (aT (ai (aq ?_))))
    refine bL (mI (aC (ai ?_)))
    replace hh := hh.sub (List.Sublist.cons_cons _ (List.Sublist.cons _ (List.Sublist.cons _ (List.Sublist.cons_cons _ List.Sublist.slnil))))
    refine ⟨⟨i + 1, L2, A2, c2, by omega, rfl, rfl, ?_, hh⟩, by show n - (i + 1) < n - i; omega, ?_⟩
    ·rw [xg hx]
     exact hmd.yo (MD.self hge.2.2.2.nU (hgl.ok.mono (by omega) : fT (k + i) g.ts)) hm2 (by omega)
    ·(repeat (first | exact aw _ _ _ | refine ax rfl ?_ | refine au rfl ?_))
   ·obtain rfl : i = n := by omega
    rw [List.take_of_length_le (by omega)] at hmd hfi hML
    have hgM : aZ M = aZ (sW ps) := qO hmd.co
    have hgE := uv hgM
    refine sr ?_
    refine aW (ae (ah (cF ?_)))
    refine aO ?_
    refine ay (ay (a8 (ai (sr (mL ?_)))))
    refine aQ (k := 0) aF.out aA.size rfl rfl (by omega) (by omega) (by decide) ?_
    refine bI dE.out rfl (by decide) ?_
    refine bj aA.out rfl (dz hh.below ((hr.recAt PX.len h00) 0 _ rfl)) (by decide) ?_
    refine mL ?_
    refine aR (j6 _ A' M.length c' M (k + i) _ hT hh rfl (by omega) (by omega) hmd.ok) ar.out rfl (by decide) ?_
    rintro e_ w30 ⟨g, og, rfl, hh⟩
    refine ⟨_, rfl, ?_⟩
    refine dx ?_
    refine dx ?_
    refine bD hh 1 [_,_] ?_
    intro ws hh
    replace hh : Hp _ (_ :: .blk _ _ [_, _] _ :: _) _ := hh
    refine aI (ae (al ?_))
    refine iV (aH rfl (aG (vs := [_, _]) aA.out (hh.av (i := 1) (n := 2) rfl rfl) rfl) (cb (cv rfl) a9)) ?_
    rw [← hgE, ← hgM]
    exact ⟨g, og, rfl, hh.sub (List.Sublist.cons_cons _ (List.nil_sublist _))⟩
 ·rw [if_neg h0]
  generalize gp ps = e at *
  refine aj (N := 33) (l := [.slice L n c]) Tryz.func30 rfl rfl (by simp) ?_
  refine sr ?_
  refine cj hh ?_
  intro b2 w2 hh
  refine aI (ae (ah (sr (mL ?_))))
  refine bA hh (hlk _ (hT.hp hh) hh.below) rfl ?_
  intro w9 hh
  refine aI (ae (sr (mI ?_)))
  refine cQ (ae (cT (sr ?_)))
  refine eH [_,_] (mI ?_)
  refine bD hh 0 [_,_] ?_
  intro ws hh
  replace hh : Hp _ (.blk _ _ [_, _] _ :: _) _ := hh
  refine aI (ae (al (aD ?_)))
  refine iV (aH rfl (aG (vs := [_, _]) aA.out (hh.av (i := 0) (n := 2) rfl rfl) rfl) (cb (cv rfl) a9)) ?_
  exact ⟨PX.nil, cZ.err h0, rfl, (hh.sub (List.nil_sublist _)).iW⟩
end Go.Proofs.YtaapkaefelhfcaaGreatDoor
/- The walk through poly.times. -/
namespace Go.Proofs.YtaapkaefelhfcaaGreatDoor
open Go.RowKit
theorem xY {p q : List TR} (h : 65536 < p.length * q.length) : fo p q = 3 := by unfold fo; rw [if_pos h]
theorem zW {p q : List TR} {e : Int} (h6 : ¬ 65536 < p.length * q.length) {a b : List Int} (h : so p q = a ++ e :: b) (ha : ∀ x ∈ a, x = 0) (he : e ≠ 0) : fo p q = e := by
 unfold fo
 rw [if_neg h6, h, List.find?_append, gF (List.any_eq_false.2 fun x hx => by simp [ha x hx]), List.find?_cons_of_pos (p := fun e : Int => decide (e ≠ 0)) (by simpa using he)]
 rfl
theorem yQ {p q : List TR} (h6 : ¬ 65536 < p.length * q.length) (h : ∀ x ∈ so p q, x = 0) : fo p q = fe (cW p q) := by
 unfold fo fe
 rw [if_neg h6, gF (List.any_eq_false.2 fun x hx => by simp [h x hx])]
theorem rA (p q : PX) (k k2 : Nat) (w : World) (hT : gW w) (hp : p.at_ w) (hq : q.at_ w) (lp : p.lk k) (lq : q.lk k2) (hk : k + k2 ≤ 900000) :
  Calls Tryz.prog 108 #[.agg #[.int .i64 p.v, .slice p.A p.n p.c], .agg #[.int .i64 q.v, .slice q.A q.n q.c]] w fun r w' => ∃ g : PX, cZ (fo p.ts q.ts) p.v (aZ (cW p.ts q.ts)) g ∧ r = .returned (.tuple #[.agg #[.int .i64 g.v, .slice g.A g.n g.c], .int .i64 (fo p.ts q.ts)]) ∧ Hp w [g.row] w' := by
 have hh := Hp.start w
 obtain ⟨pv, pA, pn, pc, ps⟩ := p
 obtain ⟨qv, qA, qn, qc, qs⟩ := q
 have hpl : ps.length = pn := hp.ln
 have hql : qs.length = qn := hq.ln
 have hpn : pn ≤ 1000000 := lp.n
 have hqn : qn ≤ 1000000 := lq.n
 have okp : fT k ps := lp.ok
 have okq : fT k2 qs := lq.ok
 have szp : ∀ t ∈ ps, t.m.size ≤ 100000 := lp.sz
 have szq : ∀ t ∈ qs, t.m.size ≤ 100000 := lq.sz
 replace hp : Sl w pA pn 4 (aP TR.cells ps) := hp
 replace hq : Sl w qA qn 4 (aP TR.cells qs) := hq
 clear lp lq
 show Calls _ _ _ _ fun r w' => ∃ g : PX, cZ (fo ps qs) pv (aZ (cW ps qs)) g ∧ r = .returned (.tuple #[.agg #[.int .i64 g.v, .slice g.A g.n g.c], .int .i64 (fo ps qs)]) ∧ Hp w [g.row] w'
 have hmm : pn * qn ≤ 1000000 * 1000000 := Nat.mul_le_mul hpn hqn
 obtain ⟨m, hm⟩ : ∃ m, m = pn * qn := ⟨_, rfl⟩
 have hmi : (pn : Int) * (qn : Int) = (m : Int) := by rw [hm]; exact (Int.natCast_mul _ _).symm
 by_cases h6 : 65536 < m
 ·rw [xY (by rw [hpl, hql, ← hm]; exact h6)]
  refine aj (N := 67) (l := [.agg #[.int .i64 pv, .slice pA pn pc], .agg #[.int .i64 qv, .slice qA qn qc]]) Tryz.func108 rfl rfl (by simp) ?_
  refine sr ?_
  refine cz hh [_,_] ?_
  intro b2 w2 hh
  refine cz hh [_,_] ?_
  intro b3 w3 hh
  refine cj hh ?_
  intro b4 w4 hh
  refine aI (ae (ah (sr (bB ?_))))
  refine bE hh 2 ?_
  refine a0 (bB ?_)
  refine bE hh 1 ?_
  refine a0 ?_
  refine mulC ?_
  refine ck (ae (cT (sr ?_)))
  refine eH [_,_] ?_
  refine bD hh 0 [_,_] ?_
  intro ws hh
  replace hh : Hp _ (.blk _ _ [_, _] _ :: _) _ := hh
  refine aI (ae (al (aD ?_)))
  refine iV (aH rfl (aG (vs := [_, _]) aA.out (hh.av (i := 0) (n := 2) rfl rfl) rfl) (cb (cv rfl) a9)) ?_
  exact ⟨PX.nil, cZ.err (by decide), rfl, (hh.sub (List.nil_sublist _)).iW⟩
 ·have hbig : ¬ 65536 < ps.length * qs.length := by rw [hpl, hql, ← hm]; exact h6
  refine aj (N := 67) (l := [.agg #[.int .i64 pv, .slice pA pn pc], .agg #[.int .i64 qv, .slice qA qn qc]]) Tryz.func108 rfl rfl (by simp) ?_
  refine sr ?_
  refine cz hh [_,_] ?_
  intro b2 w2 hh
  refine cz hh [_,_] ?_
  intro b3 w3 hh
  refine cj hh ?_
  intro b4 w4 hh
  refine aI (ae (ah (sr (bB ?_))))
  refine bE hh 2 ?_
  refine a0 (bB ?_)
  refine bE hh 1 ?_
  refine a0 ?_
  refine mulC ?_
  refine ck (ae (cF (ak (ai (sr (aL (ae (ah (sr (bB ?_))))))))))
  refine bE hh 2 ?_
  refine a0 (mI (ae (ao ?_)))
  replace hh := hh.dK 55 4
  have hall : ∀ i, ((ps.take i).flatMap fun x => qs.map (rl x)).length ≤ 65536 := fun i => by
   have h1 : (cW ps qs).length = ((ps.take i).flatMap fun x => qs.map (rl x)).length + ((ps.drop i).flatMap fun x => qs.map (rl x)).length := by
    unfold cW
    rw [← List.length_append, ← List.flatMap_append, List.take_append_drop]
   rw [mb] at h1
   omega
  refine cE [5, 6, 8, 10, 11, 12, 25, 26, 27, 28, 29, 30, 31, 32, 33, 34, 35, 36, 37, 38, 39, 40, 41, 42, 43, 44, 45, 46, 47, 48, 49, 50, 51, 52, 53, 54, 55, 56, 57, 58, 59, 60] 6 25
   (fun a x w' => ∃ (i : Nat) (M : List TR) (A' : Option Addr) (c' : Nat), i ≤ pn ∧ x = .int .i64 i ∧ a = .slice A' M.length c' ∧ M = ((ps.take i).flatMap fun x => qs.map (rl x)) ∧ (∀ e ∈ ((ps.take i).flatMap fun x => qs.map fun y => oJ x.m y.m), e = 0) ∧ Hp w [.row A' M.length c' 55 4 (aP TR.cells M), .blk b4 24 [.int .i64 0, .slice none 0 0] (0, 0), .blk b3 24 [.int .i64 qv, .slice qA qn qc] (0, 0), .blk b2 24 [.int .i64 pv, .slice pA pn pc] (0, 0)] w')
   (fun _ x _ => pn - (intOf x).toNat) ?_ ?_
  ·exact ⟨0, [], none, 0, Nat.zero_le _, rfl, rfl, rfl, fun e he => (nomatch he), hh⟩
  ·clear hh
   rintro ρ' a_ x_ w' ⟨i, M, A', c', hi, rfl, rfl, hM, hz, hh⟩
   have hMl := hall i
   rw [← hM] at hMl
   by_cases hlt : i < pn
   ·obtain ⟨x, hx⟩ := aE (l := ps) (k := i) (by omega)
    obtain ⟨ad, rfl, hr⟩ := hp.at_ (by omega)
    have hxm := List.mem_of_getElem? hx
    have hxo := okp x hxm
    have hxs := szp x hxm
    refine sr ?_
    refine aW (ae (ah (cT (ak (ai (ah (ao (sr ?_))))))))
    refine aQ (k := i) aF.out aA.size rfl rfl (by omega) (by omega) (by decide) ?_
    refine bR (vs := [_, _, _, _]) aA.out rfl ((hr.ext hh.below).recAt TR.len hx) rfl (by decide) ?_
    refine cj hh ?_
    intro b8 w8 hh
    refine bD hh 0 [_,_,_,_] ?_
    intro ws hh
    replace hh : Hp _ (.blk _ _ [_, _, _, _] _ :: _) _ := hh
    refine ae (sr (bB ?_))
    refine bE hh 3 ?_
    refine a0 (mI (ae (ao ?_)))
    replace hh := hh.perm (List.perm_middle (l₁ := [_]))
    simp only [List.cons_append, List.nil_append] at hh
    refine cE [5, 6, 10, 11, 12, 32, 33, 34, 35, 36, 37, 38, 39, 40, 41, 42, 43, 44, 45, 46, 47, 48, 49, 50, 51, 52, 53, 54, 55, 56, 57, 58, 59] 6 32
     (fun a z w' => ∃ (j : Nat) (N : List TR) (A' : Option Addr) (c' : Nat), j ≤ qn ∧ z = .int .i64 j ∧ a = .slice A' N.length c' ∧ N = M ++ (qs.take j).map (rl x) ∧ (∀ e ∈ (qs.take j).map (fun y => oJ x.m y.m), e = 0) ∧ Hp w [.row A' N.length c' 55 4 (aP TR.cells N), .blk b8 55 [.string x.m, .bool x.c.neg, .string x.c.bu, .int .i64 x.c.e] (0, 0), .blk b4 24 [.int .i64 0, .slice none 0 0] (0, 0), .blk b3 24 [.int .i64 qv, .slice qA qn qc] (0, 0), .blk b2 24 [.int .i64 pv, .slice (some ad) pn pc] (0, 0)] w')
     (fun _ z _ => qn - (intOf z).toNat) ?_ ?_
    ·refine ⟨0, M, A', c', Nat.zero_le _, rfl, rfl, by simp, fun e he => (nomatch he), hh⟩
    ·clear hh
     rintro ρ2 a2 x2 w2 ⟨j, N, A2, c2, hj, rfl, rfl, hN, hz2, hh⟩
     by_cases hjn : j < qn
     ·obtain ⟨y, hy⟩ := aE (l := qs) (k := j) (by omega)
      obtain ⟨ad2, rfl, hr2⟩ := hq.at_ (by omega)
      have hym := List.mem_of_getElem? hy
      have hyo := okq y hym
      have hys := szq y hym
      have hmul : ∀ w1, Calls Tryz.prog 198 #[.string x.m, .string y.m] w1 fun r w' => r = .returned (.tuple #[.string (mulM x.m y.m), .int .i64 (oJ x.m y.m)]) ∧ Below w1.heap.size w1 w' := fun w1 => wM x.m y.m w1 hxs hys
      have hdm := fun A cc w1 hT1 hS1 => gC A 2 cc [x.c, y.c] w1 hT1 hS1 (by simpa using ⟨hxo.1, hyo.1⟩) (k + k2) (by simpa using ⟨hxo.2.mono (by omega), hyo.2.mono (by omega)⟩) (by omega) (by decide)
      rw [show gU ([x.c, y.c].map NR.d) = x.c.d * y.c.d by show 1 * x.c.d * y.c.d = _; rw [Dyadic.one_mul]] at hdm
      obtain ⟨R, hR⟩ := tY (f := fun x y => oJ x.m y.m) hx hy
      have hzz : ∀ e ∈ ((ps.take i).flatMap fun x => qs.map fun y => oJ x.m y.m) ++ (qs.take j).map (fun y => oJ x.m y.m), e = 0 := fun e he => by
       rcases List.mem_append.1 he with he | he
       ·exact hz e he
       ·exact hz2 e he
      have hNl : N.length < 65536 := by
       have h1 := hall (i + 1)
       rw [me hx, List.length_append, ← hM] at h1
       rw [hN, List.length_append]
       simp at h1 ⊢
       omega
      by_cases he : oJ x.m y.m = 0
      ·refine sr ?_
       refine aW (ae (ah (cT (ak (ai (ah (ao (sr ?_))))))))
       refine aQ (k := j) aF.out aA.size rfl rfl (by omega) (by omega) (by decide) ?_
       refine bR (vs := [_, _, _, _]) aA.out rfl ((hr2.ext hh.below).recAt TR.len hy) rfl (by decide) ?_
       refine cj hh ?_
       intro b10 w10 hh
       refine bD hh 0 [_,_,_,_] ?_
       intro ws hh
       replace hh : Hp _ (.blk _ _ [_, _, _, _] _ :: _) _ := hh
       refine ae (sr (bB ?_))
       refine bE hh 2 ?_
       refine bB ?_
       refine bE hh 0 ?_
       refine bA hh (hmul _) rfl ?_
       intro w41 hh
       refine mT ?_
       refine dx ?_
       refine dx ?_
       refine aS (aI (ae (ah (sr (mI ?_)))))
       refine cQ (ae (cF (ak (ai (aq (mL (mS (bB ?_))))))))
       refine cB hh 2 [_,_,_] (bB ?_)
       refine cB hh 0 [_,_,_] ?_
       refine bO hh (cs := [_, _, _, _, _, _]) aF.out aA.out (br (ez rfl) (br (ez rfl) ct)) rfl rfl (by decide) (by decide) (by decide) rfl (by decide) ?_
       intro b54 w54 hh
       refine bA hh (hdm _ _ _ (hT.hp hh) (hh.aJ (i := 0) rfl)) rfl ?_
       intro w55 hh
       refine eH [_,_,_,_] ?_
       refine bO hh (cs := [_, _, _, _]) aF.out aA.out (br (ez rfl) ct) rfl rfl (by decide) (by decide) (by decide) rfl (by decide) ?_
       intro b57 w57 hh
       refine bG hh (i := 3) rfl rfl rfl (hh.aJ (i := 0) rfl) aF.out aA.out rfl (by decide) (by first | rfl | exact bQ _ | exact bF _ | exact oneCells_i64s _ | exact bf NR.one _) (by omega) (by omega) (by decide) ?_
       intro A58 c58 w58 hh
       simp only [List.set_cons_zero, List.set_cons_succ] at hh
       replace hh := hh.sub (List.sublist_cons_self _ _)
       refine aL (aC (aT (ai (aq ?_))))
       refine bL (mI (aC (ai ?_)))
       have e1 : aP TR.cells N ++ [.string (mulM x.m y.m), .bool (nR (x.c.d * y.c.d)).neg, .string (nR (x.c.d * y.c.d)).bu, .int .i64 (nR (x.c.d * y.c.d)).e] = aP TR.cells (N ++ [rl x y]) := by rw [bS, gk]; rfl
       replace hh := show Hp w (_ :: _ :: .row A58 (N.length + 1) c58 55 4 (aP TR.cells N ++ [.string (mulM x.m y.m), .bool (nR (x.c.d * y.c.d)).neg, .string (nR (x.c.d * y.c.d)).bu, .int .i64 (nR (x.c.d * y.c.d)).e]) :: _) w58 from hh
       rw [e1] at hh
       replace hh := hh.sub (List.Sublist.cons _ (List.Sublist.cons _ (List.Sublist.cons_cons _ (List.Sublist.cons_cons _ (List.Sublist.cons_cons _ (List.Sublist.cons_cons _ (List.Sublist.cons_cons _ List.Sublist.slnil)))))))
       refine ⟨⟨j + 1, N ++ [rl x y], _, _, by omega, rfl, by rw [List.length_append]; rfl, by rw [hN, aN hy, List.map_append, List.append_assoc]; rfl, fun e h => ?_, ?_⟩, by show qn - (j + 1) < qn - j; omega, ?_⟩
       ·rw [aN hy, List.map_append, List.mem_append] at h
        rcases h with h | h
        ·exact hz2 e h
        ·rw [List.mem_singleton.1 h]; exact he
       ·rw [List.length_append]; exact hh
       ·(repeat (first | exact aw _ _ _ | refine ax rfl ?_ | refine au rfl ?_))
      ·rw [zW hbig hR hzz he]
       generalize oJ x.m y.m = e at *
       refine sr ?_
       refine aW (ae (ah (cT (ak (ai (ah (ao (sr ?_))))))))
       refine aQ (k := j) aF.out aA.size rfl rfl (by omega) (by omega) (by decide) ?_
       refine bR (vs := [_, _, _, _]) aA.out rfl ((hr2.ext hh.below).recAt TR.len hy) rfl (by decide) ?_
       refine cj hh ?_
       intro b10 w10 hh
       refine bD hh 0 [_,_,_,_] ?_
       intro ws hh
       replace hh : Hp _ (.blk _ _ [_, _, _, _] _ :: _) _ := hh
       refine ae (sr (bB ?_))
       refine bE hh 2 ?_
       refine bB ?_
       refine bE hh 0 ?_
       refine bA hh (hmul _) rfl ?_
       intro w41 hh
       refine mT ?_
       refine dx ?_
       refine dx ?_
       refine aS (aI (ae (ah (sr (mI ?_)))))
       refine cQ (ae (cT (sr ?_)))
       refine eH [_,_] (mI ?_)
       refine bD hh 3 [_,_] ?_
       intro ws hh
       replace hh : Hp _ (_ :: _ :: _ :: .blk _ _ [_, _] _ :: _) _ := hh
       refine aI (ae (al (aD (bP (aD (aD (bP (bP (aD (aD (bP ?_)))))))))))
       refine aD ?_
       refine iV (aH rfl (aG (vs := [_, _]) aA.out (hh.av (i := 3) (n := 2) rfl rfl) rfl) (cb (cv rfl) a9)) ?_
       exact ⟨PX.nil, cZ.err he, rfl, (hh.sub (List.nil_sublist _)).iW⟩
     ·obtain rfl : j = qn := by omega
      rw [List.take_of_length_le (by omega)] at hz2 hN
      refine sr ?_
      refine aW (ae (ah (cF ?_)))
      refine aO ?_
      refine ay (ay (a8 (aT (ai (aq ?_)))))
      refine bL (mI (aC (ai ?_)))
      replace hh := hh.sub (List.Sublist.cons_cons _ (List.Sublist.cons _ (List.Sublist.cons_cons _ (List.Sublist.cons_cons _ (List.Sublist.cons_cons _ List.Sublist.slnil)))))
      refine ⟨⟨i + 1, N, A2, c2, by omega, rfl, rfl, by rw [me hx, ← hM, List.take_of_length_le (by omega)]; exact hN, fun e h => ?_, hh⟩, by show pn - (i + 1) < pn - i; omega, ?_⟩
      ·rw [me (f := fun (x y : TR) => oJ x.m y.m) hx, List.mem_append, List.take_length] at h
       rcases h with h | h
       ·exact hz e h
       ·exact hz2 e h
      ·(repeat (first | exact aw _ _ _ | refine ax rfl ?_ | refine au rfl ?_))
   ·obtain rfl : i = pn := by omega
    rw [List.take_of_length_le (by omega)] at hz hM
    have hMp : M = cW ps qs := hM
    rw [yQ hbig hz, ← hMp]
    have hpo := pd okp okq (by omega)
    rw [← hMp] at hpo
    refine sr ?_
    refine aW (ae (ah (cF ?_)))
    refine aO ?_
    refine ay (ay (a8 (ai (sr (bB ?_)))))
    refine bE hh 3 ?_
    refine mL ?_
    refine aR (j6 pv A' M.length c' M (k + k2) _ hT hh rfl (by omega) (by omega) hpo) ar.out rfl (by decide) ?_
    rintro e_ w64 ⟨g, og, rfl, hh⟩
    refine ⟨_, rfl, ?_⟩
    refine dx ?_
    refine dx ?_
    refine bD hh 1 [_,_] ?_
    intro ws hh
    replace hh : Hp _ (_ :: .blk _ _ [_, _] _ :: _) _ := hh
    refine aI (ae (al ?_))
    refine iV (aH rfl (aG (vs := [_, _]) aA.out (hh.av (i := 1) (n := 2) rfl rfl) rfl) (cb (cv rfl) a9)) ?_
    exact ⟨g, og, rfl, hh.sub (List.Sublist.cons_cons _ (List.nil_sublist _))⟩
end Go.Proofs.YtaapkaefelhfcaaGreatDoor
/- The walk through poly.Mul. -/
namespace Go.Proofs.YtaapkaefelhfcaaGreatDoor
open Go.RowKit
def iq (base : Nat) (E v : Int) (ts : List TR) : VP := fun x W => ∃ (g : PX) (w1 : World), x = .agg #[.int .i64 g.v, .slice g.A g.n g.c] ∧ cZ E v ts g ∧ base ≤ w1.heap.size ∧ Hp w1 [g.row] W
theorem iq.ext {base : Nat} {E v : Int} {ts : List TR} (x : Value) (w w' : World) (h : iq base E v ts x w) (hb : Below w.heap.size w w') : iq base E v ts x w' := let ⟨g, w1, h1, h2, h3, h4⟩ := h; ⟨g, w1, h1, h2, h3, h4.ext hb⟩
def ix (base : Nat) (E v : Int) (ts : List TR) : VP := fun x W => ∃ (g : PX) (w1 : World), x = .tuple #[.agg #[.int .i64 g.v, .slice g.A g.n g.c], .int .i64 E] ∧ cZ E v ts g ∧ base ≤ w1.heap.size ∧ Hp w1 [g.row] W
theorem ix.ext {base : Nat} {E v : Int} {ts : List TR} (x : Value) (w w' : World) (h : ix base E v ts x w) (hb : Below w.heap.size w w') : ix base E v ts x w' := let ⟨g, w1, h1, h2, h3, h4⟩ := h; ⟨g, w1, h1, h2, h3, h4.ext hb⟩
def rR (base : Nat) (v : Int) (ts : List TR) : VP := fun x W => ∃ (g : PX) (w1 : World), x = .slice g.A g.n g.c ∧ cZ 0 v ts g ∧ base ≤ w1.heap.size ∧ Hp w1 [g.row] W
theorem rR.ext {base : Nat} {v : Int} {ts : List TR} (x : Value) (w w' : World) (h : rR base v ts x w) (hb : Below w.heap.size w w') : rR base v ts x w' := let ⟨g, w1, h1, h2, h3, h4⟩ := h; ⟨g, w1, h1, h2, h3, h4.ext hb⟩
theorem PX.ne {g : PX} {w1 W : World} {b : Nat} {t : TypeId} {cs : Array Value} {fz : Nat × Nat} (h : Hp w1 [g.row] W) (h3 : W.heap[b]? = some (.cells cs t fz)) (h1 : 55 ≠ t) : ∀ x ∈ [g.row], x.id ≠ some b := fun x hx => by
 have hx2 := h.own x hx
 obtain rfl := List.mem_singleton.1 hx
 exact Bv hx2 h3 h1
def gJ (a : List TR × Int) (g : PX) : List TR × Int := if a.2 = 0 then (aZ (cW a.1 g.ts), fo a.1 g.ts) else a
def BO (ps : List PX) : List TR × Int := match ps with | [] => ([], 0) | g :: l => l.foldl gJ (g.ts, 0)
def vY (ps : List PX) : Int := if gp ps = 0 then (BO ps).2 else gp ps
theorem rZ {a : List TR × Int} (h : a.2 ≠ 0) : ∀ l : List PX, l.foldl gJ a = a
 | [] => rfl
 | g :: l => by
  rw [List.foldl_cons, show gJ a g = a by unfold gJ; rw [if_neg h]]
  exact rZ h l
theorem wF {l : List PX} {a : List TR × Int} {i : Nat} {g : PX} (hx : l[i]? = some g) (h0 : ((l.take i).foldl gJ a).2 = 0) (h : fo ((l.take i).foldl gJ a).1 g.ts ≠ 0) : (l.foldl gJ a).2 = fo ((l.take i).foldl gJ a).1 g.ts := by
 have e : l = l.take i ++ g :: l.drop (i + 1) := by rw [← iG hx, List.take_append_drop]
 have e2 : l.foldl gJ a = (l.drop (i + 1)).foldl gJ (gJ ((l.take i).foldl gJ a) g) := by
  conv => lhs; rw [e]
  rw [List.foldl_append, List.foldl_cons]
 rw [e2]
 have e3 : gJ ((l.take i).foldl gJ a) g = (aZ (cW ((l.take i).foldl gJ a).1 g.ts), fo ((l.take i).foldl gJ a).1 g.ts) := if_pos h0
 rw [e3, rZ h]
theorem xi {l : List PX} {a : List TR × Int} {i : Nat} {g : PX} (hx : l[i]? = some g) (h0 : ((l.take i).foldl gJ a).2 = 0) : (l.take (i + 1)).foldl gJ a = (aZ (cW ((l.take i).foldl gJ a).1 g.ts), fo ((l.take i).foldl gJ a).1 g.ts) := by
 rw [aN hx, List.foldl_append, List.foldl_cons, List.foldl_nil]
 exact if_pos h0
theorem vE {p q : List TR} {k j : Nat} (hp : fT k p) (hq : fT j q) (sq : ∀ t ∈ q, t.m.size ≤ 100000) (h : fo p q = 0) (hk : k + j ≤ 900000) : fT (k + j + 65536) (aZ (cW p q)) ∧ ∀ t ∈ aZ (cW p q), t.m.size ≤ 100000 := by
 obtain ⟨h6, _, h4⟩ := nt h
 have ho := pd hp hq (by omega)
 have hz := kD fun t ht => (ho t ht).2
 rw [mb] at hz
 refine ⟨fun t ht => ?_, fun t ht => ?_⟩
 ·have : Sz (k + j + 65536) t.c.d := (hz t ht).mono (by omega)
  refine ⟨?_, this⟩
  rw [(eJ _).nf t ht]
  exact this.ok (by omega)
 ·obtain ⟨s, hs, e⟩ := jG t ht
  obtain ⟨x, hx, hs⟩ := List.mem_flatMap.1 hs
  obtain ⟨y, hy, rfl⟩ := List.mem_map.1 hs
  rw [← e]
  exact Nat.le_trans (wR _ _) (sq y hy)
theorem tq (L : Option Addr) (n c : Nat) (ps : List PX) (k s : Nat) (w : World) (hT : gW w) (hL : Sl w L n 2 (aP PX.cells ps)) (hcn : n ≤ c) (hn : n ≤ 8) (hf : ∀ g ∈ ps, g.at_ w) (hl : ∀ g ∈ ps, g.lk k) (hs : k + 65536 ≤ s) (hk : k + k + (n - 2) * s ≤ 900000) :
  Calls Tryz.prog 31 #[.slice L n c] w fun r w' => ∃ g : PX, cZ (vY ps) (jj ps) (BO ps).1 g ∧ r = .returned (.tuple #[.agg #[.int .i64 g.v, .slice g.A g.n g.c], .int .i64 (vY ps)]) ∧ Hp w [g.row] w' := by
 have hh := Hp.start w
 have hln := hL.cx PX.len (by decide)
 have hlk := fun w1 hT1 hb => mV L n c ps k w1 hT1 (hL.ext hb) (by omega) (fun g hg => (hf g hg).ext hb) hl
 unfold vY
 by_cases h0 : gp ps = 0
 ·rw [if_pos h0]
  rw [h0] at hlk
  obtain ⟨hne, hev, hvv⟩ := rq h0
  obtain ⟨g0, pt, rfl⟩ := List.exists_cons_of_ne_nil hne
  rw [sB (g := g0) rfl]
  have hnp : pt.length + 1 = n := hln
  obtain ⟨ad, rfl, hr⟩ := hL.at_ (by omega)
  have hm0 : g0 ∈ g0 :: pt := List.mem_cons_self
  have hg0 := hl g0 hm0
  have h00 : (g0 :: pt)[0]? = some g0 := rfl
  show Calls _ _ _ _ fun r w' => ∃ g : PX, cZ (pt.foldl gJ (g0.ts, 0)).2 g0.v (pt.foldl gJ (g0.ts, 0)).1 g ∧ r = .returned (.tuple #[.agg #[.int .i64 g.v, .slice g.A g.n g.c], .int .i64 (pt.foldl gJ (g0.ts, 0)).2]) ∧ Hp w [g.row] w'
  refine aj (N := 46) (l := [.slice (some ad) n c]) Tryz.func31 rfl rfl (by simp) ?_
  refine sr ?_
  refine cj hh ?_
  intro b2 w2 hh
  refine aI (ae (ah (sr (mL ?_))))
  refine bA hh (hlk _ (hT.hp hh) hh.below) rfl ?_
  intro w11 hh
  refine aI (ae (sr (mI ?_)))
  refine cQ (ae (cF (ak (ai (ah ?_)))))
  refine aU 11 [[(0, none)], [(16, some 0)], [(17, some 1)], [(18, some 2)], [(0, none)], [(20, some 4)], [(21, some 5)], [(22, some 6)], [(23, some 7)], [(19, some 3), (24, some 8)], []] [(10, 5), (9, 25), (8, 24), (7, 23), (6, 22), (5, 21), (4, 20), (3, 19), (2, 18), (1, 17), (0, 16)] hh mixed (by kernel_rfl) ?_
  refine fX ?_
  refine jN (0) ?_
  refine lT ?_
  refine jq (fun _ hj => dz hj.hp.below ((hr.recAt PX.len h00) 0 _ rfl)) ?_
  refine fX ?_
  refine jN (0) ?_
  refine lT ?_
  refine jq (fun _ hj => dz hj.hp.below ((hr.recAt PX.len h00) 1 _ rfl)) ?_
  refine bk (i := 8) (rR w11.heap.size g0.v g0.ts) (rR.ext) ?_ ?_
  ·intro ρ1 w1 hj hR
   exact bU rfl (a3 ar.out (az (show ρ1 23 = Value.slice _ _ _ from hR.1) a7)) (lI g0.A g0.n g0.c g0.ts w1 ((hf g0 hm0).ext hj.hp.below) hg0.n) (fun _ _ ⟨A, c, hq, ho, hb⟩ => ⟨_, hq, hb, ⟨g0.v, A, g0.n, c, g0.ts⟩, w1, rfl, ⟨rfl, rfl⟩, hj.bl.size, (Hp.start w1).bh (x := .row _ _ _ _ _ _) hb ho⟩)
  refine bk (i := 9) (iq w11.heap.size 0 g0.v g0.ts) (iq.ext) ?_ ?_
  ·intro ρ1 w1 hj hR
   exact let ⟨g, u, e, o, q, h⟩ := hR.2.1; bY rfl (rB (cs := [_, _]) aA.out jg.out (br (show ρ1 19 = Value.int _ _ from hR.1) (br e ct)) rfl) ⟨Below.refl _ _, g, u, by rw [show g.v = g0.v from o.v], o, q, h⟩
  refine bk (i := 10) (cH _ 24 _) cH.ext (fun ρ1 w1 hj hR => fq aA.out hj.bl (fun v w2 h hb => ⟨hb, h⟩)) ?_
  refine a6 ?_
  intro f W hJ hV
  have hb_4 := hJ.bl
  obtain ⟨v5, v25, v24, v23, v22, v21, v20, v19, v18, v17, v16, _⟩ := hV
  obtain ⟨g24, u24, e24, -⟩ := v24
  obtain ⟨g25, u25, e25, o25, q25, h25⟩ := v25
  obtain ⟨b5, e5, hl5, hc5⟩ : cH _ _ _ (f 10) W := v5
  replace hh := hJ.mq hh hl5 hc5 q25 h25 (PX.ne h25 hc5 (by decide))
  refine aK (a4 (aa e5 (aa e25 (aa e24 (aa v23 (aa v22 (aa v21 (aa v20 (aa v19 (aa v18 (aa v17 (aa v16 aM)))))))))))) ?_
  dsimp only [bX]
  clear e24 e25 e5 hJ
  simp only [List.cons_append, List.nil_append] at hh
  obtain ⟨gv, gA, gn, gc, gts⟩ := g25
  obtain rfl : g0.v = gv := o25.v.symm
  obtain rfl : g0.ts = gts := o25.ts.symm
  replace hh := show Hp w (_ :: .row gA gn gc 55 4 (aP TR.cells g0.ts) :: _) W from hh
  have hgn : g0.ts.length = gn := (hh.aJ (i := 1) rfl).cx TR.len (by decide)
  have hgc : gn ≤ gc := hh.jK (i := 1) rfl
  refine bD hh 0 [_,_] ?_
  intro ws hh
  replace hh : Hp _ (.blk _ _ [_, _] _ :: _) _ := hh
  refine ae (ah (sr (mL ?_)))
  refine a5 rfl rfl (by decide) (gd aF.out aA.size rfl rfl (l := 1) rfl (by omega) (by omega)) ?_
  refine a0 (mI (ae (ao ?_)))
  replace hh := hh.perm (List.perm_middle (l₁ := [_]))
  simp only [List.cons_append, List.nil_append] at hh
  refine bs [3, 7, 8, 9, 29, 30, 31, 32, 33, 34, 35, 36, 37, 38, 39, 40, 41, 42, 43, 44] 29
   (fun v w' => ∃ (i : Nat) (g : PX), i ≤ n - 1 ∧ v = .int .i64 i ∧ ((pt.take i).foldl gJ (g0.ts, 0)).2 = 0 ∧ g.v = g0.v ∧ g.ts = ((pt.take i).foldl gJ (g0.ts, 0)).1 ∧ g.lk (k + i * s) ∧ Hp w [.row g.A g.n g.c 55 4 (aP TR.cells g.ts), .blk b5 24 [.int .i64 g.v, .slice g.A g.n g.c] (0, 0), .blk b2 24 [.int .i64 0, .slice none 0 0] (0, 0)] w')
   (fun v _ => n - 1 - (intOf v).toNat) ?_ ?_
  ·exact ⟨0, ⟨g0.v, gA, gn, gc, g0.ts⟩, Nat.zero_le _, rfl, rfl, rfl, rfl, ⟨by show gn ≤ 1000000; have := hg0.n; have h9 := (hf g0 hm0).ln; omega, hgc, hg0.ok.mono (by rw [Nat.zero_mul]; omega), hg0.sz⟩, hh⟩
  ·clear hh
   rintro ρ' v w' ⟨i, g, hi, rfl, hz, hgv, hts, hgl, hh⟩
   by_cases hlt : i < n - 1
   ·obtain ⟨f, hx⟩ := aE (l := pt) (k := i) (by omega)
    have hmem : f ∈ g0 :: pt := List.mem_cons_of_mem _ (List.mem_of_getElem? hx)
    have his : i * s ≤ (n - 2) * s := Nat.mul_le_mul_right _ (by omega)
    have his1 := Nat.succ_mul i s
    have hbk : Sl w (if c = 1 then some ad else (some ad : Option Addr).map (·.add (1 * 2))) (n - 1) 2 (aP PX.cells pt) := hL.back (by omega) hcn
    obtain ⟨ab, hAb, sb⟩ := hbk.at_ (by omega)
    have hev : Value.slice (if c = 1 then some ad else (some ad : Option Addr).map (·.add (1 * 2))) (n - 1) (c - 1) = .slice (some ab) (n - 1) (c - 1) := by rw [hAb]
    have hfl := hl f hmem
    have hnx := xi (a := (g0.ts, 0)) hx hz
    have hsp := wF (a := (g0.ts, 0)) hx hz
    rw [← hts] at hnx hsp
    refine sr ?_
    refine aW (ae (ah (cT (ak (ai (ah (ao (sr ?_))))))))
    refine aQ (k := i) aF.out aA.size hev rfl (by omega) (by omega) (by decide) ?_
    refine bR (vs := [_, _]) aA.out rfl (show Rd _ _ [.int .i64 f.v, .slice f.A f.n f.c] from (sb.ext hh.below).recAt PX.len hx) rfl (by decide) ?_
    refine cj hh ?_
    intro b7 w7 hh
    refine bD hh 0 [_,_] ?_
    intro ws hh
    replace hh : Hp _ (.blk _ _ [_, _] _ :: _) _ := hh
    refine ae (sr ?_)
    refine cB hh 2 [_,_] ?_
    refine cB hh 0 [_,_] ?_
    refine aR (rA g f (k + i * s) k _ (hT.hp hh) (hh.aJ (i := 1) rfl) ((hf f hmem).ext hh.below) hgl hfl (by omega)) ar.out rfl (by decide) ?_
    rintro e_ w36 ⟨h, oh, rfl, h3⟩
    refine ⟨_, rfl, ?_⟩
    replace hh := hh.join h3
    simp only [List.cons_append, List.nil_append] at hh
    by_cases he : fo g.ts f.ts = 0
    ·obtain ⟨hv, hA, hn2, hc2, hts2⟩ := h
     rw [he] at oh
     obtain rfl : g.v = hv := oh.v.symm
     obtain rfl : aZ (cW g.ts f.ts) = hts2 := oh.ts.symm
     replace hh := show Hp w (.row hA hn2 hc2 55 4 (aP TR.cells (aZ (cW g.ts f.ts))) :: _) w36 from hh
     have hhn : (aZ (cW g.ts f.ts)).length = hn2 := (hh.aJ (i := 0) rfl).cx TR.len (by decide)
     have hhc : hn2 ≤ hc2 := hh.jK (i := 0) rfl
     have h4 := (nt he).2.2
     have htl := vE hgl.ok hfl.ok hfl.sz he (by omega)
     refine mT ?_
     refine dx ?_
     refine dx ?_
     refine cj hh ?_
     intro b8 w8 hh
     refine bD hh 0 [_,_] ?_
     intro ws hh
     replace hh : Hp _ (.blk _ _ [_, _] _ :: _) _ := hh
     refine aI (ae (ah (sr (mI ?_))))
     refine cQ (ae (cF (ak (ai (aq ?_)))))
     refine cB hh 0 [_,_] ?_
     refine bD hh 4 [_,_] ?_
     intro ws hh
     replace hh : Hp _ (_ :: _ :: _ :: _ :: .blk _ _ [_, _] _ :: _) _ := hh
     refine aC (aT (ai (aq ?_)))
     refine bL (mI (aC (ai ?_)))
     replace hh := hh.sub (List.Sublist.cons _ (List.Sublist.cons_cons _ (List.Sublist.cons _ (List.Sublist.cons _ (List.Sublist.cons_cons _ (List.Sublist.cons_cons _ List.Sublist.slnil))))))
     refine ⟨⟨i + 1, ⟨g.v, hA, hn2, hc2, aZ (cW g.ts f.ts)⟩, by omega, rfl, by rw [hnx]; exact he, hgv, by rw [hnx], ⟨by show hn2 ≤ 1000000; omega, hhc, htl.1.mono (by rw [Nat.succ_mul]; omega), htl.2⟩, hh⟩, by show n - 1 - (i + 1) < n - 1 - i; omega, ?_⟩
     (repeat (first | exact aw _ _ _ | refine ax rfl ?_ | refine au rfl ?_))
    ·rw [hsp he]
     refine mT ?_
     refine dx ?_
     refine dx ?_
     refine cj hh ?_
     intro b8 w8 hh
     refine bD hh 0 [_,_] ?_
     intro ws hh
     replace hh : Hp _ (.blk _ _ [_, _] _ :: _) _ := hh
     refine aI (ae (ah (sr (mI ?_))))
     refine cQ (ae (cT (sr ?_)))
     refine eH [_,_] (mI ?_)
     refine bD hh 5 [_,_] ?_
     intro ws hh
     replace hh : Hp _ (_ :: _ :: _ :: _ :: _ :: .blk _ _ [_, _] _ :: _) _ := hh
     refine aI (ae (al (aD (bP (aD (aD (bP (aD ?_))))))))
     refine iV (aH rfl (aG (vs := [_, _]) aA.out (hh.av (i := 5) (n := 2) rfl rfl) rfl) (cb (cv rfl) a9)) ?_
     exact ⟨PX.nil, cZ.err he, rfl, (hh.sub (List.nil_sublist _)).iW⟩
   ·obtain rfl : i = n - 1 := by omega
    rw [List.take_of_length_le (by omega)] at hz hts
    refine sr ?_
    refine aW (ae (ah (cF ?_)))
    refine aO ?_
    refine ay (ay (a8 (ai (sr ?_))))
    refine cB hh 1 [_,_] ?_
    refine bD hh 2 [_,_] ?_
    intro ws hh
    replace hh : Hp _ (_ :: _ :: .blk _ _ [_, _] _ :: _) _ := hh
    refine aI (ae (al ?_))
    refine iV (aH rfl (aG (vs := [_, _]) aA.out (hh.av (i := 2) (n := 2) rfl rfl) rfl) (cb (cv rfl) a9)) ?_
    rw [hz]
    exact ⟨g, ⟨hgv, hts⟩, rfl, hh.sub (List.Sublist.cons_cons _ (List.nil_sublist _))⟩
 ·rw [if_neg h0]
  generalize gp ps = e at *
  refine aj (N := 46) (l := [.slice L n c]) Tryz.func31 rfl rfl (by simp) ?_
  refine sr ?_
  refine cj hh ?_
  intro b2 w2 hh
  refine aI (ae (ah (sr (mL ?_))))
  refine bA hh (hlk _ (hT.hp hh) hh.below) rfl ?_
  intro w11 hh
  refine aI (ae (sr (mI ?_)))
  refine cQ (ae (cT (sr ?_)))
  refine eH [_,_] (mI ?_)
  refine bD hh 0 [_,_] ?_
  intro ws hh
  replace hh : Hp _ (.blk _ _ [_, _] _ :: _) _ := hh
  refine aI (ae (al (aD ?_)))
  refine iV (aH rfl (aG (vs := [_, _]) aA.out (hh.av (i := 0) (n := 2) rfl rfl) rfl) (cb (cv rfl) a9)) ?_
  exact ⟨PX.nil, cZ.err h0, rfl, (hh.sub (List.nil_sublist _)).iW⟩
end Go.Proofs.YtaapkaefelhfcaaGreatDoor
/- The walks through the document's answer's products of powers. -/
namespace Go.Proofs.YtaapkaefelhfcaaGreatDoor
open Go.RowKit
end Go.Proofs.YtaapkaefelhfcaaGreatDoor
/- The walk through ogeeref08.Check. -/
namespace Go.Proofs.YtaapkaefelhfcaaGreatDoor
open Go.RowKit
theorem pE (v : Int) (A : Option Addr) (n c : Nat) (ts : List TR) (w : World) (hS : Sl w A n 4 (aP TR.cells ts)) (hn : n ≤ 1000000) (ho : ∀ t ∈ ts, t.c.ok ∧ t.m.size ≤ 100000) :
  Calls Tryz.prog 87 #[.agg #[.int .i64 v, .slice A n c]] w fun r w' => r = .returned (.int .i64 (fy v ts)) ∧ Below w.heap.size w w' := by
 have hh := Hp.start w
 have hln := hS.cx TR.len (by decide)
 cases hf : gl v with
 | false =>
  have hbv : ¬ (0 ≤ v ∧ v ≤ 12) := fun h => by rw [eB.2 h] at hf; cases hf
  rw [show fy v ts = 1 by unfold fy; rw [if_pos hf]]
  by_cases h0 : v < 0
  ·refine aj (N := 63) (l := [.agg #[.int .i64 v, .slice A n c]]) Tryz.func87 rfl rfl (by simp) ?_
   refine sr ?_
   refine cz hh [_,_] ?_
   intro b1 w1 hh
   refine aI (ae (ah (sr (bB ?_))))
   refine bE hh 0 ?_
   refine aW (mB ?_)
   first | refine gS ?_ | (refine gT ?_; refine bB ?_) | refine gV ?_
   first | refine gS ?_ | (refine gT ?_; refine bE hh 0 ?_) | refine gV ?_
   first | refine gS ?_ | (refine gT ?_; refine ck ?_) | refine gV ?_
   first | refine cS ?_ | refine cU ?_
   refine ae (cT (sr (aI (ae (al (aD ?_))))))
   refine cn ?_
   exact ⟨rfl, hh.below⟩
  ·refine aj (N := 63) (l := [.agg #[.int .i64 v, .slice A n c]]) Tryz.func87 rfl rfl (by simp) ?_
   refine sr ?_
   refine cz hh [_,_] ?_
   intro b1 w1 hh
   refine aI (ae (ah (sr (bB ?_))))
   refine bE hh 0 ?_
   refine aW (mB ?_)
   first | refine gS ?_ | (refine gT ?_; refine bB ?_) | refine gV ?_
   first | refine gS ?_ | (refine gT ?_; refine bE hh 0 ?_) | refine gV ?_
   first | refine gS ?_ | (refine gT ?_; refine ck ?_) | refine gV ?_
   first | refine cS ?_ | refine cU ?_
   refine ae (cT (sr (aI (ae (al (aD ?_))))))
   refine cn ?_
   exact ⟨rfl, hh.below⟩
 | true =>
  obtain ⟨hv0, hv12⟩ := eB.1 hf
  by_cases h4 : 4096 < n
  ·rw [show fy v ts = 3 by unfold fy; rw [if_neg (by rw [hf]; decide), if_pos (by omega)]]
   refine aj (N := 63) (l := [.agg #[.int .i64 v, .slice A n c]]) Tryz.func87 rfl rfl (by simp) ?_
   refine sr ?_
   refine cz hh [_,_] ?_
   intro b1 w1 hh
   refine aI (ae (ah (sr (bB ?_))))
   refine bE hh 0 ?_
   refine aW (mB ?_)
   first | refine gS ?_ | (refine gT ?_; refine bB ?_) | refine gV ?_
   first | refine gS ?_ | (refine gT ?_; refine bE hh 0 ?_) | refine gV ?_
   first | refine gS ?_ | (refine gT ?_; refine ck ?_) | refine gV ?_
   first | refine cS ?_ | refine cU ?_
   refine ae (cF (ak (ai (ah (sr (bB ?_))))))
   refine bE hh 0 ?_
   refine a0 ?_
   refine ck (ae (cT (sr (aI (ae (al (aD ?_)))))))
   refine cn ?_
   exact ⟨rfl, hh.below⟩
  ·have hbad := fun h => sG (v := v) (ts := ts) hf (by omega) h
   refine aj (N := 63) (l := [.agg #[.int .i64 v, .slice A n c]]) Tryz.func87 rfl rfl (by simp) ?_
   refine sr ?_
   refine cz hh [_,_] ?_
   intro b1 w1 hh
   refine aI (ae (ah (sr (bB ?_))))
   refine bE hh 0 ?_
   refine aW (mB ?_)
   first | refine gS ?_ | (refine gT ?_; refine bB ?_) | refine gV ?_
   first | refine gS ?_ | (refine gT ?_; refine bE hh 0 ?_) | refine gV ?_
   first | refine gS ?_ | (refine gT ?_; refine ck ?_) | refine gV ?_
   first | refine cS ?_ | refine cU ?_
   refine ae (cF (ak (ai (ah (sr (bB ?_))))))
   refine bE hh 0 ?_
   refine a0 ?_
   refine ck (ae (cF (ak (ai (ah (sr (aI (ae (ao ?_)))))))))
   refine bs [2, 3, 4, 17, 18, 19, 20, 21, 22, 23, 24, 25, 26, 27, 28, 29, 30, 31, 32, 33, 34, 35, 36, 37, 38, 39, 40, 41, 42, 43, 44, 45, 46, 47, 48, 49, 50, 51, 52, 53, 54, 55, 56, 57, 58, 59, 60, 61, 62] 3
    (fun x w' => ∃ i : Nat, i ≤ n ∧ x = .int .i64 i ∧ (ts.take i).all (gO v) = true ∧ kQ (ts.take i) = true ∧ Hp w [.blk b1 24 [.int .i64 v, .slice A n c] (0, 0)] w')
    (fun x _ => n - (intOf x).toNat) ?_ ?_
   ·exact ⟨0, Nat.zero_le _, rfl, rfl, rfl, hh⟩
   ·clear hh
    rintro ρ' x_ w' ⟨i, hi, rfl, hall, hris, hh⟩
    by_cases hlt : i < n
    ·obtain ⟨x, hx⟩ := aE (l := ts) (k := i) (by omega)
     obtain ⟨ad, rfl, hr⟩ := hS.at_ (by omega)
     obtain ⟨hxo, hxm⟩ := ho x (List.mem_of_getElem? hx)
     have hmay := fun w1 => ua x.m v w1 (by omega)
     have hsg := fun w1 => eg x.c w1 (by have := hxo.1; omega)
     have hfo := fun w1 => dO x.c w1 (by have := hxo.1; omega) (by have := hxo.2.1; omega) (by have := hxo.2.2; omega)
     have hzz : x.c.i.sign = 0 ↔ x.c.d = 0 := by
      rw [Int.sign_eq_zero_iff_zero]
      exact ⟨fun h => by unfold NR.d; rw [h]; rfl, gN⟩
     cases hm : ef x.m.data.toList && decide ((x.m.size : Int) = v) with
     | false =>
      rw [hm] at hmay
      rw [hbad (kh hx (by unfold gO; rw [hm]; rfl))]
      refine ah (sr (mI (bB ?_)))
      refine bE hh 0 ?_
      refine a0 ?_
      refine aW (ae (cT (ak (ai (ah (ao (sr (bB ?_))))))))
      refine bE hh 0 ?_
      refine mI ?_
      refine aQ (k := i) aF.out aA.size rfl rfl (by omega) (by omega) (by decide) ?_
      refine bR (vs := [_, _, _, _]) aA.out rfl ((hr.ext hh.below).recAt TR.len hx) rfl (by decide) ?_
      refine cj hh ?_
      intro b4 w4 hh
      refine bD hh 0 [_,_,_,_] ?_
      intro ws hh
      replace hh : Hp _ (.blk _ _ [_, _, _, _] _ :: _) _ := hh
      refine ae (ah (ah ?_))
      refine cg [] [] [0, 1, 0, 4, 15, 31, 63, 127, 255, 511, 1023, 2047, 4095, 8191, 16383, 32767, 8191, 73727, 262143, 524287] 18 [[(4, none)], [(29, some 0)], [(1, none)], [(31, some 2)], [(30, some 1), (32, some 3)], [(33, some 4)], [(34, some 5)], [(4, none), (35, some 6)], [(36, some 7), (35, some 6)], [(37, some 8), (35, some 6)], [(38, some 9), (35, some 6)], [(35, some 6), (39, some 10)], [(40, some 11)], [(4, none), (41, some 12)], [(42, some 13), (41, some 12)], [(43, some 14), (41, some 12)], [(4, none), (41, some 12)], [(45, some 16), (41, some 12)]] [(17, 46), (16, 45), (15, 44), (14, 43), (13, 42), (12, 41), (11, 40), (10, 39), (9, 38), (8, 37), (7, 36), (6, 35), (5, 34), (4, 33), (3, 32), (2, 31), (1, 30), (0, 29)] hh mixed (by kernel_rfl) cA rfl (by repeat (first | exact bW | refine bC ?_ | refine bV ?_)) ?_
      refine cw ?_
      refine dI 0 ?_
      refine cw ?_
      refine dI 1 ?_
      refine dC (fun _ hj => hmay _) ?_
      refine pz ?_
      refine gY ?_
      first | refine dS ?_ | refine dU ?_ | refine dG (cw ?_)
      first | refine dS ?_ | refine dU ?_ | refine dG (dZ 0 [_,_,_] ?_)
      first | refine dS ?_ | refine dU ?_
      first | refine dS ?_ | refine dU ?_ | refine dG (lZ ?_)
      first | refine n0 ?_ | refine oP ?_
      refine gY ?_
      first | refine dS ?_ | refine dU ?_ | refine dG (cw ?_)
      first | refine dS ?_ | refine dU ?_ | refine dG (dZ 0 [_,_,_] ?_)
      first | refine dS ?_ | refine dU ?_
      first | refine dS ?_ | refine dU ?_ | refine dG (cw ?_)
      first | refine dS ?_ | refine dU ?_ | refine dG (dZ 0 [_,_,_] ?_)
      refine a6 ?_
      intro f W hJ hV _
      have hb_9 := hJ.bl
      obtain ⟨v46, v45, v44, v43, v42, v41, v40, v39, v38, v37, v36, v35, v34, v33, v32, v31, v30, v29, _⟩ := hV
      replace hh := hJ.hp
      refine aK (a4 (aa v46 (aa v45 (aa v44 (aa v43 (aa v42 (aa v41 (aa v40 (aa v39 (aa v38 (aa v37 (aa v36 (aa v35 (aa v34 (aa v33 (aa v32 (aa v31 (aa v30 (aa v29 aM))))))))))))))))))) ?_
      dsimp only [bX]
      clear hJ
      first | refine gS ?_ | (refine gT ?_; (first | refine kq rfl rfl (by first | assumption | rfl) (by decide) ?_ | refine ki rfl rfl (by assumption) (by decide) ?_)) | refine gV ?_
      first | refine cS ?_ | refine cU ?_
      refine ae (cT (sr (aI (ae (al (aD (bP (aD (aD (bP (aD ?_)))))))))))
      refine cn ?_
      exact ⟨rfl, hh.below⟩
     | true =>
      rw [hm] at hmay
      by_cases hz : x.c.d = 0
      ·have hs := hzz.2 hz
       rw [hbad (kh hx (by unfold gO kt; rw [hm, decide_eq_true hz]; rfl))]
       refine ah (sr (mI (bB ?_)))
       refine bE hh 0 ?_
       refine a0 ?_
       refine aW (ae (cT (ak (ai (ah (ao (sr (bB ?_))))))))
       refine bE hh 0 ?_
       refine mI ?_
       refine aQ (k := i) aF.out aA.size rfl rfl (by omega) (by omega) (by decide) ?_
       refine bR (vs := [_, _, _, _]) aA.out rfl ((hr.ext hh.below).recAt TR.len hx) rfl (by decide) ?_
       refine cj hh ?_
       intro b4 w4 hh
       refine bD hh 0 [_,_,_,_] ?_
       intro ws hh
       replace hh : Hp _ (.blk _ _ [_, _, _, _] _ :: _) _ := hh
       refine ae (ah (ah ?_))
       refine cg [] [] [0, 1, 0, 4, 15, 31, 63, 127, 255, 511, 1023, 2047, 4095, 8191, 16383, 32767, 8191, 73727, 262143, 524287] 18 [[(4, none)], [(29, some 0)], [(1, none)], [(31, some 2)], [(30, some 1), (32, some 3)], [(33, some 4)], [(34, some 5)], [(4, none), (35, some 6)], [(36, some 7), (35, some 6)], [(37, some 8), (35, some 6)], [(38, some 9), (35, some 6)], [(35, some 6), (39, some 10)], [(40, some 11)], [(4, none), (41, some 12)], [(42, some 13), (41, some 12)], [(43, some 14), (41, some 12)], [(4, none), (41, some 12)], [(45, some 16), (41, some 12)]] [(17, 46), (16, 45), (15, 44), (14, 43), (13, 42), (12, 41), (11, 40), (10, 39), (9, 38), (8, 37), (7, 36), (6, 35), (5, 34), (4, 33), (3, 32), (2, 31), (1, 30), (0, 29)] hh mixed (by kernel_rfl) cA rfl (by repeat (first | exact bW | refine bC ?_ | refine bV ?_)) ?_
       refine cw ?_
       refine dI 0 ?_
       refine cw ?_
       refine dI 1 ?_
       refine dC (fun _ hj => hmay _) ?_
       refine pz ?_
       refine gY ?_
       first | refine dS ?_ | refine dU ?_ | refine dG (cw ?_)
       first | refine dS ?_ | refine dU ?_ | refine dG (dZ 0 [_,_,_] ?_)
       refine bK (i := 9) rfl (fun ρ1 w1 hj hR => (show ρ1 35 = Value.bool _ from hR.2.1)) (fun ρ1 w1 hj hR => a3 ar.out (az (show ρ1 37 = Value.agg (List.toArray _) from hR.1) a7)) (fun w1 hj => hsg _) ?_
       first | refine dS ?_ | refine dU ?_ | refine dG (lZ ?_)
       first | refine n0 ?_ | refine oP ?_
       refine gY ?_
       first | refine dS ?_ | refine dU ?_ | refine dG (cw ?_)
       first | refine dS ?_ | refine dU ?_ | refine dG (dZ 0 [_,_,_] ?_)
       first | refine dS ?_ | refine dU ?_
       first | refine dS ?_ | refine dU ?_ | refine dG (cw ?_)
       first | refine dS ?_ | refine dU ?_ | refine dG (dZ 0 [_,_,_] ?_)
       refine a6 ?_
       intro f W hJ hV _
       have hb_9 := hJ.bl
       obtain ⟨v46, v45, v44, v43, v42, v41, v40, v39, v38, v37, v36, v35, v34, v33, v32, v31, v30, v29, _⟩ := hV
       replace hh := hJ.hp
       refine aK (a4 (aa v46 (aa v45 (aa v44 (aa v43 (aa v42 (aa v41 (aa v40 (aa v39 (aa v38 (aa v37 (aa v36 (aa v35 (aa v34 (aa v33 (aa v32 (aa v31 (aa v30 (aa v29 aM))))))))))))))))))) ?_
       dsimp only [bX]
       clear hJ
       first | refine gS ?_ | (refine gT ?_; (first | refine kq rfl rfl (by first | assumption | rfl) (by decide) ?_ | refine ki rfl rfl (by assumption) (by decide) ?_)) | refine gV ?_
       first | refine cS ?_ | refine cU ?_
       refine ae (cT (sr (aI (ae (al (aD (bP (aD (aD (bP (aD ?_)))))))))))
       refine cn ?_
       exact ⟨rfl, hh.below⟩
      ·have hs : ¬ x.c.i.sign = 0 := fun h => hz (hzz.1 h)
       by_cases hnf : nR x.c.d = x.c
       ·have hgood : gO v x = true := by unfold gO kt; rw [hm, decide_eq_false hz, (kr x.c).2 hnf]; rfl
        have hall2 : (ts.take (i + 1)).all (gO v) = true := by rw [aN hx, List.all_append, hall]; simp [hgood]
        refine ah (sr (mI (bB ?_)))
        refine bE hh 0 ?_
        refine a0 ?_
        refine aW (ae (cT (ak (ai (ah (ao (sr (bB ?_))))))))
        refine bE hh 0 ?_
        refine mI ?_
        refine aQ (k := i) aF.out aA.size rfl rfl (by omega) (by omega) (by decide) ?_
        refine bR (vs := [_, _, _, _]) aA.out rfl ((hr.ext hh.below).recAt TR.len hx) rfl (by decide) ?_
        refine cj hh ?_
        intro b4 w4 hh
        refine bD hh 0 [_,_,_,_] ?_
        intro ws hh
        replace hh : Hp _ (.blk _ _ [_, _, _, _] _ :: _) _ := hh
        refine ae (ah (ah ?_))
        refine cg [] [] [0, 1, 0, 4, 15, 31, 63, 127, 255, 511, 1023, 2047, 4095, 8191, 16383, 32767, 8191, 73727, 262143, 524287] 18 [[(4, none)], [(29, some 0)], [(1, none)], [(31, some 2)], [(30, some 1), (32, some 3)], [(33, some 4)], [(34, some 5)], [(4, none), (35, some 6)], [(36, some 7), (35, some 6)], [(37, some 8), (35, some 6)], [(38, some 9), (35, some 6)], [(35, some 6), (39, some 10)], [(40, some 11)], [(4, none), (41, some 12)], [(42, some 13), (41, some 12)], [(43, some 14), (41, some 12)], [(4, none), (41, some 12)], [(45, some 16), (41, some 12)]] [(17, 46), (16, 45), (15, 44), (14, 43), (13, 42), (12, 41), (11, 40), (10, 39), (9, 38), (8, 37), (7, 36), (6, 35), (5, 34), (4, 33), (3, 32), (2, 31), (1, 30), (0, 29)] hh mixed (by kernel_rfl) cA rfl (by repeat (first | exact bW | refine bC ?_ | refine bV ?_)) ?_
        refine cw ?_
        refine dI 0 ?_
        refine cw ?_
        refine dI 1 ?_
        refine dC (fun _ hj => hmay _) ?_
        refine pz ?_
        refine gY ?_
        first | refine dS ?_ | refine dU ?_ | refine dG (cw ?_)
        first | refine dS ?_ | refine dU ?_ | refine dG (dZ 0 [_,_,_] ?_)
        refine bK (i := 9) rfl (fun ρ1 w1 hj hR => (show ρ1 35 = Value.bool _ from hR.2.1)) (fun ρ1 w1 hj hR => a3 ar.out (az (show ρ1 37 = Value.agg (List.toArray _) from hR.1) a7)) (fun w1 hj => hsg _) ?_
        first | refine dS ?_ | refine dU ?_ | refine dG (lZ ?_)
        first | refine n0 ?_ | refine oP ?_
        refine gY ?_
        first | refine dS ?_ | refine dU ?_ | refine dG (cw ?_)
        first | refine dS ?_ | refine dU ?_ | refine dG (dZ 0 [_,_,_] ?_)
        refine bK (i := 15) rfl (fun ρ1 w1 hj hR => (show ρ1 41 = Value.bool _ from hR.2.1)) (fun ρ1 w1 hj hR => a3 ar.out (az (show ρ1 43 = Value.agg (List.toArray _) from hR.1) a7)) (fun w1 hj => hfo _) ?_
        first | refine dS ?_ | refine dU ?_ | refine dG (cw ?_)
        first | refine dS ?_ | refine dU ?_ | refine dG (dZ 0 [_,_,_] ?_)
        refine a6 ?_
        intro f W hJ hV _
        have hb_9 := hJ.bl
        obtain ⟨v46, v45, v44, v43, v42, v41, v40, v39, v38, v37, v36, v35, v34, v33, v32, v31, v30, v29, _⟩ := hV
        replace hh := hJ.hp
        refine aK (a4 (aa v46 (aa v45 (aa v44 (aa v43 (aa v42 (aa v41 (aa v40 (aa v39 (aa v38 (aa v37 (aa v36 (aa v35 (aa v34 (aa v33 (aa v32 (aa v31 (aa v30 (aa v29 aM))))))))))))))))))) ?_
        dsimp only [bX]
        clear hJ
        first | refine gS ?_ | (refine gT ?_; (first | refine kq rfl rfl (by first | assumption | rfl) (by decide) ?_ | refine ki rfl rfl (by assumption) (by decide) ?_)) | refine gV ?_
        first | refine cS ?_ | refine cU ?_
        refine ae (cF (ak (ai (ah ?_))))
        by_cases h0 : i = 0
        ·refine cg [] [] [0, 1, 3, 7, 15, 7, 39, 127, 255, 511, 7, 1031, 4095, 8191] 12 [[(3, none)], [(49, some 0)], [(50, some 1)], [(1, none), (51, some 2)], [(52, some 3), (51, some 2)], [(3, none), (51, some 2)], [(54, some 5), (51, some 2)], [(53, some 4), (55, some 6), (51, some 2)], [(56, some 7), (51, some 2)], [(57, some 8), (51, some 2)], [(4, none), (51, some 2)], [(59, some 10), (51, some 2)]] [(11, 60), (10, 59), (9, 58), (8, 57), (7, 56), (6, 55), (5, 54), (4, 53), (3, 52), (2, 51), (1, 50), (0, 49)] hh mixed (by kernel_rfl) cA rfl (by repeat (first | exact bW | refine bC ?_ | refine bV ?_)) ?_
         refine ej ?_
         refine qP ?_
         refine gY ?_
         first | refine dS ?_ | refine dU ?_ | refine dG (cw ?_)
         first | refine dS ?_ | refine dU ?_ | refine dG (dI 1 ?_)
         first | refine dS ?_ | refine dU ?_ | refine dG (ej ?_)
         first | refine dS ?_ | refine dU ?_ | refine dG (jS ?_)
         first | refine eU (i := 7) rfl (fun ρ1 w1 hj hR => (show ρ1 51 = Value.bool _ from hR.2.2.1)) (by decide) ?_ | refine ee (i := 7) rfl (fun ρ1 w1 hj hR => (show ρ1 51 = undef from hR.2.2.1)) ?_ | refine dL (i := 7) rfl (fun ρ1 w1 hj hR => (show ρ1 51 = Value.bool _ from hR.2.2.1)) (fun ρ1 w1 hj hR => ea aF.out aA.size (show ρ1 53 = Value.slice _ _ _ from hR.1) (show ρ1 55 = Value.int _ _ from hR.2.1) rfl (by omega)) ?_
         first | refine dS ?_ | refine dU ?_ | refine dG (lT ?_)
         first | refine dS ?_ | refine dU ?_ | refine dG (jq (fun _ hj => hr) ?_)
         first | refine dS ?_ | refine dU ?_ | refine dG (cw ?_)
         first | refine dS ?_ | refine dU ?_ | refine dG (dI 0 ?_)
         refine a6 ?_
         intro f W hJ hV _
         have hb_11 := hJ.bl
         obtain ⟨v60, v59, v58, v57, v56, v55, v54, v53, v52, v51, v50, v49, _⟩ := hV
         replace hh := hJ.hp
         refine aK (a4 (aa v60 (aa v59 (aa v58 (aa v57 (aa v56 (aa v55 (aa v54 (aa v53 (aa v52 (aa v51 (aa v50 (aa v49 aM))))))))))))) ?_
         dsimp only [bX]
         clear hJ
         first | refine gS ?_ | (refine gT ?_; refine fh rfl rfl (by decide) ?_) | refine gV ?_
         first | refine cS ?_ | refine cU ?_
         refine ae (cF (ak (aT (ai (aq (mI ?_))))))
         refine bL (aI (aC (ai ?_)))
         replace hh := hh.sub (List.Sublist.cons _ (List.Sublist.cons_cons _ List.Sublist.slnil))
         refine ⟨⟨i + 1, by omega, rfl, hall2, by rw [aN hx, h0]; rfl, hh⟩, by show n - (i + 1) < n - i; omega, ?_⟩
         (repeat (first | exact aw _ _ _ | refine ax rfl ?_ | refine au rfl ?_))
        ·obtain ⟨q, hq⟩ : ∃ q, i = q + 1 := ⟨i - 1, by omega⟩
         obtain ⟨p, hp⟩ := aE (l := ts) (k := q) (by omega)
         cases hlp : fC p.m x.m with
         | false =>
          rw [hbad (sF hp (hq ▸ hx) hlp)]
          have hge : (!(Op.bytesLess p.m.toList x.m.toList)) = true := by rw [gP, hlp]; rfl
          refine cg [] [] [0, 1, 3, 7, 15, 7, 39, 127, 255, 511, 7, 1031, 4095, 8191] 12 [[(3, none)], [(49, some 0)], [(50, some 1)], [(1, none), (51, some 2)], [(52, some 3), (51, some 2)], [(3, none), (51, some 2)], [(54, some 5), (51, some 2)], [(53, some 4), (55, some 6), (51, some 2)], [(56, some 7), (51, some 2)], [(57, some 8), (51, some 2)], [(4, none), (51, some 2)], [(59, some 10), (51, some 2)]] [(11, 60), (10, 59), (9, 58), (8, 57), (7, 56), (6, 55), (5, 54), (4, 53), (3, 52), (2, 51), (1, 50), (0, 49)] hh mixed (by kernel_rfl) cA rfl (by repeat (first | exact bW | refine bC ?_ | refine bV ?_)) ?_
          refine ej ?_
          refine qP ?_
          refine gY ?_
          first | refine dS ?_ | refine dU ?_ | refine dG (cw ?_)
          first | refine dS ?_ | refine dU ?_ | refine dG (dI 1 ?_)
          first | refine dS ?_ | refine dU ?_ | refine dG (ej ?_)
          first | refine dS ?_ | refine dU ?_ | refine dG (jS ?_)
          first | refine dS ?_ | refine dU ?_ | refine dG (jN (q) ?_)
          first | refine dS ?_ | refine dU ?_ | refine dG (lT ?_)
          first | refine dS ?_ | refine dU ?_ | refine dG (jq (fun _ hj => ((hr.ext hj.hp.below).recAt TR.len hp).cell (i := 0) rfl) ?_)
          first | refine dS ?_ | refine dU ?_ | refine dG (cw ?_)
          first | refine dS ?_ | refine dU ?_ | refine dG (dI 0 ?_)
          refine a6 ?_
          intro f W hJ hV _
          have hb_11 := hJ.bl
          obtain ⟨v60, v59, v58, v57, v56, v55, v54, v53, v52, v51, v50, v49, _⟩ := hV
          replace hh := hJ.hp
          refine aK (a4 (aa v60 (aa v59 (aa v58 (aa v57 (aa v56 (aa v55 (aa v54 (aa v53 (aa v52 (aa v51 (aa v50 (aa v49 aM))))))))))))) ?_
          dsimp only [bX]
          clear hJ
          first | refine gS ?_ | (refine gT ?_; refine fh rfl rfl (by decide) ?_) | refine gV ?_
          first | refine cS ?_ | refine cU ?_
          refine ae ?_
          rw [hge]
          refine cT (sr (aI (ae (al (bP (aD (aD (bP (aD ?_)))))))))
          refine cn ?_
          exact ⟨rfl, hh.below⟩
         | true =>
          have hge : (!(Op.bytesLess p.m.toList x.m.toList)) = false := by rw [gP, hlp]; rfl
          refine cg [] [] [0, 1, 3, 7, 15, 7, 39, 127, 255, 511, 7, 1031, 4095, 8191] 12 [[(3, none)], [(49, some 0)], [(50, some 1)], [(1, none), (51, some 2)], [(52, some 3), (51, some 2)], [(3, none), (51, some 2)], [(54, some 5), (51, some 2)], [(53, some 4), (55, some 6), (51, some 2)], [(56, some 7), (51, some 2)], [(57, some 8), (51, some 2)], [(4, none), (51, some 2)], [(59, some 10), (51, some 2)]] [(11, 60), (10, 59), (9, 58), (8, 57), (7, 56), (6, 55), (5, 54), (4, 53), (3, 52), (2, 51), (1, 50), (0, 49)] hh mixed (by kernel_rfl) cA rfl (by repeat (first | exact bW | refine bC ?_ | refine bV ?_)) ?_
          refine ej ?_
          refine qP ?_
          refine gY ?_
          first | refine dS ?_ | refine dU ?_ | refine dG (cw ?_)
          first | refine dS ?_ | refine dU ?_ | refine dG (dI 1 ?_)
          first | refine dS ?_ | refine dU ?_ | refine dG (ej ?_)
          first | refine dS ?_ | refine dU ?_ | refine dG (jS ?_)
          first | refine dS ?_ | refine dU ?_ | refine dG (jN (q) ?_)
          first | refine dS ?_ | refine dU ?_ | refine dG (lT ?_)
          first | refine dS ?_ | refine dU ?_ | refine dG (jq (fun _ hj => ((hr.ext hj.hp.below).recAt TR.len hp).cell (i := 0) rfl) ?_)
          first | refine dS ?_ | refine dU ?_ | refine dG (cw ?_)
          first | refine dS ?_ | refine dU ?_ | refine dG (dI 0 ?_)
          refine a6 ?_
          intro f W hJ hV _
          have hb_11 := hJ.bl
          obtain ⟨v60, v59, v58, v57, v56, v55, v54, v53, v52, v51, v50, v49, _⟩ := hV
          replace hh := hJ.hp
          refine aK (a4 (aa v60 (aa v59 (aa v58 (aa v57 (aa v56 (aa v55 (aa v54 (aa v53 (aa v52 (aa v51 (aa v50 (aa v49 aM))))))))))))) ?_
          dsimp only [bX]
          clear hJ
          first | refine gS ?_ | (refine gT ?_; refine fh rfl rfl (by decide) ?_) | refine gV ?_
          first | refine cS ?_ | refine cU ?_
          refine ae ?_
          rw [hge]
          refine cF (ak (aT (ai (aq (mI ?_)))))
          refine bL (aI (aC (ai ?_)))
          replace hh := hh.sub (List.Sublist.cons _ (List.Sublist.cons_cons _ List.Sublist.slnil))
          refine ⟨⟨i + 1, by omega, rfl, hall2, ?_, hh⟩, by show n - (i + 1) < n - i; omega, ?_⟩
          ·rw [hq, aN hp] at hris
           rw [aN hx, hq, aN hp, List.append_assoc]
           show kQ (ts.take q ++ [p, x]) = true
           rw [mD, hris, hlp]
           rfl
          ·(repeat (first | exact aw _ _ _ | refine ax rfl ?_ | refine au rfl ?_))
       ·rw [hbad (kh hx (by unfold gO kt; rw [hm, decide_eq_false hz, Bool.eq_false_iff.2 (fun h => hnf ((kr x.c).1 h))]; rfl))]
        refine ah (sr (mI (bB ?_)))
        refine bE hh 0 ?_
        refine a0 ?_
        refine aW (ae (cT (ak (ai (ah (ao (sr (bB ?_))))))))
        refine bE hh 0 ?_
        refine mI ?_
        refine aQ (k := i) aF.out aA.size rfl rfl (by omega) (by omega) (by decide) ?_
        refine bR (vs := [_, _, _, _]) aA.out rfl ((hr.ext hh.below).recAt TR.len hx) rfl (by decide) ?_
        refine cj hh ?_
        intro b4 w4 hh
        refine bD hh 0 [_,_,_,_] ?_
        intro ws hh
        replace hh : Hp _ (.blk _ _ [_, _, _, _] _ :: _) _ := hh
        refine ae (ah (ah ?_))
        refine cg [] [] [0, 1, 0, 4, 15, 31, 63, 127, 255, 511, 1023, 2047, 4095, 8191, 16383, 32767, 8191, 73727, 262143, 524287] 18 [[(4, none)], [(29, some 0)], [(1, none)], [(31, some 2)], [(30, some 1), (32, some 3)], [(33, some 4)], [(34, some 5)], [(4, none), (35, some 6)], [(36, some 7), (35, some 6)], [(37, some 8), (35, some 6)], [(38, some 9), (35, some 6)], [(35, some 6), (39, some 10)], [(40, some 11)], [(4, none), (41, some 12)], [(42, some 13), (41, some 12)], [(43, some 14), (41, some 12)], [(4, none), (41, some 12)], [(45, some 16), (41, some 12)]] [(17, 46), (16, 45), (15, 44), (14, 43), (13, 42), (12, 41), (11, 40), (10, 39), (9, 38), (8, 37), (7, 36), (6, 35), (5, 34), (4, 33), (3, 32), (2, 31), (1, 30), (0, 29)] hh mixed (by kernel_rfl) cA rfl (by repeat (first | exact bW | refine bC ?_ | refine bV ?_)) ?_
        refine cw ?_
        refine dI 0 ?_
        refine cw ?_
        refine dI 1 ?_
        refine dC (fun _ hj => hmay _) ?_
        refine pz ?_
        refine gY ?_
        first | refine dS ?_ | refine dU ?_ | refine dG (cw ?_)
        first | refine dS ?_ | refine dU ?_ | refine dG (dZ 0 [_,_,_] ?_)
        refine bK (i := 9) rfl (fun ρ1 w1 hj hR => (show ρ1 35 = Value.bool _ from hR.2.1)) (fun ρ1 w1 hj hR => a3 ar.out (az (show ρ1 37 = Value.agg (List.toArray _) from hR.1) a7)) (fun w1 hj => hsg _) ?_
        first | refine dS ?_ | refine dU ?_ | refine dG (lZ ?_)
        first | refine n0 ?_ | refine oP ?_
        refine gY ?_
        first | refine dS ?_ | refine dU ?_ | refine dG (cw ?_)
        first | refine dS ?_ | refine dU ?_ | refine dG (dZ 0 [_,_,_] ?_)
        refine bK (i := 15) rfl (fun ρ1 w1 hj hR => (show ρ1 41 = Value.bool _ from hR.2.1)) (fun ρ1 w1 hj hR => a3 ar.out (az (show ρ1 43 = Value.agg (List.toArray _) from hR.1) a7)) (fun w1 hj => hfo _) ?_
        first | refine dS ?_ | refine dU ?_ | refine dG (cw ?_)
        first | refine dS ?_ | refine dU ?_ | refine dG (dZ 0 [_,_,_] ?_)
        refine a6 ?_
        intro f W hJ hV _
        have hb_9 := hJ.bl
        obtain ⟨v46, v45, v44, v43, v42, v41, v40, v39, v38, v37, v36, v35, v34, v33, v32, v31, v30, v29, _⟩ := hV
        replace hh := hJ.hp
        refine aK (a4 (aa v46 (aa v45 (aa v44 (aa v43 (aa v42 (aa v41 (aa v40 (aa v39 (aa v38 (aa v37 (aa v36 (aa v35 (aa v34 (aa v33 (aa v32 (aa v31 (aa v30 (aa v29 aM))))))))))))))))))) ?_
        dsimp only [bX]
        clear hJ
        first | refine gS ?_ | (refine gT ?_; (first | refine kq rfl rfl (by first | assumption | rfl) (by decide) ?_ | refine ki rfl rfl (by assumption) (by decide) ?_)) | refine gV ?_
        first | refine cS ?_ | refine cU ?_
        refine ae (cT (sr (aI (ae (al (aD (bP (aD (aD (bP (aD ?_)))))))))))
        refine cn ?_
        exact ⟨rfl, hh.below⟩
    ·rw [List.take_of_length_le (by omega)] at hall hris
     rw [show fy v ts = 0 by unfold fy okB; rw [if_neg (by rw [hf]; decide), if_neg (by omega), hall, hris]; rfl]
     refine ah (sr (mI (bB ?_)))
     refine bE hh 0 ?_
     refine a0 ?_
     refine aW (ae (cF ?_))
     refine aO ?_
     refine ay (ay (a8 (ai (sr (aI (ae (al ?_)))))))
     refine cn ?_
     exact ⟨rfl, hh.below⟩
end Go.Proofs.YtaapkaefelhfcaaGreatDoor
/- The walks through ogeeref08.put and Gather. -/
namespace Go.Proofs.YtaapkaefelhfcaaGreatDoor
open Go.RowKit
theorem mM {x : TR} (b : List TR) : ∀ {a : List TR}, (∀ t ∈ a, fC t.m x.m = true) → fw (a ++ b) x = a ++ fw b x
 | [], _ => rfl
 | t :: a, h => by
  rw [List.cons_append, fw, if_pos (h t List.mem_cons_self), mM b fun s hs => h s (List.mem_cons_of_mem _ hs)]
  rfl
theorem xT {x : TR} {l : List TR} (h : ∀ t ∈ l, fC t.m x.m = true) : fw l x = l ++ [⟨x.m, nR x.c.d⟩] := by
 have := mM [] h
 rwa [List.append_nil] at this
theorem Ak {x t : TR} {l : List TR} {i : Nat} (hx : l[i]? = some t) (h : ∀ s ∈ l.take i, fC s.m x.m = true) (h1 : fC t.m x.m = false) : fw l x = if t.m = x.m then l.take i ++ ⟨x.m, nR (t.c.d + x.c.d)⟩ :: l.drop (i + 1) else l.take i ++ ⟨x.m, nR x.c.d⟩ :: l.drop i := by
 have e : l = l.take i ++ t :: l.drop (i + 1) := by rw [← iG hx, List.take_append_drop]
 have e2 : fw l x = l.take i ++ fw (t :: l.drop (i + 1)) x := by
  conv => lhs; rw [e]
  exact mM _ h
 rw [e2, fw, if_neg (by rw [h1]; decide), iG hx]
 by_cases he : t.m = x.m
 ·rw [if_pos he, if_neg (by rw [he, ir]; decide)]
 ·rw [if_neg he, if_pos]
  cases h2 : fC x.m t.m with
  | true => rfl
  | false => exact absurd (kv h1 h2) he
theorem uD (A : Option Addr) (n c : Nat) (l : List TR) (x : TR) (w : World) (hS : Sl w A n 4 (aP TR.cells l)) (hcn : n ≤ c) (hn : n ≤ 1000000) (ho : ∀ t ∈ l, t.c.ok) (hx : x.c.ok) :
  Calls Tryz.prog 190 #[.slice A n c, .agg #[.string x.m, .bool x.c.neg, .string x.c.bu, .int .i64 x.c.e]] w fun r w' => ∃ A' c', r = .returned (.slice A' (fw l x).length c') ∧ Hp w [.row A' (fw l x).length c' 55 4 (aP TR.cells (fw l x))] w' := by
 have hh := Hp.start w
 have hln := hS.cx TR.len (by decide)
 have hfo := fun w1 => dO x.c w1 (by have := hx.1; omega) (by have := hx.2.1; omega) (by have := hx.2.2; omega)
 refine aj (N := 76) (l := [.slice A n c, .agg #[.string x.m, .bool x.c.neg, .string x.c.bu, .int .i64 x.c.e]]) Tryz.func190 rfl rfl (by simp) ?_
 refine sr ?_
 refine cz hh [_,_,_,_] ?_
 intro b3 w3 hh
 refine aL (ae (sr (aI (ae (ah (ao ?_))))))
 refine bs [5, 7, 8, 9, 10, 11, 12, 13, 14, 15, 16, 17, 18, 19, 20, 21, 22] 5
  (fun v w' => ∃ i : Nat, i ≤ n ∧ v = .int .i64 i ∧ (∀ t ∈ l.take i, fC t.m x.m = true) ∧ Hp w [.blk b3 55 [.string x.m, .bool x.c.neg, .string x.c.bu, .int .i64 x.c.e] (0, 0)] w')
  (fun v _ => n - (intOf v).toNat) ?_ ?_
 ·exact ⟨0, Nat.zero_le _, rfl, fun t ht => (nomatch ht), hh⟩
 ·clear hh
  rintro ρ' v w' ⟨i, hi, rfl, hall, hh⟩
  by_cases hlt : i < n
  ·obtain ⟨t, ht⟩ := aE (l := l) (k := i) (by omega)
   obtain ⟨ad, rfl, hr⟩ := hS.at_ (by omega)
   have hto := ho t (List.mem_of_getElem? ht)
   cases hl : fC t.m x.m with
   | true =>
    have hbl : Op.bytesLess t.m.toList x.m.toList = true := by rw [gP, hl]
    refine ah (ah ?_)
    refine aU 12 [[(5, none)], [(0, none)], [(8, some 1)], [(7, some 0), (9, some 2)], [(10, some 3)], [(0, none), (11, some 4)], [(5, none), (11, some 4)], [(12, some 5), (13, some 6), (11, some 4)], [(14, some 7), (11, some 4)], [(15, some 8), (11, some 4)], [(3, none), (11, some 4)], [(17, some 10), (11, some 4)]] [(11, 18), (10, 17), (9, 16), (8, 15), (7, 14), (6, 13), (5, 12), (4, 11), (3, 10), (2, 9), (1, 8), (0, 7)] hh mixed (by kernel_rfl) ?_
    refine ej ?_
    refine fX ?_
    refine qM ?_
    refine wq ?_
    refine gY ?_
    first | refine dS ?_ | refine dU ?_ | refine dG (fX ?_)
    first | refine dS ?_ | refine dU ?_ | refine dG (ej ?_)
    first | refine dS ?_ | refine dU ?_ | refine dG (jN (i) ?_)
    first | refine dS ?_ | refine dU ?_ | refine dG (lT ?_)
    first | refine dS ?_ | refine dU ?_ | refine dG (jq (fun _ hj => ((hr.ext hj.hp.below).recAt TR.len ht).cell (i := 0) rfl) ?_)
    first | refine dS ?_ | refine dU ?_ | refine dG (cw ?_)
    first | refine dS ?_ | refine dU ?_ | refine dG (dI 0 ?_)
    refine a6 ?_
    intro f W hJ hV
    have hb_2 := hJ.bl
    obtain ⟨v18, v17, v16, v15, v14, v13, v12, v11, v10, v9, v8, v7, _⟩ := hV
    replace hh := hJ.hp
    refine aK (a4 (aa v18 (aa v17 (aa v16 (aa v15 (aa v14 (aa v13 (aa v12 (aa v11 (aa v10 (aa v9 (aa v8 (aa v7 aM))))))))))))) ?_
    dsimp only [bX]
    clear hJ
    first | refine gS ?_ | (refine gT ?_; refine kB rfl rfl (by decide) ?_) | refine gV ?_
    first | refine cS ?_ | refine cU ?_
    refine ae ?_
    rw [hbl]
    refine cT (ak (ai (ao (aq (mI ?_)))))
    refine bL (aI (aC (aT (ai ?_))))
    refine ⟨⟨i + 1, by omega, rfl, fun s hs => ?_, hh⟩, by show n - (i + 1) < n - i; omega, ?_⟩
    ·rw [aN ht] at hs
     rcases List.mem_append.1 hs with hs | hs
     ·exact hall s hs
     ·rw [List.mem_singleton.1 hs]; exact hl
    ·(repeat (first | exact aw _ _ _ | refine ax rfl ?_ | refine au rfl ?_))
   | false =>
    have hbl : Op.bytesLess t.m.toList x.m.toList = false := by rw [gP, hl]
    have hput := Ak ht hall hl
    have hS1 := hS.front (m := i) (by omega)
    rw [show (aP TR.cells l).take (i * 4) = aP TR.cells (l.take i) from hU TR.len l i] at hS1
    have o1 := bf TR.one (l.take i)
    refine ah (ah ?_)
    refine aU 12 [[(5, none)], [(0, none)], [(8, some 1)], [(7, some 0), (9, some 2)], [(10, some 3)], [(0, none), (11, some 4)], [(5, none), (11, some 4)], [(12, some 5), (13, some 6), (11, some 4)], [(14, some 7), (11, some 4)], [(15, some 8), (11, some 4)], [(3, none), (11, some 4)], [(17, some 10), (11, some 4)]] [(11, 18), (10, 17), (9, 16), (8, 15), (7, 14), (6, 13), (5, 12), (4, 11), (3, 10), (2, 9), (1, 8), (0, 7)] hh mixed (by kernel_rfl) ?_
    refine ej ?_
    refine fX ?_
    refine qM ?_
    refine wq ?_
    refine gY ?_
    first | refine dS ?_ | refine dU ?_ | refine dG (fX ?_)
    first | refine dS ?_ | refine dU ?_ | refine dG (ej ?_)
    first | refine dS ?_ | refine dU ?_ | refine dG (jN (i) ?_)
    first | refine dS ?_ | refine dU ?_ | refine dG (lT ?_)
    first | refine dS ?_ | refine dU ?_ | refine dG (jq (fun _ hj => ((hr.ext hj.hp.below).recAt TR.len ht).cell (i := 0) rfl) ?_)
    first | refine dS ?_ | refine dU ?_ | refine dG (cw ?_)
    first | refine dS ?_ | refine dU ?_ | refine dG (dI 0 ?_)
    refine a6 ?_
    intro f W hJ hV
    have hb_2 := hJ.bl
    obtain ⟨v18, v17, v16, v15, v14, v13, v12, v11, v10, v9, v8, v7, _⟩ := hV
    replace hh := hJ.hp
    refine aK (a4 (aa v18 (aa v17 (aa v16 (aa v15 (aa v14 (aa v13 (aa v12 (aa v11 (aa v10 (aa v9 (aa v8 (aa v7 aM))))))))))))) ?_
    dsimp only [bX]
    clear hJ
    first | refine gS ?_ | (refine gT ?_; refine kB rfl rfl (by decide) ?_) | refine gV ?_
    first | refine cS ?_ | refine cU ?_
    refine ae ?_
    rw [hbl]
    refine cF ?_
    refine aO ?_
    refine ay (ay (a8 (ai (sr ?_))))
    refine gi hh aF.out aA.out (by decide) ?_
    intro b23 w23 hh
    refine mL (mI ?_)
    refine jc (h := i) aF.out aA.size rfl rfl (by omega) (by omega) (by decide) ?_
    refine bG hh (i := 0) rfl rfl rfl (hS1.ext hh.below) aF.out aA.out rfl (by decide) ?one9 (by omega) (by omega) (by decide) ?kk9
    case one9 => first | rfl | assumption | exact oneCells_i64s _ | exact oneCells_u8s _
    intro A27 c27 w27 hh
    simp only [List.set_cons_zero] at hh
    refine aL (ae (ah (ah ?_)))
    have hpl := fun w1 => nc t.c x.c w1 hto hx
    by_cases he : t.m = x.m
    ·rw [if_pos he] at hput
     have hS2 := hS.back (l := i + 1) (by omega) hcn
     rw [show (aP TR.cells l).drop ((i + 1) * 4) = aP TR.cells (l.drop (i + 1)) from fM TR.len l (i + 1)] at hS2
     have o2 := bf TR.one (l.drop (i + 1))
     refine aU 12 [[(5, none)], [(0, none)], [(29, some 1)], [(28, some 0), (30, some 2)], [(31, some 3)], [(0, none), (32, some 4)], [(5, none), (32, some 4)], [(33, some 5), (34, some 6), (32, some 4)], [(35, some 7), (32, some 4)], [(36, some 8), (32, some 4)], [(3, none), (32, some 4)], [(38, some 10), (32, some 4)]] [(11, 39), (10, 38), (9, 37), (8, 36), (7, 35), (6, 34), (5, 33), (4, 32), (3, 31), (2, 30), (1, 29), (0, 28)] hh mixed (by kernel_rfl) ?_
     refine ej ?_
     refine fX ?_
     refine qM ?_
     refine wq ?_
     refine gY ?_
     first | refine dS ?_ | refine dU ?_ | refine dG (fX ?_)
     first | refine dS ?_ | refine dU ?_ | refine dG (ej ?_)
     first | refine dS ?_ | refine dU ?_ | refine dG (jN (i) ?_)
     first | refine dS ?_ | refine dU ?_ | refine dG (lT ?_)
     first | refine dS ?_ | refine dU ?_ | refine dG (jq (fun _ hj => ((hr.ext hj.hp.below).recAt TR.len ht).cell (i := 0) rfl) ?_)
     first | refine dS ?_ | refine dU ?_ | refine dG (cw ?_)
     first | refine dS ?_ | refine dU ?_ | refine dG (dI 1 ?_)
     refine a6 ?_
     intro f W hJ hV
     have hb_5 := hJ.bl
     obtain ⟨v39, v38, v37, v36, v35, v34, v33, v32, v31, v30, v29, v28, _⟩ := hV
     replace hh := hJ.hp
     refine aK (a4 (aa v39 (aa v38 (aa v37 (aa v36 (aa v35 (aa v34 (aa v33 (aa v32 (aa v31 (aa v30 (aa v29 (aa v28 aM))))))))))))) ?_
     dsimp only [bX]
     clear hJ
     first | refine gS ?_ | (refine gT ?_; (first | refine dt rfl rfl (by first | rfl | assumption | decide) (by decide) ?_ | refine dv rfl rfl (by first | assumption | decide) (by decide) ?_)) | refine gV ?_
     first | refine cS ?_ | refine cU ?_
     refine ae (cT (ah ?_))
     refine aU 13 [[(6, none)], [(3, none)], [(43, some 1)], [(0, none)], [(5, none)], [(45, some 3), (46, some 4)], [(47, some 5)], [(48, some 6)], [(3, none)], [(50, some 8)], [(49, some 7), (51, some 9)], [(44, some 2), (52, some 10)], [(53, some 11)]] [(12, 54), (11, 53), (10, 52), (9, 51), (8, 50), (7, 49), (6, 48), (5, 47), (4, 46), (3, 45), (2, 44), (1, 43), (0, 42)] hh mixed (by kernel_rfl) ?_
     refine fX ?_
     refine cw ?_
     refine dI 1 ?_
     refine fX ?_
     refine ej ?_
     refine jN (i) ?_
     refine lT ?_
     refine qQ [_,_,_] (fun _ hj => ((hr.ext hj.hp.below).recAt TR.len ht).drop 1) ?_
     refine cw ?_
     refine dZ 1 [_,_,_] ?_
     refine dC (fun _ hj => hpl _) ?_
     refine dB [_,_,_,_] ?_
     refine px [_,_,_,_] ?_
     refine a6 ?_
     intro f W hJ hV
     have hb_6 := hJ.bl
     obtain ⟨v54, v53, v52, v51, v50, v49, v48, v47, v46, v45, v44, v43, v42, _⟩ := hV
     obtain ⟨A54, c54, e54, f54⟩ : Rows _ _ _ (f 12) W := v54
     replace hh := hJ.hp
     refine aK (a4 (aa e54 (aa v53 (aa v52 (aa v51 (aa v50 (aa v49 (aa v48 (aa v47 (aa v46 (aa v45 (aa v44 (aa v43 (aa v42 aM)))))))))))))) ?_
     dsimp only [bX]
     clear e54 hJ
     refine bG hh (i := 0) rfl rfl rfl (f54) aF.out aA.out rfl (by decide) (by first | rfl | exact bQ _ | exact bF _ | exact oneCells_i64s _ | exact bf NR.one _) (by omega) (by omega) (by decide) ?_
     intro A55 c55 w55 hh
     simp only [List.set_cons_zero] at hh
     refine aL (ae (sr (mL (mL (mI ?_)))))
     refine bL ?_
     refine a5 rfl rfl (by decide) (gd aF.out aA.size rfl rfl (l := i + 1) (by omega) (by omega) (by omega)) ?_
     refine bG hh (i := 0) rfl rfl rfl (hS2.ext hh.below) aF.out aA.out rfl (by decide) ?one10 (by omega) (by omega) (by decide) ?kk10
     case one10 => first | rfl | assumption | exact oneCells_i64s _ | exact oneCells_u8s _
     intro A61 c61 w61 hh
     simp only [List.set_cons_zero] at hh
     refine aL (ae (al (aD ?_)))
     refine cn ?_
     have e1 : (fw l x).length = 0 + i + 1 + (n - (i + 1)) := by rw [hput, List.length_append, List.length_cons, List.length_take, List.length_drop]; omega
     have e2 : aP TR.cells (fw l x) = [] ++ aP TR.cells (l.take i) ++ [.string x.m, .bool (nR (t.c.d + x.c.d)).neg, .string (nR (t.c.d + x.c.d)).bu, .int .i64 (nR (t.c.d + x.c.d)).e] ++ aP TR.cells (l.drop (i + 1)) := by rw [hput, bS, fS, List.nil_append, List.append_assoc]; rfl
     exact ⟨_, _, by rw [e1], by rw [e1, e2]; exact hh.sub (List.Sublist.cons_cons _ (List.nil_sublist _))⟩
    ·rw [if_neg he] at hput
     have hS2 := hS.back (l := i) (by omega) hcn
     rw [show (aP TR.cells l).drop (i * 4) = aP TR.cells (l.drop i) from fM TR.len l i] at hS2
     have o2 := bf TR.one (l.drop i)
     refine aU 12 [[(5, none)], [(0, none)], [(29, some 1)], [(28, some 0), (30, some 2)], [(31, some 3)], [(0, none), (32, some 4)], [(5, none), (32, some 4)], [(33, some 5), (34, some 6), (32, some 4)], [(35, some 7), (32, some 4)], [(36, some 8), (32, some 4)], [(3, none), (32, some 4)], [(38, some 10), (32, some 4)]] [(11, 39), (10, 38), (9, 37), (8, 36), (7, 35), (6, 34), (5, 33), (4, 32), (3, 31), (2, 30), (1, 29), (0, 28)] hh mixed (by kernel_rfl) ?_
     refine ej ?_
     refine fX ?_
     refine qM ?_
     refine wq ?_
     refine gY ?_
     first | refine dS ?_ | refine dU ?_ | refine dG (fX ?_)
     first | refine dS ?_ | refine dU ?_ | refine dG (ej ?_)
     first | refine dS ?_ | refine dU ?_ | refine dG (jN (i) ?_)
     first | refine dS ?_ | refine dU ?_ | refine dG (lT ?_)
     first | refine dS ?_ | refine dU ?_ | refine dG (jq (fun _ hj => ((hr.ext hj.hp.below).recAt TR.len ht).cell (i := 0) rfl) ?_)
     first | refine dS ?_ | refine dU ?_ | refine dG (cw ?_)
     first | refine dS ?_ | refine dU ?_ | refine dG (dI 1 ?_)
     refine a6 ?_
     intro f W hJ hV
     have hb_5 := hJ.bl
     obtain ⟨v39, v38, v37, v36, v35, v34, v33, v32, v31, v30, v29, v28, _⟩ := hV
     replace hh := hJ.hp
     refine aK (a4 (aa v39 (aa v38 (aa v37 (aa v36 (aa v35 (aa v34 (aa v33 (aa v32 (aa v31 (aa v30 (aa v29 (aa v28 aM))))))))))))) ?_
     dsimp only [bX]
     clear hJ
     first | refine gS ?_ | (refine gT ?_; (first | refine dt rfl rfl (by first | rfl | assumption | decide) (by decide) ?_ | refine dv rfl rfl (by first | assumption | decide) (by decide) ?_)) | refine gV ?_
     first | refine cS ?_ | refine cU ?_
     refine ae (cF (ak (ai (ah ?_))))
     refine aU 8 [[(6, none)], [(3, none)], [(63, some 1)], [(3, none)], [(65, some 3)], [(66, some 4)], [(64, some 2), (67, some 5)], [(68, some 6)]] [(7, 69), (6, 68), (5, 67), (4, 66), (3, 65), (2, 64), (1, 63), (0, 62)] hh mixed (by kernel_rfl) ?_
     refine fX ?_
     refine cw ?_
     refine dI 1 ?_
     refine cw ?_
     refine dZ 1 [_,_,_] ?_
     refine dC (fun _ hj => hfo _) ?_
     refine dB [_,_,_,_] ?_
     refine px [_,_,_,_] ?_
     refine a6 ?_
     intro f W hJ hV
     have hb_8 := hJ.bl
     obtain ⟨v69, v68, v67, v66, v65, v64, v63, v62, _⟩ := hV
     obtain ⟨A69, c69, e69, f69⟩ : Rows _ _ _ (f 7) W := v69
     replace hh := hJ.hp
     refine aK (a4 (aa e69 (aa v68 (aa v67 (aa v66 (aa v65 (aa v64 (aa v63 (aa v62 aM))))))))) ?_
     dsimp only [bX]
     clear e69 hJ
     refine bG hh (i := 0) rfl rfl rfl (f69) aF.out aA.out rfl (by decide) (by first | rfl | exact bQ _ | exact bF _ | exact oneCells_i64s _ | exact bf NR.one _) (by omega) (by omega) (by decide) ?_
     intro A70 c70 w70 hh
     simp only [List.set_cons_zero] at hh
     refine aL (ae (sr (mL (mL (mI ?_)))))
     refine a5 rfl rfl (by decide) (gd aF.out aA.size rfl rfl (l := i) (by omega) (by omega) (by omega)) ?_
     refine bG hh (i := 0) rfl rfl rfl (hS2.ext hh.below) aF.out aA.out rfl (by decide) ?one11 (by omega) (by omega) (by decide) ?kk11
     case one11 => first | rfl | assumption | exact oneCells_i64s _ | exact oneCells_u8s _
     intro A75 c75 w75 hh
     simp only [List.set_cons_zero] at hh
     refine aL (ae (al ?_))
     refine cn ?_
     have e1 : (fw l x).length = 0 + i + 1 + (n - i) := by rw [hput, List.length_append, List.length_cons, List.length_take, List.length_drop]; omega
     have e2 : aP TR.cells (fw l x) = [] ++ aP TR.cells (l.take i) ++ [.string x.m, .bool (nR x.c.d).neg, .string (nR x.c.d).bu, .int .i64 (nR x.c.d).e] ++ aP TR.cells (l.drop i) := by rw [hput, bS, fS, List.nil_append, List.append_assoc]; rfl
     exact ⟨_, _, by rw [e1], by rw [e1, e2]; exact hh.sub (List.Sublist.cons_cons _ (List.nil_sublist _))⟩
  ·obtain rfl : i = n := by omega
   have hput := xT (x := x) (l := l) (by rwa [List.take_of_length_le (by omega)] at hall)
   rw [show l ++ [⟨x.m, nR x.c.d⟩] = l.take i ++ ⟨x.m, nR x.c.d⟩ :: l.drop i by rw [List.take_of_length_le (by omega), List.drop_of_length_le (by omega)]] at hput
   have hS1 := hS.front (m := i) (by omega)
   rw [show (aP TR.cells l).take (i * 4) = aP TR.cells (l.take i) from hU TR.len l i] at hS1
   have o1 := bf TR.one (l.take i)
   have hS2 := hS.back (l := i) (by omega) hcn
   rw [show (aP TR.cells l).drop (i * 4) = aP TR.cells (l.drop i) from fM TR.len l i] at hS2
   have o2 := bf TR.one (l.drop i)
   refine ah (ah ?_)
   refine aU 12 [[(5, none)], [(0, none)], [(8, some 1)], [(7, some 0), (9, some 2)], [(10, some 3)], [(0, none), (11, some 4)], [(5, none), (11, some 4)], [(12, some 5), (13, some 6), (11, some 4)], [(14, some 7), (11, some 4)], [(15, some 8), (11, some 4)], [(3, none), (11, some 4)], [(17, some 10), (11, some 4)]] [(11, 18), (10, 17), (9, 16), (8, 15), (7, 14), (6, 13), (5, 12), (4, 11), (3, 10), (2, 9), (1, 8), (0, 7)] hh mixed (by kernel_rfl) ?_
   refine ej ?_
   refine fX ?_
   refine qM ?_
   refine wq ?_
   refine gY ?_
   first | refine dS ?_ | refine dU ?_ | refine dG (fX ?_)
   first | refine dS ?_ | refine dU ?_ | refine dG (ej ?_)
   first | refine eU (i := 7) rfl (fun ρ1 w1 hj hR => (show ρ1 11 = Value.bool _ from hR.2.2.1)) (by decide) ?_ | refine ee (i := 7) rfl (fun ρ1 w1 hj hR => (show ρ1 11 = undef from hR.2.2.1)) ?_ | refine dL (i := 7) rfl (fun ρ1 w1 hj hR => (show ρ1 11 = Value.bool _ from hR.2.2.1)) (fun ρ1 w1 hj hR => eh aF.out aA.size (show ρ1 12 = Value.slice _ _ _ from hR.1) (show ρ1 13 = Value.int _ _ from hR.2.1) (by omega) (by omega)) ?_
   first | refine dS ?_ | refine dU ?_ | refine dG (lT ?_)
   first | refine dS ?_ | refine dU ?_ | refine dG (jq (fun _ hj => hT) ?_)
   first | refine dS ?_ | refine dU ?_ | refine dG (cw ?_)
   first | refine dS ?_ | refine dU ?_ | refine dG (dI 0 ?_)
   refine a6 ?_
   intro f W hJ hV
   have hb_2 := hJ.bl
   obtain ⟨v18, v17, v16, v15, v14, v13, v12, v11, v10, v9, v8, v7, _⟩ := hV
   replace hh := hJ.hp
   refine aK (a4 (aa v18 (aa v17 (aa v16 (aa v15 (aa v14 (aa v13 (aa v12 (aa v11 (aa v10 (aa v9 (aa v8 (aa v7 aM))))))))))))) ?_
   dsimp only [bX]
   clear hJ
   first | refine gS ?_ | (refine gT ?_; refine kB rfl rfl (by decide) ?_) | refine gV ?_
   first | refine cS ?_ | refine cU ?_
   refine ae (cF ?_)
   refine aO ?_
   refine ay (ay (a8 (ai (sr ?_))))
   refine gi hh aF.out aA.out (by decide) ?_
   intro b23 w23 hh
   refine mL (mI ?_)
   refine jc (h := i) aF.out aA.size rfl rfl (by omega) (by omega) (by decide) ?_
   refine bG hh (i := 0) rfl rfl rfl (hS1.ext hh.below) aF.out aA.out rfl (by decide) ?one12 (by omega) (by omega) (by decide) ?kk12
   case one12 => first | rfl | assumption | exact oneCells_i64s _ | exact oneCells_u8s _
   intro A27 c27 w27 hh
   simp only [List.set_cons_zero] at hh
   refine aL (ae (ah (ah ?_)))
   refine aU 12 [[(5, none)], [(0, none)], [(29, some 1)], [(28, some 0), (30, some 2)], [(31, some 3)], [(0, none), (32, some 4)], [(5, none), (32, some 4)], [(33, some 5), (34, some 6), (32, some 4)], [(35, some 7), (32, some 4)], [(36, some 8), (32, some 4)], [(3, none), (32, some 4)], [(38, some 10), (32, some 4)]] [(11, 39), (10, 38), (9, 37), (8, 36), (7, 35), (6, 34), (5, 33), (4, 32), (3, 31), (2, 30), (1, 29), (0, 28)] hh mixed (by kernel_rfl) ?_
   refine ej ?_
   refine fX ?_
   refine qM ?_
   refine wq ?_
   refine gY ?_
   first | refine dS ?_ | refine dU ?_ | refine dG (fX ?_)
   first | refine dS ?_ | refine dU ?_ | refine dG (ej ?_)
   first | refine eU (i := 7) rfl (fun ρ1 w1 hj hR => (show ρ1 32 = Value.bool _ from hR.2.2.1)) (by decide) ?_ | refine ee (i := 7) rfl (fun ρ1 w1 hj hR => (show ρ1 32 = undef from hR.2.2.1)) ?_ | refine dL (i := 7) rfl (fun ρ1 w1 hj hR => (show ρ1 32 = Value.bool _ from hR.2.2.1)) (fun ρ1 w1 hj hR => eh aF.out aA.size (show ρ1 33 = Value.slice _ _ _ from hR.1) (show ρ1 34 = Value.int _ _ from hR.2.1) (by omega) (by omega)) ?_
   first | refine dS ?_ | refine dU ?_ | refine dG (lT ?_)
   first | refine dS ?_ | refine dU ?_ | refine dG (jq (fun _ hj => hT) ?_)
   first | refine dS ?_ | refine dU ?_ | refine dG (cw ?_)
   first | refine dS ?_ | refine dU ?_ | refine dG (dI 1 ?_)
   refine a6 ?_
   intro f W hJ hV
   have hb_5 := hJ.bl
   obtain ⟨v39, v38, v37, v36, v35, v34, v33, v32, v31, v30, v29, v28, _⟩ := hV
   replace hh := hJ.hp
   refine aK (a4 (aa v39 (aa v38 (aa v37 (aa v36 (aa v35 (aa v34 (aa v33 (aa v32 (aa v31 (aa v30 (aa v29 (aa v28 aM))))))))))))) ?_
   dsimp only [bX]
   clear hJ
   first | refine gS ?_ | (refine gT ?_; (first | refine dt rfl rfl (by first | rfl | assumption | decide) (by decide) ?_ | refine dv rfl rfl (by first | assumption | decide) (by decide) ?_)) | refine gV ?_
   first | refine cS ?_ | refine cU ?_
   refine ae (cF (ak (ai (ah ?_))))
   refine aU 8 [[(6, none)], [(3, none)], [(63, some 1)], [(3, none)], [(65, some 3)], [(66, some 4)], [(64, some 2), (67, some 5)], [(68, some 6)]] [(7, 69), (6, 68), (5, 67), (4, 66), (3, 65), (2, 64), (1, 63), (0, 62)] hh mixed (by kernel_rfl) ?_
   refine fX ?_
   refine cw ?_
   refine dI 1 ?_
   refine cw ?_
   refine dZ 1 [_,_,_] ?_
   refine dC (fun _ hj => hfo _) ?_
   refine dB [_,_,_,_] ?_
   refine px [_,_,_,_] ?_
   refine a6 ?_
   intro f W hJ hV
   have hb_8 := hJ.bl
   obtain ⟨v69, v68, v67, v66, v65, v64, v63, v62, _⟩ := hV
   obtain ⟨A69, c69, e69, f69⟩ : Rows _ _ _ (f 7) W := v69
   replace hh := hJ.hp
   refine aK (a4 (aa e69 (aa v68 (aa v67 (aa v66 (aa v65 (aa v64 (aa v63 (aa v62 aM))))))))) ?_
   dsimp only [bX]
   clear e69 hJ
   refine bG hh (i := 0) rfl rfl rfl (f69) aF.out aA.out rfl (by decide) (by first | rfl | exact bQ _ | exact bF _ | exact oneCells_i64s _ | exact bf NR.one _) (by omega) (by omega) (by decide) ?_
   intro A70 c70 w70 hh
   simp only [List.set_cons_zero] at hh
   refine aL (ae (sr (mL (mL (mI ?_)))))
   refine a5 rfl rfl (by decide) (gd aF.out aA.size rfl rfl (l := i) (by omega) (by omega) (by omega)) ?_
   refine bG hh (i := 0) rfl rfl rfl (hS2.ext hh.below) aF.out aA.out rfl (by decide) ?one13 (by omega) (by omega) (by decide) ?kk13
   case one13 => first | rfl | assumption | exact oneCells_i64s _ | exact oneCells_u8s _
   intro A75 c75 w75 hh
   simp only [List.set_cons_zero] at hh
   refine aL (ae (al ?_))
   refine cn ?_
   have e1 : (fw l x).length = 0 + i + 1 + (i - i) := by rw [hput, List.length_append, List.length_cons, List.length_take, List.length_drop]; omega
   have e2 : aP TR.cells (fw l x) = [] ++ aP TR.cells (l.take i) ++ [.string x.m, .bool (nR x.c.d).neg, .string (nR x.c.d).bu, .int .i64 (nR x.c.d).e] ++ aP TR.cells (l.drop i) := by rw [hput, bS, fS, List.nil_append, List.append_assoc]; rfl
   exact ⟨_, _, by rw [e1], by rw [e1, e2]; exact hh.sub (List.Sublist.cons_cons _ (List.nil_sublist _))⟩
theorem pH {k : Nat} {l : List TR} (ho : fT k l) (hk : k + l.length ≤ 3999980) : fT (k + l.length) (fP l) := fun t ht => by
 have h := sw l (fun t ht => (ho t ht).2) t ht
 exact ⟨by rw [su l t ht]; exact h.ok (by omega), h⟩
theorem kK (v : Int) (A : Option Addr) (n c : Nat) (l : List TR) (k : Nat) (w : World) (hS : Sl w A n 4 (aP TR.cells l)) (hn : n ≤ 100000) (ho : fT k l) (hk : k + n ≤ 3999980) :
  Calls Tryz.prog 94 #[.int .i64 v, .slice A n c] w fun r w' => ∃ g : PX, cZ (fe l) v (aZ l) g ∧ r = .returned (.tuple #[.agg #[.int .i64 g.v, .slice g.A g.n g.c], .int .i64 (fe l)]) ∧ Hp w [g.row] w' := by
 have hh := Hp.start w
 have hln := hS.cx TR.len (by decide)
 refine aj (N := 49) (l := [.int .i64 v, .slice A n c]) Tryz.func94 rfl rfl (by simp) ?_
 refine sr ?_
 refine cj hh ?_
 intro b4 w4 hh
 refine aI (ae (sr (aL (ae (ah (sr (aI (ae (ao ?_)))))))))
 replace hh := hh.dK 55 4
 refine cE [6, 7, 10, 11, 12, 13, 14, 15, 16, 17, 18, 19, 20, 21] 6 7
  (fun a x w' => ∃ (i : Nat) (A' : Option Addr) (c' : Nat), i ≤ n ∧ x = .int .i64 i ∧ a = .slice A' (fP (l.take i)).length c' ∧ Hp w [.row A' (fP (l.take i)).length c' 55 4 (aP TR.cells (fP (l.take i))), .blk b4 24 [.int .i64 0, .slice none 0 0] (0, 0)] w')
  (fun _ x _ => n - (intOf x).toNat) ?_ ?_
 ·exact ⟨0, none, 0, Nat.zero_le _, rfl, rfl, hh⟩
 ·clear hh
  rintro ρ' a_ x_ w' ⟨i, A', c', hi, rfl, rfl, hh⟩
  have hGl := pV (l.take i)
  rw [List.length_take] at hGl
  by_cases hlt : i < n
  ·obtain ⟨x, hx⟩ := aE (l := l) (k := i) (by omega)
   obtain ⟨ad, rfl, hr⟩ := hS.at_ (by omega)
   have hgo := pH (l := l.take i) (k := k) (fun t ht => ho t (List.mem_of_mem_take ht)) (by rw [List.length_take]; omega)
   refine ah (sr (mI (mL (a0 ?_))))
   refine aW (ae (cT (ak (ai (ah (ao (aq (mL (mL (mI ?_))))))))))
   refine aQ (k := i) aF.out aA.size rfl rfl (by omega) (by omega) (by decide) ?_
   refine bR (vs := [_, _, _, _]) aA.out rfl ((hr.ext hh.below).recAt TR.len hx) rfl (by decide) ?_
   refine aR (uD A' (fP (l.take i)).length c' (fP (l.take i)) x _ (hh.aJ (i := 0) rfl) (hh.jK (i := 0) rfl) (by omega) (fun t ht => (hgo t ht).1) (ho x (List.mem_of_getElem? hx)).1) ar.out rfl (by decide) ?_
   rintro e_ w21 ⟨A2, c2, rfl, h3⟩
   refine ⟨_, rfl, ?_⟩
   replace hh := hh.join h3
   simp only [List.cons_append, List.nil_append] at hh
   rw [← fJ, ← aN hx] at hh ⊢
   refine aL (aC (aT (ai (aq (mI ?_)))))
   refine bL (aI (aC (ai ?_)))
   replace hh := hh.sub (List.Sublist.cons_cons _ (List.Sublist.cons _ (List.Sublist.cons_cons _ List.Sublist.slnil)))
   refine ⟨⟨i + 1, A2, c2, by omega, rfl, rfl, hh⟩, by show n - (i + 1) < n - i; omega, ?_⟩
   (repeat (first | exact aw _ _ _ | refine ax rfl ?_ | refine au rfl ?_))
  ·obtain rfl : i = n := by omega
   rw [List.take_of_length_le (by omega)] at hh hGl ⊢
   have hgo := pH ho (by omega)
   have hgt : aZ l = (fP l).filter kt := rfl
   unfold fe
   rw [hgt]
   generalize fP l = G at *
   obtain ⟨m, hm⟩ : ∃ m, m = G.length := ⟨_, rfl⟩
   rw [← hm] at hh ⊢
   refine ah (sr (mI (mL (a0 ?_))))
   refine aW (ae (cF ?_))
   refine aO ?_
   refine ay (ay (a8 (ai (sr (aL (ae (ah (sr (aI (ae (ao ?_)))))))))))
   replace hh := hh.dK 55 4
   refine cE [8, 9, 22, 23, 24, 25, 26, 27, 28, 29, 30, 31, 32, 33, 34, 35, 36, 37, 38, 39, 40, 41] 8 9
    (fun a x w' => ∃ (j : Nat) (B : Option Addr) (d : Nat), j ≤ m ∧ x = .int .i64 j ∧ a = .slice B ((G.take j).filter kt).length d ∧ Hp w [.row B ((G.take j).filter kt).length d 55 4 (aP TR.cells ((G.take j).filter kt)), .row A' m c' 55 4 (aP TR.cells G), .blk b4 24 [.int .i64 0, .slice none 0 0] (0, 0)] w')
    (fun _ x _ => m - (intOf x).toNat) ?_ ?_
   ·exact ⟨0, none, 0, Nat.zero_le _, rfl, rfl, hh⟩
   ·clear hh
    rintro ρ2 a2 x2 w2 ⟨j, B, d, hj, rfl, rfl, hh⟩
    have hfl : ((G.take j).filter kt).length ≤ j := Nat.le_trans (List.length_filter_le _ _) (by rw [List.length_take]; omega)
    by_cases hjm : j < m
    ·obtain ⟨t, ht⟩ := aE (l := G) (k := j) (by omega)
     have hto := hgo t (List.mem_of_getElem? ht)
     have hsg := fun w1 => eg t.c w1 (by have := hto.1.1; omega)
     have hzz : t.c.i.sign = 0 ↔ t.c.d = 0 := by
      rw [Int.sign_eq_zero_iff_zero]
      exact ⟨fun h => by unfold NR.d; rw [h]; rfl, gN⟩
     obtain ⟨g0, rfl⟩ := hh.eM (i := 1) rfl (by omega)
     by_cases hz : t.c.d = 0
     ·have hs := hzz.2 hz
      have hft : (G.take (j + 1)).filter kt = (G.take j).filter kt := by
       rw [aN ht, List.filter_append, List.filter_cons, if_neg (by unfold kt; rw [decide_eq_true hz]; decide)]
       simp
      refine ah (sr (mI (mL (a0 ?_))))
      refine aW (ae (cT (ak (ai (ah (ao (sr (mL (mI ?_)))))))))
      refine bg (k := j) aF.out aA.size rfl rfl (by omega) (by omega) (by decide) ?_
      refine bB ?_
      refine bR (vs := [_, _, _]) aA.out rfl ((hh.iX (f := TR.cells) (x := t) (l := G) (i := 1) rfl TR.len (by decide) ht).drop 1) rfl (by decide) ?_
      refine bA hh (hsg _) rfl ?_
      intro w33 hh
      refine cQ (ae (cF (ak (aT (ai (aq (mI ?_)))))))
      refine bL (aI (aC (ai ?_)))
      refine ⟨⟨j + 1, B, d, by omega, rfl, by rw [hft]; rfl, by rw [hft]; exact hh⟩, by show m - (j + 1) < m - j; omega, ?_⟩
      (repeat (first | exact aw _ _ _ | refine ax rfl ?_ | refine au rfl ?_))
     ·have hs : ¬ t.c.i.sign = 0 := fun h => hz (hzz.1 h)
      have hft : (G.take (j + 1)).filter kt = (G.take j).filter kt ++ [t] := by
       rw [aN ht, List.filter_append, List.filter_cons, if_pos (by unfold kt; rw [decide_eq_false hz]; rfl)]
       simp
      refine ah (sr (mI (mL (a0 ?_))))
      refine aW (ae (cT (ak (ai (ah (ao (sr (mL (mI ?_)))))))))
      refine bg (k := j) aF.out aA.size rfl rfl (by omega) (by omega) (by decide) ?_
      refine bB ?_
      refine bR (vs := [_, _, _]) aA.out rfl ((hh.iX (f := TR.cells) (x := t) (l := G) (i := 1) rfl TR.len (by decide) ht).drop 1) rfl (by decide) ?_
      refine bA hh (hsg _) rfl ?_
      intro w33 hh
      refine cQ (ae (cT (aq (mL (mL (mI ?_))))))
      refine bg (k := j) aF.out aA.size rfl rfl (by omega) (by omega) (by decide) ?_
      refine bR (vs := [_, _, _, _]) aA.out rfl (hh.iX (f := TR.cells) (x := t) (l := G) (i := 1) rfl TR.len (by decide) ht) rfl (by decide) ?_
      refine bO hh (cs := [_, _, _, _]) aF.out aA.out (br (ez rfl) ct) rfl rfl (by decide) (by decide) (by decide) rfl (by decide) ?_
      intro b40 w40 hh
      refine bG hh (i := 1) rfl rfl rfl (hh.aJ (i := 0) rfl) aF.out aA.out rfl (by decide) (by first | rfl | exact bQ _ | exact bF _ | exact oneCells_i64s _ | exact bf NR.one _) (by omega) (by omega) (by decide) ?_
      intro A41 c41 w41 hh
      simp only [List.set_cons_zero, List.set_cons_succ] at hh
      replace hh := hh.sub (List.sublist_cons_self _ _)
      refine aL (aC (aT (ai (aq (mI ?_)))))
      refine bL (aI (aC (ai ?_)))
      refine ⟨⟨j + 1, A41, c41, by omega, rfl, by rw [hft, List.length_append]; rfl, by rw [hft, List.length_append, bS, gk]; exact hh⟩, by show m - (j + 1) < m - j; omega, ?_⟩
      (repeat (first | exact aw _ _ _ | refine ax rfl ?_ | refine au rfl ?_))
    ·obtain rfl : j = m := by omega
     rw [List.take_of_length_le (by omega)] at hh hfl ⊢
     generalize G.filter kt = F at *
     by_cases h4 : 4096 < F.length
     ·rw [if_pos h4]
      refine ah (sr (mI (mL (a0 ?_))))
      refine aW (ae (cF ?_))
      refine aO ?_
      refine ay (ay (a8 (ai (ah (sr (mL (a0 ?_)))))))
      refine ck (ae (cT (sr ?_)))
      refine eH [_,_] ?_
      refine bD hh 2 [_,_] ?_
      intro ws hh
      replace hh : Hp _ (_ :: _ :: .blk _ _ [_, _] _ :: _) _ := hh
      refine aI (ae (al (aD ?_)))
      refine iV (aH rfl (aG (vs := [_, _]) aA.out (hh.av (i := 2) (n := 2) rfl rfl) rfl) (cb (cv rfl) a9)) ?_
      exact ⟨PX.nil, cZ.err (by decide), rfl, (hh.sub (List.nil_sublist _)).iW⟩
     ·rw [if_neg h4]
      refine ah (sr (mI (mL (a0 ?_))))
      refine aW (ae (cF ?_))
      refine aO ?_
      refine ay (ay (a8 (ai (ah (sr (mL (a0 ?_)))))))
      refine ck (ae (cF (ak (ai (sr (mI (mL ?_)))))))
      refine eH [_,_] ?_
      refine bD hh 2 [_,_] ?_
      intro ws hh
      replace hh : Hp _ (_ :: _ :: .blk _ _ [_, _] _ :: _) _ := hh
      refine aI (ae (al ?_))
      refine iV (aH rfl (aG (vs := [_, _]) aA.out (hh.av (i := 2) (n := 2) rfl rfl) rfl) (cb (cv rfl) a9)) ?_
      exact ⟨⟨v, B, F.length, d, F⟩, ⟨rfl, rfl⟩, rfl, hh.sub (List.Sublist.cons_cons _ (List.nil_sublist _))⟩
end Go.Proofs.YtaapkaefelhfcaaGreatDoor
/- The walks through ogeeref08.Like and Times. -/
namespace Go.Proofs.YtaapkaefelhfcaaGreatDoor
open Go.RowKit
theorem sK (g : PX) (k : Nat) (w : World) (h : g.at_ w) (hl : g.lk k) :
  Calls Tryz.prog 87 #[.agg #[.int .i64 g.v, .slice g.A g.n g.c]] w fun r w' => r = .returned (.int .i64 g.e) ∧ Below w.heap.size w w' :=
 pE g.v g.A g.n g.c g.ts w h hl.n fun t ht => ⟨(hl.ok t ht).1, hl.sz t ht⟩
end Go.Proofs.YtaapkaefelhfcaaGreatDoor
/- The walks through poly.Const and poly.Var. -/
namespace Go.Proofs.YtaapkaefelhfcaaGreatDoor
open Go.RowKit
def gw (v : Int) : ByteArray := ⟨(List.replicate v.toNat 0).toArray⟩
theorem kS {v : Int} (h : 0 ≤ v) : ((gw v).size : Int) = v := by
 have : (gw v).size = v.toNat := by unfold gw; show (List.replicate v.toNat (0 : UInt8)).toArray.size = _; rw [List.size_toArray, List.length_replicate]
 omega
theorem pR (v : Int) : ef (gw v).data.toList = true := by
 unfold ef gw
 rw [List.all_eq_true]
 intro c hc
 have : (⟨(List.replicate v.toNat (0 : UInt8)).toArray⟩ : ByteArray).data.toList = List.replicate v.toNat 0 := rfl
 rw [this] at hc
 rw [(List.mem_replicate.1 hc).2]
 decide
theorem yz {l : List TR} (h : l.length ≤ 4096) : fe l = 0 := by
 unfold fe
 have := gy l
 rw [if_neg (by omega)]
theorem xX {v : Int} {t : TR} (hf : gl v = true) (h : ew v t = true) : iT v [t] = 0 := by
 unfold iT
 rw [if_neg (by rw [hf]; simp [h]), if_neg (by simp), yz (by simp)]
def uQ (v : Int) : Int := if gl v = false then 1 else 0
theorem l8 (v : Int) (c : NR) (k : Nat) (w : World) (hT : gW w) (hc : c.ok ∧ Sz k c.d) (hk : k ≤ 2999980) :
  Calls Tryz.prog 63 #[.int .i64 v, .agg #[.bool c.neg, .string c.bu, .int .i64 c.e]] w fun r w' => ∃ g : PX, cZ (uQ v) v (aZ [⟨gw v, c⟩]) g ∧ r = .returned (.tuple #[.agg #[.int .i64 g.v, .slice g.A g.n g.c], .int .i64 (uQ v)]) ∧ Hp w [g.row] w' := by
 have hh := Hp.start w
 have hfw := fun w1 => mi v w1
 cases hf : gl v with
 | false =>
  rw [hf] at hfw
  rw [show uQ v = 1 by unfold uQ; rw [if_pos hf]]
  refine aj (N := 20) (l := [.int .i64 v, .agg #[.bool c.neg, .string c.bu, .int .i64 c.e]]) Tryz.func63 rfl rfl (by simp) ?_
  refine sr ?_
  refine cz hh [_,_,_] ?_
  intro b3 w3 hh
  refine cj hh ?_
  intro b4 w4 hh
  refine aI (ae (ah (sr (mI ?_))))
  refine bA hh (hfw _) rfl ?_
  intro w7 hh
  refine gg ?_
  refine ae (cT (sr ?_))
  refine eH [_,_] ?_
  refine bD hh 0 [_,_] ?_
  intro ws hh
  replace hh : Hp _ (.blk _ _ [_, _] _ :: _) _ := hh
  refine aI (ae (al (aD ?_)))
  refine iV (aH rfl (aG (vs := [_, _]) aA.out (hh.av (i := 0) (n := 2) rfl rfl) rfl) (cb (cv rfl) a9)) ?_
  exact ⟨PX.nil, cZ.err (by decide), rfl, (hh.sub (List.nil_sublist _)).iW⟩
 | true =>
  rw [hf] at hfw
  obtain ⟨h0, h12⟩ := eB.1 hf
  have hm : iT v [⟨gw v, c⟩] = 0 := xX hf (by unfold ew; rw [pR, decide_eq_true (kS h0)]; rfl)
  have hmk := fun A cc w1 hT1 hS1 => j0 v A 1 cc [⟨gw v, c⟩] k w1 hT1 hS1 (by decide) (by omega) (fun t ht => by rw [List.mem_singleton.1 ht]; exact hc) (fun t ht => by rw [List.mem_singleton.1 ht]; have := kS h0; show (gw v).size ≤ _; omega)
  rw [hm] at hmk
  rw [show uQ v = 0 by unfold uQ; rw [if_neg (by rw [hf]; decide)]]
  refine aj (N := 20) (l := [.int .i64 v, .agg #[.bool c.neg, .string c.bu, .int .i64 c.e]]) Tryz.func63 rfl rfl (by simp) ?_
  refine sr ?_
  refine cz hh [_,_,_] ?_
  intro b3 w3 hh
  refine cj hh ?_
  intro b4 w4 hh
  refine aI (ae (ah (sr (mI ?_))))
  refine bA hh (hfw _) rfl ?_
  intro w7 hh
  refine gg ?_
  refine ae (cF (ak (ai (ah ?_))))
  refine mf [] [0, 0, 2, 6, 0, 30, 62, 127, 255, 255, 1023, 2047] 7 [[(0, none)], [(0, none)], [(11, some 1)], [(12, some 2)], [(3, none)], [(13, some 3), (14, some 4)], [(15, some 5)]] [(6, 16), (5, 15), (4, 14), (3, 13), (2, 12), (1, 11), (0, 10)] [([], 4, [(6, 16), (5, 15), (4, 14), (3, 13), (2, 12), (1, 11), (0, 10)])] hh mixed (by kernel_rfl) (by kernel_rfl) (by decide) ?_
  refine ej ?_
  refine ej ?_
  refine bk (i := 2) (fm v.toNat 1 (iQ (List.replicate v.toNat 0))) (fm.ext) ?_ ?_
  ·intro ρ1 w1 hj hR
   exact uE v.toNat ▸ y9 (n := v.toNat) (show ρ1 11 = Value.int _ _ from hR.1) (show ρ1 11 = Value.int _ _ from hR.1) (by omega) (by omega) aF.out aA.out rfl (by omega) (by omega) (fun _ _ h1 h2 => ⟨h2, h1⟩)
  refine bk (i := 3) (Is (.string (gw v))) (Is.ext) ?_ ?_
  ·intro ρ1 w1 hj hR
   exact let ⟨g, e, o⟩ := hR.1; bY rfl (iL (l := List.replicate v.toNat 0) aF.out aF.out aF.out e o) ⟨Below.refl _ _, rfl⟩
  refine dZ 1 [_,_,_] ?_
  refine dB [_,_,_,_] ?_
  refine px [_,_,_,_] ?_
  refine a6 ?_
  intro p_ hp_
  simp only [List.mem_cons, List.not_mem_nil, or_false] at hp_
  rcases hp_ with rfl
  intro f W hJ hV
  have hb_3 := hJ.bl
  obtain ⟨v16, v15, v14, v13, v12, v11, v10, _⟩ := hV
  simp only [iB]
  have e10 : f 0 = _ := v10
  rw [e10]
  have e11 : f 1 = _ := v11
  rw [e11]
  obtain ⟨g12, e12, o12⟩ : fm v.toNat 1 (iQ (List.replicate v.toNat 0)) (f 2) W := v12
  rw [e12]
  have e13 : f 3 = _ := v13
  rw [e13]
  have e14 : f 4 = _ := v14
  rw [e14]
  have e15 : f 5 = _ := v15
  rw [e15]
  obtain ⟨A16, c16, e16, f16⟩ : Rows _ _ _ (f 6) W := v16
  rw [e16]
  replace hh := hJ.hp
  clear e10 e11 e12 e13 e14 e15 e16 hJ
  refine aR (hmk _ _ _ (hT.hp hh) f16) ar.out rfl (by decide) ?_; rintro e_ w17 ⟨g, og, rfl, h3⟩; refine ⟨_, rfl, ?_⟩; replace hh := hh.join h3
  refine cN ?_
  simp only [List.cons_append, List.nil_append] at hh
  refine cY (i := 8) (by repeat (first | exact bW | refine bC ?_ | refine bV ?_ | refine np_scope ?_)) rfl (by kernel_rfl) (by kernel_rfl) (by kernel_rfl) (fun _ => eb (show _ = Value.tuple (List.toArray _) from rfl) rfl) (by decide) ?_
  refine cY (i := 9) (by repeat (first | exact bW | refine bC ?_ | refine bV ?_ | refine np_scope ?_)) rfl (by kernel_rfl) (by kernel_rfl) (by kernel_rfl) (fun _ => eb (show _ = Value.tuple (List.toArray _) from rfl) rfl) (by decide) ?_
  refine dY 10 (by decide) (by kernel_rfl) (by decide) (by kernel_rfl) (by kernel_rfl) ?_
  refine bD hh 1 [_,_] ?_
  intro ws hh
  replace hh : Hp _ (_ :: .blk _ _ [_, _] _ :: _) _ := hh
  refine aI (ae (al ?_))
  refine iV (aH rfl (aG (vs := [_, _]) aA.out (hh.av (i := 1) (n := 2) rfl rfl) rfl) (cb (cv rfl) a9)) ?_
  exact ⟨g, og, rfl, hh.sub (List.Sublist.cons_cons _ (List.nil_sublist _))⟩
def CQ (v : Int) (x : Nat) : ByteArray := ⟨((List.replicate v.toNat (0 : UInt8)).set x 1).toArray⟩
def CM (v x : Int) : Int := if gl v = false ∨ x < 0 ∨ v ≤ x then 1 else 0
end Go.Proofs.YtaapkaefelhfcaaGreatDoor
/- The walks through ogeeref08.Make, Const, Var. -/
namespace Go.Proofs.YtaapkaefelhfcaaGreatDoor
open Go.RowKit
end Go.Proofs.YtaapkaefelhfcaaGreatDoor
/- The walk through poly.Pow. -/
namespace Go.Proofs.YtaapkaefelhfcaaGreatDoor
open Go.RowKit
def Cq (p : PX) (n : Nat) : List TR × Int := (List.replicate n p).foldl gJ (aZ [⟨gw p.v, nR ((1 : Int) : Dyadic)⟩], 0)
def CB (p : PX) (n : Int) : Int := if p.e = 0 then (if n < 0 ∨ 127 < n then 1 else (Cq p n.toNat).2) else p.e
end Go.Proofs.YtaapkaefelhfcaaGreatDoor
/- The walks through ogeeref08.Mul and Pow. -/
namespace Go.Proofs.YtaapkaefelhfcaaGreatDoor
open Go.RowKit
def CC (ps : List PX) (R : List HE) (g : PX) : Prop := (g ∈ ps ∧ R = []) ∨ R = [g.row]
end Go.Proofs.YtaapkaefelhfcaaGreatDoor
/- The walk through poly.Degs. -/
namespace Go.Proofs.YtaapkaefelhfcaaGreatDoor
open Go.RowKit
def BF (s : ByteArray) (i : Nat) : Int := match s.data.toList[i]? with | some c => c.toNat | none => 0
def CJ (l : List TR) (i : Nat) : Int := l.foldl (fun m t => max m (BF t.m i)) 0
def Cv (m : Nat) (l : List TR) : List Int := (List.range m).map (CJ l)
def CW (v : Int) (ts : List TR) : List Int := if fy v ts = 0 then Cv v.toNat ts else []
end Go.Proofs.YtaapkaefelhfcaaGreatDoor
