/- Lemmas for calcSubsts, part 5. -/
import Derived.Test.YtaapkaefelhfcaaGreatDoorZ4
/- The walks through slices.IndexFunc, ContainsFunc, DeleteFunc, Clone of terms. -/
namespace Go.Proofs.YtaapkaefelhfcaaGreatDoor
open Go.RowKit
theorem oO (A : Option Addr) (n c : Nat) (l : List TR) (g : FuncId) (cap : List Value) (p : TR → Bool) (w : World) (hS : Sl w A n 4 (aQ TR.cells l)) (hn : n ≤ 1000000) [av Tryz.prog g]
  (hg : ∀ (z : TR) (w1 : World), z ∈ l → Below w.heap.size w w1 → Calls Tryz.prog g (.agg #[.string z.m, .bool z.c.neg, .string z.c.bJ, .int .i64 z.c.e] :: cap).toArray w1 fun r w' => r = .returned (.bool (p z)) ∧ Below w1.heap.size w1 w') :
  Calls Tryz.prog 239 #[.slice A n c, .func (.func g) #[] cap.toArray] w fun r w' => ∃ v, r = .returned (.int .i64 v) ∧ ((l.any p = false ∧ v = -1) ∨ ∃ (i : Nat) (z : TR), i < n ∧ v = i ∧ (l.take i).any p = false ∧ l[i]? = some z ∧ p z = true) ∧ Below w.heap.size w w' := by
 have hh := Hp.start w
 have hln := hS.cg TR.len (by decide)
 refine ak (N := 19) (l := [.slice A n c, .func (.func g) #[] cap.toArray]) Tryz.func239 rfl rfl (by simp) ?_
 refine sr (aI (ae (ah (sr (mL (aO (mI (ae (al ?_)))))))))
 refine bs [4, 5, 8, 9, 10, 11, 12, 13, 14, 15, 16, 17, 18] 8
  (fun v w' => ∃ i : Nat, i ≤ n ∧ v = .int .i64 i ∧ (l.take i).any p = false ∧ Hp w [] w')
  (fun v _ => n - (intOf v).toNat) ?_ ?_
 ·exact ⟨0, Nat.zero_le _, rfl, rfl, hh⟩
 ·clear hh
  rintro ρ' v w' ⟨i, hi, rfl, hall, hh⟩
  by_cases hlt : i < n
  ·obtain ⟨z, hz⟩ := aD (l := l) (k := i) (by omega)
   obtain ⟨ad, rfl, hr⟩ := hS.at_ (by omega)
   have hc := fun w1 => hg z w1 (List.mem_of_getElem? hz)
   cases gz : p z with
   | true =>
    rw [gz] at hc
    refine sr ?_
    refine aU (ae (ah (cT (aj (ai (ah (al (sr (mI (aI (ae ?_)))))))))))
    refine sr ?_
    refine fU (by first | exact ik rfl | exact ev_nilf rfl) (by decide) ?_
    refine mL (mI ?_)
    refine aR (k := i) aF.out aC.size rfl rfl (by omega) (by omega) (by decide) ?_
    refine bQ (vs := [_, _, _, _]) aC.out rfl ((hr.ext hh.below).recAt TR.len hz) rfl (by decide) ?_
    refine fL (hc _ hh.below) av.out rfl rfl (by decide) ?_
    rintro e_ w16 ⟨rfl, hb_⟩
    refine ⟨_, rfl, ?_⟩
    replace hh := hh.ext hb_
    refine ae (cT (sr (mI (aI (ae (ao (br (az (az (br (az ?_)))))))))))
    refine cA ?_
    exact ⟨_, rfl, .inr ⟨i, z, hlt, rfl, hall, hz, gz⟩, hh.below⟩
   | false =>
    rw [gz] at hc
    refine sr ?_
    refine aU (ae (ah (cT (aj (ai (ah (al (sr (mI (aI (ae ?_)))))))))))
    refine sr ?_
    refine fU (by first | exact ik rfl | exact ev_nilf rfl) (by decide) ?_
    refine mL (mI ?_)
    refine aR (k := i) aF.out aC.size rfl rfl (by omega) (by omega) (by decide) ?_
    refine bQ (vs := [_, _, _, _]) aC.out rfl ((hr.ext hh.below).recAt TR.len hz) rfl (by decide) ?_
    refine fL (hc _ hh.below) av.out rfl rfl (by decide) ?_
    rintro e_ w16 ⟨rfl, hb_⟩
    refine ⟨_, rfl, ?_⟩
    replace hh := hh.ext hb_
    refine ae (cF (aj (aW (ai (aq ?_)))))
    refine bL (mI (aE (ai ?_)))
    refine ⟨⟨i + 1, by omega, rfl, by rw [aJ hz, List.any_append, hall, List.any_cons, List.any_nil, gz]; rfl, hh⟩, by show n - (i + 1) < n - i; omega, ?_⟩
    (repeat (first | exact aw _ _ _ | refine ax rfl ?_ | refine ar rfl ?_))
  ·rw [List.take_of_length_le (by omega)] at hall
   refine sr ?_
   refine aU (ae (ah (cF ?_)))
   refine aP ?_
   refine ay (ay (a6 (ai (sr (aI (ae (ao ?_)))))))
   refine cA ?_
   exact ⟨_, rfl, .inl ⟨hall, rfl⟩, hh.below⟩
theorem ub (A : Option Addr) (n c : Nat) (l : List TR) (g : FuncId) (cap : List Value) (p : TR → Bool) (w : World) (hS : Sl w A n 4 (aQ TR.cells l)) (hn : n ≤ 1000000) [av Tryz.prog g]
  (hg : ∀ (z : TR) (w1 : World), z ∈ l → Below w.heap.size w w1 → Calls Tryz.prog g (.agg #[.string z.m, .bool z.c.neg, .string z.c.bJ, .int .i64 z.c.e] :: cap).toArray w1 fun r w' => r = .returned (.bool (p z)) ∧ Below w1.heap.size w1 w') :
  Calls Tryz.prog 187 #[.slice A n c, .func (.func g) #[] cap.toArray] w fun r w' => r = .returned (.bool (l.any p)) ∧ Below w.heap.size w w' := by
 have hh := Hp.start w
 refine ak (N := 9) (l := [.slice A n c, .func (.func g) #[] cap.toArray]) Tryz.func187 rfl rfl (by simp) ?_
 refine sr (aB (ae (sr (mL ?_))))
 refine fU (by first | exact ik rfl | exact ev_nilf rfl) (by decide) ?_
 refine aV (oO A n c l g cap p _ (hS.ext hh.below) hn hg) av.out rfl (by decide) ?_
 rintro e_ w7 ⟨v_, rfl, hv_, hb_⟩
 refine ⟨_, rfl, ?_⟩
 replace hh := hh.ext hb_
 rcases hv_ with ⟨ha, rfl⟩ | ⟨i, z, hi, rfl, ht, hz, hp⟩
 ·rw [ha]
  refine dn (aB (ae (ao ?_)))
  refine cA ?_
  exact ⟨rfl, hh.below⟩
 ·rw [show l.any p = true from List.any_eq_true.2 ⟨z, List.mem_of_getElem? hz, hp⟩]
  refine dn (aB (ae (ao ?_)))
  refine cA ?_
  exact ⟨rfl, hh.below⟩
theorem lR (A : Option Addr) (n c : Nat) (l : List TR) (w : World) (hS : Sl w A n 4 (aQ TR.cells l)) (hn : n ≤ 1000000) :
  Calls Tryz.prog 107 #[.slice A n c] w fun r w' => ∃ A' c', r = .returned (.slice A' n c') ∧ w'.ownsRow w.heap.size 55 4 (.slice A' n c') n (aQ TR.cells l) ∧ Below w.heap.size w w' := by
 have hh := Hp.start w
 have oX := bf TR.one l
 rcases A with _ | ad
 ·have hn0 : n = 0 := by
   rcases Nat.eq_zero_or_pos n with h | h
   ·exact h
   ·obtain ⟨_, h1, _⟩ := hS.2 h; cases h1
  subst hn0
  have hl : l = [] := List.eq_nil_of_length_eq_zero (by have := hS.cg TR.len (by decide); omega)
  subst hl
  refine ak (N := 8) (l := [.slice none 0 c]) Tryz.func107 rfl rfl (by simp) ?_
  refine sr (aL (ae (ah (sr (mL ?_)))))
  refine vN aF.out rfl rfl (by decide) ?_
  refine ae (cT (sr (aL (ae (ao (az ?_))))))
  refine cA ?_
  exact ⟨_, _, rfl, World.ownsRow_nil _ _ _ _, hh.below⟩
 ·refine ak (N := 8) (l := [.slice (some ad) n c]) Tryz.func107 rfl rfl (by simp) ?_
  refine sr (aL (ae (ah (sr (mL ?_)))))
  refine vN aF.out rfl rfl (by decide) ?_
  refine ae (cF (aj (ai (sr ?_))))
  refine iH hh aF.out aC.out (by decide) ?_
  intro b5 w5 hh
  refine mL ?_
  refine bF hh (i := 0) rfl rfl rfl (hS.ext hh.below) aF.out aC.out rfl (by decide) ?one8 (by omega) (by omega) (by decide) ?kk8
  case one8 => first | rfl | assumption | exact oneCells_i64s _ | exact oneCells_u8s _
  intro A7 c7 w7 hh
  simp only [List.set_cons_zero] at hh
  rw [Nat.zero_add] at hh ⊢
  rw [List.nil_append] at hh
  refine aL (ae (ao ?_))
  refine cA ?_
  exact ⟨_, _, rfl, hh.at_ (i := 0) rfl, hh.below⟩
theorem tL {α : Type} {l : List α} {i j : Nat} (h : i < j) (x : α) : (l.set i x).drop j = l.drop j := by
 refine List.ext_getElem? fun k => ?_
 rw [List.getElem?_drop, List.getElem?_drop, List.getElem?_set, if_neg (by omega)]
theorem pP {α : Type} {l : List α} {i : Nat} (h : i < l.length) (x : α) : (l.set i x).take (i + 1) = l.take i ++ [x] := by
 rw [aJ (show (l.set i x)[i]? = some x by rw [List.getElem?_set, if_pos rfl, if_pos h]), List.take_set_of_le (Nat.le_refl _)]
theorem uA {w0 : World} {Hr : List HE} (A : Option Addr) (n c : Nat) (l : List TR) (g : FuncId) (p : TR → Bool) (w : World) (hh : Hp w0 (.row A n c 55 4 (aQ TR.cells l) :: Hr) w) (hl : l.length = n) (hn : n ≤ 1000000) [av Tryz.prog g]
  (hg : ∀ (z : TR) (w1 : World), z ∈ l → Calls Tryz.prog g (.agg #[.string z.m, .bool z.c.neg, .string z.c.bJ, .int .i64 z.c.e] :: []).toArray w1 fun r w' => r = .returned (.bool (p z)) ∧ Below w1.heap.size w1 w') :
  Calls Tryz.prog 195 #[.slice A n c, .func (.func g) #[] #[]] w fun r w' => r = .returned (.slice A (l.filter fun z => !p z).length c) ∧ Hp w0 (.row A (l.filter fun z => !p z).length c 55 4 (aQ TR.cells (l.filter fun z => !p z)) :: Hr) w' := by
 have hc := hh.g7 (i := 0) rfl
 have hsl := hh.aK (i := 0) rfl
 refine ak (N := 42) (l := [.slice A n c, .func (.func g) #[] #[]]) Tryz.func195 rfl rfl (by simp) ?_
 refine sr (aL (ae (sr (mL ?_))))
 refine fU (by first | exact ik rfl | exact ev_nilf rfl) (by decide) ?_
 refine aV (oO A n c l g [] p _ hsl hn (fun z w1 hz _ => hg z w1 hz)) av.out rfl (by decide) ?_
 rintro e_ w10 ⟨v_, rfl, hv_, hb_⟩
 refine ⟨_, rfl, ?_⟩
 replace hh := hh.ext hb_
 rcases hv_ with ⟨ha, rfl⟩ | ⟨i0, z0, hi0, rfl, ht0, hz0, hp0⟩
 ·have hf : (l.filter fun z => !p z) = l := List.filter_eq_self.2 fun z hz => by
   have := List.any_eq_false.1 ha z hz
   simpa using this
  rw [hf, hl]
  refine aI (ae (ah (sr (mI ?_))))
  refine ck (ae (cT (sr (mL (aL (ae (ao (az ?_))))))))
  refine cA ?_
  exact ⟨rfl, hh⟩
 ·have hf0 : ((l.take (i0 + 1)).filter fun z => !p z) = l.take i0 := by
   rw [aJ hz0, List.filter_append, List.filter_cons_of_neg (by rw [hp0]; decide), List.filter_nil, List.append_nil]
   exact List.filter_eq_self.2 fun z hz => by
    have := List.any_eq_false.1 ht0 z hz
    simpa using this
  obtain ⟨g0, rfl⟩ := hh.eO (i := 0) rfl (by omega)
  refine aI (ae (ah (sr (mI ?_))))
  refine ck (ae (cF (aj (ai (ah (sr (mI ?_)))))))
  refine bL (aI (ae (al ?_)))
  refine ct [5, 6, 7, 16, 17, 18, 19, 20, 21, 22, 23, 24, 25, 26, 27, 28, 29, 30, 31, 32, 33, 34, 35] 5 6
   (fun v5 v6 w' => ∃ (i j : Nat) (X : List TR), i < j ∧ j ≤ n ∧ v5 = .int .i64 i ∧ v6 = .int .i64 j ∧ X.length = n ∧ i = ((l.take j).filter fun z => !p z).length ∧ X.take i = ((l.take j).filter fun z => !p z) ∧ X.drop j = l.drop j ∧ Hp w0 (.row (some ⟨g0, 0, none⟩) n c 55 4 (aQ TR.cells X) :: Hr) w')
   (fun _ v _ => n - (intOf v).toNat) ?_ ?_
  ·exact ⟨i0, i0 + 1, l, by omega, by omega, rfl, rfl, hl, by rw [hf0, List.length_take]; omega, hf0.symm, rfl, hh⟩
  ·clear hh
   rintro ρ' v5 v6 w' ⟨i, j, X, hij, hj, rfl, rfl, hX, hi, htk, hdr, hh⟩
   by_cases hlt : j < n
   ·obtain ⟨z, hz⟩ := aD (l := l) (k := j) (by omega)
    have hXj : X[j]? = some z := by
     have h1 : (X.drop j)[0]? = (l.drop j)[0]? := by rw [hdr]
     rw [List.getElem?_drop, List.getElem?_drop, Nat.add_zero] at h1
     rw [h1, hz]
    have hgz := fun w1 => hg z w1 (List.mem_of_getElem? hz)
    have hdr2 : X.drop (j + 1) = l.drop (j + 1) := by rw [← List.drop_drop, ← List.drop_drop, hdr]
    have hrl := iI TR.len X
    refine ah (sr (mI (mL (aO ?_))))
    refine aU (ae (cT (aj (ai (ah (al (sr (mL (mI ?_)))))))))
    refine bp (k := j) aF.out aC.size rfl rfl (by omega) (by omega) (by decide) ?_
    refine bQ (vs := [_, _, _, _]) aC.out rfl (hh.iZ (f := TR.cells) (x := z) (l := X) (i := 0) rfl TR.len (by decide) hXj) rfl (by decide) ?_
    refine cv hh ?_
    intro b7 w7 hh
    refine bE hh 0 [_,_,_,_] ?_
    intro ws hh
    replace hh : Hp _ (.blk _ _ [_, _, _, _] _ :: _) _ := hh
    refine ae (sr ?_)
    refine fU (by first | exact ik rfl | exact ev_nilf rfl) (by decide) ?_
    refine dh hh 0 [_,_,_,_] ?_
    cases hpz : p z with
    | true =>
     rw [hpz] at hgz
     have hfl : ((l.take (j + 1)).filter fun z => !p z) = ((l.take j).filter fun z => !p z) := by rw [aJ hz, List.filter_append, List.filter_cons_of_neg (by rw [hpz]; decide), List.filter_nil, List.append_nil]
     refine fL (hgz _) av.out rfl rfl (by decide) ?_
     rintro e_ w28 ⟨rfl, hb_⟩
     refine ⟨_, rfl, ?_⟩
     replace hh := hh.ext hb_
     refine fi ?_
     refine ae (cF (aj (aW (ai (aq (mI ?_))))))
     refine bL (aI (aE (ai ?_)))
     replace hh := hh.sub (List.Sublist.cons _ (List.Sublist.cons_cons _ (List.Sublist.refl _)))
     refine ⟨⟨i, j + 1, X, by omega, by omega, rfl, rfl, hX, by rw [hfl]; exact hi, by rw [hfl]; exact htk, hdr2, hh⟩, by show n - (j + 1) < n - j; omega, ?_⟩
     (repeat (first | exact aw _ _ _ | refine ax rfl ?_ | refine ar rfl ?_))
    | false =>
     rw [hpz] at hgz
     have hfl : ((l.take (j + 1)).filter fun z => !p z) = ((l.take j).filter fun z => !p z) ++ [z] := by rw [aJ hz, List.filter_append, List.filter_cons_of_pos (by rw [hpz]; decide), List.filter_nil]
     refine fL (hgz _) av.out rfl rfl (by decide) ?_
     rintro e_ w28 ⟨rfl, hb_⟩
     refine ⟨_, rfl, ?_⟩
     replace hh := hh.ext hb_
     refine fi ?_
     refine ae (cT (sr (mL (mI ?_))))
     refine dh hh 0 [_,_,_,_] ?_
     refine bp (k := i) aF.out aC.size rfl rfl (by omega) (by omega) (by decide) ?_
     refine bP hh (i := 1) (vs := [_, _, _, _]) rfl rfl (dM rfl) rfl aC.out rfl (by omega) rfl ?_
     intro ws hh
     simp only [List.set_cons_zero, List.set_cons_succ] at hh
     rw [show cB (aQ TR.cells X) (i * 4) [.string z.m, .bool z.c.neg, .string z.c.bJ, .int .i64 z.c.e] = aQ TR.cells (X.set i z) from nm TR.len (by omega)] at hh
     refine ae (aq (mI ?_))
     refine bL (aI (aE (aW (ai (aq (mI ?_))))))
     refine bL (aI (aE (ai ?_)))
     replace hh := hh.sub (List.Sublist.cons _ (List.Sublist.cons_cons _ (List.Sublist.refl _)))
     refine ⟨⟨i + 1, j + 1, X.set i z, by omega, by omega, rfl, rfl, by rw [List.length_set]; exact hX, by rw [hfl, List.length_append, ← hi]; rfl, by rw [hfl, pP (by omega), htk], by rw [tL (by omega)]; exact hdr2, hh⟩, by show n - (j + 1) < n - j; omega, ?_⟩
     (repeat (first | exact aw _ _ _ | refine ax rfl ?_ | refine ar rfl ?_))
   ·obtain rfl : j = n := by omega
    rw [show l.take j = l from List.take_of_length_le (by omega)] at hi htk
    have hcap := hh.g7 (i := 0) rfl
    have hp31 : (if c = i then some (⟨g0, 0, none⟩ : Addr) else (some (⟨g0, 0, none⟩ : Addr)).map (·.add (i * 4))) = some ⟨g0, i * 4, none⟩ := by
     rw [if_neg (by omega)]
     show some ((⟨g0, 0, none⟩ : Addr).add (i * 4)) = _
     rw [eP, Nat.zero_add]
    have htt : (aQ TR.cells X).take (i * 4) = aQ TR.cells (l.filter fun z => !p z) := by rw [ix TR.len, htk]
    refine ah (sr (mI (mL (aO ?_))))
    refine aU (ae (cF ?_))
    refine aP ?_
    refine ay (ay (a6 (ai (sr (mL (mI ?_))))))
    refine a8 rfl rfl (by decide) (gG (l := i) (h := j) aF.out aC.size rfl ⟨_, _, rfl, rfl⟩ rfl (by omega) (by omega)) ?_
    rw [hp31]
    replace hh := hh.ua (k := i) (by omega)
    rw [htt] at hh
    refine q7 hh (i := 0) (o := i * 4) (m := j - i) rfl rfl (by omega) (by omega) (by omega) aF.out aC.out rfl rfl ?_
    intro w38 hh
    refine ae (sr (mL (mI ?_)))
    refine jg (h := i) aF.out aC.size rfl rfl (by omega) (by omega) (by decide) ?_
    refine aL (ae (ao ?_))
    refine cA ?_
    rw [← hi]
    exact ⟨rfl, hh⟩
end Go.Proofs.YtaapkaefelhfcaaGreatDoor
/- The walk through poly.clean. -/
namespace Go.Proofs.YtaapkaefelhfcaaGreatDoor
open Go.RowKit
structure PX where
 v : Int
 A : Option Addr
 n : Nat
 c : Nat
 ts : List TR
def PX.row (g : PX) : HE := .row g.A g.n g.c 55 4 (aQ TR.cells g.ts)
def PX.at_ (g : PX) (w : World) : Prop := Sl w g.A g.n 4 (aQ TR.cells g.ts)
theorem PX.at_.ext {g : PX} {w w' : World} (h : g.at_ w) (hb : Below w.heap.size w w') : g.at_ w' := Sl.ext h hb
theorem PX.at_.ln {g : PX} {w : World} (h : g.at_ w) : g.ts.length = g.n := Sl.cg h TR.len (by decide)
structure cC (E v : Int) (ts : List TR) (g : PX) : Prop where
 v : g.v = if E = 0 then v else 0
 ts : g.ts = if E = 0 then ts else []
def PX.nil : PX := ⟨0, none, 0, 0, []⟩
theorem cC.err {E v : Int} {ts : List TR} (h : E ≠ 0) : cC E v ts PX.nil := ⟨by rw [if_neg h]; rfl, by rw [if_neg h]; rfl⟩
theorem Hp.fP {w0 w : World} {H : List HE} (h : Hp w0 H w) : Hp w0 (PX.nil.row :: H) w := h.di 55 4
theorem pQ {w0 : World} {Hr : List HE} (A : Option Addr) (n c : Nat) (l : List TR) (k : Nat) (w : World) (hT : hG w) (hh : Hp w0 (.row A n c 55 4 (aQ TR.cells l) :: Hr) w) (hl : l.length = n) (hn : n ≤ 1000000) (hk : k + n ≤ 3999980) (ho : gi k l) :
  Calls Tryz.prog 196 #[.slice A n c, .func (.func 104) #[] #[], .func (.func 105) #[] #[]] w fun r w' => ∃ (L : List TR) (A' : Option Addr) (c' : Nat), MD (k + n) l L ∧ r = .returned (.slice A' L.length c') ∧ Hp w0 (.row A' L.length c' 55 4 (aQ TR.cells L) :: Hr) w' := by
 refine (j4 k n A n c l w (Nat.le_refl _) hT (hh.aK (i := 0) rfl) (hh.g7 (i := 0) rfl) hn hk ho).mono fun r w' h => ?_
 rcases h with ⟨h1, rfl, hb⟩ | ⟨h1, L, A', c', hm, rfl, h3⟩
 ·exact ⟨l, A, c, (MD.self (p7 (by omega)) ho).mono (by omega), by rw [hl], by rw [hl]; exact hh.ext hb⟩
 ·refine ⟨L, A', c', hm, rfl, ?_⟩
  exact (hh.join h3).sub (List.Sublist.cons_cons _ (List.Sublist.cons _ (List.Sublist.refl _)))
def Cy (t : TR) : Bool := decide (t.c.d = 0)
theorem ud (l : List TR) : (l.filter fun z => !Cy z) = l.filter kM := rfl
theorem rp (z : TR) (w : World) : Calls Tryz.prog 197 #[.agg #[.string z.m, .bool z.c.neg, .string z.c.bJ, .int .i64 z.c.e]] w fun r w' => r = .returned (.bool (Cy z)) ∧ Below w.heap.size w w' := by
 have hh := Hp.start w
 refine ak (N := 7) (l := [.agg #[.string z.m, .bool z.c.neg, .string z.c.bJ, .int .i64 z.c.e]]) Tryz.func197 rfl rfl (by simp) ?_
 refine sr ?_
 refine cK hh [_,_,_,_] ?_
 intro b1 w1 hh
 refine aB (ae (sr (bC ?_)))
 refine dh hh 0 [_,_,_] ?_
 refine bG hh (nl z.c _) rfl ?_
 intro w5 hh
 have hz : z.c.i.sign = 0 ↔ z.c.d = 0 := by
  rw [Int.sign_eq_zero_iff_zero]
  exact ⟨fun h => by unfold NR.d; rw [h]; rfl, gQ⟩
 unfold Cy
 by_cases h0 : z.c.d = 0
 ·have hs := hz.2 h0
  rw [decide_eq_true h0]
  refine ck (aB (ae (ao ?_)))
  refine cA ?_
  exact ⟨rfl, hh.below⟩
 ·have hs : ¬ z.c.i.sign = 0 := fun h => h0 (hz.1 h)
  rw [decide_eq_false h0]
  refine ck (aB (ae (ao ?_)))
  refine cA ?_
  exact ⟨rfl, hh.below⟩
def eW (l : List TR) : Int := if 4096 < (aT l).length then 3 else 0
theorem tU {xs ys : List Value} {o : Nat} {v : Value} (h : xs[o]? = some v) : cB xs o (v :: ys) = cB xs (o + 1) ys := by
 unfold cB
 rw [aJ h, List.length_cons, show o + (ys.length + 1) = o + 1 + ys.length by omega]
 simp
def CZ (t : TR) : TR := ⟨t.m, nR t.c.d⟩
theorem xh {X : List TR} {i : Nat} {z : TR} (h : X[i]? = some z) (y : NR) : cB (aQ TR.cells X) (i * 4 + 1) [.bool y.neg, .string y.bJ, .int .i64 y.e] = aQ TR.cells (X.set i ⟨z.m, y⟩) := by
 have h0 : (aQ TR.cells X)[i * 4]? = some (.string z.m) := by
  have h1 := mn TR.len h
  have h2 : (((aQ TR.cells X).drop (i * 4)).take 4)[0]? = some (.string z.m) := by rw [h1]; rfl
  rwa [List.getElem?_take_of_lt (by decide), List.getElem?_drop, Nat.add_zero] at h2
 rw [← tU h0]
 exact nm TR.len (y := ⟨z.m, y⟩) (List.getElem?_eq_some_iff.1 h).1
theorem j5 {w0 : World} {Hr : List HE} (v : Int) (A : Option Addr) (n c : Nat) (l : List TR) (k : Nat) (w : World) (hT : hG w0) (hh : Hp w0 (.row A n c 55 4 (aQ TR.cells l) :: Hr) w) (hl : l.length = n) (hn : n ≤ 1000000) (hk : k + n ≤ 3999980) (ho : gi k l) :
  Calls Tryz.prog 106 #[.int .i64 v, .slice A n c] w fun r w' => ∃ g : PX, cC (eW l) v (aT l) g ∧ r = .returned (.tuple #[.agg #[.int .i64 g.v, .slice g.A g.n g.c], .int .i64 (eW l)]) ∧ Hp w0 (g.row :: Hr) w' := by
 refine ak (N := 33) (l := [.int .i64 v, .slice A n c]) Tryz.func106 rfl rfl (by simp) ?_
 refine sr ?_
 refine cv hh ?_
 intro b4 w4 hh
 refine aI (ae (sr (mL ?_)))
 replace hh := hh.perm (List.perm_middle (l₁ := [_]))
 simp only [List.cons_append, List.nil_append] at hh
 refine aV (pQ A n c l k _ (hT.hp hh) hh hl hn hk ho) av.out rfl (by decide) ?_
 rintro e_ w8 ⟨L, A1, c1, hmd, rfl, hh⟩
 refine ⟨_, rfl, ?_⟩
 have hlen := hmd.len
 refine aV (uA A1 L.length c1 L _ Cy _ hh rfl (by omega) (fun z w1 _ => rp z w1)) av.out rfl (by decide) ?_
 rintro e_ w9 ⟨rfl, hh⟩
 refine ⟨_, rfl, ?_⟩
 rw [ud] at hh ⊢
 have hML : (L.filter kM).length ≤ L.length := List.length_filter_le _ _
 have hgl : (aT l).length = (L.filter kM).length := by rw [← hmd.aT, List.length_map]
 have hgm := hmd.aT
 have hok : gi (k + n) (L.filter kM) := fun t ht => hmd.ok t (List.mem_filter.1 ht).1
 generalize hM : L.filter kM = M at *
 by_cases h4 : 4096 < M.length
 ·rw [show eW l = 3 by unfold eW; rw [if_pos (by omega)]]
  refine aL (ae (ah (sr (mL (aO ?_)))))
  refine bY (ae (cT (sr ?_)))
  refine ep [_,_] ?_
  refine bE hh 1 [_,_] ?_
  intro ws hh
  replace hh : Hp _ (_ :: .blk _ _ [_, _] _ :: _) _ := hh
  refine aI (ae (ao (az ?_)))
  replace hh := hh.sub (List.Sublist.cons _ (List.Sublist.cons_cons _ (List.Sublist.refl _)))
  refine gL (aG rfl (aH (vs := [_, _]) aC.out (hh.au (i := 0) (n := 2) rfl rfl) rfl) (bS (cf rfl) a7)) ?_
  exact ⟨PX.nil, cC.err (by decide), rfl, (hh.sub (List.sublist_cons_self _ _)).fP⟩
 ·rw [show eW l = 0 by unfold eW; rw [if_neg (by omega)]]
  refine aL (ae (ah (sr (mL (aO ?_)))))
  refine bY (ae (cF (aj (ai (ah (sr (mL (aO (mI (ae (al ?_)))))))))))
  refine bs [6, 16, 17, 18, 19, 20, 21, 22, 23, 24, 25, 26, 27, 28, 29] 16
   (fun v w' => ∃ (i : Nat) (X : List TR), i ≤ M.length ∧ v = .int .i64 i ∧ X.length = M.length ∧ X = (M.take i).map CZ ++ M.drop i ∧ Hp w0 (.row A1 M.length c1 55 4 (aQ TR.cells X) :: .blk b4 24 [.int .i64 0, .slice none 0 0] (0, 0) :: Hr) w')
   (fun v _ => M.length - (intOf v).toNat) ?_ ?_
  ·exact ⟨0, M, Nat.zero_le _, rfl, rfl, rfl, hh⟩
  ·clear hh
   rintro ρ' v w' ⟨i, X, hi, rfl, hX, hXe, hh⟩
   by_cases hlt : i < M.length
   ·obtain ⟨z, hz⟩ := aD (l := M) (k := i) (by omega)
    have hXz : X[i]? = some z := by
     rw [hXe, List.getElem?_append_right (by rw [List.length_map, List.length_take]; omega), List.length_map, List.length_take, Nat.min_eq_left (by omega), Nat.sub_self, List.getElem?_drop]
     exact hz
    have hzo := hok z (List.mem_of_getElem? hz)
    have hXn : X.set i ⟨z.m, nR z.c.d⟩ = (M.take (i + 1)).map CZ ++ M.drop (i + 1) := by
     rw [aJ hz, List.map_append, hXe, List.set_append_right _ _ (by rw [List.length_map, List.length_take]; omega), List.length_map, List.length_take, Nat.min_eq_left (by omega), Nat.sub_self, List.append_assoc]
     congr 1
     obtain ⟨h1, h2⟩ := List.getElem?_eq_some_iff.1 hz
     rw [List.drop_eq_getElem_cons h1, h2]
     rfl
    have hrl := iI TR.len X
    obtain ⟨g0, rfl⟩ := hh.eO (i := 0) rfl (by omega)
    refine sr ?_
    refine aU (ae (ah (cT (aj (ai (ah (al (sr (mI (aI (ae ?_)))))))))))
    refine aq (mL (mI (mL (mI ?_))))
    refine bp (k := i) aF.out aC.size rfl rfl (by omega) (by omega) (by decide) ?_
    refine bC ?_
    refine bQ (vs := [_, _, _]) aC.out rfl ((hh.iZ (f := TR.cells) (x := z) (l := X) (i := 0) rfl TR.len (by decide) hXz).drop 1) rfl (by decide) ?_
    refine bG hh (eH z.c _ (hT.hp hh) (by have := hzo.1.1; omega) (by have := hzo.1.2.1; omega) (by have := hzo.1.2.2; omega)) rfl ?_
    intro w26 hh
    refine bp (k := i) aF.out aC.size rfl rfl (by omega) (by omega) (by decide) ?_
    refine bC ?_
    refine bP hh (i := 0) (vs := [_, _, _]) rfl rfl (dM rfl) rfl aC.out rfl (by omega) rfl ?_
    intro ws hh
    simp only [List.set_cons_zero] at hh
    rw [xh hXz, hXn] at hh
    refine aE (aW (ai (aq ?_)))
    refine bL (mI (aE (ai ?_)))
    refine ⟨⟨i + 1, _, by omega, rfl, ?_, rfl, hh⟩, by show M.length - (i + 1) < M.length - i; omega, ?_⟩
    ·rw [← hXn, List.length_set, hX]
    ·(repeat (first | exact aw _ _ _ | refine ax rfl ?_ | refine ar rfl ?_))
   ·obtain rfl : i = M.length := by omega
    rw [List.take_of_length_le (Nat.le_refl _), List.drop_of_length_le (Nat.le_refl _), List.append_nil] at hXe
    have hXg : X = aT l := by rw [hXe]; exact hgm
    rw [hXg] at hh
    refine sr ?_
    refine aU (ae (ah (cF ?_)))
    refine aP ?_
    refine ay (ay (a6 (ai (sr (mI (mL ?_))))))
    refine ep [_,_] ?_
    refine bE hh 1 [_,_] ?_
    intro ws hh
    replace hh : Hp _ (_ :: .blk _ _ [_, _] _ :: _) _ := hh
    refine aI (ae (ao ?_))
    refine gL (aG rfl (aH (vs := [_, _]) aC.out (hh.au (i := 1) (n := 2) rfl rfl) rfl) (bS (cf rfl) a7)) ?_
    exact ⟨⟨v, A1, M.length, c1, aT l⟩, ⟨rfl, rfl⟩, rfl, hh.sub (List.Sublist.cons_cons _ (List.Sublist.cons _ (List.Sublist.refl _)))⟩
end Go.Proofs.YtaapkaefelhfcaaGreatDoor
/- The walks through the program's package of products of powers (mono), and through the document's answer's. -/
namespace Go.Proofs.YtaapkaefelhfcaaGreatDoor
open Go.RowKit
theorem jm (s : ByteArray) (n : Int) (w : World) (hs : s.size ≤ 9223372036854775807) :
  Calls Tryz.prog 179 #[.string s, .int .i64 n] w fun e w' => e = .returned (.bool (dN s.data.toList && decide ((s.size : Int) = n))) ∧ Below w.heap.size w w' := by
 refine ak (N := 20) (l := [.string s, .int .i64 n]) Tryz.func179 rfl rfl (by simp) ?_
 refine sr (aB (ae (ah (sr (mS ?_)))))
 refine bg aF.out rfl (by decide) ?_
 refine mI (ae (al ?_))
 refine bs [4, 5, 8, 9, 10, 11, 12, 13, 14, 15] 8
  (fun v w' => ∃ k : Nat, k ≤ s.size ∧ v = .int .i64 k ∧ dN (s.data.toList.take k) = true ∧ w' = w)
  (fun v _ => s.size - (intOf v).toNat) ?_ ?_
 ·exact ⟨0, Nat.zero_le _, rfl, rfl, rfl⟩
 ·rintro ρ' v w' ⟨k, hk, rfl, hm, rfl⟩
  by_cases hlt : k < s.size
  ·obtain ⟨c, hc⟩ := aD (l := s.data.toList) (k := k) (by rw [← cw]; exact hlt)
   have hb := c.toNat_lt
   by_cases h8 : c.toNat < 128
   ·refine sr ?_
    refine aU (ae (ah (cT (aj (ai (ah (al (sr (mI (aI (ae ?_)))))))))))
    refine sr (mS (mI ?_))
    refine bo aF.out rfl rfl (by omega) (by assumption) (by decide) ?_
    refine bY (ae (cF (aj (aW (ai (aq ?_))))))
    refine bL (mI (aE (ai ?_)))
    refine ⟨⟨k + 1, by omega, rfl, by rw [aJ hc, qm, hm]; simpa using h8, rfl⟩, by show s.size - (k + 1) < s.size - k; omega, ?_⟩
    (repeat (first | exact aw _ _ _ | refine ax rfl ?_ | refine ar rfl ?_))
   ·refine sr ?_
    refine aU (ae (ah (cT (aj (ai (ah (al (sr (mI (aI (ae ?_)))))))))))
    refine sr (mS (mI ?_))
    refine bo aF.out rfl rfl (by omega) (by assumption) (by decide) ?_
    refine bY (ae (cT (sr (aB (ae (ao (br (az (az (br (az ?_)))))))))))
    refine cA ?_
    rw [tE hc h8]
    exact ⟨rfl, Below.refl _ _⟩
  ·refine sr ?_
   refine aU (ae (ah (cF ?_)))
   refine aP ?_
   refine ay (ay (a6 (ai (sr (mS ?_)))))
   refine bg aF.out rfl (by decide) ?_
   refine mI ?_
   refine rb rfl rfl (by decide) ?_
   refine aB (ae (ao ?_))
   refine cA ?_
   rw [List.take_of_length_le (by rw [← cw]; omega)] at hm
   rw [hm]
   exact ⟨rfl, Below.refl _ _⟩
theorem jT (s : ByteArray) (w : World) (hs : s.size ≤ 9223372036854775807) :
  Calls Tryz.prog 179 #[.string s, .int .i64 s.size] w fun e w' => e = .returned (.bool (dN s.data.toList)) ∧ Below w.heap.size w w' := by
 have h := jm s s.size w hs
 simpa using h
theorem jE (s : ByteArray) (n : Int) (w : World) (hs : s.size ≤ 9223372036854775807) :
  Calls Tryz.prog 181 #[.string s, .int .i64 n] w fun e w' => e = .returned (.bool (dN s.data.toList && decide ((s.size : Int) = n))) ∧ Below w.heap.size w w' := by
 refine ak (N := 20) (l := [.string s, .int .i64 n]) Tryz.func181 rfl rfl (by simp) ?_
 refine sr (aB (ae (ah (sr (aI (ae (al ?_)))))))
 refine bs [4, 5, 6, 7, 8, 9, 10, 11, 12, 13, 14, 15] 5
  (fun v w' => ∃ k : Nat, k ≤ s.size ∧ v = .int .i64 k ∧ dN (s.data.toList.take k) = true ∧ w' = w)
  (fun v _ => s.size - (intOf v).toNat) ?_ ?_
 ·exact ⟨0, Nat.zero_le _, rfl, rfl, rfl⟩
 ·rintro ρ' v w' ⟨k, hk, rfl, hm, rfl⟩
  by_cases hlt : k < s.size
  ·obtain ⟨c, hc⟩ := aD (l := s.data.toList) (k := k) (by rw [← cw]; exact hlt)
   have hb := c.toNat_lt
   by_cases h8 : c.toNat < 128
   ·refine ah (sr (mI (mS ?_)))
    refine bg aF.out rfl (by decide) ?_
    refine aU (ae (cT (aj (ai (ah (al (sr (mS (mI ?_)))))))))
    refine bo aF.out rfl rfl (by omega) (by assumption) (by decide) ?_
    refine dn (ae (cF (aj (aW (ai (aq (mI ?_)))))))
    refine bL (aI (aE (ai ?_)))
    refine ⟨⟨k + 1, by omega, rfl, by rw [aJ hc, qm, hm]; simpa using h8, rfl⟩, by show s.size - (k + 1) < s.size - k; omega, ?_⟩
    (repeat (first | exact aw _ _ _ | refine ax rfl ?_ | refine ar rfl ?_))
   ·refine ah (sr (mI (mS ?_)))
    refine bg aF.out rfl (by decide) ?_
    refine aU (ae (cT (aj (ai (ah (al (sr (mS (mI ?_)))))))))
    refine bo aF.out rfl rfl (by omega) (by assumption) (by decide) ?_
    refine dn (ae (cT (sr (aB (ae (ao (br (az (az (br (az ?_)))))))))))
    refine cA ?_
    rw [tE hc h8]
    exact ⟨rfl, Below.refl _ _⟩
  ·refine ah (sr (mI (mS ?_)))
   refine bg aF.out rfl (by decide) ?_
   refine aU (ae (cF ?_))
   refine aP ?_
   refine ay (ay (a6 (ai (sr (mS ?_)))))
   refine bg aF.out rfl (by decide) ?_
   refine mI ?_
   refine rb rfl rfl (by decide) ?_
   refine aB (ae (ao ?_))
   refine cA ?_
   rw [List.take_of_length_le (by rw [← cw]; omega)] at hm
   rw [hm]
   exact ⟨rfl, Below.refl _ _⟩
theorem yY (A : Option Addr) (n c : Nat) (xs : List Int) (w : World) (hsl : Sl w A n 1 (ij xs)) (hn : n ≤ 100000) :
  Calls Tryz.prog 216 #[.slice A n c] w fun e w' => e = .returned (.tuple #[.string (str (y9 xs)), .int .i64 (zN xs)]) ∧ Below w.heap.size w w' := by
 have hlen : xs.length = n := by have := hsl.1; rw [j0] at this; omega
 have hh := Hp.start w
 refine ak (N := 27) (l := [.slice A n c]) Tryz.func216 rfl rfl (by simp) ?_
 refine sr (aS (aI (ae (sr (aL (ae (ah (sr (mL (aO (mI ?_)))))))))))
 refine ae (al ?_)
 refine ct [2, 3, 4, 6, 9, 10, 11, 12, 13, 14, 15, 16, 17, 18, 19, 20, 21, 22, 23, 24] 4 9
  (fun b i w' => ∃ (k c' : Nat) (A' : Option Addr), k ≤ n ∧ i = .int .i64 k ∧ b = .slice A' k c' ∧ (xs.take k).all fj = true ∧ Hp w [.row A' k c' 5 1 (je ((xs.take k).map sP))] w')
  (fun _ v _ => n - (intOf v).toNat) ?_ ?_
 ·exact ⟨0, 0, none, Nat.zero_le _, rfl, rfl, rfl, hh.di _ _⟩
 ·clear hh
  rintro ρ' b i w' ⟨k, c', A', hk, rfl, rfl, hall, hh⟩
  by_cases hlt : k < n
  ·obtain ⟨x, hx⟩ := aD (l := xs) (k := k) (by omega)
   obtain ⟨ad, rfl, hr⟩ := (hsl.ext hh.below).at_ (by omega)
   by_cases h0 : x < 0
   ·refine sr ?_
    refine aU (ae (ah (cT (aj (ai (ah (al (sr ?_))))))))
    refine cJ aF.out aC.size rfl rfl (by omega) (by omega) (by decide) ?_
    refine bh aC.out rfl (gx hr (gB hx) rfl) (by decide) ?_
    refine aI (ae (ah (sr (mI ?_))))
    refine aU (mB ?_)
    first | refine gS ?_ | (refine gT ?_; refine mI ?_) | refine gV ?_
    first | refine gS ?_ | (refine gT ?_; refine bY ?_) | refine gV ?_
    first | refine cR ?_ | refine cQ ?_
    refine ae (cT (sr (aS (aI (ae (ao (az (br (az (az (br ?_)))))))))))
    refine az ?_
    refine q5 ?_
    obtain ⟨e1, e2⟩ := ra hx (by simp [fj]; omega)
    rw [e1, e2]
    exact ⟨rfl, hh.below⟩
   ·by_cases h1 : 127 < x
    ·refine sr ?_
     refine aU (ae (ah (cT (aj (ai (ah (al (sr ?_))))))))
     refine cJ aF.out aC.size rfl rfl (by omega) (by omega) (by decide) ?_
     refine bh aC.out rfl (gx hr (gB hx) rfl) (by decide) ?_
     refine aI (ae (ah (sr (mI ?_))))
     refine aU (mB ?_)
     first | refine gS ?_ | (refine gT ?_; refine mI ?_) | refine gV ?_
     first | refine gS ?_ | (refine gT ?_; refine bY ?_) | refine gV ?_
     first | refine cR ?_ | refine cQ ?_
     refine ae (cT (sr (aS (aI (ae (ao (az (br (az (az (br ?_)))))))))))
     refine az ?_
     refine q5 ?_
     obtain ⟨e1, e2⟩ := ra hx (by simp [fj]; omega)
     rw [e1, e2]
     exact ⟨rfl, hh.below⟩
    ·have hok : fj x = true := by simp [fj]; omega
     refine sr ?_
     refine aU (ae (ah (cT (aj (ai (ah (al (sr ?_))))))))
     refine cJ aF.out aC.size rfl rfl (by omega) (by omega) (by decide) ?_
     refine bh aC.out rfl (gx hr (gB hx) rfl) (by decide) ?_
     refine aI (ae (ah (sr (mI ?_))))
     refine aU (mB ?_)
     first | refine gS ?_ | (refine gT ?_; refine mI ?_) | refine gV ?_
     first | refine gS ?_ | (refine gT ?_; refine bY ?_) | refine gV ?_
     first | refine cR ?_ | refine cQ ?_
     refine ae (cF (aj (ai (aq (mL (mI ?_))))))
     refine ll aF.out aF.out rfl (by decide) ?_
     refine bB hh (cs := [_]) aF.out aC.out (bm (cb rfl) cn) rfl rfl (by decide) (by decide) (by decide) rfl (by decide) ?_
     intro b22 w22 hh
     refine bF hh (i := 1) rfl rfl rfl (hh.aK (i := 0) rfl) aF.out aC.out rfl (by decide) rfl (by omega) (by omega) (by decide) ?_
     intro A23 c23 w23 hh
     simp only [List.set_cons_zero, List.set_cons_succ] at hh
     replace hh := hh.sub (List.sublist_cons_self _ _)
     refine aL (aE (aW (ai (aq ?_))))
     refine bL (mI (aE (ai ?_)))
     refine ⟨⟨k + 1, c23, A23, by omega, rfl, rfl, sA hx hall hok, ?_⟩, by show n - (k + 1) < n - k; omega, ?_⟩
     ·rw [wz (by omega) (by omega), ye hx hok] at hh
      exact hh
     ·(repeat (first | exact aw _ _ _ | refine ax rfl ?_ | refine ar rfl ?_))
  ·obtain rfl : k = n := by omega
   rw [List.take_of_length_le (by omega)] at hall hh
   obtain ⟨e1, e2⟩ := rI hall
   refine sr ?_
   refine aU (ae (ah (cF ?_)))
   refine aP ?_
   refine ay (ay (a6 (ai (sr (mL ?_)))))
   refine iY aF.out aF.out aF.out rfl (hh.aK (i := 0) rfl) (by decide) ?_
   refine aS (aI (ae (ao ?_)))
   refine q5 ?_
   rw [e1, e2]
   exact ⟨rfl, hh.below⟩
theorem jC (s : ByteArray) (w : World) (hs : s.size ≤ 100000) :
  Calls Tryz.prog 113 #[.string s] w fun e w' => ∃ A c, e = .returned (.slice A (ki s.data.toList).length c) ∧ w'.ownsRow w.heap.size 3 1 (.slice A (ki s.data.toList).length c) (ki s.data.toList).length (ij (ki s.data.toList)) ∧ Below w.heap.size w w' := by
 have hh := Hp.start w
 have hsz := cw s
 cases hm : dN s.data.toList with
 | false =>
  refine ak (N := 22) (l := [.string s]) Tryz.func113 rfl rfl (by simp) ?_
  refine sr (aL (ae (ah (sr (mS (mS ?_))))))
  refine bg aF.out rfl (by decide) ?_
  refine bG hh (jT s _ (by omega)) rfl ?_
  intro w9 hh
  rw [hm]
  refine fi ?_
  refine ae (cT (sr (aL (ae (ao (az ?_))))))
  refine cA ?_
  rw [yX hm]
  exact ⟨none, 0, rfl, World.ownsRow_nil _ _ _ _, hh.below⟩
 | true =>
  refine ak (N := 22) (l := [.string s]) Tryz.func113 rfl rfl (by simp) ?_
  refine sr (aL (ae (ah (sr (mS (mS ?_))))))
  refine bg aF.out rfl (by decide) ?_
  refine bG hh (jT s _ (by omega)) rfl ?_
  intro w9 hh
  rw [hm]
  refine fi ?_
  refine ae (cF (aj (ai (sr (aL (ae (ah (sr (mS ?_)))))))))
  refine lZ hh aF.out rfl (by decide) ?_
  intro b12 w12 hh
  skip
  refine ae (al ?_)
  refine bs [3, 5, 13, 14, 15, 16, 17, 18, 19, 20] 3
   (fun v w' => ∃ (k c' : Nat) (A' : Option Addr), k ≤ s.size ∧ v = .slice A' k c' ∧ Hp w [.row A' k c' 3 1 (ij (ints (s.data.toList.take k))), .it b12 s k] w')
   (fun v _ => s.size - lenOf v) ?_ ?_
  ·exact ⟨0, 0, none, Nat.zero_le _, rfl, hh.di _ _⟩
  ·clear hh
   rintro ρ' v w' ⟨k, c', A', hk, rfl, hh⟩
   by_cases hlt : k < s.size
   ·obtain ⟨c, hc⟩ := aD (l := s.data.toList) (k := k) (by omega)
    have h8 := hO hm hc
    refine sr ?_
    refine mc hh (i := 1) rfl rfl hc h8 (by decide) ?_
    intro w13 hh
    simp only [List.set_cons_zero, List.set_cons_succ] at hh
    skip
    refine dp ?_
    refine ae (ah (cT (aj (ai (al (sr ?_))))))
    refine dp ?_
    refine aI (ae (aq (mL (mI ?_))))
    refine cP aF.out aF.out rfl (by omega) (by omega) (by decide) ?_
    refine bB hh (cs := [_]) aF.out aC.out (bm (cb rfl) cn) rfl rfl (by decide) (by decide) (by decide) rfl (by decide) ?_
    intro b19 w19 hh
    refine bF hh (i := 1) rfl rfl rfl (hh.aK (i := 0) rfl) aF.out aC.out rfl (by decide) rfl (by omega) (by omega) (by decide) ?_
    intro A20 c20 w20 hh
    simp only [List.set_cons_zero, List.set_cons_succ] at hh
    replace hh := hh.sub (List.sublist_cons_self _ _)
    refine aL (aE (aW (ai ?_)))
    rw [oH hc] at hh
    refine ⟨⟨k + 1, c20, A20, by omega, rfl, hh⟩, by show s.size - (k + 1) < s.size - k; omega, ?_⟩
    (repeat (first | exact aw _ _ _ | refine ax rfl ?_ | refine ar rfl ?_))
   ·refine sr ?_
    refine lS hh (i := 1) rfl rfl hlt (by decide) ?_
    skip
    refine dp ?_
    refine ae (ah (cF ?_))
    refine aP ?_
    refine ay (ay (a6 (ai (sr (mL (aL (ae (ao ?_))))))))
    refine cA ?_
    obtain rfl : k = s.size := by omega
    rw [List.take_of_length_le (by omega)] at hh
    have h1 := hh.at_ (i := 0) rfl
    rw [mu hm, dT, ← hsz]
    exact ⟨A', c', rfl, h1, hh.below⟩
theorem o0 (a b : ByteArray) (g : FuncId) (f : Int → Int → Int) (w : World) (ha : a.size ≤ 100000) (hb : b.size ≤ 100000) [av Tryz.prog g]
  (hg : ∀ (x y : Int) (w : World), 0 ≤ x → x ≤ 127 → 0 ≤ y → y ≤ 127 → Calls Tryz.prog g #[.int .i64 x, .int .i64 y] w fun e w' => e = .returned (.int .i64 (f x y)) ∧ Below w.heap.size w w') :
  Calls Tryz.prog 242 #[.string a, .string b, .func (.func g) #[] #[]] w fun e w' =>
   (fD f a.data.toList b.data.toList = none ∧ e = .returned (.tuple #[.slice none 0 0, .bool false]) ∧ Below w.heap.size w w') ∨
   ∃ l, fD f a.data.toList b.data.toList = some l ∧ l.length = b.size ∧ ∃ A c, e = .returned (.tuple #[.slice A l.length c, .bool true]) ∧ w'.ownsRow w.heap.size 3 1 (.slice A l.length c) l.length (ij l) ∧ Below w.heap.size w w' := by
 have hh := Hp.start w
 have hsa := cw a
 have hsb := cw b
 cases hma : dN a.data.toList with
 | false =>
  refine ak (N := 45) (l := [.string a, .string b, .func (.func g) #[] #[]]) Tryz.func242 rfl rfl (by simp) ?_
  refine sr (aL (aB (ae (sr (mS ?_)))))
  refine aV (jC b _ hb) av.out rfl (by decide) ?_
  rintro e_ w12 ⟨A12, c12, rfl, hown_, hb_⟩
  refine ⟨_, rfl, ?_⟩
  replace hh := hh.bk (x := .row _ _ _ _ _ _) hb_ hown_
  refine aL (ae (ah (sr (mS (mS ?_)))))
  refine bg aF.out rfl (by decide) ?_
  refine bG hh (jT a _ (by omega)) rfl ?_
  intro w16 hh
  rw [hma]
  refine fi ?_
  refine mB ?_
  first | refine gS ?_ | (refine gT ?_; refine mS ?_) | refine gV ?_
  first | refine gS ?_ | (refine gT ?_; refine mS ?_) | refine gV ?_
  first | refine gS ?_ | (refine gT ?_; refine bg aF.out rfl (by decide) ?_) | refine gV ?_
  refine cm (by decide) rfl rfl (by decide) ?_
  first | refine gS ?_ | (refine gT ?_; refine fi ?_) | refine gV ?_
  first | refine cR ?_ | refine cQ ?_
  refine ae (cT (sr (aL (aB (ae (ao (az ?_)))))))
  refine q5 ?_
  exact .inl ⟨by simp [fD, hma], rfl, hh.below⟩
 | true =>
  cases hmb : (dN b.data.toList && decide ((b.size : Int) = a.size)) with
  | false =>
   refine ak (N := 45) (l := [.string a, .string b, .func (.func g) #[] #[]]) Tryz.func242 rfl rfl (by simp) ?_
   refine sr (aL (aB (ae (sr (mS ?_)))))
   refine aV (jC b _ hb) av.out rfl (by decide) ?_
   rintro e_ w12 ⟨A12, c12, rfl, hown_, hb_⟩
   refine ⟨_, rfl, ?_⟩
   replace hh := hh.bk (x := .row _ _ _ _ _ _) hb_ hown_
   refine aL (ae (ah (sr (mS (mS ?_)))))
   refine bg aF.out rfl (by decide) ?_
   refine bG hh (jT a _ (by omega)) rfl ?_
   intro w16 hh
   rw [hma]
   refine fi ?_
   refine mB ?_
   first | refine gS ?_ | (refine gT ?_; refine mS ?_) | refine gV ?_
   first | refine gS ?_ | (refine gT ?_; refine mS ?_) | refine gV ?_
   first | refine gS ?_ | (refine gT ?_; refine bg aF.out rfl (by decide) ?_) | refine gV ?_
   refine bu rfl rfl ?_
   refine bG hh (jm b _ _ (by omega)) rfl ?_
   intro w22 hh
   rw [hmb]
   first | refine gS ?_ | (refine gT ?_; refine fi ?_) | refine gV ?_
   first | refine cR ?_ | refine cQ ?_
   refine ae (cT (sr (aL (aB (ae (ao (az ?_)))))))
   refine q5 ?_
   have : (dN b.data.toList && decide ((b.data.toList.length : Int) = a.data.toList.length)) = false := by rw [← hsa, ← hsb]; exact hmb
   exact .inl ⟨by simp only [fD, hma, this]; rfl, rfl, hh.below⟩
  | true =>
   have hmb2 := hmb
   simp only [Bool.and_eq_true, decide_eq_true_eq] at hmb2
   have hbl : fD f a.data.toList b.data.toList = some (List.zipWith f (ints a.data.toList) (ints b.data.toList)) := by
    have : (dN b.data.toList && decide ((b.data.toList.length : Int) = a.data.toList.length)) = true := by rw [← hsa, ← hsb]; exact hmb
    simp only [fD, hma, this]; rfl
   have hea := mu hma
   have heb := mu hmb2.1
   have hlab : (ints a.data.toList).length = (ints b.data.toList).length := by rw [dT, dT]; omega
   have hlb := dT b.data.toList
   have hla := dT a.data.toList
   have hA := jC a
   have hB := jC b
   rw [hea] at hA
   rw [heb] at hB
   generalize hia : ints a.data.toList = ia at *
   generalize hib : ints b.data.toList = ib at *
   have bda : ∀ (k : Nat) (x : Int), ia[k]? = some x → 0 ≤ x ∧ x ≤ 127 := fun k x h => wi (l := a.data.toList) (by rw [hea]; exact h)
   have bdb : ∀ (k : Nat) (x : Int), ib[k]? = some x → 0 ≤ x ∧ x ≤ 127 := fun k x h => wi (l := b.data.toList) (by rw [heb]; exact h)
   clear hea heb
   refine ak (N := 45) (l := [.string a, .string b, .func (.func g) #[] #[]]) Tryz.func242 rfl rfl (by simp) ?_
   refine sr (aL (aB (ae (sr (mS ?_)))))
   refine aV (hB _ hb) av.out rfl (by decide) ?_
   rintro e_ w12 ⟨A12, c12, rfl, hown_, hb_⟩
   refine ⟨_, rfl, ?_⟩
   replace hh := hh.bk (x := .row _ _ _ _ _ _) hb_ hown_
   refine aL (ae (ah (sr (mS (mS ?_)))))
   refine bg aF.out rfl (by decide) ?_
   refine bG hh (jT a _ (by omega)) rfl ?_
   intro w16 hh
   rw [hma]
   refine fi ?_
   refine mB ?_
   first | refine gS ?_ | (refine gT ?_; refine mS ?_) | refine gV ?_
   first | refine gS ?_ | (refine gT ?_; refine mS ?_) | refine gV ?_
   first | refine gS ?_ | (refine gT ?_; refine bg aF.out rfl (by decide) ?_) | refine gV ?_
   refine bu rfl rfl ?_
   refine bG hh (jm b _ _ (by omega)) rfl ?_
   intro w22 hh
   rw [hmb]
   first | refine gS ?_ | (refine gT ?_; refine fi ?_) | refine gV ?_
   first | refine cR ?_ | refine cQ ?_
   refine ae (cF (aj (ai (ah (sr (mS ?_))))))
   refine aV (hA _ ha) av.out rfl (by decide) ?_
   rintro e_ w26 ⟨A26, c26, rfl, hown_, hb_⟩
   refine ⟨_, rfl, ?_⟩
   replace hh := hh.bk (x := .row _ _ _ _ _ _) hb_ hown_
   refine aO (mI (ae (al ?_)))
   refine bs [9, 10, 28, 29, 30, 31, 32, 33, 34, 35, 36, 37, 38, 39, 40, 41, 42, 43] 28
    (fun i w' => ∃ k : Nat, k ≤ ib.length ∧ i = .int .i64 k ∧ Hp w [.row A26 ia.length c26 3 1 (ij ia), .row A12 ib.length c12 3 1 (ij (kj f ia ib k))] w')
    (fun i _ => ib.length - (intOf i).toNat) ?_ ?_
   ·exact ⟨0, Nat.zero_le _, rfl, by rw [y4]; exact hh⟩
   ·clear hh hown_ hb_
    rintro ρ' i w' ⟨k, hk, rfl, hh⟩
    by_cases hlt : k < ib.length
    ·obtain ⟨x, hx⟩ := aD (l := ia) (k := k) (by omega)
     obtain ⟨y, hy⟩ := aD hlt
     have bx := bda k x hx
     have byy := bdb k y hy
     have hx2 := gB hx
     have hy2 := gB (Bl (f := f) hlab hy)
     have hml := AA (f := f) hlab hk
     have hml2 := j0 (kj f ia ib k)
     obtain ⟨ga, rfl⟩ := hh.eO (i := 0) rfl (by omega)
     obtain ⟨gb, rfl⟩ := hh.eO (i := 1) rfl (by omega)
     refine sr ?_
     refine aU (ae (ah (cT (aj (ai (ah (al (sr (mI ?_)))))))))
     refine bp aF.out aC.size rfl rfl rfl (by omega) (by decide) ?_
     refine bh aC.out rfl (hh.cI (i := 0) rfl (by first | assumption | (simp only [Nat.mul_one]; assumption))) (by decide) ?_
     refine aI (aI (ae (aq (mL (mI ?_)))))
     refine fU (by first | exact ik rfl | exact ev_nilf rfl) (by decide) ?_
     refine mI (mL (mI ?_))
     refine bp aF.out aC.size rfl rfl rfl (by omega) (by decide) ?_
     refine bh aC.out rfl (hh.cI (i := 1) rfl (by first | assumption | (simp only [Nat.mul_one]; assumption))) (by decide) ?_
     refine fL (hg x y _ bx.1 bx.2 byy.1 byy.2) av.out rfl rfl (by decide) ?_
     rintro e_ w41 ⟨rfl, hb_⟩
     refine ⟨_, rfl, ?_⟩
     replace hh := hh.ext hb_
     refine bp aF.out aC.size rfl rfl rfl (by omega) (by decide) ?_
     refine bP hh (i := 1) (vs := [_]) rfl rfl (cb rfl) rfl aC.out rfl (by omega) rfl ?_
     intro ws hh
     simp only [List.set_cons_zero, List.set_cons_succ] at hh
     refine aE (aW (ai (aq ?_)))
     refine bL (mI (aE (ai ?_)))
     rw [Nat.mul_one, z2 hlab hx hy] at hh
     refine ⟨⟨k + 1, by omega, rfl, hh⟩, by show _ - (k + 1) < _ - k; omega, ?_⟩
     (repeat (first | exact aw _ _ _ | refine ax rfl ?_ | refine ar rfl ?_))
    ·refine sr ?_
     refine aU (ae (ah (cF ?_)))
     refine aP ?_
     refine ay (ay (a6 (ai (sr (mL (aL (aB (ae (ao ?_)))))))))
     refine q5 ?_
     obtain rfl : k = ib.length := by omega
     rw [yv hlab] at hh
     have h1 := hh.at_ (i := 1) rfl
     have hzl : (List.zipWith f ia ib).length = ib.length := by simp [hlab]
     refine .inr ⟨_, hbl, by omega, A12, c12, ?_⟩
     rw [hzl]
     exact ⟨rfl, h1, hh.below⟩
theorem xg (a b : ByteArray) (g : FuncId) (f : Int → Int → Int) (w : World) (ha : a.size ≤ 100000) (hb : b.size ≤ 100000) [av Tryz.prog g]
  (hg : ∀ (x y : Int) (w : World), 0 ≤ x → x ≤ 127 → 0 ≤ y → y ≤ 127 → Calls Tryz.prog g #[.int .i64 x, .int .i64 y] w fun e w' => e = .returned (.int .i64 (f x y)) ∧ Below w.heap.size w w')
  (h : fD f a.data.toList b.data.toList = none) :
  Calls Tryz.prog 242 #[.string a, .string b, .func (.func g) #[] #[]] w fun e w' => e = .returned (.tuple #[.slice none 0 0, .bool false]) ∧ Below w.heap.size w w' :=
 (o0 a b g f w ha hb hg).mono fun e w' hq => by
  rcases hq with hq | ⟨l, hl, _⟩
  ·exact hq.2
  ·rw [h] at hl; cases hl
theorem xy (a b : ByteArray) (g : FuncId) (f : Int → Int → Int) (w : World) (ha : a.size ≤ 100000) (hb : b.size ≤ 100000) [av Tryz.prog g]
  (hg : ∀ (x y : Int) (w : World), 0 ≤ x → x ≤ 127 → 0 ≤ y → y ≤ 127 → Calls Tryz.prog g #[.int .i64 x, .int .i64 y] w fun e w' => e = .returned (.int .i64 (f x y)) ∧ Below w.heap.size w w')
  {l : List Int} (h : fD f a.data.toList b.data.toList = some l) :
  Calls Tryz.prog 242 #[.string a, .string b, .func (.func g) #[] #[]] w fun e w' => ∃ A c, e = .returned (.tuple #[.slice A l.length c, .bool true]) ∧ w'.ownsRow w.heap.size 3 1 (.slice A l.length c) l.length (ij l) ∧ Below w.heap.size w w' :=
 (o0 a b g f w ha hb hg).mono fun e w' hq => by
  rcases hq with ⟨hn, _⟩ | ⟨l', hl, _, hq⟩
  ·rw [h] at hn; cases hn
  ·rw [h] at hl; injection hl with hl; subst hl; exact hq
theorem wZ {f : Int → Int → Int} {a b : List UInt8} {l : List Int} (h : fD f a b = some l) : l.length ≤ b.length := by
 unfold fD at h
 split at h
 ·injection h with h; subst h; simp [ints]; omega
 ·cases h
theorem pq (x y : Int) (w : World) (h1 : 0 ≤ x) (h2 : x ≤ 127) (h3 : 0 ≤ y) (h4 : y ≤ 127) :
  Calls Tryz.prog 243 #[.int .i64 x, .int .i64 y] w fun e w' => e = .returned (.int .i64 (x + y)) ∧ Below w.heap.size w w' := by
 refine ak (N := 8) (l := [.int .i64 x, .int .i64 y]) Tryz.func243 rfl rfl (by simp) ?_
 refine sr (aI (ae (sr (mI (mI ?_)))))
 refine bL (aI (ae (ao ?_)))
 refine cA ?_
 exact ⟨rfl, Below.refl _ _⟩
theorem xK (a b : ByteArray) (w : World) (ha : a.size ≤ 100000) (hb : b.size ≤ 100000) :
  Calls Tryz.prog 198 #[.string a, .string b] w fun e w' => e = .returned (.tuple #[.string (str (mulL a.data.toList b.data.toList).1), .int .i64 (mulL a.data.toList b.data.toList).2]) ∧ Below w.heap.size w w' := by
 have hh := Hp.start w
 have hsb := cw b
 cases hbo : fD (· + ·) a.data.toList b.data.toList with
 | none =>
  refine ak (N := 20) (l := [.string a, .string b]) Tryz.func198 rfl rfl (by simp) ?_
  refine sr (aS (aI (ae (sr (mS (mS ?_))))))
  refine bG hh (xg a b _ _ _ ha hb pq hbo) rfl ?_
  intro w11 hh
  refine mT ?_
  refine dp ?_
  refine dp ?_
  refine aL (aB (ae (ah (sr (mB ?_)))))
  refine fi ?_
  refine ae (cT (sr (aS (aI (ae (ao (az ?_)))))))
  refine q5 ?_
  simp only [mulL, hbo]
  first | exact ⟨rfl, hh.below⟩ | exact ⟨trivial, hh.below⟩
 | some l =>
  have hl := wZ hbo
  refine ak (N := 20) (l := [.string a, .string b]) Tryz.func198 rfl rfl (by simp) ?_
  refine sr (aS (aI (ae (sr (mS (mS ?_))))))
  refine aV (xy a b _ _ _ ha hb pq hbo) av.out rfl (by decide) ?_
  rintro e_ w11 ⟨A11, c11, rfl, hown_, hb_⟩
  refine ⟨_, rfl, ?_⟩
  replace hh := hh.bk (x := .row _ _ _ _ _ _) hb_ hown_
  refine mT ?_
  refine dp ?_
  refine dp ?_
  refine aL (aB (ae (ah (sr (mB ?_)))))
  refine fi ?_
  refine ae (cF (aj (ai (sr (mL ?_)))))
  refine bG hh (yY _ _ _ _ _ (hh.aK (i := 0) rfl) (by omega)) rfl ?_
  intro w17 hh
  refine dp ?_
  refine dp ?_
  refine aS (aI (ae (ao ?_)))
  refine q5 ?_
  simp only [mulL, hbo]
  first | exact ⟨rfl, hh.below⟩ | exact ⟨trivial, hh.below⟩
end Go.Proofs.YtaapkaefelhfcaaGreatDoor
/- The walks through poly.CI and poly.Check. -/
namespace Go.Proofs.YtaapkaefelhfcaaGreatDoor
open Go.RowKit
def gD (v : Int) : Bool := decide (0 ≤ v) && decide (v ≤ 12)
theorem eE {v : Int} : gD v = true ↔ 0 ≤ v ∧ v ≤ 12 := by unfold gD; rw [Bool.and_eq_true, decide_eq_true_eq, decide_eq_true_eq]
theorem mE (v : Int) (w : World) : Calls Tryz.prog 161 #[.int .i64 v] w fun r w' => r = .returned (.bool (gD v)) ∧ Below w.heap.size w w' := by
 have hh := Hp.start w
 unfold gD
 by_cases h1 : 0 ≤ v
 ·rw [decide_eq_true h1, Bool.true_and]
  by_cases h2 : v ≤ 12
  ·rw [decide_eq_true h2]
   refine ak (N := 9) (l := [.int .i64 v]) Tryz.func161 rfl rfl (by simp) ?_
   refine sr (aB (ae (sr (mI ?_))))
   refine dn (mB ?_)
   first | refine gS ?_ | (refine gT ?_; refine mI ?_) | refine gV ?_
   first | refine gS ?_ | (refine gT ?_; refine uI ?_) | refine gV ?_
   first | refine cR ?_ | refine cQ ?_
   refine aB (ae (ao ?_))
   refine cA ?_
   exact ⟨rfl, hh.below⟩
  ·rw [decide_eq_false h2]
   refine ak (N := 9) (l := [.int .i64 v]) Tryz.func161 rfl rfl (by simp) ?_
   refine sr (aB (ae (sr (mI ?_))))
   refine dn (mB ?_)
   first | refine gS ?_ | (refine gT ?_; refine mI ?_) | refine gV ?_
   first | refine gS ?_ | (refine gT ?_; refine uI ?_) | refine gV ?_
   first | refine cR ?_ | refine cQ ?_
   refine aB (ae (ao ?_))
   refine cA ?_
   exact ⟨rfl, hh.below⟩
 ·rw [decide_eq_false h1, Bool.false_and]
  refine ak (N := 9) (l := [.int .i64 v]) Tryz.func161 rfl rfl (by simp) ?_
  refine sr (aB (ae (sr (mI ?_))))
  refine dn (mB ?_)
  first | refine gS ?_ | (refine gT ?_; refine mI ?_) | refine gV ?_
  first | refine gS ?_ | (refine gT ?_; refine uI ?_) | refine gV ?_
  first | refine cR ?_ | refine cQ ?_
  refine aB (ae (ao ?_))
  refine cA ?_
  exact ⟨rfl, hh.below⟩
def Cx (a : NR) : Bool := decide ((nR a.d).neg = a.neg) && (decide ((nR a.d).bJ = a.bJ) && decide ((nR a.d).e = a.e))
theorem kv (a : NR) : Cx a = true ↔ nR a.d = a := by
 unfold Cx
 rw [Bool.and_eq_true, Bool.and_eq_true, decide_eq_true_eq, decide_eq_true_eq, decide_eq_true_eq]
 constructor
 ·rintro ⟨h1, h2, h3⟩
  obtain ⟨s, m, e⟩ := a
  generalize nR (NR.d ⟨s, m, e⟩) = b at *
  obtain ⟨s', m', e'⟩ := b
  simp only at h1 h2 h3
  rw [h1, h2, h3]
 ·intro h
  rw [h]
  exact ⟨rfl, rfl, rfl⟩
def g8 (v : Int) (t : TR) : Bool := dN t.m.data.toList && decide ((t.m.size : Int) = v) && (kM t && Cx t.c)
def kY : List TR → Bool
 | [] => true
 | [_] => true
 | a :: b :: l => fM a.m b.m && kY (b :: l)
theorem m0 : ∀ (l : List TR) (p x : TR), kY (l ++ [p, x]) = (kY (l ++ [p]) && fM p.m x.m)
 | [], p, x => by show (fM p.m x.m && true) = (true && fM p.m x.m); rw [Bool.and_true, Bool.true_and]
 | [a], p, x => by
  show (fM a.m p.m && (fM p.m x.m && true)) = ((fM a.m p.m && true) && fM p.m x.m)
  rw [Bool.and_true, Bool.and_true]
 | a :: b :: l, p, x => by
  show (fM a.m b.m && kY ((b :: l) ++ [p, x])) = ((fM a.m b.m && kY ((b :: l) ++ [p])) && fM p.m x.m)
  rw [m0 (b :: l) p x, Bool.and_assoc]
theorem wy : ∀ {l : List TR} {i : Nat} {p x : TR}, kY l = true → l[i]? = some p → l[i + 1]? = some x → fM p.m x.m = true
 | [], i, p, x, _, h, _ => by simp at h
 | [a], i, p, x, _, _, h => by simp at h
 | a :: b :: l, 0, p, x, h, h1, h2 => by
  simp only [List.getElem?_cons_zero, Option.some.injEq, Nat.zero_add, List.getElem?_cons_succ] at h1 h2
  subst h1 h2
  exact (Bool.and_eq_true_iff.1 h).1
 | a :: b :: l, i + 1, p, x, h, h1, h2 => by
  rw [List.getElem?_cons_succ] at h1 h2
  exact wy (Bool.and_eq_true_iff.1 h).2 h1 h2
theorem mm : ∀ {l : List TR}, kY l = true ↔ pN l
 | [] => ⟨fun _ => List.Pairwise.nil, fun _ => rfl⟩
 | [a] => ⟨fun _ => List.pairwise_singleton _ _, fun _ => rfl⟩
 | a :: b :: l => by
  show (fM a.m b.m && kY (b :: l)) = true ↔ _
  rw [Bool.and_eq_true, mm (l := b :: l)]
  constructor
  ·rintro ⟨h1, h2⟩
   refine List.pairwise_cons.2 ⟨fun t ht => ?_, h2⟩
   rcases List.mem_cons.1 ht with rfl | ht
   ·exact h1
   ·exact iu h1 ((List.pairwise_cons.1 h2).1 t ht)
  ·intro h
   have := List.pairwise_cons.1 h
   exact ⟨this.1 b List.mem_cons_self, this.2⟩
def okB (v : Int) (ts : List TR) : Bool := ts.all (g8 v) && kY ts
def fA (v : Int) (ts : List TR) : Int := if gD v = false then 1 else if 4096 < ts.length then 3 else if okB v ts = true then 0 else 1
theorem sH {v : Int} {ts : List TR} (h1 : gD v = true) (h2 : ¬ 4096 < ts.length) (h : okB v ts = false) : fA v ts = 1 := by
 unfold fA
 rw [if_neg (by rw [h1]; decide), if_neg h2, if_neg (by rw [h]; decide)]
theorem kB {v : Int} {ts : List TR} {i : Nat} {x : TR} (hx : ts[i]? = some x) (h : g8 v x = false) : okB v ts = false := by
 unfold okB
 rw [Bool.and_eq_false_iff]
 refine .inl (Bool.eq_false_iff.2 fun h2 => ?_)
 rw [List.all_eq_true.1 h2 x (List.mem_of_getElem? hx)] at h
 cases h
theorem th {v : Int} {ts : List TR} {i : Nat} {p x : TR} (hp : ts[i]? = some p) (hx : ts[i + 1]? = some x) (h : fM p.m x.m = false) : okB v ts = false := by
 unfold okB
 rw [Bool.and_eq_false_iff]
 refine .inr (Bool.eq_false_iff.2 fun h2 => ?_)
 rw [wy h2 hp hx] at h
 cases h
theorem rM (v : Int) (A : Option Addr) (n c : Nat) (ts : List TR) (w : World) (hT : hG w) (hS : Sl w A n 4 (aQ TR.cells ts)) (hn : n ≤ 1000000) (ho : ∀ t ∈ ts, t.c.ok ∧ t.m.size ≤ 100000) :
  Calls Tryz.prog 85 #[.agg #[.int .i64 v, .slice A n c]] w fun r w' => r = .returned (.int .i64 (fA v ts)) ∧ Below w.heap.size w w' := by
 have hh := Hp.start w
 have hln := hS.cg TR.len (by decide)
 have hfw := fun w1 => mE v w1
 cases hf : gD v with
 | false =>
  rw [hf] at hfw
  rw [show fA v ts = 1 by unfold fA; rw [if_pos hf]]
  refine ak (N := 58) (l := [.agg #[.int .i64 v, .slice A n c]]) Tryz.func85 rfl rfl (by simp) ?_
  refine sr ?_
  refine cK hh [_,_] ?_
  intro b1 w1 hh
  refine aI (ae (ah (sr (bC ?_))))
  refine bH hh 0 ?_
  refine bG hh (hfw _) rfl ?_
  intro w7 hh
  refine fi ?_
  refine ae (cT (sr (aI (ae (ao (az ?_))))))
  refine cA ?_
  exact ⟨rfl, hh.below⟩
 | true =>
  rw [hf] at hfw
  by_cases h4 : 4096 < n
  ·rw [show fA v ts = 3 by unfold fA; rw [if_neg (by rw [hf]; decide), if_pos (by omega)]]
   refine ak (N := 58) (l := [.agg #[.int .i64 v, .slice A n c]]) Tryz.func85 rfl rfl (by simp) ?_
   refine sr ?_
   refine cK hh [_,_] ?_
   intro b1 w1 hh
   refine aI (ae (ah (sr (bC ?_))))
   refine bH hh 0 ?_
   refine bG hh (hfw _) rfl ?_
   intro w7 hh
   refine fi ?_
   refine ae (cF (aj (ai (ah (sr (bC ?_))))))
   refine bH hh 0 ?_
   refine aO ?_
   refine bY (ae (cT (sr (aI (ae (ao (az ?_)))))))
   refine cA ?_
   exact ⟨rfl, hh.below⟩
  ·have hbad := fun h => sH (v := v) (ts := ts) hf (by omega) h
   refine ak (N := 58) (l := [.agg #[.int .i64 v, .slice A n c]]) Tryz.func85 rfl rfl (by simp) ?_
   refine sr ?_
   refine cK hh [_,_] ?_
   intro b1 w1 hh
   refine aI (ae (ah (sr (bC ?_))))
   refine bH hh 0 ?_
   refine bG hh (hfw _) rfl ?_
   intro w7 hh
   refine fi ?_
   refine ae (cF (aj (ai (ah (sr (bC ?_))))))
   refine bH hh 0 ?_
   refine aO ?_
   refine bY (ae (cF (aj (ai (ah (sr (bC ?_)))))))
   refine bH hh 0 ?_
   refine aO (mI (ae (al ?_)))
   refine bs [2, 3, 4, 16, 17, 18, 19, 20, 21, 22, 23, 24, 25, 26, 27, 28, 29, 30, 31, 32, 33, 34, 35, 36, 37, 38, 39, 40, 41, 42, 43, 44, 45, 46, 47, 48, 49, 50, 51, 52, 53, 54, 55, 56, 57] 16
    (fun x w' => ∃ i : Nat, i ≤ n ∧ x = .int .i64 i ∧ (ts.take i).all (g8 v) = true ∧ kY (ts.take i) = true ∧ Hp w [.blk b1 24 [.int .i64 v, .slice A n c] (0, 0)] w')
    (fun x _ => n - (intOf x).toNat) ?_ ?_
   ·exact ⟨0, Nat.zero_le _, rfl, rfl, rfl, hh⟩
   ·clear hh
    rintro ρ' x_ w' ⟨i, hi, rfl, hall, hris, hh⟩
    by_cases hlt : i < n
    ·obtain ⟨x, hx⟩ := aD (l := ts) (k := i) (by omega)
     obtain ⟨ad, rfl, hr⟩ := hS.at_ (by omega)
     obtain ⟨hxo, hxm⟩ := ho x (List.mem_of_getElem? hx)
     have hmay := fun w1 => jm x.m v w1 (by omega)
     have hsg := fun w1 => nl x.c w1
     have hfo := fun w1 hT1 => eH x.c w1 hT1 (by have := hxo.1; omega) (by have := hxo.2.1; omega) (by have := hxo.2.2; omega)
     have hzz : x.c.i.sign = 0 ↔ x.c.d = 0 := by
      rw [Int.sign_eq_zero_iff_zero]
      exact ⟨fun h => by unfold NR.d; rw [h]; rfl, gQ⟩
     cases hm : dN x.m.data.toList && decide ((x.m.size : Int) = v) with
     | false =>
      rw [hm] at hmay
      rw [hbad (kB hx (by unfold g8; rw [hm]; rfl))]
      refine sr ?_
      refine aU (ae (ah (cT (aj (ai (ah (al (sr (mI ?_)))))))))
      refine aR (k := i) aF.out aC.size rfl rfl (by omega) (by omega) (by decide) ?_
      refine bQ (vs := [_, _, _, _]) aC.out rfl ((hr.ext hh.below).recAt TR.len hx) rfl (by decide) ?_
      refine cv hh ?_
      intro b4 w4 hh
      refine aI ?_
      refine bE hh 0 [_,_,_,_] ?_
      intro ws hh
      replace hh : Hp _ (.blk _ _ [_, _, _, _] _ :: _) _ := hh
      refine ae (ah ?_)
      refine cq [] [] [0, 1, 0, 4, 15, 31, 63, 127, 255, 511, 1023, 2047, 4095, 8191, 16383, 32767, 8191, 73727, 262143, 524287, 1048575, 2097151, 4194303, 8388607, 16777215, 33554431, 16777215, 83886079, 268435455, 536870911, 1073741823, 16777215, 2164260863, 8589934591, 17179869183, 34359738367] 33 [[(4, none)], [(21, some 0)], [(1, none)], [(23, some 2)], [(22, some 1), (24, some 3)], [(25, some 4)], [(26, some 5)], [(4, none), (27, some 6)], [(28, some 7), (27, some 6)], [(29, some 8), (27, some 6)], [(30, some 9), (27, some 6)], [(27, some 6), (31, some 10)], [(32, some 11)], [(4, none), (33, some 12)], [(34, some 13), (33, some 12)], [(35, some 14), (33, some 12)], [(4, none), (33, some 12)], [(37, some 16), (33, some 12)], [(36, some 15), (38, some 17), (33, some 12)], [(33, some 12), (39, some 18)], [(40, some 19)], [(3, none), (41, some 20)], [(42, some 21), (41, some 20)], [(43, some 22), (41, some 20)], [(1, none), (44, some 23)], [(45, some 24), (44, some 23)], [(3, none), (44, some 23)], [(47, some 26), (44, some 23)], [(46, some 25), (48, some 27), (44, some 23)], [(49, some 28), (44, some 23)], [(50, some 29), (44, some 23)], [(4, none), (44, some 23)], [(52, some 31), (44, some 23)]] [(32, 53), (31, 52), (30, 51), (29, 50), (28, 49), (27, 48), (26, 47), (25, 46), (24, 45), (23, 44), (22, 43), (21, 42), (20, 41), (19, 40), (18, 39), (17, 38), (16, 37), (15, 36), (14, 35), (13, 34), (12, 33), (11, 32), (10, 31), (9, 30), (8, 29), (7, 28), (6, 27), (5, 26), (4, 25), (3, 24), (2, 23), (1, 22), (0, 21)] hh mixed (by kernel_rfl) cG rfl (by repeat (first | exact bX | refine bA ?_ | refine bV ?_)) ?_
      refine cD ?_
      refine dF 0 ?_
      refine cD ?_
      refine dF 1 ?_
      refine dC (fun _ hj => hmay _) ?_
      refine pF ?_
      refine ie ?_
      first | refine dS ?_ | refine dU ?_ | refine dG (cD ?_)
      first | refine dS ?_ | refine dU ?_ | refine dG (ef 0 [_,_,_] ?_)
      first | refine dS ?_ | refine dU ?_
      first | refine dS ?_ | refine dU ?_ | refine dG (l4 ?_)
      first | refine oR ?_ | refine pj ?_
      refine ie ?_
      first | refine dS ?_ | refine dU ?_ | refine dG (cD ?_)
      first | refine dS ?_ | refine dU ?_ | refine dG (ef 0 [_,_,_] ?_)
      first | refine dS ?_ | refine dU ?_
      first | refine dS ?_ | refine dU ?_ | refine dG (cD ?_)
      first | refine dS ?_ | refine dU ?_ | refine dG (ef 0 [_,_,_] ?_)
      first | refine eX (i := 18) rfl (fun ρ1 w1 hj hR => (show ρ1 33 = Value.bool _ from hR.2.2.1)) (by decide) ?_ | refine ek (i := 18) rfl (fun ρ1 w1 hj hR => (show ρ1 33 = undef from hR.2.2.1)) ?_ | refine dL (i := 18) rfl (fun ρ1 w1 hj hR => (show ρ1 33 = Value.bool _ from hR.2.2.1)) (fun ρ1 w1 hj hR => jN (show ρ1 36 = Value.agg (List.toArray _) from hR.1) (show ρ1 38 = Value.agg (List.toArray _) from hR.2.1) (by first | assumption | rfl)) ?_ | refine dL (i := 18) rfl (fun ρ1 w1 hj hR => (show ρ1 33 = Value.bool _ from hR.2.2.1)) (fun ρ1 w1 hj hR => jF (show ρ1 36 = Value.agg (List.toArray _) from hR.1) (show ρ1 38 = Value.agg (List.toArray _) from hR.2.1) (by assumption)) ?_
      first | refine oR ?_ | refine pj ?_
      refine ie ?_
      first | refine dS ?_ | refine dU ?_ | refine dG (eb ?_)
      first | refine dS ?_ | refine dU ?_ | refine dG (rK ?_)
      first | refine dS ?_ | refine dU ?_ | refine dG (ie ?_)
      first | refine dS ?_ | refine dU ?_ | refine dG (cD ?_)
      first | refine dS ?_ | refine dU ?_ | refine dG (dF 1 ?_)
      first | refine dS ?_ | refine dU ?_ | refine dG (eb ?_)
      first | refine dS ?_ | refine dU ?_ | refine dG (jU ?_)
      first | refine eX (i := 28) rfl (fun ρ1 w1 hj hR => (show ρ1 44 = Value.bool _ from hR.2.2.1)) (by decide) ?_ | refine ek (i := 28) rfl (fun ρ1 w1 hj hR => (show ρ1 44 = undef from hR.2.2.1)) ?_ | refine dL (i := 28) rfl (fun ρ1 w1 hj hR => (show ρ1 44 = Value.bool _ from hR.2.2.1)) (fun ρ1 w1 hj hR => eg aF.out aC.size (show ρ1 46 = Value.slice _ _ _ from hR.1) (show ρ1 48 = Value.int _ _ from hR.2.1) rfl (by omega)) ?_
      first | refine dS ?_ | refine dU ?_ | refine dG (jP ?_)
      first | refine dS ?_ | refine dU ?_ | refine dG (hU (fun _ hj => hT) ?_)
      first | refine dS ?_ | refine dU ?_ | refine dG (cD ?_)
      first | refine dS ?_ | refine dU ?_ | refine dG (dF 0 ?_)
      refine a0 ?_
      intro f W hJ hV _
      have hb_8 := hJ.bl
      obtain ⟨v53, v52, v51, v50, v49, v48, v47, v46, v45, v44, v43, v42, v41, v40, v39, v38, v37, v36, v35, v34, v33, v32, v31, v30, v29, v28, v27, v26, v25, v24, v23, v22, v21, _⟩ := hV
      replace hh := hJ.hp
      refine aN (a4 (aa v53 (aa v52 (aa v51 (aa v50 (aa v49 (aa v48 (aa v47 (aa v46 (aa v45 (aa v44 (aa v43 (aa v42 (aa v41 (aa v40 (aa v39 (aa v38 (aa v37 (aa v36 (aa v35 (aa v34 (aa v33 (aa v32 (aa v31 (aa v30 (aa v29 (aa v28 (aa v27 (aa v26 (aa v25 (aa v24 (aa v23 (aa v22 (aa v21 aM)))))))))))))))))))))))))))))))))) ?_
      dsimp only [ca]
      clear hJ
      first | refine gS ?_ | (refine gT ?_; refine fq rfl rfl (by decide) ?_) | refine gV ?_
      first | refine gS ?_ | (refine gT ?_; (first | refine cR ?_ | refine cQ ?_)) | refine gV ?_
      first | refine cR ?_ | refine cQ ?_
      refine ae (cT (sr (aI (ae (ao (br (az (az (br (az ?_))))))))))
      refine cA ?_
      exact ⟨rfl, hh.below⟩
     | true =>
      rw [hm] at hmay
      by_cases hz : x.c.d = 0
      ·have hs := hzz.2 hz
       rw [hbad (kB hx (by unfold g8 kM; rw [hm, decide_eq_true hz]; rfl))]
       refine sr ?_
       refine aU (ae (ah (cT (aj (ai (ah (al (sr (mI ?_)))))))))
       refine aR (k := i) aF.out aC.size rfl rfl (by omega) (by omega) (by decide) ?_
       refine bQ (vs := [_, _, _, _]) aC.out rfl ((hr.ext hh.below).recAt TR.len hx) rfl (by decide) ?_
       refine cv hh ?_
       intro b4 w4 hh
       refine aI ?_
       refine bE hh 0 [_,_,_,_] ?_
       intro ws hh
       replace hh : Hp _ (.blk _ _ [_, _, _, _] _ :: _) _ := hh
       refine ae (ah ?_)
       refine cq [] [] [0, 1, 0, 4, 15, 31, 63, 127, 255, 511, 1023, 2047, 4095, 8191, 16383, 32767, 8191, 73727, 262143, 524287, 1048575, 2097151, 4194303, 8388607, 16777215, 33554431, 16777215, 83886079, 268435455, 536870911, 1073741823, 16777215, 2164260863, 8589934591, 17179869183, 34359738367] 33 [[(4, none)], [(21, some 0)], [(1, none)], [(23, some 2)], [(22, some 1), (24, some 3)], [(25, some 4)], [(26, some 5)], [(4, none), (27, some 6)], [(28, some 7), (27, some 6)], [(29, some 8), (27, some 6)], [(30, some 9), (27, some 6)], [(27, some 6), (31, some 10)], [(32, some 11)], [(4, none), (33, some 12)], [(34, some 13), (33, some 12)], [(35, some 14), (33, some 12)], [(4, none), (33, some 12)], [(37, some 16), (33, some 12)], [(36, some 15), (38, some 17), (33, some 12)], [(33, some 12), (39, some 18)], [(40, some 19)], [(3, none), (41, some 20)], [(42, some 21), (41, some 20)], [(43, some 22), (41, some 20)], [(1, none), (44, some 23)], [(45, some 24), (44, some 23)], [(3, none), (44, some 23)], [(47, some 26), (44, some 23)], [(46, some 25), (48, some 27), (44, some 23)], [(49, some 28), (44, some 23)], [(50, some 29), (44, some 23)], [(4, none), (44, some 23)], [(52, some 31), (44, some 23)]] [(32, 53), (31, 52), (30, 51), (29, 50), (28, 49), (27, 48), (26, 47), (25, 46), (24, 45), (23, 44), (22, 43), (21, 42), (20, 41), (19, 40), (18, 39), (17, 38), (16, 37), (15, 36), (14, 35), (13, 34), (12, 33), (11, 32), (10, 31), (9, 30), (8, 29), (7, 28), (6, 27), (5, 26), (4, 25), (3, 24), (2, 23), (1, 22), (0, 21)] hh mixed (by kernel_rfl) cG rfl (by repeat (first | exact bX | refine bA ?_ | refine bV ?_)) ?_
       refine cD ?_
       refine dF 0 ?_
       refine cD ?_
       refine dF 1 ?_
       refine dC (fun _ hj => hmay _) ?_
       refine pF ?_
       refine ie ?_
       first | refine dS ?_ | refine dU ?_ | refine dG (cD ?_)
       first | refine dS ?_ | refine dU ?_ | refine dG (ef 0 [_,_,_] ?_)
       refine bO (i := 9) rfl (fun ρ1 w1 hj hR => (show ρ1 27 = Value.bool _ from hR.2.1)) (fun ρ1 w1 hj hR => a3 av.out (aA (show ρ1 29 = Value.agg (List.toArray _) from hR.1) a9)) (fun w1 hj => hsg _) ?_
       first | refine dS ?_ | refine dU ?_ | refine dG (l4 ?_)
       first | refine oR ?_ | refine pj ?_
       refine ie ?_
       first | refine dS ?_ | refine dU ?_ | refine dG (cD ?_)
       first | refine dS ?_ | refine dU ?_ | refine dG (ef 0 [_,_,_] ?_)
       first | refine dS ?_ | refine dU ?_
       first | refine dS ?_ | refine dU ?_ | refine dG (cD ?_)
       first | refine dS ?_ | refine dU ?_ | refine dG (ef 0 [_,_,_] ?_)
       first | refine eX (i := 18) rfl (fun ρ1 w1 hj hR => (show ρ1 33 = Value.bool _ from hR.2.2.1)) (by decide) ?_ | refine ek (i := 18) rfl (fun ρ1 w1 hj hR => (show ρ1 33 = undef from hR.2.2.1)) ?_ | refine dL (i := 18) rfl (fun ρ1 w1 hj hR => (show ρ1 33 = Value.bool _ from hR.2.2.1)) (fun ρ1 w1 hj hR => jN (show ρ1 36 = Value.agg (List.toArray _) from hR.1) (show ρ1 38 = Value.agg (List.toArray _) from hR.2.1) (by first | assumption | rfl)) ?_ | refine dL (i := 18) rfl (fun ρ1 w1 hj hR => (show ρ1 33 = Value.bool _ from hR.2.2.1)) (fun ρ1 w1 hj hR => jF (show ρ1 36 = Value.agg (List.toArray _) from hR.1) (show ρ1 38 = Value.agg (List.toArray _) from hR.2.1) (by assumption)) ?_
       first | refine oR ?_ | refine pj ?_
       refine ie ?_
       first | refine dS ?_ | refine dU ?_ | refine dG (eb ?_)
       first | refine dS ?_ | refine dU ?_ | refine dG (rK ?_)
       first | refine dS ?_ | refine dU ?_ | refine dG (ie ?_)
       first | refine dS ?_ | refine dU ?_ | refine dG (cD ?_)
       first | refine dS ?_ | refine dU ?_ | refine dG (dF 1 ?_)
       first | refine dS ?_ | refine dU ?_ | refine dG (eb ?_)
       first | refine dS ?_ | refine dU ?_ | refine dG (jU ?_)
       first | refine eX (i := 28) rfl (fun ρ1 w1 hj hR => (show ρ1 44 = Value.bool _ from hR.2.2.1)) (by decide) ?_ | refine ek (i := 28) rfl (fun ρ1 w1 hj hR => (show ρ1 44 = undef from hR.2.2.1)) ?_ | refine dL (i := 28) rfl (fun ρ1 w1 hj hR => (show ρ1 44 = Value.bool _ from hR.2.2.1)) (fun ρ1 w1 hj hR => eg aF.out aC.size (show ρ1 46 = Value.slice _ _ _ from hR.1) (show ρ1 48 = Value.int _ _ from hR.2.1) rfl (by omega)) ?_
       first | refine dS ?_ | refine dU ?_ | refine dG (jP ?_)
       first | refine dS ?_ | refine dU ?_ | refine dG (hU (fun _ hj => hT) ?_)
       first | refine dS ?_ | refine dU ?_ | refine dG (cD ?_)
       first | refine dS ?_ | refine dU ?_ | refine dG (dF 0 ?_)
       refine a0 ?_
       intro f W hJ hV _
       have hb_8 := hJ.bl
       obtain ⟨v53, v52, v51, v50, v49, v48, v47, v46, v45, v44, v43, v42, v41, v40, v39, v38, v37, v36, v35, v34, v33, v32, v31, v30, v29, v28, v27, v26, v25, v24, v23, v22, v21, _⟩ := hV
       replace hh := hJ.hp
       refine aN (a4 (aa v53 (aa v52 (aa v51 (aa v50 (aa v49 (aa v48 (aa v47 (aa v46 (aa v45 (aa v44 (aa v43 (aa v42 (aa v41 (aa v40 (aa v39 (aa v38 (aa v37 (aa v36 (aa v35 (aa v34 (aa v33 (aa v32 (aa v31 (aa v30 (aa v29 (aa v28 (aa v27 (aa v26 (aa v25 (aa v24 (aa v23 (aa v22 (aa v21 aM)))))))))))))))))))))))))))))))))) ?_
       dsimp only [ca]
       clear hJ
       first | refine gS ?_ | (refine gT ?_; refine fq rfl rfl (by decide) ?_) | refine gV ?_
       first | refine gS ?_ | (refine gT ?_; (first | refine cR ?_ | refine cQ ?_)) | refine gV ?_
       first | refine cR ?_ | refine cQ ?_
       refine ae (cT (sr (aI (ae (ao (br (az (az (br (az ?_))))))))))
       refine cA ?_
       exact ⟨rfl, hh.below⟩
      ·have hs : ¬ x.c.i.sign = 0 := fun h => hz (hzz.1 h)
       by_cases hnf : nR x.c.d = x.c
       ·have hgood : g8 v x = true := by unfold g8 kM; rw [hm, decide_eq_false hz, (kv x.c).2 hnf]; rfl
        have hall2 : (ts.take (i + 1)).all (g8 v) = true := by rw [aJ hx, List.all_append, hall]; simp [hgood]
        by_cases h0 : i = 0
        ·refine sr ?_
         refine aU (ae (ah (cT (aj (ai (ah (al (sr (mI ?_)))))))))
         refine aR (k := i) aF.out aC.size rfl rfl (by omega) (by omega) (by decide) ?_
         refine bQ (vs := [_, _, _, _]) aC.out rfl ((hr.ext hh.below).recAt TR.len hx) rfl (by decide) ?_
         refine cv hh ?_
         intro b4 w4 hh
         refine aI ?_
         refine bE hh 0 [_,_,_,_] ?_
         intro ws hh
         replace hh : Hp _ (.blk _ _ [_, _, _, _] _ :: _) _ := hh
         refine ae (ah ?_)
         refine cq [] [] [0, 1, 0, 4, 15, 31, 63, 127, 255, 511, 1023, 2047, 4095, 8191, 16383, 32767, 8191, 73727, 262143, 524287, 1048575, 2097151, 4194303, 8388607, 16777215, 33554431, 16777215, 83886079, 268435455, 536870911, 1073741823, 16777215, 2164260863, 8589934591, 17179869183, 34359738367] 33 [[(4, none)], [(21, some 0)], [(1, none)], [(23, some 2)], [(22, some 1), (24, some 3)], [(25, some 4)], [(26, some 5)], [(4, none), (27, some 6)], [(28, some 7), (27, some 6)], [(29, some 8), (27, some 6)], [(30, some 9), (27, some 6)], [(27, some 6), (31, some 10)], [(32, some 11)], [(4, none), (33, some 12)], [(34, some 13), (33, some 12)], [(35, some 14), (33, some 12)], [(4, none), (33, some 12)], [(37, some 16), (33, some 12)], [(36, some 15), (38, some 17), (33, some 12)], [(33, some 12), (39, some 18)], [(40, some 19)], [(3, none), (41, some 20)], [(42, some 21), (41, some 20)], [(43, some 22), (41, some 20)], [(1, none), (44, some 23)], [(45, some 24), (44, some 23)], [(3, none), (44, some 23)], [(47, some 26), (44, some 23)], [(46, some 25), (48, some 27), (44, some 23)], [(49, some 28), (44, some 23)], [(50, some 29), (44, some 23)], [(4, none), (44, some 23)], [(52, some 31), (44, some 23)]] [(32, 53), (31, 52), (30, 51), (29, 50), (28, 49), (27, 48), (26, 47), (25, 46), (24, 45), (23, 44), (22, 43), (21, 42), (20, 41), (19, 40), (18, 39), (17, 38), (16, 37), (15, 36), (14, 35), (13, 34), (12, 33), (11, 32), (10, 31), (9, 30), (8, 29), (7, 28), (6, 27), (5, 26), (4, 25), (3, 24), (2, 23), (1, 22), (0, 21)] hh mixed (by kernel_rfl) cG rfl (by repeat (first | exact bX | refine bA ?_ | refine bV ?_)) ?_
         refine cD ?_
         refine dF 0 ?_
         refine cD ?_
         refine dF 1 ?_
         refine dC (fun _ hj => hmay _) ?_
         refine pF ?_
         refine ie ?_
         first | refine dS ?_ | refine dU ?_ | refine dG (cD ?_)
         first | refine dS ?_ | refine dU ?_ | refine dG (ef 0 [_,_,_] ?_)
         refine bO (i := 9) rfl (fun ρ1 w1 hj hR => (show ρ1 27 = Value.bool _ from hR.2.1)) (fun ρ1 w1 hj hR => a3 av.out (aA (show ρ1 29 = Value.agg (List.toArray _) from hR.1) a9)) (fun w1 hj => hsg _) ?_
         first | refine dS ?_ | refine dU ?_ | refine dG (l4 ?_)
         first | refine oR ?_ | refine pj ?_
         refine ie ?_
         first | refine dS ?_ | refine dU ?_ | refine dG (cD ?_)
         first | refine dS ?_ | refine dU ?_ | refine dG (ef 0 [_,_,_] ?_)
         refine bO (i := 15) rfl (fun ρ1 w1 hj hR => (show ρ1 33 = Value.bool _ from hR.2.1)) (fun ρ1 w1 hj hR => a3 av.out (aA (show ρ1 35 = Value.agg (List.toArray _) from hR.1) a9)) (fun w1 hj => hfo _ (hT.hp hj.hp)) ?_
         first | refine dS ?_ | refine dU ?_ | refine dG (cD ?_)
         first | refine dS ?_ | refine dU ?_ | refine dG (ef 0 [_,_,_] ?_)
         first | refine eX (i := 18) rfl (fun ρ1 w1 hj hR => (show ρ1 33 = Value.bool _ from hR.2.2.1)) (by decide) ?_ | refine ek (i := 18) rfl (fun ρ1 w1 hj hR => (show ρ1 33 = undef from hR.2.2.1)) ?_ | refine dL (i := 18) rfl (fun ρ1 w1 hj hR => (show ρ1 33 = Value.bool _ from hR.2.2.1)) (fun ρ1 w1 hj hR => jN (show ρ1 36 = Value.agg (List.toArray _) from hR.1) (show ρ1 38 = Value.agg (List.toArray _) from hR.2.1) (by first | assumption | rfl)) ?_ | refine dL (i := 18) rfl (fun ρ1 w1 hj hR => (show ρ1 33 = Value.bool _ from hR.2.2.1)) (fun ρ1 w1 hj hR => jF (show ρ1 36 = Value.agg (List.toArray _) from hR.1) (show ρ1 38 = Value.agg (List.toArray _) from hR.2.1) (by assumption)) ?_
         first | refine oR ?_ | refine pj ?_
         refine ie ?_
         first | refine dS ?_ | refine dU ?_ | refine dG (eb ?_)
         first | refine dS ?_ | refine dU ?_ | refine dG (rK ?_)
         first | refine dS ?_ | refine dU ?_ | refine dG (ie ?_)
         first | refine dS ?_ | refine dU ?_ | refine dG (cD ?_)
         first | refine dS ?_ | refine dU ?_ | refine dG (dF 1 ?_)
         first | refine dS ?_ | refine dU ?_ | refine dG (eb ?_)
         first | refine dS ?_ | refine dU ?_ | refine dG (jU ?_)
         first | refine eX (i := 28) rfl (fun ρ1 w1 hj hR => (show ρ1 44 = Value.bool _ from hR.2.2.1)) (by decide) ?_ | refine ek (i := 28) rfl (fun ρ1 w1 hj hR => (show ρ1 44 = undef from hR.2.2.1)) ?_ | refine dL (i := 28) rfl (fun ρ1 w1 hj hR => (show ρ1 44 = Value.bool _ from hR.2.2.1)) (fun ρ1 w1 hj hR => eg aF.out aC.size (show ρ1 46 = Value.slice _ _ _ from hR.1) (show ρ1 48 = Value.int _ _ from hR.2.1) rfl (by omega)) ?_
         first | refine dS ?_ | refine dU ?_ | refine dG (jP ?_)
         first | refine dS ?_ | refine dU ?_ | refine dG (hU (fun _ hj => hT) ?_)
         first | refine dS ?_ | refine dU ?_ | refine dG (cD ?_)
         first | refine dS ?_ | refine dU ?_ | refine dG (dF 0 ?_)
         refine a0 ?_
         intro f W hJ hV _
         have hb_8 := hJ.bl
         obtain ⟨v53, v52, v51, v50, v49, v48, v47, v46, v45, v44, v43, v42, v41, v40, v39, v38, v37, v36, v35, v34, v33, v32, v31, v30, v29, v28, v27, v26, v25, v24, v23, v22, v21, _⟩ := hV
         replace hh := hJ.hp
         refine aN (a4 (aa v53 (aa v52 (aa v51 (aa v50 (aa v49 (aa v48 (aa v47 (aa v46 (aa v45 (aa v44 (aa v43 (aa v42 (aa v41 (aa v40 (aa v39 (aa v38 (aa v37 (aa v36 (aa v35 (aa v34 (aa v33 (aa v32 (aa v31 (aa v30 (aa v29 (aa v28 (aa v27 (aa v26 (aa v25 (aa v24 (aa v23 (aa v22 (aa v21 aM)))))))))))))))))))))))))))))))))) ?_
         dsimp only [ca]
         clear hJ
         first | refine gS ?_ | (refine gT ?_; refine fq rfl rfl (by decide) ?_) | refine gV ?_
         first | refine gS ?_ | (refine gT ?_; (first | refine cR ?_ | refine cQ ?_)) | refine gV ?_
         first | refine cR ?_ | refine cQ ?_
         refine ae (cF (aj (aW (ai (aq ?_)))))
         refine bL (mI (aE (ai ?_)))
         replace hh := hh.sub (List.Sublist.cons _ (List.Sublist.cons_cons _ List.Sublist.slnil))
         refine ⟨⟨i + 1, by omega, rfl, hall2, by rw [aJ hx, h0]; rfl, hh⟩, by show n - (i + 1) < n - i; omega, ?_⟩
         (repeat (first | exact aw _ _ _ | refine ax rfl ?_ | refine ar rfl ?_))
        ·obtain ⟨q, hq⟩ : ∃ q, i = q + 1 := ⟨i - 1, by omega⟩
         obtain ⟨p, hp⟩ := aD (l := ts) (k := q) (by omega)
         cases hlp : fM p.m x.m with
         | false =>
          rw [hbad (th hp (hq ▸ hx) hlp)]
          have hge : (!(Op.bytesLess p.m.toList x.m.toList)) = true := by rw [gR, hlp]; rfl
          refine sr ?_
          refine aU (ae (ah (cT (aj (ai (ah (al (sr (mI ?_)))))))))
          refine aR (k := i) aF.out aC.size rfl rfl (by omega) (by omega) (by decide) ?_
          refine bQ (vs := [_, _, _, _]) aC.out rfl ((hr.ext hh.below).recAt TR.len hx) rfl (by decide) ?_
          refine cv hh ?_
          intro b4 w4 hh
          refine aI ?_
          refine bE hh 0 [_,_,_,_] ?_
          intro ws hh
          replace hh : Hp _ (.blk _ _ [_, _, _, _] _ :: _) _ := hh
          refine ae (ah ?_)
          refine cq [] [] [0, 1, 0, 4, 15, 31, 63, 127, 255, 511, 1023, 2047, 4095, 8191, 16383, 32767, 8191, 73727, 262143, 524287, 1048575, 2097151, 4194303, 8388607, 16777215, 33554431, 16777215, 83886079, 268435455, 536870911, 1073741823, 16777215, 2164260863, 8589934591, 17179869183, 34359738367] 33 [[(4, none)], [(21, some 0)], [(1, none)], [(23, some 2)], [(22, some 1), (24, some 3)], [(25, some 4)], [(26, some 5)], [(4, none), (27, some 6)], [(28, some 7), (27, some 6)], [(29, some 8), (27, some 6)], [(30, some 9), (27, some 6)], [(27, some 6), (31, some 10)], [(32, some 11)], [(4, none), (33, some 12)], [(34, some 13), (33, some 12)], [(35, some 14), (33, some 12)], [(4, none), (33, some 12)], [(37, some 16), (33, some 12)], [(36, some 15), (38, some 17), (33, some 12)], [(33, some 12), (39, some 18)], [(40, some 19)], [(3, none), (41, some 20)], [(42, some 21), (41, some 20)], [(43, some 22), (41, some 20)], [(1, none), (44, some 23)], [(45, some 24), (44, some 23)], [(3, none), (44, some 23)], [(47, some 26), (44, some 23)], [(46, some 25), (48, some 27), (44, some 23)], [(49, some 28), (44, some 23)], [(50, some 29), (44, some 23)], [(4, none), (44, some 23)], [(52, some 31), (44, some 23)]] [(32, 53), (31, 52), (30, 51), (29, 50), (28, 49), (27, 48), (26, 47), (25, 46), (24, 45), (23, 44), (22, 43), (21, 42), (20, 41), (19, 40), (18, 39), (17, 38), (16, 37), (15, 36), (14, 35), (13, 34), (12, 33), (11, 32), (10, 31), (9, 30), (8, 29), (7, 28), (6, 27), (5, 26), (4, 25), (3, 24), (2, 23), (1, 22), (0, 21)] hh mixed (by kernel_rfl) cG rfl (by repeat (first | exact bX | refine bA ?_ | refine bV ?_)) ?_
          refine cD ?_
          refine dF 0 ?_
          refine cD ?_
          refine dF 1 ?_
          refine dC (fun _ hj => hmay _) ?_
          refine pF ?_
          refine ie ?_
          first | refine dS ?_ | refine dU ?_ | refine dG (cD ?_)
          first | refine dS ?_ | refine dU ?_ | refine dG (ef 0 [_,_,_] ?_)
          refine bO (i := 9) rfl (fun ρ1 w1 hj hR => (show ρ1 27 = Value.bool _ from hR.2.1)) (fun ρ1 w1 hj hR => a3 av.out (aA (show ρ1 29 = Value.agg (List.toArray _) from hR.1) a9)) (fun w1 hj => hsg _) ?_
          first | refine dS ?_ | refine dU ?_ | refine dG (l4 ?_)
          first | refine oR ?_ | refine pj ?_
          refine ie ?_
          first | refine dS ?_ | refine dU ?_ | refine dG (cD ?_)
          first | refine dS ?_ | refine dU ?_ | refine dG (ef 0 [_,_,_] ?_)
          refine bO (i := 15) rfl (fun ρ1 w1 hj hR => (show ρ1 33 = Value.bool _ from hR.2.1)) (fun ρ1 w1 hj hR => a3 av.out (aA (show ρ1 35 = Value.agg (List.toArray _) from hR.1) a9)) (fun w1 hj => hfo _ (hT.hp hj.hp)) ?_
          first | refine dS ?_ | refine dU ?_ | refine dG (cD ?_)
          first | refine dS ?_ | refine dU ?_ | refine dG (ef 0 [_,_,_] ?_)
          first | refine eX (i := 18) rfl (fun ρ1 w1 hj hR => (show ρ1 33 = Value.bool _ from hR.2.2.1)) (by decide) ?_ | refine ek (i := 18) rfl (fun ρ1 w1 hj hR => (show ρ1 33 = undef from hR.2.2.1)) ?_ | refine dL (i := 18) rfl (fun ρ1 w1 hj hR => (show ρ1 33 = Value.bool _ from hR.2.2.1)) (fun ρ1 w1 hj hR => jN (show ρ1 36 = Value.agg (List.toArray _) from hR.1) (show ρ1 38 = Value.agg (List.toArray _) from hR.2.1) (by first | assumption | rfl)) ?_ | refine dL (i := 18) rfl (fun ρ1 w1 hj hR => (show ρ1 33 = Value.bool _ from hR.2.2.1)) (fun ρ1 w1 hj hR => jF (show ρ1 36 = Value.agg (List.toArray _) from hR.1) (show ρ1 38 = Value.agg (List.toArray _) from hR.2.1) (by assumption)) ?_
          first | refine oR ?_ | refine pj ?_
          refine ie ?_
          first | refine dS ?_ | refine dU ?_ | refine dG (eb ?_)
          first | refine dS ?_ | refine dU ?_ | refine dG (rK ?_)
          first | refine dS ?_ | refine dU ?_ | refine dG (ie ?_)
          first | refine dS ?_ | refine dU ?_ | refine dG (cD ?_)
          first | refine dS ?_ | refine dU ?_ | refine dG (dF 1 ?_)
          first | refine dS ?_ | refine dU ?_ | refine dG (eb ?_)
          first | refine dS ?_ | refine dU ?_ | refine dG (jU ?_)
          first | refine dS ?_ | refine dU ?_ | refine dG (iA (q) ?_)
          first | refine dS ?_ | refine dU ?_ | refine dG (jP ?_)
          first | refine dS ?_ | refine dU ?_ | refine dG (hU (fun _ hj => ((hr.ext hj.hp.below).recAt TR.len hp).cell (i := 0) rfl) ?_)
          first | refine dS ?_ | refine dU ?_ | refine dG (cD ?_)
          first | refine dS ?_ | refine dU ?_ | refine dG (dF 0 ?_)
          refine a0 ?_
          intro f W hJ hV _
          have hb_8 := hJ.bl
          obtain ⟨v53, v52, v51, v50, v49, v48, v47, v46, v45, v44, v43, v42, v41, v40, v39, v38, v37, v36, v35, v34, v33, v32, v31, v30, v29, v28, v27, v26, v25, v24, v23, v22, v21, _⟩ := hV
          replace hh := hJ.hp
          refine aN (a4 (aa v53 (aa v52 (aa v51 (aa v50 (aa v49 (aa v48 (aa v47 (aa v46 (aa v45 (aa v44 (aa v43 (aa v42 (aa v41 (aa v40 (aa v39 (aa v38 (aa v37 (aa v36 (aa v35 (aa v34 (aa v33 (aa v32 (aa v31 (aa v30 (aa v29 (aa v28 (aa v27 (aa v26 (aa v25 (aa v24 (aa v23 (aa v22 (aa v21 aM)))))))))))))))))))))))))))))))))) ?_
          dsimp only [ca]
          clear hJ
          first | refine gS ?_ | (refine gT ?_; refine fq rfl rfl (by decide) ?_) | refine gV ?_
          first | refine gS ?_ | (refine gT ?_; (first | refine cR ?_ | refine cQ ?_)) | refine gV ?_
          first | refine cR ?_ | refine cQ ?_
          refine ae ?_
          rw [hge]
          refine cT (sr (aI (ae (ao (br (az (az (br (az ?_)))))))))
          refine cA ?_
          exact ⟨rfl, hh.below⟩
         | true =>
          have hge : (!(Op.bytesLess p.m.toList x.m.toList)) = false := by rw [gR, hlp]; rfl
          refine sr ?_
          refine aU (ae (ah (cT (aj (ai (ah (al (sr (mI ?_)))))))))
          refine aR (k := i) aF.out aC.size rfl rfl (by omega) (by omega) (by decide) ?_
          refine bQ (vs := [_, _, _, _]) aC.out rfl ((hr.ext hh.below).recAt TR.len hx) rfl (by decide) ?_
          refine cv hh ?_
          intro b4 w4 hh
          refine aI ?_
          refine bE hh 0 [_,_,_,_] ?_
          intro ws hh
          replace hh : Hp _ (.blk _ _ [_, _, _, _] _ :: _) _ := hh
          refine ae (ah ?_)
          refine cq [] [] [0, 1, 0, 4, 15, 31, 63, 127, 255, 511, 1023, 2047, 4095, 8191, 16383, 32767, 8191, 73727, 262143, 524287, 1048575, 2097151, 4194303, 8388607, 16777215, 33554431, 16777215, 83886079, 268435455, 536870911, 1073741823, 16777215, 2164260863, 8589934591, 17179869183, 34359738367] 33 [[(4, none)], [(21, some 0)], [(1, none)], [(23, some 2)], [(22, some 1), (24, some 3)], [(25, some 4)], [(26, some 5)], [(4, none), (27, some 6)], [(28, some 7), (27, some 6)], [(29, some 8), (27, some 6)], [(30, some 9), (27, some 6)], [(27, some 6), (31, some 10)], [(32, some 11)], [(4, none), (33, some 12)], [(34, some 13), (33, some 12)], [(35, some 14), (33, some 12)], [(4, none), (33, some 12)], [(37, some 16), (33, some 12)], [(36, some 15), (38, some 17), (33, some 12)], [(33, some 12), (39, some 18)], [(40, some 19)], [(3, none), (41, some 20)], [(42, some 21), (41, some 20)], [(43, some 22), (41, some 20)], [(1, none), (44, some 23)], [(45, some 24), (44, some 23)], [(3, none), (44, some 23)], [(47, some 26), (44, some 23)], [(46, some 25), (48, some 27), (44, some 23)], [(49, some 28), (44, some 23)], [(50, some 29), (44, some 23)], [(4, none), (44, some 23)], [(52, some 31), (44, some 23)]] [(32, 53), (31, 52), (30, 51), (29, 50), (28, 49), (27, 48), (26, 47), (25, 46), (24, 45), (23, 44), (22, 43), (21, 42), (20, 41), (19, 40), (18, 39), (17, 38), (16, 37), (15, 36), (14, 35), (13, 34), (12, 33), (11, 32), (10, 31), (9, 30), (8, 29), (7, 28), (6, 27), (5, 26), (4, 25), (3, 24), (2, 23), (1, 22), (0, 21)] hh mixed (by kernel_rfl) cG rfl (by repeat (first | exact bX | refine bA ?_ | refine bV ?_)) ?_
          refine cD ?_
          refine dF 0 ?_
          refine cD ?_
          refine dF 1 ?_
          refine dC (fun _ hj => hmay _) ?_
          refine pF ?_
          refine ie ?_
          first | refine dS ?_ | refine dU ?_ | refine dG (cD ?_)
          first | refine dS ?_ | refine dU ?_ | refine dG (ef 0 [_,_,_] ?_)
          refine bO (i := 9) rfl (fun ρ1 w1 hj hR => (show ρ1 27 = Value.bool _ from hR.2.1)) (fun ρ1 w1 hj hR => a3 av.out (aA (show ρ1 29 = Value.agg (List.toArray _) from hR.1) a9)) (fun w1 hj => hsg _) ?_
          first | refine dS ?_ | refine dU ?_ | refine dG (l4 ?_)
          first | refine oR ?_ | refine pj ?_
          refine ie ?_
          first | refine dS ?_ | refine dU ?_ | refine dG (cD ?_)
          first | refine dS ?_ | refine dU ?_ | refine dG (ef 0 [_,_,_] ?_)
          refine bO (i := 15) rfl (fun ρ1 w1 hj hR => (show ρ1 33 = Value.bool _ from hR.2.1)) (fun ρ1 w1 hj hR => a3 av.out (aA (show ρ1 35 = Value.agg (List.toArray _) from hR.1) a9)) (fun w1 hj => hfo _ (hT.hp hj.hp)) ?_
          first | refine dS ?_ | refine dU ?_ | refine dG (cD ?_)
          first | refine dS ?_ | refine dU ?_ | refine dG (ef 0 [_,_,_] ?_)
          first | refine eX (i := 18) rfl (fun ρ1 w1 hj hR => (show ρ1 33 = Value.bool _ from hR.2.2.1)) (by decide) ?_ | refine ek (i := 18) rfl (fun ρ1 w1 hj hR => (show ρ1 33 = undef from hR.2.2.1)) ?_ | refine dL (i := 18) rfl (fun ρ1 w1 hj hR => (show ρ1 33 = Value.bool _ from hR.2.2.1)) (fun ρ1 w1 hj hR => jN (show ρ1 36 = Value.agg (List.toArray _) from hR.1) (show ρ1 38 = Value.agg (List.toArray _) from hR.2.1) (by first | assumption | rfl)) ?_ | refine dL (i := 18) rfl (fun ρ1 w1 hj hR => (show ρ1 33 = Value.bool _ from hR.2.2.1)) (fun ρ1 w1 hj hR => jF (show ρ1 36 = Value.agg (List.toArray _) from hR.1) (show ρ1 38 = Value.agg (List.toArray _) from hR.2.1) (by assumption)) ?_
          first | refine oR ?_ | refine pj ?_
          refine ie ?_
          first | refine dS ?_ | refine dU ?_ | refine dG (eb ?_)
          first | refine dS ?_ | refine dU ?_ | refine dG (rK ?_)
          first | refine dS ?_ | refine dU ?_ | refine dG (ie ?_)
          first | refine dS ?_ | refine dU ?_ | refine dG (cD ?_)
          first | refine dS ?_ | refine dU ?_ | refine dG (dF 1 ?_)
          first | refine dS ?_ | refine dU ?_ | refine dG (eb ?_)
          first | refine dS ?_ | refine dU ?_ | refine dG (jU ?_)
          first | refine dS ?_ | refine dU ?_ | refine dG (iA (q) ?_)
          first | refine dS ?_ | refine dU ?_ | refine dG (jP ?_)
          first | refine dS ?_ | refine dU ?_ | refine dG (hU (fun _ hj => ((hr.ext hj.hp.below).recAt TR.len hp).cell (i := 0) rfl) ?_)
          first | refine dS ?_ | refine dU ?_ | refine dG (cD ?_)
          first | refine dS ?_ | refine dU ?_ | refine dG (dF 0 ?_)
          refine a0 ?_
          intro f W hJ hV _
          have hb_8 := hJ.bl
          obtain ⟨v53, v52, v51, v50, v49, v48, v47, v46, v45, v44, v43, v42, v41, v40, v39, v38, v37, v36, v35, v34, v33, v32, v31, v30, v29, v28, v27, v26, v25, v24, v23, v22, v21, _⟩ := hV
          replace hh := hJ.hp
          refine aN (a4 (aa v53 (aa v52 (aa v51 (aa v50 (aa v49 (aa v48 (aa v47 (aa v46 (aa v45 (aa v44 (aa v43 (aa v42 (aa v41 (aa v40 (aa v39 (aa v38 (aa v37 (aa v36 (aa v35 (aa v34 (aa v33 (aa v32 (aa v31 (aa v30 (aa v29 (aa v28 (aa v27 (aa v26 (aa v25 (aa v24 (aa v23 (aa v22 (aa v21 aM)))))))))))))))))))))))))))))))))) ?_
          dsimp only [ca]
          clear hJ
          first | refine gS ?_ | (refine gT ?_; refine fq rfl rfl (by decide) ?_) | refine gV ?_
          first | refine gS ?_ | (refine gT ?_; (first | refine cR ?_ | refine cQ ?_)) | refine gV ?_
          first | refine cR ?_ | refine cQ ?_
          refine ae ?_
          rw [hge]
          refine cF (aj (aW (ai (aq ?_))))
          refine bL (mI (aE (ai ?_)))
          replace hh := hh.sub (List.Sublist.cons _ (List.Sublist.cons_cons _ List.Sublist.slnil))
          refine ⟨⟨i + 1, by omega, rfl, hall2, ?_, hh⟩, by show n - (i + 1) < n - i; omega, ?_⟩
          ·rw [hq, aJ hp] at hris
           rw [aJ hx, hq, aJ hp, List.append_assoc]
           show kY (ts.take q ++ [p, x]) = true
           rw [m0, hris, hlp]
           rfl
          ·(repeat (first | exact aw _ _ _ | refine ax rfl ?_ | refine ar rfl ?_))
       ·rw [hbad (kB hx (by unfold g8 kM; rw [hm, decide_eq_false hz, Bool.eq_false_iff.2 (fun h => hnf ((kv x.c).1 h))]; rfl))]
        refine sr ?_
        refine aU (ae (ah (cT (aj (ai (ah (al (sr (mI ?_)))))))))
        refine aR (k := i) aF.out aC.size rfl rfl (by omega) (by omega) (by decide) ?_
        refine bQ (vs := [_, _, _, _]) aC.out rfl ((hr.ext hh.below).recAt TR.len hx) rfl (by decide) ?_
        refine cv hh ?_
        intro b4 w4 hh
        refine aI ?_
        refine bE hh 0 [_,_,_,_] ?_
        intro ws hh
        replace hh : Hp _ (.blk _ _ [_, _, _, _] _ :: _) _ := hh
        refine ae (ah ?_)
        refine cq [] [] [0, 1, 0, 4, 15, 31, 63, 127, 255, 511, 1023, 2047, 4095, 8191, 16383, 32767, 8191, 73727, 262143, 524287, 1048575, 2097151, 4194303, 8388607, 16777215, 33554431, 16777215, 83886079, 268435455, 536870911, 1073741823, 16777215, 2164260863, 8589934591, 17179869183, 34359738367] 33 [[(4, none)], [(21, some 0)], [(1, none)], [(23, some 2)], [(22, some 1), (24, some 3)], [(25, some 4)], [(26, some 5)], [(4, none), (27, some 6)], [(28, some 7), (27, some 6)], [(29, some 8), (27, some 6)], [(30, some 9), (27, some 6)], [(27, some 6), (31, some 10)], [(32, some 11)], [(4, none), (33, some 12)], [(34, some 13), (33, some 12)], [(35, some 14), (33, some 12)], [(4, none), (33, some 12)], [(37, some 16), (33, some 12)], [(36, some 15), (38, some 17), (33, some 12)], [(33, some 12), (39, some 18)], [(40, some 19)], [(3, none), (41, some 20)], [(42, some 21), (41, some 20)], [(43, some 22), (41, some 20)], [(1, none), (44, some 23)], [(45, some 24), (44, some 23)], [(3, none), (44, some 23)], [(47, some 26), (44, some 23)], [(46, some 25), (48, some 27), (44, some 23)], [(49, some 28), (44, some 23)], [(50, some 29), (44, some 23)], [(4, none), (44, some 23)], [(52, some 31), (44, some 23)]] [(32, 53), (31, 52), (30, 51), (29, 50), (28, 49), (27, 48), (26, 47), (25, 46), (24, 45), (23, 44), (22, 43), (21, 42), (20, 41), (19, 40), (18, 39), (17, 38), (16, 37), (15, 36), (14, 35), (13, 34), (12, 33), (11, 32), (10, 31), (9, 30), (8, 29), (7, 28), (6, 27), (5, 26), (4, 25), (3, 24), (2, 23), (1, 22), (0, 21)] hh mixed (by kernel_rfl) cG rfl (by repeat (first | exact bX | refine bA ?_ | refine bV ?_)) ?_
        refine cD ?_
        refine dF 0 ?_
        refine cD ?_
        refine dF 1 ?_
        refine dC (fun _ hj => hmay _) ?_
        refine pF ?_
        refine ie ?_
        first | refine dS ?_ | refine dU ?_ | refine dG (cD ?_)
        first | refine dS ?_ | refine dU ?_ | refine dG (ef 0 [_,_,_] ?_)
        refine bO (i := 9) rfl (fun ρ1 w1 hj hR => (show ρ1 27 = Value.bool _ from hR.2.1)) (fun ρ1 w1 hj hR => a3 av.out (aA (show ρ1 29 = Value.agg (List.toArray _) from hR.1) a9)) (fun w1 hj => hsg _) ?_
        first | refine dS ?_ | refine dU ?_ | refine dG (l4 ?_)
        first | refine oR ?_ | refine pj ?_
        refine ie ?_
        first | refine dS ?_ | refine dU ?_ | refine dG (cD ?_)
        first | refine dS ?_ | refine dU ?_ | refine dG (ef 0 [_,_,_] ?_)
        refine bO (i := 15) rfl (fun ρ1 w1 hj hR => (show ρ1 33 = Value.bool _ from hR.2.1)) (fun ρ1 w1 hj hR => a3 av.out (aA (show ρ1 35 = Value.agg (List.toArray _) from hR.1) a9)) (fun w1 hj => hfo _ (hT.hp hj.hp)) ?_
        first | refine dS ?_ | refine dU ?_ | refine dG (cD ?_)
        first | refine dS ?_ | refine dU ?_ | refine dG (ef 0 [_,_,_] ?_)
        first | refine eX (i := 18) rfl (fun ρ1 w1 hj hR => (show ρ1 33 = Value.bool _ from hR.2.2.1)) (by decide) ?_ | refine ek (i := 18) rfl (fun ρ1 w1 hj hR => (show ρ1 33 = undef from hR.2.2.1)) ?_ | refine dL (i := 18) rfl (fun ρ1 w1 hj hR => (show ρ1 33 = Value.bool _ from hR.2.2.1)) (fun ρ1 w1 hj hR => jN (show ρ1 36 = Value.agg (List.toArray _) from hR.1) (show ρ1 38 = Value.agg (List.toArray _) from hR.2.1) (by first | assumption | rfl)) ?_ | refine dL (i := 18) rfl (fun ρ1 w1 hj hR => (show ρ1 33 = Value.bool _ from hR.2.2.1)) (fun ρ1 w1 hj hR => jF (show ρ1 36 = Value.agg (List.toArray _) from hR.1) (show ρ1 38 = Value.agg (List.toArray _) from hR.2.1) (by assumption)) ?_
        first | refine oR ?_ | refine pj ?_
        refine ie ?_
        first | refine dS ?_ | refine dU ?_ | refine dG (eb ?_)
        first | refine dS ?_ | refine dU ?_ | refine dG (rK ?_)
        first | refine dS ?_ | refine dU ?_ | refine dG (ie ?_)
        first | refine dS ?_ | refine dU ?_ | refine dG (cD ?_)
        first | refine dS ?_ | refine dU ?_ | refine dG (dF 1 ?_)
        first | refine dS ?_ | refine dU ?_ | refine dG (eb ?_)
        first | refine dS ?_ | refine dU ?_ | refine dG (jU ?_)
        first | refine eX (i := 28) rfl (fun ρ1 w1 hj hR => (show ρ1 44 = Value.bool _ from hR.2.2.1)) (by decide) ?_ | refine ek (i := 28) rfl (fun ρ1 w1 hj hR => (show ρ1 44 = undef from hR.2.2.1)) ?_ | refine dL (i := 28) rfl (fun ρ1 w1 hj hR => (show ρ1 44 = Value.bool _ from hR.2.2.1)) (fun ρ1 w1 hj hR => eg aF.out aC.size (show ρ1 46 = Value.slice _ _ _ from hR.1) (show ρ1 48 = Value.int _ _ from hR.2.1) rfl (by omega)) ?_
        first | refine dS ?_ | refine dU ?_ | refine dG (jP ?_)
        first | refine dS ?_ | refine dU ?_ | refine dG (hU (fun _ hj => hT) ?_)
        first | refine dS ?_ | refine dU ?_ | refine dG (cD ?_)
        first | refine dS ?_ | refine dU ?_ | refine dG (dF 0 ?_)
        refine a0 ?_
        intro f W hJ hV _
        have hb_8 := hJ.bl
        obtain ⟨v53, v52, v51, v50, v49, v48, v47, v46, v45, v44, v43, v42, v41, v40, v39, v38, v37, v36, v35, v34, v33, v32, v31, v30, v29, v28, v27, v26, v25, v24, v23, v22, v21, _⟩ := hV
        replace hh := hJ.hp
        refine aN (a4 (aa v53 (aa v52 (aa v51 (aa v50 (aa v49 (aa v48 (aa v47 (aa v46 (aa v45 (aa v44 (aa v43 (aa v42 (aa v41 (aa v40 (aa v39 (aa v38 (aa v37 (aa v36 (aa v35 (aa v34 (aa v33 (aa v32 (aa v31 (aa v30 (aa v29 (aa v28 (aa v27 (aa v26 (aa v25 (aa v24 (aa v23 (aa v22 (aa v21 aM)))))))))))))))))))))))))))))))))) ?_
        dsimp only [ca]
        clear hJ
        first | refine gS ?_ | (refine gT ?_; refine fq rfl rfl (by decide) ?_) | refine gV ?_
        first | refine gS ?_ | (refine gT ?_; (first | refine cR ?_ | refine cQ ?_)) | refine gV ?_
        first | refine cR ?_ | refine cQ ?_
        refine ae (cT (sr (aI (ae (ao (br (az (az (br (az ?_))))))))))
        refine cA ?_
        exact ⟨rfl, hh.below⟩
    ·rw [List.take_of_length_le (by omega)] at hall hris
     rw [show fA v ts = 0 by unfold fA okB; rw [if_neg (by rw [hf]; decide), if_neg (by omega), hall, hris]; rfl]
     refine sr ?_
     refine aU (ae (ah (cF ?_)))
     refine aP ?_
     refine ay (ay (a6 (ai (sr (aI (ae (ao ?_)))))))
     refine cA ?_
     exact ⟨rfl, hh.below⟩
end Go.Proofs.YtaapkaefelhfcaaGreatDoor
/- The walks through poly.Make. -/
namespace Go.Proofs.YtaapkaefelhfcaaGreatDoor
open Go.RowKit
def fk (v : Int) (t : TR) : Bool := dN t.m.data.toList && decide ((t.m.size : Int) = v)
theorem sT (z : TR) (v : Int) (b : Nat) (w : World) (hp : w.cell? ⟨b, 0, none⟩ = some (.int .i64 v)) (hz : z.m.size ≤ 100000) : Calls Tryz.prog 188 #[.agg #[.string z.m, .bool z.c.neg, .string z.c.bJ, .int .i64 z.c.e], .pointer (some ⟨b, 0, none⟩)] w fun r w' => r = .returned (.bool (!fk v z)) ∧ Below w.heap.size w w' := by
 have hh := Hp.start w
 have hmay := fun w1 => jm z.m v w1 (by omega)
 unfold fk
 refine ak (N := 9) (l := [.agg #[.string z.m, .bool z.c.neg, .string z.c.bJ, .int .i64 z.c.e], .pointer (some ⟨b, 0, none⟩)]) Tryz.func188 rfl rfl (by simp) ?_
 refine sr ?_
 refine cK hh [_,_,_,_] ?_
 intro b2 w2 hh
 refine aB (ae (sr (bC ?_)))
 refine bH hh 0 ?_
 refine bh aC.out rfl (cO hh.below hp) (by decide) ?_
 refine bG hh (hmay _) rfl ?_
 intro w7 hh
 cases dN z.m.data.toList && decide ((z.m.size : Int) = v) with
 | false =>
  refine fi ?_
  refine aB (ae (ao ?_))
  refine cA ?_
  exact ⟨rfl, hh.below⟩
 | true =>
  refine fi ?_
  refine aB (ae (ao ?_))
  refine cA ?_
  exact ⟨rfl, hh.below⟩
theorem pG (A : Option Addr) (n c : Nat) (l : List TR) (v : Int) (b : Nat) (w : World) (hS : Sl w A n 4 (aQ TR.cells l)) (hn : n ≤ 1000000) (hp : w.cell? ⟨b, 0, none⟩ = some (.int .i64 v)) (hz : ∀ t ∈ l, t.m.size ≤ 100000) :
  Calls Tryz.prog 187 #[.slice A n c, .func (.func 188) #[] #[.pointer (some ⟨b, 0, none⟩)]] w fun r w' => r = .returned (.bool (l.any fun t => !fk v t)) ∧ Below w.heap.size w w' :=
 ub A n c l 188 [.pointer (some ⟨b, 0, none⟩)] (fun t => !fk v t) w hS hn fun z w1 hz2 hb => sT z v b w1 (cO hb hp) (hz z hz2)
def j2 (v : Int) (l : List TR) : Int := if gD v = false ∨ (l.any fun t => !fk v t) = true then 1 else if 65536 < l.length then 3 else eW l
theorem j7 (v : Int) (A : Option Addr) (n c : Nat) (l : List TR) (k : Nat) (w : World) (hT : hG w) (hS : Sl w A n 4 (aQ TR.cells l)) (hn : n ≤ 1000000) (hk : k ≤ 2999980) (ho : gi k l) (hz : ∀ t ∈ l, t.m.size ≤ 100000) :
  Calls Tryz.prog 91 #[.int .i64 v, .slice A n c] w fun r w' => ∃ g : PX, cC (j2 v l) v (aT l) g ∧ r = .returned (.tuple #[.agg #[.int .i64 g.v, .slice g.A g.n g.c], .int .i64 (j2 v l)]) ∧ Hp w [g.row] w' := by
 have hh := Hp.start w
 have hln := hS.cg TR.len (by decide)
 have hfw := fun w1 => mE v w1
 have han := fun b w1 hb hp => pG A n c l v b w1 (hS.ext hb) hn hp hz
 cases hf : gD v with
 | false =>
  rw [hf] at hfw
  rw [show j2 v l = 1 by unfold j2; rw [if_pos (.inl hf)]]
  refine ak (N := 25) (l := [.int .i64 v, .slice A n c]) Tryz.func91 rfl rfl (by simp) ?_
  refine sr ?_
  refine cK hh [_] ?_
  intro b2 w2 hh
  refine cv hh ?_
  intro b4 w4 hh
  refine aI (ae (ah (sr ?_)))
  refine bH hh 1 ?_
  refine bG hh (hfw _) rfl ?_
  intro w7 hh
  refine fi ?_
  refine mB ?_
  first | refine gS ?_ | (refine gT ?_; refine mL ?_) | refine gV ?_
  first | refine gS ?_ | (refine gT ?_; refine ff rfl (aA (kd rfl) a9) (by decide) ?_) | refine gV ?_
  refine cm (by decide) rfl rfl (by decide) ?_
  first | refine cR ?_ | refine cQ ?_
  refine ae (cT (sr ?_))
  refine ep [_,_] ?_
  refine bE hh 0 [_,_] ?_
  intro ws hh
  replace hh : Hp _ (.blk _ _ [_, _] _ :: _) _ := hh
  refine aI (ae (ao (az ?_)))
  refine gL (aG rfl (aH (vs := [_, _]) aC.out (hh.au (i := 0) (n := 2) rfl rfl) rfl) (bS (cf rfl) a7)) ?_
  exact ⟨PX.nil, cC.err (by decide), rfl, (hh.sub (List.nil_sublist _)).fP⟩
 | true =>
  rw [hf] at hfw
  cases ha : l.any fun t => !fk v t with
  | true =>
   rw [ha] at han
   rw [show j2 v l = 1 by unfold j2; rw [if_pos (.inr ha)]]
   refine ak (N := 25) (l := [.int .i64 v, .slice A n c]) Tryz.func91 rfl rfl (by simp) ?_
   refine sr ?_
   refine cK hh [_] ?_
   intro b2 w2 hh
   refine cv hh ?_
   intro b4 w4 hh
   refine aI (ae (ah (sr ?_)))
   refine bH hh 1 ?_
   refine bG hh (hfw _) rfl ?_
   intro w7 hh
   refine fi ?_
   refine mB ?_
   first | refine gS ?_ | (refine gT ?_; refine mL ?_) | refine gV ?_
   first | refine gS ?_ | (refine gT ?_; refine ff rfl (aA (kd rfl) a9) (by decide) ?_) | refine gV ?_
   refine bu rfl rfl ?_
   refine bG hh (han _ _ hh.below (hh.dY (i := 1) (o := 0) rfl rfl)) rfl ?_
   intro w12 hh
   first | refine cR ?_ | refine cQ ?_
   refine ae (cT (sr ?_))
   refine ep [_,_] ?_
   refine bE hh 0 [_,_] ?_
   intro ws hh
   replace hh : Hp _ (.blk _ _ [_, _] _ :: _) _ := hh
   refine aI (ae (ao (az ?_)))
   refine gL (aG rfl (aH (vs := [_, _]) aC.out (hh.au (i := 0) (n := 2) rfl rfl) rfl) (bS (cf rfl) a7)) ?_
   exact ⟨PX.nil, cC.err (by decide), rfl, (hh.sub (List.nil_sublist _)).fP⟩
  | false =>
   rw [ha] at han
   have e1 : j2 v l = if 65536 < l.length then 3 else eW l := by unfold j2; rw [if_neg (by rw [hf, ha]; decide)]
   by_cases h6 : 65536 < n
   ·rw [e1, if_pos (by omega)]
    refine ak (N := 25) (l := [.int .i64 v, .slice A n c]) Tryz.func91 rfl rfl (by simp) ?_
    refine sr ?_
    refine cK hh [_] ?_
    intro b2 w2 hh
    refine cv hh ?_
    intro b4 w4 hh
    refine aI (ae (ah (sr ?_)))
    refine bH hh 1 ?_
    refine bG hh (hfw _) rfl ?_
    intro w7 hh
    refine fi ?_
    refine mB ?_
    first | refine gS ?_ | (refine gT ?_; refine mL ?_) | refine gV ?_
    first | refine gS ?_ | (refine gT ?_; refine ff rfl (aA (kd rfl) a9) (by decide) ?_) | refine gV ?_
    refine bu rfl rfl ?_
    refine bG hh (han _ _ hh.below (hh.dY (i := 1) (o := 0) rfl rfl)) rfl ?_
    intro w12 hh
    first | refine cR ?_ | refine cQ ?_
    refine ae (cF (aj (ai (ah (sr (mL (aO ?_)))))))
    refine bY (ae (cT (sr ?_)))
    refine ep [_,_] ?_
    refine bE hh 0 [_,_] ?_
    intro ws hh
    replace hh : Hp _ (.blk _ _ [_, _] _ :: _) _ := hh
    refine aI (ae (ao (az ?_)))
    refine gL (aG rfl (aH (vs := [_, _]) aC.out (hh.au (i := 0) (n := 2) rfl rfl) rfl) (bS (cf rfl) a7)) ?_
    exact ⟨PX.nil, cC.err (by decide), rfl, (hh.sub (List.nil_sublist _)).fP⟩
   ·rw [e1, if_neg (by omega)]
    refine ak (N := 25) (l := [.int .i64 v, .slice A n c]) Tryz.func91 rfl rfl (by simp) ?_
    refine sr ?_
    refine cK hh [_] ?_
    intro b2 w2 hh
    refine cv hh ?_
    intro b4 w4 hh
    refine aI (ae (ah (sr ?_)))
    refine bH hh 1 ?_
    refine bG hh (hfw _) rfl ?_
    intro w7 hh
    refine fi ?_
    refine mB ?_
    first | refine gS ?_ | (refine gT ?_; refine mL ?_) | refine gV ?_
    first | refine gS ?_ | (refine gT ?_; refine ff rfl (aA (kd rfl) a9) (by decide) ?_) | refine gV ?_
    refine bu rfl rfl ?_
    refine bG hh (han _ _ hh.below (hh.dY (i := 1) (o := 0) rfl rfl)) rfl ?_
    intro w12 hh
    first | refine cR ?_ | refine cQ ?_
    refine ae (cF (aj (ai (ah (sr (mL (aO ?_)))))))
    refine bY (ae (cF (aj (ai (ah ?_)))))
    refine kG [] [0, 0, 2, 7, 15, 15, 63, 127] 3 [[(2, none)], [(1, none)], [(20, some 1)]] [(2, 21), (1, 20), (0, 19)] [([], 4, [(2, 21), (1, 20), (0, 19)])] hh mixed (by kernel_rfl) (by kernel_rfl) (by decide) ?_
    refine dF 1 ?_
    refine fN ?_
    refine bj (i := 2) (pI hh.sz 55 n 4 (aQ TR.cells l)) (pI.ext) ?_ ?_
    ·intro ρ1 w1 hj hR
     exact bW rfl (a3 av.out (aA (show ρ1 20 = Value.slice _ _ _ from hR.1) a9)) (lR A n c l w1 (hS.ext hj.hp.below) hn) (fun _ _ ⟨A, c, hq, ho, hb⟩ => ⟨_, hq, hb, A, c, rfl, oM ho hj.bl.size⟩)
    refine a0 ?_
    intro p_ hp_
    simp only [List.mem_cons, List.not_mem_nil, or_false] at hp_
    rcases hp_ with rfl
    intro f W hJ hV
    have hb_5 := hJ.bl
    obtain ⟨v21, v20, v19, _⟩ := hV
    simp only [iD]
    have e19 : f 0 = _ := v19
    rw [e19]
    have e20 : f 1 = _ := v20
    rw [e20]
    obtain ⟨A21, c21, e21, o21⟩ : pI _ _ _ _ _ (f 2) W := v21
    rw [e21]
    replace hh := JJ.yG hh hJ.hp o21
    clear o21
    clear e19 e20 e21 hJ
    refine aV (j5 v A21 n c21 l k _ hT hh hln (by omega) (by omega) ho) av.out rfl (by decide) ?_; rintro e_ w22 ⟨g, og, rfl, hh⟩; refine ⟨_, rfl, ?_⟩
    refine cS ?_
    refine cV (i := 4) (by repeat (first | exact bX | refine bA ?_ | refine bV ?_ | refine np_scope ?_)) rfl (by kernel_rfl) (by kernel_rfl) (by kernel_rfl) (fun _ => cX (show _ = Value.tuple (List.toArray _) from rfl) rfl) (by decide) ?_
    refine cV (i := 5) (by repeat (first | exact bX | refine bA ?_ | refine bV ?_ | refine np_scope ?_)) rfl (by kernel_rfl) (by kernel_rfl) (by kernel_rfl) (fun _ => cX (show _ = Value.tuple (List.toArray _) from rfl) rfl) (by decide) ?_
    refine dO 6 (by decide) (by kernel_rfl) (by decide) (by kernel_rfl) (by kernel_rfl) ?_
    refine bE hh 1 [_,_] ?_
    intro ws hh
    replace hh : Hp _ (_ :: .blk _ _ [_, _] _ :: _) _ := hh
    refine aI (ae (ao ?_))
    refine gL (aG rfl (aH (vs := [_, _]) aC.out (hh.au (i := 1) (n := 2) rfl rfl) rfl) (bS (cf rfl) a7)) ?_
    exact ⟨g, og, rfl, hh.sub (List.Sublist.cons_cons _ (List.nil_sublist _))⟩
end Go.Proofs.YtaapkaefelhfcaaGreatDoor
/- The walk through poly.like. -/
namespace Go.Proofs.YtaapkaefelhfcaaGreatDoor
open Go.RowKit
def PX.cells (g : PX) : List Value := [.int .i64 g.v, .slice g.A g.n g.c]
theorem PX.len (g : PX) : (PX.cells g).length = 2 := rfl
structure PX.jO (g : PX) (k : Nat) : Prop where
 n : g.n ≤ 1000000
 cap : g.n ≤ g.c
 ok : gi k g.ts
 sz : ∀ t ∈ g.ts, t.m.size ≤ 100000
def PX.e (g : PX) : Int := fA g.v g.ts
theorem l8 (g : PX) (k : Nat) (w : World) (hT : hG w) (h : g.at_ w) (hl : g.jO k) :
  Calls Tryz.prog 85 #[.agg #[.int .i64 g.v, .slice g.A g.n g.c]] w fun r w' => r = .returned (.int .i64 g.e) ∧ Below w.heap.size w w' :=
 rM g.v g.A g.n g.c g.ts w hT h hl.n fun t ht => ⟨(hl.ok t ht).1, hl.sz t ht⟩
def nT (ps : List PX) : Bool := ps.any fun g => decide (g.v ≠ (ps.map PX.v).headD 0)
def er (ps : List PX) : Int := match ps.find? (fun g => decide (g.e ≠ 0)) with | some g => g.e | none => if ps.length = 0 ∨ nT ps = true then 1 else 0
theorem uF (L : Option Addr) (n c : Nat) (ps : List PX) (f : PX) (p : Addr) (w : World) (hL : Sl w L n 2 (aQ PX.cells ps)) (hp : w.cell? p = some (.slice L n c)) (hn : 0 < n) :
  Calls Tryz.prog 194 #[.agg #[.int .i64 f.v, .slice f.A f.n f.c], .pointer (some p)] w fun r w' => r = .returned (.bool (decide (f.v ≠ (ps.map PX.v).headD 0))) ∧ Below w.heap.size w w' := by
 have hh := Hp.start w
 have hln := hL.cg PX.len (by decide)
 obtain ⟨g, ps, rfl⟩ : ∃ g l, ps = g :: l := by
  cases ps with
  | nil => exact absurd hln (by show ¬ 0 = n; omega)
  | cons g l => exact ⟨g, l, rfl⟩
 obtain ⟨ad, rfl, hr⟩ := hL.at_ hn
 have hd : (((g :: ps).map PX.v).headD 0) = g.v := rfl
 rw [hd]
 have h0 : (g :: ps)[0]? = some g := rfl
 by_cases hg : f.v = g.v
 ·refine ak (N := 11) (l := [.agg #[.int .i64 f.v, .slice f.A f.n f.c], .pointer (some p)]) Tryz.func194 rfl rfl (by simp) ?_
  refine sr ?_
  refine cK hh [_,_] ?_
  intro b2 w2 hh
  refine aB (ae (ah ?_))
  refine aX 6 [[(2, none)], [(4, some 0)], [(1, none)], [(6, some 2)], [(7, some 3)], [(8, some 4)]] [(5, 9), (4, 8), (3, 7), (2, 6), (1, 5), (0, 4)] hh mixed (by kernel_rfl) ?_
  refine cD ?_
  refine dF 0 ?_
  refine hU (fun _ hj => (hj.hp.below.cell (l5 hp)).trans hp) ?_
  refine bq (i := 3) (fun ρ1 w1 hj hR => eI aF.out aC.size (show ρ1 6 = Value.slice _ _ _ from hR.1) rfl (by omega) (by omega)) ?_
  refine jP ?_
  refine hU (fun _ hj => cO hj.hp.below (((hr.recAt PX.len h0)) 0 _ rfl)) ?_
  refine a0 ?_
  intro f W hJ hV
  have hb_1 := hJ.bl
  obtain ⟨v9, v8, v7, v6, v5, v4, _⟩ := hV
  replace hh := hJ.hp
  refine aN (a4 (aa v9 (aa v8 (aa v7 (aa v6 (aa v5 (aa v4 aM))))))) ?_
  dsimp only [ca]
  clear hJ
  refine cE (aB (ae (ao ?_)))
  refine cA ?_
  exact ⟨by rw [decide_eq_false (by omega)], hh.below⟩
 ·refine ak (N := 11) (l := [.agg #[.int .i64 f.v, .slice f.A f.n f.c], .pointer (some p)]) Tryz.func194 rfl rfl (by simp) ?_
  refine sr ?_
  refine cK hh [_,_] ?_
  intro b2 w2 hh
  refine aB (ae (ah ?_))
  refine aX 6 [[(2, none)], [(4, some 0)], [(1, none)], [(6, some 2)], [(7, some 3)], [(8, some 4)]] [(5, 9), (4, 8), (3, 7), (2, 6), (1, 5), (0, 4)] hh mixed (by kernel_rfl) ?_
  refine cD ?_
  refine dF 0 ?_
  refine hU (fun _ hj => (hj.hp.below.cell (l5 hp)).trans hp) ?_
  refine bq (i := 3) (fun ρ1 w1 hj hR => eI aF.out aC.size (show ρ1 6 = Value.slice _ _ _ from hR.1) rfl (by omega) (by omega)) ?_
  refine jP ?_
  refine hU (fun _ hj => cO hj.hp.below (((hr.recAt PX.len h0)) 0 _ rfl)) ?_
  refine a0 ?_
  intro f W hJ hV
  have hb_1 := hJ.bl
  obtain ⟨v9, v8, v7, v6, v5, v4, _⟩ := hV
  replace hh := hJ.hp
  refine aN (a4 (aa v9 (aa v8 (aa v7 (aa v6 (aa v5 (aa v4 aM))))))) ?_
  dsimp only [ca]
  clear hJ
  refine cE (aB (ae (ao ?_)))
  refine cA ?_
  exact ⟨by rw [decide_eq_true hg], hh.below⟩
theorem uD (A : Option Addr) (n c : Nat) (l : List PX) (g : FuncId) (cap : List Value) (p : PX → Bool) (w : World) (hS : Sl w A n 2 (aQ PX.cells l)) (hn : n ≤ 1000000) [av Tryz.prog g]
  (hg : ∀ (z : PX) (w1 : World), z ∈ l → Below w.heap.size w w1 → Calls Tryz.prog g (.agg #[.int .i64 z.v, .slice z.A z.n z.c] :: cap).toArray w1 fun r w' => r = .returned (.bool (p z)) ∧ Below w1.heap.size w1 w') :
  Calls Tryz.prog 191 #[.slice A n c, .func (.func g) #[] cap.toArray] w fun r w' => ∃ v, r = .returned (.int .i64 v) ∧ (0 ≤ v ↔ l.any p = true) ∧ Below w.heap.size w w' := by
 have hh := Hp.start w
 have hln := hS.cg PX.len (by decide)
 refine ak (N := 19) (l := [.slice A n c, .func (.func g) #[] cap.toArray]) Tryz.func191 rfl rfl (by simp) ?_
 refine sr (aI (ae (ah (sr (mL (aO (mI (ae (al ?_)))))))))
 refine bs [4, 5, 8, 9, 10, 11, 12, 13, 14, 15, 16, 17, 18] 8
  (fun v w' => ∃ i : Nat, i ≤ n ∧ v = .int .i64 i ∧ (l.take i).any p = false ∧ Hp w [] w')
  (fun v _ => n - (intOf v).toNat) ?_ ?_
 ·exact ⟨0, Nat.zero_le _, rfl, rfl, hh⟩
 ·clear hh
  rintro ρ' v w' ⟨i, hi, rfl, hall, hh⟩
  by_cases hlt : i < n
  ·obtain ⟨z, hz⟩ := aD (l := l) (k := i) (by omega)
   obtain ⟨ad, rfl, hr⟩ := hS.at_ (by omega)
   have hc := fun w1 => hg z w1 (List.mem_of_getElem? hz)
   cases gz : p z with
   | true =>
    rw [gz] at hc
    refine sr ?_
    refine aU (ae (ah (cT (aj (ai (ah (al (sr (mI (aI (ae ?_)))))))))))
    refine sr ?_
    refine fU (by first | exact ik rfl | exact ev_nilf rfl) (by decide) ?_
    refine mL (mI ?_)
    refine aR (k := i) aF.out aC.size rfl rfl (by omega) (by omega) (by decide) ?_
    refine bQ (vs := [_, _]) aC.out rfl ((hr.ext hh.below).recAt PX.len hz) rfl (by decide) ?_
    refine fL (hc _ hh.below) av.out rfl rfl (by decide) ?_
    rintro e_ w16 ⟨rfl, hb_⟩
    refine ⟨_, rfl, ?_⟩
    replace hh := hh.ext hb_
    refine ae (cT (sr (mI (aI (ae (ao (br (az (az (br (az ?_)))))))))))
    refine cA ?_
    exact ⟨_, rfl, ⟨fun _ => List.any_eq_true.2 ⟨z, List.mem_of_getElem? hz, gz⟩, fun _ => by omega⟩, hh.below⟩
   | false =>
    rw [gz] at hc
    refine sr ?_
    refine aU (ae (ah (cT (aj (ai (ah (al (sr (mI (aI (ae ?_)))))))))))
    refine sr ?_
    refine fU (by first | exact ik rfl | exact ev_nilf rfl) (by decide) ?_
    refine mL (mI ?_)
    refine aR (k := i) aF.out aC.size rfl rfl (by omega) (by omega) (by decide) ?_
    refine bQ (vs := [_, _]) aC.out rfl ((hr.ext hh.below).recAt PX.len hz) rfl (by decide) ?_
    refine fL (hc _ hh.below) av.out rfl rfl (by decide) ?_
    rintro e_ w16 ⟨rfl, hb_⟩
    refine ⟨_, rfl, ?_⟩
    replace hh := hh.ext hb_
    refine ae (cF (aj (aW (ai (aq ?_)))))
    refine bL (mI (aE (ai ?_)))
    refine ⟨⟨i + 1, by omega, rfl, by rw [aJ hz, List.any_append, hall, List.any_cons, List.any_nil, gz]; rfl, hh⟩, by show n - (i + 1) < n - i; omega, ?_⟩
    (repeat (first | exact aw _ _ _ | refine ax rfl ?_ | refine ar rfl ?_))
  ·rw [List.take_of_length_le (by omega)] at hall
   refine sr ?_
   refine aU (ae (ah (cF ?_)))
   refine aP ?_
   refine ay (ay (a6 (ai (sr (aI (ae (ao ?_)))))))
   refine cA ?_
   exact ⟨_, rfl, ⟨fun h => absurd h (by decide), fun h => by rw [hall] at h; cases h⟩, hh.below⟩
theorem oQ (A : Option Addr) (n c : Nat) (l : List PX) (g : FuncId) (cap : List Value) (p : PX → Bool) (w : World) (hS : Sl w A n 2 (aQ PX.cells l)) (hn : n ≤ 1000000) [av Tryz.prog g]
  (hg : ∀ (z : PX) (w1 : World), z ∈ l → Below w.heap.size w w1 → Calls Tryz.prog g (.agg #[.int .i64 z.v, .slice z.A z.n z.c] :: cap).toArray w1 fun r w' => r = .returned (.bool (p z)) ∧ Below w1.heap.size w1 w') :
  Calls Tryz.prog 97 #[.slice A n c, .func (.func g) #[] cap.toArray] w fun r w' => r = .returned (.bool (l.any p)) ∧ Below w.heap.size w w' := by
 have hh := Hp.start w
 refine ak (N := 9) (l := [.slice A n c, .func (.func g) #[] cap.toArray]) Tryz.func97 rfl rfl (by simp) ?_
 refine sr (aB (ae (sr (mL ?_))))
 refine fU (by first | exact ik rfl | exact ev_nilf rfl) (by decide) ?_
 refine aV (uD A n c l g cap p _ (hS.ext hh.below) hn hg) av.out rfl (by decide) ?_
 rintro e_ w7 ⟨v_, rfl, hv_, hb_⟩
 refine ⟨_, rfl, ?_⟩
 replace hh := hh.ext hb_
 cases ga : l.any p with
 | true =>
  have h0 := hv_.2 ga
  refine dn (aB (ae (ao ?_)))
  refine cA ?_
  exact ⟨rfl, hh.below⟩
 | false =>
  have h0 : ¬ 0 ≤ v_ := fun h => by rw [hv_.1 h] at ga; cases ga
  refine dn (aB (ae (ao ?_)))
  refine cA ?_
  exact ⟨rfl, hh.below⟩
theorem nk (L : Option Addr) (n c : Nat) (ps : List PX) (k : Nat) (w : World) (hT : hG w) (hL : Sl w L n 2 (aQ PX.cells ps)) (hn : n ≤ 1000000) (hf : ∀ g ∈ ps, g.at_ w) (hl : ∀ g ∈ ps, g.jO k) :
  Calls Tryz.prog 102 #[.slice L n c] w fun r w' => r = .returned (.int .i64 (er ps)) ∧ Below w.heap.size w w' := by
 have hh := Hp.start w
 have hln := hL.cg PX.len (by decide)
 refine ak (N := 26) (l := [.slice L n c]) Tryz.func102 rfl rfl (by simp) ?_
 refine sr ?_
 refine cK hh [_] ?_
 intro b1 w1 hh
 refine aI (ae (ah (sr ?_)))
 refine bH hh 0 ?_
 refine aO (mI (ae (al ?_)))
 refine bs [2, 4, 5, 8, 9, 10, 11, 12, 13, 14, 15, 16, 17] 8
  (fun v w' => ∃ i : Nat, i ≤ n ∧ v = .int .i64 i ∧ (ps.take i).any (fun g => decide (g.e ≠ 0)) = false ∧ Hp w [.blk b1 44 [.slice L n c] (0, 0)] w')
  (fun v _ => n - (intOf v).toNat) ?_ ?_
 ·exact ⟨0, Nat.zero_le _, rfl, rfl, hh⟩
 ·clear hh
  rintro ρ' v w' ⟨i, hi, rfl, hall, hh⟩
  by_cases hlt : i < n
  ·obtain ⟨g, hx⟩ := aD (l := ps) (k := i) (by omega)
   have hmem := List.mem_of_getElem? hx
   have hc := fun w1 hT1 hb => l8 g k w1 hT1 ((hf g hmem).ext hb) (hl g hmem)
   obtain ⟨ad, rfl, hr⟩ := hL.at_ (by omega)
   by_cases he : g.e = 0
   ·refine sr ?_
    refine aU (ae (ah (cT (aj (ai (ah (al (sr ?_))))))))
    refine aR (k := i) aF.out aC.size rfl rfl (by omega) (by omega) (by decide) ?_
    refine bQ (vs := [_, _]) aC.out rfl ((hr.ext hh.below).recAt PX.len hx) rfl (by decide) ?_
    refine cv hh ?_
    intro b4 w4 hh
    refine bE hh 0 [_,_] ?_
    intro ws hh
    replace hh : Hp _ (.blk _ _ [_, _] _ :: _) _ := hh
    refine ae (sr ?_)
    refine dh hh 0 [_,_] ?_
    refine bG hh (hc _ (hT.hp hh) hh.below) rfl ?_
    intro w13 hh
    refine aI (ae (sr (mI ?_)))
    refine cE (ae (cF (aj (aW (ai (aq ?_))))))
    refine bL (mI (aE (ai ?_)))
    replace hh := hh.sub (List.Sublist.cons _ (List.Sublist.cons_cons _ List.Sublist.slnil))
    refine ⟨⟨i + 1, by omega, rfl, by rw [aJ hx, List.any_append, hall, List.any_cons, List.any_nil, decide_eq_false (by omega)]; rfl, hh⟩, by show n - (i + 1) < n - i; omega, ?_⟩
    (repeat (first | exact aw _ _ _ | refine ax rfl ?_ | refine ar rfl ?_))
   ·refine sr ?_
    refine aU (ae (ah (cT (aj (ai (ah (al (sr ?_))))))))
    refine aR (k := i) aF.out aC.size rfl rfl (by omega) (by omega) (by decide) ?_
    refine bQ (vs := [_, _]) aC.out rfl ((hr.ext hh.below).recAt PX.len hx) rfl (by decide) ?_
    refine cv hh ?_
    intro b4 w4 hh
    refine bE hh 0 [_,_] ?_
    intro ws hh
    replace hh : Hp _ (.blk _ _ [_, _] _ :: _) _ := hh
    refine ae (sr ?_)
    refine dh hh 0 [_,_] ?_
    refine bG hh (hc _ (hT.hp hh) hh.below) rfl ?_
    intro w13 hh
    refine aI (ae (sr (mI ?_)))
    refine cE (ae (cT (sr (mI (aI (ae (ao (br (az (az (br ?_)))))))))))
    refine az ?_
    refine cA ?_
    refine ⟨?_, hh.below⟩
    unfold er
    rw [mN hall hx (decide_eq_true he)]
  ·rw [List.take_of_length_le (by omega)] at hall
   have hlk : er ps = if ps.length = 0 ∨ nT ps = true then 1 else 0 := by unfold er; rw [gh hall]
   rw [hlk]
   by_cases h0 : n = 0
   ·refine sr ?_
    refine aU (ae (ah (cF ?_)))
    refine aP ?_
    refine ay (ay (a6 (ai (ah (sr ?_)))))
    refine bH hh 0 ?_
    refine aO ?_
    refine ck (mB ?_)
    first | refine gS ?_ | (refine gT ?_; refine bH hh 0 ?_) | refine gV ?_
    first | refine gS ?_ | (refine gT ?_; refine ff rfl (aA (kd rfl) a9) (by decide) ?_) | refine gV ?_
    refine cm (by decide) rfl rfl (by decide) ?_
    first | refine cR ?_ | refine cQ ?_
    refine ae (cT (sr (aI (ae (ao (az ?_))))))
    refine cA ?_
    exact ⟨by rw [if_pos (.inl (by omega))], hh.below⟩
   ·have hcell : w'.cell? ⟨b1, 0, none⟩ = some (.slice L n c) := hh.dY (i := 0) rfl rfl
    have ho := fun w1 hb => oQ L n c ps 194 [.pointer (some ⟨b1, 0, none⟩)] (fun g => decide (g.v ≠ (ps.map PX.v).headD 0)) w1 (hL.ext (hh.below.trans (hb.mono hh.below.size))) hn (fun z w2 hz hb2 => uF L n c ps z ⟨b1, 0, none⟩ w2 ((hL.ext (hh.below.trans (hb.mono hh.below.size))).ext hb2) (cO hb2 (cO hb hcell)) (by omega))
    cases hod : nT ps with
    | true =>
     have hod2 : ps.any (fun g => decide (g.v ≠ (ps.map PX.v).headD 0)) = true := hod
     rw [hod2] at ho
     refine sr ?_
     refine aU (ae (ah (cF ?_)))
     refine aP ?_
     refine ay (ay (a6 (ai (ah (sr ?_)))))
     refine bH hh 0 ?_
     refine aO ?_
     refine ck (mB ?_)
     first | refine gS ?_ | (refine gT ?_; refine bH hh 0 ?_) | refine gV ?_
     first | refine gS ?_ | (refine gT ?_; refine ff rfl (aA (kd rfl) a9) (by decide) ?_) | refine gV ?_
     refine bu rfl rfl ?_
     refine bG hh (ho _ (Below.refl _ _)) rfl ?_
     intro w24 hh
     first | refine cR ?_ | refine cQ ?_
     refine ae (cT (sr (aI (ae (ao (az ?_))))))
     refine cA ?_
     exact ⟨by rw [if_pos (.inr rfl)], hh.below⟩
    | false =>
     have hod2 : ps.any (fun g => decide (g.v ≠ (ps.map PX.v).headD 0)) = false := hod
     rw [hod2] at ho
     refine sr ?_
     refine aU (ae (ah (cF ?_)))
     refine aP ?_
     refine ay (ay (a6 (ai (ah (sr ?_)))))
     refine bH hh 0 ?_
     refine aO ?_
     refine ck (mB ?_)
     first | refine gS ?_ | (refine gT ?_; refine bH hh 0 ?_) | refine gV ?_
     first | refine gS ?_ | (refine gT ?_; refine ff rfl (aA (kd rfl) a9) (by decide) ?_) | refine gV ?_
     refine bu rfl rfl ?_
     refine bG hh (ho _ (Below.refl _ _)) rfl ?_
     intro w24 hh
     first | refine cR ?_ | refine cQ ?_
     refine ae (cF (aj (ai (sr (aI (ae (ao ?_)))))))
     refine cA ?_
     refine ⟨?_, hh.below⟩
     rw [if_neg]
     rintro (h | h)
     ·omega
     ·cases h
end Go.Proofs.YtaapkaefelhfcaaGreatDoor
/- Arguments opened: terms, polynomials. -/
namespace Go.Proofs.YtaapkaefelhfcaaGreatDoor
open Go.ChangeShapes Go.WideShapes Go.ChangeAt Go.RowKit Go.ChangeMaps
set_option maxRecDepth 100000 in
theorem tZ {H : Type} {enc : TypeId × Value → H} {W : World} {base fuel : Nat} {sp : Nat → Bool} {held : Bool} {cs : List Value} {x : DataW H × List MemPlace} (h : DataW.trod enc Tryz.prog W base sp held fuel 55 cs = some x) :
  ∃ t : TR, cs = t.cells ∧ True := by
 have c0 : Tryz.prog.cellsOf 55 = 4 := by kernel_rfl
 have c1 : Tryz.prog.cellsOf 9 = 1 := by kernel_rfl
 have c2 : Tryz.prog.cellsOf 29 = 3 := by kernel_rfl
 obtain ⟨y0, y1, n, _, hl, h0, h1⟩ := trod_struct2 Tryz.underlying55 h
 obtain ⟨s, e0, _, _⟩ := DataW.trod_string Tryz.underlying9 h0
 obtain ⟨a, e1, _⟩ := xJ h1
 rw [c0] at hl
 match cs, hl with
 | [x0, x1, x2, x3], _ =>
  simp only [c1, c2] at e0 e1
  unfold NR.cells at e1
  simp at e0 e1
  obtain ⟨e1, e2, e3⟩ := e1
  subst e0 e1 e2 e3
  exact ⟨⟨s, a⟩, rfl, trivial⟩
set_option maxRecDepth 100000 in
theorem pk {H : Type} {enc : TypeId × Value → H} {W : World} {base fuel : Nat} {sp : Nat → Bool} {held : Bool} {cs : List Value} {x : DataW H × List MemPlace} (h : DataW.trod enc Tryz.prog W base sp held fuel 24 cs = some x) :
  ∃ g : PX, cs = g.cells ∧ (g.at_ W ∧ g.n ≤ g.c) := by
 have c0 : Tryz.prog.cellsOf 24 = 2 := by kernel_rfl
 have c1 : Tryz.prog.cellsOf 3 = 1 := by kernel_rfl
 have c2 : Tryz.prog.cellsOf 22 = 1 := by kernel_rfl
 obtain ⟨y0, y1, n, _, hl, h0, h1⟩ := trod_struct2 Tryz.underlying24 h
 obtain ⟨z, e0, _, _⟩ := DataW.trod_int Tryz.underlying3 h0
 obtain ⟨B, m, b, k, e1, s1, _⟩ := u3 TR.len (by decide) Tryz.underlying22 (by kernel_rfl) (fun _ _ _ h => tZ h) h1
 rw [e1] at h1
 have hroom := wR Tryz.underlying22 h1
 rw [c0] at hl
 match cs, hl with
 | [x0, x1], _ =>
  simp only [c1, c2] at e0 e1
  simp at e0 e1
  subst e0 e1
  exact ⟨⟨z, B, m, b, k⟩, rfl, s1, hroom⟩
set_option maxRecDepth 100000 in
theorem xm {H : Type} {enc : TypeId × Value → H} {W : World} {r : Reach} {base b0 : Nat} {sp : Nat → Bool} {held : Bool} {v : Value} {d : DataW H} {ps : List MemPlace}
  (hval : Value.okWide Tryz.prog W r b0 24 v) (hd : DataW.Trod enc Tryz.prog W base sp held 24 v d ps) : ∃ g : PX, v = .agg #[.int .i64 g.v, .slice g.A g.n g.c] ∧ g.at_ W ∧ g.n ≤ g.c := by
 obtain ⟨cs, rfl, _⟩ := okWide_struct Tryz.underlying24 hval
 obtain ⟨fuel, hf⟩ := hd
 obtain ⟨f, h1, h2⟩ := pk hf
 refine ⟨f, ?_, h2⟩
 have h3 : cs.toList = f.cells := h1
 rw [← Array.toList_inj.1 (show cs.toList = (#[.int .i64 f.v, .slice f.A f.n f.c] : Array Value).toList from h3)]
set_option maxRecDepth 100000 in
theorem vi {H : Type} {enc : TypeId × Value → H} {W : World} {r : Reach} {base b0 : Nat} {sp : Nat → Bool} {held : Bool} {v : Value} {d : DataW H} {ps : List MemPlace}
  (hval : Value.okWide Tryz.prog W r b0 44 v) (hd : DataW.Trod enc Tryz.prog W base sp held 44 v d ps) : ∃ (A : Option Addr) (n c : Nat) (l : List PX), v = .slice A n c ∧ Sl W A n 2 (aQ PX.cells l) ∧ ∀ g ∈ l, g.at_ W ∧ g.n ≤ g.c :=
 xt PX.len (by decide) Tryz.underlying44 (by kernel_rfl) (fun _ _ _ h => pk h) hval hd
end Go.Proofs.YtaapkaefelhfcaaGreatDoor
/- Plain: products of rows of terms. No program in sight. -/
namespace Go.Proofs.YtaapkaefelhfcaaGreatDoor
open Go.RowKit
def mulM (a b : ByteArray) : ByteArray := str (mulL a.data.toList b.data.toList).1
def jh (a b : ByteArray) : Int := (mulL a.data.toList b.data.toList).2
def kO (x y : TR) : TR := ⟨mulM x.m y.m, nR (x.c.d * y.c.d)⟩
def cd (p q : List TR) : List TR := p.flatMap fun x => q.map (kO x)
def tC (p q : List TR) : List Int := p.flatMap fun x => q.map fun y => jh x.m y.m
def ee (p q : List TR) : Int := if 65536 < p.length * q.length then 3 else match (tC p q).find? fun e => decide (e ≠ 0) with | some e => e | none => if 4096 < (aT (cd p q)).length then 3 else 0
theorem su {α β : Type} {f : α → List β} {k : Nat} : ∀ {l : List α}, (∀ x ∈ l, (f x).length = k) → (l.flatMap f).length = l.length * k
 | [], _ => by simp
 | x :: l, h => by
  rw [List.flatMap_cons, List.length_append, h x List.mem_cons_self, su fun y hy => h y (List.mem_cons_of_mem _ hy), List.length_cons, Nat.succ_mul, Nat.add_comm]
theorem kL (p q : List TR) : (cd p q).length = p.length * q.length := su fun x _ => List.length_map _
theorem ir {α β γ : Type} {f : α → β → γ} {p : List α} {q : List β} {i : Nat} {x : α} (hx : p[i]? = some x) :
  ((p.take (i + 1)).flatMap fun x => q.map (f x)) = ((p.take i).flatMap fun x => q.map (f x)) ++ (q.take q.length).map (f x) := by
 rw [aJ hx, List.flatMap_append, List.take_of_length_le (Nat.le_refl _)]
 simp
theorem nY {α β γ : Type} {f : α → β → γ} {p : List α} {q : List β} {i j : Nat} {x : α} {y : β} (hx : p[i]? = some x) (hy : q[j]? = some y) :
  ∃ R, (p.flatMap fun x => q.map (f x)) = (((p.take i).flatMap fun x => q.map (f x)) ++ (q.take j).map (f x)) ++ f x y :: R := by
 refine ⟨(q.drop (j + 1)).map (f x) ++ (p.drop (i + 1)).flatMap fun x => q.map (f x), ?_⟩
 have e1 : p = p.take i ++ x :: p.drop (i + 1) := by rw [← iT hx, List.take_append_drop]
 have e2 : q = q.take j ++ y :: q.drop (j + 1) := by rw [← iT hy, List.take_append_drop]
 have e3 : q.map (f x) = (q.take j).map (f x) ++ f x y :: (q.drop (j + 1)).map (f x) := by
  rw [← List.map_cons, ← List.map_append, ← e2]
 calc (p.flatMap fun x => q.map (f x)) = (p.take i ++ x :: p.drop (i + 1)).flatMap fun x => q.map (f x) := by rw [← e1]
  _ = _ := by rw [List.flatMap_append, List.flatMap_cons, e3]; simp
theorem lV {k j : Nat} {p q : List TR} (hp : gi k p) (hq : gi j q) (h : k + j ≤ 1000000) : gi (k + j) (cd p q) := fun t ht => by
 obtain ⟨x, hx, ht⟩ := List.mem_flatMap.1 ht
 obtain ⟨y, hy, rfl⟩ := List.mem_map.1 ht
 have hs := (hp x hx).2.mul (hq y hy).2
 exact ⟨hs.ok (by omega), by show Sz _ (nR _).d; rw [dX]; exact hs⟩
theorem wD (a b : ByteArray) : (mulM a b).size ≤ b.size := by
 unfold mulM
 rw [eh]
 unfold mulL
 split
 ·rename_i l hl
  have := (p6 hl).2.2
  have h4 : l.length ≤ b.data.toList.length := by rw [this.2, List.length_zipWith, dT, dT]; omega
  have h5 : (y9 l).length ≤ l.length := by unfold y9; split <;> simp
  rw [cw]
  exact Nat.le_trans h5 h4
 ·exact Nat.zero_le _
end Go.Proofs.YtaapkaefelhfcaaGreatDoor
/- Plain laws of sums and products of rows of terms; what is in the one form. No program in sight. -/
namespace Go.Proofs.YtaapkaefelhfcaaGreatDoor
open Go.RowKit
def CM (c : Dyadic) (t : TR) : TR := ⟨t.m, nR (t.c.d * c)⟩
theorem dZ {v : Int} {ts : List TR} (h : fA v ts = 0) : gD v = true ∧ ts.length ≤ 4096 ∧ (∀ t ∈ ts, fk v t = true) ∧ Canon ts := by
 unfold fA at h
 cases hf : gD v with
 | false => rw [hf, if_pos rfl] at h; omega
 | true =>
  rw [if_neg (by rw [hf]; decide)] at h
  by_cases h4 : 4096 < ts.length
  ·rw [if_pos h4] at h; omega
  ·rw [if_neg h4] at h
   by_cases ho : okB v ts = true
   ·unfold okB at ho
    rw [Bool.and_eq_true] at ho
    have hg : ∀ t ∈ ts, g8 v t = true := List.all_eq_true.1 ho.1
    refine ⟨rfl, by omega, fun t ht => ?_, mm.1 ho.2, fun t ht => ?_, fun t ht => ?_⟩
    ·exact (Bool.and_eq_true_iff.1 (hg t ht)).1
    ·exact uH (Bool.and_eq_true_iff.1 (Bool.and_eq_true_iff.1 (hg t ht)).2).1
    ·exact ((kv _).1 (Bool.and_eq_true_iff.1 (Bool.and_eq_true_iff.1 (hg t ht)).2).2).symm
   ·rw [if_neg ho] at h; omega
theorem rR {v : Int} {ts : List TR} (hf : gD v = true) (h4 : ts.length ≤ 4096) (hm : ∀ t ∈ ts, fk v t = true) (hc : Canon ts) : fA v ts = 0 := by
 unfold fA
 rw [if_neg (by rw [hf]; decide), if_neg (by omega), if_pos]
 unfold okB
 rw [Bool.and_eq_true]
 refine ⟨List.all_eq_true.2 fun t ht => ?_, mm.2 hc.nZ⟩
 show (fk v t && (kM t && Cx t.c)) = true
 rw [hm t ht, (kv _).2 (hc.nf t ht).symm]
 unfold kM
 rw [decide_eq_false (hc.nz t ht)]
 rfl
theorem Bi {v : Int} {s t : TR} (h : s.m = t.m) (hs : fk v s = true) : fk v t = true := by unfold fk at hs ⊢; rwa [← h]
theorem vk {v : Int} {l : List TR} (h : ∀ t ∈ l, fk v t = true) : ∀ t ∈ aT l, fk v t = true := fun t ht => by
 obtain ⟨s, hs, e⟩ := jy t ht
 exact Bi e (h s hs)
theorem jV {v : Int} {l : List TR} (hf : gD v = true) (h4 : (aT l).length ≤ 4096) (hm : ∀ t ∈ l, fk v t = true) : fA v (aT l) = 0 := rR hf h4 (vk hm) (eL l)
theorem yI {v : Int} {x y : TR} (hx : fk v x = true) (h : jh x.m y.m = 0) : fk v (kO x y) = true := by
 unfold fk at hx ⊢
 rw [Bool.and_eq_true, decide_eq_true_eq] at hx
 obtain ⟨_, _, h3, h4, h5⟩ := zy h
 rw [Bool.and_eq_true, decide_eq_true_eq]
 have h6 := congrArg List.length h5
 rw [dT, List.length_zipWith, dT, dT, h3, Nat.min_self] at h6
 refine ⟨?_, ?_⟩
 ·show dN (mulM x.m y.m).data.toList = true
  unfold mulM
  rw [dm]
  exact h4
 ·show ((mulM x.m y.m).size : Int) = v
  unfold mulM
  rw [eh, h6, ← cw]
  exact hx.2
theorem wU {v : Int} {p q : List TR} (hp : ∀ t ∈ p, fk v t = true) (h : ∀ e ∈ tC p q, e = 0) : ∀ t ∈ cd p q, fk v t = true := fun t ht => by
 obtain ⟨x, hx, ht⟩ := List.mem_flatMap.1 ht
 obtain ⟨y, hy, rfl⟩ := List.mem_map.1 ht
 exact yI (hp x hx) (h _ (List.mem_flatMap.2 ⟨x, hx, List.mem_map.2 ⟨y, hy, rfl⟩⟩))
theorem nM {p q : List TR} (h : ee p q = 0) : p.length * q.length ≤ 65536 ∧ (∀ e ∈ tC p q, e = 0) ∧ (aT (cd p q)).length ≤ 4096 := by
 unfold ee at h
 by_cases h6 : 65536 < p.length * q.length
 ·rw [if_pos h6] at h; omega
 ·rw [if_neg h6] at h
  split at h
  ·rename_i e he
   have := List.find?_some he
   rw [decide_eq_true_eq] at this
   exact absurd h this
  ·rename_i he
   refine ⟨by omega, fun e hm => ?_, ?_⟩
   ·have := List.find?_eq_none.1 he e hm
    simpa using this
   ·by_cases h4 : 4096 < (aT (cd p q)).length
    ·rw [if_pos h4] at h; omega
    ·omega
end Go.Proofs.YtaapkaefelhfcaaGreatDoor
/- The walk through poly.Add. -/
namespace Go.Proofs.YtaapkaefelhfcaaGreatDoor
open Go.RowKit
def fa (ps : List PX) : Int := (ps.map PX.v).headD 0
def oW (ps : List PX) : List TR := ps.flatMap PX.ts
def sS (ps : List PX) : Int := if er ps = 0 then eW (oW ps) else er ps
theorem lz {ps : List PX} (h : er ps = 0) : ps ≠ [] ∧ (∀ g ∈ ps, g.e = 0) ∧ ∀ g ∈ ps, g.v = fa ps := by
 unfold er at h
 split at h
 ·rename_i f hf
  have := List.find?_some hf
  simp at this
  exact absurd h this
 ·rename_i hf
  split at h
  ·cases h
  rename_i hno
  refine ⟨fun e => hno (.inl (by rw [e]; rfl)), fun f hm => ?_, fun f hm => ?_⟩
  ·have := List.find?_eq_none.1 hf f hm
   simpa using this
  ·apply Classical.byContradiction
   intro hne
   exact hno (.inr (List.any_eq_true.2 ⟨f, hm, decide_eq_true hne⟩))
theorem nD {α β : Type} {f : α → List β} {B : Nat} : ∀ {l : List α}, (∀ x ∈ l, (f x).length ≤ B) → (l.flatMap f).length ≤ l.length * B
 | [], _ => by simp
 | x :: l, h => by
  rw [List.flatMap_cons, List.length_append, List.length_cons, Nat.succ_mul]
  have h1 := h x List.mem_cons_self
  have h2 := nD fun y hy => h y (List.mem_cons_of_mem _ hy)
  omega
theorem qK {α β : Type} {f : α → List β} {l : List α} {i : Nat} {x : α} (h : l[i]? = some x) : (l.take (i + 1)).flatMap f = (l.take i).flatMap f ++ f x := by
 rw [aJ h, List.flatMap_append]
 simp
theorem uK {l k : List TR} (h : aT l = aT k) : eW l = eW k := by unfold eW; rw [h]
theorem lX {ps : List PX} {g : PX} (h : ps[0]? = some g) : fa ps = g.v := by
 rcases ps with _ | ⟨f, l⟩
 ·cases h
 ·have : f = g := by simpa using h
  rw [← this]; rfl
theorem uh (L : Option Addr) (n c : Nat) (ps : List PX) (k : Nat) (w : World) (hT : hG w) (hL : Sl w L n 2 (aQ PX.cells ps)) (hn : n ≤ 100) (hf : ∀ g ∈ ps, g.at_ w) (hl : ∀ g ∈ ps, g.jO k) (hk : k ≤ 2999000) :
  Calls Tryz.prog 30 #[.slice L n c] w fun r w' => ∃ g : PX, cC (sS ps) (fa ps) (aT (oW ps)) g ∧ r = .returned (.tuple #[.agg #[.int .i64 g.v, .slice g.A g.n g.c], .int .i64 (sS ps)]) ∧ Hp w [g.row] w' := by
 have hh := Hp.start w
 have hln := hL.cg PX.len (by decide)
 have hlk := fun w1 hT1 hb => nk L n c ps k w1 hT1 (hL.ext hb) (by omega) (fun g hg => (hf g hg).ext hb) hl
 unfold sS
 by_cases h0 : er ps = 0
 ·rw [if_pos h0]
  rw [h0] at hlk
  obtain ⟨hne, hev, hvv⟩ := lz h0
  have hpos := List.length_pos_iff.2 hne
  obtain ⟨g0, h00⟩ := aD (l := ps) (k := 0) hpos
  rw [lX h00]
  have hfl : (oW ps).length ≤ ps.length * 4096 := nD fun g hg => (dZ (hev g hg)).2.1
  obtain ⟨ad, rfl, hr⟩ := hL.at_ (by omega)
  refine ak (N := 33) (l := [.slice (some ad) n c]) Tryz.func30 rfl rfl (by simp) ?_
  refine sr ?_
  refine cv hh ?_
  intro b2 w2 hh
  refine aI (ae (ah (sr (mL ?_))))
  refine bG hh (hlk _ (hT.hp hh) hh.below) rfl ?_
  intro w9 hh
  refine aI (ae (sr (mI ?_)))
  refine cE (ae (cF (aj (ai (sr (aL (ae (ah (sr (mL (aO ?_)))))))))))
  refine mI (ae (al ?_))
  replace hh := hh.di 55 4
  refine ct [5, 7, 16, 17, 18, 19, 20, 21, 22, 23, 24] 5 16
   (fun a x w' => ∃ (i : Nat) (M : List TR) (A' : Option Addr) (c' : Nat), i ≤ n ∧ x = .int .i64 i ∧ a = .slice A' M.length c' ∧ MD (k + i) ((ps.take i).flatMap PX.ts) M ∧ Hp w [.row A' M.length c' 55 4 (aQ TR.cells M), .blk b2 24 [.int .i64 0, .slice none 0 0] (0, 0)] w')
   (fun _ x _ => n - (intOf x).toNat) ?_ ?_
  ·exact ⟨0, [], none, 0, Nat.zero_le _, rfl, rfl, MD.self List.Pairwise.nil (fun t ht => nomatch ht), hh⟩
  ·clear hh
   rintro ρ' a_ x_ w' ⟨i, M, A', c', hi, rfl, rfl, hmd, hh⟩
   have hfi : ((ps.take i).flatMap PX.ts).length ≤ i * 4096 := by
    have := nD (f := PX.ts) (B := 4096) (l := ps.take i) fun g hg => (dZ (hev g (List.mem_of_mem_take hg))).2.1
    rwa [List.length_take, Nat.min_eq_left (by omega)] at this
   have hML := hmd.len
   by_cases hlt : i < n
   ·obtain ⟨g, hx⟩ := aD (l := ps) (k := i) (by omega)
    have hmem := List.mem_of_getElem? hx
    have hgl := hl g hmem
    have hge := dZ (hev g hmem)
    have hgc := hgl.cap
    have hgn := hgl.n
    refine sr ?_
    refine aU (ae (ah (cT (aj (ai (ah (al (sr ?_))))))))
    refine aR (k := i) aF.out aC.size rfl rfl (by omega) (by omega) (by decide) ?_
    refine bQ (vs := [_, _]) aC.out rfl ((hr.ext hh.below).recAt PX.len hx) rfl (by decide) ?_
    refine cv hh ?_
    intro b7 w7 hh
    refine bE hh 0 [_,_] ?_
    intro ws hh
    replace hh : Hp _ (.blk _ _ [_, _] _ :: _) _ := hh
    refine ae (aq (mL (bC ?_)))
    refine bH hh 0 ?_
    refine aV (md A' M.length c' M g.A g.n g.c g.ts (k + i) _ (hT.hp hh) (hh.aK (i := 1) rfl) ((hf g hmem).ext hh.below) (hh.g7 (i := 1) rfl) hgc (by omega) hgn (by omega) hmd.nZ hge.2.2.2.nZ hmd.ok (hgl.ok.mono (by omega))) av.out rfl (by decide) ?_
    rintro e_ w23 ⟨L2, A2, c2, hm2, rfl, h3⟩
    refine ⟨_, rfl, ?_⟩
    replace hh := hh.join h3
    simp only [List.cons_append, List.nil_append] at hh
    refine aL (aE (aW (ai (aq ?_))))
    refine bL (mI (aE (ai ?_)))
    replace hh := hh.sub (List.Sublist.cons_cons _ (List.Sublist.cons _ (List.Sublist.cons _ (List.Sublist.cons_cons _ List.Sublist.slnil))))
    refine ⟨⟨i + 1, L2, A2, c2, by omega, rfl, rfl, ?_, hh⟩, by show n - (i + 1) < n - i; omega, ?_⟩
    ·rw [qK hx]
     exact hmd.yJ (MD.self hge.2.2.2.nZ (hgl.ok.mono (by omega) : gi (k + i) g.ts)) hm2 (by omega)
    ·(repeat (first | exact aw _ _ _ | refine ax rfl ?_ | refine ar rfl ?_))
   ·obtain rfl : i = n := by omega
    rw [List.take_of_length_le (by omega)] at hmd hfi hML
    have hgM : aT M = aT (oW ps) := rO hmd.co
    have hgE := uK hgM
    refine sr ?_
    refine aU (ae (ah (cF ?_)))
    refine aP ?_
    refine ay (ay (a6 (ai (sr (mL ?_)))))
    refine aR (k := 0) aF.out aC.size rfl rfl (by omega) (by omega) (by decide) ?_
    refine bz dE.out rfl (by decide) ?_
    refine bh aC.out rfl (cO hh.below ((hr.recAt PX.len h00) 0 _ rfl)) (by decide) ?_
    refine mL ?_
    refine aV (j5 _ A' M.length c' M (k + i) _ hT hh rfl (by omega) (by omega) hmd.ok) av.out rfl (by decide) ?_
    rintro e_ w30 ⟨g, og, rfl, hh⟩
    refine ⟨_, rfl, ?_⟩
    refine dp ?_
    refine dp ?_
    refine bE hh 1 [_,_] ?_
    intro ws hh
    replace hh : Hp _ (_ :: .blk _ _ [_, _] _ :: _) _ := hh
    refine aI (ae (ao ?_))
    refine gL (aG rfl (aH (vs := [_, _]) aC.out (hh.au (i := 1) (n := 2) rfl rfl) rfl) (bS (cf rfl) a7)) ?_
    rw [← hgE, ← hgM]
    exact ⟨g, og, rfl, hh.sub (List.Sublist.cons_cons _ (List.nil_sublist _))⟩
 ·rw [if_neg h0]
  generalize er ps = e at *
  refine ak (N := 33) (l := [.slice L n c]) Tryz.func30 rfl rfl (by simp) ?_
  refine sr ?_
  refine cv hh ?_
  intro b2 w2 hh
  refine aI (ae (ah (sr (mL ?_))))
  refine bG hh (hlk _ (hT.hp hh) hh.below) rfl ?_
  intro w9 hh
  refine aI (ae (sr (mI ?_)))
  refine cE (ae (cT (sr ?_)))
  refine ep [_,_] (mI ?_)
  refine bE hh 0 [_,_] ?_
  intro ws hh
  replace hh : Hp _ (.blk _ _ [_, _] _ :: _) _ := hh
  refine aI (ae (ao (az ?_)))
  refine gL (aG rfl (aH (vs := [_, _]) aC.out (hh.au (i := 0) (n := 2) rfl rfl) rfl) (bS (cf rfl) a7)) ?_
  exact ⟨PX.nil, cC.err h0, rfl, (hh.sub (List.nil_sublist _)).fP⟩
end Go.Proofs.YtaapkaefelhfcaaGreatDoor
/- The walk through poly.times. -/
namespace Go.Proofs.YtaapkaefelhfcaaGreatDoor
open Go.RowKit
theorem tM {p q : List TR} (h : 65536 < p.length * q.length) : ee p q = 3 := by unfold ee; rw [if_pos h]
theorem vH {p q : List TR} {e : Int} (h6 : ¬ 65536 < p.length * q.length) {a b : List Int} (h : tC p q = a ++ e :: b) (ha : ∀ x ∈ a, x = 0) (he : e ≠ 0) : ee p q = e := by
 unfold ee
 rw [if_neg h6, h, List.find?_append, gh (List.any_eq_false.2 fun x hx => by simp [ha x hx]), List.find?_cons_of_pos (p := fun e : Int => decide (e ≠ 0)) (by simpa using he)]
 rfl
theorem tJ {p q : List TR} (h6 : ¬ 65536 < p.length * q.length) (h : ∀ x ∈ tC p q, x = 0) : ee p q = eW (cd p q) := by
 unfold ee eW
 rw [if_neg h6, gh (List.any_eq_false.2 fun x hx => by simp [h x hx])]
theorem qT (p q : PX) (k k2 : Nat) (w : World) (hT : hG w) (hp : p.at_ w) (hq : q.at_ w) (lp : p.jO k) (lq : q.jO k2) (hk : k + k2 ≤ 900000) :
  Calls Tryz.prog 108 #[.agg #[.int .i64 p.v, .slice p.A p.n p.c], .agg #[.int .i64 q.v, .slice q.A q.n q.c]] w fun r w' => ∃ g : PX, cC (ee p.ts q.ts) p.v (aT (cd p.ts q.ts)) g ∧ r = .returned (.tuple #[.agg #[.int .i64 g.v, .slice g.A g.n g.c], .int .i64 (ee p.ts q.ts)]) ∧ Hp w [g.row] w' := by
 have hh := Hp.start w
 obtain ⟨pv, pA, pn, pc, ps⟩ := p
 obtain ⟨qv, qA, qn, qc, qs⟩ := q
 have hpl : ps.length = pn := hp.ln
 have hql : qs.length = qn := hq.ln
 have hpn : pn ≤ 1000000 := lp.n
 have hqn : qn ≤ 1000000 := lq.n
 have okp : gi k ps := lp.ok
 have okq : gi k2 qs := lq.ok
 have szp : ∀ t ∈ ps, t.m.size ≤ 100000 := lp.sz
 have szq : ∀ t ∈ qs, t.m.size ≤ 100000 := lq.sz
 replace hp : Sl w pA pn 4 (aQ TR.cells ps) := hp
 replace hq : Sl w qA qn 4 (aQ TR.cells qs) := hq
 clear lp lq
 show Calls _ _ _ _ fun r w' => ∃ g : PX, cC (ee ps qs) pv (aT (cd ps qs)) g ∧ r = .returned (.tuple #[.agg #[.int .i64 g.v, .slice g.A g.n g.c], .int .i64 (ee ps qs)]) ∧ Hp w [g.row] w'
 have hmm : pn * qn ≤ 1000000 * 1000000 := Nat.mul_le_mul hpn hqn
 obtain ⟨m, hm⟩ : ∃ m, m = pn * qn := ⟨_, rfl⟩
 have hmi : (pn : Int) * (qn : Int) = (m : Int) := by rw [hm]; exact (Int.natCast_mul _ _).symm
 by_cases h6 : 65536 < m
 ·rw [tM (by rw [hpl, hql, ← hm]; exact h6)]
  refine ak (N := 67) (l := [.agg #[.int .i64 pv, .slice pA pn pc], .agg #[.int .i64 qv, .slice qA qn qc]]) Tryz.func108 rfl rfl (by simp) ?_
  refine sr ?_
  refine cK hh [_,_] ?_
  intro b2 w2 hh
  refine cK hh [_,_] ?_
  intro b3 w3 hh
  refine cv hh ?_
  intro b4 w4 hh
  refine aI (ae (ah (sr (bC ?_))))
  refine bH hh 2 ?_
  refine aO (bC ?_)
  refine bH hh 1 ?_
  refine aO ?_
  refine mulC ?_
  refine bY (ae (cT (sr ?_)))
  refine ep [_,_] ?_
  refine bE hh 0 [_,_] ?_
  intro ws hh
  replace hh : Hp _ (.blk _ _ [_, _] _ :: _) _ := hh
  refine aI (ae (ao (az ?_)))
  refine gL (aG rfl (aH (vs := [_, _]) aC.out (hh.au (i := 0) (n := 2) rfl rfl) rfl) (bS (cf rfl) a7)) ?_
  exact ⟨PX.nil, cC.err (by decide), rfl, (hh.sub (List.nil_sublist _)).fP⟩
 ·have hbig : ¬ 65536 < ps.length * qs.length := by rw [hpl, hql, ← hm]; exact h6
  refine ak (N := 67) (l := [.agg #[.int .i64 pv, .slice pA pn pc], .agg #[.int .i64 qv, .slice qA qn qc]]) Tryz.func108 rfl rfl (by simp) ?_
  refine sr ?_
  refine cK hh [_,_] ?_
  intro b2 w2 hh
  refine cK hh [_,_] ?_
  intro b3 w3 hh
  refine cv hh ?_
  intro b4 w4 hh
  refine aI (ae (ah (sr (bC ?_))))
  refine bH hh 2 ?_
  refine aO (bC ?_)
  refine bH hh 1 ?_
  refine aO ?_
  refine mulC ?_
  refine bY (ae (cF (aj (ai (sr (aL (ae (ah (sr (bC ?_))))))))))
  refine bH hh 2 ?_
  refine aO (mI (ae (al ?_)))
  replace hh := hh.di 55 4
  have hall : ∀ i, ((ps.take i).flatMap fun x => qs.map (kO x)).length ≤ 65536 := fun i => by
   have h1 : (cd ps qs).length = ((ps.take i).flatMap fun x => qs.map (kO x)).length + ((ps.drop i).flatMap fun x => qs.map (kO x)).length := by
    unfold cd
    rw [← List.length_append, ← List.flatMap_append, List.take_append_drop]
   rw [kL] at h1
   omega
  refine ct [5, 6, 8, 10, 11, 12, 25, 26, 27, 28, 29, 30, 31, 32, 33, 34, 35, 36, 37, 38, 39, 40, 41, 42, 43, 44, 45, 46, 47, 48, 49, 50, 51, 52, 53, 54, 55, 56, 57, 58, 59, 60] 6 25
   (fun a x w' => ∃ (i : Nat) (M : List TR) (A' : Option Addr) (c' : Nat), i ≤ pn ∧ x = .int .i64 i ∧ a = .slice A' M.length c' ∧ M = ((ps.take i).flatMap fun x => qs.map (kO x)) ∧ (∀ e ∈ ((ps.take i).flatMap fun x => qs.map fun y => jh x.m y.m), e = 0) ∧ Hp w [.row A' M.length c' 55 4 (aQ TR.cells M), .blk b4 24 [.int .i64 0, .slice none 0 0] (0, 0), .blk b3 24 [.int .i64 qv, .slice qA qn qc] (0, 0), .blk b2 24 [.int .i64 pv, .slice pA pn pc] (0, 0)] w')
   (fun _ x _ => pn - (intOf x).toNat) ?_ ?_
  ·exact ⟨0, [], none, 0, Nat.zero_le _, rfl, rfl, rfl, fun e he => (nomatch he), hh⟩
  ·clear hh
   rintro ρ' a_ x_ w' ⟨i, M, A', c', hi, rfl, rfl, hM, hz, hh⟩
   have hMl := hall i
   rw [← hM] at hMl
   by_cases hlt : i < pn
   ·obtain ⟨x, hx⟩ := aD (l := ps) (k := i) (by omega)
    obtain ⟨ad, rfl, hr⟩ := hp.at_ (by omega)
    have hxm := List.mem_of_getElem? hx
    have hxo := okp x hxm
    have hxs := szp x hxm
    refine sr ?_
    refine aU (ae (ah (cT (aj (ai (ah (al (sr ?_))))))))
    refine aR (k := i) aF.out aC.size rfl rfl (by omega) (by omega) (by decide) ?_
    refine bQ (vs := [_, _, _, _]) aC.out rfl ((hr.ext hh.below).recAt TR.len hx) rfl (by decide) ?_
    refine cv hh ?_
    intro b8 w8 hh
    refine bE hh 0 [_,_,_,_] ?_
    intro ws hh
    replace hh : Hp _ (.blk _ _ [_, _, _, _] _ :: _) _ := hh
    refine ae (sr (bC ?_))
    refine bH hh 3 ?_
    refine aO (mI (ae (al ?_)))
    replace hh := hh.perm (List.perm_middle (l₁ := [_]))
    simp only [List.cons_append, List.nil_append] at hh
    refine ct [5, 6, 10, 11, 12, 32, 33, 34, 35, 36, 37, 38, 39, 40, 41, 42, 43, 44, 45, 46, 47, 48, 49, 50, 51, 52, 53, 54, 55, 56, 57, 58, 59] 6 32
     (fun a z w' => ∃ (j : Nat) (N : List TR) (A' : Option Addr) (c' : Nat), j ≤ qn ∧ z = .int .i64 j ∧ a = .slice A' N.length c' ∧ N = M ++ (qs.take j).map (kO x) ∧ (∀ e ∈ (qs.take j).map (fun y => jh x.m y.m), e = 0) ∧ Hp w [.row A' N.length c' 55 4 (aQ TR.cells N), .blk b8 55 [.string x.m, .bool x.c.neg, .string x.c.bJ, .int .i64 x.c.e] (0, 0), .blk b4 24 [.int .i64 0, .slice none 0 0] (0, 0), .blk b3 24 [.int .i64 qv, .slice qA qn qc] (0, 0), .blk b2 24 [.int .i64 pv, .slice (some ad) pn pc] (0, 0)] w')
     (fun _ z _ => qn - (intOf z).toNat) ?_ ?_
    ·refine ⟨0, M, A', c', Nat.zero_le _, rfl, rfl, by simp, fun e he => (nomatch he), hh⟩
    ·clear hh
     rintro ρ2 a2 x2 w2 ⟨j, N, A2, c2, hj, rfl, rfl, hN, hz2, hh⟩
     by_cases hjn : j < qn
     ·obtain ⟨y, hy⟩ := aD (l := qs) (k := j) (by omega)
      obtain ⟨ad2, rfl, hr2⟩ := hq.at_ (by omega)
      have hym := List.mem_of_getElem? hy
      have hyo := okq y hym
      have hys := szq y hym
      have hmul : ∀ w1, Calls Tryz.prog 198 #[.string x.m, .string y.m] w1 fun r w' => r = .returned (.tuple #[.string (mulM x.m y.m), .int .i64 (jh x.m y.m)]) ∧ Below w1.heap.size w1 w' := fun w1 => xK x.m y.m w1 hxs hys
      have hdm := fun A cc w1 hT1 hS1 => gF A 2 cc [x.c, y.c] w1 hT1 hS1 (by simpa using ⟨hxo.1, hyo.1⟩) (k + k2) (by simpa using ⟨hxo.2.mono (by omega), hyo.2.mono (by omega)⟩) (by omega) (by decide)
      rw [show g9 ([x.c, y.c].map NR.d) = x.c.d * y.c.d by show 1 * x.c.d * y.c.d = _; rw [Dyadic.one_mul]] at hdm
      obtain ⟨R, hR⟩ := nY (f := fun x y => jh x.m y.m) hx hy
      have hzz : ∀ e ∈ ((ps.take i).flatMap fun x => qs.map fun y => jh x.m y.m) ++ (qs.take j).map (fun y => jh x.m y.m), e = 0 := fun e he => by
       rcases List.mem_append.1 he with he | he
       ·exact hz e he
       ·exact hz2 e he
      have hNl : N.length < 65536 := by
       have h1 := hall (i + 1)
       rw [ir hx, List.length_append, ← hM] at h1
       rw [hN, List.length_append]
       simp at h1 ⊢
       omega
      by_cases he : jh x.m y.m = 0
      ·refine sr ?_
       refine aU (ae (ah (cT (aj (ai (ah (al (sr ?_))))))))
       refine aR (k := j) aF.out aC.size rfl rfl (by omega) (by omega) (by decide) ?_
       refine bQ (vs := [_, _, _, _]) aC.out rfl ((hr2.ext hh.below).recAt TR.len hy) rfl (by decide) ?_
       refine cv hh ?_
       intro b10 w10 hh
       refine bE hh 0 [_,_,_,_] ?_
       intro ws hh
       replace hh : Hp _ (.blk _ _ [_, _, _, _] _ :: _) _ := hh
       refine ae (sr (bC ?_))
       refine bH hh 2 ?_
       refine bC ?_
       refine bH hh 0 ?_
       refine bG hh (hmul _) rfl ?_
       intro w41 hh
       refine mT ?_
       refine dp ?_
       refine dp ?_
       refine aS (aI (ae (ah (sr (mI ?_)))))
       refine cE (ae (cF (aj (ai (aq (mL (mS (bC ?_))))))))
       refine dh hh 2 [_,_,_] (bC ?_)
       refine dh hh 0 [_,_,_] ?_
       refine bB hh (cs := [_, _, _, _, _, _]) aF.out aC.out (bm (dM rfl) (bm (dM rfl) cn)) rfl rfl (by decide) (by decide) (by decide) rfl (by decide) ?_
       intro b54 w54 hh
       refine bG hh (hdm _ _ _ (hT.hp hh) (hh.aK (i := 0) rfl)) rfl ?_
       intro w55 hh
       refine ep [_,_,_,_] ?_
       refine bB hh (cs := [_, _, _, _]) aF.out aC.out (bm (dM rfl) cn) rfl rfl (by decide) (by decide) (by decide) rfl (by decide) ?_
       intro b57 w57 hh
       refine bF hh (i := 3) rfl rfl rfl (hh.aK (i := 0) rfl) aF.out aC.out rfl (by decide) (by first | rfl | exact bU _ | exact bI _ | exact oneCells_i64s _ | exact bf NR.one _) (by omega) (by omega) (by decide) ?_
       intro A58 c58 w58 hh
       simp only [List.set_cons_zero, List.set_cons_succ] at hh
       replace hh := hh.sub (List.sublist_cons_self _ _)
       refine aL (aE (aW (ai (aq ?_))))
       refine bL (mI (aE (ai ?_)))
       have e1 : aQ TR.cells N ++ [.string (mulM x.m y.m), .bool (nR (x.c.d * y.c.d)).neg, .string (nR (x.c.d * y.c.d)).bJ, .int .i64 (nR (x.c.d * y.c.d)).e] = aQ TR.cells (N ++ [kO x y]) := by rw [bR, fB]; rfl
       replace hh := show Hp w (_ :: _ :: .row A58 (N.length + 1) c58 55 4 (aQ TR.cells N ++ [.string (mulM x.m y.m), .bool (nR (x.c.d * y.c.d)).neg, .string (nR (x.c.d * y.c.d)).bJ, .int .i64 (nR (x.c.d * y.c.d)).e]) :: _) w58 from hh
       rw [e1] at hh
       replace hh := hh.sub (List.Sublist.cons _ (List.Sublist.cons _ (List.Sublist.cons_cons _ (List.Sublist.cons_cons _ (List.Sublist.cons_cons _ (List.Sublist.cons_cons _ (List.Sublist.cons_cons _ List.Sublist.slnil)))))))
       refine ⟨⟨j + 1, N ++ [kO x y], _, _, by omega, rfl, by rw [List.length_append]; rfl, by rw [hN, aJ hy, List.map_append, List.append_assoc]; rfl, fun e h => ?_, ?_⟩, by show qn - (j + 1) < qn - j; omega, ?_⟩
       ·rw [aJ hy, List.map_append, List.mem_append] at h
        rcases h with h | h
        ·exact hz2 e h
        ·rw [List.mem_singleton.1 h]; exact he
       ·rw [List.length_append]; exact hh
       ·(repeat (first | exact aw _ _ _ | refine ax rfl ?_ | refine ar rfl ?_))
      ·rw [vH hbig hR hzz he]
       generalize jh x.m y.m = e at *
       refine sr ?_
       refine aU (ae (ah (cT (aj (ai (ah (al (sr ?_))))))))
       refine aR (k := j) aF.out aC.size rfl rfl (by omega) (by omega) (by decide) ?_
       refine bQ (vs := [_, _, _, _]) aC.out rfl ((hr2.ext hh.below).recAt TR.len hy) rfl (by decide) ?_
       refine cv hh ?_
       intro b10 w10 hh
       refine bE hh 0 [_,_,_,_] ?_
       intro ws hh
       replace hh : Hp _ (.blk _ _ [_, _, _, _] _ :: _) _ := hh
       refine ae (sr (bC ?_))
       refine bH hh 2 ?_
       refine bC ?_
       refine bH hh 0 ?_
       refine bG hh (hmul _) rfl ?_
       intro w41 hh
       refine mT ?_
       refine dp ?_
       refine dp ?_
       refine aS (aI (ae (ah (sr (mI ?_)))))
       refine cE (ae (cT (sr ?_)))
       refine ep [_,_] (mI ?_)
       refine bE hh 3 [_,_] ?_
       intro ws hh
       replace hh : Hp _ (_ :: _ :: _ :: .blk _ _ [_, _] _ :: _) _ := hh
       refine aI (ae (ao (az (br (az (az (br (br (az (az (br ?_)))))))))))
       refine az ?_
       refine gL (aG rfl (aH (vs := [_, _]) aC.out (hh.au (i := 3) (n := 2) rfl rfl) rfl) (bS (cf rfl) a7)) ?_
       exact ⟨PX.nil, cC.err he, rfl, (hh.sub (List.nil_sublist _)).fP⟩
     ·obtain rfl : j = qn := by omega
      rw [List.take_of_length_le (by omega)] at hz2 hN
      refine sr ?_
      refine aU (ae (ah (cF ?_)))
      refine aP ?_
      refine ay (ay (a6 (aW (ai (aq ?_)))))
      refine bL (mI (aE (ai ?_)))
      replace hh := hh.sub (List.Sublist.cons_cons _ (List.Sublist.cons _ (List.Sublist.cons_cons _ (List.Sublist.cons_cons _ (List.Sublist.cons_cons _ List.Sublist.slnil)))))
      refine ⟨⟨i + 1, N, A2, c2, by omega, rfl, rfl, by rw [ir hx, ← hM, List.take_of_length_le (by omega)]; exact hN, fun e h => ?_, hh⟩, by show pn - (i + 1) < pn - i; omega, ?_⟩
      ·rw [ir (f := fun (x y : TR) => jh x.m y.m) hx, List.mem_append, List.take_length] at h
       rcases h with h | h
       ·exact hz e h
       ·exact hz2 e h
      ·(repeat (first | exact aw _ _ _ | refine ax rfl ?_ | refine ar rfl ?_))
   ·obtain rfl : i = pn := by omega
    rw [List.take_of_length_le (by omega)] at hz hM
    have hMp : M = cd ps qs := hM
    rw [tJ hbig hz, ← hMp]
    have hpo := lV okp okq (by omega)
    rw [← hMp] at hpo
    refine sr ?_
    refine aU (ae (ah (cF ?_)))
    refine aP ?_
    refine ay (ay (a6 (ai (sr (bC ?_)))))
    refine bH hh 3 ?_
    refine mL ?_
    refine aV (j5 pv A' M.length c' M (k + k2) _ hT hh rfl (by omega) (by omega) hpo) av.out rfl (by decide) ?_
    rintro e_ w64 ⟨g, og, rfl, hh⟩
    refine ⟨_, rfl, ?_⟩
    refine dp ?_
    refine dp ?_
    refine bE hh 1 [_,_] ?_
    intro ws hh
    replace hh : Hp _ (_ :: .blk _ _ [_, _] _ :: _) _ := hh
    refine aI (ae (ao ?_))
    refine gL (aG rfl (aH (vs := [_, _]) aC.out (hh.au (i := 1) (n := 2) rfl rfl) rfl) (bS (cf rfl) a7)) ?_
    exact ⟨g, og, rfl, hh.sub (List.Sublist.cons_cons _ (List.nil_sublist _))⟩
end Go.Proofs.YtaapkaefelhfcaaGreatDoor
/- The walk through poly.Mul. -/
namespace Go.Proofs.YtaapkaefelhfcaaGreatDoor
open Go.RowKit
def gM (base : Nat) (E v : Int) (ts : List TR) : VP := fun x W => ∃ (g : PX) (w1 : World), x = .agg #[.int .i64 g.v, .slice g.A g.n g.c] ∧ cC E v ts g ∧ base ≤ w1.heap.size ∧ Hp w1 [g.row] W
theorem gM.ext {base : Nat} {E v : Int} {ts : List TR} (x : Value) (w w' : World) (h : gM base E v ts x w) (hb : Below w.heap.size w w') : gM base E v ts x w' := let ⟨g, w1, h1, h2, h3, h4⟩ := h; ⟨g, w1, h1, h2, h3, h4.ext hb⟩
def fE (base : Nat) (E v : Int) (ts : List TR) : VP := fun x W => ∃ (g : PX) (w1 : World), x = .tuple #[.agg #[.int .i64 g.v, .slice g.A g.n g.c], .int .i64 E] ∧ cC E v ts g ∧ base ≤ w1.heap.size ∧ Hp w1 [g.row] W
theorem fE.ext {base : Nat} {E v : Int} {ts : List TR} (x : Value) (w w' : World) (h : fE base E v ts x w) (hb : Below w.heap.size w w') : fE base E v ts x w' := let ⟨g, w1, h1, h2, h3, h4⟩ := h; ⟨g, w1, h1, h2, h3, h4.ext hb⟩
def tc (base : Nat) (v : Int) (ts : List TR) : VP := fun x W => ∃ (g : PX) (w1 : World), x = .slice g.A g.n g.c ∧ cC 0 v ts g ∧ base ≤ w1.heap.size ∧ Hp w1 [g.row] W
theorem tc.ext {base : Nat} {v : Int} {ts : List TR} (x : Value) (w w' : World) (h : tc base v ts x w) (hb : Below w.heap.size w w') : tc base v ts x w' := let ⟨g, w1, h1, h2, h3, h4⟩ := h; ⟨g, w1, h1, h2, h3, h4.ext hb⟩
theorem PX.ne {g : PX} {w1 W : World} {b : Nat} {t : TypeId} {cs : Array Value} {fz : Nat × Nat} (h : Hp w1 [g.row] W) (h3 : W.heap[b]? = some (.cells cs t fz)) (h1 : 55 ≠ t) : ∀ x ∈ [g.row], x.id ≠ some b := fun x hx => by
 have hx2 := h.own x hx
 obtain rfl := List.mem_singleton.1 hx
 exact BR hx2 h3 h1
def gX (a : List TR × Int) (g : PX) : List TR × Int := if a.2 = 0 then (aT (cd a.1 g.ts), ee a.1 g.ts) else a
def Cm (ps : List PX) : List TR × Int := match ps with | [] => ([], 0) | g :: l => l.foldl gX (g.ts, 0)
def vv (ps : List PX) : Int := if er ps = 0 then (Cm ps).2 else er ps
theorem tp {a : List TR × Int} (h : a.2 ≠ 0) : ∀ l : List PX, l.foldl gX a = a
 | [] => rfl
 | g :: l => by
  rw [List.foldl_cons, show gX a g = a by unfold gX; rw [if_neg h]]
  exact tp h l
theorem wL {l : List PX} {a : List TR × Int} {i : Nat} {g : PX} (hx : l[i]? = some g) (h0 : ((l.take i).foldl gX a).2 = 0) (h : ee ((l.take i).foldl gX a).1 g.ts ≠ 0) : (l.foldl gX a).2 = ee ((l.take i).foldl gX a).1 g.ts := by
 have e : l = l.take i ++ g :: l.drop (i + 1) := by rw [← iT hx, List.take_append_drop]
 have e2 : l.foldl gX a = (l.drop (i + 1)).foldl gX (gX ((l.take i).foldl gX a) g) := by
  conv => lhs; rw [e]
  rw [List.foldl_append, List.foldl_cons]
 rw [e2]
 have e3 : gX ((l.take i).foldl gX a) g = (aT (cd ((l.take i).foldl gX a).1 g.ts), ee ((l.take i).foldl gX a).1 g.ts) := if_pos h0
 rw [e3, tp h]
theorem xF {l : List PX} {a : List TR × Int} {i : Nat} {g : PX} (hx : l[i]? = some g) (h0 : ((l.take i).foldl gX a).2 = 0) : (l.take (i + 1)).foldl gX a = (aT (cd ((l.take i).foldl gX a).1 g.ts), ee ((l.take i).foldl gX a).1 g.ts) := by
 rw [aJ hx, List.foldl_append, List.foldl_cons, List.foldl_nil]
 exact if_pos h0
theorem wj {p q : List TR} {k j : Nat} (hp : gi k p) (hq : gi j q) (sq : ∀ t ∈ q, t.m.size ≤ 100000) (h : ee p q = 0) (hk : k + j ≤ 900000) : gi (k + j + 65536) (aT (cd p q)) ∧ ∀ t ∈ aT (cd p q), t.m.size ≤ 100000 := by
 obtain ⟨h6, _, h4⟩ := nM h
 have ho := lV hp hq (by omega)
 have hz := ku fun t ht => (ho t ht).2
 rw [kL] at hz
 refine ⟨fun t ht => ?_, fun t ht => ?_⟩
 ·have : Sz (k + j + 65536) t.c.d := (hz t ht).mono (by omega)
  refine ⟨?_, this⟩
  rw [(eL _).nf t ht]
  exact this.ok (by omega)
 ·obtain ⟨s, hs, e⟩ := jy t ht
  obtain ⟨x, hx, hs⟩ := List.mem_flatMap.1 hs
  obtain ⟨y, hy, rfl⟩ := List.mem_map.1 hs
  rw [← e]
  exact Nat.le_trans (wD _ _) (sq y hy)
theorem sY (L : Option Addr) (n c : Nat) (ps : List PX) (k s : Nat) (w : World) (hT : hG w) (hL : Sl w L n 2 (aQ PX.cells ps)) (hcn : n ≤ c) (hn : n ≤ 8) (hf : ∀ g ∈ ps, g.at_ w) (hl : ∀ g ∈ ps, g.jO k) (hs : k + 65536 ≤ s) (hk : k + k + (n - 2) * s ≤ 900000) :
  Calls Tryz.prog 31 #[.slice L n c] w fun r w' => ∃ g : PX, cC (vv ps) (fa ps) (Cm ps).1 g ∧ r = .returned (.tuple #[.agg #[.int .i64 g.v, .slice g.A g.n g.c], .int .i64 (vv ps)]) ∧ Hp w [g.row] w' := by
 have hh := Hp.start w
 have hln := hL.cg PX.len (by decide)
 have hlk := fun w1 hT1 hb => nk L n c ps k w1 hT1 (hL.ext hb) (by omega) (fun g hg => (hf g hg).ext hb) hl
 unfold vv
 by_cases h0 : er ps = 0
 ·rw [if_pos h0]
  rw [h0] at hlk
  obtain ⟨hne, hev, hvv⟩ := lz h0
  obtain ⟨g0, pt, rfl⟩ := List.exists_cons_of_ne_nil hne
  rw [lX (g := g0) rfl]
  have hnp : pt.length + 1 = n := hln
  obtain ⟨ad, rfl, hr⟩ := hL.at_ (by omega)
  have hm0 : g0 ∈ g0 :: pt := List.mem_cons_self
  have hg0 := hl g0 hm0
  have h00 : (g0 :: pt)[0]? = some g0 := rfl
  show Calls _ _ _ _ fun r w' => ∃ g : PX, cC (pt.foldl gX (g0.ts, 0)).2 g0.v (pt.foldl gX (g0.ts, 0)).1 g ∧ r = .returned (.tuple #[.agg #[.int .i64 g.v, .slice g.A g.n g.c], .int .i64 (pt.foldl gX (g0.ts, 0)).2]) ∧ Hp w [g.row] w'
  refine ak (N := 46) (l := [.slice (some ad) n c]) Tryz.func31 rfl rfl (by simp) ?_
  refine sr ?_
  refine cv hh ?_
  intro b2 w2 hh
  refine aI (ae (ah (sr (mL ?_))))
  refine bG hh (hlk _ (hT.hp hh) hh.below) rfl ?_
  intro w11 hh
  refine aI (ae (sr (mI ?_)))
  refine cE (ae (cF (aj (ai (ah ?_)))))
  refine aX 11 [[(0, none)], [(16, some 0)], [(17, some 1)], [(18, some 2)], [(0, none)], [(20, some 4)], [(21, some 5)], [(22, some 6)], [(23, some 7)], [(19, some 3), (24, some 8)], []] [(10, 5), (9, 25), (8, 24), (7, 23), (6, 22), (5, 21), (4, 20), (3, 19), (2, 18), (1, 17), (0, 16)] hh mixed (by kernel_rfl) ?_
  refine fN ?_
  refine iA (0) ?_
  refine jP ?_
  refine hU (fun _ hj => cO hj.hp.below ((hr.recAt PX.len h00) 0 _ rfl)) ?_
  refine fN ?_
  refine iA (0) ?_
  refine jP ?_
  refine hU (fun _ hj => cO hj.hp.below ((hr.recAt PX.len h00) 1 _ rfl)) ?_
  refine bj (i := 8) (tc w11.heap.size g0.v g0.ts) (tc.ext) ?_ ?_
  ·intro ρ1 w1 hj hR
   exact bW rfl (a3 av.out (aA (show ρ1 23 = Value.slice _ _ _ from hR.1) a9)) (lR g0.A g0.n g0.c g0.ts w1 ((hf g0 hm0).ext hj.hp.below) hg0.n) (fun _ _ ⟨A, c, hq, ho, hb⟩ => ⟨_, hq, hb, ⟨g0.v, A, g0.n, c, g0.ts⟩, w1, rfl, ⟨rfl, rfl⟩, hj.bl.size, (Hp.start w1).bk (x := .row _ _ _ _ _ _) hb ho⟩)
  refine bj (i := 9) (gM w11.heap.size 0 g0.v g0.ts) (gM.ext) ?_ ?_
  ·intro ρ1 w1 hj hR
   exact let ⟨g, u, e, o, q, h⟩ := hR.2.1; bZ rfl (rT (cs := [_, _]) aC.out jk.out (bm (show ρ1 19 = Value.int _ _ from hR.1) (bm e cn)) rfl) ⟨Below.refl _ _, g, u, by rw [show g.v = g0.v from o.v], o, q, h⟩
  refine bj (i := 10) (cN _ 24 _) cN.ext (fun ρ1 w1 hj hR => fI aC.out hj.bl (fun v w2 h hb => ⟨hb, h⟩)) ?_
  refine a0 ?_
  intro f W hJ hV
  have hb_4 := hJ.bl
  obtain ⟨v5, v25, v24, v23, v22, v21, v20, v19, v18, v17, v16, _⟩ := hV
  obtain ⟨g24, u24, e24, -⟩ := v24
  obtain ⟨g25, u25, e25, o25, q25, h25⟩ := v25
  obtain ⟨b5, e5, hl5, hc5⟩ : cN _ _ _ (f 10) W := v5
  replace hh := hJ.kD hh hl5 hc5 q25 h25 (PX.ne h25 hc5 (by decide))
  refine aN (a4 (aa e5 (aa e25 (aa e24 (aa v23 (aa v22 (aa v21 (aa v20 (aa v19 (aa v18 (aa v17 (aa v16 aM)))))))))))) ?_
  dsimp only [ca]
  clear e24 e25 e5 hJ
  simp only [List.cons_append, List.nil_append] at hh
  obtain ⟨gv, gA, gn, gc, gts⟩ := g25
  obtain rfl : g0.v = gv := o25.v.symm
  obtain rfl : g0.ts = gts := o25.ts.symm
  replace hh := show Hp w (_ :: .row gA gn gc 55 4 (aQ TR.cells g0.ts) :: _) W from hh
  have hgn : g0.ts.length = gn := (hh.aK (i := 1) rfl).cg TR.len (by decide)
  have hgc : gn ≤ gc := hh.g7 (i := 1) rfl
  refine bE hh 0 [_,_] ?_
  intro ws hh
  replace hh : Hp _ (.blk _ _ [_, _] _ :: _) _ := hh
  refine ae (ah (sr (mL ?_)))
  refine a8 rfl rfl (by decide) (gw aF.out aC.size rfl rfl (l := 1) rfl (by omega) (by omega)) ?_
  refine aO (mI (ae (al ?_)))
  replace hh := hh.perm (List.perm_middle (l₁ := [_]))
  simp only [List.cons_append, List.nil_append] at hh
  refine bs [3, 7, 8, 9, 29, 30, 31, 32, 33, 34, 35, 36, 37, 38, 39, 40, 41, 42, 43, 44] 29
   (fun v w' => ∃ (i : Nat) (g : PX), i ≤ n - 1 ∧ v = .int .i64 i ∧ ((pt.take i).foldl gX (g0.ts, 0)).2 = 0 ∧ g.v = g0.v ∧ g.ts = ((pt.take i).foldl gX (g0.ts, 0)).1 ∧ g.jO (k + i * s) ∧ Hp w [.row g.A g.n g.c 55 4 (aQ TR.cells g.ts), .blk b5 24 [.int .i64 g.v, .slice g.A g.n g.c] (0, 0), .blk b2 24 [.int .i64 0, .slice none 0 0] (0, 0)] w')
   (fun v _ => n - 1 - (intOf v).toNat) ?_ ?_
  ·exact ⟨0, ⟨g0.v, gA, gn, gc, g0.ts⟩, Nat.zero_le _, rfl, rfl, rfl, rfl, ⟨by show gn ≤ 1000000; have := hg0.n; have h9 := (hf g0 hm0).ln; omega, hgc, hg0.ok.mono (by rw [Nat.zero_mul]; omega), hg0.sz⟩, hh⟩
  ·clear hh
   rintro ρ' v w' ⟨i, g, hi, rfl, hz, hgv, hts, hgl, hh⟩
   by_cases hlt : i < n - 1
   ·obtain ⟨f, hx⟩ := aD (l := pt) (k := i) (by omega)
    have hmem : f ∈ g0 :: pt := List.mem_cons_of_mem _ (List.mem_of_getElem? hx)
    have his : i * s ≤ (n - 2) * s := Nat.mul_le_mul_right _ (by omega)
    have his1 := Nat.succ_mul i s
    have hbk : Sl w (if c = 1 then some ad else (some ad : Option Addr).map (·.add (1 * 2))) (n - 1) 2 (aQ PX.cells pt) := hL.back (by omega) hcn
    obtain ⟨ab, hAb, sb⟩ := hbk.at_ (by omega)
    have hev : Value.slice (if c = 1 then some ad else (some ad : Option Addr).map (·.add (1 * 2))) (n - 1) (c - 1) = .slice (some ab) (n - 1) (c - 1) := by rw [hAb]
    have hfl := hl f hmem
    have hnx := xF (a := (g0.ts, 0)) hx hz
    have hsp := wL (a := (g0.ts, 0)) hx hz
    rw [← hts] at hnx hsp
    refine sr ?_
    refine aU (ae (ah (cT (aj (ai (ah (al (sr ?_))))))))
    refine aR (k := i) aF.out aC.size hev rfl (by omega) (by omega) (by decide) ?_
    refine bQ (vs := [_, _]) aC.out rfl (show Rd _ _ [.int .i64 f.v, .slice f.A f.n f.c] from (sb.ext hh.below).recAt PX.len hx) rfl (by decide) ?_
    refine cv hh ?_
    intro b7 w7 hh
    refine bE hh 0 [_,_] ?_
    intro ws hh
    replace hh : Hp _ (.blk _ _ [_, _] _ :: _) _ := hh
    refine ae (sr ?_)
    refine dh hh 2 [_,_] ?_
    refine dh hh 0 [_,_] ?_
    refine aV (qT g f (k + i * s) k _ (hT.hp hh) (hh.aK (i := 1) rfl) ((hf f hmem).ext hh.below) hgl hfl (by omega)) av.out rfl (by decide) ?_
    rintro e_ w36 ⟨h, oh, rfl, h3⟩
    refine ⟨_, rfl, ?_⟩
    replace hh := hh.join h3
    simp only [List.cons_append, List.nil_append] at hh
    by_cases he : ee g.ts f.ts = 0
    ·obtain ⟨hv, hA, hn2, hc2, hts2⟩ := h
     rw [he] at oh
     obtain rfl : g.v = hv := oh.v.symm
     obtain rfl : aT (cd g.ts f.ts) = hts2 := oh.ts.symm
     replace hh := show Hp w (.row hA hn2 hc2 55 4 (aQ TR.cells (aT (cd g.ts f.ts))) :: _) w36 from hh
     have hhn : (aT (cd g.ts f.ts)).length = hn2 := (hh.aK (i := 0) rfl).cg TR.len (by decide)
     have hhc : hn2 ≤ hc2 := hh.g7 (i := 0) rfl
     have h4 := (nM he).2.2
     have htl := wj hgl.ok hfl.ok hfl.sz he (by omega)
     refine mT ?_
     refine dp ?_
     refine dp ?_
     refine cv hh ?_
     intro b8 w8 hh
     refine bE hh 0 [_,_] ?_
     intro ws hh
     replace hh : Hp _ (.blk _ _ [_, _] _ :: _) _ := hh
     refine aI (ae (ah (sr (mI ?_))))
     refine cE (ae (cF (aj (ai (aq ?_)))))
     refine dh hh 0 [_,_] ?_
     refine bE hh 4 [_,_] ?_
     intro ws hh
     replace hh : Hp _ (_ :: _ :: _ :: _ :: .blk _ _ [_, _] _ :: _) _ := hh
     refine aE (aW (ai (aq ?_)))
     refine bL (mI (aE (ai ?_)))
     replace hh := hh.sub (List.Sublist.cons _ (List.Sublist.cons_cons _ (List.Sublist.cons _ (List.Sublist.cons _ (List.Sublist.cons_cons _ (List.Sublist.cons_cons _ List.Sublist.slnil))))))
     refine ⟨⟨i + 1, ⟨g.v, hA, hn2, hc2, aT (cd g.ts f.ts)⟩, by omega, rfl, by rw [hnx]; exact he, hgv, by rw [hnx], ⟨by show hn2 ≤ 1000000; omega, hhc, htl.1.mono (by rw [Nat.succ_mul]; omega), htl.2⟩, hh⟩, by show n - 1 - (i + 1) < n - 1 - i; omega, ?_⟩
     (repeat (first | exact aw _ _ _ | refine ax rfl ?_ | refine ar rfl ?_))
    ·rw [hsp he]
     refine mT ?_
     refine dp ?_
     refine dp ?_
     refine cv hh ?_
     intro b8 w8 hh
     refine bE hh 0 [_,_] ?_
     intro ws hh
     replace hh : Hp _ (.blk _ _ [_, _] _ :: _) _ := hh
     refine aI (ae (ah (sr (mI ?_))))
     refine cE (ae (cT (sr ?_)))
     refine ep [_,_] (mI ?_)
     refine bE hh 5 [_,_] ?_
     intro ws hh
     replace hh : Hp _ (_ :: _ :: _ :: _ :: _ :: .blk _ _ [_, _] _ :: _) _ := hh
     refine aI (ae (ao (az (br (az (az (br (az ?_))))))))
     refine gL (aG rfl (aH (vs := [_, _]) aC.out (hh.au (i := 5) (n := 2) rfl rfl) rfl) (bS (cf rfl) a7)) ?_
     exact ⟨PX.nil, cC.err he, rfl, (hh.sub (List.nil_sublist _)).fP⟩
   ·obtain rfl : i = n - 1 := by omega
    rw [List.take_of_length_le (by omega)] at hz hts
    refine sr ?_
    refine aU (ae (ah (cF ?_)))
    refine aP ?_
    refine ay (ay (a6 (ai (sr ?_))))
    refine dh hh 1 [_,_] ?_
    refine bE hh 2 [_,_] ?_
    intro ws hh
    replace hh : Hp _ (_ :: _ :: .blk _ _ [_, _] _ :: _) _ := hh
    refine aI (ae (ao ?_))
    refine gL (aG rfl (aH (vs := [_, _]) aC.out (hh.au (i := 2) (n := 2) rfl rfl) rfl) (bS (cf rfl) a7)) ?_
    rw [hz]
    exact ⟨g, ⟨hgv, hts⟩, rfl, hh.sub (List.Sublist.cons_cons _ (List.nil_sublist _))⟩
 ·rw [if_neg h0]
  generalize er ps = e at *
  refine ak (N := 46) (l := [.slice L n c]) Tryz.func31 rfl rfl (by simp) ?_
  refine sr ?_
  refine cv hh ?_
  intro b2 w2 hh
  refine aI (ae (ah (sr (mL ?_))))
  refine bG hh (hlk _ (hT.hp hh) hh.below) rfl ?_
  intro w11 hh
  refine aI (ae (sr (mI ?_)))
  refine cE (ae (cT (sr ?_)))
  refine ep [_,_] (mI ?_)
  refine bE hh 0 [_,_] ?_
  intro ws hh
  replace hh : Hp _ (.blk _ _ [_, _] _ :: _) _ := hh
  refine aI (ae (ao (az ?_)))
  refine gL (aG rfl (aH (vs := [_, _]) aC.out (hh.au (i := 0) (n := 2) rfl rfl) rfl) (bS (cf rfl) a7)) ?_
  exact ⟨PX.nil, cC.err h0, rfl, (hh.sub (List.nil_sublist _)).fP⟩
end Go.Proofs.YtaapkaefelhfcaaGreatDoor
/- The walks through the document's answer's products of powers. -/
namespace Go.Proofs.YtaapkaefelhfcaaGreatDoor
open Go.RowKit
theorem xB (A : Option Addr) (n c : Nat) (xs : List Int) (w : World) (hsl : Sl w A n 1 (ij xs)) (hn : n ≤ 100000) :
  Calls Tryz.prog 270 #[.slice A n c] w fun e w' => e = .returned (.tuple #[.string (str (y9 xs)), .int .i64 (zN xs)]) ∧ Below w.heap.size w w' := by
 have hlen : xs.length = n := by have := hsl.1; rw [j0] at this; omega
 have hh := Hp.start w
 refine ak (N := 34) (l := [.slice A n c]) Tryz.func270 rfl rfl (by simp) ?_
 refine sr (aS (aI (ae (sr (aS (ae (ah (sr (aI (ae (al ?_)))))))))))
 refine ct [2, 3, 4, 5, 6, 7, 8, 9, 10, 11, 12, 13, 14, 15, 16, 17, 18, 19, 20, 21, 22, 23, 24, 25, 26, 27, 28, 29, 30, 31, 32] 4 5
  (fun b i w' => ∃ (k : Nat), k ≤ n ∧ i = .int .i64 k ∧ b = .string (str ((xs.take k).map sP)) ∧ (xs.take k).all fj = true ∧ Hp w [] w')
  (fun _ v _ => n - (intOf v).toNat) ?_ ?_
 ·exact ⟨0, Nat.zero_le _, rfl, rfl, rfl, hh⟩
 ·clear hh
  rintro ρ' b i w' ⟨k, hk, rfl, rfl, hall, hh⟩
  by_cases hlt : k < n
  ·obtain ⟨x, hx⟩ := aD (l := xs) (k := k) (by omega)
   obtain ⟨ad, rfl, hr⟩ := (hsl.ext hh.below).at_ (by omega)
   by_cases h0 : x < 0
   ·refine ah (sr (mI (mL (aO ?_))))
    refine aU (ae (cT (aj (ai (ah (al (ah (sr (mL (mI ?_))))))))))
    refine cJ aF.out aC.size rfl rfl (by omega) (by omega) (by decide) ?_
    refine bh aC.out rfl (gx hr (gB hx) rfl) (by decide) ?_
    refine aU (mB ?_)
    first | refine gS ?_ | (refine gT ?_; refine mL ?_) | refine gV ?_
    first | refine gS ?_ | (refine gT ?_; refine mI ?_) | refine gV ?_
    first | refine gS ?_ | (refine gT ?_; refine cJ aF.out aC.size rfl rfl (by omega) (by omega) (by decide) ?_) | refine gV ?_
    refine cm (by decide) rfl rfl (by decide) ?_
    first | refine gS ?_ | (refine gT ?_; refine bY ?_) | refine gV ?_
    first | refine cR ?_ | refine cQ ?_
    refine ae (cT (sr (aS (aI (ae (ao (az (br (az (az (br ?_)))))))))))
    refine az ?_
    refine q5 ?_
    obtain ⟨e1, e2⟩ := ra hx (by simp [fj]; omega)
    rw [e1, e2]
    first | exact ⟨rfl, hh.below⟩ | exact ⟨trivial, hh.below⟩
   ·by_cases h1 : 127 < x
    ·refine ah (sr (mI (mL (aO ?_))))
     refine aU (ae (cT (aj (ai (ah (al (ah (sr (mL (mI ?_))))))))))
     refine cJ aF.out aC.size rfl rfl (by omega) (by omega) (by decide) ?_
     refine bh aC.out rfl (gx hr (gB hx) rfl) (by decide) ?_
     refine aU (mB ?_)
     first | refine gS ?_ | (refine gT ?_; refine mL ?_) | refine gV ?_
     first | refine gS ?_ | (refine gT ?_; refine mI ?_) | refine gV ?_
     first | refine gS ?_ | (refine gT ?_; refine cJ aF.out aC.size rfl rfl (by omega) (by omega) (by decide) ?_) | refine gV ?_
     refine bu rfl rfl (bh aC.out rfl (gx hr (gB hx) rfl) (by decide) ?_)
     first | refine gS ?_ | (refine gT ?_; refine bY ?_) | refine gV ?_
     first | refine cR ?_ | refine cQ ?_
     refine ae (cT (sr (aS (aI (ae (ao (az (br (az (az (br ?_)))))))))))
     refine az ?_
     refine q5 ?_
     obtain ⟨e1, e2⟩ := ra hx (by simp [fj]; omega)
     rw [e1, e2]
     first | exact ⟨rfl, hh.below⟩ | exact ⟨trivial, hh.below⟩
    ·have hok : fj x = true := by simp [fj]; omega
     refine ah (sr (mI (mL (aO ?_))))
     refine aU (ae (cT (aj (ai (ah (al (ah (sr (mL (mI ?_))))))))))
     refine cJ aF.out aC.size rfl rfl (by omega) (by omega) (by decide) ?_
     refine bh aC.out rfl (gx hr (gB hx) rfl) (by decide) ?_
     refine aU (mB ?_)
     first | refine gS ?_ | (refine gT ?_; refine mL ?_) | refine gV ?_
     first | refine gS ?_ | (refine gT ?_; refine mI ?_) | refine gV ?_
     first | refine gS ?_ | (refine gT ?_; refine cJ aF.out aC.size rfl rfl (by omega) (by omega) (by decide) ?_) | refine gV ?_
     refine bu rfl rfl (bh aC.out rfl (gx hr (gB hx) rfl) (by decide) ?_)
     first | refine gS ?_ | (refine gT ?_; refine bY ?_) | refine gV ?_
     first | refine cR ?_ | refine cQ ?_
     refine ae (cF (aj (ai (aq (mS (mL (mI ?_)))))))
     refine cJ aF.out aC.size rfl rfl (by omega) (by omega) (by decide) ?_
     refine bh aC.out rfl (gx hr (gB hx) rfl) (by decide) ?_
     refine ll aF.out aF.out rfl (by decide) ?_
     refine bB hh (cs := [_]) aF.out aC.out (bm (cb rfl) cn) rfl rfl (by decide) (by decide) (by decide) rfl (by decide) ?_
     intro b30 w30 hh
     rw [wz (by omega) (by omega)] at hh
     have hsl1 : Sl w30 (some ⟨b30, 0, none⟩) 1 1 (je [sP x]) := by
      have := hh.aK (i := 0) rfl
      rw [nF hok] at this
      exact this
     refine iY aF.out aF.out aF.out rfl (hsl1) (by decide) ?_
     replace hh := hh.sub (List.sublist_cons_self _ _)
     refine B2 rfl rfl (by rw [eh]; show _ + 1 ≤ _; simp; omega) (by decide) ?_
     refine aS (aE (aW (ai (aq (mI ?_)))))
     refine bL (aI (aE (ai ?_)))
     have e0 : str ((xs.take k).map sP) ++ ByteArray.mk #[sP x] = str ((xs.take (k + 1)).map sP) := by
      rw [show ByteArray.mk #[sP x] = str [sP x] from rfl, oz, aJ hx, List.map_append]; rfl
     refine ⟨⟨k + 1, by omega, rfl, congrArg Value.string e0, sA hx hall hok, hh⟩, by show n - (k + 1) < n - k; omega, ?_⟩
     (repeat (first | exact aw _ _ _ | refine ax rfl ?_ | refine ar rfl ?_))
  ·obtain rfl : k = n := by omega
   rw [List.take_of_length_le (by omega)] at hall
   obtain ⟨e1, e2⟩ := rI hall
   refine ah (sr (mI (mL (aO ?_))))
   refine aU (ae (cF ?_))
   refine aP ?_
   refine ay (ay (a6 (ai (sr (mS (aS (aI (ae (ao ?_)))))))))
   refine q5 ?_
   rw [e1, e2, List.take_of_length_le (by omega)]
   first | exact ⟨rfl, hh.below⟩ | exact ⟨trivial, hh.below⟩
theorem mM (s : ByteArray) (w : World) (hs : s.size ≤ 9223372036854775807) :
  Calls Tryz.prog 181 #[.string s, .int .i64 s.size] w fun e w' => e = .returned (.bool (dN s.data.toList)) ∧ Below w.heap.size w w' := by
 have h := jE s s.size w hs
 simpa using h
theorem uV (a b : ByteArray) (w : World) (ha : a.size ≤ 100000) (hb : b.size ≤ 100000) :
  Calls Tryz.prog 241 #[.string a, .string b] w fun e w' => e = .returned (.tuple #[.string (str (mulL a.data.toList b.data.toList).1), .int .i64 (mulL a.data.toList b.data.toList).2]) ∧ Below w.heap.size w w' := by
 have hh := Hp.start w
 have hsa := cw a
 have hsb := cw b
 cases hma : dN a.data.toList with
 | false =>
  refine ak (N := 42) (l := [.string a, .string b]) Tryz.func241 rfl rfl (by simp) ?_
  refine sr (aS (aI (ae (ah (sr (mS (mS ?_)))))))
  refine bg aF.out rfl (by decide) ?_
  refine bG hh (mM a _ (by omega)) rfl ?_
  intro w11 hh
  rw [hma]
  refine fi ?_
  refine mB ?_
  first | refine gS ?_ | (refine gT ?_; refine mS ?_) | refine gV ?_
  first | refine gS ?_ | (refine gT ?_; refine mS ?_) | refine gV ?_
  first | refine gS ?_ | (refine gT ?_; refine bg aF.out rfl (by decide) ?_) | refine gV ?_
  refine cm (by decide) rfl rfl (by decide) ?_
  first | refine gS ?_ | (refine gT ?_; refine fi ?_) | refine gV ?_
  first | refine cR ?_ | refine cQ ?_
  refine ae (cT (sr (aS (aI (ae (ao (az ?_)))))))
  refine q5 ?_
  have : fD (· + ·) a.data.toList b.data.toList = none := by simp [fD, hma]
  simp only [mulL, this]
  first | exact ⟨rfl, hh.below⟩ | exact ⟨trivial, hh.below⟩
 | true =>
  cases hmb : (dN b.data.toList && decide ((b.size : Int) = a.size)) with
  | false =>
   refine ak (N := 42) (l := [.string a, .string b]) Tryz.func241 rfl rfl (by simp) ?_
   refine sr (aS (aI (ae (ah (sr (mS (mS ?_)))))))
   refine bg aF.out rfl (by decide) ?_
   refine bG hh (mM a _ (by omega)) rfl ?_
   intro w11 hh
   rw [hma]
   refine fi ?_
   refine mB ?_
   first | refine gS ?_ | (refine gT ?_; refine mS ?_) | refine gV ?_
   first | refine gS ?_ | (refine gT ?_; refine mS ?_) | refine gV ?_
   first | refine gS ?_ | (refine gT ?_; refine bg aF.out rfl (by decide) ?_) | refine gV ?_
   refine bu rfl rfl ?_
   refine bG hh (jE b _ _ (by omega)) rfl ?_
   intro w17 hh
   rw [hmb]
   first | refine gS ?_ | (refine gT ?_; refine fi ?_) | refine gV ?_
   first | refine cR ?_ | refine cQ ?_
   refine ae (cT (sr (aS (aI (ae (ao (az ?_)))))))
   refine q5 ?_
   have h2 : (dN b.data.toList && decide ((b.data.toList.length : Int) = a.data.toList.length)) = false := by rw [← hsa, ← hsb]; exact hmb
   have : fD (· + ·) a.data.toList b.data.toList = none := by simp only [fD, hma, h2]; rfl
   simp only [mulL, this]
   first | exact ⟨rfl, hh.below⟩ | exact ⟨trivial, hh.below⟩
  | true =>
   have hmb2 := hmb
   simp only [Bool.and_eq_true, decide_eq_true_eq] at hmb2
   have hbl : fD (· + ·) a.data.toList b.data.toList = some (List.zipWith (· + ·) (ints a.data.toList) (ints b.data.toList)) := by
    have : (dN b.data.toList && decide ((b.data.toList.length : Int) = a.data.toList.length)) = true := by rw [← hsa, ← hsb]; exact hmb
    simp only [fD, hma, this]; rfl
   have hzl : (List.zipWith (· + ·) (ints a.data.toList) (ints b.data.toList)).length = a.size := by simp [ints]; omega
   refine ak (N := 42) (l := [.string a, .string b]) Tryz.func241 rfl rfl (by simp) ?_
   refine sr (aS (aI (ae (ah (sr (mS (mS ?_)))))))
   refine bg aF.out rfl (by decide) ?_
   refine bG hh (mM a _ (by omega)) rfl ?_
   intro w11 hh
   rw [hma]
   refine fi ?_
   refine mB ?_
   first | refine gS ?_ | (refine gT ?_; refine mS ?_) | refine gV ?_
   first | refine gS ?_ | (refine gT ?_; refine mS ?_) | refine gV ?_
   first | refine gS ?_ | (refine gT ?_; refine bg aF.out rfl (by decide) ?_) | refine gV ?_
   refine bu rfl rfl ?_
   refine bG hh (jE b _ _ (by omega)) rfl ?_
   intro w17 hh
   rw [hmb]
   first | refine gS ?_ | (refine gT ?_; refine fi ?_) | refine gV ?_
   first | refine cR ?_ | refine cQ ?_
   refine ae (cF (aj (ai (sr (aL (ae (ah (sr (aI (ae (al ?_)))))))))))
   refine ct [6, 7, 20, 21, 22, 23, 24, 25, 26, 27, 28, 29, 30, 31, 32, 33, 34, 35, 36, 37] 6 7
    (fun v i w' => ∃ (k c' : Nat) (A' : Option Addr), k ≤ a.size ∧ i = .int .i64 k ∧ v = .slice A' k c' ∧ Hp w [.row A' k c' 3 1 (ij ((List.zipWith (· + ·) (ints a.data.toList) (ints b.data.toList)).take k))] w')
    (fun _ i _ => a.size - (intOf i).toNat) ?_ ?_
   ·exact ⟨0, 0, none, Nat.zero_le _, rfl, rfl, hh.di _ _⟩
   ·clear hh
    rintro ρ' v i w' ⟨k, c', A', hk, rfl, rfl, hh⟩
    by_cases hlt : k < a.size
    ·obtain ⟨x, hx⟩ := aD (l := a.data.toList) (k := k) (by omega)
     obtain ⟨y, hy⟩ := aD (l := b.data.toList) (k := k) (by omega)
     have bx := hO hma hx
     have byy := hO hmb2.1 hy
     refine ah (sr (mI (mS ?_)))
     refine bg aF.out rfl (by decide) ?_
     refine aU (ae (cT (aj (ai (ah (al ?_))))))
     refine aX 11 [[(6, none)], [(0, none)], [(7, none)], [(27, some 1), (28, some 2)], [(29, some 3)], [(1, none)], [(7, none)], [(31, some 5), (32, some 6)], [(33, some 7)], [(30, some 4), (34, some 8)], [(35, some 9)]] [(10, 36), (9, 35), (8, 34), (7, 33), (6, 32), (5, 31), (4, 30), (3, 29), (2, 28), (1, 27), (0, 26)] hh mixed (by kernel_rfl) ?_
     refine fN ?_
     refine Cu ?_
     refine eb ?_
     refine bq (i := 3) (fun ρ1 w1 hj hR => gU aF.out (show ρ1 27 = Value.string _ from hR.1) (show ρ1 28 = Value.int _ _ from hR.2.1) (by omega) (by assumption)) ?_
     refine bq (i := 4) (fun ρ1 w1 hj hR => iG aF.out aF.out (show ρ1 29 = Value.int _ _ from hR.1) (by omega) (by omega)) ?_
     refine Cu ?_
     refine eb ?_
     refine bq (i := 7) (fun ρ1 w1 hj hR => gU aF.out (show ρ1 31 = Value.string _ from hR.1) (show ρ1 32 = Value.int _ _ from hR.2.1) (by omega) (by assumption)) ?_
     refine bq (i := 8) (fun ρ1 w1 hj hR => iG aF.out aF.out (show ρ1 33 = Value.int _ _ from hR.1) (by omega) (by omega)) ?_
     refine uB ?_
     refine pD [_] ?_
     refine a0 ?_
     intro f W hJ hV
     have hb_7 := hJ.bl
     obtain ⟨v36, v35, v34, v33, v32, v31, v30, v29, v28, v27, v26, _⟩ := hV
     obtain ⟨A36, c36, e36, f36⟩ : Rows _ _ _ (f 10) W := v36
     replace hh := hJ.hp
     refine aN (a4 (aa e36 (aa v35 (aa v34 (aa v33 (aa v32 (aa v31 (aa v30 (aa v29 (aa v28 (aa v27 (aa v26 aM)))))))))))) ?_
     dsimp only [ca]
     clear e36 hJ
     refine bF hh (i := 0) rfl rfl rfl (f36) aF.out aC.out rfl (by decide) rfl (by omega) (by omega) (by decide) ?_
     intro A37 c37 w37 hh
     simp only [List.set_cons_zero] at hh
     refine aL (aE (aW (ai (aq (mI ?_)))))
     refine bL (aI (aE (ai ?_)))
     refine ⟨⟨k + 1, c37, A37, by omega, rfl, rfl, ?_⟩, by show a.size - (k + 1) < a.size - k; omega, ?_⟩
     ·rw [aJ (xV (vF hx) (vF hy)), sV]
      exact hh
     ·(repeat (first | exact aw _ _ _ | refine ax rfl ?_ | refine ar rfl ?_))
    ·refine ah (sr (mI (mS ?_)))
     refine bg aF.out rfl (by decide) ?_
     refine aU (ae (cF ?_))
     refine aP ?_
     refine ay (ay (a6 (ai (sr (mL ?_)))))
     obtain rfl : k = a.size := by omega
     rw [List.take_of_length_le (by omega)] at hh
     refine bG hh (xB _ _ _ _ _ (hh.aK (i := 0) rfl) (by omega)) rfl ?_
     intro w39 hh
     refine dp ?_
     refine dp ?_
     refine aS (aI (ae (ao ?_)))
     refine q5 ?_
     simp only [mulL, hbl]
     first | exact ⟨rfl, hh.below⟩ | exact ⟨trivial, hh.below⟩
end Go.Proofs.YtaapkaefelhfcaaGreatDoor
/- The walk through ogeeref08.Check. -/
namespace Go.Proofs.YtaapkaefelhfcaaGreatDoor
open Go.RowKit
theorem pT (v : Int) (A : Option Addr) (n c : Nat) (ts : List TR) (w : World) (hS : Sl w A n 4 (aQ TR.cells ts)) (hn : n ≤ 1000000) (ho : ∀ t ∈ ts, t.c.ok ∧ t.m.size ≤ 100000) :
  Calls Tryz.prog 87 #[.agg #[.int .i64 v, .slice A n c]] w fun r w' => r = .returned (.int .i64 (fA v ts)) ∧ Below w.heap.size w w' := by
 have hh := Hp.start w
 have hln := hS.cg TR.len (by decide)
 cases hf : gD v with
 | false =>
  have hbv : ¬ (0 ≤ v ∧ v ≤ 12) := fun h => by rw [eE.2 h] at hf; cases hf
  rw [show fA v ts = 1 by unfold fA; rw [if_pos hf]]
  by_cases h0 : v < 0
  ·refine ak (N := 63) (l := [.agg #[.int .i64 v, .slice A n c]]) Tryz.func87 rfl rfl (by simp) ?_
   refine sr ?_
   refine cK hh [_,_] ?_
   intro b1 w1 hh
   refine aI (ae (ah (sr (bC ?_))))
   refine bH hh 0 ?_
   refine aU (mB ?_)
   first | refine gS ?_ | (refine gT ?_; refine bC ?_) | refine gV ?_
   first | refine gS ?_ | (refine gT ?_; refine bH hh 0 ?_) | refine gV ?_
   first | refine gS ?_ | (refine gT ?_; refine bY ?_) | refine gV ?_
   first | refine cR ?_ | refine cQ ?_
   refine ae (cT (sr (aI (ae (ao (az ?_))))))
   refine cA ?_
   exact ⟨rfl, hh.below⟩
  ·refine ak (N := 63) (l := [.agg #[.int .i64 v, .slice A n c]]) Tryz.func87 rfl rfl (by simp) ?_
   refine sr ?_
   refine cK hh [_,_] ?_
   intro b1 w1 hh
   refine aI (ae (ah (sr (bC ?_))))
   refine bH hh 0 ?_
   refine aU (mB ?_)
   first | refine gS ?_ | (refine gT ?_; refine bC ?_) | refine gV ?_
   first | refine gS ?_ | (refine gT ?_; refine bH hh 0 ?_) | refine gV ?_
   first | refine gS ?_ | (refine gT ?_; refine bY ?_) | refine gV ?_
   first | refine cR ?_ | refine cQ ?_
   refine ae (cT (sr (aI (ae (ao (az ?_))))))
   refine cA ?_
   exact ⟨rfl, hh.below⟩
 | true =>
  obtain ⟨hv0, hv12⟩ := eE.1 hf
  by_cases h4 : 4096 < n
  ·rw [show fA v ts = 3 by unfold fA; rw [if_neg (by rw [hf]; decide), if_pos (by omega)]]
   refine ak (N := 63) (l := [.agg #[.int .i64 v, .slice A n c]]) Tryz.func87 rfl rfl (by simp) ?_
   refine sr ?_
   refine cK hh [_,_] ?_
   intro b1 w1 hh
   refine aI (ae (ah (sr (bC ?_))))
   refine bH hh 0 ?_
   refine aU (mB ?_)
   first | refine gS ?_ | (refine gT ?_; refine bC ?_) | refine gV ?_
   first | refine gS ?_ | (refine gT ?_; refine bH hh 0 ?_) | refine gV ?_
   first | refine gS ?_ | (refine gT ?_; refine bY ?_) | refine gV ?_
   first | refine cR ?_ | refine cQ ?_
   refine ae (cF (aj (ai (ah (sr (bC ?_))))))
   refine bH hh 0 ?_
   refine aO ?_
   refine bY (ae (cT (sr (aI (ae (ao (az ?_)))))))
   refine cA ?_
   exact ⟨rfl, hh.below⟩
  ·have hbad := fun h => sH (v := v) (ts := ts) hf (by omega) h
   refine ak (N := 63) (l := [.agg #[.int .i64 v, .slice A n c]]) Tryz.func87 rfl rfl (by simp) ?_
   refine sr ?_
   refine cK hh [_,_] ?_
   intro b1 w1 hh
   refine aI (ae (ah (sr (bC ?_))))
   refine bH hh 0 ?_
   refine aU (mB ?_)
   first | refine gS ?_ | (refine gT ?_; refine bC ?_) | refine gV ?_
   first | refine gS ?_ | (refine gT ?_; refine bH hh 0 ?_) | refine gV ?_
   first | refine gS ?_ | (refine gT ?_; refine bY ?_) | refine gV ?_
   first | refine cR ?_ | refine cQ ?_
   refine ae (cF (aj (ai (ah (sr (bC ?_))))))
   refine bH hh 0 ?_
   refine aO ?_
   refine bY (ae (cF (aj (ai (ah (sr (aI (ae (al ?_)))))))))
   refine bs [2, 3, 4, 17, 18, 19, 20, 21, 22, 23, 24, 25, 26, 27, 28, 29, 30, 31, 32, 33, 34, 35, 36, 37, 38, 39, 40, 41, 42, 43, 44, 45, 46, 47, 48, 49, 50, 51, 52, 53, 54, 55, 56, 57, 58, 59, 60, 61, 62] 3
    (fun x w' => ∃ i : Nat, i ≤ n ∧ x = .int .i64 i ∧ (ts.take i).all (g8 v) = true ∧ kY (ts.take i) = true ∧ Hp w [.blk b1 24 [.int .i64 v, .slice A n c] (0, 0)] w')
    (fun x _ => n - (intOf x).toNat) ?_ ?_
   ·exact ⟨0, Nat.zero_le _, rfl, rfl, rfl, hh⟩
   ·clear hh
    rintro ρ' x_ w' ⟨i, hi, rfl, hall, hris, hh⟩
    by_cases hlt : i < n
    ·obtain ⟨x, hx⟩ := aD (l := ts) (k := i) (by omega)
     obtain ⟨ad, rfl, hr⟩ := hS.at_ (by omega)
     obtain ⟨hxo, hxm⟩ := ho x (List.mem_of_getElem? hx)
     have hmay := fun w1 => jE x.m v w1 (by omega)
     have hsg := fun w1 => ej x.c w1 (by have := hxo.1; omega)
     have hfo := fun w1 => dR x.c w1 (by have := hxo.1; omega) (by have := hxo.2.1; omega) (by have := hxo.2.2; omega)
     have hzz : x.c.i.sign = 0 ↔ x.c.d = 0 := by
      rw [Int.sign_eq_zero_iff_zero]
      exact ⟨fun h => by unfold NR.d; rw [h]; rfl, gQ⟩
     cases hm : dN x.m.data.toList && decide ((x.m.size : Int) = v) with
     | false =>
      rw [hm] at hmay
      rw [hbad (kB hx (by unfold g8; rw [hm]; rfl))]
      refine ah (sr (mI (bC ?_)))
      refine bH hh 0 ?_
      refine aO ?_
      refine aU (ae (cT (aj (ai (ah (al (sr (bC ?_))))))))
      refine bH hh 0 ?_
      refine mI ?_
      refine aR (k := i) aF.out aC.size rfl rfl (by omega) (by omega) (by decide) ?_
      refine bQ (vs := [_, _, _, _]) aC.out rfl ((hr.ext hh.below).recAt TR.len hx) rfl (by decide) ?_
      refine cv hh ?_
      intro b4 w4 hh
      refine bE hh 0 [_,_,_,_] ?_
      intro ws hh
      replace hh : Hp _ (.blk _ _ [_, _, _, _] _ :: _) _ := hh
      refine ae (ah (ah ?_))
      refine cq [] [] [0, 1, 0, 4, 15, 31, 63, 127, 255, 511, 1023, 2047, 4095, 8191, 16383, 32767, 8191, 73727, 262143, 524287] 18 [[(4, none)], [(29, some 0)], [(1, none)], [(31, some 2)], [(30, some 1), (32, some 3)], [(33, some 4)], [(34, some 5)], [(4, none), (35, some 6)], [(36, some 7), (35, some 6)], [(37, some 8), (35, some 6)], [(38, some 9), (35, some 6)], [(35, some 6), (39, some 10)], [(40, some 11)], [(4, none), (41, some 12)], [(42, some 13), (41, some 12)], [(43, some 14), (41, some 12)], [(4, none), (41, some 12)], [(45, some 16), (41, some 12)]] [(17, 46), (16, 45), (15, 44), (14, 43), (13, 42), (12, 41), (11, 40), (10, 39), (9, 38), (8, 37), (7, 36), (6, 35), (5, 34), (4, 33), (3, 32), (2, 31), (1, 30), (0, 29)] hh mixed (by kernel_rfl) cG rfl (by repeat (first | exact bX | refine bA ?_ | refine bV ?_)) ?_
      refine cD ?_
      refine dF 0 ?_
      refine cD ?_
      refine dF 1 ?_
      refine dC (fun _ hj => hmay _) ?_
      refine pF ?_
      refine ie ?_
      first | refine dS ?_ | refine dU ?_ | refine dG (cD ?_)
      first | refine dS ?_ | refine dU ?_ | refine dG (ef 0 [_,_,_] ?_)
      first | refine dS ?_ | refine dU ?_
      first | refine dS ?_ | refine dU ?_ | refine dG (l4 ?_)
      first | refine oR ?_ | refine pj ?_
      refine ie ?_
      first | refine dS ?_ | refine dU ?_ | refine dG (cD ?_)
      first | refine dS ?_ | refine dU ?_ | refine dG (ef 0 [_,_,_] ?_)
      first | refine dS ?_ | refine dU ?_
      first | refine dS ?_ | refine dU ?_ | refine dG (cD ?_)
      first | refine dS ?_ | refine dU ?_ | refine dG (ef 0 [_,_,_] ?_)
      refine a0 ?_
      intro f W hJ hV _
      have hb_9 := hJ.bl
      obtain ⟨v46, v45, v44, v43, v42, v41, v40, v39, v38, v37, v36, v35, v34, v33, v32, v31, v30, v29, _⟩ := hV
      replace hh := hJ.hp
      refine aN (a4 (aa v46 (aa v45 (aa v44 (aa v43 (aa v42 (aa v41 (aa v40 (aa v39 (aa v38 (aa v37 (aa v36 (aa v35 (aa v34 (aa v33 (aa v32 (aa v31 (aa v30 (aa v29 aM))))))))))))))))))) ?_
      dsimp only [ca]
      clear hJ
      first | refine gS ?_ | (refine gT ?_; (first | refine nO rfl rfl (by first | assumption | rfl) (by decide) ?_ | refine nB rfl rfl (by assumption) (by decide) ?_)) | refine gV ?_
      first | refine cR ?_ | refine cQ ?_
      refine ae (cT (sr (aI (ae (ao (az (br (az (az (br (az ?_)))))))))))
      refine cA ?_
      exact ⟨rfl, hh.below⟩
     | true =>
      rw [hm] at hmay
      by_cases hz : x.c.d = 0
      ·have hs := hzz.2 hz
       rw [hbad (kB hx (by unfold g8 kM; rw [hm, decide_eq_true hz]; rfl))]
       refine ah (sr (mI (bC ?_)))
       refine bH hh 0 ?_
       refine aO ?_
       refine aU (ae (cT (aj (ai (ah (al (sr (bC ?_))))))))
       refine bH hh 0 ?_
       refine mI ?_
       refine aR (k := i) aF.out aC.size rfl rfl (by omega) (by omega) (by decide) ?_
       refine bQ (vs := [_, _, _, _]) aC.out rfl ((hr.ext hh.below).recAt TR.len hx) rfl (by decide) ?_
       refine cv hh ?_
       intro b4 w4 hh
       refine bE hh 0 [_,_,_,_] ?_
       intro ws hh
       replace hh : Hp _ (.blk _ _ [_, _, _, _] _ :: _) _ := hh
       refine ae (ah (ah ?_))
       refine cq [] [] [0, 1, 0, 4, 15, 31, 63, 127, 255, 511, 1023, 2047, 4095, 8191, 16383, 32767, 8191, 73727, 262143, 524287] 18 [[(4, none)], [(29, some 0)], [(1, none)], [(31, some 2)], [(30, some 1), (32, some 3)], [(33, some 4)], [(34, some 5)], [(4, none), (35, some 6)], [(36, some 7), (35, some 6)], [(37, some 8), (35, some 6)], [(38, some 9), (35, some 6)], [(35, some 6), (39, some 10)], [(40, some 11)], [(4, none), (41, some 12)], [(42, some 13), (41, some 12)], [(43, some 14), (41, some 12)], [(4, none), (41, some 12)], [(45, some 16), (41, some 12)]] [(17, 46), (16, 45), (15, 44), (14, 43), (13, 42), (12, 41), (11, 40), (10, 39), (9, 38), (8, 37), (7, 36), (6, 35), (5, 34), (4, 33), (3, 32), (2, 31), (1, 30), (0, 29)] hh mixed (by kernel_rfl) cG rfl (by repeat (first | exact bX | refine bA ?_ | refine bV ?_)) ?_
       refine cD ?_
       refine dF 0 ?_
       refine cD ?_
       refine dF 1 ?_
       refine dC (fun _ hj => hmay _) ?_
       refine pF ?_
       refine ie ?_
       first | refine dS ?_ | refine dU ?_ | refine dG (cD ?_)
       first | refine dS ?_ | refine dU ?_ | refine dG (ef 0 [_,_,_] ?_)
       refine bO (i := 9) rfl (fun ρ1 w1 hj hR => (show ρ1 35 = Value.bool _ from hR.2.1)) (fun ρ1 w1 hj hR => a3 av.out (aA (show ρ1 37 = Value.agg (List.toArray _) from hR.1) a9)) (fun w1 hj => hsg _) ?_
       first | refine dS ?_ | refine dU ?_ | refine dG (l4 ?_)
       first | refine oR ?_ | refine pj ?_
       refine ie ?_
       first | refine dS ?_ | refine dU ?_ | refine dG (cD ?_)
       first | refine dS ?_ | refine dU ?_ | refine dG (ef 0 [_,_,_] ?_)
       first | refine dS ?_ | refine dU ?_
       first | refine dS ?_ | refine dU ?_ | refine dG (cD ?_)
       first | refine dS ?_ | refine dU ?_ | refine dG (ef 0 [_,_,_] ?_)
       refine a0 ?_
       intro f W hJ hV _
       have hb_9 := hJ.bl
       obtain ⟨v46, v45, v44, v43, v42, v41, v40, v39, v38, v37, v36, v35, v34, v33, v32, v31, v30, v29, _⟩ := hV
       replace hh := hJ.hp
       refine aN (a4 (aa v46 (aa v45 (aa v44 (aa v43 (aa v42 (aa v41 (aa v40 (aa v39 (aa v38 (aa v37 (aa v36 (aa v35 (aa v34 (aa v33 (aa v32 (aa v31 (aa v30 (aa v29 aM))))))))))))))))))) ?_
       dsimp only [ca]
       clear hJ
       first | refine gS ?_ | (refine gT ?_; (first | refine nO rfl rfl (by first | assumption | rfl) (by decide) ?_ | refine nB rfl rfl (by assumption) (by decide) ?_)) | refine gV ?_
       first | refine cR ?_ | refine cQ ?_
       refine ae (cT (sr (aI (ae (ao (az (br (az (az (br (az ?_)))))))))))
       refine cA ?_
       exact ⟨rfl, hh.below⟩
      ·have hs : ¬ x.c.i.sign = 0 := fun h => hz (hzz.1 h)
       by_cases hnf : nR x.c.d = x.c
       ·have hgood : g8 v x = true := by unfold g8 kM; rw [hm, decide_eq_false hz, (kv x.c).2 hnf]; rfl
        have hall2 : (ts.take (i + 1)).all (g8 v) = true := by rw [aJ hx, List.all_append, hall]; simp [hgood]
        refine ah (sr (mI (bC ?_)))
        refine bH hh 0 ?_
        refine aO ?_
        refine aU (ae (cT (aj (ai (ah (al (sr (bC ?_))))))))
        refine bH hh 0 ?_
        refine mI ?_
        refine aR (k := i) aF.out aC.size rfl rfl (by omega) (by omega) (by decide) ?_
        refine bQ (vs := [_, _, _, _]) aC.out rfl ((hr.ext hh.below).recAt TR.len hx) rfl (by decide) ?_
        refine cv hh ?_
        intro b4 w4 hh
        refine bE hh 0 [_,_,_,_] ?_
        intro ws hh
        replace hh : Hp _ (.blk _ _ [_, _, _, _] _ :: _) _ := hh
        refine ae (ah (ah ?_))
        refine cq [] [] [0, 1, 0, 4, 15, 31, 63, 127, 255, 511, 1023, 2047, 4095, 8191, 16383, 32767, 8191, 73727, 262143, 524287] 18 [[(4, none)], [(29, some 0)], [(1, none)], [(31, some 2)], [(30, some 1), (32, some 3)], [(33, some 4)], [(34, some 5)], [(4, none), (35, some 6)], [(36, some 7), (35, some 6)], [(37, some 8), (35, some 6)], [(38, some 9), (35, some 6)], [(35, some 6), (39, some 10)], [(40, some 11)], [(4, none), (41, some 12)], [(42, some 13), (41, some 12)], [(43, some 14), (41, some 12)], [(4, none), (41, some 12)], [(45, some 16), (41, some 12)]] [(17, 46), (16, 45), (15, 44), (14, 43), (13, 42), (12, 41), (11, 40), (10, 39), (9, 38), (8, 37), (7, 36), (6, 35), (5, 34), (4, 33), (3, 32), (2, 31), (1, 30), (0, 29)] hh mixed (by kernel_rfl) cG rfl (by repeat (first | exact bX | refine bA ?_ | refine bV ?_)) ?_
        refine cD ?_
        refine dF 0 ?_
        refine cD ?_
        refine dF 1 ?_
        refine dC (fun _ hj => hmay _) ?_
        refine pF ?_
        refine ie ?_
        first | refine dS ?_ | refine dU ?_ | refine dG (cD ?_)
        first | refine dS ?_ | refine dU ?_ | refine dG (ef 0 [_,_,_] ?_)
        refine bO (i := 9) rfl (fun ρ1 w1 hj hR => (show ρ1 35 = Value.bool _ from hR.2.1)) (fun ρ1 w1 hj hR => a3 av.out (aA (show ρ1 37 = Value.agg (List.toArray _) from hR.1) a9)) (fun w1 hj => hsg _) ?_
        first | refine dS ?_ | refine dU ?_ | refine dG (l4 ?_)
        first | refine oR ?_ | refine pj ?_
        refine ie ?_
        first | refine dS ?_ | refine dU ?_ | refine dG (cD ?_)
        first | refine dS ?_ | refine dU ?_ | refine dG (ef 0 [_,_,_] ?_)
        refine bO (i := 15) rfl (fun ρ1 w1 hj hR => (show ρ1 41 = Value.bool _ from hR.2.1)) (fun ρ1 w1 hj hR => a3 av.out (aA (show ρ1 43 = Value.agg (List.toArray _) from hR.1) a9)) (fun w1 hj => hfo _) ?_
        first | refine dS ?_ | refine dU ?_ | refine dG (cD ?_)
        first | refine dS ?_ | refine dU ?_ | refine dG (ef 0 [_,_,_] ?_)
        refine a0 ?_
        intro f W hJ hV _
        have hb_9 := hJ.bl
        obtain ⟨v46, v45, v44, v43, v42, v41, v40, v39, v38, v37, v36, v35, v34, v33, v32, v31, v30, v29, _⟩ := hV
        replace hh := hJ.hp
        refine aN (a4 (aa v46 (aa v45 (aa v44 (aa v43 (aa v42 (aa v41 (aa v40 (aa v39 (aa v38 (aa v37 (aa v36 (aa v35 (aa v34 (aa v33 (aa v32 (aa v31 (aa v30 (aa v29 aM))))))))))))))))))) ?_
        dsimp only [ca]
        clear hJ
        first | refine gS ?_ | (refine gT ?_; (first | refine nO rfl rfl (by first | assumption | rfl) (by decide) ?_ | refine nB rfl rfl (by assumption) (by decide) ?_)) | refine gV ?_
        first | refine cR ?_ | refine cQ ?_
        refine ae (cF (aj (ai (ah ?_))))
        by_cases h0 : i = 0
        ·refine cq [] [] [0, 1, 3, 7, 15, 7, 39, 127, 255, 511, 7, 1031, 4095, 8191] 12 [[(3, none)], [(49, some 0)], [(50, some 1)], [(1, none), (51, some 2)], [(52, some 3), (51, some 2)], [(3, none), (51, some 2)], [(54, some 5), (51, some 2)], [(53, some 4), (55, some 6), (51, some 2)], [(56, some 7), (51, some 2)], [(57, some 8), (51, some 2)], [(4, none), (51, some 2)], [(59, some 10), (51, some 2)]] [(11, 60), (10, 59), (9, 58), (8, 57), (7, 56), (6, 55), (5, 54), (4, 53), (3, 52), (2, 51), (1, 50), (0, 49)] hh mixed (by kernel_rfl) cG rfl (by repeat (first | exact bX | refine bA ?_ | refine bV ?_)) ?_
         refine eb ?_
         refine rK ?_
         refine ie ?_
         first | refine dS ?_ | refine dU ?_ | refine dG (cD ?_)
         first | refine dS ?_ | refine dU ?_ | refine dG (dF 1 ?_)
         first | refine dS ?_ | refine dU ?_ | refine dG (eb ?_)
         first | refine dS ?_ | refine dU ?_ | refine dG (jU ?_)
         first | refine eX (i := 7) rfl (fun ρ1 w1 hj hR => (show ρ1 51 = Value.bool _ from hR.2.2.1)) (by decide) ?_ | refine ek (i := 7) rfl (fun ρ1 w1 hj hR => (show ρ1 51 = undef from hR.2.2.1)) ?_ | refine dL (i := 7) rfl (fun ρ1 w1 hj hR => (show ρ1 51 = Value.bool _ from hR.2.2.1)) (fun ρ1 w1 hj hR => eg aF.out aC.size (show ρ1 53 = Value.slice _ _ _ from hR.1) (show ρ1 55 = Value.int _ _ from hR.2.1) rfl (by omega)) ?_
         first | refine dS ?_ | refine dU ?_ | refine dG (jP ?_)
         first | refine dS ?_ | refine dU ?_ | refine dG (hU (fun _ hj => hr) ?_)
         first | refine dS ?_ | refine dU ?_ | refine dG (cD ?_)
         first | refine dS ?_ | refine dU ?_ | refine dG (dF 0 ?_)
         refine a0 ?_
         intro f W hJ hV _
         have hb_11 := hJ.bl
         obtain ⟨v60, v59, v58, v57, v56, v55, v54, v53, v52, v51, v50, v49, _⟩ := hV
         replace hh := hJ.hp
         refine aN (a4 (aa v60 (aa v59 (aa v58 (aa v57 (aa v56 (aa v55 (aa v54 (aa v53 (aa v52 (aa v51 (aa v50 (aa v49 aM))))))))))))) ?_
         dsimp only [ca]
         clear hJ
         first | refine gS ?_ | (refine gT ?_; refine fq rfl rfl (by decide) ?_) | refine gV ?_
         first | refine cR ?_ | refine cQ ?_
         refine ae (cF (aj (aW (ai (aq (mI ?_))))))
         refine bL (aI (aE (ai ?_)))
         replace hh := hh.sub (List.Sublist.cons _ (List.Sublist.cons_cons _ List.Sublist.slnil))
         refine ⟨⟨i + 1, by omega, rfl, hall2, by rw [aJ hx, h0]; rfl, hh⟩, by show n - (i + 1) < n - i; omega, ?_⟩
         (repeat (first | exact aw _ _ _ | refine ax rfl ?_ | refine ar rfl ?_))
        ·obtain ⟨q, hq⟩ : ∃ q, i = q + 1 := ⟨i - 1, by omega⟩
         obtain ⟨p, hp⟩ := aD (l := ts) (k := q) (by omega)
         cases hlp : fM p.m x.m with
         | false =>
          rw [hbad (th hp (hq ▸ hx) hlp)]
          have hge : (!(Op.bytesLess p.m.toList x.m.toList)) = true := by rw [gR, hlp]; rfl
          refine cq [] [] [0, 1, 3, 7, 15, 7, 39, 127, 255, 511, 7, 1031, 4095, 8191] 12 [[(3, none)], [(49, some 0)], [(50, some 1)], [(1, none), (51, some 2)], [(52, some 3), (51, some 2)], [(3, none), (51, some 2)], [(54, some 5), (51, some 2)], [(53, some 4), (55, some 6), (51, some 2)], [(56, some 7), (51, some 2)], [(57, some 8), (51, some 2)], [(4, none), (51, some 2)], [(59, some 10), (51, some 2)]] [(11, 60), (10, 59), (9, 58), (8, 57), (7, 56), (6, 55), (5, 54), (4, 53), (3, 52), (2, 51), (1, 50), (0, 49)] hh mixed (by kernel_rfl) cG rfl (by repeat (first | exact bX | refine bA ?_ | refine bV ?_)) ?_
          refine eb ?_
          refine rK ?_
          refine ie ?_
          first | refine dS ?_ | refine dU ?_ | refine dG (cD ?_)
          first | refine dS ?_ | refine dU ?_ | refine dG (dF 1 ?_)
          first | refine dS ?_ | refine dU ?_ | refine dG (eb ?_)
          first | refine dS ?_ | refine dU ?_ | refine dG (jU ?_)
          first | refine dS ?_ | refine dU ?_ | refine dG (iA (q) ?_)
          first | refine dS ?_ | refine dU ?_ | refine dG (jP ?_)
          first | refine dS ?_ | refine dU ?_ | refine dG (hU (fun _ hj => ((hr.ext hj.hp.below).recAt TR.len hp).cell (i := 0) rfl) ?_)
          first | refine dS ?_ | refine dU ?_ | refine dG (cD ?_)
          first | refine dS ?_ | refine dU ?_ | refine dG (dF 0 ?_)
          refine a0 ?_
          intro f W hJ hV _
          have hb_11 := hJ.bl
          obtain ⟨v60, v59, v58, v57, v56, v55, v54, v53, v52, v51, v50, v49, _⟩ := hV
          replace hh := hJ.hp
          refine aN (a4 (aa v60 (aa v59 (aa v58 (aa v57 (aa v56 (aa v55 (aa v54 (aa v53 (aa v52 (aa v51 (aa v50 (aa v49 aM))))))))))))) ?_
          dsimp only [ca]
          clear hJ
          first | refine gS ?_ | (refine gT ?_; refine fq rfl rfl (by decide) ?_) | refine gV ?_
          first | refine cR ?_ | refine cQ ?_
          refine ae ?_
          rw [hge]
          refine cT (sr (aI (ae (ao (br (az (az (br (az ?_)))))))))
          refine cA ?_
          exact ⟨rfl, hh.below⟩
         | true =>
          have hge : (!(Op.bytesLess p.m.toList x.m.toList)) = false := by rw [gR, hlp]; rfl
          refine cq [] [] [0, 1, 3, 7, 15, 7, 39, 127, 255, 511, 7, 1031, 4095, 8191] 12 [[(3, none)], [(49, some 0)], [(50, some 1)], [(1, none), (51, some 2)], [(52, some 3), (51, some 2)], [(3, none), (51, some 2)], [(54, some 5), (51, some 2)], [(53, some 4), (55, some 6), (51, some 2)], [(56, some 7), (51, some 2)], [(57, some 8), (51, some 2)], [(4, none), (51, some 2)], [(59, some 10), (51, some 2)]] [(11, 60), (10, 59), (9, 58), (8, 57), (7, 56), (6, 55), (5, 54), (4, 53), (3, 52), (2, 51), (1, 50), (0, 49)] hh mixed (by kernel_rfl) cG rfl (by repeat (first | exact bX | refine bA ?_ | refine bV ?_)) ?_
          refine eb ?_
          refine rK ?_
          refine ie ?_
          first | refine dS ?_ | refine dU ?_ | refine dG (cD ?_)
          first | refine dS ?_ | refine dU ?_ | refine dG (dF 1 ?_)
          first | refine dS ?_ | refine dU ?_ | refine dG (eb ?_)
          first | refine dS ?_ | refine dU ?_ | refine dG (jU ?_)
          first | refine dS ?_ | refine dU ?_ | refine dG (iA (q) ?_)
          first | refine dS ?_ | refine dU ?_ | refine dG (jP ?_)
          first | refine dS ?_ | refine dU ?_ | refine dG (hU (fun _ hj => ((hr.ext hj.hp.below).recAt TR.len hp).cell (i := 0) rfl) ?_)
          first | refine dS ?_ | refine dU ?_ | refine dG (cD ?_)
          first | refine dS ?_ | refine dU ?_ | refine dG (dF 0 ?_)
          refine a0 ?_
          intro f W hJ hV _
          have hb_11 := hJ.bl
          obtain ⟨v60, v59, v58, v57, v56, v55, v54, v53, v52, v51, v50, v49, _⟩ := hV
          replace hh := hJ.hp
          refine aN (a4 (aa v60 (aa v59 (aa v58 (aa v57 (aa v56 (aa v55 (aa v54 (aa v53 (aa v52 (aa v51 (aa v50 (aa v49 aM))))))))))))) ?_
          dsimp only [ca]
          clear hJ
          first | refine gS ?_ | (refine gT ?_; refine fq rfl rfl (by decide) ?_) | refine gV ?_
          first | refine cR ?_ | refine cQ ?_
          refine ae ?_
          rw [hge]
          refine cF (aj (aW (ai (aq (mI ?_)))))
          refine bL (aI (aE (ai ?_)))
          replace hh := hh.sub (List.Sublist.cons _ (List.Sublist.cons_cons _ List.Sublist.slnil))
          refine ⟨⟨i + 1, by omega, rfl, hall2, ?_, hh⟩, by show n - (i + 1) < n - i; omega, ?_⟩
          ·rw [hq, aJ hp] at hris
           rw [aJ hx, hq, aJ hp, List.append_assoc]
           show kY (ts.take q ++ [p, x]) = true
           rw [m0, hris, hlp]
           rfl
          ·(repeat (first | exact aw _ _ _ | refine ax rfl ?_ | refine ar rfl ?_))
       ·rw [hbad (kB hx (by unfold g8 kM; rw [hm, decide_eq_false hz, Bool.eq_false_iff.2 (fun h => hnf ((kv x.c).1 h))]; rfl))]
        refine ah (sr (mI (bC ?_)))
        refine bH hh 0 ?_
        refine aO ?_
        refine aU (ae (cT (aj (ai (ah (al (sr (bC ?_))))))))
        refine bH hh 0 ?_
        refine mI ?_
        refine aR (k := i) aF.out aC.size rfl rfl (by omega) (by omega) (by decide) ?_
        refine bQ (vs := [_, _, _, _]) aC.out rfl ((hr.ext hh.below).recAt TR.len hx) rfl (by decide) ?_
        refine cv hh ?_
        intro b4 w4 hh
        refine bE hh 0 [_,_,_,_] ?_
        intro ws hh
        replace hh : Hp _ (.blk _ _ [_, _, _, _] _ :: _) _ := hh
        refine ae (ah (ah ?_))
        refine cq [] [] [0, 1, 0, 4, 15, 31, 63, 127, 255, 511, 1023, 2047, 4095, 8191, 16383, 32767, 8191, 73727, 262143, 524287] 18 [[(4, none)], [(29, some 0)], [(1, none)], [(31, some 2)], [(30, some 1), (32, some 3)], [(33, some 4)], [(34, some 5)], [(4, none), (35, some 6)], [(36, some 7), (35, some 6)], [(37, some 8), (35, some 6)], [(38, some 9), (35, some 6)], [(35, some 6), (39, some 10)], [(40, some 11)], [(4, none), (41, some 12)], [(42, some 13), (41, some 12)], [(43, some 14), (41, some 12)], [(4, none), (41, some 12)], [(45, some 16), (41, some 12)]] [(17, 46), (16, 45), (15, 44), (14, 43), (13, 42), (12, 41), (11, 40), (10, 39), (9, 38), (8, 37), (7, 36), (6, 35), (5, 34), (4, 33), (3, 32), (2, 31), (1, 30), (0, 29)] hh mixed (by kernel_rfl) cG rfl (by repeat (first | exact bX | refine bA ?_ | refine bV ?_)) ?_
        refine cD ?_
        refine dF 0 ?_
        refine cD ?_
        refine dF 1 ?_
        refine dC (fun _ hj => hmay _) ?_
        refine pF ?_
        refine ie ?_
        first | refine dS ?_ | refine dU ?_ | refine dG (cD ?_)
        first | refine dS ?_ | refine dU ?_ | refine dG (ef 0 [_,_,_] ?_)
        refine bO (i := 9) rfl (fun ρ1 w1 hj hR => (show ρ1 35 = Value.bool _ from hR.2.1)) (fun ρ1 w1 hj hR => a3 av.out (aA (show ρ1 37 = Value.agg (List.toArray _) from hR.1) a9)) (fun w1 hj => hsg _) ?_
        first | refine dS ?_ | refine dU ?_ | refine dG (l4 ?_)
        first | refine oR ?_ | refine pj ?_
        refine ie ?_
        first | refine dS ?_ | refine dU ?_ | refine dG (cD ?_)
        first | refine dS ?_ | refine dU ?_ | refine dG (ef 0 [_,_,_] ?_)
        refine bO (i := 15) rfl (fun ρ1 w1 hj hR => (show ρ1 41 = Value.bool _ from hR.2.1)) (fun ρ1 w1 hj hR => a3 av.out (aA (show ρ1 43 = Value.agg (List.toArray _) from hR.1) a9)) (fun w1 hj => hfo _) ?_
        first | refine dS ?_ | refine dU ?_ | refine dG (cD ?_)
        first | refine dS ?_ | refine dU ?_ | refine dG (ef 0 [_,_,_] ?_)
        refine a0 ?_
        intro f W hJ hV _
        have hb_9 := hJ.bl
        obtain ⟨v46, v45, v44, v43, v42, v41, v40, v39, v38, v37, v36, v35, v34, v33, v32, v31, v30, v29, _⟩ := hV
        replace hh := hJ.hp
        refine aN (a4 (aa v46 (aa v45 (aa v44 (aa v43 (aa v42 (aa v41 (aa v40 (aa v39 (aa v38 (aa v37 (aa v36 (aa v35 (aa v34 (aa v33 (aa v32 (aa v31 (aa v30 (aa v29 aM))))))))))))))))))) ?_
        dsimp only [ca]
        clear hJ
        first | refine gS ?_ | (refine gT ?_; (first | refine nO rfl rfl (by first | assumption | rfl) (by decide) ?_ | refine nB rfl rfl (by assumption) (by decide) ?_)) | refine gV ?_
        first | refine cR ?_ | refine cQ ?_
        refine ae (cT (sr (aI (ae (ao (az (br (az (az (br (az ?_)))))))))))
        refine cA ?_
        exact ⟨rfl, hh.below⟩
    ·rw [List.take_of_length_le (by omega)] at hall hris
     rw [show fA v ts = 0 by unfold fA okB; rw [if_neg (by rw [hf]; decide), if_neg (by omega), hall, hris]; rfl]
     refine ah (sr (mI (bC ?_)))
     refine bH hh 0 ?_
     refine aO ?_
     refine aU (ae (cF ?_))
     refine aP ?_
     refine ay (ay (a6 (ai (sr (aI (ae (ao ?_)))))))
     refine cA ?_
     exact ⟨rfl, hh.below⟩
end Go.Proofs.YtaapkaefelhfcaaGreatDoor
