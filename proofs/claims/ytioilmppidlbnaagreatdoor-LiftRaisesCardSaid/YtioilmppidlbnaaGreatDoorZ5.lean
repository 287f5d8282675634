/- Lemmas for liftRaises, part 5. -/
import Derived.Test.YtioilmppidlbnaaGreatDoorZ4
/- The walk through bern.Weights. -/
namespace Go.Proofs.YtioilmppidlbnaaGreatDoor
open Go.RowKit
theorem vW : ∀ (ds row : List Nat), (∀ d ∈ ds, d ≤ 127) → yR ds row ≤ 2 ^ (127 * ds.length)
 | [], _, _ => by show 1 ≤ 1; exact Nat.le_refl _
 | d :: ds, [], _ => by show 1 ≤ _; exact Nat.pow_pos (by decide)
 | d :: ds, r :: rs, h => by
  have h1 : bin d r ≤ 2 ^ 127 := Nat.le_trans (o5 d r) (Nat.pow_le_pow_right (by decide) (h d List.mem_cons_self))
  have h2 := vW ds rs fun x hx => h x (List.mem_cons_of_mem _ hx)
  rw [yR, List.length_cons, Nat.mul_succ, Nat.add_comm, Nat.pow_add]
  exact Nat.mul_le_mul h1 h2
theorem yG {n m k : Nat} (h : n ≤ 2 ^ m) (hk : m < k) : Sz k (nD n) := x9 (Nat.lt_of_le_of_lt h (Nat.pow_lt_pow_right (by decide) hk))
theorem vu {ds : List Nat} {x : Nat} (h : x ∈ nW ds) (h1 : ds.length ≤ 12) (h2 : ∀ d ∈ ds, d ≤ 127) : Sz 1600 (nD x) := by
 obtain ⟨p, _, rfl⟩ := List.mem_map.1 h
 have h3 := vW ds.reverse (bV ds.reverse p) fun d hd => h2 d (List.mem_reverse.1 hd)
 exact yG h3 (by rw [List.length_reverse]; omega)
def wS (ds : List Nat) (d j : Nat) : List Nat := ((nW ds).take j).flatMap fun x => (mb d).map (x * ·)
theorem vT {ds : List Nat} {d j x : Nat} (h : (nW ds)[j]? = some x) : wS ds d (j + 1) = wS ds d j ++ (mb d).map (x * ·) := by
 unfold wS
 rw [aO h, List.flatMap_append, List.flatMap_singleton]
theorem mG (A : Option Addr) (n c : Nat) (ns : List Nat) (w : World) (hT : gH w) (hS : Sl w A n 1 (bA (bf ns))) (h12 : ns.length ≤ 12) (hlow : ∀ d ∈ ns, d ≤ 127) (hmax : ay ns ≤ 4096) :
  Calls Tryz.prog 65 #[.slice A n c] w fun r w' => ∃ B c', r = .returned (.slice B (ay ns) c') ∧ w'.ownsRow w.heap.size 39 3 (.slice B (ay ns) c') (ay ns) (bR NR.cells (vc ns)) ∧ Below w.heap.size w w' := by
 have hh := Hp.start w
 have hln : ns.length = n := by have := hS.1; simpa [bA, bf] using this
 have hc := kH ns 1 (by decide) (by decide) hlow
 rw [Nat.one_mul, if_pos hmax] at hc
 have hc1 : gm ((1 : Nat) : Int) (bf ns) = gm 1 (bf ns) := rfl
 rw [hc1] at hc
 have hpos := eA ns
 have hcnt := fun w1 hS1 => eh A n c (bf ns) w1 hS1 (by omega)
 rw [hc] at hcnt
 refine al (N := 52) (l := [.slice A n c]) Tryz.func65 rfl rfl (by simp) ?_
 refine sr (aL (aa (ah (sr (mL (aV ?_))))))
 refine bT (mB ?_)
 first | refine gS ?_ | (refine gT ?_; refine mL ?_) | refine gV ?_
 refine aR rfl rfl ?_
 refine bH hh (hcnt _ (hS.ext hh.below)) rfl ?_
 intro w16 hh
 first | refine gS ?_ | (refine gT ?_; refine dN ?_) | refine gV ?_
 first | refine cQ ?_ | refine cP ?_
 refine aa (cF (ak (ai (sr ?_))))
 refine bH hh (iG 1 _ (hT.hp hh) (by omega) (by omega)) rfl ?_
 intro w19 hh
 refine aK hh (cs := [_, _, _]) aG.out aD.out (aQ (cA rfl) bF) rfl rfl (by decide) (by decide) (by decide) rfl (by decide) ?_
 intro b20 w20 hh
 refine aL (aa (ah (sr (mL (aV (mI (aa (aj ?_))))))))
 refine bY [3, 5, 6, 8, 10, 23, 24, 25, 26, 27, 28, 29, 30, 31, 32, 33, 34, 35, 36, 37, 38, 39, 40, 41, 42, 43, 44, 45, 46, 47, 48, 49, 50] 3 23
  (fun v3 v w' => ∃ (i c3 : Nat) (B : Option Addr), i ≤ n ∧ v = .int .i64 i ∧ v3 = .slice B (ay (ns.take i)) c3 ∧ Hp w [.row B (ay (ns.take i)) c3 39 3 (bR NR.cells (vc (ns.take i)))] w')
  (fun _ v _ => n - (intOf v).toNat) ?_ ?_
 ·exact ⟨0, _, _, Nat.zero_le _, rfl, rfl, hh⟩
 ·clear hh
  rintro ρ' v3 v w' ⟨i, c3, B, hi, rfl, rfl, hh⟩
  by_cases hlt : i < n
  ·obtain ⟨d, hd⟩ := au (l := ns) (k := i) (by omega)
   have hgi := bG (cZ hd)
   have hd127 := hlow d (List.mem_of_getElem? hd)
   have htl : (ns.take i).length ≤ 12 := by rw [List.length_take]; omega
   have htw : ∀ d ∈ ns.take i, d ≤ 127 := fun d hd => hlow d (List.mem_of_mem_take hd)
   have hct := eU ns (i + 1)
   have hct2 := eU ns i
   have hstep : ay (ns.take (i + 1)) = ay (ns.take i) * (d + 1) := by rw [aO hd, fO]; simp [ay]
   have hsnoc : vc (ns.take (i + 1)) = (wS (ns.take i) d (ay (ns.take i))).map fun k => nR (nD k) := by
    unfold vc wS
    rw [aO hd, wy, List.take_of_length_le (l := nW (ns.take i)) (by rw [tM]; exact Nat.le_refl _)]
   generalize hds : ns.take i = ds at *
   generalize hN : ay ds = N at *
   obtain ⟨ad, rfl, hr⟩ := hS.at_ (by omega)
   refine sr ?_
   refine aJ (aa (ah (cT (ak (ai (ah (aj (sr ?_))))))))
   refine aF (k := i) aG.out aD.size rfl rfl (by omega) (by omega) (by decide) ?_
   refine aM aD.out rfl ((hr.ext hh.below).ea hgi) (by decide) ?_
   refine aI (aa (sr (aL (aa (ah (sr (mL (aV (mI (aa (aj ?_)))))))))))
   replace hh := hh.ed 39 3
   refine bY [6, 8, 10, 29, 30, 31, 32, 33, 34, 35, 36, 37, 38, 39, 40, 41, 42, 43, 44, 45, 46, 47, 48] 6 29
    (fun v6 v w' => ∃ (j c6 : Nat) (C : Option Addr), j ≤ N ∧ v = .int .i64 j ∧ v6 = .slice C (j * (d + 1)) c6 ∧ Hp w [.row C (j * (d + 1)) c6 39 3 (bR NR.cells ((wS ds d j).map fun k => nR (nD k))), .row B N c3 39 3 (bR NR.cells (vc ds))] w')
    (fun _ v _ => N - (intOf v).toNat) ?_ ?_
   ·refine ⟨0, 0, none, Nat.zero_le _, rfl, ?_, ?_⟩
    ·rw [Nat.zero_mul]; rfl
    ·rw [Nat.zero_mul]; exact hh
   ·clear hh
    rintro ρ2 v6 v w2 ⟨j, c6, C, hj, rfl, rfl, hh⟩
    by_cases hjN : j < N
    ·obtain ⟨x, hx⟩ := au (l := nW ds) (k := j) (by rw [tM]; omega)
     have hx2 : (vc ds)[j]? = some (nR (nD x)) := by unfold vc; rw [List.getElem?_map, hx]; rfl
     have zx := vu (List.mem_of_getElem? hx) htl htw
     have hj1 : (j + 1) * (d + 1) ≤ N * (d + 1) := Nat.mul_le_mul_right _ hjN
     rw [Nat.succ_mul] at hj1
     obtain ⟨go, rfl⟩ := hh.dw (i := 1) rfl (by omega)
     refine sr ?_
     refine aJ (aa (ah (cT (ak (ai (ah (aj (sr ?_))))))))
     refine bk (k := j) aG.out aD.size rfl rfl (by omega) (by omega) (by decide) ?_
     refine cK (vs := [_, _, _]) aD.out rfl (hh.fZ (f := NR.cells) (x := nR (nD x)) (l := vc ds) (i := 1) rfl NR.len (by decide) hx2) rfl (by decide) ?_
     refine cG hh ?_
     intro b8 w8 hh
     refine bP hh 0 [_,_,_] ?_
     intro ws hh
     replace hh : Hp _ (.blk _ _ [_, _, _] _ :: _) _ := hh
     refine aa (sr (mI ?_))
     refine aT (n8 d _ (hT.hp hh) hd127) az.out rfl (by decide) ?_
     rintro e_ w34 ⟨A34, c34, rfl, hown_, hb_⟩
     refine ⟨_, rfl, ?_⟩
     replace hh := hh.bs (x := .row _ _ _ _ _ _) hb_ hown_
     refine aV (mI (aa (aj ?_)))
     refine bY [6, 10, 36, 37, 38, 39, 40, 41, 42, 43, 44, 45, 46, 47] 6 36
      (fun v6 v w' => ∃ (k c6 : Nat) (C : Option Addr), k ≤ d + 1 ∧ v = .int .i64 k ∧ v6 = .slice C (j * (d + 1) + k) c6 ∧ Hp w [.row A34 (d + 1) c34 39 3 (bR NR.cells (ko d)), .blk b8 39 [.bool (nR (nD x)).neg, .string (nR (nD x)).ct, .int .i64 (nR (nD x)).e] (0, 0), .row C (j * (d + 1) + k) c6 39 3 (bR NR.cells ((wS ds d j ++ ((mb d).take k).map (x * ·)).map fun k => nR (nD k))), .row (some ⟨go, 0, none⟩) N c3 39 3 (bR NR.cells (vc ds))] w')
      (fun _ v _ => d + 1 - (intOf v).toNat) ?_ ?_
     ·refine ⟨0, c6, C, Nat.zero_le _, rfl, rfl, ?_⟩
      rw [List.take_zero, List.map_nil, List.append_nil]
      exact hh
     ·clear hh
      rintro ρ3 v6 v w3 ⟨k, c6, C, hk, rfl, rfl, hh⟩
      by_cases hkd : k < d + 1
      ·have hb1 := pJ (n := d) (k := k) (by omega)
       have hb2 := jZ (n := d) (k := k) (by omega)
       have zb := rU d k hd127
       have hmul := fun A cc w1 hT1 hS1 => kn A 2 cc [nR (nD x), nR (nD (bin d k))] w1 hT1 hS1 (by simpa using ⟨zx.ok (by omega), zb.ok (by omega)⟩) 1600 (by simpa [gn] using ⟨zx, zb.mono (by omega)⟩) (by omega) (by omega)
       rw [show iz ([nR (nD x), nR (nD (bin d k))].map NR.d) = nD (x * bin d k) by rw [vh]; show 1 * (nR (nD x)).d * (nR (nD (bin d k))).d = _; rw [gn, gn, Dyadic.one_mul]] at hmul
       obtain ⟨ga, rfl⟩ := hh.dw (i := 0) rfl (by omega)
       refine sr ?_
       refine aJ (aa (ah (cT (ak (ai (ah (aj (sr ?_))))))))
       refine bk (k := k) aG.out aD.size rfl rfl (by omega) (by omega) (by decide) ?_
       refine cK (vs := [_, _, _]) aD.out rfl (hh.fZ (f := NR.cells) (x := nR (nD (bin d k))) (l := ko d) (i := 0) rfl NR.len (by decide) hb2) rfl (by decide) ?_
       refine cG hh ?_
       intro b10 w10 hh
       refine bP hh 0 [_,_,_] ?_
       intro ws hh
       replace hh : Hp _ (.blk _ _ [_, _, _] _ :: _) _ := hh
       refine aa (ao (mL ?_))
       refine cz hh 2 [_,_,_] ?_
       refine cz hh 0 [_,_,_] ?_
       refine aK hh (cs := [_, _, _, _, _, _]) aG.out aD.out (aQ (cA rfl) (aQ (cA rfl) bF)) rfl rfl (by decide) (by decide) (by decide) rfl (by decide) ?_
       intro b43 w43 hh
       refine bH hh (hmul _ _ _ (hT.hp hh) (hh.aW (i := 0) rfl)) rfl ?_
       intro w44 hh
       refine aK hh (cs := [_, _, _]) aG.out aD.out (aQ (cA rfl) bF) rfl rfl (by decide) (by decide) (by decide) rfl (by decide) ?_
       intro b45 w45 hh
       refine cv hh (i := 5) rfl rfl rfl (hh.aW (i := 0) rfl) aG.out aD.out rfl (by decide) (by first | rfl | exact cq _ | exact bX _ | exact bD _ | exact bW NR.one _) (by omega) (by omega) (by decide) ?_
       intro A46 c46 w46 hh
       simp only [List.set_cons_zero, List.set_cons_succ] at hh
       replace hh := hh.sub (List.sublist_cons_self _ _)
       refine aL (aE (aZ (ai (ao ?_))))
       refine bu (mI (aE (ai ?_)))
       replace hh := hh.sub (List.Sublist.cons _ (List.Sublist.cons _ (List.Sublist.cons_cons _ (List.Sublist.cons_cons _ (List.Sublist.cons_cons _ (List.Sublist.cons_cons _ List.Sublist.slnil))))))
       refine ⟨⟨k + 1, c46, A46, by omega, rfl, rfl, ?_⟩, by show d + 1 - (k + 1) < d + 1 - k; omega, ?_⟩
       ·have e : (wS ds d j ++ ((mb d).take (k + 1)).map (x * ·)).map (fun k => nR (nD k)) = (wS ds d j ++ ((mb d).take k).map (x * ·)).map (fun k => nR (nD k)) ++ [nR (nD (x * bin d k))] := by rw [aO hb1]; simp
        rw [e, dk]
        exact hh
       ·(repeat (first | exact av _ _ _ | refine aC rfl ?_ | refine ar rfl ?_))
      ·obtain rfl : k = d + 1 := by omega
       rw [List.take_of_length_le (by rw [nq]; omega), ← vT hx] at hh
       refine sr ?_
       refine aJ (aa (ah (cF ?_)))
       refine aP ?_
       refine aw (aw (bj (aZ (ai (ao ?_)))))
       refine bu (mI (aE (ai ?_)))
       replace hh := hh.sub (List.Sublist.cons _ (List.Sublist.cons _ (List.Sublist.cons_cons _ (List.Sublist.cons_cons _ List.Sublist.slnil))))
       refine ⟨⟨j + 1, c6, C, by omega, rfl, ?_, ?_⟩, by show N - (j + 1) < N - j; omega, ?_⟩
       ·rw [Nat.succ_mul]; rfl
       ·rw [Nat.succ_mul]; exact hh
       ·(repeat (first | exact av _ _ _ | refine aC rfl ?_ | refine ar rfl ?_))
    ·obtain rfl : j = N := by omega
     rw [← hsnoc, ← hstep] at hh
     rw [← hstep]
     refine sr ?_
     refine aJ (aa (ah (cF ?_)))
     refine aP ?_
     refine aw (aw (bj (ai (ao (mL (aL (aE (aZ (ai (ao ?_))))))))))
     refine bu (mI (aE (ai ?_)))
     replace hh := hh.sub (List.Sublist.cons_cons _ (List.Sublist.cons _ List.Sublist.slnil))
     refine ⟨⟨i + 1, c6, C, by omega, rfl, rfl, hh⟩, by show n - (i + 1) < n - i; omega, ?_⟩
     (repeat (first | exact av _ _ _ | refine aC rfl ?_ | refine ar rfl ?_))
  ·obtain rfl : i = n := by omega
   rw [List.take_of_length_le (by omega)] at hh ⊢
   refine sr ?_
   refine aJ (aa (ah (cF ?_)))
   refine aP ?_
   refine aw (aw (bj (ai (sr (mL (aL (aa (aq ?_))))))))
   refine cu ?_
   exact ⟨_, _, rfl, hh.at_ (i := 0) rfl, hh.below⟩
end Go.Proofs.YtioilmppidlbnaaGreatDoor
/- Plain laws: values of forms. No program in sight. -/
namespace Go.Proofs.YtioilmppidlbnaaGreatDoor
def zM (d r : Nat) (t : Dyadic) : Dyadic := t ^ r * (1 - t) ^ (d - r)
def Ac : List Nat → List Nat → List Dyadic → Dyadic
 | d :: ds, r :: rs, t :: ts => zM d r t * Ac ds rs ts
 | _, _, _ => 1
def AY (ds : List Nat) (xs : List Dyadic) (ts : List Dyadic) : Dyadic := sm (List.range (ay ds)) fun p => (xs[p]?).getD 0 * Ac ds (bV ds p) ts
def Af (d : Nat) (t : Dyadic) (m : Nat) (xs : List Dyadic) : List Dyadic := (List.range m).map fun q => sm (List.range (d + 1)) fun r => (xs[r + (d + 1) * q]?).getD 0 * zM d r t
def zQ : List Nat → List Dyadic → List Dyadic → List Dyadic
 | d :: ds, t :: ts, xs => zQ ds ts (Af d t (ay ds) xs)
 | _, _, xs => xs
end Go.Proofs.YtioilmppidlbnaaGreatDoor
/- Plain laws: forms changed along an axis; both parts of a form that is cut. No program in sight. -/
namespace Go.Proofs.YtioilmppidlbnaaGreatDoor
def sR : List Nat → (List Nat → Dyadic) → Dyadic
 | [], F => F []
 | d :: ds, F => sm (List.range (d + 1)) fun r => sR ds fun row => F (r :: row)
def An (ds : List Nat) (a : Nat) (M : Nat → Nat → Dyadic) (xs : List Dyadic) : List Dyadic :=
 (List.range (ay ds)).map fun p => sm (List.range (ds.getD a 0 + 1)) fun i => co ds xs ((bV ds p).set a i) * M i ((bV ds p).getD a 0)
def AW (d : Nat) (s : Dyadic) (i k : Nat) : Dyadic := if k < i then 0 else nD (bin (d - i) (k - i)) * s ^ i * (1 - s) ^ (k - i)
def AX (d : Nat) (s : Dyadic) (i k : Nat) : Dyadic := if i < k then 0 else nD (bin i (i - k)) * s ^ (i - k) * (1 - s) ^ (d - i)
end Go.Proofs.YtioilmppidlbnaaGreatDoor
/- Plain laws: the lines of a form along an axis, by places. No program in sight. -/
namespace Go.Proofs.YtioilmppidlbnaaGreatDoor
theorem lU : ∀ {A B x y : List Nat}, x.length = A.length → db (A ++ B) (x ++ y) = db A x + ay A * db B y
 | [], B, [], y, _ => by rw [List.nil_append, List.nil_append, ay, Nat.one_mul]; show _ = 0 + _; rw [Nat.zero_add]
 | d :: A, B, r :: x, y, h => by
  rw [List.cons_append, List.cons_append, db, db, ay, lU (by simpa using h), Nat.mul_add, Nat.mul_assoc, Nat.add_assoc]
section
variable {A B : List Nat} {d : Nat}
def zK (A : List Nat) (d f k q : Nat) : Nat := f + ay A * (k + (d + 1) * q)
def AJ (A : List Nat) (d : Nat) (xs : List Dyadic) (f q : Nat) : List Dyadic := (List.range (d + 1)).map fun i => (xs[zK A d f i q]?).getD 0
end
end Go.Proofs.YtioilmppidlbnaaGreatDoor
/- The walks through package lift: sizes, places. -/
namespace Go.Proofs.YtioilmppidlbnaaGreatDoor
open Go.RowKit
theorem qL (A : Option Addr) (n c : Nat) (ns : List Nat) (w : World) (hS : Sl w A n 1 (bA (bf ns))) (hn : n ≤ 1000) (hlow : ∀ d ∈ ns, d ≤ 255) (hmax : ay ns ≤ 1000000) :
  Calls Tryz.prog 108 #[.slice A n c] w fun r w' => r = .returned (.int .i64 (ay ns : Nat)) ∧ Below w.heap.size w w' := by
 have hh := Hp.start w
 have hln : ns.length = n := by have := hS.1; simpa [bA, bf] using this
 refine al (N := 18) (l := [.slice A n c]) Tryz.func108 rfl rfl (by simp) ?_
 refine sr (aI (aa (sr (aI (aa (ah (sr (mL (aV (mI (aa ?_)))))))))))
 refine aj ?_
 refine bY [3, 5, 8, 9, 10, 11, 12, 13, 14, 15, 16] 3 8
  (fun v3 v w' => ∃ i : Nat, i ≤ n ∧ v = .int .i64 i ∧ v3 = .int .i64 (ay (ns.take i) : Nat) ∧ Hp w [] w')
  (fun _ v _ => n - (intOf v).toNat) ?_ ?_
 ·exact ⟨0, Nat.zero_le _, rfl, rfl, hh⟩
 ·clear hh
  rintro ρ' v3 v w' ⟨i, hi, rfl, rfl, hh⟩
  by_cases hlt : i < n
  ·obtain ⟨d, hd⟩ := au (l := ns) (k := i) (by omega)
   have hgi := bG (cZ hd)
   have hd2 := hlow d (List.mem_of_getElem? hd)
   obtain ⟨ad, rfl, hr⟩ := hS.at_ (by omega)
   have hct := eU ns (i + 1)
   have hct2 := eU ns i
   have hstep : ay (ns.take (i + 1)) = ay (ns.take i) * (d + 1) := by rw [aO hd, fO]; simp [ay]
   have e1 : ((ay (ns.take i) : Nat) : Int) * ((d : Int) + 1) = ((ay (ns.take (i + 1)) : Nat) : Int) := by rw [hstep, Int.natCast_mul, Int.natCast_add]; rfl
   refine sr ?_
   refine aJ (aa (ah (cT (ak (ai (ah (aj (sr ?_))))))))
   refine aF (k := i) aG.out aD.size rfl rfl (by omega) (by omega) (by decide) ?_
   refine aM aD.out rfl ((hr.ext hh.below).ea hgi) (by decide) ?_
   refine aI (aa (ao (mI (mI ?_))))
   refine bu ?_
   refine mulC (aI (aE (aZ (ai (ao ?_)))))
   refine bu (mI (aE (ai ?_)))
   rw [e1]
   refine ⟨⟨i + 1, by omega, rfl, rfl, hh⟩, by show n - (i + 1) < n - i; omega, ?_⟩
   (repeat (first | exact av _ _ _ | refine aC rfl ?_ | refine ar rfl ?_))
  ·refine sr ?_
   refine aJ (aa (ah (cF ?_)))
   refine aP ?_
   refine aw (aw (bj (ai (sr (mI (aI (aa (aq ?_))))))))
   refine cu ?_
   rw [List.take_of_length_le (by omega)]
   exact ⟨rfl, hh.below⟩
def iX (ns : List Nat) : Bool := ns.any (fun d => decide (127 < d)) || decide (4096 < ay ns)
theorem mC (A : Option Addr) (n c : Nat) (ns : List Nat) (w : World) (hS : Sl w A n 1 (bA (bf ns))) (hn : n ≤ 1000) (hlow : ∀ d ∈ ns, d ≤ 1000) :
  Calls Tryz.prog 59 #[.slice A n c] w fun r w' => r = .returned (.bool (iX ns)) ∧ Below w.heap.size w w' := by
 have hh := Hp.start w
 have hln : ns.length = n := by have := hS.1; simpa [bA, bf] using this
 refine al (N := 26) (l := [.slice A n c]) Tryz.func59 rfl rfl (by simp) ?_
 refine sr (aB (aa (sr (aI (aa (ah (sr (mL (aV (mI (aa ?_)))))))))))
 refine aj ?_
 refine bY [2, 3, 5, 8, 9, 10, 11, 12, 13, 14, 15, 16, 17, 18, 19, 20, 21, 22, 23, 24, 25] 3 8
  (fun v3 v w' => ∃ i : Nat, i ≤ n ∧ v = .int .i64 i ∧ v3 = .int .i64 (ay (ns.take i) : Nat) ∧ ay (ns.take i) ≤ 4096 ∧ (ns.take i).any (fun d => decide (127 < d)) = false ∧ Hp w [] w')
  (fun _ v _ => n - (intOf v).toNat) ?_ ?_
 ·exact ⟨0, Nat.zero_le _, rfl, rfl, by show 1 ≤ 4096; decide, rfl, hh⟩
 ·clear hh
  rintro ρ' v3 v w' ⟨i, hi, rfl, rfl, hmx, hall, hh⟩
  by_cases hlt : i < n
  ·obtain ⟨d, hd⟩ := au (l := ns) (k := i) (by omega)
   have hgi := bG (cZ hd)
   have hd2 := hlow d (List.mem_of_getElem? hd)
   obtain ⟨ad, rfl, hr⟩ := hS.at_ (by omega)
   have hct := eU ns (i + 1)
   have hstep : ay (ns.take (i + 1)) = ay (ns.take i) * (d + 1) := by rw [aO hd, fO]; simp [ay]
   have hpb : ay (ns.take i) * (d + 1) ≤ 4096 * 1001 := Nat.mul_le_mul hmx (by omega)
   have e1 : ((ay (ns.take i) : Nat) : Int) * ((d : Int) + 1) = ((ay (ns.take (i + 1)) : Nat) : Int) := by rw [hstep, Int.natCast_mul, Int.natCast_add]; rfl
   by_cases h1 : 127 < d
   ·refine sr ?_
    refine aJ (aa (ah (cT (ak (ai (ah (aj (sr ?_))))))))
    refine aF (k := i) aG.out aD.size rfl rfl (by omega) (by omega) (by decide) ?_
    refine aM aD.out rfl ((hr.ext hh.below).ea hgi) (by decide) ?_
    refine aI (aa (ah (sr (mI ?_))))
    refine bT (mB ?_)
    first | refine gS ?_ | (refine gT ?_; refine mI ?_) | refine gV ?_
    first | refine gS ?_ | (refine gT ?_; refine mI ?_) | refine gV ?_
    first | refine gS ?_ | (refine gT ?_; refine bu ?_) | refine gV ?_
    first | refine gS ?_ | (refine gT ?_; refine mulC ?_) | refine gV ?_
    first | refine gS ?_ | (refine gT ?_; refine bT ?_) | refine gV ?_
    first | refine cQ ?_ | refine cP ?_
    refine aa (cT (sr (aB (aa (aq (aH (bM (aH (aH (bM (aH ?_)))))))))))
    refine cu ?_
    refine ⟨?_, hh.below⟩
    unfold iX
    rw [List.any_eq_true.2 ⟨d, List.mem_of_getElem? hd, decide_eq_true h1⟩]
    rfl
   ·by_cases h2 : 4096 < ay (ns.take (i + 1))
    ·refine sr ?_
     refine aJ (aa (ah (cT (ak (ai (ah (aj (sr ?_))))))))
     refine aF (k := i) aG.out aD.size rfl rfl (by omega) (by omega) (by decide) ?_
     refine aM aD.out rfl ((hr.ext hh.below).ea hgi) (by decide) ?_
     refine aI (aa (ah (sr (mI ?_))))
     refine bT (mB ?_)
     first | refine gS ?_ | (refine gT ?_; refine mI ?_) | refine gV ?_
     first | refine gS ?_ | (refine gT ?_; refine mI ?_) | refine gV ?_
     first | refine gS ?_ | (refine gT ?_; refine bu ?_) | refine gV ?_
     first | refine gS ?_ | (refine gT ?_; refine mulC ?_) | refine gV ?_
     first | refine gS ?_ | (refine gT ?_; refine bT ?_) | refine gV ?_
     first | refine cQ ?_ | refine cP ?_
     refine aa (cT (sr (aB (aa (aq (aH (bM (aH (aH (bM (aH ?_)))))))))))
     refine cu ?_
     refine ⟨?_, hh.below⟩
     unfold iX
     rw [decide_eq_true (show 4096 < ay ns by omega), Bool.or_true]
    ·refine sr ?_
     refine aJ (aa (ah (cT (ak (ai (ah (aj (sr ?_))))))))
     refine aF (k := i) aG.out aD.size rfl rfl (by omega) (by omega) (by decide) ?_
     refine aM aD.out rfl ((hr.ext hh.below).ea hgi) (by decide) ?_
     refine aI (aa (ah (sr (mI ?_))))
     refine bT (mB ?_)
     first | refine gS ?_ | (refine gT ?_; refine mI ?_) | refine gV ?_
     first | refine gS ?_ | (refine gT ?_; refine mI ?_) | refine gV ?_
     first | refine gS ?_ | (refine gT ?_; refine bu ?_) | refine gV ?_
     first | refine gS ?_ | (refine gT ?_; refine mulC ?_) | refine gV ?_
     first | refine gS ?_ | (refine gT ?_; refine bT ?_) | refine gV ?_
     first | refine cQ ?_ | refine cP ?_
     refine aa (cF (ak (ai (ao (mI (mI ?_))))))
     refine bu ?_
     refine mulC (aI (aE (aZ (ai (ao ?_)))))
     refine bu (mI (aE (ai ?_)))
     rw [e1]
     refine ⟨⟨i + 1, by omega, rfl, rfl, by omega, ?_, hh⟩, by show n - (i + 1) < n - i; omega, ?_⟩
     ·rw [aO hd, List.any_append, hall, List.any_cons, List.any_nil, decide_eq_false h1]; rfl
     ·(repeat (first | exact av _ _ _ | refine aC rfl ?_ | refine ar rfl ?_))
  ·rw [List.take_of_length_le (by omega)] at hmx hall
   refine sr ?_
   refine aJ (aa (ah (cF ?_)))
   refine aP ?_
   refine aw (aw (bj (ai (sr (aB (aa (aq ?_)))))))
   refine cu ?_
   refine ⟨?_, hh.below⟩
   unfold iX
   rw [hall, decide_eq_false (by omega)]
   rfl
theorem ph {α : Type} {l : List α} {n k : Nat} (hl : l.length = n) (hk : k < n) : l[n - 1 - k]? = l.reverse[k]? := by rw [List.getElem?_reverse (by omega), hl]
theorem uP : ∀ {X Y : List Nat} {d r : Nat}, X.length = Y.length → db (X ++ [d]) (Y ++ [r]) = db X Y + ay X * r := fun {X Y d r} h => by
 rw [lU h.symm]
 simp [db]
theorem iF (X : List Nat) (d : Nat) : ay (X ++ [d]) = ay X * (d + 1) := by rw [fO]; simp [ay]
theorem pF : ∀ {R : List Nat} {k d : Nat} (p : Nat), R[k]? = some d → (bV R p)[k]? = some (p / ay (R.take k) % (d + 1))
 | [], _, _, _, h => by simp at h
 | e :: R, 0, d, p, h => by
  obtain rfl : e = d := by simpa using h
  show some (p % (e + 1)) = _
  rw [List.take_zero, ay, Nat.div_one]
 | e :: R, k + 1, d, p, h => by
  show (bV R (p / (e + 1)))[k]? = _
  rw [pF (p / (e + 1)) (by simpa using h), List.take_succ_cons, ay, Nat.div_div_eq_div_mul]
theorem tw : ∀ {a b : List Nat} {k x y : Nat}, a[k]? = some x → b[k]? = some y → (cB a b)[k]? = some (x + y)
 | [], _, _, _, _, h, _ => by simp at h
 | _ :: _, [], _, _, _, _, h => by simp at h
 | p :: a, q :: b, 0, x, y, h1, h2 => by
  obtain rfl : p = x := by simpa using h1
  obtain rfl : q = y := by simpa using h2
  rfl
 | p :: a, q :: b, k + 1, x, y, h1, h2 => by
  show (cB a b)[k]? = _
  exact tw (by simpa using h1) (by simpa using h2)
theorem qU : ∀ {ds rs : List Nat} (k : Nat), im ds rs → im (ds.take k) (rs.take k)
 | [], [], _, _ => by simp [im]
 | _ :: _, _ :: _, 0, _ => trivial
 | d :: ds, r :: rs, k + 1, h => ⟨h.1, qU k h.2⟩
theorem mY : ∀ {ds rs : List Nat} {k d r : Nat}, im ds rs → ds[k]? = some d → rs[k]? = some r → r ≤ d
 | [], _, _, _, _, _, h, _ => by simp at h
 | _ :: _, [], _, _, _, _, _, h => by simp at h
 | d :: ds, r :: rs, 0, _, _, h, h1, h2 => by
  simp only [List.getElem?_cons_zero, Option.some.injEq] at h1 h2
  subst h1 h2
  exact h.1
 | d :: ds, r :: rs, k + 1, _, _, h, h1, h2 => mY (k := k) h.2 (by simpa using h1) (by simpa using h2)
theorem pw (F T Y : Option Addr) (n c1 c2 c3 : Nat) (ns ts js : List Nat) (p : Nat) (w : World) (hF : Sl w F n 1 (bA (bf ns))) (hT : Sl w T n 1 (bA (bf ts))) (hY : Sl w Y n 1 (bA (bf js)))
  (hn : n ≤ 1000) (hok : im ts.reverse (cB (bV ns.reverse p) js.reverse)) (hmax : ay ts ≤ 1000000) (hns : ∀ d ∈ ns, d ≤ 1000) (hts : ∀ d ∈ ts, d ≤ 1000) (hp : p ≤ 1000000) :
  Calls Tryz.prog 111 #[.slice F n c1, .slice T n c2, .slice Y n c3, .int .i64 p] w fun r w' => r = .returned (.int .i64 (db ts.reverse (cB (bV ns.reverse p) js.reverse) : Nat)) ∧ Below w.heap.size w w' := by
 have hh := Hp.start w
 have hl1 : ns.length = n := by have := hF.1; simpa [bA, bf] using this
 have hl2 : ts.length = n := by have := hT.1; simpa [bA, bf] using this
 have hl3 : js.length = n := by have := hY.1; simpa [bA, bf] using this
 generalize hrow : cB (bV ns.reverse p) js.reverse = row at *
 have hrl : row.length = n := by rw [← hrow, na (by rw [eB, List.length_reverse, List.length_reverse, hl1, hl3]), eB, List.length_reverse, hl1]
 refine al (N := 52) (l := [.slice F n c1, .slice T n c2, .slice Y n c3, .int .i64 p]) Tryz.func111 rfl rfl (by simp) ?_
 refine sr (aI (aa (sr (aI (aI (aa (ah (sr (mL (aV ?_))))))))))
 refine eT (aI (aa (aj ?_)))
 refine vH [3, 9, 10, 11, 12, 16, 17, 18, 19, 20, 21, 22, 23, 24, 25, 26, 27, 28, 29, 30, 31, 32, 33, 34, 35, 36, 37, 38, 39, 40, 41, 42, 43, 44, 45, 46, 47, 48, 49, 50] 3 9 10 11
  (fun v3 v9 v10 v w' => ∃ k : Nat, k ≤ n ∧ v = .int .i64 ((n : Int) - 1 - k) ∧ v3 = .int .i64 (p / ay (ns.reverse.take k) : Nat) ∧ v9 = .int .i64 (db (ts.reverse.take k) (row.take k) : Nat) ∧ v10 = .int .i64 (ay (ts.reverse.take k) : Nat) ∧ Hp w [] w')
  (fun _ _ _ v _ => (intOf v + 1).toNat) ?_ ?_
 ·refine ⟨0, Nat.zero_le _, ?_, ?_, rfl, rfl, hh⟩
  ·exact congrArg (Value.int IntKind.i64) (show (n : Int) - 1 = (n : Int) - 1 - (0 : Nat) by omega)
  ·rw [List.take_zero, ay, Nat.div_one]; rfl
 ·clear hh
  rintro ρ' v3 v9 v10 v w' ⟨k, hk, rfl, rfl, rfl, rfl, hh⟩
  by_cases hlt : k < n
  ·obtain ⟨d, hd⟩ := au (l := ns.reverse) (k := k) (by rw [List.length_reverse]; omega)
   obtain ⟨t, ht⟩ := au (l := ts.reverse) (k := k) (by rw [List.length_reverse]; omega)
   obtain ⟨j, hj⟩ := au (l := js.reverse) (k := k) (by rw [List.length_reverse]; omega)
   have hd' := ph hl1 hlt
   have ht' := ph hl2 hlt
   have hj' := ph hl3 hlt
   rw [hd] at hd'
   rw [ht] at ht'
   rw [hj] at hj'
   have hgd := bG (cZ hd')
   have hgt := bG (cZ ht')
   have hgj := bG (cZ hj')
   have hd2 := hns d (List.mem_of_getElem? hd')
   have ht2 := hts t (List.mem_of_getElem? ht')
   have hr : row[k]? = some (p / ay (ns.reverse.take k) % (d + 1) + j) := by rw [← hrow]; exact tw (pF p hd) hj
   have hrt := mY hok ht hr
   have hcp := eA (ns.reverse.take k)
   have hq : p / ay (ns.reverse.take k) ≤ p := Nat.div_le_self _ _
   have hct := eU ts.reverse (k + 1)
   rw [dm, aO ht, iF] at hct
   have hck : ay (ts.reverse.take k) * 1 ≤ ay (ts.reverse.take k) * (t + 1) := Nat.mul_le_mul_left _ (by omega)
   have hhl : db (ts.reverse.take k) (row.take k) < ay (ts.reverse.take k) := iO (qU k hok)
   have e1 : ((p / ay (ns.reverse.take k) : Nat) : Int) % ((d : Int) + 1) = ((p / ay (ns.reverse.take k) % (d + 1) : Nat) : Int) := by rw [Int.natCast_emod]; rfl
   have e2 : ((p / ay (ns.reverse.take k) : Nat) : Int) / ((d : Int) + 1) = ((p / ay (ns.reverse.take (k + 1)) : Nat) : Int) := by rw [aO hd, iF, ← Nat.div_div_eq_div_mul, Int.natCast_ediv]; rfl
   have hst : db (ts.reverse.take (k + 1)) (row.take (k + 1)) = db (ts.reverse.take k) (row.take k) + ay (ts.reverse.take k) * (p / ay (ns.reverse.take k) % (d + 1) + j) := by rw [aO ht, aO hr, uP (by rw [List.length_take, List.length_take, List.length_reverse, hl2, hrl])]
   have e3 : (((p / ay (ns.reverse.take k) % (d + 1) : Nat) : Int) + (j : Int)) * ((ay (ts.reverse.take k) : Nat) : Int) = ((ay (ts.reverse.take k) * (p / ay (ns.reverse.take k) % (d + 1) + j) : Nat) : Int) := by rw [Nat.mul_comm, Int.natCast_mul, Int.natCast_add]
   have e4 : ((ay (ts.reverse.take k) : Nat) : Int) * ((t : Int) + 1) = ((ay (ts.reverse.take (k + 1)) : Nat) : Int) := by rw [aO ht, iF, Int.natCast_mul, Int.natCast_add]; rfl
   have hb3 : ay (ts.reverse.take k) * (p / ay (ns.reverse.take k) % (d + 1) + j) ≤ ay (ts.reverse.take k) * (t + 1) := Nat.mul_le_mul_left _ (by omega)
   have hc5 : ay (ts.reverse.take (k + 1)) = ay (ts.reverse.take k) * (t + 1) := by rw [aO ht, iF]
   generalize p / ay (ns.reverse.take k) = q at *
   generalize q % (d + 1) = m at *
   generalize ay (ts.reverse.take k) = C at *
   generalize db (ts.reverse.take k) (row.take k) = Hh at *
   obtain ⟨a1, rfl, s1⟩ := hF.at_ (by omega)
   obtain ⟨a2, rfl, s2⟩ := hT.at_ (by omega)
   obtain ⟨a3, rfl, s3⟩ := hY.at_ (by omega)
   refine ah (sr (mI ?_))
   refine dT (aa (cT (ak (ai (ah (aj (ah ?_)))))))
   refine aN 11 [[(3, none)], [(0, none)], [(11, none)], [(21, some 1), (22, some 2)], [(23, some 3)], [(24, some 4)], [(20, some 0), (25, some 5)], [(2, none)], [(11, none)], [(27, some 7), (28, some 8)], [(29, some 9)]] [(10, 30), (9, 29), (8, 28), (7, 27), (6, 26), (5, 25), (4, 24), (3, 23), (2, 22), (1, 21), (0, 20)] hh mixed (by kernel_rfl) ?_
   refine dD ?_
   refine fk ?_
   refine dD ?_
   refine iK ((n - 1 - k)) ?_
   refine aU (i := 4) (fun ρ1 w1 hj hR => cx aD.out (show ρ1 23 = Value.pointer _ from hR.1) ((s1.ext hj.hp.below).ea (by assumption))) ?_
   refine qt ?_
   refine aU (i := 6) (fun ρ1 w1 hj hR => kr (show ρ1 20 = Value.int _ _ from hR.1) (show ρ1 25 = Value.int _ _ from hR.2.1) (by omega) (by omega)) ?_
   refine fk ?_
   refine dD ?_
   refine iK ((n - 1 - k)) ?_
   refine aU (i := 10) (fun ρ1 w1 hj hR => cx aD.out (show ρ1 29 = Value.pointer _ from hR.1) ((s3.ext hj.hp.below).ea (by assumption))) ?_
   refine bo ?_
   intro f W hJ hV
   have hb_5 := hJ.bl
   obtain ⟨v30, v29, v28, v27, v26, v25, v24, v23, v22, v21, v20, _⟩ := hV
   replace hh := hJ.hp
   refine aY (bm (ae v30 (ae v29 (ae v28 (ae v27 (ae v26 (ae v25 (ae v24 (ae v23 (ae v22 (ae v21 (ae v20 aX)))))))))))) ?_
   dsimp only [cj]
   clear hJ
   rw [e1]
   refine bu (aI (aa (sr (mI (mL (mI ?_))))))
   refine aF (k := (n - 1 - k)) aG.out aD.size rfl rfl (by omega) (by omega) (by decide) ?_
   refine aM aD.out rfl ((s1.ext hh.below).ea (by assumption)) (by decide) ?_
   refine bu ?_
   refine gU rfl rfl (by omega) (by omega) (by omega) (by decide) ?_
   refine aI (aa (sr (mI (mI (mI ?_)))))
   refine mulC ?_
   refine bu (aI (aa (ao (mI (mL (mI ?_))))))
   refine aF (k := (n - 1 - k)) aG.out aD.size rfl rfl (by omega) (by omega) (by decide) ?_
   refine aM aD.out rfl ((s2.ext hh.below).ea (by assumption)) (by decide) ?_
   refine bu ?_
   refine mulC (aI (aE (aZ (ai (ao (mI ?_))))))
   refine eT (aI (aE (ai ?_)))
   refine ⟨⟨k + 1, by omega, ?_, ?_, ?_, ?_, hh⟩, by show ((n : Int) - 1 - (k : Int) - 1 + 1).toNat < ((n : Int) - 1 - (k : Int) + 1).toNat; omega, ?_⟩
   ·exact congrArg (Value.int IntKind.i64) (show (n : Int) - 1 - (k : Int) - 1 = (n : Int) - 1 - ((k + 1 : Nat) : Int) by omega)
   ·exact congrArg (Value.int IntKind.i64) e2
   ·exact congrArg (Value.int IntKind.i64) (show (Hh : Int) + ((m : Int) + (j : Int)) * (C : Int) = _ by rw [e3, hst, Int.natCast_add])
   ·exact congrArg (Value.int IntKind.i64) e4
   ·(repeat (first | exact av _ _ _ | refine aC rfl ?_ | refine ar rfl ?_))
  ·obtain rfl : k = n := by omega
   refine ah (sr (mI ?_))
   refine dT (aa (cF ?_))
   refine aP ?_
   refine aw (aw (bj (ai (sr (mI (aI (aa (aq ?_))))))))
   refine cu ?_
   rw [List.take_of_length_le (by rw [List.length_reverse]; omega), List.take_of_length_le (by omega)]
   exact ⟨rfl, hh.below⟩
end Go.Proofs.YtioilmppidlbnaaGreatDoor
/- The walks through package lift: indices, products. -/
namespace Go.Proofs.YtioilmppidlbnaaGreatDoor
open Go.RowKit
theorem eH {l : List Int} {k : Nat} (y : Int) (h : k < l.length) : cR (bA l) (k * 1) [.int .i64 y] = bA (l.set k y) := by
 rw [Nat.mul_one, cw (by rw [bK]; exact h)]
 unfold bA
 rw [List.map_set]
theorem kT (a : List Int) (x y : Int) (b : List Int) (n : Nat) (h : a.length = n) : (a ++ x :: b).set n y = a ++ y :: b := by
 subst h
 rw [List.set_append_right _ _ (Nat.le_refl _), Nat.sub_self, List.set_cons_zero]
theorem m4 (F : Option Addr) (n c1 : Nat) (ns : List Nat) (p : Nat) (w : World) (hF : Sl w F n 1 (bA (bf ns))) (hn : n ≤ 1000) (hns : ∀ d ∈ ns, d ≤ 1000) (hp : p ≤ 1000000) :
  Calls Tryz.prog 110 #[.slice F n c1, .int .i64 p] w fun r w' => ∃ A c', r = .returned (.slice A n c') ∧ w'.ownsRow w.heap.size 3 1 (.slice A n c') n (bA (bf (bV ns.reverse p).reverse)) ∧ Below w.heap.size w w' := by
 have hh := Hp.start w
 have hl1 : ns.length = n := by have := hF.1; simpa [bA, bf] using this
 have hdl : (bV ns.reverse p).length = n := by rw [eB, List.length_reverse, hl1]
 refine al (N := 35) (l := [.slice F n c1, .int .i64 p]) Tryz.func110 rfl rfl (by simp) ?_
 refine sr (aL (aa (sr (mL (aV ?_)))))
 refine fG (n := n) hh rfl rfl (by omega) (by omega) aG.out aD.out rfl (by omega) (by omega) (by decide) ?_
 intro b9 w9 hh
 refine aL (aa (ah (sr (mL (aV ?_)))))
 refine eT (aI (aa (aj ?_)))
 rw [show Value.int IntKind.i64 0 = Value.int IntKind.i64 0 from rfl] at hh
 have hzr : gf n [Value.int .i64 0] = bA (en n) := by rw [kV]; simp [bA, en]
 rw [hzr] at hh
 refine bY [1, 6, 13, 14, 15, 16, 17, 18, 19, 20, 21, 22, 23, 24, 25, 26, 27, 28, 29, 30, 31, 32, 33] 1 6
  (fun v1 v w' => ∃ k : Nat, k ≤ n ∧ v = .int .i64 ((n : Int) - 1 - k) ∧ v1 = .int .i64 (p / ay (ns.reverse.take k) : Nat) ∧ Hp w [.row (some ⟨b9, 0, none⟩) n n 3 1 (bA (en (n - k) ++ bf ((bV ns.reverse p).take k).reverse))] w')
  (fun _ v _ => (intOf v + 1).toNat) ?_ ?_
 ·refine ⟨0, Nat.zero_le _, ?_, ?_, ?_⟩
  ·exact congrArg (Value.int IntKind.i64) (show (n : Int) - 1 = (n : Int) - 1 - (0 : Nat) by omega)
  ·rw [List.take_zero, ay, Nat.div_one]; rfl
  ·rw [List.take_zero]; simpa [bf] using hh
 ·clear hh
  rintro ρ' v1 v w' ⟨k, hk, rfl, rfl, hh⟩
  by_cases hlt : k < n
  ·obtain ⟨d, hd⟩ := au (l := ns.reverse) (k := k) (by rw [List.length_reverse]; omega)
   have hd' := ph hl1 hlt
   rw [hd] at hd'
   have hgd := bG (cZ hd')
   have hd2 := hns d (List.mem_of_getElem? hd')
   have hdk := pF p hd
   have hq : p / ay (ns.reverse.take k) ≤ p := Nat.div_le_self _ _
   have e1 : ((p / ay (ns.reverse.take k) : Nat) : Int) % ((d : Int) + 1) = ((p / ay (ns.reverse.take k) % (d + 1) : Nat) : Int) := by rw [Int.natCast_emod]; rfl
   have e2 : ((p / ay (ns.reverse.take k) : Nat) : Int) / ((d : Int) + 1) = ((p / ay (ns.reverse.take (k + 1)) : Nat) : Int) := by rw [aO hd, iF, ← Nat.div_div_eq_div_mul, Int.natCast_ediv]; rfl
   have hlen : (en (n - k) ++ bf ((bV ns.reverse p).take k).reverse).length = n := by simp [en, bf, hdl]; omega
   have hil : (bA (en (n - k) ++ bf ((bV ns.reverse p).take k).reverse)).length = n := by rw [bK, hlen]
   generalize p / ay (ns.reverse.take k) = q at *
   obtain ⟨a1, rfl, s1⟩ := hF.at_ (by omega)
   refine ah (sr (mI ?_))
   refine dT (aa (cT (ak (ai (ah (aj (sr (mL (mI (mI (mL ?_)))))))))))
   refine mI ?_
   refine aF (k := (n - 1 - k)) aG.out aD.size rfl rfl (by omega) (by omega) (by decide) ?_
   refine aM aD.out rfl ((s1.ext hh.below).ea (by assumption)) (by decide) ?_
   refine bu ?_
   refine je rfl rfl (by omega) (by omega) (by decide) ?_
   refine bk (k := (n - 1 - k)) aG.out aD.size rfl rfl (by omega) (by omega) (by decide) ?_
   rw [e1]
   refine bz hh (i := 0) (vs := [_]) rfl rfl (bQ rfl) rfl aD.out rfl (by omega) rfl ?_
   intro ws hh
   simp only [List.set_cons_zero] at hh
   rw [eH _ (by omega)] at hh
   refine aa (ao (mI (mL (mI ?_))))
   refine aF (k := (n - 1 - k)) aG.out aD.size rfl rfl (by omega) (by omega) (by decide) ?_
   refine aM aD.out rfl ((s1.ext hh.below).ea (by assumption)) (by decide) ?_
   refine bu ?_
   refine gU rfl rfl (by omega) (by omega) (by omega) (by decide) ?_
   refine aI (aE (aZ (ai (ao (mI ?_)))))
   refine eT (aI (aE (ai ?_)))
   refine ⟨⟨k + 1, by omega, ?_, ?_, ?_⟩, by show ((n : Int) - 1 - (k : Int) - 1 + 1).toNat < ((n : Int) - 1 - (k : Int) + 1).toNat; omega, ?_⟩
   ·exact congrArg (Value.int IntKind.i64) (show (n : Int) - 1 - (k : Int) - 1 = (n : Int) - 1 - ((k + 1 : Nat) : Int) by omega)
   ·exact congrArg (Value.int IntKind.i64) e2
   ·have e5 : (en (n - k) ++ bf ((bV ns.reverse p).take k).reverse).set (n - 1 - k) ((q % (d + 1) : Nat) : Int) = en (n - (k + 1)) ++ bf ((bV ns.reverse p).take (k + 1)).reverse := by
     have hz : en (n - k) = en (n - (k + 1)) ++ [0] := by
      unfold en
      rw [show n - k = n - (k + 1) + 1 by omega, List.replicate_succ']
     rw [hz, List.append_assoc, List.singleton_append, kT _ _ _ _ _ (by rw [kM]; omega), aO hdk]
     simp [bf]
    rw [e5] at hh
    exact hh
   ·(repeat (first | exact av _ _ _ | refine aC rfl ?_ | refine ar rfl ?_))
  ·obtain rfl : k = n := by omega
   rw [List.take_of_length_le (by omega), Nat.sub_self] at hh
   refine ah (sr (mI ?_))
   refine dT (aa (cF ?_))
   refine aP ?_
   refine aw (aw (bj (ai (sr (mL (aL (aa (aq ?_))))))))
   refine cu ?_
   exact ⟨_, _, rfl, hh.at_ (i := 0) rfl, hh.below⟩
end Go.Proofs.YtioilmppidlbnaaGreatDoor
/- The walk through lift.times. -/
namespace Go.Proofs.YtioilmppidlbnaaGreatDoor
open Go.RowKit
def cI (a b : List Nat) : List Nat := List.zipWith (· + ·) a b
theorem gZ {a b : List Nat} (h : a.length = b.length) : (cI a b).length = a.length := by simp [cI, h]
theorem mn {a b : List Nat} {i x y : Nat} (h1 : a[i]? = some x) (h2 : b[i]? = some y) : (cI a b)[i]? = some (x + y) := by
 unfold cI
 rw [List.getElem?_zipWith, h1, h2]
theorem tx : ∀ (a b : List Nat), cB a b = cI a b
 | [], [] => rfl
 | [], _ :: _ => rfl
 | _ :: _, [] => rfl
 | x :: a, y :: b => by rw [cB, tx a b]; rfl
theorem kN {a b : List Nat} (h : a.length = b.length) : cB a.reverse b.reverse = (cI a b).reverse := by
 rw [tx]
 exact (List.reverse_zipWith h).symm
theorem uN {N : Nat} {L M : List (Nat × Dyadic)} (h : ∀ q ∈ M, q.2 = 0) : gy N (L ++ M) = gy N L := by
 unfold gy
 refine List.map_congr_left fun p _ => ?_
 rw [jK, lb (l := M) fun q hq => by rw [h q hq]; split <;> rfl]
 grind
theorem vK (N : Nat) : gf N [.bool false, .string (ByteArray.mk #[]), .int .i64 0] = bR NR.cells ((gy N []).map nR) := by
 rw [vO, List.map_replicate]
 induction N with
 | zero => rfl
 | succ n ih => rw [List.replicate_succ, gh, ← ih]; rfl
def ng (ds es : List Nat) (xs ys : List Dyadic) (k : Nat) : List (Nat × Dyadic) :=
 (List.range k).flatMap fun k => (List.range (ay ds)).map fun i => (db (cB ds es) (cB (bV ds i) (bV es k)), (xs[i]?).getD 0 * (ys[k]?).getD 0)
theorem mz (ds es : List Nat) (xs ys : List Dyadic) (k : Nat) : ng ds es xs ys (k + 1) = ng ds es xs ys k ++ (List.range (ay ds)).map fun i => (db (cB ds es) (cB (bV ds i) (bV es k)), (xs[i]?).getD 0 * (ys[k]?).getD 0) := by
 unfold ng
 rw [List.range_succ, List.flatMap_append, List.flatMap_singleton]
theorem tY (ds es : List Nat) (xs ys : List Dyadic) (k : Nat) : (ng ds es xs ys k).length = k * ay ds := by
 unfold ng
 rw [jB (m := ay ds) _ _ fun a _ => by simp, List.length_range]
theorem rQ {ds es : List Nat} {xs ys : List Dyadic} {k1 k2 : Nat} (hx : ∀ x ∈ xs, Sz k1 x) (hy : ∀ y ∈ ys, Sz k2 y) (k : Nat) : ∀ q ∈ ng ds es xs ys k, Sz (k1 + k2) q.2 := fun q hq => by
 unfold ng at hq
 obtain ⟨j, _, hq⟩ := List.mem_flatMap.1 hq
 obtain ⟨i, _, rfl⟩ := List.mem_map.1 hq
 refine Sz.mul ?_ ?_
 ·cases h : xs[i]? with
  | none => exact Sz.zero _
  | some x => exact hx x (List.mem_of_getElem? h)
 ·cases h : ys[j]? with
  | none => exact Sz.zero _
  | some y => exact hy y (List.mem_of_getElem? h)
theorem qF {ns ms : List Nat} (hl : ns.length = ms.length) (i k : Nat) : im (cI ns ms).reverse (cB (bV ns.reverse i) (bV ms.reverse k)) := by
 rw [← kN hl]
 exact o7 (hZ _ _) (hZ _ _) (by rw [List.length_reverse, List.length_reverse, hl])
def kb (ns ms : List Nat) (xs ys : List Dyadic) : List Dyadic := gy (ay (cI ns ms)) (ng ns.reverse ms.reverse xs ys (ay ms))
theorem ky (F FC G GC : Option Addr) (n c1 c2 c3 c4 : Nat) (ns ms : List Nat) (xs ys : List Dyadic) (k1 k2 : Nat) (w : World) (hT : gH w)
  (hF : Sl w F n 1 (bA (bf ns))) (hFC : Sl w FC (ay ns) 3 (bR NR.cells (xs.map nR))) (hG : Sl w G n 1 (bA (bf ms))) (hGC : Sl w GC (ay ms) 3 (bR NR.cells (ys.map nR)))
  (hn : n ≤ 12) (hns : ∀ d ∈ ns, d ≤ 127) (hms : ∀ d ∈ ms, d ≤ 127) (hN : ay (cI ns ms) ≤ 4096) (hM : ay ms * ay ns ≤ 1000000) (hx : ∀ x ∈ xs, Sz k1 x) (hy : ∀ y ∈ ys, Sz k2 y) (hk : k1 + k2 ≤ 100000) :
  Calls Tryz.prog 60 #[.agg #[.slice F n c1, .slice FC (ay ns) c2], .agg #[.slice G n c3, .slice GC (ay ms) c4]] w fun r w' => ∃ A a B b, r = .returned (.agg #[.slice A n a, .slice B (ay (cI ns ms)) b]) ∧ Hp w [.row B (ay (cI ns ms)) b 39 3 (bR NR.cells ((kb ns ms xs ys).map nR)), .row A n a 3 1 (bA (bf (cI ns ms)))] w' := by
 have hh := Hp.start w
 have hl1 : ns.length = n := by have := hF.1; simpa [bA, bf] using this
 have hl2 : ms.length = n := by have := hG.1; simpa [bA, bf] using this
 have hlx : xs.length = ay ns := by have := hFC.di NR.len (by decide); simpa using this
 have hly : ys.length = ay ms := by have := hGC.di NR.len (by decide); simpa using this
 have hpn := eA ns
 have hpm := eA ms
 have hMn : 1 * ay ns ≤ ay ms * ay ns := Nat.mul_le_mul_right _ hpm
 have hMm : ay ms * 1 ≤ ay ms * ay ns := Nat.mul_le_mul_left _ hpn
 obtain ⟨a4, rfl, s4⟩ := hGC.at_ hpm
 obtain ⟨a5, rfl, s5⟩ := hFC.at_ hpn
 have hla : (cI ns ms).length = n := by rw [gZ (by omega), hl1]
 have hadd : ∀ d ∈ cI ns ms, d ≤ 254 := fun d hd => by
  obtain ⟨i, hi⟩ := List.mem_iff_getElem?.1 hd
  have hi2 := (List.getElem?_eq_some_iff.1 hi).1
  obtain ⟨x, hx1⟩ := au (l := ns) (k := i) (by omega)
  obtain ⟨y, hy1⟩ := au (l := ms) (k := i) (by omega)
  rw [mn hx1 hy1] at hi
  have := hns x (List.mem_of_getElem? hx1)
  have := hms y (List.mem_of_getElem? hy1)
  have := Option.some.inj hi
  omega
 have hzr : gf n [Value.int .i64 0] = bA (en n) := by rw [kV]; simp [bA, en]
 refine al (N := 93) (l := [.agg #[.slice F n c1, .slice (some a5) (ay ns) c2], .agg #[.slice G n c3, .slice (some a4) (ay ms) c4]]) Tryz.func60 rfl rfl (by simp) ?_
 refine sr ?_
 refine cS hh [_,_] ?_
 intro b2 w2 hh
 refine cS hh [_,_] ?_
 intro b3 w3 hh
 refine cG hh ?_
 intro b4 w4 hh
 refine aa (sr (bJ ?_))
 refine bO hh 2 ?_
 refine aV ?_
 refine fG (n := n) hh rfl rfl (by omega) (by omega) aG.out aD.out rfl (by omega) (by omega) (by decide) ?_
 intro b16 w16 hh
 refine fh [_,_] ?_
 refine cG hh ?_
 intro b5 w5 hh
 refine bP hh 0 [_,_] ?_
 intro ws hh
 replace hh : Hp _ (.blk _ _ [_, _] _ :: _) _ := hh
 refine aa (ah (sr (bJ ?_)))
 refine bO hh 0 ?_
 refine aV (mI (aa (aj ?_)))
 rw [hzr] at hh
 refine bq [6, 21, 22, 23, 24, 25, 26, 27, 28, 29, 30, 31, 32, 33, 34, 35, 36, 37, 38, 39] 21
  (fun v w' => ∃ i : Nat, i ≤ n ∧ v = .int .i64 i ∧ Hp w [.blk b5 28 [.slice (some ⟨b16, 0, none⟩) n n, .slice none 0 0] (0, 0), .row (some ⟨b16, 0, none⟩) n n 3 1 (bA (bf ((cI ns ms).take i) ++ en (n - i))), .blk b4 28 [.slice none 0 0, .slice none 0 0] (0, 0), .blk b3 28 [.slice G n c3, .slice (some a4) (ay ms) c4] (0, 0), .blk b2 28 [.slice F n c1, .slice (some a5) (ay ns) c2] (0, 0)] w')
  (fun v _ => n - (intOf v).toNat) ?_ ?_
 ·exact ⟨0, Nat.zero_le _, rfl, hh⟩
 ·clear hh
  rintro ρ' v w' ⟨i, hi, rfl, hh⟩
  by_cases hlt : i < n
  ·obtain ⟨x, hx1⟩ := au (l := ns) (k := i) (by omega)
   obtain ⟨y, hy1⟩ := au (l := ms) (k := i) (by omega)
   have hgx := bG (cZ hx1)
   have hgy := bG (cZ hy1)
   have hxy := mn hx1 hy1
   have hx2 := hns x (List.mem_of_getElem? hx1)
   have hy2 := hms y (List.mem_of_getElem? hy1)
   have htl : (bf ((cI ns ms).take i)).length = i := by rw [cd, List.length_take]; omega
   have hil : (bA (bf ((cI ns ms).take i) ++ en (n - i))).length = n := by rw [bK, List.length_append, htl, kM]; omega
   obtain ⟨a1, rfl, s1⟩ := hF.at_ (by omega)
   obtain ⟨a2, rfl, s2⟩ := hG.at_ (by omega)
   refine sr ?_
   refine aJ (aa (ah (cT (ak (ai (ah (aj (sr (mI (aI (aa ?_)))))))))))
   refine aN 14 [[(5, none)], [(24, some 0)], [(6, none)], [(2, none)], [(27, some 3)], [(6, none)], [(28, some 4), (29, some 5)], [(30, some 6)], [(3, none)], [(32, some 8)], [(6, none)], [(33, some 9), (34, some 10)], [(35, some 11)], [(31, some 7), (36, some 12)]] [(13, 37), (12, 36), (11, 35), (10, 34), (9, 33), (8, 32), (7, 31), (6, 30), (5, 29), (4, 28), (3, 27), (2, 26), (1, 25), (0, 24)] hh mixed (by kernel_rfl) ?_
   refine dI ?_
   refine ef 0 ?_
   refine dD ?_
   refine dI ?_
   refine ef 4 ?_
   refine dD ?_
   refine iK (i) ?_
   refine aU (i := 7) (fun ρ1 w1 hj hR => cx aD.out (show ρ1 30 = Value.pointer _ from hR.1) ((s1.ext hj.hp.below).ea (by assumption))) ?_
   refine dI ?_
   refine ef 3 ?_
   refine dD ?_
   refine iK (i) ?_
   refine aU (i := 12) (fun ρ1 w1 hj hR => cx aD.out (show ρ1 35 = Value.pointer _ from hR.1) ((s2.ext hj.hp.below).ea (by assumption))) ?_
   refine qt ?_
   refine bo ?_
   intro f W hJ hV
   have hb_5 := hJ.bl
   obtain ⟨v37, v36, v35, v34, v33, v32, v31, v30, v29, v28, v27, v26, v25, v24, _⟩ := hV
   replace hh := hJ.hp
   refine aY (bm (ae v37 (ae v36 (ae v35 (ae v34 (ae v33 (ae v32 (ae v31 (ae v30 (ae v29 (ae v28 (ae v27 (ae v26 (ae v25 (ae v24 aX))))))))))))))) ?_
   dsimp only [cj]
   clear hJ
   refine bk (k := i) aG.out aD.size rfl rfl (by omega) (by omega) (by decide) ?_
   refine bz hh (i := 1) (vs := [_]) rfl rfl (bQ rfl) rfl aD.out rfl (by omega) rfl ?_
   intro ws hh
   simp only [List.set_cons_zero, List.set_cons_succ] at hh
   rw [eH _ (by rw [← bK, hil]; exact hlt)] at hh
   have e5 : (bf ((cI ns ms).take i) ++ en (n - i)).set i ((x : Int) + (y : Int)) = bf ((cI ns ms).take (i + 1)) ++ en (n - (i + 1)) := by
    have hz : en (n - i) = 0 :: en (n - (i + 1)) := by
     unfold en
     rw [show n - i = n - (i + 1) + 1 by omega, List.replicate_succ]
    rw [hz, kT _ _ _ _ _ htl, aO hxy]
    simp [bf]
   rw [e5] at hh
   refine aE (aZ (ai (ao ?_)))
   refine bu (mI (aE (ai ?_)))
   refine ⟨⟨i + 1, by omega, rfl, hh⟩, by show n - (i + 1) < n - i; omega, ?_⟩
   (repeat (first | exact av _ _ _ | refine aC rfl ?_ | refine ar rfl ?_))
  ·obtain rfl : i = n := by omega
   rw [List.take_of_length_le (by omega), Nat.sub_self] at hh
   replace hh : Hp w [.blk b5 28 [.slice (some ⟨b16, 0, none⟩) i i, .slice none 0 0] (0, 0), .row (some ⟨b16, 0, none⟩) i i 3 1 (bA (bf (cI ns ms))), .blk b4 28 [.slice none 0 0, .slice none 0 0] (0, 0), .blk b3 28 [.slice G i c3, .slice (some a4) (ay ms) c4] (0, 0), .blk b2 28 [.slice F i c1, .slice (some a5) (ay ns) c2] (0, 0)] w' := by
    have : bf (cI ns ms) ++ en 0 = bf (cI ns ms) := List.append_nil _
    rw [this] at hh
    exact hh
   have hsz := fun w1 hS1 => qL (some ⟨b16, 0, none⟩) i i (cI ns ms) w1 hS1 (by omega) (fun d hd => by have := hadd d hd; omega) (by omega)
   have hzr2 := vK (ay (cI ns ms))
   refine sr ?_
   refine aJ (aa (ah (cF ?_)))
   refine aP ?_
   refine aw (aw (bj (ai (sr (bJ ?_)))))
   refine bO hh 0 ?_
   refine bH hh (hsz _ (hh.aW (i := 1) rfl)) rfl ?_
   intro w42 hh
   refine fG (n := (ay (cI ns ms))) hh rfl rfl (by omega) (by omega) aG.out aD.out rfl (by omega) (by omega) (by decide) ?_
   intro b43 w43 hh
   refine bJ ?_
   refine bP hh 1 [_] ?_
   intro ws hh
   replace hh : Hp _ (_ :: .blk _ _ [_, _] _ :: _) _ := hh
   refine aa (ah (sr (bJ ?_)))
   refine bO hh 4 ?_
   refine aV (mI (aa (aj ?_)))
   rw [hzr2] at hh
   clear hsz hzr2 hzr
   have hpr0 : gy (ay (cI ns ms)) [] = gy (ay (cI ns ms)) (ng ns.reverse ms.reverse xs ys 0) := rfl
   rw [hpr0] at hh
   unfold kb
   have hk12 := hk
   clear hk
   refine bq [7, 8, 9, 10, 11, 12, 48, 49, 50, 51, 52, 53, 54, 55, 56, 57, 58, 59, 60, 61, 62, 63, 64, 65, 66, 67, 68, 69, 70, 71, 72, 73, 74, 75, 76, 77, 78, 79, 80, 81, 82, 83, 84, 85, 86, 87, 88, 89, 90, 91] 48
    (fun v w' => ∃ k : Nat, k ≤ ay ms ∧ v = .int .i64 k ∧ Hp w [.row (some ⟨b43, 0, none⟩) (ay (cI ns ms)) (ay (cI ns ms)) 39 3 (bR NR.cells ((gy (ay (cI ns ms)) (ng ns.reverse ms.reverse xs ys k)).map nR)), .blk b5 28 [.slice (some ⟨b16, 0, none⟩) i i, .slice (some ⟨b43, 0, none⟩) (ay (cI ns ms)) (ay (cI ns ms))] (0, 0), .row (some ⟨b16, 0, none⟩) i i 3 1 (bA (bf (cI ns ms))), .blk b4 28 [.slice none 0 0, .slice none 0 0] (0, 0), .blk b3 28 [.slice G i c3, .slice (some a4) (ay ms) c4] (0, 0), .blk b2 28 [.slice F i c1, .slice (some a5) (ay ns) c2] (0, 0)] w')
    (fun v _ => ay ms - (intOf v).toNat) ?_ ?_
   ·exact ⟨0, Nat.zero_le _, rfl, hh⟩
   ·clear hh hpr0
    rintro ρ2 v w2 ⟨k, hk, rfl, hh⟩
    by_cases hkm : k < ay ms
    ·obtain ⟨yk, hyk⟩ := au (l := ys) (k := k) (by omega)
     have hyn : (ys.map nR)[k]? = some (nR yk) := by rw [List.getElem?_map, hyk]; rfl
     have zy := hy yk (List.mem_of_getElem? hyk)
     have hsg := fun w1 => q7 (nR yk) w1
     rw [NR.sign, gn] at hsg
     by_cases hy0 : yk = 0
     ·subst hy0
      rw [uG] at hsg
      refine sr ?_
      refine aJ (aa (ah (cT (ak (ai (ah (aj (sr (mI ?_)))))))))
      refine aF (k := k) aG.out aD.size rfl rfl (by omega) (by omega) (by decide) ?_
      refine cK (vs := [_, _, _]) aD.out rfl ((s4.ext hh.below).recAt NR.len hyn) rfl (by decide) ?_
      refine cG hh ?_
      intro b8 w8 hh
      refine aI ?_
      refine bP hh 0 [_,_,_] ?_
      intro ws hh
      replace hh : Hp _ (.blk _ _ [_, _, _] _ :: _) _ := hh
      refine aa (ah (sr ?_))
      refine cz hh 0 [_,_,_] ?_
      refine bH hh (hsg _) rfl ?_
      intro w54 hh
      refine dN (aa (cT ?_))
      refine aP ?_
      refine aw (bj (ai (ao ?_)))
      refine bu (mI (aE (ai ?_)))
      replace hh := hh.sub (List.Sublist.cons _ (List.Sublist.cons_cons _ (List.Sublist.cons_cons _ (List.Sublist.cons_cons _ (List.Sublist.cons_cons _ (List.Sublist.cons_cons _ (List.Sublist.cons_cons _ List.Sublist.slnil)))))))
      refine ⟨⟨k + 1, by omega, rfl, ?_⟩, by show ay ms - (k + 1) < ay ms - k; omega, ?_⟩
      ·rw [mz, uN fun q hq => ?_]
       ·exact hh
       ·obtain ⟨i, _, rfl⟩ := List.mem_map.1 hq
        show (xs[i]?).getD 0 * (ys[k]?).getD 0 = 0
        rw [hyk]
        show (xs[i]?).getD 0 * 0 = 0
        grind
      ·(repeat (first | exact av _ _ _ | refine aC rfl ?_ | refine ar rfl ?_))
     ·have hne : l9 yk 0 ≠ 0 := by
       rcases zE yk 0 with h | h | h
       ·rw [rA h]; decide
       ·exact absurd h hy0
       ·rw [su h]; decide
      generalize l9 yk 0 = sg at *
      refine sr ?_
      refine aJ (aa (ah (cT (ak (ai (ah (aj (sr (mI ?_)))))))))
      refine aF (k := k) aG.out aD.size rfl rfl (by omega) (by omega) (by decide) ?_
      refine cK (vs := [_, _, _]) aD.out rfl ((s4.ext hh.below).recAt NR.len hyn) rfl (by decide) ?_
      refine cG hh ?_
      intro b8 w8 hh
      refine aI ?_
      refine bP hh 0 [_,_,_] ?_
      intro ws hh
      replace hh : Hp _ (.blk _ _ [_, _, _] _ :: _) _ := hh
      refine aa (ah (sr ?_))
      refine cz hh 0 [_,_,_] ?_
      refine bH hh (hsg _) rfl ?_
      intro w54 hh
      refine dN (aa (cF (ak (ai (sr (bJ ?_))))))
      refine bO hh 5 ?_
      refine mI ?_
      refine aT (m4 G i c3 ms k _ (hG.ext hh.below) (by omega) (fun d hd => by have := hms d hd; omega) (by omega)) az.out rfl (by decide) ?_
      rintro e_ w59 ⟨A59, c59, rfl, hown_, hb_⟩
      refine ⟨_, rfl, ?_⟩
      replace hh := hh.bs (x := .row _ _ _ _ _ _) hb_ hown_
      refine aL (aa (sr (bJ ?_)))
      refine bO hh 7 ?_
      refine aV (mI (aa (aj ?_)))
      refine bq [10, 11, 12, 63, 64, 65, 66, 67, 68, 69, 70, 71, 72, 73, 74, 75, 76, 77, 78, 79, 80, 81, 82, 83, 84, 85, 86, 87, 88, 89, 90] 63
       (fun v w' => ∃ j : Nat, j ≤ ay ns ∧ v = .int .i64 j ∧ Hp w [.row A59 i c59 3 1 (bA (bf (bV ms.reverse k).reverse)), .blk b8 39 [.bool (nR yk).neg, .string (nR yk).ct, .int .i64 (nR yk).e] (0, 0), .row (some ⟨b43, 0, none⟩) (ay (cI ns ms)) (ay (cI ns ms)) 39 3 (bR NR.cells ((gy (ay (cI ns ms)) (ng ns.reverse ms.reverse xs ys k ++ (List.range j).map (fun i => (db (cB ns.reverse ms.reverse) (cB (bV ns.reverse i) (bV ms.reverse k)), (xs[i]?).getD 0 * (ys[k]?).getD 0)))).map nR)), .blk b5 28 [.slice (some ⟨b16, 0, none⟩) i i, .slice (some ⟨b43, 0, none⟩) (ay (cI ns ms)) (ay (cI ns ms))] (0, 0), .row (some ⟨b16, 0, none⟩) i i 3 1 (bA (bf (cI ns ms))), .blk b4 28 [.slice none 0 0, .slice none 0 0] (0, 0), .blk b3 28 [.slice G i c3, .slice (some a4) (ay ms) c4] (0, 0), .blk b2 28 [.slice F i c1, .slice (some a5) (ay ns) c2] (0, 0)] w')
       (fun v _ => ay ns - (intOf v).toNat) ?_ ?_
      ·refine ⟨0, Nat.zero_le _, rfl, ?_⟩
       rw [List.range_zero, List.map_nil, List.append_nil]
       exact hh
      ·clear hh
       rintro ρ3 v w3 ⟨j, hj, rfl, hh⟩
       by_cases hjn : j < ay ns
       ·obtain ⟨xj, hxj⟩ := au (l := xs) (k := j) (by omega)
        have hxn : (xs.map nR)[j]? = some (nR xj) := by rw [List.getElem?_map, hxj]; rfl
        have zx := hx xj (List.mem_of_getElem? hxj)
        have hpl := fun w1 h1 h2 h3 => pw F (some ⟨b16, 0, none⟩) A59 i c1 i c59 ns (cI ns ms) (bV ms.reverse k).reverse j w1 h1 h2 h3 (by omega) (by rw [List.reverse_reverse]; exact qF (by omega) _ _) (by omega) (fun d hd => by have := hns d hd; omega) (fun d hd => by have := hadd d hd; omega) (by omega)
        simp only [List.reverse_reverse, ← kN (show ns.length = ms.length by omega)] at hpl
        have hplt : db (cB ns.reverse ms.reverse) (cB (bV ns.reverse j) (bV ms.reverse k)) < ay (cI ns ms) := by
         have := iO (qF (show ns.length = ms.length by omega) j k)
         rwa [dm, ← kN (show ns.length = ms.length by omega)] at this
        obtain ⟨l7, hold⟩ := au (l := gy (ay (cI ns ms)) (ng ns.reverse ms.reverse xs ys k ++ (List.range j).map (fun i => (db (cB ns.reverse ms.reverse) (cB (bV ns.reverse i) (bV ms.reverse k)), (xs[i]?).getD 0 * (ys[k]?).getD 0)))) (by rw [gv]; exact hplt)
        have hlen : (ng ns.reverse ms.reverse xs ys k ++ (List.range j).map (fun i => (db (cB ns.reverse ms.reverse) (cB (bV ns.reverse i) (bV ms.reverse k)), (xs[i]?).getD 0 * (ys[k]?).getD 0))).length ≤ 1000000 := by
         rw [List.length_append, tY, List.length_map, List.length_range, dm]
         have : k * ay ns + ay ns ≤ ay ms * ay ns := by rw [← Nat.succ_mul]; exact Nat.mul_le_mul_right _ hkm
         omega
        have zold : Sz 1200000 l7 := by
         refine (ug (k := k1 + k2) (fun q hq => ?_) l7 (List.mem_of_getElem? hold)).mono (by omega)
         rcases List.mem_append.1 hq with hq | hq
         ·exact rQ hx hy k q hq
         ·refine rQ (ds := ns.reverse) (es := ms.reverse) hx hy (k + 1) q ?_
          rw [mz]
          obtain ⟨u, hu, rfl⟩ := List.mem_map.1 hq
          exact List.mem_append_right _ (List.mem_map.2 ⟨u, List.mem_range.2 (by have := List.mem_range.1 hu; rw [dm]; omega), rfl⟩)
        have hon : ((gy (ay (cI ns ms)) (ng ns.reverse ms.reverse xs ys k ++ (List.range j).map (fun i => (db (cB ns.reverse ms.reverse) (cB (bV ns.reverse i) (bV ms.reverse k)), (xs[i]?).getD 0 * (ys[k]?).getD 0)))).map nR)[db (cB ns.reverse ms.reverse) (cB (bV ns.reverse j) (bV ms.reverse k))]? = some (nR l7) := by rw [List.getElem?_map, hold]; rfl
        have zxy : Sz 100000 (xj * yk) := (zx.mul zy).mono hk12
        have hmul := fun A cc w1 hT1 hS1 => kn A 2 cc [nR xj, nR yk] w1 hT1 hS1 (by simpa using ⟨zx.ok (by omega), zy.ok (by omega)⟩) 100000 (by simpa [gn] using ⟨zx.mono (by omega), zy.mono (by omega)⟩) (by omega) (by omega)
        rw [show iz ([nR xj, nR yk].map NR.d) = xj * yk by show 1 * (nR xj).d * (nR yk).d = _; rw [gn, gn, Dyadic.one_mul]] at hmul
        have hsum := fun A cc w1 hT1 hS1 => kf A 2 cc [nR l7, nR (xj * yk)] w1 hT1 hS1 (by simpa using ⟨zold.ok (by omega), zxy.ok (by omega)⟩) 1200000 (by simpa [gn] using ⟨zold, zxy.mono (by omega)⟩) (by omega)
        rw [show k9 ([nR l7, nR (xj * yk)].map NR.d) = l7 + xj * yk by simp only [List.map_cons, List.map_nil, gn, nE]] at hsum
        have hset := uv (v := xj * yk) hold
        have hstep : ng ns.reverse ms.reverse xs ys k ++ (List.range (j + 1)).map (fun i => (db (cB ns.reverse ms.reverse) (cB (bV ns.reverse i) (bV ms.reverse k)), (xs[i]?).getD 0 * (ys[k]?).getD 0)) = ng ns.reverse ms.reverse xs ys k ++ (List.range j).map (fun i => (db (cB ns.reverse ms.reverse) (cB (bV ns.reverse i) (bV ms.reverse k)), (xs[i]?).getD 0 * (ys[k]?).getD 0)) ++ [(db (cB ns.reverse ms.reverse) (cB (bV ns.reverse j) (bV ms.reverse k)), xj * yk)] := by
         rw [List.range_succ, List.map_append, ← List.append_assoc]
         simp only [List.map_cons, List.map_nil, hxj, hyk, Option.getD_some]
        have hfin : gy (ay (cI ns ms)) (ng ns.reverse ms.reverse xs ys k ++ (List.range (j + 1)).map (fun i => (db (cB ns.reverse ms.reverse) (cB (bV ns.reverse i) (bV ms.reverse k)), (xs[i]?).getD 0 * (ys[k]?).getD 0))) = _ := (congrArg _ hstep).trans hset.symm
        clear hset hstep zold
        have hll : ((gy (ay (cI ns ms)) (ng ns.reverse ms.reverse xs ys k ++ (List.range j).map (fun i => (db (cB ns.reverse ms.reverse) (cB (bV ns.reverse i) (bV ms.reverse k)), (xs[i]?).getD 0 * (ys[k]?).getD 0)))).map nR).length = ay (cI ns ms) := by rw [List.length_map, gv]
        generalize db (cB ns.reverse ms.reverse) (cB (bV ns.reverse j) (bV ms.reverse k)) = pl at *
        generalize gy (ay (cI ns ms)) (ng ns.reverse ms.reverse xs ys k ++ (List.range j).map (fun i => (db (cB ns.reverse ms.reverse) (cB (bV ns.reverse i) (bV ms.reverse k)), (xs[i]?).getD 0 * (ys[k]?).getD 0))) = X at *
        have hrl := gL NR.len (X.map nR)
        refine sr ?_
        refine aJ (aa (ah (cT (ak (ai (ah (aj (sr (mI ?_)))))))))
        refine aF (k := j) aG.out aD.size rfl rfl (by omega) (by omega) (by decide) ?_
        refine cK (vs := [_, _, _]) aD.out rfl ((s5.ext hh.below).recAt NR.len hxn) rfl (by decide) ?_
        refine cG hh ?_
        intro b11 w11 hh
        refine aI ?_
        refine bP hh 0 [_,_,_] ?_
        intro ws hh
        replace hh : Hp _ (.blk _ _ [_, _, _] _ :: _) _ := hh
        refine aa (sr (bJ ?_))
        refine bO hh 8 ?_
        refine bJ ?_
        refine bO hh 4 ?_
        refine mL (mI ?_)
        refine bH hh (hpl _ (hF.ext hh.below) (hh.aW (i := 5) rfl) (hh.aW (i := 1) rfl)) rfl ?_
        intro w74 hh
        refine aI (aa ?_)
        refine aN 14 [[(5, none)], [(75, some 0)], [(12, none)], [(5, none)], [(78, some 3)], [(12, none)], [(79, some 4), (80, some 5)], [(81, some 6)], [(11, none)], [(8, none)], [(83, some 8), (84, some 9)], [(85, some 10)], [(82, some 7), (86, some 11)], [(87, some 12)]] [(13, 88), (12, 87), (11, 86), (10, 85), (9, 84), (8, 83), (7, 82), (6, 81), (5, 80), (4, 79), (3, 78), (2, 77), (1, 76), (0, 75)] hh mixed (by kernel_rfl) ?_
        refine dI ?_
        refine ef 4 ?_
        refine dD ?_
        refine dI ?_
        refine ef 4 ?_
        refine dD ?_
        refine re (pl) ?_
        refine pW [_,_,_] (fun _ hj => hj.hp.fZ (f := NR.cells) (x := nR l7) (l := X.map nR) (i := 3) rfl NR.len (by decide) hon) ?_
        refine gk 0 [_,_,_] ?_
        refine gk 2 [_,_,_] ?_
        refine ry [_,_,_,_,_,_] ?_
        refine dt (i := 11) (Is (.agg #[.bool (nR (xj * yk)).neg, .string (nR (xj * yk)).ct, .int .i64 (nR (xj * yk)).e])) Is.ext ?_ ?_
        ·intro ρ1 w1 hj hR
         obtain ⟨A85, c85, h85, s85⟩ := hR.1
         exact eN rfl (dE az.out (bC h85 cY)) (hmul A85 c85 _ (hT.hp hj.hp) s85) (fun _ _ hq => ⟨_, hq.1, hq.2, rfl⟩)
        refine ry [_,_,_,_,_,_] ?_
        refine dt (i := 13) (Is (.agg #[.bool (nR (l7 + xj * yk)).neg, .string (nR (l7 + xj * yk)).ct, .int .i64 (nR (l7 + xj * yk)).e])) Is.ext ?_ ?_
        ·intro ρ1 w1 hj hR
         obtain ⟨A87, c87, h87, s87⟩ := hR.1
         exact eN rfl (dE az.out (bC h87 cY)) (hsum A87 c87 _ (hT.hp hj.hp) s87) (fun _ _ hq => ⟨_, hq.1, hq.2, rfl⟩)
        refine bo ?_
        intro f W hJ hV
        have hb_17 := hJ.bl
        obtain ⟨v88, v87, v86, v85, v84, v83, v82, v81, v80, v79, v78, v77, v76, v75, _⟩ := hV
        obtain ⟨A85, c85, e85, f85⟩ : Rows _ _ _ (f 10) W := v85
        obtain ⟨A87, c87, e87, f87⟩ : Rows _ _ _ (f 12) W := v87
        replace hh := hJ.hp
        refine aY (bm (ae v88 (ae e87 (ae v86 (ae e85 (ae v84 (ae v83 (ae v82 (ae v81 (ae v80 (ae v79 (ae v78 (ae v77 (ae v76 (ae v75 aX))))))))))))))) ?_
        dsimp only [cj]
        clear e85 e87 hJ
        refine bk (k := pl) aG.out aD.size rfl rfl (by omega) (by omega) (by decide) ?_
        refine bz hh (i := 3) (vs := [_, _, _]) rfl rfl (cA rfl) rfl aD.out rfl (by omega) rfl ?_
        intro ws hh
        simp only [List.set_cons_zero, List.set_cons_succ] at hh
        rw [show cR (bR NR.cells (X.map nR)) (pl * 3) [.bool (nR (l7 + xj * yk)).neg, .string (nR (l7 + xj * yk)).ct, .int .i64 (nR (l7 + xj * yk)).e] = bR NR.cells ((X.map nR).set pl (nR (l7 + xj * yk))) from l6 NR.len (by omega), ← List.map_set] at hh
        refine aE (aZ (ai (ao ?_)))
        refine bu (mI (aE (ai ?_)))
        replace hh := hh.sub (List.Sublist.cons _ (List.Sublist.cons_cons _ (List.Sublist.cons_cons _ (List.Sublist.cons_cons _ (List.Sublist.cons_cons _ (List.Sublist.cons_cons _ (List.Sublist.cons_cons _ (List.Sublist.cons_cons _ (List.Sublist.cons_cons _ List.Sublist.slnil)))))))))
        refine ⟨⟨j + 1, by omega, rfl, by rw [hfin]; exact hh⟩, by show ay ns - (j + 1) < ay ns - j; omega, ?_⟩
        (repeat (first | exact av _ _ _ | refine aC rfl ?_ | refine ar rfl ?_))
       ·obtain rfl : j = ay ns := by omega
        rw [show ng ns.reverse ms.reverse xs ys k ++ (List.range (ay ns)).map (fun i => (db (cB ns.reverse ms.reverse) (cB (bV ns.reverse i) (bV ms.reverse k)), (xs[i]?).getD 0 * (ys[k]?).getD 0)) = ng ns.reverse ms.reverse xs ys (k + 1) by rw [mz, dm]] at hh
        refine sr ?_
        refine aJ (aa (ah (cF ?_)))
        refine aP ?_
        refine aw (aw (bj (aZ (ai (ao ?_)))))
        refine bu (mI (aE (ai ?_)))
        replace hh := hh.sub (List.Sublist.cons _ (List.Sublist.cons _ (List.Sublist.cons_cons _ (List.Sublist.cons_cons _ (List.Sublist.cons_cons _ (List.Sublist.cons_cons _ (List.Sublist.cons_cons _ (List.Sublist.cons_cons _ List.Sublist.slnil))))))))
        refine ⟨⟨k + 1, by omega, rfl, hh⟩, by show ay ms - (k + 1) < ay ms - k; omega, ?_⟩
        (repeat (first | exact av _ _ _ | refine aC rfl ?_ | refine ar rfl ?_))
    ·obtain rfl : k = ay ms := by omega
     refine sr ?_
     refine aJ (aa (ah (cF ?_)))
     refine aP ?_
     refine aw (aw (bj (ai (sr ?_))))
     refine cz hh 1 [_,_] ?_
     refine bP hh 3 [_,_] ?_
     intro ws hh
     replace hh : Hp _ (_ :: _ :: _ :: .blk _ _ [_, _] _ :: _) _ := hh
     refine aa (aq ?_)
     replace hh := hh.sub (List.Sublist.cons_cons _ (List.Sublist.cons _ (List.Sublist.cons_cons _ (List.Sublist.cons_cons _ (List.Sublist.cons _ (List.Sublist.cons _ List.Sublist.slnil))))))
     refine gp (a6 rfl (a7 (vs := [_, _]) aD.out (hh.ax (i := 2) (n := 2) rfl rfl) rfl) bx) ?_
     exact ⟨_, _, _, _, rfl, hh.sub (List.Sublist.cons_cons _ (List.Sublist.cons_cons _ (List.nil_sublist _)))⟩
end Go.Proofs.YtioilmppidlbnaaGreatDoor
/- The walks through package lift: forms that are alike, degrees raised. -/
namespace Go.Proofs.YtioilmppidlbnaaGreatDoor
open Go.RowKit
structure FX where
 A : Option Addr
 n : Nat
 a : Nat
 B : Option Addr
 m : Nat
 b : Nat
 ds : List Int
 cs : List NR
def FX.cells (f : FX) : List Value := [.slice f.A f.n f.a, .slice f.B f.m f.b]
theorem FX.len (f : FX) : (FX.cells f).length = 2 := rfl
def FX.v (f : FX) : Value := .agg #[.slice f.A f.n f.a, .slice f.B f.m f.b]
structure FX.at_ (f : FX) (w : World) : Prop where
 dg : Sl w f.A f.n 1 (bA f.ds)
 nm : Sl w f.B f.m 3 (bR NR.cells f.cs)
theorem FX.at_.ext {f : FX} {w w' : World} (h : f.at_ w) (hb : Below w.heap.size w w') : f.at_ w' := ⟨h.dg.ext hb, h.nm.ext hb⟩
structure FX.gJ (f : FX) (k : Nat) : Prop where
 yO : f.n ≤ 1000
 At : f.m ≤ 100000
 num : ∀ c ∈ f.cs, c.ok ∧ Sz k c.d
def FX.e (f : FX) : Int := fE f.ds f.cs
theorem po (f : FX) (k : Nat) (w : World) (hT : gH w) (h : f.at_ w) (hl : f.gJ k) :
  Calls Tryz.prog 64 #[.agg #[.slice f.A f.n f.a, .slice f.B f.m f.b]] w fun r w' => r = .returned (.int .i64 f.e) ∧ Below w.heap.size w w' :=
 nY f.A f.B f.n f.a f.m f.b f.ds f.cs w hT h.dg h.nm (by have := hl.yO; omega) (by have := hl.At; omega) fun a ha => (hl.num a ha).1
def qd (fs : List FX) : Bool := fs.any fun f => decide (f.n ≠ (fs.map FX.n).headD 0)
def eo (fs : List FX) : Int := match fs.find? (fun f => decide (f.e ≠ 0)) with | some f => f.e | none => if fs.length = 0 ∨ qd fs = true then 1 else 0
theorem lB {α : Type} {p : α → Bool} {l : List α} (h : l.any p = false) : l.find? p = none := by
 rw [List.find?_eq_none]
 intro x hx
 have := List.any_eq_false.1 h x hx
 simpa using this
theorem oF {α : Type} {p : α → Bool} {l : List α} {i : Nat} {x : α} (h : (l.take i).any p = false) (hx : l[i]? = some x) (hp : p x = true) : l.find? p = some x := by
 have : l = l.take i ++ x :: l.drop (i + 1) := by rw [← jM hx, List.take_append_drop]
 rw [this, List.find?_append, lB h, List.find?_cons_of_pos hp]
 rfl
theorem rX (L : Option Addr) (n c : Nat) (fs : List FX) (f : FX) (p : Addr) (w : World) (hL : Sl w L n 2 (bR FX.cells fs)) (hp : w.cell? p = some (.slice L n c)) (hn : 0 < n) :
  Calls Tryz.prog 107 #[.agg #[.slice f.A f.n f.a, .slice f.B f.m f.b], .pointer (some p)] w fun r w' => r = .returned (.bool (decide (f.n ≠ (fs.map FX.n).headD 0))) ∧ Below w.heap.size w w' := by
 have hh := Hp.start w
 have hln := hL.di FX.len (by decide)
 obtain ⟨g, fs, rfl⟩ : ∃ g l, fs = g :: l := by
  cases fs with
  | nil => exact absurd hln (by show ¬ 0 = n; omega)
  | cons g l => exact ⟨g, l, rfl⟩
 obtain ⟨ad, rfl, hr⟩ := hL.at_ hn
 have hd : (((g :: fs).map FX.n).headD 0) = g.n := rfl
 rw [hd]
 have h0 : (g :: fs)[0]? = some g := rfl
 by_cases hg : f.n = g.n
 ·refine al (N := 13) (l := [.agg #[.slice f.A f.n f.a, .slice f.B f.m f.b], .pointer (some p)]) Tryz.func107 rfl rfl (by simp) ?_
  refine sr ?_
  refine cS hh [_,_] ?_
  intro b2 w2 hh
  refine aB (aa (ah ?_))
  refine aN 8 [[(2, none)], [(4, some 0)], [(5, some 1)], [(1, none)], [(7, some 3)], [(8, some 4)], [(9, some 5)], [(10, some 6)]] [(7, 11), (6, 10), (5, 9), (4, 8), (3, 7), (2, 6), (1, 5), (0, 4)] hh mixed (by kernel_rfl) ?_
  refine dI ?_
  refine ef 0 ?_
  refine j0 ?_
  refine jW (fun _ hj => (hj.hp.below.cell (pC hp)).trans hp) ?_
  refine aU (i := 4) (fun ρ1 w1 hj hR => bI aG.out aD.size (show ρ1 7 = Value.slice _ _ _ from hR.1) rfl (by omega) (by omega)) ?_
  refine xZ ?_
  refine jW (fun _ hj => cJ hj.hp.below (((hr.recAt FX.len h0)) 0 _ rfl)) ?_
  refine j0 ?_
  refine bo ?_
  intro f W hJ hV
  have hb_1 := hJ.bl
  obtain ⟨v11, v10, v9, v8, v7, v6, v5, v4, _⟩ := hV
  replace hh := hJ.hp
  refine aY (bm (ae v11 (ae v10 (ae v9 (ae v8 (ae v7 (ae v6 (ae v5 (ae v4 aX))))))))) ?_
  dsimp only [cj]
  clear hJ
  refine dn (aB (aa (aq ?_)))
  refine cu ?_
  exact ⟨by rw [decide_eq_false (by omega)], hh.below⟩
 ·refine al (N := 13) (l := [.agg #[.slice f.A f.n f.a, .slice f.B f.m f.b], .pointer (some p)]) Tryz.func107 rfl rfl (by simp) ?_
  refine sr ?_
  refine cS hh [_,_] ?_
  intro b2 w2 hh
  refine aB (aa (ah ?_))
  refine aN 8 [[(2, none)], [(4, some 0)], [(5, some 1)], [(1, none)], [(7, some 3)], [(8, some 4)], [(9, some 5)], [(10, some 6)]] [(7, 11), (6, 10), (5, 9), (4, 8), (3, 7), (2, 6), (1, 5), (0, 4)] hh mixed (by kernel_rfl) ?_
  refine dI ?_
  refine ef 0 ?_
  refine j0 ?_
  refine jW (fun _ hj => (hj.hp.below.cell (pC hp)).trans hp) ?_
  refine aU (i := 4) (fun ρ1 w1 hj hR => bI aG.out aD.size (show ρ1 7 = Value.slice _ _ _ from hR.1) rfl (by omega) (by omega)) ?_
  refine xZ ?_
  refine jW (fun _ hj => cJ hj.hp.below (((hr.recAt FX.len h0)) 0 _ rfl)) ?_
  refine j0 ?_
  refine bo ?_
  intro f W hJ hV
  have hb_1 := hJ.bl
  obtain ⟨v11, v10, v9, v8, v7, v6, v5, v4, _⟩ := hV
  replace hh := hJ.hp
  refine aY (bm (ae v11 (ae v10 (ae v9 (ae v8 (ae v7 (ae v6 (ae v5 (ae v4 aX))))))))) ?_
  dsimp only [cj]
  clear hJ
  refine dn (aB (aa (aq ?_)))
  refine cu ?_
  exact ⟨by rw [decide_eq_true hg], hh.below⟩
theorem sI (A : Option Addr) (n c : Nat) (l : List FX) (g : FuncId) (cap : List Value) (p : FX → Bool) (w : World) (hS : Sl w A n 2 (bR FX.cells l)) (hn : n ≤ 1000000) [az Tryz.prog g]
  (hg : ∀ (z : FX) (w1 : World), z ∈ l → Below w.heap.size w w1 → Calls Tryz.prog g (.agg #[.slice z.A z.n z.a, .slice z.B z.m z.b] :: cap).toArray w1 fun r w' => r = .returned (.bool (p z)) ∧ Below w1.heap.size w1 w') :
  Calls Tryz.prog 153 #[.slice A n c, .func (.func g) #[] cap.toArray] w fun r w' => ∃ v, r = .returned (.int .i64 v) ∧ (0 ≤ v ↔ l.any p = true) ∧ Below w.heap.size w w' := by
 have hh := Hp.start w
 have hln := hS.di FX.len (by decide)
 refine al (N := 19) (l := [.slice A n c, .func (.func g) #[] cap.toArray]) Tryz.func153 rfl rfl (by simp) ?_
 refine sr (aI (aa (ah (sr (mL (aV (mI (aa (aj ?_)))))))))
 refine bq [4, 5, 8, 9, 10, 11, 12, 13, 14, 15, 16, 17, 18] 8
  (fun v w' => ∃ i : Nat, i ≤ n ∧ v = .int .i64 i ∧ (l.take i).any p = false ∧ Hp w [] w')
  (fun v _ => n - (intOf v).toNat) ?_ ?_
 ·exact ⟨0, Nat.zero_le _, rfl, rfl, hh⟩
 ·clear hh
  rintro ρ' v w' ⟨i, hi, rfl, hall, hh⟩
  by_cases hlt : i < n
  ·obtain ⟨z, hz⟩ := au (l := l) (k := i) (by omega)
   obtain ⟨ad, rfl, hr⟩ := hS.at_ (by omega)
   have hc := fun w1 => hg z w1 (List.mem_of_getElem? hz)
   cases gz : p z with
   | true =>
    rw [gz] at hc
    refine sr ?_
    refine aJ (aa (ah (cT (ak (ai (ah (aj (sr (mI (aI (aa ?_)))))))))))
    refine sr ?_
    refine gb (by first | exact gC rfl | exact ev_nilf rfl) (by decide) ?_
    refine mL (mI ?_)
    refine aF (k := i) aG.out aD.size rfl rfl (by omega) (by omega) (by decide) ?_
    refine cK (vs := [_, _]) aD.out rfl ((hr.ext hh.below).recAt FX.len hz) rfl (by decide) ?_
    refine jN (hc _ hh.below) az.out rfl rfl (by decide) ?_
    rintro e_ w16 ⟨rfl, hb_⟩
    refine ⟨_, rfl, ?_⟩
    replace hh := hh.ext hb_
    refine aa (cT (sr (mI (aI (aa (aq (bM (aH (aH (bM (aH ?_)))))))))))
    refine cu ?_
    exact ⟨_, rfl, ⟨fun _ => List.any_eq_true.2 ⟨z, List.mem_of_getElem? hz, gz⟩, fun _ => by omega⟩, hh.below⟩
   | false =>
    rw [gz] at hc
    refine sr ?_
    refine aJ (aa (ah (cT (ak (ai (ah (aj (sr (mI (aI (aa ?_)))))))))))
    refine sr ?_
    refine gb (by first | exact gC rfl | exact ev_nilf rfl) (by decide) ?_
    refine mL (mI ?_)
    refine aF (k := i) aG.out aD.size rfl rfl (by omega) (by omega) (by decide) ?_
    refine cK (vs := [_, _]) aD.out rfl ((hr.ext hh.below).recAt FX.len hz) rfl (by decide) ?_
    refine jN (hc _ hh.below) az.out rfl rfl (by decide) ?_
    rintro e_ w16 ⟨rfl, hb_⟩
    refine ⟨_, rfl, ?_⟩
    replace hh := hh.ext hb_
    refine aa (cF (ak (aZ (ai (ao ?_)))))
    refine bu (mI (aE (ai ?_)))
    refine ⟨⟨i + 1, by omega, rfl, by rw [aO hz, List.any_append, hall, List.any_cons, List.any_nil, gz]; rfl, hh⟩, by show n - (i + 1) < n - i; omega, ?_⟩
    (repeat (first | exact av _ _ _ | refine aC rfl ?_ | refine ar rfl ?_))
  ·rw [List.take_of_length_le (by omega)] at hall
   refine sr ?_
   refine aJ (aa (ah (cF ?_)))
   refine aP ?_
   refine aw (aw (bj (ai (sr (aI (aa (aq ?_)))))))
   refine cu ?_
   exact ⟨_, rfl, ⟨fun h => absurd h (by decide), fun h => by rw [hall] at h; cases h⟩, hh.below⟩
theorem sn (A : Option Addr) (n c : Nat) (l : List FX) (g : FuncId) (cap : List Value) (p : FX → Bool) (w : World) (hS : Sl w A n 2 (bR FX.cells l)) (hn : n ≤ 1000000) [az Tryz.prog g]
  (hg : ∀ (z : FX) (w1 : World), z ∈ l → Below w.heap.size w w1 → Calls Tryz.prog g (.agg #[.slice z.A z.n z.a, .slice z.B z.m z.b] :: cap).toArray w1 fun r w' => r = .returned (.bool (p z)) ∧ Below w1.heap.size w1 w') :
  Calls Tryz.prog 106 #[.slice A n c, .func (.func g) #[] cap.toArray] w fun r w' => r = .returned (.bool (l.any p)) ∧ Below w.heap.size w w' := by
 have hh := Hp.start w
 refine al (N := 9) (l := [.slice A n c, .func (.func g) #[] cap.toArray]) Tryz.func106 rfl rfl (by simp) ?_
 refine sr (aB (aa (sr (mL ?_))))
 refine gb (by first | exact gC rfl | exact ev_nilf rfl) (by decide) ?_
 refine aT (sI A n c l g cap p _ (hS.ext hh.below) hn hg) az.out rfl (by decide) ?_
 rintro e_ w7 ⟨v_, rfl, hv_, hb_⟩
 refine ⟨_, rfl, ?_⟩
 replace hh := hh.ext hb_
 cases ga : l.any p with
 | true =>
  have h0 := hv_.2 ga
  refine dT (aB (aa (aq ?_)))
  refine cu ?_
  exact ⟨rfl, hh.below⟩
 | false =>
  have h0 : ¬ 0 ≤ v_ := fun h => by rw [hv_.1 h] at ga; cases ga
  refine dT (aB (aa (aq ?_)))
  refine cu ?_
  exact ⟨rfl, hh.below⟩
theorem lV (L : Option Addr) (n c : Nat) (fs : List FX) (k : Nat) (w : World) (hT : gH w) (hL : Sl w L n 2 (bR FX.cells fs)) (hn : n ≤ 1000000) (hf : ∀ f ∈ fs, f.at_ w) (hl : ∀ f ∈ fs, f.gJ k) :
  Calls Tryz.prog 57 #[.slice L n c] w fun r w' => r = .returned (.int .i64 (eo fs)) ∧ Below w.heap.size w w' := by
 have hh := Hp.start w
 have hln := hL.di FX.len (by decide)
 refine al (N := 26) (l := [.slice L n c]) Tryz.func57 rfl rfl (by simp) ?_
 refine sr ?_
 refine cS hh [_] ?_
 intro b1 w1 hh
 refine aI (aa (ah (sr ?_)))
 refine bO hh 0 ?_
 refine aV (mI (aa (aj ?_)))
 refine bq [2, 4, 5, 8, 9, 10, 11, 12, 13, 14, 15, 16, 17] 8
  (fun v w' => ∃ i : Nat, i ≤ n ∧ v = .int .i64 i ∧ (fs.take i).any (fun f => decide (f.e ≠ 0)) = false ∧ Hp w [.blk b1 22 [.slice L n c] (0, 0)] w')
  (fun v _ => n - (intOf v).toNat) ?_ ?_
 ·exact ⟨0, Nat.zero_le _, rfl, rfl, hh⟩
 ·clear hh
  rintro ρ' v w' ⟨i, hi, rfl, hall, hh⟩
  by_cases hlt : i < n
  ·obtain ⟨f, hx⟩ := au (l := fs) (k := i) (by omega)
   have hmem := List.mem_of_getElem? hx
   have hc := fun w1 hT1 hb => po f k w1 hT1 ((hf f hmem).ext hb) (hl f hmem)
   obtain ⟨ad, rfl, hr⟩ := hL.at_ (by omega)
   by_cases he : f.e = 0
   ·refine sr ?_
    refine aJ (aa (ah (cT (ak (ai (ah (aj (sr ?_))))))))
    refine aF (k := i) aG.out aD.size rfl rfl (by omega) (by omega) (by decide) ?_
    refine cK (vs := [_, _]) aD.out rfl ((hr.ext hh.below).recAt FX.len hx) rfl (by decide) ?_
    refine cG hh ?_
    intro b4 w4 hh
    refine bP hh 0 [_,_] ?_
    intro ws hh
    replace hh : Hp _ (.blk _ _ [_, _] _ :: _) _ := hh
    refine aa (sr ?_)
    refine cz hh 0 [_,_] ?_
    refine bH hh (hc _ (hT.hp hh) hh.below) rfl ?_
    intro w13 hh
    refine aI (aa (sr (mI ?_)))
    refine dn (aa (cF (ak (aZ (ai (ao ?_))))))
    refine bu (mI (aE (ai ?_)))
    replace hh := hh.sub (List.Sublist.cons _ (List.Sublist.cons_cons _ List.Sublist.slnil))
    refine ⟨⟨i + 1, by omega, rfl, by rw [aO hx, List.any_append, hall, List.any_cons, List.any_nil, decide_eq_false (by omega)]; rfl, hh⟩, by show n - (i + 1) < n - i; omega, ?_⟩
    (repeat (first | exact av _ _ _ | refine aC rfl ?_ | refine ar rfl ?_))
   ·refine sr ?_
    refine aJ (aa (ah (cT (ak (ai (ah (aj (sr ?_))))))))
    refine aF (k := i) aG.out aD.size rfl rfl (by omega) (by omega) (by decide) ?_
    refine cK (vs := [_, _]) aD.out rfl ((hr.ext hh.below).recAt FX.len hx) rfl (by decide) ?_
    refine cG hh ?_
    intro b4 w4 hh
    refine bP hh 0 [_,_] ?_
    intro ws hh
    replace hh : Hp _ (.blk _ _ [_, _] _ :: _) _ := hh
    refine aa (sr ?_)
    refine cz hh 0 [_,_] ?_
    refine bH hh (hc _ (hT.hp hh) hh.below) rfl ?_
    intro w13 hh
    refine aI (aa (sr (mI ?_)))
    refine dn (aa (cT (sr (mI (aI (aa (aq (bM (aH (aH (bM ?_)))))))))))
    refine aH ?_
    refine cu ?_
    refine ⟨?_, hh.below⟩
    unfold eo
    rw [oF hall hx (decide_eq_true he)]
  ·rw [List.take_of_length_le (by omega)] at hall
   have hlk : eo fs = if fs.length = 0 ∨ qd fs = true then 1 else 0 := by unfold eo; rw [lB hall]
   rw [hlk]
   by_cases h0 : n = 0
   ·refine sr ?_
    refine aJ (aa (ah (cF ?_)))
    refine aP ?_
    refine aw (aw (bj (ai (ah (sr ?_)))))
    refine bO hh 0 ?_
    refine aV ?_
    refine dN (mB ?_)
    first | refine gS ?_ | (refine gT ?_; refine bO hh 0 ?_) | refine gV ?_
    first | refine gS ?_ | (refine gT ?_; refine km rfl (bC (sK rfl) cY) (by decide) ?_) | refine gV ?_
    refine bB (by decide) rfl rfl (by decide) ?_
    first | refine cQ ?_ | refine cP ?_
    refine aa (cT (sr (aI (aa (aq (aH ?_))))))
    refine cu ?_
    exact ⟨by rw [if_pos (.inl (by omega))], hh.below⟩
   ·have hcell : w'.cell? ⟨b1, 0, none⟩ = some (.slice L n c) := hh.eD (i := 0) rfl rfl
    have ho := fun w1 hb => sn L n c fs 107 [.pointer (some ⟨b1, 0, none⟩)] (fun f => decide (f.n ≠ (fs.map FX.n).headD 0)) w1 (hL.ext (hh.below.trans (hb.mono hh.below.size))) hn (fun z w2 hz hb2 => rX L n c fs z ⟨b1, 0, none⟩ w2 ((hL.ext (hh.below.trans (hb.mono hh.below.size))).ext hb2) (cJ hb2 (cJ hb hcell)) (by omega))
    cases hod : qd fs with
    | true =>
     have hod2 : fs.any (fun f => decide (f.n ≠ (fs.map FX.n).headD 0)) = true := hod
     rw [hod2] at ho
     refine sr ?_
     refine aJ (aa (ah (cF ?_)))
     refine aP ?_
     refine aw (aw (bj (ai (ah (sr ?_)))))
     refine bO hh 0 ?_
     refine aV ?_
     refine dN (mB ?_)
     first | refine gS ?_ | (refine gT ?_; refine bO hh 0 ?_) | refine gV ?_
     first | refine gS ?_ | (refine gT ?_; refine km rfl (bC (sK rfl) cY) (by decide) ?_) | refine gV ?_
     refine aR rfl rfl ?_
     refine bH hh (ho _ (Below.refl _ _)) rfl ?_
     intro w24 hh
     first | refine cQ ?_ | refine cP ?_
     refine aa (cT (sr (aI (aa (aq (aH ?_))))))
     refine cu ?_
     exact ⟨by rw [if_pos (.inr rfl)], hh.below⟩
    | false =>
     have hod2 : fs.any (fun f => decide (f.n ≠ (fs.map FX.n).headD 0)) = false := hod
     rw [hod2] at ho
     refine sr ?_
     refine aJ (aa (ah (cF ?_)))
     refine aP ?_
     refine aw (aw (bj (ai (ah (sr ?_)))))
     refine bO hh 0 ?_
     refine aV ?_
     refine dN (mB ?_)
     first | refine gS ?_ | (refine gT ?_; refine bO hh 0 ?_) | refine gV ?_
     first | refine gS ?_ | (refine gT ?_; refine km rfl (bC (sK rfl) cY) (by decide) ?_) | refine gV ?_
     refine aR rfl rfl ?_
     refine bH hh (ho _ (Below.refl _ _)) rfl ?_
     intro w24 hh
     first | refine cQ ?_ | refine cP ?_
     refine aa (cF (ak (ai (sr (aI (aa (aq ?_)))))))
     refine cu ?_
     refine ⟨?_, hh.below⟩
     rw [if_neg]
     rintro (h | h)
     ·omega
     ·cases h
end Go.Proofs.YtioilmppidlbnaaGreatDoor
/- Arguments opened: forms. -/
namespace Go.Proofs.YtioilmppidlbnaaGreatDoor
open Go.ChangeShapes Go.WideShapes Go.ChangeAt Go.RowKit Go.ChangeMaps
theorem nv {α : Type} {f : α → List Value} {p : α → Prop} {sz : Nat} {P : Program} {t e : TypeId} {H : Type} {enc : TypeId × Value → H} {W : World} {base fuel : Nat} {sp : Nat → Bool} {held : Bool} {cs : List Value} {x : DataW H × List MemPlace}
  (hf : ∀ x, (f x).length = sz) (h0 : 0 < sz) (ht : P.underlying t = some (.slice e)) (hc : P.cellsOf e = sz) (one : ∀ fuel cs x, DataW.trod enc P W base sp held fuel e cs = some x → ∃ a, cs = f a ∧ p a)
  (hfu : DataW.trod enc P W base sp held fuel t cs = some x) : ∃ (A : Option Addr) (n c : Nat) (l : List α), cs = [.slice A n c] ∧ Sl W A n sz (bR f l) ∧ ∀ a ∈ l, p a := by
 rcases Go.Deep.open_slice ht hfu with ⟨h1, _⟩ | ⟨ad, n, cp, m, k, D, Pl, h1, _, h2, h3, hm, _, h5⟩
 ·exact ⟨none, 0, 0, [], h1, Sl.nil W none sz, fun _ h => by simp at h⟩
 ·have hnm : n ≤ m := by rw [hm]; split <;> omega
  obtain ⟨l, hl, hp⟩ := mv (p := fun i a => W.cells? base (ad.add (i * sz)) sz = some (f a) ∧ p a) n fun i hi => by
   obtain ⟨cs, h6, h7⟩ := h5 i (by omega)
   rw [hc] at h6
   obtain ⟨a, rfl, h8⟩ := one _ _ _ h7
   exact ⟨a, h6, h8⟩
  refine ⟨some ad, n, cp, l, h1, ⟨by rw [gL hf, hl], fun _ => ⟨ad, rfl, fun j u hu => ?_⟩⟩, fun a ha => ?_⟩
  ·have hdm : j / sz * sz + j % sz = j := by rw [Nat.mul_comm]; exact Nat.div_add_mod j sz
   have hmod : j % sz < sz := Nat.mod_lt _ h0
   have hj : j / sz < l.length := by
    have := (List.getElem?_eq_some_iff.1 hu).1
    rw [gL hf] at this
    exact Nat.div_lt_of_lt_mul (by rw [Nat.mul_comm]; exact this)
   obtain ⟨x, hx⟩ := au hj
   have h6 := mV hf hx
   have h7 : (f x)[j % sz]? = some u := by
    rw [← h6, List.getElem?_take, if_pos hmod, List.getElem?_drop, hdm]
    exact hu
   have h8 := (World.cells?_some (hp _ _ hx).1).2.2 (j % sz) hmod
   rw [h7, iT, hdm] at h8
   exact h8
  ·obtain ⟨i, hi⟩ := List.mem_iff_getElem?.1 ha
   exact (hp i a hi).2
set_option maxRecDepth 100000 in
theorem sx {H : Type} {enc : TypeId × Value → H} {W : World} {base fuel : Nat} {sp : Nat → Bool} {held : Bool} {cs : List Value} {x : DataW H × List MemPlace} (h : DataW.trod enc Tryz.prog W base sp held fuel 28 cs = some x) :
  ∃ f : FX, cs = f.cells ∧ f.at_ W := by
 have c0 : Tryz.prog.cellsOf 28 = 2 := by kernel_rfl
 have c1 : Tryz.prog.cellsOf 25 = 1 := by kernel_rfl
 have c2 : Tryz.prog.cellsOf 26 = 1 := by kernel_rfl
 obtain ⟨y0, y1, n, _, hl, h0, h1⟩ := trod_struct2 Tryz.underlying28 h
 obtain ⟨A, n, a, l, e0, s0, _⟩ := nv IC.len (by decide) Tryz.underlying25 (by kernel_rfl) (fun _ _ _ h => ou h) h0
 obtain ⟨B, m, b, k, e1, s1, _⟩ := nv NR.len (by decide) Tryz.underlying26 (by kernel_rfl) (fun _ _ _ h => oO h) h1
 rw [tS] at s0
 rw [c0] at hl
 match cs, hl with
 | [x0, x1], _ =>
  simp only [c1, c2] at e0 e1
  simp at e0 e1
  subst e0 e1
  exact ⟨⟨A, n, a, B, m, b, l, k⟩, rfl, s0, s1⟩
set_option maxRecDepth 100000 in
theorem oq {H : Type} {enc : TypeId × Value → H} {W : World} {r : Reach} {base b0 : Nat} {sp : Nat → Bool} {held : Bool} {v : Value} {d : DataW H} {ps : List MemPlace}
  (hval : Value.okWide Tryz.prog W r b0 28 v) (hd : DataW.Trod enc Tryz.prog W base sp held 28 v d ps) : ∃ f : FX, v = .agg #[.slice f.A f.n f.a, .slice f.B f.m f.b] ∧ f.at_ W := by
 obtain ⟨cs, rfl, _⟩ := okWide_struct Tryz.underlying28 hval
 obtain ⟨fuel, hf⟩ := hd
 obtain ⟨f, h1, h2⟩ := sx hf
 refine ⟨f, ?_, h2⟩
 have h3 : cs.toList = f.cells := h1
 rw [← Array.toList_inj.1 (show cs.toList = (#[.slice f.A f.n f.a, .slice f.B f.m f.b] : Array Value).toList from h3)]
end Go.Proofs.YtioilmppidlbnaaGreatDoor
/- The walk through lift.Raise. -/
namespace Go.Proofs.YtioilmppidlbnaaGreatDoor
open Go.RowKit
def ia (p : Int × Int) : Bool := decide (p.2 < p.1 ∨ 127 < p.2)
def j5 (ds es : List Int) : Int := if es.length ≠ ds.length then 1 else if (ds.zip es).any ia = true then 1 else if 4096 < ay (es.map Int.toNat) then 3 else 0
def dL (a b : List Nat) : List Nat := List.zipWith (· - ·) a b
def ib (ns ts : List Nat) (xs : List Dyadic) : List Dyadic := kb ns (dL ts ns) xs ((nW (dL ts ns)).map nD)
theorem jY : ∀ {ns ts : List Nat}, ns.length = ts.length → (∀ (i n t : Nat), ns[i]? = some n → ts[i]? = some t → n ≤ t) → cI ns (dL ts ns) = ts
 | [], [], _, _ => rfl
 | [], _ :: _, h, _ => by simp at h
 | _ :: _, [], h, _ => by simp at h
 | n :: ns, t :: ts, h, h2 => by
  have h0 := h2 0 n t rfl rfl
  have ih := jY (ns := ns) (ts := ts) (by simpa using h) fun i a b ha hb => h2 (i + 1) a b ha hb
  show (n + (t - n)) :: cI ns (dL ts ns) = _
  rw [ih, show n + (t - n) = t by omega]
theorem jX : ∀ {a b : List Nat}, a.length = b.length → (∀ (i x y : Nat), a[i]? = some x → b[i]? = some y → x ≤ y) → ay a ≤ ay b
 | [], [], _, _ => Nat.le_refl _
 | [], _ :: _, h, _ => by simp at h
 | _ :: _, [], h, _ => by simp at h
 | x :: a, y :: b, h, h2 => by
  have h0 := h2 0 x y rfl rfl
  rw [ay, ay]
  exact Nat.mul_le_mul (by omega) (jX (by simpa using h) fun i p q hp hq => h2 (i + 1) p q hp hq)
theorem ue {a b : List Nat} {i x y : Nat} (h1 : a[i]? = some x) (h2 : b[i]? = some y) : (dL a b)[i]? = some (x - y) := by
 unfold dL
 rw [List.getElem?_zipWith, h1, h2]
theorem iA {a b : List Nat} (h : a.length = b.length) : (dL a b).length = a.length := by simp [dL, h]
def zv (es ds : List Int) : List Int := List.zipWith (· - ·) es ds
theorem y9 {es ds : List Int} {i : Nat} {x y : Int} (h1 : es[i]? = some x) (h2 : ds[i]? = some y) : (zv es ds)[i]? = some (x - y) := by
 unfold zv
 rw [List.getElem?_zipWith, h1, h2]
theorem tZ : ∀ {ts ns : List Nat}, ns.length = ts.length → (∀ (i n t : Nat), ns[i]? = some n → ts[i]? = some t → n ≤ t) → zv (bf ts) (bf ns) = bf (dL ts ns)
 | [], [], _, _ => rfl
 | [], _ :: _, h, _ => by simp at h
 | _ :: _, [], h, _ => by simp at h
 | t :: ts, n :: ns, h, h2 => by
  have h0 := h2 0 n t rfl rfl
  have ih := tZ (ns := ns) (ts := ts) (by simpa using h) fun i a b ha hb => h2 (i + 1) a b ha hb
  show ((t : Int) - (n : Int)) :: zv (bf ts) (bf ns) = ((t - n : Nat) : Int) :: bf (dL ts ns)
  rw [ih, show (t : Int) - (n : Int) = ((t - n : Nat) : Int) by omega]
theorem rE {ns : List Nat} {es : List Int} (hl : es.length = (bf ns).length) (hb : ((bf ns).zip es).any ia = false) : ∃ ts : List Nat, es = bf ts ∧ ns.length = ts.length ∧ (∀ (i n t : Nat), ns[i]? = some n → ts[i]? = some t → n ≤ t) ∧ ∀ t ∈ ts, t ≤ 127 := by
 have key : ∀ (i : Nat) (d : Int), es[i]? = some d → ∃ n, ns[i]? = some n ∧ (n : Int) ≤ d ∧ d ≤ 127 := fun i d hd => by
  have hi := (List.getElem?_eq_some_iff.1 hd).1
  rw [hl, cd] at hi
  obtain ⟨n, hn⟩ := au hi
  have hz : ((n : Int), d) ∈ (bf ns).zip es := List.mem_of_getElem? (i := i) (by rw [List.getElem?_zip_eq_some]; exact ⟨cZ hn, hd⟩)
  have := List.any_eq_false.1 hb _ hz
  simp [ia] at this
  exact ⟨n, hn, by omega, by omega⟩
 refine ⟨es.map Int.toNat, ?_, by rw [List.length_map, hl, cd], fun i n t hn ht => ?_, fun t ht => ?_⟩
 ·unfold bf
  rw [List.map_map]
  refine (List.map_id' es).symm.trans (List.map_congr_left fun d hd => ?_)
  obtain ⟨i, hi⟩ := List.mem_iff_getElem?.1 hd
  obtain ⟨n, _, h1, _⟩ := key i d hi
  show d = ((d.toNat : Nat) : Int)
  omega
 ·rw [List.getElem?_map] at ht
  cases hd : es[i]? with
  | none => rw [hd] at ht; cases ht
  | some d =>
   rw [hd] at ht
   obtain rfl : d.toNat = t := by simpa using ht
   obtain ⟨n', hn', h1, _⟩ := key i d hd
   rw [hn] at hn'
   obtain rfl := Option.some.inj hn'
   omega
 ·obtain ⟨d, hd, rfl⟩ := List.mem_map.1 ht
  obtain ⟨i, hi⟩ := List.mem_iff_getElem?.1 hd
  obtain ⟨n, _, h1, h2⟩ := key i d hi
  omega
theorem eO (ts : List Nat) : (bf ts).map Int.toNat = ts := by
 unfold bf
 rw [List.map_map]
 exact List.map_id' ts
def nw (e : Int) : Ending := .returned (.tuple #[.agg #[.slice none 0 0, .slice none 0 0], .int .i64 e])
theorem kF {ds es : List Int} {i : Nat} {d e : Int} (h : ((ds.take i).zip (es.take i)).any ia = false) (hd : ds[i]? = some d) (he : es[i]? = some e) (hb : ia (d, e) = false) : ((ds.take (i + 1)).zip (es.take (i + 1))).any ia = false := by
 rw [aO hd, aO he, List.zip_append (by have := (List.getElem?_eq_some_iff.1 hd).1; have := (List.getElem?_eq_some_iff.1 he).1; simp; omega), List.any_append, h]
 show (false || ([(d, e)].any ia)) = false
 rw [List.any_cons, hb]
 rfl
theorem k7 (f : FX) (E : Option Addr) (q cE : Nat) (es : List Int) (k : Nat) (w : World) (hT : gH w) (hf : f.at_ w) (hl : f.gJ k) (hE : Sl w E q 1 (bA es)) (hq : q ≤ 1000) (hk : k ≤ 90000)
  (hM : f.e = 0 → j5 f.ds es = 0 → ay (es.map Int.toNat) * ay (f.ds.map Int.toNat) ≤ 1000000) :
  Calls Tryz.prog 23 #[.agg #[.slice f.A f.n f.a, .slice f.B f.m f.b], .slice E q cE] w fun r w' => ((f.e ≠ 0 ∧ r = nw f.e ∨ f.e = 0 ∧ j5 f.ds es ≠ 0 ∧ r = nw (j5 f.ds es)) ∧ Below w.heap.size w w') ∨
   (f.e = 0 ∧ j5 f.ds es = 0 ∧ ∃ (A : Option Addr) (a : Nat) (B : Option Addr) (b : Nat), r = .returned (.tuple #[.agg #[.slice A q a, .slice B (ay (es.map Int.toNat)) b], .int .i64 0]) ∧ Hp w [.row B (ay (es.map Int.toNat)) b 39 3 (bR NR.cells ((ib (f.ds.map Int.toNat) (es.map Int.toNat) (f.cs.map NR.d)).map nR)), .row A q a 3 1 (bA es)] w') := by
 have hh := Hp.start w
 have hln : f.ds.length = f.n := by have := hf.dg.1; simpa [bA] using this
 have hlq : es.length = q := by have := hE.1; simpa [bA] using this
 have hlm := hf.nm.di NR.len (by decide)
 have hck := fun w1 hT1 hb => po f k w1 hT1 (hf.ext hb) hl
 have hn20 := hl.yO
 by_cases h0 : f.e = 0
 ·by_cases h1 : q = f.n
  ·obtain ⟨ns, xs, hv, hxs⟩ := vA h0
   refine al (N := 66) (l := [.agg #[.slice f.A f.n f.a, .slice f.B f.m f.b], .slice E q cE]) Tryz.func23 rfl rfl (by simp) ?_
   refine sr ?_
   refine cS hh [_,_] ?_
   intro b2 w2 hh
   refine cG hh ?_
   intro b4 w4 hh
   refine aI (aa (ah (sr ?_)))
   refine cz hh 1 [_,_] ?_
   refine bH hh (hck _ (hT.hp hh) hh.below) rfl ?_
   intro w11 hh
   refine aI (aa (sr (mI ?_)))
   refine dn (aa (cF (ak (ai (ah (sr (mL (aV (bJ ?_)))))))))
   refine bO hh 1 ?_
   refine aV ?_
   refine dn (aa (cF (ak (ai (sr ?_)))))
   refine fh [_,_] ?_
   refine cG hh ?_
   intro b7 w7 hh
   refine bP hh 0 [_,_] ?_
   intro ws hh
   replace hh : Hp _ (.blk _ _ [_, _] _ :: _) _ := hh
   refine aa (ah (sr (mL (aV (mI (aa (aj ?_)))))))
   replace hh := hh.ed 3 1
   refine bq [5, 8, 9, 26, 27, 28, 29, 30, 31, 32, 33, 34, 35, 36, 37, 38, 39, 40, 41, 42, 43, 44, 45, 46, 47, 48, 49, 50, 51, 52, 53, 54, 55] 26
    (fun v w' => ∃ (i c7 : Nat) (A : Option Addr), i ≤ q ∧ v = .int .i64 i ∧ ((f.ds.take i).zip (es.take i)).any ia = false ∧ Hp w [.row A i c7 3 1 (bA ((zv es f.ds).take i)), .blk b7 28 [.slice A i c7, .slice none 0 0] (0, 0), .blk b4 28 [.slice none 0 0, .slice none 0 0] (0, 0), .blk b2 28 [.slice f.A f.n f.a, .slice f.B f.m f.b] (0, 0)] w')
    (fun v _ => q - (intOf v).toNat) ?_ ?_
   ·exact ⟨0, 0, none, Nat.zero_le _, rfl, rfl, hh⟩
   ·clear hh
    rintro ρ' v w' ⟨i, c7, A, hi, rfl, hall, hh⟩
    by_cases hlt : i < q
    ·obtain ⟨d, hd⟩ := au (l := f.ds) (k := i) (by omega)
     obtain ⟨e, he⟩ := au (l := es) (k := i) (by omega)
     have hgd := bG hd
     have hge := bG he
     have hde := y9 he hd
     obtain ⟨a1, hA1, s1⟩ := hf.dg.at_ (by omega)
     obtain ⟨a2, rfl, s2⟩ := hE.at_ (by omega)
     have hdn : 0 ≤ d ∧ d ≤ 127 := by
      have hdeg := hv.AB
      rw [hdeg] at hd
      have hlow := hv.low
      obtain ⟨nn, hnn⟩ := au (l := ns) (k := i) (by rw [← cd, ← hdeg, hln]; omega)
      rw [cZ hnn] at hd
      have := hlow nn (List.mem_of_getElem? hnn)
      have := Option.some.inj hd
      omega
     have hbad : ia (d, e) = true → j5 f.ds es = 1 := fun hb => by
      unfold j5
      rw [if_neg (by omega), if_pos]
      exact List.any_eq_true.2 ⟨(d, e), List.mem_of_getElem? (i := i) (by rw [List.getElem?_zip_eq_some]; exact ⟨hd, he⟩), hb⟩
     rw [hA1] at hh
     by_cases h2 : e < d
     ·have hr1 := hbad (by unfold ia; rw [decide_eq_true]; exact .inl h2)
      refine sr ?_
      refine aJ (aa (ah (cT (ak (ai (ah (aj (sr (mI ?_)))))))))
      refine aF (k := i) aG.out aD.size rfl rfl (by omega) (by omega) (by decide) ?_
      refine aM aD.out rfl ((s2.ext hh.below).ea (by assumption)) (by decide) ?_
      refine aI (aI (aa (ah (sr (mI (bJ ?_))))))
      refine bO hh 3 ?_
      refine mI ?_
      refine aF (k := i) aG.out aD.size rfl rfl (by omega) (by omega) (by decide) ?_
      refine aM aD.out rfl ((s1.ext hh.below).ea (by assumption)) (by decide) ?_
      refine aJ (mB ?_)
      first | refine gS ?_ | (refine gT ?_; refine mI ?_) | refine gV ?_
      first | refine gS ?_ | (refine gT ?_; refine bT ?_) | refine gV ?_
      first | refine cQ ?_ | refine cP ?_
      refine aa (cT (sr ?_))
      refine fh [_,_] ?_
      refine bP hh 2 [_,_] ?_
      intro ws hh
      replace hh : Hp _ (_ :: _ :: .blk _ _ [_, _] _ :: _) _ := hh
      refine aI (aa (aq (aH (bM (aH (aH (bM (aH ?_))))))))
      refine nV (a6 rfl (a7 (vs := [_, _]) aD.out (hh.ax (i := 2) (n := 2) rfl rfl) rfl) (cU (dR rfl) bx)) ?_
      exact .inl ⟨.inr ⟨h0, by rw [hr1]; decide, by rw [hr1]; rfl⟩, hh.below⟩
     ·by_cases h3 : 127 < e
      ·have hr1 := hbad (by unfold ia; rw [decide_eq_true]; exact .inr h3)
       refine sr ?_
       refine aJ (aa (ah (cT (ak (ai (ah (aj (sr (mI ?_)))))))))
       refine aF (k := i) aG.out aD.size rfl rfl (by omega) (by omega) (by decide) ?_
       refine aM aD.out rfl ((s2.ext hh.below).ea (by assumption)) (by decide) ?_
       refine aI (aI (aa (ah (sr (mI (bJ ?_))))))
       refine bO hh 3 ?_
       refine mI ?_
       refine aF (k := i) aG.out aD.size rfl rfl (by omega) (by omega) (by decide) ?_
       refine aM aD.out rfl ((s1.ext hh.below).ea (by assumption)) (by decide) ?_
       refine aJ (mB ?_)
       first | refine gS ?_ | (refine gT ?_; refine mI ?_) | refine gV ?_
       first | refine gS ?_ | (refine gT ?_; refine bT ?_) | refine gV ?_
       first | refine cQ ?_ | refine cP ?_
       refine aa (cT (sr ?_))
       refine fh [_,_] ?_
       refine bP hh 2 [_,_] ?_
       intro ws hh
       replace hh : Hp _ (_ :: _ :: .blk _ _ [_, _] _ :: _) _ := hh
       refine aI (aa (aq (aH (bM (aH (aH (bM (aH ?_))))))))
       refine nV (a6 rfl (a7 (vs := [_, _]) aD.out (hh.ax (i := 2) (n := 2) rfl rfl) rfl) (cU (dR rfl) bx)) ?_
       exact .inl ⟨.inr ⟨h0, by rw [hr1]; decide, by rw [hr1]; rfl⟩, hh.below⟩
      ·refine sr ?_
       refine aJ (aa (ah (cT (ak (ai (ah (aj (sr (mI ?_)))))))))
       refine aF (k := i) aG.out aD.size rfl rfl (by omega) (by omega) (by decide) ?_
       refine aM aD.out rfl ((s2.ext hh.below).ea (by assumption)) (by decide) ?_
       refine aI (aI (aa (ah (sr (mI (bJ ?_))))))
       refine bO hh 3 ?_
       refine mI ?_
       refine aF (k := i) aG.out aD.size rfl rfl (by omega) (by omega) (by decide) ?_
       refine aM aD.out rfl ((s1.ext hh.below).ea (by assumption)) (by decide) ?_
       refine aJ (mB ?_)
       first | refine gS ?_ | (refine gT ?_; refine mI ?_) | refine gV ?_
       first | refine gS ?_ | (refine gT ?_; refine bT ?_) | refine gV ?_
       first | refine cQ ?_ | refine cP ?_
       refine aa (cF (ak (ai ?_)))
       refine aN 10 [[(7, none)], [(43, some 0)], [(9, none)], [(2, none)], [(46, some 3)], [(8, none)], [(47, some 4), (48, some 5)], [(49, some 6)], [(45, some 2), (50, some 7)], [(51, some 8)]] [(9, 52), (8, 51), (7, 50), (6, 49), (5, 48), (4, 47), (3, 46), (2, 45), (1, 44), (0, 43)] hh mixed (by kernel_rfl) ?_
       refine dI ?_
       refine ef 1 ?_
       refine dD ?_
       refine dI ?_
       refine ef 3 ?_
       refine dD ?_
       refine iK (i) ?_
       refine aU (i := 7) (fun ρ1 w1 hj hR => cx aD.out (show ρ1 49 = Value.pointer _ from hR.1) ((s1.ext hj.hp.below).ea (by assumption))) ?_
       refine p8 ?_
       refine ry [_] ?_
       refine bo ?_
       intro f W hJ hV
       have hb_12 := hJ.bl
       obtain ⟨v52, v51, v50, v49, v48, v47, v46, v45, v44, v43, _⟩ := hV
       obtain ⟨A52, c52, e52, f52⟩ : Rows _ _ _ (f 9) W := v52
       replace hh := hJ.hp
       refine aY (bm (ae e52 (ae v51 (ae v50 (ae v49 (ae v48 (ae v47 (ae v46 (ae v45 (ae v44 (ae v43 aX))))))))))) ?_
       dsimp only [cj]
       clear e52 hJ
       refine cv hh (i := 0) rfl rfl rfl (f52) aG.out aD.out rfl (by decide) (by first | rfl | exact cq _ | exact bX _ | exact bD _ | exact bW NR.one _) (by omega) (by omega) (by decide) ?_
       intro A53 c53 w53 hh
       simp only [List.set_cons_zero] at hh
       refine bJ ?_
       refine bP hh 1 [_] ?_
       intro ws hh
       replace hh : Hp _ (_ :: .blk _ _ [_, _] _ :: _) _ := hh
       refine aE (aZ (ai (ao ?_)))
       refine bu (mI (aE (ai ?_)))
       rw [← hA1] at hh
       replace hh := hh.sub (List.Sublist.cons_cons _ (List.Sublist.cons_cons _ (List.Sublist.cons_cons _ (List.Sublist.cons_cons _ List.Sublist.slnil))))
       refine ⟨⟨i + 1, c53, A53, by omega, rfl, kF hall hd he (by unfold ia; rw [decide_eq_false]; show ¬(e < d ∨ 127 < e); omega), ?_⟩, by show q - (i + 1) < q - i; omega, ?_⟩
       ·rw [aO hde, qK]
        exact hh
       ·(repeat (first | exact av _ _ _ | refine aC rfl ?_ | refine ar rfl ?_))
    ·obtain rfl : i = q := by omega
     rw [List.take_of_length_le (by omega), List.take_of_length_le (by omega)] at hall
     have hdeg := hv.AB
     have hnum := hv.num
     have hlow := hv.low
     have hlen := hv.len
     have hfew := hv.AF
     rw [hdeg] at hall hln
     obtain ⟨ts, rfl, hlt2, hle, ht127⟩ := rE (by rw [hln]; omega) hall
     have hnl : ns.length = f.n := by rw [← cd]; exact hln
     have htn : (bf ts).map Int.toNat = ts := eO ts
     have hnn : f.ds.map Int.toNat = ns := by rw [hdeg]; exact eO ns
     have hrz : j5 f.ds (bf ts) = if 4096 < ay ts then 3 else 0 := by
      unfold j5
      rw [hdeg, if_neg (by rw [cd, cd]; omega), if_neg (by rw [hall]; decide), htn]
     rw [htn, hnn] at hM
     rw [htn, hnn, hrz, ← hxs]
     rw [hrz] at hM
     have hbig := fun w1 hS1 => mC E i cE ts w1 hS1 hq (fun d hd => by have := ht127 d hd; omega)
     have hany : ts.any (fun d => decide (127 < d)) = false := List.any_eq_false.2 fun d hd => by have := ht127 d hd; simp; omega
     by_cases h4 : 4096 < ay ts
     ·have hb1 : iX ts = true := by unfold iX; rw [decide_eq_true h4, Bool.or_true]
      rw [hb1] at hbig
      rw [if_pos h4]
      refine sr ?_
      refine aJ (aa (ah (cF ?_)))
      refine aP ?_
      refine aw (aw (bj (ai (ah (sr (mL ?_))))))
      refine bH hh (hbig _ (hE.ext hh.below)) rfl ?_
      intro w57 hh
      refine aa (cT (sr ?_))
      refine fh [_,_] ?_
      refine bP hh 2 [_,_] ?_
      intro ws hh
      replace hh : Hp _ (_ :: _ :: .blk _ _ [_, _] _ :: _) _ := hh
      refine aI (aa (aq (aH ?_)))
      refine nV (a6 rfl (a7 (vs := [_, _]) aD.out (hh.ax (i := 2) (n := 2) rfl rfl) rfl) (cU (dR rfl) bx)) ?_
      exact .inl ⟨.inr ⟨h0, by decide, rfl⟩, hh.below⟩
     ·have hb1 : iX ts = false := by unfold iX; rw [hany, decide_eq_false h4]; rfl
      rw [hb1] at hbig
      rw [if_neg h4] at hM
      rw [if_neg h4]
      have hM2 := hM h0 rfl
      have hsl : (dL ts ns).length = i := by rw [iA (by omega), ← cd]; exact hlq
      have hsub : ∀ d ∈ dL ts ns, d ≤ 127 := fun d hd => by
       obtain ⟨j, hj⟩ := List.mem_iff_getElem?.1 hd
       have hj2 := (List.getElem?_eq_some_iff.1 hj).1
       obtain ⟨x, hx⟩ := au (l := ts) (k := j) (by rw [cd] at hlq; omega)
       obtain ⟨y, hy⟩ := au (l := ns) (k := j) (by omega)
       rw [ue hx hy] at hj
       have := ht127 x (List.mem_of_getElem? hx)
       have := Option.some.inj hj
       omega
      have hcs : ay (dL ts ns) ≤ ay ts := jX (by rw [hsl, ← cd]; exact hlq.symm) fun j x y hx hy => by
       have hj2 := (List.getElem?_eq_some_iff.1 hx).1
       obtain ⟨z, hz⟩ := au (l := ns) (k := j) (by omega)
       rw [ue hy hz] at hx
       have := Option.some.inj hx
       omega
      have hadd : cI ns (dL ts ns) = ts := jY hlt2 hle
      have hdif : zv (bf ts) f.ds = bf (dL ts ns) := by rw [hdeg]; exact tZ hlt2 hle
      have hwn : vc (dL ts ns) = ((nW (dL ts ns)).map nD).map nR := by unfold vc; rw [List.map_map]; rfl
      have hw12 : (dL ts ns).length ≤ 12 := by omega
      have hwz : ∀ y ∈ (nW (dL ts ns)).map nD, Sz 1600 y := fun y hy => by
       obtain ⟨x, hx, rfl⟩ := List.mem_map.1 hy
       exact vu hx hw12 hsub
      have hxz : ∀ x ∈ xs, Sz k x := fun x hx => by
       rw [hxs] at hx
       obtain ⟨c, hc, rfl⟩ := List.mem_map.1 hx
       exact (hl.num c hc).2
      have hpair : ay (dL ts ns) * ay ns ≤ ay ts * ay ns := Nat.mul_le_mul_right _ hcs
      have hfm : f.m = ay ns := by rw [← hlm, hnum, List.length_map, hlen]
      have htm := fun w1 hT1 A B c3 c4 h1 h2 h3 h4' => ky f.A f.B A B i f.a f.b c3 c4 ns (dL ts ns) xs ((nW (dL ts ns)).map nD) k 1600 w1 hT1 h1 h2 h3 h4' (by omega) hlow hsub (by rw [hadd]; omega) (by omega) hxz hwz (by omega)
      rw [hadd] at htm
      have hdg := hf.dg
      have hnm := hf.nm
      rw [hdeg] at hdg
      rw [hnum, hfm] at hnm
      rw [List.take_of_length_le (by rw [hdif, cd]; omega), hdif] at hh
      rw [hfm] at hh
      rw [show f.n = i by omega] at hh hdg
      refine sr ?_
      refine aJ (aa (ah (cF ?_)))
      refine aP ?_
      refine aw (aw (bj (ai (ah (sr (mL ?_))))))
      refine bH hh (hbig _ (hE.ext hh.below)) rfl ?_
      intro w57 hh
      refine aa (cF (ak (ai (sr (bJ ?_)))))
      refine bO hh 1 ?_
      refine aT (mG A i c7 (dL ts ns) _ (hT.hp hh) (hh.aW (i := 0) rfl) hw12 hsub (by omega)) az.out rfl (by decide) ?_
      rintro e_ w61 ⟨A61, c61, rfl, hown_, hb_⟩
      refine ⟨_, rfl, ?_⟩
      replace hh := hh.bs (x := .row _ _ _ _ _ _) hb_ hown_
      rw [hwn] at hh
      refine bJ ?_
      refine bP hh 2 [_] ?_
      intro ws hh
      replace hh : Hp _ (_ :: _ :: .blk _ _ [_, _] _ :: _) _ := hh
      refine aa (sr ?_)
      refine cz hh 4 [_,_] ?_
      refine cz hh 2 [_,_] ?_
      refine aT (htm _ (hT.hp hh) _ _ _ _ (hdg.ext hh.below) (hnm.ext hh.below) (hh.aW (i := 1) rfl) (hh.aW (i := 0) rfl)) az.out rfl (by decide) ?_
      rintro e_ w65 ⟨Ar, cr, Br, br, rfl, h2⟩
      refine ⟨_, rfl, ?_⟩
      replace hh := hh.join h2
      clear h2
      refine bP hh 5 [_,_] ?_
      intro ws hh
      replace hh : Hp _ (_ :: _ :: _ :: _ :: _ :: .blk _ _ [_, _] _ :: _) _ := hh
      refine aI (aa (aq ?_))
      refine nV (a6 rfl (a7 (vs := [_, _]) aD.out (hh.ax (i := 5) (n := 2) rfl rfl) rfl) (cU (dR rfl) bx)) ?_
      exact .inr ⟨h0, rfl, _, _, _, _, rfl, hh.sub (List.Sublist.cons_cons _ (List.Sublist.cons_cons _ (List.nil_sublist _)))⟩
  ·have hrz : j5 f.ds es = 1 := by unfold j5; rw [if_pos (by omega)]
   refine al (N := 66) (l := [.agg #[.slice f.A f.n f.a, .slice f.B f.m f.b], .slice E q cE]) Tryz.func23 rfl rfl (by simp) ?_
   refine sr ?_
   refine cS hh [_,_] ?_
   intro b2 w2 hh
   refine cG hh ?_
   intro b4 w4 hh
   refine aI (aa (ah (sr ?_)))
   refine cz hh 1 [_,_] ?_
   refine bH hh (hck _ (hT.hp hh) hh.below) rfl ?_
   intro w11 hh
   refine aI (aa (sr (mI ?_)))
   refine dn (aa (cF (ak (ai (ah (sr (mL (aV (bJ ?_)))))))))
   refine bO hh 1 ?_
   refine aV ?_
   refine dn (aa (cT (sr ?_)))
   refine fh [_,_] ?_
   refine bP hh 0 [_,_] ?_
   intro ws hh
   replace hh : Hp _ (.blk _ _ [_, _] _ :: _) _ := hh
   refine aI (aa (aq (aH ?_)))
   refine nV (a6 rfl (a7 (vs := [_, _]) aD.out (hh.ax (i := 0) (n := 2) rfl rfl) rfl) (cU (dR rfl) bx)) ?_
   exact .inl ⟨.inr ⟨h0, by rw [hrz]; decide, by rw [hrz]; rfl⟩, hh.below⟩
 ·refine al (N := 66) (l := [.agg #[.slice f.A f.n f.a, .slice f.B f.m f.b], .slice E q cE]) Tryz.func23 rfl rfl (by simp) ?_
  refine sr ?_
  refine cS hh [_,_] ?_
  intro b2 w2 hh
  refine cG hh ?_
  intro b4 w4 hh
  refine aI (aa (ah (sr ?_)))
  refine cz hh 1 [_,_] ?_
  refine bH hh (hck _ (hT.hp hh) hh.below) rfl ?_
  intro w11 hh
  refine aI (aa (sr (mI ?_)))
  refine dn (aa (cT (sr ?_)))
  refine fh [_,_] (mI ?_)
  refine bP hh 0 [_,_] ?_
  intro ws hh
  replace hh : Hp _ (.blk _ _ [_, _] _ :: _) _ := hh
  refine aI (aa (aq (aH ?_)))
  refine nV (a6 rfl (a7 (vs := [_, _]) aD.out (hh.ax (i := 0) (n := 2) rfl rfl) rfl) (cU (dR rfl) bx)) ?_
  exact .inl ⟨.inl ⟨h0, rfl⟩, hh.below⟩
end Go.Proofs.YtioilmppidlbnaaGreatDoor
/- The walk through lift.raised. -/
namespace Go.Proofs.YtioilmppidlbnaaGreatDoor
open Go.RowKit
def FX.dZ (f : FX) : HE := .row f.B f.m f.b 39 3 (bR NR.cells f.cs)
def FX.dV (f : FX) : HE := .row f.A f.n f.a 3 1 (bA f.ds)
def gW : List FX → List HE
 | [] => []
 | f :: fs => f.dZ :: f.dV :: gW fs
theorem pN (a b : List FX) : gW (a ++ b) = gW a ++ gW b := by
 induction a with
 | nil => rfl
 | cons f a ih => rw [List.cons_append, gW, gW, ih]; rfl
theorem uH {f : FX} {fs : List FX} (h : f ∈ fs) : f.dZ ∈ gW fs ∧ f.dV ∈ gW fs := by
 induction fs with
 | nil => cases h
 | cons g fs ih =>
  rcases List.mem_cons.1 h with rfl | h
  ·exact ⟨List.mem_cons_self, List.mem_cons_of_mem _ List.mem_cons_self⟩
  ·exact ⟨List.mem_cons_of_mem _ (List.mem_cons_of_mem _ (ih h).1), List.mem_cons_of_mem _ (List.mem_cons_of_mem _ (ih h).2)⟩
theorem Hp.lW {w0 w : World} {H : List HE} (h : Hp w0 H w) {f : FX} (h1 : f.dZ ∈ H) (h2 : f.dV ∈ H) : f.at_ w := ⟨iS (h.own _ h2), iS (h.own _ h1)⟩
def fw (a b : List Nat) : List Nat := List.zipWith max a b
def maxD (fs : List FX) : List Nat := fs.foldl (fun a f => fw a (f.ds.map Int.toNat)) ((fs.map fun f => f.ds.map Int.toNat).headD [])
def bZ (fs : List FX) : Int := if eo fs ≠ 0 then eo fs else if 4096 < ay (maxD fs) then 3 else 0
theorem hO {fs : List FX} (h : eo fs = 0) : fs ≠ [] ∧ (∀ f ∈ fs, f.e = 0) ∧ ∀ f ∈ fs, f.n = (fs.map FX.n).headD 0 := by
 unfold eo at h
 split at h
 ·rename_i f hf
  have := List.find?_some hf
  simp at this
  exact absurd h this
 ·rename_i hf
  split at h
  ·cases h
  rename_i hno
  refine ⟨fun e => hno (.inl (by rw [e]; rfl)), fun f hm => ?_, fun f hm => ?_⟩
  ·have := List.find?_eq_none.1 hf f hm
   simpa using this
  ·apply Classical.byContradiction
   intro hne
   exact hno (.inr (List.any_eq_true.2 ⟨f, hm, decide_eq_true hne⟩))
theorem iI {a b : List Nat} (h : a.length = b.length) : (fw a b).length = a.length := by simp [fw, h]
theorem pK {a b : List Nat} {i x y : Nat} (h1 : a[i]? = some x) (h2 : b[i]? = some y) : (fw a b)[i]? = some (max x y) := by
 unfold fw
 rw [List.getElem?_zipWith, h1, h2]
theorem mc : ∀ (ls : List (List Nat)) (a : List Nat), (∀ l ∈ ls, l.length = a.length) → (ls.foldl fw a).length = a.length ∧ (∀ (i x y : Nat), a[i]? = some x → (ls.foldl fw a)[i]? = some y → x ≤ y) ∧ ∀ l ∈ ls, ∀ (i x y : Nat), l[i]? = some x → (ls.foldl fw a)[i]? = some y → x ≤ y
 | [], a, _ => ⟨rfl, fun i x y h1 h2 => by have h3 : a[i]? = some y := h2; rw [h1] at h3; cases h3; exact Nat.le_refl _, fun _ h => nomatch h⟩
 | l :: ls, a, h => by
  have hl := h l List.mem_cons_self
  have h2 := iI hl.symm
  obtain ⟨h3, h4, h5⟩ := mc ls (fw a l) fun m hm => by rw [h2]; exact h m (List.mem_cons_of_mem _ hm)
  refine ⟨by rw [List.foldl_cons, h3, h2], fun i x y hx hy => ?_, fun m hm i x y hx hy => ?_⟩
  ·have hi := (List.getElem?_eq_some_iff.1 hx).1
   obtain ⟨z, hz⟩ := au (l := l) (k := i) (by omega)
   have := h4 i (max x z) y (pK hx hz) hy
   omega
  ·rcases List.mem_cons.1 hm with rfl | hm
   ·have hi := (List.getElem?_eq_some_iff.1 hx).1
    obtain ⟨z, hz⟩ := au (l := a) (k := i) (by omega)
    have := h4 i (max z x) y (pK hz hx) hy
    omega
   ·exact h5 m hm i x y hx hy
theorem pB (B : Nat) : ∀ (ls : List (List Nat)) (a : List Nat), (∀ x ∈ a, x ≤ B) → (∀ l ∈ ls, ∀ x ∈ l, x ≤ B) → ∀ x ∈ ls.foldl fw a, x ≤ B
 | [], _, h, _ => h
 | l :: ls, a, h, h2 => pB B ls (fw a l) (fun x hx => by
   obtain ⟨i, hi⟩ := List.mem_iff_getElem?.1 hx
   unfold fw at hi
   rw [List.getElem?_zipWith] at hi
   cases h3 : a[i]? with
   | none => rw [h3] at hi; cases hi
   | some p =>
    cases h4 : l[i]? with
    | none => rw [h3, h4] at hi; cases hi
    | some q =>
     rw [h3, h4] at hi
     have h5 : max p q = x := by simpa using hi
     have := h p (List.mem_of_getElem? h3)
     have := h2 l List.mem_cons_self q (List.mem_of_getElem? h4)
     omega) fun m hm => h2 m (List.mem_cons_of_mem _ hm)
end Go.Proofs.YtioilmppidlbnaaGreatDoor
/- The walk through lift.raised. -/
namespace Go.Proofs.YtioilmppidlbnaaGreatDoor
open Go.RowKit
def FX.ns (f : FX) : List Nat := f.ds.map Int.toNat
theorem FX.fv {f : FX} (h : f.e = 0) : f.ds = bf f.ns ∧ f.cs = (f.cs.map NR.d).map nR ∧ f.ns.length ≤ 12 ∧ (∀ d ∈ f.ns, d ≤ 127) ∧ f.cs.length = ay f.ns ∧ ay f.ns ≤ 4096 := by
 obtain ⟨ns, xs, hv, hxs⟩ := vA h
 obtain ⟨h1, h2, h3, h4, h5, h6⟩ := hv
 have e : f.ns = ns := by unfold FX.ns; rw [h1]; exact eO ns
 subst hxs
 rw [e]
 exact ⟨h1, h2, h3, h4, by simpa using h5, h6⟩
structure o0 (D : List Nat) (ys : List Dyadic) (g : FX) : Prop where
 ds : g.ds = bf D
 cs : g.cs = ys.map nR
 n : g.n = D.length
 m : g.m = ay D
def fQ (D : List Nat) (f : FX) : List Dyadic := ib f.ns D (f.cs.map NR.d)
def ks (a b : List Nat) (j : Nat) : List Nat := (fw a b).take j ++ a.drop j
theorem qx {a b : List Nat} {j x y : Nat} (h : a.length = b.length) (hx : a[j]? = some x) (hy : b[j]? = some y) : (bf (ks a b j)).set j ((max x y : Nat) : Int) = bf (ks a b (j + 1)) := by
 have hj := (List.getElem?_eq_some_iff.1 hx).1
 unfold ks
 rw [jM hx, aO (pK hx hy)]
 have hl : (bf ((fw a b).take j)).length = j := by rw [cd, List.length_take, iI h]; omega
 have e1 : bf ((fw a b).take j ++ x :: a.drop (j + 1)) = bf ((fw a b).take j) ++ (x : Int) :: bf (a.drop (j + 1)) := by simp [bf]
 rw [e1, kT _ _ _ _ _ hl]
 simp [bf]
theorem ud {a b : List Nat} {j x : Nat} (h : a.length = b.length) (hx : a[j]? = some x) : (ks a b j)[j]? = some x := by
 have hj := (List.getElem?_eq_some_iff.1 hx).1
 have hl : ((fw a b).take j).length = j := by rw [List.length_take, iI h]; omega
 unfold ks
 rw [List.getElem?_append_right (by omega), hl, Nat.sub_self, List.getElem?_drop, Nat.add_zero, hx]
theorem rl {a b : List Nat} {j : Nat} (h : a.length = b.length) (hj : j ≤ a.length) : (ks a b j).length = a.length := by
 unfold ks
 rw [List.length_append, List.length_take, iI h, List.length_drop]
 omega
theorem ka (L : Option Addr) (n c : Nat) (fs : List FX) (k : Nat) (w : World) (hT : gH w) (hL : Sl w L n 2 (bR FX.cells fs)) (hn : n ≤ 1000) (hf : ∀ f ∈ fs, f.at_ w) (hl : ∀ f ∈ fs, f.gJ k) (hm : ∀ f ∈ fs, f.m ≤ 200) (hk : k ≤ 90000) :
  Calls Tryz.prog 54 #[.slice L n c] w fun r w' => (bZ fs ≠ 0 ∧ r = .returned (.tuple #[.slice none 0 0, .int .i64 (bZ fs)]) ∧ Below w.heap.size w w') ∨
   (bZ fs = 0 ∧ ∃ (A : Option Addr) (a : Nat) (gs : List FX), r = .returned (.tuple #[.slice A n a, .int .i64 0]) ∧ gs.length = n ∧ (∀ (i : Nat) (f g : FX), fs[i]? = some f → gs[i]? = some g → o0 (maxD fs) (fQ (maxD fs) f) g) ∧ Hp w (.row A n a 28 2 (bR FX.cells gs) :: gW gs.reverse) w') := by
 have hh := Hp.start w
 have hln := hL.di FX.len (by decide)
 have hlk := fun w1 hT1 hb => lV L n c fs k w1 hT1 (hL.ext hb) (by omega) (fun f hm => (hf f hm).ext hb) hl
 unfold bZ
 by_cases h0 : eo fs = 0
 ·obtain ⟨hne, hev, hnv⟩ := hO h0
  obtain ⟨f0, h00⟩ := au (l := fs) (k := 0) (List.length_pos_iff.2 hne)
  have hm0 := List.mem_of_getElem? h00
  have hnn : ∀ f ∈ fs, f.n = f0.n := fun f hm => by
   rw [hnv f hm]
   rcases fs with _ | ⟨g, l⟩
   ·cases h00
   ·have : g = f0 := by simpa using h00
    rw [← this]; rfl
  have hnsl : ∀ f ∈ fs, f.ns.length = f0.n := fun f hm => by
   have h1 := (hf f hm).dg.1
   rw [bK] at h1
   have h2 := hnn f hm
   unfold FX.ns
   rw [List.length_map]
   omega
  have hlow : ∀ f ∈ fs, ∀ d ∈ f.ns, d ≤ 127 := fun f hm => (FX.fv (hev f hm)).2.2.2.1
  have hdsn : ∀ f ∈ fs, f.ds = bf f.ns := fun f hm => (FX.fv (hev f hm)).1
  have h12 : f0.n ≤ 12 := by have := (FX.fv (hev f0 hm0)).2.2.1; rw [hnsl f0 hm0] at this; exact this
  have hDe : maxD fs = (fs.map FX.ns).foldl fw f0.ns := by
   unfold maxD
   rw [List.foldl_map]
   congr 1
   rcases fs with _ | ⟨g, l⟩
   ·cases h00
   ·have : g = f0 := by simpa using h00
    rw [← this]; rfl
  obtain ⟨ad, rfl, hr⟩ := hL.at_ (by have := (List.getElem?_eq_some_iff.1 h00).1; omega)
  have hn0 : 0 < n := by have := (List.getElem?_eq_some_iff.1 h00).1; omega
  rw [if_neg (by omega)]
  have hA0 := hnsl f0 hm0
  have hF := fun i => mc ((fs.take i).map FX.ns) f0.ns fun l hl => by
   obtain ⟨f, hf2, rfl⟩ := List.mem_map.1 hl
   rw [hnsl f (List.mem_of_mem_take hf2), hA0]
  refine al (N := 71) (l := [.slice (some ad) n c]) Tryz.func54 rfl rfl (by simp) ?_
  refine sr (aL (aI (aa (ah (sr (mL ?_))))))
  refine bH hh (hlk _ (hT.hp hh) hh.below) rfl ?_
  intro w16 hh
  refine aI (aa (sr (mI ?_)))
  refine dn (aa (cF (ak (ai (sr (mL ?_))))))
  refine aF (k := 0) aG.out aD.size rfl rfl (by omega) (by omega) (by decide) ?_
  refine gB eE.out rfl (by decide) ?_
  refine aM aD.out rfl (cJ hh.below ((hr.recAt FX.len h00) 0 _ rfl)) (by decide) ?_
  refine aT (iW f0.A f0.n f0.a f0.ds _ ((hf f0 hm0).dg.ext hh.below) (by have := (hl f0 hm0).yO; omega)) az.out rfl (by decide) ?_
  rintro e_ w24 ⟨A24, c24, rfl, hown_, hb_⟩
  refine ⟨_, rfl, ?_⟩
  replace hh := hh.bs (x := .row _ _ _ _ _ _) hb_ hown_
  refine aL (aa (ah (sr (mL (aV (mI (aa (aj ?_))))))))
  rw [hdsn f0 hm0] at hh
  refine bq [7, 8, 9, 27, 28, 29, 30, 31, 32, 33, 34, 35, 36, 37, 38, 39, 40, 41, 42, 43, 44, 45, 46, 47, 48, 49] 27
   (fun v w' => ∃ i : Nat, i ≤ n ∧ v = .int .i64 i ∧ Hp w [.row A24 f0.n c24 3 1 (bA (bf (((fs.take i).map FX.ns).foldl fw f0.ns)))] w')
   (fun v _ => n - (intOf v).toNat) ?_ ?_
  ·exact ⟨0, Nat.zero_le _, rfl, hh⟩
  ·clear hh
   rintro ρ' v w' ⟨i, hi, rfl, hh⟩
   by_cases hlt : i < n
   ·obtain ⟨f, hx⟩ := au (l := fs) (k := i) (by omega)
    have hmem := List.mem_of_getElem? hx
    have hfold : ((fs.take (i + 1)).map FX.ns).foldl fw f0.ns = fw (((fs.take i).map FX.ns).foldl fw f0.ns) f.ns := by rw [aO hx, List.map_append, List.foldl_append]; rfl
    have hal := (hF i).1
    generalize ((fs.take i).map FX.ns).foldl fw f0.ns = a at *
    have hab : a.length = f.ns.length := by rw [hal, hA0, hnsl f hmem]
    have hfd := hdsn f hmem
    have hfn := hnn f hmem
    have hfl := hnsl f hmem
    refine sr ?_
    refine aJ (aa (ah (cT (ak (ai (ah (aj (sr ?_))))))))
    refine aF (k := i) aG.out aD.size rfl rfl (by omega) (by omega) (by decide) ?_
    refine cK (vs := [_, _]) aD.out rfl ((hr.ext hh.below).recAt FX.len hx) rfl (by decide) ?_
    refine cG hh ?_
    intro b7 w7 hh
    refine bP hh 0 [_,_] ?_
    intro ws hh
    replace hh : Hp _ (.blk _ _ [_, _] _ :: _) _ := hh
    refine aa (sr (bJ ?_))
    refine bO hh 0 ?_
    refine aV (mI (aa (aj ?_)))
    refine bq [8, 9, 34, 35, 36, 37, 38, 39, 40, 41, 42, 43, 44, 45, 46, 47, 48] 34
     (fun v w' => ∃ j : Nat, j ≤ f0.n ∧ v = .int .i64 j ∧ Hp w [.blk b7 28 [.slice f.A f.n f.a, .slice f.B f.m f.b] (0, 0), .row A24 f0.n c24 3 1 (bA (bf (ks a f.ns j)))] w')
     (fun v _ => f0.n - (intOf v).toNat) ?_ ?_
    ·refine ⟨0, Nat.zero_le _, rfl, ?_⟩
     show Hp w [_, .row A24 f0.n c24 3 1 (bA (bf (List.take 0 _ ++ List.drop 0 a)))] _
     rw [List.take_zero, List.nil_append, List.drop_zero]
     exact hh
    ·clear hh
     rintro ρ2 v w2 ⟨j, hj, rfl, hh⟩
     by_cases hjn : j < f0.n
     ·obtain ⟨x, hxa⟩ := au (l := a) (k := j) (by omega)
      obtain ⟨y, hyb⟩ := au (l := f.ns) (k := j) (by omega)
      have hgx := bG (cZ (ud hab hxa))
      have hgy : (bA f.ds)[j]? = some (.int .i64 (y : Int)) := by rw [hfd]; exact bG (cZ hyb)
      have hml : (bA (bf (ks a f.ns j))).length = f0.n := by rw [bK, cd, rl hab (by omega)]; omega
      obtain ⟨a2, hA2, s2⟩ := (hf f hmem).dg.at_ (by omega)
      have hev : Value.slice f.A f.n f.a = .slice (some a2) f.n f.a := by rw [hA2]
      obtain ⟨gd, rfl⟩ := hh.dw (i := 1) rfl (by omega)
      refine sr ?_
      refine aJ (aa (ah (cT (ak (ai (ah (aj (sr (mI ?_)))))))))
      refine aF (k := j) aG.out aD.size hev rfl (by omega) (by omega) (by decide) ?_
      refine aM aD.out rfl (cJ hh.below (s2.ea hgy)) (by decide) ?_
      refine aI (aI (aa (ao (mL (mI (mL (mI ?_)))))))
      refine bk (k := j) aG.out aD.size rfl rfl (by omega) (by omega) (by decide) ?_
      refine aM aD.out rfl (hh.ck (i := 1) rfl (by first | assumption | (simp only [Nat.mul_one]; assumption))) (by decide) ?_
      refine mI ?_
      refine ji rfl rfl (by decide) ?_
      refine bk aG.out aD.size rfl rfl rfl (by omega) (by decide) ?_
      have hmx : (if (y : Int) > (x : Int) then (y : Int) else (x : Int)) = ((max x y : Nat) : Int) := by split <;> omega
      refine bz hh (i := 1) (vs := [_]) rfl rfl (bQ rfl) rfl aD.out rfl (by omega) rfl ?_
      intro ws hh
      simp only [List.set_cons_zero, List.set_cons_succ] at hh
      rw [hmx, eH _ (by rw [← bK]; omega), qx hab hxa hyb] at hh
      refine aE (aZ (ai (ao ?_)))
      refine bu (mI (aE (ai ?_)))
      refine ⟨⟨j + 1, by omega, rfl, hh⟩, by show f0.n - (j + 1) < f0.n - j; omega, ?_⟩
      (repeat (first | exact av _ _ _ | refine aC rfl ?_ | refine ar rfl ?_))
     ·obtain rfl : j = f0.n := by omega
      have hmf : ks a f.ns f0.n = fw a f.ns := by
       unfold ks
       rw [List.take_of_length_le (by rw [iI hab]; omega), List.drop_of_length_le (by omega), List.append_nil]
      rw [hmf, ← hfold] at hh
      refine sr ?_
      refine aJ (aa (ah (cF ?_)))
      refine aP ?_
      refine aw (aw (bj (aZ (ai (ao ?_)))))
      refine bu (mI (aE (ai ?_)))
      replace hh := hh.sub (List.Sublist.cons _ (List.Sublist.cons_cons _ List.Sublist.slnil))
      refine ⟨⟨i + 1, by omega, rfl, hh⟩, by show n - (i + 1) < n - i; omega, ?_⟩
      (repeat (first | exact av _ _ _ | refine aC rfl ?_ | refine ar rfl ?_))
   ·obtain rfl : i = n := by omega
    have hDl := (hF i).1
    have hDg := fun (f : FX) (hm : f ∈ fs) => (hF i).2.2 f.ns (List.mem_map.2 ⟨f, by rw [List.take_of_length_le (by omega)]; exact hm, rfl⟩)
    have hDb := pB 127 ((fs.take i).map FX.ns) f0.ns (hlow f0 hm0) fun l hl => by
     obtain ⟨f, hf2, rfl⟩ := List.mem_map.1 hl
     exact hlow f (List.mem_of_mem_take hf2)
    rw [List.take_of_length_le (by omega), ← hDe] at hDl hDb hh
    simp only [List.take_of_length_le (show fs.length ≤ i by omega), ← hDe] at hDg
    clear hF hDe
    generalize maxD fs = D at *
    have hrz : ∀ f ∈ fs, j5 f.ds (bf D) = if 4096 < ay D then 3 else 0 := fun f hm => by
     unfold j5
     have e1 : (f.ds.zip (bf D)).any ia = false := List.any_eq_false.2 fun p hp => by
      obtain ⟨j, hj⟩ := List.mem_iff_getElem?.1 hp
      rw [List.getElem?_zip_eq_some] at hj
      obtain ⟨j1, j2⟩ := hj
      rw [hdsn f hm] at j1
      unfold bf at j1 j2
      rw [List.getElem?_map] at j1 j2
      obtain ⟨x, hx, hx2⟩ := Option.map_eq_some_iff.1 j1
      obtain ⟨y, hy, hy2⟩ := Option.map_eq_some_iff.1 j2
      have := hDg f hm j x y hx hy
      have := hDb y (List.mem_of_getElem? hy)
      unfold ia
      rw [decide_eq_true_eq]
      omega
     rw [if_neg (by rw [cd, hdsn f hm, cd, hnsl f hm]; omega), if_neg (by rw [e1]; decide), eO]
    refine sr ?_
    refine aJ (aa (ah (cF ?_)))
    refine aP ?_
    refine aw (aw (bj (ai (sr (aL (aa (ah (sr (mL (aV (mI ?_)))))))))))
    refine aa (aj ?_)
    replace hh := hh.ed 28 2
    refine bY [2, 3, 10, 12, 13, 14, 52, 53, 54, 55, 56, 57, 58, 59, 60, 61, 62, 63, 64, 65, 66, 67, 68, 69] 10 52
     (fun v10 v w' => ∃ (j c10 : Nat) (A : Option Addr) (gs : List FX), j ≤ i ∧ v = .int .i64 j ∧ v10 = .slice A j c10 ∧ gs.length = j ∧ (0 < j → ¬ 4096 < ay D) ∧ (∀ (t : Nat) (f g : FX), fs[t]? = some f → gs[t]? = some g → o0 D (fQ D f) g) ∧ Hp w (.row A j c10 28 2 (bR FX.cells gs) :: .row A24 f0.n c24 3 1 (bA (bf D)) :: gW gs.reverse) w')
     (fun _ v _ => i - (intOf v).toNat) ?_ ?_
    ·exact ⟨0, 0, none, [], Nat.zero_le _, rfl, rfl, rfl, fun h => absurd h (Nat.lt_irrefl 0), fun t f g _ h => by simp at h, hh⟩
    ·clear hh
     rintro ρ' v10 v w' ⟨j, c10, A, gs, hj, rfl, rfl, hgl, hno, hup, hh⟩
     by_cases hlt : j < i
     ·obtain ⟨f, hx⟩ := au (l := fs) (k := j) (by omega)
      have hmem := List.mem_of_getElem? hx
      refine sr ?_
      refine aJ (aa (ah (cT (ak (ai (ah (aj (sr ?_))))))))
      refine aF (k := j) aG.out aD.size rfl rfl (by omega) (by omega) (by decide) ?_
      refine cK (vs := [_, _]) aD.out rfl ((hr.ext hh.below).recAt FX.len hx) rfl (by decide) ?_
      refine cG hh ?_
      intro b12 w12 hh
      refine bP hh 0 [_,_] ?_
      intro ws hh
      replace hh : Hp _ (.blk _ _ [_, _] _ :: _) _ := hh
      refine aa (sr ?_)
      refine cz hh 0 [_,_] (mL ?_)
      have hrs := fun w1 hT1 hb hE => k7 f A24 f0.n c24 (bf D) k w1 hT1 ((hf f hmem).ext hb) (hl f hmem) hE (by omega) hk
      rw [hrz f hmem, eO] at hrs
      by_cases h4 : 4096 < ay D
      ·rw [if_pos h4] at hrs
       have hra := fun w1 hT1 hb hE => (hrs w1 hT1 hb hE fun _ h => nomatch h).mono fun r w' h => show r = nw 3 ∧ Below w1.heap.size w1 w' from by
        rcases h with ⟨h | h, hb2⟩ | h
        ·exact absurd (hev f hmem) h.1
        ·exact ⟨h.2.2, hb2⟩
        ·exact nomatch h.2.1
       refine bH hh (hra _ (hT.hp hh) hh.below (hh.aW (i := 2) rfl)) rfl ?_
       intro w59 hh
       refine mT ?_
       refine ee ?_
       refine ee ?_
       refine cG hh ?_
       intro b13 w13 hh
       refine bP hh 0 [_,_] ?_
       intro ws hh
       replace hh : Hp _ (.blk _ _ [_, _] _ :: _) _ := hh
       refine aI (aa (ah (sr (mI ?_))))
       refine dn (aa (cT (sr (mI (aL (aI (aa (aq (aH (bM (aH ?_)))))))))))
       refine aH (bM (aH ?_))
       refine vd ?_
       rw [if_pos h4]
       exact .inl ⟨by decide, rfl, hh.below⟩
      ·rw [if_neg h4] at hrs
       have hnn2 : f.ds.map Int.toNat = f.ns := rfl
       rw [hnn2] at hrs
       have hfc : ay f.ns ≤ 200 := by
        have h1 := (FX.fv (hev f hmem)).2.2.2.2.1
        have h2 := (hf f hmem).nm.di NR.len (by decide)
        have h3 := hm f hmem
        omega
       have hmul : ay D * ay f.ns ≤ 1000000 := Nat.le_trans (Nat.mul_le_mul (Nat.le_of_not_lt h4) hfc) (by decide)
       have hra := fun w1 hT1 hb hE => (hrs w1 hT1 hb hE fun _ _ => hmul).mono fun r w' h => show ∃ g : FX, o0 D (fQ D f) g ∧ r = .returned (.tuple #[.agg #[.slice g.A g.n g.a, .slice g.B g.m g.b], .int .i64 0]) ∧ Hp w1 [g.dZ, g.dV] w' from by
        rcases h with ⟨h | h, hb2⟩ | ⟨_, _, A1, a1, B1, b1, rfl, h2⟩
        ·exact absurd (hev f hmem) h.1
        ·exact absurd rfl h.2.1
        ·exact ⟨⟨A1, f0.n, a1, B1, ay D, b1, bf D, _⟩, ⟨rfl, rfl, by rw [← hA0]; exact hDl.symm, rfl⟩, rfl, h2⟩
       refine aT (hra _ (hT.hp hh) hh.below (hh.aW (i := 2) rfl)) az.out rfl (by decide) ?_
       rintro e_ w59 ⟨g, hu, rfl, h2⟩
       refine ⟨_, rfl, ?_⟩
       replace hh := hh.join h2
       clear h2
       refine mT ?_
       refine ee ?_
       refine ee ?_
       refine cG hh ?_
       intro b13 w13 hh
       refine bP hh 0 [_,_] ?_
       intro ws hh
       replace hh : Hp _ (.blk _ _ [_, _] _ :: _) _ := hh
       refine aI (aa (ah (sr (mI ?_))))
       refine dn (aa (cF (ak (ai (ao (mL ?_))))))
       refine cz hh 0 [_,_] ?_
       refine aK hh (cs := [_, _]) aG.out aD.out (aQ (cA rfl) bF) rfl rfl (by decide) (by decide) (by decide) rfl (by decide) ?_
       intro b67 w67 hh
       refine cv hh (i := 5) rfl rfl rfl (hh.aW (i := 0) rfl) aG.out aD.out rfl (by decide) (by first | rfl | exact cq _ | exact bX _ | exact bD _ | exact bW NR.one _) (by omega) (by omega) (by decide) ?_
       intro A68 c68 w68 hh
       simp only [List.set_cons_succ] at hh
       replace hh := hh.sub (List.sublist_cons_self _ _)
       refine aL (aE (aZ (ai (ao ?_))))
       refine bu (mI (aE (ai ?_)))
       replace hh := hh.sub (List.Sublist.cons _ (List.Sublist.cons_cons _ (List.Sublist.cons_cons _ (List.Sublist.cons _ (List.Sublist.cons_cons _ (List.Sublist.cons_cons _ (List.Sublist.refl _)))))))
       replace hh := hh.perm (H' := .row A68 (j + 1) c68 28 2 (bR FX.cells (gs ++ [g])) :: .row A24 f0.n c24 3 1 (bA (bf D)) :: gW (gs ++ [g]).reverse) (by
        rw [List.reverse_append, dk]
        exact List.perm_append_comm_assoc [g.dZ, g.dV] [_, _] _)
       refine ⟨⟨j + 1, c68, A68, gs ++ [g], by omega, rfl, rfl, by rw [List.length_append, hgl]; rfl, fun _ => h4, fun t f' g' hf' hg' => ?_, hh⟩, by show i - (j + 1) < i - j; omega, ?_⟩
       ·by_cases ht : t < j
        ·rw [List.getElem?_append_left (by omega)] at hg'
         exact hup t f' g' hf' hg'
        ·have htl := (List.getElem?_eq_some_iff.1 hg').1
         rw [List.length_append, hgl] at htl
         obtain rfl : t = j := by have : t < j + 1 := htl; omega
         rw [List.getElem?_append_right (by omega), hgl, Nat.sub_self] at hg'
         rw [hx] at hf'
         obtain rfl := Option.some.inj hf'
         obtain rfl : g = g' := Option.some.inj hg'
         exact hu
       ·(repeat (first | exact av _ _ _ | refine aC rfl ?_ | refine ar rfl ?_))
     ·obtain rfl : j = i := by omega
      have h4 := hno (by omega)
      refine sr ?_
      refine aJ (aa (ah (cF ?_)))
      refine aP ?_
      refine aw (aw (bj (ai (sr (mL (aL (aI (aa (aq ?_)))))))))
      refine vd ?_
      rw [if_neg h4]
      exact .inr ⟨rfl, A, c10, gs, rfl, hgl, hup, hh.sub (List.Sublist.cons_cons _ (List.sublist_cons_self _ _))⟩
 ·rw [if_pos h0]
  refine al (N := 71) (l := [.slice L n c]) Tryz.func54 rfl rfl (by simp) ?_
  refine sr (aL (aI (aa (ah (sr (mL ?_))))))
  refine bH hh (hlk _ (hT.hp hh) hh.below) rfl ?_
  intro w16 hh
  refine aI (aa (sr (mI ?_)))
  refine dn (aa (cT (sr (mI (aL (aI (aa (aq (aH ?_)))))))))
  refine vd ?_
  exact .inl ⟨h0, rfl, hh.below⟩
end Go.Proofs.YtioilmppidlbnaaGreatDoor
/- The walks through lift.Both and lift.Add. -/
namespace Go.Proofs.YtioilmppidlbnaaGreatDoor
open Go.RowKit
theorem qz (f g : FX) (k : Nat) (w : World) (hT : gH w) (hf : f.at_ w) (hg : g.at_ w) (hlf : f.gJ k) (hlg : g.gJ k) (hmf : f.m ≤ 200) (hmg : g.m ≤ 200) (hk : k ≤ 90000) :
  Calls Tryz.prog 25 #[.agg #[.slice f.A f.n f.a, .slice f.B f.m f.b], .agg #[.slice g.A g.n g.a, .slice g.B g.m g.b]] w fun r w' =>
   (bZ [f, g] ≠ 0 ∧ r = .returned (.tuple #[.agg #[.slice none 0 0, .slice none 0 0], .agg #[.slice none 0 0, .slice none 0 0], .int .i64 (bZ [f, g])]) ∧ Below w.heap.size w w') ∨
   (bZ [f, g] = 0 ∧ ∃ x y : FX, o0 (maxD [f, g]) (fQ (maxD [f, g]) f) x ∧ o0 (maxD [f, g]) (fQ (maxD [f, g]) g) y ∧ r = .returned (.tuple #[.agg #[.slice x.A x.n x.a, .slice x.B x.m x.b], .agg #[.slice y.A y.n y.a, .slice y.B y.m y.b], .int .i64 0]) ∧ Hp w [y.dZ, y.dV, x.dZ, x.dV] w') := by
 have hh := Hp.start w
 have hall : ∀ x ∈ [f, g], x.at_ w ∧ x.gJ k ∧ x.m ≤ 200 := by simpa using ⟨⟨hf, hlf, hmf⟩, hg, hlg, hmg⟩
 have hrs := fun A c w1 hT1 hS1 hb => ka A 2 c [f, g] k w1 hT1 hS1 (by decide) (fun x hx => (hall x hx).1.ext hb) (fun x hx => (hall x hx).2.1) (fun x hx => (hall x hx).2.2) hk
 generalize bZ [f, g] = e at *
 generalize maxD [f, g] = D at *
 by_cases h0 : e = 0
 ·have hra := fun A c w1 hT1 hS1 hb => (hrs A c w1 hT1 hS1 hb).mono fun r w' h => show ∃ (B : Option Addr) (a : Nat) (x y : FX), o0 D (fQ D f) x ∧ o0 D (fQ D g) y ∧ r = .returned (.tuple #[.slice B 2 a, .int .i64 0]) ∧ Hp w1 [.row B 2 a 28 2 (bR FX.cells [x, y]), y.dZ, y.dV, x.dZ, x.dV] w' from by
   rcases h with h | ⟨_, B, a, gs, h1, h2, h3, h4⟩
   ·exact absurd h0 h.1
   ·obtain ⟨x, y, rfl⟩ : ∃ x y, gs = [x, y] := by
     match gs, h2 with
     | [x, y], _ => exact ⟨x, y, rfl⟩
    exact ⟨B, a, x, y, h3 0 f x rfl rfl, h3 1 g y rfl rfl, h1, h4⟩
  refine al (N := 26) (l := [.agg #[.slice f.A f.n f.a, .slice f.B f.m f.b], .agg #[.slice g.A g.n g.a, .slice g.B g.m g.b]]) Tryz.func25 rfl rfl (by simp) ?_
  refine sr ?_
  refine cS hh [_,_] ?_
  intro b2 w2 hh
  refine cS hh [_,_] ?_
  intro b3 w3 hh
  refine cG hh ?_
  intro b4 w4 hh
  refine cG hh ?_
  intro b5 w5 hh
  refine aI (aa (sr ?_))
  refine cz hh 3 [_,_] ?_
  refine cz hh 2 [_,_] ?_
  refine aK hh (cs := [_, _, _, _]) aG.out aD.out (aQ (cA rfl) (aQ (cA rfl) bF)) rfl rfl (by decide) (by decide) (by decide) rfl (by decide) ?_
  intro b11 w11 hh
  refine aT (hra _ _ _ (hT.hp hh) (hh.aW (i := 0) rfl) hh.below) az.out rfl (by decide) ?_
  rintro e_ w12 ⟨B, a, x, y, hx, hy, rfl, h2⟩
  refine ⟨_, rfl, ?_⟩
  replace hh := hh.join h2
  obtain ⟨go, rfl⟩ := hh.dw (i := 0) rfl (by omega)
  refine mT ?_
  refine ee ?_
  refine ee ?_
  refine aL (aI (aa (ah (sr (mI ?_)))))
  refine dn (aa (cF (ak (ai (ah ?_)))))
  have hx0 : [x, y][0]? = some x := rfl
  have hy0 : [x, y][1]? = some y := rfl
  refine u3 [3, 4, 5] [0, 1, 3, 0, 8, 24, 7, 127, 255] 6 [[(7, none)], [(20, some 0)], [(21, some 1)], [(7, none)], [(23, some 3)], [(24, some 4)]] [(5, 25), (4, 24), (3, 23), (2, 22), (1, 21), (0, 20)] [([], 5, [(2, 22), (1, 21), (0, 20)]), ([3], 4, [(3, 23), (2, 22), (1, 21), (0, 20)]), ([3, 4], 3, [(4, 24), (3, 23), (2, 22), (1, 21), (0, 20)]), ([3, 4, 5], 2, [(5, 25), (4, 24), (3, 23), (2, 22), (1, 21), (0, 20)])] hh mixed (by kernel_rfl) (by kernel_rfl) (by decide) ?_
  refine fk ?_
  refine aU (i := 1) (fun ρ1 w1 hj hR => bI aG.out aD.size (show ρ1 20 = Value.slice _ _ _ from hR.1) rfl (by omega) (by omega)) ?_
  refine pW [_,_] (fun _ hj => hj.hp.fZ (f := FX.cells) (x := x) (l := [x, y]) (i := 0) rfl FX.len (by decide) hx0) ?_
  refine fk ?_
  refine aU (i := 4) (fun ρ1 w1 hj hR => bI aG.out aD.size (show ρ1 23 = Value.slice _ _ _ from hR.1) rfl (by omega) (by omega)) ?_
  refine pW [_,_] (fun _ hj => hj.hp.fZ (f := FX.cells) (x := y) (l := [x, y]) (i := 0) rfl FX.len (by decide) hy0) ?_
  refine bo ?_
  intro p_ hp_
  simp only [List.mem_cons, List.not_mem_nil, or_false] at hp_
  rcases hp_ with rfl | rfl | rfl | rfl
  ·intro f W hJ hV
   have hb_4 := hJ.bl
   obtain ⟨v22, v21, v20, _⟩ := hV
   simp only [jk]
   have e20 : f 0 = _ := v20
   rw [e20]
   have e21 : f 1 = _ := v21
   rw [e21]
   have e22 : f 2 = _ := v22
   rw [e22]
   replace hh := hJ.hp
   clear e20 e21 e22 hJ
   refine bP hh 7 [_,_] ?_
   intro ws hh
   replace hh : Hp _ (_ :: _ :: _ :: _ :: _ :: _ :: _ :: .blk _ _ [_, _] _ :: _) _ := hh
   refine dF ?_
   refine eR (i := 3) (by kernel_rfl) rfl ?_
   refine mL ?_
   refine dF ?_
   refine eR (i := 4) (by kernel_rfl) rfl ?_
   refine bk (k := 1) aG.out aD.size rfl rfl (by omega) (by omega) (by decide) ?_
   refine dF ?_
   refine eR (i := 5) (by kernel_rfl) rfl ?_
   refine cK (vs := [_, _]) aD.out rfl (hh.fZ (f := FX.cells) (x := y) (l := [x, y]) (i := 0) rfl FX.len (by decide) hy0) rfl (by decide) ?_
   refine dF ?_
   refine fj 7 (by decide) (by kernel_rfl) (by decide) (by kernel_rfl) (by kernel_rfl) ?_
   refine bP hh 6 [_,_] ?_
   intro ws hh
   replace hh : Hp _ (_ :: _ :: _ :: _ :: _ :: _ :: .blk _ _ [_, _] _ :: _) _ := hh
   refine aI (aa (aq ?_))
   refine tH (a6 rfl (a7 (vs := [_, _]) aD.out (hh.ax (i := 7) (n := 2) rfl rfl) rfl) (a6 rfl (a7 (vs := [_, _]) aD.out (hh.ax (i := 6) (n := 2) rfl rfl) rfl) (cU (dR rfl) bx))) ?_
   exact .inr ⟨h0, x, y, hx, hy, rfl, hh.sub ((List.sublist_append_left [y.dZ, y.dV, x.dZ, x.dV] _).cons _)⟩
  ·intro f W hJ hV
   have hb_4 := hJ.bl
   obtain ⟨v23, v22, v21, v20, _⟩ := hV
   simp only [jk]
   have e20 : f 0 = _ := v20
   rw [e20]
   have e21 : f 1 = _ := v21
   rw [e21]
   have e22 : f 2 = _ := v22
   rw [e22]
   have e23 : f 3 = _ := v23
   rw [e23]
   replace hh := hJ.hp
   clear e20 e21 e22 e23 hJ
   refine bP hh 7 [_,_] ?_
   intro ws hh
   replace hh : Hp _ (_ :: _ :: _ :: _ :: _ :: _ :: _ :: .blk _ _ [_, _] _ :: _) _ := hh
   refine dF ?_
   refine eR (i := 4) (by kernel_rfl) rfl ?_
   refine bk (k := 1) aG.out aD.size rfl rfl (by omega) (by omega) (by decide) ?_
   refine dF ?_
   refine eR (i := 5) (by kernel_rfl) rfl ?_
   refine cK (vs := [_, _]) aD.out rfl (hh.fZ (f := FX.cells) (x := y) (l := [x, y]) (i := 0) rfl FX.len (by decide) hy0) rfl (by decide) ?_
   refine dF ?_
   refine fj 7 (by decide) (by kernel_rfl) (by decide) (by kernel_rfl) (by kernel_rfl) ?_
   refine bP hh 6 [_,_] ?_
   intro ws hh
   replace hh : Hp _ (_ :: _ :: _ :: _ :: _ :: _ :: .blk _ _ [_, _] _ :: _) _ := hh
   refine aI (aa (aq ?_))
   refine tH (a6 rfl (a7 (vs := [_, _]) aD.out (hh.ax (i := 7) (n := 2) rfl rfl) rfl) (a6 rfl (a7 (vs := [_, _]) aD.out (hh.ax (i := 6) (n := 2) rfl rfl) rfl) (cU (dR rfl) bx))) ?_
   exact .inr ⟨h0, x, y, hx, hy, rfl, hh.sub ((List.sublist_append_left [y.dZ, y.dV, x.dZ, x.dV] _).cons _)⟩
  ·intro f W hJ hV
   have hb_4 := hJ.bl
   obtain ⟨v24, v23, v22, v21, v20, _⟩ := hV
   simp only [jk]
   have e20 : f 0 = _ := v20
   rw [e20]
   have e21 : f 1 = _ := v21
   rw [e21]
   have e22 : f 2 = _ := v22
   rw [e22]
   have e23 : f 3 = _ := v23
   rw [e23]
   have e24 : f 4 = _ := v24
   rw [e24]
   replace hh := hJ.hp
   clear e20 e21 e22 e23 e24 hJ
   refine bP hh 7 [_,_] ?_
   intro ws hh
   replace hh : Hp _ (_ :: _ :: _ :: _ :: _ :: _ :: _ :: .blk _ _ [_, _] _ :: _) _ := hh
   refine dF ?_
   refine eR (i := 5) (by kernel_rfl) rfl ?_
   refine cK (vs := [_, _]) aD.out rfl (hh.fZ (f := FX.cells) (x := y) (l := [x, y]) (i := 0) rfl FX.len (by decide) hy0) rfl (by decide) ?_
   refine dF ?_
   refine fj 7 (by decide) (by kernel_rfl) (by decide) (by kernel_rfl) (by kernel_rfl) ?_
   refine bP hh 6 [_,_] ?_
   intro ws hh
   replace hh : Hp _ (_ :: _ :: _ :: _ :: _ :: _ :: .blk _ _ [_, _] _ :: _) _ := hh
   refine aI (aa (aq ?_))
   refine tH (a6 rfl (a7 (vs := [_, _]) aD.out (hh.ax (i := 7) (n := 2) rfl rfl) rfl) (a6 rfl (a7 (vs := [_, _]) aD.out (hh.ax (i := 6) (n := 2) rfl rfl) rfl) (cU (dR rfl) bx))) ?_
   exact .inr ⟨h0, x, y, hx, hy, rfl, hh.sub ((List.sublist_append_left [y.dZ, y.dV, x.dZ, x.dV] _).cons _)⟩
  ·intro f W hJ hV
   have hb_4 := hJ.bl
   obtain ⟨v25, v24, v23, v22, v21, v20, _⟩ := hV
   simp only [jk]
   have e20 : f 0 = _ := v20
   rw [e20]
   have e21 : f 1 = _ := v21
   rw [e21]
   have e22 : f 2 = _ := v22
   rw [e22]
   have e23 : f 3 = _ := v23
   rw [e23]
   have e24 : f 4 = _ := v24
   rw [e24]
   have e25 : f 5 = _ := v25
   rw [e25]
   replace hh := hJ.hp
   clear e20 e21 e22 e23 e24 e25 hJ
   refine bP hh 7 [_,_] ?_
   intro ws hh
   replace hh : Hp _ (_ :: _ :: _ :: _ :: _ :: _ :: _ :: .blk _ _ [_, _] _ :: _) _ := hh
   refine dF ?_
   refine fj 7 (by decide) (by kernel_rfl) (by decide) (by kernel_rfl) (by kernel_rfl) ?_
   refine bP hh 6 [_,_] ?_
   intro ws hh
   replace hh : Hp _ (_ :: _ :: _ :: _ :: _ :: _ :: .blk _ _ [_, _] _ :: _) _ := hh
   refine aI (aa (aq ?_))
   refine tH (a6 rfl (a7 (vs := [_, _]) aD.out (hh.ax (i := 7) (n := 2) rfl rfl) rfl) (a6 rfl (a7 (vs := [_, _]) aD.out (hh.ax (i := 6) (n := 2) rfl rfl) rfl) (cU (dR rfl) bx))) ?_
   exact .inr ⟨h0, x, y, hx, hy, rfl, hh.sub ((List.sublist_append_left [y.dZ, y.dV, x.dZ, x.dV] _).cons _)⟩
 ·have hra := fun A c w1 hT1 hS1 hb => (hrs A c w1 hT1 hS1 hb).mono fun r w' h => show r = .returned (.tuple #[.slice none 0 0, .int .i64 e]) ∧ Below w1.heap.size w1 w' from by
   rcases h with h | h
   ·exact h.2
   ·exact absurd h.1 h0
  refine al (N := 26) (l := [.agg #[.slice f.A f.n f.a, .slice f.B f.m f.b], .agg #[.slice g.A g.n g.a, .slice g.B g.m g.b]]) Tryz.func25 rfl rfl (by simp) ?_
  refine sr ?_
  refine cS hh [_,_] ?_
  intro b2 w2 hh
  refine cS hh [_,_] ?_
  intro b3 w3 hh
  refine cG hh ?_
  intro b4 w4 hh
  refine cG hh ?_
  intro b5 w5 hh
  refine aI (aa (sr ?_))
  refine cz hh 3 [_,_] ?_
  refine cz hh 2 [_,_] ?_
  refine aK hh (cs := [_, _, _, _]) aG.out aD.out (aQ (cA rfl) (aQ (cA rfl) bF)) rfl rfl (by decide) (by decide) (by decide) rfl (by decide) ?_
  intro b11 w11 hh
  refine bH hh (hra _ _ _ (hT.hp hh) (hh.aW (i := 0) rfl) hh.below) rfl ?_
  intro w12 hh
  refine mT ?_
  refine ee ?_
  refine ee ?_
  refine aL (aI (aa (ah (sr (mI ?_)))))
  refine dn (aa (cT (sr ?_)))
  refine fh [_,_] ?_
  refine fh [_,_] (mI ?_)
  refine bP hh 2 [_,_] ?_
  intro ws hh
  replace hh : Hp _ (_ :: _ :: .blk _ _ [_, _] _ :: _) _ := hh
  refine bP hh 1 [_,_] ?_
  intro ws hh
  replace hh : Hp _ (_ :: .blk _ _ [_, _] _ :: _) _ := hh
  refine aI (aa (aq (aH ?_)))
  refine tH (a6 rfl (a7 (vs := [_, _]) aD.out (hh.ax (i := 2) (n := 2) rfl rfl) rfl) (a6 rfl (a7 (vs := [_, _]) aD.out (hh.ax (i := 1) (n := 2) rfl rfl) rfl) (cU (dR rfl) bx))) ?_
  exact .inl ⟨h0, rfl, hh.below⟩
end Go.Proofs.YtioilmppidlbnaaGreatDoor
/- The walk through lift.Add. -/
namespace Go.Proofs.YtioilmppidlbnaaGreatDoor
open Go.RowKit
def ig (a b : List Dyadic) : List Dyadic := List.zipWith (· + ·) a b
def yX : List (List Dyadic) → List Dyadic
 | [] => []
 | x :: l => l.foldl ig x
theorem jl {a b : List Dyadic} (h : a.length = b.length) : (ig a b).length = a.length := by simp [ig, h]
theorem xU {a b : List Dyadic} {i : Nat} {x y : Dyadic} (h1 : a[i]? = some x) (h2 : b[i]? = some y) : (ig a b)[i]? = some (x + y) := by
 unfold ig
 rw [List.getElem?_zipWith, h1, h2]
def lL (a b : List Dyadic) (j : Nat) : List Dyadic := (ig a b).take j ++ a.drop j
theorem vx {a b : List Dyadic} {j : Nat} {x y : Dyadic} (h : a.length = b.length) (hx : a[j]? = some x) (hy : b[j]? = some y) : (lL a b j).set j (x + y) = lL a b (j + 1) := by
 have hj := (List.getElem?_eq_some_iff.1 hx).1
 unfold lL
 have hl : ((ig a b).take j).length = j := by rw [List.length_take, jl h]; omega
 rw [jM hx, aO (xU hx hy), List.set_append_right _ _ (by omega), hl, Nat.sub_self]
 simp
theorem xb {a b : List Dyadic} {j : Nat} {x : Dyadic} (h : a.length = b.length) (hx : a[j]? = some x) : (lL a b j)[j]? = some x := by
 have hj := (List.getElem?_eq_some_iff.1 hx).1
 have hl : ((ig a b).take j).length = j := by rw [List.length_take, jl h]; omega
 unfold lL
 rw [List.getElem?_append_right (by omega), hl, Nat.sub_self, List.getElem?_drop, Nat.add_zero, hx]
theorem wg {a b : List Dyadic} {j : Nat} (h : a.length = b.length) (hj : j ≤ a.length) : (lL a b j).length = a.length := by
 unfold lL
 rw [List.length_append, List.length_take, jl h, List.length_drop]
 omega
theorem uy {a b : List Dyadic} {j : Nat} (h : a.length = b.length) (hj : j = a.length) : lL a b j = ig a b := by
 unfold lL
 rw [List.take_of_length_le (by rw [jl h]; omega), List.drop_of_length_le (by omega), List.append_nil]
theorem qq : ∀ {a b : List Nat}, a.length = b.length → ay (dL a b) ≤ ay a
 | [], [], _ => Nat.le_refl _
 | [], _ :: _, h => by simp at h
 | _ :: _, [], h => by simp at h
 | x :: a, y :: b, h => Nat.mul_le_mul (show x - y + 1 ≤ x + 1 by omega) (qq (by simpa using h))
theorem uf {k : Nat} : ∀ (ls : List (List Dyadic)) (a : List Dyadic) (j : Nat), (∀ x ∈ a, Sz (k + j) x) → (∀ l ∈ ls, ∀ x ∈ l, Sz k x) → ∀ x ∈ ls.foldl ig a, Sz (k + j + ls.length) x
 | [], _, _, h, _ => h
 | l :: ls, a, j, h, h2 => fun x hx => by
  have := uf (k := k) ls (ig a l) (j + 1) (fun y hy => by
   obtain ⟨i, hi⟩ := List.mem_iff_getElem?.1 hy
   unfold ig at hi
   rw [List.getElem?_zipWith] at hi
   cases h3 : a[i]? with
   | none => rw [h3] at hi; cases hi
   | some p =>
    cases h4 : l[i]? with
    | none => rw [h3, h4] at hi; cases hi
    | some q =>
     rw [h3, h4] at hi
     have h5 : p + q = y := Option.some.inj hi
     rw [← h5]
     exact (h p (List.mem_of_getElem? h3)).add ((h2 l List.mem_cons_self q (List.mem_of_getElem? h4)).mono (by omega))) (fun m hm => h2 m (List.mem_cons_of_mem _ hm)) x hx
  exact this.mono (by rw [List.length_cons]; omega)
theorem qZ : ∀ (ls : List (List Dyadic)) (a : List Dyadic), (∀ l ∈ ls, l.length = a.length) → (ls.foldl ig a).length = a.length
 | [], _, _ => rfl
 | l :: ls, a, h => by
  have h1 := jl (h l List.mem_cons_self).symm
  rw [List.foldl_cons, qZ ls (ig a l) fun m hm => by rw [h1]; exact h m (List.mem_cons_of_mem _ hm), h1]
theorem yx {f : FX} {D : List Nat} {k : Nat} (hl : f.gJ k) (he : f.e = 0) (hm : f.cs.length ≤ 200) (hk : k ≤ 90000) (hlen : D.length = f.ns.length) (hD : ∀ d ∈ D, d ≤ 127) (hc : ay D ≤ 4096) : ∀ x ∈ fQ D f, Sz 1000000 x := fun x hx => by
 obtain ⟨_, _, h12, _, hcl, _⟩ := FX.fv he
 have hs := qq hlen
 have hmul : ay (dL D f.ns) * ay f.ns ≤ 4096 * 200 := Nat.mul_le_mul (by omega) (by omega)
 have := ug (rQ (ds := f.ns.reverse) (es := (dL D f.ns).reverse) (xs := f.cs.map NR.d) (ys := (nW (dL D f.ns)).map nD) (k1 := k) (k2 := 1600) (fun y hy => by
  obtain ⟨c, hc2, rfl⟩ := List.mem_map.1 hy
  exact (hl.num c hc2).2) (fun y hy => by
  obtain ⟨c, hc2, rfl⟩ := List.mem_map.1 hy
  refine vu hc2 (by rw [iA hlen]; omega) fun d hd => ?_
  obtain ⟨i, hi⟩ := List.mem_iff_getElem?.1 hd
  unfold dL at hi
  rw [List.getElem?_zipWith] at hi
  cases h3 : D[i]? with
  | none => rw [h3] at hi; cases hi
  | some p =>
   cases h4 : f.ns[i]? with
   | none => rw [h3, h4] at hi; cases hi
   | some q =>
    rw [h3, h4] at hi
    have h5 : p - q = d := Option.some.inj hi
    have := hD p (List.mem_of_getElem? h3)
    omega) (ay (dL D f.ns))) x hx
 rw [tY, dm] at this
 exact this.mono (by omega)
theorem Hp.yd {w0 w : World} {H : List HE} (h : Hp w0 H w) {i n c sz : Nat} {A : Option Addr} {t : TypeId} {xs : List Value} (hi : H[i]? = some (.row A n c t sz xs)) : n ≤ c := by
 have h1 : w.ownsRow w0.heap.size t sz (.slice A n c) n xs := h.at_ hi
 rcases h1.2 with ⟨_, h3⟩ | ⟨g, cap, cur, h2, _, _, h5, _⟩
 ·omega
 ·injection h2 with _ _ e3
  omega
theorem xW {f : FX} {D : List Nat} (hlen : D.length = f.ns.length) (hle : ∀ (i x y : Nat), f.ns[i]? = some x → D[i]? = some y → x ≤ y) : (fQ D f).length = ay D := by
 unfold fQ ib kb
 rw [gv, jY hlen.symm hle]
theorem mo {fs : List FX} (h : eo fs = 0) (hln : ∀ f ∈ fs, f.ds.length = f.n) : ∀ f ∈ fs, (maxD fs).length = f.ns.length ∧ (∀ (i x y : Nat), f.ns[i]? = some x → (maxD fs)[i]? = some y → x ≤ y) ∧ ∀ d ∈ maxD fs, d ≤ 127 := fun f hm => by
 obtain ⟨hne, hev, hnv⟩ := hO h
 obtain ⟨f0, ft, rfl⟩ := List.exists_cons_of_ne_nil hne
 have hns : ∀ g ∈ f0 :: ft, g.ns.length = f0.n := fun g hg => by
  unfold FX.ns
  rw [List.length_map, hln g hg, hnv g hg]
  rfl
 have hDe : maxD (f0 :: ft) = ((f0 :: ft).map FX.ns).foldl fw f0.ns := by
  unfold maxD
  rw [List.foldl_map]
  rfl
 have h0 := hns f0 List.mem_cons_self
 obtain ⟨h1, _, h3⟩ := mc ((f0 :: ft).map FX.ns) f0.ns fun l hl => by
  obtain ⟨g, hg, rfl⟩ := List.mem_map.1 hl
  rw [hns g hg, h0]
 rw [hDe]
 refine ⟨by rw [h1, h0, hns f hm], h3 f.ns (List.mem_map.2 ⟨f, hm, rfl⟩), pB 127 _ _ (FX.fv (hev f0 List.mem_cons_self)).2.2.2.1 fun l hl => ?_⟩
 obtain ⟨g, hg, rfl⟩ := List.mem_map.1 hl
 exact (FX.fv (hev g hg)).2.2.2.1
theorem so (L : Option Addr) (n c : Nat) (fs : List FX) (k : Nat) (w : World) (hT : gH w) (hL : Sl w L n 2 (bR FX.cells fs)) (hn : n ≤ 1000) (hf : ∀ f ∈ fs, f.at_ w) (hl : ∀ f ∈ fs, f.gJ k) (hm : ∀ f ∈ fs, f.m ≤ 200) (hk : k ≤ 90000) :
  Calls Tryz.prog 15 #[.slice L n c] w fun r w' => (bZ fs ≠ 0 ∧ r = nw (bZ fs) ∧ Below w.heap.size w w') ∨
   (bZ fs = 0 ∧ ∃ g : FX, o0 (maxD fs) (yX (fs.map (fQ (maxD fs)))) g ∧ r = .returned (.tuple #[.agg #[.slice g.A g.n g.a, .slice g.B g.m g.b], .int .i64 0]) ∧ Hp w [g.dZ, g.dV] w') := by
 have hh := Hp.start w
 have hln := hL.di FX.len (by decide)
 have hrs := fun w1 hT1 hb => ka L n c fs k w1 hT1 (hL.ext hb) hn (fun f hm => (hf f hm).ext hb) hl hm hk
 by_cases h0 : bZ fs = 0
 ·have hlk : eo fs = 0 := by
   unfold bZ at h0
   split at h0
   ·rename_i h; exact absurd h0 h
   ·rename_i h; simpa using h
  obtain ⟨hne, hev, _⟩ := hO hlk
  obtain ⟨f0, ft, rfl⟩ := List.exists_cons_of_ne_nil hne
  have hD4 : ay (maxD (f0 :: ft)) ≤ 4096 := by
   unfold bZ at h0
   rw [if_neg (by omega)] at h0
   split at h0
   ·cases h0
   ·omega
  have hDs : ∀ f ∈ f0 :: ft, f.cs.length ≤ 200 ∧ (maxD (f0 :: ft)).length = f.ns.length ∧ (∀ d ∈ maxD (f0 :: ft), d ≤ 127) ∧ (fQ (maxD (f0 :: ft)) f).length = ay (maxD (f0 :: ft)) := fun f hm2 => by
   obtain ⟨h1, h2, h3⟩ := mo hlk (fun g hg => by have := (hf g hg).dg.1; rw [bK] at this; omega) f hm2
   have h4 := (hf f hm2).nm.di NR.len (by decide)
   have h5 := hm f hm2
   exact ⟨by omega, h1, h3, xW h1 h2⟩
  have hsz := fun f hm => yx (hl f hm) (hev f hm) (hDs f hm).1 hk (hDs f hm).2.1 (hDs f hm).2.2.1 hD4
  have hxl := fun f hm => (hDs f hm).2.2.2
  clear hDs
  rw [h0] at hrs
  generalize maxD (f0 :: ft) = D at *
  have hra := fun w1 hT1 hb => (hrs w1 hT1 hb).mono fun r w' h => show ∃ (A : Option Addr) (a n0 a0 go b0 : Nat) (A0 : Option Addr) (gs : List FX), r = .returned (.tuple #[.slice A n a, .int .i64 0]) ∧ gs.length = ft.length ∧ n0 = D.length ∧ (∀ (i : Nat) (f g : FX), ft[i]? = some f → gs[i]? = some g → o0 D (fQ D f) g) ∧
    Hp w1 (.row A n a 28 2 (bR FX.cells (⟨A0, n0, a0, some ⟨go, 0, none⟩, ay D, b0, bf D, (fQ D f0).map nR⟩ :: gs)) :: .row (some ⟨go, 0, none⟩) (ay D) b0 39 3 (bR NR.cells ((fQ D f0).map nR)) :: .row A0 n0 a0 3 1 (bA (bf D)) :: gW gs.reverse) w' from by
   rcases h with h | ⟨_, A, a, gs, h1, h2, h3, h4⟩
   ·exact absurd rfl h.1
   ·obtain ⟨g0, gs, rfl⟩ := List.exists_cons_of_ne_nil (l := gs) (by intro e; rw [e] at h2; rw [← hln] at h2; cases h2)
    obtain ⟨e1, e2, e3, e4⟩ := h3 0 f0 g0 rfl rfl
    rw [List.reverse_cons, pN] at h4
    have h5 := h4.perm (H' := .row A n a 28 2 (bR FX.cells (g0 :: gs)) :: g0.dZ :: g0.dV :: gW gs.reverse) (.cons _ List.perm_append_comm)
    obtain ⟨A0, n0, a0, B0, m0, b0, ds0, cs0⟩ := g0
    cases e1; cases e2; cases e4
    obtain ⟨go, rfl⟩ := h5.dw (i := 1) rfl (eA D)
    exact ⟨A, a, n0, a0, go, b0, A0, gs, h1, by rw [← hln] at h2; simpa using h2, e3, fun i f g hf hg => h3 (i + 1) f g hf hg, h5⟩
  clear hrs
  have hnp : ft.length + 1 = n := hln
  refine al (N := 53) (l := [.slice L n c]) Tryz.func15 rfl rfl (by simp) ?_
  refine sr ?_
  refine cG hh ?_
  intro b2 w2 hh
  refine aI (aa (sr (mL ?_)))
  refine aT (hra _ (hT.hp hh) hh.below) az.out rfl (by decide) ?_
  rintro e_ w13 ⟨A, a, n0, a0, go, b0, A0, gs, rfl, hgl, hn0, hup, h2⟩
  refine ⟨_, rfl, ?_⟩
  replace hh := (hh.join h2).perm List.perm_append_comm
  obtain ⟨gq, rfl⟩ := hh.dw (i := 1) rfl (by omega)
  have hca := hh.yd (i := 1) rfl
  refine mT ?_
  refine ee ?_
  refine ee ?_
  refine aL (aI (aa (ah (sr (mI ?_)))))
  refine dn (aa (cF (ak (ai (sr (mL ?_))))))
  refine cD aG.out aD.size rfl rfl (by omega) (by omega) (by decide) ?_
  refine cK (vs := [_, _]) aD.out rfl (hh.fZ (i := 1) rfl FX.len (by decide) (show (_ :: gs)[0]? = some _ from rfl)) rfl (by decide) ?_
  refine cG hh ?_
  intro b6 w6 hh
  refine bP hh 0 [_,_] ?_
  intro ws hh
  replace hh : Hp _ (.blk _ _ [_, _] _ :: _) _ := hh
  refine aa (ah (sr (mL ?_)))
  refine bp rfl rfl (by decide) (vV aG.out aD.size rfl rfl (l := 1) rfl (by omega) (by omega)) ?_
  refine aV (mI (aa (aj ?_)))
  have hx0 := hxl f0 List.mem_cons_self
  have hxi : ∀ (i : Nat), (((ft.take i).map (fQ D)).foldl ig (fQ D f0)).length = ay D := fun i => by
   rw [qZ _ _ fun l hl => ?_, hx0]
   obtain ⟨f, hf2, rfl⟩ := List.mem_map.1 hl
   rw [hx0, hxl f (List.mem_cons_of_mem _ (List.mem_of_mem_take hf2))]
  have hzi : ∀ (i : Nat), ∀ x ∈ ((ft.take i).map (fQ D)).foldl ig (fQ D f0), Sz 1001000 x := fun i x hx => by
   refine (uf (k := 1000000) _ _ 0 (hsz f0 List.mem_cons_self) (fun l hl => ?_) x hx).mono ?_
   ·obtain ⟨f, hf2, rfl⟩ := List.mem_map.1 hl
    exact hsz f (List.mem_cons_of_mem _ (List.mem_of_mem_take hf2))
   ·rw [List.length_map, List.length_take]
    omega
  refine bq [8, 9, 10, 26, 27, 28, 29, 30, 31, 32, 33, 34, 35, 36, 37, 38, 39, 40, 41, 42, 43, 44, 45, 46, 47, 48, 49, 50, 51] 26
   (fun v w' => ∃ i : Nat, i ≤ n - 1 ∧ v = .int .i64 i ∧ Hp w (.blk b6 28 [.slice A0 n0 a0, .slice (some ⟨go, 0, none⟩) (ay D) b0] (0, 0) :: .blk b2 28 [.slice none 0 0, .slice none 0 0] (0, 0) :: .row (some ⟨gq, 0, none⟩) n a 28 2 (bR FX.cells (⟨A0, n0, a0, some ⟨go, 0, none⟩, ay D, b0, bf D, (fQ D f0).map nR⟩ :: gs)) :: .row (some ⟨go, 0, none⟩) (ay D) b0 39 3 (bR NR.cells ((((ft.take i).map (fQ D)).foldl ig (fQ D f0)).map nR)) :: .row A0 n0 a0 3 1 (bA (bf D)) :: gW gs.reverse) w')
   (fun v _ => n - 1 - (intOf v).toNat) ?_ ?_
  ·exact ⟨0, Nat.zero_le _, rfl, hh⟩
  ·clear hh
   rintro ρ' v w' ⟨i, hi, rfl, hh⟩
   by_cases hlt : i < n - 1
   ·obtain ⟨f, hx⟩ := au (l := ft) (k := i) (by omega)
    obtain ⟨g, hg⟩ := au (l := gs) (k := i) (by omega)
    obtain ⟨A1, n1, a1, B1, m1, b1, ds1, cs1⟩ := g
    obtain ⟨e1, e2, e3, e4⟩ := hup i f _ hx hg
    cases e1; cases e2; cases e4
    have hmem := List.mem_reverse.2 (List.mem_of_getElem? hg)
    have hbk : Sl w' (if a = 1 then some ⟨gq, 0, none⟩ else (some ⟨gq, 0, none⟩ : Option Addr).map (·.add (1 * 2))) (n - 1) 2 (bR FX.cells gs) := (hh.aW (i := 2) rfl).back (by omega) hca
    obtain ⟨ab, hAb, sb⟩ := hbk.at_ (by omega)
    have hev : Value.slice (if a = 1 then some ⟨gq, 0, none⟩ else (some ⟨gq, 0, none⟩ : Option Addr).map (·.add (1 * 2))) (n - 1) (a - 1) = .slice (some ab) (n - 1) (a - 1) := by rw [hAb]
    have hfX : ((ft.take (i + 1)).map (fQ D)).foldl ig (fQ D f0) = ig (((ft.take i).map (fQ D)).foldl ig (fQ D f0)) (fQ D f) := by rw [aO hx, List.map_append, List.foldl_append]; rfl
    have hxa := hxi i
    have hza := hzi i
    have hzb := hsz f (List.mem_cons_of_mem _ (List.mem_of_getElem? hx))
    generalize ((ft.take i).map (fQ D)).foldl ig (fQ D f0) = X at *
    refine sr ?_
    refine aJ (aa (ah (cT (ak (ai (ah (aj (sr ?_))))))))
    refine aF (k := i) aG.out aD.size hev rfl (by omega) (by omega) (by decide) ?_
    refine cK (vs := [_, _]) aD.out rfl (show Rd _ _ [.slice A1 n1 a1, .slice B1 (ay D) b1] from sb.recAt FX.len hg) rfl (by decide) ?_
    refine cG hh ?_
    intro b8 w8 hh
    refine bP hh 0 [_,_] ?_
    intro ws hh
    replace hh : Hp _ (.blk _ _ [_, _] _ :: _) _ := hh
    refine aa (sr (bJ ?_))
    refine bO hh 0 ?_
    refine aV (mI (aa (aj ?_)))
    refine bq [9, 10, 33, 34, 35, 36, 37, 38, 39, 40, 41, 42, 43, 44, 45, 46, 47, 48, 49, 50] 33
     (fun v w' => ∃ j : Nat, j ≤ ay D ∧ v = .int .i64 j ∧ Hp w (.blk b8 28 [.slice A1 n1 a1, .slice B1 (ay D) b1] (0, 0) :: .blk b6 28 [.slice A0 n0 a0, .slice (some ⟨go, 0, none⟩) (ay D) b0] (0, 0) :: .blk b2 28 [.slice none 0 0, .slice none 0 0] (0, 0) :: .row (some ⟨gq, 0, none⟩) n a 28 2 (bR FX.cells (⟨A0, n0, a0, some ⟨go, 0, none⟩, ay D, b0, bf D, (fQ D f0).map nR⟩ :: gs)) :: .row (some ⟨go, 0, none⟩) (ay D) b0 39 3 (bR NR.cells ((lL X (fQ D f) j).map nR)) :: .row A0 n0 a0 3 1 (bA (bf D)) :: gW gs.reverse) w')
     (fun v _ => ay D - (intOf v).toNat) ?_ ?_
    ·exact ⟨0, Nat.zero_le _, rfl, hh⟩
    ·clear hh
     rintro ρ2 v w2 ⟨j, hj, rfl, hh⟩
     have hsB := iS (hh.own _ (List.mem_append_right [_, _, _, _, _, _] (uH hmem).1))
     have hyl : (fQ D f).length = ay D := by
      have := hsB.di NR.len (by decide)
      simpa using this
     by_cases hjn : j < ay D
     ·obtain ⟨x, hx1⟩ := au (l := X) (k := j) (by omega)
      obtain ⟨y, hy1⟩ := au (l := fQ D f) (k := j) (by omega)
      obtain ⟨a9, hA9, s9⟩ := hsB.at_ (by show 0 < ay D; omega)
      have hev9 : Value.slice B1 (ay D) b1 = .slice (some a9) (ay D) b1 := by rw [show B1 = some a9 from hA9]
      have zx := hza x (List.mem_of_getElem? hx1)
      have zy := hzb y (List.mem_of_getElem? hy1)
      have hon : ((lL X (fQ D f) j).map nR)[j]? = some (nR x) := by rw [List.getElem?_map, xb (by omega) hx1]; rfl
      have hyn : ((fQ D f).map nR)[j]? = some (nR y) := by rw [List.getElem?_map, hy1]; rfl
      have hset := vx (a := X) (b := fQ D f) (by omega) hx1 hy1
      have hsum := fun A cc w1 hT1 hS1 => kf A 2 cc [nR x, nR y] w1 hT1 hS1 (by simpa using ⟨zx.ok (by omega), zy.ok (by omega)⟩) 1001000 (by simpa [gn] using ⟨zx, zy.mono (by omega)⟩) (by omega)
      rw [show k9 ([nR x, nR y].map NR.d) = x + y by simp only [List.map_cons, List.map_nil, gn, nE]] at hsum
      have hll : ((lL X (fQ D f) j).map nR).length = ay D := by rw [List.length_map, wg (by omega) (by omega), hxa]
      generalize lL X (fQ D f) j = M at *
      have hrl := gL NR.len (M.map nR)
      refine sr ?_
      refine aJ (aa (ah (cT (ak (ai (ah (aj (sr (mI ?_)))))))))
      refine aF (k := j) aG.out aD.size hev9 rfl (by omega) (by omega) (by decide) ?_
      refine cK (vs := [_, _, _]) aD.out rfl (s9.recAt NR.len hyn) rfl (by decide) ?_
      refine cG hh ?_
      intro b10 w10 hh
      refine aI ?_
      refine bP hh 0 [_,_,_] ?_
      intro ws hh
      replace hh : Hp _ (.blk _ _ [_, _, _] _ :: _) _ := hh
      refine aa ?_
      refine aN 11 [[(6, none)], [(38, some 0)], [(9, none)], [(6, none)], [(41, some 3)], [(9, none)], [(42, some 4), (43, some 5)], [(44, some 6)], [(10, none)], [(45, some 7), (46, some 8)], [(47, some 9)]] [(10, 48), (9, 47), (8, 46), (7, 45), (6, 44), (5, 43), (4, 42), (3, 41), (2, 40), (1, 39), (0, 38)] hh mixed (by kernel_rfl) ?_
      refine dI ?_
      refine ef 2 ?_
      refine dD ?_
      refine dI ?_
      refine ef 2 ?_
      refine dD ?_
      refine re (j) ?_
      refine pW [_,_,_] (fun _ hj => hj.hp.fZ (f := NR.cells) (x := nR x) (l := M.map nR) (i := 5) rfl NR.len (by decide) hon) ?_
      refine gk 0 [_,_,_] ?_
      refine ry [_,_,_,_,_,_] ?_
      refine dt (i := 10) (Is (.agg #[.bool (nR (x + y)).neg, .string (nR (x + y)).ct, .int .i64 (nR (x + y)).e])) Is.ext ?_ ?_
      ·intro ρ1 w1 hj hR
       obtain ⟨A47, c47, h47, s47⟩ := hR.1
       exact eN rfl (dE az.out (bC h47 cY)) (hsum A47 c47 _ (hT.hp hj.hp) s47) (fun _ _ hq => ⟨_, hq.1, hq.2, rfl⟩)
      refine bo ?_
      intro f W hJ hV
      have hb_11 := hJ.bl
      obtain ⟨v48, v47, v46, v45, v44, v43, v42, v41, v40, v39, v38, _⟩ := hV
      obtain ⟨A47, c47, e47, f47⟩ : Rows _ _ _ (f 9) W := v47
      replace hh := hJ.hp
      refine aY (bm (ae v48 (ae e47 (ae v46 (ae v45 (ae v44 (ae v43 (ae v42 (ae v41 (ae v40 (ae v39 (ae v38 aX)))))))))))) ?_
      dsimp only [cj]
      clear e47 hJ
      refine bk (k := j) aG.out aD.size rfl rfl (by omega) (by omega) (by decide) ?_
      refine bz hh (i := 5) (vs := [_, _, _]) rfl rfl (cA rfl) rfl aD.out rfl (by omega) rfl ?_
      intro ws hh
      simp only [List.set_cons_zero, List.set_cons_succ] at hh
      rw [show cR (bR NR.cells (M.map nR)) (j * 3) [.bool (nR (x + y)).neg, .string (nR (x + y)).ct, .int .i64 (nR (x + y)).e] = bR NR.cells ((M.map nR).set j (nR (x + y))) from l6 NR.len (by omega), ← List.map_set, hset] at hh
      refine aE (aZ (ai (ao ?_)))
      refine bu (mI (aE (ai ?_)))
      replace hh := hh.sub (List.Sublist.cons _ (List.Sublist.cons_cons _ (List.Sublist.cons_cons _ (List.Sublist.cons_cons _ (List.Sublist.cons_cons _ (List.Sublist.cons_cons _ (List.Sublist.cons_cons _ (List.Sublist.refl _))))))))
      refine ⟨⟨j + 1, by omega, rfl, hh⟩, by show ay D - (j + 1) < ay D - j; omega, ?_⟩
      (repeat (first | exact av _ _ _ | refine aC rfl ?_ | refine ar rfl ?_))
     ·obtain rfl : j = ay D := by omega
      rw [uy (by omega) (by omega), ← hfX] at hh
      refine sr ?_
      refine aJ (aa (ah (cF ?_)))
      refine aP ?_
      refine aw (aw (bj (aZ (ai (ao ?_)))))
      refine bu (mI (aE (ai ?_)))
      replace hh := hh.sub (List.Sublist.cons _ (List.Sublist.cons_cons _ (List.Sublist.cons_cons _ (List.Sublist.cons_cons _ (List.Sublist.cons_cons _ (List.Sublist.cons_cons _ (List.Sublist.refl _)))))))
      refine ⟨⟨i + 1, by omega, rfl, hh⟩, by show n - 1 - (i + 1) < n - 1 - i; omega, ?_⟩
      (repeat (first | exact av _ _ _ | refine aC rfl ?_ | refine ar rfl ?_))
   ·obtain rfl : i = n - 1 := by omega
    rw [List.take_of_length_le (by omega)] at hh
    refine sr ?_
    refine aJ (aa (ah (cF ?_)))
    refine aP ?_
    refine aw (aw (bj (ai (sr ?_))))
    refine cz hh 0 [_,_] ?_
    refine bP hh 1 [_,_] ?_
    intro ws hh
    replace hh : Hp _ (_ :: .blk _ _ [_, _] _ :: _) _ := hh
    refine aI (aa (aq ?_))
    refine nV (a6 rfl (a7 (vs := [_, _]) aD.out (hh.ax (i := 1) (n := 2) rfl rfl) rfl) (cU (dR rfl) bx)) ?_
    exact .inr ⟨h0, ⟨A0, n0, a0, some ⟨go, 0, none⟩, ay D, b0, bf D, _⟩, ⟨rfl, rfl, hn0, rfl⟩, rfl, hh.sub (.cons _ (.cons _ (.cons _ (List.sublist_append_left [_, _] _))))⟩
 ·have hra := fun w1 hT1 hb => (hrs w1 hT1 hb).mono fun r w' h => show r = .returned (.tuple #[.slice none 0 0, .int .i64 (bZ fs)]) ∧ Below w1.heap.size w1 w' from by
   rcases h with h | h
   ·exact h.2
   ·exact absurd h.1 h0
  generalize bZ fs = e at *
  refine al (N := 53) (l := [.slice L n c]) Tryz.func15 rfl rfl (by simp) ?_
  refine sr ?_
  refine cG hh ?_
  intro b2 w2 hh
  refine aI (aa (sr (mL ?_)))
  refine bH hh (hra _ (hT.hp hh) hh.below) rfl ?_
  intro w13 hh
  refine mT ?_
  refine ee ?_
  refine ee ?_
  refine aL (aI (aa (ah (sr (mI ?_)))))
  refine dn (aa (cT (sr ?_)))
  refine fh [_,_] (mI ?_)
  refine bP hh 0 [_,_] ?_
  intro ws hh
  replace hh : Hp _ (.blk _ _ [_, _] _ :: _) _ := hh
  refine aI (aa (aq (aH ?_)))
  refine nV (a6 rfl (a7 (vs := [_, _]) aD.out (hh.ax (i := 0) (n := 2) rfl rfl) rfl) (cU (dR rfl) bx)) ?_
  exact .inl ⟨h0, rfl, hh.below⟩
end Go.Proofs.YtioilmppidlbnaaGreatDoor
/- The walks through lift.Mul and lift.Scale. -/
namespace Go.Proofs.YtioilmppidlbnaaGreatDoor
open Go.RowKit
def oa (f g : FX) : Int := if eo [f, g] ≠ 0 then eo [f, g] else if iX (cI f.ns g.ns) = true then 3 else 0
def nF (a b : List Nat) (j : Nat) : List Nat := (cI a b).take j ++ a.drop j
theorem vq {a b : List Nat} {j x y : Nat} (h : a.length = b.length) (hx : a[j]? = some x) (hy : b[j]? = some y) : (bf (nF a b j)).set j ((x : Int) + (y : Int)) = bf (nF a b (j + 1)) := by
 have hj := (List.getElem?_eq_some_iff.1 hx).1
 unfold nF
 rw [jM hx, aO (mn hx hy)]
 have hl : (bf ((cI a b).take j)).length = j := by rw [cd, List.length_take, gZ h]; omega
 have e1 : bf ((cI a b).take j ++ x :: a.drop (j + 1)) = bf ((cI a b).take j) ++ (x : Int) :: bf (a.drop (j + 1)) := by simp [bf]
 rw [e1, kT _ _ _ _ _ hl]
 simp [bf]
theorem xm {a b : List Nat} {j x : Nat} (h : a.length = b.length) (hx : a[j]? = some x) : (nF a b j)[j]? = some x := by
 have hj := (List.getElem?_eq_some_iff.1 hx).1
 have hl : ((cI a b).take j).length = j := by rw [List.length_take, gZ h]; omega
 unfold nF
 rw [List.getElem?_append_right (by omega), hl, Nat.sub_self, List.getElem?_drop, Nat.add_zero, hx]
theorem vF {a b : List Nat} {j : Nat} (h : a.length = b.length) (hj : j ≤ a.length) : (nF a b j).length = a.length := by
 unfold nF
 rw [List.length_append, List.length_take, gZ h, List.length_drop]
 omega
theorem u0 {a b : List Nat} {j : Nat} (h : a.length = b.length) (hj : j = a.length) : nF a b j = cI a b := by
 unfold nF
 rw [List.take_of_length_le (by rw [gZ h]; omega), List.drop_of_length_le (by omega), List.append_nil]
theorem sv (f g : FX) (k : Nat) (w : World) (hT : gH w) (hf : f.at_ w) (hg : g.at_ w) (hlf : f.gJ k) (hlg : g.gJ k) (hmf : f.m ≤ 200) (hmg : g.m ≤ 200) (hk : k ≤ 50000) :
  Calls Tryz.prog 18 #[.agg #[.slice f.A f.n f.a, .slice f.B f.m f.b], .agg #[.slice g.A g.n g.a, .slice g.B g.m g.b]] w fun r w' =>
   (oa f g ≠ 0 ∧ r = nw (oa f g) ∧ Below w.heap.size w w') ∨
   (oa f g = 0 ∧ ∃ p : FX, o0 (cI f.ns g.ns) (kb f.ns g.ns (f.cs.map NR.d) (g.cs.map NR.d)) p ∧ r = .returned (.tuple #[.agg #[.slice p.A p.n p.a, .slice p.B p.m p.b], .int .i64 0]) ∧ Hp w [p.dZ, p.dV] w') := by
 have hh := Hp.start w
 have hall : ∀ x ∈ [f, g], x.at_ w ∧ x.gJ k := by simpa using ⟨⟨hf, hlf⟩, hg, hlg⟩
 have hlk := fun A c w1 hT1 hS1 hb => lV A 2 c [f, g] k w1 hT1 hS1 (by decide) (fun x hx => (hall x hx).1.ext hb) (fun x hx => (hall x hx).2)
 have hlnf := hf.dg.1
 have hlng := hg.dg.1
 rw [bK] at hlnf hlng
 have hlmf := hf.nm.di NR.len (by decide)
 have hlmg := hg.nm.di NR.len (by decide)
 unfold oa
 by_cases h0 : eo [f, g] = 0
 ·obtain ⟨_, hev, hnv⟩ := hO h0
  have hgn : g.n = f.n := hnv g (by simp)
  obtain ⟨df, cf, hf12, hflow, hfc, _⟩ := FX.fv (hev f (by simp))
  obtain ⟨dg, cg, hg12, hglow, hgc, _⟩ := FX.fv (hev g (by simp))
  have hfl : f.ns.length = f.n := by unfold FX.ns; rw [List.length_map]; omega
  have hgl : g.ns.length = f.n := by unfold FX.ns; rw [List.length_map]; omega
  rw [if_neg (by omega)]
  have hadd : ∀ d ∈ cI f.ns g.ns, d ≤ 254 := fun d hd => by
   obtain ⟨i, hi⟩ := List.mem_iff_getElem?.1 hd
   have hi2 := (List.getElem?_eq_some_iff.1 hi).1
   rw [gZ (by omega)] at hi2
   obtain ⟨x, hx1⟩ := au (l := f.ns) (k := i) (by omega)
   obtain ⟨y, hy1⟩ := au (l := g.ns) (k := i) (by omega)
   rw [mn hx1 hy1] at hi
   have := hflow x (List.mem_of_getElem? hx1)
   have := hglow y (List.mem_of_getElem? hy1)
   have := Option.some.inj hi
   omega
  refine al (N := 43) (l := [.agg #[.slice f.A f.n f.a, .slice f.B f.m f.b], .agg #[.slice g.A g.n g.a, .slice g.B g.m g.b]]) Tryz.func18 rfl rfl (by simp) ?_
  refine sr ?_
  refine cS hh [_,_] ?_
  intro b2 w2 hh
  refine cS hh [_,_] ?_
  intro b3 w3 hh
  refine cG hh ?_
  intro b4 w4 hh
  refine aI (aa (ah (sr ?_)))
  refine cz hh 2 [_,_] ?_
  refine cz hh 1 [_,_] ?_
  refine aK hh (cs := [_, _, _, _]) aG.out aD.out (aQ (cA rfl) (aQ (cA rfl) bF)) rfl rfl (by decide) (by decide) (by decide) rfl (by decide) ?_
  intro b12 w12 hh
  refine bH hh (hlk _ _ _ (hT.hp hh) (hh.aW (i := 0) rfl) hh.below) rfl ?_
  intro w13 hh
  refine aI (aa (sr (mI ?_)))
  refine dn (aa (cF (ak (ai (sr (bJ ?_))))))
  refine bO hh 3 ?_
  refine aT (iW f.A f.n f.a f.ds _ (hf.dg.ext hh.below) (by omega)) az.out rfl (by decide) ?_
  rintro e_ w20 ⟨A20, c20, rfl, hown_, hb_⟩
  refine ⟨_, rfl, ?_⟩
  replace hh := hh.bs (x := .row _ _ _ _ _ _) hb_ hown_
  refine aL (aa (ah (sr (bJ ?_))))
  refine bO hh 3 ?_
  refine aV (mI (aa (aj ?_)))
  replace hh := hh.sub (List.Sublist.cons_cons _ (List.Sublist.cons _ (List.Sublist.cons_cons _ (List.Sublist.cons_cons _ (List.Sublist.cons_cons _ List.Sublist.slnil)))))
  rw [df] at hh
  refine bq [8, 9, 24, 25, 26, 27, 28, 29, 30, 31, 32, 33, 34, 35, 36] 24
   (fun v w' => ∃ j : Nat, j ≤ f.n ∧ v = .int .i64 j ∧ Hp w [.row A20 f.n c20 3 1 (bA (bf (nF f.ns g.ns j))), .blk b4 28 [.slice none 0 0, .slice none 0 0] (0, 0), .blk b3 28 [.slice g.A g.n g.a, .slice g.B g.m g.b] (0, 0), .blk b2 28 [.slice f.A f.n f.a, .slice f.B f.m f.b] (0, 0)] w')
   (fun v _ => f.n - (intOf v).toNat) ?_ ?_
  ·exact ⟨0, Nat.zero_le _, rfl, hh⟩
  ·clear hh
   rintro ρ' v w' ⟨j, hj, rfl, hh⟩
   by_cases hjn : j < f.n
   ·obtain ⟨x, hx⟩ := au (l := f.ns) (k := j) (by omega)
    obtain ⟨y, hy⟩ := au (l := g.ns) (k := j) (by omega)
    have hgx := bG (cZ (xm (b := g.ns) (by omega) hx))
    have hgy : (bA g.ds)[j]? = some (.int .i64 (y : Int)) := by rw [dg]; exact bG (cZ hy)
    have hml : (bA (bf (nF f.ns g.ns j))).length = f.n := by rw [bK, cd, vF (by omega) (by omega)]; omega
    have hx127 := hflow x (List.mem_of_getElem? hx)
    have hy127 := hglow y (List.mem_of_getElem? hy)
    obtain ⟨a2, hA2, s2⟩ := hg.dg.at_ (by omega)
    have hev2 : Value.slice g.A g.n g.a = .slice (some a2) g.n g.a := by rw [hA2]
    obtain ⟨gd, rfl⟩ := hh.dw (i := 0) rfl (by omega)
    refine sr ?_
    refine aJ (aa (ah (cT (ak (ai (ah (aj (sr (mI ?_)))))))))
    refine aF (k := j) aG.out aD.size hev2 rfl (by omega) (by omega) (by decide) ?_
    refine aM aD.out rfl (cJ hh.below (s2.ea hgy)) (by decide) ?_
    refine aI (aI (aa (ao (mL (mI ?_)))))
    refine bk (k := j) aG.out aD.size rfl rfl (by omega) (by omega) (by decide) ?_
    refine aM aD.out rfl (hh.ck (i := 0) rfl (by first | assumption | (simp only [Nat.mul_one]; assumption))) (by decide) ?_
    refine mI ?_
    refine bu ?_
    refine bk (k := j) aG.out aD.size rfl rfl (by omega) (by omega) (by decide) ?_
    refine bz hh (i := 0) (vs := [_]) rfl rfl (bQ rfl) rfl aD.out rfl (by omega) rfl ?_
    intro ws hh
    simp only [List.set_cons_zero] at hh
    rw [eH _ (by rw [← bK]; omega), vq (by omega) hx hy] at hh
    refine aE (aZ (ai (ao ?_)))
    refine bu (mI (aE (ai ?_)))
    refine ⟨⟨j + 1, by omega, rfl, hh⟩, by show f.n - (j + 1) < f.n - j; omega, ?_⟩
    (repeat (first | exact av _ _ _ | refine aC rfl ?_ | refine ar rfl ?_))
   ·obtain rfl : j = f.n := by omega
    rw [u0 (by omega) (by omega)] at hh
    have hbig := fun w1 hS1 => mC A20 f.n c20 (cI f.ns g.ns) w1 hS1 (by omega) (fun d hd => by have := hadd d hd; omega)
    cases hb : iX (cI f.ns g.ns) with
    | true =>
     rw [hb] at hbig
     rw [if_pos rfl]
     refine sr ?_
     refine aJ (aa (ah (cF ?_)))
     refine aP ?_
     refine aw (aw (bj (ai (ah (sr (mL ?_))))))
     refine bH hh (hbig _ (hh.aW (i := 0) rfl)) rfl ?_
     intro w38 hh
     refine aa (cT (sr ?_))
     refine fh [_,_] ?_
     refine bP hh 1 [_,_] ?_
     intro ws hh
     replace hh : Hp _ (_ :: .blk _ _ [_, _] _ :: _) _ := hh
     refine aI (aa (aq (aH ?_)))
     refine nV (a6 rfl (a7 (vs := [_, _]) aD.out (hh.ax (i := 1) (n := 2) rfl rfl) rfl) (cU (dR rfl) bx)) ?_
     exact .inl ⟨by decide, rfl, hh.below⟩
    | false =>
     rw [hb] at hbig
     rw [if_neg (by decide)]
     have h4 : ay (cI f.ns g.ns) ≤ 4096 := by
      unfold iX at hb
      have := (Bool.or_eq_false_iff.1 hb).2
      have := of_decide_eq_false this
      omega
     have hfm : f.m = ay f.ns := by omega
     have hgm : g.m = ay g.ns := by omega
     have hmul : ay g.ns * ay f.ns ≤ 200 * 200 := Nat.mul_le_mul (by omega) (by omega)
     have hzs : ∀ x ∈ [f, g], ∀ y ∈ x.cs.map NR.d, Sz k y := fun x hx y hy => by
      obtain ⟨c, hc, rfl⟩ := List.mem_map.1 hy
      exact ((hall x hx).2.num c hc).2
     have htm : ∀ w1, gH w1 → Below w.heap.size w w1 → Calls Tryz.prog 60 #[.agg #[.slice f.A f.n f.a, .slice f.B f.m f.b], .agg #[.slice g.A g.n g.a, .slice g.B g.m g.b]] w1 fun r w' => ∃ p : FX, o0 (cI f.ns g.ns) (kb f.ns g.ns (f.cs.map NR.d) (g.cs.map NR.d)) p ∧ r = .returned (.agg #[.slice p.A p.n p.a, .slice p.B p.m p.b]) ∧ Hp w1 [p.dZ, p.dV] w' := fun w1 hT1 hb1 => by
      have s1 := hf.dg.ext hb1
      have s2 := hf.nm.ext hb1
      have s3 := hg.dg.ext hb1
      have s4 := hg.nm.ext hb1
      rw [df] at s1
      rw [cf, hfm] at s2
      rw [dg, hgn] at s3
      rw [cg, hgm] at s4
      rw [hgn, hfm, hgm]
      refine (ky f.A f.B g.A g.B f.n f.a f.b g.a g.b f.ns g.ns (f.cs.map NR.d) (g.cs.map NR.d) k k w1 hT1 s1 s2 s3 s4 (by omega) hflow hglow h4 (by omega) (hzs f (by simp)) (hzs g (by simp)) (by omega)).mono fun r w' h => ?_
      obtain ⟨A, a, B, b, rfl, h2⟩ := h
      exact ⟨⟨A, f.n, a, B, ay (cI f.ns g.ns), b, bf (cI f.ns g.ns), _⟩, ⟨rfl, rfl, by rw [gZ (by omega)]; exact hfl.symm, rfl⟩, rfl, h2⟩
     refine sr ?_
     refine aJ (aa (ah (cF ?_)))
     refine aP ?_
     refine aw (aw (bj (ai (ah (sr (mL ?_))))))
     refine bH hh (hbig _ (hh.aW (i := 0) rfl)) rfl ?_
     intro w38 hh
     refine aa (cF (ak (ai (sr ?_))))
     refine cz hh 3 [_,_] ?_
     refine cz hh 2 [_,_] ?_
     refine aT (htm _ (hT.hp hh) hh.below) az.out rfl (by decide) ?_
     rintro e_ w42 ⟨p, hp, rfl, h2⟩
     refine ⟨_, rfl, ?_⟩
     replace hh := hh.join h2
     refine bP hh 3 [_,_] ?_
     intro ws hh
     replace hh : Hp _ (_ :: _ :: _ :: .blk _ _ [_, _] _ :: _) _ := hh
     refine aI (aa (aq ?_))
     refine nV (a6 rfl (a7 (vs := [_, _]) aD.out (hh.ax (i := 3) (n := 2) rfl rfl) rfl) (cU (dR rfl) bx)) ?_
     exact .inr ⟨rfl, p, hp, rfl, hh.sub (List.sublist_append_left [_, _] _)⟩
 ·rw [if_pos h0]
  refine al (N := 43) (l := [.agg #[.slice f.A f.n f.a, .slice f.B f.m f.b], .agg #[.slice g.A g.n g.a, .slice g.B g.m g.b]]) Tryz.func18 rfl rfl (by simp) ?_
  refine sr ?_
  refine cS hh [_,_] ?_
  intro b2 w2 hh
  refine cS hh [_,_] ?_
  intro b3 w3 hh
  refine cG hh ?_
  intro b4 w4 hh
  refine aI (aa (ah (sr ?_)))
  refine cz hh 2 [_,_] ?_
  refine cz hh 1 [_,_] ?_
  refine aK hh (cs := [_, _, _, _]) aG.out aD.out (aQ (cA rfl) (aQ (cA rfl) bF)) rfl rfl (by decide) (by decide) (by decide) rfl (by decide) ?_
  intro b12 w12 hh
  refine bH hh (hlk _ _ _ (hT.hp hh) (hh.aW (i := 0) rfl) hh.below) rfl ?_
  intro w13 hh
  refine aI (aa (sr (mI ?_)))
  refine dn (aa (cT (sr ?_)))
  refine fh [_,_] (mI ?_)
  refine bP hh 1 [_,_] ?_
  intro ws hh
  replace hh : Hp _ (_ :: .blk _ _ [_, _] _ :: _) _ := hh
  refine aI (aa (aq (aH ?_)))
  refine nV (a6 rfl (a7 (vs := [_, _]) aD.out (hh.ax (i := 1) (n := 2) rfl rfl) rfl) (cU (dR rfl) bx)) ?_
  exact .inl ⟨h0, rfl, hh.below⟩
theorem pq (fx : FX) (c : NR) (k : Nat) (w : World) (hT : gH w) (hf : fx.at_ w) (hlf : fx.gJ k) (hc : c.ok) (hcz : Sz k c.d) (hk : k ≤ 90000) :
  Calls Tryz.prog 27 #[.agg #[.slice fx.A fx.n fx.a, .slice fx.B fx.m fx.b], .agg #[.bool c.neg, .string c.ct, .int .i64 c.e]] w fun r w' =>
   (fx.e ≠ 0 ∧ r = nw fx.e ∧ Below w.heap.size w w') ∨
   (fx.e = 0 ∧ ∃ p : FX, o0 fx.ns (fx.cs.map fun x => x.d * c.d) p ∧ r = .returned (.tuple #[.agg #[.slice p.A p.n p.a, .slice p.B p.m p.b], .int .i64 0]) ∧ Hp w [p.dZ, p.dV] w') := by
 have hh := Hp.start w
 have hck := fun w1 hT1 hb => po fx k w1 hT1 (hf.ext hb) hlf
 have hlnf := hf.dg.1
 rw [bK] at hlnf
 have hlmf := hf.nm.di NR.len (by decide)
 have hn20 := hlf.yO
 have hm60 := hlf.At
 by_cases h0 : fx.e = 0
 ·obtain ⟨df, cf, hf12, hflow, hfc, _⟩ := FX.fv h0
  refine al (N := 38) (l := [.agg #[.slice fx.A fx.n fx.a, .slice fx.B fx.m fx.b], .agg #[.bool c.neg, .string c.ct, .int .i64 c.e]]) Tryz.func27 rfl rfl (by simp) ?_
  refine sr ?_
  refine cS hh [_,_] ?_
  intro b2 w2 hh
  refine cS hh [_,_,_] ?_
  intro b3 w3 hh
  refine cG hh ?_
  intro b4 w4 hh
  refine aI (aa (ah (sr ?_)))
  refine cz hh 2 [_,_] ?_
  refine bH hh (hck _ (hT.hp hh) hh.below) rfl ?_
  intro w11 hh
  refine aI (aa (sr (mI ?_)))
  refine dn (aa (cF (ak (ai (sr (bJ ?_))))))
  refine bO hh 2 ?_
  refine aT (iW fx.A fx.n fx.a fx.ds _ (hf.dg.ext hh.below) (by omega)) az.out rfl (by decide) ?_
  rintro e_ w18 ⟨A18, c18, rfl, hown_, hb_⟩
  refine ⟨_, rfl, ?_⟩
  replace hh := hh.bs (x := .row _ _ _ _ _ _) hb_ hown_
  refine fh [_,_] ?_
  refine cG hh ?_
  intro b7 w7 hh
  refine bP hh 0 [_,_] ?_
  intro ws hh
  replace hh : Hp _ (.blk _ _ [_, _] _ :: _) _ := hh
  refine aa (ah (sr (bJ ?_)))
  refine bO hh 4 ?_
  refine aV (mI (aa (aj ?_)))
  replace hh := hh.ed 39 3
  refine bq [9, 23, 24, 25, 26, 27, 28, 29, 30, 31, 32, 33, 34, 35, 36] 23
   (fun v w' => ∃ (i c1 : Nat) (A : Option Addr), i ≤ fx.m ∧ v = .int .i64 i ∧ Hp w [.row A i c1 39 3 (bR NR.cells (((fx.cs.take i).map fun x => x.d * c.d).map nR)), .blk b7 28 [.slice A18 fx.n c18, .slice A i c1] (0, 0), .row A18 fx.n c18 3 1 (bA fx.ds), .blk b4 28 [.slice none 0 0, .slice none 0 0] (0, 0), .blk b3 39 [.bool c.neg, .string c.ct, .int .i64 c.e] (0, 0), .blk b2 28 [.slice fx.A fx.n fx.a, .slice fx.B fx.m fx.b] (0, 0)] w')
   (fun v _ => fx.m - (intOf v).toNat) ?_ ?_
  ·exact ⟨0, 0, none, Nat.zero_le _, rfl, hh⟩
  ·clear hh
   rintro ρ' v w' ⟨i, c1, A, hi, rfl, hh⟩
   by_cases hlt : i < fx.m
   ·obtain ⟨x, hx⟩ := au (l := fx.cs) (k := i) (by omega)
    obtain ⟨hxo, hxz⟩ := hlf.num x (List.mem_of_getElem? hx)
    obtain ⟨a2, hA2, s2⟩ := hf.nm.at_ (by omega)
    have hev2 : Value.slice fx.B fx.m fx.b = .slice (some a2) fx.m fx.b := by rw [hA2]
    have hmul := fun A cc w1 hT1 hS1 => kn A 2 cc [x, c] w1 hT1 hS1 (by simpa using ⟨hxo, hc⟩) k (by simpa using ⟨hxz, hcz⟩) (by omega) (by omega)
    rw [show iz ([x, c].map NR.d) = x.d * c.d by show 1 * x.d * c.d = _; rw [Dyadic.one_mul]] at hmul
    refine sr ?_
    refine aJ (aa (ah (cT (ak (ai (ah (aj (sr ?_))))))))
    refine aF (k := i) aG.out aD.size hev2 rfl (by omega) (by omega) (by decide) ?_
    refine cK (vs := [_, _, _]) aD.out rfl ((s2.ext hh.below).recAt NR.len hx) rfl (by decide) ?_
    refine cG hh ?_
    intro b9 w9 hh
    refine bP hh 0 [_,_,_] ?_
    intro ws hh
    replace hh : Hp _ (.blk _ _ [_, _, _] _ :: _) _ := hh
    refine aa ?_
    refine aN 7 [[(7, none)], [(27, some 0)], [(9, none)], [(3, none)], [(29, some 2), (30, some 3)], [(31, some 4)], [(32, some 5)]] [(6, 33), (5, 32), (4, 31), (3, 30), (2, 29), (1, 28), (0, 27)] hh mixed (by kernel_rfl) ?_
    refine dI ?_
    refine ef 2 ?_
    refine gk 0 [_,_,_] ?_
    refine gk 5 [_,_,_] ?_
    refine ry [_,_,_,_,_,_] ?_
    refine dt (i := 5) (Is (.agg #[.bool (nR (x.d * c.d)).neg, .string (nR (x.d * c.d)).ct, .int .i64 (nR (x.d * c.d)).e])) Is.ext ?_ ?_
    ·intro ρ1 w1 hj hR
     obtain ⟨A31, c31, h31, s31⟩ := hR.1
     exact eN rfl (dE az.out (bC h31 cY)) (hmul A31 c31 _ (hT.hp hj.hp) s31) (fun _ _ hq => ⟨_, hq.1, hq.2, rfl⟩)
    refine ry [_,_,_] ?_
    refine bo ?_
    intro f W hJ hV
    have hb_8 := hJ.bl
    obtain ⟨v33, v32, v31, v30, v29, v28, v27, _⟩ := hV
    obtain ⟨A31, c31, e31, f31⟩ : Rows _ _ _ (f 4) W := v31
    obtain ⟨A33, c33, e33, f33⟩ : Rows _ _ _ (f 6) W := v33
    replace hh := hJ.hp
    refine aY (bm (ae e33 (ae v32 (ae e31 (ae v30 (ae v29 (ae v28 (ae v27 aX)))))))) ?_
    dsimp only [cj]
    clear e31 e33 hJ
    refine cv hh (i := 1) rfl rfl rfl (f33) aG.out aD.out rfl (by decide) (by first | rfl | exact cq _ | exact bX _ | exact bD _ | exact bW NR.one _) (by omega) (by omega) (by decide) ?_
    intro A34 c34 w34 hh
    simp only [List.set_cons_zero, List.set_cons_succ] at hh
    refine bJ ?_
    refine bP hh 2 [_] ?_
    intro ws hh
    replace hh : Hp _ (_ :: _ :: .blk _ _ [_, _] _ :: _) _ := hh
    refine aE (aZ (ai (ao ?_)))
    refine bu (mI (aE (ai ?_)))
    replace hh := hh.sub (List.Sublist.cons _ (List.Sublist.cons_cons _ (List.Sublist.cons_cons _ (List.Sublist.cons_cons _ (List.Sublist.cons_cons _ (List.Sublist.cons_cons _ (List.Sublist.cons_cons _ List.Sublist.slnil)))))))
    refine ⟨⟨i + 1, c34, A34, by omega, rfl, ?_⟩, by show fx.m - (i + 1) < fx.m - i; omega, ?_⟩
    ·rw [aO hx, List.map_append, List.map_append, dk]
     exact hh
    ·(repeat (first | exact av _ _ _ | refine aC rfl ?_ | refine ar rfl ?_))
   ·obtain rfl : i = fx.m := by omega
    rw [List.take_of_length_le (by omega)] at hh
    refine sr ?_
    refine aJ (aa (ah (cF ?_)))
    refine aP ?_
    refine aw (aw (bj (ai (sr ?_))))
    refine cz hh 1 [_,_] ?_
    refine bP hh 3 [_,_] ?_
    intro ws hh
    replace hh : Hp _ (_ :: _ :: _ :: .blk _ _ [_, _] _ :: _) _ := hh
    refine aI (aa (aq ?_))
    replace hh := hh.sub (List.Sublist.cons_cons _ (List.Sublist.cons _ (List.Sublist.cons_cons _ (List.Sublist.cons_cons _ (List.Sublist.cons _ (List.Sublist.cons _ List.Sublist.slnil))))))
    refine nV (a6 rfl (a7 (vs := [_, _]) aD.out (hh.ax (i := 2) (n := 2) rfl rfl) rfl) (cU (dR rfl) bx)) ?_
    exact .inr ⟨h0, ⟨A18, fx.n, c18, A, fx.m, c1, fx.ds, _⟩, ⟨df, rfl, by show fx.n = fx.ns.length; unfold FX.ns; rw [List.length_map]; omega, by show fx.m = ay fx.ns; omega⟩, rfl, hh.sub (List.sublist_append_left [_, _] _)⟩
 ·refine al (N := 38) (l := [.agg #[.slice fx.A fx.n fx.a, .slice fx.B fx.m fx.b], .agg #[.bool c.neg, .string c.ct, .int .i64 c.e]]) Tryz.func27 rfl rfl (by simp) ?_
  refine sr ?_
  refine cS hh [_,_] ?_
  intro b2 w2 hh
  refine cS hh [_,_,_] ?_
  intro b3 w3 hh
  refine cG hh ?_
  intro b4 w4 hh
  refine aI (aa (ah (sr ?_)))
  refine cz hh 2 [_,_] ?_
  refine bH hh (hck _ (hT.hp hh) hh.below) rfl ?_
  intro w11 hh
  refine aI (aa (sr (mI ?_)))
  refine dn (aa (cT (sr ?_)))
  refine fh [_,_] (mI ?_)
  refine bP hh 0 [_,_] ?_
  intro ws hh
  replace hh : Hp _ (.blk _ _ [_, _] _ :: _) _ := hh
  refine aI (aa (aq (aH ?_)))
  refine nV (a6 rfl (a7 (vs := [_, _]) aD.out (hh.ax (i := 0) (n := 2) rfl rfl) rfl) (cU (dR rfl) bx)) ?_
  exact .inl ⟨h0, rfl, hh.below⟩
end Go.Proofs.YtioilmppidlbnaaGreatDoor
/- The walks through the program's package of products of powers (mono), and through the document's answer's. -/
namespace Go.Proofs.YtioilmppidlbnaaGreatDoor
open Go.RowKit
end Go.Proofs.YtioilmppidlbnaaGreatDoor
/- The walks through the document's answer's products of powers. -/
namespace Go.Proofs.YtioilmppidlbnaaGreatDoor
open Go.RowKit
theorem nX (A B : Option Addr) (n m c c' : Nat) (xs ys : List Int) (w : World) (hx : Sl w A n 1 (bA xs)) (hy : Sl w B m 1 (bA ys)) (hn : n ≤ 100000) (hm : m ≤ 100000) :
  Calls Tryz.prog 44 #[.slice A n c, .slice B m c'] w fun e w' => e = .returned (.bool (decide (xs = ys))) ∧ Below w.heap.size w w' := by
 have hxl : xs.length = n := by have := hx.1; rw [bK] at this; omega
 have hyl : ys.length = m := by have := hy.1; rw [bK] at this; omega
 have hh := Hp.start w
 by_cases hnm : n = m
 ·subst hnm
  refine al (N := 26) (l := [.slice A n c, .slice B n c']) Tryz.func44 rfl rfl (by simp) ?_
  refine sr (aB (aa (ah (sr (mL (aV (mL (aV ?_))))))))
  refine dn (aa (cF (ak (ai (ah (sr (aI (aa (aj ?_)))))))))
  refine bq [4, 5, 11, 12, 13, 14, 15, 16, 17, 18, 19, 20, 21, 22, 23, 24, 25] 5
   (fun i w' => ∃ k : Nat, k ≤ n ∧ i = .int .i64 k ∧ xs.take k = ys.take k ∧ Hp w [] w')
   (fun i _ => n - (intOf i).toNat) ?_ ?_
  ·exact ⟨0, Nat.zero_le _, rfl, rfl, hh⟩
  ·clear hh
   rintro ρ' i w' ⟨k, hk, rfl, he, hh⟩
   replace hx := hx.ext hh.below
   replace hy := hy.ext hh.below
   by_cases hlt : k < n
   ·obtain ⟨x, hxk⟩ := au (l := xs) (k := k) (by omega)
    obtain ⟨y, hyk⟩ := au (l := ys) (k := k) (by omega)
    obtain ⟨ad, rfl, hr⟩ := hx.at_ (by omega)
    obtain ⟨bd, rfl, hs⟩ := hy.at_ (by omega)
    by_cases hxy : x = y
    ·subst hxy
     refine ah (sr (mI (mL (aV ?_))))
     refine aJ (aa (cT (ak (ai (ah (aj (ah ?_)))))))
     refine aN 8 [[(0, none)], [(5, none)], [(17, some 0), (18, some 1)], [(19, some 2)], [(1, none)], [(5, none)], [(21, some 4), (22, some 5)], [(23, some 6)]] [(7, 24), (6, 23), (5, 22), (4, 21), (3, 20), (2, 19), (1, 18), (0, 17)] hh mixed (by kernel_rfl) ?_
     refine fk ?_
     refine dD ?_
     refine aU (i := 2) (fun ρ1 w1 hj hR => bI aG.out aD.size (show ρ1 17 = Value.slice _ _ _ from hR.1) (show ρ1 18 = Value.int _ _ from hR.2.1) (by omega) (by omega)) ?_
     refine jW (fun _ hj => ej (hr.ext hj.bl) (bG hxk) rfl) ?_
     refine fk ?_
     refine dD ?_
     refine aU (i := 6) (fun ρ1 w1 hj hR => bI aG.out aD.size (show ρ1 21 = Value.slice _ _ _ from hR.1) (show ρ1 22 = Value.int _ _ from hR.2.1) (by omega) (by omega)) ?_
     refine jW (fun _ hj => ej (hs.ext hj.bl) (bG hyk) rfl) ?_
     refine bo ?_
     intro f W hJ hV
     have hb_6 := hJ.bl
     obtain ⟨v24, v23, v22, v21, v20, v19, v18, v17, _⟩ := hV
     replace hh := hJ.hp
     refine aY (bm (ae v24 (ae v23 (ae v22 (ae v21 (ae v20 (ae v19 (ae v18 (ae v17 aX))))))))) ?_
     dsimp only [cj]
     clear hJ
     refine dn (aa (cF (ak (aZ (ai (ao (mI ?_)))))))
     refine bu (aI (aE (ai ?_)))
     refine ⟨⟨k + 1, by omega, rfl, by rw [aO hxk, aO hyk, he], hh⟩, by show n - (k + 1) < n - k; omega, ?_⟩
     (repeat (first | exact av _ _ _ | refine aC rfl ?_ | refine ar rfl ?_))
    ·refine ah (sr (mI (mL (aV ?_))))
     refine aJ (aa (cT (ak (ai (ah (aj (ah ?_)))))))
     refine aN 8 [[(0, none)], [(5, none)], [(17, some 0), (18, some 1)], [(19, some 2)], [(1, none)], [(5, none)], [(21, some 4), (22, some 5)], [(23, some 6)]] [(7, 24), (6, 23), (5, 22), (4, 21), (3, 20), (2, 19), (1, 18), (0, 17)] hh mixed (by kernel_rfl) ?_
     refine fk ?_
     refine dD ?_
     refine aU (i := 2) (fun ρ1 w1 hj hR => bI aG.out aD.size (show ρ1 17 = Value.slice _ _ _ from hR.1) (show ρ1 18 = Value.int _ _ from hR.2.1) (by omega) (by omega)) ?_
     refine jW (fun _ hj => ej (hr.ext hj.bl) (bG hxk) rfl) ?_
     refine fk ?_
     refine dD ?_
     refine aU (i := 6) (fun ρ1 w1 hj hR => bI aG.out aD.size (show ρ1 21 = Value.slice _ _ _ from hR.1) (show ρ1 22 = Value.int _ _ from hR.2.1) (by omega) (by omega)) ?_
     refine jW (fun _ hj => ej (hs.ext hj.bl) (bG hyk) rfl) ?_
     refine bo ?_
     intro f W hJ hV
     have hb_6 := hJ.bl
     obtain ⟨v24, v23, v22, v21, v20, v19, v18, v17, _⟩ := hV
     replace hh := hJ.hp
     refine aY (bm (ae v24 (ae v23 (ae v22 (ae v21 (ae v20 (ae v19 (ae v18 (ae v17 aX))))))))) ?_
     dsimp only [cj]
     clear hJ
     refine dn (aa (cT (sr (aB (aa (aq (bM (aH (aH (bM (aH ?_)))))))))))
     refine cu ?_
     have : ¬ xs = ys := fun h => hxy (by rw [h, hyk] at hxk; exact (Option.some.inj hxk).symm)
     simp only [this, decide_false]
     first | exact ⟨rfl, hh.below⟩ | exact ⟨trivial, hh.below⟩
   ·refine ah (sr (mI (mL (aV ?_))))
    refine aJ (aa (cF ?_))
    refine aP ?_
    refine aw (aw (bj (ai (sr (aB (aa (aq ?_)))))))
    refine cu ?_
    rw [List.take_of_length_le (by omega), List.take_of_length_le (by omega)] at he
    simp only [he, decide_true]
    first | exact ⟨rfl, hh.below⟩ | exact ⟨trivial, hh.below⟩
 ·refine al (N := 26) (l := [.slice A n c, .slice B m c']) Tryz.func44 rfl rfl (by simp) ?_
  refine sr (aB (aa (ah (sr (mL (aV (mL (aV ?_))))))))
  refine dn (aa (cT (sr (aB (aa (aq (aH ?_)))))))
  refine cu ?_
  have : ¬ xs = ys := fun h => hnm (by rw [← hxl, ← hyl, h])
  simp only [this, decide_false]
  first | exact ⟨rfl, hh.below⟩ | exact ⟨trivial, hh.below⟩
end Go.Proofs.YtioilmppidlbnaaGreatDoor
/- The walks through count and All. -/
namespace Go.Proofs.YtioilmppidlbnaaGreatDoor
open Go.RowKit
theorem uZ (l : List ByteArray) (x : ByteArray) : il l ++ [.string x] = il (l ++ [x]) := by simp [il]
end Go.Proofs.YtioilmppidlbnaaGreatDoor
/- The walk through the document's answer's All. -/
namespace Go.Proofs.YtioilmppidlbnaaGreatDoor
open Go.RowKit
theorem sa (D : Option Addr) (n c : Nat) (ds : List Int) (w : World) (hD : Sl w D n 1 (bA ds)) (hn : n ≤ 100000) :
  Calls Tryz.prog 154 #[.slice D n c] w fun e w' => ∃ A c, e = .returned (.slice A (m8 ds).length c) ∧ w'.ownsRow w.heap.size 9 1 (.slice A (m8 ds).length c) (m8 ds).length (il (m8 ds)) ∧ Below w.heap.size w w' := by
 have hdl : ds.length = n := by have := hD.1; rw [bK] at this; omega
 have hh := Hp.start w
 refine al (N := 72) (l := [.slice D n c]) Tryz.func154 rfl rfl (by simp) ?_
 refine sr (aL (aa (sr (aI (aa (ah (sr (aI (aa (aj ?_))))))))))
 refine bY [2, 3, 4, 10, 11, 12, 13, 14, 15, 16, 17, 18, 19, 20, 21, 22, 23, 24, 25, 26, 27, 28, 29, 30, 31, 32, 33, 34, 35, 36] 3 4
  (fun p i w' => ∃ (k : Nat), k ≤ n ∧ i = .int .i64 k ∧ p = .int .i64 (dX (ds.take k)).length ∧ (dX (ds.take k)).length ≤ 65536 ∧ nT 1 ds = nT (dX (ds.take k)).length (ds.drop k) ∧ w = w')
  (fun _ i _ => n - (intOf i).toNat) ?_ ?_
 ·exact ⟨0, Nat.zero_le _, rfl, rfl, by simp [dX], rfl, rfl⟩
 ·rintro ρ' p i w' ⟨k, hk, rfl, rfl, hsz, hok, rfl⟩
  by_cases hlt : k < n
  ·obtain ⟨d, hdk⟩ := au (l := ds) (k := k) (by omega)
   obtain ⟨ad, rfl, hr⟩ := hD.at_ (by omega)
   have hpos := qC (ds.take k)
   by_cases hb1 : 0 ≤ d ∧ d ≤ 127
   ·have hm1 : (0 : Int) ≤ (dX (ds.take k)).length * (d + 1) := Int.mul_nonneg (by omega) (by omega)
    have hm2 : ((dX (ds.take k)).length : Int) * (d + 1) ≤ 65536 * 128 := Int.mul_le_mul (by omega) (by omega) (by omega) (by omega)
    by_cases hb2 : ((dX (ds.take k)).length : Int) * (d + 1) ≤ 65536
    ·have hstep := qP hdk hok ⟨hb1, hb2⟩
     rw [← gj hdk hb1.1] at hstep
     have hl2 := gj hdk hb1.1
     refine ah (sr (mI (mL (aV ?_))))
     refine aJ (aa (cT (ak (ai (ah (aj (ah (sr (mL (mI ?_))))))))))
     refine cD aG.out aD.size rfl rfl (by omega) (by omega) (by decide) ?_
     refine aM aD.out rfl (ej hr (bG hdk) rfl) (by decide) ?_
     refine aJ (mB ?_)
     first | refine gS ?_ | (refine gT ?_; refine mL ?_) | refine gV ?_
     first | refine gS ?_ | (refine gT ?_; refine mI ?_) | refine gV ?_
     first | refine gS ?_ | (refine gT ?_; refine cD aG.out aD.size rfl rfl (by omega) (by omega) (by decide) ?_) | refine gV ?_
     refine aR rfl rfl (aM aD.out rfl (ej hr (bG hdk) rfl) (by decide) ?_)
     first | refine gS ?_ | (refine gT ?_; refine bT ?_) | refine gV ?_
     first | refine cQ ?_ | refine cP ?_
     refine aa (cF (ak (ai (sr (mI (mL (mI ?_)))))))
     refine cD aG.out aD.size rfl rfl (by omega) (by omega) (by decide) ?_
     refine aM aD.out rfl (ej hr (bG hdk) rfl) (by decide) ?_
     refine bu ?_
     refine mulC (aI (aa (sr (mI ?_))))
     refine bT (aa (cF (ak (aZ (ai (ao (mI ?_)))))))
     refine bu (aI (aE (ai ?_)))
     refine ⟨⟨k + 1, by omega, rfl, by rw [hl2]; rfl, by omega, hstep, rfl⟩, by show n - (k + 1) < n - k; omega, ?_⟩
     (repeat (first | exact av _ _ _ | refine aC rfl ?_ | refine ar rfl ?_))
    ·have hf := mN hdk hok fun h => hb2 h.2
     refine ah (sr (mI (mL (aV ?_))))
     refine aJ (aa (cT (ak (ai (ah (aj (ah (sr (mL (mI ?_))))))))))
     refine cD aG.out aD.size rfl rfl (by omega) (by omega) (by decide) ?_
     refine aM aD.out rfl (ej hr (bG hdk) rfl) (by decide) ?_
     refine aJ (mB ?_)
     first | refine gS ?_ | (refine gT ?_; refine mL ?_) | refine gV ?_
     first | refine gS ?_ | (refine gT ?_; refine mI ?_) | refine gV ?_
     first | refine gS ?_ | (refine gT ?_; refine cD aG.out aD.size rfl rfl (by omega) (by omega) (by decide) ?_) | refine gV ?_
     refine aR rfl rfl (aM aD.out rfl (ej hr (bG hdk) rfl) (by decide) ?_)
     first | refine gS ?_ | (refine gT ?_; refine bT ?_) | refine gV ?_
     first | refine cQ ?_ | refine cP ?_
     refine aa (cF (ak (ai (sr (mI (mL (mI ?_)))))))
     refine cD aG.out aD.size rfl rfl (by omega) (by omega) (by decide) ?_
     refine aM aD.out rfl (ej hr (bG hdk) rfl) (by decide) ?_
     refine bu ?_
     refine mulC (aI (aa (sr (mI ?_))))
     refine bT (aa (cT (sr (aL (aa (aq (bM (aH (aH (bM (aH ?_)))))))))))
     refine cu ?_
     simp only [m8, hf]
     exact ⟨none, 0, rfl, World.ownsRow_nil _ _ _ _, hh.below⟩
   ·have hf := mN hdk hok fun h => hb1 h.1
    refine ah (sr (mI (mL (aV ?_))))
    refine aJ (aa (cT (ak (ai (ah (aj (ah (sr (mL (mI ?_))))))))))
    refine cD aG.out aD.size rfl rfl (by omega) (by omega) (by decide) ?_
    refine aM aD.out rfl (ej hr (bG hdk) rfl) (by decide) ?_
    by_cases h0 : d < 0
    ·refine aJ (mB ?_)
     first | refine gS ?_ | (refine gT ?_; refine mL ?_) | refine gV ?_
     first | refine gS ?_ | (refine gT ?_; refine mI ?_) | refine gV ?_
     first | refine gS ?_ | (refine gT ?_; refine cD aG.out aD.size rfl rfl (by omega) (by omega) (by decide) ?_) | refine gV ?_
     refine bB (by decide) rfl rfl (by decide) ?_
     first | refine gS ?_ | (refine gT ?_; refine bT ?_) | refine gV ?_
     first | refine cQ ?_ | refine cP ?_
     refine aa (cT (sr (aL (aa (aq (aH (bM (aH (aH (bM (aH ?_)))))))))))
     refine cu ?_
     simp only [m8, hf]
     exact ⟨none, 0, rfl, World.ownsRow_nil _ _ _ _, hh.below⟩
    ·refine aJ (mB ?_)
     first | refine gS ?_ | (refine gT ?_; refine mL ?_) | refine gV ?_
     first | refine gS ?_ | (refine gT ?_; refine mI ?_) | refine gV ?_
     first | refine gS ?_ | (refine gT ?_; refine cD aG.out aD.size rfl rfl (by omega) (by omega) (by decide) ?_) | refine gV ?_
     refine aR rfl rfl (aM aD.out rfl (ej hr (bG hdk) rfl) (by decide) ?_)
     first | refine gS ?_ | (refine gT ?_; refine bT ?_) | refine gV ?_
     first | refine cQ ?_ | refine cP ?_
     refine aa (cT (sr (aL (aa (aq (aH (bM (aH (aH (bM (aH ?_)))))))))))
     refine cu ?_
     simp only [m8, hf]
     exact ⟨none, 0, rfl, World.ownsRow_nil _ _ _ _, hh.below⟩
  ·obtain rfl : n = k := by omega
   rw [List.drop_of_length_le (by omega)] at hok
   have hok : nT 1 ds = true := hok
   have hbd := sO ds 1 hok
   have hAl : m8 ds = (dX ds).map fX := by simp only [m8, hok, if_true]
   refine ah (sr (mI (mL (aV ?_))))
   refine aJ (aa (cF ?_))
   refine aP ?_
   refine aw (aw (bj (ai (sr ?_))))
   refine aK hh (cs := [_]) aG.out aD.out (aQ rfl bF) rfl rfl (by decide) (by decide) (by decide) rfl (by decide) ?_
   intro b37 w37 hh
   refine aL (aa (ah (sr (aI (aa (aj ?_))))))
   refine bY [5, 6, 7, 8, 9, 38, 39, 40, 41, 42, 43, 44, 45, 46, 47, 48, 49, 50, 51, 52, 53, 54, 55, 56, 57, 58, 59, 60, 61, 62, 63, 64, 65, 66, 67, 68, 69, 70] 5 6
    (fun v i w' => ∃ (k : Nat) (A : Option Addr) (c' : Nat), k ≤ n ∧ i = .int .i64 k ∧ v = .slice A ((dX (ds.take k)).map fX).length c' ∧ Hp w [.row A ((dX (ds.take k)).map fX).length c' 9 1 (il ((dX (ds.take k)).map fX))] w')
    (fun _ i _ => n - (intOf i).toNat) ?_ ?_
   ·exact ⟨0, _, _, Nat.zero_le _, rfl, rfl, hh⟩
   ·clear hh hsz hk
    rintro ρ2 v i w' ⟨k, A, c', hk, rfl, rfl, hh⟩
    by_cases hlt : k < n
    ·obtain ⟨d, hdk⟩ := au (l := ds) (k := k) (by omega)
     have bd := hbd d (List.mem_of_getElem? hdk)
     have hst := xM hdk
     have hbig := (nu hok (k + 1) (by omega)).2
     have hbig2 : (((dX (ds.take k)).map fX).flatMap (gX d)).length ≤ 65536 := by rw [← hst, List.length_map]; exact hbig
     have hsm : ∀ (j : Nat) (s : ByteArray), ((dX (ds.take k)).map fX)[j]? = some s → s.size ≤ k := fun j s h => xr h
     have hS := (nu hok k (by omega)).2
     rw [← List.length_map (f := fX)] at hS
     generalize (dX (ds.take k)).map fX = S at *
     refine ah (sr (mI (mL (aV ?_))))
     refine aJ (aa (cT (ak (ai (ah (aj (sr (aL (aa (ah (ah ?_)))))))))))
     refine ao (aI (aa (aj ?_)))
     replace hh := hh.ed 9 1
     refine bY [7, 8, 9, 44, 45, 46, 47, 48, 49, 50, 51, 52, 53, 54, 55, 56, 57, 58, 59, 60, 61, 62, 63, 64, 65, 66, 67, 68, 69] 7 8
      (fun v j w' => ∃ (j' : Nat) (B : Option Addr) (c2 : Nat), j' ≤ S.length ∧ j = .int .i64 j' ∧ v = .slice B ((S.take j').flatMap (gX d)).length c2 ∧ Hp w [.row B ((S.take j').flatMap (gX d)).length c2 9 1 (il ((S.take j').flatMap (gX d))), .row A S.length c' 9 1 (il S)] w')
      (fun _ j _ => S.length - (intOf j).toNat) ?_ ?_
     ·exact ⟨0, none, 0, Nat.zero_le _, rfl, rfl, hh⟩
     ·clear hh
      rintro ρ3 v j w' ⟨j, B, c2, hj, rfl, rfl, hh⟩
      by_cases hlj : j < S.length
      ·obtain ⟨s, hs⟩ := au hlj
       have hss := hsm j s hs
       have hs2 := mq hs
       have hlS := ju S
       refine ah (sr (mI (mL (aV ?_))))
       refine aJ (aa (cT (ak (ai (ah (aj (sr (aI (aa (aj ?_))))))))))
       refine bY [7, 9, 50, 51, 52, 53, 54, 55, 56, 57, 58, 59, 60, 61, 62, 63, 64, 65, 66, 67, 68, 69] 7 9
        (fun v q w' => ∃ (q' : Nat) (B : Option Addr) (c2 : Nat), q' ≤ d.toNat + 1 ∧ q = .int .i64 q' ∧ v = .slice B ((S.take j).flatMap (gX d) ++ (gX d s).take q').length c2 ∧ Hp w [.row B ((S.take j).flatMap (gX d) ++ (gX d s).take q').length c2 9 1 (il ((S.take j).flatMap (gX d) ++ (gX d s).take q')), .row A S.length c' 9 1 (il S)] w')
        (fun _ q _ => d.toNat + 1 - (intOf q).toNat) ?_ ?_
       ·exact ⟨0, B, c2, Nat.zero_le _, rfl, by rw [List.take_zero, List.append_nil]; rfl, by rw [List.take_zero, List.append_nil]; exact hh⟩
       ·clear hh
        rintro ρ4 v q w' ⟨q, B, c2, hq, rfl, rfl, hh⟩
        obtain ⟨ad, rfl, hr⟩ := (hD.ext hh.below).at_ (by omega)
        by_cases hlq : q < d.toNat + 1
        ·have hq2 : (q : Int) ≤ d := by omega
         have hqo : dP (q : Int) = true := by simp [dP]; omega
         have hgb := zP (d := d) hs q
         have hcat : s.size + (ByteArray.mk [sw (q : Int)].toArray).size ≤ 9223372036854775807 := by show s.size + 1 ≤ _; omega
         obtain ⟨go, rfl⟩ := hh.dw (i := 1) rfl (by omega)
         refine ah (sr (mI (mL (mI ?_))))
         refine cD aG.out aD.size rfl rfl (by omega) (by omega) (by decide) ?_
         refine aM aD.out rfl (ej hr (bG hdk) rfl) (by decide) ?_
         refine nC (aa (cT (ak (ai (ah (aj ?_))))))
         refine aN 11 [[(7, none)], [(5, none)], [(8, none)], [(59, some 1), (60, some 2)], [(61, some 3)], [(9, none)], [(63, some 5)], [(64, some 6)], [(65, some 7)], [(62, some 4), (66, some 8)], [(67, some 9)]] [(10, 68), (9, 67), (8, 66), (7, 65), (6, 64), (5, 63), (4, 62), (3, 61), (2, 60), (1, 59), (0, 58)] hh mixed (by kernel_rfl) ?_
         refine fk ?_
         refine fk ?_
         refine dD ?_
         refine aU (i := 3) (fun ρ1 w1 hj hR => kg aG.out aD.size (show ρ1 59 = Value.slice _ _ _ from hR.1) (show ρ1 60 = Value.int _ _ from hR.2.1) rfl (by omega)) ?_
         refine aU (i := 4) (fun ρ1 w1 hj hR => cx aD.out (show ρ1 61 = Value.pointer _ from hR.1) (hj.hp.ck (i := 1) rfl (by rw [Nat.mul_one]; exact hs2))) ?_
         refine dD ?_
         refine aU (i := 6) (fun ρ1 w1 hj hR => gY aG.out aG.out (show ρ1 63 = Value.int _ _ from hR.1)) ?_
         refine ry [_] ?_
         refine dt (i := 8) (Is (.string ⟨([sw (q : Int)]).toArray⟩)) Is.ext ?_ ?_
         ·intro ρ1 w1 hj hR
          obtain ⟨A65, c65, h65, s65⟩ := hR.1
          exact ic rfl (fK (l := [sw (q : Int)]) aG.out aG.out aG.out h65 (by rw [wR (by omega) (by omega), wF hqo] at s65; exact s65)) ⟨Below.refl _ _, rfl⟩
         refine aU (i := 9) (fun ρ1 w1 hj hR => zB (show ρ1 62 = Value.string _ from hR.1) (show ρ1 66 = Value.string _ from hR.2.1) (by first | omega | assumption | (simp only [jq, jd]; omega))) ?_
         refine ry [_] ?_
         refine bo ?_
         intro f W hJ hV
         have hb_21 := hJ.bl
         obtain ⟨v68, v67, v66, v65, v64, v63, v62, v61, v60, v59, v58, _⟩ := hV
         obtain ⟨A65, c65, e65, f65⟩ : Rows _ _ _ (f 7) W := v65
         obtain ⟨A68, c68, e68, f68⟩ : Rows _ _ _ (f 10) W := v68
         replace hh := hJ.hp
         refine aY (bm (ae e68 (ae v67 (ae v66 (ae e65 (ae v64 (ae v63 (ae v62 (ae v61 (ae v60 (ae v59 (ae v58 aX)))))))))))) ?_
         dsimp only [cj]
         clear e65 e68 hJ
         refine cv hh (i := 0) rfl rfl rfl (f68) aG.out aD.out rfl (by decide) rfl (by omega) (by omega) (by decide) ?_
         intro A69 c69 w69 hh
         simp only [List.set_cons_zero] at hh
         refine aL (aE (aZ (ai (ao (mI ?_)))))
         refine bu (aI (aE (ai ?_)))
         have e1 : il ((S.take j).flatMap (gX d) ++ (gX d s).take q) ++ [.string (s ++ ByteArray.mk [sw (q : Int)].toArray)] = il ((S.take j).flatMap (gX d) ++ (gX d s).take (q + 1)) := by
          rw [uZ, aO (yp hq2), List.append_assoc]; rfl
         have e2 : ((S.take j).flatMap (gX d) ++ (gX d s).take q).length + 1 = ((S.take j).flatMap (gX d) ++ (gX d s).take (q + 1)).length := by
          rw [aO (yp (s := s) hq2)]; simp; omega
         rw [e1, e2] at hh
         refine ⟨⟨q + 1, A69, c69, by omega, rfl, by rw [← e2]; rfl, hh⟩, by show d.toNat + 1 - (q + 1) < d.toNat + 1 - q; omega, ?_⟩
         (repeat (first | exact av _ _ _ | refine aC rfl ?_ | refine ar rfl ?_))
        ·refine ah (sr (mI (mL (mI ?_))))
         refine cD aG.out aD.size rfl rfl (by omega) (by omega) (by decide) ?_
         refine aM aD.out rfl (ej hr (bG hdk) rfl) (by decide) ?_
         refine nC (aa (cF ?_))
         refine aP ?_
         refine aw (aw (bj (aZ (ai (ao (mI ?_))))))
         refine bu (aI (aE (ai ?_)))
         obtain rfl : q = d.toNat + 1 := by omega
         have e3 : (S.take j).flatMap (gX d) ++ (gX d s).take (d.toNat + 1) = (S.take (j + 1)).flatMap (gX d) := by
          rw [List.take_of_length_le (l := gX d s) (by rw [ux]; omega), aO hs, List.flatMap_append]; simp
         rw [e3] at hh ⊢
         refine ⟨⟨j + 1, B, c2, by omega, rfl, rfl, hh⟩, by show S.length - (j + 1) < S.length - j; omega, ?_⟩
         (repeat (first | exact av _ _ _ | refine aC rfl ?_ | refine ar rfl ?_))
      ·refine ah (sr (mI (mL (aV ?_))))
       refine aJ (aa (cF ?_))
       refine aP ?_
       refine aw (aw (bj (ai (ao (mL (aL (aE (aZ (ai (ao (mI ?_)))))))))))
       refine bu (aI (aE (ai ?_)))
       rw [List.take_of_length_le (l := S) (by omega), ← hst] at hh ⊢
       refine ⟨⟨k + 1, B, c2, by omega, rfl, rfl, hh.sub (.cons_cons _ (List.nil_sublist _))⟩, by show n - (k + 1) < n - k; omega, ?_⟩
       (repeat (first | exact av _ _ _ | refine aC rfl ?_ | refine ar rfl ?_))
    ·refine ah (sr (mI (mL (aV ?_))))
     refine aJ (aa (cF ?_))
     refine aP ?_
     refine aw (aw (bj (ai (sr (mL (aL (aa (aq ?_))))))))
     refine cu ?_
     have hds : dX (ds.take k) = dX ds := by rw [List.take_of_length_le (l := ds) (by omega)]
     have h1 := hh.at_ (i := 0) rfl
     rw [hAl, ← hds]
     exact ⟨A, c', rfl, h1, hh.below⟩
end Go.Proofs.YtioilmppidlbnaaGreatDoor
/- The walks through ogeeref12: forms by definition: what is wrong, ways to choose, places. -/
namespace Go.Proofs.YtioilmppidlbnaaGreatDoor
open Go.RowKit
theorem eu (A : Option Addr) (n c : Nat) (ds : List Int) (w : World) (hS : Sl w A n 1 (bA ds)) (hn : n ≤ 1000000) :
  Calls Tryz.prog 32 #[.slice A n c] w fun r w' => r = .returned (.int .i64 (jD ds)) ∧ Below w.heap.size w w' := by
 have hh := Hp.start w
 have hln : ds.length = n := by have := hS.1; simpa [bA] using this
 unfold jD
 refine al (N := 39) (l := [.slice A n c]) Tryz.func32 rfl rfl (by simp) ?_
 refine sr (aI (aa (sr (aI (aa (ah (sr (aI (aa (aj ?_))))))))))
 refine bq [2, 4, 6, 7, 8, 9, 10, 11, 12, 13, 14, 15, 16, 17, 18, 19, 20, 21, 22, 23] 4
  (fun v w' => ∃ i : Nat, i ≤ n ∧ v = .int .i64 i ∧ (ds.take i).any (fun d => !dP d) = false ∧ Hp w [] w')
  (fun v _ => n - (intOf v).toNat) ?_ ?_
 ·exact ⟨0, Nat.zero_le _, rfl, rfl, hh⟩
 ·clear hh
  rintro ρ' v w' ⟨i, hi, rfl, hall, hh⟩
  by_cases hlt : i < n
  ·obtain ⟨d, hd⟩ := au (l := ds) (k := i) (by omega)
   have hgi := bG hd
   obtain ⟨ad, rfl, hr⟩ := hS.at_ (by omega)
   have hbad : (!dP d) = true → ds.any (fun d => !dP d) = true := fun h => List.any_eq_true.2 ⟨d, List.mem_of_getElem? hd, h⟩
   by_cases h1 : d < 0
   ·refine ah (sr (mI (mL (aV ?_))))
    refine aJ (aa (cT (ak (ai (ah (aj (sr (mL (mI ?_)))))))))
    refine aF (k := i) aG.out aD.size rfl rfl (by omega) (by omega) (by decide) ?_
    refine aM aD.out rfl ((hr.ext hh.below).ea (by assumption)) (by decide) ?_
    refine aJ (mB ?_)
    first | refine gS ?_ | (refine gT ?_; refine mL ?_) | refine gV ?_
    first | refine gS ?_ | (refine gT ?_; refine mI ?_) | refine gV ?_
    first | refine gS ?_ | (refine gT ?_; refine aF (k := i) aG.out aD.size rfl rfl (by omega) (by omega) (by decide) ?_) | refine gV ?_
    first | refine gS ?_ | (refine gT ?_; refine aM aD.out rfl ((hr.ext hh.below).ea (by assumption)) (by decide) ?_) | refine gV ?_
    first | refine gS ?_ | (refine gT ?_; refine bT ?_) | refine gV ?_
    first | refine cQ ?_ | refine cP ?_
    refine aa (cT (sr (aI (aa (aq (bM (aH (aH (bM (aH ?_))))))))))
    refine cu ?_
    rw [hbad (by simp [dP]; omega), if_pos rfl]
    exact ⟨rfl, hh.below⟩
   ·by_cases h2 : 127 < d
    ·refine ah (sr (mI (mL (aV ?_))))
     refine aJ (aa (cT (ak (ai (ah (aj (sr (mL (mI ?_)))))))))
     refine aF (k := i) aG.out aD.size rfl rfl (by omega) (by omega) (by decide) ?_
     refine aM aD.out rfl ((hr.ext hh.below).ea (by assumption)) (by decide) ?_
     refine aJ (mB ?_)
     first | refine gS ?_ | (refine gT ?_; refine mL ?_) | refine gV ?_
     first | refine gS ?_ | (refine gT ?_; refine mI ?_) | refine gV ?_
     first | refine gS ?_ | (refine gT ?_; refine aF (k := i) aG.out aD.size rfl rfl (by omega) (by omega) (by decide) ?_) | refine gV ?_
     first | refine gS ?_ | (refine gT ?_; refine aM aD.out rfl ((hr.ext hh.below).ea (by assumption)) (by decide) ?_) | refine gV ?_
     first | refine gS ?_ | (refine gT ?_; refine bT ?_) | refine gV ?_
     first | refine cQ ?_ | refine cP ?_
     refine aa (cT (sr (aI (aa (aq (bM (aH (aH (bM (aH ?_))))))))))
     refine cu ?_
     rw [hbad (by simp [dP]; omega), if_pos rfl]
     exact ⟨rfl, hh.below⟩
    ·refine ah (sr (mI (mL (aV ?_))))
     refine aJ (aa (cT (ak (ai (ah (aj (sr (mL (mI ?_)))))))))
     refine aF (k := i) aG.out aD.size rfl rfl (by omega) (by omega) (by decide) ?_
     refine aM aD.out rfl ((hr.ext hh.below).ea (by assumption)) (by decide) ?_
     refine aJ (mB ?_)
     first | refine gS ?_ | (refine gT ?_; refine mL ?_) | refine gV ?_
     first | refine gS ?_ | (refine gT ?_; refine mI ?_) | refine gV ?_
     first | refine gS ?_ | (refine gT ?_; refine aF (k := i) aG.out aD.size rfl rfl (by omega) (by omega) (by decide) ?_) | refine gV ?_
     first | refine gS ?_ | (refine gT ?_; refine aM aD.out rfl ((hr.ext hh.below).ea (by assumption)) (by decide) ?_) | refine gV ?_
     first | refine gS ?_ | (refine gT ?_; refine bT ?_) | refine gV ?_
     first | refine cQ ?_ | refine cP ?_
     refine aa (cF (ak (aZ (ai (ao (mI ?_))))))
     refine bu (aI (aE (ai ?_)))
     refine ⟨⟨i + 1, by omega, rfl, ?_, hh⟩, by show n - (i + 1) < n - i; omega, ?_⟩
     ·rw [aO hd, List.any_append, hall, List.any_cons, List.any_nil, dP, decide_eq_true (by omega), decide_eq_true (by omega)]; rfl
     ·(repeat (first | exact av _ _ _ | refine aC rfl ?_ | refine ar rfl ?_))
  ·rw [List.take_of_length_le (by omega)] at hall
   rw [hall, if_neg (by decide)]
   obtain ⟨ns, hns, hlow⟩ := lK hall
   have hds : ∀ (j : Nat) (d : Int), ds[j]? = some d → 0 ≤ d ∧ d ≤ 127 := fun j d hd => by
    have := List.any_eq_false.1 hall d (List.mem_of_getElem? hd)
    simp [dP] at this
    omega
   refine ah (sr (mI (mL (aV ?_))))
   refine aJ (aa (cF ?_))
   refine aP ?_
   refine aw (aw (bj (ai (ah (sr (aI (aa (aj ?_))))))))
   refine bY [3, 5, 24, 25, 26, 27, 28, 29, 30, 31, 32, 33, 34, 35, 36, 37] 3 5
    (fun v3 v w' => ∃ (i : Nat) (q : Int), i ≤ n ∧ v = .int .i64 i ∧ v3 = .int .i64 q ∧ 0 ≤ q ∧ q ≤ 4097 ∧ nZ 1 ds = nZ q (ds.drop i) ∧ Hp w [] w')
    (fun _ v _ => n - (intOf v).toNat) ?_ ?_
   ·exact ⟨0, 1, Nat.zero_le _, rfl, rfl, by omega, by omega, rfl, hh⟩
   ·clear hh
    rintro ρ2 v3 v w2 ⟨j, q, hj, rfl, rfl, hq1, hq2, hc, hh⟩
    by_cases hjn : j < n
    ·obtain ⟨d, hd⟩ := au (l := ds) (k := j) (by omega)
     have hgi := bG hd
     have hdb := hds j d hd
     obtain ⟨ad, rfl, hr⟩ := hS.at_ (by omega)
     rw [jM hd, nZ] at hc
     have hm1 : 0 * 0 ≤ q * (d + 1) := Int.mul_le_mul hq1 (by omega) (by decide) (by omega)
     have hm2 : q * (d + 1) ≤ 4097 * 128 := Int.mul_le_mul hq2 (by omega) (by omega) (by decide)
     refine ah (sr (mI (mL (aV ?_))))
     refine aJ (aa (cT (ak (ai (ah (aj (ao (mI (mL (mI ?_))))))))))
     refine aF (k := j) aG.out aD.size rfl rfl (by omega) (by omega) (by decide) ?_
     refine aM aD.out rfl ((hr.ext hh.below).ea (by assumption)) (by decide) ?_
     refine bu ?_
     refine mulC ?_
     refine tB rfl rfl (by decide) ?_
     refine aI (aE (aZ (ai (ao (mI ?_)))))
     refine bu (aI (aE (ai ?_)))
     refine ⟨⟨j + 1, _, by omega, rfl, rfl, by split <;> omega, by split <;> omega, by rw [hc, show min (q * (d + 1)) 4097 = if 4097 < q * (d + 1) then 4097 else q * (d + 1) by split <;> omega], hh⟩, by show n - (j + 1) < n - j; omega, ?_⟩
     (repeat (first | exact av _ _ _ | refine aC rfl ?_ | refine ar rfl ?_))
    ·rw [List.drop_of_length_le (by omega)] at hc
     refine ah (sr (mI (mL (aV ?_))))
     refine aJ (aa (cF ?_))
     refine aP ?_
     refine aw (aw (bj (ai (sr (mI (aI (aa (aq ?_))))))))
     refine cu ?_
     exact ⟨by rw [hc]; rfl, hh.below⟩
theorem vr {ds : List Int} (h : ds.any (fun d => !dP d) = false) : (gm 1 ds = 0 ↔ 4096 < jD ds) ∧ (gm 1 ds ≠ 0 → gm 1 ds = jD ds) ∧ 1 ≤ jD ds := by
 obtain ⟨ns, rfl, hlow⟩ := lK h
 have h1 := kH ns 1 (by decide) (by decide) hlow
 have h2 := mP ns 1 (by decide) (by decide)
 have hp := eA ns
 rw [Nat.one_mul] at h1 h2
 unfold jD
 rw [h, if_neg (by decide)]
 have e1 : gm ((1 : Nat) : Int) (bf ns) = gm 1 (bf ns) := rfl
 have e2 : nZ ((1 : Nat) : Int) (bf ns) = nZ 1 (bf ns) := rfl
 rw [e1] at h1
 rw [e2] at h2
 rw [h1, h2]
 split <;> omega
theorem j8 (A B : Option Addr) (n c m c2 : Nat) (ds : List Int) (cs : List NR) (w : World) (hS : Sl w A n 1 (bA ds)) (hS2 : Sl w B m 3 (bR NR.cells cs)) (hn : n ≤ 1000000) (hc : ∀ a ∈ cs, a.ok) :
  Calls Tryz.prog 66 #[.agg #[.slice A n c, .slice B m c2]] w fun r w' => r = .returned (.int .i64 (fE ds cs)) ∧ Below w.heap.size w w' := by
 have hh := Hp.start w
 have hln : ds.length = n := by have := hS.1; simpa [bA] using this
 have hlm := hS2.di NR.len (by decide)
 unfold fE
 by_cases g1 : 12 < n
 ·refine al (N := 40) (l := [.agg #[.slice A n c, .slice B m c2]]) Tryz.func66 rfl rfl (by simp) ?_
  refine sr ?_
  refine cS hh [_,_] ?_
  intro b1 w1 hh
  refine aI (aa (sr (bJ ?_)))
  refine bO hh 0 ?_
  refine bH hh (eu A n c ds _ (hS.ext hh.below) hn) rfl ?_
  intro w7 hh
  refine aI (aa (ah (sr (bJ ?_))))
  refine bO hh 0 ?_
  refine aV ?_
  refine bT (mB ?_)
  first | refine gS ?_ | (refine gT ?_; refine mI ?_) | refine gV ?_
  first | refine gS ?_ | (refine gT ?_; refine aJ ?_) | refine gV ?_
  first | refine cQ ?_ | refine cP ?_
  refine aa (cT (sr (aI (aa (aq (aH ?_))))))
  refine cu ?_
  exact ⟨by rw [if_pos (.inl (by omega))], hh.below⟩
 ·cases g2 : ds.any (fun d => !dP d) with
  | true =>
   have hcd : jD ds = -1 := by unfold jD; rw [g2, if_pos rfl]
   refine al (N := 40) (l := [.agg #[.slice A n c, .slice B m c2]]) Tryz.func66 rfl rfl (by simp) ?_
   refine sr ?_
   refine cS hh [_,_] ?_
   intro b1 w1 hh
   refine aI (aa (sr (bJ ?_)))
   refine bO hh 0 ?_
   refine bH hh (eu A n c ds _ (hS.ext hh.below) hn) rfl ?_
   intro w7 hh
   rw [hcd]
   refine aI (aa (ah (sr (bJ ?_))))
   refine bO hh 0 ?_
   refine aV ?_
   refine bT (mB ?_)
   first | refine gS ?_ | (refine gT ?_; refine mI ?_) | refine gV ?_
   first | refine gS ?_ | (refine gT ?_; refine aJ ?_) | refine gV ?_
   first | refine cQ ?_ | refine cP ?_
   refine aa (cT (sr (aI (aa (aq (aH ?_))))))
   refine cu ?_
   exact ⟨by rw [if_pos (.inr rfl)], hh.below⟩
  | false =>
   rw [if_neg (fun h => h.elim (fun h => by omega) (fun h => by cases h))]
   obtain ⟨k1, k2, k3⟩ := vr g2
   by_cases g3 : gm 1 ds = 0
   ·have k4 := k1.1 g3
    refine al (N := 40) (l := [.agg #[.slice A n c, .slice B m c2]]) Tryz.func66 rfl rfl (by simp) ?_
    refine sr ?_
    refine cS hh [_,_] ?_
    intro b1 w1 hh
    refine aI (aa (sr (bJ ?_)))
    refine bO hh 0 ?_
    refine bH hh (eu A n c ds _ (hS.ext hh.below) hn) rfl ?_
    intro w7 hh
    refine aI (aa (ah (sr (bJ ?_))))
    refine bO hh 0 ?_
    refine aV ?_
    refine bT (mB ?_)
    first | refine gS ?_ | (refine gT ?_; refine mI ?_) | refine gV ?_
    first | refine gS ?_ | (refine gT ?_; refine aJ ?_) | refine gV ?_
    first | refine cQ ?_ | refine cP ?_
    refine aa (cF (ak (ai (ah (sr (mI ?_))))))
    refine bT (aa (cT (sr (aI (aa (aq (aH ?_)))))))
    refine cu ?_
    exact ⟨by rw [if_pos g3], hh.below⟩
   ·have k4 : ¬ 4096 < jD ds := fun h => g3 (k1.2 h)
    rw [if_neg g3, k2 g3]
    by_cases g4 : (m : Int) = jD ds
    ·rw [if_neg (show ¬ (cs.length : Int) ≠ jD ds by omega)]
     refine al (N := 40) (l := [.agg #[.slice A n c, .slice B m c2]]) Tryz.func66 rfl rfl (by simp) ?_
     refine sr ?_
     refine cS hh [_,_] ?_
     intro b1 w1 hh
     refine aI (aa (sr (bJ ?_)))
     refine bO hh 0 ?_
     refine bH hh (eu A n c ds _ (hS.ext hh.below) hn) rfl ?_
     intro w7 hh
     refine aI (aa (ah (sr (bJ ?_))))
     refine bO hh 0 ?_
     refine aV ?_
     refine bT (mB ?_)
     first | refine gS ?_ | (refine gT ?_; refine mI ?_) | refine gV ?_
     first | refine gS ?_ | (refine gT ?_; refine aJ ?_) | refine gV ?_
     first | refine cQ ?_ | refine cP ?_
     refine aa (cF (ak (ai (ah (sr (mI ?_))))))
     refine bT (aa (cF (ak (ai (ah (sr (bJ ?_)))))))
     refine bO hh 0 ?_
     refine aV (mI ?_)
     refine dn (aa (cF (ak (ai (ah (sr (aI (aa (aj ?_)))))))))
     refine bq [2, 4, 23, 24, 25, 26, 27, 28, 29, 30, 31, 32, 33, 34, 35, 36, 37, 38, 39] 4
      (fun v w' => ∃ i : Nat, i ≤ m ∧ v = .int .i64 i ∧ (cs.take i).any nj = false ∧ Hp w [.blk b1 28 [.slice A n c, .slice B m c2] (0, 0)] w')
      (fun v _ => m - (intOf v).toNat) ?_ ?_
     ·exact ⟨0, Nat.zero_le _, rfl, rfl, hh⟩
     ·clear hh
      rintro ρ' v w' ⟨i, hi, rfl, hall, hh⟩
      by_cases hlt : i < m
      ·obtain ⟨x, hx⟩ := au (l := cs) (k := i) (by omega)
       have hxo := hc x (List.mem_of_getElem? hx)
       have hf := fun w1 => ep x w1 (by have := hxo.1; omega) (by have := hxo.2; omega) (by have := hxo.2; omega)
       obtain ⟨ad, rfl, hr⟩ := hS2.at_ (by omega)
       cases g5 : nj x with
       | true =>
        have he : ¬ nR x.d = x := fun h => by rw [jw.2 h] at g5; cases g5
        refine ah (sr (mI (mI ?_)))
        refine aJ (aa (cT (ak (ai (ah (aj (ah ?_)))))))
        refine aN 11 [[(1, none)], [(28, some 0)], [(4, none)], [(29, some 1), (30, some 2)], [(31, some 3)], [(32, some 4)], [(1, none)], [(34, some 6)], [(4, none)], [(35, some 7), (36, some 8)], [(37, some 9)]] [(10, 38), (9, 37), (8, 36), (7, 35), (6, 34), (5, 33), (4, 32), (3, 31), (2, 30), (1, 29), (0, 28)] hh mixed (by kernel_rfl) ?_
        refine dI ?_
        refine ef 0 ?_
        refine dD ?_
        refine aU (i := 3) (fun ρ1 w1 hj hR => bI aG.out aD.size (show ρ1 29 = Value.slice _ _ _ from hR.1) (show ρ1 30 = Value.int _ _ from hR.2.1) (by omega) (by omega)) ?_
        refine pW [_,_,_] (fun _ hj => (hr.ext hj.hp.below).recAt NR.len hx) ?_
        refine dC (fun _ hj => hf _) ?_
        refine dI ?_
        refine ef 0 ?_
        refine dD ?_
        refine aU (i := 9) (fun ρ1 w1 hj hR => bI aG.out aD.size (show ρ1 35 = Value.slice _ _ _ from hR.1) (show ρ1 36 = Value.int _ _ from hR.2.1) (by omega) (by omega)) ?_
        refine pW [_,_,_] (fun _ hj => (hr.ext hj.hp.below).recAt NR.len hx) ?_
        refine bo ?_
        intro f W hJ hV
        have hb_11 := hJ.bl
        obtain ⟨v38, v37, v36, v35, v34, v33, v32, v31, v30, v29, v28, _⟩ := hV
        replace hh := hJ.hp
        refine aY (bm (ae v38 (ae v37 (ae v36 (ae v35 (ae v34 (ae v33 (ae v32 (ae v31 (ae v30 (ae v29 (ae v28 aX)))))))))))) ?_
        dsimp only [cj]
        clear hJ
        first | refine kK rfl rfl (by first | assumption | rfl) (by decide) ?_ | refine k6 rfl rfl (by assumption) (by decide) ?_
        refine aa (cT (sr (aI (aa (aq (bM (aH (aH (bM (aH ?_))))))))))
        refine cu ?_
        exact ⟨by rw [if_pos (List.any_eq_true.2 ⟨x, List.mem_of_getElem? hx, g5⟩)], hh.below⟩
       | false =>
        have he := jw.1 g5
        refine ah (sr (mI (mI ?_)))
        refine aJ (aa (cT (ak (ai (ah (aj (ah ?_)))))))
        refine aN 11 [[(1, none)], [(28, some 0)], [(4, none)], [(29, some 1), (30, some 2)], [(31, some 3)], [(32, some 4)], [(1, none)], [(34, some 6)], [(4, none)], [(35, some 7), (36, some 8)], [(37, some 9)]] [(10, 38), (9, 37), (8, 36), (7, 35), (6, 34), (5, 33), (4, 32), (3, 31), (2, 30), (1, 29), (0, 28)] hh mixed (by kernel_rfl) ?_
        refine dI ?_
        refine ef 0 ?_
        refine dD ?_
        refine aU (i := 3) (fun ρ1 w1 hj hR => bI aG.out aD.size (show ρ1 29 = Value.slice _ _ _ from hR.1) (show ρ1 30 = Value.int _ _ from hR.2.1) (by omega) (by omega)) ?_
        refine pW [_,_,_] (fun _ hj => (hr.ext hj.hp.below).recAt NR.len hx) ?_
        refine dC (fun _ hj => hf _) ?_
        refine dI ?_
        refine ef 0 ?_
        refine dD ?_
        refine aU (i := 9) (fun ρ1 w1 hj hR => bI aG.out aD.size (show ρ1 35 = Value.slice _ _ _ from hR.1) (show ρ1 36 = Value.int _ _ from hR.2.1) (by omega) (by omega)) ?_
        refine pW [_,_,_] (fun _ hj => (hr.ext hj.hp.below).recAt NR.len hx) ?_
        refine bo ?_
        intro f W hJ hV
        have hb_11 := hJ.bl
        obtain ⟨v38, v37, v36, v35, v34, v33, v32, v31, v30, v29, v28, _⟩ := hV
        replace hh := hJ.hp
        refine aY (bm (ae v38 (ae v37 (ae v36 (ae v35 (ae v34 (ae v33 (ae v32 (ae v31 (ae v30 (ae v29 (ae v28 aX)))))))))))) ?_
        dsimp only [cj]
        clear hJ
        first | refine kK rfl rfl (by first | assumption | rfl) (by decide) ?_ | refine k6 rfl rfl (by assumption) (by decide) ?_
        refine aa (cF (ak (aZ (ai (ao (mI ?_))))))
        refine bu (aI (aE (ai ?_)))
        refine ⟨⟨i + 1, by omega, rfl, by rw [aO hx, List.any_append, hall, List.any_cons, List.any_nil, g5]; rfl, hh⟩, by show m - (i + 1) < m - i; omega, ?_⟩
        (repeat (first | exact av _ _ _ | refine aC rfl ?_ | refine ar rfl ?_))
      ·rw [List.take_of_length_le (by omega)] at hall
       refine ah (sr (mI (mI ?_)))
       refine aJ (aa (cF ?_))
       refine aP ?_
       refine aw (aw (bj (ai (sr (aI (aa (aq ?_)))))))
       refine cu ?_
       exact ⟨by rw [hall, if_neg (by decide)], hh.below⟩
    ·rw [if_pos (show (cs.length : Int) ≠ jD ds by omega)]
     refine al (N := 40) (l := [.agg #[.slice A n c, .slice B m c2]]) Tryz.func66 rfl rfl (by simp) ?_
     refine sr ?_
     refine cS hh [_,_] ?_
     intro b1 w1 hh
     refine aI (aa (sr (bJ ?_)))
     refine bO hh 0 ?_
     refine bH hh (eu A n c ds _ (hS.ext hh.below) hn) rfl ?_
     intro w7 hh
     refine aI (aa (ah (sr (bJ ?_))))
     refine bO hh 0 ?_
     refine aV ?_
     refine bT (mB ?_)
     first | refine gS ?_ | (refine gT ?_; refine mI ?_) | refine gV ?_
     first | refine gS ?_ | (refine gT ?_; refine aJ ?_) | refine gV ?_
     first | refine cQ ?_ | refine cP ?_
     refine aa (cF (ak (ai (ah (sr (mI ?_))))))
     refine bT (aa (cF (ak (ai (ah (sr (bJ ?_)))))))
     refine bO hh 0 ?_
     refine aV (mI ?_)
     refine dn (aa (cT (sr (aI (aa (aq (aH ?_)))))))
     refine cu ?_
     exact ⟨rfl, hh.below⟩
end Go.Proofs.YtioilmppidlbnaaGreatDoor
/- The walks through ogeeref12, second part: ways to choose, rows, places, equal forms, a form of one's own. -/
namespace Go.Proofs.YtioilmppidlbnaaGreatDoor
open Go.RowKit
def Ba (n : Nat) (k : Int) : Dyadic := if k < 0 ∨ (n : Int) < k then 0 else nD (bin n k.toNat)
theorem tI : ∀ (ns : List Nat) (n : Nat), (∀ d ∈ ns, d ≤ 127) → n * ay ns ≤ 65536 → 1 ≤ n → nT n (bf ns) = true
 | [], _, _, _, _ => rfl
 | d :: ns, n, h, hc, h1 => by
  have hd := h d List.mem_cons_self
  have e1 : (n : Int) * ((d : Int) + 1) = ((n * (d + 1) : Nat) : Int) := by rw [Int.natCast_mul, Int.natCast_add]; rfl
  rw [ay, ← Nat.mul_assoc] at hc
  have h2 : n * (d + 1) * 1 ≤ n * (d + 1) * ay ns := Nat.mul_le_mul_left _ (eA ns)
  have ih := tI ns (n * (d + 1)) (fun x hx => h x (List.mem_cons_of_mem _ hx)) hc (Nat.mul_pos h1 (by omega))
  show (decide (0 ≤ (d : Int)) && (decide ((d : Int) ≤ 127) && (decide ((n : Int) * ((d : Int) + 1) ≤ 65536) && nT ((n : Int) * ((d : Int) + 1)) (bf ns)))) = true
  rw [e1, ih, decide_eq_true (by omega), decide_eq_true (by omega), decide_eq_true (by omega)]
  rfl
def mZ (ns : List Nat) : List ByteArray := (dX (bf ns)).map fX
theorem uA (ns : List Nat) : (mZ ns).length = ay ns := by unfold mZ; rw [List.length_map, vP, dm]
theorem vt {ns : List Nat} {p : Nat} (h : p < ay ns) : (mZ ns)[p]? = some (fX (bf (bV ns.reverse p).reverse)) := by
 unfold mZ
 rw [List.getElem?_map, wN (by rw [dm]; exact h)]
 rfl
theorem p4 (A : Option Addr) (n c : Nat) (ns : List Nat) (w : World) (hS : Sl w A n 1 (bA (bf ns))) (h12 : ns.length ≤ 12) (hlow : ∀ d ∈ ns, d ≤ 127) (hmax : ay ns ≤ 65536) :
  Calls Tryz.prog 112 #[.slice A n c] w fun r w' => ∃ B c', r = .returned (.slice B (ay ns) c') ∧ w'.ownsRow w.heap.size 9 1 (.slice B (ay ns) c') (ay ns) (il (mZ ns)) ∧ Below w.heap.size w w' := by
 have hh := Hp.start w
 have hln : ns.length = n := by have := hS.1; simpa [bA, bf] using this
 have ha : m8 (bf ns) = mZ ns := by
  have h1 : nT 1 (bf ns) = true := tI ns 1 hlow (by rw [Nat.one_mul]; exact hmax) (Nat.le_refl _)
  unfold m8
  rw [if_pos h1]
  rfl
 have hc := fun w1 hS1 => sa A n c (bf ns) w1 hS1 (by omega)
 rw [ha, uA] at hc
 refine al (N := 5) (l := [.slice A n c]) Tryz.func112 rfl rfl (by simp) ?_
 refine sr (aL (aa (sr (mL ?_))))
 refine aT (hc _ (hS.ext hh.below)) az.out rfl (by decide) ?_
 rintro e_ w4 ⟨A4, c4, rfl, hown_, hb_⟩
 refine ⟨_, rfl, ?_⟩
 replace hh := hh.bs (x := .row _ _ _ _ _ _) hb_ hown_
 refine aL (aa (aq ?_))
 refine cu ?_
 exact ⟨_, _, rfl, hh.at_ (i := 0) rfl, hh.below⟩
theorem z7 {l : List Nat} {i r : Nat} (h : l[i]? = some r) (hr : r ≤ 255) : ∃ c : UInt8, (fX (bf l)).data.toList[i]? = some c ∧ c.toNat = r := by
 refine ⟨sw (r : Int), ?_, ?_⟩
 ·unfold fX
  rw [fc, List.getElem?_map, cZ h]
  rfl
 ·show (UInt8.ofNat ((r : Int)).toNat).toNat = r
  rw [Int.toNat_natCast, UInt8.toNat_ofNat']
  omega
theorem sH (A : Option Addr) (n c : Nat) (ns rs : List Nat) (w : World) (hS : Sl w A n 1 (bA (bf ns))) (hn : n ≤ 1000) (hmax : ay ns ≤ 1000000) (hl : rs.length = ns.length) (hok : ∀ (i d r : Nat), ns[i]? = some d → rs[i]? = some r → r ≤ d) (hlow : ∀ d ∈ ns, d ≤ 255) :
  Calls Tryz.prog 113 #[.slice A n c, .string (fX (bf rs))] w fun r w' => r = .returned (.int .i64 (db ns.reverse rs.reverse)) ∧ Below w.heap.size w w' := by
 have hh := Hp.start w
 have hln : ns.length = n := by have := hS.1; simpa [bA, bf] using this
 refine al (N := 26) (l := [.slice A n c, .string (fX (bf rs))]) Tryz.func113 rfl rfl (by simp) ?_
 refine sr (aI (aa (sr (aI (aa (ah (sr (aI (aa (aj ?_))))))))))
 refine bY [5, 6, 7, 8, 9, 10, 11, 12, 13, 14, 15, 16, 17, 18, 19, 20, 21, 22, 23, 24] 5 6
  (fun v5 v w' => ∃ (i q : Nat), i ≤ n ∧ v = .int .i64 i ∧ v5 = .int .i64 q ∧ q = db (ns.take i).reverse (rs.take i).reverse ∧ q < ay (ns.take i) ∧ Hp w [] w')
  (fun _ v _ => n - (intOf v).toNat) ?_ ?_
 ·exact ⟨0, 0, Nat.zero_le _, rfl, rfl, rfl, Nat.one_pos, hh⟩
 ·clear hh
  rintro ρ' v5 v w' ⟨i, q, hi, rfl, rfl, hq, hq2, hh⟩
  by_cases hlt : i < n
  ·obtain ⟨d, hd⟩ := au (l := ns) (k := i) (by omega)
   obtain ⟨r, hr⟩ := au (l := rs) (k := i) (by omega)
   have hgi := bG (cZ hd)
   have hrd := hok i d r hd hr
   have hd255 := hlow d (List.mem_of_getElem? hd)
   obtain ⟨ch, hch, hcr⟩ := z7 hr (by omega)
   have hch2 : (fX (bf rs)).data.toList[(i : Int).toNat]? = some ch := hch
   have hst := wq hd hr
   have hcs := u5 hd
   rw [dm, dm] at hcs
   rw [← hq] at hst
   have hct := eU ns (i + 1)
   have hnew : r + (d + 1) * q < (d + 1) * ay (ns.take i) := by
    have : (d + 1) * (q + 1) ≤ (d + 1) * ay (ns.take i) := Nat.mul_le_mul_left _ hq2
    rw [Nat.mul_succ] at this
    omega
   have hpr : (q : Int) * ((d : Int) + 1) = (((d + 1) * q : Nat) : Int) := by rw [Nat.mul_comm, Int.natCast_mul, Int.natCast_add]; rfl
   obtain ⟨ad, rfl, hsr⟩ := hS.at_ (by omega)
   refine ah (sr (mI (mL (aV ?_))))
   refine aJ (aa (cT (ak (ai (ah (aj ?_))))))
   refine aN 11 [[(5, none)], [(0, none)], [(6, none)], [(14, some 1), (15, some 2)], [(16, some 3)], [(17, some 4)], [(13, some 0), (18, some 5)], [(1, none)], [(6, none)], [(20, some 7), (21, some 8)], [(22, some 9)]] [(10, 23), (9, 22), (8, 21), (7, 20), (6, 19), (5, 18), (4, 17), (3, 16), (2, 15), (1, 14), (0, 13)] hh mixed (by kernel_rfl) ?_
   refine dD ?_
   refine fk ?_
   refine dD ?_
   refine iK (i) ?_
   refine aU (i := 4) (fun ρ1 w1 hj hR => cx aD.out (show ρ1 16 = Value.pointer _ from hR.1) ((hsr.ext hj.hp.below).ea (by assumption))) ?_
   refine qt ?_
   refine zJ ?_
   refine AE ?_
   refine dD ?_
   refine aU (i := 9) (fun ρ1 w1 hj hR => jx aG.out (show ρ1 20 = Value.string _ from hR.1) (show ρ1 21 = Value.int _ _ from hR.2.1) (by omega) (by assumption)) ?_
   refine aU (i := 10) (fun ρ1 w1 hj hR => gM aG.out aG.out (show ρ1 22 = Value.int _ _ from hR.1) (by omega) (by omega)) ?_
   refine bo ?_
   intro f W hJ hV
   have hb_5 := hJ.bl
   obtain ⟨v23, v22, v21, v20, v19, v18, v17, v16, v15, v14, v13, _⟩ := hV
   replace hh := hJ.hp
   refine aY (bm (ae v23 (ae v22 (ae v21 (ae v20 (ae v19 (ae v18 (ae v17 (ae v16 (ae v15 (ae v14 (ae v13 aX)))))))))))) ?_
   dsimp only [cj]
   clear hJ
   refine bu (aI (aE (aZ (ai (ao (mI ?_))))))
   refine bu (aI (aE (ai ?_)))
   rw [hcr, hpr]
   refine ⟨⟨i + 1, r + (d + 1) * q, by omega, rfl, ?_, hst.symm, by omega, hh⟩, by show n - (i + 1) < n - i; omega, ?_⟩
   ·show Value.int IntKind.i64 ((((d + 1) * q : Nat) : Int) + (r : Int)) = _
    rw [show (((d + 1) * q : Nat) : Int) + (r : Int) = ((r + (d + 1) * q : Nat) : Int) by omega]
   ·(repeat (first | exact av _ _ _ | refine aC rfl ?_ | refine ar rfl ?_))
  ·obtain rfl : i = n := by omega
   rw [List.take_of_length_le (by omega), List.take_of_length_le (by omega)] at hq
   refine ah (sr (mI (mL (aV ?_))))
   refine aJ (aa (cF ?_))
   refine aP ?_
   refine aw (aw (bj (ai (sr (mI (aI (aa (aq ?_))))))))
   refine cu ?_
   exact ⟨by rw [hq], hh.below⟩
theorem rm (L : Option Addr) (n c : Nat) (b : List NR) (M : Option Addr) (c2 : Nat) (w : World) (hS : Sl w L n 3 (bR NR.cells b)) (hS2 : Sl w M n 3 (bR NR.cells b)) (hn : n ≤ 1000000) :
  Calls Tryz.prog 56 #[.slice L n c, .slice M n c2] w fun r w' => r = .returned (.bool true) ∧ Below w.heap.size w w' := by
 have hh := Hp.start w
 have hln := hS.di NR.len (by decide)
 refine al (N := 26) (l := [.slice L n c, .slice M n c2]) Tryz.func56 rfl rfl (by simp) ?_
 refine sr (aB (aa (ah (sr (mL (aV (mL (aV ?_))))))))
 refine dn (aa (cF (ak (ai (ah (sr (aI (aa (aj ?_)))))))))
 refine bq [4, 5, 11, 12, 13, 14, 15, 16, 17, 18, 19, 20, 21, 22, 23, 24, 25] 5
  (fun v w' => ∃ i : Nat, i ≤ n ∧ v = .int .i64 i ∧ Hp w [] w')
  (fun v _ => n - (intOf v).toNat) ?_ ?_
 ·exact ⟨0, Nat.zero_le _, rfl, hh⟩
 ·clear hh
  rintro ρ' v w' ⟨i, hi, rfl, hh⟩
  by_cases hlt : i < n
  ·obtain ⟨s, hs⟩ := au (l := b) (k := i) (by omega)
   obtain ⟨ad, rfl, hr⟩ := hS.at_ (by omega)
   obtain ⟨ad2, rfl, hr2⟩ := hS2.at_ (by omega)
   refine ah (sr (mI (mL (aV ?_))))
   refine aJ (aa (cT (ak (ai (ah (aj (ah ?_)))))))
   refine aN 8 [[(0, none)], [(5, none)], [(17, some 0), (18, some 1)], [(19, some 2)], [(1, none)], [(5, none)], [(21, some 4), (22, some 5)], [(23, some 6)]] [(7, 24), (6, 23), (5, 22), (4, 21), (3, 20), (2, 19), (1, 18), (0, 17)] hh mixed (by kernel_rfl) ?_
   refine fk ?_
   refine dD ?_
   refine iK (i) ?_
   refine pW [_,_,_] (fun _ hj => (hr.ext hj.hp.below).recAt NR.len hs) ?_
   refine fk ?_
   refine dD ?_
   refine iK (i) ?_
   refine pW [_,_,_] (fun _ hj => (hr2.ext hj.hp.below).recAt NR.len hs) ?_
   refine bo ?_
   intro f W hJ hV
   have hb_6 := hJ.bl
   obtain ⟨v24, v23, v22, v21, v20, v19, v18, v17, _⟩ := hV
   replace hh := hJ.hp
   refine aY (bm (ae v24 (ae v23 (ae v22 (ae v21 (ae v20 (ae v19 (ae v18 (ae v17 aX))))))))) ?_
   dsimp only [cj]
   clear hJ
   first | refine kK rfl rfl (by first | assumption | rfl) (by decide) ?_ | refine k6 rfl rfl (by assumption) (by decide) ?_
   refine aa (cF (ak (aZ (ai (ao (mI ?_))))))
   refine bu (aI (aE (ai ?_)))
   refine ⟨⟨i + 1, by omega, rfl, hh⟩, by show n - (i + 1) < n - i; omega, ?_⟩
   (repeat (first | exact av _ _ _ | refine aC rfl ?_ | refine ar rfl ?_))
  ·refine ah (sr (mI (mL (aV ?_))))
   refine aJ (aa (cF ?_))
   refine aP ?_
   refine aw (aw (bj (ai (sr (aB (aa (aq ?_)))))))
   refine cu ?_
   exact ⟨rfl, hh.below⟩
theorem pE (A B : Option Addr) (n c m c2 : Nat) (A' B' : Option Addr) (c' c2' : Nat) (ds : List Int) (cs : List NR) (w : World) (hS : Sl w A n 1 (bA ds)) (hS2 : Sl w B m 3 (bR NR.cells cs)) (hS3 : Sl w A' n 1 (bA ds)) (hS4 : Sl w B' m 3 (bR NR.cells cs)) (hn : n ≤ 100000) (hm : m ≤ 1000000) :
  Calls Tryz.prog 17 #[.agg #[.slice A n c, .slice B m c2], .agg #[.slice A' n c', .slice B' m c2']] w fun r w' => r = .returned (.bool true) ∧ Below w.heap.size w w' := by
 have hh := Hp.start w
 have hnum := fun w1 h1 h2 => nX A A' n n c c' ds ds w1 h1 h2 hn hn
 simp only [decide_true] at hnum
 refine al (N := 17) (l := [.agg #[.slice A n c, .slice B m c2], .agg #[.slice A' n c', .slice B' m c2']]) Tryz.func17 rfl rfl (by simp) ?_
 refine sr ?_
 refine cS hh [_,_] ?_
 intro b2 w2 hh
 refine cS hh [_,_] ?_
 intro b3 w3 hh
 refine aB (aa (sr (bJ ?_)))
 refine bO hh 1 ?_
 refine bJ ?_
 refine bO hh 0 ?_
 refine bH hh (hnum _ (hS.ext hh.below) (hS3.ext hh.below)) rfl ?_
 intro w9 hh
 refine mB ?_
 first | refine gS ?_ | (refine gT ?_; refine bJ ?_) | refine gV ?_
 first | refine gS ?_ | (refine gT ?_; refine bO hh 1 ?_) | refine gV ?_
 first | refine gS ?_ | (refine gT ?_; refine bJ ?_) | refine gV ?_
 first | refine gS ?_ | (refine gT ?_; refine bO hh 0 ?_) | refine gV ?_
 refine aR rfl rfl ?_
 refine bH hh (rm B m c2 cs B' c2' _ (hS2.ext hh.below) (hS4.ext hh.below) hm) rfl ?_
 intro w15 hh
 first | refine cQ ?_ | refine cP ?_
 refine aB (aa (aq ?_))
 refine cu ?_
 exact ⟨rfl, hh.below⟩
theorem rb (A B : Option Addr) (n c m c2 : Nat) (ds : List Int) (cs : List NR) (w : World) (hS : Sl w A n 1 (bA ds)) (hS2 : Sl w B m 3 (bR NR.cells cs)) (hn : n ≤ 1000000) (hm : m ≤ 1000000) :
  Calls Tryz.prog 14 #[.agg #[.slice A n c, .slice B m c2]] w fun r w' => ∃ A' c' B' c2' R, r = .returned (.agg #[.slice A' n c', .slice B' m c2']) ∧ (R = [.row B' m c2' 39 3 (bR NR.cells cs), .row A' n c' 3 1 (bA ds)] ∨ m = 0 ∧ R = [.row A' n c' 3 1 (bA ds)]) ∧ Hp w R w' := by
 have hh := Hp.start w
 have hone : ((bR NR.cells cs).all Value.oneCell') = true := bW NR.one _
 have hone2 := bD ds
 refine al (N := 12) (l := [.agg #[.slice A n c, .slice B m c2]]) Tryz.func14 rfl rfl (by simp) ?_
 refine sr ?_
 refine cS hh [_,_] ?_
 intro b1 w1 hh
 refine cG hh ?_
 intro b2 w2 hh
 refine aa (ah ?_)
 refine aN 7 [[], [(1, none)], [(4, some 1)], [(3, some 0), (5, some 2)], [], [(1, none)], [(8, some 5)]] [(6, 9), (5, 8), (4, 7), (3, 6), (2, 5), (1, 4), (0, 3)] hh mixed (by kernel_rfl) ?_
 refine oB (i := 0) aG.out aD.out (fun w1 hj => hj.bl.size) ?_
 refine dI ?_
 refine ef 1 ?_
 refine rC (i := 3) (fun ρ1 w1 hj hR => hR.1) (fun ρ1 w1 hj hR => ⟨_, _, (show ρ1 5 = Value.slice _ _ _ from hR.2.1), hS.ext hj.hp.below⟩) aG.out aD.out rfl (by decide) (by first | rfl | assumption) (by unfold maxLen; omega) (by omega) (fun w1 hj => hj.bl.size) ?_
 refine oB (i := 4) aG.out aD.out (fun w1 hj => hj.bl.size) ?_
 refine dI ?_
 refine ef 1 ?_
 refine bo ?_
 intro f W hJ hV
 have hb_1 := hJ.bl
 obtain ⟨v9, v8, v7, v6, v5, v4, v3, _⟩ := hV
 obtain ⟨g3, e3, _⟩ : pL _ _ _ (f 0) W := v3
 obtain ⟨A6, c6, e6, o6⟩ : ta _ _ _ _ _ (f 3) W := v6
 obtain ⟨g7, e7, _⟩ : pL _ _ _ (f 4) W := v7
 replace hh := JJ.zi hh hJ.hp o6
 clear o6
 refine aY (bm (ae v9 (ae v8 (ae e7 (ae e6 (ae v5 (ae v4 (ae e3 aX)))))))) ?_
 dsimp only [cj]
 clear e3 e6 e7 hJ
 refine oX rfl rfl (hS2.ext hh.below) aG.out aD.out rfl (by decide) hone (by unfold maxLen; omega) (by omega) (by decide) ?_ ?_
 ·rintro rfl
  refine fh [_,_] ?_
  refine bP hh 1 [_,_] ?_
  intro ws hh
  replace hh : Hp _ (_ :: .blk _ _ [_, _] _ :: _) _ := hh
  refine aa (aq ?_)
  refine gp (a6 rfl (a7 (vs := [_, _]) aD.out (hh.ax (i := 1) (n := 2) rfl rfl) rfl) bx) ?_
  exact ⟨_, _, _, _, _, rfl, .inr ⟨rfl, rfl⟩, hh.sub (List.sublist_append_left [_] _)⟩
 ·intro A10 c10 w10 h0 hb ho
  replace hh := hh.bs (x := .row _ _ _ _ _ _) hb ho
  refine fh [_,_] ?_
  refine bP hh 2 [_,_] ?_
  intro ws hh
  replace hh : Hp _ (_ :: _ :: .blk _ _ [_, _] _ :: _) _ := hh
  refine aa (aq ?_)
  refine gp (a6 rfl (a7 (vs := [_, _]) aD.out (hh.ax (i := 2) (n := 2) rfl rfl) rfl) bx) ?_
  exact ⟨_, _, _, _, _, rfl, .inl rfl, hh.sub (List.sublist_append_left [_, _] _)⟩
end Go.Proofs.YtioilmppidlbnaaGreatDoor
/- The walks through ogeeref14: Big, Times. -/
namespace Go.Proofs.YtioilmppidlbnaaGreatDoor
open Go.RowKit
theorem xp (ns : List Nat) : decide (jD (bf ns) < 0 ∨ 4096 < jD (bf ns)) = iX ns := by
 unfold jD iX
 have e1 : (bf ns).any (fun d => !dP d) = ns.any fun d => decide (127 < d) := by
  unfold bf
  rw [List.any_map]
  refine congrArg ns.any (funext fun d => ?_)
  show (!dP (d : Int)) = decide (127 < d)
  by_cases h : 127 < d
  ·rw [decide_eq_true h]
   simp [dP]
   omega
  ·rw [decide_eq_false h]
   simp [dP]
   omega
 rw [e1]
 cases h : ns.any fun d => decide (127 < d) with
 | true =>
  rw [if_pos rfl]
  rfl
 | false =>
  rw [if_neg (by decide), Bool.false_or]
  have h2 := mP ns 1 (by decide) (by decide)
  have h3 : nZ 1 (bf ns) = ((min (1 * ay ns) 4097 : Nat) : Int) := h2
  rw [h3]
  refine decide_eq_decide.2 ?_
  omega
theorem r6 (A : Option Addr) (n c : Nat) (ns : List Nat) (w : World) (hS : Sl w A n 1 (bA (bf ns))) (hn : n ≤ 1000000) :
  Calls Tryz.prog 62 #[.slice A n c] w fun r w' => r = .returned (.bool (iX ns)) ∧ Below w.heap.size w w' := by
 have hh := Hp.start w
 have hc := fun w1 hb => eu A n c (bf ns) w1 (hS.ext hb) hn
 rw [← xp]
 generalize jD (bf ns) = q at *
 by_cases h1 : q < 0
 ·rw [decide_eq_true (.inl h1)]
  refine al (N := 12) (l := [.slice A n c]) Tryz.func62 rfl rfl (by simp) ?_
  refine sr (aB (aa (sr (mL ?_))))
  refine bH hh (hc _ hh.below) rfl ?_
  intro w5 hh
  refine aI (aa (sr (mI ?_)))
  refine aJ (mB ?_)
  first | refine gS ?_ | (refine gT ?_; refine mI ?_) | refine gV ?_
  first | refine gS ?_ | (refine gT ?_; refine bT ?_) | refine gV ?_
  first | refine cQ ?_ | refine cP ?_
  refine aB (aa (aq ?_))
  refine cu ?_
  exact ⟨rfl, hh.below⟩
 ·by_cases h2 : 4096 < q
  ·rw [decide_eq_true (.inr h2)]
   refine al (N := 12) (l := [.slice A n c]) Tryz.func62 rfl rfl (by simp) ?_
   refine sr (aB (aa (sr (mL ?_))))
   refine bH hh (hc _ hh.below) rfl ?_
   intro w5 hh
   refine aI (aa (sr (mI ?_)))
   refine aJ (mB ?_)
   first | refine gS ?_ | (refine gT ?_; refine mI ?_) | refine gV ?_
   first | refine gS ?_ | (refine gT ?_; refine bT ?_) | refine gV ?_
   first | refine cQ ?_ | refine cP ?_
   refine aB (aa (aq ?_))
   refine cu ?_
   exact ⟨rfl, hh.below⟩
  ·rw [decide_eq_false (by omega)]
   refine al (N := 12) (l := [.slice A n c]) Tryz.func62 rfl rfl (by simp) ?_
   refine sr (aB (aa (sr (mL ?_))))
   refine bH hh (hc _ hh.below) rfl ?_
   intro w5 hh
   refine aI (aa (sr (mI ?_)))
   refine aJ (mB ?_)
   first | refine gS ?_ | (refine gT ?_; refine mI ?_) | refine gV ?_
   first | refine gS ?_ | (refine gT ?_; refine bT ?_) | refine gV ?_
   first | refine cQ ?_ | refine cP ?_
   refine aB (aa (aq ?_))
   refine cu ?_
   exact ⟨rfl, hh.below⟩
end Go.Proofs.YtioilmppidlbnaaGreatDoor
