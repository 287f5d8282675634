/- Lemmas for liftMuls, part 5. -/
import Derived.Test.YtioilmppidlbnaaGreatDoorZ4
/- The walk through bern.Weights. -/
namespace Go.Proofs.YtioilmppidlbnaaGreatDoor
open Go.RowKit
theorem vx : ∀ (ds row : List Nat), (∀ d ∈ ds, d ≤ 127) → zo ds row ≤ 2 ^ (127 * ds.length)
 | [], _, _ => by show 1 ≤ 1; exact Nat.le_refl _
 | d :: ds, [], _ => by show 1 ≤ _; exact Nat.pow_pos (by decide)
 | d :: ds, r :: rs, h => by
  have h1 : bin d r ≤ 2 ^ 127 := Nat.le_trans (pK d r) (Nat.pow_le_pow_right (by decide) (h d List.mem_cons_self))
  have h2 := vx ds rs fun x hx => h x (List.mem_cons_of_mem _ hx)
  rw [zo, List.length_cons, Nat.mul_succ, Nat.add_comm, Nat.pow_add]
  exact Nat.mul_le_mul h1 h2
theorem zr {n m k : Nat} (h : n ≤ 2 ^ m) (hk : m < k) : Sz k (nD n) := yl (Nat.lt_of_le_of_lt h (Nat.pow_lt_pow_right (by decide) hk))
theorem vU {ds : List Nat} {x : Nat} (h : x ∈ oq ds) (h1 : ds.length ≤ 12) (h2 : ∀ d ∈ ds, d ≤ 127) : Sz 1600 (nD x) := by
 obtain ⟨p, _, rfl⟩ := List.mem_map.1 h
 have h3 := vx ds.reverse (bE ds.reverse p) fun d hd => h2 d (List.mem_reverse.1 hd)
 exact zr h3 (by rw [List.length_reverse]; omega)
def xI (ds : List Nat) (d j : Nat) : List Nat := ((oq ds).take j).flatMap fun x => (mf d).map (x * ·)
theorem wo {ds : List Nat} {d j x : Nat} (h : (oq ds)[j]? = some x) : xI ds d (j + 1) = xI ds d j ++ (mf d).map (x * ·) := by
 unfold xI
 rw [aO h, List.flatMap_append, List.flatMap_singleton]
theorem n5 (A : Option Addr) (n c : Nat) (ns : List Nat) (w : World) (hT : iu w) (hS : Sl w A n 1 (bs (aW ns))) (h12 : ns.length ≤ 12) (hlow : ∀ d ∈ ns, d ≤ 127) (hmax : av ns ≤ 4096) :
  Calls Tryz.prog 65 #[.slice A n c] w fun r w' => ∃ B c', r = .returned (.slice B (av ns) c') ∧ w'.ownsRow w.heap.size 39 3 (.slice B (av ns) c') (av ns) (bF NR.cells (vW ns)) ∧ Below w.heap.size w w' := by
 have hh := Hp.start w
 have hln : ns.length = n := by have := hS.1; simpa [bs, aW] using this
 have hc := kS ns 1 (by decide) (by decide) hlow
 rw [Nat.one_mul, if_pos hmax] at hc
 have hc1 : gr ((1 : Nat) : Int) (aW ns) = gr 1 (aW ns) := rfl
 rw [hc1] at hc
 have hpos := cX ns
 have hcnt := fun w1 hS1 => ej A n c (aW ns) w1 hS1 (by omega)
 rw [hc] at hcnt
 refine ao (N := 52) (l := [.slice A n c]) Tryz.func65 rfl rfl (by simp) ?_
 refine sr (aL (aa (ah (sr (mL (aQ ?_))))))
 refine bT (mB ?_)
 first | refine gS ?_ | (refine gT ?_; refine mL ?_) | refine gV ?_
 refine bo rfl rfl ?_
 refine bJ hh (hcnt _ (hS.ext hh.below)) rfl ?_
 intro w16 hh
 first | refine gS ?_ | (refine gT ?_; refine dP ?_) | refine gV ?_
 first | refine dD ?_ | refine dA ?_
 refine aa (cF (ak (ai (sr ?_))))
 refine bJ hh (iG 1 _ (hT.hp hh) (by omega) (by omega)) rfl ?_
 intro w19 hh
 refine aP hh (cs := [_, _, _]) aH.out aE.out (aY (de rfl) bO) rfl rfl (by decide) (by decide) (by decide) rfl (by decide) ?_
 intro b20 w20 hh
 refine aL (aa (ah (sr (mL (aQ (mI (aa (aj ?_))))))))
 refine bX [3, 5, 6, 8, 10, 23, 24, 25, 26, 27, 28, 29, 30, 31, 32, 33, 34, 35, 36, 37, 38, 39, 40, 41, 42, 43, 44, 45, 46, 47, 48, 49, 50] 3 23
  (fun v3 v w' => ∃ (i c3 : Nat) (B : Option Addr), i ≤ n ∧ v = .int .i64 i ∧ v3 = .slice B (av (ns.take i)) c3 ∧ Hp w [.row B (av (ns.take i)) c3 39 3 (bF NR.cells (vW (ns.take i)))] w')
  (fun _ v _ => n - (intOf v).toNat) ?_ ?_
 ·exact ⟨0, _, _, Nat.zero_le _, rfl, rfl, hh⟩
 ·clear hh
  rintro ρ' v3 v w' ⟨i, c3, B, hi, rfl, rfl, hh⟩
  by_cases hlt : i < n
  ·obtain ⟨d, hd⟩ := ar (l := ns) (k := i) (by omega)
   have hgi := bB (cA hd)
   have hd127 := hlow d (List.mem_of_getElem? hd)
   have htl : (ns.take i).length ≤ 12 := by rw [List.length_take]; omega
   have htw : ∀ d ∈ ns.take i, d ≤ 127 := fun d hd => hlow d (List.mem_of_mem_take hd)
   have hct := e8 ns (i + 1)
   have hct2 := e8 ns i
   have hstep : av (ns.take (i + 1)) = av (ns.take i) * (d + 1) := by rw [aO hd, fO]; simp [av]
   have hsnoc : vW (ns.take (i + 1)) = (xI (ns.take i) d (av (ns.take i))).map fun k => nR (nD k) := by
    unfold vW xI
    rw [aO hd, vp, List.take_of_length_le (l := oq (ns.take i)) (by rw [uj]; exact Nat.le_refl _)]
   generalize hds : ns.take i = ds at *
   generalize hN : av ds = N at *
   obtain ⟨ad, rfl, hr⟩ := hS.at_ (by omega)
   refine sr ?_
   refine aG (aa (ah (cT (ak (ai (ah (aj (sr ?_))))))))
   refine aF (k := i) aH.out aE.size rfl rfl (by omega) (by omega) (by decide) ?_
   refine aN aE.out rfl ((hr.ext hh.below).dR hgi) (by decide) ?_
   refine aI (aa (sr (aL (aa (ah (sr (mL (aQ (mI (aa (aj ?_)))))))))))
   replace hh := hh.dx 39 3
   refine bX [6, 8, 10, 29, 30, 31, 32, 33, 34, 35, 36, 37, 38, 39, 40, 41, 42, 43, 44, 45, 46, 47, 48] 6 29
    (fun v6 v w' => ∃ (j c6 : Nat) (C : Option Addr), j ≤ N ∧ v = .int .i64 j ∧ v6 = .slice C (j * (d + 1)) c6 ∧ Hp w [.row C (j * (d + 1)) c6 39 3 (bF NR.cells ((xI ds d j).map fun k => nR (nD k))), .row B N c3 39 3 (bF NR.cells (vW ds))] w')
    (fun _ v _ => N - (intOf v).toNat) ?_ ?_
   ·refine ⟨0, 0, none, Nat.zero_le _, rfl, ?_, ?_⟩
    ·rw [Nat.zero_mul]; rfl
    ·rw [Nat.zero_mul]; exact hh
   ·clear hh
    rintro ρ2 v6 v w2 ⟨j, c6, C, hj, rfl, rfl, hh⟩
    by_cases hjN : j < N
    ·obtain ⟨x, hx⟩ := ar (l := oq ds) (k := j) (by rw [uj]; omega)
     have hx2 : (vW ds)[j]? = some (nR (nD x)) := by unfold vW; rw [List.getElem?_map, hx]; rfl
     have zx := vU (List.mem_of_getElem? hx) htl htw
     have hj1 : (j + 1) * (d + 1) ≤ N * (d + 1) := Nat.mul_le_mul_right _ hjN
     rw [Nat.succ_mul] at hj1
     obtain ⟨go, rfl⟩ := hh.cK (i := 1) rfl (by omega)
     refine sr ?_
     refine aG (aa (ah (cT (ak (ai (ah (aj (sr ?_))))))))
     refine bj (k := j) aH.out aE.size rfl rfl (by omega) (by omega) (by decide) ?_
     refine cW (vs := [_, _, _]) aE.out rfl (hh.fK (f := NR.cells) (x := nR (nD x)) (l := vW ds) (i := 1) rfl NR.len (by decide) hx2) rfl (by decide) ?_
     refine cS hh ?_
     intro b8 w8 hh
     refine bY hh 0 [_,_,_] ?_
     intro ws hh
     replace hh : Hp _ (.blk _ _ [_, _, _] _ :: _) _ := hh
     refine aa (sr (mI ?_))
     refine a6 (oy d _ (hT.hp hh) hd127) az.out rfl (by decide) ?_
     rintro e_ w34 ⟨A34, c34, rfl, hown_, hb_⟩
     refine ⟨_, rfl, ?_⟩
     replace hh := hh.bu (x := .row _ _ _ _ _ _) hb_ hown_
     refine aQ (mI (aa (aj ?_)))
     refine bX [6, 10, 36, 37, 38, 39, 40, 41, 42, 43, 44, 45, 46, 47] 6 36
      (fun v6 v w' => ∃ (k c6 : Nat) (C : Option Addr), k ≤ d + 1 ∧ v = .int .i64 k ∧ v6 = .slice C (j * (d + 1) + k) c6 ∧ Hp w [.row A34 (d + 1) c34 39 3 (bF NR.cells (kJ d)), .blk b8 39 [.bool (nR (nD x)).neg, .string (nR (nD x)).cB, .int .i64 (nR (nD x)).e] (0, 0), .row C (j * (d + 1) + k) c6 39 3 (bF NR.cells ((xI ds d j ++ ((mf d).take k).map (x * ·)).map fun k => nR (nD k))), .row (some ⟨go, 0, none⟩) N c3 39 3 (bF NR.cells (vW ds))] w')
      (fun _ v _ => d + 1 - (intOf v).toNat) ?_ ?_
     ·refine ⟨0, c6, C, Nat.zero_le _, rfl, rfl, ?_⟩
      rw [List.take_zero, List.map_nil, List.append_nil]
      exact hh
     ·clear hh
      rintro ρ3 v6 v w3 ⟨k, c6, C, hk, rfl, rfl, hh⟩
      by_cases hkd : k < d + 1
      ·have hb1 := pR (n := d) (k := k) (by omega)
       have hb2 := j9 (n := d) (k := k) (by omega)
       have zb := r6 d k hd127
       have hmul := fun A cc w1 hT1 hS1 => ng A 2 cc [nR (nD x), nR (nD (bin d k))] w1 hT1 hS1 (by simpa using ⟨zx.ok (by omega), zb.ok (by omega)⟩) 1600 (by simpa [fH] using ⟨zx, zb.mono (by omega)⟩) (by omega) (by omega)
       rw [show ju ([nR (nD x), nR (nD (bin d k))].map NR.d) = nD (x * bin d k) by rw [wq]; show 1 * (nR (nD x)).d * (nR (nD (bin d k))).d = _; rw [fH, fH, Dyadic.one_mul]] at hmul
       obtain ⟨ga, rfl⟩ := hh.cK (i := 0) rfl (by omega)
       refine sr ?_
       refine aG (aa (ah (cT (ak (ai (ah (aj (sr ?_))))))))
       refine bj (k := k) aH.out aE.size rfl rfl (by omega) (by omega) (by decide) ?_
       refine cW (vs := [_, _, _]) aE.out rfl (hh.fK (f := NR.cells) (x := nR (nD (bin d k))) (l := kJ d) (i := 0) rfl NR.len (by decide) hb2) rfl (by decide) ?_
       refine cS hh ?_
       intro b10 w10 hh
       refine bY hh 0 [_,_,_] ?_
       intro ws hh
       replace hh : Hp _ (.blk _ _ [_, _, _] _ :: _) _ := hh
       refine aa (al (mL ?_))
       refine dk hh 2 [_,_,_] ?_
       refine dk hh 0 [_,_,_] ?_
       refine aP hh (cs := [_, _, _, _, _, _]) aH.out aE.out (aY (de rfl) (aY (de rfl) bO)) rfl rfl (by decide) (by decide) (by decide) rfl (by decide) ?_
       intro b43 w43 hh
       refine bJ hh (hmul _ _ _ (hT.hp hh) (hh.aX (i := 0) rfl)) rfl ?_
       intro w44 hh
       refine aP hh (cs := [_, _, _]) aH.out aE.out (aY (de rfl) bO) rfl rfl (by decide) (by decide) (by decide) rfl (by decide) ?_
       intro b45 w45 hh
       refine cu hh (i := 5) rfl rfl rfl (hh.aX (i := 0) rfl) aH.out aE.out rfl (by decide) (by first | rfl | exact bZ _ | exact bK _ | exact bC _ | exact bL NR.one _) (by omega) (by omega) (by decide) ?_
       intro A46 c46 w46 hh
       simp only [List.set_cons_zero, List.set_cons_succ] at hh
       replace hh := hh.sub (List.sublist_cons_self _ _)
       refine aL (aC (aT (ai (al ?_))))
       refine bz (mI (aC (ai ?_)))
       replace hh := hh.sub (List.Sublist.cons _ (List.Sublist.cons _ (List.Sublist.cons_cons _ (List.Sublist.cons_cons _ (List.Sublist.cons_cons _ (List.Sublist.cons_cons _ List.Sublist.slnil))))))
       refine ⟨⟨k + 1, c46, A46, by omega, rfl, rfl, ?_⟩, by show d + 1 - (k + 1) < d + 1 - k; omega, ?_⟩
       ·have e : (xI ds d j ++ ((mf d).take (k + 1)).map (x * ·)).map (fun k => nR (nD k)) = (xI ds d j ++ ((mf d).take k).map (x * ·)).map (fun k => nR (nD k)) ++ [nR (nD (x * bin d k))] := by rw [aO hb1]; simp
        rw [e, dp]
        exact hh
       ·(repeat (first | exact aw _ _ _ | refine ay rfl ?_ | refine au rfl ?_))
      ·obtain rfl : k = d + 1 := by omega
       rw [List.take_of_length_le (by rw [nV]; omega), ← wo hx] at hh
       refine sr ?_
       refine aG (aa (ah (cF ?_)))
       refine aJ ?_
       refine ax (ax (aZ (aT (ai (al ?_)))))
       refine bz (mI (aC (ai ?_)))
       replace hh := hh.sub (List.Sublist.cons _ (List.Sublist.cons _ (List.Sublist.cons_cons _ (List.Sublist.cons_cons _ List.Sublist.slnil))))
       refine ⟨⟨j + 1, c6, C, by omega, rfl, ?_, ?_⟩, by show N - (j + 1) < N - j; omega, ?_⟩
       ·rw [Nat.succ_mul]; rfl
       ·rw [Nat.succ_mul]; exact hh
       ·(repeat (first | exact aw _ _ _ | refine ay rfl ?_ | refine au rfl ?_))
    ·obtain rfl : j = N := by omega
     rw [← hsnoc, ← hstep] at hh
     rw [← hstep]
     refine sr ?_
     refine aG (aa (ah (cF ?_)))
     refine aJ ?_
     refine ax (ax (aZ (ai (al (mL (aL (aC (aT (ai (al ?_))))))))))
     refine bz (mI (aC (ai ?_)))
     replace hh := hh.sub (List.Sublist.cons_cons _ (List.Sublist.cons _ List.Sublist.slnil))
     refine ⟨⟨i + 1, c6, C, by omega, rfl, rfl, hh⟩, by show n - (i + 1) < n - i; omega, ?_⟩
     (repeat (first | exact aw _ _ _ | refine ay rfl ?_ | refine au rfl ?_))
  ·obtain rfl : i = n := by omega
   rw [List.take_of_length_le (by omega)] at hh ⊢
   refine sr ?_
   refine aG (aa (ah (cF ?_)))
   refine aJ ?_
   refine ax (ax (aZ (ai (sr (mL (aL (aa (aq ?_))))))))
   refine cz ?_
   exact ⟨_, _, rfl, hh.at_ (i := 0) rfl, hh.below⟩
end Go.Proofs.YtioilmppidlbnaaGreatDoor
/- Plain laws: values of forms. No program in sight. -/
namespace Go.Proofs.YtioilmppidlbnaaGreatDoor
def zQ (d r : Nat) (t : Dyadic) : Dyadic := t ^ r * (1 - t) ^ (d - r)
def z6 : List Nat → List Nat → List Dyadic → Dyadic
 | d :: ds, r :: rs, t :: ts => zQ d r t * z6 ds rs ts
 | _, _, _ => 1
def AW (ds : List Nat) (xs : List Dyadic) (ts : List Dyadic) : Dyadic := sm (List.range (av ds)) fun p => (xs[p]?).getD 0 * z6 ds (bE ds p) ts
def z3 (d : Nat) (t : Dyadic) (m : Nat) (xs : List Dyadic) : List Dyadic := (List.range m).map fun q => sm (List.range (d + 1)) fun r => (xs[r + (d + 1) * q]?).getD 0 * zQ d r t
def zP : List Nat → List Dyadic → List Dyadic → List Dyadic
 | d :: ds, t :: ts, xs => zP ds ts (z3 d t (av ds) xs)
 | _, _, xs => xs
end Go.Proofs.YtioilmppidlbnaaGreatDoor
/- Plain laws: forms changed along an axis; both parts of a form that is cut. No program in sight. -/
namespace Go.Proofs.YtioilmppidlbnaaGreatDoor
def sR : List Nat → (List Nat → Dyadic) → Dyadic
 | [], F => F []
 | d :: ds, F => sm (List.range (d + 1)) fun r => sR ds fun row => F (r :: row)
def AB (ds : List Nat) (a : Nat) (M : Nat → Nat → Dyadic) (xs : List Dyadic) : List Dyadic :=
 (List.range (av ds)).map fun p => sm (List.range (ds.getD a 0 + 1)) fun i => co ds xs ((bE ds p).set a i) * M i ((bE ds p).getD a 0)
def Ba (d : Nat) (s : Dyadic) (i k : Nat) : Dyadic := if k < i then 0 else nD (bin (d - i) (k - i)) * s ^ i * (1 - s) ^ (k - i)
def AU (d : Nat) (s : Dyadic) (i k : Nat) : Dyadic := if i < k then 0 else nD (bin i (i - k)) * s ^ (i - k) * (1 - s) ^ (d - i)
end Go.Proofs.YtioilmppidlbnaaGreatDoor
/- Plain laws: the lines of a form along an axis, by places. No program in sight. -/
namespace Go.Proofs.YtioilmppidlbnaaGreatDoor
theorem l9 : ∀ {A B x y : List Nat}, x.length = A.length → cU (A ++ B) (x ++ y) = cU A x + av A * cU B y
 | [], B, [], y, _ => by rw [List.nil_append, List.nil_append, av, Nat.one_mul]; show _ = 0 + _; rw [Nat.zero_add]
 | d :: A, B, r :: x, y, h => by
  rw [List.cons_append, List.cons_append, cU, cU, av, l9 (by simpa using h), Nat.mul_add, Nat.mul_assoc, Nat.add_assoc]
section
variable {A B : List Nat} {d : Nat}
def z4 (A : List Nat) (d f k q : Nat) : Nat := f + av A * (k + (d + 1) * q)
def AJ (A : List Nat) (d : Nat) (xs : List Dyadic) (f q : Nat) : List Dyadic := (List.range (d + 1)).map fun i => (xs[z4 A d f i q]?).getD 0
end
end Go.Proofs.YtioilmppidlbnaaGreatDoor
/- The walks through package lift: sizes, places. -/
namespace Go.Proofs.YtioilmppidlbnaaGreatDoor
open Go.RowKit
theorem qG (A : Option Addr) (n c : Nat) (ns : List Nat) (w : World) (hS : Sl w A n 1 (bs (aW ns))) (hn : n ≤ 1000) (hlow : ∀ d ∈ ns, d ≤ 255) (hmax : av ns ≤ 1000000) :
  Calls Tryz.prog 108 #[.slice A n c] w fun r w' => r = .returned (.int .i64 (av ns : Nat)) ∧ Below w.heap.size w w' := by
 have hh := Hp.start w
 have hln : ns.length = n := by have := hS.1; simpa [bs, aW] using this
 refine ao (N := 18) (l := [.slice A n c]) Tryz.func108 rfl rfl (by simp) ?_
 refine sr (aI (aa (sr (aI (aa (ah (sr (mL (aQ (mI (aa ?_)))))))))))
 refine aj ?_
 refine bX [3, 5, 8, 9, 10, 11, 12, 13, 14, 15, 16] 3 8
  (fun v3 v w' => ∃ i : Nat, i ≤ n ∧ v = .int .i64 i ∧ v3 = .int .i64 (av (ns.take i) : Nat) ∧ Hp w [] w')
  (fun _ v _ => n - (intOf v).toNat) ?_ ?_
 ·exact ⟨0, Nat.zero_le _, rfl, rfl, hh⟩
 ·clear hh
  rintro ρ' v3 v w' ⟨i, hi, rfl, rfl, hh⟩
  by_cases hlt : i < n
  ·obtain ⟨d, hd⟩ := ar (l := ns) (k := i) (by omega)
   have hgi := bB (cA hd)
   have hd2 := hlow d (List.mem_of_getElem? hd)
   obtain ⟨ad, rfl, hr⟩ := hS.at_ (by omega)
   have hct := e8 ns (i + 1)
   have hct2 := e8 ns i
   have hstep : av (ns.take (i + 1)) = av (ns.take i) * (d + 1) := by rw [aO hd, fO]; simp [av]
   have e1 : ((av (ns.take i) : Nat) : Int) * ((d : Int) + 1) = ((av (ns.take (i + 1)) : Nat) : Int) := by rw [hstep, Int.natCast_mul, Int.natCast_add]; rfl
   refine sr ?_
   refine aG (aa (ah (cT (ak (ai (ah (aj (sr ?_))))))))
   refine aF (k := i) aH.out aE.size rfl rfl (by omega) (by omega) (by decide) ?_
   refine aN aE.out rfl ((hr.ext hh.below).dR hgi) (by decide) ?_
   refine aI (aa (al (mI (mI ?_))))
   refine bz ?_
   refine mulC (aI (aC (aT (ai (al ?_)))))
   refine bz (mI (aC (ai ?_)))
   rw [e1]
   refine ⟨⟨i + 1, by omega, rfl, rfl, hh⟩, by show n - (i + 1) < n - i; omega, ?_⟩
   (repeat (first | exact aw _ _ _ | refine ay rfl ?_ | refine au rfl ?_))
  ·refine sr ?_
   refine aG (aa (ah (cF ?_)))
   refine aJ ?_
   refine ax (ax (aZ (ai (sr (mI (aI (aa (aq ?_))))))))
   refine cz ?_
   rw [List.take_of_length_le (by omega)]
   exact ⟨rfl, hh.below⟩
def iB (ns : List Nat) : Bool := ns.any (fun d => decide (127 < d)) || decide (4096 < av ns)
theorem mP (A : Option Addr) (n c : Nat) (ns : List Nat) (w : World) (hS : Sl w A n 1 (bs (aW ns))) (hn : n ≤ 1000) (hlow : ∀ d ∈ ns, d ≤ 1000) :
  Calls Tryz.prog 59 #[.slice A n c] w fun r w' => r = .returned (.bool (iB ns)) ∧ Below w.heap.size w w' := by
 have hh := Hp.start w
 have hln : ns.length = n := by have := hS.1; simpa [bs, aW] using this
 refine ao (N := 26) (l := [.slice A n c]) Tryz.func59 rfl rfl (by simp) ?_
 refine sr (aB (aa (sr (aI (aa (ah (sr (mL (aQ (mI (aa ?_)))))))))))
 refine aj ?_
 refine bX [2, 3, 5, 8, 9, 10, 11, 12, 13, 14, 15, 16, 17, 18, 19, 20, 21, 22, 23, 24, 25] 3 8
  (fun v3 v w' => ∃ i : Nat, i ≤ n ∧ v = .int .i64 i ∧ v3 = .int .i64 (av (ns.take i) : Nat) ∧ av (ns.take i) ≤ 4096 ∧ (ns.take i).any (fun d => decide (127 < d)) = false ∧ Hp w [] w')
  (fun _ v _ => n - (intOf v).toNat) ?_ ?_
 ·exact ⟨0, Nat.zero_le _, rfl, rfl, by show 1 ≤ 4096; decide, rfl, hh⟩
 ·clear hh
  rintro ρ' v3 v w' ⟨i, hi, rfl, rfl, hmx, hall, hh⟩
  by_cases hlt : i < n
  ·obtain ⟨d, hd⟩ := ar (l := ns) (k := i) (by omega)
   have hgi := bB (cA hd)
   have hd2 := hlow d (List.mem_of_getElem? hd)
   obtain ⟨ad, rfl, hr⟩ := hS.at_ (by omega)
   have hct := e8 ns (i + 1)
   have hstep : av (ns.take (i + 1)) = av (ns.take i) * (d + 1) := by rw [aO hd, fO]; simp [av]
   have hpb : av (ns.take i) * (d + 1) ≤ 4096 * 1001 := Nat.mul_le_mul hmx (by omega)
   have e1 : ((av (ns.take i) : Nat) : Int) * ((d : Int) + 1) = ((av (ns.take (i + 1)) : Nat) : Int) := by rw [hstep, Int.natCast_mul, Int.natCast_add]; rfl
   by_cases h1 : 127 < d
   ·refine sr ?_
    refine aG (aa (ah (cT (ak (ai (ah (aj (sr ?_))))))))
    refine aF (k := i) aH.out aE.size rfl rfl (by omega) (by omega) (by decide) ?_
    refine aN aE.out rfl ((hr.ext hh.below).dR hgi) (by decide) ?_
    refine aI (aa (ah (sr (mI ?_))))
    refine bT (mB ?_)
    first | refine gS ?_ | (refine gT ?_; refine mI ?_) | refine gV ?_
    first | refine gS ?_ | (refine gT ?_; refine mI ?_) | refine gV ?_
    first | refine gS ?_ | (refine gT ?_; refine bz ?_) | refine gV ?_
    first | refine gS ?_ | (refine gT ?_; refine mulC ?_) | refine gV ?_
    first | refine gS ?_ | (refine gT ?_; refine bT ?_) | refine gV ?_
    first | refine dD ?_ | refine dA ?_
    refine aa (cT (sr (aB (aa (aq (aM (bR (aM (aM (bR (aM ?_)))))))))))
    refine cz ?_
    refine ⟨?_, hh.below⟩
    unfold iB
    rw [List.any_eq_true.2 ⟨d, List.mem_of_getElem? hd, decide_eq_true h1⟩]
    rfl
   ·by_cases h2 : 4096 < av (ns.take (i + 1))
    ·refine sr ?_
     refine aG (aa (ah (cT (ak (ai (ah (aj (sr ?_))))))))
     refine aF (k := i) aH.out aE.size rfl rfl (by omega) (by omega) (by decide) ?_
     refine aN aE.out rfl ((hr.ext hh.below).dR hgi) (by decide) ?_
     refine aI (aa (ah (sr (mI ?_))))
     refine bT (mB ?_)
     first | refine gS ?_ | (refine gT ?_; refine mI ?_) | refine gV ?_
     first | refine gS ?_ | (refine gT ?_; refine mI ?_) | refine gV ?_
     first | refine gS ?_ | (refine gT ?_; refine bz ?_) | refine gV ?_
     first | refine gS ?_ | (refine gT ?_; refine mulC ?_) | refine gV ?_
     first | refine gS ?_ | (refine gT ?_; refine bT ?_) | refine gV ?_
     first | refine dD ?_ | refine dA ?_
     refine aa (cT (sr (aB (aa (aq (aM (bR (aM (aM (bR (aM ?_)))))))))))
     refine cz ?_
     refine ⟨?_, hh.below⟩
     unfold iB
     rw [decide_eq_true (show 4096 < av ns by omega), Bool.or_true]
    ·refine sr ?_
     refine aG (aa (ah (cT (ak (ai (ah (aj (sr ?_))))))))
     refine aF (k := i) aH.out aE.size rfl rfl (by omega) (by omega) (by decide) ?_
     refine aN aE.out rfl ((hr.ext hh.below).dR hgi) (by decide) ?_
     refine aI (aa (ah (sr (mI ?_))))
     refine bT (mB ?_)
     first | refine gS ?_ | (refine gT ?_; refine mI ?_) | refine gV ?_
     first | refine gS ?_ | (refine gT ?_; refine mI ?_) | refine gV ?_
     first | refine gS ?_ | (refine gT ?_; refine bz ?_) | refine gV ?_
     first | refine gS ?_ | (refine gT ?_; refine mulC ?_) | refine gV ?_
     first | refine gS ?_ | (refine gT ?_; refine bT ?_) | refine gV ?_
     first | refine dD ?_ | refine dA ?_
     refine aa (cF (ak (ai (al (mI (mI ?_))))))
     refine bz ?_
     refine mulC (aI (aC (aT (ai (al ?_)))))
     refine bz (mI (aC (ai ?_)))
     rw [e1]
     refine ⟨⟨i + 1, by omega, rfl, rfl, by omega, ?_, hh⟩, by show n - (i + 1) < n - i; omega, ?_⟩
     ·rw [aO hd, List.any_append, hall, List.any_cons, List.any_nil, decide_eq_false h1]; rfl
     ·(repeat (first | exact aw _ _ _ | refine ay rfl ?_ | refine au rfl ?_))
  ·rw [List.take_of_length_le (by omega)] at hmx hall
   refine sr ?_
   refine aG (aa (ah (cF ?_)))
   refine aJ ?_
   refine ax (ax (aZ (ai (sr (aB (aa (aq ?_)))))))
   refine cz ?_
   refine ⟨?_, hh.below⟩
   unfold iB
   rw [hall, decide_eq_false (by omega)]
   rfl
theorem qc {α : Type} {l : List α} {n k : Nat} (hl : l.length = n) (hk : k < n) : l[n - 1 - k]? = l.reverse[k]? := by rw [List.getElem?_reverse (by omega), hl]
theorem uR : ∀ {X Y : List Nat} {d r : Nat}, X.length = Y.length → cU (X ++ [d]) (Y ++ [r]) = cU X Y + av X * r := fun {X Y d r} h => by
 rw [l9 h.symm]
 simp [cU]
theorem iP (X : List Nat) (d : Nat) : av (X ++ [d]) = av X * (d + 1) := by rw [fO]; simp [av]
theorem pz : ∀ {R : List Nat} {k d : Nat} (p : Nat), R[k]? = some d → (bE R p)[k]? = some (p / av (R.take k) % (d + 1))
 | [], _, _, _, h => by simp at h
 | e :: R, 0, d, p, h => by
  obtain rfl : e = d := by simpa using h
  show some (p % (e + 1)) = _
  rw [List.take_zero, av, Nat.div_one]
 | e :: R, k + 1, d, p, h => by
  show (bE R (p / (e + 1)))[k]? = _
  rw [pz (p / (e + 1)) (by simpa using h), List.take_succ_cons, av, Nat.div_div_eq_div_mul]
theorem uf : ∀ {a b : List Nat} {k x y : Nat}, a[k]? = some x → b[k]? = some y → (cv a b)[k]? = some (x + y)
 | [], _, _, _, _, h, _ => by simp at h
 | _ :: _, [], _, _, _, _, h => by simp at h
 | p :: a, q :: b, 0, x, y, h1, h2 => by
  obtain rfl : p = x := by simpa using h1
  obtain rfl : q = y := by simpa using h2
  rfl
 | p :: a, q :: b, k + 1, x, y, h1, h2 => by
  show (cv a b)[k]? = _
  exact uf (by simpa using h1) (by simpa using h2)
theorem rp : ∀ {ds rs : List Nat} (k : Nat), iD ds rs → iD (ds.take k) (rs.take k)
 | [], [], _, _ => by simp [iD]
 | _ :: _, _ :: _, 0, _ => trivial
 | d :: ds, r :: rs, k + 1, h => ⟨h.1, rp k h.2⟩
theorem mX : ∀ {ds rs : List Nat} {k d r : Nat}, iD ds rs → ds[k]? = some d → rs[k]? = some r → r ≤ d
 | [], _, _, _, _, _, h, _ => by simp at h
 | _ :: _, [], _, _, _, _, _, h => by simp at h
 | d :: ds, r :: rs, 0, _, _, h, h1, h2 => by
  simp only [List.getElem?_cons_zero, Option.some.injEq] at h1 h2
  subst h1 h2
  exact h.1
 | d :: ds, r :: rs, k + 1, _, _, h, h1, h2 => mX (k := k) h.2 (by simpa using h1) (by simpa using h2)
theorem pk (F T Y : Option Addr) (n c1 c2 c3 : Nat) (ns ts js : List Nat) (p : Nat) (w : World) (hF : Sl w F n 1 (bs (aW ns))) (hT : Sl w T n 1 (bs (aW ts))) (hY : Sl w Y n 1 (bs (aW js)))
  (hn : n ≤ 1000) (hok : iD ts.reverse (cv (bE ns.reverse p) js.reverse)) (hmax : av ts ≤ 1000000) (hns : ∀ d ∈ ns, d ≤ 1000) (hts : ∀ d ∈ ts, d ≤ 1000) (hp : p ≤ 1000000) :
  Calls Tryz.prog 111 #[.slice F n c1, .slice T n c2, .slice Y n c3, .int .i64 p] w fun r w' => r = .returned (.int .i64 (cU ts.reverse (cv (bE ns.reverse p) js.reverse) : Nat)) ∧ Below w.heap.size w w' := by
 have hh := Hp.start w
 have hl1 : ns.length = n := by have := hF.1; simpa [bs, aW] using this
 have hl2 : ts.length = n := by have := hT.1; simpa [bs, aW] using this
 have hl3 : js.length = n := by have := hY.1; simpa [bs, aW] using this
 generalize hrow : cv (bE ns.reverse p) js.reverse = row at *
 have hrl : row.length = n := by rw [← hrow, m2 (by rw [dZ, List.length_reverse, List.length_reverse, hl1, hl3]), dZ, List.length_reverse, hl1]
 refine ao (N := 52) (l := [.slice F n c1, .slice T n c2, .slice Y n c3, .int .i64 p]) Tryz.func111 rfl rfl (by simp) ?_
 refine sr (aI (aa (sr (aI (aI (aa (ah (sr (mL (aQ ?_))))))))))
 refine eR (aI (aa (aj ?_)))
 refine we [3, 9, 10, 11, 12, 16, 17, 18, 19, 20, 21, 22, 23, 24, 25, 26, 27, 28, 29, 30, 31, 32, 33, 34, 35, 36, 37, 38, 39, 40, 41, 42, 43, 44, 45, 46, 47, 48, 49, 50] 3 9 10 11
  (fun v3 v9 v10 v w' => ∃ k : Nat, k ≤ n ∧ v = .int .i64 ((n : Int) - 1 - k) ∧ v3 = .int .i64 (p / av (ns.reverse.take k) : Nat) ∧ v9 = .int .i64 (cU (ts.reverse.take k) (row.take k) : Nat) ∧ v10 = .int .i64 (av (ts.reverse.take k) : Nat) ∧ Hp w [] w')
  (fun _ _ _ v _ => (intOf v + 1).toNat) ?_ ?_
 ·refine ⟨0, Nat.zero_le _, ?_, ?_, rfl, rfl, hh⟩
  ·exact congrArg (Value.int IntKind.i64) (show (n : Int) - 1 = (n : Int) - 1 - (0 : Nat) by omega)
  ·rw [List.take_zero, av, Nat.div_one]; rfl
 ·clear hh
  rintro ρ' v3 v9 v10 v w' ⟨k, hk, rfl, rfl, rfl, rfl, hh⟩
  by_cases hlt : k < n
  ·obtain ⟨d, hd⟩ := ar (l := ns.reverse) (k := k) (by rw [List.length_reverse]; omega)
   obtain ⟨t, ht⟩ := ar (l := ts.reverse) (k := k) (by rw [List.length_reverse]; omega)
   obtain ⟨j, hj⟩ := ar (l := js.reverse) (k := k) (by rw [List.length_reverse]; omega)
   have hd' := qc hl1 hlt
   have ht' := qc hl2 hlt
   have hj' := qc hl3 hlt
   rw [hd] at hd'
   rw [ht] at ht'
   rw [hj] at hj'
   have hgd := bB (cA hd')
   have hgt := bB (cA ht')
   have hgj := bB (cA hj')
   have hd2 := hns d (List.mem_of_getElem? hd')
   have ht2 := hts t (List.mem_of_getElem? ht')
   have hr : row[k]? = some (p / av (ns.reverse.take k) % (d + 1) + j) := by rw [← hrow]; exact uf (pz p hd) hj
   have hrt := mX hok ht hr
   have hcp := cX (ns.reverse.take k)
   have hq : p / av (ns.reverse.take k) ≤ p := Nat.div_le_self _ _
   have hct := e8 ts.reverse (k + 1)
   rw [cG, aO ht, iP] at hct
   have hck : av (ts.reverse.take k) * 1 ≤ av (ts.reverse.take k) * (t + 1) := Nat.mul_le_mul_left _ (by omega)
   have hhl : cU (ts.reverse.take k) (row.take k) < av (ts.reverse.take k) := iq (rp k hok)
   have e1 : ((p / av (ns.reverse.take k) : Nat) : Int) % ((d : Int) + 1) = ((p / av (ns.reverse.take k) % (d + 1) : Nat) : Int) := by rw [Int.natCast_emod]; rfl
   have e2 : ((p / av (ns.reverse.take k) : Nat) : Int) / ((d : Int) + 1) = ((p / av (ns.reverse.take (k + 1)) : Nat) : Int) := by rw [aO hd, iP, ← Nat.div_div_eq_div_mul, Int.natCast_ediv]; rfl
   have hst : cU (ts.reverse.take (k + 1)) (row.take (k + 1)) = cU (ts.reverse.take k) (row.take k) + av (ts.reverse.take k) * (p / av (ns.reverse.take k) % (d + 1) + j) := by rw [aO ht, aO hr, uR (by rw [List.length_take, List.length_take, List.length_reverse, hl2, hrl])]
   have e3 : (((p / av (ns.reverse.take k) % (d + 1) : Nat) : Int) + (j : Int)) * ((av (ts.reverse.take k) : Nat) : Int) = ((av (ts.reverse.take k) * (p / av (ns.reverse.take k) % (d + 1) + j) : Nat) : Int) := by rw [Nat.mul_comm, Int.natCast_mul, Int.natCast_add]
   have e4 : ((av (ts.reverse.take k) : Nat) : Int) * ((t : Int) + 1) = ((av (ts.reverse.take (k + 1)) : Nat) : Int) := by rw [aO ht, iP, Int.natCast_mul, Int.natCast_add]; rfl
   have hb3 : av (ts.reverse.take k) * (p / av (ns.reverse.take k) % (d + 1) + j) ≤ av (ts.reverse.take k) * (t + 1) := Nat.mul_le_mul_left _ (by omega)
   have hc5 : av (ts.reverse.take (k + 1)) = av (ts.reverse.take k) * (t + 1) := by rw [aO ht, iP]
   generalize p / av (ns.reverse.take k) = q at *
   generalize q % (d + 1) = m at *
   generalize av (ts.reverse.take k) = C at *
   generalize cU (ts.reverse.take k) (row.take k) = Hh at *
   obtain ⟨a1, rfl, s1⟩ := hF.at_ (by omega)
   obtain ⟨a2, rfl, s2⟩ := hT.at_ (by omega)
   obtain ⟨a3, rfl, s3⟩ := hY.at_ (by omega)
   refine ah (sr (mI ?_))
   refine dX (aa (cT (ak (ai (ah (aj (ah ?_)))))))
   refine aK 11 [[(3, none)], [(0, none)], [(11, none)], [(21, some 1), (22, some 2)], [(23, some 3)], [(24, some 4)], [(20, some 0), (25, some 5)], [(2, none)], [(11, none)], [(27, some 7), (28, some 8)], [(29, some 9)]] [(10, 30), (9, 29), (8, 28), (7, 27), (6, 26), (5, 25), (4, 24), (3, 23), (2, 22), (1, 21), (0, 20)] hh mixed (by kernel_rfl) ?_
   refine dn ?_
   refine eP ?_
   refine dn ?_
   refine hH ((n - 1 - k)) ?_
   refine aR (i := 4) (fun ρ1 w1 hj hR => cm aE.out (show ρ1 23 = Value.pointer _ from hR.1) ((s1.ext hj.hp.below).dR (by assumption))) ?_
   refine ow ?_
   refine aR (i := 6) (fun ρ1 w1 hj hR => kB (show ρ1 20 = Value.int _ _ from hR.1) (show ρ1 25 = Value.int _ _ from hR.2.1) (by omega) (by omega)) ?_
   refine eP ?_
   refine dn ?_
   refine hH ((n - 1 - k)) ?_
   refine aR (i := 10) (fun ρ1 w1 hj hR => cm aE.out (show ρ1 29 = Value.pointer _ from hR.1) ((s3.ext hj.hp.below).dR (by assumption))) ?_
   refine bm ?_
   intro f W hJ hV
   have hb_5 := hJ.bl
   obtain ⟨v30, v29, v28, v27, v26, v25, v24, v23, v22, v21, v20, _⟩ := hV
   replace hh := hJ.hp
   refine aU (bk (ae v30 (ae v29 (ae v28 (ae v27 (ae v26 (ae v25 (ae v24 (ae v23 (ae v22 (ae v21 (ae v20 aV)))))))))))) ?_
   dsimp only [cd]
   clear hJ
   rw [e1]
   refine bz (aI (aa (sr (mI (mL (mI ?_))))))
   refine aF (k := (n - 1 - k)) aH.out aE.size rfl rfl (by omega) (by omega) (by decide) ?_
   refine aN aE.out rfl ((s1.ext hh.below).dR (by assumption)) (by decide) ?_
   refine bz ?_
   refine gW rfl rfl (by omega) (by omega) (by omega) (by decide) ?_
   refine aI (aa (sr (mI (mI (mI ?_)))))
   refine mulC ?_
   refine bz (aI (aa (al (mI (mL (mI ?_))))))
   refine aF (k := (n - 1 - k)) aH.out aE.size rfl rfl (by omega) (by omega) (by decide) ?_
   refine aN aE.out rfl ((s2.ext hh.below).dR (by assumption)) (by decide) ?_
   refine bz ?_
   refine mulC (aI (aC (aT (ai (al (mI ?_))))))
   refine eR (aI (aC (ai ?_)))
   refine ⟨⟨k + 1, by omega, ?_, ?_, ?_, ?_, hh⟩, by show ((n : Int) - 1 - (k : Int) - 1 + 1).toNat < ((n : Int) - 1 - (k : Int) + 1).toNat; omega, ?_⟩
   ·exact congrArg (Value.int IntKind.i64) (show (n : Int) - 1 - (k : Int) - 1 = (n : Int) - 1 - ((k + 1 : Nat) : Int) by omega)
   ·exact congrArg (Value.int IntKind.i64) e2
   ·exact congrArg (Value.int IntKind.i64) (show (Hh : Int) + ((m : Int) + (j : Int)) * (C : Int) = _ by rw [e3, hst, Int.natCast_add])
   ·exact congrArg (Value.int IntKind.i64) e4
   ·(repeat (first | exact aw _ _ _ | refine ay rfl ?_ | refine au rfl ?_))
  ·obtain rfl : k = n := by omega
   refine ah (sr (mI ?_))
   refine dX (aa (cF ?_))
   refine aJ ?_
   refine ax (ax (aZ (ai (sr (mI (aI (aa (aq ?_))))))))
   refine cz ?_
   rw [List.take_of_length_le (by rw [List.length_reverse]; omega), List.take_of_length_le (by omega)]
   exact ⟨rfl, hh.below⟩
end Go.Proofs.YtioilmppidlbnaaGreatDoor
/- The walks through package lift: indices, products. -/
namespace Go.Proofs.YtioilmppidlbnaaGreatDoor
open Go.RowKit
theorem eD {l : List Int} {k : Nat} (y : Int) (h : k < l.length) : cL (bs l) (k * 1) [.int .i64 y] = bs (l.set k y) := by
 rw [Nat.mul_one, cx (by rw [bV]; exact h)]
 unfold bs
 rw [List.map_set]
theorem ld (a : List Int) (x y : Int) (b : List Int) (n : Nat) (h : a.length = n) : (a ++ x :: b).set n y = a ++ y :: b := by
 subst h
 rw [List.set_append_right _ _ (Nat.le_refl _), Nat.sub_self, List.set_cons_zero]
theorem mO (F : Option Addr) (n c1 : Nat) (ns : List Nat) (p : Nat) (w : World) (hF : Sl w F n 1 (bs (aW ns))) (hn : n ≤ 1000) (hns : ∀ d ∈ ns, d ≤ 1000) (hp : p ≤ 1000000) :
  Calls Tryz.prog 110 #[.slice F n c1, .int .i64 p] w fun r w' => ∃ A c', r = .returned (.slice A n c') ∧ w'.ownsRow w.heap.size 3 1 (.slice A n c') n (bs (aW (bE ns.reverse p).reverse)) ∧ Below w.heap.size w w' := by
 have hh := Hp.start w
 have hl1 : ns.length = n := by have := hF.1; simpa [bs, aW] using this
 have hdl : (bE ns.reverse p).length = n := by rw [dZ, List.length_reverse, hl1]
 refine ao (N := 35) (l := [.slice F n c1, .int .i64 p]) Tryz.func110 rfl rfl (by simp) ?_
 refine sr (aL (aa (sr (mL (aQ ?_)))))
 refine fG (n := n) hh rfl rfl (by omega) (by omega) aH.out aE.out rfl (by omega) (by omega) (by decide) ?_
 intro b9 w9 hh
 refine aL (aa (ah (sr (mL (aQ ?_)))))
 refine eR (aI (aa (aj ?_)))
 rw [show Value.int IntKind.i64 0 = Value.int IntKind.i64 0 from rfl] at hh
 have hzr : gj n [Value.int .i64 0] = bs (en n) := by rw [lb]; simp [bs, en]
 rw [hzr] at hh
 refine bX [1, 6, 13, 14, 15, 16, 17, 18, 19, 20, 21, 22, 23, 24, 25, 26, 27, 28, 29, 30, 31, 32, 33] 1 6
  (fun v1 v w' => ∃ k : Nat, k ≤ n ∧ v = .int .i64 ((n : Int) - 1 - k) ∧ v1 = .int .i64 (p / av (ns.reverse.take k) : Nat) ∧ Hp w [.row (some ⟨b9, 0, none⟩) n n 3 1 (bs (en (n - k) ++ aW ((bE ns.reverse p).take k).reverse))] w')
  (fun _ v _ => (intOf v + 1).toNat) ?_ ?_
 ·refine ⟨0, Nat.zero_le _, ?_, ?_, ?_⟩
  ·exact congrArg (Value.int IntKind.i64) (show (n : Int) - 1 = (n : Int) - 1 - (0 : Nat) by omega)
  ·rw [List.take_zero, av, Nat.div_one]; rfl
  ·rw [List.take_zero]; simpa [aW] using hh
 ·clear hh
  rintro ρ' v1 v w' ⟨k, hk, rfl, rfl, hh⟩
  by_cases hlt : k < n
  ·obtain ⟨d, hd⟩ := ar (l := ns.reverse) (k := k) (by rw [List.length_reverse]; omega)
   have hd' := qc hl1 hlt
   rw [hd] at hd'
   have hgd := bB (cA hd')
   have hd2 := hns d (List.mem_of_getElem? hd')
   have hdk := pz p hd
   have hq : p / av (ns.reverse.take k) ≤ p := Nat.div_le_self _ _
   have e1 : ((p / av (ns.reverse.take k) : Nat) : Int) % ((d : Int) + 1) = ((p / av (ns.reverse.take k) % (d + 1) : Nat) : Int) := by rw [Int.natCast_emod]; rfl
   have e2 : ((p / av (ns.reverse.take k) : Nat) : Int) / ((d : Int) + 1) = ((p / av (ns.reverse.take (k + 1)) : Nat) : Int) := by rw [aO hd, iP, ← Nat.div_div_eq_div_mul, Int.natCast_ediv]; rfl
   have hlen : (en (n - k) ++ aW ((bE ns.reverse p).take k).reverse).length = n := by simp [en, aW, hdl]; omega
   have hil : (bs (en (n - k) ++ aW ((bE ns.reverse p).take k).reverse)).length = n := by rw [bV, hlen]
   generalize p / av (ns.reverse.take k) = q at *
   obtain ⟨a1, rfl, s1⟩ := hF.at_ (by omega)
   refine ah (sr (mI ?_))
   refine dX (aa (cT (ak (ai (ah (aj (sr (mL (mI (mI (mL ?_)))))))))))
   refine mI ?_
   refine aF (k := (n - 1 - k)) aH.out aE.size rfl rfl (by omega) (by omega) (by decide) ?_
   refine aN aE.out rfl ((s1.ext hh.below).dR (by assumption)) (by decide) ?_
   refine bz ?_
   refine je rfl rfl (by omega) (by omega) (by decide) ?_
   refine bj (k := (n - 1 - k)) aH.out aE.size rfl rfl (by omega) (by omega) (by decide) ?_
   rw [e1]
   refine bx hh (i := 0) (vs := [_]) rfl rfl (bU rfl) rfl aE.out rfl (by omega) rfl ?_
   intro ws hh
   simp only [List.set_cons_zero] at hh
   rw [eD _ (by omega)] at hh
   refine aa (al (mI (mL (mI ?_))))
   refine aF (k := (n - 1 - k)) aH.out aE.size rfl rfl (by omega) (by omega) (by decide) ?_
   refine aN aE.out rfl ((s1.ext hh.below).dR (by assumption)) (by decide) ?_
   refine bz ?_
   refine gW rfl rfl (by omega) (by omega) (by omega) (by decide) ?_
   refine aI (aC (aT (ai (al (mI ?_)))))
   refine eR (aI (aC (ai ?_)))
   refine ⟨⟨k + 1, by omega, ?_, ?_, ?_⟩, by show ((n : Int) - 1 - (k : Int) - 1 + 1).toNat < ((n : Int) - 1 - (k : Int) + 1).toNat; omega, ?_⟩
   ·exact congrArg (Value.int IntKind.i64) (show (n : Int) - 1 - (k : Int) - 1 = (n : Int) - 1 - ((k + 1 : Nat) : Int) by omega)
   ·exact congrArg (Value.int IntKind.i64) e2
   ·have e5 : (en (n - k) ++ aW ((bE ns.reverse p).take k).reverse).set (n - 1 - k) ((q % (d + 1) : Nat) : Int) = en (n - (k + 1)) ++ aW ((bE ns.reverse p).take (k + 1)).reverse := by
     have hz : en (n - k) = en (n - (k + 1)) ++ [0] := by
      unfold en
      rw [show n - k = n - (k + 1) + 1 by omega, List.replicate_succ']
     rw [hz, List.append_assoc, List.singleton_append, ld _ _ _ _ _ (by rw [k7]; omega), aO hdk]
     simp [aW]
    rw [e5] at hh
    exact hh
   ·(repeat (first | exact aw _ _ _ | refine ay rfl ?_ | refine au rfl ?_))
  ·obtain rfl : k = n := by omega
   rw [List.take_of_length_le (by omega), Nat.sub_self] at hh
   refine ah (sr (mI ?_))
   refine dX (aa (cF ?_))
   refine aJ ?_
   refine ax (ax (aZ (ai (sr (mL (aL (aa (aq ?_))))))))
   refine cz ?_
   exact ⟨_, _, rfl, hh.at_ (i := 0) rfl, hh.below⟩
end Go.Proofs.YtioilmppidlbnaaGreatDoor
/- The walk through lift.times. -/
namespace Go.Proofs.YtioilmppidlbnaaGreatDoor
open Go.RowKit
def bH (a b : List Nat) : List Nat := List.zipWith (· + ·) a b
theorem eK {a b : List Nat} (h : a.length = b.length) : (bH a b).length = a.length := by simp [bH, h]
theorem ir {a b : List Nat} {i x y : Nat} (h1 : a[i]? = some x) (h2 : b[i]? = some y) : (bH a b)[i]? = some (x + y) := by
 unfold bH
 rw [List.getElem?_zipWith, h1, h2]
theorem uc : ∀ (a b : List Nat), cv a b = bH a b
 | [], [] => rfl
 | [], _ :: _ => rfl
 | _ :: _, [] => rfl
 | x :: a, y :: b => by rw [cv, uc a b]; rfl
theorem gb {a b : List Nat} (h : a.length = b.length) : cv a.reverse b.reverse = (bH a b).reverse := by
 rw [uc]
 exact (List.reverse_zipWith h).symm
theorem uQ {N : Nat} {L M : List (Nat × Dyadic)} (h : ∀ q ∈ M, q.2 = 0) : fh N (L ++ M) = fh N L := by
 unfold fh
 refine List.map_congr_left fun p _ => ?_
 rw [j8, k8 (l := M) fun q hq => by rw [h q hq]; split <;> rfl]
 grind
theorem vP (N : Nat) : gj N [.bool false, .string (ByteArray.mk #[]), .int .i64 0] = bF NR.cells ((fh N []).map nR) := by
 rw [rB, List.map_replicate]
 induction N with
 | zero => rfl
 | succ n ih => rw [List.replicate_succ, gu, ← ih]; rfl
def md (ds es : List Nat) (xs ys : List Dyadic) (k : Nat) : List (Nat × Dyadic) :=
 (List.range k).flatMap fun k => (List.range (av ds)).map fun i => (cU (cv ds es) (cv (bE ds i) (bE es k)), (xs[i]?).getD 0 * (ys[k]?).getD 0)
theorem nK (ds es : List Nat) (xs ys : List Dyadic) (k : Nat) : md ds es xs ys (k + 1) = md ds es xs ys k ++ (List.range (av ds)).map fun i => (cU (cv ds es) (cv (bE ds i) (bE es k)), (xs[i]?).getD 0 * (ys[k]?).getD 0) := by
 unfold md
 rw [List.range_succ, List.flatMap_append, List.flatMap_singleton]
theorem tu (ds es : List Nat) (xs ys : List Dyadic) (k : Nat) : (md ds es xs ys k).length = k * av ds := by
 unfold md
 rw [ig (m := av ds) _ _ fun a _ => by simp, List.length_range]
theorem sU {ds es : List Nat} {xs ys : List Dyadic} {k1 k2 : Nat} (hx : ∀ x ∈ xs, Sz k1 x) (hy : ∀ y ∈ ys, Sz k2 y) (k : Nat) : ∀ q ∈ md ds es xs ys k, Sz (k1 + k2) q.2 := fun q hq => by
 unfold md at hq
 obtain ⟨j, _, hq⟩ := List.mem_flatMap.1 hq
 obtain ⟨i, _, rfl⟩ := List.mem_map.1 hq
 refine Sz.mul ?_ ?_
 ·cases h : xs[i]? with
  | none => exact Sz.zero _
  | some x => exact hx x (List.mem_of_getElem? h)
 ·cases h : ys[j]? with
  | none => exact Sz.zero _
  | some y => exact hy y (List.mem_of_getElem? h)
theorem mV {ns ms : List Nat} (hl : ns.length = ms.length) (i k : Nat) : iD (bH ns ms).reverse (cv (bE ns.reverse i) (bE ms.reverse k)) := by
 rw [← gb hl]
 exact qj (gx _ _) (gx _ _) (by rw [List.length_reverse, List.length_reverse, hl])
def g9 (ns ms : List Nat) (xs ys : List Dyadic) : List Dyadic := fh (av (bH ns ms)) (md ns.reverse ms.reverse xs ys (av ms))
theorem kQ (F FC G GC : Option Addr) (n c1 c2 c3 c4 : Nat) (ns ms : List Nat) (xs ys : List Dyadic) (k1 k2 : Nat) (w : World) (hT : iu w)
  (hF : Sl w F n 1 (bs (aW ns))) (hFC : Sl w FC (av ns) 3 (bF NR.cells (xs.map nR))) (hG : Sl w G n 1 (bs (aW ms))) (hGC : Sl w GC (av ms) 3 (bF NR.cells (ys.map nR)))
  (hn : n ≤ 12) (hns : ∀ d ∈ ns, d ≤ 127) (hms : ∀ d ∈ ms, d ≤ 127) (hN : av (bH ns ms) ≤ 4096) (hM : av ms * av ns ≤ 1000000) (hx : ∀ x ∈ xs, Sz k1 x) (hy : ∀ y ∈ ys, Sz k2 y) (hk : k1 + k2 ≤ 100000) :
  Calls Tryz.prog 60 #[.agg #[.slice F n c1, .slice FC (av ns) c2], .agg #[.slice G n c3, .slice GC (av ms) c4]] w fun r w' => ∃ A a B b, r = .returned (.agg #[.slice A n a, .slice B (av (bH ns ms)) b]) ∧ Hp w [.row B (av (bH ns ms)) b 39 3 (bF NR.cells ((g9 ns ms xs ys).map nR)), .row A n a 3 1 (bs (aW (bH ns ms)))] w' := by
 have hh := Hp.start w
 have hl1 : ns.length = n := by have := hF.1; simpa [bs, aW] using this
 have hl2 : ms.length = n := by have := hG.1; simpa [bs, aW] using this
 have hlx : xs.length = av ns := by have := hFC.cP NR.len (by decide); simpa using this
 have hly : ys.length = av ms := by have := hGC.cP NR.len (by decide); simpa using this
 have hpn := cX ns
 have hpm := cX ms
 have hMn : 1 * av ns ≤ av ms * av ns := Nat.mul_le_mul_right _ hpm
 have hMm : av ms * 1 ≤ av ms * av ns := Nat.mul_le_mul_left _ hpn
 obtain ⟨a4, rfl, s4⟩ := hGC.at_ hpm
 obtain ⟨a5, rfl, s5⟩ := hFC.at_ hpn
 have hla : (bH ns ms).length = n := by rw [eK (by omega), hl1]
 have hadd : ∀ d ∈ bH ns ms, d ≤ 254 := fun d hd => by
  obtain ⟨i, hi⟩ := List.mem_iff_getElem?.1 hd
  have hi2 := (List.getElem?_eq_some_iff.1 hi).1
  obtain ⟨x, hx1⟩ := ar (l := ns) (k := i) (by omega)
  obtain ⟨y, hy1⟩ := ar (l := ms) (k := i) (by omega)
  rw [ir hx1 hy1] at hi
  have := hns x (List.mem_of_getElem? hx1)
  have := hms y (List.mem_of_getElem? hy1)
  have := Option.some.inj hi
  omega
 have hzr : gj n [Value.int .i64 0] = bs (en n) := by rw [lb]; simp [bs, en]
 refine ao (N := 93) (l := [.agg #[.slice F n c1, .slice (some a5) (av ns) c2], .agg #[.slice G n c3, .slice (some a4) (av ms) c4]]) Tryz.func60 rfl rfl (by simp) ?_
 refine sr ?_
 refine dm hh [_,_] ?_
 intro b2 w2 hh
 refine dm hh [_,_] ?_
 intro b3 w3 hh
 refine cS hh ?_
 intro b4 w4 hh
 refine aa (sr (bI ?_))
 refine bP hh 2 ?_
 refine aQ ?_
 refine fG (n := n) hh rfl rfl (by omega) (by omega) aH.out aE.out rfl (by omega) (by omega) (by decide) ?_
 intro b16 w16 hh
 refine fi [_,_] ?_
 refine cS hh ?_
 intro b5 w5 hh
 refine bY hh 0 [_,_] ?_
 intro ws hh
 replace hh : Hp _ (.blk _ _ [_, _] _ :: _) _ := hh
 refine aa (ah (sr (bI ?_)))
 refine bP hh 0 ?_
 refine aQ (mI (aa (aj ?_)))
 rw [hzr] at hh
 refine bp [6, 21, 22, 23, 24, 25, 26, 27, 28, 29, 30, 31, 32, 33, 34, 35, 36, 37, 38, 39] 21
  (fun v w' => ∃ i : Nat, i ≤ n ∧ v = .int .i64 i ∧ Hp w [.blk b5 28 [.slice (some ⟨b16, 0, none⟩) n n, .slice none 0 0] (0, 0), .row (some ⟨b16, 0, none⟩) n n 3 1 (bs (aW ((bH ns ms).take i) ++ en (n - i))), .blk b4 28 [.slice none 0 0, .slice none 0 0] (0, 0), .blk b3 28 [.slice G n c3, .slice (some a4) (av ms) c4] (0, 0), .blk b2 28 [.slice F n c1, .slice (some a5) (av ns) c2] (0, 0)] w')
  (fun v _ => n - (intOf v).toNat) ?_ ?_
 ·exact ⟨0, Nat.zero_le _, rfl, hh⟩
 ·clear hh
  rintro ρ' v w' ⟨i, hi, rfl, hh⟩
  by_cases hlt : i < n
  ·obtain ⟨x, hx1⟩ := ar (l := ns) (k := i) (by omega)
   obtain ⟨y, hy1⟩ := ar (l := ms) (k := i) (by omega)
   have hgx := bB (cA hx1)
   have hgy := bB (cA hy1)
   have hxy := ir hx1 hy1
   have hx2 := hns x (List.mem_of_getElem? hx1)
   have hy2 := hms y (List.mem_of_getElem? hy1)
   have htl : (aW ((bH ns ms).take i)).length = i := by rw [cj, List.length_take]; omega
   have hil : (bs (aW ((bH ns ms).take i) ++ en (n - i))).length = n := by rw [bV, List.length_append, htl, k7]; omega
   obtain ⟨a1, rfl, s1⟩ := hF.at_ (by omega)
   obtain ⟨a2, rfl, s2⟩ := hG.at_ (by omega)
   refine sr ?_
   refine aG (aa (ah (cT (ak (ai (ah (aj (sr (mI (aI (aa ?_)))))))))))
   refine aK 14 [[(5, none)], [(24, some 0)], [(6, none)], [(2, none)], [(27, some 3)], [(6, none)], [(28, some 4), (29, some 5)], [(30, some 6)], [(3, none)], [(32, some 8)], [(6, none)], [(33, some 9), (34, some 10)], [(35, some 11)], [(31, some 7), (36, some 12)]] [(13, 37), (12, 36), (11, 35), (10, 34), (9, 33), (8, 32), (7, 31), (6, 30), (5, 29), (4, 28), (3, 27), (2, 26), (1, 25), (0, 24)] hh mixed (by kernel_rfl) ?_
   refine dv ?_
   refine dY 0 ?_
   refine dn ?_
   refine dv ?_
   refine dY 4 ?_
   refine dn ?_
   refine hH (i) ?_
   refine aR (i := 7) (fun ρ1 w1 hj hR => cm aE.out (show ρ1 30 = Value.pointer _ from hR.1) ((s1.ext hj.hp.below).dR (by assumption))) ?_
   refine dv ?_
   refine dY 3 ?_
   refine dn ?_
   refine hH (i) ?_
   refine aR (i := 12) (fun ρ1 w1 hj hR => cm aE.out (show ρ1 35 = Value.pointer _ from hR.1) ((s2.ext hj.hp.below).dR (by assumption))) ?_
   refine ow ?_
   refine bm ?_
   intro f W hJ hV
   have hb_5 := hJ.bl
   obtain ⟨v37, v36, v35, v34, v33, v32, v31, v30, v29, v28, v27, v26, v25, v24, _⟩ := hV
   replace hh := hJ.hp
   refine aU (bk (ae v37 (ae v36 (ae v35 (ae v34 (ae v33 (ae v32 (ae v31 (ae v30 (ae v29 (ae v28 (ae v27 (ae v26 (ae v25 (ae v24 aV))))))))))))))) ?_
   dsimp only [cd]
   clear hJ
   refine bj (k := i) aH.out aE.size rfl rfl (by omega) (by omega) (by decide) ?_
   refine bx hh (i := 1) (vs := [_]) rfl rfl (bU rfl) rfl aE.out rfl (by omega) rfl ?_
   intro ws hh
   simp only [List.set_cons_zero, List.set_cons_succ] at hh
   rw [eD _ (by rw [← bV, hil]; exact hlt)] at hh
   have e5 : (aW ((bH ns ms).take i) ++ en (n - i)).set i ((x : Int) + (y : Int)) = aW ((bH ns ms).take (i + 1)) ++ en (n - (i + 1)) := by
    have hz : en (n - i) = 0 :: en (n - (i + 1)) := by
     unfold en
     rw [show n - i = n - (i + 1) + 1 by omega, List.replicate_succ]
    rw [hz, ld _ _ _ _ _ htl, aO hxy]
    simp [aW]
   rw [e5] at hh
   refine aC (aT (ai (al ?_)))
   refine bz (mI (aC (ai ?_)))
   refine ⟨⟨i + 1, by omega, rfl, hh⟩, by show n - (i + 1) < n - i; omega, ?_⟩
   (repeat (first | exact aw _ _ _ | refine ay rfl ?_ | refine au rfl ?_))
  ·obtain rfl : i = n := by omega
   rw [List.take_of_length_le (by omega), Nat.sub_self] at hh
   replace hh : Hp w [.blk b5 28 [.slice (some ⟨b16, 0, none⟩) i i, .slice none 0 0] (0, 0), .row (some ⟨b16, 0, none⟩) i i 3 1 (bs (aW (bH ns ms))), .blk b4 28 [.slice none 0 0, .slice none 0 0] (0, 0), .blk b3 28 [.slice G i c3, .slice (some a4) (av ms) c4] (0, 0), .blk b2 28 [.slice F i c1, .slice (some a5) (av ns) c2] (0, 0)] w' := by
    have : aW (bH ns ms) ++ en 0 = aW (bH ns ms) := List.append_nil _
    rw [this] at hh
    exact hh
   have hsz := fun w1 hS1 => qG (some ⟨b16, 0, none⟩) i i (bH ns ms) w1 hS1 (by omega) (fun d hd => by have := hadd d hd; omega) (by omega)
   have hzr2 := vP (av (bH ns ms))
   refine sr ?_
   refine aG (aa (ah (cF ?_)))
   refine aJ ?_
   refine ax (ax (aZ (ai (sr (bI ?_)))))
   refine bP hh 0 ?_
   refine bJ hh (hsz _ (hh.aX (i := 1) rfl)) rfl ?_
   intro w42 hh
   refine fG (n := (av (bH ns ms))) hh rfl rfl (by omega) (by omega) aH.out aE.out rfl (by omega) (by omega) (by decide) ?_
   intro b43 w43 hh
   refine bI ?_
   refine bY hh 1 [_] ?_
   intro ws hh
   replace hh : Hp _ (_ :: .blk _ _ [_, _] _ :: _) _ := hh
   refine aa (ah (sr (bI ?_)))
   refine bP hh 4 ?_
   refine aQ (mI (aa (aj ?_)))
   rw [hzr2] at hh
   clear hsz hzr2 hzr
   have hpr0 : fh (av (bH ns ms)) [] = fh (av (bH ns ms)) (md ns.reverse ms.reverse xs ys 0) := rfl
   rw [hpr0] at hh
   unfold g9
   have hk12 := hk
   clear hk
   refine bp [7, 8, 9, 10, 11, 12, 48, 49, 50, 51, 52, 53, 54, 55, 56, 57, 58, 59, 60, 61, 62, 63, 64, 65, 66, 67, 68, 69, 70, 71, 72, 73, 74, 75, 76, 77, 78, 79, 80, 81, 82, 83, 84, 85, 86, 87, 88, 89, 90, 91] 48
    (fun v w' => ∃ k : Nat, k ≤ av ms ∧ v = .int .i64 k ∧ Hp w [.row (some ⟨b43, 0, none⟩) (av (bH ns ms)) (av (bH ns ms)) 39 3 (bF NR.cells ((fh (av (bH ns ms)) (md ns.reverse ms.reverse xs ys k)).map nR)), .blk b5 28 [.slice (some ⟨b16, 0, none⟩) i i, .slice (some ⟨b43, 0, none⟩) (av (bH ns ms)) (av (bH ns ms))] (0, 0), .row (some ⟨b16, 0, none⟩) i i 3 1 (bs (aW (bH ns ms))), .blk b4 28 [.slice none 0 0, .slice none 0 0] (0, 0), .blk b3 28 [.slice G i c3, .slice (some a4) (av ms) c4] (0, 0), .blk b2 28 [.slice F i c1, .slice (some a5) (av ns) c2] (0, 0)] w')
    (fun v _ => av ms - (intOf v).toNat) ?_ ?_
   ·exact ⟨0, Nat.zero_le _, rfl, hh⟩
   ·clear hh hpr0
    rintro ρ2 v w2 ⟨k, hk, rfl, hh⟩
    by_cases hkm : k < av ms
    ·obtain ⟨yk, hyk⟩ := ar (l := ys) (k := k) (by omega)
     have hyn : (ys.map nR)[k]? = some (nR yk) := by rw [List.getElem?_map, hyk]; rfl
     have zy := hy yk (List.mem_of_getElem? hyk)
     have hsg := fun w1 => qq (nR yk) w1
     rw [NR.sign, fH] at hsg
     by_cases hy0 : yk = 0
     ·subst hy0
      rw [uu] at hsg
      refine sr ?_
      refine aG (aa (ah (cT (ak (ai (ah (aj (sr (mI ?_)))))))))
      refine aF (k := k) aH.out aE.size rfl rfl (by omega) (by omega) (by decide) ?_
      refine cW (vs := [_, _, _]) aE.out rfl ((s4.ext hh.below).recAt NR.len hyn) rfl (by decide) ?_
      refine cS hh ?_
      intro b8 w8 hh
      refine aI ?_
      refine bY hh 0 [_,_,_] ?_
      intro ws hh
      replace hh : Hp _ (.blk _ _ [_, _, _] _ :: _) _ := hh
      refine aa (ah (sr ?_))
      refine dk hh 0 [_,_,_] ?_
      refine bJ hh (hsg _) rfl ?_
      intro w54 hh
      refine dP (aa (cT ?_))
      refine aJ ?_
      refine ax (aZ (ai (al ?_)))
      refine bz (mI (aC (ai ?_)))
      replace hh := hh.sub (List.Sublist.cons _ (List.Sublist.cons_cons _ (List.Sublist.cons_cons _ (List.Sublist.cons_cons _ (List.Sublist.cons_cons _ (List.Sublist.cons_cons _ (List.Sublist.cons_cons _ List.Sublist.slnil)))))))
      refine ⟨⟨k + 1, by omega, rfl, ?_⟩, by show av ms - (k + 1) < av ms - k; omega, ?_⟩
      ·rw [nK, uQ fun q hq => ?_]
       ·exact hh
       ·obtain ⟨i, _, rfl⟩ := List.mem_map.1 hq
        show (xs[i]?).getD 0 * (ys[k]?).getD 0 = 0
        rw [hyk]
        show (xs[i]?).getD 0 * 0 = 0
        grind
      ·(repeat (first | exact aw _ _ _ | refine ay rfl ?_ | refine au rfl ?_))
     ·have hne : me yk 0 ≠ 0 := by
       rcases zT yk 0 with h | h | h
       ·rw [sP h]; decide
       ·exact absurd h hy0
       ·rw [sC h]; decide
      generalize me yk 0 = sg at *
      refine sr ?_
      refine aG (aa (ah (cT (ak (ai (ah (aj (sr (mI ?_)))))))))
      refine aF (k := k) aH.out aE.size rfl rfl (by omega) (by omega) (by decide) ?_
      refine cW (vs := [_, _, _]) aE.out rfl ((s4.ext hh.below).recAt NR.len hyn) rfl (by decide) ?_
      refine cS hh ?_
      intro b8 w8 hh
      refine aI ?_
      refine bY hh 0 [_,_,_] ?_
      intro ws hh
      replace hh : Hp _ (.blk _ _ [_, _, _] _ :: _) _ := hh
      refine aa (ah (sr ?_))
      refine dk hh 0 [_,_,_] ?_
      refine bJ hh (hsg _) rfl ?_
      intro w54 hh
      refine dP (aa (cF (ak (ai (sr (bI ?_))))))
      refine bP hh 5 ?_
      refine mI ?_
      refine a6 (mO G i c3 ms k _ (hG.ext hh.below) (by omega) (fun d hd => by have := hms d hd; omega) (by omega)) az.out rfl (by decide) ?_
      rintro e_ w59 ⟨A59, c59, rfl, hown_, hb_⟩
      refine ⟨_, rfl, ?_⟩
      replace hh := hh.bu (x := .row _ _ _ _ _ _) hb_ hown_
      refine aL (aa (sr (bI ?_)))
      refine bP hh 7 ?_
      refine aQ (mI (aa (aj ?_)))
      refine bp [10, 11, 12, 63, 64, 65, 66, 67, 68, 69, 70, 71, 72, 73, 74, 75, 76, 77, 78, 79, 80, 81, 82, 83, 84, 85, 86, 87, 88, 89, 90] 63
       (fun v w' => ∃ j : Nat, j ≤ av ns ∧ v = .int .i64 j ∧ Hp w [.row A59 i c59 3 1 (bs (aW (bE ms.reverse k).reverse)), .blk b8 39 [.bool (nR yk).neg, .string (nR yk).cB, .int .i64 (nR yk).e] (0, 0), .row (some ⟨b43, 0, none⟩) (av (bH ns ms)) (av (bH ns ms)) 39 3 (bF NR.cells ((fh (av (bH ns ms)) (md ns.reverse ms.reverse xs ys k ++ (List.range j).map (fun i => (cU (cv ns.reverse ms.reverse) (cv (bE ns.reverse i) (bE ms.reverse k)), (xs[i]?).getD 0 * (ys[k]?).getD 0)))).map nR)), .blk b5 28 [.slice (some ⟨b16, 0, none⟩) i i, .slice (some ⟨b43, 0, none⟩) (av (bH ns ms)) (av (bH ns ms))] (0, 0), .row (some ⟨b16, 0, none⟩) i i 3 1 (bs (aW (bH ns ms))), .blk b4 28 [.slice none 0 0, .slice none 0 0] (0, 0), .blk b3 28 [.slice G i c3, .slice (some a4) (av ms) c4] (0, 0), .blk b2 28 [.slice F i c1, .slice (some a5) (av ns) c2] (0, 0)] w')
       (fun v _ => av ns - (intOf v).toNat) ?_ ?_
      ·refine ⟨0, Nat.zero_le _, rfl, ?_⟩
       rw [List.range_zero, List.map_nil, List.append_nil]
       exact hh
      ·clear hh
       rintro ρ3 v w3 ⟨j, hj, rfl, hh⟩
       by_cases hjn : j < av ns
       ·obtain ⟨xj, hxj⟩ := ar (l := xs) (k := j) (by omega)
        have hxn : (xs.map nR)[j]? = some (nR xj) := by rw [List.getElem?_map, hxj]; rfl
        have zx := hx xj (List.mem_of_getElem? hxj)
        have hpl := fun w1 h1 h2 h3 => pk F (some ⟨b16, 0, none⟩) A59 i c1 i c59 ns (bH ns ms) (bE ms.reverse k).reverse j w1 h1 h2 h3 (by omega) (by rw [List.reverse_reverse]; exact mV (by omega) _ _) (by omega) (fun d hd => by have := hns d hd; omega) (fun d hd => by have := hadd d hd; omega) (by omega)
        simp only [List.reverse_reverse, ← gb (show ns.length = ms.length by omega)] at hpl
        have hplt : cU (cv ns.reverse ms.reverse) (cv (bE ns.reverse j) (bE ms.reverse k)) < av (bH ns ms) := by
         have := iq (mV (show ns.length = ms.length by omega) j k)
         rwa [cG, ← gb (show ns.length = ms.length by omega)] at this
        obtain ⟨km, hold⟩ := ar (l := fh (av (bH ns ms)) (md ns.reverse ms.reverse xs ys k ++ (List.range j).map (fun i => (cU (cv ns.reverse ms.reverse) (cv (bE ns.reverse i) (bE ms.reverse k)), (xs[i]?).getD 0 * (ys[k]?).getD 0)))) (by rw [fy]; exact hplt)
        have hlen : (md ns.reverse ms.reverse xs ys k ++ (List.range j).map (fun i => (cU (cv ns.reverse ms.reverse) (cv (bE ns.reverse i) (bE ms.reverse k)), (xs[i]?).getD 0 * (ys[k]?).getD 0))).length ≤ 1000000 := by
         rw [List.length_append, tu, List.length_map, List.length_range, cG]
         have : k * av ns + av ns ≤ av ms * av ns := by rw [← Nat.succ_mul]; exact Nat.mul_le_mul_right _ hkm
         omega
        have zold : Sz 1200000 km := by
         refine (qe (k := k1 + k2) (fun q hq => ?_) km (List.mem_of_getElem? hold)).mono (by omega)
         rcases List.mem_append.1 hq with hq | hq
         ·exact sU hx hy k q hq
         ·refine sU (ds := ns.reverse) (es := ms.reverse) hx hy (k + 1) q ?_
          rw [nK]
          obtain ⟨u, hu, rfl⟩ := List.mem_map.1 hq
          exact List.mem_append_right _ (List.mem_map.2 ⟨u, List.mem_range.2 (by have := List.mem_range.1 hu; rw [cG]; omega), rfl⟩)
        have hon : ((fh (av (bH ns ms)) (md ns.reverse ms.reverse xs ys k ++ (List.range j).map (fun i => (cU (cv ns.reverse ms.reverse) (cv (bE ns.reverse i) (bE ms.reverse k)), (xs[i]?).getD 0 * (ys[k]?).getD 0)))).map nR)[cU (cv ns.reverse ms.reverse) (cv (bE ns.reverse j) (bE ms.reverse k))]? = some (nR km) := by rw [List.getElem?_map, hold]; rfl
        have zxy : Sz 100000 (xj * yk) := (zx.mul zy).mono hk12
        have hmul := fun A cc w1 hT1 hS1 => ng A 2 cc [nR xj, nR yk] w1 hT1 hS1 (by simpa using ⟨zx.ok (by omega), zy.ok (by omega)⟩) 100000 (by simpa [fH] using ⟨zx.mono (by omega), zy.mono (by omega)⟩) (by omega) (by omega)
        rw [show ju ([nR xj, nR yk].map NR.d) = xj * yk by show 1 * (nR xj).d * (nR yk).d = _; rw [fH, fH, Dyadic.one_mul]] at hmul
        have hsum := fun A cc w1 hT1 hS1 => kz A 2 cc [nR km, nR (xj * yk)] w1 hT1 hS1 (by simpa using ⟨zold.ok (by omega), zxy.ok (by omega)⟩) 1200000 (by simpa [fH] using ⟨zold, zxy.mono (by omega)⟩) (by omega)
        rw [show la ([nR km, nR (xj * yk)].map NR.d) = km + xj * yk by simp only [List.map_cons, List.map_nil, fH, mD]] at hsum
        have hset := oD (v := xj * yk) hold
        have hstep : md ns.reverse ms.reverse xs ys k ++ (List.range (j + 1)).map (fun i => (cU (cv ns.reverse ms.reverse) (cv (bE ns.reverse i) (bE ms.reverse k)), (xs[i]?).getD 0 * (ys[k]?).getD 0)) = md ns.reverse ms.reverse xs ys k ++ (List.range j).map (fun i => (cU (cv ns.reverse ms.reverse) (cv (bE ns.reverse i) (bE ms.reverse k)), (xs[i]?).getD 0 * (ys[k]?).getD 0)) ++ [(cU (cv ns.reverse ms.reverse) (cv (bE ns.reverse j) (bE ms.reverse k)), xj * yk)] := by
         rw [List.range_succ, List.map_append, ← List.append_assoc]
         simp only [List.map_cons, List.map_nil, hxj, hyk, Option.getD_some]
        have hfin : fh (av (bH ns ms)) (md ns.reverse ms.reverse xs ys k ++ (List.range (j + 1)).map (fun i => (cU (cv ns.reverse ms.reverse) (cv (bE ns.reverse i) (bE ms.reverse k)), (xs[i]?).getD 0 * (ys[k]?).getD 0))) = _ := (congrArg _ hstep).trans hset.symm
        clear hset hstep zold
        have hll : ((fh (av (bH ns ms)) (md ns.reverse ms.reverse xs ys k ++ (List.range j).map (fun i => (cU (cv ns.reverse ms.reverse) (cv (bE ns.reverse i) (bE ms.reverse k)), (xs[i]?).getD 0 * (ys[k]?).getD 0)))).map nR).length = av (bH ns ms) := by rw [List.length_map, fy]
        generalize cU (cv ns.reverse ms.reverse) (cv (bE ns.reverse j) (bE ms.reverse k)) = pl at *
        generalize fh (av (bH ns ms)) (md ns.reverse ms.reverse xs ys k ++ (List.range j).map (fun i => (cU (cv ns.reverse ms.reverse) (cv (bE ns.reverse i) (bE ms.reverse k)), (xs[i]?).getD 0 * (ys[k]?).getD 0))) = X at *
        have hrl := gi NR.len (X.map nR)
        refine sr ?_
        refine aG (aa (ah (cT (ak (ai (ah (aj (sr (mI ?_)))))))))
        refine aF (k := j) aH.out aE.size rfl rfl (by omega) (by omega) (by decide) ?_
        refine cW (vs := [_, _, _]) aE.out rfl ((s5.ext hh.below).recAt NR.len hxn) rfl (by decide) ?_
        refine cS hh ?_
        intro b11 w11 hh
        refine aI ?_
        refine bY hh 0 [_,_,_] ?_
        intro ws hh
        replace hh : Hp _ (.blk _ _ [_, _, _] _ :: _) _ := hh
        refine aa (sr (bI ?_))
        refine bP hh 8 ?_
        refine bI ?_
        refine bP hh 4 ?_
        refine mL (mI ?_)
        refine bJ hh (hpl _ (hF.ext hh.below) (hh.aX (i := 5) rfl) (hh.aX (i := 1) rfl)) rfl ?_
        intro w74 hh
        refine aI (aa ?_)
        refine aK 14 [[(5, none)], [(75, some 0)], [(12, none)], [(5, none)], [(78, some 3)], [(12, none)], [(79, some 4), (80, some 5)], [(81, some 6)], [(11, none)], [(8, none)], [(83, some 8), (84, some 9)], [(85, some 10)], [(82, some 7), (86, some 11)], [(87, some 12)]] [(13, 88), (12, 87), (11, 86), (10, 85), (9, 84), (8, 83), (7, 82), (6, 81), (5, 80), (4, 79), (3, 78), (2, 77), (1, 76), (0, 75)] hh mixed (by kernel_rfl) ?_
        refine dv ?_
        refine dY 4 ?_
        refine dn ?_
        refine dv ?_
        refine dY 4 ?_
        refine dn ?_
        refine mu (pl) ?_
        refine mh [_,_,_] (fun _ hj => hj.hp.fK (f := NR.cells) (x := nR km) (l := X.map nR) (i := 3) rfl NR.len (by decide) hon) ?_
        refine gU 0 [_,_,_] ?_
        refine gU 2 [_,_,_] ?_
        refine rK [_,_,_,_,_,_] ?_
        refine cJ (i := 11) (Is (.agg #[.bool (nR (xj * yk)).neg, .string (nR (xj * yk)).cB, .int .i64 (nR (xj * yk)).e])) Is.ext ?_ ?_
        ·intro ρ1 w1 hj hR
         obtain ⟨A85, c85, h85, s85⟩ := hR.1
         exact ew rfl (dI az.out (bD h85 db)) (hmul A85 c85 _ (hT.hp hj.hp) s85) (fun _ _ hq => ⟨_, hq.1, hq.2, rfl⟩)
        refine rK [_,_,_,_,_,_] ?_
        refine cJ (i := 13) (Is (.agg #[.bool (nR (km + xj * yk)).neg, .string (nR (km + xj * yk)).cB, .int .i64 (nR (km + xj * yk)).e])) Is.ext ?_ ?_
        ·intro ρ1 w1 hj hR
         obtain ⟨A87, c87, h87, s87⟩ := hR.1
         exact ew rfl (dI az.out (bD h87 db)) (hsum A87 c87 _ (hT.hp hj.hp) s87) (fun _ _ hq => ⟨_, hq.1, hq.2, rfl⟩)
        refine bm ?_
        intro f W hJ hV
        have hb_17 := hJ.bl
        obtain ⟨v88, v87, v86, v85, v84, v83, v82, v81, v80, v79, v78, v77, v76, v75, _⟩ := hV
        obtain ⟨A85, c85, e85, f85⟩ : Rows _ _ _ (f 10) W := v85
        obtain ⟨A87, c87, e87, f87⟩ : Rows _ _ _ (f 12) W := v87
        replace hh := hJ.hp
        refine aU (bk (ae v88 (ae e87 (ae v86 (ae e85 (ae v84 (ae v83 (ae v82 (ae v81 (ae v80 (ae v79 (ae v78 (ae v77 (ae v76 (ae v75 aV))))))))))))))) ?_
        dsimp only [cd]
        clear e85 e87 hJ
        refine bj (k := pl) aH.out aE.size rfl rfl (by omega) (by omega) (by decide) ?_
        refine bx hh (i := 3) (vs := [_, _, _]) rfl rfl (de rfl) rfl aE.out rfl (by omega) rfl ?_
        intro ws hh
        simp only [List.set_cons_zero, List.set_cons_succ] at hh
        rw [show cL (bF NR.cells (X.map nR)) (pl * 3) [.bool (nR (km + xj * yk)).neg, .string (nR (km + xj * yk)).cB, .int .i64 (nR (km + xj * yk)).e] = bF NR.cells ((X.map nR).set pl (nR (km + xj * yk))) from im NR.len (by omega), ← List.map_set] at hh
        refine aC (aT (ai (al ?_)))
        refine bz (mI (aC (ai ?_)))
        replace hh := hh.sub (List.Sublist.cons _ (List.Sublist.cons_cons _ (List.Sublist.cons_cons _ (List.Sublist.cons_cons _ (List.Sublist.cons_cons _ (List.Sublist.cons_cons _ (List.Sublist.cons_cons _ (List.Sublist.cons_cons _ (List.Sublist.cons_cons _ List.Sublist.slnil)))))))))
        refine ⟨⟨j + 1, by omega, rfl, by rw [hfin]; exact hh⟩, by show av ns - (j + 1) < av ns - j; omega, ?_⟩
        (repeat (first | exact aw _ _ _ | refine ay rfl ?_ | refine au rfl ?_))
       ·obtain rfl : j = av ns := by omega
        rw [show md ns.reverse ms.reverse xs ys k ++ (List.range (av ns)).map (fun i => (cU (cv ns.reverse ms.reverse) (cv (bE ns.reverse i) (bE ms.reverse k)), (xs[i]?).getD 0 * (ys[k]?).getD 0)) = md ns.reverse ms.reverse xs ys (k + 1) by rw [nK, cG]] at hh
        refine sr ?_
        refine aG (aa (ah (cF ?_)))
        refine aJ ?_
        refine ax (ax (aZ (aT (ai (al ?_)))))
        refine bz (mI (aC (ai ?_)))
        replace hh := hh.sub (List.Sublist.cons _ (List.Sublist.cons _ (List.Sublist.cons_cons _ (List.Sublist.cons_cons _ (List.Sublist.cons_cons _ (List.Sublist.cons_cons _ (List.Sublist.cons_cons _ (List.Sublist.cons_cons _ List.Sublist.slnil))))))))
        refine ⟨⟨k + 1, by omega, rfl, hh⟩, by show av ms - (k + 1) < av ms - k; omega, ?_⟩
        (repeat (first | exact aw _ _ _ | refine ay rfl ?_ | refine au rfl ?_))
    ·obtain rfl : k = av ms := by omega
     refine sr ?_
     refine aG (aa (ah (cF ?_)))
     refine aJ ?_
     refine ax (ax (aZ (ai (sr ?_))))
     refine dk hh 1 [_,_] ?_
     refine bY hh 3 [_,_] ?_
     intro ws hh
     replace hh : Hp _ (_ :: _ :: _ :: .blk _ _ [_, _] _ :: _) _ := hh
     refine aa (aq ?_)
     replace hh := hh.sub (List.Sublist.cons_cons _ (List.Sublist.cons _ (List.Sublist.cons_cons _ (List.Sublist.cons_cons _ (List.Sublist.cons _ (List.Sublist.cons _ List.Sublist.slnil))))))
     refine gp (bf rfl (bg (vs := [_, _]) aE.out (hh.aD (i := 2) (n := 2) rfl rfl) rfl) bA) ?_
     exact ⟨_, _, _, _, rfl, hh.sub (List.Sublist.cons_cons _ (List.Sublist.cons_cons _ (List.nil_sublist _)))⟩
end Go.Proofs.YtioilmppidlbnaaGreatDoor
/- The walks through package lift: forms that are alike, degrees raised. -/
namespace Go.Proofs.YtioilmppidlbnaaGreatDoor
open Go.RowKit
structure FX where
 A : Option Addr
 n : Nat
 a : Nat
 B : Option Addr
 m : Nat
 b : Nat
 ds : List Int
 cs : List NR
def FX.cells (f : FX) : List Value := [.slice f.A f.n f.a, .slice f.B f.m f.b]
theorem FX.len (f : FX) : (FX.cells f).length = 2 := rfl
def FX.v (f : FX) : Value := .agg #[.slice f.A f.n f.a, .slice f.B f.m f.b]
structure FX.at_ (f : FX) (w : World) : Prop where
 dg : Sl w f.A f.n 1 (bs f.ds)
 nm : Sl w f.B f.m 3 (bF NR.cells f.cs)
theorem FX.at_.ext {f : FX} {w w' : World} (h : f.at_ w) (hb : Below w.heap.size w w') : f.at_ w' := ⟨h.dg.ext hb, h.nm.ext hb⟩
structure FX.iC (f : FX) (k : Nat) : Prop where
 Aa : f.n ≤ 1000
 Be : f.m ≤ 100000
 num : ∀ c ∈ f.cs, c.ok ∧ Sz k c.d
def FX.e (f : FX) : Int := fE f.ds f.cs
theorem tG (f : FX) (k : Nat) (w : World) (hT : iu w) (h : f.at_ w) (hl : f.iC k) :
  Calls Tryz.prog 64 #[.agg #[.slice f.A f.n f.a, .slice f.B f.m f.b]] w fun r w' => r = .returned (.int .i64 f.e) ∧ Below w.heap.size w w' :=
 ou f.A f.B f.n f.a f.m f.b f.ds f.cs w hT h.dg h.nm (by have := hl.Aa; omega) (by have := hl.Be; omega) fun a ha => (hl.num a ha).1
def rj (fs : List FX) : Bool := fs.any fun f => decide (f.n ≠ (fs.map FX.n).headD 0)
def eb (fs : List FX) : Int := match fs.find? (fun f => decide (f.e ≠ 0)) with | some f => f.e | none => if fs.length = 0 ∨ rj fs = true then 1 else 0
theorem lW {α : Type} {p : α → Bool} {l : List α} (h : l.any p = false) : l.find? p = none := by
 rw [List.find?_eq_none]
 intro x hx
 have := List.any_eq_false.1 h x hx
 simpa using this
theorem oO {α : Type} {p : α → Bool} {l : List α} {i : Nat} {x : α} (h : (l.take i).any p = false) (hx : l[i]? = some x) (hp : p x = true) : l.find? p = some x := by
 have : l = l.take i ++ x :: l.drop (i + 1) := by rw [← j0 hx, List.take_append_drop]
 rw [this, List.find?_append, lW h, List.find?_cons_of_pos hp]
 rfl
theorem sZ (L : Option Addr) (n c : Nat) (fs : List FX) (f : FX) (p : Addr) (w : World) (hL : Sl w L n 2 (bF FX.cells fs)) (hp : w.cell? p = some (.slice L n c)) (hn : 0 < n) :
  Calls Tryz.prog 107 #[.agg #[.slice f.A f.n f.a, .slice f.B f.m f.b], .pointer (some p)] w fun r w' => r = .returned (.bool (decide (f.n ≠ (fs.map FX.n).headD 0))) ∧ Below w.heap.size w w' := by
 have hh := Hp.start w
 have hln := hL.cP FX.len (by decide)
 obtain ⟨g, fs, rfl⟩ : ∃ g l, fs = g :: l := by
  cases fs with
  | nil => exact absurd hln (by show ¬ 0 = n; omega)
  | cons g l => exact ⟨g, l, rfl⟩
 obtain ⟨ad, rfl, hr⟩ := hL.at_ hn
 have hd : (((g :: fs).map FX.n).headD 0) = g.n := rfl
 rw [hd]
 have h0 : (g :: fs)[0]? = some g := rfl
 by_cases hg : f.n = g.n
 ·refine ao (N := 13) (l := [.agg #[.slice f.A f.n f.a, .slice f.B f.m f.b], .pointer (some p)]) Tryz.func107 rfl rfl (by simp) ?_
  refine sr ?_
  refine dm hh [_,_] ?_
  intro b2 w2 hh
  refine aB (aa (ah ?_))
  refine aK 8 [[(2, none)], [(4, some 0)], [(5, some 1)], [(1, none)], [(7, some 3)], [(8, some 4)], [(9, some 5)], [(10, some 6)]] [(7, 11), (6, 10), (5, 9), (4, 8), (3, 7), (2, 6), (1, 5), (0, 4)] hh mixed (by kernel_rfl) ?_
  refine dv ?_
  refine dY 0 ?_
  refine mi ?_
  refine jy (fun _ hj => (hj.hp.below.cell (qf hp)).trans hp) ?_
  refine aR (i := 4) (fun ρ1 w1 hj hR => bQ aH.out aE.size (show ρ1 7 = Value.slice _ _ _ from hR.1) rfl (by omega) (by omega)) ?_
  refine wS ?_
  refine jy (fun _ hj => cM hj.hp.below (((hr.recAt FX.len h0)) 0 _ rfl)) ?_
  refine mi ?_
  refine bm ?_
  intro f W hJ hV
  have hb_1 := hJ.bl
  obtain ⟨v11, v10, v9, v8, v7, v6, v5, v4, _⟩ := hV
  replace hh := hJ.hp
  refine aU (bk (ae v11 (ae v10 (ae v9 (ae v8 (ae v7 (ae v6 (ae v5 (ae v4 aV))))))))) ?_
  dsimp only [cd]
  clear hJ
  refine dK (aB (aa (aq ?_)))
  refine cz ?_
  exact ⟨by rw [decide_eq_false (by omega)], hh.below⟩
 ·refine ao (N := 13) (l := [.agg #[.slice f.A f.n f.a, .slice f.B f.m f.b], .pointer (some p)]) Tryz.func107 rfl rfl (by simp) ?_
  refine sr ?_
  refine dm hh [_,_] ?_
  intro b2 w2 hh
  refine aB (aa (ah ?_))
  refine aK 8 [[(2, none)], [(4, some 0)], [(5, some 1)], [(1, none)], [(7, some 3)], [(8, some 4)], [(9, some 5)], [(10, some 6)]] [(7, 11), (6, 10), (5, 9), (4, 8), (3, 7), (2, 6), (1, 5), (0, 4)] hh mixed (by kernel_rfl) ?_
  refine dv ?_
  refine dY 0 ?_
  refine mi ?_
  refine jy (fun _ hj => (hj.hp.below.cell (qf hp)).trans hp) ?_
  refine aR (i := 4) (fun ρ1 w1 hj hR => bQ aH.out aE.size (show ρ1 7 = Value.slice _ _ _ from hR.1) rfl (by omega) (by omega)) ?_
  refine wS ?_
  refine jy (fun _ hj => cM hj.hp.below (((hr.recAt FX.len h0)) 0 _ rfl)) ?_
  refine mi ?_
  refine bm ?_
  intro f W hJ hV
  have hb_1 := hJ.bl
  obtain ⟨v11, v10, v9, v8, v7, v6, v5, v4, _⟩ := hV
  replace hh := hJ.hp
  refine aU (bk (ae v11 (ae v10 (ae v9 (ae v8 (ae v7 (ae v6 (ae v5 (ae v4 aV))))))))) ?_
  dsimp only [cd]
  clear hJ
  refine dK (aB (aa (aq ?_)))
  refine cz ?_
  exact ⟨by rw [decide_eq_true hg], hh.below⟩
theorem se (A : Option Addr) (n c : Nat) (l : List FX) (g : FuncId) (cap : List Value) (p : FX → Bool) (w : World) (hS : Sl w A n 2 (bF FX.cells l)) (hn : n ≤ 1000000) [az Tryz.prog g]
  (hg : ∀ (z : FX) (w1 : World), z ∈ l → Below w.heap.size w w1 → Calls Tryz.prog g (.agg #[.slice z.A z.n z.a, .slice z.B z.m z.b] :: cap).toArray w1 fun r w' => r = .returned (.bool (p z)) ∧ Below w1.heap.size w1 w') :
  Calls Tryz.prog 153 #[.slice A n c, .func (.func g) #[] cap.toArray] w fun r w' => ∃ v, r = .returned (.int .i64 v) ∧ (0 ≤ v ↔ l.any p = true) ∧ Below w.heap.size w w' := by
 have hh := Hp.start w
 have hln := hS.cP FX.len (by decide)
 refine ao (N := 19) (l := [.slice A n c, .func (.func g) #[] cap.toArray]) Tryz.func153 rfl rfl (by simp) ?_
 refine sr (aI (aa (ah (sr (mL (aQ (mI (aa (aj ?_)))))))))
 refine bp [4, 5, 8, 9, 10, 11, 12, 13, 14, 15, 16, 17, 18] 8
  (fun v w' => ∃ i : Nat, i ≤ n ∧ v = .int .i64 i ∧ (l.take i).any p = false ∧ Hp w [] w')
  (fun v _ => n - (intOf v).toNat) ?_ ?_
 ·exact ⟨0, Nat.zero_le _, rfl, rfl, hh⟩
 ·clear hh
  rintro ρ' v w' ⟨i, hi, rfl, hall, hh⟩
  by_cases hlt : i < n
  ·obtain ⟨z, hz⟩ := ar (l := l) (k := i) (by omega)
   obtain ⟨ad, rfl, hr⟩ := hS.at_ (by omega)
   have hc := fun w1 => hg z w1 (List.mem_of_getElem? hz)
   cases gz : p z with
   | true =>
    rw [gz] at hc
    refine sr ?_
    refine aG (aa (ah (cT (ak (ai (ah (aj (sr (mI (aI (aa ?_)))))))))))
    refine sr ?_
    refine gg (by first | exact gN rfl | exact ev_nilf rfl) (by decide) ?_
    refine mL (mI ?_)
    refine aF (k := i) aH.out aE.size rfl rfl (by omega) (by omega) (by decide) ?_
    refine cW (vs := [_, _]) aE.out rfl ((hr.ext hh.below).recAt FX.len hz) rfl (by decide) ?_
    refine j4 (hc _ hh.below) az.out rfl rfl (by decide) ?_
    rintro e_ w16 ⟨rfl, hb_⟩
    refine ⟨_, rfl, ?_⟩
    replace hh := hh.ext hb_
    refine aa (cT (sr (mI (aI (aa (aq (bR (aM (aM (bR (aM ?_)))))))))))
    refine cz ?_
    exact ⟨_, rfl, ⟨fun _ => List.any_eq_true.2 ⟨z, List.mem_of_getElem? hz, gz⟩, fun _ => by omega⟩, hh.below⟩
   | false =>
    rw [gz] at hc
    refine sr ?_
    refine aG (aa (ah (cT (ak (ai (ah (aj (sr (mI (aI (aa ?_)))))))))))
    refine sr ?_
    refine gg (by first | exact gN rfl | exact ev_nilf rfl) (by decide) ?_
    refine mL (mI ?_)
    refine aF (k := i) aH.out aE.size rfl rfl (by omega) (by omega) (by decide) ?_
    refine cW (vs := [_, _]) aE.out rfl ((hr.ext hh.below).recAt FX.len hz) rfl (by decide) ?_
    refine j4 (hc _ hh.below) az.out rfl rfl (by decide) ?_
    rintro e_ w16 ⟨rfl, hb_⟩
    refine ⟨_, rfl, ?_⟩
    replace hh := hh.ext hb_
    refine aa (cF (ak (aT (ai (al ?_)))))
    refine bz (mI (aC (ai ?_)))
    refine ⟨⟨i + 1, by omega, rfl, by rw [aO hz, List.any_append, hall, List.any_cons, List.any_nil, gz]; rfl, hh⟩, by show n - (i + 1) < n - i; omega, ?_⟩
    (repeat (first | exact aw _ _ _ | refine ay rfl ?_ | refine au rfl ?_))
  ·rw [List.take_of_length_le (by omega)] at hall
   refine sr ?_
   refine aG (aa (ah (cF ?_)))
   refine aJ ?_
   refine ax (ax (aZ (ai (sr (aI (aa (aq ?_)))))))
   refine cz ?_
   exact ⟨_, rfl, ⟨fun h => absurd h (by decide), fun h => by rw [hall] at h; cases h⟩, hh.below⟩
theorem rT (A : Option Addr) (n c : Nat) (l : List FX) (g : FuncId) (cap : List Value) (p : FX → Bool) (w : World) (hS : Sl w A n 2 (bF FX.cells l)) (hn : n ≤ 1000000) [az Tryz.prog g]
  (hg : ∀ (z : FX) (w1 : World), z ∈ l → Below w.heap.size w w1 → Calls Tryz.prog g (.agg #[.slice z.A z.n z.a, .slice z.B z.m z.b] :: cap).toArray w1 fun r w' => r = .returned (.bool (p z)) ∧ Below w1.heap.size w1 w') :
  Calls Tryz.prog 106 #[.slice A n c, .func (.func g) #[] cap.toArray] w fun r w' => r = .returned (.bool (l.any p)) ∧ Below w.heap.size w w' := by
 have hh := Hp.start w
 refine ao (N := 9) (l := [.slice A n c, .func (.func g) #[] cap.toArray]) Tryz.func106 rfl rfl (by simp) ?_
 refine sr (aB (aa (sr (mL ?_))))
 refine gg (by first | exact gN rfl | exact ev_nilf rfl) (by decide) ?_
 refine a6 (se A n c l g cap p _ (hS.ext hh.below) hn hg) az.out rfl (by decide) ?_
 rintro e_ w7 ⟨v_, rfl, hv_, hb_⟩
 refine ⟨_, rfl, ?_⟩
 replace hh := hh.ext hb_
 cases ga : l.any p with
 | true =>
  have h0 := hv_.2 ga
  refine dX (aB (aa (aq ?_)))
  refine cz ?_
  exact ⟨rfl, hh.below⟩
 | false =>
  have h0 : ¬ 0 ≤ v_ := fun h => by rw [hv_.1 h] at ga; cases ga
  refine dX (aB (aa (aq ?_)))
  refine cz ?_
  exact ⟨rfl, hh.below⟩
theorem mc (L : Option Addr) (n c : Nat) (fs : List FX) (k : Nat) (w : World) (hT : iu w) (hL : Sl w L n 2 (bF FX.cells fs)) (hn : n ≤ 1000000) (hf : ∀ f ∈ fs, f.at_ w) (hl : ∀ f ∈ fs, f.iC k) :
  Calls Tryz.prog 57 #[.slice L n c] w fun r w' => r = .returned (.int .i64 (eb fs)) ∧ Below w.heap.size w w' := by
 have hh := Hp.start w
 have hln := hL.cP FX.len (by decide)
 refine ao (N := 26) (l := [.slice L n c]) Tryz.func57 rfl rfl (by simp) ?_
 refine sr ?_
 refine dm hh [_] ?_
 intro b1 w1 hh
 refine aI (aa (ah (sr ?_)))
 refine bP hh 0 ?_
 refine aQ (mI (aa (aj ?_)))
 refine bp [2, 4, 5, 8, 9, 10, 11, 12, 13, 14, 15, 16, 17] 8
  (fun v w' => ∃ i : Nat, i ≤ n ∧ v = .int .i64 i ∧ (fs.take i).any (fun f => decide (f.e ≠ 0)) = false ∧ Hp w [.blk b1 22 [.slice L n c] (0, 0)] w')
  (fun v _ => n - (intOf v).toNat) ?_ ?_
 ·exact ⟨0, Nat.zero_le _, rfl, rfl, hh⟩
 ·clear hh
  rintro ρ' v w' ⟨i, hi, rfl, hall, hh⟩
  by_cases hlt : i < n
  ·obtain ⟨f, hx⟩ := ar (l := fs) (k := i) (by omega)
   have hmem := List.mem_of_getElem? hx
   have hc := fun w1 hT1 hb => tG f k w1 hT1 ((hf f hmem).ext hb) (hl f hmem)
   obtain ⟨ad, rfl, hr⟩ := hL.at_ (by omega)
   by_cases he : f.e = 0
   ·refine sr ?_
    refine aG (aa (ah (cT (ak (ai (ah (aj (sr ?_))))))))
    refine aF (k := i) aH.out aE.size rfl rfl (by omega) (by omega) (by decide) ?_
    refine cW (vs := [_, _]) aE.out rfl ((hr.ext hh.below).recAt FX.len hx) rfl (by decide) ?_
    refine cS hh ?_
    intro b4 w4 hh
    refine bY hh 0 [_,_] ?_
    intro ws hh
    replace hh : Hp _ (.blk _ _ [_, _] _ :: _) _ := hh
    refine aa (sr ?_)
    refine dk hh 0 [_,_] ?_
    refine bJ hh (hc _ (hT.hp hh) hh.below) rfl ?_
    intro w13 hh
    refine aI (aa (sr (mI ?_)))
    refine dK (aa (cF (ak (aT (ai (al ?_))))))
    refine bz (mI (aC (ai ?_)))
    replace hh := hh.sub (List.Sublist.cons _ (List.Sublist.cons_cons _ List.Sublist.slnil))
    refine ⟨⟨i + 1, by omega, rfl, by rw [aO hx, List.any_append, hall, List.any_cons, List.any_nil, decide_eq_false (by omega)]; rfl, hh⟩, by show n - (i + 1) < n - i; omega, ?_⟩
    (repeat (first | exact aw _ _ _ | refine ay rfl ?_ | refine au rfl ?_))
   ·refine sr ?_
    refine aG (aa (ah (cT (ak (ai (ah (aj (sr ?_))))))))
    refine aF (k := i) aH.out aE.size rfl rfl (by omega) (by omega) (by decide) ?_
    refine cW (vs := [_, _]) aE.out rfl ((hr.ext hh.below).recAt FX.len hx) rfl (by decide) ?_
    refine cS hh ?_
    intro b4 w4 hh
    refine bY hh 0 [_,_] ?_
    intro ws hh
    replace hh : Hp _ (.blk _ _ [_, _] _ :: _) _ := hh
    refine aa (sr ?_)
    refine dk hh 0 [_,_] ?_
    refine bJ hh (hc _ (hT.hp hh) hh.below) rfl ?_
    intro w13 hh
    refine aI (aa (sr (mI ?_)))
    refine dK (aa (cT (sr (mI (aI (aa (aq (bR (aM (aM (bR ?_)))))))))))
    refine aM ?_
    refine cz ?_
    refine ⟨?_, hh.below⟩
    unfold eb
    rw [oO hall hx (decide_eq_true he)]
  ·rw [List.take_of_length_le (by omega)] at hall
   have hlk : eb fs = if fs.length = 0 ∨ rj fs = true then 1 else 0 := by unfold eb; rw [lW hall]
   rw [hlk]
   by_cases h0 : n = 0
   ·refine sr ?_
    refine aG (aa (ah (cF ?_)))
    refine aJ ?_
    refine ax (ax (aZ (ai (ah (sr ?_)))))
    refine bP hh 0 ?_
    refine aQ ?_
    refine dP (mB ?_)
    first | refine gS ?_ | (refine gT ?_; refine bP hh 0 ?_) | refine gV ?_
    first | refine gS ?_ | (refine gT ?_; refine kH rfl (bD (tk rfl) db) (by decide) ?_) | refine gV ?_
    refine cw (by decide) rfl rfl (by decide) ?_
    first | refine dD ?_ | refine dA ?_
    refine aa (cT (sr (aI (aa (aq (aM ?_))))))
    refine cz ?_
    exact ⟨by rw [if_pos (.inl (by omega))], hh.below⟩
   ·have hcell : w'.cell? ⟨b1, 0, none⟩ = some (.slice L n c) := hh.ez (i := 0) rfl rfl
    have ho := fun w1 hb => rT L n c fs 107 [.pointer (some ⟨b1, 0, none⟩)] (fun f => decide (f.n ≠ (fs.map FX.n).headD 0)) w1 (hL.ext (hh.below.trans (hb.mono hh.below.size))) hn (fun z w2 hz hb2 => sZ L n c fs z ⟨b1, 0, none⟩ w2 ((hL.ext (hh.below.trans (hb.mono hh.below.size))).ext hb2) (cM hb2 (cM hb hcell)) (by omega))
    cases hod : rj fs with
    | true =>
     have hod2 : fs.any (fun f => decide (f.n ≠ (fs.map FX.n).headD 0)) = true := hod
     rw [hod2] at ho
     refine sr ?_
     refine aG (aa (ah (cF ?_)))
     refine aJ ?_
     refine ax (ax (aZ (ai (ah (sr ?_)))))
     refine bP hh 0 ?_
     refine aQ ?_
     refine dP (mB ?_)
     first | refine gS ?_ | (refine gT ?_; refine bP hh 0 ?_) | refine gV ?_
     first | refine gS ?_ | (refine gT ?_; refine kH rfl (bD (tk rfl) db) (by decide) ?_) | refine gV ?_
     refine bo rfl rfl ?_
     refine bJ hh (ho _ (Below.refl _ _)) rfl ?_
     intro w24 hh
     first | refine dD ?_ | refine dA ?_
     refine aa (cT (sr (aI (aa (aq (aM ?_))))))
     refine cz ?_
     exact ⟨by rw [if_pos (.inr rfl)], hh.below⟩
    | false =>
     have hod2 : fs.any (fun f => decide (f.n ≠ (fs.map FX.n).headD 0)) = false := hod
     rw [hod2] at ho
     refine sr ?_
     refine aG (aa (ah (cF ?_)))
     refine aJ ?_
     refine ax (ax (aZ (ai (ah (sr ?_)))))
     refine bP hh 0 ?_
     refine aQ ?_
     refine dP (mB ?_)
     first | refine gS ?_ | (refine gT ?_; refine bP hh 0 ?_) | refine gV ?_
     first | refine gS ?_ | (refine gT ?_; refine kH rfl (bD (tk rfl) db) (by decide) ?_) | refine gV ?_
     refine bo rfl rfl ?_
     refine bJ hh (ho _ (Below.refl _ _)) rfl ?_
     intro w24 hh
     first | refine dD ?_ | refine dA ?_
     refine aa (cF (ak (ai (sr (aI (aa (aq ?_)))))))
     refine cz ?_
     refine ⟨?_, hh.below⟩
     rw [if_neg]
     rintro (h | h)
     ·omega
     ·cases h
end Go.Proofs.YtioilmppidlbnaaGreatDoor
/- Arguments opened: forms. -/
namespace Go.Proofs.YtioilmppidlbnaaGreatDoor
open Go.ChangeShapes Go.WideShapes Go.ChangeAt Go.RowKit Go.ChangeMaps
theorem nv {α : Type} {f : α → List Value} {p : α → Prop} {sz : Nat} {P : Program} {t e : TypeId} {H : Type} {enc : TypeId × Value → H} {W : World} {base fuel : Nat} {sp : Nat → Bool} {held : Bool} {cs : List Value} {x : DataW H × List MemPlace}
  (hf : ∀ x, (f x).length = sz) (h0 : 0 < sz) (ht : P.underlying t = some (.slice e)) (hc : P.cellsOf e = sz) (one : ∀ fuel cs x, DataW.trod enc P W base sp held fuel e cs = some x → ∃ a, cs = f a ∧ p a)
  (hfu : DataW.trod enc P W base sp held fuel t cs = some x) : ∃ (A : Option Addr) (n c : Nat) (l : List α), cs = [.slice A n c] ∧ Sl W A n sz (bF f l) ∧ ∀ a ∈ l, p a := by
 rcases Go.Deep.open_slice ht hfu with ⟨h1, _⟩ | ⟨ad, n, cp, m, k, D, Pl, h1, _, h2, h3, hm, _, h5⟩
 ·exact ⟨none, 0, 0, [], h1, Sl.nil W none sz, fun _ h => by simp at h⟩
 ·have hnm : n ≤ m := by rw [hm]; split <;> omega
  obtain ⟨l, hl, hp⟩ := n6 (p := fun i a => W.cells? base (ad.add (i * sz)) sz = some (f a) ∧ p a) n fun i hi => by
   obtain ⟨cs, h6, h7⟩ := h5 i (by omega)
   rw [hc] at h6
   obtain ⟨a, rfl, h8⟩ := one _ _ _ h7
   exact ⟨a, h6, h8⟩
  refine ⟨some ad, n, cp, l, h1, ⟨by rw [gi hf, hl], fun _ => ⟨ad, rfl, fun j u hu => ?_⟩⟩, fun a ha => ?_⟩
  ·have hdm : j / sz * sz + j % sz = j := by rw [Nat.mul_comm]; exact Nat.div_add_mod j sz
   have hmod : j % sz < sz := Nat.mod_lt _ h0
   have hj : j / sz < l.length := by
    have := (List.getElem?_eq_some_iff.1 hu).1
    rw [gi hf] at this
    exact Nat.div_lt_of_lt_mul (by rw [Nat.mul_comm]; exact this)
   obtain ⟨x, hx⟩ := ar hj
   have h6 := nG hf hx
   have h7 : (f x)[j % sz]? = some u := by
    rw [← h6, List.getElem?_take, if_pos hmod, List.getElem?_drop, hdm]
    exact hu
   have h8 := (World.cells?_some (hp _ _ hx).1).2.2 (j % sz) hmod
   rw [h7, ji, hdm] at h8
   exact h8
  ·obtain ⟨i, hi⟩ := List.mem_iff_getElem?.1 ha
   exact (hp i a hi).2
set_option maxRecDepth 100000 in
theorem te {H : Type} {enc : TypeId × Value → H} {W : World} {base fuel : Nat} {sp : Nat → Bool} {held : Bool} {cs : List Value} {x : DataW H × List MemPlace} (h : DataW.trod enc Tryz.prog W base sp held fuel 28 cs = some x) :
  ∃ f : FX, cs = f.cells ∧ f.at_ W := by
 have c0 : Tryz.prog.cellsOf 28 = 2 := by kernel_rfl
 have c1 : Tryz.prog.cellsOf 25 = 1 := by kernel_rfl
 have c2 : Tryz.prog.cellsOf 26 = 1 := by kernel_rfl
 obtain ⟨y0, y1, n, _, hl, h0, h1⟩ := trod_struct2 Tryz.underlying28 h
 obtain ⟨A, n, a, l, e0, s0, _⟩ := nv IC.len (by decide) Tryz.underlying25 (by kernel_rfl) (fun _ _ _ h => u7 h) h0
 obtain ⟨B, m, b, k, e1, s1, _⟩ := nv NR.len (by decide) Tryz.underlying26 (by kernel_rfl) (fun _ _ _ h => uJ h) h1
 rw [xE] at s0
 rw [c0] at hl
 match cs, hl with
 | [x0, x1], _ =>
  simp only [c1, c2] at e0 e1
  simp at e0 e1
  subst e0 e1
  exact ⟨⟨A, n, a, B, m, b, l, k⟩, rfl, s0, s1⟩
set_option maxRecDepth 100000 in
theorem sf {H : Type} {enc : TypeId × Value → H} {W : World} {r : Reach} {base b0 : Nat} {sp : Nat → Bool} {held : Bool} {v : Value} {d : DataW H} {ps : List MemPlace}
  (hval : Value.okWide Tryz.prog W r b0 22 v) (hd : DataW.Trod enc Tryz.prog W base sp held 22 v d ps) : ∃ (A : Option Addr) (n c : Nat) (l : List FX), v = .slice A n c ∧ Sl W A n 2 (bF FX.cells l) ∧ ∀ f ∈ l, f.at_ W :=
 uV FX.len (by decide) Tryz.underlying22 (by kernel_rfl) (fun _ _ _ h => te h) hval hd
end Go.Proofs.YtioilmppidlbnaaGreatDoor
/- The walk through lift.Raise. -/
namespace Go.Proofs.YtioilmppidlbnaaGreatDoor
open Go.RowKit
def ix (p : Int × Int) : Bool := decide (p.2 < p.1 ∨ 127 < p.2)
def kK (ds es : List Int) : Int := if es.length ≠ ds.length then 1 else if (ds.zip es).any ix = true then 1 else if 4096 < av (es.map Int.toNat) then 3 else 0
def dN (a b : List Nat) : List Nat := List.zipWith (· - ·) a b
def iA (ns ts : List Nat) (xs : List Dyadic) : List Dyadic := g9 ns (dN ts ns) xs ((oq (dN ts ns)).map nD)
theorem jZ : ∀ {ns ts : List Nat}, ns.length = ts.length → (∀ (i n t : Nat), ns[i]? = some n → ts[i]? = some t → n ≤ t) → bH ns (dN ts ns) = ts
 | [], [], _, _ => rfl
 | [], _ :: _, h, _ => by simp at h
 | _ :: _, [], h, _ => by simp at h
 | n :: ns, t :: ts, h, h2 => by
  have h0 := h2 0 n t rfl rfl
  have ih := jZ (ns := ns) (ts := ts) (by simpa using h) fun i a b ha hb => h2 (i + 1) a b ha hb
  show (n + (t - n)) :: bH ns (dN ts ns) = _
  rw [ih, show n + (t - n) = t by omega]
theorem j7 : ∀ {a b : List Nat}, a.length = b.length → (∀ (i x y : Nat), a[i]? = some x → b[i]? = some y → x ≤ y) → av a ≤ av b
 | [], [], _, _ => Nat.le_refl _
 | [], _ :: _, h, _ => by simp at h
 | _ :: _, [], h, _ => by simp at h
 | x :: a, y :: b, h, h2 => by
  have h0 := h2 0 x y rfl rfl
  rw [av, av]
  exact Nat.mul_le_mul (by omega) (j7 (by simpa using h) fun i p q hp hq => h2 (i + 1) p q hp hq)
theorem tD {a b : List Nat} {i x y : Nat} (h1 : a[i]? = some x) (h2 : b[i]? = some y) : (dN a b)[i]? = some (x - y) := by
 unfold dN
 rw [List.getElem?_zipWith, h1, h2]
theorem iV {a b : List Nat} (h : a.length = b.length) : (dN a b).length = a.length := by simp [dN, h]
def zC (es ds : List Int) : List Int := List.zipWith (· - ·) es ds
theorem zj {es ds : List Int} {i : Nat} {x y : Int} (h1 : es[i]? = some x) (h2 : ds[i]? = some y) : (zC es ds)[i]? = some (x - y) := by
 unfold zC
 rw [List.getElem?_zipWith, h1, h2]
theorem ue : ∀ {ts ns : List Nat}, ns.length = ts.length → (∀ (i n t : Nat), ns[i]? = some n → ts[i]? = some t → n ≤ t) → zC (aW ts) (aW ns) = aW (dN ts ns)
 | [], [], _, _ => rfl
 | [], _ :: _, h, _ => by simp at h
 | _ :: _, [], h, _ => by simp at h
 | t :: ts, n :: ns, h, h2 => by
  have h0 := h2 0 n t rfl rfl
  have ih := ue (ns := ns) (ts := ts) (by simpa using h) fun i a b ha hb => h2 (i + 1) a b ha hb
  show ((t : Int) - (n : Int)) :: zC (aW ts) (aW ns) = ((t - n : Nat) : Int) :: aW (dN ts ns)
  rw [ih, show (t : Int) - (n : Int) = ((t - n : Nat) : Int) by omega]
theorem rQ {ns : List Nat} {es : List Int} (hl : es.length = (aW ns).length) (hb : ((aW ns).zip es).any ix = false) : ∃ ts : List Nat, es = aW ts ∧ ns.length = ts.length ∧ (∀ (i n t : Nat), ns[i]? = some n → ts[i]? = some t → n ≤ t) ∧ ∀ t ∈ ts, t ≤ 127 := by
 have key : ∀ (i : Nat) (d : Int), es[i]? = some d → ∃ n, ns[i]? = some n ∧ (n : Int) ≤ d ∧ d ≤ 127 := fun i d hd => by
  have hi := (List.getElem?_eq_some_iff.1 hd).1
  rw [hl, cj] at hi
  obtain ⟨n, hn⟩ := ar hi
  have hz : ((n : Int), d) ∈ (aW ns).zip es := List.mem_of_getElem? (i := i) (by rw [List.getElem?_zip_eq_some]; exact ⟨cA hn, hd⟩)
  have := List.any_eq_false.1 hb _ hz
  simp [ix] at this
  exact ⟨n, hn, by omega, by omega⟩
 refine ⟨es.map Int.toNat, ?_, by rw [List.length_map, hl, cj], fun i n t hn ht => ?_, fun t ht => ?_⟩
 ·unfold aW
  rw [List.map_map]
  refine (List.map_id' es).symm.trans (List.map_congr_left fun d hd => ?_)
  obtain ⟨i, hi⟩ := List.mem_iff_getElem?.1 hd
  obtain ⟨n, _, h1, _⟩ := key i d hi
  show d = ((d.toNat : Nat) : Int)
  omega
 ·rw [List.getElem?_map] at ht
  cases hd : es[i]? with
  | none => rw [hd] at ht; cases ht
  | some d =>
   rw [hd] at ht
   obtain rfl : d.toNat = t := by simpa using ht
   obtain ⟨n', hn', h1, _⟩ := key i d hd
   rw [hn] at hn'
   obtain rfl := Option.some.inj hn'
   omega
 ·obtain ⟨d, hd, rfl⟩ := List.mem_map.1 ht
  obtain ⟨i, hi⟩ := List.mem_iff_getElem?.1 hd
  obtain ⟨n, _, h1, h2⟩ := key i d hi
  omega
theorem eN (ts : List Nat) : (aW ts).map Int.toNat = ts := by
 unfold aW
 rw [List.map_map]
 exact List.map_id' ts
def om (e : Int) : Ending := .returned (.tuple #[.agg #[.slice none 0 0, .slice none 0 0], .int .i64 e])
theorem lh {ds es : List Int} {i : Nat} {d e : Int} (h : ((ds.take i).zip (es.take i)).any ix = false) (hd : ds[i]? = some d) (he : es[i]? = some e) (hb : ix (d, e) = false) : ((ds.take (i + 1)).zip (es.take (i + 1))).any ix = false := by
 rw [aO hd, aO he, List.zip_append (by have := (List.getElem?_eq_some_iff.1 hd).1; have := (List.getElem?_eq_some_iff.1 he).1; simp; omega), List.any_append, h]
 show (false || ([(d, e)].any ix)) = false
 rw [List.any_cons, hb]
 rfl
theorem lF (f : FX) (E : Option Addr) (q cE : Nat) (es : List Int) (k : Nat) (w : World) (hT : iu w) (hf : f.at_ w) (hl : f.iC k) (hE : Sl w E q 1 (bs es)) (hq : q ≤ 1000) (hk : k ≤ 90000)
  (hM : f.e = 0 → kK f.ds es = 0 → av (es.map Int.toNat) * av (f.ds.map Int.toNat) ≤ 1000000) :
  Calls Tryz.prog 23 #[.agg #[.slice f.A f.n f.a, .slice f.B f.m f.b], .slice E q cE] w fun r w' => ((f.e ≠ 0 ∧ r = om f.e ∨ f.e = 0 ∧ kK f.ds es ≠ 0 ∧ r = om (kK f.ds es)) ∧ Below w.heap.size w w') ∨
   (f.e = 0 ∧ kK f.ds es = 0 ∧ ∃ (A : Option Addr) (a : Nat) (B : Option Addr) (b : Nat), r = .returned (.tuple #[.agg #[.slice A q a, .slice B (av (es.map Int.toNat)) b], .int .i64 0]) ∧ Hp w [.row B (av (es.map Int.toNat)) b 39 3 (bF NR.cells ((iA (f.ds.map Int.toNat) (es.map Int.toNat) (f.cs.map NR.d)).map nR)), .row A q a 3 1 (bs es)] w') := by
 have hh := Hp.start w
 have hln : f.ds.length = f.n := by have := hf.dg.1; simpa [bs] using this
 have hlq : es.length = q := by have := hE.1; simpa [bs] using this
 have hlm := hf.nm.cP NR.len (by decide)
 have hck := fun w1 hT1 hb => tG f k w1 hT1 (hf.ext hb) hl
 have hn20 := hl.Aa
 by_cases h0 : f.e = 0
 ·by_cases h1 : q = f.n
  ·obtain ⟨ns, xs, hv, hxs⟩ := wi h0
   refine ao (N := 66) (l := [.agg #[.slice f.A f.n f.a, .slice f.B f.m f.b], .slice E q cE]) Tryz.func23 rfl rfl (by simp) ?_
   refine sr ?_
   refine dm hh [_,_] ?_
   intro b2 w2 hh
   refine cS hh ?_
   intro b4 w4 hh
   refine aI (aa (ah (sr ?_)))
   refine dk hh 1 [_,_] ?_
   refine bJ hh (hck _ (hT.hp hh) hh.below) rfl ?_
   intro w11 hh
   refine aI (aa (sr (mI ?_)))
   refine dK (aa (cF (ak (ai (ah (sr (mL (aQ (bI ?_)))))))))
   refine bP hh 1 ?_
   refine aQ ?_
   refine dK (aa (cF (ak (ai (sr ?_)))))
   refine fi [_,_] ?_
   refine cS hh ?_
   intro b7 w7 hh
   refine bY hh 0 [_,_] ?_
   intro ws hh
   replace hh : Hp _ (.blk _ _ [_, _] _ :: _) _ := hh
   refine aa (ah (sr (mL (aQ (mI (aa (aj ?_)))))))
   replace hh := hh.dx 3 1
   refine bp [5, 8, 9, 26, 27, 28, 29, 30, 31, 32, 33, 34, 35, 36, 37, 38, 39, 40, 41, 42, 43, 44, 45, 46, 47, 48, 49, 50, 51, 52, 53, 54, 55] 26
    (fun v w' => ∃ (i c7 : Nat) (A : Option Addr), i ≤ q ∧ v = .int .i64 i ∧ ((f.ds.take i).zip (es.take i)).any ix = false ∧ Hp w [.row A i c7 3 1 (bs ((zC es f.ds).take i)), .blk b7 28 [.slice A i c7, .slice none 0 0] (0, 0), .blk b4 28 [.slice none 0 0, .slice none 0 0] (0, 0), .blk b2 28 [.slice f.A f.n f.a, .slice f.B f.m f.b] (0, 0)] w')
    (fun v _ => q - (intOf v).toNat) ?_ ?_
   ·exact ⟨0, 0, none, Nat.zero_le _, rfl, rfl, hh⟩
   ·clear hh
    rintro ρ' v w' ⟨i, c7, A, hi, rfl, hall, hh⟩
    by_cases hlt : i < q
    ·obtain ⟨d, hd⟩ := ar (l := f.ds) (k := i) (by omega)
     obtain ⟨e, he⟩ := ar (l := es) (k := i) (by omega)
     have hgd := bB hd
     have hge := bB he
     have hde := zj he hd
     obtain ⟨a1, hA1, s1⟩ := hf.dg.at_ (by omega)
     obtain ⟨a2, rfl, s2⟩ := hE.at_ (by omega)
     have hdn : 0 ≤ d ∧ d ≤ 127 := by
      have hdeg := hv.Aw
      rw [hdeg] at hd
      have hlow := hv.low
      obtain ⟨nn, hnn⟩ := ar (l := ns) (k := i) (by rw [← cj, ← hdeg, hln]; omega)
      rw [cA hnn] at hd
      have := hlow nn (List.mem_of_getElem? hnn)
      have := Option.some.inj hd
      omega
     have hbad : ix (d, e) = true → kK f.ds es = 1 := fun hb => by
      unfold kK
      rw [if_neg (by omega), if_pos]
      exact List.any_eq_true.2 ⟨(d, e), List.mem_of_getElem? (i := i) (by rw [List.getElem?_zip_eq_some]; exact ⟨hd, he⟩), hb⟩
     rw [hA1] at hh
     by_cases h2 : e < d
     ·have hr1 := hbad (by unfold ix; rw [decide_eq_true]; exact .inl h2)
      refine sr ?_
      refine aG (aa (ah (cT (ak (ai (ah (aj (sr (mI ?_)))))))))
      refine aF (k := i) aH.out aE.size rfl rfl (by omega) (by omega) (by decide) ?_
      refine aN aE.out rfl ((s2.ext hh.below).dR (by assumption)) (by decide) ?_
      refine aI (aI (aa (ah (sr (mI (bI ?_))))))
      refine bP hh 3 ?_
      refine mI ?_
      refine aF (k := i) aH.out aE.size rfl rfl (by omega) (by omega) (by decide) ?_
      refine aN aE.out rfl ((s1.ext hh.below).dR (by assumption)) (by decide) ?_
      refine aG (mB ?_)
      first | refine gS ?_ | (refine gT ?_; refine mI ?_) | refine gV ?_
      first | refine gS ?_ | (refine gT ?_; refine bT ?_) | refine gV ?_
      first | refine dD ?_ | refine dA ?_
      refine aa (cT (sr ?_))
      refine fi [_,_] ?_
      refine bY hh 2 [_,_] ?_
      intro ws hh
      replace hh : Hp _ (_ :: _ :: .blk _ _ [_, _] _ :: _) _ := hh
      refine aI (aa (aq (aM (bR (aM (aM (bR (aM ?_))))))))
      refine og (bf rfl (bg (vs := [_, _]) aE.out (hh.aD (i := 2) (n := 2) rfl rfl) rfl) (dq (et rfl) bA)) ?_
      exact .inl ⟨.inr ⟨h0, by rw [hr1]; decide, by rw [hr1]; rfl⟩, hh.below⟩
     ·by_cases h3 : 127 < e
      ·have hr1 := hbad (by unfold ix; rw [decide_eq_true]; exact .inr h3)
       refine sr ?_
       refine aG (aa (ah (cT (ak (ai (ah (aj (sr (mI ?_)))))))))
       refine aF (k := i) aH.out aE.size rfl rfl (by omega) (by omega) (by decide) ?_
       refine aN aE.out rfl ((s2.ext hh.below).dR (by assumption)) (by decide) ?_
       refine aI (aI (aa (ah (sr (mI (bI ?_))))))
       refine bP hh 3 ?_
       refine mI ?_
       refine aF (k := i) aH.out aE.size rfl rfl (by omega) (by omega) (by decide) ?_
       refine aN aE.out rfl ((s1.ext hh.below).dR (by assumption)) (by decide) ?_
       refine aG (mB ?_)
       first | refine gS ?_ | (refine gT ?_; refine mI ?_) | refine gV ?_
       first | refine gS ?_ | (refine gT ?_; refine bT ?_) | refine gV ?_
       first | refine dD ?_ | refine dA ?_
       refine aa (cT (sr ?_))
       refine fi [_,_] ?_
       refine bY hh 2 [_,_] ?_
       intro ws hh
       replace hh : Hp _ (_ :: _ :: .blk _ _ [_, _] _ :: _) _ := hh
       refine aI (aa (aq (aM (bR (aM (aM (bR (aM ?_))))))))
       refine og (bf rfl (bg (vs := [_, _]) aE.out (hh.aD (i := 2) (n := 2) rfl rfl) rfl) (dq (et rfl) bA)) ?_
       exact .inl ⟨.inr ⟨h0, by rw [hr1]; decide, by rw [hr1]; rfl⟩, hh.below⟩
      ·refine sr ?_
       refine aG (aa (ah (cT (ak (ai (ah (aj (sr (mI ?_)))))))))
       refine aF (k := i) aH.out aE.size rfl rfl (by omega) (by omega) (by decide) ?_
       refine aN aE.out rfl ((s2.ext hh.below).dR (by assumption)) (by decide) ?_
       refine aI (aI (aa (ah (sr (mI (bI ?_))))))
       refine bP hh 3 ?_
       refine mI ?_
       refine aF (k := i) aH.out aE.size rfl rfl (by omega) (by omega) (by decide) ?_
       refine aN aE.out rfl ((s1.ext hh.below).dR (by assumption)) (by decide) ?_
       refine aG (mB ?_)
       first | refine gS ?_ | (refine gT ?_; refine mI ?_) | refine gV ?_
       first | refine gS ?_ | (refine gT ?_; refine bT ?_) | refine gV ?_
       first | refine dD ?_ | refine dA ?_
       refine aa (cF (ak (ai ?_)))
       refine aK 10 [[(7, none)], [(43, some 0)], [(9, none)], [(2, none)], [(46, some 3)], [(8, none)], [(47, some 4), (48, some 5)], [(49, some 6)], [(45, some 2), (50, some 7)], [(51, some 8)]] [(9, 52), (8, 51), (7, 50), (6, 49), (5, 48), (4, 47), (3, 46), (2, 45), (1, 44), (0, 43)] hh mixed (by kernel_rfl) ?_
       refine dv ?_
       refine dY 1 ?_
       refine dn ?_
       refine dv ?_
       refine dY 3 ?_
       refine dn ?_
       refine hH (i) ?_
       refine aR (i := 7) (fun ρ1 w1 hj hR => cm aE.out (show ρ1 49 = Value.pointer _ from hR.1) ((s1.ext hj.hp.below).dR (by assumption))) ?_
       refine rq ?_
       refine rK [_] ?_
       refine bm ?_
       intro f W hJ hV
       have hb_12 := hJ.bl
       obtain ⟨v52, v51, v50, v49, v48, v47, v46, v45, v44, v43, _⟩ := hV
       obtain ⟨A52, c52, e52, f52⟩ : Rows _ _ _ (f 9) W := v52
       replace hh := hJ.hp
       refine aU (bk (ae e52 (ae v51 (ae v50 (ae v49 (ae v48 (ae v47 (ae v46 (ae v45 (ae v44 (ae v43 aV))))))))))) ?_
       dsimp only [cd]
       clear e52 hJ
       refine cu hh (i := 0) rfl rfl rfl (f52) aH.out aE.out rfl (by decide) (by first | rfl | exact bZ _ | exact bK _ | exact bC _ | exact bL NR.one _) (by omega) (by omega) (by decide) ?_
       intro A53 c53 w53 hh
       simp only [List.set_cons_zero] at hh
       refine bI ?_
       refine bY hh 1 [_] ?_
       intro ws hh
       replace hh : Hp _ (_ :: .blk _ _ [_, _] _ :: _) _ := hh
       refine aC (aT (ai (al ?_)))
       refine bz (mI (aC (ai ?_)))
       rw [← hA1] at hh
       replace hh := hh.sub (List.Sublist.cons_cons _ (List.Sublist.cons_cons _ (List.Sublist.cons_cons _ (List.Sublist.cons_cons _ List.Sublist.slnil))))
       refine ⟨⟨i + 1, c53, A53, by omega, rfl, lh hall hd he (by unfold ix; rw [decide_eq_false]; show ¬(e < d ∨ 127 < e); omega), ?_⟩, by show q - (i + 1) < q - i; omega, ?_⟩
       ·rw [aO hde, qK]
        exact hh
       ·(repeat (first | exact aw _ _ _ | refine ay rfl ?_ | refine au rfl ?_))
    ·obtain rfl : i = q := by omega
     rw [List.take_of_length_le (by omega), List.take_of_length_le (by omega)] at hall
     have hdeg := hv.Aw
     have hnum := hv.num
     have hlow := hv.low
     have hlen := hv.len
     have hfew := hv.AP
     rw [hdeg] at hall hln
     obtain ⟨ts, rfl, hlt2, hle, ht127⟩ := rQ (by rw [hln]; omega) hall
     have hnl : ns.length = f.n := by rw [← cj]; exact hln
     have htn : (aW ts).map Int.toNat = ts := eN ts
     have hnn : f.ds.map Int.toNat = ns := by rw [hdeg]; exact eN ns
     have hrz : kK f.ds (aW ts) = if 4096 < av ts then 3 else 0 := by
      unfold kK
      rw [hdeg, if_neg (by rw [cj, cj]; omega), if_neg (by rw [hall]; decide), htn]
     rw [htn, hnn] at hM
     rw [htn, hnn, hrz, ← hxs]
     rw [hrz] at hM
     have hbig := fun w1 hS1 => mP E i cE ts w1 hS1 hq (fun d hd => by have := ht127 d hd; omega)
     have hany : ts.any (fun d => decide (127 < d)) = false := List.any_eq_false.2 fun d hd => by have := ht127 d hd; simp; omega
     by_cases h4 : 4096 < av ts
     ·have hb1 : iB ts = true := by unfold iB; rw [decide_eq_true h4, Bool.or_true]
      rw [hb1] at hbig
      rw [if_pos h4]
      refine sr ?_
      refine aG (aa (ah (cF ?_)))
      refine aJ ?_
      refine ax (ax (aZ (ai (ah (sr (mL ?_))))))
      refine bJ hh (hbig _ (hE.ext hh.below)) rfl ?_
      intro w57 hh
      refine aa (cT (sr ?_))
      refine fi [_,_] ?_
      refine bY hh 2 [_,_] ?_
      intro ws hh
      replace hh : Hp _ (_ :: _ :: .blk _ _ [_, _] _ :: _) _ := hh
      refine aI (aa (aq (aM ?_)))
      refine og (bf rfl (bg (vs := [_, _]) aE.out (hh.aD (i := 2) (n := 2) rfl rfl) rfl) (dq (et rfl) bA)) ?_
      exact .inl ⟨.inr ⟨h0, by decide, rfl⟩, hh.below⟩
     ·have hb1 : iB ts = false := by unfold iB; rw [hany, decide_eq_false h4]; rfl
      rw [hb1] at hbig
      rw [if_neg h4] at hM
      rw [if_neg h4]
      have hM2 := hM h0 rfl
      have hsl : (dN ts ns).length = i := by rw [iV (by omega), ← cj]; exact hlq
      have hsub : ∀ d ∈ dN ts ns, d ≤ 127 := fun d hd => by
       obtain ⟨j, hj⟩ := List.mem_iff_getElem?.1 hd
       have hj2 := (List.getElem?_eq_some_iff.1 hj).1
       obtain ⟨x, hx⟩ := ar (l := ts) (k := j) (by rw [cj] at hlq; omega)
       obtain ⟨y, hy⟩ := ar (l := ns) (k := j) (by omega)
       rw [tD hx hy] at hj
       have := ht127 x (List.mem_of_getElem? hx)
       have := Option.some.inj hj
       omega
      have hcs : av (dN ts ns) ≤ av ts := j7 (by rw [hsl, ← cj]; exact hlq.symm) fun j x y hx hy => by
       have hj2 := (List.getElem?_eq_some_iff.1 hx).1
       obtain ⟨z, hz⟩ := ar (l := ns) (k := j) (by omega)
       rw [tD hy hz] at hx
       have := Option.some.inj hx
       omega
      have hadd : bH ns (dN ts ns) = ts := jZ hlt2 hle
      have hdif : zC (aW ts) f.ds = aW (dN ts ns) := by rw [hdeg]; exact ue hlt2 hle
      have hwn : vW (dN ts ns) = ((oq (dN ts ns)).map nD).map nR := by unfold vW; rw [List.map_map]; rfl
      have hw12 : (dN ts ns).length ≤ 12 := by omega
      have hwz : ∀ y ∈ (oq (dN ts ns)).map nD, Sz 1600 y := fun y hy => by
       obtain ⟨x, hx, rfl⟩ := List.mem_map.1 hy
       exact vU hx hw12 hsub
      have hxz : ∀ x ∈ xs, Sz k x := fun x hx => by
       rw [hxs] at hx
       obtain ⟨c, hc, rfl⟩ := List.mem_map.1 hx
       exact (hl.num c hc).2
      have hpair : av (dN ts ns) * av ns ≤ av ts * av ns := Nat.mul_le_mul_right _ hcs
      have hfm : f.m = av ns := by rw [← hlm, hnum, List.length_map, hlen]
      have htm := fun w1 hT1 A B c3 c4 h1 h2 h3 h4' => kQ f.A f.B A B i f.a f.b c3 c4 ns (dN ts ns) xs ((oq (dN ts ns)).map nD) k 1600 w1 hT1 h1 h2 h3 h4' (by omega) hlow hsub (by rw [hadd]; omega) (by omega) hxz hwz (by omega)
      rw [hadd] at htm
      have hdg := hf.dg
      have hnm := hf.nm
      rw [hdeg] at hdg
      rw [hnum, hfm] at hnm
      rw [List.take_of_length_le (by rw [hdif, cj]; omega), hdif] at hh
      rw [hfm] at hh
      rw [show f.n = i by omega] at hh hdg
      refine sr ?_
      refine aG (aa (ah (cF ?_)))
      refine aJ ?_
      refine ax (ax (aZ (ai (ah (sr (mL ?_))))))
      refine bJ hh (hbig _ (hE.ext hh.below)) rfl ?_
      intro w57 hh
      refine aa (cF (ak (ai (sr (bI ?_)))))
      refine bP hh 1 ?_
      refine a6 (n5 A i c7 (dN ts ns) _ (hT.hp hh) (hh.aX (i := 0) rfl) hw12 hsub (by omega)) az.out rfl (by decide) ?_
      rintro e_ w61 ⟨A61, c61, rfl, hown_, hb_⟩
      refine ⟨_, rfl, ?_⟩
      replace hh := hh.bu (x := .row _ _ _ _ _ _) hb_ hown_
      rw [hwn] at hh
      refine bI ?_
      refine bY hh 2 [_] ?_
      intro ws hh
      replace hh : Hp _ (_ :: _ :: .blk _ _ [_, _] _ :: _) _ := hh
      refine aa (sr ?_)
      refine dk hh 4 [_,_] ?_
      refine dk hh 2 [_,_] ?_
      refine a6 (htm _ (hT.hp hh) _ _ _ _ (hdg.ext hh.below) (hnm.ext hh.below) (hh.aX (i := 1) rfl) (hh.aX (i := 0) rfl)) az.out rfl (by decide) ?_
      rintro e_ w65 ⟨Ar, cr, Br, br, rfl, h2⟩
      refine ⟨_, rfl, ?_⟩
      replace hh := hh.join h2
      clear h2
      refine bY hh 5 [_,_] ?_
      intro ws hh
      replace hh : Hp _ (_ :: _ :: _ :: _ :: _ :: .blk _ _ [_, _] _ :: _) _ := hh
      refine aI (aa (aq ?_))
      refine og (bf rfl (bg (vs := [_, _]) aE.out (hh.aD (i := 5) (n := 2) rfl rfl) rfl) (dq (et rfl) bA)) ?_
      exact .inr ⟨h0, rfl, _, _, _, _, rfl, hh.sub (List.Sublist.cons_cons _ (List.Sublist.cons_cons _ (List.nil_sublist _)))⟩
  ·have hrz : kK f.ds es = 1 := by unfold kK; rw [if_pos (by omega)]
   refine ao (N := 66) (l := [.agg #[.slice f.A f.n f.a, .slice f.B f.m f.b], .slice E q cE]) Tryz.func23 rfl rfl (by simp) ?_
   refine sr ?_
   refine dm hh [_,_] ?_
   intro b2 w2 hh
   refine cS hh ?_
   intro b4 w4 hh
   refine aI (aa (ah (sr ?_)))
   refine dk hh 1 [_,_] ?_
   refine bJ hh (hck _ (hT.hp hh) hh.below) rfl ?_
   intro w11 hh
   refine aI (aa (sr (mI ?_)))
   refine dK (aa (cF (ak (ai (ah (sr (mL (aQ (bI ?_)))))))))
   refine bP hh 1 ?_
   refine aQ ?_
   refine dK (aa (cT (sr ?_)))
   refine fi [_,_] ?_
   refine bY hh 0 [_,_] ?_
   intro ws hh
   replace hh : Hp _ (.blk _ _ [_, _] _ :: _) _ := hh
   refine aI (aa (aq (aM ?_)))
   refine og (bf rfl (bg (vs := [_, _]) aE.out (hh.aD (i := 0) (n := 2) rfl rfl) rfl) (dq (et rfl) bA)) ?_
   exact .inl ⟨.inr ⟨h0, by rw [hrz]; decide, by rw [hrz]; rfl⟩, hh.below⟩
 ·refine ao (N := 66) (l := [.agg #[.slice f.A f.n f.a, .slice f.B f.m f.b], .slice E q cE]) Tryz.func23 rfl rfl (by simp) ?_
  refine sr ?_
  refine dm hh [_,_] ?_
  intro b2 w2 hh
  refine cS hh ?_
  intro b4 w4 hh
  refine aI (aa (ah (sr ?_)))
  refine dk hh 1 [_,_] ?_
  refine bJ hh (hck _ (hT.hp hh) hh.below) rfl ?_
  intro w11 hh
  refine aI (aa (sr (mI ?_)))
  refine dK (aa (cT (sr ?_)))
  refine fi [_,_] (mI ?_)
  refine bY hh 0 [_,_] ?_
  intro ws hh
  replace hh : Hp _ (.blk _ _ [_, _] _ :: _) _ := hh
  refine aI (aa (aq (aM ?_)))
  refine og (bf rfl (bg (vs := [_, _]) aE.out (hh.aD (i := 0) (n := 2) rfl rfl) rfl) (dq (et rfl) bA)) ?_
  exact .inl ⟨.inl ⟨h0, rfl⟩, hh.below⟩
end Go.Proofs.YtioilmppidlbnaaGreatDoor
/- The walk through lift.raised. -/
namespace Go.Proofs.YtioilmppidlbnaaGreatDoor
open Go.RowKit
def FX.fI (f : FX) : HE := .row f.B f.m f.b 39 3 (bF NR.cells f.cs)
def FX.fB (f : FX) : HE := .row f.A f.n f.a 3 1 (bs f.ds)
def hQ : List FX → List HE
 | [] => []
 | f :: fs => f.fI :: f.fB :: hQ fs
theorem pZ (a b : List FX) : hQ (a ++ b) = hQ a ++ hQ b := by
 induction a with
 | nil => rfl
 | cons f a ih => rw [List.cons_append, hQ, hQ, ih]; rfl
theorem uF {f : FX} {fs : List FX} (h : f ∈ fs) : f.fI ∈ hQ fs ∧ f.fB ∈ hQ fs := by
 induction fs with
 | nil => cases h
 | cons g fs ih =>
  rcases List.mem_cons.1 h with rfl | h
  ·exact ⟨List.mem_cons_self, List.mem_cons_of_mem _ List.mem_cons_self⟩
  ·exact ⟨List.mem_cons_of_mem _ (List.mem_cons_of_mem _ (ih h).1), List.mem_cons_of_mem _ (List.mem_cons_of_mem _ (ih h).2)⟩
theorem Hp.od {w0 w : World} {H : List HE} (h : Hp w0 H w) {f : FX} (h1 : f.fI ∈ H) (h2 : f.fB ∈ H) : f.at_ w := ⟨iZ (h.own _ h2), iZ (h.own _ h1)⟩
def fq (a b : List Nat) : List Nat := List.zipWith max a b
def maxD (fs : List FX) : List Nat := fs.foldl (fun a f => fq a (f.ds.map Int.toNat)) ((fs.map fun f => f.ds.map Int.toNat).headD [])
def ct (fs : List FX) : Int := if eb fs ≠ 0 then eb fs else if 4096 < av (maxD fs) then 3 else 0
theorem gA {fs : List FX} (h : eb fs = 0) : fs ≠ [] ∧ (∀ f ∈ fs, f.e = 0) ∧ ∀ f ∈ fs, f.n = (fs.map FX.n).headD 0 := by
 unfold eb at h
 split at h
 ·rename_i f hf
  have := List.find?_some hf
  simp at this
  exact absurd h this
 ·rename_i hf
  split at h
  ·cases h
  rename_i hno
  refine ⟨fun e => hno (.inl (by rw [e]; rfl)), fun f hm => ?_, fun f hm => ?_⟩
  ·have := List.find?_eq_none.1 hf f hm
   simpa using this
  ·apply Classical.byContradiction
   intro hne
   exact hno (.inr (List.any_eq_true.2 ⟨f, hm, decide_eq_true hne⟩))
theorem iJ {a b : List Nat} (h : a.length = b.length) : (fq a b).length = a.length := by simp [fq, h]
theorem p9 {a b : List Nat} {i x y : Nat} (h1 : a[i]? = some x) (h2 : b[i]? = some y) : (fq a b)[i]? = some (max x y) := by
 unfold fq
 rw [List.getElem?_zipWith, h1, h2]
theorem mn : ∀ (ls : List (List Nat)) (a : List Nat), (∀ l ∈ ls, l.length = a.length) → (ls.foldl fq a).length = a.length ∧ (∀ (i x y : Nat), a[i]? = some x → (ls.foldl fq a)[i]? = some y → x ≤ y) ∧ ∀ l ∈ ls, ∀ (i x y : Nat), l[i]? = some x → (ls.foldl fq a)[i]? = some y → x ≤ y
 | [], a, _ => ⟨rfl, fun i x y h1 h2 => by have h3 : a[i]? = some y := h2; rw [h1] at h3; cases h3; exact Nat.le_refl _, fun _ h => nomatch h⟩
 | l :: ls, a, h => by
  have hl := h l List.mem_cons_self
  have h2 := iJ hl.symm
  obtain ⟨h3, h4, h5⟩ := mn ls (fq a l) fun m hm => by rw [h2]; exact h m (List.mem_cons_of_mem _ hm)
  refine ⟨by rw [List.foldl_cons, h3, h2], fun i x y hx hy => ?_, fun m hm i x y hx hy => ?_⟩
  ·have hi := (List.getElem?_eq_some_iff.1 hx).1
   obtain ⟨z, hz⟩ := ar (l := l) (k := i) (by omega)
   have := h4 i (max x z) y (p9 hx hz) hy
   omega
  ·rcases List.mem_cons.1 hm with rfl | hm
   ·have hi := (List.getElem?_eq_some_iff.1 hx).1
    obtain ⟨z, hz⟩ := ar (l := a) (k := i) (by omega)
    have := h4 i (max z x) y (p9 hz hx) hy
    omega
   ·exact h5 m hm i x y hx hy
theorem pw (B : Nat) : ∀ (ls : List (List Nat)) (a : List Nat), (∀ x ∈ a, x ≤ B) → (∀ l ∈ ls, ∀ x ∈ l, x ≤ B) → ∀ x ∈ ls.foldl fq a, x ≤ B
 | [], _, h, _ => h
 | l :: ls, a, h, h2 => pw B ls (fq a l) (fun x hx => by
   obtain ⟨i, hi⟩ := List.mem_iff_getElem?.1 hx
   unfold fq at hi
   rw [List.getElem?_zipWith] at hi
   cases h3 : a[i]? with
   | none => rw [h3] at hi; cases hi
   | some p =>
    cases h4 : l[i]? with
    | none => rw [h3, h4] at hi; cases hi
    | some q =>
     rw [h3, h4] at hi
     have h5 : max p q = x := by simpa using hi
     have := h p (List.mem_of_getElem? h3)
     have := h2 l List.mem_cons_self q (List.mem_of_getElem? h4)
     omega) fun m hm => h2 m (List.mem_cons_of_mem _ hm)
end Go.Proofs.YtioilmppidlbnaaGreatDoor
/- The walk through lift.raised. -/
namespace Go.Proofs.YtioilmppidlbnaaGreatDoor
open Go.RowKit
def FX.ns (f : FX) : List Nat := f.ds.map Int.toNat
theorem FX.fv {f : FX} (h : f.e = 0) : f.ds = aW f.ns ∧ f.cs = (f.cs.map NR.d).map nR ∧ f.ns.length ≤ 12 ∧ (∀ d ∈ f.ns, d ≤ 127) ∧ f.cs.length = av f.ns ∧ av f.ns ≤ 4096 := by
 obtain ⟨ns, xs, hv, hxs⟩ := wi h
 obtain ⟨h1, h2, h3, h4, h5, h6⟩ := hv
 have e : f.ns = ns := by unfold FX.ns; rw [h1]; exact eN ns
 subst hxs
 rw [e]
 exact ⟨h1, h2, h3, h4, by simpa using h5, h6⟩
structure qU (D : List Nat) (ys : List Dyadic) (g : FX) : Prop where
 ds : g.ds = aW D
 cs : g.cs = ys.map nR
 n : g.n = D.length
 m : g.m = av D
def eO (D : List Nat) (f : FX) : List Dyadic := iA f.ns D (f.cs.map NR.d)
def kx (a b : List Nat) (j : Nat) : List Nat := (fq a b).take j ++ a.drop j
theorem qE {a b : List Nat} {j x y : Nat} (h : a.length = b.length) (hx : a[j]? = some x) (hy : b[j]? = some y) : (aW (kx a b j)).set j ((max x y : Nat) : Int) = aW (kx a b (j + 1)) := by
 have hj := (List.getElem?_eq_some_iff.1 hx).1
 unfold kx
 rw [j0 hx, aO (p9 hx hy)]
 have hl : (aW ((fq a b).take j)).length = j := by rw [cj, List.length_take, iJ h]; omega
 have e1 : aW ((fq a b).take j ++ x :: a.drop (j + 1)) = aW ((fq a b).take j) ++ (x : Int) :: aW (a.drop (j + 1)) := by simp [aW]
 rw [e1, ld _ _ _ _ _ hl]
 simp [aW]
theorem tv {a b : List Nat} {j x : Nat} (h : a.length = b.length) (hx : a[j]? = some x) : (kx a b j)[j]? = some x := by
 have hj := (List.getElem?_eq_some_iff.1 hx).1
 have hl : ((fq a b).take j).length = j := by rw [List.length_take, iJ h]; omega
 unfold kx
 rw [List.getElem?_append_right (by omega), hl, Nat.sub_self, List.getElem?_drop, Nat.add_zero, hx]
theorem rF {a b : List Nat} {j : Nat} (h : a.length = b.length) (hj : j ≤ a.length) : (kx a b j).length = a.length := by
 unfold kx
 rw [List.length_append, List.length_take, iJ h, List.length_drop]
 omega
theorem ot (L : Option Addr) (n c : Nat) (fs : List FX) (k : Nat) (w : World) (hT : iu w) (hL : Sl w L n 2 (bF FX.cells fs)) (hn : n ≤ 1000) (hf : ∀ f ∈ fs, f.at_ w) (hl : ∀ f ∈ fs, f.iC k) (hm : ∀ f ∈ fs, f.m ≤ 200) (hk : k ≤ 90000) :
  Calls Tryz.prog 54 #[.slice L n c] w fun r w' => (ct fs ≠ 0 ∧ r = .returned (.tuple #[.slice none 0 0, .int .i64 (ct fs)]) ∧ Below w.heap.size w w') ∨
   (ct fs = 0 ∧ ∃ (A : Option Addr) (a : Nat) (gs : List FX), r = .returned (.tuple #[.slice A n a, .int .i64 0]) ∧ gs.length = n ∧ (∀ (i : Nat) (f g : FX), fs[i]? = some f → gs[i]? = some g → qU (maxD fs) (eO (maxD fs) f) g) ∧ Hp w (.row A n a 28 2 (bF FX.cells gs) :: hQ gs.reverse) w') := by
 have hh := Hp.start w
 have hln := hL.cP FX.len (by decide)
 have hlk := fun w1 hT1 hb => mc L n c fs k w1 hT1 (hL.ext hb) (by omega) (fun f hm => (hf f hm).ext hb) hl
 unfold ct
 by_cases h0 : eb fs = 0
 ·obtain ⟨hne, hev, hnv⟩ := gA h0
  obtain ⟨f0, h00⟩ := ar (l := fs) (k := 0) (List.length_pos_iff.2 hne)
  have hm0 := List.mem_of_getElem? h00
  have hnn : ∀ f ∈ fs, f.n = f0.n := fun f hm => by
   rw [hnv f hm]
   rcases fs with _ | ⟨g, l⟩
   ·cases h00
   ·have : g = f0 := by simpa using h00
    rw [← this]; rfl
  have hnsl : ∀ f ∈ fs, f.ns.length = f0.n := fun f hm => by
   have h1 := (hf f hm).dg.1
   rw [bV] at h1
   have h2 := hnn f hm
   unfold FX.ns
   rw [List.length_map]
   omega
  have hlow : ∀ f ∈ fs, ∀ d ∈ f.ns, d ≤ 127 := fun f hm => (FX.fv (hev f hm)).2.2.2.1
  have hdsn : ∀ f ∈ fs, f.ds = aW f.ns := fun f hm => (FX.fv (hev f hm)).1
  have h12 : f0.n ≤ 12 := by have := (FX.fv (hev f0 hm0)).2.2.1; rw [hnsl f0 hm0] at this; exact this
  have hDe : maxD fs = (fs.map FX.ns).foldl fq f0.ns := by
   unfold maxD
   rw [List.foldl_map]
   congr 1
   rcases fs with _ | ⟨g, l⟩
   ·cases h00
   ·have : g = f0 := by simpa using h00
    rw [← this]; rfl
  obtain ⟨ad, rfl, hr⟩ := hL.at_ (by have := (List.getElem?_eq_some_iff.1 h00).1; omega)
  have hn0 : 0 < n := by have := (List.getElem?_eq_some_iff.1 h00).1; omega
  rw [if_neg (by omega)]
  have hA0 := hnsl f0 hm0
  have hF := fun i => mn ((fs.take i).map FX.ns) f0.ns fun l hl => by
   obtain ⟨f, hf2, rfl⟩ := List.mem_map.1 hl
   rw [hnsl f (List.mem_of_mem_take hf2), hA0]
  refine ao (N := 71) (l := [.slice (some ad) n c]) Tryz.func54 rfl rfl (by simp) ?_
  refine sr (aL (aI (aa (ah (sr (mL ?_))))))
  refine bJ hh (hlk _ (hT.hp hh) hh.below) rfl ?_
  intro w16 hh
  refine aI (aa (sr (mI ?_)))
  refine dK (aa (cF (ak (ai (sr (mL ?_))))))
  refine aF (k := 0) aH.out aE.size rfl rfl (by omega) (by omega) (by decide) ?_
  refine gK eB.out rfl (by decide) ?_
  refine aN aE.out rfl (cM hh.below ((hr.recAt FX.len h00) 0 _ rfl)) (by decide) ?_
  refine a6 (kT f0.A f0.n f0.a f0.ds _ ((hf f0 hm0).dg.ext hh.below) (by have := (hl f0 hm0).Aa; omega)) az.out rfl (by decide) ?_
  rintro e_ w24 ⟨A24, c24, rfl, hown_, hb_⟩
  refine ⟨_, rfl, ?_⟩
  replace hh := hh.bu (x := .row _ _ _ _ _ _) hb_ hown_
  refine aL (aa (ah (sr (mL (aQ (mI (aa (aj ?_))))))))
  rw [hdsn f0 hm0] at hh
  refine bp [7, 8, 9, 27, 28, 29, 30, 31, 32, 33, 34, 35, 36, 37, 38, 39, 40, 41, 42, 43, 44, 45, 46, 47, 48, 49] 27
   (fun v w' => ∃ i : Nat, i ≤ n ∧ v = .int .i64 i ∧ Hp w [.row A24 f0.n c24 3 1 (bs (aW (((fs.take i).map FX.ns).foldl fq f0.ns)))] w')
   (fun v _ => n - (intOf v).toNat) ?_ ?_
  ·exact ⟨0, Nat.zero_le _, rfl, hh⟩
  ·clear hh
   rintro ρ' v w' ⟨i, hi, rfl, hh⟩
   by_cases hlt : i < n
   ·obtain ⟨f, hx⟩ := ar (l := fs) (k := i) (by omega)
    have hmem := List.mem_of_getElem? hx
    have hfold : ((fs.take (i + 1)).map FX.ns).foldl fq f0.ns = fq (((fs.take i).map FX.ns).foldl fq f0.ns) f.ns := by rw [aO hx, List.map_append, List.foldl_append]; rfl
    have hal := (hF i).1
    generalize ((fs.take i).map FX.ns).foldl fq f0.ns = a at *
    have hab : a.length = f.ns.length := by rw [hal, hA0, hnsl f hmem]
    have hfd := hdsn f hmem
    have hfn := hnn f hmem
    have hfl := hnsl f hmem
    refine sr ?_
    refine aG (aa (ah (cT (ak (ai (ah (aj (sr ?_))))))))
    refine aF (k := i) aH.out aE.size rfl rfl (by omega) (by omega) (by decide) ?_
    refine cW (vs := [_, _]) aE.out rfl ((hr.ext hh.below).recAt FX.len hx) rfl (by decide) ?_
    refine cS hh ?_
    intro b7 w7 hh
    refine bY hh 0 [_,_] ?_
    intro ws hh
    replace hh : Hp _ (.blk _ _ [_, _] _ :: _) _ := hh
    refine aa (sr (bI ?_))
    refine bP hh 0 ?_
    refine aQ (mI (aa (aj ?_)))
    refine bp [8, 9, 34, 35, 36, 37, 38, 39, 40, 41, 42, 43, 44, 45, 46, 47, 48] 34
     (fun v w' => ∃ j : Nat, j ≤ f0.n ∧ v = .int .i64 j ∧ Hp w [.blk b7 28 [.slice f.A f.n f.a, .slice f.B f.m f.b] (0, 0), .row A24 f0.n c24 3 1 (bs (aW (kx a f.ns j)))] w')
     (fun v _ => f0.n - (intOf v).toNat) ?_ ?_
    ·refine ⟨0, Nat.zero_le _, rfl, ?_⟩
     show Hp w [_, .row A24 f0.n c24 3 1 (bs (aW (List.take 0 _ ++ List.drop 0 a)))] _
     rw [List.take_zero, List.nil_append, List.drop_zero]
     exact hh
    ·clear hh
     rintro ρ2 v w2 ⟨j, hj, rfl, hh⟩
     by_cases hjn : j < f0.n
     ·obtain ⟨x, hxa⟩ := ar (l := a) (k := j) (by omega)
      obtain ⟨y, hyb⟩ := ar (l := f.ns) (k := j) (by omega)
      have hgx := bB (cA (tv hab hxa))
      have hgy : (bs f.ds)[j]? = some (.int .i64 (y : Int)) := by rw [hfd]; exact bB (cA hyb)
      have hml : (bs (aW (kx a f.ns j))).length = f0.n := by rw [bV, cj, rF hab (by omega)]; omega
      obtain ⟨a2, hA2, s2⟩ := (hf f hmem).dg.at_ (by omega)
      have hev : Value.slice f.A f.n f.a = .slice (some a2) f.n f.a := by rw [hA2]
      obtain ⟨gd, rfl⟩ := hh.cK (i := 1) rfl (by omega)
      refine sr ?_
      refine aG (aa (ah (cT (ak (ai (ah (aj (sr (mI ?_)))))))))
      refine aF (k := j) aH.out aE.size hev rfl (by omega) (by omega) (by decide) ?_
      refine aN aE.out rfl (cM hh.below (s2.dR hgy)) (by decide) ?_
      refine aI (aI (aa (al (mL (mI (mL (mI ?_)))))))
      refine bj (k := j) aH.out aE.size rfl rfl (by omega) (by omega) (by decide) ?_
      refine aN aE.out rfl (hh.ck (i := 1) rfl (by first | assumption | (simp only [Nat.mul_one]; assumption))) (by decide) ?_
      refine mI ?_
      refine jw rfl rfl (by decide) ?_
      refine bj aH.out aE.size rfl rfl rfl (by omega) (by decide) ?_
      have hmx : (if (y : Int) > (x : Int) then (y : Int) else (x : Int)) = ((max x y : Nat) : Int) := by split <;> omega
      refine bx hh (i := 1) (vs := [_]) rfl rfl (bU rfl) rfl aE.out rfl (by omega) rfl ?_
      intro ws hh
      simp only [List.set_cons_zero, List.set_cons_succ] at hh
      rw [hmx, eD _ (by rw [← bV]; omega), qE hab hxa hyb] at hh
      refine aC (aT (ai (al ?_)))
      refine bz (mI (aC (ai ?_)))
      refine ⟨⟨j + 1, by omega, rfl, hh⟩, by show f0.n - (j + 1) < f0.n - j; omega, ?_⟩
      (repeat (first | exact aw _ _ _ | refine ay rfl ?_ | refine au rfl ?_))
     ·obtain rfl : j = f0.n := by omega
      have hmf : kx a f.ns f0.n = fq a f.ns := by
       unfold kx
       rw [List.take_of_length_le (by rw [iJ hab]; omega), List.drop_of_length_le (by omega), List.append_nil]
      rw [hmf, ← hfold] at hh
      refine sr ?_
      refine aG (aa (ah (cF ?_)))
      refine aJ ?_
      refine ax (ax (aZ (aT (ai (al ?_)))))
      refine bz (mI (aC (ai ?_)))
      replace hh := hh.sub (List.Sublist.cons _ (List.Sublist.cons_cons _ List.Sublist.slnil))
      refine ⟨⟨i + 1, by omega, rfl, hh⟩, by show n - (i + 1) < n - i; omega, ?_⟩
      (repeat (first | exact aw _ _ _ | refine ay rfl ?_ | refine au rfl ?_))
   ·obtain rfl : i = n := by omega
    have hDl := (hF i).1
    have hDg := fun (f : FX) (hm : f ∈ fs) => (hF i).2.2 f.ns (List.mem_map.2 ⟨f, by rw [List.take_of_length_le (by omega)]; exact hm, rfl⟩)
    have hDb := pw 127 ((fs.take i).map FX.ns) f0.ns (hlow f0 hm0) fun l hl => by
     obtain ⟨f, hf2, rfl⟩ := List.mem_map.1 hl
     exact hlow f (List.mem_of_mem_take hf2)
    rw [List.take_of_length_le (by omega), ← hDe] at hDl hDb hh
    simp only [List.take_of_length_le (show fs.length ≤ i by omega), ← hDe] at hDg
    clear hF hDe
    generalize maxD fs = D at *
    have hrz : ∀ f ∈ fs, kK f.ds (aW D) = if 4096 < av D then 3 else 0 := fun f hm => by
     unfold kK
     have e1 : (f.ds.zip (aW D)).any ix = false := List.any_eq_false.2 fun p hp => by
      obtain ⟨j, hj⟩ := List.mem_iff_getElem?.1 hp
      rw [List.getElem?_zip_eq_some] at hj
      obtain ⟨j1, j2⟩ := hj
      rw [hdsn f hm] at j1
      unfold aW at j1 j2
      rw [List.getElem?_map] at j1 j2
      obtain ⟨x, hx, hx2⟩ := Option.map_eq_some_iff.1 j1
      obtain ⟨y, hy, hy2⟩ := Option.map_eq_some_iff.1 j2
      have := hDg f hm j x y hx hy
      have := hDb y (List.mem_of_getElem? hy)
      unfold ix
      rw [decide_eq_true_eq]
      omega
     rw [if_neg (by rw [cj, hdsn f hm, cj, hnsl f hm]; omega), if_neg (by rw [e1]; decide), eN]
    refine sr ?_
    refine aG (aa (ah (cF ?_)))
    refine aJ ?_
    refine ax (ax (aZ (ai (sr (aL (aa (ah (sr (mL (aQ (mI ?_)))))))))))
    refine aa (aj ?_)
    replace hh := hh.dx 28 2
    refine bX [2, 3, 10, 12, 13, 14, 52, 53, 54, 55, 56, 57, 58, 59, 60, 61, 62, 63, 64, 65, 66, 67, 68, 69] 10 52
     (fun v10 v w' => ∃ (j c10 : Nat) (A : Option Addr) (gs : List FX), j ≤ i ∧ v = .int .i64 j ∧ v10 = .slice A j c10 ∧ gs.length = j ∧ (0 < j → ¬ 4096 < av D) ∧ (∀ (t : Nat) (f g : FX), fs[t]? = some f → gs[t]? = some g → qU D (eO D f) g) ∧ Hp w (.row A j c10 28 2 (bF FX.cells gs) :: .row A24 f0.n c24 3 1 (bs (aW D)) :: hQ gs.reverse) w')
     (fun _ v _ => i - (intOf v).toNat) ?_ ?_
    ·exact ⟨0, 0, none, [], Nat.zero_le _, rfl, rfl, rfl, fun h => absurd h (Nat.lt_irrefl 0), fun t f g _ h => by simp at h, hh⟩
    ·clear hh
     rintro ρ' v10 v w' ⟨j, c10, A, gs, hj, rfl, rfl, hgl, hno, hup, hh⟩
     by_cases hlt : j < i
     ·obtain ⟨f, hx⟩ := ar (l := fs) (k := j) (by omega)
      have hmem := List.mem_of_getElem? hx
      refine sr ?_
      refine aG (aa (ah (cT (ak (ai (ah (aj (sr ?_))))))))
      refine aF (k := j) aH.out aE.size rfl rfl (by omega) (by omega) (by decide) ?_
      refine cW (vs := [_, _]) aE.out rfl ((hr.ext hh.below).recAt FX.len hx) rfl (by decide) ?_
      refine cS hh ?_
      intro b12 w12 hh
      refine bY hh 0 [_,_] ?_
      intro ws hh
      replace hh : Hp _ (.blk _ _ [_, _] _ :: _) _ := hh
      refine aa (sr ?_)
      refine dk hh 0 [_,_] (mL ?_)
      have hrs := fun w1 hT1 hb hE => lF f A24 f0.n c24 (aW D) k w1 hT1 ((hf f hmem).ext hb) (hl f hmem) hE (by omega) hk
      rw [hrz f hmem, eN] at hrs
      by_cases h4 : 4096 < av D
      ·rw [if_pos h4] at hrs
       have hra := fun w1 hT1 hb hE => (hrs w1 hT1 hb hE fun _ h => nomatch h).mono fun r w' h => show r = om 3 ∧ Below w1.heap.size w1 w' from by
        rcases h with ⟨h | h, hb2⟩ | h
        ·exact absurd (hev f hmem) h.1
        ·exact ⟨h.2.2, hb2⟩
        ·exact nomatch h.2.1
       refine bJ hh (hra _ (hT.hp hh) hh.below (hh.aX (i := 2) rfl)) rfl ?_
       intro w59 hh
       refine mT ?_
       refine eT ?_
       refine eT ?_
       refine cS hh ?_
       intro b13 w13 hh
       refine bY hh 0 [_,_] ?_
       intro ws hh
       replace hh : Hp _ (.blk _ _ [_, _] _ :: _) _ := hh
       refine aI (aa (ah (sr (mI ?_))))
       refine dK (aa (cT (sr (mI (aL (aI (aa (aq (aM (bR (aM ?_)))))))))))
       refine aM (bR (aM ?_))
       refine vc ?_
       rw [if_pos h4]
       exact .inl ⟨by decide, rfl, hh.below⟩
      ·rw [if_neg h4] at hrs
       have hnn2 : f.ds.map Int.toNat = f.ns := rfl
       rw [hnn2] at hrs
       have hfc : av f.ns ≤ 200 := by
        have h1 := (FX.fv (hev f hmem)).2.2.2.2.1
        have h2 := (hf f hmem).nm.cP NR.len (by decide)
        have h3 := hm f hmem
        omega
       have hmul : av D * av f.ns ≤ 1000000 := Nat.le_trans (Nat.mul_le_mul (Nat.le_of_not_lt h4) hfc) (by decide)
       have hra := fun w1 hT1 hb hE => (hrs w1 hT1 hb hE fun _ _ => hmul).mono fun r w' h => show ∃ g : FX, qU D (eO D f) g ∧ r = .returned (.tuple #[.agg #[.slice g.A g.n g.a, .slice g.B g.m g.b], .int .i64 0]) ∧ Hp w1 [g.fI, g.fB] w' from by
        rcases h with ⟨h | h, hb2⟩ | ⟨_, _, A1, a1, B1, b1, rfl, h2⟩
        ·exact absurd (hev f hmem) h.1
        ·exact absurd rfl h.2.1
        ·exact ⟨⟨A1, f0.n, a1, B1, av D, b1, aW D, _⟩, ⟨rfl, rfl, by rw [← hA0]; exact hDl.symm, rfl⟩, rfl, h2⟩
       refine a6 (hra _ (hT.hp hh) hh.below (hh.aX (i := 2) rfl)) az.out rfl (by decide) ?_
       rintro e_ w59 ⟨g, hu, rfl, h2⟩
       refine ⟨_, rfl, ?_⟩
       replace hh := hh.join h2
       clear h2
       refine mT ?_
       refine eT ?_
       refine eT ?_
       refine cS hh ?_
       intro b13 w13 hh
       refine bY hh 0 [_,_] ?_
       intro ws hh
       replace hh : Hp _ (.blk _ _ [_, _] _ :: _) _ := hh
       refine aI (aa (ah (sr (mI ?_))))
       refine dK (aa (cF (ak (ai (al (mL ?_))))))
       refine dk hh 0 [_,_] ?_
       refine aP hh (cs := [_, _]) aH.out aE.out (aY (de rfl) bO) rfl rfl (by decide) (by decide) (by decide) rfl (by decide) ?_
       intro b67 w67 hh
       refine cu hh (i := 5) rfl rfl rfl (hh.aX (i := 0) rfl) aH.out aE.out rfl (by decide) (by first | rfl | exact bZ _ | exact bK _ | exact bC _ | exact bL NR.one _) (by omega) (by omega) (by decide) ?_
       intro A68 c68 w68 hh
       simp only [List.set_cons_succ] at hh
       replace hh := hh.sub (List.sublist_cons_self _ _)
       refine aL (aC (aT (ai (al ?_))))
       refine bz (mI (aC (ai ?_)))
       replace hh := hh.sub (List.Sublist.cons _ (List.Sublist.cons_cons _ (List.Sublist.cons_cons _ (List.Sublist.cons _ (List.Sublist.cons_cons _ (List.Sublist.cons_cons _ (List.Sublist.refl _)))))))
       replace hh := hh.perm (H' := .row A68 (j + 1) c68 28 2 (bF FX.cells (gs ++ [g])) :: .row A24 f0.n c24 3 1 (bs (aW D)) :: hQ (gs ++ [g]).reverse) (by
        rw [List.reverse_append, dp]
        exact List.perm_append_comm_assoc [g.fI, g.fB] [_, _] _)
       refine ⟨⟨j + 1, c68, A68, gs ++ [g], by omega, rfl, rfl, by rw [List.length_append, hgl]; rfl, fun _ => h4, fun t f' g' hf' hg' => ?_, hh⟩, by show i - (j + 1) < i - j; omega, ?_⟩
       ·by_cases ht : t < j
        ·rw [List.getElem?_append_left (by omega)] at hg'
         exact hup t f' g' hf' hg'
        ·have htl := (List.getElem?_eq_some_iff.1 hg').1
         rw [List.length_append, hgl] at htl
         obtain rfl : t = j := by have : t < j + 1 := htl; omega
         rw [List.getElem?_append_right (by omega), hgl, Nat.sub_self] at hg'
         rw [hx] at hf'
         obtain rfl := Option.some.inj hf'
         obtain rfl : g = g' := Option.some.inj hg'
         exact hu
       ·(repeat (first | exact aw _ _ _ | refine ay rfl ?_ | refine au rfl ?_))
     ·obtain rfl : j = i := by omega
      have h4 := hno (by omega)
      refine sr ?_
      refine aG (aa (ah (cF ?_)))
      refine aJ ?_
      refine ax (ax (aZ (ai (sr (mL (aL (aI (aa (aq ?_)))))))))
      refine vc ?_
      rw [if_neg h4]
      exact .inr ⟨rfl, A, c10, gs, rfl, hgl, hup, hh.sub (List.Sublist.cons_cons _ (List.sublist_cons_self _ _))⟩
 ·rw [if_pos h0]
  refine ao (N := 71) (l := [.slice L n c]) Tryz.func54 rfl rfl (by simp) ?_
  refine sr (aL (aI (aa (ah (sr (mL ?_))))))
  refine bJ hh (hlk _ (hT.hp hh) hh.below) rfl ?_
  intro w16 hh
  refine aI (aa (sr (mI ?_)))
  refine dK (aa (cT (sr (mI (aL (aI (aa (aq (aM ?_)))))))))
  refine vc ?_
  exact .inl ⟨h0, rfl, hh.below⟩
end Go.Proofs.YtioilmppidlbnaaGreatDoor
/- The walks through lift.Both and lift.Add. -/
namespace Go.Proofs.YtioilmppidlbnaaGreatDoor
open Go.RowKit
end Go.Proofs.YtioilmppidlbnaaGreatDoor
/- The walk through lift.Add. -/
namespace Go.Proofs.YtioilmppidlbnaaGreatDoor
open Go.RowKit
def gk (a b : List Dyadic) : List Dyadic := List.zipWith (· + ·) a b
def u0 : List (List Dyadic) → List Dyadic
 | [] => []
 | x :: l => l.foldl gk x
theorem jA {a b : List Dyadic} (h : a.length = b.length) : (gk a b).length = a.length := by simp [gk, h]
theorem xM {a b : List Dyadic} {i : Nat} {x y : Dyadic} (h1 : a[i]? = some x) (h2 : b[i]? = some y) : (gk a b)[i]? = some (x + y) := by
 unfold gk
 rw [List.getElem?_zipWith, h1, h2]
def jG (a b : List Dyadic) (j : Nat) : List Dyadic := (gk a b).take j ++ a.drop j
theorem qp {a b : List Dyadic} {j : Nat} {x y : Dyadic} (h : a.length = b.length) (hx : a[j]? = some x) (hy : b[j]? = some y) : (jG a b j).set j (x + y) = jG a b (j + 1) := by
 have hj := (List.getElem?_eq_some_iff.1 hx).1
 unfold jG
 have hl : ((gk a b).take j).length = j := by rw [List.length_take, jA h]; omega
 rw [j0 hx, aO (xM hx hy), List.set_append_right _ _ (by omega), hl, Nat.sub_self]
 simp
theorem tB {a b : List Dyadic} {j : Nat} {x : Dyadic} (h : a.length = b.length) (hx : a[j]? = some x) : (jG a b j)[j]? = some x := by
 have hj := (List.getElem?_eq_some_iff.1 hx).1
 have hl : ((gk a b).take j).length = j := by rw [List.length_take, jA h]; omega
 unfold jG
 rw [List.getElem?_append_right (by omega), hl, Nat.sub_self, List.getElem?_drop, Nat.add_zero, hx]
theorem q9 {a b : List Dyadic} {j : Nat} (h : a.length = b.length) (hj : j ≤ a.length) : (jG a b j).length = a.length := by
 unfold jG
 rw [List.length_append, List.length_take, jA h, List.length_drop]
 omega
theorem oP {a b : List Dyadic} {j : Nat} (h : a.length = b.length) (hj : j = a.length) : jG a b j = gk a b := by
 unfold jG
 rw [List.take_of_length_le (by rw [jA h]; omega), List.drop_of_length_le (by omega), List.append_nil]
theorem qI : ∀ {a b : List Nat}, a.length = b.length → av (dN a b) ≤ av a
 | [], [], _ => Nat.le_refl _
 | [], _ :: _, h => by simp at h
 | _ :: _, [], h => by simp at h
 | x :: a, y :: b, h => Nat.mul_le_mul (show x - y + 1 ≤ x + 1 by omega) (qI (by simpa using h))
theorem pA {k : Nat} : ∀ (ls : List (List Dyadic)) (a : List Dyadic) (j : Nat), (∀ x ∈ a, Sz (k + j) x) → (∀ l ∈ ls, ∀ x ∈ l, Sz k x) → ∀ x ∈ ls.foldl gk a, Sz (k + j + ls.length) x
 | [], _, _, h, _ => h
 | l :: ls, a, j, h, h2 => fun x hx => by
  have := pA (k := k) ls (gk a l) (j + 1) (fun y hy => by
   obtain ⟨i, hi⟩ := List.mem_iff_getElem?.1 hy
   unfold gk at hi
   rw [List.getElem?_zipWith] at hi
   cases h3 : a[i]? with
   | none => rw [h3] at hi; cases hi
   | some p =>
    cases h4 : l[i]? with
    | none => rw [h3, h4] at hi; cases hi
    | some q =>
     rw [h3, h4] at hi
     have h5 : p + q = y := Option.some.inj hi
     rw [← h5]
     exact (h p (List.mem_of_getElem? h3)).add ((h2 l List.mem_cons_self q (List.mem_of_getElem? h4)).mono (by omega))) (fun m hm => h2 m (List.mem_cons_of_mem _ hm)) x hx
  exact this.mono (by rw [List.length_cons]; omega)
theorem nW : ∀ (ls : List (List Dyadic)) (a : List Dyadic), (∀ l ∈ ls, l.length = a.length) → (ls.foldl gk a).length = a.length
 | [], _, _ => rfl
 | l :: ls, a, h => by
  have h1 := jA (h l List.mem_cons_self).symm
  rw [List.foldl_cons, nW ls (gk a l) fun m hm => by rw [h1]; exact h m (List.mem_cons_of_mem _ hm), h1]
theorem wL {f : FX} {D : List Nat} {k : Nat} (hl : f.iC k) (he : f.e = 0) (hm : f.cs.length ≤ 200) (hk : k ≤ 90000) (hlen : D.length = f.ns.length) (hD : ∀ d ∈ D, d ≤ 127) (hc : av D ≤ 4096) : ∀ x ∈ eO D f, Sz 1000000 x := fun x hx => by
 obtain ⟨_, _, h12, _, hcl, _⟩ := FX.fv he
 have hs := qI hlen
 have hmul : av (dN D f.ns) * av f.ns ≤ 4096 * 200 := Nat.mul_le_mul (by omega) (by omega)
 have := qe (sU (ds := f.ns.reverse) (es := (dN D f.ns).reverse) (xs := f.cs.map NR.d) (ys := (oq (dN D f.ns)).map nD) (k1 := k) (k2 := 1600) (fun y hy => by
  obtain ⟨c, hc2, rfl⟩ := List.mem_map.1 hy
  exact (hl.num c hc2).2) (fun y hy => by
  obtain ⟨c, hc2, rfl⟩ := List.mem_map.1 hy
  refine vU hc2 (by rw [iV hlen]; omega) fun d hd => ?_
  obtain ⟨i, hi⟩ := List.mem_iff_getElem?.1 hd
  unfold dN at hi
  rw [List.getElem?_zipWith] at hi
  cases h3 : D[i]? with
  | none => rw [h3] at hi; cases hi
  | some p =>
   cases h4 : f.ns[i]? with
   | none => rw [h3, h4] at hi; cases hi
   | some q =>
    rw [h3, h4] at hi
    have h5 : p - q = d := Option.some.inj hi
    have := hD p (List.mem_of_getElem? h3)
    omega) (av (dN D f.ns))) x hx
 rw [tu, cG] at this
 exact this.mono (by omega)
theorem Hp.yw {w0 w : World} {H : List HE} (h : Hp w0 H w) {i n c sz : Nat} {A : Option Addr} {t : TypeId} {xs : List Value} (hi : H[i]? = some (.row A n c t sz xs)) : n ≤ c := by
 have h1 : w.ownsRow w0.heap.size t sz (.slice A n c) n xs := h.at_ hi
 rcases h1.2 with ⟨_, h3⟩ | ⟨g, cap, cur, h2, _, _, h5, _⟩
 ·omega
 ·injection h2 with _ _ e3
  omega
theorem tO {f : FX} {D : List Nat} (hlen : D.length = f.ns.length) (hle : ∀ (i x y : Nat), f.ns[i]? = some x → D[i]? = some y → x ≤ y) : (eO D f).length = av D := by
 unfold eO iA g9
 rw [fy, jZ hlen.symm hle]
theorem kW {fs : List FX} (h : eb fs = 0) (hln : ∀ f ∈ fs, f.ds.length = f.n) : ∀ f ∈ fs, (maxD fs).length = f.ns.length ∧ (∀ (i x y : Nat), f.ns[i]? = some x → (maxD fs)[i]? = some y → x ≤ y) ∧ ∀ d ∈ maxD fs, d ≤ 127 := fun f hm => by
 obtain ⟨hne, hev, hnv⟩ := gA h
 obtain ⟨f0, ft, rfl⟩ := List.exists_cons_of_ne_nil hne
 have hns : ∀ g ∈ f0 :: ft, g.ns.length = f0.n := fun g hg => by
  unfold FX.ns
  rw [List.length_map, hln g hg, hnv g hg]
  rfl
 have hDe : maxD (f0 :: ft) = ((f0 :: ft).map FX.ns).foldl fq f0.ns := by
  unfold maxD
  rw [List.foldl_map]
  rfl
 have h0 := hns f0 List.mem_cons_self
 obtain ⟨h1, _, h3⟩ := mn ((f0 :: ft).map FX.ns) f0.ns fun l hl => by
  obtain ⟨g, hg, rfl⟩ := List.mem_map.1 hl
  rw [hns g hg, h0]
 rw [hDe]
 refine ⟨by rw [h1, h0, hns f hm], h3 f.ns (List.mem_map.2 ⟨f, hm, rfl⟩), pw 127 _ _ (FX.fv (hev f0 List.mem_cons_self)).2.2.2.1 fun l hl => ?_⟩
 obtain ⟨g, hg, rfl⟩ := List.mem_map.1 hl
 exact (FX.fv (hev g hg)).2.2.2.1
theorem sq (L : Option Addr) (n c : Nat) (fs : List FX) (k : Nat) (w : World) (hT : iu w) (hL : Sl w L n 2 (bF FX.cells fs)) (hn : n ≤ 1000) (hf : ∀ f ∈ fs, f.at_ w) (hl : ∀ f ∈ fs, f.iC k) (hm : ∀ f ∈ fs, f.m ≤ 200) (hk : k ≤ 90000) :
  Calls Tryz.prog 15 #[.slice L n c] w fun r w' => (ct fs ≠ 0 ∧ r = om (ct fs) ∧ Below w.heap.size w w') ∨
   (ct fs = 0 ∧ ∃ g : FX, qU (maxD fs) (u0 (fs.map (eO (maxD fs)))) g ∧ r = .returned (.tuple #[.agg #[.slice g.A g.n g.a, .slice g.B g.m g.b], .int .i64 0]) ∧ Hp w [g.fI, g.fB] w') := by
 have hh := Hp.start w
 have hln := hL.cP FX.len (by decide)
 have hrs := fun w1 hT1 hb => ot L n c fs k w1 hT1 (hL.ext hb) hn (fun f hm => (hf f hm).ext hb) hl hm hk
 by_cases h0 : ct fs = 0
 ·have hlk : eb fs = 0 := by
   unfold ct at h0
   split at h0
   ·rename_i h; exact absurd h0 h
   ·rename_i h; simpa using h
  obtain ⟨hne, hev, _⟩ := gA hlk
  obtain ⟨f0, ft, rfl⟩ := List.exists_cons_of_ne_nil hne
  have hD4 : av (maxD (f0 :: ft)) ≤ 4096 := by
   unfold ct at h0
   rw [if_neg (by omega)] at h0
   split at h0
   ·cases h0
   ·omega
  have hDs : ∀ f ∈ f0 :: ft, f.cs.length ≤ 200 ∧ (maxD (f0 :: ft)).length = f.ns.length ∧ (∀ d ∈ maxD (f0 :: ft), d ≤ 127) ∧ (eO (maxD (f0 :: ft)) f).length = av (maxD (f0 :: ft)) := fun f hm2 => by
   obtain ⟨h1, h2, h3⟩ := kW hlk (fun g hg => by have := (hf g hg).dg.1; rw [bV] at this; omega) f hm2
   have h4 := (hf f hm2).nm.cP NR.len (by decide)
   have h5 := hm f hm2
   exact ⟨by omega, h1, h3, tO h1 h2⟩
  have hsz := fun f hm => wL (hl f hm) (hev f hm) (hDs f hm).1 hk (hDs f hm).2.1 (hDs f hm).2.2.1 hD4
  have hxl := fun f hm => (hDs f hm).2.2.2
  clear hDs
  rw [h0] at hrs
  generalize maxD (f0 :: ft) = D at *
  have hra := fun w1 hT1 hb => (hrs w1 hT1 hb).mono fun r w' h => show ∃ (A : Option Addr) (a n0 a0 go b0 : Nat) (A0 : Option Addr) (gs : List FX), r = .returned (.tuple #[.slice A n a, .int .i64 0]) ∧ gs.length = ft.length ∧ n0 = D.length ∧ (∀ (i : Nat) (f g : FX), ft[i]? = some f → gs[i]? = some g → qU D (eO D f) g) ∧
    Hp w1 (.row A n a 28 2 (bF FX.cells (⟨A0, n0, a0, some ⟨go, 0, none⟩, av D, b0, aW D, (eO D f0).map nR⟩ :: gs)) :: .row (some ⟨go, 0, none⟩) (av D) b0 39 3 (bF NR.cells ((eO D f0).map nR)) :: .row A0 n0 a0 3 1 (bs (aW D)) :: hQ gs.reverse) w' from by
   rcases h with h | ⟨_, A, a, gs, h1, h2, h3, h4⟩
   ·exact absurd rfl h.1
   ·obtain ⟨g0, gs, rfl⟩ := List.exists_cons_of_ne_nil (l := gs) (by intro e; rw [e] at h2; rw [← hln] at h2; cases h2)
    obtain ⟨e1, e2, e3, e4⟩ := h3 0 f0 g0 rfl rfl
    rw [List.reverse_cons, pZ] at h4
    have h5 := h4.perm (H' := .row A n a 28 2 (bF FX.cells (g0 :: gs)) :: g0.fI :: g0.fB :: hQ gs.reverse) (.cons _ List.perm_append_comm)
    obtain ⟨A0, n0, a0, B0, m0, b0, ds0, cs0⟩ := g0
    cases e1; cases e2; cases e4
    obtain ⟨go, rfl⟩ := h5.cK (i := 1) rfl (cX D)
    exact ⟨A, a, n0, a0, go, b0, A0, gs, h1, by rw [← hln] at h2; simpa using h2, e3, fun i f g hf hg => h3 (i + 1) f g hf hg, h5⟩
  clear hrs
  have hnp : ft.length + 1 = n := hln
  refine ao (N := 53) (l := [.slice L n c]) Tryz.func15 rfl rfl (by simp) ?_
  refine sr ?_
  refine cS hh ?_
  intro b2 w2 hh
  refine aI (aa (sr (mL ?_)))
  refine a6 (hra _ (hT.hp hh) hh.below) az.out rfl (by decide) ?_
  rintro e_ w13 ⟨A, a, n0, a0, go, b0, A0, gs, rfl, hgl, hn0, hup, h2⟩
  refine ⟨_, rfl, ?_⟩
  replace hh := (hh.join h2).perm List.perm_append_comm
  obtain ⟨gq, rfl⟩ := hh.cK (i := 1) rfl (by omega)
  have hca := hh.yw (i := 1) rfl
  refine mT ?_
  refine eT ?_
  refine eT ?_
  refine aL (aI (aa (ah (sr (mI ?_)))))
  refine dK (aa (cF (ak (ai (sr (mL ?_))))))
  refine cI aH.out aE.size rfl rfl (by omega) (by omega) (by decide) ?_
  refine cW (vs := [_, _]) aE.out rfl (hh.fK (i := 1) rfl FX.len (by decide) (show (_ :: gs)[0]? = some _ from rfl)) rfl (by decide) ?_
  refine cS hh ?_
  intro b6 w6 hh
  refine bY hh 0 [_,_] ?_
  intro ws hh
  replace hh : Hp _ (.blk _ _ [_, _] _ :: _) _ := hh
  refine aa (ah (sr (mL ?_)))
  refine bq rfl rfl (by decide) (vC aH.out aE.size rfl rfl (l := 1) rfl (by omega) (by omega)) ?_
  refine aQ (mI (aa (aj ?_)))
  have hx0 := hxl f0 List.mem_cons_self
  have hxi : ∀ (i : Nat), (((ft.take i).map (eO D)).foldl gk (eO D f0)).length = av D := fun i => by
   rw [nW _ _ fun l hl => ?_, hx0]
   obtain ⟨f, hf2, rfl⟩ := List.mem_map.1 hl
   rw [hx0, hxl f (List.mem_cons_of_mem _ (List.mem_of_mem_take hf2))]
  have hzi : ∀ (i : Nat), ∀ x ∈ ((ft.take i).map (eO D)).foldl gk (eO D f0), Sz 1001000 x := fun i x hx => by
   refine (pA (k := 1000000) _ _ 0 (hsz f0 List.mem_cons_self) (fun l hl => ?_) x hx).mono ?_
   ·obtain ⟨f, hf2, rfl⟩ := List.mem_map.1 hl
    exact hsz f (List.mem_cons_of_mem _ (List.mem_of_mem_take hf2))
   ·rw [List.length_map, List.length_take]
    omega
  refine bp [8, 9, 10, 26, 27, 28, 29, 30, 31, 32, 33, 34, 35, 36, 37, 38, 39, 40, 41, 42, 43, 44, 45, 46, 47, 48, 49, 50, 51] 26
   (fun v w' => ∃ i : Nat, i ≤ n - 1 ∧ v = .int .i64 i ∧ Hp w (.blk b6 28 [.slice A0 n0 a0, .slice (some ⟨go, 0, none⟩) (av D) b0] (0, 0) :: .blk b2 28 [.slice none 0 0, .slice none 0 0] (0, 0) :: .row (some ⟨gq, 0, none⟩) n a 28 2 (bF FX.cells (⟨A0, n0, a0, some ⟨go, 0, none⟩, av D, b0, aW D, (eO D f0).map nR⟩ :: gs)) :: .row (some ⟨go, 0, none⟩) (av D) b0 39 3 (bF NR.cells ((((ft.take i).map (eO D)).foldl gk (eO D f0)).map nR)) :: .row A0 n0 a0 3 1 (bs (aW D)) :: hQ gs.reverse) w')
   (fun v _ => n - 1 - (intOf v).toNat) ?_ ?_
  ·exact ⟨0, Nat.zero_le _, rfl, hh⟩
  ·clear hh
   rintro ρ' v w' ⟨i, hi, rfl, hh⟩
   by_cases hlt : i < n - 1
   ·obtain ⟨f, hx⟩ := ar (l := ft) (k := i) (by omega)
    obtain ⟨g, hg⟩ := ar (l := gs) (k := i) (by omega)
    obtain ⟨A1, n1, a1, B1, m1, b1, ds1, cs1⟩ := g
    obtain ⟨e1, e2, e3, e4⟩ := hup i f _ hx hg
    cases e1; cases e2; cases e4
    have hmem := List.mem_reverse.2 (List.mem_of_getElem? hg)
    have hbk : Sl w' (if a = 1 then some ⟨gq, 0, none⟩ else (some ⟨gq, 0, none⟩ : Option Addr).map (·.add (1 * 2))) (n - 1) 2 (bF FX.cells gs) := (hh.aX (i := 2) rfl).back (by omega) hca
    obtain ⟨ab, hAb, sb⟩ := hbk.at_ (by omega)
    have hev : Value.slice (if a = 1 then some ⟨gq, 0, none⟩ else (some ⟨gq, 0, none⟩ : Option Addr).map (·.add (1 * 2))) (n - 1) (a - 1) = .slice (some ab) (n - 1) (a - 1) := by rw [hAb]
    have hfX : ((ft.take (i + 1)).map (eO D)).foldl gk (eO D f0) = gk (((ft.take i).map (eO D)).foldl gk (eO D f0)) (eO D f) := by rw [aO hx, List.map_append, List.foldl_append]; rfl
    have hxa := hxi i
    have hza := hzi i
    have hzb := hsz f (List.mem_cons_of_mem _ (List.mem_of_getElem? hx))
    generalize ((ft.take i).map (eO D)).foldl gk (eO D f0) = X at *
    refine sr ?_
    refine aG (aa (ah (cT (ak (ai (ah (aj (sr ?_))))))))
    refine aF (k := i) aH.out aE.size hev rfl (by omega) (by omega) (by decide) ?_
    refine cW (vs := [_, _]) aE.out rfl (show Rd _ _ [.slice A1 n1 a1, .slice B1 (av D) b1] from sb.recAt FX.len hg) rfl (by decide) ?_
    refine cS hh ?_
    intro b8 w8 hh
    refine bY hh 0 [_,_] ?_
    intro ws hh
    replace hh : Hp _ (.blk _ _ [_, _] _ :: _) _ := hh
    refine aa (sr (bI ?_))
    refine bP hh 0 ?_
    refine aQ (mI (aa (aj ?_)))
    refine bp [9, 10, 33, 34, 35, 36, 37, 38, 39, 40, 41, 42, 43, 44, 45, 46, 47, 48, 49, 50] 33
     (fun v w' => ∃ j : Nat, j ≤ av D ∧ v = .int .i64 j ∧ Hp w (.blk b8 28 [.slice A1 n1 a1, .slice B1 (av D) b1] (0, 0) :: .blk b6 28 [.slice A0 n0 a0, .slice (some ⟨go, 0, none⟩) (av D) b0] (0, 0) :: .blk b2 28 [.slice none 0 0, .slice none 0 0] (0, 0) :: .row (some ⟨gq, 0, none⟩) n a 28 2 (bF FX.cells (⟨A0, n0, a0, some ⟨go, 0, none⟩, av D, b0, aW D, (eO D f0).map nR⟩ :: gs)) :: .row (some ⟨go, 0, none⟩) (av D) b0 39 3 (bF NR.cells ((jG X (eO D f) j).map nR)) :: .row A0 n0 a0 3 1 (bs (aW D)) :: hQ gs.reverse) w')
     (fun v _ => av D - (intOf v).toNat) ?_ ?_
    ·exact ⟨0, Nat.zero_le _, rfl, hh⟩
    ·clear hh
     rintro ρ2 v w2 ⟨j, hj, rfl, hh⟩
     have hsB := iZ (hh.own _ (List.mem_append_right [_, _, _, _, _, _] (uF hmem).1))
     have hyl : (eO D f).length = av D := by
      have := hsB.cP NR.len (by decide)
      simpa using this
     by_cases hjn : j < av D
     ·obtain ⟨x, hx1⟩ := ar (l := X) (k := j) (by omega)
      obtain ⟨y, hy1⟩ := ar (l := eO D f) (k := j) (by omega)
      obtain ⟨a9, hA9, s9⟩ := hsB.at_ (by show 0 < av D; omega)
      have hev9 : Value.slice B1 (av D) b1 = .slice (some a9) (av D) b1 := by rw [show B1 = some a9 from hA9]
      have zx := hza x (List.mem_of_getElem? hx1)
      have zy := hzb y (List.mem_of_getElem? hy1)
      have hon : ((jG X (eO D f) j).map nR)[j]? = some (nR x) := by rw [List.getElem?_map, tB (by omega) hx1]; rfl
      have hyn : ((eO D f).map nR)[j]? = some (nR y) := by rw [List.getElem?_map, hy1]; rfl
      have hset := qp (a := X) (b := eO D f) (by omega) hx1 hy1
      have hsum := fun A cc w1 hT1 hS1 => kz A 2 cc [nR x, nR y] w1 hT1 hS1 (by simpa using ⟨zx.ok (by omega), zy.ok (by omega)⟩) 1001000 (by simpa [fH] using ⟨zx, zy.mono (by omega)⟩) (by omega)
      rw [show la ([nR x, nR y].map NR.d) = x + y by simp only [List.map_cons, List.map_nil, fH, mD]] at hsum
      have hll : ((jG X (eO D f) j).map nR).length = av D := by rw [List.length_map, q9 (by omega) (by omega), hxa]
      generalize jG X (eO D f) j = M at *
      have hrl := gi NR.len (M.map nR)
      refine sr ?_
      refine aG (aa (ah (cT (ak (ai (ah (aj (sr (mI ?_)))))))))
      refine aF (k := j) aH.out aE.size hev9 rfl (by omega) (by omega) (by decide) ?_
      refine cW (vs := [_, _, _]) aE.out rfl (s9.recAt NR.len hyn) rfl (by decide) ?_
      refine cS hh ?_
      intro b10 w10 hh
      refine aI ?_
      refine bY hh 0 [_,_,_] ?_
      intro ws hh
      replace hh : Hp _ (.blk _ _ [_, _, _] _ :: _) _ := hh
      refine aa ?_
      refine aK 11 [[(6, none)], [(38, some 0)], [(9, none)], [(6, none)], [(41, some 3)], [(9, none)], [(42, some 4), (43, some 5)], [(44, some 6)], [(10, none)], [(45, some 7), (46, some 8)], [(47, some 9)]] [(10, 48), (9, 47), (8, 46), (7, 45), (6, 44), (5, 43), (4, 42), (3, 41), (2, 40), (1, 39), (0, 38)] hh mixed (by kernel_rfl) ?_
      refine dv ?_
      refine dY 2 ?_
      refine dn ?_
      refine dv ?_
      refine dY 2 ?_
      refine dn ?_
      refine mu (j) ?_
      refine mh [_,_,_] (fun _ hj => hj.hp.fK (f := NR.cells) (x := nR x) (l := M.map nR) (i := 5) rfl NR.len (by decide) hon) ?_
      refine gU 0 [_,_,_] ?_
      refine rK [_,_,_,_,_,_] ?_
      refine cJ (i := 10) (Is (.agg #[.bool (nR (x + y)).neg, .string (nR (x + y)).cB, .int .i64 (nR (x + y)).e])) Is.ext ?_ ?_
      ·intro ρ1 w1 hj hR
       obtain ⟨A47, c47, h47, s47⟩ := hR.1
       exact ew rfl (dI az.out (bD h47 db)) (hsum A47 c47 _ (hT.hp hj.hp) s47) (fun _ _ hq => ⟨_, hq.1, hq.2, rfl⟩)
      refine bm ?_
      intro f W hJ hV
      have hb_11 := hJ.bl
      obtain ⟨v48, v47, v46, v45, v44, v43, v42, v41, v40, v39, v38, _⟩ := hV
      obtain ⟨A47, c47, e47, f47⟩ : Rows _ _ _ (f 9) W := v47
      replace hh := hJ.hp
      refine aU (bk (ae v48 (ae e47 (ae v46 (ae v45 (ae v44 (ae v43 (ae v42 (ae v41 (ae v40 (ae v39 (ae v38 aV)))))))))))) ?_
      dsimp only [cd]
      clear e47 hJ
      refine bj (k := j) aH.out aE.size rfl rfl (by omega) (by omega) (by decide) ?_
      refine bx hh (i := 5) (vs := [_, _, _]) rfl rfl (de rfl) rfl aE.out rfl (by omega) rfl ?_
      intro ws hh
      simp only [List.set_cons_zero, List.set_cons_succ] at hh
      rw [show cL (bF NR.cells (M.map nR)) (j * 3) [.bool (nR (x + y)).neg, .string (nR (x + y)).cB, .int .i64 (nR (x + y)).e] = bF NR.cells ((M.map nR).set j (nR (x + y))) from im NR.len (by omega), ← List.map_set, hset] at hh
      refine aC (aT (ai (al ?_)))
      refine bz (mI (aC (ai ?_)))
      replace hh := hh.sub (List.Sublist.cons _ (List.Sublist.cons_cons _ (List.Sublist.cons_cons _ (List.Sublist.cons_cons _ (List.Sublist.cons_cons _ (List.Sublist.cons_cons _ (List.Sublist.cons_cons _ (List.Sublist.refl _))))))))
      refine ⟨⟨j + 1, by omega, rfl, hh⟩, by show av D - (j + 1) < av D - j; omega, ?_⟩
      (repeat (first | exact aw _ _ _ | refine ay rfl ?_ | refine au rfl ?_))
     ·obtain rfl : j = av D := by omega
      rw [oP (by omega) (by omega), ← hfX] at hh
      refine sr ?_
      refine aG (aa (ah (cF ?_)))
      refine aJ ?_
      refine ax (ax (aZ (aT (ai (al ?_)))))
      refine bz (mI (aC (ai ?_)))
      replace hh := hh.sub (List.Sublist.cons _ (List.Sublist.cons_cons _ (List.Sublist.cons_cons _ (List.Sublist.cons_cons _ (List.Sublist.cons_cons _ (List.Sublist.cons_cons _ (List.Sublist.refl _)))))))
      refine ⟨⟨i + 1, by omega, rfl, hh⟩, by show n - 1 - (i + 1) < n - 1 - i; omega, ?_⟩
      (repeat (first | exact aw _ _ _ | refine ay rfl ?_ | refine au rfl ?_))
   ·obtain rfl : i = n - 1 := by omega
    rw [List.take_of_length_le (by omega)] at hh
    refine sr ?_
    refine aG (aa (ah (cF ?_)))
    refine aJ ?_
    refine ax (ax (aZ (ai (sr ?_))))
    refine dk hh 0 [_,_] ?_
    refine bY hh 1 [_,_] ?_
    intro ws hh
    replace hh : Hp _ (_ :: .blk _ _ [_, _] _ :: _) _ := hh
    refine aI (aa (aq ?_))
    refine og (bf rfl (bg (vs := [_, _]) aE.out (hh.aD (i := 1) (n := 2) rfl rfl) rfl) (dq (et rfl) bA)) ?_
    exact .inr ⟨h0, ⟨A0, n0, a0, some ⟨go, 0, none⟩, av D, b0, aW D, _⟩, ⟨rfl, rfl, hn0, rfl⟩, rfl, hh.sub (.cons _ (.cons _ (.cons _ (List.sublist_append_left [_, _] _))))⟩
 ·have hra := fun w1 hT1 hb => (hrs w1 hT1 hb).mono fun r w' h => show r = .returned (.tuple #[.slice none 0 0, .int .i64 (ct fs)]) ∧ Below w1.heap.size w1 w' from by
   rcases h with h | h
   ·exact h.2
   ·exact absurd h.1 h0
  generalize ct fs = e at *
  refine ao (N := 53) (l := [.slice L n c]) Tryz.func15 rfl rfl (by simp) ?_
  refine sr ?_
  refine cS hh ?_
  intro b2 w2 hh
  refine aI (aa (sr (mL ?_)))
  refine bJ hh (hra _ (hT.hp hh) hh.below) rfl ?_
  intro w13 hh
  refine mT ?_
  refine eT ?_
  refine eT ?_
  refine aL (aI (aa (ah (sr (mI ?_)))))
  refine dK (aa (cT (sr ?_)))
  refine fi [_,_] (mI ?_)
  refine bY hh 0 [_,_] ?_
  intro ws hh
  replace hh : Hp _ (.blk _ _ [_, _] _ :: _) _ := hh
  refine aI (aa (aq (aM ?_)))
  refine og (bf rfl (bg (vs := [_, _]) aE.out (hh.aD (i := 0) (n := 2) rfl rfl) rfl) (dq (et rfl) bA)) ?_
  exact .inl ⟨h0, rfl, hh.below⟩
end Go.Proofs.YtioilmppidlbnaaGreatDoor
/- The walks through lift.Mul and lift.Scale. -/
namespace Go.Proofs.YtioilmppidlbnaaGreatDoor
open Go.RowKit
def jM (f g : FX) : Int := if eb [f, g] ≠ 0 then eb [f, g] else if iB (bH f.ns g.ns) = true then 3 else 0
def ni (a b : List Nat) (j : Nat) : List Nat := (bH a b).take j ++ a.drop j
theorem vj {a b : List Nat} {j x y : Nat} (h : a.length = b.length) (hx : a[j]? = some x) (hy : b[j]? = some y) : (aW (ni a b j)).set j ((x : Int) + (y : Int)) = aW (ni a b (j + 1)) := by
 have hj := (List.getElem?_eq_some_iff.1 hx).1
 unfold ni
 rw [j0 hx, aO (ir hx hy)]
 have hl : (aW ((bH a b).take j)).length = j := by rw [cj, List.length_take, eK h]; omega
 have e1 : aW ((bH a b).take j ++ x :: a.drop (j + 1)) = aW ((bH a b).take j) ++ (x : Int) :: aW (a.drop (j + 1)) := by simp [aW]
 rw [e1, ld _ _ _ _ _ hl]
 simp [aW]
theorem yd {a b : List Nat} {j x : Nat} (h : a.length = b.length) (hx : a[j]? = some x) : (ni a b j)[j]? = some x := by
 have hj := (List.getElem?_eq_some_iff.1 hx).1
 have hl : ((bH a b).take j).length = j := by rw [List.length_take, eK h]; omega
 unfold ni
 rw [List.getElem?_append_right (by omega), hl, Nat.sub_self, List.getElem?_drop, Nat.add_zero, hx]
theorem vr {a b : List Nat} {j : Nat} (h : a.length = b.length) (hj : j ≤ a.length) : (ni a b j).length = a.length := by
 unfold ni
 rw [List.length_append, List.length_take, eK h, List.length_drop]
 omega
theorem uv {a b : List Nat} {j : Nat} (h : a.length = b.length) (hj : j = a.length) : ni a b j = bH a b := by
 unfold ni
 rw [List.take_of_length_le (by rw [eK h]; omega), List.drop_of_length_le (by omega), List.append_nil]
theorem sV (f g : FX) (k : Nat) (w : World) (hT : iu w) (hf : f.at_ w) (hg : g.at_ w) (hlf : f.iC k) (hlg : g.iC k) (hmf : f.m ≤ 200) (hmg : g.m ≤ 200) (hk : k ≤ 50000) :
  Calls Tryz.prog 18 #[.agg #[.slice f.A f.n f.a, .slice f.B f.m f.b], .agg #[.slice g.A g.n g.a, .slice g.B g.m g.b]] w fun r w' =>
   (jM f g ≠ 0 ∧ r = om (jM f g) ∧ Below w.heap.size w w') ∨
   (jM f g = 0 ∧ ∃ p : FX, qU (bH f.ns g.ns) (g9 f.ns g.ns (f.cs.map NR.d) (g.cs.map NR.d)) p ∧ r = .returned (.tuple #[.agg #[.slice p.A p.n p.a, .slice p.B p.m p.b], .int .i64 0]) ∧ Hp w [p.fI, p.fB] w') := by
 have hh := Hp.start w
 have hall : ∀ x ∈ [f, g], x.at_ w ∧ x.iC k := by simpa using ⟨⟨hf, hlf⟩, hg, hlg⟩
 have hlk := fun A c w1 hT1 hS1 hb => mc A 2 c [f, g] k w1 hT1 hS1 (by decide) (fun x hx => (hall x hx).1.ext hb) (fun x hx => (hall x hx).2)
 have hlnf := hf.dg.1
 have hlng := hg.dg.1
 rw [bV] at hlnf hlng
 have hlmf := hf.nm.cP NR.len (by decide)
 have hlmg := hg.nm.cP NR.len (by decide)
 unfold jM
 by_cases h0 : eb [f, g] = 0
 ·obtain ⟨_, hev, hnv⟩ := gA h0
  have hgn : g.n = f.n := hnv g (by simp)
  obtain ⟨df, cf, hf12, hflow, hfc, _⟩ := FX.fv (hev f (by simp))
  obtain ⟨dg, cg, hg12, hglow, hgc, _⟩ := FX.fv (hev g (by simp))
  have hfl : f.ns.length = f.n := by unfold FX.ns; rw [List.length_map]; omega
  have hgl : g.ns.length = f.n := by unfold FX.ns; rw [List.length_map]; omega
  rw [if_neg (by omega)]
  have hadd : ∀ d ∈ bH f.ns g.ns, d ≤ 254 := fun d hd => by
   obtain ⟨i, hi⟩ := List.mem_iff_getElem?.1 hd
   have hi2 := (List.getElem?_eq_some_iff.1 hi).1
   rw [eK (by omega)] at hi2
   obtain ⟨x, hx1⟩ := ar (l := f.ns) (k := i) (by omega)
   obtain ⟨y, hy1⟩ := ar (l := g.ns) (k := i) (by omega)
   rw [ir hx1 hy1] at hi
   have := hflow x (List.mem_of_getElem? hx1)
   have := hglow y (List.mem_of_getElem? hy1)
   have := Option.some.inj hi
   omega
  refine ao (N := 43) (l := [.agg #[.slice f.A f.n f.a, .slice f.B f.m f.b], .agg #[.slice g.A g.n g.a, .slice g.B g.m g.b]]) Tryz.func18 rfl rfl (by simp) ?_
  refine sr ?_
  refine dm hh [_,_] ?_
  intro b2 w2 hh
  refine dm hh [_,_] ?_
  intro b3 w3 hh
  refine cS hh ?_
  intro b4 w4 hh
  refine aI (aa (ah (sr ?_)))
  refine dk hh 2 [_,_] ?_
  refine dk hh 1 [_,_] ?_
  refine aP hh (cs := [_, _, _, _]) aH.out aE.out (aY (de rfl) (aY (de rfl) bO)) rfl rfl (by decide) (by decide) (by decide) rfl (by decide) ?_
  intro b12 w12 hh
  refine bJ hh (hlk _ _ _ (hT.hp hh) (hh.aX (i := 0) rfl) hh.below) rfl ?_
  intro w13 hh
  refine aI (aa (sr (mI ?_)))
  refine dK (aa (cF (ak (ai (sr (bI ?_))))))
  refine bP hh 3 ?_
  refine a6 (kT f.A f.n f.a f.ds _ (hf.dg.ext hh.below) (by omega)) az.out rfl (by decide) ?_
  rintro e_ w20 ⟨A20, c20, rfl, hown_, hb_⟩
  refine ⟨_, rfl, ?_⟩
  replace hh := hh.bu (x := .row _ _ _ _ _ _) hb_ hown_
  refine aL (aa (ah (sr (bI ?_))))
  refine bP hh 3 ?_
  refine aQ (mI (aa (aj ?_)))
  replace hh := hh.sub (List.Sublist.cons_cons _ (List.Sublist.cons _ (List.Sublist.cons_cons _ (List.Sublist.cons_cons _ (List.Sublist.cons_cons _ List.Sublist.slnil)))))
  rw [df] at hh
  refine bp [8, 9, 24, 25, 26, 27, 28, 29, 30, 31, 32, 33, 34, 35, 36] 24
   (fun v w' => ∃ j : Nat, j ≤ f.n ∧ v = .int .i64 j ∧ Hp w [.row A20 f.n c20 3 1 (bs (aW (ni f.ns g.ns j))), .blk b4 28 [.slice none 0 0, .slice none 0 0] (0, 0), .blk b3 28 [.slice g.A g.n g.a, .slice g.B g.m g.b] (0, 0), .blk b2 28 [.slice f.A f.n f.a, .slice f.B f.m f.b] (0, 0)] w')
   (fun v _ => f.n - (intOf v).toNat) ?_ ?_
  ·exact ⟨0, Nat.zero_le _, rfl, hh⟩
  ·clear hh
   rintro ρ' v w' ⟨j, hj, rfl, hh⟩
   by_cases hjn : j < f.n
   ·obtain ⟨x, hx⟩ := ar (l := f.ns) (k := j) (by omega)
    obtain ⟨y, hy⟩ := ar (l := g.ns) (k := j) (by omega)
    have hgx := bB (cA (yd (b := g.ns) (by omega) hx))
    have hgy : (bs g.ds)[j]? = some (.int .i64 (y : Int)) := by rw [dg]; exact bB (cA hy)
    have hml : (bs (aW (ni f.ns g.ns j))).length = f.n := by rw [bV, cj, vr (by omega) (by omega)]; omega
    have hx127 := hflow x (List.mem_of_getElem? hx)
    have hy127 := hglow y (List.mem_of_getElem? hy)
    obtain ⟨a2, hA2, s2⟩ := hg.dg.at_ (by omega)
    have hev2 : Value.slice g.A g.n g.a = .slice (some a2) g.n g.a := by rw [hA2]
    obtain ⟨gd, rfl⟩ := hh.cK (i := 0) rfl (by omega)
    refine sr ?_
    refine aG (aa (ah (cT (ak (ai (ah (aj (sr (mI ?_)))))))))
    refine aF (k := j) aH.out aE.size hev2 rfl (by omega) (by omega) (by decide) ?_
    refine aN aE.out rfl (cM hh.below (s2.dR hgy)) (by decide) ?_
    refine aI (aI (aa (al (mL (mI ?_)))))
    refine bj (k := j) aH.out aE.size rfl rfl (by omega) (by omega) (by decide) ?_
    refine aN aE.out rfl (hh.ck (i := 0) rfl (by first | assumption | (simp only [Nat.mul_one]; assumption))) (by decide) ?_
    refine mI ?_
    refine bz ?_
    refine bj (k := j) aH.out aE.size rfl rfl (by omega) (by omega) (by decide) ?_
    refine bx hh (i := 0) (vs := [_]) rfl rfl (bU rfl) rfl aE.out rfl (by omega) rfl ?_
    intro ws hh
    simp only [List.set_cons_zero] at hh
    rw [eD _ (by rw [← bV]; omega), vj (by omega) hx hy] at hh
    refine aC (aT (ai (al ?_)))
    refine bz (mI (aC (ai ?_)))
    refine ⟨⟨j + 1, by omega, rfl, hh⟩, by show f.n - (j + 1) < f.n - j; omega, ?_⟩
    (repeat (first | exact aw _ _ _ | refine ay rfl ?_ | refine au rfl ?_))
   ·obtain rfl : j = f.n := by omega
    rw [uv (by omega) (by omega)] at hh
    have hbig := fun w1 hS1 => mP A20 f.n c20 (bH f.ns g.ns) w1 hS1 (by omega) (fun d hd => by have := hadd d hd; omega)
    cases hb : iB (bH f.ns g.ns) with
    | true =>
     rw [hb] at hbig
     rw [if_pos rfl]
     refine sr ?_
     refine aG (aa (ah (cF ?_)))
     refine aJ ?_
     refine ax (ax (aZ (ai (ah (sr (mL ?_))))))
     refine bJ hh (hbig _ (hh.aX (i := 0) rfl)) rfl ?_
     intro w38 hh
     refine aa (cT (sr ?_))
     refine fi [_,_] ?_
     refine bY hh 1 [_,_] ?_
     intro ws hh
     replace hh : Hp _ (_ :: .blk _ _ [_, _] _ :: _) _ := hh
     refine aI (aa (aq (aM ?_)))
     refine og (bf rfl (bg (vs := [_, _]) aE.out (hh.aD (i := 1) (n := 2) rfl rfl) rfl) (dq (et rfl) bA)) ?_
     exact .inl ⟨by decide, rfl, hh.below⟩
    | false =>
     rw [hb] at hbig
     rw [if_neg (by decide)]
     have h4 : av (bH f.ns g.ns) ≤ 4096 := by
      unfold iB at hb
      have := (Bool.or_eq_false_iff.1 hb).2
      have := of_decide_eq_false this
      omega
     have hfm : f.m = av f.ns := by omega
     have hgm : g.m = av g.ns := by omega
     have hmul : av g.ns * av f.ns ≤ 200 * 200 := Nat.mul_le_mul (by omega) (by omega)
     have hzs : ∀ x ∈ [f, g], ∀ y ∈ x.cs.map NR.d, Sz k y := fun x hx y hy => by
      obtain ⟨c, hc, rfl⟩ := List.mem_map.1 hy
      exact ((hall x hx).2.num c hc).2
     have htm : ∀ w1, iu w1 → Below w.heap.size w w1 → Calls Tryz.prog 60 #[.agg #[.slice f.A f.n f.a, .slice f.B f.m f.b], .agg #[.slice g.A g.n g.a, .slice g.B g.m g.b]] w1 fun r w' => ∃ p : FX, qU (bH f.ns g.ns) (g9 f.ns g.ns (f.cs.map NR.d) (g.cs.map NR.d)) p ∧ r = .returned (.agg #[.slice p.A p.n p.a, .slice p.B p.m p.b]) ∧ Hp w1 [p.fI, p.fB] w' := fun w1 hT1 hb1 => by
      have s1 := hf.dg.ext hb1
      have s2 := hf.nm.ext hb1
      have s3 := hg.dg.ext hb1
      have s4 := hg.nm.ext hb1
      rw [df] at s1
      rw [cf, hfm] at s2
      rw [dg, hgn] at s3
      rw [cg, hgm] at s4
      rw [hgn, hfm, hgm]
      refine (kQ f.A f.B g.A g.B f.n f.a f.b g.a g.b f.ns g.ns (f.cs.map NR.d) (g.cs.map NR.d) k k w1 hT1 s1 s2 s3 s4 (by omega) hflow hglow h4 (by omega) (hzs f (by simp)) (hzs g (by simp)) (by omega)).mono fun r w' h => ?_
      obtain ⟨A, a, B, b, rfl, h2⟩ := h
      exact ⟨⟨A, f.n, a, B, av (bH f.ns g.ns), b, aW (bH f.ns g.ns), _⟩, ⟨rfl, rfl, by rw [eK (by omega)]; exact hfl.symm, rfl⟩, rfl, h2⟩
     refine sr ?_
     refine aG (aa (ah (cF ?_)))
     refine aJ ?_
     refine ax (ax (aZ (ai (ah (sr (mL ?_))))))
     refine bJ hh (hbig _ (hh.aX (i := 0) rfl)) rfl ?_
     intro w38 hh
     refine aa (cF (ak (ai (sr ?_))))
     refine dk hh 3 [_,_] ?_
     refine dk hh 2 [_,_] ?_
     refine a6 (htm _ (hT.hp hh) hh.below) az.out rfl (by decide) ?_
     rintro e_ w42 ⟨p, hp, rfl, h2⟩
     refine ⟨_, rfl, ?_⟩
     replace hh := hh.join h2
     refine bY hh 3 [_,_] ?_
     intro ws hh
     replace hh : Hp _ (_ :: _ :: _ :: .blk _ _ [_, _] _ :: _) _ := hh
     refine aI (aa (aq ?_))
     refine og (bf rfl (bg (vs := [_, _]) aE.out (hh.aD (i := 3) (n := 2) rfl rfl) rfl) (dq (et rfl) bA)) ?_
     exact .inr ⟨rfl, p, hp, rfl, hh.sub (List.sublist_append_left [_, _] _)⟩
 ·rw [if_pos h0]
  refine ao (N := 43) (l := [.agg #[.slice f.A f.n f.a, .slice f.B f.m f.b], .agg #[.slice g.A g.n g.a, .slice g.B g.m g.b]]) Tryz.func18 rfl rfl (by simp) ?_
  refine sr ?_
  refine dm hh [_,_] ?_
  intro b2 w2 hh
  refine dm hh [_,_] ?_
  intro b3 w3 hh
  refine cS hh ?_
  intro b4 w4 hh
  refine aI (aa (ah (sr ?_)))
  refine dk hh 2 [_,_] ?_
  refine dk hh 1 [_,_] ?_
  refine aP hh (cs := [_, _, _, _]) aH.out aE.out (aY (de rfl) (aY (de rfl) bO)) rfl rfl (by decide) (by decide) (by decide) rfl (by decide) ?_
  intro b12 w12 hh
  refine bJ hh (hlk _ _ _ (hT.hp hh) (hh.aX (i := 0) rfl) hh.below) rfl ?_
  intro w13 hh
  refine aI (aa (sr (mI ?_)))
  refine dK (aa (cT (sr ?_)))
  refine fi [_,_] (mI ?_)
  refine bY hh 1 [_,_] ?_
  intro ws hh
  replace hh : Hp _ (_ :: .blk _ _ [_, _] _ :: _) _ := hh
  refine aI (aa (aq (aM ?_)))
  refine og (bf rfl (bg (vs := [_, _]) aE.out (hh.aD (i := 1) (n := 2) rfl rfl) rfl) (dq (et rfl) bA)) ?_
  exact .inl ⟨h0, rfl, hh.below⟩
end Go.Proofs.YtioilmppidlbnaaGreatDoor
/- The walks through the program's package of products of powers (mono), and through the document's answer's. -/
namespace Go.Proofs.YtioilmppidlbnaaGreatDoor
open Go.RowKit
end Go.Proofs.YtioilmppidlbnaaGreatDoor
/- The walks through the document's answer's products of powers. -/
namespace Go.Proofs.YtioilmppidlbnaaGreatDoor
open Go.RowKit
theorem oB (A B : Option Addr) (n m c c' : Nat) (xs ys : List Int) (w : World) (hx : Sl w A n 1 (bs xs)) (hy : Sl w B m 1 (bs ys)) (hn : n ≤ 100000) (hm : m ≤ 100000) :
  Calls Tryz.prog 44 #[.slice A n c, .slice B m c'] w fun e w' => e = .returned (.bool (decide (xs = ys))) ∧ Below w.heap.size w w' := by
 have hxl : xs.length = n := by have := hx.1; rw [bV] at this; omega
 have hyl : ys.length = m := by have := hy.1; rw [bV] at this; omega
 have hh := Hp.start w
 by_cases hnm : n = m
 ·subst hnm
  refine ao (N := 26) (l := [.slice A n c, .slice B n c']) Tryz.func44 rfl rfl (by simp) ?_
  refine sr (aB (aa (ah (sr (mL (aQ (mL (aQ ?_))))))))
  refine dK (aa (cF (ak (ai (ah (sr (aI (aa (aj ?_)))))))))
  refine bp [4, 5, 11, 12, 13, 14, 15, 16, 17, 18, 19, 20, 21, 22, 23, 24, 25] 5
   (fun i w' => ∃ k : Nat, k ≤ n ∧ i = .int .i64 k ∧ xs.take k = ys.take k ∧ Hp w [] w')
   (fun i _ => n - (intOf i).toNat) ?_ ?_
  ·exact ⟨0, Nat.zero_le _, rfl, rfl, hh⟩
  ·clear hh
   rintro ρ' i w' ⟨k, hk, rfl, he, hh⟩
   replace hx := hx.ext hh.below
   replace hy := hy.ext hh.below
   by_cases hlt : k < n
   ·obtain ⟨x, hxk⟩ := ar (l := xs) (k := k) (by omega)
    obtain ⟨y, hyk⟩ := ar (l := ys) (k := k) (by omega)
    obtain ⟨ad, rfl, hr⟩ := hx.at_ (by omega)
    obtain ⟨bd, rfl, hs⟩ := hy.at_ (by omega)
    by_cases hxy : x = y
    ·subst hxy
     refine ah (sr (mI (mL (aQ ?_))))
     refine aG (aa (cT (ak (ai (ah (aj (ah ?_)))))))
     refine aK 8 [[(0, none)], [(5, none)], [(17, some 0), (18, some 1)], [(19, some 2)], [(1, none)], [(5, none)], [(21, some 4), (22, some 5)], [(23, some 6)]] [(7, 24), (6, 23), (5, 22), (4, 21), (3, 20), (2, 19), (1, 18), (0, 17)] hh mixed (by kernel_rfl) ?_
     refine eP ?_
     refine dn ?_
     refine aR (i := 2) (fun ρ1 w1 hj hR => bQ aH.out aE.size (show ρ1 17 = Value.slice _ _ _ from hR.1) (show ρ1 18 = Value.int _ _ from hR.2.1) (by omega) (by omega)) ?_
     refine jy (fun _ hj => eh (hr.ext hj.bl) (bB hxk) rfl) ?_
     refine eP ?_
     refine dn ?_
     refine aR (i := 6) (fun ρ1 w1 hj hR => bQ aH.out aE.size (show ρ1 21 = Value.slice _ _ _ from hR.1) (show ρ1 22 = Value.int _ _ from hR.2.1) (by omega) (by omega)) ?_
     refine jy (fun _ hj => eh (hs.ext hj.bl) (bB hyk) rfl) ?_
     refine bm ?_
     intro f W hJ hV
     have hb_6 := hJ.bl
     obtain ⟨v24, v23, v22, v21, v20, v19, v18, v17, _⟩ := hV
     replace hh := hJ.hp
     refine aU (bk (ae v24 (ae v23 (ae v22 (ae v21 (ae v20 (ae v19 (ae v18 (ae v17 aV))))))))) ?_
     dsimp only [cd]
     clear hJ
     refine dK (aa (cF (ak (aT (ai (al (mI ?_)))))))
     refine bz (aI (aC (ai ?_)))
     refine ⟨⟨k + 1, by omega, rfl, by rw [aO hxk, aO hyk, he], hh⟩, by show n - (k + 1) < n - k; omega, ?_⟩
     (repeat (first | exact aw _ _ _ | refine ay rfl ?_ | refine au rfl ?_))
    ·refine ah (sr (mI (mL (aQ ?_))))
     refine aG (aa (cT (ak (ai (ah (aj (ah ?_)))))))
     refine aK 8 [[(0, none)], [(5, none)], [(17, some 0), (18, some 1)], [(19, some 2)], [(1, none)], [(5, none)], [(21, some 4), (22, some 5)], [(23, some 6)]] [(7, 24), (6, 23), (5, 22), (4, 21), (3, 20), (2, 19), (1, 18), (0, 17)] hh mixed (by kernel_rfl) ?_
     refine eP ?_
     refine dn ?_
     refine aR (i := 2) (fun ρ1 w1 hj hR => bQ aH.out aE.size (show ρ1 17 = Value.slice _ _ _ from hR.1) (show ρ1 18 = Value.int _ _ from hR.2.1) (by omega) (by omega)) ?_
     refine jy (fun _ hj => eh (hr.ext hj.bl) (bB hxk) rfl) ?_
     refine eP ?_
     refine dn ?_
     refine aR (i := 6) (fun ρ1 w1 hj hR => bQ aH.out aE.size (show ρ1 21 = Value.slice _ _ _ from hR.1) (show ρ1 22 = Value.int _ _ from hR.2.1) (by omega) (by omega)) ?_
     refine jy (fun _ hj => eh (hs.ext hj.bl) (bB hyk) rfl) ?_
     refine bm ?_
     intro f W hJ hV
     have hb_6 := hJ.bl
     obtain ⟨v24, v23, v22, v21, v20, v19, v18, v17, _⟩ := hV
     replace hh := hJ.hp
     refine aU (bk (ae v24 (ae v23 (ae v22 (ae v21 (ae v20 (ae v19 (ae v18 (ae v17 aV))))))))) ?_
     dsimp only [cd]
     clear hJ
     refine dK (aa (cT (sr (aB (aa (aq (bR (aM (aM (bR (aM ?_)))))))))))
     refine cz ?_
     have : ¬ xs = ys := fun h => hxy (by rw [h, hyk] at hxk; exact (Option.some.inj hxk).symm)
     simp only [this, decide_false]
     first | exact ⟨rfl, hh.below⟩ | exact ⟨trivial, hh.below⟩
   ·refine ah (sr (mI (mL (aQ ?_))))
    refine aG (aa (cF ?_))
    refine aJ ?_
    refine ax (ax (aZ (ai (sr (aB (aa (aq ?_)))))))
    refine cz ?_
    rw [List.take_of_length_le (by omega), List.take_of_length_le (by omega)] at he
    simp only [he, decide_true]
    first | exact ⟨rfl, hh.below⟩ | exact ⟨trivial, hh.below⟩
 ·refine ao (N := 26) (l := [.slice A n c, .slice B m c']) Tryz.func44 rfl rfl (by simp) ?_
  refine sr (aB (aa (ah (sr (mL (aQ (mL (aQ ?_))))))))
  refine dK (aa (cT (sr (aB (aa (aq (aM ?_)))))))
  refine cz ?_
  have : ¬ xs = ys := fun h => hnm (by rw [← hxl, ← hyl, h])
  simp only [this, decide_false]
  first | exact ⟨rfl, hh.below⟩ | exact ⟨trivial, hh.below⟩
end Go.Proofs.YtioilmppidlbnaaGreatDoor
/- The walks through count and All. -/
namespace Go.Proofs.YtioilmppidlbnaaGreatDoor
open Go.RowKit
theorem uy (l : List ByteArray) (x : ByteArray) : fT l ++ [.string x] = fT (l ++ [x]) := by simp [fT]
end Go.Proofs.YtioilmppidlbnaaGreatDoor
/- The walk through the document's answer's All. -/
namespace Go.Proofs.YtioilmppidlbnaaGreatDoor
open Go.RowKit
theorem tf (D : Option Addr) (n c : Nat) (ds : List Int) (w : World) (hD : Sl w D n 1 (bs ds)) (hn : n ≤ 100000) :
  Calls Tryz.prog 154 #[.slice D n c] w fun e w' => ∃ A c, e = .returned (.slice A (mC ds).length c) ∧ w'.ownsRow w.heap.size 9 1 (.slice A (mC ds).length c) (mC ds).length (fT (mC ds)) ∧ Below w.heap.size w w' := by
 have hdl : ds.length = n := by have := hD.1; rw [bV] at this; omega
 have hh := Hp.start w
 refine ao (N := 72) (l := [.slice D n c]) Tryz.func154 rfl rfl (by simp) ?_
 refine sr (aL (aa (sr (aI (aa (ah (sr (aI (aa (aj ?_))))))))))
 refine bX [2, 3, 4, 10, 11, 12, 13, 14, 15, 16, 17, 18, 19, 20, 21, 22, 23, 24, 25, 26, 27, 28, 29, 30, 31, 32, 33, 34, 35, 36] 3 4
  (fun p i w' => ∃ (k : Nat), k ≤ n ∧ i = .int .i64 k ∧ p = .int .i64 (ec (ds.take k)).length ∧ (ec (ds.take k)).length ≤ 65536 ∧ oe 1 ds = oe (ec (ds.take k)).length (ds.drop k) ∧ w = w')
  (fun _ i _ => n - (intOf i).toNat) ?_ ?_
 ·exact ⟨0, Nat.zero_le _, rfl, rfl, by simp [ec], rfl, rfl⟩
 ·rintro ρ' p i w' ⟨k, hk, rfl, rfl, hsz, hok, rfl⟩
  by_cases hlt : k < n
  ·obtain ⟨d, hdk⟩ := ar (l := ds) (k := k) (by omega)
   obtain ⟨ad, rfl, hr⟩ := hD.at_ (by omega)
   have hpos := rn (ds.take k)
   by_cases hb1 : 0 ≤ d ∧ d ≤ 127
   ·have hm1 : (0 : Int) ≤ (ec (ds.take k)).length * (d + 1) := Int.mul_nonneg (by omega) (by omega)
    have hm2 : ((ec (ds.take k)).length : Int) * (d + 1) ≤ 65536 * 128 := Int.mul_le_mul (by omega) (by omega) (by omega) (by omega)
    by_cases hb2 : ((ec (ds.take k)).length : Int) * (d + 1) ≤ 65536
    ·have hstep := rb hdk hok ⟨hb1, hb2⟩
     rw [← gv hdk hb1.1] at hstep
     have hl2 := gv hdk hb1.1
     refine ah (sr (mI (mL (aQ ?_))))
     refine aG (aa (cT (ak (ai (ah (aj (ah (sr (mL (mI ?_))))))))))
     refine cI aH.out aE.size rfl rfl (by omega) (by omega) (by decide) ?_
     refine aN aE.out rfl (eh hr (bB hdk) rfl) (by decide) ?_
     refine aG (mB ?_)
     first | refine gS ?_ | (refine gT ?_; refine mL ?_) | refine gV ?_
     first | refine gS ?_ | (refine gT ?_; refine mI ?_) | refine gV ?_
     first | refine gS ?_ | (refine gT ?_; refine cI aH.out aE.size rfl rfl (by omega) (by omega) (by decide) ?_) | refine gV ?_
     refine bo rfl rfl (aN aE.out rfl (eh hr (bB hdk) rfl) (by decide) ?_)
     first | refine gS ?_ | (refine gT ?_; refine bT ?_) | refine gV ?_
     first | refine dD ?_ | refine dA ?_
     refine aa (cF (ak (ai (sr (mI (mL (mI ?_)))))))
     refine cI aH.out aE.size rfl rfl (by omega) (by omega) (by decide) ?_
     refine aN aE.out rfl (eh hr (bB hdk) rfl) (by decide) ?_
     refine bz ?_
     refine mulC (aI (aa (sr (mI ?_))))
     refine bT (aa (cF (ak (aT (ai (al (mI ?_)))))))
     refine bz (aI (aC (ai ?_)))
     refine ⟨⟨k + 1, by omega, rfl, by rw [hl2]; rfl, by omega, hstep, rfl⟩, by show n - (k + 1) < n - k; omega, ?_⟩
     (repeat (first | exact aw _ _ _ | refine ay rfl ?_ | refine au rfl ?_))
    ·have hf := nU hdk hok fun h => hb2 h.2
     refine ah (sr (mI (mL (aQ ?_))))
     refine aG (aa (cT (ak (ai (ah (aj (ah (sr (mL (mI ?_))))))))))
     refine cI aH.out aE.size rfl rfl (by omega) (by omega) (by decide) ?_
     refine aN aE.out rfl (eh hr (bB hdk) rfl) (by decide) ?_
     refine aG (mB ?_)
     first | refine gS ?_ | (refine gT ?_; refine mL ?_) | refine gV ?_
     first | refine gS ?_ | (refine gT ?_; refine mI ?_) | refine gV ?_
     first | refine gS ?_ | (refine gT ?_; refine cI aH.out aE.size rfl rfl (by omega) (by omega) (by decide) ?_) | refine gV ?_
     refine bo rfl rfl (aN aE.out rfl (eh hr (bB hdk) rfl) (by decide) ?_)
     first | refine gS ?_ | (refine gT ?_; refine bT ?_) | refine gV ?_
     first | refine dD ?_ | refine dA ?_
     refine aa (cF (ak (ai (sr (mI (mL (mI ?_)))))))
     refine cI aH.out aE.size rfl rfl (by omega) (by omega) (by decide) ?_
     refine aN aE.out rfl (eh hr (bB hdk) rfl) (by decide) ?_
     refine bz ?_
     refine mulC (aI (aa (sr (mI ?_))))
     refine bT (aa (cT (sr (aL (aa (aq (bR (aM (aM (bR (aM ?_)))))))))))
     refine cz ?_
     simp only [mC, hf]
     exact ⟨none, 0, rfl, World.ownsRow_nil _ _ _ _, hh.below⟩
   ·have hf := nU hdk hok fun h => hb1 h.1
    refine ah (sr (mI (mL (aQ ?_))))
    refine aG (aa (cT (ak (ai (ah (aj (ah (sr (mL (mI ?_))))))))))
    refine cI aH.out aE.size rfl rfl (by omega) (by omega) (by decide) ?_
    refine aN aE.out rfl (eh hr (bB hdk) rfl) (by decide) ?_
    by_cases h0 : d < 0
    ·refine aG (mB ?_)
     first | refine gS ?_ | (refine gT ?_; refine mL ?_) | refine gV ?_
     first | refine gS ?_ | (refine gT ?_; refine mI ?_) | refine gV ?_
     first | refine gS ?_ | (refine gT ?_; refine cI aH.out aE.size rfl rfl (by omega) (by omega) (by decide) ?_) | refine gV ?_
     refine cw (by decide) rfl rfl (by decide) ?_
     first | refine gS ?_ | (refine gT ?_; refine bT ?_) | refine gV ?_
     first | refine dD ?_ | refine dA ?_
     refine aa (cT (sr (aL (aa (aq (aM (bR (aM (aM (bR (aM ?_)))))))))))
     refine cz ?_
     simp only [mC, hf]
     exact ⟨none, 0, rfl, World.ownsRow_nil _ _ _ _, hh.below⟩
    ·refine aG (mB ?_)
     first | refine gS ?_ | (refine gT ?_; refine mL ?_) | refine gV ?_
     first | refine gS ?_ | (refine gT ?_; refine mI ?_) | refine gV ?_
     first | refine gS ?_ | (refine gT ?_; refine cI aH.out aE.size rfl rfl (by omega) (by omega) (by decide) ?_) | refine gV ?_
     refine bo rfl rfl (aN aE.out rfl (eh hr (bB hdk) rfl) (by decide) ?_)
     first | refine gS ?_ | (refine gT ?_; refine bT ?_) | refine gV ?_
     first | refine dD ?_ | refine dA ?_
     refine aa (cT (sr (aL (aa (aq (aM (bR (aM (aM (bR (aM ?_)))))))))))
     refine cz ?_
     simp only [mC, hf]
     exact ⟨none, 0, rfl, World.ownsRow_nil _ _ _ _, hh.below⟩
  ·obtain rfl : n = k := by omega
   rw [List.drop_of_length_le (by omega)] at hok
   have hok : oe 1 ds = true := hok
   have hbd := tc ds 1 hok
   have hAl : mC ds = (ec ds).map fX := by simp only [mC, hok, if_true]
   refine ah (sr (mI (mL (aQ ?_))))
   refine aG (aa (cF ?_))
   refine aJ ?_
   refine ax (ax (aZ (ai (sr ?_))))
   refine aP hh (cs := [_]) aH.out aE.out (aY rfl bO) rfl rfl (by decide) (by decide) (by decide) rfl (by decide) ?_
   intro b37 w37 hh
   refine aL (aa (ah (sr (aI (aa (aj ?_))))))
   refine bX [5, 6, 7, 8, 9, 38, 39, 40, 41, 42, 43, 44, 45, 46, 47, 48, 49, 50, 51, 52, 53, 54, 55, 56, 57, 58, 59, 60, 61, 62, 63, 64, 65, 66, 67, 68, 69, 70] 5 6
    (fun v i w' => ∃ (k : Nat) (A : Option Addr) (c' : Nat), k ≤ n ∧ i = .int .i64 k ∧ v = .slice A ((ec (ds.take k)).map fX).length c' ∧ Hp w [.row A ((ec (ds.take k)).map fX).length c' 9 1 (fT ((ec (ds.take k)).map fX))] w')
    (fun _ i _ => n - (intOf i).toNat) ?_ ?_
   ·exact ⟨0, _, _, Nat.zero_le _, rfl, rfl, hh⟩
   ·clear hh hsz hk
    rintro ρ2 v i w' ⟨k, A, c', hk, rfl, rfl, hh⟩
    by_cases hlt : k < n
    ·obtain ⟨d, hdk⟩ := ar (l := ds) (k := k) (by omega)
     have bd := hbd d (List.mem_of_getElem? hdk)
     have hst := xL hdk
     have hbig := (nw hok (k + 1) (by omega)).2
     have hbig2 : (((ec (ds.take k)).map fX).flatMap (gX d)).length ≤ 65536 := by rw [← hst, List.length_map]; exact hbig
     have hsm : ∀ (j : Nat) (s : ByteArray), ((ec (ds.take k)).map fX)[j]? = some s → s.size ≤ k := fun j s h => xd h
     have hS := (nw hok k (by omega)).2
     rw [← List.length_map (f := fX)] at hS
     generalize (ec (ds.take k)).map fX = S at *
     refine ah (sr (mI (mL (aQ ?_))))
     refine aG (aa (cT (ak (ai (ah (aj (sr (aL (aa (ah (ah ?_)))))))))))
     refine al (aI (aa (aj ?_)))
     replace hh := hh.dx 9 1
     refine bX [7, 8, 9, 44, 45, 46, 47, 48, 49, 50, 51, 52, 53, 54, 55, 56, 57, 58, 59, 60, 61, 62, 63, 64, 65, 66, 67, 68, 69] 7 8
      (fun v j w' => ∃ (j' : Nat) (B : Option Addr) (c2 : Nat), j' ≤ S.length ∧ j = .int .i64 j' ∧ v = .slice B ((S.take j').flatMap (gX d)).length c2 ∧ Hp w [.row B ((S.take j').flatMap (gX d)).length c2 9 1 (fT ((S.take j').flatMap (gX d))), .row A S.length c' 9 1 (fT S)] w')
      (fun _ j _ => S.length - (intOf j).toNat) ?_ ?_
     ·exact ⟨0, none, 0, Nat.zero_le _, rfl, rfl, hh⟩
     ·clear hh
      rintro ρ3 v j w' ⟨j, B, c2, hj, rfl, rfl, hh⟩
      by_cases hlj : j < S.length
      ·obtain ⟨s, hs⟩ := ar hlj
       have hss := hsm j s hs
       have hs2 := kh hs
       have hlS := jJ S
       refine ah (sr (mI (mL (aQ ?_))))
       refine aG (aa (cT (ak (ai (ah (aj (sr (aI (aa (aj ?_))))))))))
       refine bX [7, 9, 50, 51, 52, 53, 54, 55, 56, 57, 58, 59, 60, 61, 62, 63, 64, 65, 66, 67, 68, 69] 7 9
        (fun v q w' => ∃ (q' : Nat) (B : Option Addr) (c2 : Nat), q' ≤ d.toNat + 1 ∧ q = .int .i64 q' ∧ v = .slice B ((S.take j).flatMap (gX d) ++ (gX d s).take q').length c2 ∧ Hp w [.row B ((S.take j).flatMap (gX d) ++ (gX d s).take q').length c2 9 1 (fT ((S.take j).flatMap (gX d) ++ (gX d s).take q')), .row A S.length c' 9 1 (fT S)] w')
        (fun _ q _ => d.toNat + 1 - (intOf q).toNat) ?_ ?_
       ·exact ⟨0, B, c2, Nat.zero_le _, rfl, by rw [List.take_zero, List.append_nil]; rfl, by rw [List.take_zero, List.append_nil]; exact hh⟩
       ·clear hh
        rintro ρ4 v q w' ⟨q, B, c2, hq, rfl, rfl, hh⟩
        obtain ⟨ad, rfl, hr⟩ := (hD.ext hh.below).at_ (by omega)
        by_cases hlq : q < d.toNat + 1
        ·have hq2 : (q : Int) ≤ d := by omega
         have hqo : dH (q : Int) = true := by simp [dH]; omega
         have hgb := z7 (d := d) hs q
         have hcat : s.size + (ByteArray.mk [rJ (q : Int)].toArray).size ≤ 9223372036854775807 := by show s.size + 1 ≤ _; omega
         obtain ⟨go, rfl⟩ := hh.cK (i := 1) rfl (by omega)
         refine ah (sr (mI (mL (mI ?_))))
         refine cI aH.out aE.size rfl rfl (by omega) (by omega) (by decide) ?_
         refine aN aE.out rfl (eh hr (bB hdk) rfl) (by decide) ?_
         refine nQ (aa (cT (ak (ai (ah (aj ?_))))))
         refine aK 11 [[(7, none)], [(5, none)], [(8, none)], [(59, some 1), (60, some 2)], [(61, some 3)], [(9, none)], [(63, some 5)], [(64, some 6)], [(65, some 7)], [(62, some 4), (66, some 8)], [(67, some 9)]] [(10, 68), (9, 67), (8, 66), (7, 65), (6, 64), (5, 63), (4, 62), (3, 61), (2, 60), (1, 59), (0, 58)] hh mixed (by kernel_rfl) ?_
         refine eP ?_
         refine eP ?_
         refine dn ?_
         refine aR (i := 3) (fun ρ1 w1 hj hR => kF aH.out aE.size (show ρ1 59 = Value.slice _ _ _ from hR.1) (show ρ1 60 = Value.int _ _ from hR.2.1) rfl (by omega)) ?_
         refine aR (i := 4) (fun ρ1 w1 hj hR => cm aE.out (show ρ1 61 = Value.pointer _ from hR.1) (hj.hp.ck (i := 1) rfl (by rw [Nat.mul_one]; exact hs2))) ?_
         refine dn ?_
         refine aR (i := 6) (fun ρ1 w1 hj hR => g8 aH.out aH.out (show ρ1 63 = Value.int _ _ from hR.1)) ?_
         refine rK [_] ?_
         refine cJ (i := 8) (Is (.string ⟨([rJ (q : Int)]).toArray⟩)) Is.ext ?_ ?_
         ·intro ρ1 w1 hj hR
          obtain ⟨A65, c65, h65, s65⟩ := hR.1
          exact fp rfl (fR (l := [rJ (q : Int)]) aH.out aH.out aH.out h65 (by rw [xq (by omega) (by omega), x4 hqo] at s65; exact s65)) ⟨Below.refl _ _, rfl⟩
         refine aR (i := 9) (fun ρ1 w1 hj hR => zO (show ρ1 62 = Value.string _ from hR.1) (show ρ1 66 = Value.string _ from hR.2.1) (by first | omega | assumption | (simp only [jE, jh]; omega))) ?_
         refine rK [_] ?_
         refine bm ?_
         intro f W hJ hV
         have hb_21 := hJ.bl
         obtain ⟨v68, v67, v66, v65, v64, v63, v62, v61, v60, v59, v58, _⟩ := hV
         obtain ⟨A65, c65, e65, f65⟩ : Rows _ _ _ (f 7) W := v65
         obtain ⟨A68, c68, e68, f68⟩ : Rows _ _ _ (f 10) W := v68
         replace hh := hJ.hp
         refine aU (bk (ae e68 (ae v67 (ae v66 (ae e65 (ae v64 (ae v63 (ae v62 (ae v61 (ae v60 (ae v59 (ae v58 aV)))))))))))) ?_
         dsimp only [cd]
         clear e65 e68 hJ
         refine cu hh (i := 0) rfl rfl rfl (f68) aH.out aE.out rfl (by decide) rfl (by omega) (by omega) (by decide) ?_
         intro A69 c69 w69 hh
         simp only [List.set_cons_zero] at hh
         refine aL (aC (aT (ai (al (mI ?_)))))
         refine bz (aI (aC (ai ?_)))
         have e1 : fT ((S.take j).flatMap (gX d) ++ (gX d s).take q) ++ [.string (s ++ ByteArray.mk [rJ (q : Int)].toArray)] = fT ((S.take j).flatMap (gX d) ++ (gX d s).take (q + 1)) := by
          rw [uy, aO (yx hq2), List.append_assoc]; rfl
         have e2 : ((S.take j).flatMap (gX d) ++ (gX d s).take q).length + 1 = ((S.take j).flatMap (gX d) ++ (gX d s).take (q + 1)).length := by
          rw [aO (yx (s := s) hq2)]; simp; omega
         rw [e1, e2] at hh
         refine ⟨⟨q + 1, A69, c69, by omega, rfl, by rw [← e2]; rfl, hh⟩, by show d.toNat + 1 - (q + 1) < d.toNat + 1 - q; omega, ?_⟩
         (repeat (first | exact aw _ _ _ | refine ay rfl ?_ | refine au rfl ?_))
        ·refine ah (sr (mI (mL (mI ?_))))
         refine cI aH.out aE.size rfl rfl (by omega) (by omega) (by decide) ?_
         refine aN aE.out rfl (eh hr (bB hdk) rfl) (by decide) ?_
         refine nQ (aa (cF ?_))
         refine aJ ?_
         refine ax (ax (aZ (aT (ai (al (mI ?_))))))
         refine bz (aI (aC (ai ?_)))
         obtain rfl : q = d.toNat + 1 := by omega
         have e3 : (S.take j).flatMap (gX d) ++ (gX d s).take (d.toNat + 1) = (S.take (j + 1)).flatMap (gX d) := by
          rw [List.take_of_length_le (l := gX d s) (by rw [uX]; omega), aO hs, List.flatMap_append]; simp
         rw [e3] at hh ⊢
         refine ⟨⟨j + 1, B, c2, by omega, rfl, rfl, hh⟩, by show S.length - (j + 1) < S.length - j; omega, ?_⟩
         (repeat (first | exact aw _ _ _ | refine ay rfl ?_ | refine au rfl ?_))
      ·refine ah (sr (mI (mL (aQ ?_))))
       refine aG (aa (cF ?_))
       refine aJ ?_
       refine ax (ax (aZ (ai (al (mL (aL (aC (aT (ai (al (mI ?_)))))))))))
       refine bz (aI (aC (ai ?_)))
       rw [List.take_of_length_le (l := S) (by omega), ← hst] at hh ⊢
       refine ⟨⟨k + 1, B, c2, by omega, rfl, rfl, hh.sub (.cons_cons _ (List.nil_sublist _))⟩, by show n - (k + 1) < n - k; omega, ?_⟩
       (repeat (first | exact aw _ _ _ | refine ay rfl ?_ | refine au rfl ?_))
    ·refine ah (sr (mI (mL (aQ ?_))))
     refine aG (aa (cF ?_))
     refine aJ ?_
     refine ax (ax (aZ (ai (sr (mL (aL (aa (aq ?_))))))))
     refine cz ?_
     have hds : ec (ds.take k) = ec ds := by rw [List.take_of_length_le (l := ds) (by omega)]
     have h1 := hh.at_ (i := 0) rfl
     rw [hAl, ← hds]
     exact ⟨A, c', rfl, h1, hh.below⟩
end Go.Proofs.YtioilmppidlbnaaGreatDoor
/- The walks through ogeeref12: forms by definition: what is wrong, ways to choose, places. -/
namespace Go.Proofs.YtioilmppidlbnaaGreatDoor
open Go.RowKit
theorem dW (A : Option Addr) (n c : Nat) (ds : List Int) (w : World) (hS : Sl w A n 1 (bs ds)) (hn : n ≤ 1000000) :
  Calls Tryz.prog 32 #[.slice A n c] w fun r w' => r = .returned (.int .i64 (jc ds)) ∧ Below w.heap.size w w' := by
 have hh := Hp.start w
 have hln : ds.length = n := by have := hS.1; simpa [bs] using this
 unfold jc
 refine ao (N := 39) (l := [.slice A n c]) Tryz.func32 rfl rfl (by simp) ?_
 refine sr (aI (aa (sr (aI (aa (ah (sr (aI (aa (aj ?_))))))))))
 refine bp [2, 4, 6, 7, 8, 9, 10, 11, 12, 13, 14, 15, 16, 17, 18, 19, 20, 21, 22, 23] 4
  (fun v w' => ∃ i : Nat, i ≤ n ∧ v = .int .i64 i ∧ (ds.take i).any (fun d => !dH d) = false ∧ Hp w [] w')
  (fun v _ => n - (intOf v).toNat) ?_ ?_
 ·exact ⟨0, Nat.zero_le _, rfl, rfl, hh⟩
 ·clear hh
  rintro ρ' v w' ⟨i, hi, rfl, hall, hh⟩
  by_cases hlt : i < n
  ·obtain ⟨d, hd⟩ := ar (l := ds) (k := i) (by omega)
   have hgi := bB hd
   obtain ⟨ad, rfl, hr⟩ := hS.at_ (by omega)
   have hbad : (!dH d) = true → ds.any (fun d => !dH d) = true := fun h => List.any_eq_true.2 ⟨d, List.mem_of_getElem? hd, h⟩
   by_cases h1 : d < 0
   ·refine ah (sr (mI (mL (aQ ?_))))
    refine aG (aa (cT (ak (ai (ah (aj (sr (mL (mI ?_)))))))))
    refine aF (k := i) aH.out aE.size rfl rfl (by omega) (by omega) (by decide) ?_
    refine aN aE.out rfl ((hr.ext hh.below).dR (by assumption)) (by decide) ?_
    refine aG (mB ?_)
    first | refine gS ?_ | (refine gT ?_; refine mL ?_) | refine gV ?_
    first | refine gS ?_ | (refine gT ?_; refine mI ?_) | refine gV ?_
    first | refine gS ?_ | (refine gT ?_; refine aF (k := i) aH.out aE.size rfl rfl (by omega) (by omega) (by decide) ?_) | refine gV ?_
    first | refine gS ?_ | (refine gT ?_; refine aN aE.out rfl ((hr.ext hh.below).dR (by assumption)) (by decide) ?_) | refine gV ?_
    first | refine gS ?_ | (refine gT ?_; refine bT ?_) | refine gV ?_
    first | refine dD ?_ | refine dA ?_
    refine aa (cT (sr (aI (aa (aq (bR (aM (aM (bR (aM ?_))))))))))
    refine cz ?_
    rw [hbad (by simp [dH]; omega), if_pos rfl]
    exact ⟨rfl, hh.below⟩
   ·by_cases h2 : 127 < d
    ·refine ah (sr (mI (mL (aQ ?_))))
     refine aG (aa (cT (ak (ai (ah (aj (sr (mL (mI ?_)))))))))
     refine aF (k := i) aH.out aE.size rfl rfl (by omega) (by omega) (by decide) ?_
     refine aN aE.out rfl ((hr.ext hh.below).dR (by assumption)) (by decide) ?_
     refine aG (mB ?_)
     first | refine gS ?_ | (refine gT ?_; refine mL ?_) | refine gV ?_
     first | refine gS ?_ | (refine gT ?_; refine mI ?_) | refine gV ?_
     first | refine gS ?_ | (refine gT ?_; refine aF (k := i) aH.out aE.size rfl rfl (by omega) (by omega) (by decide) ?_) | refine gV ?_
     first | refine gS ?_ | (refine gT ?_; refine aN aE.out rfl ((hr.ext hh.below).dR (by assumption)) (by decide) ?_) | refine gV ?_
     first | refine gS ?_ | (refine gT ?_; refine bT ?_) | refine gV ?_
     first | refine dD ?_ | refine dA ?_
     refine aa (cT (sr (aI (aa (aq (bR (aM (aM (bR (aM ?_))))))))))
     refine cz ?_
     rw [hbad (by simp [dH]; omega), if_pos rfl]
     exact ⟨rfl, hh.below⟩
    ·refine ah (sr (mI (mL (aQ ?_))))
     refine aG (aa (cT (ak (ai (ah (aj (sr (mL (mI ?_)))))))))
     refine aF (k := i) aH.out aE.size rfl rfl (by omega) (by omega) (by decide) ?_
     refine aN aE.out rfl ((hr.ext hh.below).dR (by assumption)) (by decide) ?_
     refine aG (mB ?_)
     first | refine gS ?_ | (refine gT ?_; refine mL ?_) | refine gV ?_
     first | refine gS ?_ | (refine gT ?_; refine mI ?_) | refine gV ?_
     first | refine gS ?_ | (refine gT ?_; refine aF (k := i) aH.out aE.size rfl rfl (by omega) (by omega) (by decide) ?_) | refine gV ?_
     first | refine gS ?_ | (refine gT ?_; refine aN aE.out rfl ((hr.ext hh.below).dR (by assumption)) (by decide) ?_) | refine gV ?_
     first | refine gS ?_ | (refine gT ?_; refine bT ?_) | refine gV ?_
     first | refine dD ?_ | refine dA ?_
     refine aa (cF (ak (aT (ai (al (mI ?_))))))
     refine bz (aI (aC (ai ?_)))
     refine ⟨⟨i + 1, by omega, rfl, ?_, hh⟩, by show n - (i + 1) < n - i; omega, ?_⟩
     ·rw [aO hd, List.any_append, hall, List.any_cons, List.any_nil, dH, decide_eq_true (by omega), decide_eq_true (by omega)]; rfl
     ·(repeat (first | exact aw _ _ _ | refine ay rfl ?_ | refine au rfl ?_))
  ·rw [List.take_of_length_le (by omega)] at hall
   rw [hall, if_neg (by decide)]
   obtain ⟨ns, hns, hlow⟩ := lM hall
   have hds : ∀ (j : Nat) (d : Int), ds[j]? = some d → 0 ≤ d ∧ d ≤ 127 := fun j d hd => by
    have := List.any_eq_false.1 hall d (List.mem_of_getElem? hd)
    simp [dH] at this
    omega
   refine ah (sr (mI (mL (aQ ?_))))
   refine aG (aa (cF ?_))
   refine aJ ?_
   refine ax (ax (aZ (ai (ah (sr (aI (aa (aj ?_))))))))
   refine bX [3, 5, 24, 25, 26, 27, 28, 29, 30, 31, 32, 33, 34, 35, 36, 37] 3 5
    (fun v3 v w' => ∃ (i : Nat) (q : Int), i ≤ n ∧ v = .int .i64 i ∧ v3 = .int .i64 q ∧ 0 ≤ q ∧ q ≤ 4097 ∧ nf 1 ds = nf q (ds.drop i) ∧ Hp w [] w')
    (fun _ v _ => n - (intOf v).toNat) ?_ ?_
   ·exact ⟨0, 1, Nat.zero_le _, rfl, rfl, by omega, by omega, rfl, hh⟩
   ·clear hh
    rintro ρ2 v3 v w2 ⟨j, q, hj, rfl, rfl, hq1, hq2, hc, hh⟩
    by_cases hjn : j < n
    ·obtain ⟨d, hd⟩ := ar (l := ds) (k := j) (by omega)
     have hgi := bB hd
     have hdb := hds j d hd
     obtain ⟨ad, rfl, hr⟩ := hS.at_ (by omega)
     rw [j0 hd, nf] at hc
     have hm1 : 0 * 0 ≤ q * (d + 1) := Int.mul_le_mul hq1 (by omega) (by decide) (by omega)
     have hm2 : q * (d + 1) ≤ 4097 * 128 := Int.mul_le_mul hq2 (by omega) (by omega) (by decide)
     refine ah (sr (mI (mL (aQ ?_))))
     refine aG (aa (cT (ak (ai (ah (aj (al (mI (mL (mI ?_))))))))))
     refine aF (k := j) aH.out aE.size rfl rfl (by omega) (by omega) (by decide) ?_
     refine aN aE.out rfl ((hr.ext hh.below).dR (by assumption)) (by decide) ?_
     refine bz ?_
     refine mulC ?_
     refine tF rfl rfl (by decide) ?_
     refine aI (aC (aT (ai (al (mI ?_)))))
     refine bz (aI (aC (ai ?_)))
     refine ⟨⟨j + 1, _, by omega, rfl, rfl, by split <;> omega, by split <;> omega, by rw [hc, show min (q * (d + 1)) 4097 = if 4097 < q * (d + 1) then 4097 else q * (d + 1) by split <;> omega], hh⟩, by show n - (j + 1) < n - j; omega, ?_⟩
     (repeat (first | exact aw _ _ _ | refine ay rfl ?_ | refine au rfl ?_))
    ·rw [List.drop_of_length_le (by omega)] at hc
     refine ah (sr (mI (mL (aQ ?_))))
     refine aG (aa (cF ?_))
     refine aJ ?_
     refine ax (ax (aZ (ai (sr (mI (aI (aa (aq ?_))))))))
     refine cz ?_
     exact ⟨by rw [hc]; rfl, hh.below⟩
theorem wx {ds : List Int} (h : ds.any (fun d => !dH d) = false) : (gr 1 ds = 0 ↔ 4096 < jc ds) ∧ (gr 1 ds ≠ 0 → gr 1 ds = jc ds) ∧ 1 ≤ jc ds := by
 obtain ⟨ns, rfl, hlow⟩ := lM h
 have h1 := kS ns 1 (by decide) (by decide) hlow
 have h2 := kR ns 1 (by decide) (by decide)
 have hp := cX ns
 rw [Nat.one_mul] at h1 h2
 unfold jc
 rw [h, if_neg (by decide)]
 have e1 : gr ((1 : Nat) : Int) (aW ns) = gr 1 (aW ns) := rfl
 have e2 : nf ((1 : Nat) : Int) (aW ns) = nf 1 (aW ns) := rfl
 rw [e1] at h1
 rw [e2] at h2
 rw [h1, h2]
 split <;> omega
theorem ks (A B : Option Addr) (n c m c2 : Nat) (ds : List Int) (cs : List NR) (w : World) (hS : Sl w A n 1 (bs ds)) (hS2 : Sl w B m 3 (bF NR.cells cs)) (hn : n ≤ 1000000) (hc : ∀ a ∈ cs, a.ok) :
  Calls Tryz.prog 66 #[.agg #[.slice A n c, .slice B m c2]] w fun r w' => r = .returned (.int .i64 (fE ds cs)) ∧ Below w.heap.size w w' := by
 have hh := Hp.start w
 have hln : ds.length = n := by have := hS.1; simpa [bs] using this
 have hlm := hS2.cP NR.len (by decide)
 unfold fE
 by_cases g1 : 12 < n
 ·refine ao (N := 40) (l := [.agg #[.slice A n c, .slice B m c2]]) Tryz.func66 rfl rfl (by simp) ?_
  refine sr ?_
  refine dm hh [_,_] ?_
  intro b1 w1 hh
  refine aI (aa (sr (bI ?_)))
  refine bP hh 0 ?_
  refine bJ hh (dW A n c ds _ (hS.ext hh.below) hn) rfl ?_
  intro w7 hh
  refine aI (aa (ah (sr (bI ?_))))
  refine bP hh 0 ?_
  refine aQ ?_
  refine bT (mB ?_)
  first | refine gS ?_ | (refine gT ?_; refine mI ?_) | refine gV ?_
  first | refine gS ?_ | (refine gT ?_; refine aG ?_) | refine gV ?_
  first | refine dD ?_ | refine dA ?_
  refine aa (cT (sr (aI (aa (aq (aM ?_))))))
  refine cz ?_
  exact ⟨by rw [if_pos (.inl (by omega))], hh.below⟩
 ·cases g2 : ds.any (fun d => !dH d) with
  | true =>
   have hcd : jc ds = -1 := by unfold jc; rw [g2, if_pos rfl]
   refine ao (N := 40) (l := [.agg #[.slice A n c, .slice B m c2]]) Tryz.func66 rfl rfl (by simp) ?_
   refine sr ?_
   refine dm hh [_,_] ?_
   intro b1 w1 hh
   refine aI (aa (sr (bI ?_)))
   refine bP hh 0 ?_
   refine bJ hh (dW A n c ds _ (hS.ext hh.below) hn) rfl ?_
   intro w7 hh
   rw [hcd]
   refine aI (aa (ah (sr (bI ?_))))
   refine bP hh 0 ?_
   refine aQ ?_
   refine bT (mB ?_)
   first | refine gS ?_ | (refine gT ?_; refine mI ?_) | refine gV ?_
   first | refine gS ?_ | (refine gT ?_; refine aG ?_) | refine gV ?_
   first | refine dD ?_ | refine dA ?_
   refine aa (cT (sr (aI (aa (aq (aM ?_))))))
   refine cz ?_
   exact ⟨by rw [if_pos (.inr rfl)], hh.below⟩
  | false =>
   rw [if_neg (fun h => h.elim (fun h => by omega) (fun h => by cases h))]
   obtain ⟨k1, k2, k3⟩ := wx g2
   by_cases g3 : gr 1 ds = 0
   ·have k4 := k1.1 g3
    refine ao (N := 40) (l := [.agg #[.slice A n c, .slice B m c2]]) Tryz.func66 rfl rfl (by simp) ?_
    refine sr ?_
    refine dm hh [_,_] ?_
    intro b1 w1 hh
    refine aI (aa (sr (bI ?_)))
    refine bP hh 0 ?_
    refine bJ hh (dW A n c ds _ (hS.ext hh.below) hn) rfl ?_
    intro w7 hh
    refine aI (aa (ah (sr (bI ?_))))
    refine bP hh 0 ?_
    refine aQ ?_
    refine bT (mB ?_)
    first | refine gS ?_ | (refine gT ?_; refine mI ?_) | refine gV ?_
    first | refine gS ?_ | (refine gT ?_; refine aG ?_) | refine gV ?_
    first | refine dD ?_ | refine dA ?_
    refine aa (cF (ak (ai (ah (sr (mI ?_))))))
    refine bT (aa (cT (sr (aI (aa (aq (aM ?_)))))))
    refine cz ?_
    exact ⟨by rw [if_pos g3], hh.below⟩
   ·have k4 : ¬ 4096 < jc ds := fun h => g3 (k1.2 h)
    rw [if_neg g3, k2 g3]
    by_cases g4 : (m : Int) = jc ds
    ·rw [if_neg (show ¬ (cs.length : Int) ≠ jc ds by omega)]
     refine ao (N := 40) (l := [.agg #[.slice A n c, .slice B m c2]]) Tryz.func66 rfl rfl (by simp) ?_
     refine sr ?_
     refine dm hh [_,_] ?_
     intro b1 w1 hh
     refine aI (aa (sr (bI ?_)))
     refine bP hh 0 ?_
     refine bJ hh (dW A n c ds _ (hS.ext hh.below) hn) rfl ?_
     intro w7 hh
     refine aI (aa (ah (sr (bI ?_))))
     refine bP hh 0 ?_
     refine aQ ?_
     refine bT (mB ?_)
     first | refine gS ?_ | (refine gT ?_; refine mI ?_) | refine gV ?_
     first | refine gS ?_ | (refine gT ?_; refine aG ?_) | refine gV ?_
     first | refine dD ?_ | refine dA ?_
     refine aa (cF (ak (ai (ah (sr (mI ?_))))))
     refine bT (aa (cF (ak (ai (ah (sr (bI ?_)))))))
     refine bP hh 0 ?_
     refine aQ (mI ?_)
     refine dK (aa (cF (ak (ai (ah (sr (aI (aa (aj ?_)))))))))
     refine bp [2, 4, 23, 24, 25, 26, 27, 28, 29, 30, 31, 32, 33, 34, 35, 36, 37, 38, 39] 4
      (fun v w' => ∃ i : Nat, i ≤ m ∧ v = .int .i64 i ∧ (cs.take i).any m5 = false ∧ Hp w [.blk b1 28 [.slice A n c, .slice B m c2] (0, 0)] w')
      (fun v _ => m - (intOf v).toNat) ?_ ?_
     ·exact ⟨0, Nat.zero_le _, rfl, rfl, hh⟩
     ·clear hh
      rintro ρ' v w' ⟨i, hi, rfl, hall, hh⟩
      by_cases hlt : i < m
      ·obtain ⟨x, hx⟩ := ar (l := cs) (k := i) (by omega)
       have hxo := hc x (List.mem_of_getElem? hx)
       have hf := fun w1 => eg x w1 (by have := hxo.1; omega) (by have := hxo.2; omega) (by have := hxo.2; omega)
       obtain ⟨ad, rfl, hr⟩ := hS2.at_ (by omega)
       cases g5 : m5 x with
       | true =>
        have he : ¬ nR x.d = x := fun h => by rw [jC.2 h] at g5; cases g5
        refine ah (sr (mI (mI ?_)))
        refine aG (aa (cT (ak (ai (ah (aj (ah ?_)))))))
        refine aK 11 [[(1, none)], [(28, some 0)], [(4, none)], [(29, some 1), (30, some 2)], [(31, some 3)], [(32, some 4)], [(1, none)], [(34, some 6)], [(4, none)], [(35, some 7), (36, some 8)], [(37, some 9)]] [(10, 38), (9, 37), (8, 36), (7, 35), (6, 34), (5, 33), (4, 32), (3, 31), (2, 30), (1, 29), (0, 28)] hh mixed (by kernel_rfl) ?_
        refine dv ?_
        refine dY 0 ?_
        refine dn ?_
        refine aR (i := 3) (fun ρ1 w1 hj hR => bQ aH.out aE.size (show ρ1 29 = Value.slice _ _ _ from hR.1) (show ρ1 30 = Value.int _ _ from hR.2.1) (by omega) (by omega)) ?_
        refine mh [_,_,_] (fun _ hj => (hr.ext hj.hp.below).recAt NR.len hx) ?_
        refine dC (fun _ hj => hf _) ?_
        refine dv ?_
        refine dY 0 ?_
        refine dn ?_
        refine aR (i := 9) (fun ρ1 w1 hj hR => bQ aH.out aE.size (show ρ1 35 = Value.slice _ _ _ from hR.1) (show ρ1 36 = Value.int _ _ from hR.2.1) (by omega) (by omega)) ?_
        refine mh [_,_,_] (fun _ hj => (hr.ext hj.hp.below).recAt NR.len hx) ?_
        refine bm ?_
        intro f W hJ hV
        have hb_11 := hJ.bl
        obtain ⟨v38, v37, v36, v35, v34, v33, v32, v31, v30, v29, v28, _⟩ := hV
        replace hh := hJ.hp
        refine aU (bk (ae v38 (ae v37 (ae v36 (ae v35 (ae v34 (ae v33 (ae v32 (ae v31 (ae v30 (ae v29 (ae v28 aV)))))))))))) ?_
        dsimp only [cd]
        clear hJ
        first | refine kP rfl rfl (by first | assumption | rfl) (by decide) ?_ | refine lu rfl rfl (by assumption) (by decide) ?_
        refine aa (cT (sr (aI (aa (aq (bR (aM (aM (bR (aM ?_))))))))))
        refine cz ?_
        exact ⟨by rw [if_pos (List.any_eq_true.2 ⟨x, List.mem_of_getElem? hx, g5⟩)], hh.below⟩
       | false =>
        have he := jC.1 g5
        refine ah (sr (mI (mI ?_)))
        refine aG (aa (cT (ak (ai (ah (aj (ah ?_)))))))
        refine aK 11 [[(1, none)], [(28, some 0)], [(4, none)], [(29, some 1), (30, some 2)], [(31, some 3)], [(32, some 4)], [(1, none)], [(34, some 6)], [(4, none)], [(35, some 7), (36, some 8)], [(37, some 9)]] [(10, 38), (9, 37), (8, 36), (7, 35), (6, 34), (5, 33), (4, 32), (3, 31), (2, 30), (1, 29), (0, 28)] hh mixed (by kernel_rfl) ?_
        refine dv ?_
        refine dY 0 ?_
        refine dn ?_
        refine aR (i := 3) (fun ρ1 w1 hj hR => bQ aH.out aE.size (show ρ1 29 = Value.slice _ _ _ from hR.1) (show ρ1 30 = Value.int _ _ from hR.2.1) (by omega) (by omega)) ?_
        refine mh [_,_,_] (fun _ hj => (hr.ext hj.hp.below).recAt NR.len hx) ?_
        refine dC (fun _ hj => hf _) ?_
        refine dv ?_
        refine dY 0 ?_
        refine dn ?_
        refine aR (i := 9) (fun ρ1 w1 hj hR => bQ aH.out aE.size (show ρ1 35 = Value.slice _ _ _ from hR.1) (show ρ1 36 = Value.int _ _ from hR.2.1) (by omega) (by omega)) ?_
        refine mh [_,_,_] (fun _ hj => (hr.ext hj.hp.below).recAt NR.len hx) ?_
        refine bm ?_
        intro f W hJ hV
        have hb_11 := hJ.bl
        obtain ⟨v38, v37, v36, v35, v34, v33, v32, v31, v30, v29, v28, _⟩ := hV
        replace hh := hJ.hp
        refine aU (bk (ae v38 (ae v37 (ae v36 (ae v35 (ae v34 (ae v33 (ae v32 (ae v31 (ae v30 (ae v29 (ae v28 aV)))))))))))) ?_
        dsimp only [cd]
        clear hJ
        first | refine kP rfl rfl (by first | assumption | rfl) (by decide) ?_ | refine lu rfl rfl (by assumption) (by decide) ?_
        refine aa (cF (ak (aT (ai (al (mI ?_))))))
        refine bz (aI (aC (ai ?_)))
        refine ⟨⟨i + 1, by omega, rfl, by rw [aO hx, List.any_append, hall, List.any_cons, List.any_nil, g5]; rfl, hh⟩, by show m - (i + 1) < m - i; omega, ?_⟩
        (repeat (first | exact aw _ _ _ | refine ay rfl ?_ | refine au rfl ?_))
      ·rw [List.take_of_length_le (by omega)] at hall
       refine ah (sr (mI (mI ?_)))
       refine aG (aa (cF ?_))
       refine aJ ?_
       refine ax (ax (aZ (ai (sr (aI (aa (aq ?_)))))))
       refine cz ?_
       exact ⟨by rw [hall, if_neg (by decide)], hh.below⟩
    ·rw [if_pos (show (cs.length : Int) ≠ jc ds by omega)]
     refine ao (N := 40) (l := [.agg #[.slice A n c, .slice B m c2]]) Tryz.func66 rfl rfl (by simp) ?_
     refine sr ?_
     refine dm hh [_,_] ?_
     intro b1 w1 hh
     refine aI (aa (sr (bI ?_)))
     refine bP hh 0 ?_
     refine bJ hh (dW A n c ds _ (hS.ext hh.below) hn) rfl ?_
     intro w7 hh
     refine aI (aa (ah (sr (bI ?_))))
     refine bP hh 0 ?_
     refine aQ ?_
     refine bT (mB ?_)
     first | refine gS ?_ | (refine gT ?_; refine mI ?_) | refine gV ?_
     first | refine gS ?_ | (refine gT ?_; refine aG ?_) | refine gV ?_
     first | refine dD ?_ | refine dA ?_
     refine aa (cF (ak (ai (ah (sr (mI ?_))))))
     refine bT (aa (cF (ak (ai (ah (sr (bI ?_)))))))
     refine bP hh 0 ?_
     refine aQ (mI ?_)
     refine dK (aa (cT (sr (aI (aa (aq (aM ?_)))))))
     refine cz ?_
     exact ⟨rfl, hh.below⟩
end Go.Proofs.YtioilmppidlbnaaGreatDoor
/- The walks through ogeeref12, second part: ways to choose, rows, places, equal forms, a form of one's own. -/
namespace Go.Proofs.YtioilmppidlbnaaGreatDoor
open Go.RowKit
def Bi (n : Nat) (k : Int) : Dyadic := if k < 0 ∨ (n : Int) < k then 0 else nD (bin n k.toNat)
theorem uo : ∀ (ns : List Nat) (n : Nat), (∀ d ∈ ns, d ≤ 127) → n * av ns ≤ 65536 → 1 ≤ n → oe n (aW ns) = true
 | [], _, _, _, _ => rfl
 | d :: ns, n, h, hc, h1 => by
  have hd := h d List.mem_cons_self
  have e1 : (n : Int) * ((d : Int) + 1) = ((n * (d + 1) : Nat) : Int) := by rw [Int.natCast_mul, Int.natCast_add]; rfl
  rw [av, ← Nat.mul_assoc] at hc
  have h2 : n * (d + 1) * 1 ≤ n * (d + 1) * av ns := Nat.mul_le_mul_left _ (cX ns)
  have ih := uo ns (n * (d + 1)) (fun x hx => h x (List.mem_cons_of_mem _ hx)) hc (Nat.mul_pos h1 (by omega))
  show (decide (0 ≤ (d : Int)) && (decide ((d : Int) ≤ 127) && (decide ((n : Int) * ((d : Int) + 1) ≤ 65536) && oe ((n : Int) * ((d : Int) + 1)) (aW ns)))) = true
  rw [e1, ih, decide_eq_true (by omega), decide_eq_true (by omega), decide_eq_true (by omega)]
  rfl
def gH (ns : List Nat) : List ByteArray := (ec (aW ns)).map fX
theorem u3 (ns : List Nat) : (gH ns).length = av ns := by unfold gH; rw [List.length_map, wK, cG]
theorem np {ns : List Nat} {p : Nat} (h : p < av ns) : (gH ns)[p]? = some (fX (aW (bE ns.reverse p).reverse)) := by
 unfold gH
 rw [List.getElem?_map, xS (by rw [cG]; exact h)]
 rfl
theorem jb (A : Option Addr) (n c : Nat) (ns : List Nat) (w : World) (hS : Sl w A n 1 (bs (aW ns))) (h12 : ns.length ≤ 12) (hlow : ∀ d ∈ ns, d ≤ 127) (hmax : av ns ≤ 65536) :
  Calls Tryz.prog 112 #[.slice A n c] w fun r w' => ∃ B c', r = .returned (.slice B (av ns) c') ∧ w'.ownsRow w.heap.size 9 1 (.slice B (av ns) c') (av ns) (fT (gH ns)) ∧ Below w.heap.size w w' := by
 have hh := Hp.start w
 have hln : ns.length = n := by have := hS.1; simpa [bs, aW] using this
 have ha : mC (aW ns) = gH ns := by
  have h1 : oe 1 (aW ns) = true := uo ns 1 hlow (by rw [Nat.one_mul]; exact hmax) (Nat.le_refl _)
  unfold mC
  rw [if_pos h1]
  rfl
 have hc := fun w1 hS1 => tf A n c (aW ns) w1 hS1 (by omega)
 rw [ha, u3] at hc
 refine ao (N := 5) (l := [.slice A n c]) Tryz.func112 rfl rfl (by simp) ?_
 refine sr (aL (aa (sr (mL ?_))))
 refine a6 (hc _ (hS.ext hh.below)) az.out rfl (by decide) ?_
 rintro e_ w4 ⟨A4, c4, rfl, hown_, hb_⟩
 refine ⟨_, rfl, ?_⟩
 replace hh := hh.bu (x := .row _ _ _ _ _ _) hb_ hown_
 refine aL (aa (aq ?_))
 refine cz ?_
 exact ⟨_, _, rfl, hh.at_ (i := 0) rfl, hh.below⟩
theorem wj {l : List Nat} {i r : Nat} (h : l[i]? = some r) (hr : r ≤ 255) : ∃ c : UInt8, (fX (aW l)).data.toList[i]? = some c ∧ c.toNat = r := by
 refine ⟨rJ (r : Int), ?_, ?_⟩
 ·unfold fX
  rw [eX, List.getElem?_map, cA h]
  rfl
 ·show (UInt8.ofNat ((r : Int)).toNat).toNat = r
  rw [Int.toNat_natCast, UInt8.toNat_ofNat']
  omega
theorem nk (A : Option Addr) (n c : Nat) (ns rs : List Nat) (w : World) (hS : Sl w A n 1 (bs (aW ns))) (hn : n ≤ 1000) (hmax : av ns ≤ 1000000) (hl : rs.length = ns.length) (hok : ∀ (i d r : Nat), ns[i]? = some d → rs[i]? = some r → r ≤ d) (hlow : ∀ d ∈ ns, d ≤ 255) :
  Calls Tryz.prog 113 #[.slice A n c, .string (fX (aW rs))] w fun r w' => r = .returned (.int .i64 (cU ns.reverse rs.reverse)) ∧ Below w.heap.size w w' := by
 have hh := Hp.start w
 have hln : ns.length = n := by have := hS.1; simpa [bs, aW] using this
 refine ao (N := 26) (l := [.slice A n c, .string (fX (aW rs))]) Tryz.func113 rfl rfl (by simp) ?_
 refine sr (aI (aa (sr (aI (aa (ah (sr (aI (aa (aj ?_))))))))))
 refine bX [5, 6, 7, 8, 9, 10, 11, 12, 13, 14, 15, 16, 17, 18, 19, 20, 21, 22, 23, 24] 5 6
  (fun v5 v w' => ∃ (i q : Nat), i ≤ n ∧ v = .int .i64 i ∧ v5 = .int .i64 q ∧ q = cU (ns.take i).reverse (rs.take i).reverse ∧ q < av (ns.take i) ∧ Hp w [] w')
  (fun _ v _ => n - (intOf v).toNat) ?_ ?_
 ·exact ⟨0, 0, Nat.zero_le _, rfl, rfl, rfl, Nat.one_pos, hh⟩
 ·clear hh
  rintro ρ' v5 v w' ⟨i, q, hi, rfl, rfl, hq, hq2, hh⟩
  by_cases hlt : i < n
  ·obtain ⟨d, hd⟩ := ar (l := ns) (k := i) (by omega)
   obtain ⟨r, hr⟩ := ar (l := rs) (k := i) (by omega)
   have hgi := bB (cA hd)
   have hrd := hok i d r hd hr
   have hd255 := hlow d (List.mem_of_getElem? hd)
   obtain ⟨ch, hch, hcr⟩ := wj hr (by omega)
   have hch2 : (fX (aW rs)).data.toList[(i : Int).toNat]? = some ch := hch
   have hst := vi hd hr
   have hcs := wB hd
   rw [cG, cG] at hcs
   rw [← hq] at hst
   have hct := e8 ns (i + 1)
   have hnew : r + (d + 1) * q < (d + 1) * av (ns.take i) := by
    have : (d + 1) * (q + 1) ≤ (d + 1) * av (ns.take i) := Nat.mul_le_mul_left _ hq2
    rw [Nat.mul_succ] at this
    omega
   have hpr : (q : Int) * ((d : Int) + 1) = (((d + 1) * q : Nat) : Int) := by rw [Nat.mul_comm, Int.natCast_mul, Int.natCast_add]; rfl
   obtain ⟨ad, rfl, hsr⟩ := hS.at_ (by omega)
   refine ah (sr (mI (mL (aQ ?_))))
   refine aG (aa (cT (ak (ai (ah (aj ?_))))))
   refine aK 11 [[(5, none)], [(0, none)], [(6, none)], [(14, some 1), (15, some 2)], [(16, some 3)], [(17, some 4)], [(13, some 0), (18, some 5)], [(1, none)], [(6, none)], [(20, some 7), (21, some 8)], [(22, some 9)]] [(10, 23), (9, 22), (8, 21), (7, 20), (6, 19), (5, 18), (4, 17), (3, 16), (2, 15), (1, 14), (0, 13)] hh mixed (by kernel_rfl) ?_
   refine dn ?_
   refine eP ?_
   refine dn ?_
   refine hH (i) ?_
   refine aR (i := 4) (fun ρ1 w1 hj hR => cm aE.out (show ρ1 16 = Value.pointer _ from hR.1) ((hsr.ext hj.hp.below).dR (by assumption))) ?_
   refine ow ?_
   refine Ad ?_
   refine AO ?_
   refine dn ?_
   refine aR (i := 9) (fun ρ1 w1 hj hR => gD aH.out (show ρ1 20 = Value.string _ from hR.1) (show ρ1 21 = Value.int _ _ from hR.2.1) (by omega) (by assumption)) ?_
   refine aR (i := 10) (fun ρ1 w1 hj hR => ia aH.out aH.out (show ρ1 22 = Value.int _ _ from hR.1) (by omega) (by omega)) ?_
   refine bm ?_
   intro f W hJ hV
   have hb_5 := hJ.bl
   obtain ⟨v23, v22, v21, v20, v19, v18, v17, v16, v15, v14, v13, _⟩ := hV
   replace hh := hJ.hp
   refine aU (bk (ae v23 (ae v22 (ae v21 (ae v20 (ae v19 (ae v18 (ae v17 (ae v16 (ae v15 (ae v14 (ae v13 aV)))))))))))) ?_
   dsimp only [cd]
   clear hJ
   refine bz (aI (aC (aT (ai (al (mI ?_))))))
   refine bz (aI (aC (ai ?_)))
   rw [hcr, hpr]
   refine ⟨⟨i + 1, r + (d + 1) * q, by omega, rfl, ?_, hst.symm, by omega, hh⟩, by show n - (i + 1) < n - i; omega, ?_⟩
   ·show Value.int IntKind.i64 ((((d + 1) * q : Nat) : Int) + (r : Int)) = _
    rw [show (((d + 1) * q : Nat) : Int) + (r : Int) = ((r + (d + 1) * q : Nat) : Int) by omega]
   ·(repeat (first | exact aw _ _ _ | refine ay rfl ?_ | refine au rfl ?_))
  ·obtain rfl : i = n := by omega
   rw [List.take_of_length_le (by omega), List.take_of_length_le (by omega)] at hq
   refine ah (sr (mI (mL (aQ ?_))))
   refine aG (aa (cF ?_))
   refine aJ ?_
   refine ax (ax (aZ (ai (sr (mI (aI (aa (aq ?_))))))))
   refine cz ?_
   exact ⟨by rw [hq], hh.below⟩
theorem qz (L : Option Addr) (n c : Nat) (b : List NR) (M : Option Addr) (c2 : Nat) (w : World) (hS : Sl w L n 3 (bF NR.cells b)) (hS2 : Sl w M n 3 (bF NR.cells b)) (hn : n ≤ 1000000) :
  Calls Tryz.prog 56 #[.slice L n c, .slice M n c2] w fun r w' => r = .returned (.bool true) ∧ Below w.heap.size w w' := by
 have hh := Hp.start w
 have hln := hS.cP NR.len (by decide)
 refine ao (N := 26) (l := [.slice L n c, .slice M n c2]) Tryz.func56 rfl rfl (by simp) ?_
 refine sr (aB (aa (ah (sr (mL (aQ (mL (aQ ?_))))))))
 refine dK (aa (cF (ak (ai (ah (sr (aI (aa (aj ?_)))))))))
 refine bp [4, 5, 11, 12, 13, 14, 15, 16, 17, 18, 19, 20, 21, 22, 23, 24, 25] 5
  (fun v w' => ∃ i : Nat, i ≤ n ∧ v = .int .i64 i ∧ Hp w [] w')
  (fun v _ => n - (intOf v).toNat) ?_ ?_
 ·exact ⟨0, Nat.zero_le _, rfl, hh⟩
 ·clear hh
  rintro ρ' v w' ⟨i, hi, rfl, hh⟩
  by_cases hlt : i < n
  ·obtain ⟨s, hs⟩ := ar (l := b) (k := i) (by omega)
   obtain ⟨ad, rfl, hr⟩ := hS.at_ (by omega)
   obtain ⟨ad2, rfl, hr2⟩ := hS2.at_ (by omega)
   refine ah (sr (mI (mL (aQ ?_))))
   refine aG (aa (cT (ak (ai (ah (aj (ah ?_)))))))
   refine aK 8 [[(0, none)], [(5, none)], [(17, some 0), (18, some 1)], [(19, some 2)], [(1, none)], [(5, none)], [(21, some 4), (22, some 5)], [(23, some 6)]] [(7, 24), (6, 23), (5, 22), (4, 21), (3, 20), (2, 19), (1, 18), (0, 17)] hh mixed (by kernel_rfl) ?_
   refine eP ?_
   refine dn ?_
   refine hH (i) ?_
   refine mh [_,_,_] (fun _ hj => (hr.ext hj.hp.below).recAt NR.len hs) ?_
   refine eP ?_
   refine dn ?_
   refine hH (i) ?_
   refine mh [_,_,_] (fun _ hj => (hr2.ext hj.hp.below).recAt NR.len hs) ?_
   refine bm ?_
   intro f W hJ hV
   have hb_6 := hJ.bl
   obtain ⟨v24, v23, v22, v21, v20, v19, v18, v17, _⟩ := hV
   replace hh := hJ.hp
   refine aU (bk (ae v24 (ae v23 (ae v22 (ae v21 (ae v20 (ae v19 (ae v18 (ae v17 aV))))))))) ?_
   dsimp only [cd]
   clear hJ
   first | refine kP rfl rfl (by first | assumption | rfl) (by decide) ?_ | refine lu rfl rfl (by assumption) (by decide) ?_
   refine aa (cF (ak (aT (ai (al (mI ?_))))))
   refine bz (aI (aC (ai ?_)))
   refine ⟨⟨i + 1, by omega, rfl, hh⟩, by show n - (i + 1) < n - i; omega, ?_⟩
   (repeat (first | exact aw _ _ _ | refine ay rfl ?_ | refine au rfl ?_))
  ·refine ah (sr (mI (mL (aQ ?_))))
   refine aG (aa (cF ?_))
   refine aJ ?_
   refine ax (ax (aZ (ai (sr (aB (aa (aq ?_)))))))
   refine cz ?_
   exact ⟨rfl, hh.below⟩
theorem pG (A B : Option Addr) (n c m c2 : Nat) (A' B' : Option Addr) (c' c2' : Nat) (ds : List Int) (cs : List NR) (w : World) (hS : Sl w A n 1 (bs ds)) (hS2 : Sl w B m 3 (bF NR.cells cs)) (hS3 : Sl w A' n 1 (bs ds)) (hS4 : Sl w B' m 3 (bF NR.cells cs)) (hn : n ≤ 100000) (hm : m ≤ 1000000) :
  Calls Tryz.prog 17 #[.agg #[.slice A n c, .slice B m c2], .agg #[.slice A' n c', .slice B' m c2']] w fun r w' => r = .returned (.bool true) ∧ Below w.heap.size w w' := by
 have hh := Hp.start w
 have hnum := fun w1 h1 h2 => oB A A' n n c c' ds ds w1 h1 h2 hn hn
 simp only [decide_true] at hnum
 refine ao (N := 17) (l := [.agg #[.slice A n c, .slice B m c2], .agg #[.slice A' n c', .slice B' m c2']]) Tryz.func17 rfl rfl (by simp) ?_
 refine sr ?_
 refine dm hh [_,_] ?_
 intro b2 w2 hh
 refine dm hh [_,_] ?_
 intro b3 w3 hh
 refine aB (aa (sr (bI ?_)))
 refine bP hh 1 ?_
 refine bI ?_
 refine bP hh 0 ?_
 refine bJ hh (hnum _ (hS.ext hh.below) (hS3.ext hh.below)) rfl ?_
 intro w9 hh
 refine mB ?_
 first | refine gS ?_ | (refine gT ?_; refine bI ?_) | refine gV ?_
 first | refine gS ?_ | (refine gT ?_; refine bP hh 1 ?_) | refine gV ?_
 first | refine gS ?_ | (refine gT ?_; refine bI ?_) | refine gV ?_
 first | refine gS ?_ | (refine gT ?_; refine bP hh 0 ?_) | refine gV ?_
 refine bo rfl rfl ?_
 refine bJ hh (qz B m c2 cs B' c2' _ (hS2.ext hh.below) (hS4.ext hh.below) hm) rfl ?_
 intro w15 hh
 first | refine dD ?_ | refine dA ?_
 refine aB (aa (aq ?_))
 refine cz ?_
 exact ⟨rfl, hh.below⟩
theorem qM (A B : Option Addr) (n c m c2 : Nat) (ds : List Int) (cs : List NR) (w : World) (hS : Sl w A n 1 (bs ds)) (hS2 : Sl w B m 3 (bF NR.cells cs)) (hn : n ≤ 1000000) (hm : m ≤ 1000000) :
  Calls Tryz.prog 14 #[.agg #[.slice A n c, .slice B m c2]] w fun r w' => ∃ A' c' B' c2' R, r = .returned (.agg #[.slice A' n c', .slice B' m c2']) ∧ (R = [.row B' m c2' 39 3 (bF NR.cells cs), .row A' n c' 3 1 (bs ds)] ∨ m = 0 ∧ R = [.row A' n c' 3 1 (bs ds)]) ∧ Hp w R w' := by
 have hh := Hp.start w
 have hone : ((bF NR.cells cs).all Value.oneCell') = true := bL NR.one _
 have hone2 := bC ds
 refine ao (N := 12) (l := [.agg #[.slice A n c, .slice B m c2]]) Tryz.func14 rfl rfl (by simp) ?_
 refine sr ?_
 refine dm hh [_,_] ?_
 intro b1 w1 hh
 refine cS hh ?_
 intro b2 w2 hh
 refine aa (ah ?_)
 refine aK 7 [[], [(1, none)], [(4, some 1)], [(3, some 0), (5, some 2)], [], [(1, none)], [(8, some 5)]] [(6, 9), (5, 8), (4, 7), (3, 6), (2, 5), (1, 4), (0, 3)] hh mixed (by kernel_rfl) ?_
 refine oL (i := 0) aH.out aE.out (fun w1 hj => hj.bl.size) ?_
 refine dv ?_
 refine dY 1 ?_
 refine sv (i := 3) (fun ρ1 w1 hj hR => hR.1) (fun ρ1 w1 hj hR => ⟨_, _, (show ρ1 5 = Value.slice _ _ _ from hR.2.1), hS.ext hj.hp.below⟩) aH.out aE.out rfl (by decide) (by first | rfl | assumption) (by unfold maxLen; omega) (by omega) (fun w1 hj => hj.bl.size) ?_
 refine oL (i := 4) aH.out aE.out (fun w1 hj => hj.bl.size) ?_
 refine dv ?_
 refine dY 1 ?_
 refine bm ?_
 intro f W hJ hV
 have hb_1 := hJ.bl
 obtain ⟨v9, v8, v7, v6, v5, v4, v3, _⟩ := hV
 obtain ⟨g3, e3, _⟩ : pE _ _ _ (f 0) W := v3
 obtain ⟨A6, c6, e6, o6⟩ : oA _ _ _ _ _ (f 3) W := v6
 obtain ⟨g7, e7, _⟩ : pE _ _ _ (f 4) W := v7
 replace hh := JJ.vg hh hJ.hp o6
 clear o6
 refine aU (bk (ae v9 (ae v8 (ae e7 (ae e6 (ae v5 (ae v4 (ae e3 aV)))))))) ?_
 dsimp only [cd]
 clear e3 e6 e7 hJ
 refine p5 rfl rfl (hS2.ext hh.below) aH.out aE.out rfl (by decide) hone (by unfold maxLen; omega) (by omega) (by decide) ?_ ?_
 ·rintro rfl
  refine fi [_,_] ?_
  refine bY hh 1 [_,_] ?_
  intro ws hh
  replace hh : Hp _ (_ :: .blk _ _ [_, _] _ :: _) _ := hh
  refine aa (aq ?_)
  refine gp (bf rfl (bg (vs := [_, _]) aE.out (hh.aD (i := 1) (n := 2) rfl rfl) rfl) bA) ?_
  exact ⟨_, _, _, _, _, rfl, .inr ⟨rfl, rfl⟩, hh.sub (List.sublist_append_left [_] _)⟩
 ·intro A10 c10 w10 h0 hb ho
  replace hh := hh.bu (x := .row _ _ _ _ _ _) hb ho
  refine fi [_,_] ?_
  refine bY hh 2 [_,_] ?_
  intro ws hh
  replace hh : Hp _ (_ :: _ :: .blk _ _ [_, _] _ :: _) _ := hh
  refine aa (aq ?_)
  refine gp (bf rfl (bg (vs := [_, _]) aE.out (hh.aD (i := 2) (n := 2) rfl rfl) rfl) bA) ?_
  exact ⟨_, _, _, _, _, rfl, .inl rfl, hh.sub (List.sublist_append_left [_, _] _)⟩
end Go.Proofs.YtioilmppidlbnaaGreatDoor
/- The walks through ogeeref14: Big, Times. -/
namespace Go.Proofs.YtioilmppidlbnaaGreatDoor
open Go.RowKit
theorem x3 (ns : List Nat) : decide (jc (aW ns) < 0 ∨ 4096 < jc (aW ns)) = iB ns := by
 unfold jc iB
 have e1 : (aW ns).any (fun d => !dH d) = ns.any fun d => decide (127 < d) := by
  unfold aW
  rw [List.any_map]
  refine congrArg ns.any (funext fun d => ?_)
  show (!dH (d : Int)) = decide (127 < d)
  by_cases h : 127 < d
  ·rw [decide_eq_true h]
   simp [dH]
   omega
  ·rw [decide_eq_false h]
   simp [dH]
   omega
 rw [e1]
 cases h : ns.any fun d => decide (127 < d) with
 | true =>
  rw [if_pos rfl]
  rfl
 | false =>
  rw [if_neg (by decide), Bool.false_or]
  have h2 := kR ns 1 (by decide) (by decide)
  have h3 : nf 1 (aW ns) = ((min (1 * av ns) 4097 : Nat) : Int) := h2
  rw [h3]
  refine decide_eq_decide.2 ?_
  omega
theorem nZ (A : Option Addr) (n c : Nat) (ns : List Nat) (w : World) (hS : Sl w A n 1 (bs (aW ns))) (hn : n ≤ 1000000) :
  Calls Tryz.prog 62 #[.slice A n c] w fun r w' => r = .returned (.bool (iB ns)) ∧ Below w.heap.size w w' := by
 have hh := Hp.start w
 have hc := fun w1 hb => dW A n c (aW ns) w1 (hS.ext hb) hn
 rw [← x3]
 generalize jc (aW ns) = q at *
 by_cases h1 : q < 0
 ·rw [decide_eq_true (.inl h1)]
  refine ao (N := 12) (l := [.slice A n c]) Tryz.func62 rfl rfl (by simp) ?_
  refine sr (aB (aa (sr (mL ?_))))
  refine bJ hh (hc _ hh.below) rfl ?_
  intro w5 hh
  refine aI (aa (sr (mI ?_)))
  refine aG (mB ?_)
  first | refine gS ?_ | (refine gT ?_; refine mI ?_) | refine gV ?_
  first | refine gS ?_ | (refine gT ?_; refine bT ?_) | refine gV ?_
  first | refine dD ?_ | refine dA ?_
  refine aB (aa (aq ?_))
  refine cz ?_
  exact ⟨rfl, hh.below⟩
 ·by_cases h2 : 4096 < q
  ·rw [decide_eq_true (.inr h2)]
   refine ao (N := 12) (l := [.slice A n c]) Tryz.func62 rfl rfl (by simp) ?_
   refine sr (aB (aa (sr (mL ?_))))
   refine bJ hh (hc _ hh.below) rfl ?_
   intro w5 hh
   refine aI (aa (sr (mI ?_)))
   refine aG (mB ?_)
   first | refine gS ?_ | (refine gT ?_; refine mI ?_) | refine gV ?_
   first | refine gS ?_ | (refine gT ?_; refine bT ?_) | refine gV ?_
   first | refine dD ?_ | refine dA ?_
   refine aB (aa (aq ?_))
   refine cz ?_
   exact ⟨rfl, hh.below⟩
  ·rw [decide_eq_false (by omega)]
   refine ao (N := 12) (l := [.slice A n c]) Tryz.func62 rfl rfl (by simp) ?_
   refine sr (aB (aa (sr (mL ?_))))
   refine bJ hh (hc _ hh.below) rfl ?_
   intro w5 hh
   refine aI (aa (sr (mI ?_)))
   refine aG (mB ?_)
   first | refine gS ?_ | (refine gT ?_; refine mI ?_) | refine gV ?_
   first | refine gS ?_ | (refine gT ?_; refine bT ?_) | refine gV ?_
   first | refine dD ?_ | refine dA ?_
   refine aB (aa (aq ?_))
   refine cz ?_
   exact ⟨rfl, hh.below⟩
end Go.Proofs.YtioilmppidlbnaaGreatDoor
