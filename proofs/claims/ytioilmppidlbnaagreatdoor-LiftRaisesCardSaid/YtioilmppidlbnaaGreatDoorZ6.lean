/- The row and the card of LiftRaises. -/
import Derived.Test.YtioilmppidlbnaaGreatDoorCards
import Derived.Test.YtioilmppidlbnaaGreatDoorTie
import Derived.SevenTiedAt
import Derived.Test.YtioilmppidlbnaaGreatDoorZ5
/- The walk through ogeeref14.Times. -/
namespace Go.Proofs.YtioilmppidlbnaaGreatDoor
open Go.RowKit
def AU (ds es : List Nat) (xs ys : List Dyadic) (i m : Nat) : List (Nat × Dyadic) := (List.range m).map fun k => (db (cB ds es) (cB (bV ds i) (bV es k)), (xs[i]?).getD 0 * (ys[k]?).getD 0)
def Bb (ds es : List Nat) (xs ys : List Dyadic) (i : Nat) : List (Nat × Dyadic) := (List.range i).flatMap fun i => AU ds es xs ys i (ay es)
def bS (rs : List Nat) : List UInt8 := (bf rs).map sw
theorem yt {ns rs : List Nat} (h : im ns.reverse rs) (j d r : Nat) (h1 : ns[j]? = some d) (h2 : rs.reverse[j]? = some r) : r ≤ d := by
 have hl := kX h
 rw [List.length_reverse] at hl
 have hj := (List.getElem?_eq_some_iff.1 h1).1
 rw [List.getElem?_reverse (by omega)] at h2
 refine mY h ?_ h2
 rw [List.getElem?_reverse (by omega), show ns.length - 1 - (rs.length - 1 - j) = j by omega]
 exact h1
end Go.Proofs.YtioilmppidlbnaaGreatDoor
/- Plain laws: a form, raised degree by degree. -/
namespace Go.Proofs.YtioilmppidlbnaaGreatDoor
def dh (ns : List Nat) (a : Nat) : List Nat := ns.set a (ns.getD a 0 + 1)
def tm (ns : List Nat) (a : Nat) (xs : List Dyadic) : List Dyadic :=
 (List.range (ay (dh ns a))).map fun p => co ns.reverse xs (bV (dh ns a).reverse p) + if 0 < (bV (dh ns a).reverse p).getD (ns.length - 1 - a) 0 then co ns.reverse xs (gA (bV (dh ns a).reverse p) (ns.length - 1 - a)) else 0
theorem tg (ns : List Nat) (a : Nat) (xs : List Dyadic) : (tm ns a xs).length = ay (dh ns a) := by simp [tm]
theorem y4 {ns : List Nat} {a : Nat} {xs : List Dyadic} {r : List Nat} (h : im (dh ns a).reverse r) : co (dh ns a).reverse (tm ns a xs) r = co ns.reverse xs r + if 0 < r.getD (ns.length - 1 - a) 0 then co ns.reverse xs (gA r (ns.length - 1 - a)) else 0 := by
 have h1 := iO h
 rw [dm] at h1
 rw [ua h]
 unfold tm
 rw [List.getElem?_map, List.getElem?_range h1, Option.map_some, Option.getD_some, jA h]
theorem gP : ∀ (ds rs : List Nat), im ds rs ↔ rs.length = ds.length ∧ ∀ (i d r : Nat), ds[i]? = some d → rs[i]? = some r → r ≤ d
 | [], [] => by simp [im]
 | [], _ :: _ => by simp [im]
 | _ :: _, [] => by simp [im]
 | d :: ds, r :: rs => by
  rw [im, gP ds rs]
  constructor
  ·rintro ⟨h1, h2, h3⟩
   refine ⟨by rw [List.length_cons, List.length_cons, h2], fun i e s he hs => ?_⟩
   cases i with
   | zero => cases he; cases hs; exact h1
   | succ i => exact h3 i e s he hs
  ·rintro ⟨h1, h2⟩
   exact ⟨h2 0 d r rfl rfl, by simpa using h1, fun i e s he hs => h2 (i + 1) e s he hs⟩
theorem ir {l : List Nat} {a x : Nat} (h : a < l.length) : (l.set a x).reverse = l.reverse.set (l.length - 1 - a) x := by
 refine List.ext_getElem? fun i => ?_
 by_cases hi : i < l.length
 ·rw [List.getElem?_reverse (by rw [List.length_set]; exact hi), List.getElem?_set, List.getElem?_set, List.length_set, List.length_reverse, List.getElem?_reverse hi]
  by_cases h2 : a = l.length - 1 - i
  ·rw [if_pos h2, if_pos (by omega), if_pos (by omega), if_pos (by omega)]
  ·rw [if_neg h2, if_neg (by omega)]
 ·rw [List.getElem?_eq_none (by simp; omega), List.getElem?_eq_none (by simp; omega)]
theorem wb {l : List Nat} {a : Nat} (h : a < l.length) : l.reverse.getD (l.length - 1 - a) 0 = l.getD a 0 := by
 rw [List.getD_eq_getElem?_getD, List.getD_eq_getElem?_getD, List.getElem?_reverse (by omega), show l.length - 1 - (l.length - 1 - a) = a by omega]
theorem fY (ns : List Nat) (a : Nat) : (dh ns a).length = ns.length := by simp [dh]
theorem gF {ns : List Nat} {a i : Nat} (ha : a < ns.length) : (dh ns a)[i]? = if a = i then some (ns.getD a 0 + 1) else ns[i]? := by
 unfold dh
 rw [List.getElem?_set]
 split
 ·rfl
 ·rfl
def xF (ns : List Nat) (xs : List Dyadic) (cs : List Nat) (zs : List Dyadic) : Prop := zs.length = ay cs ∧ cs.length = ns.length ∧ (∀ (i n c : Nat), ns[i]? = some n → cs[i]? = some c → n ≤ c) ∧ ∀ row : List Nat, row.length = ns.length → co cs.reverse zs row = tT (dL cs ns).reverse (co ns.reverse xs) row
theorem sub_self : ∀ (l : List Nat), ∀ x ∈ dL l l, x = 0
 | [], _, h => nomatch h
 | y :: l, x, h => by
  rcases List.mem_cons.1 h with h | h
  ·rw [h]; exact Nat.sub_self y
  ·exact sub_self l x h
theorem xF.start {ns : List Nat} {xs : List Dyadic} (h : xs.length = ay ns) : xF ns xs ns xs := by
 refine ⟨h, rfl, fun i n c h1 h2 => by rw [h1] at h2; cases h2; exact Nat.le_refl _, fun row _ => ?_⟩
 rw [qB _ _ _ fun m hm => sub_self ns m (List.mem_reverse.1 hm)]
theorem xF.step {ns cs : List Nat} {xs zs : List Dyadic} {a : Nat} (h : xF ns xs cs zs) (ha : a < cs.length) : xF ns xs (dh cs a) (tm cs a zs) := by
 obtain ⟨h1, h2, h3, h4⟩ := h
 refine ⟨tg _ _ _, by rw [fY, h2], fun i n c hn hc => ?_, fun row hr => ?_⟩
 ·rw [gF ha] at hc
  split at hc
  ·rename_i e
   subst e
   cases hc
   obtain ⟨c, hc⟩ := au ha
   have := h3 a n c hn hc
   rw [List.getD_eq_getElem?_getD, hc]
   exact Nat.le_succ_of_le this
  ·exact h3 i n c hn hc
 ·have e1 : (dL (dh cs a) ns).reverse = (dL cs ns).reverse.set (cs.length - 1 - a) ((dL cs ns).reverse.getD (cs.length - 1 - a) 0 + 1) := by
   have hl : (dL cs ns).length = cs.length := iA h2
   have e2 := wb (l := dL cs ns) (a := a) (by omega)
   rw [hl] at e2
   rw [e2, show cs.length - 1 - a = (dL cs ns).length - 1 - a by rw [hl], ← ir (by omega)]
   congr 1
   refine List.ext_getElem? fun i => ?_
   rw [List.getElem?_set, hl]
   unfold dL
   simp only [List.getElem?_zipWith, gF ha, List.getD_eq_getElem?_getD]
   obtain ⟨c, hc⟩ := au ha
   obtain ⟨n, hn⟩ := au (l := ns) (k := a) (by omega)
   have := h3 a n c hn hc
   by_cases hi : a = i
   ·subst hi
    rw [if_pos rfl, if_pos rfl, if_pos ha, hn, hc]
    show some (c + 1 - n) = some (c - n + 1)
    congr 1
    omega
   ·rw [if_neg hi, if_neg hi]
  rw [e1, qY _ _ _ _ (by rw [List.length_reverse, iA h2]; omega) (by rw [List.length_reverse, iA h2]; omega), ← h4 row hr]
  have hdl : (gA row (cs.length - 1 - a)).length = ns.length := by unfold gA; rw [List.length_set, hr]
  rw [← h4 _ hdl]
  by_cases hok : im (dh cs a).reverse row
  ·exact y4 hok
  ·rw [p7 hok]
   have n1 : ¬ im cs.reverse row := fun h => hok (by
    rw [gP] at h ⊢
    refine ⟨by rw [h.1, List.length_reverse, List.length_reverse, fY], fun i d r hd hr2 => ?_⟩
    unfold dh at hd
    rw [ir ha, List.getElem?_set] at hd
    split at hd
    ·rename_i e
     subst e
     rw [if_pos (by rw [List.length_reverse]; omega)] at hd
     cases hd
     obtain ⟨c, hc⟩ := au ha
     have := h.2 (cs.length - 1 - a) c r (by rw [List.getElem?_reverse (by omega), show cs.length - 1 - (cs.length - 1 - a) = a by omega]; exact hc) hr2
     rw [List.getD_eq_getElem?_getD, hc]
     exact Nat.le_succ_of_le this
    ·exact h.2 i d r hd hr2)
   rw [p7 n1]
   have e3 : ∀ x : Dyadic, (0 : Dyadic) = 0 + x ↔ x = 0 := fun x => by grind
   rw [e3]
   split
   ·rename_i hpos
    refine p7 fun h => hok ?_
    rw [gP] at h ⊢
    refine ⟨by rw [hr, List.length_reverse, fY, h2], fun i d r hd hr2 => ?_⟩
    unfold dh at hd
    rw [ir ha, List.getElem?_set] at hd
    unfold gA at h
    split at hd
    ·rename_i e
     subst e
     rw [if_pos (by rw [List.length_reverse]; omega)] at hd
     cases hd
     obtain ⟨c, hc⟩ := au ha
     have := h.2 (cs.length - 1 - a) c (row.getD (cs.length - 1 - a) 0 - 1) (by rw [List.getElem?_reverse (by omega), show cs.length - 1 - (cs.length - 1 - a) = a by omega]; exact hc) (by rw [List.getElem?_set, if_pos rfl, if_pos (by omega)])
     rw [List.getD_eq_getElem?_getD, hr2] at this
     rw [List.getD_eq_getElem?_getD, hc]
     have h6 : r - 1 ≤ c := this
     show r ≤ c + 1
     omega
    ·rename_i e
     exact h.2 i d r hd (by rw [List.getElem?_set, if_neg e]; exact hr2)
   ·rfl
theorem wC {ns ts : List Nat} {xs : List Dyadic} {row : List Nat} (hl : ns.length = ts.length) (hle : ∀ (i n t : Nat), ns[i]? = some n → ts[i]? = some t → n ≤ t) (hr : im ts.reverse row) : co ts.reverse (ib ns ts xs) row = tT (dL ts ns).reverse (co ns.reverse xs) row := by
 have hsl : (dL ts ns).length = ts.length := iA hl.symm
 have hadd : cB ns.reverse (dL ts ns).reverse = ts.reverse := by rw [kN (by omega), jY hl hle]
 have hlt := iO hr
 rw [ua hr]
 unfold ib kb
 rw [jY hl hle]
 have h1 := hlt
 rw [dm] at h1
 rw [kz _ h1, Option.getD_some]
 have h2 := xI (ds := ns.reverse) (es := (dL ts ns).reverse) (xs := xs) (ys := (nW (dL ts ns)).map nD) (by rw [List.length_reverse, List.length_reverse]; omega) (p := db ts.reverse row) (by rw [hadd]; exact hlt)
 rw [hadd, jA hr] at h2
 have h3 : tE ns.reverse (dL ts ns).reverse xs ((nW (dL ts ns)).map nD) = ng ns.reverse (dL ts ns).reverse xs ((nW (dL ts ns)).map nD) (ay (dL ts ns)) := by
  unfold tE ng
  rw [dm (dL ts ns)]
 rw [← h3, h2, ← ri _ _ _ (by rw [kX hr, List.length_reverse, List.length_reverse]; omega)]
 refine fD fun k hk => ?_
 congr 1
 unfold nW
 rw [List.map_map, List.getElem?_map, List.getElem?_range (List.mem_range.1 hk)]
 rfl
theorem xF.done {ns ts : List Nat} {xs zs : List Dyadic} (h : xF ns xs ts zs) : zs = ib ns ts xs := by
 obtain ⟨h1, h2, h3, h4⟩ := h
 refine yA (ds := ts.reverse) (by rw [dm]; exact h1) (by
  unfold ib kb
  rw [gv, jY h2.symm h3, dm]) fun row hr => ?_
 rw [h4 row (by rw [kX hr, List.length_reverse, h2]), wC h2.symm h3 hr]
end Go.Proofs.YtioilmppidlbnaaGreatDoor
/- The walk through ogeeref14.up. -/
namespace Go.Proofs.YtioilmppidlbnaaGreatDoor
open Go.RowKit
theorem Hp.o8 {w0 w : World} {H : List HE} (h : Hp w0 H w) {i b n : Nat} {t : TypeId} {l : List UInt8} {ex : List Value} {fz : Nat × Nat} (hi : H[i]? = some (.blk b t (jE l ++ ex) fz)) (hl : l.length = n) : Sl w (some ⟨b, 0, none⟩) n 1 (jE l) := by
 refine ⟨by rw [ew, hl, Nat.mul_one], fun _ => ⟨_, rfl, fun j u hu => ?_⟩⟩
 refine h.rH hi j u ?_
 rw [List.getElem?_append_left (List.getElem?_eq_some_iff.1 hu).1]
 exact hu
theorem z3 {rs : List Nat} {i r : Nat} (h : rs[i]? = some r) (hr : r ≤ 255) : (jE (bS rs))[i]? = some (.int .u8 (r : Int)) := by
 unfold jE bS
 rw [List.getElem?_map, List.getElem?_map, cZ h]
 show some (Value.int .u8 ((sw (r : Int)).toNat : Int)) = _
 have : (sw (r : Int)).toNat = r := by
  show (UInt8.ofNat ((r : Int)).toNat).toNat = r
  rw [Int.toNat_natCast, UInt8.toNat_ofNat']
  omega
 rw [this]
theorem zn {ns rr : List Nat} {a d r : Nat} (ha : a < ns.length) (hd : ns[a]? = some d) (hok : im (dh ns a).reverse rr) (hr : rr[ns.length - 1 - a]? = some r) (hle : r ≤ d) : im ns.reverse rr := by
 rw [gP] at hok ⊢
 refine ⟨by rw [hok.1, List.length_reverse, List.length_reverse, fY], fun i e s he hs => ?_⟩
 by_cases hi : ns.length - 1 - a = i
 ·subst hi
  rw [hr] at hs
  cases hs
  rw [List.getElem?_reverse (by omega), show ns.length - 1 - (ns.length - 1 - a) = a by omega, hd] at he
  cases he
  exact hle
 ·refine hok.2 i e s ?_ hs
  unfold dh
  rw [ir ha, List.getElem?_set, if_neg hi]
  exact he
theorem u9 {ns rr : List Nat} {a d r : Nat} (ha : a < ns.length) (hd : ns[a]? = some d) (hok : im (dh ns a).reverse rr) (hr : rr[ns.length - 1 - a]? = some r) (hle : r ≤ d + 1) : im ns.reverse (gA rr (ns.length - 1 - a)) := by
 rw [gP] at hok ⊢
 unfold gA
 refine ⟨by rw [List.length_set, hok.1, List.length_reverse, List.length_reverse, fY], fun i e s he hs => ?_⟩
 rw [List.getElem?_set] at hs
 by_cases hi : ns.length - 1 - a = i
 ·subst hi
  rw [if_pos rfl, if_pos (List.getElem?_eq_some_iff.1 hr).1, List.getD_eq_getElem?_getD, hr] at hs
  cases hs
  rw [List.getElem?_reverse (by omega), show ns.length - 1 - (ns.length - 1 - a) = a by omega, hd] at he
  cases he
  show r - 1 ≤ d
  omega
 ·rw [if_neg hi] at hs
  refine hok.2 i e s ?_ hs
  unfold dh
  rw [ir ha, List.getElem?_set, if_neg hi]
  exact he
theorem vp {rr : List Nat} {a n r : Nat} {ex : List Value} (hl : rr.length = n) (ha : a < n) (hr : rr[n - 1 - a]? = some r) (h0 : 0 < r) (h1 : r ≤ 255) : cR (jE (bS rr.reverse) ++ ex) (a * 1) [.int .u8 ((r - 1 : Nat) : Int)] = jE (bS (gA rr (n - 1 - a)).reverse) ++ ex := by
 have hb : (bS rr.reverse).length = n := by unfold bS; rw [List.length_map, cd, List.length_reverse, hl]
 rw [Nat.mul_one, cw (by rw [List.length_append, ew]; omega), List.set_append_left _ _ (by rw [ew]; omega)]
 congr 1
 have e1 : (gA rr (n - 1 - a)).reverse = rr.reverse.set a (r - 1) := by
  unfold gA
  rw [ir (by omega), hl, show n - 1 - (n - 1 - a) = a by omega, List.getD_eq_getElem?_getD, hr]
  rfl
 have e2 : (sw ((r - 1 : Nat) : Int)).toNat = r - 1 := by
  show (UInt8.ofNat (((r - 1 : Nat) : Int)).toNat).toNat = r - 1
  rw [Int.toNat_natCast, UInt8.toNat_ofNat']
  omega
 rw [e1]
 unfold bS jE bf
 rw [List.map_set, List.map_set, List.map_set, e2]
theorem vb {ns : List Nat} {a d : Nat} (h : ns[a]? = some d) : (bf ns).set a ((d : Int) + 1) = bf (dh ns a) := by
 unfold dh bf
 rw [List.map_set, List.getD_eq_getElem?_getD, h]
 rfl
theorem uF (F FC : Option Addr) (n c1 c2 a k : Nat) (ns : List Nat) (xs : List Dyadic) (w : World) (hF : Sl w F n 1 (bA (bf ns))) (hFC : Sl w FC (ay ns) 3 (bR NR.cells (xs.map nR)))
  (hn : n ≤ 12) (ha : a < n) (hA : ∀ d ∈ dh ns a, d ≤ 127) (hN : ay (dh ns a) ≤ 4096) (hx : ∀ x ∈ xs, Sz k x) (hk : k ≤ 1000000) :
  Calls Tryz.prog 67 #[.agg #[.slice F n c1, .slice FC (ay ns) c2], .int .i64 a] w fun r w' => ∃ A c B b, r = .returned (.agg #[.slice A n c, .slice B (ay (dh ns a)) b]) ∧ Hp w [.row B (ay (dh ns a)) b 39 3 (bR NR.cells ((tm ns a xs).map nR)), .row A n c 3 1 (bA (bf (dh ns a)))] w' := by
 have hh := Hp.start w
 have hl1 : ns.length = n := by have := hF.1; simpa [bA, bf] using this
 have hlx : xs.length = ay ns := by have := hFC.di NR.len (by decide); simpa using this
 obtain ⟨a5, rfl, s5⟩ := hFC.at_ (eA ns)
 obtain ⟨a1, rfl, s1⟩ := hF.at_ (by omega)
 obtain ⟨d, hd⟩ := au (l := ns) (k := a) (by omega)
 have hgd := bG (cZ hd)
 have hli : (dh ns a).length = n := by rw [fY, hl1]
 have hcl : (bA (bf ns)).length = n := by rw [bK, cd, hl1]
 have hd127 : d + 1 ≤ 127 := hA (d + 1) (List.mem_of_getElem? (i := a) (by rw [gF (by omega), if_pos rfl, List.getD_eq_getElem?_getD, hd]; rfl))
 refine al (N := 86) (l := [.agg #[.slice (some a1) n c1, .slice (some a5) (ay ns) c2], .int .i64 a]) Tryz.func67 rfl rfl (by simp) ?_
 refine sr ?_
 refine cS hh [_,_] ?_
 intro b2 w2 hh
 refine cG hh ?_
 intro b4 w4 hh
 refine aa (sr ?_)
 refine eZ hh aG.out aD.out (by decide) ?_
 intro b10 w10 hh
 refine bJ ?_
 refine bO hh 2 ?_
 refine cv hh (i := 0) rfl rfl rfl (hF.ext hh.below) aG.out aD.out rfl (by decide) ?one4 (by omega) (by omega) (by decide) ?kk4
 case one4 => first | rfl | assumption | exact bD _ | exact oneCells_u8s _
 intro A13 c13 w13 hh
 simp only [List.set_cons_zero] at hh
 rw [Nat.zero_add n]
 rw [Nat.zero_add, List.nil_append] at hh
 obtain ⟨g13, rfl⟩ := hh.dw (i := 0) rfl (by omega)
 refine fh [_,_] ?_
 refine cG hh ?_
 intro b5 w5 hh
 refine bP hh 0 [_,_] ?_
 intro ws hh
 replace hh : Hp _ (.blk _ _ [_, _] _ :: _) _ := hh
 refine aa (sr (bJ ?_))
 refine bO hh 0 ?_
 refine mI ?_
 refine bk (k := a) aG.out aD.size rfl rfl (by omega) (by omega) (by decide) ?_
 refine aM aD.out rfl (hh.ck (i := 1) rfl (by first | assumption | (simp only [Nat.mul_one]; assumption))) (by decide) ?_
 refine bu ?_
 refine bk (k := a) aG.out aD.size rfl rfl (by omega) (by omega) (by decide) ?_
 refine bz hh (i := 1) (vs := [_]) rfl rfl (bQ rfl) rfl aD.out rfl (by omega) rfl ?_
 intro ws hh
 simp only [List.set_cons_zero, List.set_cons_succ] at hh
 rw [eH _ (by rw [← bK]; omega), vb hd] at hh
 have hrF := fun w1 hS1 => p4 (some ⟨g13, 0, none⟩) n c13 (dh ns a) w1 hS1 (by omega) hA (by omega)
 refine aa (sr (bJ ?_))
 refine bO hh 0 ?_
 refine aT (hrF _ (hh.aW (i := 1) rfl)) az.out rfl (by decide) ?_
 rintro e_ w24 ⟨A24, c24, rfl, hown_, hb_⟩
 refine ⟨_, rfl, ?_⟩
 replace hh := hh.bs (x := .row _ _ _ _ _ _) hb_ hown_
 obtain ⟨g24, rfl⟩ := hh.dw (i := 0) rfl (eA _)
 refine aL (aa (ah (sr (aI (aa (aj ?_))))))
 replace hh := hh.ed 39 3
 refine bq [7, 8, 9, 25, 26, 27, 28, 29, 30, 31, 32, 33, 34, 35, 36, 37, 38, 39, 40, 41, 42, 43, 44, 45, 46, 47, 48, 49, 50, 51, 52, 53, 54, 55, 56, 57, 58, 59, 60, 61, 62, 63, 64, 65, 66, 67, 68, 69, 70, 71, 72, 73, 74, 75, 76, 77, 78, 79, 80, 81, 82, 83, 84] 7
  (fun v w' => ∃ (p cC : Nat) (C : Option Addr), p ≤ ay (dh ns a) ∧ v = .int .i64 p ∧ Hp w [.row C p cC 39 3 (bR NR.cells (((tm ns a xs).take p).map nR)), .row (some ⟨g24, 0, none⟩) (ay (dh ns a)) c24 9 1 (il (mZ (dh ns a))), .blk b5 28 [.slice (some ⟨g13, 0, none⟩) n c13, .slice C p cC] (0, 0), .row (some ⟨g13, 0, none⟩) n c13 3 1 (bA (bf (dh ns a))), .blk b4 28 [.slice none 0 0, .slice none 0 0] (0, 0), .blk b2 28 [.slice (some a1) n c1, .slice (some a5) (ay ns) c2] (0, 0)] w')
  (fun v _ => ay (dh ns a) - (intOf v).toNat) ?_ ?_
 ·exact ⟨0, 0, none, Nat.zero_le _, rfl, hh⟩
 ·clear hh
  rintro ρ' v w' ⟨p, cC, C, hp, rfl, hh⟩
  by_cases hpn : p < ay (dh ns a)
  ·have hrp := mq (vt hpn)
   have hpr : p < ay (dh ns a).reverse := by rw [dm]; exact hpn
   have hok := hZ (dh ns a).reverse p
   have hrl : (bV (dh ns a).reverse p).length = n := by rw [eB, List.length_reverse, hli]
   have hup : (tm ns a xs)[p]? = some (co ns.reverse xs (bV (dh ns a).reverse p) + if 0 < (bV (dh ns a).reverse p).getD (n - 1 - a) 0 then co ns.reverse xs (gA (bV (dh ns a).reverse p) (n - 1 - a)) else 0) := by
    unfold tm
    rw [List.getElem?_map, List.getElem?_range hpn, hl1]
    rfl
   generalize bV (dh ns a).reverse p = rr at *
   obtain ⟨r, hr⟩ := au (l := rr) (k := n - 1 - a) (by omega)
   have hrr : rr.reverse[a]? = some r := by rw [List.getElem?_reverse (by omega), hrl]; exact hr
   have hrd := mY hok (by rw [List.getElem?_reverse (by omega), hli, show n - 1 - (n - 1 - a) = a by omega, gF (by omega), if_pos rfl]) hr
   rw [List.getD_eq_getElem?_getD, hd] at hrd
   have hrd2 : r ≤ d + 1 := hrd
   have hbl : (bS rr.reverse).length = n := by unfold bS; rw [List.length_map, cd, List.length_reverse]; exact hrl
   have e0 : (fX (bf rr.reverse)).data.toList = bS rr.reverse := fc _
   have e1 : (fX (bf rr.reverse)).size = n := by
    have : (fX (bf rr.reverse)).data.toList.length = n := by rw [e0, hbl]
    rw [Array.length_toList] at this
    exact this
   have hcell := z3 hrr (by omega)
   have hla2 : a < ns.length := by omega
   have hr2 : rr[ns.length - 1 - a]? = some r := by rw [hl1]; exact hr
   have hns : ∀ x ∈ ns, x ≤ 127 := fun x hx => by
    obtain ⟨j, hj⟩ := List.mem_iff_getElem?.1 hx
    by_cases hja : a = j
    ·subst hja
     rw [hd] at hj
     cases hj
     omega
    ·exact hA x (List.mem_of_getElem? (i := j) (by rw [gF hla2, if_neg hja]; exact hj))
   have hcn : ay ns ≤ ay (dh ns a) := jX (fY ns a).symm fun j x y hx hy => by
    rw [gF hla2] at hy
    split at hy
    ·rename_i e
     subst e
     rw [List.getD_eq_getElem?_getD, hx] at hy
     cases hy
     exact Nat.le_succ x
    ·rw [hx] at hy
     cases hy
     exact Nat.le_refl _
   have hgetr : rr.getD (n - 1 - a) 0 = r := by rw [List.getD_eq_getElem?_getD, hr]; rfl
   rw [hgetr] at hup
   have hat : ∀ row : List Nat, im ns.reverse row → ∀ w1, Below w.heap.size w w1 → Calls Tryz.prog 113 #[.slice (some a1) n c1, .string (fX (bf row.reverse))] w1 fun r w' => r = .returned (.int .i64 (db ns.reverse row)) ∧ Below w1.heap.size w1 w' := fun row hrow w1 hb1 => by
    have := sH (some a1) n c1 ns row.reverse w1 (hF.ext hb1) (by omega) (by omega) (by rw [List.length_reverse, kX hrow, List.length_reverse]) (yt hrow) (fun d hd => by have := hns d hd; omega)
    rwa [List.reverse_reverse] at this
   have hval : ∀ row : List Nat, im ns.reverse row → ∃ x, (xs.map nR)[db ns.reverse row]? = some (nR x) ∧ co ns.reverse xs row = x ∧ Sz k x ∧ db ns.reverse row < ay ns := fun row hrow => by
    have hlt := iO hrow
    rw [dm] at hlt
    obtain ⟨x, hx1⟩ := au (l := xs) (k := db ns.reverse row) (by omega)
    exact ⟨x, by rw [List.getElem?_map, hx1]; rfl, by rw [ua hrow, hx1]; rfl, hx x (List.mem_of_getElem? hx1), hlt⟩
   have hdl : (gA rr (n - 1 - a)).length = n := by unfold gA; rw [List.length_set]; exact hrl
   have hbl2 : (bS (gA rr (n - 1 - a)).reverse).length = n := by unfold bS; rw [List.length_map, cd, List.length_reverse]; exact hdl
   by_cases hrd3 : r ≤ d
   ·have okn := zn hla2 hd hok hr2 hrd3
    obtain ⟨V, hx1, hco1, zV, hlt1⟩ := hval rr okn
    rw [hco1] at hup
    have hat1 := hat rr okn
    generalize db ns.reverse rr = p1 at *
    by_cases h0 : 0 < r
    ·refine ah (sr (mI (mL (aV ?_))))
     refine aJ (aa (cT (ak (ai (ah (aj (sr (mL (mI ?_)))))))))
     refine bk aG.out aD.size rfl rfl rfl (by omega) (by decide) ?_
     refine aM aD.out rfl (hh.ck (i := 1) rfl (by first | assumption | (simp only [Nat.mul_one]; assumption))) (by decide) ?_
     refine iL hh aG.out aG.out aG.out rfl (by decide) ?_
     intro g35 c35 x35 w35 hh
     rw [e0] at hh
     have hcl2 : (jE (bS rr.reverse) ++ x35)[a]? = some (.int .u8 (r : Int)) := by rw [List.getElem?_append_left (by rw [ew, hbl]; exact ha)]; exact hcell
     generalize (((jE (bS rr.reverse) ++ x35).length, (jE (bS rr.reverse) ++ x35).length + 1) : Nat × Nat) = fz at hh
     refine aL (aa (sr ?_))
     refine fh [_,_,_] ?_
     refine cG hh ?_
     intro b9 w9 hh
     refine bP hh 0 [_,_,_] ?_
     intro ws hh
     replace hh : Hp _ (.blk _ _ [_, _, _] _ :: _) _ := hh
     refine aa (ah (ah ?_))
     refine aN 10 [[(8, none)], [(1, none)], [(37, some 0), (38, some 1)], [(39, some 2)], [(40, some 3)], [(2, none)], [(42, some 5)], [(1, none)], [(43, some 6), (44, some 7)], [(45, some 8)]] [(9, 46), (8, 45), (7, 44), (6, 43), (5, 42), (4, 41), (3, 40), (2, 39), (1, 38), (0, 37)] hh mixed (by kernel_rfl) ?_
     refine fk ?_
     refine dD ?_
     refine re (a) ?_
     refine aU (i := 3) (fun ρ1 w1 hj hR => cx aD.out (show ρ1 39 = Value.pointer _ from hR.1) (hj.hp.eD (i := 1) rfl (by first | assumption | (simp only [Nat.mul_one]; assumption)))) ?_
     refine aU (i := 4) (fun ρ1 w1 hj hR => gM aG.out aG.out (show ρ1 40 = Value.int _ _ from hR.1) (by omega) (by omega)) ?_
     refine dI ?_
     refine ef 7 ?_
     refine dD ?_
     refine iK (a) ?_
     refine aU (i := 9) (fun ρ1 w1 hj hR => cx aD.out (show ρ1 45 = Value.pointer _ from hR.1) ((s1.ext hj.hp.below).ea (by assumption))) ?_
     refine bo ?_
     intro f W hJ hV
     have hb_9 := hJ.bl
     obtain ⟨v46, v45, v44, v43, v42, v41, v40, v39, v38, v37, _⟩ := hV
     replace hh := hJ.hp
     refine aY (bm (ae v46 (ae v45 (ae v44 (ae v43 (ae v42 (ae v41 (ae v40 (ae v39 (ae v38 (ae v37 aX))))))))))) ?_
     dsimp only [cj]
     clear hJ
     refine nC (aa ?_)
     refine cT ?_
     refine aN 7 [[(2, none)], [(48, some 0)], [(2, none)], [(50, some 2)], [(8, none)], [(52, some 4)], [(51, some 3), (53, some 5)]] [(6, 54), (5, 53), (4, 52), (3, 51), (2, 50), (1, 49), (0, 48)] hh mixed (by kernel_rfl) ?_
     refine dI ?_
     refine ef 7 ?_
     refine dI ?_
     refine ef 7 ?_
     refine fk ?_
     refine dt (i := 5) (Is (.string ⟨((bS rr.reverse)).toArray⟩)) Is.ext ?_ ?_
     ·intro ρ1 w1 hj hR
      exact ic rfl (fK (l := (bS rr.reverse)) aG.out aG.out aG.out (show ρ1 52 = Value.slice _ _ _ from hR.1) (hj.hp.o8 (i := 1) rfl (hbl.trans e1.symm))) ⟨Below.refl _ _, rfl⟩
     refine dC (fun _ hj => hat1 _ hj.hp.below) ?_
     refine bo ?_
     intro f W hJ hV
     have hb_10 := hJ.bl
     obtain ⟨v54, v53, v52, v51, v50, v49, v48, _⟩ := hV
     replace hh := hJ.hp
     refine aY (bm (ae v54 (ae v53 (ae v52 (ae v51 (ae v50 (ae v49 (ae v48 aX)))))))) ?_
     dsimp only [cj]
     clear hJ
     refine aF (k := p1) aG.out aD.size rfl rfl (by omega) (by omega) (by decide) ?_
     refine cK (vs := [_, _, _]) aD.out rfl ((s5.ext hh.below).recAt NR.len hx1) rfl (by decide) ?_
     refine bP hh 0 [_,_,_] ?_
     intro ws hh
     replace hh : Hp _ (.blk _ _ [_, _, _] _ :: _) _ := hh
     refine aa (ah (sr (mL (mI ?_))))
     refine bk aG.out aD.size rfl rfl rfl (by omega) (by decide) ?_
     refine aM aD.out rfl (hh.eD (i := 1) rfl (by first | assumption | (simp only [Nat.mul_one]; assumption))) (by decide) ?_
     refine bT (aa ?_)
     have hokd : im ns.reverse (gA rr (n - 1 - a)) := by have := u9 hla2 hd hok hr2 hrd2; rwa [hl1] at this
     obtain ⟨x2, hx2, hco2, z2, hlt2⟩ := hval _ hokd
     have hsum := fun w1 => l5 (nR V) (nR x2) w1 (zV.ok (by omega)) (z2.ok (by omega))
     rw [gn, gn] at hsum
     have hat2 := hat _ hokd
     have hbd := vp (ex := x35) hrl ha hr h0 (by omega)
     rw [if_pos h0, hco2] at hup
     generalize db ns.reverse (gA rr (n - 1 - a)) = p2 at *
     refine cT (sr (mL (mI ?_)))
     refine bk (k := a) aG.out aD.size rfl rfl (by omega) (by omega) (by decide) ?_
     refine aM aD.out rfl (hh.eD (i := 1) rfl (by first | assumption | (simp only [Nat.mul_one]; assumption))) (by decide) ?_
     refine mQ (b := 1) rfl rfl (by omega) (by decide) ?_
     refine bk (k := a) aG.out aD.size rfl rfl (by omega) (by omega) (by decide) ?_
     refine nt hh (i := 1) (vs := [_]) rfl rfl (bQ rfl) rfl aD.out rfl (by rw [List.length_append, ew, hbl]; omega) rfl ?_
     intro ws hh
     simp only [List.set_cons_zero, List.set_cons_succ] at hh
     rw [show (r + 256 - 1) % 256 = r - 1 by omega, hbd] at hh
     refine aa ?_
     refine aN 10 [[(9, none)], [(2, none)], [(69, some 1)], [(2, none)], [(71, some 3)], [(8, none)], [(73, some 5)], [(72, some 4), (74, some 6)], [(70, some 2), (75, some 7)], [(76, some 8)]] [(9, 77), (8, 76), (7, 75), (6, 74), (5, 73), (4, 72), (3, 71), (2, 70), (1, 69), (0, 68)] hh mixed (by kernel_rfl) ?_
     refine gk 0 [_,_,_] ?_
     refine dI ?_
     refine ef 7 ?_
     refine dI ?_
     refine ef 7 ?_
     refine fk ?_
     refine dt (i := 6) (Is (.string ⟨((bS (gA rr (n - 1 - a)).reverse)).toArray⟩)) Is.ext ?_ ?_
     ·intro ρ1 w1 hj hR
      exact ic rfl (fK (l := (bS (gA rr (n - 1 - a)).reverse)) aG.out aG.out aG.out (show ρ1 73 = Value.slice _ _ _ from hR.1) (hj.hp.o8 (i := 1) rfl (hbl2.trans e1.symm))) ⟨Below.refl _ _, rfl⟩
     refine dC (fun _ hj => hat2 _ hj.hp.below) ?_
     refine iK (p2) ?_
     refine pW [_,_,_] (fun _ hj => (s5.ext hj.hp.below).recAt NR.len hx2) ?_
     refine bo ?_
     intro f W hJ hV
     have hb_13 := hJ.bl
     obtain ⟨v77, v76, v75, v74, v73, v72, v71, v70, v69, v68, _⟩ := hV
     replace hh := hJ.hp
     refine aY (bm (ae v77 (ae v76 (ae v75 (ae v74 (ae v73 (ae v72 (ae v71 (ae v70 (ae v69 (ae v68 aX))))))))))) ?_
     dsimp only [cj]
     clear hJ
     refine bH hh (hsum _) rfl ?_
     intro w78 hh
     refine bP hh 0 [_,_,_] ?_
     intro ws hh
     replace hh : Hp _ (.blk _ _ [_, _, _] _ :: _) _ := hh
     refine aa (ao (bJ ?_))
     refine bO hh 4 ?_
     refine cz hh 0 [_,_,_] ?_
     refine aK hh (cs := [_, _, _]) aG.out aD.out (aQ (cA rfl) bF) rfl rfl (by decide) (by decide) (by decide) rfl (by decide) ?_
     intro b82 w82 hh
     refine cv hh (i := 3) rfl rfl rfl (hh.aW (i := 0) rfl) aG.out aD.out rfl (by decide) (by first | rfl | exact cq _ | exact bX _ | exact bD _ | exact bW NR.one _) (by omega) (by omega) (by decide) ?_
     intro A83 c83 w83 hh
     simp only [List.set_cons_zero, List.set_cons_succ] at hh
     replace hh := hh.sub (List.sublist_cons_self _ _)
     refine bJ ?_
     refine bP hh 4 [_] ?_
     intro ws hh
     replace hh : Hp _ (_ :: _ :: _ :: _ :: .blk _ _ [_, _] _ :: _) _ := hh
     refine aE (aZ (ai (ao (mI ?_))))
     refine bu (aI (aE (ai ?_)))
     replace hh := hh.sub (List.Sublist.cons _ (List.Sublist.cons _ (List.Sublist.cons_cons _ (List.Sublist.cons_cons _ (List.Sublist.cons_cons _ (List.Sublist.cons_cons _ (List.Sublist.cons_cons _ (List.Sublist.cons_cons _ List.Sublist.slnil))))))))
     refine ⟨⟨p + 1, c83, A83, by omega, rfl, ?_⟩, by show ay (dh ns a) - (p + 1) < ay (dh ns a) - p; omega, ?_⟩
     ·rw [aO hup, List.map_append, dk]
      exact hh
     ·(repeat (first | exact av _ _ _ | refine aC rfl ?_ | refine ar rfl ?_))
    ·refine ah (sr (mI (mL (aV ?_))))
     refine aJ (aa (cT (ak (ai (ah (aj (sr (mL (mI ?_)))))))))
     refine bk aG.out aD.size rfl rfl rfl (by omega) (by decide) ?_
     refine aM aD.out rfl (hh.ck (i := 1) rfl (by first | assumption | (simp only [Nat.mul_one]; assumption))) (by decide) ?_
     refine iL hh aG.out aG.out aG.out rfl (by decide) ?_
     intro g35 c35 x35 w35 hh
     rw [e0] at hh
     have hcl2 : (jE (bS rr.reverse) ++ x35)[a]? = some (.int .u8 (r : Int)) := by rw [List.getElem?_append_left (by rw [ew, hbl]; exact ha)]; exact hcell
     generalize (((jE (bS rr.reverse) ++ x35).length, (jE (bS rr.reverse) ++ x35).length + 1) : Nat × Nat) = fz at hh
     refine aL (aa (sr ?_))
     refine fh [_,_,_] ?_
     refine cG hh ?_
     intro b9 w9 hh
     refine bP hh 0 [_,_,_] ?_
     intro ws hh
     replace hh : Hp _ (.blk _ _ [_, _, _] _ :: _) _ := hh
     refine aa (ah (ah ?_))
     refine aN 10 [[(8, none)], [(1, none)], [(37, some 0), (38, some 1)], [(39, some 2)], [(40, some 3)], [(2, none)], [(42, some 5)], [(1, none)], [(43, some 6), (44, some 7)], [(45, some 8)]] [(9, 46), (8, 45), (7, 44), (6, 43), (5, 42), (4, 41), (3, 40), (2, 39), (1, 38), (0, 37)] hh mixed (by kernel_rfl) ?_
     refine fk ?_
     refine dD ?_
     refine re (a) ?_
     refine aU (i := 3) (fun ρ1 w1 hj hR => cx aD.out (show ρ1 39 = Value.pointer _ from hR.1) (hj.hp.eD (i := 1) rfl (by first | assumption | (simp only [Nat.mul_one]; assumption)))) ?_
     refine aU (i := 4) (fun ρ1 w1 hj hR => gM aG.out aG.out (show ρ1 40 = Value.int _ _ from hR.1) (by omega) (by omega)) ?_
     refine dI ?_
     refine ef 7 ?_
     refine dD ?_
     refine iK (a) ?_
     refine aU (i := 9) (fun ρ1 w1 hj hR => cx aD.out (show ρ1 45 = Value.pointer _ from hR.1) ((s1.ext hj.hp.below).ea (by assumption))) ?_
     refine bo ?_
     intro f W hJ hV
     have hb_9 := hJ.bl
     obtain ⟨v46, v45, v44, v43, v42, v41, v40, v39, v38, v37, _⟩ := hV
     replace hh := hJ.hp
     refine aY (bm (ae v46 (ae v45 (ae v44 (ae v43 (ae v42 (ae v41 (ae v40 (ae v39 (ae v38 (ae v37 aX))))))))))) ?_
     dsimp only [cj]
     clear hJ
     refine nC (aa ?_)
     refine cT ?_
     refine aN 7 [[(2, none)], [(48, some 0)], [(2, none)], [(50, some 2)], [(8, none)], [(52, some 4)], [(51, some 3), (53, some 5)]] [(6, 54), (5, 53), (4, 52), (3, 51), (2, 50), (1, 49), (0, 48)] hh mixed (by kernel_rfl) ?_
     refine dI ?_
     refine ef 7 ?_
     refine dI ?_
     refine ef 7 ?_
     refine fk ?_
     refine dt (i := 5) (Is (.string ⟨((bS rr.reverse)).toArray⟩)) Is.ext ?_ ?_
     ·intro ρ1 w1 hj hR
      exact ic rfl (fK (l := (bS rr.reverse)) aG.out aG.out aG.out (show ρ1 52 = Value.slice _ _ _ from hR.1) (hj.hp.o8 (i := 1) rfl (hbl.trans e1.symm))) ⟨Below.refl _ _, rfl⟩
     refine dC (fun _ hj => hat1 _ hj.hp.below) ?_
     refine bo ?_
     intro f W hJ hV
     have hb_10 := hJ.bl
     obtain ⟨v54, v53, v52, v51, v50, v49, v48, _⟩ := hV
     replace hh := hJ.hp
     refine aY (bm (ae v54 (ae v53 (ae v52 (ae v51 (ae v50 (ae v49 (ae v48 aX)))))))) ?_
     dsimp only [cj]
     clear hJ
     refine aF (k := p1) aG.out aD.size rfl rfl (by omega) (by omega) (by decide) ?_
     refine cK (vs := [_, _, _]) aD.out rfl ((s5.ext hh.below).recAt NR.len hx1) rfl (by decide) ?_
     refine bP hh 0 [_,_,_] ?_
     intro ws hh
     replace hh : Hp _ (.blk _ _ [_, _, _] _ :: _) _ := hh
     refine aa (ah (sr (mL (mI ?_))))
     refine bk aG.out aD.size rfl rfl rfl (by omega) (by decide) ?_
     refine aM aD.out rfl (hh.eD (i := 1) rfl (by first | assumption | (simp only [Nat.mul_one]; assumption))) (by decide) ?_
     refine bT (aa ?_)
     rw [if_neg h0] at hup
     refine cF (ak (ai (ao (bJ ?_))))
     refine bO hh 4 ?_
     refine cz hh 0 [_,_,_] ?_
     refine aK hh (cs := [_, _, _]) aG.out aD.out (aQ (cA rfl) bF) rfl rfl (by decide) (by decide) (by decide) rfl (by decide) ?_
     intro b82 w82 hh
     refine cv hh (i := 3) rfl rfl rfl (hh.aW (i := 0) rfl) aG.out aD.out rfl (by decide) (by first | rfl | exact cq _ | exact bX _ | exact bD _ | exact bW NR.one _) (by omega) (by omega) (by decide) ?_
     intro A83 c83 w83 hh
     simp only [List.set_cons_zero, List.set_cons_succ] at hh
     replace hh := hh.sub (List.sublist_cons_self _ _)
     refine bJ ?_
     refine bP hh 4 [_] ?_
     intro ws hh
     replace hh : Hp _ (_ :: _ :: _ :: _ :: .blk _ _ [_, _] _ :: _) _ := hh
     refine aE (aZ (ai (ao (mI ?_))))
     refine bu (aI (aE (ai ?_)))
     replace hh := hh.sub (List.Sublist.cons _ (List.Sublist.cons _ (List.Sublist.cons_cons _ (List.Sublist.cons_cons _ (List.Sublist.cons_cons _ (List.Sublist.cons_cons _ (List.Sublist.cons_cons _ (List.Sublist.cons_cons _ List.Sublist.slnil))))))))
     refine ⟨⟨p + 1, c83, A83, by omega, rfl, ?_⟩, by show ay (dh ns a) - (p + 1) < ay (dh ns a) - p; omega, ?_⟩
     ·rw [aO hup, Dyadic.add_zero, List.map_append, dk]
      exact hh
     ·(repeat (first | exact av _ _ _ | refine aC rfl ?_ | refine ar rfl ?_))
   ·have hno : ¬ im ns.reverse rr := fun h => hrd3 (mY h (by rw [List.getElem?_reverse (by omega), show ns.length - 1 - (ns.length - 1 - a) = a by omega]; exact hd) hr2)
    obtain ⟨V, hV⟩ : ∃ V : Dyadic, V = 0 := ⟨0, rfl⟩
    rw [p7 hno, ← hV] at hup
    have zV : Sz k V := by rw [hV]; exact Sz.zero _
    have h0 : 0 < r := by omega
    have hc0 : [Value.bool false, .string (ByteArray.mk #[]), .int .i64 0] = [.bool (nR V).neg, .string (nR V).ct, .int .i64 (nR V).e] := by rw [hV]; rfl
    refine ah (sr (mI (mL (aV ?_))))
    refine aJ (aa (cT (ak (ai (ah (aj (sr (mL (mI ?_)))))))))
    refine bk aG.out aD.size rfl rfl rfl (by omega) (by decide) ?_
    refine aM aD.out rfl (hh.ck (i := 1) rfl (by first | assumption | (simp only [Nat.mul_one]; assumption))) (by decide) ?_
    refine iL hh aG.out aG.out aG.out rfl (by decide) ?_
    intro g35 c35 x35 w35 hh
    rw [e0] at hh
    have hcl2 : (jE (bS rr.reverse) ++ x35)[a]? = some (.int .u8 (r : Int)) := by rw [List.getElem?_append_left (by rw [ew, hbl]; exact ha)]; exact hcell
    generalize (((jE (bS rr.reverse) ++ x35).length, (jE (bS rr.reverse) ++ x35).length + 1) : Nat × Nat) = fz at hh
    refine aL (aa (sr ?_))
    refine fh [_,_,_] ?_
    refine cG hh ?_
    intro b9 w9 hh
    refine bP hh 0 [_,_,_] ?_
    intro ws hh
    replace hh : Hp _ (.blk _ _ [_, _, _] _ :: _) _ := hh
    refine aa (ah (ah ?_))
    refine aN 10 [[(8, none)], [(1, none)], [(37, some 0), (38, some 1)], [(39, some 2)], [(40, some 3)], [(2, none)], [(42, some 5)], [(1, none)], [(43, some 6), (44, some 7)], [(45, some 8)]] [(9, 46), (8, 45), (7, 44), (6, 43), (5, 42), (4, 41), (3, 40), (2, 39), (1, 38), (0, 37)] hh mixed (by kernel_rfl) ?_
    refine fk ?_
    refine dD ?_
    refine re (a) ?_
    refine aU (i := 3) (fun ρ1 w1 hj hR => cx aD.out (show ρ1 39 = Value.pointer _ from hR.1) (hj.hp.eD (i := 1) rfl (by first | assumption | (simp only [Nat.mul_one]; assumption)))) ?_
    refine aU (i := 4) (fun ρ1 w1 hj hR => gM aG.out aG.out (show ρ1 40 = Value.int _ _ from hR.1) (by omega) (by omega)) ?_
    refine dI ?_
    refine ef 7 ?_
    refine dD ?_
    refine iK (a) ?_
    refine aU (i := 9) (fun ρ1 w1 hj hR => cx aD.out (show ρ1 45 = Value.pointer _ from hR.1) ((s1.ext hj.hp.below).ea (by assumption))) ?_
    refine bo ?_
    intro f W hJ hV
    have hb_9 := hJ.bl
    obtain ⟨v46, v45, v44, v43, v42, v41, v40, v39, v38, v37, _⟩ := hV
    replace hh := hJ.hp
    refine aY (bm (ae v46 (ae v45 (ae v44 (ae v43 (ae v42 (ae v41 (ae v40 (ae v39 (ae v38 (ae v37 aX))))))))))) ?_
    dsimp only [cj]
    clear hJ
    refine nC (aa ?_)
    rw [hc0] at hh
    refine cF (ak (ai (ah (sr (mL (mI ?_))))))
    refine bk aG.out aD.size rfl rfl rfl (by omega) (by decide) ?_
    refine aM aD.out rfl (hh.eD (i := 1) rfl (by first | assumption | (simp only [Nat.mul_one]; assumption))) (by decide) ?_
    refine bT (aa ?_)
    have hokd : im ns.reverse (gA rr (n - 1 - a)) := by have := u9 hla2 hd hok hr2 hrd2; rwa [hl1] at this
    obtain ⟨x2, hx2, hco2, z2, hlt2⟩ := hval _ hokd
    have hsum := fun w1 => l5 (nR V) (nR x2) w1 (zV.ok (by omega)) (z2.ok (by omega))
    rw [gn, gn] at hsum
    have hat2 := hat _ hokd
    have hbd := vp (ex := x35) hrl ha hr h0 (by omega)
    rw [if_pos h0, hco2] at hup
    generalize db ns.reverse (gA rr (n - 1 - a)) = p2 at *
    refine cT (sr (mL (mI ?_)))
    refine bk (k := a) aG.out aD.size rfl rfl (by omega) (by omega) (by decide) ?_
    refine aM aD.out rfl (hh.eD (i := 1) rfl (by first | assumption | (simp only [Nat.mul_one]; assumption))) (by decide) ?_
    refine mQ (b := 1) rfl rfl (by omega) (by decide) ?_
    refine bk (k := a) aG.out aD.size rfl rfl (by omega) (by omega) (by decide) ?_
    refine nt hh (i := 1) (vs := [_]) rfl rfl (bQ rfl) rfl aD.out rfl (by rw [List.length_append, ew, hbl]; omega) rfl ?_
    intro ws hh
    simp only [List.set_cons_zero, List.set_cons_succ] at hh
    rw [show (r + 256 - 1) % 256 = r - 1 by omega, hbd] at hh
    refine aa ?_
    refine aN 10 [[(9, none)], [(2, none)], [(69, some 1)], [(2, none)], [(71, some 3)], [(8, none)], [(73, some 5)], [(72, some 4), (74, some 6)], [(70, some 2), (75, some 7)], [(76, some 8)]] [(9, 77), (8, 76), (7, 75), (6, 74), (5, 73), (4, 72), (3, 71), (2, 70), (1, 69), (0, 68)] hh mixed (by kernel_rfl) ?_
    refine gk 0 [_,_,_] ?_
    refine dI ?_
    refine ef 7 ?_
    refine dI ?_
    refine ef 7 ?_
    refine fk ?_
    refine dt (i := 6) (Is (.string ⟨((bS (gA rr (n - 1 - a)).reverse)).toArray⟩)) Is.ext ?_ ?_
    ·intro ρ1 w1 hj hR
     exact ic rfl (fK (l := (bS (gA rr (n - 1 - a)).reverse)) aG.out aG.out aG.out (show ρ1 73 = Value.slice _ _ _ from hR.1) (hj.hp.o8 (i := 1) rfl (hbl2.trans e1.symm))) ⟨Below.refl _ _, rfl⟩
    refine dC (fun _ hj => hat2 _ hj.hp.below) ?_
    refine iK (p2) ?_
    refine pW [_,_,_] (fun _ hj => (s5.ext hj.hp.below).recAt NR.len hx2) ?_
    refine bo ?_
    intro f W hJ hV
    have hb_13 := hJ.bl
    obtain ⟨v77, v76, v75, v74, v73, v72, v71, v70, v69, v68, _⟩ := hV
    replace hh := hJ.hp
    refine aY (bm (ae v77 (ae v76 (ae v75 (ae v74 (ae v73 (ae v72 (ae v71 (ae v70 (ae v69 (ae v68 aX))))))))))) ?_
    dsimp only [cj]
    clear hJ
    refine bH hh (hsum _) rfl ?_
    intro w78 hh
    refine bP hh 0 [_,_,_] ?_
    intro ws hh
    replace hh : Hp _ (.blk _ _ [_, _, _] _ :: _) _ := hh
    refine aa (ao (bJ ?_))
    refine bO hh 4 ?_
    refine cz hh 0 [_,_,_] ?_
    refine aK hh (cs := [_, _, _]) aG.out aD.out (aQ (cA rfl) bF) rfl rfl (by decide) (by decide) (by decide) rfl (by decide) ?_
    intro b82 w82 hh
    refine cv hh (i := 3) rfl rfl rfl (hh.aW (i := 0) rfl) aG.out aD.out rfl (by decide) (by first | rfl | exact cq _ | exact bX _ | exact bD _ | exact bW NR.one _) (by omega) (by omega) (by decide) ?_
    intro A83 c83 w83 hh
    simp only [List.set_cons_zero, List.set_cons_succ] at hh
    replace hh := hh.sub (List.sublist_cons_self _ _)
    refine bJ ?_
    refine bP hh 4 [_] ?_
    intro ws hh
    replace hh : Hp _ (_ :: _ :: _ :: _ :: .blk _ _ [_, _] _ :: _) _ := hh
    refine aE (aZ (ai (ao (mI ?_))))
    refine bu (aI (aE (ai ?_)))
    replace hh := hh.sub (List.Sublist.cons _ (List.Sublist.cons _ (List.Sublist.cons_cons _ (List.Sublist.cons_cons _ (List.Sublist.cons_cons _ (List.Sublist.cons_cons _ (List.Sublist.cons_cons _ (List.Sublist.cons_cons _ List.Sublist.slnil))))))))
    refine ⟨⟨p + 1, c83, A83, by omega, rfl, ?_⟩, by show ay (dh ns a) - (p + 1) < ay (dh ns a) - p; omega, ?_⟩
    ·rw [aO hup, List.map_append, dk]
     exact hh
    ·(repeat (first | exact av _ _ _ | refine aC rfl ?_ | refine ar rfl ?_))
  ·obtain rfl : p = ay (dh ns a) := by omega
   rw [List.take_of_length_le (by rw [tg]; omega)] at hh
   refine ah (sr (mI (mL (aV ?_))))
   refine aJ (aa (cF ?_))
   refine aP ?_
   refine aw (aw (bj (ai (sr ?_))))
   refine cz hh 2 [_,_] ?_
   refine bP hh 4 [_,_] ?_
   intro ws hh
   replace hh : Hp _ (_ :: _ :: _ :: _ :: .blk _ _ [_, _] _ :: _) _ := hh
   refine aa (aq ?_)
   replace hh := hh.sub (List.Sublist.cons_cons _ (List.Sublist.cons _ (List.Sublist.cons _ (List.Sublist.cons_cons _ (List.Sublist.cons_cons _ (List.Sublist.cons _ List.Sublist.slnil))))))
   refine gp (a6 rfl (a7 (vs := [_, _]) aD.out (hh.ax (i := 2) (n := 2) rfl rfl) rfl) bx) ?_
   exact ⟨_, _, _, _, rfl, hh.sub (List.sublist_append_left [_, _] _)⟩
end Go.Proofs.YtioilmppidlbnaaGreatDoor
/- The walk through ogeeref14.Raise. -/
namespace Go.Proofs.YtioilmppidlbnaaGreatDoor
open Go.RowKit
def mw (w : World) (b i : Nat) : Int := match w.cell? ⟨b, 0, none⟩ with
 | some (.slice (some a) _ _) => match w.cell? (a.add (i * 1)) with
  | some (.int _ z) => z
  | _ => 0
 | _ => 0
theorem qO {w : World} {b i n c : Nat} {a : Addr} {k : IntKind} {z : Int} (h1 : w.cell? ⟨b, 0, none⟩ = some (.slice (some a) n c)) (h2 : w.cell? (a.add (i * 1)) = some (.int k z)) : mw w b i = z := by
 unfold mw
 rw [h1]
 simp only
 rw [h2]
theorem ye {ds : List Nat} {xs : List Dyadic} {row : List Nat} {K : Nat} (h : ∀ x ∈ xs, Sz K x) : Sz K (co ds xs row) := by
 unfold co
 split
 ·cases h2 : xs[db ds row]? with
  | none => exact Sz.zero _
  | some x => exact h x (List.mem_of_getElem? h2)
 ·exact Sz.zero _
theorem yJ {ns : List Nat} {a K : Nat} {xs : List Dyadic} (h : ∀ x ∈ xs, Sz K x) : ∀ y ∈ tm ns a xs, Sz (K + 1) y := fun y hy => by
 unfold tm at hy
 obtain ⟨p, _, rfl⟩ := List.mem_map.1 hy
 refine Sz.add (ye h) ?_
 split
 ·exact ye h
 ·exact Sz.zero _
structure RS (ns ts : List Nat) (xs : List Dyadic) (k n : Nat) (F FC : Option Addr) (c1 c2 i T : Nat) (cur : List Nat) (zs : List Dyadic) (A B : Option Addr) (ca cb : Nat) (R : List HE) (w : World) : Prop where
 zU : xF ns xs cur zs
 le : ∀ (j c t : Nat), cur[j]? = some c → ts[j]? = some t → c ≤ t
 eq : ∀ (j c t : Nat), j < i → cur[j]? = some c → ts[j]? = some t → c = t
 sz : ∀ x ∈ zs, Sz (k + T) x
 src : (A = F ∧ ca = c1 ∧ B = FC ∧ cb = c2 ∧ cur = ns ∧ zs = xs) ∨ R = [.row B (ay cur) cb 39 3 (bR NR.cells (zs.map nR)), .row A n ca 3 1 (bA (bf cur))]
 rd : ∀ (H : List HE) (w' : World), Hp w (H ++ R) w' → Sl w' A n 1 (bA (bf cur)) ∧ Sl w' B (ay cur) 3 (bR NR.cells (zs.map nR))
theorem xo {cur ts : List Nat} {i c t : Nat} (hc : cur[i]? = some c) (ht : ts[i]? = some t) (h : c < t) (hle : ∀ (j c t : Nat), cur[j]? = some c → ts[j]? = some t → c ≤ t) : ∀ (j c t : Nat), (dh cur i)[j]? = some c → ts[j]? = some t → c ≤ t := fun j c2 t2 h1 h2 => by
 rw [gF (List.getElem?_eq_some_iff.1 hc).1] at h1
 split at h1
 ·rename_i e
  subst e
  rw [List.getD_eq_getElem?_getD, hc] at h1
  rw [ht] at h2
  cases h1
  cases h2
  exact h
 ·exact hle j c2 t2 h1 h2
theorem pG (F FC E : Option Addr) (n c1 m c2 q cE k : Nat) (ds es : List Int) (cs : List NR) (w : World) (hf : (⟨F, n, c1, FC, m, c2, ds, cs⟩ : FX).at_ w) (hl : (⟨F, n, c1, FC, m, c2, ds, cs⟩ : FX).gJ k) (hE : Sl w E q 1 (bA es)) (hq : q ≤ 1000) (hk : k ≤ 90000) :
  Calls Tryz.prog 24 #[.agg #[.slice F n c1, .slice FC m c2], .slice E q cE] w fun r w' => ((fE ds cs ≠ 0 ∧ r = nw (fE ds cs) ∨ fE ds cs = 0 ∧ j5 ds es ≠ 0 ∧ r = nw (j5 ds es)) ∧ Below w.heap.size w w') ∨
   (fE ds cs = 0 ∧ j5 ds es = 0 ∧ ∃ (g : FX) (R : List HE), o0 (es.map Int.toNat) (fQ (es.map Int.toNat) ⟨F, n, c1, FC, m, c2, ds, cs⟩) g ∧ (g = ⟨F, n, c1, FC, m, c2, ds, cs⟩ ∨ R = [g.dZ, g.dV]) ∧ r = .returned (.tuple #[.agg #[.slice g.A g.n g.a, .slice g.B g.m g.b], .int .i64 0]) ∧ Hp w R w') := by
 have hh := Hp.start w
 have hdg : Sl w F n 1 (bA ds) := hf.dg
 have hnm : Sl w FC m 3 (bR NR.cells cs) := hf.nm
 have hln : ds.length = n := by have := hdg.1; simpa [bA] using this
 have hlq : es.length = q := by have := hE.1; simpa [bA] using this
 have hlm := hnm.di NR.len (by decide)
 have hn20 : n ≤ 1000 := hl.yO
 have hck := fun w1 hb => j8 F FC n c1 m c2 ds cs w1 (hdg.ext hb) (hnm.ext hb) (by omega) (fun a ha => (hl.num a ha).1)
 by_cases h0 : fE ds cs = 0
 ·by_cases h1 : q = n
  ·obtain ⟨ns, xs, hv, hxs⟩ := vA h0
   refine al (N := 69) (l := [.agg #[.slice F n c1, .slice FC m c2], .slice E q cE]) Tryz.func24 rfl rfl (by simp) ?_
   refine sr ?_
   refine cS hh [_,_] ?_
   intro b2 w2 hh
   refine cG hh ?_
   intro b4 w4 hh
   refine aI (aa (ah (sr ?_)))
   refine cz hh 1 [_,_] ?_
   refine bH hh (hck _ hh.below) rfl ?_
   intro w10 hh
   refine aI (aa (sr (mI ?_)))
   refine dn (aa (cF (ak (ai (ah (sr (mL (aV (bJ ?_)))))))))
   refine bO hh 1 ?_
   refine aV ?_
   refine dn (aa (cF (ak (ai (ah (sr (aI (aa (aj ?_)))))))))
   refine bq [5, 7, 22, 23, 24, 25, 26, 27, 28, 29, 30, 31, 32, 33, 34, 35, 36, 37, 38, 39, 40, 41, 42, 43, 44, 45] 7
    (fun v w' => ∃ i : Nat, i ≤ q ∧ v = .int .i64 i ∧ ((ds.take i).zip (es.take i)).any ia = false ∧ Hp w [.blk b4 28 [.slice none 0 0, .slice none 0 0] (0, 0), .blk b2 28 [.slice F n c1, .slice FC m c2] (0, 0)] w')
    (fun v _ => q - (intOf v).toNat) ?_ ?_
   ·exact ⟨0, Nat.zero_le _, rfl, rfl, hh⟩
   ·clear hh
    rintro ρ' v w' ⟨i, hi, rfl, hall, hh⟩
    by_cases hlt : i < q
    ·obtain ⟨d, hd⟩ := au (l := ds) (k := i) (by omega)
     obtain ⟨e, he⟩ := au (l := es) (k := i) (by omega)
     have hgd := bG hd
     have hge := bG he
     obtain ⟨a1, rfl, s1⟩ := hdg.at_ (by omega)
     obtain ⟨a2, rfl, s2⟩ := hE.at_ (by omega)
     have hbad : ia (d, e) = true → j5 ds es = 1 := fun hb => by
      unfold j5
      rw [if_neg (by omega), if_pos]
      exact List.any_eq_true.2 ⟨(d, e), List.mem_of_getElem? (i := i) (by rw [List.getElem?_zip_eq_some]; exact ⟨hd, he⟩), hb⟩
     by_cases h2 : e < d
     ·have hr1 := hbad (by unfold ia; rw [decide_eq_true]; exact .inl h2)
      have hlc : decide (e < d) = true := decide_eq_true h2
      refine ah (sr (mI (mL (aV ?_))))
      refine aJ (aa (cT (ak (ai (ah (aj (ah ?_)))))))
      refine aN 13 [[(1, none)], [(7, none)], [(28, some 0), (29, some 1)], [(30, some 2)], [(2, none)], [(32, some 4)], [(7, none)], [(33, some 5), (34, some 6)], [(35, some 7)], [(31, some 3), (36, some 8)], [(37, some 9)], [(1, none), (38, some 10)], [(7, none), (38, some 10)]] [(12, 40), (11, 39), (10, 38), (9, 37), (8, 36), (7, 35), (6, 34), (5, 33), (4, 32), (3, 31), (2, 30), (1, 29), (0, 28)] hh mixed (by kernel_rfl) ?_
      refine fk ?_
      refine dD ?_
      refine iK (i) ?_
      refine aU (i := 3) (fun ρ1 w1 hj hR => cx aD.out (show ρ1 30 = Value.pointer _ from hR.1) ((s2.ext hj.hp.below).ea (by assumption))) ?_
      refine dI ?_
      refine ef 1 ?_
      refine dD ?_
      refine iK (i) ?_
      refine aU (i := 8) (fun ρ1 w1 hj hR => cx aD.out (show ρ1 35 = Value.pointer _ from hR.1) ((s1.ext hj.hp.below).ea (by assumption))) ?_
      refine zq ?_
      refine tP ?_
      first | refine dS ?_ | refine dU ?_ | refine dG (fk ?_)
      first | refine dS ?_ | refine dU ?_ | refine dG (dD ?_)
      refine bo ?_
      intro f W hJ hV
      have hb_9 := hJ.bl
      obtain ⟨v40, v39, v38, v37, v36, v35, v34, v33, v32, v31, v30, v29, v28, _⟩ := hV
      replace hh := hJ.hp
      refine aY (bm (ae v40 (ae v39 (ae v38 (ae v37 (ae v36 (ae v35 (ae v34 (ae v33 (ae v32 (ae v31 (ae v30 (ae v29 (ae v28 aX)))))))))))))) ?_
      dsimp only [cj]
      clear hJ
      first | refine gS ?_ | (refine gT ?_; refine aF aG.out aD.size rfl rfl rfl (by omega) (by decide) ?_) | refine gV ?_
      first | refine gS ?_ | (refine gT ?_; refine aM aD.out rfl ((s2.ext hh.below).ea (by assumption)) (by decide) ?_) | refine gV ?_
      first | refine gS ?_ | (refine gT ?_; refine bT ?_) | refine gV ?_
      first | refine cQ ?_ | refine cP ?_
      refine aa (cT (sr ?_))
      refine fh [_,_] ?_
      refine bP hh 0 [_,_] ?_
      intro ws hh
      replace hh : Hp _ (.blk _ _ [_, _] _ :: _) _ := hh
      refine aI (aa (aq (bM (aH (aH (bM (aH ?_)))))))
      refine nV (a6 rfl (a7 (vs := [_, _]) aD.out (hh.ax (i := 0) (n := 2) rfl rfl) rfl) (cU (dR rfl) bx)) ?_
      exact .inl ⟨.inr ⟨h0, by rw [hr1]; decide, by rw [hr1]; rfl⟩, hh.below⟩
     ·by_cases h3 : 127 < e
      ·have hr1 := hbad (by unfold ia; rw [decide_eq_true]; exact .inr h3)
       refine ah (sr (mI (mL (aV ?_))))
       refine aJ (aa (cT (ak (ai (ah (aj (ah ?_)))))))
       refine aN 13 [[(1, none)], [(7, none)], [(28, some 0), (29, some 1)], [(30, some 2)], [(2, none)], [(32, some 4)], [(7, none)], [(33, some 5), (34, some 6)], [(35, some 7)], [(31, some 3), (36, some 8)], [(37, some 9)], [(1, none), (38, some 10)], [(7, none), (38, some 10)]] [(12, 40), (11, 39), (10, 38), (9, 37), (8, 36), (7, 35), (6, 34), (5, 33), (4, 32), (3, 31), (2, 30), (1, 29), (0, 28)] hh mixed (by kernel_rfl) ?_
       refine fk ?_
       refine dD ?_
       refine iK (i) ?_
       refine aU (i := 3) (fun ρ1 w1 hj hR => cx aD.out (show ρ1 30 = Value.pointer _ from hR.1) ((s2.ext hj.hp.below).ea (by assumption))) ?_
       refine dI ?_
       refine ef 1 ?_
       refine dD ?_
       refine iK (i) ?_
       refine aU (i := 8) (fun ρ1 w1 hj hR => cx aD.out (show ρ1 35 = Value.pointer _ from hR.1) ((s1.ext hj.hp.below).ea (by assumption))) ?_
       refine zq ?_
       refine tP ?_
       first | refine dS ?_ | refine dU ?_ | refine dG (fk ?_)
       first | refine dS ?_ | refine dU ?_ | refine dG (dD ?_)
       refine bo ?_
       intro f W hJ hV
       have hb_9 := hJ.bl
       obtain ⟨v40, v39, v38, v37, v36, v35, v34, v33, v32, v31, v30, v29, v28, _⟩ := hV
       replace hh := hJ.hp
       refine aY (bm (ae v40 (ae v39 (ae v38 (ae v37 (ae v36 (ae v35 (ae v34 (ae v33 (ae v32 (ae v31 (ae v30 (ae v29 (ae v28 aX)))))))))))))) ?_
       dsimp only [cj]
       clear hJ
       first | refine gS ?_ | (refine gT ?_; refine aF aG.out aD.size rfl rfl rfl (by omega) (by decide) ?_) | refine gV ?_
       first | refine gS ?_ | (refine gT ?_; refine aM aD.out rfl ((s2.ext hh.below).ea (by assumption)) (by decide) ?_) | refine gV ?_
       first | refine gS ?_ | (refine gT ?_; refine bT ?_) | refine gV ?_
       first | refine cQ ?_ | refine cP ?_
       refine aa (cT (sr ?_))
       refine fh [_,_] ?_
       refine bP hh 0 [_,_] ?_
       intro ws hh
       replace hh : Hp _ (.blk _ _ [_, _] _ :: _) _ := hh
       refine aI (aa (aq (bM (aH (aH (bM (aH ?_)))))))
       refine nV (a6 rfl (a7 (vs := [_, _]) aD.out (hh.ax (i := 0) (n := 2) rfl rfl) rfl) (cU (dR rfl) bx)) ?_
       exact .inl ⟨.inr ⟨h0, by rw [hr1]; decide, by rw [hr1]; rfl⟩, hh.below⟩
      ·refine ah (sr (mI (mL (aV ?_))))
       refine aJ (aa (cT (ak (ai (ah (aj (ah ?_)))))))
       refine aN 13 [[(1, none)], [(7, none)], [(28, some 0), (29, some 1)], [(30, some 2)], [(2, none)], [(32, some 4)], [(7, none)], [(33, some 5), (34, some 6)], [(35, some 7)], [(31, some 3), (36, some 8)], [(37, some 9)], [(1, none), (38, some 10)], [(7, none), (38, some 10)]] [(12, 40), (11, 39), (10, 38), (9, 37), (8, 36), (7, 35), (6, 34), (5, 33), (4, 32), (3, 31), (2, 30), (1, 29), (0, 28)] hh mixed (by kernel_rfl) ?_
       refine fk ?_
       refine dD ?_
       refine iK (i) ?_
       refine aU (i := 3) (fun ρ1 w1 hj hR => cx aD.out (show ρ1 30 = Value.pointer _ from hR.1) ((s2.ext hj.hp.below).ea (by assumption))) ?_
       refine dI ?_
       refine ef 1 ?_
       refine dD ?_
       refine iK (i) ?_
       refine aU (i := 8) (fun ρ1 w1 hj hR => cx aD.out (show ρ1 35 = Value.pointer _ from hR.1) ((s1.ext hj.hp.below).ea (by assumption))) ?_
       refine zq ?_
       refine tP ?_
       first | refine dS ?_ | refine dU ?_ | refine dG (fk ?_)
       first | refine dS ?_ | refine dU ?_ | refine dG (dD ?_)
       refine bo ?_
       intro f W hJ hV
       have hb_9 := hJ.bl
       obtain ⟨v40, v39, v38, v37, v36, v35, v34, v33, v32, v31, v30, v29, v28, _⟩ := hV
       replace hh := hJ.hp
       refine aY (bm (ae v40 (ae v39 (ae v38 (ae v37 (ae v36 (ae v35 (ae v34 (ae v33 (ae v32 (ae v31 (ae v30 (ae v29 (ae v28 aX)))))))))))))) ?_
       dsimp only [cj]
       clear hJ
       first | refine gS ?_ | (refine gT ?_; refine aF aG.out aD.size rfl rfl rfl (by omega) (by decide) ?_) | refine gV ?_
       first | refine gS ?_ | (refine gT ?_; refine aM aD.out rfl ((s2.ext hh.below).ea (by assumption)) (by decide) ?_) | refine gV ?_
       first | refine gS ?_ | (refine gT ?_; refine bT ?_) | refine gV ?_
       first | refine cQ ?_ | refine cP ?_
       refine aa (cF (ak (aZ (ai (ao (mI ?_))))))
       refine bu (aI (aE (ai ?_)))
       refine ⟨⟨i + 1, by omega, rfl, kF hall hd he (by unfold ia; rw [decide_eq_false]; show ¬(e < d ∨ 127 < e); omega), hh⟩, by show q - (i + 1) < q - i; omega, ?_⟩
       (repeat (first | exact av _ _ _ | refine aC rfl ?_ | refine ar rfl ?_))
    ·obtain rfl : i = q := by omega
     rw [List.take_of_length_le (by omega), List.take_of_length_le (by omega)] at hall
     have hdeg := hv.AB
     have hnum := hv.num
     have hlow := hv.low
     have hlen := hv.len
     have hfew := hv.AF
     subst hdeg
     obtain ⟨ts, rfl, hlt2, hle, ht127⟩ := rE (by omega) hall
     have hnl : ns.length = n := by rw [← cd]; exact hln
     have htn : (bf ts).map Int.toNat = ts := eO ts
     have hrz : j5 (bf ns) (bf ts) = if 4096 < ay ts then 3 else 0 := by
      unfold j5
      rw [if_neg (by rw [cd, cd]; omega), if_neg (by rw [hall]; decide), htn]
     rw [htn, hrz]
     have hbig := fun w1 hS1 => r6 E i cE ts w1 hS1 (by omega)
     have hany : ts.any (fun d => decide (127 < d)) = false := List.any_eq_false.2 fun d hd => by have := ht127 d hd; simp; omega
     by_cases h4 : 4096 < ay ts
     ·have hb1 : iX ts = true := by unfold iX; rw [decide_eq_true h4, Bool.or_true]
      rw [hb1] at hbig
      rw [if_pos h4]
      refine ah (sr (mI (mL (aV ?_))))
      refine aJ (aa (cF ?_))
      refine aP ?_
      refine aw (aw (bj (ai (ah (sr (mL ?_))))))
      refine bH hh (hbig _ (hE.ext hh.below)) rfl ?_
      intro w47 hh
      refine aa (cT (sr ?_))
      refine fh [_,_] ?_
      refine bP hh 0 [_,_] ?_
      intro ws hh
      replace hh : Hp _ (.blk _ _ [_, _] _ :: _) _ := hh
      refine aI (aa (aq (aH ?_)))
      refine nV (a6 rfl (a7 (vs := [_, _]) aD.out (hh.ax (i := 0) (n := 2) rfl rfl) rfl) (cU (dR rfl) bx)) ?_
      exact .inl ⟨.inr ⟨h0, by decide, rfl⟩, hh.below⟩
     ·have hb1 : iX ts = false := by unfold iX; rw [hany, decide_eq_false h4]; rfl
      rw [hb1] at hbig
      rw [if_neg h4]
      have hfm : m = ay ns := by rw [← hlm, hnum, List.length_map, hlen]
      have hxz : ∀ x ∈ xs, Sz k x := fun x hx => by
       rw [hxs] at hx
       obtain ⟨c, hc, rfl⟩ := List.mem_map.1 hx
       exact (hl.num c hc).2
      have hup : fQ ts ⟨F, n, c1, FC, m, c2, bf ns, cs⟩ = ib ns ts xs := by
       unfold fQ FX.ns
       show ib ((bf ns).map Int.toNat) ts (cs.map NR.d) = _
       rw [eO, hxs]
      rw [hup]
      clear hup
      refine ah (sr (mI (mL (aV ?_))))
      refine aJ (aa (cF ?_))
      refine aP ?_
      refine aw (aw (bj (ai (ah (sr (mL ?_))))))
      refine bH hh (hbig _ (hE.ext hh.below)) rfl ?_
      intro w47 hh
      refine aa (cF (ak (ai (ah (sr (aI (aa (aj ?_))))))))
      have hst : RS ns ts xs k n F FC c1 c2 0 0 ns xs F FC c1 c2 [] w := ⟨xF.start (by rw [hlen]), hle, fun _ _ _ h => absurd h (Nat.not_lt_zero _), hxz, .inl ⟨rfl, rfl, rfl, rfl, rfl, rfl⟩, fun H w1 h => ⟨hdg.ext h.below, by rw [← hfm, ← hnum]; exact hnm.ext h.below⟩⟩
      rw [hfm] at hh
      clear hbig
      refine bq [8, 49, 50, 51, 52, 53, 54, 55, 56, 57, 58, 59, 60, 61, 62, 63, 64, 65, 66, 67] 8
       (fun v w' => ∃ (p T : Nat) (cur : List Nat) (zs : List Dyadic) (A B : Option Addr) (ca cb : Nat) (R : List HE), p ≤ n ∧ v = .int .i64 p ∧ T ≤ 127 * p ∧ RS ns ts xs k n F FC c1 c2 p T cur zs A B ca cb R w ∧ Hp w (.blk b4 28 [.slice none 0 0, .slice none 0 0] (0, 0) :: .blk b2 28 [.slice A n ca, .slice B (ay cur) cb] (0, 0) :: R) w')
       (fun v _ => n - (intOf v).toNat) ?_ ?_
      ·exact ⟨0, 0, ns, xs, F, FC, c1, c2, [], Nat.zero_le _, rfl, Nat.le_refl _, hst, hh⟩
      ·clear hh hst
       rintro ρ2 v w2 ⟨p, T, cur, zs, A, B, ca, cb, R, hp, rfl, hT, hR, hh⟩
       by_cases hpn : p < n
       ·obtain ⟨tp, htp⟩ := au (l := ts) (k := p) (by omega)
        have htb := ht127 tp (List.mem_of_getElem? htp)
        have hge := bG (cZ htp)
        obtain ⟨a2, rfl, s2⟩ := hE.at_ (by omega)
        refine ah (sr (mI (mL (aV ?_))))
        refine aJ (aa (cT (ak (ai (ah (aj (aj ?_)))))))
        refine vj [55, 56, 57, 58, 59, 60, 61, 62, 63, 64, 65, 66, 67]
         (fun w' => ∃ (T : Nat) (cur : List Nat) (zs : List Dyadic) (A B : Option Addr) (ca cb : Nat) (R : List HE), (∀ c, cur[p]? = some c → T ≤ 127 * p + c) ∧ RS ns ts xs k n F FC c1 c2 p T cur zs A B ca cb R w ∧ Hp w (.blk b4 28 [.slice none 0 0, .slice none 0 0] (0, 0) :: .blk b2 28 [.slice A n ca, .slice B (ay cur) cb] (0, 0) :: R) w')
         (fun w' => 128 - (mw w' b2 p).toNat) ?_ ?_
        ·exact ⟨T, cur, zs, A, B, ca, cb, R, fun c _ => by omega, hR, hh⟩
        ·clear hh hR hT
         rintro ρ3 w3 ⟨T, cur, zs, A, B, ca, cb, R, hT, hR, hh⟩
         have hcl : cur.length = n := by rw [hR.zU.2.1]; exact hnl
         obtain ⟨c, hc⟩ := au (l := cur) (k := p) (by omega)
         have hct := hR.le p c tp hc htp
         have hTc := hT c hc
         obtain ⟨hdg3, hnm3⟩ := hR.rd [_, _] w3 hh
         obtain ⟨aA, rfl, sA⟩ := hdg3.at_ (by omega)
         have hgc := bG (cZ hc)
         have hdeg0 : mw w3 b2 p = c := qO (hh.eD (i := 1) (o := 0) rfl rfl) (sA.ea hgc)
         by_cases hlt3 : c < tp
         ·have hle2 := xo hc htp hlt3 hR.le
          have hA127 : ∀ d ∈ dh cur p, d ≤ 127 := fun d hd => by
           obtain ⟨j, hj⟩ := List.mem_iff_getElem?.1 hd
           have hj2 := (List.getElem?_eq_some_iff.1 hj).1
           rw [fY] at hj2
           obtain ⟨t2, ht2⟩ := au (l := ts) (k := j) (by omega)
           have := hle2 j d t2 hj ht2
           have := ht127 t2 (List.mem_of_getElem? ht2)
           omega
          have hcN : ay (dh cur p) ≤ ay ts := jX (by rw [fY]; omega) fun j x y hx hy => hle2 j x y hx hy
          have hupc := fun w1 hb1 => uF (some aA) B n ca cb p (k + T) cur zs w1 (hdg3.ext hb1) (hnm3.ext hb1) (by omega) hpn hA127 (by omega) hR.sz (by omega)
          refine ah (ah ?_)
          refine aN 9 [[(2, none)], [(55, some 0)], [(8, none)], [(56, some 1), (57, some 2)], [(58, some 3)], [(1, none)], [(8, none)], [(60, some 5), (61, some 6)], [(62, some 7)]] [(8, 63), (7, 62), (6, 61), (5, 60), (4, 59), (3, 58), (2, 57), (1, 56), (0, 55)] hh mixed (by kernel_rfl) ?_
          refine dI ?_
          refine ef 1 ?_
          refine dD ?_
          refine aU (i := 3) (fun ρ1 w1 hj hR => bI aG.out aD.size (show ρ1 56 = Value.slice _ _ _ from hR.1) (show ρ1 57 = Value.int _ _ from hR.2.1) (by omega) (by omega)) ?_
          refine jW (fun _ hj => (sA.ext hj.bl).ea hgc) ?_
          refine fk ?_
          refine dD ?_
          refine aU (i := 7) (fun ρ1 w1 hj hR => bI aG.out aD.size (show ρ1 60 = Value.slice _ _ _ from hR.1) (show ρ1 61 = Value.int _ _ from hR.2.1) (by omega) (by omega)) ?_
          refine jW (fun _ hj => (s2.ext hj.hp.below).ea hge) ?_
          refine bo ?_
          intro f W hJ hV
          have hb_16 := hJ.bl
          obtain ⟨v63, v62, v61, v60, v59, v58, v57, v56, v55, _⟩ := hV
          replace hh := hJ.hp
          refine aY (bm (ae v63 (ae v62 (ae v61 (ae v60 (ae v59 (ae v58 (ae v57 (ae v56 (ae v55 aX)))))))))) ?_
          dsimp only [cj]
          clear hJ
          refine aJ (aa (cT (ak (ai (aj (ao ?_))))))
          refine cz hh 1 [_,_] (mI ?_)
          refine aT (hupc _ hb_16) az.out rfl (by decide) ?_
          rintro e_ w67 ⟨A3, c3, B3, cb3, rfl, h2⟩
          refine ⟨_, rfl, ?_⟩
          replace hh := hh.join h2
          clear h2
          refine bP hh 3 [_,_] ?_
          intro ws hh
          replace hh : Hp _ (_ :: _ :: _ :: .blk _ _ [_, _] _ :: _) _ := hh
          refine aE (aZ (ai ?_))
          obtain ⟨a3, rfl, s3⟩ := (hh.aW (i := 1) rfl).at_ (by omega)
          have hc2 : (dh cur p)[p]? = some (c + 1) := by rw [gF (by omega), if_pos rfl, List.getD_eq_getElem?_getD, hc]; rfl
          have hdeg1 : mw ws b2 p = ((c + 1 : Nat) : Int) := qO (hh.eD (i := 3) (o := 0) rfl rfl) (s3.ea (bG (cZ hc2)))
          refine ⟨⟨T + 1, dh cur p, tm cur p zs, some a3, B3, c3, cb3, [.row B3 (ay (dh cur p)) cb3 39 3 (bR NR.cells ((tm cur p zs).map nR)), .row (some a3) n c3 3 1 (bA (bf (dh cur p)))], fun c2 h2 => ?_, ⟨hR.zU.step (by omega), hle2, fun j x y hj hx hy => ?_, yJ hR.sz, .inr rfl, fun H w1 h => ⟨iS (h.own (.row (some a3) n c3 3 1 (bA (bf (dh cur p)))) (List.mem_append_right _ (List.mem_cons_of_mem _ List.mem_cons_self))), iS (h.own (.row B3 (ay (dh cur p)) cb3 39 3 (bR NR.cells ((tm cur p zs).map nR))) (List.mem_append_right _ List.mem_cons_self))⟩⟩, (hh.sub (List.sublist_append_left [_, _, _, _] _)).perm (List.perm_append_comm (l₁ := [_, _]) (l₂ := [_, _]))⟩, ?_, ?_⟩
          ·rw [hc2] at h2
           cases h2
           omega
          ·rw [gF (by omega), if_neg (by omega)] at hx
           exact hR.eq j x y hj hx hy
          ·show 128 - (mw ws b2 p).toNat < 128 - (mw w3 b2 p).toNat
           rw [hdeg0, hdeg1]
           omega
          ·(repeat (first | exact av _ _ _ | refine aC rfl ?_ | refine ar rfl ?_))
         ·obtain rfl : c = tp := by omega
          refine ah (ah ?_)
          refine aN 9 [[(2, none)], [(55, some 0)], [(8, none)], [(56, some 1), (57, some 2)], [(58, some 3)], [(1, none)], [(8, none)], [(60, some 5), (61, some 6)], [(62, some 7)]] [(8, 63), (7, 62), (6, 61), (5, 60), (4, 59), (3, 58), (2, 57), (1, 56), (0, 55)] hh mixed (by kernel_rfl) ?_
          refine dI ?_
          refine ef 1 ?_
          refine dD ?_
          refine aU (i := 3) (fun ρ1 w1 hj hR => bI aG.out aD.size (show ρ1 56 = Value.slice _ _ _ from hR.1) (show ρ1 57 = Value.int _ _ from hR.2.1) (by omega) (by omega)) ?_
          refine jW (fun _ hj => (sA.ext hj.bl).ea hgc) ?_
          refine fk ?_
          refine dD ?_
          refine aU (i := 7) (fun ρ1 w1 hj hR => bI aG.out aD.size (show ρ1 60 = Value.slice _ _ _ from hR.1) (show ρ1 61 = Value.int _ _ from hR.2.1) (by omega) (by omega)) ?_
          refine jW (fun _ hj => (s2.ext hj.hp.below).ea hge) ?_
          refine bo ?_
          intro f W hJ hV
          have hb_16 := hJ.bl
          obtain ⟨v63, v62, v61, v60, v59, v58, v57, v56, v55, _⟩ := hV
          replace hh := hJ.hp
          refine aY (bm (ae v63 (ae v62 (ae v61 (ae v60 (ae v59 (ae v58 (ae v57 (ae v56 (ae v55 aX)))))))))) ?_
          dsimp only [cj]
          clear hJ
          refine aJ (aa (cF ?_))
          refine aP ?_
          refine aw (aw (bj (aZ (ai (ao (mI ?_))))))
          refine bu (aI (aE (ai ?_)))
          refine ⟨⟨p + 1, T, cur, zs, some aA, B, ca, cb, R, by omega, rfl, by omega, ⟨hR.zU, hR.le, fun j x y hj hx hy => ?_, hR.sz, hR.src, hR.rd⟩, hh⟩, by show n - (p + 1) < n - p; omega, ?_⟩
          ·by_cases hjp : j = p
           ·subst hjp
            rw [hc] at hx
            rw [htp] at hy
            cases hx
            cases hy
            rfl
           ·exact hR.eq j x y (by omega) hx hy
          ·(repeat (first | exact av _ _ _ | refine aC rfl ?_ | refine ar rfl ?_))
       ·obtain rfl : p = n := by omega
        have hcl : cur.length = p := by rw [hR.zU.2.1]; exact hnl
        obtain rfl : cur = ts := List.ext_getElem? fun j => by
         by_cases hj : j < p
         ·obtain ⟨x, hx⟩ := au (l := cur) (k := j) (by omega)
          obtain ⟨y, hy⟩ := au (l := ts) (k := j) (by omega)
          rw [hx, hy, hR.eq j x y hj hx hy]
         ·rw [List.getElem?_eq_none (by omega), List.getElem?_eq_none (by omega)]
        rw [← hR.zU.done]
        refine ah (sr (mI (mL (aV ?_))))
        refine aJ (aa (cF ?_))
        refine aP ?_
        refine aw (aw (bj (ai (sr ?_))))
        refine cz hh 1 [_,_] ?_
        refine bP hh 0 [_,_] ?_
        intro ws hh
        replace hh : Hp _ (.blk _ _ [_, _] _ :: _) _ := hh
        refine aI (aa (aq ?_))
        refine nV (a6 rfl (a7 (vs := [_, _]) aD.out (hh.ax (i := 0) (n := 2) rfl rfl) rfl) (cU (dR rfl) bx)) ?_
        refine .inr ⟨h0, rfl, ⟨A, p, ca, B, ay cur, cb, bf cur, zs.map nR⟩, R, ⟨rfl, rfl, hcl.symm, rfl⟩, ?_, rfl, hh.sub (.cons _ (.cons _ (List.Sublist.refl _)))⟩
        rcases hR.src with ⟨rfl, rfl, rfl, rfl, rfl, rfl⟩ | h
        ·exact .inl (by rw [hfm, hnum])
        ·exact .inr h
  ·have hrz : j5 ds es = 1 := by unfold j5; rw [if_pos (by omega)]
   refine al (N := 69) (l := [.agg #[.slice F n c1, .slice FC m c2], .slice E q cE]) Tryz.func24 rfl rfl (by simp) ?_
   refine sr ?_
   refine cS hh [_,_] ?_
   intro b2 w2 hh
   refine cG hh ?_
   intro b4 w4 hh
   refine aI (aa (ah (sr ?_)))
   refine cz hh 1 [_,_] ?_
   refine bH hh (hck _ hh.below) rfl ?_
   intro w10 hh
   refine aI (aa (sr (mI ?_)))
   refine dn (aa (cF (ak (ai (ah (sr (mL (aV (bJ ?_)))))))))
   refine bO hh 1 ?_
   refine aV ?_
   refine dn (aa (cT (sr ?_)))
   refine fh [_,_] ?_
   refine bP hh 0 [_,_] ?_
   intro ws hh
   replace hh : Hp _ (.blk _ _ [_, _] _ :: _) _ := hh
   refine aI (aa (aq (aH ?_)))
   refine nV (a6 rfl (a7 (vs := [_, _]) aD.out (hh.ax (i := 0) (n := 2) rfl rfl) rfl) (cU (dR rfl) bx)) ?_
   exact .inl ⟨.inr ⟨h0, by rw [hrz]; decide, by rw [hrz]; rfl⟩, hh.below⟩
 ·refine al (N := 69) (l := [.agg #[.slice F n c1, .slice FC m c2], .slice E q cE]) Tryz.func24 rfl rfl (by simp) ?_
  refine sr ?_
  refine cS hh [_,_] ?_
  intro b2 w2 hh
  refine cG hh ?_
  intro b4 w4 hh
  refine aI (aa (ah (sr ?_)))
  refine cz hh 1 [_,_] ?_
  refine bH hh (hck _ hh.below) rfl ?_
  intro w10 hh
  refine aI (aa (sr (mI ?_)))
  refine dn (aa (cT (sr ?_)))
  refine fh [_,_] (mI ?_)
  refine bP hh 0 [_,_] ?_
  intro ws hh
  replace hh : Hp _ (.blk _ _ [_, _] _ :: _) _ := hh
  refine aI (aa (aq (aH ?_)))
  refine nV (a6 rfl (a7 (vs := [_, _]) aD.out (hh.ax (i := 0) (n := 2) rfl rfl) rfl) (cU (dR rfl) bx)) ?_
  exact .inl ⟨.inl ⟨h0, rfl⟩, hh.below⟩
end Go.Proofs.YtioilmppidlbnaaGreatDoor
/- The walks through ogeeref14.Like and ogeeref14.All. -/
namespace Go.Proofs.YtioilmppidlbnaaGreatDoor
open Go.RowKit
theorem qa (f : FX) (k : Nat) (w : World) (h : f.at_ w) (hl : f.gJ k) :
  Calls Tryz.prog 66 #[.agg #[.slice f.A f.n f.a, .slice f.B f.m f.b]] w fun r w' => r = .returned (.int .i64 f.e) ∧ Below w.heap.size w w' :=
 j8 f.A f.B f.n f.a f.m f.b f.ds f.cs w h.dg h.nm (by have := hl.yO; omega) fun a ha => (hl.num a ha).1
theorem rn (L : Option Addr) (n c : Nat) (fs : List FX) (k : Nat) (w : World) (hL : Sl w L n 2 (bR FX.cells fs)) (hn : n ≤ 1000000) (hf : ∀ f ∈ fs, f.at_ w) (hl : ∀ f ∈ fs, f.gJ k) :
  Calls Tryz.prog 61 #[.slice L n c] w fun r w' => r = .returned (.int .i64 (eo fs)) ∧ Below w.heap.size w w' := by
 have hh := Hp.start w
 have hln := hL.di FX.len (by decide)
 refine al (N := 41) (l := [.slice L n c]) Tryz.func61 rfl rfl (by simp) ?_
 refine sr (aI (aa (ah (sr (aI (aa (aj ?_)))))))
 refine bq [2, 3, 4, 6, 7, 8, 9, 10, 11, 12, 13, 14, 15, 16, 17, 18, 19] 3
  (fun v w' => ∃ i : Nat, i ≤ n ∧ v = .int .i64 i ∧ (fs.take i).any (fun f => decide (f.e ≠ 0)) = false ∧ Hp w [] w')
  (fun v _ => n - (intOf v).toNat) ?_ ?_
 ·exact ⟨0, Nat.zero_le _, rfl, rfl, hh⟩
 ·clear hh
  rintro ρ' v w' ⟨i, hi, rfl, hall, hh⟩
  by_cases hlt : i < n
  ·obtain ⟨f, hx⟩ := au (l := fs) (k := i) (by omega)
   have hmem := List.mem_of_getElem? hx
   have hc := fun w1 hb => qa f k w1 ((hf f hmem).ext hb) (hl f hmem)
   obtain ⟨ad, rfl, hr⟩ := hL.at_ (by omega)
   by_cases he : f.e = 0
   ·refine ah (sr (mI (mL (aV ?_))))
    refine aJ (aa (cT (ak (ai (ah (aj (sr (mL (mI ?_)))))))))
    refine aF (k := i) aG.out aD.size rfl rfl (by omega) (by omega) (by decide) ?_
    refine cK (vs := [_, _]) aD.out rfl ((hr.ext hh.below).recAt FX.len hx) rfl (by decide) ?_
    refine bH hh (hc _ hh.below) rfl ?_
    intro w16 hh
    refine aI (aa (sr (mI ?_)))
    refine dn (aa (cF (ak (aZ (ai (ao (mI ?_)))))))
    refine bu (aI (aE (ai ?_)))
    refine ⟨⟨i + 1, by omega, rfl, by rw [aO hx, List.any_append, hall, List.any_cons, List.any_nil, decide_eq_false (by omega)]; rfl, hh⟩, by show n - (i + 1) < n - i; omega, ?_⟩
    (repeat (first | exact av _ _ _ | refine aC rfl ?_ | refine ar rfl ?_))
   ·refine ah (sr (mI (mL (aV ?_))))
    refine aJ (aa (cT (ak (ai (ah (aj (sr (mL (mI ?_)))))))))
    refine aF (k := i) aG.out aD.size rfl rfl (by omega) (by omega) (by decide) ?_
    refine cK (vs := [_, _]) aD.out rfl ((hr.ext hh.below).recAt FX.len hx) rfl (by decide) ?_
    refine bH hh (hc _ hh.below) rfl ?_
    intro w16 hh
    refine aI (aa (sr (mI ?_)))
    refine dn (aa (cT (sr (mI (aI (aa (aq (bM (aH (aH (bM ?_)))))))))))
    refine aH ?_
    refine cu ?_
    refine ⟨?_, hh.below⟩
    unfold eo
    rw [oF hall hx (decide_eq_true he)]
  ·rw [List.take_of_length_le (by omega)] at hall
   have hlk : eo fs = if fs.length = 0 ∨ qd fs = true then 1 else 0 := by unfold eo; rw [lB hall]
   rw [hlk]
   by_cases h0 : n = 0
   ·refine ah (sr (mI (mL (aV ?_))))
    refine aJ (aa (cF ?_))
    refine aP ?_
    refine aw (aw (bj (ai (ah (sr (mL (aV ?_)))))))
    refine dN (aa (cT (sr (aI (aa (aq (aH ?_)))))))
    refine cu ?_
    exact ⟨by rw [if_pos (.inl (by omega))], hh.below⟩
   ·obtain ⟨f0, h00⟩ := au (l := fs) (k := 0) (by omega)
    obtain ⟨ad, rfl, hr⟩ := hL.at_ (by omega)
    have hhd : (fs.map FX.n).headD 0 = f0.n := by
     rcases fs with _ | ⟨g, l⟩
     ·cases h00
     ·have : g = f0 := by simpa using h00
      rw [← this]; rfl
    clear hall
    refine ah (sr (mI (mL (aV ?_))))
    refine aJ (aa (cF ?_))
    refine aP ?_
    refine aw (aw (bj (ai (ah (sr (mL (aV ?_)))))))
    refine dN (aa (cF (ak (ai (ah (sr (aI (aa (aj ?_)))))))))
    refine bq [2, 5, 23, 24, 25, 26, 27, 28, 29, 30, 31, 32, 33, 34, 35, 36, 37, 38, 39, 40] 5
     (fun v w' => ∃ i : Nat, i ≤ n ∧ v = .int .i64 i ∧ (fs.take i).any (fun f => decide (f.n ≠ (fs.map FX.n).headD 0)) = false ∧ Hp w [] w')
     (fun v _ => n - (intOf v).toNat) ?_ ?_
    ·exact ⟨0, Nat.zero_le _, rfl, rfl, hh⟩
    ·clear hh
     rintro ρ2 v w2 ⟨j, hj, rfl, hall, hh⟩
     by_cases hlt2 : j < n
     ·obtain ⟨fo, hx⟩ := au (l := fs) (k := j) (by omega)
      by_cases ho : fo.n = f0.n
      ·refine ah (sr (mI (mL (aV ?_))))
       refine aJ (aa (cT (ak (ai (ah (aj (ah ?_)))))))
       refine aN 11 [[(0, none)], [(5, none)], [(29, some 0), (30, some 1)], [(31, some 2)], [(32, some 3)], [(33, some 4)], [(0, none)], [(35, some 6)], [(36, some 7)], [(37, some 8)], [(38, some 9)]] [(10, 39), (9, 38), (8, 37), (7, 36), (6, 35), (5, 34), (4, 33), (3, 32), (2, 31), (1, 30), (0, 29)] hh mixed (by kernel_rfl) ?_
       refine fk ?_
       refine dD ?_
       refine iK (j) ?_
       refine xZ ?_
       refine jW (fun _ hj => cJ hj.hp.below ((hr.recAt FX.len hx) 0 _ rfl)) ?_
       refine j0 ?_
       refine fk ?_
       refine iK (0) ?_
       refine xZ ?_
       refine jW (fun _ hj => cJ hj.hp.below ((hr.recAt FX.len h00) 0 _ rfl)) ?_
       refine j0 ?_
       refine bo ?_
       intro f W hJ hV
       have hb_12 := hJ.bl
       obtain ⟨v39, v38, v37, v36, v35, v34, v33, v32, v31, v30, v29, _⟩ := hV
       replace hh := hJ.hp
       refine aY (bm (ae v39 (ae v38 (ae v37 (ae v36 (ae v35 (ae v34 (ae v33 (ae v32 (ae v31 (ae v30 (ae v29 aX)))))))))))) ?_
       dsimp only [cj]
       clear hJ
       refine dn (aa (cF (ak (aZ (ai (ao (mI ?_)))))))
       refine bu (aI (aE (ai ?_)))
       refine ⟨⟨j + 1, by omega, rfl, by rw [aO hx, List.any_append, hall, List.any_cons, List.any_nil, decide_eq_false (by omega)]; rfl, hh⟩, by show n - (j + 1) < n - j; omega, ?_⟩
       (repeat (first | exact av _ _ _ | refine aC rfl ?_ | refine ar rfl ?_))
      ·refine ah (sr (mI (mL (aV ?_))))
       refine aJ (aa (cT (ak (ai (ah (aj (ah ?_)))))))
       refine aN 11 [[(0, none)], [(5, none)], [(29, some 0), (30, some 1)], [(31, some 2)], [(32, some 3)], [(33, some 4)], [(0, none)], [(35, some 6)], [(36, some 7)], [(37, some 8)], [(38, some 9)]] [(10, 39), (9, 38), (8, 37), (7, 36), (6, 35), (5, 34), (4, 33), (3, 32), (2, 31), (1, 30), (0, 29)] hh mixed (by kernel_rfl) ?_
       refine fk ?_
       refine dD ?_
       refine iK (j) ?_
       refine xZ ?_
       refine jW (fun _ hj => cJ hj.hp.below ((hr.recAt FX.len hx) 0 _ rfl)) ?_
       refine j0 ?_
       refine fk ?_
       refine iK (0) ?_
       refine xZ ?_
       refine jW (fun _ hj => cJ hj.hp.below ((hr.recAt FX.len h00) 0 _ rfl)) ?_
       refine j0 ?_
       refine bo ?_
       intro f W hJ hV
       have hb_12 := hJ.bl
       obtain ⟨v39, v38, v37, v36, v35, v34, v33, v32, v31, v30, v29, _⟩ := hV
       replace hh := hJ.hp
       refine aY (bm (ae v39 (ae v38 (ae v37 (ae v36 (ae v35 (ae v34 (ae v33 (ae v32 (ae v31 (ae v30 (ae v29 aX)))))))))))) ?_
       dsimp only [cj]
       clear hJ
       refine dn (aa (cT (sr (aI (aa (aq (bM (aH (aH (bM (aH ?_)))))))))))
       refine cu ?_
       exact ⟨by rw [if_pos (.inr (List.any_eq_true.2 ⟨fo, List.mem_of_getElem? hx, decide_eq_true (by omega)⟩))], hh.below⟩
     ·rw [List.take_of_length_le (by omega)] at hall
      have hod : qd fs = false := hall
      refine ah (sr (mI (mL (aV ?_))))
      refine aJ (aa (cF ?_))
      refine aP ?_
      refine aw (aw (bj (ai (sr (aI (aa (aq ?_)))))))
      refine cu ?_
      refine ⟨?_, hh.below⟩
      rw [if_neg]
      rintro (h | h)
      ·omega
      ·rw [hod] at h
       cases h
theorem FX.at_.ln {g : FX} {w : World} (h : g.at_ w) : g.ds.length = g.n ∧ g.cs.length = g.m := ⟨by have := h.dg.1; rw [bK] at this; omega, h.nm.di NR.len (by decide)⟩
def Kept (fs : List FX) (R : List HE) (g : FX) : Prop := g ∈ fs ∨ (g.dZ ∈ R ∧ g.dV ∈ R)
theorem Kept.at_ {w w' : World} {fs : List FX} {R H : List HE} {g : FX} (h : Kept fs R g) (hf : ∀ f ∈ fs, f.at_ w) (hs : ∀ x ∈ R, x ∈ H) (hh : Hp w H w') : g.at_ w' := by
 rcases h with h | ⟨h1, h2⟩
 ·exact (hf g h).ext hh.below
 ·exact hh.lW (hs _ h1) (hs _ h2)
theorem Kept.sub {fs : List FX} {R R' : List HE} {g : FX} (h : Kept fs R g) (hs : ∀ x ∈ R, x ∈ R') : Kept fs R' g := h.imp id fun ⟨a, b⟩ => ⟨hs _ a, hs _ b⟩
theorem tn (f : FX) (E : Option Addr) (q cE k : Nat) (es : List Int) (w : World) (hf : f.at_ w) (hl : f.gJ k) (hE : Sl w E q 1 (bA es)) (hq : q ≤ 1000) (hk : k ≤ 90000) :
  Calls Tryz.prog 24 #[.agg #[.slice f.A f.n f.a, .slice f.B f.m f.b], .slice E q cE] w fun r w' => ((f.e ≠ 0 ∧ r = nw f.e ∨ f.e = 0 ∧ j5 f.ds es ≠ 0 ∧ r = nw (j5 f.ds es)) ∧ Below w.heap.size w w') ∨
   (f.e = 0 ∧ j5 f.ds es = 0 ∧ ∃ (g : FX) (R : List HE), o0 (es.map Int.toNat) (fQ (es.map Int.toNat) f) g ∧ (g = f ∨ R = [g.dZ, g.dV]) ∧ r = .returned (.tuple #[.agg #[.slice g.A g.n g.a, .slice g.B g.m g.b], .int .i64 0]) ∧ Hp w R w') :=
 pG f.A f.B E f.n f.a f.m f.b q cE k f.ds es f.cs w hf hl hE hq hk
theorem yV {fs : List FX} (h : eo fs = 0) (hln : ∀ f ∈ fs, f.ds.length = f.n) : ∀ f ∈ fs, j5 f.ds (bf (maxD fs)) = if 4096 < ay (maxD fs) then 3 else 0 := fun f hm => by
 obtain ⟨h1, h2, h3⟩ := mo h hln f hm
 have hds := (FX.fv ((hO h).2.1 f hm)).1
 unfold j5
 have e1 : (f.ds.zip (bf (maxD fs))).any ia = false := List.any_eq_false.2 fun p hp => by
  obtain ⟨j, hj⟩ := List.mem_iff_getElem?.1 hp
  rw [List.getElem?_zip_eq_some] at hj
  obtain ⟨j1, j2⟩ := hj
  rw [hds] at j1
  unfold bf at j1 j2
  rw [List.getElem?_map] at j1 j2
  obtain ⟨x, hx, hx2⟩ := Option.map_eq_some_iff.1 j1
  obtain ⟨y, hy, hy2⟩ := Option.map_eq_some_iff.1 j2
  have := h2 j x y hx hy
  have := h3 y (List.mem_of_getElem? hy)
  unfold ia
  rw [decide_eq_true_eq]
  omega
 rw [if_neg (by rw [cd, h1, hds, cd]; omega), if_neg (by rw [e1]; decide), eO]
theorem rR (L : Option Addr) (n c : Nat) (fs : List FX) (k : Nat) (w : World) (hL : Sl w L n 2 (bR FX.cells fs)) (hn : n ≤ 1000) (hf : ∀ f ∈ fs, f.at_ w) (hl : ∀ f ∈ fs, f.gJ k) (hk : k ≤ 90000) :
  Calls Tryz.prog 26 #[.slice L n c] w fun r w' => (bZ fs ≠ 0 ∧ r = .returned (.tuple #[.slice none 0 0, .int .i64 (bZ fs)]) ∧ Below w.heap.size w w') ∨
   (bZ fs = 0 ∧ ∃ (A : Option Addr) (a : Nat) (gs : List FX) (R : List HE), r = .returned (.tuple #[.slice A n a, .int .i64 0]) ∧ gs.length = n ∧ (∀ (i : Nat) (f g : FX), fs[i]? = some f → gs[i]? = some g → o0 (maxD fs) (fQ (maxD fs) f) g) ∧ (∀ g ∈ gs, Kept fs R g) ∧ Hp w (.row A n a 28 2 (bR FX.cells gs) :: R) w') := by
 have hh := Hp.start w
 have hln := hL.di FX.len (by decide)
 have hlk := fun w1 hb => rn L n c fs k w1 (hL.ext hb) (by omega) (fun f hm => (hf f hm).ext hb) hl
 unfold bZ
 by_cases h0 : eo fs = 0
 ·obtain ⟨hne, hev, hnv⟩ := hO h0
  have hml := mo h0 fun f hm => (hf f hm).ln.1
  have hrz := yV h0 fun f hm => (hf f hm).ln.1
  obtain ⟨f0, h00⟩ := au (l := fs) (k := 0) (List.length_pos_iff.2 hne)
  have hm0 := List.mem_of_getElem? h00
  have hhd : (fs.map FX.n).headD 0 = f0.n := by
   rcases fs with _ | ⟨g, l⟩
   ·cases h00
   ·have : g = f0 := by simpa using h00
    rw [← this]; rfl
  have hnsl : ∀ f ∈ fs, f.ns.length = f0.n := fun f hm => by
   have h1 := (hf f hm).ln.1
   have h2 := hnv f hm
   rw [hhd] at h2
   unfold FX.ns
   rw [List.length_map]
   omega
  have hdsn : ∀ f ∈ fs, f.ds = bf f.ns := fun f hm => (FX.fv (hev f hm)).1
  have h12 : f0.n ≤ 12 := by have := (FX.fv (hev f0 hm0)).2.2.1; rw [hnsl f0 hm0] at this; exact this
  have hDe : maxD fs = (fs.map FX.ns).foldl fw f0.ns := by
   unfold maxD
   rw [List.foldl_map]
   congr 1
   rcases fs with _ | ⟨g, l⟩
   ·cases h00
   ·have : g = f0 := by simpa using h00
    rw [← this]; rfl
  have hA0 := hnsl f0 hm0
  have hF := fun i => (mc ((fs.take i).map FX.ns) f0.ns fun l hl => by
   obtain ⟨f, hf2, rfl⟩ := List.mem_map.1 hl
   rw [hnsl f (List.mem_of_mem_take hf2), hA0]).1
  obtain ⟨ad, rfl, hr⟩ := hL.at_ (by have := (List.getElem?_eq_some_iff.1 h00).1; omega)
  have hn0 : 0 < n := by have := (List.getElem?_eq_some_iff.1 h00).1; omega
  rw [if_neg (by omega)]
  refine al (N := 74) (l := [.slice (some ad) n c]) Tryz.func26 rfl rfl (by simp) ?_
  refine sr (aL (aI (aa (ah (sr (mL ?_))))))
  refine bH hh (hlk _ hh.below) rfl ?_
  intro w13 hh
  refine aI (aa (sr (mI ?_)))
  refine dn (aa (cF (ak (ai (sr ?_)))))
  refine eZ hh aG.out aD.out (by decide) ?_
  intro b17 w17 hh
  refine mL ?_
  refine aF (k := 0) aG.out aD.size rfl rfl (by omega) (by omega) (by decide) ?_
  refine gB eE.out rfl (by decide) ?_
  refine aM aD.out rfl (cJ hh.below ((hr.recAt FX.len h00) 0 _ rfl)) (by decide) ?_
  refine cv hh (i := 0) rfl rfl rfl ((hf f0 hm0).dg.ext hh.below) aG.out aD.out rfl (by decide) ?one5 (by omega) (by omega) (by decide) ?kk5
  case one5 => first | rfl | assumption | exact bD _ | exact oneCells_u8s _
  intro A22 c22 w22 hh
  simp only [List.set_cons_zero] at hh
  rw [Nat.zero_add f0.n]
  rw [Nat.zero_add, List.nil_append, hdsn f0 hm0] at hh
  refine aL (aa (ah (sr (aI (aa (aj ?_))))))
  refine bq [6, 7, 23, 24, 25, 26, 27, 28, 29, 30, 31, 32, 33, 34, 35, 36, 37, 38, 39, 40, 41, 42, 43, 44, 45, 46, 47, 48, 49, 50] 6
   (fun v w' => ∃ i : Nat, i ≤ n ∧ v = .int .i64 i ∧ Hp w [.row A22 f0.n c22 3 1 (bA (bf (((fs.take i).map FX.ns).foldl fw f0.ns)))] w')
   (fun v _ => n - (intOf v).toNat) ?_ ?_
  ·exact ⟨0, Nat.zero_le _, rfl, hh⟩
  ·clear hh
   rintro ρ' v w' ⟨i, hi, rfl, hh⟩
   by_cases hlt : i < n
   ·obtain ⟨fo, hx⟩ := au (l := fs) (k := i) (by omega)
    have hmem := List.mem_of_getElem? hx
    have hfold : ((fs.take (i + 1)).map FX.ns).foldl fw f0.ns = fw (((fs.take i).map FX.ns).foldl fw f0.ns) fo.ns := by rw [aO hx, List.map_append, List.foldl_append]; rfl
    have hal := hF i
    generalize ((fs.take i).map FX.ns).foldl fw f0.ns = a at *
    have hab : a.length = fo.ns.length := by rw [hal, hA0, hnsl fo hmem]
    have hfd := hdsn fo hmem
    have hfl := hnsl fo hmem
    have hfn := (hf fo hmem).ln.1
    rw [hfd, cd, hfl] at hfn
    refine ah (sr (mI (mL (aV ?_))))
    refine aJ (aa (cT (ak (ai (ah (aj (sr (aI (aa (aj ?_))))))))))
    refine bq [7, 29, 30, 31, 32, 33, 34, 35, 36, 37, 38, 39, 40, 41, 42, 43, 44, 45, 46, 47, 48, 49, 50] 7
     (fun v w' => ∃ j : Nat, j ≤ f0.n ∧ v = .int .i64 j ∧ Hp w [.row A22 f0.n c22 3 1 (bA (bf (ks a fo.ns j)))] w')
     (fun v _ => f0.n - (intOf v).toNat) ?_ ?_
    ·refine ⟨0, Nat.zero_le _, rfl, ?_⟩
     show Hp w [.row A22 f0.n c22 3 1 (bA (bf (List.take 0 _ ++ List.drop 0 a)))] _
     rw [List.take_zero, List.nil_append, List.drop_zero]
     exact hh
    ·clear hh
     rintro ρ2 v w2 ⟨j, hj, rfl, hh⟩
     by_cases hjn : j < f0.n
     ·obtain ⟨x, hxa⟩ := au (l := a) (k := j) (by omega)
      obtain ⟨y, hyb⟩ := au (l := fo.ns) (k := j) (by omega)
      have hgx := bG (cZ (ud hab hxa))
      have hgy : (bA fo.ds)[j]? = some (.int .i64 (y : Int)) := by rw [hfd]; exact bG (cZ hyb)
      obtain ⟨a2, hA2, s2⟩ := (hf fo hmem).dg.at_ (by omega)
      have fl : ∀ w1, Below w.heap.size w w1 → w1.cell? ((ad.add (i * 2)).add 0) = some (.slice (some a2) fo.n fo.a) := fun w1 hb => by
       have := cJ hb ((hr.recAt FX.len hx) 0 _ rfl)
       rwa [hA2] at this
      have hml : (bA (bf (ks a fo.ns j))).length = f0.n := by rw [bK, cd, rl hab (by omega)]; omega
      obtain ⟨gd, rfl⟩ := hh.dw (i := 0) rfl (by omega)
      refine ah (sr (mI (mL (aV ?_))))
      refine aJ (aa (cT (ak (ai (ah (aj ?_))))))
      refine aN 15 [[(5, none)], [(7, none)], [(5, none)], [(7, none)], [(37, some 2), (38, some 3)], [(39, some 4)], [(0, none)], [(6, none)], [(41, some 6), (42, some 7)], [(43, some 8)], [(44, some 9)], [(7, none)], [(45, some 10), (46, some 11)], [(47, some 12)], [(40, some 5), (48, some 13)]] [(14, 49), (13, 48), (12, 47), (11, 46), (10, 45), (9, 44), (8, 43), (7, 42), (6, 41), (5, 40), (4, 39), (3, 38), (2, 37), (1, 36), (0, 35)] hh mixed (by kernel_rfl) ?_
      refine fk ?_
      refine dD ?_
      refine fk ?_
      refine dD ?_
      refine re (j) ?_
      refine aU (i := 5) (fun ρ1 w1 hj hR => cx aD.out (show ρ1 39 = Value.pointer _ from hR.1) (hj.hp.ck (i := 0) rfl (by rw [Nat.mul_one]; exact hgx))) ?_
      refine fk ?_
      refine dD ?_
      refine iK (i) ?_
      refine xZ ?_
      refine jW (fun _ hj => fl _ hj.hp.below) ?_
      refine dD ?_
      refine aU (i := 12) (fun ρ1 w1 hj hR => bI aG.out aD.size (show ρ1 45 = Value.slice _ _ _ from hR.1) (show ρ1 46 = Value.int _ _ from hR.2.1) (by omega) (by omega)) ?_
      refine jW (fun _ hj => (s2.ext hj.hp.below).ea hgy) ?_
      refine aU (i := 14) (fun ρ1 w1 hj hR => ub (show ρ1 40 = Value.int _ _ from hR.1) (show ρ1 48 = Value.int _ _ from hR.2.1)) ?_
      refine bo ?_
      intro f W hJ hV
      have hb_11 := hJ.bl
      obtain ⟨v49, v48, v47, v46, v45, v44, v43, v42, v41, v40, v39, v38, v37, v36, v35, _⟩ := hV
      replace hh := hJ.hp
      refine aY (bm (ae v49 (ae v48 (ae v47 (ae v46 (ae v45 (ae v44 (ae v43 (ae v42 (ae v41 (ae v40 (ae v39 (ae v38 (ae v37 (ae v36 (ae v35 aX)))))))))))))))) ?_
      dsimp only [cj]
      clear hJ
      have hmx : (if (y : Int) > (x : Int) then (y : Int) else (x : Int)) = ((max x y : Nat) : Int) := by split <;> omega
      refine bk (k := j) aG.out aD.size rfl rfl (by omega) (by omega) (by decide) ?_
      refine bz hh (i := 0) (vs := [_]) rfl rfl (bQ rfl) rfl aD.out rfl (by omega) rfl ?_
      intro ws hh
      simp only [List.set_cons_zero] at hh
      rw [hmx, eH _ (by rw [← bK]; omega), qx hab hxa hyb] at hh
      refine aE (aZ (ai (ao (mI ?_))))
      refine bu (aI (aE (ai ?_)))
      refine ⟨⟨j + 1, by omega, rfl, hh⟩, by show f0.n - (j + 1) < f0.n - j; omega, ?_⟩
      (repeat (first | exact av _ _ _ | refine aC rfl ?_ | refine ar rfl ?_))
     ·obtain rfl : j = f0.n := by omega
      have hmf : ks a fo.ns f0.n = fw a fo.ns := by
       unfold ks
       rw [List.take_of_length_le (by rw [iI hab]; omega), List.drop_of_length_le (by omega), List.append_nil]
      rw [hmf, ← hfold] at hh
      refine ah (sr (mI (mL (aV ?_))))
      refine aJ (aa (cF ?_))
      refine aP ?_
      refine aw (aw (bj (aZ (ai (ao (mI ?_))))))
      refine bu (aI (aE (ai ?_)))
      refine ⟨⟨i + 1, by omega, rfl, hh⟩, by show n - (i + 1) < n - i; omega, ?_⟩
      (repeat (first | exact av _ _ _ | refine aC rfl ?_ | refine ar rfl ?_))
   ·obtain rfl : i = n := by omega
    rw [List.take_of_length_le (by omega), ← hDe] at hh
    clear hF hDe
    have hDl := (hml f0 hm0).1
    rw [hA0] at hDl
    clear hml
    generalize maxD fs = D at *
    refine ah (sr (mI (mL (aV ?_))))
    refine aJ (aa (cF ?_))
    refine aP ?_
    refine aw (aw (bj (ai (sr (aL (aa (ah (sr (aI (aa (aj ?_)))))))))))
    replace hh := hh.ed 28 2
    refine bY [2, 3, 8, 9, 10, 11, 51, 52, 53, 54, 55, 56, 57, 58, 59, 60, 61, 62, 63, 64, 65, 66, 67, 68, 69, 70, 71, 72] 8 9
     (fun v8 v w' => ∃ (j c8 : Nat) (A : Option Addr) (gs : List FX) (R : List HE), j ≤ i ∧ v = .int .i64 j ∧ v8 = .slice A j c8 ∧ gs.length = j ∧ (0 < j → ¬ 4096 < ay D) ∧ (∀ (t : Nat) (f g : FX), fs[t]? = some f → gs[t]? = some g → o0 D (fQ D f) g) ∧ (∀ g ∈ gs, Kept fs R g) ∧ Hp w (.row A j c8 28 2 (bR FX.cells gs) :: .row A22 f0.n c22 3 1 (bA (bf D)) :: R) w')
     (fun _ v _ => i - (intOf v).toNat) ?_ ?_
    ·exact ⟨0, 0, none, [], [], Nat.zero_le _, rfl, rfl, rfl, fun h => absurd h (Nat.lt_irrefl 0), fun t f g _ h => by simp at h, (fun _ h => nomatch h), hh⟩
    ·clear hh
     rintro ρ' v8 v w' ⟨j, c8, A, gs, R, hj, rfl, rfl, hgl, hno, hup, hkp, hh⟩
     by_cases hlt : j < i
     ·obtain ⟨f, hx⟩ := au (l := fs) (k := j) (by omega)
      have hmem := List.mem_of_getElem? hx
      have hrs := fun w1 hb hE => tn f A22 f0.n c22 k (bf D) w1 ((hf f hmem).ext hb) (hl f hmem) hE (by omega) hk
      rw [hrz f hmem, eO] at hrs
      refine ah (sr (mI (mL (aV ?_))))
      refine aJ (aa (cT (ak (ai (ah (aj (sr (mL (mI ?_)))))))))
      refine aF (k := j) aG.out aD.size rfl rfl (by omega) (by omega) (by decide) ?_
      refine cK (vs := [_, _]) aD.out rfl ((hr.ext hh.below).recAt FX.len hx) rfl (by decide) ?_
      refine mL ?_
      by_cases h4 : 4096 < ay D
      ·rw [if_pos h4] at hrs
       have hra := fun w1 hb hE => (hrs w1 hb hE).mono fun r w' h => show r = nw 3 ∧ Below w1.heap.size w1 w' from by
        rcases h with ⟨h | h, hb2⟩ | h
        ·exact absurd (hev f hmem) h.1
        ·exact ⟨h.2.2, hb2⟩
        ·exact nomatch h.2.1
       refine bH hh (hra _ hh.below (hh.aW (i := 1) rfl)) rfl ?_
       intro w63 hh
       refine mT ?_
       refine ee ?_
       refine ee ?_
       refine cG hh ?_
       intro b10 w10 hh
       refine bP hh 0 [_,_] ?_
       intro ws hh
       replace hh : Hp _ (.blk _ _ [_, _] _ :: _) _ := hh
       refine aI (aa (ah (sr (mI ?_))))
       refine dn (aa (cT (sr (mI (aL (aI (aa (aq (aH (bM (aH ?_)))))))))))
       refine aH (bM (aH ?_))
       refine vd ?_
       rw [if_pos h4]
       exact .inl ⟨by decide, rfl, hh.below⟩
      ·rw [if_neg h4] at hrs
       have hra := fun w1 hb hE => (hrs w1 hb hE).mono fun r w' h => show ∃ (g : FX) (R2 : List HE), o0 D (fQ D f) g ∧ (g = f ∨ R2 = [g.dZ, g.dV]) ∧ r = .returned (.tuple #[.agg #[.slice g.A g.n g.a, .slice g.B g.m g.b], .int .i64 0]) ∧ Hp w1 R2 w' from by
        rcases h with ⟨h | h, hb2⟩ | h
        ·exact absurd (hev f hmem) h.1
        ·exact absurd rfl h.2.1
        ·exact h.2.2
       refine aT (hra _ hh.below (hh.aW (i := 1) rfl)) az.out rfl (by decide) ?_
       rintro e_ w63 ⟨g, R2, hu, hsrc, rfl, h2⟩
       refine ⟨_, rfl, ?_⟩
       replace hh : Hp w (_ :: _ :: (R ++ R2)) _ := (hh.join h2).perm List.perm_append_comm
       clear h2
       refine mT ?_
       refine ee ?_
       refine ee ?_
       refine cG hh ?_
       intro b10 w10 hh
       refine bP hh 0 [_,_] ?_
       intro ws hh
       replace hh : Hp _ (.blk _ _ [_, _] _ :: _) _ := hh
       refine aI (aa (ah (sr (mI ?_))))
       refine dn (aa (cF (ak (ai (ao (mL ?_))))))
       refine cz hh 0 [_,_] ?_
       refine aK hh (cs := [_, _]) aG.out aD.out (aQ (cA rfl) bF) rfl rfl (by decide) (by decide) (by decide) rfl (by decide) ?_
       intro b71 w71 hh
       refine cv hh (i := 2) rfl rfl rfl (hh.aW (i := 0) rfl) aG.out aD.out rfl (by decide) (by first | rfl | exact cq _ | exact bX _ | exact bD _ | exact bW NR.one _) (by omega) (by omega) (by decide) ?_
       intro A72 c72 w72 hh
       simp only [List.set_cons_succ] at hh
       replace hh := hh.sub (List.sublist_cons_self _ _)
       refine aL (aE (aZ (ai (ao (mI ?_)))))
       refine bu (aI (aE (ai ?_)))
       replace hh := hh.sub (List.Sublist.cons _ (List.Sublist.cons_cons _ (List.Sublist.cons_cons _ (List.Sublist.refl _))))
       refine ⟨⟨j + 1, c72, A72, gs ++ [g], R ++ R2, by omega, rfl, rfl, by rw [List.length_append, hgl]; rfl, fun _ => h4, fun t f' g' hf' hg' => ?_, fun g' hg' => ?_, by rw [dk]; exact hh⟩, by show i - (j + 1) < i - j; omega, ?_⟩
       ·by_cases ht : t < j
        ·rw [List.getElem?_append_left (by omega)] at hg'
         exact hup t f' g' hf' hg'
        ·have htl := (List.getElem?_eq_some_iff.1 hg').1
         rw [List.length_append, hgl] at htl
         obtain rfl : t = j := by have : t < j + 1 := htl; omega
         rw [List.getElem?_append_right (by omega), hgl, Nat.sub_self] at hg'
         rw [hx] at hf'
         obtain rfl := Option.some.inj hf'
         obtain rfl : g = g' := Option.some.inj hg'
         exact hu
       ·rcases List.mem_append.1 hg' with h | h
        ·exact (hkp g' h).sub fun x hx => List.mem_append_left _ hx
        ·obtain rfl := List.mem_singleton.1 h
         rcases hsrc with rfl | rfl
         ·exact .inl hmem
         ·exact .inr ⟨List.mem_append_right _ List.mem_cons_self, List.mem_append_right _ (List.mem_cons_of_mem _ List.mem_cons_self)⟩
       ·(repeat (first | exact av _ _ _ | refine aC rfl ?_ | refine ar rfl ?_))
     ·obtain rfl : j = i := by omega
      have h4 := hno (by omega)
      refine ah (sr (mI (mL (aV ?_))))
      refine aJ (aa (cF ?_))
      refine aP ?_
      refine aw (aw (bj (ai (sr (mL (aL (aI (aa (aq ?_)))))))))
      refine vd ?_
      rw [if_neg h4]
      exact .inr ⟨rfl, A, c8, gs, R, rfl, hgl, hup, hkp, hh.sub (List.Sublist.cons_cons _ (List.sublist_cons_self _ _))⟩
 ·rw [if_pos h0]
  refine al (N := 74) (l := [.slice L n c]) Tryz.func26 rfl rfl (by simp) ?_
  refine sr (aL (aI (aa (ah (sr (mL ?_))))))
  refine bH hh (hlk _ hh.below) rfl ?_
  intro w13 hh
  refine aI (aa (sr (mI ?_)))
  refine dn (aa (cT (sr (mI (aL (aI (aa (aq (aH ?_)))))))))
  refine vd ?_
  exact .inl ⟨h0, rfl, hh.below⟩
end Go.Proofs.YtioilmppidlbnaaGreatDoor
/- The contracts of package lift once more, each with one ending: a form that one owns, empty where there is an error. -/
namespace Go.Proofs.YtioilmppidlbnaaGreatDoor
open Go.RowKit
def zj (E : Int) (D : List Nat) : List Int := if E = 0 then bf D else []
def xx (E : Int) (ys : List Dyadic) : List NR := if E = 0 then ys.map nR else []
structure Out (E : Int) (D : List Nat) (ys : List Dyadic) (g : FX) : Prop where
 ds : g.ds = zj E D
 cs : g.cs = xx E ys
 n : g.n ≤ 100000
 m : g.m ≤ 1000000
def FX.nil : FX := ⟨none, 0, 0, none, 0, 0, [], []⟩
theorem Hp.n5 {w0 w : World} {H : List HE} (h : Hp w0 H w) : Hp w0 (FX.nil.dZ :: FX.nil.dV :: H) w := (h.ed 3 1).ed 39 3
theorem Out.err {E : Int} {D : List Nat} {ys : List Dyadic} (h : E ≠ 0) : Out E D ys FX.nil := ⟨by unfold zj; rw [if_neg h]; rfl, by unfold xx; rw [if_neg h]; rfl, Nat.zero_le _, Nat.zero_le _⟩
theorem o0.out {D : List Nat} {ys : List Dyadic} {g : FX} (h : o0 D ys g) (h1 : D.length ≤ 1000) (h2 : ay D ≤ 4096) : Out 0 D ys g := ⟨h.ds, h.cs, by rw [h.n]; omega, by rw [h.m]; omega⟩
theorem lG {fs : List FX} (h : bZ fs = 0) (hln : ∀ f ∈ fs, f.ds.length = f.n) : eo fs = 0 ∧ (maxD fs).length ≤ 1000 ∧ ay (maxD fs) ≤ 4096 := by
 have hlk : eo fs = 0 := by
  unfold bZ at h
  split at h
  ·rename_i h2; exact absurd h h2
  ·rename_i h2; simpa using h2
 obtain ⟨hne, hev, _⟩ := hO hlk
 obtain ⟨f0, ft, rfl⟩ := List.exists_cons_of_ne_nil hne
 have h1 := (mo hlk hln f0 List.mem_cons_self).1
 have h2 := (FX.fv (hev f0 List.mem_cons_self)).2.2.1
 refine ⟨hlk, by omega, ?_⟩
 unfold bZ at h
 rw [if_neg (by omega)] at h
 split at h
 ·cases h
 ·omega
theorem yE {f g : FX} (h : oa f g = 0) : eo [f, g] = 0 ∧ (cI f.ns g.ns).length ≤ 1000 ∧ ay (cI f.ns g.ns) ≤ 4096 := by
 have hlk : eo [f, g] = 0 := by
  unfold oa at h
  split at h
  ·rename_i h2; exact absurd h h2
  ·rename_i h2; simpa using h2
 have h2 := (FX.fv ((hO hlk).2.1 f List.mem_cons_self)).2.2.1
 refine ⟨hlk, ?_, ?_⟩
 ·unfold cI
  rw [List.length_zipWith]
  omega
 ·unfold oa at h
  rw [if_neg (by omega)] at h
  split at h
  ·cases h
  ·rename_i hb
   have hb := (Bool.not_eq_true _).mp hb
   unfold iX at hb
   have := (Bool.or_eq_false_iff.1 hb).2
   have := of_decide_eq_false this
   omega
theorem Out.same {E : Int} {D : List Nat} {ys : List Dyadic} {g h : FX} (h1 : Out E D ys g) (h2 : Out E D ys h) : g.ds = h.ds ∧ g.cs = h.cs := ⟨h1.ds.trans h2.ds.symm, h1.cs.trans h2.cs.symm⟩
theorem eG (g h : FX) (w : World) (hg : g.at_ w) (hh : h.at_ w) (e : g.ds = h.ds ∧ g.cs = h.cs) (hn : g.n ≤ 100000) (hm : g.m ≤ 1000000) :
  Calls Tryz.prog 17 #[.agg #[.slice g.A g.n g.a, .slice g.B g.m g.b], .agg #[.slice h.A h.n h.a, .slice h.B h.m h.b]] w fun r w' => r = .returned (.bool true) ∧ Below w.heap.size w w' := by
 have l1 := hg.ln
 have l2 := hh.ln
 obtain ⟨hg1, hg2⟩ := hg
 obtain ⟨hh1, hh2⟩ := hh
 have e1 : h.n = g.n := by rw [← l1.1, ← l2.1, e.1]
 have e2 : h.m = g.m := by rw [← l1.2, ← l2.2, e.2]
 rw [← e.1, e1] at hh1
 rw [← e.2, e2] at hh2
 rw [e1, e2]
 exact pE g.A g.B g.n g.a g.m g.b h.A h.B h.a h.b g.ds g.cs w hg1 hg2 hh1 hh2 hn hm
def gK (f : FX) (es : List Int) : Int := if f.e ≠ 0 then f.e else j5 f.ds es
theorem nk (f : FX) (E : Option Addr) (q cE : Nat) (es : List Int) (k : Nat) (w : World) (hT : gH w) (hf : f.at_ w) (hl : f.gJ k) (hm : f.m ≤ 200) (hE : Sl w E q 1 (bA es)) (hq : q ≤ 1000) (hk : k ≤ 90000) :
  Calls Tryz.prog 23 #[.agg #[.slice f.A f.n f.a, .slice f.B f.m f.b], .slice E q cE] w fun r w' => ∃ g : FX, Out (gK f es) (es.map Int.toNat) (fQ (es.map Int.toNat) f) g ∧ r = .returned (.tuple #[.agg #[.slice g.A g.n g.a, .slice g.B g.m g.b], .int .i64 (gK f es)]) ∧ Hp w [g.dZ, g.dV] w' := by
 unfold gK
 refine (k7 f E q cE es k w hT hf hl hE hq hk fun h0 h1 => ?_).mono fun r w' h => ?_
 ·obtain ⟨_, _, _, _, h2, _⟩ := FX.fv h0
  have h3 : ay (f.ds.map Int.toNat) ≤ 200 := by have := hf.ln.2; unfold FX.ns at h2; omega
  refine Nat.le_trans (Nat.mul_le_mul (?_ : _ ≤ 4096) h3) (by decide)
  unfold j5 at h1
  split at h1
  ·cases h1
  split at h1
  ·cases h1
  split at h1
  ·cases h1
  omega
 ·rcases h with ⟨⟨h, rfl⟩ | ⟨h0, h1, rfl⟩, hb⟩ | ⟨h0, h1, A, a, B, b, rfl, h2⟩
  ·rw [if_pos h]
   exact ⟨FX.nil, .err h, rfl, ((Hp.start w).ext hb).n5⟩
  ·rw [if_neg (by omega)]
   exact ⟨FX.nil, .err h1, rfl, ((Hp.start w).ext hb).n5⟩
  ·rw [if_neg (by omega), h1]
   have hes : es = bf (es.map Int.toNat) := by
    obtain ⟨h3, _, _, _⟩ := FX.fv h0
    have h4 : j5 (bf f.ns) es = 0 := by rw [← h3]; exact h1
    unfold j5 at h4
    split at h4
    ·cases h4
    split at h4
    ·cases h4
    rename_i h5 h6
    obtain ⟨ts, rfl, _⟩ := rE (ns := f.ns) (es := es) (by omega) ((Bool.not_eq_true _).mp h6)
    rw [eO]
   have h7 : ay (es.map Int.toNat) ≤ 4096 := by
    unfold j5 at h1
    split at h1
    ·cases h1
    split at h1
    ·cases h1
    split at h1
    ·cases h1
    omega
   refine ⟨⟨A, q, a, B, ay (es.map Int.toNat), b, es, _⟩, ⟨?_, rfl, by show q ≤ 100000; omega, by show ay _ ≤ 1000000; omega⟩, rfl, h2⟩
   show es = _
   unfold zj
   rw [if_pos rfl]
   exact hes
theorem wx (f : FX) (c : NR) (k : Nat) (w : World) (hT : gH w) (hf : f.at_ w) (hlf : f.gJ k) (hc : c.ok) (hcz : Sz k c.d) (hk : k ≤ 90000) :
  Calls Tryz.prog 27 #[.agg #[.slice f.A f.n f.a, .slice f.B f.m f.b], .agg #[.bool c.neg, .string c.ct, .int .i64 c.e]] w fun r w' => ∃ g : FX, Out f.e f.ns (f.cs.map fun x => x.d * c.d) g ∧ r = .returned (.tuple #[.agg #[.slice g.A g.n g.a, .slice g.B g.m g.b], .int .i64 f.e]) ∧ Hp w [g.dZ, g.dV] w' := by
 refine (pq f c k w hT hf hlf hc hcz hk).mono fun r w' h => ?_
 rcases h with ⟨h, rfl, hb⟩ | ⟨h, p, hp, rfl, h2⟩
 ·exact ⟨FX.nil, .err h, rfl, ((Hp.start w).ext hb).n5⟩
 ·rw [h]
  obtain ⟨_, _, h3, _, _, h4⟩ := FX.fv h
  exact ⟨p, hp.out (by omega) h4, rfl, h2⟩
theorem zk (f g : FX) (k : Nat) (w : World) (hT : gH w) (hf : f.at_ w) (hg : g.at_ w) (hlf : f.gJ k) (hlg : g.gJ k) (hmf : f.m ≤ 200) (hmg : g.m ≤ 200) (hk : k ≤ 50000) :
  Calls Tryz.prog 18 #[.agg #[.slice f.A f.n f.a, .slice f.B f.m f.b], .agg #[.slice g.A g.n g.a, .slice g.B g.m g.b]] w fun r w' => ∃ p : FX, Out (oa f g) (cI f.ns g.ns) (kb f.ns g.ns (f.cs.map NR.d) (g.cs.map NR.d)) p ∧ r = .returned (.tuple #[.agg #[.slice p.A p.n p.a, .slice p.B p.m p.b], .int .i64 (oa f g)]) ∧ Hp w [p.dZ, p.dV] w' := by
 refine (sv f g k w hT hf hg hlf hlg hmf hmg hk).mono fun r w' h => ?_
 rcases h with ⟨h, rfl, hb⟩ | ⟨h, p, hp, rfl, h2⟩
 ·exact ⟨FX.nil, .err h, rfl, ((Hp.start w).ext hb).n5⟩
 ·obtain ⟨_, h3, h4⟩ := yE h
  rw [h]
  exact ⟨p, hp.out h3 h4, rfl, h2⟩
theorem vm (L : Option Addr) (n c : Nat) (fs : List FX) (k : Nat) (w : World) (hT : gH w) (hL : Sl w L n 2 (bR FX.cells fs)) (hn : n ≤ 1000) (hf : ∀ f ∈ fs, f.at_ w) (hl : ∀ f ∈ fs, f.gJ k) (hm : ∀ f ∈ fs, f.m ≤ 200) (hk : k ≤ 90000) :
  Calls Tryz.prog 15 #[.slice L n c] w fun r w' => ∃ g : FX, Out (bZ fs) (maxD fs) (yX (fs.map (fQ (maxD fs)))) g ∧ r = .returned (.tuple #[.agg #[.slice g.A g.n g.a, .slice g.B g.m g.b], .int .i64 (bZ fs)]) ∧ Hp w [g.dZ, g.dV] w' := by
 refine (so L n c fs k w hT hL hn hf hl hm hk).mono fun r w' h => ?_
 rcases h with ⟨h, rfl, hb⟩ | ⟨h, p, hp, rfl, h2⟩
 ·exact ⟨FX.nil, .err h, rfl, ((Hp.start w).ext hb).n5⟩
 ·obtain ⟨_, h3, h4⟩ := lG h fun f hm => (hf f hm).ln.1
  rw [h]
  exact ⟨p, hp.out h3 h4, rfl, h2⟩
theorem xK (f g : FX) (k : Nat) (w : World) (hT : gH w) (hf : f.at_ w) (hg : g.at_ w) (hlf : f.gJ k) (hlg : g.gJ k) (hmf : f.m ≤ 200) (hmg : g.m ≤ 200) (hk : k ≤ 90000) :
  Calls Tryz.prog 25 #[.agg #[.slice f.A f.n f.a, .slice f.B f.m f.b], .agg #[.slice g.A g.n g.a, .slice g.B g.m g.b]] w fun r w' => ∃ x y : FX, Out (bZ [f, g]) (maxD [f, g]) (fQ (maxD [f, g]) f) x ∧ Out (bZ [f, g]) (maxD [f, g]) (fQ (maxD [f, g]) g) y ∧ r = .returned (.tuple #[.agg #[.slice x.A x.n x.a, .slice x.B x.m x.b], .agg #[.slice y.A y.n y.a, .slice y.B y.m y.b], .int .i64 (bZ [f, g])]) ∧ Hp w [y.dZ, y.dV, x.dZ, x.dV] w' := by
 refine (qz f g k w hT hf hg hlf hlg hmf hmg hk).mono fun r w' h => ?_
 rcases h with ⟨h, rfl, hb⟩ | ⟨h, x, y, hx, hy, rfl, h2⟩
 ·exact ⟨FX.nil, FX.nil, .err h, .err h, rfl, ((Hp.start w).ext hb).n5.n5⟩
 ·obtain ⟨_, h3, h4⟩ := lG h (by simpa using ⟨hf.ln.1, hg.ln.1⟩)
  rw [h]
  exact ⟨x, y, hx.out h3 h4, hy.out h3 h4, rfl, h2⟩
def FX.key (f : FX) : List Int × List NR × Nat := (f.ds, f.cs, f.n)
theorem vX : ∀ {fs gs : List FX}, fs.map FX.key = gs.map FX.key → eo fs = eo gs ∧ bZ fs = bZ gs ∧ maxD fs = maxD gs ∧ ∀ D, fs.map (fQ D) = gs.map (fQ D) := fun {fs gs} h => by
 have e1 : ∀ (p : List Int × List NR × Nat → Bool) (l : List FX), l.any (fun f => p f.key) = (l.map FX.key).any p := fun p l => by rw [List.any_map]; rfl
 have hn : fs.map FX.n = gs.map FX.n := by
  have := congrArg (List.map (fun x : List Int × List NR × Nat => x.2.2)) h
  rwa [List.map_map, List.map_map] at this
 have hl : fs.length = gs.length := by have := congrArg List.length h; simpa using this
 have hlike : eo fs = eo gs := by
  have ho : qd fs = qd gs := by
   have a := e1 (fun x => decide (x.2.2 ≠ (fs.map FX.n).headD 0)) fs
   have b := e1 (fun x => decide (x.2.2 ≠ (fs.map FX.n).headD 0)) gs
   rw [h, ← b] at a
   unfold qd
   rw [← hn]
   exact a
  have hf : (fs.find? (fun f => decide (f.e ≠ 0))).map FX.key = (gs.find? (fun f => decide (f.e ≠ 0))).map FX.key := by
   have a : ∀ l : List FX, (l.find? (fun f => decide (f.e ≠ 0))).map FX.key = (l.map FX.key).find? (fun x => decide (fE x.1 x.2.1 ≠ 0)) := fun l => by rw [List.find?_map]; rfl
   rw [a, a, h]
  unfold eo
  rw [ho, hl]
  cases h1 : fs.find? (fun f => decide (f.e ≠ 0)) with
  | none =>
   rw [h1] at hf
   cases h2 : gs.find? (fun f => decide (f.e ≠ 0)) with
   | none => rfl
   | some g => rw [h2] at hf; cases hf
  | some f =>
   rw [h1] at hf
   cases h2 : gs.find? (fun f => decide (f.e ≠ 0)) with
   | none => rw [h2] at hf; cases hf
   | some g =>
    rw [h2] at hf
    have hk : f.key = g.key := Option.some.inj hf
    unfold FX.key at hk
    show fE f.ds f.cs = fE g.ds g.cs
    injection hk with a b
    injection b with b c
    rw [a, b]
 have hmax : maxD fs = maxD gs := by
  have a : ∀ l : List FX, maxD l = (l.map FX.key).foldl (fun a x => fw a (x.1.map Int.toNat)) (((l.map FX.key).map fun x => x.1.map Int.toNat).headD []) := fun l => by unfold maxD; rw [List.foldl_map, List.map_map]; rfl
  rw [a, a, h]
 refine ⟨hlike, by unfold bZ; rw [hlike, hmax], hmax, fun D => ?_⟩
 have a : ∀ l : List FX, l.map (fQ D) = (l.map FX.key).map fun x => ib (x.1.map Int.toNat) D (x.2.1.map NR.d) := fun l => by rw [List.map_map]; rfl
 rw [a, a, h]
end Go.Proofs.YtioilmppidlbnaaGreatDoor
/- The walks through ogeeref14.Add, Mul and Scale. -/
namespace Go.Proofs.YtioilmppidlbnaaGreatDoor
open Go.RowKit
def y7 (R : List HE) (g : FX) : Prop := R = [g.dZ, g.dV] ∨ g.m = 0 ∧ R = [g.dV]
theorem y7.at_ {w w' : World} {R H : List HE} {g : FX} (h : y7 R g) (hc : g.cs.length = g.m) (hs : ∀ x ∈ R, x ∈ H) (hh : Hp w H w') : g.at_ w' := by
 rcases h with rfl | ⟨h0, rfl⟩
 ·exact hh.lW (hs _ List.mem_cons_self) (hs _ (List.mem_cons_of_mem _ List.mem_cons_self))
 ·refine ⟨iS (hh.own _ (hs _ List.mem_cons_self)), ?_⟩
  rw [h0] at hc ⊢
  rw [List.eq_nil_of_length_eq_zero hc]
  exact ⟨rfl, fun h => absurd h (by decide)⟩
theorem Ab (f : FX) (w : World) (hf : f.at_ w) (hn : f.n ≤ 1000000) (hm : f.m ≤ 1000000) :
  Calls Tryz.prog 14 #[.agg #[.slice f.A f.n f.a, .slice f.B f.m f.b]] w fun r w' => ∃ (g : FX) (R : List HE), g.ds = f.ds ∧ g.cs = f.cs ∧ g.n = f.n ∧ g.m = f.m ∧ r = .returned (.agg #[.slice g.A g.n g.a, .slice g.B g.m g.b]) ∧ y7 R g ∧ Hp w R w' :=
 (rb f.A f.B f.n f.a f.m f.b f.ds f.cs w hf.dg hf.nm hn hm).mono fun _ _ ⟨A, a, B, b, R, h1, h2, h3⟩ => ⟨⟨A, f.n, a, B, f.m, b, f.ds, f.cs⟩, R, rfl, rfl, rfl, rfl, h1, h2, h3⟩
theorem q8 (fx : FX) (c : NR) (k : Nat) (w : World) (hf : fx.at_ w) (hlf : fx.gJ k) (hc : c.ok) :
  Calls Tryz.prog 28 #[.agg #[.slice fx.A fx.n fx.a, .slice fx.B fx.m fx.b], .agg #[.bool c.neg, .string c.ct, .int .i64 c.e]] w fun r w' => ∃ g : FX, Out fx.e fx.ns (fx.cs.map fun x => x.d * c.d) g ∧ r = .returned (.tuple #[.agg #[.slice g.A g.n g.a, .slice g.B g.m g.b], .int .i64 fx.e]) ∧ Hp w [g.dZ, g.dV] w' := by
 have hh := Hp.start w
 have hck := fun w1 hb => qa fx k w1 (hf.ext hb) hlf
 have hlnf := hf.ln.1
 have hlmf := hf.ln.2
 have hn20 := hlf.yO
 have hm60 := hlf.At
 obtain ⟨oc1, oc2, oc3⟩ := hc
 by_cases h0 : fx.e = 0
 ·obtain ⟨df, cf, hf12, hflow, hfc, _⟩ := FX.fv h0
  refine al (N := 40) (l := [.agg #[.slice fx.A fx.n fx.a, .slice fx.B fx.m fx.b], .agg #[.bool c.neg, .string c.ct, .int .i64 c.e]]) Tryz.func28 rfl rfl (by simp) ?_
  refine sr ?_
  refine cS hh [_,_] ?_
  intro b2 w2 hh
  refine cS hh [_,_,_] ?_
  intro b3 w3 hh
  refine cG hh ?_
  intro b4 w4 hh
  refine aI (aa (ah (sr ?_)))
  refine cz hh 2 [_,_] ?_
  refine bH hh (hck _ hh.below) rfl ?_
  intro w10 hh
  refine aI (aa (sr (mI ?_)))
  refine dn (aa (cF (ak (ai (sr ?_)))))
  refine eZ hh aG.out aD.out (by decide) ?_
  intro b15 w15 hh
  refine bJ ?_
  refine bO hh 3 ?_
  refine cv hh (i := 0) rfl rfl rfl (hf.dg.ext hh.below) aG.out aD.out rfl (by decide) ?one6 (by omega) (by omega) (by decide) ?kk6
  case one6 => first | rfl | assumption | exact bD _ | exact oneCells_u8s _
  intro A18 c18 w18 hh
  simp only [List.set_cons_zero] at hh
  rw [Nat.zero_add fx.n]
  rw [Nat.zero_add, List.nil_append] at hh
  refine fh [_,_] ?_
  refine cG hh ?_
  intro b7 w7 hh
  refine bP hh 0 [_,_] ?_
  intro ws hh
  replace hh : Hp _ (.blk _ _ [_, _] _ :: _) _ := hh
  refine aa (ah (sr (aI (aa (aj ?_)))))
  replace hh := hh.ed 39 3
  refine bq [8, 20, 21, 22, 23, 24, 25, 26, 27, 28, 29, 30, 31, 32, 33, 34, 35, 36, 37, 38] 8
   (fun v w' => ∃ (i c1 : Nat) (A : Option Addr), i ≤ fx.m ∧ v = .int .i64 i ∧ Hp w [.row A i c1 39 3 (bR NR.cells (((fx.cs.take i).map fun x => x.d * c.d).map nR)), .blk b7 28 [.slice A18 fx.n c18, .slice A i c1] (0, 0), .row A18 fx.n c18 3 1 (bA fx.ds), .blk b4 28 [.slice none 0 0, .slice none 0 0] (0, 0), .blk b3 39 [.bool c.neg, .string c.ct, .int .i64 c.e] (0, 0), .blk b2 28 [.slice fx.A fx.n fx.a, .slice fx.B fx.m fx.b] (0, 0)] w')
   (fun v _ => fx.m - (intOf v).toNat) ?_ ?_
  ·exact ⟨0, 0, none, Nat.zero_le _, rfl, hh⟩
  ·clear hh
   rintro ρ' v w' ⟨i, c1, A, hi, rfl, hh⟩
   by_cases hlt : i < fx.m
   ·obtain ⟨x, hx⟩ := au (l := fx.cs) (k := i) (by omega)
    obtain ⟨⟨ox1, ox2, ox3⟩, hxz⟩ := hlf.num x (List.mem_of_getElem? hx)
    obtain ⟨a2, hA2, s2⟩ := hf.nm.at_ (by omega)
    have hmul := fun w1 => oZ x c w1 (by omega) (by omega) (by omega) (by omega) (by omega) (by omega)
    rw [hA2] at hh
    refine ah (sr (mI (bJ ?_)))
    refine bO hh 5 ?_
    refine aV ?_
    refine aJ (aa (cT (ak (ai (ah (aj ?_))))))
    refine aN 10 [[(7, none)], [(27, some 0)], [(2, none)], [(29, some 2)], [(8, none)], [(30, some 3), (31, some 4)], [(32, some 5)], [(3, none)], [(33, some 6), (34, some 7)], [(35, some 8)]] [(9, 36), (8, 35), (7, 34), (6, 33), (5, 32), (4, 31), (3, 30), (2, 29), (1, 28), (0, 27)] hh mixed (by kernel_rfl) ?_
    refine dI ?_
    refine ef 1 ?_
    refine dI ?_
    refine ef 5 ?_
    refine dD ?_
    refine aU (i := 5) (fun ρ1 w1 hj hR => bI aG.out aD.size (show ρ1 30 = Value.slice _ _ _ from hR.1) (show ρ1 31 = Value.int _ _ from hR.2.1) (by omega) (by omega)) ?_
    refine pW [_,_,_] (fun _ hj => (s2.ext hj.hp.below).recAt NR.len hx) ?_
    refine gk 4 [_,_,_] ?_
    refine dC (fun _ hj => hmul _) ?_
    refine ry [_,_,_] ?_
    refine bo ?_
    intro f W hJ hV
    have hb_8 := hJ.bl
    obtain ⟨v36, v35, v34, v33, v32, v31, v30, v29, v28, v27, _⟩ := hV
    obtain ⟨A36, c36, e36, f36⟩ : Rows _ _ _ (f 9) W := v36
    replace hh := hJ.hp
    refine aY (bm (ae e36 (ae v35 (ae v34 (ae v33 (ae v32 (ae v31 (ae v30 (ae v29 (ae v28 (ae v27 aX))))))))))) ?_
    dsimp only [cj]
    clear e36 hJ
    refine cv hh (i := 0) rfl rfl rfl (f36) aG.out aD.out rfl (by decide) (by first | rfl | exact cq _ | exact bX _ | exact bD _ | exact bW NR.one _) (by omega) (by omega) (by decide) ?_
    intro A37 c37 w37 hh
    simp only [List.set_cons_zero] at hh
    refine bJ ?_
    refine bP hh 1 [_] ?_
    intro ws hh
    replace hh : Hp _ (_ :: .blk _ _ [_, _] _ :: _) _ := hh
    refine aE (aZ (ai (ao (mI ?_))))
    refine bu (aI (aE (ai ?_)))
    rw [← hA2] at hh
    replace hh := hh.sub (List.Sublist.cons_cons _ (List.Sublist.cons_cons _ (List.Sublist.cons_cons _ (List.Sublist.cons_cons _ (List.Sublist.cons_cons _ (List.Sublist.cons_cons _ List.Sublist.slnil))))))
    refine ⟨⟨i + 1, c37, A37, by omega, rfl, ?_⟩, by show fx.m - (i + 1) < fx.m - i; omega, ?_⟩
    ·rw [aO hx, List.map_append, List.map_append, dk]
     exact hh
    ·(repeat (first | exact av _ _ _ | refine aC rfl ?_ | refine ar rfl ?_))
   ·obtain rfl : i = fx.m := by omega
    rw [List.take_of_length_le (by omega)] at hh
    refine ah (sr (mI (bJ ?_)))
    refine bO hh 5 ?_
    refine aV ?_
    refine aJ (aa (cF ?_))
    refine aP ?_
    refine aw (aw (bj (ai (sr ?_))))
    refine cz hh 1 [_,_] ?_
    refine bP hh 3 [_,_] ?_
    intro ws hh
    replace hh : Hp _ (_ :: _ :: _ :: .blk _ _ [_, _] _ :: _) _ := hh
    refine aI (aa (aq ?_))
    replace hh := hh.sub (List.Sublist.cons_cons _ (List.Sublist.cons _ (List.Sublist.cons_cons _ (List.Sublist.cons_cons _ (List.Sublist.cons _ (List.Sublist.cons _ List.Sublist.slnil))))))
    refine nV (a6 rfl (a7 (vs := [_, _]) aD.out (hh.ax (i := 2) (n := 2) rfl rfl) rfl) (cU (dR rfl) bx)) ?_
    rw [h0]
    exact ⟨⟨A18, fx.n, c18, A, fx.m, c1, fx.ds, _⟩, ⟨df, rfl, by show fx.n ≤ 100000; omega, by show fx.m ≤ 1000000; omega⟩, rfl, hh.sub (List.sublist_append_left [_, _] _)⟩
 ·refine al (N := 40) (l := [.agg #[.slice fx.A fx.n fx.a, .slice fx.B fx.m fx.b], .agg #[.bool c.neg, .string c.ct, .int .i64 c.e]]) Tryz.func28 rfl rfl (by simp) ?_
  refine sr ?_
  refine cS hh [_,_] ?_
  intro b2 w2 hh
  refine cS hh [_,_,_] ?_
  intro b3 w3 hh
  refine cG hh ?_
  intro b4 w4 hh
  refine aI (aa (ah (sr ?_)))
  refine cz hh 2 [_,_] ?_
  refine bH hh (hck _ hh.below) rfl ?_
  intro w10 hh
  refine aI (aa (sr (mI ?_)))
  refine dn (aa (cT (sr ?_)))
  refine fh [_,_] (mI ?_)
  refine bP hh 0 [_,_] ?_
  intro ws hh
  replace hh : Hp _ (.blk _ _ [_, _] _ :: _) _ := hh
  refine aI (aa (aq (aH ?_)))
  refine nV (a6 rfl (a7 (vs := [_, _]) aD.out (hh.ax (i := 0) (n := 2) rfl rfl) rfl) (cU (dR rfl) bx)) ?_
  exact ⟨FX.nil, .err h0, rfl, (hh.sub (List.nil_sublist _)).n5⟩
theorem vG (f : FX) (E : Option Addr) (q cE k : Nat) (es : List Int) (w : World) (hf : f.at_ w) (hl : f.gJ k) (hE : Sl w E q 1 (bA es)) (hq : q ≤ 1000) (hk : k ≤ 90000) :
  Calls Tryz.prog 24 #[.agg #[.slice f.A f.n f.a, .slice f.B f.m f.b], .slice E q cE] w fun r w' => ∃ (g : FX) (R : List HE), Out (gK f es) (es.map Int.toNat) (fQ (es.map Int.toNat) f) g ∧ Kept [f] R g ∧ r = .returned (.tuple #[.agg #[.slice g.A g.n g.a, .slice g.B g.m g.b], .int .i64 (gK f es)]) ∧ Hp w R w' := by
 have hln := hE.1
 rw [bK] at hln
 unfold gK
 refine (tn f E q cE k es w hf hl hE hq hk).mono fun r w' h => ?_
 have nil : Kept [f] [FX.nil.dZ, FX.nil.dV] FX.nil := .inr ⟨List.mem_cons_self, List.mem_cons_of_mem _ List.mem_cons_self⟩
 rcases h with ⟨⟨h, rfl⟩ | ⟨h0, h1, rfl⟩, hb⟩ | ⟨h0, h1, g, R, hg, hs, rfl, h2⟩
 ·rw [if_pos h]
  exact ⟨FX.nil, _, .err h, nil, rfl, ((Hp.start w).ext hb).n5⟩
 ·rw [if_neg (by omega)]
  exact ⟨FX.nil, _, .err h1, nil, rfl, ((Hp.start w).ext hb).n5⟩
 ·rw [if_neg (by omega), h1]
  refine ⟨g, R, hg.out (by rw [List.length_map]; omega) ?_, ?_, rfl, h2⟩
  ·unfold j5 at h1
   split at h1
   ·cases h1
   split at h1
   ·cases h1
   split at h1
   ·cases h1
   omega
  ·rcases hs with rfl | rfl
   ·exact .inl List.mem_cons_self
   ·exact .inr ⟨List.mem_cons_self, List.mem_cons_of_mem _ List.mem_cons_self⟩
end Go.Proofs.YtioilmppidlbnaaGreatDoor
/- The walks through ogeelaw14's own helpers: what is more than is reckoned with. -/
namespace Go.Proofs.YtioilmppidlbnaaGreatDoor
open Go.RowKit
def pn (a : NR) : Bool := decide ((8 : Int) < a.ct.size ∨ a.e < -60 ∨ 60 < a.e)
theorem nB (a : NR) (w : World) :
  Calls Tryz.prog 22 #[.agg #[.bool a.neg, .string a.ct, .int .i64 a.e]] w fun r w' => r = .returned (.bool (pn a)) ∧ Below w.heap.size w w' := by
 have hh := Hp.start w
 by_cases h1 : (8 : Int) < a.ct.size
 ·refine al (N := 18) (l := [.agg #[.bool a.neg, .string a.ct, .int .i64 a.e]]) Tryz.func22 rfl rfl (by simp) ?_
  refine sr ?_
  refine cS hh [_,_,_] ?_
  intro b1 w1 hh
  refine aB (aa (sr (bJ (bJ ?_))))
  refine bO hh 0 ?_
  refine cV aG.out rfl (by decide) ?_
  refine bT (mB ?_)
  first | refine gS ?_ | (refine gT ?_; refine bJ ?_) | refine gV ?_
  first | refine gS ?_ | (refine gT ?_; refine bO hh 0 ?_) | refine gV ?_
  first | refine gS ?_ | (refine gT ?_; refine aJ ?_) | refine gV ?_
  first | refine cQ ?_ | refine cP ?_
  refine mB ?_
  first | refine gS ?_ | (refine gT ?_; refine bJ ?_) | refine gV ?_
  first | refine gS ?_ | (refine gT ?_; refine bO hh 0 ?_) | refine gV ?_
  first | refine gS ?_ | (refine gT ?_; refine bT ?_) | refine gV ?_
  first | refine cQ ?_ | refine cP ?_
  refine aB (aa (aq ?_))
  refine cu ?_
  refine ⟨?_, hh.below⟩
  unfold pn
  rw [decide_eq_true (.inl h1)]
 ·by_cases h2 : a.e < -60
  ·refine al (N := 18) (l := [.agg #[.bool a.neg, .string a.ct, .int .i64 a.e]]) Tryz.func22 rfl rfl (by simp) ?_
   refine sr ?_
   refine cS hh [_,_,_] ?_
   intro b1 w1 hh
   refine aB (aa (sr (bJ (bJ ?_))))
   refine bO hh 0 ?_
   refine cV aG.out rfl (by decide) ?_
   refine bT (mB ?_)
   first | refine gS ?_ | (refine gT ?_; refine bJ ?_) | refine gV ?_
   first | refine gS ?_ | (refine gT ?_; refine bO hh 0 ?_) | refine gV ?_
   first | refine gS ?_ | (refine gT ?_; refine aJ ?_) | refine gV ?_
   first | refine cQ ?_ | refine cP ?_
   refine mB ?_
   first | refine gS ?_ | (refine gT ?_; refine bJ ?_) | refine gV ?_
   first | refine gS ?_ | (refine gT ?_; refine bO hh 0 ?_) | refine gV ?_
   first | refine gS ?_ | (refine gT ?_; refine bT ?_) | refine gV ?_
   first | refine cQ ?_ | refine cP ?_
   refine aB (aa (aq ?_))
   refine cu ?_
   refine ⟨?_, hh.below⟩
   unfold pn
   rw [decide_eq_true (.inr (.inl h2))]
  ·by_cases h3 : 60 < a.e
   ·refine al (N := 18) (l := [.agg #[.bool a.neg, .string a.ct, .int .i64 a.e]]) Tryz.func22 rfl rfl (by simp) ?_
    refine sr ?_
    refine cS hh [_,_,_] ?_
    intro b1 w1 hh
    refine aB (aa (sr (bJ (bJ ?_))))
    refine bO hh 0 ?_
    refine cV aG.out rfl (by decide) ?_
    refine bT (mB ?_)
    first | refine gS ?_ | (refine gT ?_; refine bJ ?_) | refine gV ?_
    first | refine gS ?_ | (refine gT ?_; refine bO hh 0 ?_) | refine gV ?_
    first | refine gS ?_ | (refine gT ?_; refine aJ ?_) | refine gV ?_
    first | refine cQ ?_ | refine cP ?_
    refine mB ?_
    first | refine gS ?_ | (refine gT ?_; refine bJ ?_) | refine gV ?_
    first | refine gS ?_ | (refine gT ?_; refine bO hh 0 ?_) | refine gV ?_
    first | refine gS ?_ | (refine gT ?_; refine bT ?_) | refine gV ?_
    first | refine cQ ?_ | refine cP ?_
    refine aB (aa (aq ?_))
    refine cu ?_
    refine ⟨?_, hh.below⟩
    unfold pn
    rw [decide_eq_true (.inr (.inr h3))]
   ·refine al (N := 18) (l := [.agg #[.bool a.neg, .string a.ct, .int .i64 a.e]]) Tryz.func22 rfl rfl (by simp) ?_
    refine sr ?_
    refine cS hh [_,_,_] ?_
    intro b1 w1 hh
    refine aB (aa (sr (bJ (bJ ?_))))
    refine bO hh 0 ?_
    refine cV aG.out rfl (by decide) ?_
    refine bT (mB ?_)
    first | refine gS ?_ | (refine gT ?_; refine bJ ?_) | refine gV ?_
    first | refine gS ?_ | (refine gT ?_; refine bO hh 0 ?_) | refine gV ?_
    first | refine gS ?_ | (refine gT ?_; refine aJ ?_) | refine gV ?_
    first | refine cQ ?_ | refine cP ?_
    refine mB ?_
    first | refine gS ?_ | (refine gT ?_; refine bJ ?_) | refine gV ?_
    first | refine gS ?_ | (refine gT ?_; refine bO hh 0 ?_) | refine gV ?_
    first | refine gS ?_ | (refine gT ?_; refine bT ?_) | refine gV ?_
    first | refine cQ ?_ | refine cP ?_
    refine aB (aa (aq ?_))
    refine cu ?_
    refine ⟨?_, hh.below⟩
    unfold pn
    rw [decide_eq_false (by omega)]
theorem zF {a : NR} (h : pn a = false) : a.ok ∧ Sz 124 a.d := by
 have h' := of_decide_eq_false h
 have h1 : (a.ct.size : Int) ≤ 8 := by omega
 have h2 : -60 ≤ a.e := by omega
 have h3 : a.e ≤ 60 := by omega
 exact ⟨⟨by omega, by omega, by omega⟩, Sz.raw (m := 64) (E := 60) (by omega) h2 h3⟩
def FX.small (f : FX) : Prop := f.gJ 124 ∧ f.m ≤ 60 ∧ f.n ≤ 20
theorem kL (f : FX) (w : World) (hf : f.at_ w) :
  Calls Tryz.prog 20 #[.agg #[.slice f.A f.n f.a, .slice f.B f.m f.b]] w fun r w' => ∃ b : Bool, r = .returned (.bool b) ∧ (b = false → f.small) ∧ Below w.heap.size w w' := by
 have hh := Hp.start w
 have hl1 := hf.ln.1
 have hl2 := hf.ln.2
 by_cases h1 : 20 < f.n
 ·refine al (N := 49) (l := [.agg #[.slice f.A f.n f.a, .slice f.B f.m f.b]]) Tryz.func20 rfl rfl (by simp) ?_
  refine sr ?_
  refine cS hh [_,_] ?_
  intro b1 w1 hh
  refine aB (aa (ah (sr (bJ ?_))))
  refine bO hh 0 ?_
  refine aV ?_
  refine bT (mB ?_)
  first | refine gS ?_ | (refine gT ?_; refine bJ ?_) | refine gV ?_
  first | refine gS ?_ | (refine gT ?_; refine bO hh 0 ?_) | refine gV ?_
  first | refine gS ?_ | (refine gT ?_; refine aV ?_) | refine gV ?_
  first | refine gS ?_ | (refine gT ?_; refine bT ?_) | refine gV ?_
  first | refine cQ ?_ | refine cP ?_
  refine aa ?_
  refine cT (sr (aB (aa (aq (aH ?_)))))
  refine cu ?_
  exact ⟨_, rfl, fun h => (by cases h), hh.below⟩
 ·by_cases h2 : 60 < f.m
  ·refine al (N := 49) (l := [.agg #[.slice f.A f.n f.a, .slice f.B f.m f.b]]) Tryz.func20 rfl rfl (by simp) ?_
   refine sr ?_
   refine cS hh [_,_] ?_
   intro b1 w1 hh
   refine aB (aa (ah (sr (bJ ?_))))
   refine bO hh 0 ?_
   refine aV ?_
   refine bT (mB ?_)
   first | refine gS ?_ | (refine gT ?_; refine bJ ?_) | refine gV ?_
   first | refine gS ?_ | (refine gT ?_; refine bO hh 0 ?_) | refine gV ?_
   first | refine gS ?_ | (refine gT ?_; refine aV ?_) | refine gV ?_
   first | refine gS ?_ | (refine gT ?_; refine bT ?_) | refine gV ?_
   first | refine cQ ?_ | refine cP ?_
   refine aa ?_
   refine cT (sr (aB (aa (aq (aH ?_)))))
   refine cu ?_
   exact ⟨_, rfl, fun h => (by cases h), hh.below⟩
  ·refine al (N := 49) (l := [.agg #[.slice f.A f.n f.a, .slice f.B f.m f.b]]) Tryz.func20 rfl rfl (by simp) ?_
   refine sr ?_
   refine cS hh [_,_] ?_
   intro b1 w1 hh
   refine aB (aa (ah (sr (bJ ?_))))
   refine bO hh 0 ?_
   refine aV ?_
   refine bT (mB ?_)
   first | refine gS ?_ | (refine gT ?_; refine bJ ?_) | refine gV ?_
   first | refine gS ?_ | (refine gT ?_; refine bO hh 0 ?_) | refine gV ?_
   first | refine gS ?_ | (refine gT ?_; refine aV ?_) | refine gV ?_
   first | refine gS ?_ | (refine gT ?_; refine bT ?_) | refine gV ?_
   first | refine cQ ?_ | refine cP ?_
   refine aa ?_
   refine cF (ak (ai (ah (sr (aI (aa (aj ?_)))))))
   refine bq [2, 3, 15, 16, 17, 18, 19, 20, 21, 22, 23, 24, 25, 26, 27] 3
    (fun v w' => ∃ i : Nat, i ≤ f.m ∧ v = .int .i64 i ∧ (∀ x ∈ f.cs.take i, pn x = false) ∧ Hp w [.blk b1 28 [.slice f.A f.n f.a, .slice f.B f.m f.b] (0, 0)] w')
    (fun v _ => f.m - (intOf v).toNat) ?_ ?_
   ·exact ⟨0, Nat.zero_le _, rfl, fun x hx => (by simp at hx), hh⟩
   ·clear hh
    rintro ρ' v w' ⟨i, hi, rfl, hall, hh⟩
    by_cases hlt : i < f.m
    ·obtain ⟨x, hx⟩ := au (l := f.cs) (k := i) (by omega)
     obtain ⟨a2, hA2, s2⟩ := hf.nm.at_ (by omega)
     have hev : Value.slice f.B f.m f.b = .slice (some a2) f.m f.b := by rw [hA2]
     have hc := fun w1 => nB x w1
     cases hb : pn x with
     | true =>
      rw [hb] at hc
      refine ah (sr (mI (bJ ?_)))
      refine bO hh 0 ?_
      refine aV ?_
      refine aJ (aa (cT (ak (ai (ah (aj (sr (bJ ?_))))))))
      refine bO hh 0 ?_
      refine mI ?_
      refine aF (k := i) aG.out aD.size hev rfl (by omega) (by omega) (by decide) ?_
      refine cK (vs := [_, _, _]) aD.out rfl ((s2.ext hh.below).recAt NR.len hx) rfl (by decide) ?_
      refine bH hh (hc _) rfl ?_
      intro w27 hh
      refine aa (cT (sr (aB (aa (aq (bM (aH (aH (bM (aH ?_))))))))))
      refine cu ?_
      exact ⟨_, rfl, fun h => (by cases h), hh.below⟩
     | false =>
      rw [hb] at hc
      refine ah (sr (mI (bJ ?_)))
      refine bO hh 0 ?_
      refine aV ?_
      refine aJ (aa (cT (ak (ai (ah (aj (sr (bJ ?_))))))))
      refine bO hh 0 ?_
      refine mI ?_
      refine aF (k := i) aG.out aD.size hev rfl (by omega) (by omega) (by decide) ?_
      refine cK (vs := [_, _, _]) aD.out rfl ((s2.ext hh.below).recAt NR.len hx) rfl (by decide) ?_
      refine bH hh (hc _) rfl ?_
      intro w27 hh
      refine aa (cF (ak (aZ (ai (ao (mI ?_))))))
      refine bu (aI (aE (ai ?_)))
      refine ⟨⟨i + 1, by omega, rfl, fun y hy => ?_, hh⟩, by show f.m - (i + 1) < f.m - i; omega, ?_⟩
      ·rw [aO hx, List.mem_append, List.mem_singleton] at hy
       rcases hy with hy | rfl
       ·exact hall y hy
       ·exact hb
      ·(repeat (first | exact av _ _ _ | refine aC rfl ?_ | refine ar rfl ?_))
    ·rw [List.take_of_length_le (by omega)] at hall
     have hfin : f.small := ⟨⟨by omega, by omega, fun c hc => zF (hall c hc)⟩, by omega, by omega⟩
     clear hall
     refine ah (sr (mI (bJ ?_)))
     refine bO hh 0 ?_
     refine aV ?_
     refine aJ (aa (cF ?_))
     refine aP ?_
     refine aw (aw (bj (ai (ah (sr (aI (aa (aj ?_))))))))
     refine bq [2, 4, 28, 29, 30, 31, 32, 33, 34, 35, 36, 37, 38, 39, 40, 41, 42, 43, 44, 45, 46, 47, 48] 4
      (fun v w' => ∃ i : Nat, i ≤ f.n ∧ v = .int .i64 i ∧ Hp w [.blk b1 28 [.slice f.A f.n f.a, .slice f.B f.m f.b] (0, 0)] w')
      (fun v _ => f.n - (intOf v).toNat) ?_ ?_
     ·exact ⟨0, Nat.zero_le _, rfl, hh⟩
     ·clear hh
      rintro ρ2 v w2 ⟨j, hj, rfl, hh⟩
      by_cases hlt2 : j < f.n
      ·obtain ⟨d, hd⟩ := au (l := f.ds) (k := j) (by omega)
       have hgd := bG hd
       obtain ⟨a1, hA1, s1⟩ := hf.dg.at_ (by omega)
       have hev : Value.slice f.A f.n f.a = .slice (some a1) f.n f.a := by rw [hA1]
       by_cases h6 : 6 < d
       ·by_cases h128 : d < 128
        ·refine ah (sr (mI (bJ ?_)))
         refine bO hh 0 ?_
         refine aV ?_
         refine aJ (aa (cT (ak (ai (ah (aj (sr (bJ ?_))))))))
         refine bO hh 0 ?_
         refine mI ?_
         refine aF (k := j) aG.out aD.size hev rfl (by omega) (by omega) (by decide) ?_
         refine aM aD.out rfl ((s1.ext hh.below).ea hgd) (by decide) ?_
         refine bT (mB ?_)
         first | refine gS ?_ | (refine gT ?_; refine bJ ?_) | refine gV ?_
         first | refine gS ?_ | (refine gT ?_; refine bO hh 0 ?_) | refine gV ?_
         first | refine gS ?_ | (refine gT ?_; refine mI ?_) | refine gV ?_
         first | refine gS ?_ | (refine gT ?_; refine aF (k := j) aG.out aD.size hev rfl (by omega) (by omega) (by decide) ?_) | refine gV ?_
         refine aR rfl rfl ?_
         refine aM aD.out rfl ((s1.ext hh.below).ea hgd) (by decide) ?_
         first | refine gS ?_ | (refine gT ?_; refine aJ ?_) | refine gV ?_
         first | refine cQ ?_ | refine cP ?_
         refine aa (cT (sr (aB (aa (aq (bM (aH (aH (bM (aH ?_))))))))))
         refine cu ?_
         exact ⟨_, rfl, fun h => (by cases h), hh.below⟩
        ·refine ah (sr (mI (bJ ?_)))
         refine bO hh 0 ?_
         refine aV ?_
         refine aJ (aa (cT (ak (ai (ah (aj (sr (bJ ?_))))))))
         refine bO hh 0 ?_
         refine mI ?_
         refine aF (k := j) aG.out aD.size hev rfl (by omega) (by omega) (by decide) ?_
         refine aM aD.out rfl ((s1.ext hh.below).ea hgd) (by decide) ?_
         refine bT (mB ?_)
         first | refine gS ?_ | (refine gT ?_; refine bJ ?_) | refine gV ?_
         first | refine gS ?_ | (refine gT ?_; refine bO hh 0 ?_) | refine gV ?_
         first | refine gS ?_ | (refine gT ?_; refine mI ?_) | refine gV ?_
         first | refine gS ?_ | (refine gT ?_; refine aF (k := j) aG.out aD.size hev rfl (by omega) (by omega) (by decide) ?_) | refine gV ?_
         refine aR rfl rfl ?_
         refine aM aD.out rfl ((s1.ext hh.below).ea hgd) (by decide) ?_
         first | refine gS ?_ | (refine gT ?_; refine aJ ?_) | refine gV ?_
         first | refine cQ ?_ | refine cP ?_
         refine aa (cF (ak (aZ (ai (ao (mI ?_))))))
         refine bu (aI (aE (ai ?_)))
         refine ⟨⟨j + 1, by omega, rfl, hh⟩, by show f.n - (j + 1) < f.n - j; omega, ?_⟩
         (repeat (first | exact av _ _ _ | refine aC rfl ?_ | refine ar rfl ?_))
       ·refine ah (sr (mI (bJ ?_)))
        refine bO hh 0 ?_
        refine aV ?_
        refine aJ (aa (cT (ak (ai (ah (aj (sr (bJ ?_))))))))
        refine bO hh 0 ?_
        refine mI ?_
        refine aF (k := j) aG.out aD.size hev rfl (by omega) (by omega) (by decide) ?_
        refine aM aD.out rfl ((s1.ext hh.below).ea hgd) (by decide) ?_
        refine bT (mB ?_)
        first | refine gS ?_ | (refine gT ?_; refine bJ ?_) | refine gV ?_
        first | refine gS ?_ | (refine gT ?_; refine bO hh 0 ?_) | refine gV ?_
        first | refine gS ?_ | (refine gT ?_; refine mI ?_) | refine gV ?_
        first | refine gS ?_ | (refine gT ?_; refine cD aG.out aD.size rfl rfl (by omega) (by omega) (by decide) ?_) | refine gV ?_
        first | (refine bB (by decide) rfl rfl (by decide) ?_) | (refine wl_guard_skipV (by decide) rfl rfl ?_)
        first | refine gS ?_ | (refine gT ?_; refine aJ ?_) | refine gV ?_
        first | refine cQ ?_ | refine cP ?_
        refine aa (cF (ak (aZ (ai (ao (mI ?_))))))
        refine bu (aI (aE (ai ?_)))
        refine ⟨⟨j + 1, by omega, rfl, hh⟩, by show f.n - (j + 1) < f.n - j; omega, ?_⟩
        (repeat (first | exact av _ _ _ | refine aC rfl ?_ | refine ar rfl ?_))
      ·refine ah (sr (mI (bJ ?_)))
       refine bO hh 0 ?_
       refine aV ?_
       refine aJ (aa (cF ?_))
       refine aP ?_
       refine aw (aw (bj (ai (sr (aB (aa (aq ?_)))))))
       refine cu ?_
       exact ⟨_, rfl, fun _ => hfin, hh.below⟩
theorem kS (A : Option Addr) (n c : Nat) (ds : List Int) (w : World) (hS : Sl w A n 1 (bA ds)) :
  Calls Tryz.prog 21 #[.slice A n c] w fun r w' => ∃ b : Bool, r = .returned (.bool b) ∧ (b = false → n ≤ 20) ∧ Below w.heap.size w w' := by
 have hh := Hp.start w
 have hln : ds.length = n := by have := hS.1; simpa [bA] using this
 by_cases h1 : 20 < n
 ·refine al (N := 38) (l := [.slice A n c]) Tryz.func21 rfl rfl (by simp) ?_
  refine sr (aB (aa (ah (sr (mL (aV ?_))))))
  refine bT (aa (cT (sr (aB (aa (aq (aH ?_)))))))
  refine cu ?_
  exact ⟨_, rfl, fun h => (by cases h), hh.below⟩
 ·have hc := fun w1 hb => eu A n c ds w1 (hS.ext hb) (by omega)
  generalize jD ds = q at *
  refine al (N := 38) (l := [.slice A n c]) Tryz.func21 rfl rfl (by simp) ?_
  refine sr (aB (aa (ah (sr (mL (aV ?_))))))
  refine bT (aa (cF (ak (ai (sr (mL ?_))))))
  refine bH hh (hc _ hh.below) rfl ?_
  intro w9 hh
  refine aI (aa (ah (sr (aI (aa (aj ?_))))))
  refine bq [2, 4, 10, 11, 12, 13, 14, 15, 16, 17, 18, 19, 20, 21, 22, 23, 24, 25, 26, 27, 28, 29, 30, 31] 4
   (fun v w' => ∃ i : Nat, i ≤ n ∧ v = .int .i64 i ∧ Hp w [] w')
   (fun v _ => n - (intOf v).toNat) ?_ ?_
  ·exact ⟨0, Nat.zero_le _, rfl, hh⟩
  ·clear hh
   rintro ρ2 v w2 ⟨j, hj, rfl, hh⟩
   by_cases hlt : j < n
   ·obtain ⟨d, hd⟩ := au (l := ds) (k := j) (by omega)
    have hgd := bG hd
    obtain ⟨a1, rfl, hr⟩ := hS.at_ (by omega)
    by_cases h6 : 8 < d
    ·by_cases h128 : d < 128
     ·by_cases h4 : q ≤ 4096
      ·refine ah (sr (mI (mL (aV ?_))))
       refine aJ (aa (cT (ak (ai (ah (aj (sr (mL (mI ?_)))))))))
       refine aF (k := j) aG.out aD.size rfl rfl (by omega) (by omega) (by decide) ?_
       refine aM aD.out rfl ((hr.ext hh.below).ea (by assumption)) (by decide) ?_
       refine bT (mB ?_)
       first | refine gS ?_ | (refine gT ?_; refine mL ?_) | refine gV ?_
       first | refine gS ?_ | (refine gT ?_; refine mI ?_) | refine gV ?_
       first | refine gS ?_ | (refine gT ?_; refine aF (k := j) aG.out aD.size rfl rfl (by omega) (by omega) (by decide) ?_) | refine gV ?_
       first | refine gS ?_ | (refine gT ?_; refine aM aD.out rfl ((hr.ext hh.below).ea (by assumption)) (by decide) ?_) | refine gV ?_
       first | refine gS ?_ | (refine gT ?_; refine aJ ?_) | refine gV ?_
       first | refine cQ ?_ | refine cP ?_
       refine mB ?_
       first | refine gS ?_ | (refine gT ?_; refine mI ?_) | refine gV ?_
       first | refine gS ?_ | (refine gT ?_; refine nC ?_) | refine gV ?_
       first | refine cQ ?_ | refine cP ?_
       refine aa ?_
       refine cT (sr (aB (aa (aq (bM (aH (aH (bM (aH ?_)))))))))
       refine cu ?_
       exact ⟨_, rfl, fun h => (by cases h), hh.below⟩
      ·refine ah (sr (mI (mL (aV ?_))))
       refine aJ (aa (cT (ak (ai (ah (aj (sr (mL (mI ?_)))))))))
       refine aF (k := j) aG.out aD.size rfl rfl (by omega) (by omega) (by decide) ?_
       refine aM aD.out rfl ((hr.ext hh.below).ea (by assumption)) (by decide) ?_
       refine bT (mB ?_)
       first | refine gS ?_ | (refine gT ?_; refine mL ?_) | refine gV ?_
       first | refine gS ?_ | (refine gT ?_; refine mI ?_) | refine gV ?_
       first | refine gS ?_ | (refine gT ?_; refine aF (k := j) aG.out aD.size rfl rfl (by omega) (by omega) (by decide) ?_) | refine gV ?_
       first | refine gS ?_ | (refine gT ?_; refine aM aD.out rfl ((hr.ext hh.below).ea (by assumption)) (by decide) ?_) | refine gV ?_
       first | refine gS ?_ | (refine gT ?_; refine aJ ?_) | refine gV ?_
       first | refine cQ ?_ | refine cP ?_
       refine mB ?_
       first | refine gS ?_ | (refine gT ?_; refine mI ?_) | refine gV ?_
       first | refine gS ?_ | (refine gT ?_; refine nC ?_) | refine gV ?_
       first | refine cQ ?_ | refine cP ?_
       refine aa ?_
       refine cF (ak (aZ (ai (ao (mI ?_)))))
       refine bu (aI (aE (ai ?_)))
       refine ⟨⟨j + 1, by omega, rfl, hh⟩, by show n - (j + 1) < n - j; omega, ?_⟩
       (repeat (first | exact av _ _ _ | refine aC rfl ?_ | refine ar rfl ?_))
     ·refine ah (sr (mI (mL (aV ?_))))
      refine aJ (aa (cT (ak (ai (ah (aj (sr (mL (mI ?_)))))))))
      refine aF (k := j) aG.out aD.size rfl rfl (by omega) (by omega) (by decide) ?_
      refine aM aD.out rfl ((hr.ext hh.below).ea (by assumption)) (by decide) ?_
      refine bT (mB ?_)
      first | refine gS ?_ | (refine gT ?_; refine mL ?_) | refine gV ?_
      first | refine gS ?_ | (refine gT ?_; refine mI ?_) | refine gV ?_
      first | refine gS ?_ | (refine gT ?_; refine aF (k := j) aG.out aD.size rfl rfl (by omega) (by omega) (by decide) ?_) | refine gV ?_
      first | refine gS ?_ | (refine gT ?_; refine aM aD.out rfl ((hr.ext hh.below).ea (by assumption)) (by decide) ?_) | refine gV ?_
      first | refine gS ?_ | (refine gT ?_; refine aJ ?_) | refine gV ?_
      first | refine cQ ?_ | refine cP ?_
      refine mB ?_
      first | refine gS ?_ | (refine gT ?_; refine mI ?_) | refine gV ?_
      first | refine gS ?_ | (refine gT ?_; refine nC ?_) | refine gV ?_
      first | refine cQ ?_ | refine cP ?_
      refine aa ?_
      refine cF (ak (aZ (ai (ao (mI ?_)))))
      refine bu (aI (aE (ai ?_)))
      refine ⟨⟨j + 1, by omega, rfl, hh⟩, by show n - (j + 1) < n - j; omega, ?_⟩
      (repeat (first | exact av _ _ _ | refine aC rfl ?_ | refine ar rfl ?_))
    ·refine ah (sr (mI (mL (aV ?_))))
     refine aJ (aa (cT (ak (ai (ah (aj (sr (mL (mI ?_)))))))))
     refine aF (k := j) aG.out aD.size rfl rfl (by omega) (by omega) (by decide) ?_
     refine aM aD.out rfl ((hr.ext hh.below).ea (by assumption)) (by decide) ?_
     refine bT (mB ?_)
     first | refine gS ?_ | (refine gT ?_; refine mL ?_) | refine gV ?_
     first | refine gS ?_ | (refine gT ?_; refine mI ?_) | refine gV ?_
     first | refine gS ?_ | (refine gT ?_; refine aF (k := j) aG.out aD.size rfl rfl (by omega) (by omega) (by decide) ?_) | refine gV ?_
     first | refine gS ?_ | (refine gT ?_; refine aM aD.out rfl ((hr.ext hh.below).ea (by assumption)) (by decide) ?_) | refine gV ?_
     first | refine gS ?_ | (refine gT ?_; refine aJ ?_) | refine gV ?_
     first | refine cQ ?_ | refine cP ?_
     refine mB ?_
     first | refine gS ?_ | (refine gT ?_; refine mI ?_) | refine gV ?_
     first | refine gS ?_ | (refine gT ?_; refine nC ?_) | refine gV ?_
     first | refine cQ ?_ | refine cP ?_
     refine aa ?_
     refine cF (ak (aZ (ai (ao (mI ?_)))))
     refine bu (aI (aE (ai ?_)))
     refine ⟨⟨j + 1, by omega, rfl, hh⟩, by show n - (j + 1) < n - j; omega, ?_⟩
     (repeat (first | exact av _ _ _ | refine aC rfl ?_ | refine ar rfl ?_))
   ·by_cases h3 : 300 < q
    ·refine ah (sr (mI (mL (aV ?_))))
     refine aJ (aa (cF ?_))
     refine aP ?_
     refine aw (aw (bj (ai (sr (mI ?_)))))
     refine bT (mB ?_)
     first | refine gS ?_ | (refine gT ?_; refine mI ?_) | refine gV ?_
     first | refine gS ?_ | (refine gT ?_; refine nC ?_) | refine gV ?_
     first | refine cQ ?_ | refine cP ?_
     refine aB (aa (aq ?_))
     refine cu ?_
     exact ⟨_, rfl, fun _ => by omega, hh.below⟩
    ·refine ah (sr (mI (mL (aV ?_))))
     refine aJ (aa (cF ?_))
     refine aP ?_
     refine aw (aw (bj (ai (sr (mI ?_)))))
     refine bT (mB ?_)
     first | refine gS ?_ | (refine gT ?_; refine mI ?_) | refine gV ?_
     first | refine gS ?_ | (refine gT ?_; refine nC ?_) | refine gV ?_
     first | refine cQ ?_ | refine cP ?_
     refine aB (aa (aq ?_))
     refine cu ?_
     exact ⟨_, rfl, fun _ => by omega, hh.below⟩
theorem qy (L : Option Addr) (n c : Nat) (fs : List FX) (w : World) (hL : Sl w L n 2 (bR FX.cells fs)) (hf : ∀ f ∈ fs, f.at_ w) :
  Calls Tryz.prog 12 #[.slice L n c] w fun r w' => ∃ b : Bool, r = .returned (.bool b) ∧ (b = false → n ≤ 3 ∧ ∀ f ∈ fs, f.small) ∧ Below w.heap.size w w' := by
 have hh := Hp.start w
 have hln := hL.di FX.len (by decide)
 by_cases h1 : 3 < n
 ·refine al (N := 62) (l := [.slice L n c]) Tryz.func12 rfl rfl (by simp) ?_
  refine sr (aB (aa (ah (sr (mL (aV ?_))))))
  refine bT (aa (cT (sr (aB (aa (aq (aH ?_)))))))
  refine cu ?_
  exact ⟨_, rfl, fun h => (by cases h), hh.below⟩
 ·refine al (N := 62) (l := [.slice L n c]) Tryz.func12 rfl rfl (by simp) ?_
  refine sr (aB (aa (ah (sr (mL (aV ?_))))))
  refine bT (aa (cF (ak (ai (ah (sr (aI (aa (aj ?_)))))))))
  refine bq [2, 3, 10, 11, 12, 13, 14, 15, 16, 17, 18, 19, 20] 3
   (fun v w' => ∃ i : Nat, i ≤ n ∧ v = .int .i64 i ∧ (∀ f ∈ fs.take i, f.small) ∧ Hp w [] w')
   (fun v _ => n - (intOf v).toNat) ?_ ?_
  ·exact ⟨0, Nat.zero_le _, rfl, fun x hx => (by simp at hx), hh⟩
  ·clear hh
   rintro ρ' v w' ⟨i, hi, rfl, hall, hh⟩
   by_cases hlt : i < n
   ·obtain ⟨f, hx⟩ := au (l := fs) (k := i) (by omega)
    have hmem := List.mem_of_getElem? hx
    have hc := fun w1 hb => kL f w1 ((hf f hmem).ext hb)
    obtain ⟨ad, rfl, hr⟩ := hL.at_ (by omega)
    refine ah (sr (mI (mL (aV ?_))))
    refine aJ (aa (cT (ak (ai (ah (aj (sr (mL (mI ?_)))))))))
    refine aF (k := i) aG.out aD.size rfl rfl (by omega) (by omega) (by decide) ?_
    refine cK (vs := [_, _]) aD.out rfl ((hr.ext hh.below).recAt FX.len hx) rfl (by decide) ?_
    refine aT (hc _ hh.below) az.out rfl (by decide) ?_
    rintro e_ w20 ⟨b, rfl, hb, hb_⟩
    refine ⟨_, rfl, ?_⟩
    replace hh := hh.ext hb_
    cases b with
    | true =>
     refine aa (cT (sr (aB (aa (aq (bM (aH (aH (bM (aH ?_))))))))))
     refine cu ?_
     exact ⟨_, rfl, fun h => (by cases h), hh.below⟩
    | false =>
     have hb := hb rfl
     refine aa (cF (ak (aZ (ai (ao (mI ?_))))))
     refine bu (aI (aE (ai ?_)))
     refine ⟨⟨i + 1, by omega, rfl, fun y hy => ?_, hh⟩, by show n - (i + 1) < n - i; omega, ?_⟩
     ·rw [aO hx, List.mem_append, List.mem_singleton] at hy
      rcases hy with hy | rfl
      ·exact hall y hy
      ·exact hb
     ·(repeat (first | exact av _ _ _ | refine aC rfl ?_ | refine ar rfl ?_))
   ·rw [List.take_of_length_le (by omega)] at hall
    refine ah (sr (mI (mL (aV ?_))))
    refine aJ (aa (cF ?_))
    refine aP ?_
    refine aw (aw (bj (ai (sr (aL (aa (ah (sr (aI (aa (aj ?_)))))))))))
    replace hh := hh.ed 3 1
    refine bY [4, 5, 6, 21, 22, 23, 24, 25, 26, 27, 28, 29, 30, 31, 32, 33, 34, 35, 36, 37, 38, 39, 40, 41, 42, 43, 44, 45, 46, 47, 48, 49, 50, 51, 52, 53, 54, 55, 56, 57, 58, 59] 4 5
     (fun v4 v w' => ∃ (i m c4 : Nat) (A : Option Addr) (ds : List Int), i ≤ n ∧ v = .int .i64 i ∧ v4 = .slice A m c4 ∧ m ≤ 20 ∧ ds.length = m ∧ Hp w [.row A m c4 3 1 (bA ds)] w')
     (fun _ v _ => n - (intOf v).toNat) ?_ ?_
    ·exact ⟨0, 0, 0, none, [], Nat.zero_le _, rfl, rfl, by omega, rfl, hh⟩
    ·clear hh
     rintro ρ2 v4 v w2 ⟨i, m, c4, A, ds, hi, rfl, rfl, hm, hdl, hh⟩
     by_cases hlt2 : i < n
     ·obtain ⟨fo, hx⟩ := au (l := fs) (k := i) (by omega)
      have hmem := List.mem_of_getElem? hx
      have hfn := (hall fo hmem).2.2
      have hl1 := (hf fo hmem).ln.1
      obtain ⟨ad, rfl, hr⟩ := hL.at_ (by omega)
      refine ah (sr (mI (mL (aV ?_))))
      refine aJ (aa (cT (ak (ai (ah (aj (sr (aI (aa (aj ?_))))))))))
      refine bY [4, 6, 27, 28, 29, 30, 31, 32, 33, 34, 35, 36, 37, 38, 39, 40, 41, 42, 43, 44, 45, 46, 47, 48, 49, 50, 51, 52, 53, 54, 55, 56, 57, 58, 59] 4 6
       (fun v4 v w' => ∃ (k m c4 : Nat) (A : Option Addr) (ds : List Int), k ≤ fo.n ∧ k ≤ m ∧ v = .int .i64 k ∧ v4 = .slice A m c4 ∧ m ≤ 20 ∧ ds.length = m ∧ Hp w [.row A m c4 3 1 (bA ds)] w')
       (fun _ v _ => fo.n - (intOf v).toNat) ?_ ?_
      ·exact ⟨0, m, c4, A, ds, Nat.zero_le _, Nat.zero_le _, rfl, rfl, hm, hdl, hh⟩
      ·clear hh hdl hm
       rintro ρ3 v4 v w3 ⟨k, m, c4, A, ds, hk, hkm, rfl, rfl, hm, hdl, hh⟩
       by_cases hkn : k < fo.n
       ·obtain ⟨y, hy⟩ := au (l := fo.ds) (k := k) (by omega)
        have hgy := bG hy
        obtain ⟨a2, hA2, s2⟩ := (hf fo hmem).dg.at_ (by omega)
        have fl : ∀ w1, Below w.heap.size w w1 → w1.cell? ((ad.add (i * 2)).add 0) = some (.slice (some a2) fo.n fo.a) := fun w1 hb => by
         have := cJ hb ((hr.recAt FX.len hx) 0 _ rfl)
         rwa [hA2] at this
        refine ah (sr (mI (mL (mI ?_))))
        refine aF (k := i) aG.out aD.size rfl rfl (by omega) (by omega) (by decide) ?_
        refine gB eE.out rfl (by decide) ?_
        refine aM aD.out rfl (fl _ hh.below) (by decide) ?_
        by_cases hkl : k = m
        ·refine aV ?_
         refine aJ (aa (cT (ak (ai (ah (aj (ah (sr (mI (mL (aV ?_)))))))))))
         refine dN (aa (cT (ao (mL ?_))))
         refine aK hh (cs := [_]) aG.out aD.out (aQ rfl bF) rfl rfl (by decide) (by decide) (by decide) rfl (by decide) ?_
         intro b42 w42 hh
         refine cv hh (i := 1) rfl rfl rfl (hh.aW (i := 0) rfl) aG.out aD.out rfl (by decide) (by first | rfl | exact cq _ | exact bX _ | exact bD _ | exact bW NR.one _) (by omega) (by omega) (by decide) ?_
         intro A43 c43 w43 hh
         simp only [List.set_cons_zero, List.set_cons_succ] at hh
         replace hh := hh.sub (List.sublist_cons_self _ _)
         refine aL (aa ?_)
         obtain ⟨gd, rfl⟩ := hh.dw (i := 0) rfl (by omega)
         obtain ⟨es, he1⟩ : ∃ es, bA es = bA ds ++ [.int .i64 0] := ⟨ds ++ [0], by simp [bA]⟩
         have hel0 : es.length = m + 1 := by
          have := congrArg List.length he1
          simpa [bA, hdl] using this
         replace hh : Hp w [.row (some ⟨gd, 0, none⟩) (m + 1) c43 3 1 (bA ds ++ [.int .i64 0])] _ := hh
         rw [← he1] at hh
         obtain ⟨x, hx2⟩ := au (l := es) (k := k) (by omega)
         have hgx := bG hx2
         have hel : (bA es).length = m + 1 := by rw [bK, hel0]
         refine aN 15 [[(4, none)], [(6, none)], [(4, none)], [(6, none)], [(46, some 2), (47, some 3)], [(48, some 4)], [(0, none)], [(5, none)], [(50, some 6), (51, some 7)], [(52, some 8)], [(53, some 9)], [(6, none)], [(54, some 10), (55, some 11)], [(56, some 12)], [(49, some 5), (57, some 13)]] [(14, 58), (13, 57), (12, 56), (11, 55), (10, 54), (9, 53), (8, 52), (7, 51), (6, 50), (5, 49), (4, 48), (3, 47), (2, 46), (1, 45), (0, 44)] hh mixed (by kernel_rfl) ?_
         refine fk ?_
         refine dD ?_
         refine fk ?_
         refine dD ?_
         refine re (k) ?_
         refine aU (i := 5) (fun ρ1 w1 hj hR => cx aD.out (show ρ1 48 = Value.pointer _ from hR.1) (hj.hp.ck (i := 0) rfl (by rw [Nat.mul_one]; exact hgx))) ?_
         refine fk ?_
         refine dD ?_
         refine iK (i) ?_
         refine xZ ?_
         refine jW (fun _ hj => fl _ hj.hp.below) ?_
         refine dD ?_
         refine aU (i := 12) (fun ρ1 w1 hj hR => bI aG.out aD.size (show ρ1 54 = Value.slice _ _ _ from hR.1) (show ρ1 55 = Value.int _ _ from hR.2.1) (by omega) (by omega)) ?_
         refine jW (fun _ hj => (s2.ext hj.hp.below).ea hgy) ?_
         refine aU (i := 14) (fun ρ1 w1 hj hR => ub (show ρ1 49 = Value.int _ _ from hR.1) (show ρ1 57 = Value.int _ _ from hR.2.1)) ?_
         refine bo ?_
         intro f W hJ hV
         have hb_17 := hJ.bl
         obtain ⟨v58, v57, v56, v55, v54, v53, v52, v51, v50, v49, v48, v47, v46, v45, v44, _⟩ := hV
         replace hh := hJ.hp
         refine aY (bm (ae v58 (ae v57 (ae v56 (ae v55 (ae v54 (ae v53 (ae v52 (ae v51 (ae v50 (ae v49 (ae v48 (ae v47 (ae v46 (ae v45 (ae v44 aX)))))))))))))))) ?_
         dsimp only [cj]
         clear hJ
         refine bk (k := k) aG.out aD.size rfl rfl (by omega) (by omega) (by decide) ?_
         refine bz hh (i := 0) (vs := [_]) rfl rfl (bQ rfl) rfl aD.out rfl (by omega) rfl ?_
         intro ws hh
         simp only [List.set_cons_zero] at hh
         rw [eH _ (by rw [← bK]; omega)] at hh
         refine aE (aZ (ai (ao (mI ?_))))
         refine bu (aI (aE (ai ?_)))
         refine ⟨⟨k + 1, m + 1, _, _, _, by omega, by omega, rfl, rfl, by omega, by rw [List.length_set]; exact hel0, hh⟩, by show fo.n - (k + 1) < fo.n - k; omega, ?_⟩
         (repeat (first | exact av _ _ _ | refine aC rfl ?_ | refine ar rfl ?_))
        ·refine aV ?_
         refine aJ (aa (cT (ak (ai (ah (aj (ah (sr (mI (mL (aV ?_)))))))))))
         refine dN (aa (cF (ak (ai ?_))))
         obtain ⟨gd, rfl⟩ := hh.dw (i := 0) rfl (by omega)
         have hel0 := hdl
         obtain ⟨x, hx2⟩ := au (l := ds) (k := k) (by omega)
         have hgx := bG hx2
         have hel : (bA ds).length = m := by rw [bK, hel0]
         refine aN 15 [[(4, none)], [(6, none)], [(4, none)], [(6, none)], [(46, some 2), (47, some 3)], [(48, some 4)], [(0, none)], [(5, none)], [(50, some 6), (51, some 7)], [(52, some 8)], [(53, some 9)], [(6, none)], [(54, some 10), (55, some 11)], [(56, some 12)], [(49, some 5), (57, some 13)]] [(14, 58), (13, 57), (12, 56), (11, 55), (10, 54), (9, 53), (8, 52), (7, 51), (6, 50), (5, 49), (4, 48), (3, 47), (2, 46), (1, 45), (0, 44)] hh mixed (by kernel_rfl) ?_
         refine fk ?_
         refine dD ?_
         refine fk ?_
         refine dD ?_
         refine re (k) ?_
         refine aU (i := 5) (fun ρ1 w1 hj hR => cx aD.out (show ρ1 48 = Value.pointer _ from hR.1) (hj.hp.ck (i := 0) rfl (by rw [Nat.mul_one]; exact hgx))) ?_
         refine fk ?_
         refine dD ?_
         refine iK (i) ?_
         refine xZ ?_
         refine jW (fun _ hj => fl _ hj.hp.below) ?_
         refine dD ?_
         refine aU (i := 12) (fun ρ1 w1 hj hR => bI aG.out aD.size (show ρ1 54 = Value.slice _ _ _ from hR.1) (show ρ1 55 = Value.int _ _ from hR.2.1) (by omega) (by omega)) ?_
         refine jW (fun _ hj => (s2.ext hj.hp.below).ea hgy) ?_
         refine aU (i := 14) (fun ρ1 w1 hj hR => ub (show ρ1 49 = Value.int _ _ from hR.1) (show ρ1 57 = Value.int _ _ from hR.2.1)) ?_
         refine bo ?_
         intro f W hJ hV
         have hb_17 := hJ.bl
         obtain ⟨v58, v57, v56, v55, v54, v53, v52, v51, v50, v49, v48, v47, v46, v45, v44, _⟩ := hV
         replace hh := hJ.hp
         refine aY (bm (ae v58 (ae v57 (ae v56 (ae v55 (ae v54 (ae v53 (ae v52 (ae v51 (ae v50 (ae v49 (ae v48 (ae v47 (ae v46 (ae v45 (ae v44 aX)))))))))))))))) ?_
         dsimp only [cj]
         clear hJ
         refine bk (k := k) aG.out aD.size rfl rfl (by omega) (by omega) (by decide) ?_
         refine bz hh (i := 0) (vs := [_]) rfl rfl (bQ rfl) rfl aD.out rfl (by omega) rfl ?_
         intro ws hh
         simp only [List.set_cons_zero] at hh
         rw [eH _ (by rw [← bK]; omega)] at hh
         refine aE (aZ (ai (ao (mI ?_))))
         refine bu (aI (aE (ai ?_)))
         refine ⟨⟨k + 1, m, _, _, _, by omega, by omega, rfl, rfl, by omega, by rw [List.length_set]; exact hel0, hh⟩, by show fo.n - (k + 1) < fo.n - k; omega, ?_⟩
         (repeat (first | exact av _ _ _ | refine aC rfl ?_ | refine ar rfl ?_))
       ·refine ah (sr (mI (mL (mI ?_))))
        refine aF (k := i) aG.out aD.size rfl rfl (by omega) (by omega) (by decide) ?_
        refine gB eE.out rfl (by decide) ?_
        refine aM aD.out rfl (cJ hh.below ((hr.recAt FX.len hx) 0 _ rfl)) (by decide) ?_
        refine aV ?_
        refine aJ (aa (cF ?_))
        refine aP ?_
        refine aw (aw (bj (aZ (ai (ao (mI ?_))))))
        refine bu (aI (aE (ai ?_)))
        refine ⟨⟨i + 1, m, c4, A, ds, by omega, rfl, rfl, hm, hdl, hh⟩, by show n - (i + 1) < n - i; omega, ?_⟩
        (repeat (first | exact av _ _ _ | refine aC rfl ?_ | refine ar rfl ?_))
     ·have hs := fun w1 hS1 => kS A m c4 ds w1 hS1
      refine ah (sr (mI (mL (aV ?_))))
      refine aJ (aa (cF ?_))
      refine aP ?_
      refine aw (aw (bj (ai (sr (mL ?_)))))
      refine aT (hs _ (hh.aW (i := 0) rfl)) az.out rfl (by decide) ?_
      rintro e_ w61 ⟨b, rfl, -, hb_⟩
      refine ⟨_, rfl, ?_⟩
      replace hh := hh.ext hb_
      refine aB (aa (aq ?_))
      refine cu ?_
      exact ⟨b, rfl, fun _ => ⟨by omega, hall⟩, hh.below⟩
end Go.Proofs.YtioilmppidlbnaaGreatDoor
/- The walks through ogeelaw14's examples. -/
namespace Go.Proofs.YtioilmppidlbnaaGreatDoor
open Go.RowKit
abbrev j4 (l : List Int) (A : Option Addr) (a : Nat) (B : Option Addr) (b : Nat) : FX := ⟨A, 1, a, B, l.length, b, [(l.length : Int) - 1], l.map fun z : Int => nR (z : Dyadic)⟩
theorem xY {l : List Int} {A : Option Addr} {a : Nat} {B : Option Addr} {b : Nat} (hn : l.length ≤ 100) (hl : ∀ z ∈ l, z.natAbs < 256) : (j4 l A a B b).gJ 124 := by
 refine ⟨by show 1 ≤ 1000; omega, by show l.length ≤ 100000; omega, fun c hc => ?_⟩
 obtain ⟨z, hz, rfl⟩ := List.mem_map.1 hc
 have h : Sz 24 (z : Dyadic) := AA (e := 0) (hl z hz) (by decide) (by decide)
 exact ⟨h.ok (by omega), by rw [gn]; exact h.mono (by omega)⟩
theorem dQ (l : List Int) (A : Option Addr) (c : Nat) (w : World) (hS : Sl w A l.length 1 (bA l)) (h0 : 0 < l.length) (hn : l.length ≤ 100) (hl : ∀ z ∈ l, z.natAbs < 256) :
  Calls Tryz.prog 52 #[.slice A l.length c] w fun r w' => ∃ (A : Option Addr) (a : Nat) (B : Option Addr) (b : Nat), r = .returned (.agg #[.slice A 1 a, .slice B l.length b]) ∧ Hp w [(j4 l A a B b).dZ, (j4 l A a B b).dV] w' := by
 have hh := Hp.start w
 obtain ⟨n, hn2⟩ : ∃ n, n = l.length := ⟨_, rfl⟩
 have hnd : (j4 l none 0 none 0).ds = [(n : Int) - 1] := by rw [hn2]
 rw [← hn2] at hS h0 hn ⊢
 refine al (N := 27) (l := [.slice A n c]) Tryz.func52 rfl rfl (by simp) ?_
 refine sr ?_
 refine cG hh ?_
 intro b2 w2 hh
 refine aa (sr (mL (aV ?_)))
 refine eT ?_
 refine aK hh (cs := [_]) aG.out aD.out (aQ (bQ rfl) bF) rfl rfl (by decide) (by decide) (by decide) rfl (by decide) ?_
 intro b8 w8 hh
 refine fh [_,_] ?_
 refine cG hh ?_
 intro b3 w3 hh
 refine bP hh 0 [_,_] ?_
 intro ws hh
 replace hh : Hp _ (.blk _ _ [_, _] _ :: _) _ := hh
 refine aa (ah (sr (aI (aa (aj ?_)))))
 replace hh := hh.perm (List.perm_middle (l₁ := [_]))
 simp only [List.cons_append, List.nil_append] at hh
 have hcap := hh.yd (i := 0) rfl
 replace hh := hh.perm (List.perm_middle (l₁ := [_]))
 simp only [List.cons_append, List.nil_append] at hh
 replace hh := hh.ed 39 3
 refine bq [4, 10, 11, 12, 13, 14, 15, 16, 17, 18, 19, 20, 21, 22, 23, 24, 25] 4
  (fun v w' => ∃ (i c1 : Nat) (B : Option Addr), i ≤ n ∧ v = .int .i64 i ∧ Hp w [.row B i c1 39 3 (bR NR.cells ((l.take i).map fun z : Int => nR (z : Dyadic))), .blk b3 28 [.slice (some ⟨b8, 0, none⟩) 1 1, .slice B i c1] (0, 0), .row (some ⟨b8, 0, none⟩) 1 1 3 1 (bA [(n : Int) - 1]), .blk b2 28 [.slice none 0 0, .slice none 0 0] (0, 0)] w')
  (fun v _ => n - (intOf v).toNat) ?_ ?_
 ·exact ⟨0, 0, none, Nat.zero_le _, rfl, hh⟩
 ·clear hh
  rintro ρ' v w' ⟨i, c1, B, hi, rfl, hh⟩
  by_cases hlt : i < n
  ·obtain ⟨z, hz⟩ := au (l := l) (k := i) (by omega)
   have hgz := bG hz
   have hzb := hl z (List.mem_of_getElem? hz)
   obtain ⟨ad, rfl, hr⟩ := hS.at_ (by omega)
   refine ah (sr (mI (mL (aV ?_))))
   refine aJ (aa (cT (ak (ai (ah (aj ?_))))))
   refine aN 8 [[(3, none)], [(16, some 0)], [(0, none)], [(4, none)], [(18, some 2), (19, some 3)], [(20, some 4)], [(21, some 5)], [(22, some 6)]] [(7, 23), (6, 22), (5, 21), (4, 20), (3, 19), (2, 18), (1, 17), (0, 16)] hh mixed (by kernel_rfl) ?_
   refine dI ?_
   refine ef 1 ?_
   refine fk ?_
   refine dD ?_
   refine iK (i) ?_
   refine aU (i := 5) (fun ρ1 w1 hj hR => cx aD.out (show ρ1 20 = Value.pointer _ from hR.1) ((hr.ext hj.hp.below).ea (by assumption))) ?_
   refine dC (fun _ hj => uL z _ (by omega) (by omega)) ?_
   refine ry [_,_,_] ?_
   refine bo ?_
   intro f W hJ hV
   have hb_5 := hJ.bl
   obtain ⟨v23, v22, v21, v20, v19, v18, v17, v16, _⟩ := hV
   obtain ⟨A23, c23, e23, f23⟩ : Rows _ _ _ (f 7) W := v23
   replace hh := hJ.hp
   refine aY (bm (ae e23 (ae v22 (ae v21 (ae v20 (ae v19 (ae v18 (ae v17 (ae v16 aX))))))))) ?_
   dsimp only [cj]
   clear e23 hJ
   refine cv hh (i := 0) rfl rfl rfl (f23) aG.out aD.out rfl (by decide) (by first | rfl | exact cq _ | exact bX _ | exact bD _ | exact bW NR.one _) (by omega) (by omega) (by decide) ?_
   intro A24 c24 w24 hh
   simp only [List.set_cons_zero] at hh
   refine bJ ?_
   refine bP hh 1 [_] ?_
   intro ws hh
   replace hh : Hp _ (_ :: .blk _ _ [_, _] _ :: _) _ := hh
   refine aE (aZ (ai (ao (mI ?_))))
   refine bu (aI (aE (ai ?_)))
   replace hh := hh.sub (List.Sublist.cons_cons _ (List.Sublist.cons_cons _ (List.Sublist.cons_cons _ (List.Sublist.cons_cons _ List.Sublist.slnil))))
   refine ⟨⟨i + 1, c24, A24, by omega, rfl, ?_⟩, by show n - (i + 1) < n - i; omega, ?_⟩
   ·rw [aO hz, List.map_append, dk]
    exact hh
   ·(repeat (first | exact av _ _ _ | refine aC rfl ?_ | refine ar rfl ?_))
  ·obtain rfl : i = n := by omega
   rw [List.take_of_length_le (by omega)] at hh
   refine ah (sr (mI (mL (aV ?_))))
   refine aJ (aa (cF ?_))
   refine aP ?_
   refine aw (aw (bj (ai (sr ?_))))
   refine cz hh 1 [_,_] ?_
   refine bP hh 3 [_,_] ?_
   intro ws hh
   replace hh : Hp _ (_ :: _ :: _ :: .blk _ _ [_, _] _ :: _) _ := hh
   refine aa (aq ?_)
   replace hh := hh.sub (List.Sublist.cons_cons _ (List.Sublist.cons _ (List.Sublist.cons_cons _ (List.Sublist.cons_cons _ List.Sublist.slnil))))
   refine gp (a6 rfl (a7 (vs := [_, _]) aD.out (hh.ax (i := 2) (n := 2) rfl rfl) rfl) bx) ?_
   refine ⟨some ⟨b8, 0, none⟩, 1, B, c1, rfl, ?_⟩
   unfold FX.dZ FX.dV
   dsimp only
   rw [← hn2]
   exact hh.sub (List.sublist_append_left [_, _] _)
def oT (ds : List Int) (cs : List NR) : VP := fun v W => ∃ g : FX, v = .agg #[.slice g.A g.n g.a, .slice g.B g.m g.b] ∧ g.ds = ds ∧ g.cs = cs ∧ g.at_ W
theorem oT.ext {ds : List Int} {cs : List NR} (v : Value) (w w' : World) (h : oT ds cs v w) (hb : Below w.heap.size w w') : oT ds cs v w' := let ⟨g, h1, h2, h3, h4⟩ := h; ⟨g, h1, h2, h3, h4.ext hb⟩
theorem iH (l : List Int) (fa : FX) (A : Option Addr) (c : Nat) (w : World) (hf : fa.at_ w) (hd : fa.ds = [(l.length : Int) - 1]) (hc : fa.cs = l.map fun z : Int => nR (z : Dyadic)) (hS : Sl w A l.length 1 (bA l)) (h0 : 0 < l.length) (hn : l.length ≤ 100) (hl : ∀ z ∈ l, z.natAbs < 256) :
  Calls Tryz.prog 53 #[.agg #[.slice fa.A fa.n fa.a, .slice fa.B fa.m fa.b], .int .i64 0, .slice A l.length c] w fun r w' => r = .returned (.bool true) ∧ Below w.heap.size w w' := by
 have hh := Hp.start w
 have l1 := hf.ln.1
 have l2 := hf.ln.2
 have e1 : fa.n = 1 := by rw [← l1, hd]; rfl
 have e2 : fa.m = l.length := by rw [← l2, hc, List.length_map]
 have hform := fun w1 hb => dQ l A c w1 (hS.ext hb) h0 hn hl
 refine al (N := 15) (l := [.agg #[.slice fa.A fa.n fa.a, .slice fa.B fa.m fa.b], .int .i64 0, .slice A l.length c]) Tryz.func53 rfl rfl (by simp) ?_
 refine sr ?_
 refine cS hh [_,_] ?_
 intro b3 w3 hh
 refine aB (aa (ah ?_))
 refine aN 6 [[(1, none)], [(7, some 0)], [(8, some 1)], [(3, none), (9, some 2)], [(2, none), (9, some 2)], [(11, some 4), (9, some 2)]] [(5, 12), (4, 11), (3, 10), (2, 9), (1, 8), (0, 7)] hh mixed (by kernel_rfl) ?_
 refine dD ?_
 refine yZ ?_
 refine tP ?_
 first | refine dS ?_ | refine dU ?_ | refine dG (gk 0 [_,_] ?_)
 first | refine dS ?_ | refine dU ?_ | refine dG (fk ?_)
 refine dt (i := 5) (oT fa.ds fa.cs) (oT.ext) ?_ ?_
 ·intro ρ1 w1 hj hR
  exact ij rfl (show ρ1 9 = Value.bool _ from hR.2.1) (eN rfl (dE az.out (bC (show ρ1 11 = Value.slice _ _ _ from hR.1) cY)) (hform _ hj.hp.below) (fun _ _ ⟨A2, a2, B2, b2', q1, q2⟩ => ⟨_, q1, q2.below, j4 l A2 a2 B2 b2', rfl, hd.symm, hc.symm, q2.lW List.mem_cons_self (List.mem_cons_of_mem _ List.mem_cons_self)⟩))
 refine bo ?_
 intro f W hJ hV
 have hb_1 := hJ.bl
 obtain ⟨v12, v11, v10, v9, v8, v7, _⟩ := hV
 obtain ⟨g12, e12, o12⟩ : oT _ _ (f 5) W := v12
 replace hh := hJ.hp
 refine aY (bm (ae e12 (ae v11 (ae v10 (ae v9 (ae v8 (ae v7 aX))))))) ?_
 dsimp only [cj]
 clear e12 hJ
 refine aR rfl rfl ?_
 refine bH hh (eG fa g12 _ (hf.ext hh.below) o12.2.2 ⟨o12.1.symm, o12.2.1.symm⟩ (by omega) (by omega)) rfl ?_
 intro w13 hh
 first | refine cQ ?_ | refine cP ?_
 refine aB (aa (aq ?_))
 refine cu ?_
 exact ⟨rfl, hh.below⟩
end Go.Proofs.YtioilmppidlbnaaGreatDoor
/- The walk through ogeelaw14.awake. -/
namespace Go.Proofs.YtioilmppidlbnaaGreatDoor
open Go.RowKit
theorem sk {l : List Int} {D : List Nat} {ys : List Dyadic} {g : FX} {w w' : World} (h : Out 0 D ys g) (h1 : bf D = [(l.length : Int) - 1]) (h2 : ys = l.map fun z : Int => (z : Dyadic)) (hh : Hp w [g.dZ, g.dV] w') : ∃ (A : Option Addr) (a : Nat) (B : Option Addr) (b : Nat), g = j4 l A a B b := by
 have hg := hh.lW List.mem_cons_self (List.mem_cons_of_mem _ List.mem_cons_self)
 have l1 := hg.ln
 obtain ⟨p6, hc0, -, -⟩ := h
 obtain ⟨A, n, a, B, m, b, ds, cs⟩ := g
 have hd : ds = [(l.length : Int) - 1] := p6.trans h1
 have hc : cs = l.map fun z : Int => nR (z : Dyadic) := hc0.trans (by unfold xx; rw [if_pos rfl, h2, List.map_map]; rfl)
 obtain ⟨q1, q2⟩ : ds.length = n ∧ cs.length = m := l1
 clear p6 hc0 h1 h2 hg hh
 subst hd hc q1
 obtain rfl : l.length = m := by rw [← q2, List.length_map]
 exact ⟨A, a, B, b, rfl⟩
theorem wu (l es l2 : List Int) (A : Option Addr) (a : Nat) (B : Option Addr) (b : Nat) (E : Option Addr) (c : Nat) (w : World) (hT : gH w) (hf : (j4 l A a B b).at_ w) (hl : (j4 l A a B b).gJ 124) (hn : l.length ≤ 200) (hS : Sl w E 1 1 (bA es))
  (h : gK (j4 l A a B b) es = 0 ∧ fQ (es.map Int.toNat) (j4 l A a B b) = (l2.map fun z : Int => (z : Dyadic)) ∧ bf (es.map Int.toNat) = [(l2.length : Int) - 1]) :
  Calls Tryz.prog 23 #[.agg #[.slice A 1 a, .slice B l.length b], .slice E 1 c] w fun r w' => ∃ (A : Option Addr) (a : Nat) (B : Option Addr) (b : Nat), r = .returned (.tuple #[.agg #[.slice A 1 a, .slice B l2.length b], .int .i64 0]) ∧ Hp w [(j4 l2 A a B b).dZ, (j4 l2 A a B b).dV] w' := by
 have := nk (j4 l A a B b) E 1 c es 124 w hT hf hl hn hS (by omega) (by omega)
 rw [h.1] at this
 refine this.mono fun r w' ⟨g, o, hr, hh⟩ => ?_
 obtain ⟨A, a, B, b, rfl⟩ := sk o h.2.2 h.2.1 hh
 exact ⟨A, a, B, b, hr, hh⟩
theorem As (f g : FX) (l2 : List Int) (L : Option Addr) (c : Nat) (w : World) (hT : gH w) (hf : f.at_ w) (hg : g.at_ w) (hl : f.gJ 124) (hl2 : g.gJ 124) (hm : f.m ≤ 200) (hm2 : g.m ≤ 200) (hS : Sl w L 2 2 (bR FX.cells [f, g]))
  (h : bZ [f, g] = 0 ∧ yX ([f, g].map (fQ (maxD [f, g]))) = (l2.map fun z : Int => (z : Dyadic)) ∧ bf (maxD [f, g]) = [(l2.length : Int) - 1]) :
  Calls Tryz.prog 15 #[.slice L 2 c] w fun r w' => ∃ (A : Option Addr) (a : Nat) (B : Option Addr) (b : Nat), r = .returned (.tuple #[.agg #[.slice A 1 a, .slice B l2.length b], .int .i64 0]) ∧ Hp w [(j4 l2 A a B b).dZ, (j4 l2 A a B b).dV] w' := by
 have hall : ∀ x ∈ [f, g], x.at_ w ∧ x.gJ 124 ∧ x.m ≤ 200 := by simpa using ⟨⟨hf, hl, hm⟩, hg, hl2, hm2⟩
 have := vm L 2 c [f, g] 124 w hT hS (by omega) (fun x hx => (hall x hx).1) (fun x hx => (hall x hx).2.1) (fun x hx => (hall x hx).2.2) (by omega)
 rw [h.1] at this
 refine this.mono fun r w' ⟨g, o, hr, hh⟩ => ?_
 obtain ⟨A, a, B, b, rfl⟩ := sk o h.2.2 h.2.1 hh
 exact ⟨A, a, B, b, hr, hh⟩
theorem z9 (f g : FX) (l2 : List Int) (w : World) (hT : gH w) (hf : f.at_ w) (hg : g.at_ w) (hl : f.gJ 124) (hl2 : g.gJ 124) (hm : f.m ≤ 200) (hm2 : g.m ≤ 200)
  (h : oa f g = 0 ∧ kb f.ns g.ns (f.cs.map NR.d) (g.cs.map NR.d) = (l2.map fun z : Int => (z : Dyadic)) ∧ bf (cI f.ns g.ns) = [(l2.length : Int) - 1]) :
  Calls Tryz.prog 18 #[.agg #[.slice f.A f.n f.a, .slice f.B f.m f.b], .agg #[.slice g.A g.n g.a, .slice g.B g.m g.b]] w fun r w' => ∃ (A : Option Addr) (a : Nat) (B : Option Addr) (b : Nat), r = .returned (.tuple #[.agg #[.slice A 1 a, .slice B l2.length b], .int .i64 0]) ∧ Hp w [(j4 l2 A a B b).dZ, (j4 l2 A a B b).dV] w' := by
 have := zk f g 124 w hT hf hg hl hl2 hm hm2 (by omega)
 rw [h.1] at this
 refine this.mono fun r w' ⟨g, o, hr, hh⟩ => ?_
 obtain ⟨A, a, B, b, rfl⟩ := sk o h.2.2 h.2.1 hh
 exact ⟨A, a, B, b, hr, hh⟩
theorem uU (l es : List Int) (e : Int) (A : Option Addr) (a : Nat) (B : Option Addr) (b : Nat) (E : Option Addr) (c : Nat) (w : World) (hT : gH w) (hf : (j4 l A a B b).at_ w) (hl : (j4 l A a B b).gJ 124) (hn : l.length ≤ 200) (hS : Sl w E 1 1 (bA es)) (h : gK (j4 l A a B b) es = e) :
  Calls Tryz.prog 23 #[.agg #[.slice A 1 a, .slice B l.length b], .slice E 1 c] w fun r w' => ∃ g : FX, r = .returned (.tuple #[.agg #[.slice g.A g.n g.a, .slice g.B g.m g.b], .int .i64 e]) ∧ Below w.heap.size w w' := by
 have := nk (j4 l A a B b) E 1 c es 124 w hT hf hl hn hS (by omega) (by omega)
 rw [h] at this
 exact this.mono fun r w' ⟨g, o, hr, hh⟩ => ⟨g, hr, hh.below⟩
theorem xN (w : World) (hT : gH w) :
  Calls Tryz.prog 15 #[.slice none 0 0] w fun r w' => ∃ g : FX, r = .returned (.tuple #[.agg #[.slice g.A g.n g.a, .slice g.B g.m g.b], .int .i64 1]) ∧ Below w.heap.size w w' :=
 (vm none 0 0 [] 124 w hT (Sl.nil _ _ _) (by omega) (fun _ h => nomatch h) (fun _ h => nomatch h) (fun _ h => nomatch h) (by omega)).mono fun r w' ⟨g, o, hr, hh⟩ => ⟨g, hr, hh.below⟩
theorem fi (w : World) (hT : gH w) : Calls Tryz.prog 13 #[] w fun r w' => r = .returned (.bool true) ∧ Below w.heap.size w w' := by
 have hh := Hp.start w
 have gJ : ∀ (l : List Int) (A : Option Addr) (a : Nat) (B : Option Addr) (b : Nat), l.length ≤ 100 → (∀ z ∈ l, z.natAbs < 256) → (j4 l A a B b).gJ 124 := fun _ _ _ _ _ h1 h2 => xY h1 h2
 refine al (N := 101) (l := []) Tryz.func13 rfl rfl (by simp) ?_
 refine sr (aB (aa (sr ?_)))
 refine aK hh (cs := [_, _]) aG.out aD.out (aQ rfl (aQ rfl bF)) rfl rfl (by decide) (by decide) (by decide) rfl (by decide) ?_
 intro b16 w16 hh
 refine aT (dQ [0, 1] _ _ _ (hh.aW (i := 0) rfl) (by decide) (by decide) (by decide)) az.out rfl (by decide) ?_
 rintro e_ w17 ⟨Af1, af1, Bf1, bf1, rfl, h2⟩
 refine ⟨_, rfl, ?_⟩
 replace hh := hh.join h2
 clear h2
 refine aK hh (cs := [_]) aG.out aD.out (aQ rfl bF) rfl rfl (by decide) (by decide) (by decide) rfl (by decide) ?_
 intro b18 w18 hh
 refine aT (wu [0, 1] [2] [0, 1, 1] Af1 af1 Bf1 bf1 _ _ _ (hT.hp hh) (hh.lW (List.mem_of_getElem? (i := 1) rfl) (List.mem_of_getElem? (i := 2) rfl)) (gJ _ _ _ _ _ (by decide) (by decide)) (by decide) (hh.aW (i := 0) rfl) ⟨by kernel_rfl, by kernel_rfl, by kernel_rfl⟩) az.out rfl (by decide) ?_
 rintro e_ w19 ⟨Ar1, ar1, Br1, br1, rfl, h2⟩
 refine ⟨_, rfl, ?_⟩
 replace hh := hh.join h2
 clear h2
 replace hh := hh.sub (List.Sublist.cons_cons _ (List.Sublist.cons_cons _ (List.Sublist.cons _ (List.Sublist.cons _ (List.Sublist.cons _ (List.Sublist.cons _ List.Sublist.slnil))))))
 refine mT ?_
 refine ee ?_
 refine ee ?_
 refine cG hh ?_
 intro b1 w1 hh
 refine bP hh 0 [_,_] ?_
 intro ws hh
 replace hh : Hp _ (.blk _ _ [_, _] _ :: _) _ := hh
 refine aI (aa (sr ?_))
 refine aK hh (cs := [_]) aG.out aD.out (aQ rfl bF) rfl rfl (by decide) (by decide) (by decide) rfl (by decide) ?_
 intro b23 w23 hh
 refine aT (dQ [3] _ _ _ (hh.aW (i := 0) rfl) (by decide) (by decide) (by decide)) az.out rfl (by decide) ?_
 rintro e_ w24 ⟨Af2, af2, Bf2, bf2, rfl, h2⟩
 refine ⟨_, rfl, ?_⟩
 replace hh := hh.join h2
 clear h2
 refine aK hh (cs := [_]) aG.out aD.out (aQ rfl bF) rfl rfl (by decide) (by decide) (by decide) rfl (by decide) ?_
 intro b25 w25 hh
 refine aT (wu [3] [2] [3, 6, 3] Af2 af2 Bf2 bf2 _ _ _ (hT.hp hh) (hh.lW (List.mem_of_getElem? (i := 1) rfl) (List.mem_of_getElem? (i := 2) rfl)) (gJ _ _ _ _ _ (by decide) (by decide)) (by decide) (hh.aW (i := 0) rfl) ⟨by kernel_rfl, by kernel_rfl, by kernel_rfl⟩) az.out rfl (by decide) ?_
 rintro e_ w26 ⟨Ar2, ar2, Br2, br2, rfl, h2⟩
 refine ⟨_, rfl, ?_⟩
 replace hh := hh.join h2
 clear h2
 replace hh := hh.sub (List.Sublist.cons_cons _ (List.Sublist.cons_cons _ (List.Sublist.cons _ (List.Sublist.cons _ (List.Sublist.cons _ (List.Sublist.cons _ (List.Sublist.cons_cons _ (List.Sublist.cons_cons _ (List.Sublist.cons_cons _ List.Sublist.slnil)))))))))
 refine mT ?_
 refine ee ?_
 refine ee ?_
 refine cG hh ?_
 intro b3 w3 hh
 refine bP hh 0 [_,_] ?_
 intro ws hh
 replace hh : Hp _ (.blk _ _ [_, _] _ :: _) _ := hh
 refine aI (aa (sr ?_))
 refine aK hh (cs := [_, _]) aG.out aD.out (aQ rfl (aQ rfl bF)) rfl rfl (by decide) (by decide) (by decide) rfl (by decide) ?_
 intro b30 w30 hh
 refine aT (dQ [0, 1] _ _ _ (hh.aW (i := 0) rfl) (by decide) (by decide) (by decide)) az.out rfl (by decide) ?_
 rintro e_ w31 ⟨Af3, af3, Bf3, bf3, rfl, h2⟩
 refine ⟨_, rfl, ?_⟩
 replace hh := hh.join h2
 clear h2
 refine aK hh (cs := [_]) aG.out aD.out (aQ rfl bF) rfl rfl (by decide) (by decide) (by decide) rfl (by decide) ?_
 intro b32 w32 hh
 refine aT (dQ [3] _ _ _ (hh.aW (i := 0) rfl) (by decide) (by decide) (by decide)) az.out rfl (by decide) ?_
 rintro e_ w33 ⟨Af4, af4, Bf4, bf4, rfl, h2⟩
 refine ⟨_, rfl, ?_⟩
 replace hh := hh.join h2
 clear h2
 refine aK hh (cs := [_, _, _, _]) aG.out aD.out (aQ (cA rfl) (aQ (cA rfl) bF)) rfl rfl (by decide) (by decide) (by decide) rfl (by decide) ?_
 intro b34 w34 hh
 refine aT (As (j4 [0, 1] Af3 af3 Bf3 bf3) (j4 [3] Af4 af4 Bf4 bf4) [3, 4] _ _ _ (hT.hp hh) (hh.lW (List.mem_of_getElem? (i := 4) rfl) (List.mem_of_getElem? (i := 5) rfl)) (hh.lW (List.mem_of_getElem? (i := 1) rfl) (List.mem_of_getElem? (i := 2) rfl)) (gJ _ _ _ _ _ (by decide) (by decide)) (gJ _ _ _ _ _ (by decide) (by decide)) (Nat.le_of_ble_eq_true rfl) (Nat.le_of_ble_eq_true rfl) (hh.aW (i := 0) rfl) ⟨by kernel_rfl, by kernel_rfl, by kernel_rfl⟩) az.out rfl (by decide) ?_
 rintro e_ w35 ⟨Ar3, ar3, Br3, br3, rfl, h2⟩
 refine ⟨_, rfl, ?_⟩
 replace hh := hh.join h2
 clear h2
 replace hh := hh.sub (List.Sublist.cons_cons _ (List.Sublist.cons_cons _ (List.Sublist.cons _ (List.Sublist.cons _ (List.Sublist.cons _ (List.Sublist.cons _ (List.Sublist.cons _ (List.Sublist.cons _ (List.Sublist.cons _ (List.Sublist.cons_cons _ (List.Sublist.cons_cons _ (List.Sublist.cons_cons _ (List.Sublist.cons_cons _ (List.Sublist.cons_cons _ (List.Sublist.cons_cons _ List.Sublist.slnil)))))))))))))))
 refine mT ?_
 refine ee ?_
 refine ee ?_
 refine cG hh ?_
 intro b5 w5 hh
 refine bP hh 0 [_,_] ?_
 intro ws hh
 replace hh : Hp _ (.blk _ _ [_, _] _ :: _) _ := hh
 refine aI (aa (sr ?_))
 refine aK hh (cs := [_, _]) aG.out aD.out (aQ rfl (aQ rfl bF)) rfl rfl (by decide) (by decide) (by decide) rfl (by decide) ?_
 intro b39 w39 hh
 refine aT (dQ [0, 1] _ _ _ (hh.aW (i := 0) rfl) (by decide) (by decide) (by decide)) az.out rfl (by decide) ?_
 rintro e_ w40 ⟨Af5, af5, Bf5, bf5, rfl, h2⟩
 refine ⟨_, rfl, ?_⟩
 replace hh := hh.join h2
 clear h2
 refine aK hh (cs := [_, _]) aG.out aD.out (aQ rfl (aQ rfl bF)) rfl rfl (by decide) (by decide) (by decide) rfl (by decide) ?_
 intro b41 w41 hh
 refine aT (dQ [0, 1] _ _ _ (hh.aW (i := 0) rfl) (by decide) (by decide) (by decide)) az.out rfl (by decide) ?_
 rintro e_ w42 ⟨Af6, af6, Bf6, bf6, rfl, h2⟩
 refine ⟨_, rfl, ?_⟩
 replace hh := hh.join h2
 clear h2
 refine aT (z9 (j4 [0, 1] Af5 af5 Bf5 bf5) (j4 [0, 1] Af6 af6 Bf6 bf6) [0, 0, 1] _ (hT.hp hh) (hh.lW (List.mem_of_getElem? (i := 3) rfl) (List.mem_of_getElem? (i := 4) rfl)) (hh.lW (List.mem_of_getElem? (i := 0) rfl) (List.mem_of_getElem? (i := 1) rfl)) (gJ _ _ _ _ _ (by decide) (by decide)) (gJ _ _ _ _ _ (by decide) (by decide)) (Nat.le_of_ble_eq_true rfl) (Nat.le_of_ble_eq_true rfl) ⟨by kernel_rfl, by kernel_rfl, by kernel_rfl⟩) az.out rfl (by decide) ?_
 rintro e_ w43 ⟨Ar4, ar4, Br4, br4, rfl, h2⟩
 refine ⟨_, rfl, ?_⟩
 replace hh := hh.join h2
 clear h2
 replace hh := hh.sub (List.Sublist.cons_cons _ (List.Sublist.cons_cons _ (List.Sublist.cons _ (List.Sublist.cons _ (List.Sublist.cons _ (List.Sublist.cons _ (List.Sublist.cons _ (List.Sublist.cons _ (List.Sublist.cons_cons _ (List.Sublist.cons_cons _ (List.Sublist.cons_cons _ (List.Sublist.cons_cons _ (List.Sublist.cons_cons _ (List.Sublist.cons_cons _ (List.Sublist.cons_cons _ (List.Sublist.cons_cons _ (List.Sublist.cons_cons _ List.Sublist.slnil)))))))))))))))))
 refine mT ?_
 refine ee ?_
 refine ee ?_
 refine cG hh ?_
 intro b7 w7 hh
 refine bP hh 0 [_,_] ?_
 intro ws hh
 replace hh : Hp _ (.blk _ _ [_, _] _ :: _) _ := hh
 refine aI (aa (sr ?_))
 refine aK hh (cs := [_, _]) aG.out aD.out (aQ rfl (aQ rfl bF)) rfl rfl (by decide) (by decide) (by decide) rfl (by decide) ?_
 intro b47 w47 hh
 refine aT (dQ [1, 1] _ _ _ (hh.aW (i := 0) rfl) (by decide) (by decide) (by decide)) az.out rfl (by decide) ?_
 rintro e_ w48 ⟨Af7, af7, Bf7, bf7, rfl, h2⟩
 refine ⟨_, rfl, ?_⟩
 replace hh := hh.join h2
 clear h2
 refine aK hh (cs := [_, _]) aG.out aD.out (aQ rfl (aQ rfl bF)) rfl rfl (by decide) (by decide) (by decide) rfl (by decide) ?_
 intro b49 w49 hh
 refine aT (dQ [1, 1] _ _ _ (hh.aW (i := 0) rfl) (by decide) (by decide) (by decide)) az.out rfl (by decide) ?_
 rintro e_ w50 ⟨Af8, af8, Bf8, bf8, rfl, h2⟩
 refine ⟨_, rfl, ?_⟩
 replace hh := hh.join h2
 clear h2
 refine aT (z9 (j4 [1, 1] Af7 af7 Bf7 bf7) (j4 [1, 1] Af8 af8 Bf8 bf8) [1, 2, 1] _ (hT.hp hh) (hh.lW (List.mem_of_getElem? (i := 3) rfl) (List.mem_of_getElem? (i := 4) rfl)) (hh.lW (List.mem_of_getElem? (i := 0) rfl) (List.mem_of_getElem? (i := 1) rfl)) (gJ _ _ _ _ _ (by decide) (by decide)) (gJ _ _ _ _ _ (by decide) (by decide)) (Nat.le_of_ble_eq_true rfl) (Nat.le_of_ble_eq_true rfl) ⟨by kernel_rfl, by kernel_rfl, by kernel_rfl⟩) az.out rfl (by decide) ?_
 rintro e_ w51 ⟨Ar5, ar5, Br5, br5, rfl, h2⟩
 refine ⟨_, rfl, ?_⟩
 replace hh := hh.join h2
 clear h2
 replace hh := hh.sub (List.Sublist.cons_cons _ (List.Sublist.cons_cons _ (List.Sublist.cons _ (List.Sublist.cons _ (List.Sublist.cons _ (List.Sublist.cons _ (List.Sublist.cons _ (List.Sublist.cons _ (List.Sublist.cons_cons _ (List.Sublist.cons_cons _ (List.Sublist.cons_cons _ (List.Sublist.cons_cons _ (List.Sublist.cons_cons _ (List.Sublist.cons_cons _ (List.Sublist.cons_cons _ (List.Sublist.cons_cons _ (List.Sublist.cons_cons _ (List.Sublist.cons_cons _ (List.Sublist.cons_cons _ (List.Sublist.cons_cons _ List.Sublist.slnil))))))))))))))))))))
 refine mT ?_
 refine ee ?_
 refine ee ?_
 refine cG hh ?_
 intro b9 w9 hh
 refine bP hh 0 [_,_] ?_
 intro ws hh
 replace hh : Hp _ (.blk _ _ [_, _] _ :: _) _ := hh
 refine aI (aa (sr ?_))
 refine aK hh (cs := [_, _, _]) aG.out aD.out (aQ rfl (aQ rfl (aQ rfl bF))) rfl rfl (by decide) (by decide) (by decide) rfl (by decide) ?_
 intro b55 w55 hh
 refine aT (dQ [0, 0, 1] _ _ _ (hh.aW (i := 0) rfl) (by decide) (by decide) (by decide)) az.out rfl (by decide) ?_
 rintro e_ w56 ⟨Af9, af9, Bf9, bf9, rfl, h2⟩
 refine ⟨_, rfl, ?_⟩
 replace hh := hh.join h2
 clear h2
 refine aK hh (cs := [_]) aG.out aD.out (aQ rfl bF) rfl rfl (by decide) (by decide) (by decide) rfl (by decide) ?_
 intro b57 w57 hh
 refine aT (uU [0, 0, 1] [1] 1 Af9 af9 Bf9 bf9 _ _ _ (hT.hp hh) (hh.lW (List.mem_of_getElem? (i := 1) rfl) (List.mem_of_getElem? (i := 2) rfl)) (gJ _ _ _ _ _ (by decide) (by decide)) (by decide) (hh.aW (i := 0) rfl) (by kernel_rfl)) az.out rfl (by decide) ?_
 rintro e_ w58 ⟨g1, rfl, hb_⟩
 refine ⟨_, rfl, ?_⟩
 replace hh := hh.ext hb_
 replace hh := hh.sub (List.Sublist.cons _ (List.Sublist.cons _ (List.Sublist.cons _ (List.Sublist.cons _ (List.Sublist.cons_cons _ (List.Sublist.cons_cons _ (List.Sublist.cons_cons _ (List.Sublist.cons_cons _ (List.Sublist.cons_cons _ (List.Sublist.cons_cons _ (List.Sublist.cons_cons _ (List.Sublist.cons_cons _ (List.Sublist.cons_cons _ (List.Sublist.cons_cons _ (List.Sublist.cons_cons _ (List.Sublist.cons_cons _ (List.Sublist.cons_cons _ (List.Sublist.cons_cons _ (List.Sublist.cons_cons _ List.Sublist.slnil)))))))))))))))))))
 refine mT ?_
 refine ee ?_
 refine ee ?_
 refine cG hh ?_
 intro b11 w11 hh
 refine bP hh 0 [_,_] ?_
 intro ws hh
 replace hh : Hp _ (.blk _ _ [_, _] _ :: _) _ := hh
 refine aI (aa (sr ?_))
 refine aT (xN _ (hT.hp hh)) az.out rfl (by decide) ?_
 rintro e_ w62 ⟨g2, rfl, hb_⟩
 refine ⟨_, rfl, ?_⟩
 replace hh := hh.ext hb_
 replace hh := hh.sub (List.Sublist.cons _ (List.Sublist.cons_cons _ (List.Sublist.cons_cons _ (List.Sublist.cons_cons _ (List.Sublist.cons_cons _ (List.Sublist.cons_cons _ (List.Sublist.cons_cons _ (List.Sublist.cons_cons _ (List.Sublist.cons_cons _ (List.Sublist.cons_cons _ (List.Sublist.cons_cons _ (List.Sublist.cons_cons _ (List.Sublist.cons_cons _ (List.Sublist.cons_cons _ (List.Sublist.cons_cons _ (List.Sublist.cons_cons _ List.Sublist.slnil))))))))))))))))
 refine mT ?_
 refine ee ?_
 refine ee ?_
 refine cG hh ?_
 intro b13 w13 hh
 refine bP hh 0 [_,_] ?_
 intro ws hh
 replace hh : Hp _ (.blk _ _ [_, _] _ :: _) _ := hh
 refine aI (aa (sr ?_))
 refine cz hh 13 [_,_] (mI ?_)
 refine aK hh (cs := [_, _, _]) aG.out aD.out (aQ rfl (aQ rfl (aQ rfl bF))) rfl rfl (by decide) (by decide) (by decide) rfl (by decide) ?_
 intro b67 w67 hh
 replace hh := hh.sub (List.Sublist.cons_cons _ (List.Sublist.cons _ (List.Sublist.cons_cons _ (List.Sublist.cons_cons _ (List.Sublist.cons_cons _ (List.Sublist.cons_cons _ (List.Sublist.cons_cons _ (List.Sublist.cons_cons _ (List.Sublist.cons_cons _ (List.Sublist.cons_cons _ (List.Sublist.cons_cons _ (List.Sublist.cons_cons _ (List.Sublist.cons_cons _ (List.Sublist.cons_cons _ (List.Sublist.cons_cons _ (List.Sublist.cons_cons _ (List.Sublist.cons_cons _ List.Sublist.slnil)))))))))))))))))
 refine bH hh (iH [0, 1, 1] (j4 [0, 1, 1] Ar1 ar1 Br1 br1) _ _ _ (hh.lW (List.mem_of_getElem? (i := 14) rfl) (List.mem_of_getElem? (i := 15) rfl)) rfl rfl (hh.aW (i := 0) rfl) (by decide) (by decide) (by decide)) rfl ?_
 intro w68 hh
 replace hh := hh.sub (List.Sublist.cons _ (List.Sublist.cons_cons _ (List.Sublist.cons_cons _ (List.Sublist.cons_cons _ (List.Sublist.cons_cons _ (List.Sublist.cons_cons _ (List.Sublist.cons_cons _ (List.Sublist.cons_cons _ (List.Sublist.cons_cons _ (List.Sublist.cons_cons _ (List.Sublist.cons_cons _ (List.Sublist.cons_cons _ (List.Sublist.cons_cons _ (List.Sublist.cons_cons _ (List.Sublist.cons_cons _ (List.Sublist.cons_cons _ List.Sublist.slnil))))))))))))))))
 refine mB ?_
 first | refine gS ?_ | (refine gT ?_; refine cz hh 9 [_,_] ?_) | refine gV ?_
 first | refine gS ?_ | (refine gT ?_; refine mI ?_) | refine gV ?_
 first | (refine bB (by decide) rfl rfl (by decide) ?_) | (refine aR rfl rfl ?_; (refine aK hh (cs := [_, _, _]) aG.out aD.out (aQ rfl (aQ rfl (aQ rfl bF))) rfl rfl (by decide) (by decide) (by decide) rfl (by decide) ?_); (intro b72 w72 hh)) | (refine wl_guard_skipV (by decide) rfl rfl ?_)
 refine aR rfl rfl ?_
 refine bH hh (iH [3, 6, 3] (j4 [3, 6, 3] Ar2 ar2 Br2 br2) _ _ _ (hh.lW (List.mem_of_getElem? (i := 11) rfl) (List.mem_of_getElem? (i := 12) rfl)) rfl rfl (hh.aW (i := 0) rfl) (by decide) (by decide) (by decide)) rfl ?_
 intro w73 hh
 replace hh := hh.sub (List.Sublist.cons _ (List.Sublist.cons_cons _ (List.Sublist.cons_cons _ (List.Sublist.cons_cons _ (List.Sublist.cons_cons _ (List.Sublist.cons_cons _ (List.Sublist.cons_cons _ (List.Sublist.cons_cons _ (List.Sublist.cons_cons _ (List.Sublist.cons_cons _ (List.Sublist.cons_cons _ (List.Sublist.cons_cons _ (List.Sublist.cons_cons _ (List.Sublist.cons_cons _ (List.Sublist.cons_cons _ (List.Sublist.cons_cons _ List.Sublist.slnil))))))))))))))))
 first | refine cQ ?_ | refine cP ?_
 refine mB ?_
 first | refine gS ?_ | (refine gT ?_; refine cz hh 6 [_,_] ?_) | refine gV ?_
 first | refine gS ?_ | (refine gT ?_; refine mI ?_) | refine gV ?_
 first | (refine bB (by decide) rfl rfl (by decide) ?_) | (refine aR rfl rfl ?_; (refine aK hh (cs := [_, _]) aG.out aD.out (aQ rfl (aQ rfl bF)) rfl rfl (by decide) (by decide) (by decide) rfl (by decide) ?_); (intro b78 w78 hh)) | (refine wl_guard_skipV (by decide) rfl rfl ?_)
 refine aR rfl rfl ?_
 refine bH hh (iH [3, 4] (j4 [3, 4] Ar3 ar3 Br3 br3) _ _ _ (hh.lW (List.mem_of_getElem? (i := 8) rfl) (List.mem_of_getElem? (i := 9) rfl)) rfl rfl (hh.aW (i := 0) rfl) (by decide) (by decide) (by decide)) rfl ?_
 intro w79 hh
 replace hh := hh.sub (List.Sublist.cons _ (List.Sublist.cons_cons _ (List.Sublist.cons_cons _ (List.Sublist.cons_cons _ (List.Sublist.cons_cons _ (List.Sublist.cons_cons _ (List.Sublist.cons_cons _ (List.Sublist.cons_cons _ (List.Sublist.cons_cons _ (List.Sublist.cons_cons _ (List.Sublist.cons_cons _ (List.Sublist.cons_cons _ (List.Sublist.cons_cons _ (List.Sublist.cons_cons _ (List.Sublist.cons_cons _ (List.Sublist.cons_cons _ List.Sublist.slnil))))))))))))))))
 first | refine cQ ?_ | refine cP ?_
 refine mB ?_
 first | refine gS ?_ | (refine gT ?_; refine cz hh 3 [_,_] ?_) | refine gV ?_
 first | refine gS ?_ | (refine gT ?_; refine mI ?_) | refine gV ?_
 first | (refine bB (by decide) rfl rfl (by decide) ?_) | (refine aR rfl rfl ?_; (refine aK hh (cs := [_, _, _]) aG.out aD.out (aQ rfl (aQ rfl (aQ rfl bF))) rfl rfl (by decide) (by decide) (by decide) rfl (by decide) ?_); (intro b84 w84 hh)) | (refine wl_guard_skipV (by decide) rfl rfl ?_)
 refine aR rfl rfl ?_
 refine bH hh (iH [0, 0, 1] (j4 [0, 0, 1] Ar4 ar4 Br4 br4) _ _ _ (hh.lW (List.mem_of_getElem? (i := 5) rfl) (List.mem_of_getElem? (i := 6) rfl)) rfl rfl (hh.aW (i := 0) rfl) (by decide) (by decide) (by decide)) rfl ?_
 intro w85 hh
 replace hh := hh.sub (List.Sublist.cons _ (List.Sublist.cons_cons _ (List.Sublist.cons_cons _ (List.Sublist.cons_cons _ (List.Sublist.cons_cons _ (List.Sublist.cons_cons _ (List.Sublist.cons_cons _ (List.Sublist.cons_cons _ (List.Sublist.cons_cons _ (List.Sublist.cons_cons _ (List.Sublist.cons_cons _ (List.Sublist.cons_cons _ (List.Sublist.cons_cons _ (List.Sublist.cons_cons _ (List.Sublist.cons_cons _ (List.Sublist.cons_cons _ List.Sublist.slnil))))))))))))))))
 first | refine cQ ?_ | refine cP ?_
 refine mB ?_
 first | refine gS ?_ | (refine gT ?_; refine cz hh 0 [_,_] ?_) | refine gV ?_
 first | refine gS ?_ | (refine gT ?_; refine mI ?_) | refine gV ?_
 first | (refine bB (by decide) rfl rfl (by decide) ?_) | (refine aR rfl rfl ?_; (refine aK hh (cs := [_, _, _]) aG.out aD.out (aQ rfl (aQ rfl (aQ rfl bF))) rfl rfl (by decide) (by decide) (by decide) rfl (by decide) ?_); (intro b90 w90 hh)) | (refine wl_guard_skipV (by decide) rfl rfl ?_)
 refine aR rfl rfl ?_
 refine bH hh (iH [1, 2, 1] (j4 [1, 2, 1] Ar5 ar5 Br5 br5) _ _ _ (hh.lW (List.mem_of_getElem? (i := 2) rfl) (List.mem_of_getElem? (i := 3) rfl)) rfl rfl (hh.aW (i := 0) rfl) (by decide) (by decide) (by decide)) rfl ?_
 intro w91 hh
 replace hh := hh.sub (List.Sublist.cons _ (List.Sublist.cons_cons _ (List.Sublist.cons_cons _ (List.Sublist.cons_cons _ (List.Sublist.cons_cons _ (List.Sublist.cons_cons _ (List.Sublist.cons_cons _ (List.Sublist.cons_cons _ (List.Sublist.cons_cons _ (List.Sublist.cons_cons _ (List.Sublist.cons_cons _ (List.Sublist.cons_cons _ (List.Sublist.cons_cons _ (List.Sublist.cons_cons _ (List.Sublist.cons_cons _ (List.Sublist.cons_cons _ List.Sublist.slnil))))))))))))))))
 first | refine cQ ?_ | refine cP ?_
 refine mB ?_
 first | refine gS ?_ | (refine gT ?_; refine mI ?_) | refine gV ?_
 first | refine gS ?_ | (refine gT ?_; refine dN ?_) | refine gV ?_
 first | refine cQ ?_ | refine cP ?_
 refine mB ?_
 first | refine gS ?_ | (refine gT ?_; refine mI ?_) | refine gV ?_
 first | refine gS ?_ | (refine gT ?_; refine dN ?_) | refine gV ?_
 first | refine cQ ?_ | refine cP ?_
 refine aB (aa (aq ?_))
 refine cu ?_
 exact ⟨rfl, hh.below⟩
end Go.Proofs.YtioilmppidlbnaaGreatDoor
/- The walk through the law LiftRaises. -/
namespace Go.Proofs.YtioilmppidlbnaaGreatDoor
open Go.RowKit
theorem yC {α : Type} {x : α} {H R : List α} (n : Nat) (h : H.drop n = R) (hx : x ∈ R) : x ∈ H := List.mem_of_mem_drop (h ▸ hx)
theorem Kept.Ay {w w' : World} {fs : List FX} {R H : List HE} {g : FX} (n : Nat) (h : Kept fs R g) (hf : ∀ f ∈ fs, f.at_ w) (hh : Hp w H w') (hd : H.drop n = R) : g.at_ w' := h.at_ hf (fun _ hx => yC n hd hx) hh
theorem lO (fa g : FX) (E : Option Addr) (q cE : Nat) (es : List Int) (c : NR) (w : World) (hT : gH w) (hf : fa.at_ w) (hg : g.at_ w) (hE : Sl w E q 1 (bA es)) :
  Calls Tryz.prog 4 #[.agg #[.slice fa.A fa.n fa.a, .slice fa.B fa.m fa.b], .agg #[.slice g.A g.n g.a, .slice g.B g.m g.b], .slice E q cE, .agg #[.bool c.neg, .string c.ct, .int .i64 c.e]] w fun r w' => r = .returned (.bool true) ∧ Below w.heap.size w w' := by
 have hh := Hp.start w
 refine al (N := 151) (l := [.agg #[.slice fa.A fa.n fa.a, .slice fa.B fa.m fa.b], .agg #[.slice g.A g.n g.a, .slice g.B g.m g.b], .slice E q cE, .agg #[.bool c.neg, .string c.ct, .int .i64 c.e]]) Tryz.func4 rfl rfl (by simp) ?_
 refine sr ?_
 refine cS hh [_,_] ?_
 intro b4 w4 hh
 refine cS hh [_,_] ?_
 intro b5 w5 hh
 refine cS hh [_,_,_] ?_
 intro b7 w7 hh
 refine aB (aa (ah (sr ?_)))
 refine cz hh 2 [_,_] ?_
 refine aT (kL fa _ (hf.ext hh.below)) az.out rfl (by decide) ?_
 rintro e_ w25 ⟨p1, rfl, hs, hb_⟩
 refine ⟨_, rfl, ?_⟩
 replace hh := hh.ext hb_
 cases p1 with
 | true =>
  refine mB ?_
  first | refine gS ?_ | (refine gT ?_; refine mL ?_) | refine gV ?_
  first | refine bB (by decide) rfl rfl (by decide) ?_ | refine wl_guard_skipV (by decide) rfl rfl ?_
  first | refine cQ ?_ | refine cP ?_
  refine mB ?_
  first | refine gS ?_ | (refine gT ?_; refine cz hh 2 [_,_] ?_) | refine gV ?_
  first | refine gS ?_ | (refine gT ?_; refine cz hh 1 [_,_] ?_) | refine gV ?_
  first | (refine bB (by decide) rfl rfl (by decide) ?_) | (refine aR rfl rfl ?_; (refine aK hh (cs := [_, _, _, _]) aG.out aD.out (aQ (cA rfl) (aQ (cA rfl) bF)) rfl rfl (by decide) (by decide) (by decide) rfl (by decide) ?_); (intro b33 w33 hh)) | (refine wl_guard_skipV (by decide) rfl rfl ?_)
  first | refine bB (by decide) rfl rfl (by decide) ?_ | refine wl_guard_skipV (by decide) rfl rfl ?_
  first | refine cQ ?_ | refine cP ?_
  refine mB ?_
  first | refine gS ?_ | (refine gT ?_; refine cz hh 1 [_,_,_] ?_) | refine gV ?_
  first | refine bB (by decide) rfl rfl (by decide) ?_ | refine wl_guard_skipV (by decide) rfl rfl ?_
  first | refine cQ ?_ | refine cP ?_
  refine aa (cT (sr ?_))
  refine bH hh (fi _ (hT.hp hh)) rfl ?_
  intro w40 hh
  refine aB (aa (aq (aH ?_)))
  refine cu ?_
  exact ⟨rfl, hh.below⟩
 | false =>
  have hs := hs rfl
  refine mB ?_
  first | refine gS ?_ | (refine gT ?_; refine mL ?_) | refine gV ?_
  refine aR rfl rfl ?_
  refine aT (kS E q cE es _ (hE.ext hh.below)) az.out rfl (by decide) ?_
  rintro e_ w28 ⟨p2, rfl, hq, hb_⟩
  refine ⟨_, rfl, ?_⟩
  replace hh := hh.ext hb_
  cases p2 with
  | true =>
   first | refine cQ ?_ | refine cP ?_
   refine mB ?_
   first | refine gS ?_ | (refine gT ?_; refine cz hh 2 [_,_] ?_) | refine gV ?_
   first | refine gS ?_ | (refine gT ?_; refine cz hh 1 [_,_] ?_) | refine gV ?_
   first | (refine bB (by decide) rfl rfl (by decide) ?_) | (refine aR rfl rfl ?_; (refine aK hh (cs := [_, _, _, _]) aG.out aD.out (aQ (cA rfl) (aQ (cA rfl) bF)) rfl rfl (by decide) (by decide) (by decide) rfl (by decide) ?_); (intro b33 w33 hh)) | (refine wl_guard_skipV (by decide) rfl rfl ?_)
   first | refine bB (by decide) rfl rfl (by decide) ?_ | refine wl_guard_skipV (by decide) rfl rfl ?_
   first | refine cQ ?_ | refine cP ?_
   refine mB ?_
   first | refine gS ?_ | (refine gT ?_; refine cz hh 1 [_,_,_] ?_) | refine gV ?_
   first | refine bB (by decide) rfl rfl (by decide) ?_ | refine wl_guard_skipV (by decide) rfl rfl ?_
   first | refine cQ ?_ | refine cP ?_
   refine aa (cT (sr ?_))
   refine bH hh (fi _ (hT.hp hh)) rfl ?_
   intro w40 hh
   refine aB (aa (aq (aH ?_)))
   refine cu ?_
   exact ⟨rfl, hh.below⟩
  | false =>
   have hq := hq rfl
   first | refine cQ ?_ | refine cP ?_
   refine mB ?_
   first | refine gS ?_ | (refine gT ?_; refine cz hh 2 [_,_] ?_) | refine gV ?_
   first | refine gS ?_ | (refine gT ?_; refine cz hh 1 [_,_] ?_) | refine gV ?_
   first | (refine bB (by decide) rfl rfl (by decide) ?_) | (refine aR rfl rfl ?_; (refine aK hh (cs := [_, _, _, _]) aG.out aD.out (aQ (cA rfl) (aQ (cA rfl) bF)) rfl rfl (by decide) (by decide) (by decide) rfl (by decide) ?_); (intro b33 w33 hh)) | (refine wl_guard_skipV (by decide) rfl rfl ?_)
   refine aR rfl rfl ?_
   refine aT (qy _ 2 _ [fa, g] _ (hh.aW (i := 0) rfl) (by simpa using ⟨hf.ext hh.below, hg.ext hh.below⟩)) az.out rfl (by decide) ?_
   rintro e_ w34 ⟨p3, rfl, hm, hb_⟩
   refine ⟨_, rfl, ?_⟩
   replace hh := hh.ext hb_
   replace hh := hh.sub (List.Sublist.cons _ (List.Sublist.cons_cons _ (List.Sublist.cons_cons _ (List.Sublist.cons_cons _ List.Sublist.slnil))))
   cases p3 with
   | true =>
    first | refine cQ ?_ | refine cP ?_
    refine mB ?_
    first | refine gS ?_ | (refine gT ?_; refine cz hh 0 [_,_,_] ?_) | refine gV ?_
    first | refine bB (by decide) rfl rfl (by decide) ?_ | refine wl_guard_skipV (by decide) rfl rfl ?_
    first | refine cQ ?_ | refine cP ?_
    refine aa (cT (sr ?_))
    refine bH hh (fi _ (hT.hp hh)) rfl ?_
    intro w40 hh
    refine aB (aa (aq (aH ?_)))
    refine cu ?_
    exact ⟨rfl, hh.below⟩
   | false =>
    have hgs := (hm rfl).2 g (by simp)
    have hfc := fun w1 => nB c w1
    first | refine cQ ?_ | refine cP ?_
    refine mB ?_
    first | refine gS ?_ | (refine gT ?_; refine cz hh 0 [_,_,_] ?_) | refine gV ?_
    cases hfr : pn c with
    | true =>
     rw [hfr] at hfc
     refine aR rfl rfl ?_
     refine bH hh (hfc _) rfl ?_
     intro w38 hh
     first | refine cQ ?_ | refine cP ?_
     refine aa (cT (sr ?_))
     refine bH hh (fi _ (hT.hp hh)) rfl ?_
     intro w40 hh
     refine aB (aa (aq (aH ?_)))
     refine cu ?_
     exact ⟨rfl, hh.below⟩
    | false =>
     rw [hfr] at hfc
     obtain ⟨hco, hcz⟩ := zF hfr
     obtain ⟨hsl, hsm, hsn⟩ := hs
     obtain ⟨hgl, hgm, hgn⟩ := hgs
     refine aR rfl rfl ?_
     refine bH hh (hfc _) rfl ?_
     intro w38 hh
     first | refine cQ ?_ | refine cP ?_
     refine aa (cF (ak (ai (sr ?_))))
     refine cz hh 2 [_,_] ?_
     refine aT (Ab fa _ (hf.ext hh.below) (by omega) (by omega)) az.out rfl (by decide) ?_
     rintro e_ w42 ⟨o, R, d1, d2, d3, d4, rfl, hmi, h2⟩
     refine ⟨_, rfl, ?_⟩
     replace hh : Hp w (_ :: _ :: _ :: R) _ := (hh.join h2).perm List.perm_append_comm
     clear h2
     have hol : o.cs.length = o.m := by rw [d2, d4]; exact hf.ln.2
     have ol : o.gJ 124 := ⟨by rw [d3]; omega, by rw [d4]; omega, by rw [d2]; exact hsl.num⟩
     have hom : o.m ≤ 200 := by omega
     have hon : o.n ≤ 100000 := by omega
     have q1 : gK o es = gK fa es := by unfold gK FX.e; rw [d1, d2]
     have q2 : ∀ D, fQ D o = fQ D fa := fun D => by unfold fQ FX.ns; rw [d1, d2]
     have q3 : o.e = fa.e := by unfold FX.e; rw [d1, d2]
     have q4 : o.ns = fa.ns := by unfold FX.ns; rw [d1]
     have hra := fun E c w1 hT1 ho hE => nk o E q c es 124 w1 hT1 ho ol hom hE (by omega) (by omega)
     simp only [q1, q2] at hra
     obtain ⟨k1, k2, k3, -⟩ := vX (fs := [o, g]) (gs := [fa, g]) (by simp [FX.key, d1, d2, d3])
     have hbo := fun w1 hT1 ho hg => xK o g 124 w1 hT1 ho hg ol hgl hom (by omega) (by omega)
     rw [k2, k3, q2] at hbo
     have hsc := fun w1 hT1 ho => wx o c 124 w1 hT1 ho ol hco hcz (by omega)
     rw [q3, q4, d2] at hsc
     clear k1 k2 k3 q1 q2 q3 q4
     refine eZ hh aG.out aD.out (by decide) ?_
     intro b43 w43 hh
     refine mL ?_
     refine cv hh (i := 0) rfl rfl rfl (hE.ext hh.below) aG.out aD.out rfl (by decide) ?one3 (by omega) (by omega) (by decide) ?kk3
     case one3 => first | rfl | assumption | exact bD _ | exact oneCells_u8s _
     intro A45 c45 w45 hh
     simp only [List.set_cons_zero] at hh
     rw [Nat.zero_add q]
     rw [Nat.zero_add, List.nil_append] at hh
     refine cG hh ?_
     intro b9 w9 hh
     refine bP hh 0 [_,_] ?_
     intro ws hh
     replace hh : Hp _ (.blk _ _ [_, _] _ :: _) _ := hh
     refine aL (aa (sr ?_))
     refine cz hh 0 [_,_] (mL ?_)
     refine aT (hra _ _ _ (hT.hp hh) (hmi.at_ hol (fun x hx => by simp [hx]) hh) (hh.aW (i := 1) rfl)) az.out rfl (by decide) ?_
     rintro e_ w49 ⟨x1, o1, rfl, h2⟩
     refine ⟨_, rfl, ?_⟩
     replace hh := hh.join h2
     clear h2
     refine mT ?_
     refine ee ?_
     refine ee ?_
     refine cG hh ?_
     intro b11 w11 hh
     refine bP hh 0 [_,_] ?_
     intro ws hh
     replace hh : Hp _ (.blk _ _ [_, _] _ :: _) _ := hh
     refine aI (aa (sr ?_))
     refine cz hh 7 [_,_] (mL ?_)
     refine aT (vG fa E q cE 124 es _ (hf.ext hh.below) hsl (hE.ext hh.below) (by omega) (by omega)) az.out rfl (by decide) ?_
     rintro e_ w55 ⟨y1, R2, o2, hk2, rfl, h2⟩
     refine ⟨_, rfl, ?_⟩
     replace hh : Hp w (_ :: _ :: _ :: _ :: _ :: _ :: _ :: _ :: (R ++ R2)) _ := (hh.join h2).perm List.perm_append_comm
     have y1k : Kept [fa] (R ++ R2) y1 := hk2.sub fun x hx => List.mem_append_right _ hx
     clear h2 hk2
     have hf1 : ∀ z ∈ [fa], z.at_ w := by simpa using hf
     refine mT ?_
     refine ee ?_
     refine ee ?_
     refine cG hh ?_
     intro b13 w13 hh
     refine bP hh 0 [_,_] ?_
     intro ws hh
     replace hh : Hp _ (.blk _ _ [_, _] _ :: _) _ := hh
     refine aI (aa (ah (sr (mI (mI ?_)))))
     refine dn (mB ?_)
     first | refine gS ?_ | (refine gT ?_; refine cz hh 1 [_,_] ?_) | refine gV ?_
     first | refine gS ?_ | (refine gT ?_; refine cz hh 0 [_,_] ?_) | refine gV ?_
     refine aR rfl rfl ?_
     refine bH hh (eG x1 y1 _ (hh.lW (List.mem_of_getElem? (i := 2) rfl) (List.mem_of_getElem? (i := 3) rfl)) (y1k.Ay 9 hf1 hh rfl) (o1.same o2) o1.n o1.m) rfl ?_
     intro w64 hh
     first | refine gS ?_ | (refine gT ?_; refine sZ ?_) | refine gV ?_
     first | refine cQ ?_ | refine cP ?_
     refine aa (cF (ak (ai (sr ?_))))
     refine cz hh 4 [_,_] ?_
     refine cz hh 7 [_,_] ?_
     have hra := fun A cc w1 (hb : Below w.heap.size w w1) hS => rR A 2 cc [fa, g] 124 w1 hS (by omega) (by simpa using ⟨hf.ext hb, hg.ext hb⟩) (by simpa using ⟨hsl, hgl⟩) (by omega)
     by_cases hE0 : bZ [fa, g] = 0
     ·rw [hE0] at hbo
      have hrb := fun A cc w1 hb hS => (hra A cc w1 hb hS).mono fun r w' h => show ∃ (A : Option Addr) (a : Nat) (l0 l1 : FX) (R : List HE), Out 0 (maxD [fa, g]) (fQ (maxD [fa, g]) fa) l0 ∧ Out 0 (maxD [fa, g]) (fQ (maxD [fa, g]) g) l1 ∧ Kept [fa, g] R l0 ∧ Kept [fa, g] R l1 ∧ r = .returned (.tuple #[.slice A 2 a, .int .i64 0]) ∧ Hp w1 (.row A 2 a 28 2 (bR FX.cells [l0, l1]) :: R) w' from by
       obtain ⟨_, h3, h4⟩ := lG hE0 (by simpa using ⟨hf.ln.1, hg.ln.1⟩)
       rcases h with h | ⟨_, A, a, gs, R, h5, h6, h7, h8, h9⟩
       ·exact absurd hE0 h.1
       ·obtain ⟨l0, l1, rfl⟩ : ∃ x y, gs = [x, y] := by
         match gs, h6 with
         | [x, y], _ => exact ⟨x, y, rfl⟩
        exact ⟨A, a, l0, l1, R, (h7 0 fa l0 rfl rfl).out h3 h4, (h7 1 g l1 rfl rfl).out h3 h4, h8 l0 (by simp), h8 l1 (by simp), h5, h9⟩
      clear hra
      refine aT (hbo _ (hT.hp hh) (hmi.at_ hol (fun x hx => by simp [hx]) hh) (hg.ext hh.below)) az.out rfl (by decide) ?_
      rintro e_ w70 ⟨x2, y2, ox, oy, rfl, h2⟩
      refine ⟨_, rfl, ?_⟩
      replace hh := hh.join h2
      clear h2
      refine mT ?_
      refine ee ?_
      refine ee ?_
      refine ee ?_
      refine cG hh ?_
      intro b15 w15 hh
      refine cG hh ?_
      intro b16 w16 hh
      refine bP hh 1 [_,_] ?_
      intro ws hh
      replace hh : Hp _ (_ :: .blk _ _ [_, _] _ :: _) _ := hh
      refine bP hh 0 [_,_] ?_
      intro ws hh
      replace hh : Hp _ (.blk _ _ [_, _] _ :: _) _ := hh
      refine aI (aa (sr ?_))
      refine cz hh 14 [_,_] ?_
      refine cz hh 13 [_,_] ?_
      refine aK hh (cs := [_, _, _, _]) aG.out aD.out (aQ (cA rfl) (aQ (cA rfl) bF)) rfl rfl (by decide) (by decide) (by decide) rfl (by decide) ?_
      intro b77 w77 hh
      refine aT (hrb _ _ _ hh.below (hh.aW (i := 0) rfl)) az.out rfl (by decide) ?_
      rintro e_ w78 ⟨A3, a3, l0, l1, R3, m0, m1, kp0, kp1, rfl, h2⟩
      refine ⟨_, rfl, ?_⟩
      replace hh : Hp w (_ :: _ :: _ :: _ :: _ :: _ :: _ :: _ :: _ :: _ :: _ :: _ :: _ :: _ :: _ :: _ :: _ :: (R ++ R2 ++ R3)) _ := (hh.join h2).perm (List.Perm.cons _ List.perm_append_comm)
      clear h2
      replace kp0 := kp0.sub (R' := R ++ R2 ++ R3) fun x hx => List.mem_append_right _ hx
      replace kp1 := kp1.sub (R' := R ++ R2 ++ R3) fun x hx => List.mem_append_right _ hx
      obtain ⟨g3, rfl⟩ := hh.dw (i := 0) rfl (by omega)
      refine mT ?_
      refine ee ?_
      refine ee ?_
      refine aL (aI (aa (ah (ah ?_))))
      have hl0 : [l0, l1][0]? = some l0 := rfl
      have hl1 : [l0, l1][1]? = some l1 := rfl
      have hf2 : ∀ z ∈ [fa, g], z.at_ w := by simpa using ⟨hf, hg⟩
      refine lv [] [] [0, 0, 3, 7, 15, 31, 63, 127, 127, 383, 895, 2047, 4095, 8191, 16383, 16383, 49151, 114687, 262143, 524287, 1048575, 2097151, 4194303, 8388607, 16777215, 33554431, 67108863, 134217727, 268435455, 536870911, 134217727, 1207959551, 3355443199, 8589934591, 17179869183, 34359738367, 68719476735] 33 [[(17, none)], [(19, none)], [(81, some 0), (82, some 1)], [(83, some 2)], [(19, none), (84, some 3)], [(85, some 4), (84, some 3)], [(86, some 5), (84, some 3)], [(15, none), (87, some 6)], [(18, none), (87, some 6)], [(89, some 8), (87, some 6)], [(90, some 9), (87, some 6)], [(88, some 7), (91, some 10), (87, some 6)], [(92, some 11), (87, some 6)], [(93, some 12), (87, some 6)], [(16, none), (94, some 13)], [(18, none), (94, some 13)], [(96, some 15), (94, some 13)], [(97, some 16), (94, some 13)], [(95, some 14), (98, some 17), (94, some 13)], [(99, some 18), (94, some 13)], [(94, some 13), (100, some 19), (87, some 6)], [(87, some 6), (101, some 20), (84, some 3)], [(84, some 3), (102, some 21)], [(103, some 22)], [(19, none), (104, some 23)], [(105, some 24), (104, some 23)], [(106, some 25), (104, some 23)], [(15, none), (107, some 26)], [(108, some 27), (107, some 26)], [(109, some 28), (107, some 26)], [(16, none), (107, some 26)], [(111, some 30), (107, some 26)], [(112, some 31), (107, some 26)]] [(32, 113), (31, 112), (30, 111), (29, 110), (28, 109), (27, 108), (26, 107), (25, 106), (24, 105), (23, 104), (22, 103), (21, 102), (20, 101), (19, 100), (18, 99), (17, 98), (16, 97), (15, 96), (14, 95), (13, 94), (12, 93), (11, 92), (10, 91), (9, 90), (8, 89), (7, 88), (6, 87), (5, 86), (4, 85), (3, 84), (2, 83), (1, 82), (0, 81)] hh mixed (by kernel_rfl) nh rfl (by repeat (first | exact sD | refine pT ?_ | refine sP ?_)) ?_
      refine dD ?_
      refine dD ?_
      refine wX ?_
      refine tP ?_
      first | refine dS ?_ | refine dU ?_ | refine dG (dD ?_)
      first | refine dS ?_ | refine dU ?_ | refine dG (yZ ?_)
      first | refine dS ?_ | refine dU ?_ | refine dG (tP ?_)
      first | refine dS ?_ | refine dU ?_ | refine dG (gk 3 [_,_] ?_)
      first | refine dS ?_ | refine dU ?_ | refine dG (fk ?_)
      first | refine dS ?_ | refine dU ?_ | refine dG (re (0) ?_)
      first | refine dS ?_ | refine dU ?_ | refine dG (pW [_,_] (fun _ hj => hj.hp.fZ (f := FX.cells) (x := l0) (l := [l0, l1]) (i := 0) rfl FX.len (by decide) hl0) ?_)
      refine ld (i := 11) rfl (fun ρ1 w1 hj hR => (show ρ1 87 = Value.bool _ from hR.2.2.1)) (fun ρ1 w1 hj hR => dE az.out (bC (show ρ1 88 = Value.agg (List.toArray _) from hR.1) (bC (show ρ1 91 = Value.agg (List.toArray _) from hR.2.1) cY))) (fun w1 hj => eG x2 l0 _ (hj.hp.lW (List.mem_of_getElem? (i := 6) rfl) (List.mem_of_getElem? (i := 7) rfl)) (kp0.Ay 17 hf2 hj.hp rfl) (ox.same m0) ox.n ox.m) ?_
      first | refine dS ?_ | refine dU ?_ | refine dG (wJ ?_)
      first | refine dS ?_ | refine dU ?_ | refine dG (tP ?_)
      first | refine dS ?_ | refine dU ?_ | refine dG (gk 2 [_,_] ?_)
      first | refine dS ?_ | refine dU ?_ | refine dG (fk ?_)
      first | refine dS ?_ | refine dU ?_ | refine dG (re (1) ?_)
      first | refine dS ?_ | refine dU ?_ | refine dG (pW [_,_] (fun _ hj => hj.hp.fZ (f := FX.cells) (x := l1) (l := [l0, l1]) (i := 0) rfl FX.len (by decide) hl1) ?_)
      refine ld (i := 18) rfl (fun ρ1 w1 hj hR => (show ρ1 94 = Value.bool _ from hR.2.2.1)) (fun ρ1 w1 hj hR => dE az.out (bC (show ρ1 95 = Value.agg (List.toArray _) from hR.1) (bC (show ρ1 98 = Value.agg (List.toArray _) from hR.2.1) cY))) (fun w1 hj => eG y2 l1 _ (hj.hp.lW (List.mem_of_getElem? (i := 4) rfl) (List.mem_of_getElem? (i := 5) rfl)) (kp1.Ay 17 hf2 hj.hp rfl) (oy.same m1) oy.n oy.m) ?_
      first | refine dS ?_ | refine dU ?_ | refine dG (wJ ?_)
      first | refine dS ?_ | refine dU ?_ | refine dG (zt ?_) | refine dG (zu ?_)
      first | refine dS ?_ | refine dU ?_ | refine dG (zt ?_) | refine dG (zu ?_)
      first | refine zt ?_ | refine zu ?_
      refine tP ?_
      first | refine dS ?_ | refine dU ?_ | refine dG (dD ?_)
      first | refine dS ?_ | refine dU ?_ | refine dG (wX ?_)
      first | refine dS ?_ | refine dU ?_ | refine dG (tP ?_)
      first | refine dS ?_ | refine dU ?_ | refine dG (dI ?_)
      first | refine dS ?_ | refine dU ?_ | refine dG (ef 3 ?_)
      first | refine dS ?_ | refine dU ?_ | refine dG (j0 ?_)
      first | refine dS ?_ | refine dU ?_ | refine dG (dI ?_)
      first | refine dS ?_ | refine dU ?_ | refine dG (ef 2 ?_)
      first | refine dS ?_ | refine dU ?_ | refine dG (j0 ?_)
      refine bo ?_
      intro f W hJ hV _
      have hb_10 := hJ.bl
      obtain ⟨v113, v112, v111, v110, v109, v108, v107, v106, v105, v104, v103, v102, v101, v100, v99, v98, v97, v96, v95, v94, v93, v92, v91, v90, v89, v88, v87, v86, v85, v84, v83, v82, v81, _⟩ := hV
      replace hh := hJ.hp
      refine aY (bm (ae v113 (ae v112 (ae v111 (ae v110 (ae v109 (ae v108 (ae v107 (ae v106 (ae v105 (ae v104 (ae v103 (ae v102 (ae v101 (ae v100 (ae v99 (ae v98 (ae v97 (ae v96 (ae v95 (ae v94 (ae v93 (ae v92 (ae v91 (ae v90 (ae v89 (ae v88 (ae v87 (ae v86 (ae v85 (ae v84 (ae v83 (ae v82 (ae v81 aX)))))))))))))))))))))))))))))))))) ?_
      dsimp only [cj]
      clear hJ
      first | refine gS ?_ | (refine gT ?_; refine bu ?_) | refine gV ?_
      first | refine gS ?_ | (refine gT ?_; refine dn ?_) | refine gV ?_
      first | refine gS ?_ | (refine gT ?_; (first | refine cQ ?_ | refine cP ?_)) | refine gV ?_
      first | refine cQ ?_ | refine cP ?_
      refine aa (cF (ak (ai (sr ?_))))
      refine cz hh 12 [_,_] ?_
      refine cz hh 14 [_,_,_] ?_
      replace hh := hh.sub (List.Sublist.cons _ (List.Sublist.cons _ (List.Sublist.cons_cons _ (List.Sublist.cons_cons _ (List.Sublist.cons_cons _ (List.Sublist.cons _ (List.Sublist.cons_cons _ (List.Sublist.cons _ (List.Sublist.cons _ (List.Sublist.cons_cons _ (List.Sublist.cons_cons _ (List.Sublist.cons_cons _ (List.Sublist.cons_cons _ (List.Sublist.cons_cons _ (List.Sublist.cons_cons _ (List.Sublist.cons_cons _ (List.Sublist.cons_cons _ (List.Sublist.refl _))))))))))))))))))
      obtain ⟨R', hsub, hh⟩ : ∃ R', (∀ x ∈ R, x ∈ R') ∧ Hp w (_ :: _ :: _ :: _ :: _ :: _ :: _ :: _ :: _ :: _ :: _ :: _ :: R') _ := ⟨_, fun x hx => by simp [hx], hh⟩
      refine aT (hsc _ (hT.hp hh) (hmi.at_ hol (fun x hx => by simp [hsub x hx]) hh)) az.out rfl (by decide) ?_
      rintro e_ w121 ⟨x3, o3, rfl, h2⟩
      refine ⟨_, rfl, ?_⟩
      replace hh := hh.join h2
      clear h2
      refine mT ?_
      refine ee ?_
      refine ee ?_
      refine cG hh ?_
      intro b20 w20 hh
      refine bP hh 0 [_,_] ?_
      intro ws hh
      replace hh : Hp _ (.blk _ _ [_, _] _ :: _) _ := hh
      refine aI (aa (sr ?_))
      refine cz hh 14 [_,_] ?_
      refine cz hh 12 [_,_,_] ?_
      refine aT (q8 fa c 124 _ (hf.ext hh.below) hsl hco) az.out rfl (by decide) ?_
      rintro e_ w127 ⟨y3, o4, rfl, h2⟩
      refine ⟨_, rfl, ?_⟩
      replace hh := hh.join h2
      clear h2
      refine mT ?_
      refine ee ?_
      refine ee ?_
      refine cG hh ?_
      intro b22 w22 hh
      refine bP hh 0 [_,_] ?_
      intro ws hh
      replace hh : Hp _ (.blk _ _ [_, _] _ :: _) _ := hh
      refine aI (aa (ah (sr (mI (mI ?_)))))
      refine dn (mB ?_)
      first | refine gS ?_ | (refine gT ?_; refine cz hh 3 [_,_] ?_) | refine gV ?_
      first | refine gS ?_ | (refine gT ?_; refine cz hh 0 [_,_] ?_) | refine gV ?_
      refine aR rfl rfl ?_
      refine bH hh (eG x3 y3 _ (hh.lW (List.mem_of_getElem? (i := 4) rfl) (List.mem_of_getElem? (i := 5) rfl)) (hh.lW (List.mem_of_getElem? (i := 1) rfl) (List.mem_of_getElem? (i := 2) rfl)) (o3.same o4) o3.n o3.m) rfl ?_
      intro w136 hh
      replace hh := hh.sub (List.Sublist.cons _ (List.Sublist.cons _ (List.Sublist.cons _ (List.Sublist.cons_cons _ (List.Sublist.cons_cons _ (List.Sublist.cons _ (List.Sublist.cons _ (List.Sublist.cons_cons _ (List.Sublist.cons _ (List.Sublist.cons_cons _ (List.Sublist.cons_cons _ (List.Sublist.cons_cons _ (List.Sublist.cons _ (List.Sublist.cons_cons _ (List.Sublist.cons _ (List.Sublist.cons _ (List.Sublist.cons _ (List.Sublist.cons_cons _ (List.Sublist.refl _)))))))))))))))))))
      first | refine gS ?_ | (refine gT ?_; refine sZ ?_) | refine gV ?_
      first | refine cQ ?_ | refine cP ?_
      refine aa (cF (ak (ai (sr (bJ ?_)))))
      refine bO hh 4 ?_
      replace hh := hh.perm (List.perm_middle (l₁ := [_, _, _, _, _]))
      simp only [List.cons_append, List.nil_append] at hh
      refine iJ hh (i := 0) rfl rfl aG.out aD.out rfl rfl ?_
      intro wc hh
      simp only [List.set_cons_zero] at hh
      replace hh := hh.sub (List.Sublist.cons _ (List.Sublist.cons_cons _ (List.Sublist.cons_cons _ (List.Sublist.cons_cons _ (List.Sublist.cons_cons _ (List.Sublist.cons _ (List.Sublist.cons_cons _ (List.Sublist.cons_cons _ (List.Sublist.refl _)))))))))
      refine aa (sr (bJ ?_))
      refine bO hh 2 ?_
      replace hh := hh.perm (List.perm_middle (l₁ := [_, _, _]))
      simp only [List.cons_append, List.nil_append] at hh
      refine iJ hh (i := 0) rfl rfl aG.out aD.out rfl rfl ?_
      intro wc hh
      simp only [List.set_cons_zero] at hh
      replace hh := hh.sub (List.Sublist.cons _ (List.Sublist.cons_cons _ (List.Sublist.cons_cons _ (List.Sublist.cons _ (List.Sublist.cons_cons _ (List.Sublist.cons_cons _ (List.Sublist.refl _)))))))
      refine aa (sr (bJ ?_))
      refine bO hh 0 ?_
      replace hh := hh.perm (List.perm_middle (l₁ := [_]))
      simp only [List.cons_append, List.nil_append] at hh
      refine iJ hh (i := 0) rfl rfl aG.out aD.out rfl rfl ?_
      intro wc hh
      simp only [List.set_cons_zero] at hh
      replace hh := hh.sub (List.Sublist.cons _ (List.Sublist.cons _ (List.Sublist.cons_cons _ (List.Sublist.cons_cons _ (List.Sublist.refl _)))))
      refine aa (sr ?_)
      refine cz hh 0 [_,_] ?_
      refine cz hh 1 [_,_] ?_
      refine bH hh (eG o fa _ (hmi.at_ hol (fun x hx => by simp [hsub x hx]) hh) (hf.ext hh.below) ⟨d1, d2⟩ hon (by omega)) rfl ?_
      intro w147 hh
      refine mB ?_
      refine aR rfl rfl ?_
      refine bH hh (fi _ (hT.hp hh)) rfl ?_
      intro w149 hh
      first | refine cQ ?_ | refine cP ?_
      refine aB (aa (aq ?_))
      refine cu ?_
      exact ⟨rfl, hh.below⟩
     ·have hrb := fun A cc w1 hb hS => (hra A cc w1 hb hS).mono fun r w' h => show r = .returned (.tuple #[.slice none 0 0, .int .i64 (bZ [fa, g])]) ∧ Below w1.heap.size w1 w' from by
       rcases h with h | h
       ·exact h.2
       ·exact absurd h.1 hE0
      clear hra
      refine aT (hbo _ (hT.hp hh) (hmi.at_ hol (fun x hx => by simp [hx]) hh) (hg.ext hh.below)) az.out rfl (by decide) ?_
      rintro e_ w70 ⟨x2, y2, ox, oy, rfl, h2⟩
      refine ⟨_, rfl, ?_⟩
      have hm0 : ∀ (z : FX) (ys : List Dyadic), Out (bZ [fa, g]) (maxD [fa, g]) ys z → z.dZ ∈ [y2.dZ, y2.dV, x2.dZ, x2.dV] → z.dV ∈ [y2.dZ, y2.dV, x2.dZ, x2.dV] → z.m = 0 := fun z ys oz h5 h6 => by
       have h7 := (h2.lW h5 h6).ln.2
       rw [oz.cs] at h7
       unfold xx at h7
       rw [if_neg hE0] at h7
       exact h7.symm
      have hx0 := hm0 x2 _ ox (by simp) (by simp)
      have hy0 := hm0 y2 _ oy (by simp) (by simp)
      clear hm0
      replace hh := hh.join h2
      clear h2
      refine mT ?_
      refine ee ?_
      refine ee ?_
      refine ee ?_
      refine cG hh ?_
      intro b15 w15 hh
      refine cG hh ?_
      intro b16 w16 hh
      refine bP hh 1 [_,_] ?_
      intro ws hh
      replace hh : Hp _ (_ :: .blk _ _ [_, _] _ :: _) _ := hh
      refine bP hh 0 [_,_] ?_
      intro ws hh
      replace hh : Hp _ (.blk _ _ [_, _] _ :: _) _ := hh
      refine aI (aa (sr ?_))
      refine cz hh 14 [_,_] ?_
      refine cz hh 13 [_,_] ?_
      refine aK hh (cs := [_, _, _, _]) aG.out aD.out (aQ (cA rfl) (aQ (cA rfl) bF)) rfl rfl (by decide) (by decide) (by decide) rfl (by decide) ?_
      intro b77 w77 hh
      refine bH hh (hrb _ _ _ hh.below (hh.aW (i := 0) rfl)) rfl ?_
      intro w78 hh
      refine mT ?_
      refine ee ?_
      refine ee ?_
      refine aL (aI (aa (ah (ah ?_))))
      generalize bZ [fa, g] = e at *
      refine lv [] [] [0, 0, 3, 7, 15, 31, 63, 127, 127, 383, 895, 2047, 4095, 8191, 16383, 16383, 49151, 114687, 262143, 524287, 1048575, 2097151, 4194303, 8388607, 16777215, 33554431, 67108863, 134217727, 268435455, 536870911, 134217727, 1207959551, 3355443199, 8589934591, 17179869183, 34359738367, 68719476735] 33 [[(17, none)], [(19, none)], [(81, some 0), (82, some 1)], [(83, some 2)], [(19, none), (84, some 3)], [(85, some 4), (84, some 3)], [(86, some 5), (84, some 3)], [(15, none), (87, some 6)], [(18, none), (87, some 6)], [(89, some 8), (87, some 6)], [(90, some 9), (87, some 6)], [(88, some 7), (91, some 10), (87, some 6)], [(92, some 11), (87, some 6)], [(93, some 12), (87, some 6)], [(16, none), (94, some 13)], [(18, none), (94, some 13)], [(96, some 15), (94, some 13)], [(97, some 16), (94, some 13)], [(95, some 14), (98, some 17), (94, some 13)], [(99, some 18), (94, some 13)], [(94, some 13), (100, some 19), (87, some 6)], [(87, some 6), (101, some 20), (84, some 3)], [(84, some 3), (102, some 21)], [(103, some 22)], [(19, none), (104, some 23)], [(105, some 24), (104, some 23)], [(106, some 25), (104, some 23)], [(15, none), (107, some 26)], [(108, some 27), (107, some 26)], [(109, some 28), (107, some 26)], [(16, none), (107, some 26)], [(111, some 30), (107, some 26)], [(112, some 31), (107, some 26)]] [(32, 113), (31, 112), (30, 111), (29, 110), (28, 109), (27, 108), (26, 107), (25, 106), (24, 105), (23, 104), (22, 103), (21, 102), (20, 101), (19, 100), (18, 99), (17, 98), (16, 97), (15, 96), (14, 95), (13, 94), (12, 93), (11, 92), (10, 91), (9, 90), (8, 89), (7, 88), (6, 87), (5, 86), (4, 85), (3, 84), (2, 83), (1, 82), (0, 81)] hh mixed (by kernel_rfl) nh rfl (by repeat (first | exact sD | refine pT ?_ | refine sP ?_)) ?_
      refine dD ?_
      refine dD ?_
      refine wX ?_
      refine tP ?_
      first | refine dS ?_ | refine dU ?_ | refine dG (dD ?_)
      first | refine dS ?_ | refine dU ?_ | refine dG (yZ ?_)
      first | refine dS ?_ | refine dU ?_ | refine dG (tP ?_)
      first | refine dS ?_ | refine dU ?_ | refine dG (gk 2 [_,_] ?_)
      first | refine dS ?_ | refine dU ?_ | refine dG (fk ?_)
      first | refine pR (i := 9) rfl (fun ρ1 w1 hj hR => (show ρ1 87 = Value.bool _ from hR.2.1)) (by decide) ?_ | refine nx (i := 9) rfl (fun ρ1 w1 hj hR => (show ρ1 87 = undef from hR.2.1)) ?_ | refine dx_take (i := 9) rfl (fun ρ1 w1 hj hR => (show ρ1 87 = Value.bool _ from hR.2.1)) (fun ρ1 w1 hj hR => bI aG.out aD.size (show ρ1 89 = Value.slice _ _ _ from hR.1) rfl (by omega) (by omega)) ?_
      first | refine dS ?_ | refine dU ?_ | refine dG (pW [_,_] (fun _ hj => hT) ?_)
      first | refine dS ?_ | refine dU ?_
      first | refine dS ?_ | refine dU ?_ | refine dG (wJ ?_)
      first | refine dS ?_ | refine dU ?_ | refine dG (tP ?_)
      first | refine dS ?_ | refine dU ?_ | refine dG (gk 1 [_,_] ?_)
      first | refine dS ?_ | refine dU ?_ | refine dG (fk ?_)
      first | refine pR (i := 16) rfl (fun ρ1 w1 hj hR => (show ρ1 94 = Value.bool _ from hR.2.1)) (by decide) ?_ | refine nx (i := 16) rfl (fun ρ1 w1 hj hR => (show ρ1 94 = undef from hR.2.1)) ?_ | refine dx_take (i := 16) rfl (fun ρ1 w1 hj hR => (show ρ1 94 = Value.bool _ from hR.2.1)) (fun ρ1 w1 hj hR => bI aG.out aD.size (show ρ1 96 = Value.slice _ _ _ from hR.1) rfl (by omega) (by omega)) ?_
      first | refine dS ?_ | refine dU ?_ | refine dG (pW [_,_] (fun _ hj => hT) ?_)
      first | refine dS ?_ | refine dU ?_
      first | refine dS ?_ | refine dU ?_ | refine dG (wJ ?_)
      first | refine dS ?_ | refine dU ?_ | refine dG (zt ?_) | refine dG (zu ?_)
      first | refine dS ?_ | refine dU ?_ | refine dG (zt ?_) | refine dG (zu ?_)
      first | refine zt ?_ | refine zu ?_
      refine tP ?_
      first | refine dS ?_ | refine dU ?_ | refine dG (dD ?_)
      first | refine dS ?_ | refine dU ?_ | refine dG (wX ?_)
      first | refine dS ?_ | refine dU ?_ | refine dG (tP ?_)
      first | refine dS ?_ | refine dU ?_ | refine dG (dI ?_)
      first | refine dS ?_ | refine dU ?_ | refine dG (ef 2 ?_)
      first | refine dS ?_ | refine dU ?_ | refine dG (j0 ?_)
      first | refine dS ?_ | refine dU ?_ | refine dG (dI ?_)
      first | refine dS ?_ | refine dU ?_ | refine dG (ef 1 ?_)
      first | refine dS ?_ | refine dU ?_ | refine dG (j0 ?_)
      refine bo ?_
      intro f W hJ hV _
      have hb_10 := hJ.bl
      obtain ⟨v113, v112, v111, v110, v109, v108, v107, v106, v105, v104, v103, v102, v101, v100, v99, v98, v97, v96, v95, v94, v93, v92, v91, v90, v89, v88, v87, v86, v85, v84, v83, v82, v81, _⟩ := hV
      replace hh := hJ.hp
      refine aY (bm (ae v113 (ae v112 (ae v111 (ae v110 (ae v109 (ae v108 (ae v107 (ae v106 (ae v105 (ae v104 (ae v103 (ae v102 (ae v101 (ae v100 (ae v99 (ae v98 (ae v97 (ae v96 (ae v95 (ae v94 (ae v93 (ae v92 (ae v91 (ae v90 (ae v89 (ae v88 (ae v87 (ae v86 (ae v85 (ae v84 (ae v83 (ae v82 (ae v81 aX)))))))))))))))))))))))))))))))))) ?_
      dsimp only [cj]
      clear hJ
      first | refine gS ?_ | (refine gT ?_; refine bu ?_) | refine gV ?_
      first | refine gS ?_ | (refine gT ?_; refine dn ?_) | refine gV ?_
      first | refine gS ?_ | (refine gT ?_; (first | refine cQ ?_ | refine cP ?_)) | refine gV ?_
      first | refine cQ ?_ | refine cP ?_
      refine aa (cF (ak (ai (sr ?_))))
      refine cz hh 11 [_,_] ?_
      refine cz hh 13 [_,_,_] ?_
      replace hh := hh.sub (List.Sublist.cons _ (List.Sublist.cons_cons _ (List.Sublist.cons_cons _ (List.Sublist.cons_cons _ (List.Sublist.cons _ (List.Sublist.cons_cons _ (List.Sublist.cons _ (List.Sublist.cons _ (List.Sublist.cons_cons _ (List.Sublist.cons_cons _ (List.Sublist.cons_cons _ (List.Sublist.cons_cons _ (List.Sublist.cons_cons _ (List.Sublist.cons_cons _ (List.Sublist.cons_cons _ (List.Sublist.cons_cons _ (List.Sublist.refl _)))))))))))))))))
      obtain ⟨R', hsub, hh⟩ : ∃ R', (∀ x ∈ R, x ∈ R') ∧ Hp w (_ :: _ :: _ :: _ :: _ :: _ :: _ :: _ :: _ :: _ :: _ :: _ :: R') _ := ⟨_, fun x hx => by simp [hx], hh⟩
      refine aT (hsc _ (hT.hp hh) (hmi.at_ hol (fun x hx => by simp [hsub x hx]) hh)) az.out rfl (by decide) ?_
      rintro e_ w121 ⟨x3, o3, rfl, h2⟩
      refine ⟨_, rfl, ?_⟩
      replace hh := hh.join h2
      clear h2
      refine mT ?_
      refine ee ?_
      refine ee ?_
      refine cG hh ?_
      intro b20 w20 hh
      refine bP hh 0 [_,_] ?_
      intro ws hh
      replace hh : Hp _ (.blk _ _ [_, _] _ :: _) _ := hh
      refine aI (aa (sr ?_))
      refine cz hh 14 [_,_] ?_
      refine cz hh 12 [_,_,_] ?_
      refine aT (q8 fa c 124 _ (hf.ext hh.below) hsl hco) az.out rfl (by decide) ?_
      rintro e_ w127 ⟨y3, o4, rfl, h2⟩
      refine ⟨_, rfl, ?_⟩
      replace hh := hh.join h2
      clear h2
      refine mT ?_
      refine ee ?_
      refine ee ?_
      refine cG hh ?_
      intro b22 w22 hh
      refine bP hh 0 [_,_] ?_
      intro ws hh
      replace hh : Hp _ (.blk _ _ [_, _] _ :: _) _ := hh
      refine aI (aa (ah (sr (mI (mI ?_)))))
      refine dn (mB ?_)
      first | refine gS ?_ | (refine gT ?_; refine cz hh 3 [_,_] ?_) | refine gV ?_
      first | refine gS ?_ | (refine gT ?_; refine cz hh 0 [_,_] ?_) | refine gV ?_
      refine aR rfl rfl ?_
      refine bH hh (eG x3 y3 _ (hh.lW (List.mem_of_getElem? (i := 4) rfl) (List.mem_of_getElem? (i := 5) rfl)) (hh.lW (List.mem_of_getElem? (i := 1) rfl) (List.mem_of_getElem? (i := 2) rfl)) (o3.same o4) o3.n o3.m) rfl ?_
      intro w136 hh
      replace hh := hh.sub (List.Sublist.cons _ (List.Sublist.cons _ (List.Sublist.cons _ (List.Sublist.cons_cons _ (List.Sublist.cons_cons _ (List.Sublist.cons _ (List.Sublist.cons _ (List.Sublist.cons_cons _ (List.Sublist.cons _ (List.Sublist.cons_cons _ (List.Sublist.cons_cons _ (List.Sublist.cons_cons _ (List.Sublist.cons _ (List.Sublist.cons_cons _ (List.Sublist.cons _ (List.Sublist.cons _ (List.Sublist.cons _ (List.Sublist.cons_cons _ (List.Sublist.refl _)))))))))))))))))))
      first | refine gS ?_ | (refine gT ?_; refine sZ ?_) | refine gV ?_
      first | refine cQ ?_ | refine cP ?_
      refine aa (cF (ak (ai (sr (bJ ?_)))))
      refine bO hh 4 ?_
      replace hh := hh.perm (List.perm_middle (l₁ := [_, _, _, _, _]))
      simp only [List.cons_append, List.nil_append] at hh
      refine iJ hh (i := 0) rfl rfl aG.out aD.out rfl rfl ?_
      intro wc hh
      simp only [List.set_cons_zero] at hh
      replace hh := hh.sub (List.Sublist.cons _ (List.Sublist.cons_cons _ (List.Sublist.cons_cons _ (List.Sublist.cons_cons _ (List.Sublist.cons_cons _ (List.Sublist.cons _ (List.Sublist.cons_cons _ (List.Sublist.cons_cons _ (List.Sublist.refl _)))))))))
      refine aa (sr (bJ ?_))
      refine bO hh 2 ?_
      replace hh := hh.perm (List.perm_middle (l₁ := [_, _, _]))
      simp only [List.cons_append, List.nil_append] at hh
      refine iJ hh (i := 0) rfl rfl aG.out aD.out rfl rfl ?_
      intro wc hh
      simp only [List.set_cons_zero] at hh
      replace hh := hh.sub (List.Sublist.cons _ (List.Sublist.cons_cons _ (List.Sublist.cons_cons _ (List.Sublist.cons _ (List.Sublist.cons_cons _ (List.Sublist.cons_cons _ (List.Sublist.refl _)))))))
      refine aa (sr (bJ ?_))
      refine bO hh 0 ?_
      replace hh := hh.perm (List.perm_middle (l₁ := [_]))
      simp only [List.cons_append, List.nil_append] at hh
      refine iJ hh (i := 0) rfl rfl aG.out aD.out rfl rfl ?_
      intro wc hh
      simp only [List.set_cons_zero] at hh
      replace hh := hh.sub (List.Sublist.cons _ (List.Sublist.cons _ (List.Sublist.cons_cons _ (List.Sublist.cons_cons _ (List.Sublist.refl _)))))
      refine aa (sr ?_)
      refine cz hh 0 [_,_] ?_
      refine cz hh 1 [_,_] ?_
      refine bH hh (eG o fa _ (hmi.at_ hol (fun x hx => by simp [hsub x hx]) hh) (hf.ext hh.below) ⟨d1, d2⟩ hon (by omega)) rfl ?_
      intro w147 hh
      refine mB ?_
      refine aR rfl rfl ?_
      refine bH hh (fi _ (hT.hp hh)) rfl ?_
      intro w149 hh
      first | refine cQ ?_ | refine cP ?_
      refine aB (aa (aq ?_))
      refine cu ?_
      exact ⟨rfl, hh.below⟩
end Go.Proofs.YtioilmppidlbnaaGreatDoor
/- The row and the card of LiftRaises. -/
namespace Go.Proofs.YtioilmppidlbnaaGreatDoor.liftRaises
open Go.ChangeShapes Go.WideShapes Go.ChangeAt Go.RowKit Go.ChangeMaps
theorem own : ownKnob Tryz.prog.godebug = none := by kernel_rfl
set_option maxRecDepth 100000 in
theorem lifted (os : Os) (started : os.Started) (H : Type) (enc : TypeId × Value → H) :
  ReturnsInHanded {} Tryz.checked os 4 .any (fun w args => (Rows.liftRaisesSpec.pre enc Tryz.prog Tryz.f4 Rows.liftRaisesRow.domain false w args ∧ laidMetH Tryz.prog Rows.liftRaisesRow.laid w) ∧ sizedMet enc Tryz.prog Tryz.f4 (OpenSpec.ofChange Rows.liftRaisesSpec) false w args)
   (Rows.liftRaisesSpec.post enc Tryz.prog Tryz.f4 false true false false) := by
 refine returnsInHanded_of_change_and (C := Tryz.checked) (X := fun w _ => laidMetH Tryz.prog Rows.liftRaisesRow.laid w) (fun _ _ _ hh h => h.of_heap hh) own started (by kernel_rfl) Tryz.func4
  (ChangeSpec.witness_shaped (enc := enc) (C := Tryz.checked) (os := os) (X := fun w _ => laidMetH Tryz.prog Rows.liftRaisesRow.laid w) false (World.laidAll Tryz.prog os Rows.liftRaisesRow.laid) #[.agg #[.slice none 0 0, .slice none 0 0], .agg #[.slice none 0 0, .slice none 0 0], .slice none 0 0, .agg #[.bool false, .string ⟨#[]⟩, .int .i64 0]] 8 (World.laidAll_os _ _ _)
   (World.shaped_of_ZipB (by kernel_rfl) (by kernel_rfl)) (by kernel_rfl) (by kernel_rfl) (by kernel_rfl)
   (by rw [MakeChecks.laidMetH_plain _ _ _ (by kernel_rfl)]; exact laidMet_laidAll _ (by kernel_rfl) (by kernel_rfl))) ?_
 intro W base args ds gs before hval0 hW hc _ hL _
 have hval : ∀ (j : Nat) t v, Tryz.f4.params[j]? = some t → args[j]? = some v → Value.okWide Tryz.prog W .any base t v := hval0
 have hW' := hW
 obtain ⟨p, q, hA0, hV, rfl, hfz, hnd⟩ := hW
 have hA : DataW.TrodAll enc Tryz.prog W 0 (fun _ => true) true Tryz.f4.params.toList args.toList ds p := hA0
 rw [Tryz.params4] at hA hval
 obtain ⟨v0, vs0, d0, ds0, p0, q0, hargs, rfl, rfl, h0, r0⟩ := trodAll_cons hA
 obtain ⟨v1, vs1, d1, ds1, p1, q1, rfl, rfl, rfl, h1, r1⟩ := trodAll_cons r0
 obtain ⟨v2, vs2, d2, ds2, p2, q2, rfl, rfl, rfl, h2, r2⟩ := trodAll_cons r1
 obtain ⟨v3, vs3, d3, ds3, p3, q3, rfl, rfl, rfl, h3, r3⟩ := trodAll_cons r2
 obtain ⟨rfl, rfl, rfl⟩ := trodAll_nil r3
 obtain rfl : args = #[v0, v1, v2, v3] := by cases args; simp_all
 obtain ⟨rfl, rfl⟩ := trodVars_none hV
 obtain ⟨f0, rfl, hS0⟩ := oq (hval 0 28 v0 rfl rfl) h0
 obtain ⟨f1, rfl, hS1⟩ := oq (hval 1 28 v1 rfl rfl) h1
 obtain ⟨A2, n2, c2, l2, rfl, hS2, _⟩ := uD (hval 2 25 v2 rfl rfl) h2
 obtain ⟨x3, rfl, _, _⟩ := vk (hval 3 39 v3 rfl rfl) h3
 refine (lO f0 f1 A2 n2 c2 l2 x3 W (qg hL) hS0 hS1 hS2).mono fun e W' ⟨he, hb⟩ => ?_
 subst he
 exact ⟨_, rfl, vz hW' rfl (by kernel_rfl) (by rw [Tryz.params4]; exact of_decide_eq_true (by kernel_rfl)) (by kernel_rfl) Tryz.underlying4 rfl rfl rfl hb⟩
theorem row_holds : Rows.LiftRaisesSaid :=
 OpenClaim.holds_of_wide 4 Tryz.f4 rfl rfl rfl rfl rfl rfl rfl ⟨rfl, rfl, rfl, rfl, rfl⟩ rfl rfl rfl rfl rfl (by kernel_rfl) Tryz.func4 (by kernel_rfl)
  (of_decide_eq_true (by kernel_rfl)) (by unfold Func.isWrapper; first | (rw [if_pos (by decide +kernel)]; kernel_rfl) | (rw [if_neg (by decide +kernel)]; exact ⟨rfl, rfl⟩))
  (fun os started H enc _ => lifted os started H enc)
theorem holds : Rows.LiftRaisesCardSaid :=
 Claim7.holds_tied_plain_at .later [] [.data, .data, .pinned] true (true, "0b215af0b67f448459599e78ac8335c1e55d291f4b1ea5a16e79847ce8851b12") false row_holds (fun _ h => by cases h) (by kernel_rfl) (fun _ h => by cases h) liftRaises_row_tie rfl ⟨rfl, rfl⟩ (by kernel_rfl) rfl
  (fun f fn hf hfn => by
   obtain rfl : f = 4 := Option.some.inj ((show Tryz.prog.funcNamed "ogee/ogeelaw14.LiftRaises" = some 4 by kernel_rfl).symm.trans hf) |>.symm
   obtain rfl : fn = Tryz.f4 := (Option.some.inj (Tryz.func4.symm.trans hfn)).symm
   exact ⟨by kernel_rfl, fun j t ht => by
    rw [Tryz.params4] at ht
    have hm : t ∈ [28, 28, 25, 39] := by simpa using Array.mem_of_getElem? ht
    have hall : ([28, 28, 25, 39].all fun u => !Tryz.prog.wantsStandIn u) = true := by kernel_rfl
    exact (show Tryz.prog.wantsStandIn t = false by simpa using List.all_eq_true.1 hall t hm)⟩)
  (by kernel_rfl)
#print axioms holds
end Go.Proofs.YtioilmppidlbnaaGreatDoor.liftRaises
