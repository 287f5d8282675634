/- Lemmas for liftSame, part 6. -/
import Derived.Test.YtaapkaefelhfcaaGreatDoorZ5
/- The walk through lift.raised. -/
namespace Go.Proofs.YtaapkaefelhfcaaGreatDoor
open Go.RowKit
def FX.ns (f : FX) : List Nat := f.ds.map Int.toNat
theorem FX.fv {f : FX} (h : f.e = 0) : f.ds = bu f.ns ∧ f.cs = (f.cs.map NR.d).map nR ∧ f.ns.length ≤ 12 ∧ (∀ d ∈ f.ns, d ≤ 127) ∧ f.cs.length = av f.ns ∧ av f.ns ≤ 4096 := by
 obtain ⟨ns, xs, hv, hxs⟩ := GS h;obtain ⟨h1, h2, h3, h4, h5, h6⟩ := hv;have e : f.ns = ns := by unfold FX.ns; rw [h1]; exact iC ns
 subst hxs;rw [e];exact ⟨h1, h2, h3, h4, by simpa using h5, h6⟩
structure FU (D : List Nat) (ys : List Dyadic) (g : FX) : Prop where
 ds : g.ds = bu D
 cs : g.cs = ys.map nR
 n : g.n = D.length
 m : g.m = av D
def kE (D : List Nat) (f : FX) : List Dyadic := k5 f.ns D (f.cs.map NR.d)
def q6 (a b : List Nat) (j : Nat) : List Nat := (jm a b).take j ++ a.drop j
theorem Ej {a b : List Nat} {j x y : Nat} (h : a.length = b.length) (hx : a[j]? = some x) (hy : b[j]? = some y) : (bu (q6 a b j)).set j ((max x y : Nat) : Int) = bu (q6 a b (j + 1)) := by
 have hj := (List.getElem?_eq_some_iff.1 hx).1;unfold q6;rw [fN hx, aH (ui hx hy)];have hl : (bu ((jm a b).take j)).length = j := by rw [cU, List.length_take, lI h]; omega
 have e1 : bu ((jm a b).take j ++ x :: a.drop (j + 1)) = bu ((jm a b).take j) ++ (x : Int) :: bu (a.drop (j + 1)) := by simp [bu]
 rw [e1, nO _ _ _ _ _ hl];simp [bu]
theorem E7 {a b : List Nat} {j x : Nat} (h : a.length = b.length) (hx : a[j]? = some x) : (q6 a b j)[j]? = some x := by
 have hj := (List.getElem?_eq_some_iff.1 hx).1;have hl : ((jm a b).take j).length = j := by rw [List.length_take, lI h]; omega
 unfold q6;rw [List.getElem?_append_right Ky, hl, Nat.sub_self, List.getElem?_drop, Nat.add_zero, hx]
theorem DB {a b : List Nat} {j : Nat} (h : a.length = b.length) (hj : j ≤ a.length) : (q6 a b j).length = a.length := by
 unfold q6;rw [List.length_append, List.length_take, lI h, List.length_drop];omega
theorem sH (L : Option Addr) (n c : Nat) (fs : List FX) (k : Nat) (w : World) (hT : eP w) (hL : Sl w L n 2 (aY FX.cells fs)) (hn : n ≤ 1000) (hf : ∀ f ∈ fs, f.at_ w) (hl : ∀ f ∈ fs, f.iu k) (hm : ∀ f ∈ fs, f.m ≤ 200) (hk : k ≤ 90000) :
  Calls Tryz.prog 199 #[.slice L n c] w fun r w' => (eG fs ≠ 0 ∧ r = .returned (.tuple #[.slice none 0 0, .int .i64 (eG fs)]) ∧ Below w.heap.size w w') ∨
   (eG fs = 0 ∧ ∃ (A : Option Addr) (a : Nat) (gs : List FX), r = .returned (.tuple #[.slice A n a, .int .i64 0]) ∧ gs.length = n ∧ (∀ (i : Nat) (f g : FX), fs[i]? = some f → gs[i]? = some g → FU (maxD fs) (kE (maxD fs) f) g) ∧ Hp w (.row A n a 61 2 (aY FX.cells gs) :: jP gs.reverse) w') := by
 have hh := Hp.start w;have hln := hL.bM FX.len Kz;have hlk := fun w1 hT1 hb => pI L n c fs k w1 hT1 (hL.ext hb) Ky (fun f hm => (hf f hm).ext hb) hl;unfold eG;by_cases h0 : ix fs = 0
 ·obtain ⟨hne, jv, hnv⟩ := ml h0;obtain ⟨f0, h00⟩ := ay (l := fs) (k := 0) (List.length_pos_iff.2 hne);have hm0 := List.mem_of_getElem? h00;have hnn : ∀ f ∈ fs, f.n = f0.n := fun f hm => by
   rw [hnv f hm]
   rcases fs with _ | ⟨g, l⟩
   ·cases h00
   ·have : g = f0 := by simpa using h00
    rw [← this]; rfl
  have hnsl : ∀ f ∈ fs, f.ns.length = f0.n := fun f hm => by
   have h1 := (hf f hm).dg.1;rw [bT] at h1;have h2 := hnn f hm;unfold FX.ns;rw [List.length_map];omega
  have hlow : ∀ f ∈ fs, ∀ d ∈ f.ns, d ≤ 127 := fun f hm => (FX.fv (jv f hm)).2.2.2.1;have hdsn : ∀ f ∈ fs, f.ds = bu f.ns := fun f hm => (FX.fv (jv f hm)).1;have h12 : f0.n ≤ 12 := by have := (FX.fv (jv f0 hm0)).2.2.1; rw [hnsl f0 hm0] at this; exact this
  have hDe : maxD fs = (fs.map FX.ns).foldl jm f0.ns := by
   unfold maxD;rw [List.foldl_map];congr 1
   rcases fs with _ | ⟨g, l⟩
   ·cases h00
   ·have : g = f0 := by simpa using h00
    rw [← this]; rfl
  obtain ⟨ad, rfl, hr⟩ := hL.at_ (by have := (List.getElem?_eq_some_iff.1 h00).1; omega);have hn0 : 0 < n := by have := (List.getElem?_eq_some_iff.1 h00).1; omega
  rw [if_neg Ky];have hA0 := hnsl f0 hm0;have hF := fun i => vc ((fs.take i).map FX.ns) f0.ns fun l hl => by
   obtain ⟨f, hf2, rfl⟩ := List.mem_map.1 hl;rw [hnsl f (List.mem_of_mem_take hf2), hA0]
  refine al (N := 71) (l := [.slice (some ad) n c]) Tryz.func199 rfl rfl (by simp) ?_;refine sr (aL (aI (aa (ah (sr (mL ?_))))));refine bE hh (hlk _ (hT.hp hh) hh.below) rfl ?_;intro w16 hh;refine aI (aa (sr (mI ?_)));refine cL (aa (cF (ak (ai (sr (mL ?_))))));refine aD (k := 0) aQ.out aF.size rfl rfl Ky Ky Kz ?_;refine dR eK.out rfl Kz ?_;refine aZ aF.out rfl (cO hh.below ((hr.recAt FX.len h00) 0 _ rfl)) Kz ?_;refine aN (kO f0.A f0.n f0.a f0.ds _ ((hf f0 hm0).dg.ext hh.below) (by have := (hl f0 hm0).Jj; omega)) aw.out rfl Kz ?_;rintro e_ w24 ⟨A24, c24, rfl, hown_, hb_⟩;refine ⟨_, rfl, ?_⟩;replace hh := hh.bz (x := .row _ _ _ _ _ _) hb_ hown_;refine aL (aa (ah (sr (mL (aW (mI (aa (aj ?_))))))));rw [hdsn f0 hm0] at hh;refine bm [7, 8, 9, 27, 28, 29, 30, 31, 32, 33, 34, 35, 36, 37, 38, 39, 40, 41, 42, 43, 44, 45, 46, 47, 48, 49] 27
   (fun v w' => ∃ i : Nat, i ≤ n ∧ v = .int .i64 i ∧ Hp w [.row A24 f0.n c24 3 1 (bG (bu (((fs.take i).map FX.ns).foldl jm f0.ns)))] w')
   (fun v _ => n - (intOf v).toNat) ?_ ?_
  ·exact ⟨0, Nat.zero_le _, rfl, hh⟩
  ·clear hh;rintro ρ' v w' ⟨i, hi, rfl, hh⟩;by_cases hlt : i < n
   ·obtain ⟨f, hx⟩ := ay (l := fs) (k := i) Ky;have hmem := List.mem_of_getElem? hx;have hfold : ((fs.take (i + 1)).map FX.ns).foldl jm f0.ns = jm (((fs.take i).map FX.ns).foldl jm f0.ns) f.ns := by rw [aH hx, List.map_append, List.foldl_append]; rfl
    have hal := (hF i).1;generalize ((fs.take i).map FX.ns).foldl jm f0.ns = a at *;have hab : a.length = f.ns.length := by rw [hal, hA0, hnsl f hmem]
    have hfd := hdsn f hmem;have hfn := hnn f hmem;have hfl := hnsl f hmem;refine sr ?_;refine aK (aa (ah (cT (ak (ai (ah (aj (sr ?_))))))));refine aD (k := i) aQ.out aF.size rfl rfl Ky Ky Kz ?_;refine bJ (vs := [_, _]) aF.out rfl ((hr.ext hh.below).recAt FX.len hx) rfl Kz ?_;refine cB hh ?_;intro b7 w7 hh;refine bK hh 0 [_,_] ?_;intro ws hh;replace hh : Hp _ (.blk _ _ [_, _] _ :: _) _ := hh;refine aa (sr (bP ?_));refine bR hh 0 ?_;refine aW (mI (aa (aj ?_)));refine bm [8, 9, 34, 35, 36, 37, 38, 39, 40, 41, 42, 43, 44, 45, 46, 47, 48] 34
     (fun v w' => ∃ j : Nat, j ≤ f0.n ∧ v = .int .i64 j ∧ Hp w [.blk b7 61 [.slice f.A f.n f.a, .slice f.B f.m f.b] (0, 0), .row A24 f0.n c24 3 1 (bG (bu (q6 a f.ns j)))] w')
     (fun v _ => f0.n - (intOf v).toNat) ?_ ?_
    ·refine ⟨0, Nat.zero_le _, rfl, ?_⟩;show Hp w [_, .row A24 f0.n c24 3 1 (bG (bu (List.take 0 _ ++ List.drop 0 a)))] _;rw [List.take_zero, List.nil_append, List.drop_zero];exact hh
    ·clear hh;rintro ρ2 v w2 ⟨j, hj, rfl, hh⟩;by_cases hjn : j < f0.n
     ·obtain ⟨x, hxa⟩ := ay (l := a) (k := j) Ky;obtain ⟨y, hyb⟩ := ay (l := f.ns) (k := j) Ky;have hgx := cx (eu (E7 hab hxa));have hgy : (bG f.ds)[j]? = some (.int .i64 (y : Int)) := by rw [hfd]; exact cx (eu hyb)
      have hml : (bG (bu (q6 a f.ns j))).length = f0.n := by rw [bT, cU, DB hab Ky]; omega
      obtain ⟨a2, hA2, s2⟩ := (hf f hmem).dg.at_ Ky;have jv : Value.slice f.A f.n f.a = .slice (some a2) f.n f.a := by rw [hA2]
      obtain ⟨gd, rfl⟩ := hh.dq (i := 1) rfl Ky;refine sr ?_;refine aK (aa (ah (cT (ak (ai (ah (aj (sr (mI ?_)))))))));refine aD (k := j) aQ.out aF.size jv rfl Ky Ky Kz ?_;refine aZ aF.out rfl (cO hh.below (s2.fP hgy)) Kz ?_;refine aI (aI (aa (aq (mL (mI (mL (mI ?_)))))));refine bf (k := j) aQ.out aF.size rfl rfl Ky Ky Kz ?_;refine aZ aF.out rfl (hh.cN (i := 1) rfl (by first | assumption | (simp only [Nat.mul_one]; assumption))) Kz ?_;refine mI ?_;refine kq rfl rfl Kz ?_;refine bf aQ.out aF.size rfl rfl rfl Ky Kz ?_;have hmx : (if (y : Int) > (x : Int) then (y : Int) else (x : Int)) = ((max x y : Nat) : Int) := by split <;> omega
      refine bs hh (i := 1) (vs := [_]) rfl rfl (cd rfl) rfl aF.out rfl Ky rfl ?_;intro ws hh;simp only [List.set_cons_zero, List.set_cons_succ] at hh;rw [hmx, jb _ (by rw [← bT]; omega), Ej hab hxa hyb] at hh;refine aE (aP (ai (aq ?_)));refine bB (mI (aE (ai ?_)));refine ⟨⟨j + 1, Ky, rfl, hh⟩, by show f0.n - (j + 1) < f0.n - j; omega, ?_⟩;exact KB
     ·obtain rfl : j = f0.n := Ky;have hmf : q6 a f.ns f0.n = jm a f.ns := by
       unfold q6;rw [List.take_of_length_le (by rw [lI hab]; omega), List.drop_of_length_le Ky, List.append_nil]
      rw [hmf, ← hfold] at hh;refine sr ?_;refine aK (aa (ah (cF (aJ (az (az (aX (aP (ai (aq ?_))))))))));refine bB (mI (aE (ai ?_)));replace hh := hh.sub (List.Sublist.cons _ (List.Sublist.cons_cons _ List.Sublist.slnil));refine ⟨⟨i + 1, Ky, rfl, hh⟩, by show n - (i + 1) < n - i; omega, ?_⟩;exact KB
   ·obtain rfl : i = n := Ky;have hDl := (hF i).1;have hDg := fun (f : FX) (hm : f ∈ fs) => (hF i).2.2 f.ns (List.mem_map.2 ⟨f, by rw [List.take_of_length_le Ky]; exact hm, rfl⟩);have hDb := uu 127 ((fs.take i).map FX.ns) f0.ns (hlow f0 hm0) fun l hl => by
     obtain ⟨f, hf2, rfl⟩ := List.mem_map.1 hl;exact hlow f (List.mem_of_mem_take hf2)
    rw [List.take_of_length_le Ky, ← hDe] at hDl hDb hh;simp only [List.take_of_length_le (show fs.length ≤ i by omega), ← hDe] at hDg;clear hF hDe;generalize maxD fs = D at *;have hrz : ∀ f ∈ fs, p7 f.ds (bu D) = if 4096 < av D then 3 else 0 := fun f hm => by
     unfold p7;have e1 : (f.ds.zip (bu D)).any lN = false := List.any_eq_false.2 fun p hp => by
      obtain ⟨j, hj⟩ := List.mem_iff_getElem?.1 hp;rw [List.getElem?_zip_eq_some] at hj;obtain ⟨j1, j2⟩ := hj;rw [hdsn f hm] at j1;unfold bu at j1 j2;rw [List.getElem?_map] at j1 j2;obtain ⟨x, hx, hx2⟩ := Option.map_eq_some_iff.1 j1;obtain ⟨y, hy, hy2⟩ := Option.map_eq_some_iff.1 j2;have := hDg f hm j x y hx hy;have := hDb y (List.mem_of_getElem? hy);unfold lN;rw [decide_eq_true_eq];omega
     rw [if_neg (by rw [cU, hdsn f hm, cU, hnsl f hm]; omega), if_neg (by rw [e1]; decide), iC]
    refine sr ?_;refine aK (aa (ah (cF (aJ (az (az (aX (ai (sr (aL (aa (ah (sr (mL (aW (mI (aa (aj ?_))))))))))))))))));replace hh := hh.ef 61 2;refine cv [2, 3, 10, 12, 13, 14, 52, 53, 54, 55, 56, 57, 58, 59, 60, 61, 62, 63, 64, 65, 66, 67, 68, 69] 10 52
     (fun v10 v w' => ∃ (j c10 : Nat) (A : Option Addr) (gs : List FX), j ≤ i ∧ v = .int .i64 j ∧ v10 = .slice A j c10 ∧ gs.length = j ∧ (0 < j → ¬ 4096 < av D) ∧ (∀ (t : Nat) (f g : FX), fs[t]? = some f → gs[t]? = some g → FU D (kE D f) g) ∧ Hp w (.row A j c10 61 2 (aY FX.cells gs) :: .row A24 f0.n c24 3 1 (bG (bu D)) :: jP gs.reverse) w')
     (fun _ v _ => i - (intOf v).toNat) ?_ ?_
    ·exact ⟨0, 0, none, [], Nat.zero_le _, rfl, rfl, rfl, fun h => absurd h (Nat.lt_irrefl 0), fun t f g _ h => by simp at h, hh⟩
    ·clear hh;rintro ρ' v10 v w' ⟨j, c10, A, gs, hj, rfl, rfl, hgl, hno, hup, hh⟩;by_cases hlt : j < i
     ·obtain ⟨f, hx⟩ := ay (l := fs) (k := j) Ky;have hmem := List.mem_of_getElem? hx;refine sr ?_;refine aK (aa (ah (cT (ak (ai (ah (aj (sr ?_))))))));refine aD (k := j) aQ.out aF.size rfl rfl Ky Ky Kz ?_;refine bJ (vs := [_, _]) aF.out rfl ((hr.ext hh.below).recAt FX.len hx) rfl Kz ?_;refine cB hh ?_;intro b12 w12 hh;refine bK hh 0 [_,_] ?_;intro ws hh;replace hh : Hp _ (.blk _ _ [_, _] _ :: _) _ := hh;refine aa (sr ?_);refine cR hh 0 [_,_] (mL ?_);have hrs := fun w1 hT1 hb hE => n8 f A24 f0.n c24 (bu D) k w1 hT1 ((hf f hmem).ext hb) (hl f hmem) hE Ky hk;rw [hrz f hmem, iC] at hrs;by_cases h4 : 4096 < av D
      ·rw [if_pos h4] at hrs;have hra := fun w1 hT1 hb hE => (hrs w1 hT1 hb hE fun _ h => nomatch h).mono fun r w' h => show r = Dv 3 ∧ Below w1.heap.size w1 w' from by
        rcases h with ⟨h | h, hb2⟩ | h
        ·exact absurd (jv f hmem) h.1
        ·exact ⟨h.2.2, hb2⟩
        ·exact nomatch h.2.1
       refine bE hh (hra _ (hT.hp hh) hh.below (hh.aM (i := 2) rfl)) rfl ?_;intro w59 hh;refine mT ?_;refine dI ?_;refine dI ?_;refine cB hh ?_;intro b13 w13 hh;refine bK hh 0 [_,_] ?_;intro ws hh;replace hh : Hp _ (.blk _ _ [_, _] _ :: _) _ := hh;refine aI (aa (ah (sr (mI ?_))));refine cL (aa (cT (sr (mI (aL (aI (aa (ao (aG (bD (aG (aG (bD (aG ?_))))))))))))));refine xK ?_;rw [if_pos h4];exact .inl ⟨Kz, rfl, hh.below⟩
      ·rw [if_neg h4] at hrs;have hnn2 : f.ds.map Int.toNat = f.ns := rfl;rw [hnn2] at hrs;have hfc : av f.ns ≤ 200 := by
        have h1 := (FX.fv (jv f hmem)).2.2.2.2.1;have h2 := (hf f hmem).nm.bM NR.len Kz;have h3 := hm f hmem;omega
       have hmul : av D * av f.ns ≤ 1000000 := Nat.le_trans (Nat.mul_le_mul (Nat.le_of_not_lt h4) hfc) Kz;have hra := fun w1 hT1 hb hE => (hrs w1 hT1 hb hE fun _ _ => hmul).mono fun r w' h => show ∃ g : FX, FU D (kE D f) g ∧ r = .returned (.tuple #[.agg #[.slice g.A g.n g.a, .slice g.B g.m g.b], .int .i64 0]) ∧ Hp w1 [g.jn, g.jc] w' from by
        rcases h with ⟨h | h, hb2⟩ | ⟨_, _, A1, a1, B1, b1, rfl, h2⟩
        ·exact absurd (jv f hmem) h.1
        ·exact absurd rfl h.2.1
        ·exact ⟨⟨A1, f0.n, a1, B1, av D, b1, bu D, _⟩, ⟨rfl, rfl, by rw [← hA0]; exact hDl.symm, rfl⟩, rfl, h2⟩
       refine aN (hra _ (hT.hp hh) hh.below (hh.aM (i := 2) rfl)) aw.out rfl Kz ?_;rintro e_ w59 ⟨g, hu, rfl, h2⟩;refine ⟨_, rfl, ?_⟩;replace hh := hh.join h2;clear h2;refine mT ?_;refine dI ?_;refine dI ?_;refine cB hh ?_;intro b13 w13 hh;refine bK hh 0 [_,_] ?_;intro ws hh;replace hh : Hp _ (.blk _ _ [_, _] _ :: _) _ := hh;refine aI (aa (ah (sr (mI ?_))));refine cL (aa (cF (ak (ai (aq (mL ?_))))));refine cR hh 0 [_,_] ?_;refine aO hh (cs := [_, _]) aQ.out aF.out (aR (cJ rfl) bI) rfl rfl Kz Kz Kz rfl Kz ?_;intro b67 w67 hh;refine cz hh (i := 5) rfl rfl rfl (hh.aM (i := 0) rfl) aQ.out aF.out rfl Kz (by first | rfl | exact cD _ | exact cm _ | exact bH _ | exact bO NR.one _) Ky Ky Kz ?_;intro A68 c68 w68 hh;simp only [List.set_cons_succ] at hh;replace hh := hh.sub (List.sublist_cons_self _ _);refine aL (aE (aP (ai (aq ?_))));refine bB (mI (aE (ai ?_)));replace hh := hh.sub (List.Sublist.cons _ (List.Sublist.cons_cons _ (List.Sublist.cons_cons _ (List.Sublist.cons _ (List.Sublist.cons_cons _ (List.Sublist.cons_cons _ (List.Sublist.refl _)))))))
       replace hh := hh.perm (H' := .row A68 (j + 1) c68 61 2 (aY FX.cells (gs ++ [g])) :: .row A24 f0.n c24 3 1 (bG (bu D)) :: jP (gs ++ [g]).reverse) (by
        rw [List.reverse_append, cK];exact List.perm_append_comm_assoc [g.jn, g.jc] [_, _] _)
       refine ⟨⟨j + 1, c68, A68, gs ++ [g], Ky, rfl, rfl, by rw [List.length_append, hgl]; rfl, fun _ => h4, fun t f' g' hf' hg' => ?_, hh⟩, by show i - (j + 1) < i - j; omega, ?_⟩
       ·by_cases ht : t < j
        ·rw [List.getElem?_append_left Ky] at hg';exact hup t f' g' hf' hg'
        ·have htl := (List.getElem?_eq_some_iff.1 hg').1;rw [List.length_append, hgl] at htl;obtain rfl : t = j := by have : t < j + 1 := htl; omega
         rw [List.getElem?_append_right Ky, hgl, Nat.sub_self] at hg';rw [hx] at hf';obtain rfl := Option.some.inj hf';obtain rfl : g = g' := Option.some.inj hg';exact hu
       ·exact KB
     ·obtain rfl : j = i := Ky;have h4 := hno Ky;refine sr ?_;refine aK (aa (ah (cF (aJ (az (az (aX (ai (sr (mL (aL (aI (aa (ao ?_))))))))))))));refine xK ?_;rw [if_neg h4];exact .inr ⟨rfl, A, c10, gs, rfl, hgl, hup, hh.sub (List.Sublist.cons_cons _ (List.sublist_cons_self _ _))⟩
 ·rw [if_pos h0];refine al (N := 71) (l := [.slice L n c]) Tryz.func199 rfl rfl (by simp) ?_;refine sr (aL (aI (aa (ah (sr (mL ?_))))));refine bE hh (hlk _ (hT.hp hh) hh.below) rfl ?_;intro w16 hh;refine aI (aa (sr (mI ?_)));refine cL (aa (cT (sr (mI (aL (aI (aa (ao (aG ?_)))))))));refine xK ?_;exact .inl ⟨h0, rfl, hh.below⟩
end Go.Proofs.YtaapkaefelhfcaaGreatDoor
/- The walks through lift.Both and lift.Add. -/
namespace Go.Proofs.YtaapkaefelhfcaaGreatDoor
open Go.RowKit
end Go.Proofs.YtaapkaefelhfcaaGreatDoor
/- The walk through lift.Add. -/
namespace Go.Proofs.YtaapkaefelhfcaaGreatDoor
open Go.RowKit
def kf (a b : List Dyadic) : List Dyadic := List.zipWith (· + ·) a b
def Hq : List (List Dyadic) → List Dyadic
 | [] => []
 | x :: l => l.foldl kf x
theorem lC {a b : List Dyadic} (h : a.length = b.length) : (kf a b).length = a.length := by simp [kf, h]
theorem FD {a b : List Dyadic} {i : Nat} {x y : Dyadic} (h1 : a[i]? = some x) (h2 : b[i]? = some y) : (kf a b)[i]? = some (x + y) := by
 unfold kf;rw [List.getElem?_zipWith, h1, h2]
def pb (a b : List Dyadic) (j : Nat) : List Dyadic := (kf a b).take j ++ a.drop j
theorem Db {a b : List Dyadic} {j : Nat} {x y : Dyadic} (h : a.length = b.length) (hx : a[j]? = some x) (hy : b[j]? = some y) : (pb a b j).set j (x + y) = pb a b (j + 1) := by
 have hj := (List.getElem?_eq_some_iff.1 hx).1;unfold pb;have hl : ((kf a b).take j).length = j := by rw [List.length_take, lC h]; omega
 rw [fN hx, aH (FD hx hy), List.set_append_right _ _ Ky, hl, Nat.sub_self];simp
theorem Fy {a b : List Dyadic} {j : Nat} {x : Dyadic} (h : a.length = b.length) (hx : a[j]? = some x) : (pb a b j)[j]? = some x := by
 have hj := (List.getElem?_eq_some_iff.1 hx).1;have hl : ((kf a b).take j).length = j := by rw [List.length_take, lC h]; omega
 unfold pb;rw [List.getElem?_append_right Ky, hl, Nat.sub_self, List.getElem?_drop, Nat.add_zero, hx]
theorem CV {a b : List Dyadic} {j : Nat} (h : a.length = b.length) (hj : j ≤ a.length) : (pb a b j).length = a.length := by
 unfold pb;rw [List.length_append, List.length_take, lC h, List.length_drop];omega
theorem Bh {a b : List Dyadic} {j : Nat} (h : a.length = b.length) (hj : j = a.length) : pb a b j = kf a b := by
 unfold pb;rw [List.take_of_length_le (by rw [lC h]; omega), List.drop_of_length_le Ky, List.append_nil]
theorem vJ : ∀ {a b : List Nat}, a.length = b.length → av (gy a b) ≤ av a
 | [], [], _ => Nat.le_refl _
 | [], _ :: _, h => by simp at h
 | _ :: _, [], h => by simp at h
 | x :: a, y :: b, h => Nat.mul_le_mul (show x - y + 1 ≤ x + 1 by omega) (vJ (by simpa using h))
theorem Aw {k : Nat} : ∀ (ls : List (List Dyadic)) (a : List Dyadic) (j : Nat), (∀ x ∈ a, Sz (k + j) x) → (∀ l ∈ ls, ∀ x ∈ l, Sz k x) → ∀ x ∈ ls.foldl kf a, Sz (k + j + ls.length) x
 | [], _, _, h, _ => h
 | l :: ls, a, j, h, h2 => fun x hx => by
  have := Aw (k := k) ls (kf a l) (j + 1) (fun y hy => by
   obtain ⟨i, hi⟩ := List.mem_iff_getElem?.1 hy;unfold kf at hi;rw [List.getElem?_zipWith] at hi
   cases h3 : a[i]? with
   | none => rw [h3] at hi; cases hi
   | some p =>
    cases h4 : l[i]? with
    | none => rw [h3, h4] at hi; cases hi
    | some q =>
     rw [h3, h4] at hi;have h5 : p + q = y := Option.some.inj hi;rw [← h5];exact (h p (List.mem_of_getElem? h3)).add ((h2 l List.mem_cons_self q (List.mem_of_getElem? h4)).mono Ky)) (fun m hm => h2 m (List.mem_cons_of_mem _ hm)) x hx
  exact this.mono (by rw [List.length_cons]; omega)
theorem wP : ∀ (ls : List (List Dyadic)) (a : List Dyadic), (∀ l ∈ ls, l.length = a.length) → (ls.foldl kf a).length = a.length
 | [], _, _ => rfl
 | l :: ls, a, h => by
  have h1 := lC (h l List.mem_cons_self).symm;rw [List.foldl_cons, wP ls (kf a l) fun m hm => by rw [h1]; exact h m (List.mem_cons_of_mem _ hm), h1]
theorem G1 {f : FX} {D : List Nat} {k : Nat} (hl : f.iu k) (he : f.e = 0) (hm : f.cs.length ≤ 200) (hk : k ≤ 90000) (hlen : D.length = f.ns.length) (hD : ∀ d ∈ D, d ≤ 127) (hc : av D ≤ 4096) : ∀ x ∈ kE D f, Sz 1000000 x := fun x hx => by
 obtain ⟨_, _, h12, _, hcl, _⟩ := FX.fv he;have hs := vJ hlen;have hmul : av (gy D f.ns) * av f.ns ≤ 4096 * 200 := Nat.mul_le_mul Ky Ky;have := ug (ym (ds := f.ns.reverse) (es := (gy D f.ns).reverse) (xs := f.cs.map NR.d) (ys := (sJ (gy D f.ns)).map nD) (k1 := k) (k2 := 1600) (fun y hy => by
  obtain ⟨c, hc2, rfl⟩ := List.mem_map.1 hy;exact (hl.num c hc2).2) (fun y hy => by
  obtain ⟨c, hc2, rfl⟩ := List.mem_map.1 hy;refine DR hc2 (by rw [r9 hlen]; omega) fun d hd => ?_;obtain ⟨i, hi⟩ := List.mem_iff_getElem?.1 hd;unfold gy at hi;rw [List.getElem?_zipWith] at hi
  cases h3 : D[i]? with
  | none => rw [h3] at hi; cases hi
  | some p =>
   cases h4 : f.ns[i]? with
   | none => rw [h3, h4] at hi; cases hi
   | some q =>
    rw [h3, h4] at hi;have h5 : p - q = d := Option.some.inj hi;have := hD p (List.mem_of_getElem? h3);omega) (av (gy D f.ns))) x hx
 rw [AM, dr] at this;exact this.mono Ky
theorem Gl {f : FX} {D : List Nat} (hlen : D.length = f.ns.length) (hle : ∀ (i x y : Nat), f.ns[i]? = some x → D[i]? = some y → x ≤ y) : (kE D f).length = av D := by
 unfold kE k5 lr;rw [gE, oB hlen.symm hle]
theorem zN {fs : List FX} (h : ix fs = 0) (hln : ∀ f ∈ fs, f.ds.length = f.n) : ∀ f ∈ fs, (maxD fs).length = f.ns.length ∧ (∀ (i x y : Nat), f.ns[i]? = some x → (maxD fs)[i]? = some y → x ≤ y) ∧ ∀ d ∈ maxD fs, d ≤ 127 := fun f hm => by
 obtain ⟨hne, jv, hnv⟩ := ml h;obtain ⟨f0, ft, rfl⟩ := List.exists_cons_of_ne_nil hne;have hns : ∀ g ∈ f0 :: ft, g.ns.length = f0.n := fun g hg => by
  unfold FX.ns;rw [List.length_map, hln g hg, hnv g hg]
  rfl
 have hDe : maxD (f0 :: ft) = ((f0 :: ft).map FX.ns).foldl jm f0.ns := by
  unfold maxD;rw [List.foldl_map]
  rfl
 have h0 := hns f0 List.mem_cons_self;obtain ⟨h1, _, h3⟩ := vc ((f0 :: ft).map FX.ns) f0.ns fun l hl => by
  obtain ⟨g, hg, rfl⟩ := List.mem_map.1 hl;rw [hns g hg, h0]
 rw [hDe];refine ⟨by rw [h1, h0, hns f hm], h3 f.ns (List.mem_map.2 ⟨f, hm, rfl⟩), uu 127 _ _ (FX.fv (jv f0 List.mem_cons_self)).2.2.2.1 fun l hl => ?_⟩;obtain ⟨g, hg, rfl⟩ := List.mem_map.1 hl;exact (FX.fv (jv g hg)).2.2.2.1
theorem yK (L : Option Addr) (n c : Nat) (fs : List FX) (k : Nat) (w : World) (hT : eP w) (hL : Sl w L n 2 (aY FX.cells fs)) (hn : n ≤ 1000) (hf : ∀ f ∈ fs, f.at_ w) (hl : ∀ f ∈ fs, f.iu k) (hm : ∀ f ∈ fs, f.m ≤ 200) (hk : k ≤ 90000) :
  Calls Tryz.prog 110 #[.slice L n c] w fun r w' => (eG fs ≠ 0 ∧ r = Dv (eG fs) ∧ Below w.heap.size w w') ∨
   (eG fs = 0 ∧ ∃ g : FX, FU (maxD fs) (Hq (fs.map (kE (maxD fs)))) g ∧ r = .returned (.tuple #[.agg #[.slice g.A g.n g.a, .slice g.B g.m g.b], .int .i64 0]) ∧ Hp w [g.jn, g.jc] w') := by
 have hh := Hp.start w;have hln := hL.bM FX.len Kz;have hrs := fun w1 hT1 hb => sH L n c fs k w1 hT1 (hL.ext hb) hn (fun f hm => (hf f hm).ext hb) hl hm hk;by_cases h0 : eG fs = 0
 ·have hlk : ix fs = 0 := by
   unfold eG at h0;split at h0
   ·rename_i h; exact absurd h0 h
   ·rename_i h; simpa using h
  obtain ⟨hne, jv, _⟩ := ml hlk;obtain ⟨f0, ft, rfl⟩ := List.exists_cons_of_ne_nil hne;have hD4 : av (maxD (f0 :: ft)) ≤ 4096 := by
   unfold eG at h0;rw [if_neg Ky] at h0;split at h0
   ·cases h0
   ·omega
  have hDs : ∀ f ∈ f0 :: ft, f.cs.length ≤ 200 ∧ (maxD (f0 :: ft)).length = f.ns.length ∧ (∀ d ∈ maxD (f0 :: ft), d ≤ 127) ∧ (kE (maxD (f0 :: ft)) f).length = av (maxD (f0 :: ft)) := fun f hm2 => by
   obtain ⟨h1, h2, h3⟩ := zN hlk (fun g hg => by have := (hf g hg).dg.1; rw [bT] at this; omega) f hm2;have h4 := (hf f hm2).nm.bM NR.len Kz;have h5 := hm f hm2;exact ⟨Ky, h1, h3, Gl h1 h2⟩
  have hsz := fun f hm => G1 (hl f hm) (jv f hm) (hDs f hm).1 hk (hDs f hm).2.1 (hDs f hm).2.2.1 hD4;have hxl := fun f hm => (hDs f hm).2.2.2;clear hDs;rw [h0] at hrs;generalize maxD (f0 :: ft) = D at *;have hra := fun w1 hT1 hb => (hrs w1 hT1 hb).mono fun r w' h => show ∃ (A : Option Addr) (a n0 a0 go b0 : Nat) (A0 : Option Addr) (gs : List FX), r = .returned (.tuple #[.slice A n a, .int .i64 0]) ∧ gs.length = ft.length ∧ n0 = D.length ∧ (∀ (i : Nat) (f g : FX), ft[i]? = some f → gs[i]? = some g → FU D (kE D f) g) ∧
    Hp w1 (.row A n a 61 2 (aY FX.cells (⟨A0, n0, a0, some ⟨go, 0, none⟩, av D, b0, bu D, (kE D f0).map nR⟩ :: gs)) :: .row (some ⟨go, 0, none⟩) (av D) b0 29 3 (aY NR.cells ((kE D f0).map nR)) :: .row A0 n0 a0 3 1 (bG (bu D)) :: jP gs.reverse) w' from by
   rcases h with h | ⟨_, A, a, gs, h1, h2, h3, h4⟩
   ·exact absurd rfl h.1
   ·obtain ⟨g0, gs, rfl⟩ := List.exists_cons_of_ne_nil (l := gs) (by intro e; rw [e] at h2; rw [← hln] at h2; cases h2);obtain ⟨e1, e2, e3, e4⟩ := h3 0 f0 g0 rfl rfl;rw [List.reverse_cons, vm] at h4;have h5 := h4.perm (H' := .row A n a 61 2 (aY FX.cells (g0 :: gs)) :: g0.jn :: g0.jc :: jP gs.reverse) (.cons _ List.perm_append_comm);obtain ⟨A0, n0, a0, B0, m0, b0, ds0, cs0⟩ := g0
    cases e1; cases e2; cases e4
    obtain ⟨go, rfl⟩ := h5.dq (i := 1) rfl (dw D);exact ⟨A, a, n0, a0, go, b0, A0, gs, h1, by rw [← hln] at h2; simpa using h2, e3, fun i f g hf hg => h3 (i + 1) f g hf hg, h5⟩
  clear hrs;have hnp : ft.length + 1 = n := hln;refine al (N := 53) (l := [.slice L n c]) Tryz.func110 rfl rfl (by simp) ?_;refine sr ?_;refine cB hh ?_;intro b2 w2 hh;refine aI (aa (sr (mL ?_)));refine aN (hra _ (hT.hp hh) hh.below) aw.out rfl Kz ?_;rintro e_ w13 ⟨A, a, n0, a0, go, b0, A0, gs, rfl, hgl, hn0, hup, h2⟩;refine ⟨_, rfl, ?_⟩;replace hh := (hh.join h2).perm List.perm_append_comm;obtain ⟨gq, rfl⟩ := hh.dq (i := 1) rfl Ky;have hca := hh.iw (i := 1) rfl;refine mT ?_;refine dI ?_;refine dI ?_;refine aL (aI (aa (ah (sr (mI ?_)))));refine cL (aa (cF (ak (ai (sr (mL ?_))))));refine jV aQ.out aF.size rfl rfl Ky Ky Kz ?_;refine bJ (vs := [_, _]) aF.out rfl (hh.gO (i := 1) rfl FX.len Kz (show (_ :: gs)[0]? = some _ from rfl)) rfl Kz ?_;refine cB hh ?_;intro b6 w6 hh;refine bK hh 0 [_,_] ?_;intro ws hh;replace hh : Hp _ (.blk _ _ [_, _] _ :: _) _ := hh;refine aa (ah (sr (mL ?_)));refine bp rfl rfl Kz (iS aQ.out aF.size rfl rfl (l := 1) rfl Ky Ky) ?_;refine aW (mI (aa (aj ?_)));have hx0 := hxl f0 List.mem_cons_self;have hxi : ∀ (i : Nat), (((ft.take i).map (kE D)).foldl kf (kE D f0)).length = av D := fun i => by
   rw [wP _ _ fun l hl => ?_, hx0];obtain ⟨f, hf2, rfl⟩ := List.mem_map.1 hl;rw [hx0, hxl f (List.mem_cons_of_mem _ (List.mem_of_mem_take hf2))]
  have hzi : ∀ (i : Nat), ∀ x ∈ ((ft.take i).map (kE D)).foldl kf (kE D f0), Sz 1001000 x := fun i x hx => by
   refine (Aw (k := 1000000) _ _ 0 (hsz f0 List.mem_cons_self) (fun l hl => ?_) x hx).mono ?_
   ·obtain ⟨f, hf2, rfl⟩ := List.mem_map.1 hl;exact hsz f (List.mem_cons_of_mem _ (List.mem_of_mem_take hf2))
   ·rw [List.length_map, List.length_take];omega
  refine bm [8, 9, 10, 26, 27, 28, 29, 30, 31, 32, 33, 34, 35, 36, 37, 38, 39, 40, 41, 42, 43, 44, 45, 46, 47, 48, 49, 50, 51] 26
   (fun v w' => ∃ i : Nat, i ≤ n - 1 ∧ v = .int .i64 i ∧ Hp w (.blk b6 61 [.slice A0 n0 a0, .slice (some ⟨go, 0, none⟩) (av D) b0] (0, 0) :: .blk b2 61 [.slice none 0 0, .slice none 0 0] (0, 0) :: .row (some ⟨gq, 0, none⟩) n a 61 2 (aY FX.cells (⟨A0, n0, a0, some ⟨go, 0, none⟩, av D, b0, bu D, (kE D f0).map nR⟩ :: gs)) :: .row (some ⟨go, 0, none⟩) (av D) b0 29 3 (aY NR.cells ((((ft.take i).map (kE D)).foldl kf (kE D f0)).map nR)) :: .row A0 n0 a0 3 1 (bG (bu D)) :: jP gs.reverse) w')
   (fun v _ => n - 1 - (intOf v).toNat) ?_ ?_
  ·exact ⟨0, Nat.zero_le _, rfl, hh⟩
  ·clear hh;rintro ρ' v w' ⟨i, hi, rfl, hh⟩;by_cases hlt : i < n - 1
   ·obtain ⟨f, hx⟩ := ay (l := ft) (k := i) Ky;obtain ⟨g, hg⟩ := ay (l := gs) (k := i) Ky;obtain ⟨A1, n1, a1, B1, m1, b1, ds1, cs1⟩ := g;obtain ⟨e1, e2, e3, e4⟩ := hup i f _ hx hg
    cases e1; cases e2; cases e4
    have hmem := List.mem_reverse.2 (List.mem_of_getElem? hg);have hbk : Sl w' (if a = 1 then some ⟨gq, 0, none⟩ else (some ⟨gq, 0, none⟩ : Option Addr).map (·.add (1 * 2))) (n - 1) 2 (aY FX.cells gs) := (hh.aM (i := 2) rfl).back Ky hca;obtain ⟨ab, hAb, sb⟩ := hbk.at_ Ky;have jv : Value.slice (if a = 1 then some ⟨gq, 0, none⟩ else (some ⟨gq, 0, none⟩ : Option Addr).map (·.add (1 * 2))) (n - 1) (a - 1) = .slice (some ab) (n - 1) (a - 1) := by rw [hAb]
    have hfX : ((ft.take (i + 1)).map (kE D)).foldl kf (kE D f0) = kf (((ft.take i).map (kE D)).foldl kf (kE D f0)) (kE D f) := by rw [aH hx, List.map_append, List.foldl_append]; rfl
    have hxa := hxi i;have hza := hzi i;have hzb := hsz f (List.mem_cons_of_mem _ (List.mem_of_getElem? hx));generalize ((ft.take i).map (kE D)).foldl kf (kE D f0) = X at *;refine sr ?_;refine aK (aa (ah (cT (ak (ai (ah (aj (sr ?_))))))));refine aD (k := i) aQ.out aF.size jv rfl Ky Ky Kz ?_;refine bJ (vs := [_, _]) aF.out rfl (show Rd _ _ [.slice A1 n1 a1, .slice B1 (av D) b1] from sb.recAt FX.len hg) rfl Kz ?_;refine cB hh ?_;intro b8 w8 hh;refine bK hh 0 [_,_] ?_;intro ws hh;replace hh : Hp _ (.blk _ _ [_, _] _ :: _) _ := hh;refine aa (sr (bP ?_));refine bR hh 0 ?_;refine aW (mI (aa (aj ?_)));refine bm [9, 10, 33, 34, 35, 36, 37, 38, 39, 40, 41, 42, 43, 44, 45, 46, 47, 48, 49, 50] 33
     (fun v w' => ∃ j : Nat, j ≤ av D ∧ v = .int .i64 j ∧ Hp w (.blk b8 61 [.slice A1 n1 a1, .slice B1 (av D) b1] (0, 0) :: .blk b6 61 [.slice A0 n0 a0, .slice (some ⟨go, 0, none⟩) (av D) b0] (0, 0) :: .blk b2 61 [.slice none 0 0, .slice none 0 0] (0, 0) :: .row (some ⟨gq, 0, none⟩) n a 61 2 (aY FX.cells (⟨A0, n0, a0, some ⟨go, 0, none⟩, av D, b0, bu D, (kE D f0).map nR⟩ :: gs)) :: .row (some ⟨go, 0, none⟩) (av D) b0 29 3 (aY NR.cells ((pb X (kE D f) j).map nR)) :: .row A0 n0 a0 3 1 (bG (bu D)) :: jP gs.reverse) w')
     (fun v _ => av D - (intOf v).toNat) ?_ ?_
    ·exact ⟨0, Nat.zero_le _, rfl, hh⟩
    ·clear hh;rintro ρ2 v w2 ⟨j, hj, rfl, hh⟩;have hsB := kZ (hh.own _ (List.mem_append_right [_, _, _, _, _, _] (BX hmem).1));have hyl : (kE D f).length = av D := by
      have := hsB.bM NR.len Kz;simpa using this
     by_cases hjn : j < av D
     ·obtain ⟨x, hx1⟩ := ay (l := X) (k := j) Ky;obtain ⟨y, hy1⟩ := ay (l := kE D f) (k := j) Ky;obtain ⟨a9, hA9, s9⟩ := hsB.at_ (by show 0 < av D; omega);have hev9 : Value.slice B1 (av D) b1 = .slice (some a9) (av D) b1 := by rw [show B1 = some a9 from hA9]
      have zx := hza x (List.mem_of_getElem? hx1);have zy := hzb y (List.mem_of_getElem? hy1);have hon : ((pb X (kE D f) j).map nR)[j]? = some (nR x) := by rw [List.getElem?_map, Fy Ky hx1]; rfl
      have hyn : ((kE D f).map nR)[j]? = some (nR y) := by rw [List.getElem?_map, hy1]; rfl
      have hset := Db (a := X) (b := kE D f) Ky hx1 hy1;have hsum := fun A cc w1 hT1 hS1 => iK A 2 cc [nR x, nR y] w1 hT1 hS1 (by simpa using ⟨zx.ok Ky, zy.ok Ky⟩) 1001000 (by simpa [dK] using ⟨zx, zy.mono Ky⟩) Ky;rw [show lv ([nR x, nR y].map NR.d) = x + y by simp only [List.map_cons, List.map_nil, dK, kn]] at hsum;have hll : ((pb X (kE D f) j).map nR).length = av D := by rw [List.length_map, CV Ky Ky, hxa]
      generalize pb X (kE D f) j = M at *;have hrl := eY NR.len (M.map nR);refine sr ?_;refine aK (aa (ah (cT (ak (ai (ah (aj (sr (mI ?_)))))))));refine aD (k := j) aQ.out aF.size hev9 rfl Ky Ky Kz ?_;refine bJ (vs := [_, _, _]) aF.out rfl (s9.recAt NR.len hyn) rfl Kz ?_;refine cB hh ?_;intro b10 w10 hh;refine aI ?_;refine bK hh 0 [_,_,_] ?_;intro ws hh;replace hh : Hp _ (.blk _ _ [_, _, _] _ :: _) _ := hh;refine aa ?_;refine a8 11 [[(6, none)], [(38, some 0)], [(9, none)], [(6, none)], [(41, some 3)], [(9, none)], [(42, some 4), (43, some 5)], [(44, some 6)], [(10, none)], [(45, some 7), (46, some 8)], [(47, some 9)]] [(10, 48), (9, 47), (8, 46), (7, 45), (6, 44), (5, 43), (4, 42), (3, 41), (2, 40), (1, 39), (0, 38)] hh mixed KA ?_;refine eA ?_;refine fQ 2 ?_;refine fJ ?_;refine eA ?_;refine fQ 2 ?_;refine fJ ?_;refine DF (j) ?_;refine x6 [_,_,_] (fun _ hj => hj.hp.gO (f := NR.cells) (x := nR x) (l := M.map nR) (i := 5) rfl NR.len Kz hon) ?_;refine gY 0 [_,_,_] ?_;refine xw [_,_,_,_,_,_] ?_;refine cH (i := 10) (Is (.agg #[.bool (nR (x + y)).neg, .string (nR (x + y)).cA, .int .i64 (nR (x + y)).e])) Is.ext ?_ ?_
      ·intro ρ1 w1 hj hR;obtain ⟨A47, c47, h47, s47⟩ := hR.1;exact du rfl (bX aw.out (a7 h47 bQ)) (hsum A47 c47 _ (hT.hp hj.hp) s47) (fun _ _ hq => ⟨_, hq.1, hq.2, rfl⟩)
      refine bA ?_;intro f W hJ hV;have hb_11 := hJ.bl;obtain ⟨v48, v47, v46, v45, v44, v43, v42, v41, v40, v39, v38, _⟩ := hV;obtain ⟨A47, c47, e47, f47⟩ : Rows _ _ _ (f 9) W := v47;replace hh := hJ.hp;refine bj (bC (ae v48 (ae e47 (ae v46 (ae v45 (ae v44 (ae v43 (ae v42 (ae v41 (ae v40 (ae v39 (ae v38 bh)))))))))))) ?_;dsimp only [cP];clear e47 hJ;refine bf (k := j) aQ.out aF.size rfl rfl Ky Ky Kz ?_;refine bs hh (i := 5) (vs := [_, _, _]) rfl rfl (cJ rfl) rfl aF.out rfl Ky rfl ?_;intro ws hh;simp only [List.set_cons_zero, List.set_cons_succ] at hh;rw [show cI (aY NR.cells (M.map nR)) (j * 3) [.bool (nR (x + y)).neg, .string (nR (x + y)).cA, .int .i64 (nR (x + y)).e] = aY NR.cells ((M.map nR).set j (nR (x + y))) from fZ NR.len Ky, ← List.map_set, hset] at hh;refine aE (aP (ai (aq ?_)));refine bB (mI (aE (ai ?_)));replace hh := hh.sub (List.Sublist.cons _ (List.Sublist.cons_cons _ (List.Sublist.cons_cons _ (List.Sublist.cons_cons _ (List.Sublist.cons_cons _ (List.Sublist.cons_cons _ (List.Sublist.cons_cons _ (List.Sublist.refl _))))))));refine ⟨⟨j + 1, Ky, rfl, hh⟩, by show av D - (j + 1) < av D - j; omega, ?_⟩;exact KB
     ·obtain rfl : j = av D := Ky;rw [Bh Ky Ky, ← hfX] at hh;refine sr ?_;refine aK (aa (ah (cF (aJ (az (az (aX (aP (ai (aq ?_))))))))));refine bB (mI (aE (ai ?_)));replace hh := hh.sub (List.Sublist.cons _ (List.Sublist.cons_cons _ (List.Sublist.cons_cons _ (List.Sublist.cons_cons _ (List.Sublist.cons_cons _ (List.Sublist.cons_cons _ (List.Sublist.refl _)))))));refine ⟨⟨i + 1, Ky, rfl, hh⟩, by show n - 1 - (i + 1) < n - 1 - i; omega, ?_⟩;exact KB
   ·obtain rfl : i = n - 1 := Ky;rw [List.take_of_length_le Ky] at hh;refine sr ?_;refine aK (aa (ah (cF (aJ (az (az (aX (ai (sr ?_)))))))));refine cR hh 0 [_,_] ?_;refine bK hh 1 [_,_] ?_;intro ws hh;replace hh : Hp _ (_ :: .blk _ _ [_, _] _ :: _) _ := hh;refine aI (aa (ao ?_));refine jG (aT rfl (aU (vs := [_, _]) aF.out (hh.aC (i := 1) (n := 2) rfl rfl) rfl) (cw (cM rfl) bq)) ?_;exact .inr ⟨h0, ⟨A0, n0, a0, some ⟨go, 0, none⟩, av D, b0, bu D, _⟩, ⟨rfl, rfl, hn0, rfl⟩, rfl, hh.sub (.cons _ (.cons _ (.cons _ (List.sublist_append_left [_, _] _))))⟩
 ·have hra := fun w1 hT1 hb => (hrs w1 hT1 hb).mono fun r w' h => show r = .returned (.tuple #[.slice none 0 0, .int .i64 (eG fs)]) ∧ Below w1.heap.size w1 w' from by
   rcases h with h | h
   ·exact h.2
   ·exact absurd h.1 h0
  generalize eG fs = e at *;refine al (N := 53) (l := [.slice L n c]) Tryz.func110 rfl rfl (by simp) ?_;refine sr ?_;refine cB hh ?_;intro b2 w2 hh;refine aI (aa (sr (mL ?_)));refine bE hh (hra _ (hT.hp hh) hh.below) rfl ?_;intro w13 hh;refine mT ?_;refine dI ?_;refine dI ?_;refine aL (aI (aa (ah (sr (mI ?_)))));refine cL (aa (cT (sr ?_)));refine e9 [_,_] (mI ?_);refine bK hh 0 [_,_] ?_;intro ws hh;replace hh : Hp _ (.blk _ _ [_, _] _ :: _) _ := hh;refine aI (aa (ao (aG ?_)));refine jG (aT rfl (aU (vs := [_, _]) aF.out (hh.aC (i := 0) (n := 2) rfl rfl) rfl) (cw (cM rfl) bq)) ?_;exact .inl ⟨h0, rfl, hh.below⟩
end Go.Proofs.YtaapkaefelhfcaaGreatDoor
/- The walks through lift.Mul and lift.Scale. -/
namespace Go.Proofs.YtaapkaefelhfcaaGreatDoor
open Go.RowKit
def mE (f g : FX) : Int := if ix [f, g] ≠ 0 then ix [f, g] else if pT (da f.ns g.ns) = true then 3 else 0
def rr (a b : List Nat) (j : Nat) : List Nat := (da a b).take j ++ a.drop j
theorem DA {a b : List Nat} {j x y : Nat} (h : a.length = b.length) (hx : a[j]? = some x) (hy : b[j]? = some y) : (bu (rr a b j)).set j ((x : Int) + (y : Int)) = bu (rr a b (j + 1)) := by
 have hj := (List.getElem?_eq_some_iff.1 hx).1;unfold rr;rw [fN hx, aH (qk hx hy)];have hl : (bu ((da a b).take j)).length = j := by rw [cU, List.length_take, jK h]; omega
 have e1 : bu ((da a b).take j ++ x :: a.drop (j + 1)) = bu ((da a b).take j) ++ (x : Int) :: bu (a.drop (j + 1)) := by simp [bu]
 rw [e1, nO _ _ _ _ _ hl];simp [bu]
theorem Ga {a b : List Nat} {j x : Nat} (h : a.length = b.length) (hx : a[j]? = some x) : (rr a b j)[j]? = some x := by
 have hj := (List.getElem?_eq_some_iff.1 hx).1;have hl : ((da a b).take j).length = j := by rw [List.length_take, jK h]; omega
 unfold rr;rw [List.getElem?_append_right Ky, hl, Nat.sub_self, List.getElem?_drop, Nat.add_zero, hx]
theorem Eh {a b : List Nat} {j : Nat} (h : a.length = b.length) (hj : j ≤ a.length) : (rr a b j).length = a.length := by
 unfold rr;rw [List.length_append, List.length_take, jK h, List.length_drop];omega
theorem Bl {a b : List Nat} {j : Nat} (h : a.length = b.length) (hj : j = a.length) : rr a b j = da a b := by
 unfold rr;rw [List.take_of_length_le (by rw [jK h]; omega), List.drop_of_length_le Ky, List.append_nil]
theorem yj (f g : FX) (k : Nat) (w : World) (hT : eP w) (hf : f.at_ w) (hg : g.at_ w) (hlf : f.iu k) (hlg : g.iu k) (hmf : f.m ≤ 200) (hmg : g.m ≤ 200) (hk : k ≤ 50000) :
  Calls Tryz.prog 111 #[.agg #[.slice f.A f.n f.a, .slice f.B f.m f.b], .agg #[.slice g.A g.n g.a, .slice g.B g.m g.b]] w fun r w' =>
   (mE f g ≠ 0 ∧ r = Dv (mE f g) ∧ Below w.heap.size w w') ∨
   (mE f g = 0 ∧ ∃ p : FX, FU (da f.ns g.ns) (lr f.ns g.ns (f.cs.map NR.d) (g.cs.map NR.d)) p ∧ r = .returned (.tuple #[.agg #[.slice p.A p.n p.a, .slice p.B p.m p.b], .int .i64 0]) ∧ Hp w [p.jn, p.jc] w') := by
 have hh := Hp.start w;have hall : ∀ x ∈ [f, g], x.at_ w ∧ x.iu k := by simpa using ⟨⟨hf, hlf⟩, hg, hlg⟩
 have hlk := fun A c w1 hT1 hS1 hb => pI A 2 c [f, g] k w1 hT1 hS1 Kz (fun x hx => (hall x hx).1.ext hb) (fun x hx => (hall x hx).2);have hlnf := hf.dg.1;have hlng := hg.dg.1;rw [bT] at hlnf hlng;have hlmf := hf.nm.bM NR.len Kz;have hlmg := hg.nm.bM NR.len Kz;unfold mE;by_cases h0 : ix [f, g] = 0
 ·obtain ⟨_, jv, hnv⟩ := ml h0;have hgn : g.n = f.n := hnv g (by simp);obtain ⟨df, cf, hf12, hflow, hfc, _⟩ := FX.fv (jv f (by simp));obtain ⟨dg, cg, hg12, hglow, hgc, _⟩ := FX.fv (jv g (by simp));have hfl : f.ns.length = f.n := by unfold FX.ns; rw [List.length_map]; omega
  have hgl : g.ns.length = f.n := by unfold FX.ns; rw [List.length_map]; omega
  rw [if_neg Ky];have hadd : ∀ d ∈ da f.ns g.ns, d ≤ 254 := fun d hd => by
   obtain ⟨i, hi⟩ := List.mem_iff_getElem?.1 hd;have hi2 := (List.getElem?_eq_some_iff.1 hi).1;rw [jK Ky] at hi2;obtain ⟨x, hx1⟩ := ay (l := f.ns) (k := i) Ky;obtain ⟨y, hy1⟩ := ay (l := g.ns) (k := i) Ky;rw [qk hx1 hy1] at hi;have := hflow x (List.mem_of_getElem? hx1);have := hglow y (List.mem_of_getElem? hy1);have := Option.some.inj hi;omega
  refine al (N := 43) (l := [.agg #[.slice f.A f.n f.a, .slice f.B f.m f.b], .agg #[.slice g.A g.n g.a, .slice g.B g.m g.b]]) Tryz.func111 rfl rfl (by simp) ?_;refine sr ?_;refine db hh [_,_] ?_;intro b2 w2 hh;refine db hh [_,_] ?_;intro b3 w3 hh;refine cB hh ?_;intro b4 w4 hh;refine aI (aa (ah (sr ?_)));refine cR hh 2 [_,_] ?_;refine cR hh 1 [_,_] ?_;refine aO hh (cs := [_, _, _, _]) aQ.out aF.out (aR (cJ rfl) (aR (cJ rfl) bI)) rfl rfl Kz Kz Kz rfl Kz ?_;intro b12 w12 hh;refine bE hh (hlk _ _ _ (hT.hp hh) (hh.aM (i := 0) rfl) hh.below) rfl ?_;intro w13 hh;refine aI (aa (sr (mI ?_)));refine cL (aa (cF (ak (ai (sr (bP ?_))))));refine bR hh 3 ?_;refine aN (kO f.A f.n f.a f.ds _ (hf.dg.ext hh.below) Ky) aw.out rfl Kz ?_;rintro e_ w20 ⟨A20, c20, rfl, hown_, hb_⟩;refine ⟨_, rfl, ?_⟩;replace hh := hh.bz (x := .row _ _ _ _ _ _) hb_ hown_;refine aL (aa (ah (sr (bP ?_))));refine bR hh 3 ?_;refine aW (mI (aa (aj ?_)));replace hh := hh.sub (List.Sublist.cons_cons _ (List.Sublist.cons _ (List.Sublist.cons_cons _ (List.Sublist.cons_cons _ (List.Sublist.cons_cons _ List.Sublist.slnil)))));rw [df] at hh;refine bm [8, 9, 24, 25, 26, 27, 28, 29, 30, 31, 32, 33, 34, 35, 36] 24
   (fun v w' => ∃ j : Nat, j ≤ f.n ∧ v = .int .i64 j ∧ Hp w [.row A20 f.n c20 3 1 (bG (bu (rr f.ns g.ns j))), .blk b4 61 [.slice none 0 0, .slice none 0 0] (0, 0), .blk b3 61 [.slice g.A g.n g.a, .slice g.B g.m g.b] (0, 0), .blk b2 61 [.slice f.A f.n f.a, .slice f.B f.m f.b] (0, 0)] w')
   (fun v _ => f.n - (intOf v).toNat) ?_ ?_
  ·exact ⟨0, Nat.zero_le _, rfl, hh⟩
  ·clear hh;rintro ρ' v w' ⟨j, hj, rfl, hh⟩;by_cases hjn : j < f.n
   ·obtain ⟨x, hx⟩ := ay (l := f.ns) (k := j) Ky;obtain ⟨y, hy⟩ := ay (l := g.ns) (k := j) Ky;have hgx := cx (eu (Ga (b := g.ns) Ky hx));have hgy : (bG g.ds)[j]? = some (.int .i64 (y : Int)) := by rw [dg]; exact cx (eu hy)
    have hml : (bG (bu (rr f.ns g.ns j))).length = f.n := by rw [bT, cU, Eh Ky Ky]; omega
    have hx127 := hflow x (List.mem_of_getElem? hx);have hy127 := hglow y (List.mem_of_getElem? hy);obtain ⟨a2, hA2, s2⟩ := hg.dg.at_ Ky;have hev2 : Value.slice g.A g.n g.a = .slice (some a2) g.n g.a := by rw [hA2]
    obtain ⟨gd, rfl⟩ := hh.dq (i := 0) rfl Ky;refine sr ?_;refine aK (aa (ah (cT (ak (ai (ah (aj (sr (mI ?_)))))))));refine aD (k := j) aQ.out aF.size hev2 rfl Ky Ky Kz ?_;refine aZ aF.out rfl (cO hh.below (s2.fP hgy)) Kz ?_;refine aI (aI (aa (aq (mL (mI ?_)))));refine bf (k := j) aQ.out aF.size rfl rfl Ky Ky Kz ?_;refine aZ aF.out rfl (hh.cN (i := 0) rfl (by first | assumption | (simp only [Nat.mul_one]; assumption))) Kz ?_;refine mI ?_;refine bB ?_;refine bf (k := j) aQ.out aF.size rfl rfl Ky Ky Kz ?_;refine bs hh (i := 0) (vs := [_]) rfl rfl (cd rfl) rfl aF.out rfl Ky rfl ?_;intro ws hh;simp only [List.set_cons_zero] at hh;rw [jb _ (by rw [← bT]; omega), DA Ky hx hy] at hh;refine aE (aP (ai (aq ?_)));refine bB (mI (aE (ai ?_)));refine ⟨⟨j + 1, Ky, rfl, hh⟩, by show f.n - (j + 1) < f.n - j; omega, ?_⟩;exact KB
   ·obtain rfl : j = f.n := Ky;rw [Bl Ky Ky] at hh;have hbig := fun w1 hS1 => qN A20 f.n c20 (da f.ns g.ns) w1 hS1 Ky (fun d hd => by have := hadd d hd; omega)
    cases hb : pT (da f.ns g.ns) with
    | true =>
     rw [hb] at hbig;rw [if_pos rfl];refine sr ?_;refine aK (aa (ah (cF (aJ (az (az (aX (ai (ah (sr (mL ?_)))))))))));refine bE hh (hbig _ (hh.aM (i := 0) rfl)) rfl ?_;intro w38 hh;refine aa (cT (sr ?_));refine e9 [_,_] ?_;refine bK hh 1 [_,_] ?_;intro ws hh;replace hh : Hp _ (_ :: .blk _ _ [_, _] _ :: _) _ := hh;refine aI (aa (ao (aG ?_)));refine jG (aT rfl (aU (vs := [_, _]) aF.out (hh.aC (i := 1) (n := 2) rfl rfl) rfl) (cw (cM rfl) bq)) ?_;exact .inl ⟨Kz, rfl, hh.below⟩
    | false =>
     rw [hb] at hbig;rw [if_neg Kz];have h4 : av (da f.ns g.ns) ≤ 4096 := by
      unfold pT at hb;have := (Bool.or_eq_false_iff.1 hb).2;have := of_decide_eq_false this;omega
     have hfm : f.m = av f.ns := Ky;have hgm : g.m = av g.ns := Ky;have hmul : av g.ns * av f.ns ≤ 200 * 200 := Nat.mul_le_mul Ky Ky;have hzs : ∀ x ∈ [f, g], ∀ y ∈ x.cs.map NR.d, Sz k y := fun x hx y hy => by
      obtain ⟨c, hc, rfl⟩ := List.mem_map.1 hy;exact ((hall x hx).2.num c hc).2
     have htm : ∀ w1, eP w1 → Below w.heap.size w w1 → Calls Tryz.prog 122 #[.agg #[.slice f.A f.n f.a, .slice f.B f.m f.b], .agg #[.slice g.A g.n g.a, .slice g.B g.m g.b]] w1 fun r w' => ∃ p : FX, FU (da f.ns g.ns) (lr f.ns g.ns (f.cs.map NR.d) (g.cs.map NR.d)) p ∧ r = .returned (.agg #[.slice p.A p.n p.a, .slice p.B p.m p.b]) ∧ Hp w1 [p.jn, p.jc] w' := fun w1 hT1 hb1 => by
      have s1 := hf.dg.ext hb1;have s2 := hf.nm.ext hb1;have s3 := hg.dg.ext hb1;have s4 := hg.nm.ext hb1;rw [df] at s1;rw [cf, hfm] at s2;rw [dg, hgn] at s3;rw [cg, hgm] at s4;rw [hgn, hfm, hgm];refine (nL f.A f.B g.A g.B f.n f.a f.b g.a g.b f.ns g.ns (f.cs.map NR.d) (g.cs.map NR.d) k k w1 hT1 s1 s2 s3 s4 Ky hflow hglow h4 Ky (hzs f (by simp)) (hzs g (by simp)) Ky).mono fun r w' h => ?_;obtain ⟨A, a, B, b, rfl, h2⟩ := h;exact ⟨⟨A, f.n, a, B, av (da f.ns g.ns), b, bu (da f.ns g.ns), _⟩, ⟨rfl, rfl, by rw [jK Ky]; exact hfl.symm, rfl⟩, rfl, h2⟩
     refine sr ?_;refine aK (aa (ah (cF (aJ (az (az (aX (ai (ah (sr (mL ?_)))))))))));refine bE hh (hbig _ (hh.aM (i := 0) rfl)) rfl ?_;intro w38 hh;refine aa (cF (ak (ai (sr ?_))));refine cR hh 3 [_,_] ?_;refine cR hh 2 [_,_] ?_;refine aN (htm _ (hT.hp hh) hh.below) aw.out rfl Kz ?_;rintro e_ w42 ⟨p, hp, rfl, h2⟩;refine ⟨_, rfl, ?_⟩;replace hh := hh.join h2;refine bK hh 3 [_,_] ?_;intro ws hh;replace hh : Hp _ (_ :: _ :: _ :: .blk _ _ [_, _] _ :: _) _ := hh;refine aI (aa (ao ?_));refine jG (aT rfl (aU (vs := [_, _]) aF.out (hh.aC (i := 3) (n := 2) rfl rfl) rfl) (cw (cM rfl) bq)) ?_;exact .inr ⟨rfl, p, hp, rfl, hh.sub (List.sublist_append_left [_, _] _)⟩
 ·rw [if_pos h0];refine al (N := 43) (l := [.agg #[.slice f.A f.n f.a, .slice f.B f.m f.b], .agg #[.slice g.A g.n g.a, .slice g.B g.m g.b]]) Tryz.func111 rfl rfl (by simp) ?_;refine sr ?_;refine db hh [_,_] ?_;intro b2 w2 hh;refine db hh [_,_] ?_;intro b3 w3 hh;refine cB hh ?_;intro b4 w4 hh;refine aI (aa (ah (sr ?_)));refine cR hh 2 [_,_] ?_;refine cR hh 1 [_,_] ?_;refine aO hh (cs := [_, _, _, _]) aQ.out aF.out (aR (cJ rfl) (aR (cJ rfl) bI)) rfl rfl Kz Kz Kz rfl Kz ?_;intro b12 w12 hh;refine bE hh (hlk _ _ _ (hT.hp hh) (hh.aM (i := 0) rfl) hh.below) rfl ?_;intro w13 hh;refine aI (aa (sr (mI ?_)));refine cL (aa (cT (sr ?_)));refine e9 [_,_] (mI ?_);refine bK hh 1 [_,_] ?_;intro ws hh;replace hh : Hp _ (_ :: .blk _ _ [_, _] _ :: _) _ := hh;refine aI (aa (ao (aG ?_)));refine jG (aT rfl (aU (vs := [_, _]) aF.out (hh.aC (i := 1) (n := 2) rfl rfl) rfl) (cw (cM rfl) bq)) ?_;exact .inl ⟨h0, rfl, hh.below⟩
end Go.Proofs.YtaapkaefelhfcaaGreatDoor
/- The walks through the document's answer's products of powers. -/
namespace Go.Proofs.YtaapkaefelhfcaaGreatDoor
open Go.RowKit
theorem su (A B : Option Addr) (n m c c' : Nat) (xs ys : List Int) (w : World) (hx : Sl w A n 1 (bG xs)) (hy : Sl w B m 1 (bG ys)) (hn : n ≤ 100000) (hm : m ≤ 100000) :
  Calls Tryz.prog 53 #[.slice A n c, .slice B m c'] w fun e w' => e = .returned (.bool (decide (xs = ys))) ∧ Below w.heap.size w w' := by
 have hxl : xs.length = n := by have := hx.1; rw [bT] at this; omega
 have hyl : ys.length = m := by have := hy.1; rw [bT] at this; omega
 have hh := Hp.start w;by_cases hnm : n = m
 ·subst hnm;refine al (N := 26) (l := [.slice A n c, .slice B n c']) Tryz.func53 rfl rfl (by simp) ?_;refine sr (aB (aa (ah (sr (mL (aW (mL (aW ?_))))))));refine cL (aa (cF (ak (ai (ah (sr (aI (aa (aj ?_)))))))));refine bm [4, 5, 11, 12, 13, 14, 15, 16, 17, 18, 19, 20, 21, 22, 23, 24, 25] 5
   (fun i w' => ∃ k : Nat, k ≤ n ∧ i = .int .i64 k ∧ xs.take k = ys.take k ∧ Hp w [] w')
   (fun i _ => n - (intOf i).toNat) ?_ ?_
  ·exact ⟨0, Nat.zero_le _, rfl, rfl, hh⟩
  ·clear hh;rintro ρ' i w' ⟨k, hk, rfl, he, hh⟩;replace hx := hx.ext hh.below;replace hy := hy.ext hh.below;by_cases hlt : k < n
   ·obtain ⟨x, hxk⟩ := ay (l := xs) (k := k) Ky;obtain ⟨y, hyk⟩ := ay (l := ys) (k := k) Ky;obtain ⟨ad, rfl, hr⟩ := hx.at_ Ky;obtain ⟨bd, rfl, hs⟩ := hy.at_ Ky;by_cases hxy : x = y
    ·subst hxy;refine ah (sr (mI (mL (aW ?_))));refine aK (aa (cT (ak (ai (ah (aj (ah ?_)))))));refine a8 8 [[(0, none)], [(5, none)], [(17, some 0), (18, some 1)], [(19, some 2)], [(1, none)], [(5, none)], [(21, some 4), (22, some 5)], [(23, some 6)]] [(7, 24), (6, 23), (5, 22), (4, 21), (3, 20), (2, 19), (1, 18), (0, 17)] hh mixed KA ?_;refine jt ?_;refine fJ ?_;refine bF (i := 2) (fun ρ1 w1 hj hR => dJ aQ.out aF.size (show ρ1 17 = Value.slice _ _ _ from hR.1) (show ρ1 18 = Value.int _ _ from hR.2.1) Ky Ky) ?_;refine nV (fun _ hj => jO (hr.ext hj.bl) (cx hxk) rfl) ?_;refine jt ?_;refine fJ ?_;refine bF (i := 6) (fun ρ1 w1 hj hR => dJ aQ.out aF.size (show ρ1 21 = Value.slice _ _ _ from hR.1) (show ρ1 22 = Value.int _ _ from hR.2.1) Ky Ky) ?_;refine nV (fun _ hj => jO (hs.ext hj.bl) (cx hyk) rfl) ?_;refine bA ?_;intro f W hJ hV;have hb_6 := hJ.bl;obtain ⟨v24, v23, v22, v21, v20, v19, v18, v17, _⟩ := hV;replace hh := hJ.hp;refine bj (bC (ae v24 (ae v23 (ae v22 (ae v21 (ae v20 (ae v19 (ae v18 (ae v17 bh))))))))) ?_;dsimp only [cP];clear hJ;refine cL (aa (cF (ak (aP (ai (aq (mI ?_)))))));refine bB (aI (aE (ai ?_)))
     refine ⟨⟨k + 1, Ky, rfl, by rw [aH hxk, aH hyk, he], hh⟩, by show n - (k + 1) < n - k; omega, ?_⟩;exact KB
    ·refine ah (sr (mI (mL (aW ?_))));refine aK (aa (cT (ak (ai (ah (aj (ah ?_)))))));refine a8 8 [[(0, none)], [(5, none)], [(17, some 0), (18, some 1)], [(19, some 2)], [(1, none)], [(5, none)], [(21, some 4), (22, some 5)], [(23, some 6)]] [(7, 24), (6, 23), (5, 22), (4, 21), (3, 20), (2, 19), (1, 18), (0, 17)] hh mixed KA ?_;refine jt ?_;refine fJ ?_;refine bF (i := 2) (fun ρ1 w1 hj hR => dJ aQ.out aF.size (show ρ1 17 = Value.slice _ _ _ from hR.1) (show ρ1 18 = Value.int _ _ from hR.2.1) Ky Ky) ?_;refine nV (fun _ hj => jO (hr.ext hj.bl) (cx hxk) rfl) ?_;refine jt ?_;refine fJ ?_;refine bF (i := 6) (fun ρ1 w1 hj hR => dJ aQ.out aF.size (show ρ1 21 = Value.slice _ _ _ from hR.1) (show ρ1 22 = Value.int _ _ from hR.2.1) Ky Ky) ?_;refine nV (fun _ hj => jO (hs.ext hj.bl) (cx hyk) rfl) ?_;refine bA ?_;intro f W hJ hV;have hb_6 := hJ.bl;obtain ⟨v24, v23, v22, v21, v20, v19, v18, v17, _⟩ := hV;replace hh := hJ.hp;refine bj (bC (ae v24 (ae v23 (ae v22 (ae v21 (ae v20 (ae v19 (ae v18 (ae v17 bh))))))))) ?_;dsimp only [cP];clear hJ;refine cL (aa (cT (sr (aB (aa (ao (bD (aG (aG (bD (aG ?_)))))))))));refine cq ?_
     have : ¬ xs = ys := fun h => hxy (by rw [h, hyk] at hxk; exact (Option.some.inj hxk).symm);simp only [this, decide_false];exact ⟨trivial, hh.below⟩
   ·refine ah (sr (mI (mL (aW ?_))));refine aK (aa (cF (aJ (az (az (aX (ai (sr (aB (aa (ao ?_)))))))))));refine cq ?_;rw [List.take_of_length_le Ky, List.take_of_length_le Ky] at he;simp only [he, decide_true];exact ⟨trivial, hh.below⟩
 ·refine al (N := 26) (l := [.slice A n c, .slice B m c']) Tryz.func53 rfl rfl (by simp) ?_;refine sr (aB (aa (ah (sr (mL (aW (mL (aW ?_))))))));refine cL (aa (cT (sr (aB (aa (ao (aG ?_)))))));refine cq ?_;have : ¬ xs = ys := fun h => hnm (by rw [← hxl, ← hyl, h]);simp only [this, decide_false];exact ⟨trivial, hh.below⟩
end Go.Proofs.YtaapkaefelhfcaaGreatDoor
/- The walks through count and All. -/
namespace Go.Proofs.YtaapkaefelhfcaaGreatDoor
open Go.RowKit
end Go.Proofs.YtaapkaefelhfcaaGreatDoor
/- The walk through the document's answer's All. -/
namespace Go.Proofs.YtaapkaefelhfcaaGreatDoor
open Go.RowKit
end Go.Proofs.YtaapkaefelhfcaaGreatDoor
/- The walks through ogeeref12: forms by definition: what is wrong, ways to choose, places. -/
namespace Go.Proofs.YtaapkaefelhfcaaGreatDoor
open Go.RowKit
theorem mK (A : Option Addr) (n c : Nat) (ds : List Int) (w : World) (hS : Sl w A n 1 (bG ds)) (hn : n ≤ 1000000) :
  Calls Tryz.prog 35 #[.slice A n c] w fun r w' => r = .returned (.int .i64 (x7 ds)) ∧ Below w.heap.size w w' := by
 have hh := Hp.start w;have hln : ds.length = n := by have := hS.1; simpa [bG] using this
 unfold x7;refine al (N := 39) (l := [.slice A n c]) Tryz.func35 rfl rfl (by simp) ?_;refine sr (aI (aa (sr (aI (aa (ah (sr (aI (aa (aj ?_))))))))));refine bm [2, 4, 6, 7, 8, 9, 10, 11, 12, 13, 14, 15, 16, 17, 18, 19, 20, 21, 22, 23] 4
  (fun v w' => ∃ i : Nat, i ≤ n ∧ v = .int .i64 i ∧ (ds.take i).any (fun d => !dk d) = false ∧ Hp w [] w')
  (fun v _ => n - (intOf v).toNat) ?_ ?_
 ·exact ⟨0, Nat.zero_le _, rfl, rfl, hh⟩
 ·clear hh;rintro ρ' v w' ⟨i, hi, rfl, hall, hh⟩;by_cases hlt : i < n
  ·obtain ⟨d, hd⟩ := ay (l := ds) (k := i) Ky;have hgi := cx hd;obtain ⟨ad, rfl, hr⟩ := hS.at_ Ky;have hbad : (!dk d) = true → ds.any (fun d => !dk d) = true := fun h => List.any_eq_true.2 ⟨d, List.mem_of_getElem? hd, h⟩;by_cases h1 : d < 0
   ·refine ah (sr (mI (mL (aW ?_))));refine aK (aa (cT (ak (ai (ah (aj (sr (mL (mI ?_)))))))));refine aD (k := i) aQ.out aF.size rfl rfl Ky Ky Kz ?_;refine aZ aF.out rfl ((hr.ext hh.below).fP (by assumption)) Kz ?_;refine aK (mB ?_);refine gS (gS (gS (gS (gS ?_))));refine e7 ?_;refine aa (cT (sr (aI (aa (ao (bD (aG (aG (bD (aG ?_))))))))));refine cq ?_;rw [hbad (by simp [dk]; omega), if_pos rfl];exact ⟨rfl, hh.below⟩
   ·by_cases h2 : 127 < d
    ·refine ah (sr (mI (mL (aW ?_))));refine aK (aa (cT (ak (ai (ah (aj (sr (mL (mI ?_)))))))));refine aD (k := i) aQ.out aF.size rfl rfl Ky Ky Kz ?_;refine aZ aF.out rfl ((hr.ext hh.below).fP (by assumption)) Kz ?_;refine aK (mB (gT (mL (gT (mI (gT ?_))))));refine aD (k := i) aQ.out aF.size rfl rfl Ky Ky Kz ?_;refine gT ?_;refine aZ aF.out rfl ((hr.ext hh.below).fP (by assumption)) Kz ?_;refine gT ?_;refine ct ?_;refine eX ?_;refine aa (cT (sr (aI (aa (ao (bD (aG (aG (bD (aG ?_))))))))));refine cq ?_;rw [hbad (by simp [dk]; omega), if_pos rfl];exact ⟨rfl, hh.below⟩
    ·refine ah (sr (mI (mL (aW ?_))));refine aK (aa (cT (ak (ai (ah (aj (sr (mL (mI ?_)))))))));refine aD (k := i) aQ.out aF.size rfl rfl Ky Ky Kz ?_;refine aZ aF.out rfl ((hr.ext hh.below).fP (by assumption)) Kz ?_;refine aK (mB (gT (mL (gT (mI (gT ?_))))));refine aD (k := i) aQ.out aF.size rfl rfl Ky Ky Kz ?_;refine gT ?_;refine aZ aF.out rfl ((hr.ext hh.below).fP (by assumption)) Kz ?_;refine gT ?_;refine ct ?_;refine eX ?_;refine aa (cF (ak (aP (ai (aq (mI ?_))))));refine bB (aI (aE (ai ?_)));refine ⟨⟨i + 1, Ky, rfl, ?_, hh⟩, by show n - (i + 1) < n - i; omega, ?_⟩
     ·rw [aH hd, List.any_append, hall, List.any_cons, List.any_nil, dk, decide_eq_true Ky, decide_eq_true Ky]; rfl
     ·exact KB
  ·rw [List.take_of_length_le Ky] at hall;rw [hall, if_neg Kz];obtain ⟨ns, hns, hlow⟩ := tJ hall;have hds : ∀ (j : Nat) (d : Int), ds[j]? = some d → 0 ≤ d ∧ d ≤ 127 := fun j d hd => by
    have := List.any_eq_false.1 hall d (List.mem_of_getElem? hd);simp [dk] at this;omega
   refine ah (sr (mI (mL (aW ?_))));refine aK (aa (cF (aJ (az (az (aX (ai (ah (sr (aI (aa (aj ?_))))))))))));refine cv [3, 5, 24, 25, 26, 27, 28, 29, 30, 31, 32, 33, 34, 35, 36, 37] 3 5
    (fun v3 v w' => ∃ (i : Nat) (q : Int), i ≤ n ∧ v = .int .i64 i ∧ v3 = .int .i64 q ∧ 0 ≤ q ∧ q ≤ 4097 ∧ ux 1 ds = ux q (ds.drop i) ∧ Hp w [] w')
    (fun _ v _ => n - (intOf v).toNat) ?_ ?_
   ·exact ⟨0, 1, Nat.zero_le _, rfl, rfl, Ky, Ky, rfl, hh⟩
   ·clear hh;rintro ρ2 v3 v w2 ⟨j, q, hj, rfl, rfl, hq1, hq2, hc, hh⟩;by_cases hjn : j < n
    ·obtain ⟨d, hd⟩ := ay (l := ds) (k := j) Ky;have hgi := cx hd;have hdb := hds j d hd;obtain ⟨ad, rfl, hr⟩ := hS.at_ Ky;rw [fN hd, ux] at hc;have hm1 : 0 * 0 ≤ q * (d + 1) := Int.mul_le_mul hq1 Ky Kz Ky;have hm2 : q * (d + 1) ≤ 4097 * 128 := Int.mul_le_mul hq2 Ky Ky Kz;refine ah (sr (mI (mL (aW ?_))));refine aK (aa (cT (ak (ai (ah (aj (aq (mI (mL (mI ?_))))))))));refine aD (k := j) aQ.out aF.size rfl rfl Ky Ky Kz ?_;refine aZ aF.out rfl ((hr.ext hh.below).fP (by assumption)) Kz ?_;refine bB ?_;refine mulC ?_;refine xD rfl rfl Kz ?_;refine aI (aE (aP (ai (aq (mI ?_)))));refine bB (aI (aE (ai ?_)));refine ⟨⟨j + 1, _, Ky, rfl, rfl, by split <;> omega, by split <;> omega, by rw [hc, show min (q * (d + 1)) 4097 = if 4097 < q * (d + 1) then 4097 else q * (d + 1) by split <;> omega], hh⟩, by show n - (j + 1) < n - j; omega, ?_⟩;exact KB
    ·rw [List.drop_of_length_le Ky] at hc;refine ah (sr (mI (mL (aW ?_))));refine aK (aa (cF (aJ (az (az (aX (ai (sr (mI (aI (aa (ao ?_))))))))))));refine cq ?_;exact ⟨by rw [hc]; rfl, hh.below⟩
end Go.Proofs.YtaapkaefelhfcaaGreatDoor
/- The walks through ogeeref12, second part: ways to choose, rows, places, equal forms, a form of one's own. -/
namespace Go.Proofs.YtaapkaefelhfcaaGreatDoor
open Go.RowKit
def Kl (n : Nat) (k : Int) : Dyadic := if k < 0 ∨ (n : Int) < k then 0 else nD (bin n k.toNat)
def Js (ns : List Nat) : List ByteArray := (HQ (bu ns)).map fX
theorem vF (L : Option Addr) (n c : Nat) (b : List NR) (M : Option Addr) (c2 : Nat) (w : World) (hS : Sl w L n 3 (aY NR.cells b)) (hS2 : Sl w M n 3 (aY NR.cells b)) (hn : n ≤ 1000000) :
  Calls Tryz.prog 74 #[.slice L n c, .slice M n c2] w fun r w' => r = .returned (.bool true) ∧ Below w.heap.size w w' := by
 have hh := Hp.start w;have hln := hS.bM NR.len Kz;refine al (N := 26) (l := [.slice L n c, .slice M n c2]) Tryz.func74 rfl rfl (by simp) ?_;refine sr (aB (aa (ah (sr (mL (aW (mL (aW ?_))))))));refine cL (aa (cF (ak (ai (ah (sr (aI (aa (aj ?_)))))))));refine bm [4, 5, 11, 12, 13, 14, 15, 16, 17, 18, 19, 20, 21, 22, 23, 24, 25] 5
  (fun v w' => ∃ i : Nat, i ≤ n ∧ v = .int .i64 i ∧ Hp w [] w')
  (fun v _ => n - (intOf v).toNat) ?_ ?_
 ·exact ⟨0, Nat.zero_le _, rfl, hh⟩
 ·clear hh;rintro ρ' v w' ⟨i, hi, rfl, hh⟩;by_cases hlt : i < n
  ·obtain ⟨s, hs⟩ := ay (l := b) (k := i) Ky;obtain ⟨ad, rfl, hr⟩ := hS.at_ Ky;obtain ⟨ad2, rfl, hr2⟩ := hS2.at_ Ky;refine ah (sr (mI (mL (aW ?_))));refine aK (aa (cT (ak (ai (ah (aj (ah ?_)))))));refine a8 8 [[(0, none)], [(5, none)], [(17, some 0), (18, some 1)], [(19, some 2)], [(1, none)], [(5, none)], [(21, some 4), (22, some 5)], [(23, some 6)]] [(7, 24), (6, 23), (5, 22), (4, 21), (3, 20), (2, 19), (1, 18), (0, 17)] hh mixed KA ?_;refine jt ?_;refine fJ ?_;refine mH (i) ?_;refine x6 [_,_,_] (fun _ hj => (hr.ext hj.hp.below).recAt NR.len hs) ?_;refine jt ?_;refine fJ ?_;refine mH (i) ?_;refine x6 [_,_,_] (fun _ hj => (hr2.ext hj.hp.below).recAt NR.len hs) ?_;refine bA ?_;intro f W hJ hV;have hb_6 := hJ.bl;obtain ⟨v24, v23, v22, v21, v20, v19, v18, v17, _⟩ := hV;replace hh := hJ.hp;refine bj (bC (ae v24 (ae v23 (ae v22 (ae v21 (ae v20 (ae v19 (ae v18 (ae v17 bh))))))))) ?_;dsimp only [cP];clear hJ;refine zU rfl rfl (by first | assumption | rfl) Kz ?_;refine aa (cF (ak (aP (ai (aq (mI ?_))))));refine bB (aI (aE (ai ?_)));refine ⟨⟨i + 1, Ky, rfl, hh⟩, by show n - (i + 1) < n - i; omega, ?_⟩;exact KB
  ·refine ah (sr (mI (mL (aW ?_))));refine aK (aa (cF (aJ (az (az (aX (ai (sr (aB (aa (ao ?_)))))))))));refine cq ?_;exact ⟨rfl, hh.below⟩
theorem ub (A B : Option Addr) (n c m c2 : Nat) (A' B' : Option Addr) (c' c2' : Nat) (ds : List Int) (cs : List NR) (w : World) (hS : Sl w A n 1 (bG ds)) (hS2 : Sl w B m 3 (aY NR.cells cs)) (hS3 : Sl w A' n 1 (bG ds)) (hS4 : Sl w B' m 3 (aY NR.cells cs)) (hn : n ≤ 100000) (hm : m ≤ 1000000) :
  Calls Tryz.prog 39 #[.agg #[.slice A n c, .slice B m c2], .agg #[.slice A' n c', .slice B' m c2']] w fun r w' => r = .returned (.bool true) ∧ Below w.heap.size w w' := by
 have hh := Hp.start w;have hnum := fun w1 h1 h2 => su A A' n n c c' ds ds w1 h1 h2 hn hn;simp only [decide_true] at hnum;refine al (N := 17) (l := [.agg #[.slice A n c, .slice B m c2], .agg #[.slice A' n c', .slice B' m c2']]) Tryz.func39 rfl rfl (by simp) ?_;refine sr ?_;refine db hh [_,_] ?_;intro b2 w2 hh;refine db hh [_,_] ?_;intro b3 w3 hh;refine aB (aa (sr (bP ?_)));refine bR hh 1 ?_;refine bP ?_;refine bR hh 0 ?_;refine bE hh (hnum _ (hS.ext hh.below) (hS3.ext hh.below)) rfl ?_;intro w9 hh;refine mB (gT (bP (gT ?_)));refine bR hh 1 ?_;refine gT (bP (gT ?_));refine bR hh 0 ?_;refine aV rfl rfl ?_;refine bE hh (vF B m c2 cs B' c2' _ (hS2.ext hh.below) (hS4.ext hh.below) hm) rfl ?_;intro w15 hh;refine e7 ?_;refine aB (aa (ao ?_));refine cq ?_;exact ⟨rfl, hh.below⟩
end Go.Proofs.YtaapkaefelhfcaaGreatDoor
/- The walks through ogeeref14: Big, Times. -/
namespace Go.Proofs.YtaapkaefelhfcaaGreatDoor
open Go.RowKit
end Go.Proofs.YtaapkaefelhfcaaGreatDoor
/- The walk through ogeeref14.Times. -/
namespace Go.Proofs.YtaapkaefelhfcaaGreatDoor
open Go.RowKit
def J6 (ds es : List Nat) (xs ys : List Dyadic) (i m : Nat) : List (Nat × Dyadic) := (List.range m).map fun k => (dA (dH ds es) (dH (bV ds i) (bV es k)), (xs[i]?).getD 0 * (ys[k]?).getD 0)
def Kx (ds es : List Nat) (xs ys : List Dyadic) (i : Nat) : List (Nat × Dyadic) := (List.range i).flatMap fun i => J6 ds es xs ys i (av es)
def bS (rs : List Nat) : List UInt8 := (bu rs).map xL
end Go.Proofs.YtaapkaefelhfcaaGreatDoor
/- Plain laws: a form, raised degree by degree. -/
namespace Go.Proofs.YtaapkaefelhfcaaGreatDoor
def EW (ns : List Nat) (a : Nat) : List Nat := ns.set a (ns.getD a 0 + 1)
def Km (ns : List Nat) (a : Nat) (xs : List Dyadic) : List Dyadic :=
 (List.range (av (EW ns a))).map fun p => co ns.reverse xs (bV (EW ns a).reverse p) + if 0 < (bV (EW ns a).reverse p).getD (ns.length - 1 - a) 0 then co ns.reverse xs (Jb (bV (EW ns a).reverse p) (ns.length - 1 - a)) else 0
theorem kM : ∀ (ds rs : List Nat), ju ds rs ↔ rs.length = ds.length ∧ ∀ (i d r : Nat), ds[i]? = some d → rs[i]? = some r → r ≤ d
 | [], [] => by simp [ju]
 | [], _ :: _ => by simp [ju]
 | _ :: _, [] => by simp [ju]
 | d :: ds, r :: rs => by
  rw [ju, kM ds rs];constructor
  ·rintro ⟨h1, h2, h3⟩;refine ⟨by rw [List.length_cons, List.length_cons, h2], fun i e s he hs => ?_⟩
   cases i with
   | zero => cases he; cases hs; exact h1
   | succ i => exact h3 i e s he hs
  ·rintro ⟨h1, h2⟩;exact ⟨h2 0 d r rfl rfl, by simpa using h1, fun i e s he hs => h2 (i + 1) e s he hs⟩
def Ka (ns : List Nat) (xs : List Dyadic) (cs : List Nat) (zs : List Dyadic) : Prop := zs.length = av cs ∧ cs.length = ns.length ∧ (∀ (i n c : Nat), ns[i]? = some n → cs[i]? = some c → n ≤ c) ∧ ∀ row : List Nat, row.length = ns.length → co cs.reverse zs row = JH (gy cs ns).reverse (co ns.reverse xs) row
end Go.Proofs.YtaapkaefelhfcaaGreatDoor
/- The walk through ogeeref14.up. -/
namespace Go.Proofs.YtaapkaefelhfcaaGreatDoor
open Go.RowKit
end Go.Proofs.YtaapkaefelhfcaaGreatDoor
/- The walk through ogeeref14.Raise. -/
namespace Go.Proofs.YtaapkaefelhfcaaGreatDoor
open Go.RowKit
def Jn (w : World) (b i : Nat) : Int := match w.cell? ⟨b, 0, none⟩ with
 | some (.slice (some a) _ _) => match w.cell? (a.add (i * 1)) with
  | some (.int _ z) => z
  | _ => 0
 | _ => 0
structure RS (ns ts : List Nat) (xs : List Dyadic) (k n : Nat) (F FC : Option Addr) (c1 c2 i T : Nat) (cur : List Nat) (zs : List Dyadic) (A B : Option Addr) (ca cb : Nat) (R : List HE) (w : World) : Prop where
 JK : Ka ns xs cur zs
 le : ∀ (j c t : Nat), cur[j]? = some c → ts[j]? = some t → c ≤ t
 eq : ∀ (j c t : Nat), j < i → cur[j]? = some c → ts[j]? = some t → c = t
 sz : ∀ x ∈ zs, Sz (k + T) x
 src : (A = F ∧ ca = c1 ∧ B = FC ∧ cb = c2 ∧ cur = ns ∧ zs = xs) ∨ R = [.row B (av cur) cb 29 3 (aY NR.cells (zs.map nR)), .row A n ca 3 1 (bG (bu cur))]
 rd : ∀ (H : List HE) (w' : World), Hp w (H ++ R) w' → Sl w' A n 1 (bG (bu cur)) ∧ Sl w' B (av cur) 3 (aY NR.cells (zs.map nR))
end Go.Proofs.YtaapkaefelhfcaaGreatDoor
/- The walks through ogeeref14.Like and ogeeref14.All. -/
namespace Go.Proofs.YtaapkaefelhfcaaGreatDoor
open Go.RowKit
theorem FX.at_.ln {g : FX} {w : World} (h : g.at_ w) : g.ds.length = g.n ∧ g.cs.length = g.m := ⟨by have := h.dg.1; rw [bT] at this; omega, h.nm.bM NR.len Kz⟩
def Kept (fs : List FX) (R : List HE) (g : FX) : Prop := g ∈ fs ∨ (g.jn ∈ R ∧ g.jc ∈ R)
end Go.Proofs.YtaapkaefelhfcaaGreatDoor
/- The contracts of package lift once more, each with one ending: a form that one owns, empty where there is an error. -/
namespace Go.Proofs.YtaapkaefelhfcaaGreatDoor
open Go.RowKit
def Hn (E : Int) (D : List Nat) : List Int := if E = 0 then bu D else []
def F4 (E : Int) (ys : List Dyadic) : List NR := if E = 0 then ys.map nR else []
structure Out (E : Int) (D : List Nat) (ys : List Dyadic) (g : FX) : Prop where
 ds : g.ds = Hn E D
 cs : g.cs = F4 E ys
 n : g.n ≤ 100000
 m : g.m ≤ 1000000
def FX.nil : FX := ⟨none, 0, 0, none, 0, 0, [], []⟩
theorem Hp.Cb {w0 w : World} {H : List HE} (h : Hp w0 H w) : Hp w0 (FX.nil.jn :: FX.nil.jc :: H) w := (h.ef 3 1).ef 29 3
theorem Out.err {E : Int} {D : List Nat} {ys : List Dyadic} (h : E ≠ 0) : Out E D ys FX.nil := ⟨by unfold Hn; rw [if_neg h]; rfl, by unfold F4; rw [if_neg h]; rfl, Nat.zero_le _, Nat.zero_le _⟩
theorem FU.out {D : List Nat} {ys : List Dyadic} {g : FX} (h : FU D ys g) (h1 : D.length ≤ 1000) (h2 : av D ≤ 4096) : Out 0 D ys g := ⟨h.ds, h.cs, by rw [h.n]; omega, by rw [h.m]; omega⟩
theorem Cs {fs : List FX} (h : eG fs = 0) (hln : ∀ f ∈ fs, f.ds.length = f.n) : ix fs = 0 ∧ (maxD fs).length ≤ 1000 ∧ av (maxD fs) ≤ 4096 := by
 have hlk : ix fs = 0 := by
  unfold eG at h;split at h
  ·rename_i h2; exact absurd h h2
  ·rename_i h2; simpa using h2
 obtain ⟨hne, jv, _⟩ := ml hlk;obtain ⟨f0, ft, rfl⟩ := List.exists_cons_of_ne_nil hne;have h1 := (zN hlk hln f0 List.mem_cons_self).1;have h2 := (FX.fv (jv f0 List.mem_cons_self)).2.2.1;refine ⟨hlk, Ky, ?_⟩;unfold eG at h;rw [if_neg Ky] at h;split at h
 ·cases h
 ·omega
theorem HW {f g : FX} (h : mE f g = 0) : ix [f, g] = 0 ∧ (da f.ns g.ns).length ≤ 1000 ∧ av (da f.ns g.ns) ≤ 4096 := by
 have hlk : ix [f, g] = 0 := by
  unfold mE at h;split at h
  ·rename_i h2; exact absurd h h2
  ·rename_i h2; simpa using h2
 have h2 := (FX.fv ((ml hlk).2.1 f List.mem_cons_self)).2.2.1;refine ⟨hlk, ?_, ?_⟩
 ·unfold da;rw [List.length_zipWith];omega
 ·unfold mE at h;rw [if_neg Ky] at h;split at h
  ·cases h
  ·rename_i hb;have hb := (Bool.not_eq_true _).mp hb;unfold pT at hb;have := (Bool.or_eq_false_iff.1 hb).2;have := of_decide_eq_false this;omega
theorem Out.same {E : Int} {D : List Nat} {ys : List Dyadic} {g h : FX} (h1 : Out E D ys g) (h2 : Out E D ys h) : g.ds = h.ds ∧ g.cs = h.cs := ⟨h1.ds.trans h2.ds.symm, h1.cs.trans h2.cs.symm⟩
theorem pj (g h : FX) (w : World) (hg : g.at_ w) (hh : h.at_ w) (e : g.ds = h.ds ∧ g.cs = h.cs) (hn : g.n ≤ 100000) (hm : g.m ≤ 1000000) :
  Calls Tryz.prog 39 #[.agg #[.slice g.A g.n g.a, .slice g.B g.m g.b], .agg #[.slice h.A h.n h.a, .slice h.B h.m h.b]] w fun r w' => r = .returned (.bool true) ∧ Below w.heap.size w w' := by
 have l1 := hg.ln;have l2 := hh.ln;obtain ⟨hg1, hg2⟩ := hg;obtain ⟨hh1, hh2⟩ := hh;have e1 : h.n = g.n := by rw [← l1.1, ← l2.1, e.1]
 have e2 : h.m = g.m := by rw [← l1.2, ← l2.2, e.2]
 rw [← e.1, e1] at hh1;rw [← e.2, e2] at hh2;rw [e1, e2];exact ub g.A g.B g.n g.a g.m g.b h.A h.B h.a h.b g.ds g.cs w hg1 hg2 hh1 hh2 hn hm
def mN (f : FX) (es : List Int) : Int := if f.e ≠ 0 then f.e else p7 f.ds es
theorem si (f : FX) (E : Option Addr) (q cE : Nat) (es : List Int) (k : Nat) (w : World) (hT : eP w) (hf : f.at_ w) (hl : f.iu k) (hm : f.m ≤ 200) (hE : Sl w E q 1 (bG es)) (hq : q ≤ 1000) (hk : k ≤ 90000) :
  Calls Tryz.prog 38 #[.agg #[.slice f.A f.n f.a, .slice f.B f.m f.b], .slice E q cE] w fun r w' => ∃ g : FX, Out (mN f es) (es.map Int.toNat) (kE (es.map Int.toNat) f) g ∧ r = .returned (.tuple #[.agg #[.slice g.A g.n g.a, .slice g.B g.m g.b], .int .i64 (mN f es)]) ∧ Hp w [g.jn, g.jc] w' := by
 unfold mN;refine (n8 f E q cE es k w hT hf hl hE hq hk fun h0 h1 => ?_).mono fun r w' h => ?_
 ·obtain ⟨_, _, _, _, h2, _⟩ := FX.fv h0;have h3 : av (f.ds.map Int.toNat) ≤ 200 := by have := hf.ln.2; unfold FX.ns at h2; omega
  refine Nat.le_trans (Nat.mul_le_mul (?_ : _ ≤ 4096) h3) Kz;unfold p7 at h1;split at h1
  ·cases h1
  split at h1
  ·cases h1
  split at h1
  ·cases h1
  omega
 ·rcases h with ⟨⟨h, rfl⟩ | ⟨h0, h1, rfl⟩, hb⟩ | ⟨h0, h1, A, a, B, b, rfl, h2⟩
  ·rw [if_pos h];exact ⟨FX.nil, .err h, rfl, ((Hp.start w).ext hb).Cb⟩
  ·rw [if_neg Ky];exact ⟨FX.nil, .err h1, rfl, ((Hp.start w).ext hb).Cb⟩
  ·rw [if_neg Ky, h1];have hes : es = bu (es.map Int.toNat) := by
    obtain ⟨h3, _, _, _⟩ := FX.fv h0;have h4 : p7 (bu f.ns) es = 0 := by rw [← h3]; exact h1
    unfold p7 at h4;split at h4
    ·cases h4
    split at h4
    ·cases h4
    rename_i h5 h6;obtain ⟨ts, rfl, _⟩ := u9 (ns := f.ns) (es := es) Ky ((Bool.not_eq_true _).mp h6);rw [iC]
   have h7 : av (es.map Int.toNat) ≤ 4096 := by
    unfold p7 at h1;split at h1
    ·cases h1
    split at h1
    ·cases h1
    split at h1
    ·cases h1
    omega
   refine ⟨⟨A, q, a, B, av (es.map Int.toNat), b, es, _⟩, ⟨?_, rfl, by show q ≤ 100000; omega, by show av _ ≤ 1000000; omega⟩, rfl, h2⟩;show es = _;unfold Hn;rw [if_pos rfl];exact hes
theorem Hf (f g : FX) (k : Nat) (w : World) (hT : eP w) (hf : f.at_ w) (hg : g.at_ w) (hlf : f.iu k) (hlg : g.iu k) (hmf : f.m ≤ 200) (hmg : g.m ≤ 200) (hk : k ≤ 50000) :
  Calls Tryz.prog 111 #[.agg #[.slice f.A f.n f.a, .slice f.B f.m f.b], .agg #[.slice g.A g.n g.a, .slice g.B g.m g.b]] w fun r w' => ∃ p : FX, Out (mE f g) (da f.ns g.ns) (lr f.ns g.ns (f.cs.map NR.d) (g.cs.map NR.d)) p ∧ r = .returned (.tuple #[.agg #[.slice p.A p.n p.a, .slice p.B p.m p.b], .int .i64 (mE f g)]) ∧ Hp w [p.jn, p.jc] w' := by
 refine (yj f g k w hT hf hg hlf hlg hmf hmg hk).mono fun r w' h => ?_
 rcases h with ⟨h, rfl, hb⟩ | ⟨h, p, hp, rfl, h2⟩
 ·exact ⟨FX.nil, .err h, rfl, ((Hp.start w).ext hb).Cb⟩
 ·obtain ⟨_, h3, h4⟩ := HW h;rw [h];exact ⟨p, hp.out h3 h4, rfl, h2⟩
theorem DT (L : Option Addr) (n c : Nat) (fs : List FX) (k : Nat) (w : World) (hT : eP w) (hL : Sl w L n 2 (aY FX.cells fs)) (hn : n ≤ 1000) (hf : ∀ f ∈ fs, f.at_ w) (hl : ∀ f ∈ fs, f.iu k) (hm : ∀ f ∈ fs, f.m ≤ 200) (hk : k ≤ 90000) :
  Calls Tryz.prog 110 #[.slice L n c] w fun r w' => ∃ g : FX, Out (eG fs) (maxD fs) (Hq (fs.map (kE (maxD fs)))) g ∧ r = .returned (.tuple #[.agg #[.slice g.A g.n g.a, .slice g.B g.m g.b], .int .i64 (eG fs)]) ∧ Hp w [g.jn, g.jc] w' := by
 refine (yK L n c fs k w hT hL hn hf hl hm hk).mono fun r w' h => ?_
 rcases h with ⟨h, rfl, hb⟩ | ⟨h, p, hp, rfl, h2⟩
 ·exact ⟨FX.nil, .err h, rfl, ((Hp.start w).ext hb).Cb⟩
 ·obtain ⟨_, h3, h4⟩ := Cs h fun f hm => (hf f hm).ln.1;rw [h];exact ⟨p, hp.out h3 h4, rfl, h2⟩
def FX.key (f : FX) : List Int × List NR × Nat := (f.ds, f.cs, f.n)
end Go.Proofs.YtaapkaefelhfcaaGreatDoor
/- The walks through ogeeref14.Add, Mul and Scale. -/
namespace Go.Proofs.YtaapkaefelhfcaaGreatDoor
open Go.RowKit
def J0 (R : List HE) (g : FX) : Prop := R = [g.jn, g.jc] ∨ g.m = 0 ∧ R = [g.jc]
end Go.Proofs.YtaapkaefelhfcaaGreatDoor
/- The walks through ogeelaw14's own helpers: what is more than is reckoned with. -/
namespace Go.Proofs.YtaapkaefelhfcaaGreatDoor
open Go.RowKit
def ud (a : NR) : Bool := decide ((8 : Int) < a.cA.size ∨ a.e < -60 ∨ 60 < a.e)
theorem m6 (a : NR) (w : World) :
  Calls Tryz.prog 34 #[.agg #[.bool a.neg, .string a.cA, .int .i64 a.e]] w fun r w' => r = .returned (.bool (ud a)) ∧ Below w.heap.size w w' := by
 have hh := Hp.start w;by_cases h1 : (8 : Int) < a.cA.size
 ·refine al (N := 18) (l := [.agg #[.bool a.neg, .string a.cA, .int .i64 a.e]]) Tryz.func34 rfl rfl (by simp) ?_;refine sr ?_;refine db hh [_,_,_] ?_;intro b1 w1 hh;refine aB (aa (sr (bP (bP ?_))));refine bR hh 0 ?_;refine bW aQ.out rfl Kz ?_;refine ct (mB ?_);refine gS (gS (gS ?_));refine e7 ?_;refine mB ?_;refine gS (gS (gS ?_));refine e7 ?_;refine aB (aa (ao ?_));refine cq ?_;refine ⟨?_, hh.below⟩;unfold ud;rw [decide_eq_true (.inl h1)]
 ·by_cases h2 : a.e < -60
  ·refine al (N := 18) (l := [.agg #[.bool a.neg, .string a.cA, .int .i64 a.e]]) Tryz.func34 rfl rfl (by simp) ?_;refine sr ?_;refine db hh [_,_,_] ?_;intro b1 w1 hh;refine aB (aa (sr (bP (bP ?_))));refine bR hh 0 ?_;refine bW aQ.out rfl Kz ?_;refine ct (mB (gT (bP (gT ?_))));refine bR hh 0 ?_;refine gT ?_;refine aK ?_;refine eX ?_;refine mB ?_;refine gS (gS (gS ?_));refine e7 ?_;refine aB (aa (ao ?_));refine cq ?_;refine ⟨?_, hh.below⟩;unfold ud;rw [decide_eq_true (.inr (.inl h2))]
  ·by_cases h3 : 60 < a.e
   ·refine al (N := 18) (l := [.agg #[.bool a.neg, .string a.cA, .int .i64 a.e]]) Tryz.func34 rfl rfl (by simp) ?_;refine sr ?_;refine db hh [_,_,_] ?_;intro b1 w1 hh;refine aB (aa (sr (bP (bP ?_))));refine bR hh 0 ?_;refine bW aQ.out rfl Kz ?_;refine ct (mB (gT (bP (gT ?_))));refine bR hh 0 ?_;refine gT ?_;refine aK ?_;refine eX ?_;refine mB (gT (bP (gT ?_)));refine bR hh 0 ?_;refine gT ?_;refine ct ?_;refine eX ?_;refine aB (aa (ao ?_));refine cq ?_;refine ⟨?_, hh.below⟩;unfold ud;rw [decide_eq_true (.inr (.inr h3))]
   ·refine al (N := 18) (l := [.agg #[.bool a.neg, .string a.cA, .int .i64 a.e]]) Tryz.func34 rfl rfl (by simp) ?_;refine sr ?_;refine db hh [_,_,_] ?_;intro b1 w1 hh;refine aB (aa (sr (bP (bP ?_))));refine bR hh 0 ?_;refine bW aQ.out rfl Kz ?_;refine ct (mB (gT (bP (gT ?_))));refine bR hh 0 ?_;refine gT ?_;refine aK ?_;refine eX ?_;refine mB (gT (bP (gT ?_)));refine bR hh 0 ?_;refine gT ?_;refine ct ?_;refine eX ?_;refine aB (aa (ao ?_));refine cq ?_;refine ⟨?_, hh.below⟩;unfold ud;rw [decide_eq_false Ky]
theorem Hy {a : NR} (h : ud a = false) : a.ok ∧ Sz 124 a.d := by
 have h' := of_decide_eq_false h;have h1 : (a.cA.size : Int) ≤ 8 := Ky;have h2 : -60 ≤ a.e := Ky;have h3 : a.e ≤ 60 := Ky;exact ⟨⟨Ky, Ky, Ky⟩, Sz.raw (m := 64) (E := 60) Ky h2 h3⟩
def FX.small (f : FX) : Prop := f.iu 124 ∧ f.m ≤ 60 ∧ f.n ≤ 20
theorem tZ (A : Option Addr) (n c : Nat) (ds : List Int) (w : World) (hS : Sl w A n 1 (bG ds)) :
  Calls Tryz.prog 32 #[.slice A n c] w fun r w' => ∃ b : Bool, r = .returned (.bool b) ∧ (b = false → n ≤ 20) ∧ Below w.heap.size w w' := by
 have hh := Hp.start w;have hln : ds.length = n := by have := hS.1; simpa [bG] using this
 by_cases h1 : 20 < n
 ·refine al (N := 38) (l := [.slice A n c]) Tryz.func32 rfl rfl (by simp) ?_;refine sr (aB (aa (ah (sr (mL (aW ?_))))));refine ct (aa (cT (sr (aB (aa (ao (aG ?_)))))));refine cq ?_;exact ⟨_, rfl, fun h => (by cases h), hh.below⟩
 ·have hc := fun w1 hb => mK A n c ds w1 (hS.ext hb) Ky;generalize x7 ds = q at *;refine al (N := 38) (l := [.slice A n c]) Tryz.func32 rfl rfl (by simp) ?_;refine sr (aB (aa (ah (sr (mL (aW ?_))))));refine ct (aa (cF (ak (ai (sr (mL ?_))))));refine bE hh (hc _ hh.below) rfl ?_;intro w9 hh;refine aI (aa (ah (sr (aI (aa (aj ?_))))));refine bm [2, 4, 10, 11, 12, 13, 14, 15, 16, 17, 18, 19, 20, 21, 22, 23, 24, 25, 26, 27, 28, 29, 30, 31] 4
   (fun v w' => ∃ i : Nat, i ≤ n ∧ v = .int .i64 i ∧ Hp w [] w')
   (fun v _ => n - (intOf v).toNat) ?_ ?_
  ·exact ⟨0, Nat.zero_le _, rfl, hh⟩
  ·clear hh;rintro ρ2 v w2 ⟨j, hj, rfl, hh⟩;by_cases hlt : j < n
   ·obtain ⟨d, hd⟩ := ay (l := ds) (k := j) Ky;have hgd := cx hd;obtain ⟨a1, rfl, hr⟩ := hS.at_ Ky;by_cases h6 : 8 < d
    ·by_cases h128 : d < 128
     ·by_cases h4 : q ≤ 4096
      ·refine ah (sr (mI (mL (aW ?_))));refine aK (aa (cT (ak (ai (ah (aj (sr (mL (mI ?_)))))))));refine aD (k := j) aQ.out aF.size rfl rfl Ky Ky Kz ?_;refine aZ aF.out rfl ((hr.ext hh.below).fP (by assumption)) Kz ?_;refine ct (mB (gT (mL (gT (mI (gT ?_))))));refine aD (k := j) aQ.out aF.size rfl rfl Ky Ky Kz ?_;refine gT ?_;refine aZ aF.out rfl ((hr.ext hh.below).fP (by assumption)) Kz ?_;refine gT ?_;refine aK ?_;refine e7 ?_;refine mB (gT (mI (gT ?_)));refine EA ?_;refine e7 ?_;refine aa (cT (sr (aB (aa (ao (bD (aG (aG (bD (aG ?_))))))))));refine cq ?_;exact ⟨_, rfl, fun h => (by cases h), hh.below⟩
      ·refine ah (sr (mI (mL (aW ?_))));refine aK (aa (cT (ak (ai (ah (aj (sr (mL (mI ?_)))))))));refine aD (k := j) aQ.out aF.size rfl rfl Ky Ky Kz ?_;refine aZ aF.out rfl ((hr.ext hh.below).fP (by assumption)) Kz ?_;refine ct (mB (gT (mL (gT (mI (gT ?_))))));refine aD (k := j) aQ.out aF.size rfl rfl Ky Ky Kz ?_;refine gT ?_;refine aZ aF.out rfl ((hr.ext hh.below).fP (by assumption)) Kz ?_;refine gT ?_;refine aK ?_;refine e7 ?_;refine mB (gT (mI (gT ?_)));refine EA ?_;refine e7 ?_;refine aa (cF (ak (aP (ai (aq (mI ?_))))));refine bB (aI (aE (ai ?_)));refine ⟨⟨j + 1, Ky, rfl, hh⟩, by show n - (j + 1) < n - j; omega, ?_⟩;exact KB
     ·refine ah (sr (mI (mL (aW ?_))));refine aK (aa (cT (ak (ai (ah (aj (sr (mL (mI ?_)))))))));refine aD (k := j) aQ.out aF.size rfl rfl Ky Ky Kz ?_;refine aZ aF.out rfl ((hr.ext hh.below).fP (by assumption)) Kz ?_;refine ct (mB (gT (mL (gT (mI (gT ?_))))));refine aD (k := j) aQ.out aF.size rfl rfl Ky Ky Kz ?_;refine gT ?_;refine aZ aF.out rfl ((hr.ext hh.below).fP (by assumption)) Kz ?_;refine gT ?_;refine aK ?_;refine e7 ?_;refine mB ?_;refine gS (gS ?_);refine eX ?_;refine aa (cF (ak (aP (ai (aq (mI ?_))))));refine bB (aI (aE (ai ?_)));refine ⟨⟨j + 1, Ky, rfl, hh⟩, by show n - (j + 1) < n - j; omega, ?_⟩;exact KB
    ·refine ah (sr (mI (mL (aW ?_))));refine aK (aa (cT (ak (ai (ah (aj (sr (mL (mI ?_)))))))));refine aD (k := j) aQ.out aF.size rfl rfl Ky Ky Kz ?_;refine aZ aF.out rfl ((hr.ext hh.below).fP (by assumption)) Kz ?_;refine ct (mB ?_);refine gS (gS (gS (gS (gS ?_))));refine eX ?_;refine mB ?_;refine gS (gS ?_);refine eX ?_;refine aa (cF (ak (aP (ai (aq (mI ?_))))));refine bB (aI (aE (ai ?_)));refine ⟨⟨j + 1, Ky, rfl, hh⟩, by show n - (j + 1) < n - j; omega, ?_⟩;exact KB
   ·by_cases h3 : 300 < q
    ·refine ah (sr (mI (mL (aW ?_))));refine aK (aa (cF (aJ (az (az (aX (ai (sr (mI ?_)))))))));refine ct (mB (gT (mI (gT ?_))));refine EA ?_;refine e7 ?_;refine aB (aa (ao ?_));refine cq ?_;exact ⟨_, rfl, fun _ => by omega, hh.below⟩
    ·refine ah (sr (mI (mL (aW ?_))));refine aK (aa (cF (aJ (az (az (aX (ai (sr (mI ?_)))))))));refine ct (mB ?_);refine gS (gS ?_);refine eX ?_;refine aB (aa (ao ?_));refine cq ?_;exact ⟨_, rfl, fun _ => by omega, hh.below⟩
end Go.Proofs.YtaapkaefelhfcaaGreatDoor
/- The walks through ogeelaw14's examples. -/
namespace Go.Proofs.YtaapkaefelhfcaaGreatDoor
open Go.RowKit
abbrev mu (l : List Int) (A : Option Addr) (a : Nat) (B : Option Addr) (b : Nat) : FX := ⟨A, 1, a, B, l.length, b, [(l.length : Int) - 1], l.map fun z : Int => nR (z : Dyadic)⟩
theorem Fj {l : List Int} {A : Option Addr} {a : Nat} {B : Option Addr} {b : Nat} (hn : l.length ≤ 100) (hl : ∀ z ∈ l, z.natAbs < 256) : (mu l A a B b).iu 124 := by
 refine ⟨by show 1 ≤ 1000; omega, by show l.length ≤ 100000; omega, fun c hc => ?_⟩;obtain ⟨z, hz, rfl⟩ := List.mem_map.1 hc;have h : Sz 24 (z : Dyadic) := IA (e := 0) (hl z hz) Kz Kz;exact ⟨h.ok Ky, by rw [dK]; exact h.mono Ky⟩
theorem ez (l : List Int) (A : Option Addr) (c : Nat) (w : World) (hS : Sl w A l.length 1 (bG l)) (h0 : 0 < l.length) (hn : l.length ≤ 100) (hl : ∀ z ∈ l, z.natAbs < 256) :
  Calls Tryz.prog 109 #[.slice A l.length c] w fun r w' => ∃ (A : Option Addr) (a : Nat) (B : Option Addr) (b : Nat), r = .returned (.agg #[.slice A 1 a, .slice B l.length b]) ∧ Hp w [(mu l A a B b).jn, (mu l A a B b).jc] w' := by
 have hh := Hp.start w;obtain ⟨n, hn2⟩ : ∃ n, n = l.length := ⟨_, rfl⟩;have hnd : (mu l none 0 none 0).ds = [(n : Int) - 1] := by rw [hn2]
 rw [← hn2] at hS h0 hn ⊢;refine al (N := 27) (l := [.slice A n c]) Tryz.func109 rfl rfl (by simp) ?_;refine sr ?_;refine cB hh ?_;intro b2 w2 hh;refine aa (sr (mL (aW ?_)));refine eO ?_;refine aO hh (cs := [_]) aQ.out aF.out (aR (cd rfl) bI) rfl rfl Kz Kz Kz rfl Kz ?_;intro b8 w8 hh;refine e9 [_,_] ?_;refine cB hh ?_;intro b3 w3 hh;refine bK hh 0 [_,_] ?_;intro ws hh;replace hh : Hp _ (.blk _ _ [_, _] _ :: _) _ := hh;refine aa (ah (sr (aI (aa (aj ?_)))));replace hh := hh.perm (List.perm_middle (l₁ := [_]));simp only [List.cons_append, List.nil_append] at hh;have hcap := hh.iw (i := 0) rfl;replace hh := hh.perm (List.perm_middle (l₁ := [_]));simp only [List.cons_append, List.nil_append] at hh;replace hh := hh.ef 29 3;refine bm [4, 10, 11, 12, 13, 14, 15, 16, 17, 18, 19, 20, 21, 22, 23, 24, 25] 4
  (fun v w' => ∃ (i c1 : Nat) (B : Option Addr), i ≤ n ∧ v = .int .i64 i ∧ Hp w [.row B i c1 29 3 (aY NR.cells ((l.take i).map fun z : Int => nR (z : Dyadic))), .blk b3 61 [.slice (some ⟨b8, 0, none⟩) 1 1, .slice B i c1] (0, 0), .row (some ⟨b8, 0, none⟩) 1 1 3 1 (bG [(n : Int) - 1]), .blk b2 61 [.slice none 0 0, .slice none 0 0] (0, 0)] w')
  (fun v _ => n - (intOf v).toNat) ?_ ?_
 ·exact ⟨0, 0, none, Nat.zero_le _, rfl, hh⟩
 ·clear hh;rintro ρ' v w' ⟨i, c1, B, hi, rfl, hh⟩;by_cases hlt : i < n
  ·obtain ⟨z, hz⟩ := ay (l := l) (k := i) Ky;have hgz := cx hz;have hzb := hl z (List.mem_of_getElem? hz);obtain ⟨ad, rfl, hr⟩ := hS.at_ Ky;refine ah (sr (mI (mL (aW ?_))));refine aK (aa (cT (ak (ai (ah (aj ?_))))));refine a8 8 [[(3, none)], [(16, some 0)], [(0, none)], [(4, none)], [(18, some 2), (19, some 3)], [(20, some 4)], [(21, some 5)], [(22, some 6)]] [(7, 23), (6, 22), (5, 21), (4, 20), (3, 19), (2, 18), (1, 17), (0, 16)] hh mixed KA ?_;refine eA ?_;refine fQ 1 ?_;refine jt ?_;refine fJ ?_;refine mH (i) ?_;refine bF (i := 5) (fun ρ1 w1 hj hR => fO aF.out (show ρ1 20 = Value.pointer _ from hR.1) ((hr.ext hj.hp.below).fP (by assumption))) ?_;refine dC (fun _ hj => Bq z _ Ky Ky) ?_;refine xw [_,_,_] ?_;refine bA ?_;intro f W hJ hV;have hb_5 := hJ.bl;obtain ⟨v23, v22, v21, v20, v19, v18, v17, v16, _⟩ := hV;obtain ⟨A23, c23, e23, f23⟩ : Rows _ _ _ (f 7) W := v23;replace hh := hJ.hp;refine bj (bC (ae e23 (ae v22 (ae v21 (ae v20 (ae v19 (ae v18 (ae v17 (ae v16 bh))))))))) ?_;dsimp only [cP];clear e23 hJ;refine cz hh (i := 0) rfl rfl rfl (f23) aQ.out aF.out rfl Kz (by first | rfl | exact cD _ | exact cm _ | exact bH _ | exact bO NR.one _) Ky Ky Kz ?_;intro A24 c24 w24 hh
   simp only [List.set_cons_zero] at hh;refine bP ?_;refine bK hh 1 [_] ?_;intro ws hh;replace hh : Hp _ (_ :: .blk _ _ [_, _] _ :: _) _ := hh;refine aE (aP (ai (aq (mI ?_))));refine bB (aI (aE (ai ?_)));replace hh := hh.sub (List.Sublist.cons_cons _ (List.Sublist.cons_cons _ (List.Sublist.cons_cons _ (List.Sublist.cons_cons _ List.Sublist.slnil))));refine ⟨⟨i + 1, c24, A24, Ky, rfl, ?_⟩, by show n - (i + 1) < n - i; omega, ?_⟩
   ·rw [aH hz, List.map_append, cK];exact hh
   ·exact KB
  ·obtain rfl : i = n := Ky;rw [List.take_of_length_le Ky] at hh;refine ah (sr (mI (mL (aW ?_))));refine aK (aa (cF (aJ (az (az (aX (ai (sr ?_))))))));refine cR hh 1 [_,_] ?_;refine bK hh 3 [_,_] ?_;intro ws hh;replace hh : Hp _ (_ :: _ :: _ :: .blk _ _ [_, _] _ :: _) _ := hh;refine aa (ao ?_);replace hh := hh.sub (List.Sublist.cons_cons _ (List.Sublist.cons _ (List.Sublist.cons_cons _ (List.Sublist.cons_cons _ List.Sublist.slnil))));refine iZ (aT rfl (aU (vs := [_, _]) aF.out (hh.aC (i := 2) (n := 2) rfl rfl) rfl) bq) ?_;refine ⟨some ⟨b8, 0, none⟩, 1, B, c1, rfl, ?_⟩;unfold FX.jn FX.jc;dsimp only;rw [← hn2];exact hh.sub (List.sublist_append_left [_, _] _)
def tr (ds : List Int) (cs : List NR) : VP := fun v W => ∃ g : FX, v = .agg #[.slice g.A g.n g.a, .slice g.B g.m g.b] ∧ g.ds = ds ∧ g.cs = cs ∧ g.at_ W
theorem tr.ext {ds : List Int} {cs : List NR} (v : Value) (w w' : World) (h : tr ds cs v w) (hb : Below w.heap.size w w') : tr ds cs v w' := let ⟨g, h1, h2, h3, h4⟩ := h; ⟨g, h1, h2, h3, h4.ext hb⟩
theorem ku (l : List Int) (fa : FX) (A : Option Addr) (c : Nat) (w : World) (hf : fa.at_ w) (hd : fa.ds = [(l.length : Int) - 1]) (hc : fa.cs = l.map fun z : Int => nR (z : Dyadic)) (hS : Sl w A l.length 1 (bG l)) (h0 : 0 < l.length) (hn : l.length ≤ 100) (hl : ∀ z ∈ l, z.natAbs < 256) :
  Calls Tryz.prog 112 #[.agg #[.slice fa.A fa.n fa.a, .slice fa.B fa.m fa.b], .int .i64 0, .slice A l.length c] w fun r w' => r = .returned (.bool true) ∧ Below w.heap.size w w' := by
 have hh := Hp.start w;have l1 := hf.ln.1;have l2 := hf.ln.2;have e1 : fa.n = 1 := by rw [← l1, hd]; rfl
 have e2 : fa.m = l.length := by rw [← l2, hc, List.length_map]
 have hform := fun w1 hb => ez l A c w1 (hS.ext hb) h0 hn hl;refine al (N := 15) (l := [.agg #[.slice fa.A fa.n fa.a, .slice fa.B fa.m fa.b], .int .i64 0, .slice A l.length c]) Tryz.func112 rfl rfl (by simp) ?_;refine sr ?_;refine db hh [_,_] ?_;intro b3 w3 hh;refine aB (aa (ah ?_));refine a8 6 [[(1, none)], [(7, some 0)], [(8, some 1)], [(3, none), (9, some 2)], [(2, none), (9, some 2)], [(11, some 4), (9, some 2)]] [(5, 12), (4, 11), (3, 10), (2, 9), (1, 8), (0, 7)] hh mixed KA ?_;refine fJ ?_;refine Bp ?_;refine sl ?_;refine dG (gY 0 [_,_] ?_);refine dG (jt ?_);refine cH (i := 5) (tr fa.ds fa.cs) (tr.ext) ?_ ?_
 ·intro ρ1 w1 hj hR;exact iQ rfl (show ρ1 9 = Value.bool _ from hR.2.1) (du rfl (bX aw.out (a7 (show ρ1 11 = Value.slice _ _ _ from hR.1) bQ)) (hform _ hj.hp.below) (fun _ _ ⟨A2, a2, B2, b2', q1, q2⟩ => ⟨_, q1, q2.below, mu l A2 a2 B2 b2', rfl, hd.symm, hc.symm, q2.ji List.mem_cons_self (List.mem_cons_of_mem _ List.mem_cons_self)⟩))
 refine bA ?_;intro f W hJ hV;have hb_1 := hJ.bl;obtain ⟨v12, v11, v10, v9, v8, v7, _⟩ := hV;obtain ⟨g12, e12, o12⟩ : tr fa.ds fa.cs (f 5) W := v12;replace hh := hJ.hp;refine bj (bC (ae e12 (ae v11 (ae v10 (ae v9 (ae v8 (ae v7 bh))))))) ?_;dsimp only [cP];clear e12 hJ;refine aV rfl rfl ?_;refine bE hh (pj fa g12 _ (hf.ext hh.below) o12.2.2 ⟨o12.1.symm, o12.2.1.symm⟩ Ky Ky) rfl ?_;intro w13 hh;refine e7 ?_;refine aB (aa (ao ?_));refine cq ?_;exact ⟨rfl, hh.below⟩
end Go.Proofs.YtaapkaefelhfcaaGreatDoor
/- The walk through ogeelaw14.awake. -/
namespace Go.Proofs.YtaapkaefelhfcaaGreatDoor
open Go.RowKit
theorem yV {l : List Int} {D : List Nat} {ys : List Dyadic} {g : FX} {w w' : World} (h : Out 0 D ys g) (h1 : bu D = [(l.length : Int) - 1]) (h2 : ys = l.map fun z : Int => (z : Dyadic)) (hh : Hp w [g.jn, g.jc] w') : ∃ (A : Option Addr) (a : Nat) (B : Option Addr) (b : Nat), g = mu l A a B b := by
 have hg := hh.ji List.mem_cons_self (List.mem_cons_of_mem _ List.mem_cons_self);have l1 := hg.ln;obtain ⟨td, hc0, -, -⟩ := h;obtain ⟨A, n, a, B, m, b, ds, cs⟩ := g;have hd : ds = [(l.length : Int) - 1] := td.trans h1;have hc : cs = l.map fun z : Int => nR (z : Dyadic) := hc0.trans (by unfold F4; rw [if_pos rfl, h2, List.map_map]; rfl);obtain ⟨q1, q2⟩ : ds.length = n ∧ cs.length = m := l1;clear td hc0 h1 h2 hg hh;subst hd hc q1;obtain rfl : l.length = m := by rw [← q2, List.length_map]
 exact ⟨A, a, B, b, rfl⟩
theorem EC (l es l2 : List Int) (A : Option Addr) (a : Nat) (B : Option Addr) (b : Nat) (E : Option Addr) (c : Nat) (w : World) (hT : eP w) (hf : (mu l A a B b).at_ w) (hl : (mu l A a B b).iu 124) (hn : l.length ≤ 200) (hS : Sl w E 1 1 (bG es))
  (h : mN (mu l A a B b) es = 0 ∧ kE (es.map Int.toNat) (mu l A a B b) = (l2.map fun z : Int => (z : Dyadic)) ∧ bu (es.map Int.toNat) = [(l2.length : Int) - 1]) :
  Calls Tryz.prog 38 #[.agg #[.slice A 1 a, .slice B l.length b], .slice E 1 c] w fun r w' => ∃ (A : Option Addr) (a : Nat) (B : Option Addr) (b : Nat), r = .returned (.tuple #[.agg #[.slice A 1 a, .slice B l2.length b], .int .i64 0]) ∧ Hp w [(mu l2 A a B b).jn, (mu l2 A a B b).jc] w' := by
 have := si (mu l A a B b) E 1 c es 124 w hT hf hl hn hS Ky Ky;rw [h.1] at this;refine this.mono fun r w' ⟨g, o, hr, hh⟩ => ?_;obtain ⟨A, a, B, b, rfl⟩ := yV o h.2.2 h.2.1 hh;exact ⟨A, a, B, b, hr, hh⟩
theorem Jk (f g : FX) (l2 : List Int) (L : Option Addr) (c : Nat) (w : World) (hT : eP w) (hf : f.at_ w) (hg : g.at_ w) (hl : f.iu 124) (hl2 : g.iu 124) (hm : f.m ≤ 200) (hm2 : g.m ≤ 200) (hS : Sl w L 2 2 (aY FX.cells [f, g]))
  (h : eG [f, g] = 0 ∧ Hq ([f, g].map (kE (maxD [f, g]))) = (l2.map fun z : Int => (z : Dyadic)) ∧ bu (maxD [f, g]) = [(l2.length : Int) - 1]) :
  Calls Tryz.prog 110 #[.slice L 2 c] w fun r w' => ∃ (A : Option Addr) (a : Nat) (B : Option Addr) (b : Nat), r = .returned (.tuple #[.agg #[.slice A 1 a, .slice B l2.length b], .int .i64 0]) ∧ Hp w [(mu l2 A a B b).jn, (mu l2 A a B b).jc] w' := by
 have hall : ∀ x ∈ [f, g], x.at_ w ∧ x.iu 124 ∧ x.m ≤ 200 := by simpa using ⟨⟨hf, hl, hm⟩, hg, hl2, hm2⟩
 have := DT L 2 c [f, g] 124 w hT hS Ky (fun x hx => (hall x hx).1) (fun x hx => (hall x hx).2.1) (fun x hx => (hall x hx).2.2) Ky;rw [h.1] at this;refine this.mono fun r w' ⟨g, o, hr, hh⟩ => ?_;obtain ⟨A, a, B, b, rfl⟩ := yV o h.2.2 h.2.1 hh;exact ⟨A, a, B, b, hr, hh⟩
theorem It (f g : FX) (l2 : List Int) (w : World) (hT : eP w) (hf : f.at_ w) (hg : g.at_ w) (hl : f.iu 124) (hl2 : g.iu 124) (hm : f.m ≤ 200) (hm2 : g.m ≤ 200)
  (h : mE f g = 0 ∧ lr f.ns g.ns (f.cs.map NR.d) (g.cs.map NR.d) = (l2.map fun z : Int => (z : Dyadic)) ∧ bu (da f.ns g.ns) = [(l2.length : Int) - 1]) :
  Calls Tryz.prog 111 #[.agg #[.slice f.A f.n f.a, .slice f.B f.m f.b], .agg #[.slice g.A g.n g.a, .slice g.B g.m g.b]] w fun r w' => ∃ (A : Option Addr) (a : Nat) (B : Option Addr) (b : Nat), r = .returned (.tuple #[.agg #[.slice A 1 a, .slice B l2.length b], .int .i64 0]) ∧ Hp w [(mu l2 A a B b).jn, (mu l2 A a B b).jc] w' := by
 have := Hf f g 124 w hT hf hg hl hl2 hm hm2 Ky;rw [h.1] at this;refine this.mono fun r w' ⟨g, o, hr, hh⟩ => ?_;obtain ⟨A, a, B, b, rfl⟩ := yV o h.2.2 h.2.1 hh;exact ⟨A, a, B, b, hr, hh⟩
theorem Bx (l es : List Int) (e : Int) (A : Option Addr) (a : Nat) (B : Option Addr) (b : Nat) (E : Option Addr) (c : Nat) (w : World) (hT : eP w) (hf : (mu l A a B b).at_ w) (hl : (mu l A a B b).iu 124) (hn : l.length ≤ 200) (hS : Sl w E 1 1 (bG es)) (h : mN (mu l A a B b) es = e) :
  Calls Tryz.prog 38 #[.agg #[.slice A 1 a, .slice B l.length b], .slice E 1 c] w fun r w' => ∃ g : FX, r = .returned (.tuple #[.agg #[.slice g.A g.n g.a, .slice g.B g.m g.b], .int .i64 e]) ∧ Below w.heap.size w w' := by
 have := si (mu l A a B b) E 1 c es 124 w hT hf hl hn hS Ky Ky;rw [h] at this;exact this.mono fun r w' ⟨g, o, hr, hh⟩ => ⟨g, hr, hh.below⟩
theorem EX (w : World) (hT : eP w) :
  Calls Tryz.prog 110 #[.slice none 0 0] w fun r w' => ∃ g : FX, r = .returned (.tuple #[.agg #[.slice g.A g.n g.a, .slice g.B g.m g.b], .int .i64 1]) ∧ Below w.heap.size w w' :=
 (DT none 0 0 [] 124 w hT (Sl.nil _ _ _) Ky (fun _ h => nomatch h) (fun _ h => nomatch h) (fun _ h => nomatch h) Ky).mono fun r w' ⟨g, o, hr, hh⟩ => ⟨g, hr, hh.below⟩
theorem uM (w : World) (hT : eP w) : Calls Tryz.prog 33 #[] w fun r w' => r = .returned (.bool true) ∧ Below w.heap.size w w' := by
 have hh := Hp.start w;have iu : ∀ (l : List Int) (A : Option Addr) (a : Nat) (B : Option Addr) (b : Nat), l.length ≤ 100 → (∀ z ∈ l, z.natAbs < 256) → (mu l A a B b).iu 124 := fun _ _ _ _ _ h1 h2 => Fj h1 h2;refine al (N := 101) (l := []) Tryz.func33 rfl rfl (by simp) ?_;refine sr (aB (aa (sr ?_)));refine aO hh (cs := [_, _]) aQ.out aF.out (aR rfl (aR rfl bI)) rfl rfl Kz Kz Kz rfl Kz ?_;intro b16 w16 hh;refine aN (ez [0, 1] _ _ _ (hh.aM (i := 0) rfl) Kz Kz Kz) aw.out rfl Kz ?_;rintro e_ w17 ⟨Af1, af1, Bf1, bf1, rfl, h2⟩;refine ⟨_, rfl, ?_⟩;replace hh := hh.join h2;clear h2;refine aO hh (cs := [_]) aQ.out aF.out (aR rfl bI) rfl rfl Kz Kz Kz rfl Kz ?_;intro b18 w18 hh;refine aN (EC [0, 1] [2] [0, 1, 1] Af1 af1 Bf1 bf1 _ _ _ (hT.hp hh) (hh.ji (List.mem_of_getElem? (i := 1) rfl) (List.mem_of_getElem? (i := 2) rfl)) (iu _ _ _ _ _ Kz Kz) Kz (hh.aM (i := 0) rfl) ⟨by kernel_rfl, by kernel_rfl, by kernel_rfl⟩) aw.out rfl Kz ?_;rintro e_ w19 ⟨Ar1, ar1, Br1, br1, rfl, h2⟩;refine ⟨_, rfl, ?_⟩;replace hh := hh.join h2;clear h2
 replace hh := hh.sub (List.Sublist.cons_cons _ (List.Sublist.cons_cons _ (List.Sublist.cons _ (List.Sublist.cons _ (List.Sublist.cons _ (List.Sublist.cons _ List.Sublist.slnil))))));refine mT ?_;refine dI ?_;refine dI ?_;refine cB hh ?_;intro b1 w1 hh;refine bK hh 0 [_,_] ?_;intro ws hh;replace hh : Hp _ (.blk _ _ [_, _] _ :: _) _ := hh;refine aI (aa (sr ?_));refine aO hh (cs := [_]) aQ.out aF.out (aR rfl bI) rfl rfl Kz Kz Kz rfl Kz ?_;intro b23 w23 hh;refine aN (ez [3] _ _ _ (hh.aM (i := 0) rfl) Kz Kz Kz) aw.out rfl Kz ?_;rintro e_ w24 ⟨Af2, af2, Bf2, bf2, rfl, h2⟩;refine ⟨_, rfl, ?_⟩;replace hh := hh.join h2;clear h2;refine aO hh (cs := [_]) aQ.out aF.out (aR rfl bI) rfl rfl Kz Kz Kz rfl Kz ?_;intro b25 w25 hh;refine aN (EC [3] [2] [3, 6, 3] Af2 af2 Bf2 bf2 _ _ _ (hT.hp hh) (hh.ji (List.mem_of_getElem? (i := 1) rfl) (List.mem_of_getElem? (i := 2) rfl)) (iu _ _ _ _ _ Kz Kz) Kz (hh.aM (i := 0) rfl) ⟨by kernel_rfl, by kernel_rfl, by kernel_rfl⟩) aw.out rfl Kz ?_;rintro e_ w26 ⟨Ar2, ar2, Br2, br2, rfl, h2⟩;refine ⟨_, rfl, ?_⟩;replace hh := hh.join h2;clear h2
 replace hh := hh.sub (List.Sublist.cons_cons _ (List.Sublist.cons_cons _ (List.Sublist.cons _ (List.Sublist.cons _ (List.Sublist.cons _ (List.Sublist.cons _ (List.Sublist.cons_cons _ (List.Sublist.cons_cons _ (List.Sublist.cons_cons _ List.Sublist.slnil)))))))));refine mT ?_;refine dI ?_;refine dI ?_;refine cB hh ?_;intro b3 w3 hh;refine bK hh 0 [_,_] ?_;intro ws hh;replace hh : Hp _ (.blk _ _ [_, _] _ :: _) _ := hh;refine aI (aa (sr ?_));refine aO hh (cs := [_, _]) aQ.out aF.out (aR rfl (aR rfl bI)) rfl rfl Kz Kz Kz rfl Kz ?_;intro b30 w30 hh;refine aN (ez [0, 1] _ _ _ (hh.aM (i := 0) rfl) Kz Kz Kz) aw.out rfl Kz ?_;rintro e_ w31 ⟨Af3, af3, Bf3, bf3, rfl, h2⟩;refine ⟨_, rfl, ?_⟩;replace hh := hh.join h2;clear h2;refine aO hh (cs := [_]) aQ.out aF.out (aR rfl bI) rfl rfl Kz Kz Kz rfl Kz ?_;intro b32 w32 hh;refine aN (ez [3] _ _ _ (hh.aM (i := 0) rfl) Kz Kz Kz) aw.out rfl Kz ?_;rintro e_ w33 ⟨Af4, af4, Bf4, bf4, rfl, h2⟩;refine ⟨_, rfl, ?_⟩;replace hh := hh.join h2;clear h2;refine aO hh (cs := [_, _, _, _]) aQ.out aF.out (aR (cJ rfl) (aR (cJ rfl) bI)) rfl rfl Kz Kz Kz rfl Kz ?_;intro b34 w34 hh
 refine aN (Jk (mu [0, 1] Af3 af3 Bf3 bf3) (mu [3] Af4 af4 Bf4 bf4) [3, 4] _ _ _ (hT.hp hh) (hh.ji (List.mem_of_getElem? (i := 4) rfl) (List.mem_of_getElem? (i := 5) rfl)) (hh.ji (List.mem_of_getElem? (i := 1) rfl) (List.mem_of_getElem? (i := 2) rfl)) (iu _ _ _ _ _ Kz Kz) (iu _ _ _ _ _ Kz Kz) (Nat.le_of_ble_eq_true rfl) (Nat.le_of_ble_eq_true rfl) (hh.aM (i := 0) rfl) ⟨by kernel_rfl, by kernel_rfl, by kernel_rfl⟩) aw.out rfl Kz ?_;rintro e_ w35 ⟨Ar3, ar3, Br3, br3, rfl, h2⟩;refine ⟨_, rfl, ?_⟩;replace hh := hh.join h2;clear h2;replace hh := hh.sub (List.Sublist.cons_cons _ (List.Sublist.cons_cons _ (List.Sublist.cons _ (List.Sublist.cons _ (List.Sublist.cons _ (List.Sublist.cons _ (List.Sublist.cons _ (List.Sublist.cons _ (List.Sublist.cons _ (List.Sublist.cons_cons _ (List.Sublist.cons_cons _ (List.Sublist.cons_cons _ (List.Sublist.cons_cons _ (List.Sublist.cons_cons _ (List.Sublist.cons_cons _ List.Sublist.slnil)))))))))))))));refine mT ?_;refine dI ?_;refine dI ?_;refine cB hh ?_;intro b5 w5 hh;refine bK hh 0 [_,_] ?_;intro ws hh;replace hh : Hp _ (.blk _ _ [_, _] _ :: _) _ := hh;refine aI (aa (sr ?_))
 refine aO hh (cs := [_, _]) aQ.out aF.out (aR rfl (aR rfl bI)) rfl rfl Kz Kz Kz rfl Kz ?_;intro b39 w39 hh;refine aN (ez [0, 1] _ _ _ (hh.aM (i := 0) rfl) Kz Kz Kz) aw.out rfl Kz ?_;rintro e_ w40 ⟨Af5, af5, Bf5, bf5, rfl, h2⟩;refine ⟨_, rfl, ?_⟩;replace hh := hh.join h2;clear h2;refine aO hh (cs := [_, _]) aQ.out aF.out (aR rfl (aR rfl bI)) rfl rfl Kz Kz Kz rfl Kz ?_;intro b41 w41 hh;refine aN (ez [0, 1] _ _ _ (hh.aM (i := 0) rfl) Kz Kz Kz) aw.out rfl Kz ?_;rintro e_ w42 ⟨Af6, af6, Bf6, bf6, rfl, h2⟩;refine ⟨_, rfl, ?_⟩;replace hh := hh.join h2;clear h2;refine aN (It (mu [0, 1] Af5 af5 Bf5 bf5) (mu [0, 1] Af6 af6 Bf6 bf6) [0, 0, 1] _ (hT.hp hh) (hh.ji (List.mem_of_getElem? (i := 3) rfl) (List.mem_of_getElem? (i := 4) rfl)) (hh.ji (List.mem_of_getElem? (i := 0) rfl) (List.mem_of_getElem? (i := 1) rfl)) (iu _ _ _ _ _ Kz Kz) (iu _ _ _ _ _ Kz Kz) (Nat.le_of_ble_eq_true rfl) (Nat.le_of_ble_eq_true rfl) ⟨by kernel_rfl, by kernel_rfl, by kernel_rfl⟩) aw.out rfl Kz ?_;rintro e_ w43 ⟨Ar4, ar4, Br4, br4, rfl, h2⟩;refine ⟨_, rfl, ?_⟩;replace hh := hh.join h2;clear h2
 replace hh := hh.sub (List.Sublist.cons_cons _ (List.Sublist.cons_cons _ (List.Sublist.cons _ (List.Sublist.cons _ (List.Sublist.cons _ (List.Sublist.cons _ (List.Sublist.cons _ (List.Sublist.cons _ (List.Sublist.cons_cons _ (List.Sublist.cons_cons _ (List.Sublist.cons_cons _ (List.Sublist.cons_cons _ (List.Sublist.cons_cons _ (List.Sublist.cons_cons _ (List.Sublist.cons_cons _ (List.Sublist.cons_cons _ (List.Sublist.cons_cons _ List.Sublist.slnil)))))))))))))))));refine mT ?_;refine dI ?_;refine dI ?_;refine cB hh ?_;intro b7 w7 hh;refine bK hh 0 [_,_] ?_;intro ws hh;replace hh : Hp _ (.blk _ _ [_, _] _ :: _) _ := hh;refine aI (aa (sr ?_));refine aO hh (cs := [_, _]) aQ.out aF.out (aR rfl (aR rfl bI)) rfl rfl Kz Kz Kz rfl Kz ?_;intro b47 w47 hh;refine aN (ez [1, 1] _ _ _ (hh.aM (i := 0) rfl) Kz Kz Kz) aw.out rfl Kz ?_;rintro e_ w48 ⟨Af7, af7, Bf7, bf7, rfl, h2⟩;refine ⟨_, rfl, ?_⟩;replace hh := hh.join h2;clear h2;refine aO hh (cs := [_, _]) aQ.out aF.out (aR rfl (aR rfl bI)) rfl rfl Kz Kz Kz rfl Kz ?_;intro b49 w49 hh;refine aN (ez [1, 1] _ _ _ (hh.aM (i := 0) rfl) Kz Kz Kz) aw.out rfl Kz ?_;rintro e_ w50 ⟨Af8, af8, Bf8, bf8, rfl, h2⟩;refine ⟨_, rfl, ?_⟩;replace hh := hh.join h2
 clear h2;refine aN (It (mu [1, 1] Af7 af7 Bf7 bf7) (mu [1, 1] Af8 af8 Bf8 bf8) [1, 2, 1] _ (hT.hp hh) (hh.ji (List.mem_of_getElem? (i := 3) rfl) (List.mem_of_getElem? (i := 4) rfl)) (hh.ji (List.mem_of_getElem? (i := 0) rfl) (List.mem_of_getElem? (i := 1) rfl)) (iu _ _ _ _ _ Kz Kz) (iu _ _ _ _ _ Kz Kz) (Nat.le_of_ble_eq_true rfl) (Nat.le_of_ble_eq_true rfl) ⟨by kernel_rfl, by kernel_rfl, by kernel_rfl⟩) aw.out rfl Kz ?_;rintro e_ w51 ⟨Ar5, ar5, Br5, br5, rfl, h2⟩;refine ⟨_, rfl, ?_⟩;replace hh := hh.join h2;clear h2;replace hh := hh.sub (List.Sublist.cons_cons _ (List.Sublist.cons_cons _ (List.Sublist.cons _ (List.Sublist.cons _ (List.Sublist.cons _ (List.Sublist.cons _ (List.Sublist.cons _ (List.Sublist.cons _ (List.Sublist.cons_cons _ (List.Sublist.cons_cons _ (List.Sublist.cons_cons _ (List.Sublist.cons_cons _ (List.Sublist.cons_cons _ (List.Sublist.cons_cons _ (List.Sublist.cons_cons _ (List.Sublist.cons_cons _ (List.Sublist.cons_cons _ (List.Sublist.cons_cons _ (List.Sublist.cons_cons _ (List.Sublist.cons_cons _ List.Sublist.slnil))))))))))))))))))));refine mT ?_;refine dI ?_;refine dI ?_;refine cB hh ?_;intro b9 w9 hh;refine bK hh 0 [_,_] ?_;intro ws hh
 replace hh : Hp _ (.blk _ _ [_, _] _ :: _) _ := hh;refine aI (aa (sr ?_));refine aO hh (cs := [_, _, _]) aQ.out aF.out (aR rfl (aR rfl (aR rfl bI))) rfl rfl Kz Kz Kz rfl Kz ?_;intro b55 w55 hh;refine aN (ez [0, 0, 1] _ _ _ (hh.aM (i := 0) rfl) Kz Kz Kz) aw.out rfl Kz ?_;rintro e_ w56 ⟨Af9, af9, Bf9, bf9, rfl, h2⟩;refine ⟨_, rfl, ?_⟩;replace hh := hh.join h2;clear h2;refine aO hh (cs := [_]) aQ.out aF.out (aR rfl bI) rfl rfl Kz Kz Kz rfl Kz ?_;intro b57 w57 hh;refine aN (Bx [0, 0, 1] [1] 1 Af9 af9 Bf9 bf9 _ _ _ (hT.hp hh) (hh.ji (List.mem_of_getElem? (i := 1) rfl) (List.mem_of_getElem? (i := 2) rfl)) (iu _ _ _ _ _ Kz Kz) Kz (hh.aM (i := 0) rfl) KA) aw.out rfl Kz ?_;rintro e_ w58 ⟨g1, rfl, hb_⟩;refine ⟨_, rfl, ?_⟩;replace hh := hh.ext hb_
 replace hh := hh.sub (List.Sublist.cons _ (List.Sublist.cons _ (List.Sublist.cons _ (List.Sublist.cons _ (List.Sublist.cons_cons _ (List.Sublist.cons_cons _ (List.Sublist.cons_cons _ (List.Sublist.cons_cons _ (List.Sublist.cons_cons _ (List.Sublist.cons_cons _ (List.Sublist.cons_cons _ (List.Sublist.cons_cons _ (List.Sublist.cons_cons _ (List.Sublist.cons_cons _ (List.Sublist.cons_cons _ (List.Sublist.cons_cons _ (List.Sublist.cons_cons _ (List.Sublist.cons_cons _ (List.Sublist.cons_cons _ List.Sublist.slnil)))))))))))))))))));refine mT ?_;refine dI ?_;refine dI ?_;refine cB hh ?_;intro b11 w11 hh;refine bK hh 0 [_,_] ?_;intro ws hh;replace hh : Hp _ (.blk _ _ [_, _] _ :: _) _ := hh;refine aI (aa (sr ?_));refine aN (EX _ (hT.hp hh)) aw.out rfl Kz ?_;rintro e_ w62 ⟨g2, rfl, hb_⟩;refine ⟨_, rfl, ?_⟩;replace hh := hh.ext hb_
 replace hh := hh.sub (List.Sublist.cons _ (List.Sublist.cons_cons _ (List.Sublist.cons_cons _ (List.Sublist.cons_cons _ (List.Sublist.cons_cons _ (List.Sublist.cons_cons _ (List.Sublist.cons_cons _ (List.Sublist.cons_cons _ (List.Sublist.cons_cons _ (List.Sublist.cons_cons _ (List.Sublist.cons_cons _ (List.Sublist.cons_cons _ (List.Sublist.cons_cons _ (List.Sublist.cons_cons _ (List.Sublist.cons_cons _ (List.Sublist.cons_cons _ List.Sublist.slnil))))))))))))))));refine mT ?_;refine dI ?_;refine dI ?_;refine cB hh ?_;intro b13 w13 hh;refine bK hh 0 [_,_] ?_;intro ws hh;replace hh : Hp _ (.blk _ _ [_, _] _ :: _) _ := hh;refine aI (aa (sr ?_));refine cR hh 13 [_,_] (mI ?_);refine aO hh (cs := [_, _, _]) aQ.out aF.out (aR rfl (aR rfl (aR rfl bI))) rfl rfl Kz Kz Kz rfl Kz ?_;intro b67 w67 hh
 replace hh := hh.sub (List.Sublist.cons_cons _ (List.Sublist.cons _ (List.Sublist.cons_cons _ (List.Sublist.cons_cons _ (List.Sublist.cons_cons _ (List.Sublist.cons_cons _ (List.Sublist.cons_cons _ (List.Sublist.cons_cons _ (List.Sublist.cons_cons _ (List.Sublist.cons_cons _ (List.Sublist.cons_cons _ (List.Sublist.cons_cons _ (List.Sublist.cons_cons _ (List.Sublist.cons_cons _ (List.Sublist.cons_cons _ (List.Sublist.cons_cons _ (List.Sublist.cons_cons _ List.Sublist.slnil)))))))))))))))));refine bE hh (ku [0, 1, 1] (mu [0, 1, 1] Ar1 ar1 Br1 br1) _ _ _ (hh.ji (List.mem_of_getElem? (i := 14) rfl) (List.mem_of_getElem? (i := 15) rfl)) rfl rfl (hh.aM (i := 0) rfl) Kz Kz Kz) rfl ?_;intro w68 hh;replace hh := hh.sub (List.Sublist.cons _ (List.Sublist.cons_cons _ (List.Sublist.cons_cons _ (List.Sublist.cons_cons _ (List.Sublist.cons_cons _ (List.Sublist.cons_cons _ (List.Sublist.cons_cons _ (List.Sublist.cons_cons _ (List.Sublist.cons_cons _ (List.Sublist.cons_cons _ (List.Sublist.cons_cons _ (List.Sublist.cons_cons _ (List.Sublist.cons_cons _ (List.Sublist.cons_cons _ (List.Sublist.cons_cons _ (List.Sublist.cons_cons _ List.Sublist.slnil))))))))))))))));refine mB (gT ?_)
 refine cR hh 9 [_,_] (gT (mI ?_));refine aV rfl rfl ?_;refine aO hh (cs := [_, _, _]) aQ.out aF.out (aR rfl (aR rfl (aR rfl bI))) rfl rfl Kz Kz Kz rfl Kz ?_;intro b72 w72 hh;refine aV rfl rfl ?_;refine bE hh (ku [3, 6, 3] (mu [3, 6, 3] Ar2 ar2 Br2 br2) _ _ _ (hh.ji (List.mem_of_getElem? (i := 11) rfl) (List.mem_of_getElem? (i := 12) rfl)) rfl rfl (hh.aM (i := 0) rfl) Kz Kz Kz) rfl ?_;intro w73 hh;replace hh := hh.sub (List.Sublist.cons _ (List.Sublist.cons_cons _ (List.Sublist.cons_cons _ (List.Sublist.cons_cons _ (List.Sublist.cons_cons _ (List.Sublist.cons_cons _ (List.Sublist.cons_cons _ (List.Sublist.cons_cons _ (List.Sublist.cons_cons _ (List.Sublist.cons_cons _ (List.Sublist.cons_cons _ (List.Sublist.cons_cons _ (List.Sublist.cons_cons _ (List.Sublist.cons_cons _ (List.Sublist.cons_cons _ (List.Sublist.cons_cons _ List.Sublist.slnil))))))))))))))));refine e7 ?_;refine mB (gT ?_);refine cR hh 6 [_,_] (gT (mI ?_));refine aV rfl rfl ?_;refine aO hh (cs := [_, _]) aQ.out aF.out (aR rfl (aR rfl bI)) rfl rfl Kz Kz Kz rfl Kz ?_;intro b78 w78 hh;refine aV rfl rfl ?_
 refine bE hh (ku [3, 4] (mu [3, 4] Ar3 ar3 Br3 br3) _ _ _ (hh.ji (List.mem_of_getElem? (i := 8) rfl) (List.mem_of_getElem? (i := 9) rfl)) rfl rfl (hh.aM (i := 0) rfl) Kz Kz Kz) rfl ?_;intro w79 hh;replace hh := hh.sub (List.Sublist.cons _ (List.Sublist.cons_cons _ (List.Sublist.cons_cons _ (List.Sublist.cons_cons _ (List.Sublist.cons_cons _ (List.Sublist.cons_cons _ (List.Sublist.cons_cons _ (List.Sublist.cons_cons _ (List.Sublist.cons_cons _ (List.Sublist.cons_cons _ (List.Sublist.cons_cons _ (List.Sublist.cons_cons _ (List.Sublist.cons_cons _ (List.Sublist.cons_cons _ (List.Sublist.cons_cons _ (List.Sublist.cons_cons _ List.Sublist.slnil))))))))))))))));refine e7 ?_;refine mB (gT ?_);refine cR hh 3 [_,_] (gT (mI ?_));refine aV rfl rfl ?_;refine aO hh (cs := [_, _, _]) aQ.out aF.out (aR rfl (aR rfl (aR rfl bI))) rfl rfl Kz Kz Kz rfl Kz ?_;intro b84 w84 hh;refine aV rfl rfl ?_;refine bE hh (ku [0, 0, 1] (mu [0, 0, 1] Ar4 ar4 Br4 br4) _ _ _ (hh.ji (List.mem_of_getElem? (i := 5) rfl) (List.mem_of_getElem? (i := 6) rfl)) rfl rfl (hh.aM (i := 0) rfl) Kz Kz Kz) rfl ?_;intro w85 hh
 replace hh := hh.sub (List.Sublist.cons _ (List.Sublist.cons_cons _ (List.Sublist.cons_cons _ (List.Sublist.cons_cons _ (List.Sublist.cons_cons _ (List.Sublist.cons_cons _ (List.Sublist.cons_cons _ (List.Sublist.cons_cons _ (List.Sublist.cons_cons _ (List.Sublist.cons_cons _ (List.Sublist.cons_cons _ (List.Sublist.cons_cons _ (List.Sublist.cons_cons _ (List.Sublist.cons_cons _ (List.Sublist.cons_cons _ (List.Sublist.cons_cons _ List.Sublist.slnil))))))))))))))));refine e7 ?_;refine mB (gT ?_);refine cR hh 0 [_,_] (gT (mI ?_));refine aV rfl rfl ?_;refine aO hh (cs := [_, _, _]) aQ.out aF.out (aR rfl (aR rfl (aR rfl bI))) rfl rfl Kz Kz Kz rfl Kz ?_;intro b90 w90 hh;refine aV rfl rfl ?_;refine bE hh (ku [1, 2, 1] (mu [1, 2, 1] Ar5 ar5 Br5 br5) _ _ _ (hh.ji (List.mem_of_getElem? (i := 2) rfl) (List.mem_of_getElem? (i := 3) rfl)) rfl rfl (hh.aM (i := 0) rfl) Kz Kz Kz) rfl ?_;intro w91 hh
 replace hh := hh.sub (List.Sublist.cons _ (List.Sublist.cons_cons _ (List.Sublist.cons_cons _ (List.Sublist.cons_cons _ (List.Sublist.cons_cons _ (List.Sublist.cons_cons _ (List.Sublist.cons_cons _ (List.Sublist.cons_cons _ (List.Sublist.cons_cons _ (List.Sublist.cons_cons _ (List.Sublist.cons_cons _ (List.Sublist.cons_cons _ (List.Sublist.cons_cons _ (List.Sublist.cons_cons _ (List.Sublist.cons_cons _ (List.Sublist.cons_cons _ List.Sublist.slnil))))))))))))))));refine e7 ?_;refine mB (gT (mI (gT ?_)));refine dh ?_;refine e7 ?_;refine mB (gT (mI (gT ?_)));refine dh ?_;refine e7 ?_;refine aB (aa (ao ?_));refine cq ?_;exact ⟨rfl, hh.below⟩
end Go.Proofs.YtaapkaefelhfcaaGreatDoor
/- Plain: products of rows of terms. No program in sight. -/
namespace Go.Proofs.YtaapkaefelhfcaaGreatDoor
open Go.RowKit
def mulM (a b : ByteArray) : ByteArray := str (mulL a.data.toList b.data.toList).1
def o5 (a b : ByteArray) : Int := (mulL a.data.toList b.data.toList).2
def rh (x y : TR) : TR := ⟨mulM x.m y.m, nR (x.c.d * y.c.d)⟩
def cQ (p q : List TR) : List TR := p.flatMap fun x => q.map (rh x)
def tf (p q : List TR) : List Int := p.flatMap fun x => q.map fun y => o5 x.m y.m
def fI (p q : List TR) : Int := if 65536 < p.length * q.length then 3 else match (tf p q).find? fun e => decide (e ≠ 0) with | some e => e | none => if 4096 < (a6 (cQ p q)).length then 3 else 0
theorem xf {α β : Type} {f : α → List β} {k : Nat} : ∀ {l : List α}, (∀ x ∈ l, (f x).length = k) → (l.flatMap f).length = l.length * k
 | [], _ => by simp
 | x :: l, h => by
  rw [List.flatMap_cons, List.length_append, h x List.mem_cons_self, xf fun y hy => h y (List.mem_cons_of_mem _ hy), List.length_cons, Nat.succ_mul, Nat.add_comm]
theorem me (p q : List TR) : (cQ p q).length = p.length * q.length := xf fun x _ => List.length_map _
theorem oR {α β γ : Type} {f : α → β → γ} {p : List α} {q : List β} {i : Nat} {x : α} (hx : p[i]? = some x) :
  ((p.take (i + 1)).flatMap fun x => q.map (f x)) = ((p.take i).flatMap fun x => q.map (f x)) ++ (q.take q.length).map (f x) := by
 rw [aH hx, List.flatMap_append, List.take_of_length_le (Nat.le_refl _)];simp
theorem zj {α β γ : Type} {f : α → β → γ} {p : List α} {q : List β} {i j : Nat} {x : α} {y : β} (hx : p[i]? = some x) (hy : q[j]? = some y) :
  ∃ R, (p.flatMap fun x => q.map (f x)) = (((p.take i).flatMap fun x => q.map (f x)) ++ (q.take j).map (f x)) ++ f x y :: R := by
 refine ⟨(q.drop (j + 1)).map (f x) ++ (p.drop (i + 1)).flatMap fun x => q.map (f x), ?_⟩;have e1 : p = p.take i ++ x :: p.drop (i + 1) := by rw [← fN hx, List.take_append_drop]
 have e2 : q = q.take j ++ y :: q.drop (j + 1) := by rw [← fN hy, List.take_append_drop]
 have e3 : q.map (f x) = (q.take j).map (f x) ++ f x y :: (q.drop (j + 1)).map (f x) := by
  rw [← List.map_cons, ← List.map_append, ← e2]
 calc (p.flatMap fun x => q.map (f x)) = (p.take i ++ x :: p.drop (i + 1)).flatMap fun x => q.map (f x) := by rw [← e1]
  _ = _ := by rw [List.flatMap_append, List.flatMap_cons, e3]; simp
theorem nB {k j : Nat} {p q : List TR} (hp : jq k p) (hq : jq j q) (h : k + j ≤ 1000000) : jq (k + j) (cQ p q) := fun t ht => by
 obtain ⟨x, hx, ht⟩ := List.mem_flatMap.1 ht;obtain ⟨y, hy, rfl⟩ := List.mem_map.1 ht;have hs := (hp x hx).2.mul (hq y hy).2;exact ⟨hs.ok Ky, by show Sz _ (nR _).d; rw [dK]; exact hs⟩
theorem Ca (a b : ByteArray) : (mulM a b).size ≤ b.size := by
 unfold mulM;rw [lu];unfold mulL;split
 ·rename_i l hl;have := (sL hl).2.2;have h4 : l.length ≤ b.data.toList.length := by rw [this.2, List.length_zipWith, dm, dm]; omega
  have h5 : (EK l).length ≤ l.length := by unfold EK; split <;> simp
  rw [eF];exact Nat.le_trans h5 h4
 ·exact Nat.zero_le _
end Go.Proofs.YtaapkaefelhfcaaGreatDoor
/- Plain laws of sums and products of rows of terms; what is in the one form. No program in sight. -/
namespace Go.Proofs.YtaapkaefelhfcaaGreatDoor
open Go.RowKit
def rY (c : Dyadic) (t : TR) : TR := ⟨t.m, nR (t.c.d * c)⟩
theorem di {v : Int} {ts : List TR} (h : jl v ts = 0) : iB v = true ∧ ts.length ≤ 4096 ∧ (∀ t ∈ ts, gH v t = true) ∧ Canon ts := by
 unfold jl at h
 cases hf : iB v with
 | false => rw [hf, if_pos rfl] at h; omega
 | true =>
  rw [if_neg (by rw [hf]; decide)] at h;by_cases h4 : 4096 < ts.length
  ·rw [if_pos h4] at h; omega
  ·rw [if_neg h4] at h;by_cases ho : okB v ts = true
   ·unfold okB at ho;rw [Bool.and_eq_true] at ho;have hg : ∀ t ∈ ts, mJ v t = true := List.all_eq_true.1 ho.1;refine ⟨rfl, Ky, fun t ht => ?_, ri.1 ho.2, fun t ht => ?_, fun t ht => ?_⟩
    ·exact (Bool.and_eq_true_iff.1 (hg t ht)).1
    ·exact yQ (Bool.and_eq_true_iff.1 (Bool.and_eq_true_iff.1 (hg t ht)).2).1
    ·exact ((qm _).1 (Bool.and_eq_true_iff.1 (Bool.and_eq_true_iff.1 (hg t ht)).2).2).symm
   ·rw [if_neg ho] at h; omega
theorem Ai {v : Int} {ts : List TR} (hf : iB v = true) (h4 : ts.length ≤ 4096) (hm : ∀ t ∈ ts, gH v t = true) (hc : Canon ts) : jl v ts = 0 := by
 unfold jl;rw [if_neg (by rw [hf]; decide), if_neg Ky, if_pos];unfold okB;rw [Bool.and_eq_true];refine ⟨List.all_eq_true.2 fun t ht => ?_, ri.2 hc.pS⟩;show (gH v t && (vl t && IP t.c)) = true;rw [hm t ht, (qm _).2 (hc.nf t ht).symm];unfold vl;rw [decide_eq_false (hc.nz t ht)]
 rfl
theorem HD {v : Int} {s t : TR} (h : s.m = t.m) (hs : gH v s = true) : gH v t = true := by unfold gH at hs ⊢; rwa [← h]
theorem m5 {v : Int} {l : List TR} (h : ∀ t ∈ l, gH v t = true) : ∀ t ∈ a6 l, gH v t = true := fun t ht => by
 obtain ⟨s, hs, e⟩ := jQ t ht;exact HD e (h s hs)
theorem gW {v : Int} {l : List TR} (hf : iB v = true) (h4 : (a6 l).length ≤ 4096) (hm : ∀ t ∈ l, gH v t = true) : jl v (a6 l) = 0 := Ai hf h4 (m5 hm) (fm l)
theorem CM {v : Int} {x y : TR} (hx : gH v x = true) (h : o5 x.m y.m = 0) : gH v (rh x y) = true := by
 unfold gH at hx ⊢;rw [Bool.and_eq_true, decide_eq_true_eq] at hx;obtain ⟨_, _, h3, h4, h5⟩ := nh h;rw [Bool.and_eq_true, decide_eq_true_eq];have h6 := congrArg List.length h5;rw [dm, List.length_zipWith, dm, dm, h3, Nat.min_self] at h6;refine ⟨?_, ?_⟩
 ·show e8 (mulM x.m y.m).data.toList = true;unfold mulM;rw [fj];exact h4
 ·show ((mulM x.m y.m).size : Int) = v;unfold mulM;rw [lu, h6, ← eF];exact hx.2
theorem pe {v : Int} {p q : List TR} (hp : ∀ t ∈ p, gH v t = true) (h : ∀ e ∈ tf p q, e = 0) : ∀ t ∈ cQ p q, gH v t = true := fun t ht => by
 obtain ⟨x, hx, ht⟩ := List.mem_flatMap.1 ht;obtain ⟨y, hy, rfl⟩ := List.mem_map.1 ht;exact CM (hp x hx) (h _ (List.mem_flatMap.2 ⟨x, hx, List.mem_map.2 ⟨y, hy, rfl⟩⟩))
theorem kG {p q : List TR} (h : fI p q = 0) : p.length * q.length ≤ 65536 ∧ (∀ e ∈ tf p q, e = 0) ∧ (a6 (cQ p q)).length ≤ 4096 := by
 unfold fI at h;by_cases h6 : 65536 < p.length * q.length
 ·rw [if_pos h6] at h; omega
 ·rw [if_neg h6] at h;split at h
  ·rename_i e he;have := List.find?_some he;rw [decide_eq_true_eq] at this;exact absurd h this
  ·rename_i he;refine ⟨Ky, fun e hm => ?_, ?_⟩
   ·have := List.find?_eq_none.1 he e hm;simpa using this
   ·by_cases h4 : 4096 < (a6 (cQ p q)).length
    ·rw [if_pos h4] at h; omega
    ·omega
end Go.Proofs.YtaapkaefelhfcaaGreatDoor
/- The walk through poly.Add. -/
namespace Go.Proofs.YtaapkaefelhfcaaGreatDoor
open Go.RowKit
def fT (ps : List PX) : Int := (ps.map PX.v).headD 0
def xt (ps : List PX) : List TR := ps.flatMap PX.ts
def Ew (ps : List PX) : Int := if gl ps = 0 then gP (xt ps) else gl ps
theorem uj {ps : List PX} (h : gl ps = 0) : ps ≠ [] ∧ (∀ g ∈ ps, g.e = 0) ∧ ∀ g ∈ ps, g.v = fT ps := by
 unfold gl at h;split at h
 ·rename_i f hf;have := List.find?_some hf;simp at this;exact absurd h this
 ·rename_i hf;split at h
  ·cases h
  rename_i hno;refine ⟨fun e => hno (.inl (by rw [e]; rfl)), fun f hm => ?_, fun f hm => ?_⟩
  ·have := List.find?_eq_none.1 hf f hm;simpa using this
  ·apply Classical.byContradiction;intro hne;exact hno (.inr (List.any_eq_true.2 ⟨f, hm, decide_eq_true hne⟩))
theorem uw {α β : Type} {f : α → List β} {B : Nat} : ∀ {l : List α}, (∀ x ∈ l, (f x).length ≤ B) → (l.flatMap f).length ≤ l.length * B
 | [], _ => by simp
 | x :: l, h => by
  rw [List.flatMap_cons, List.length_append, List.length_cons, Nat.succ_mul];have h1 := h x List.mem_cons_self;have h2 := uw fun y hy => h y (List.mem_cons_of_mem _ hy);omega
theorem BD {α β : Type} {f : α → List β} {l : List α} {i : Nat} {x : α} (h : l[i]? = some x) : (l.take (i + 1)).flatMap f = (l.take i).flatMap f ++ f x := by
 rw [aH h, List.flatMap_append];simp
theorem yh {l k : List TR} (h : a6 l = a6 k) : gP l = gP k := by unfold gP; rw [h]
theorem ll {ps : List PX} {g : PX} (h : ps[0]? = some g) : fT ps = g.v := by
 rcases ps with _ | ⟨f, l⟩
 ·cases h
 ·have : f = g := by simpa using h
  rw [← this]; rfl
theorem rZ (L : Option Addr) (n c : Nat) (ps : List PX) (k : Nat) (w : World) (hT : eP w) (hL : Sl w L n 2 (aY PX.cells ps)) (hn : n ≤ 100) (hf : ∀ g ∈ ps, g.at_ w) (hl : ∀ g ∈ ps, g.iu k) (hk : k ≤ 2999000) :
  Calls Tryz.prog 30 #[.slice L n c] w fun r w' => ∃ g : PX, eD (Ew ps) (fT ps) (a6 (xt ps)) g ∧ r = .returned (.tuple #[.agg #[.int .i64 g.v, .slice g.A g.n g.c], .int .i64 (Ew ps)]) ∧ Hp w [g.row] w' := by
 have hh := Hp.start w;have hln := hL.bM PX.len Kz;have hlk := fun w1 hT1 hb => px L n c ps k w1 hT1 (hL.ext hb) Ky (fun g hg => (hf g hg).ext hb) hl;unfold Ew;by_cases h0 : gl ps = 0
 ·rw [if_pos h0];rw [h0] at hlk;obtain ⟨hne, jv, hvv⟩ := uj h0;have hpos := List.length_pos_iff.2 hne;obtain ⟨g0, h00⟩ := ay (l := ps) (k := 0) hpos;rw [ll h00];have hfl : (xt ps).length ≤ ps.length * 4096 := uw fun g hg => (di (jv g hg)).2.1;obtain ⟨ad, rfl, hr⟩ := hL.at_ Ky;refine al (N := 33) (l := [.slice (some ad) n c]) Tryz.func30 rfl rfl (by simp) ?_;refine sr ?_;refine cB hh ?_;intro b2 w2 hh;refine aI (aa (ah (sr (mL ?_))));refine bE hh (hlk _ (hT.hp hh) hh.below) rfl ?_;intro w9 hh;refine aI (aa (sr (mI ?_)));refine cL (aa (cF (ak (ai (sr (aL (aa (ah (sr (mL (aW (mI (aa (aj ?_))))))))))))));replace hh := hh.ef 55 4;refine cv [5, 7, 16, 17, 18, 19, 20, 21, 22, 23, 24] 5 16
   (fun a x w' => ∃ (i : Nat) (M : List TR) (A' : Option Addr) (c' : Nat), i ≤ n ∧ x = .int .i64 i ∧ a = .slice A' M.length c' ∧ MD (k + i) ((ps.take i).flatMap PX.ts) M ∧ Hp w [.row A' M.length c' 55 4 (aY TR.cells M), .blk b2 24 [.int .i64 0, .slice none 0 0] (0, 0)] w')
   (fun _ x _ => n - (intOf x).toNat) ?_ ?_
  ·exact ⟨0, [], none, 0, Nat.zero_le _, rfl, rfl, MD.self List.Pairwise.nil (fun t ht => nomatch ht), hh⟩
  ·clear hh;rintro ρ' a_ x_ w' ⟨i, M, A', c', hi, rfl, rfl, hmd, hh⟩;have hfi : ((ps.take i).flatMap PX.ts).length ≤ i * 4096 := by
    have := uw (f := PX.ts) (B := 4096) (l := ps.take i) fun g hg => (di (jv g (List.mem_of_mem_take hg))).2.1;rwa [List.length_take, Nat.min_eq_left Ky] at this
   have hML := hmd.len;by_cases hlt : i < n
   ·obtain ⟨g, hx⟩ := ay (l := ps) (k := i) Ky;have hmem := List.mem_of_getElem? hx;have hgl := hl g hmem;have hge := di (jv g hmem);have hgc := hgl.cap;have hgn := hgl.n;refine sr ?_;refine aK (aa (ah (cT (ak (ai (ah (aj (sr ?_))))))));refine aD (k := i) aQ.out aF.size rfl rfl Ky Ky Kz ?_;refine bJ (vs := [_, _]) aF.out rfl ((hr.ext hh.below).recAt PX.len hx) rfl Kz ?_;refine cB hh ?_;intro b7 w7 hh;refine bK hh 0 [_,_] ?_;intro ws hh;replace hh : Hp _ (.blk _ _ [_, _] _ :: _) _ := hh;refine aa (aq (mL (bP ?_)));refine bR hh 0 ?_;refine aN (nu A' M.length c' M g.A g.n g.c g.ts (k + i) _ (hT.hp hh) (hh.aM (i := 1) rfl) ((hf g hmem).ext hh.below) (hh.iw (i := 1) rfl) hgc Ky hgn Ky hmd.pS hge.2.2.2.pS hmd.ok (hgl.ok.mono Ky)) aw.out rfl Kz ?_;rintro e_ w23 ⟨L2, A2, c2, hm2, rfl, h3⟩;refine ⟨_, rfl, ?_⟩;replace hh := hh.join h3;simp only [List.cons_append, List.nil_append] at hh;refine aL (aE (aP (ai (aq ?_))));refine bB (mI (aE (ai ?_)));replace hh := hh.sub (List.Sublist.cons_cons _ (List.Sublist.cons _ (List.Sublist.cons _ (List.Sublist.cons_cons _ List.Sublist.slnil))));refine ⟨⟨i + 1, L2, A2, c2, Ky, rfl, rfl, ?_, hh⟩, by show n - (i + 1) < n - i; omega, ?_⟩
    ·rw [BD hx];exact hmd.Dl (MD.self hge.2.2.2.pS (hgl.ok.mono Ky : jq (k + i) g.ts)) hm2 Ky
    ·exact KB
   ·obtain rfl : i = n := Ky;rw [List.take_of_length_le Ky] at hmd hfi hML;have hgM : a6 M = a6 (xt ps) := tY hmd.co;have hgE := yh hgM;refine sr ?_;refine aK (aa (ah (cF (aJ (az (az (aX (ai (sr (mL ?_))))))))));refine aD (k := 0) aQ.out aF.size rfl rfl Ky Ky Kz ?_;refine dR eK.out rfl Kz ?_;refine aZ aF.out rfl (cO hh.below ((hr.recAt PX.len h00) 0 _ rfl)) Kz ?_;refine mL ?_;refine aN (jX _ A' M.length c' M (k + i) _ hT hh rfl Ky Ky hmd.ok) aw.out rfl Kz ?_;rintro e_ w30 ⟨g, og, rfl, hh⟩;refine ⟨_, rfl, ?_⟩;refine dI ?_;refine dI ?_;refine bK hh 1 [_,_] ?_;intro ws hh;replace hh : Hp _ (_ :: .blk _ _ [_, _] _ :: _) _ := hh;refine aI (aa (ao ?_));refine jG (aT rfl (aU (vs := [_, _]) aF.out (hh.aC (i := 1) (n := 2) rfl rfl) rfl) (cw (cM rfl) bq)) ?_;rw [← hgE, ← hgM];exact ⟨g, og, rfl, hh.sub (List.Sublist.cons_cons _ (List.nil_sublist _))⟩
 ·rw [if_neg h0];generalize gl ps = e at *;refine al (N := 33) (l := [.slice L n c]) Tryz.func30 rfl rfl (by simp) ?_;refine sr ?_;refine cB hh ?_;intro b2 w2 hh;refine aI (aa (ah (sr (mL ?_))));refine bE hh (hlk _ (hT.hp hh) hh.below) rfl ?_;intro w9 hh;refine aI (aa (sr (mI ?_)));refine cL (aa (cT (sr ?_)));refine e9 [_,_] (mI ?_);refine bK hh 0 [_,_] ?_;intro ws hh;replace hh : Hp _ (.blk _ _ [_, _] _ :: _) _ := hh;refine aI (aa (ao (aG ?_)));refine jG (aT rfl (aU (vs := [_, _]) aF.out (hh.aC (i := 0) (n := 2) rfl rfl) rfl) (cw (cM rfl) bq)) ?_;exact ⟨PX.nil, eD.err h0, rfl, (hh.sub (List.nil_sublist _)).kj⟩
end Go.Proofs.YtaapkaefelhfcaaGreatDoor
/- The walk through poly.Degs. -/
namespace Go.Proofs.YtaapkaefelhfcaaGreatDoor
open Go.RowKit
def lb (s : ByteArray) (i : Nat) : Int := match s.data.toList[i]? with | some c => c.toNat | none => 0
def wJ (l : List TR) (i : Nat) : Int := l.foldl (fun m t => max m (lb t.m i)) 0
def lh (m : Nat) (l : List TR) : List Int := (List.range m).map (wJ l)
def oF (v : Int) (ts : List TR) : List Int := if jl v ts = 0 then lh v.toNat ts else []
theorem e6 (m : Nat) (l : List TR) : (lh m l).length = m := by unfold lh; rw [List.length_map, List.length_range]
theorem p5 {m j : Nat} (l : List TR) (h : j < m) : (lh m l)[j]? = some (wJ l j) := by
 unfold lh;rw [List.getElem?_map, List.getElem?_range h]
 rfl
theorem qQ (l : List TR) (t : TR) (i : Nat) : wJ (l ++ [t]) i = max (wJ l i) (lb t.m i) := by unfold wJ; rw [List.foldl_append]; rfl
theorem D8 {s : ByteArray} {i : Nat} {c : UInt8} (h : s.data.toList[i]? = some c) : lb s i = c.toNat := by unfold lb; rw [h]
theorem FI {α : Type} {A B : List α} {j : Nat} {y : α} (h : A.length = B.length) (hy : B[j]? = some y) : (B.take j ++ A.drop j).set j y = B.take (j + 1) ++ A.drop (j + 1) := by
 have hj := (List.getElem?_eq_some_iff.1 hy).1;have hl : (B.take j).length = j := by rw [List.length_take]; omega
 obtain ⟨x, hx⟩ := ay (l := A) (k := j) Ky;rw [fN hx, aH hy, List.set_append_right _ _ Ky, hl, Nat.sub_self];simp
theorem Fk {α : Type} {A B : List α} {j : Nat} {x : α} (h : A.length = B.length) (hx : A[j]? = some x) : (B.take j ++ A.drop j)[j]? = some x := by
 have hj := (List.getElem?_eq_some_iff.1 hx).1;have hl : (B.take j).length = j := by rw [List.length_take]; omega
 rw [List.getElem?_append_right Ky, hl, Nat.sub_self, List.getElem?_drop, Nat.add_zero, hx]
theorem CQ (m : Nat) : gh m [.int .i64 0] = bG (lh m []) := by
 have h1 : ∀ n, gh n [.int .i64 0] = bG (List.replicate n 0) := fun n => by
  induction n with
  | zero => rfl
  | succ n ih => rw [gh, ih, List.replicate_succ]; rfl
 rw [h1];congr 1;apply List.ext_getElem?;intro i;by_cases h : i < m
 ·rw [p5 [] h, List.getElem?_replicate, if_pos h]
  rfl
 ·rw [List.getElem?_eq_none (by rw [List.length_replicate]; omega), List.getElem?_eq_none (by rw [e6]; omega)]
theorem lj (p : PX) (k : Nat) (w : World) (hT : eP w) (hp : p.at_ w) (lp : p.iu k) :
  Calls Tryz.prog 36 #[.agg #[.int .i64 p.v, .slice p.A p.n p.c]] w fun r w' => ∃ A c, r = .returned (.slice A (oF p.v p.ts).length c) ∧ Hp w [.row A (oF p.v p.ts).length c 3 1 (bG (oF p.v p.ts))] w' := by
 have hh := Hp.start w;have hck := fun w1 hT1 hb => l0 p k w1 hT1 (hp.ext hb) lp;by_cases h0 : p.e = 0
 ·rw [show oF p.v p.ts = lh p.v.toNat p.ts from if_pos h0, e6];rw [h0] at hck;obtain ⟨hf, h4, hmy, _⟩ := di h0;have hpl : p.ts.length = p.n := hp.ln;obtain ⟨pv, pA, pn, pc, ts⟩ := p;replace hf := gI.1 hf;replace hmy : ∀ t ∈ ts, gH pv t = true := hmy;replace hp : Sl w pA pn 4 (aY TR.cells ts) := hp;have hsz : ∀ t ∈ ts, t.m.size ≤ 100000 := lp.sz;have hn := lp.n;replace hn : pn ≤ 1000000 := hn;replace hpl : ts.length = pn := hpl;obtain ⟨m, rfl⟩ : ∃ m : Nat, pv = (m : Int) := ⟨pv.toNat, by show pv = _; have : 0 ≤ pv := hf.1; omega⟩;replace hf : m ≤ 12 := by have h9 : (m : Int) ≤ 12 := hf.2; omega
  show Calls _ _ _ _ fun r w' => ∃ A c, r = .returned (.slice A m c) ∧ Hp w [.row A m c 3 1 (bG (lh m ts))] w';refine al (N := 42) (l := [.agg #[.int .i64 m, .slice pA pn pc]]) Tryz.func36 rfl rfl (by simp) ?_;refine sr ?_;refine db hh [_,_] ?_;intro b1 w1 hh;refine aL (aa (ah (sr ?_)));refine cR hh 0 [_,_] ?_;refine bE hh (hck _ (hT.hp hh) hh.below) rfl ?_;intro w9 hh;refine cL (aa (cF (ak (ai (sr (bP ?_))))));refine bR hh 0 ?_;refine eT (n := m) hh rfl rfl Ky Ky aQ.out aF.out rfl Ky Ky Kz ?_;intro b13 w13 hh;refine aL (aa (ah (sr (bP ?_))));refine bR hh 1 ?_;refine aW (mI (aa (aj ?_)));rw [CQ] at hh;refine bm [5, 6, 7, 17, 18, 19, 20, 21, 22, 23, 24, 25, 26, 27, 28, 29, 30, 31, 32, 33, 34, 35, 36, 37, 38, 39, 40] 17
   (fun v w' => ∃ i : Nat, i ≤ pn ∧ v = .int .i64 i ∧ Hp w [.row (some ⟨b13, 0, none⟩) m m 3 1 (bG (lh m (ts.take i))), .blk b1 24 [.int .i64 m, .slice pA pn pc] (0, 0)] w')
   (fun v _ => pn - (intOf v).toNat) ?_ ?_
  ·exact ⟨0, Nat.zero_le _, rfl, hh⟩
  ·clear hh;rintro ρ' v w' ⟨i, hi, rfl, hh⟩;by_cases hlt : i < pn
   ·obtain ⟨x, hx⟩ := ay (l := ts) (k := i) Ky;obtain ⟨ad, rfl, hr⟩ := hp.at_ Ky;have hxm := List.mem_of_getElem? hx;have hxs := hsz x hxm;have hmx := Bool.and_eq_true_iff.1 (hmy x hxm);have hxz : x.m.size = m := by have := of_decide_eq_true hmx.2; omega
    have hxl : x.m.data.toList.length = m := by rw [← eF]; exact hxz
    have hex : jd x.m.data.toList = ints x.m.data.toList := kv hmx.1;have hel : (jd x.m.data.toList).length = m := by rw [hex, dm]; exact hxl
    have hBl : (lh m (ts.take i)).length = (lh m (ts.take (i + 1))).length := by rw [e6, e6]
    refine sr ?_;refine aK (aa (ah (cT (ak (ai (ah (aj (sr ?_))))))));refine aD (k := i) aQ.out aF.size rfl rfl Ky Ky Kz ?_;refine bJ (vs := [_, _, _, _]) aF.out rfl ((hr.ext hh.below).recAt TR.len hx) rfl Kz ?_;refine cB hh ?_;intro b5 w5 hh;refine bK hh 0 [_,_,_,_] ?_;intro ws hh;replace hh : Hp _ (.blk _ _ [_, _, _, _] _ :: _) _ := hh;refine aa (sr (bP ?_));refine bR hh 0 ?_;refine aN (iD x.m _ hxs) aw.out rfl Kz ?_;rintro e_ w23 ⟨A23, c23, rfl, hown_, hb_⟩;refine ⟨_, rfl, ?_⟩;replace hh := hh.bz (x := .row _ _ _ _ _ _) hb_ hown_;rw [hel] at hh ⊢;refine aW (mI (aa (aj ?_)));refine bm [6, 7, 25, 26, 27, 28, 29, 30, 31, 32, 33, 34, 35, 36, 37, 38, 39] 25
     (fun v w' => ∃ j : Nat, j ≤ m ∧ v = .int .i64 j ∧ Hp w [.row A23 m c23 3 1 (bG (jd x.m.data.toList)), .blk b5 55 [.string x.m, .bool x.c.neg, .string x.c.cA, .int .i64 x.c.e] (0, 0), .row (some ⟨b13, 0, none⟩) m m 3 1 (bG ((lh m (ts.take (i + 1))).take j ++ (lh m (ts.take i)).drop j)), .blk b1 24 [.int .i64 m, .slice (some ad) pn pc] (0, 0)] w')
     (fun v _ => m - (intOf v).toNat) ?_ ?_
    ·exact ⟨0, Nat.zero_le _, rfl, hh⟩
    ·clear hh;rintro ρ2 v w2 ⟨j, hj, rfl, hh⟩;by_cases hjn : j < m
     ·obtain ⟨e, he⟩ := ay (l := x.m.data.toList) (k := j) Ky;have hee : (jd x.m.data.toList)[j]? = some (e.toNat : Int) := by rw [hex]; exact FK he
      have ho := Fk hBl (p5 (ts.take i) hjn);have hset := FI hBl (p5 (ts.take (i + 1)) hjn);have hmx2 : wJ (ts.take (i + 1)) j = max (wJ (ts.take i) j) (e.toNat : Int) := by rw [aH hx, qQ, D8 he]
      rw [hmx2] at hset;have hol : ((lh m (ts.take (i + 1))).take j ++ (lh m (ts.take i)).drop j).length = m := by rw [List.length_append, List.length_take, List.length_drop, e6, e6]; omega
      generalize (lh m (ts.take (i + 1))).take j ++ (lh m (ts.take i)).drop j = M at *;have hee2 := cx hee;have ho2 := cx ho;have hll : (bG M).length = m := by rw [bT]; exact hol
      obtain ⟨g, rfl⟩ := hh.dq (i := 0) rfl Ky;refine sr ?_;refine aK (aa (ah (cT (ak (ai (ah (aj (sr (mI ?_)))))))));refine bf (k := j) aQ.out aF.size rfl rfl Ky Ky Kz ?_;refine aZ aF.out rfl (hh.cN (i := 0) rfl (by first | assumption | (simp only [Nat.mul_one]; assumption))) Kz ?_;refine aI (aI (aa (aq (mL (mI (mL (mI ?_)))))));refine bf (k := j) aQ.out aF.size rfl rfl Ky Ky Kz ?_;refine aZ aF.out rfl (hh.cN (i := 2) rfl (by first | assumption | (simp only [Nat.mul_one]; assumption))) Kz ?_;refine mI ?_;refine kq rfl rfl Kz ?_;refine bf aQ.out aF.size rfl rfl rfl Ky Kz ?_;have hmv : (if (e.toNat : Int) > wJ (ts.take i) j then (e.toNat : Int) else wJ (ts.take i) j) = max (wJ (ts.take i) j) (e.toNat : Int) := by split <;> omega
      refine bs hh (i := 2) (vs := [_]) rfl rfl (cd rfl) rfl aF.out rfl Ky rfl ?_;intro ws hh;simp only [List.set_cons_zero, List.set_cons_succ] at hh;rw [hmv, jb _ (by rw [← bT]; omega), hset] at hh;refine aE (aP (ai (aq ?_)));refine bB (mI (aE (ai ?_)));refine ⟨⟨j + 1, Ky, rfl, hh⟩, by show m - (j + 1) < m - j; omega, ?_⟩;exact KB
     ·obtain rfl : j = m := Ky;rw [List.take_of_length_le (by rw [e6]; omega), List.drop_of_length_le (by rw [e6]; omega), List.append_nil] at hh;refine sr ?_;refine aK (aa (ah (cF (aJ (az (az (aX (aP (ai (aq ?_))))))))));refine bB (mI (aE (ai ?_)));replace hh := hh.sub (List.Sublist.cons _ (List.Sublist.cons _ (List.Sublist.cons_cons _ (List.Sublist.cons_cons _ List.Sublist.slnil))));refine ⟨⟨i + 1, Ky, rfl, hh⟩, by show pn - (i + 1) < pn - i; omega, ?_⟩;exact KB
   ·obtain rfl : i = pn := Ky;rw [List.take_of_length_le Ky] at hh;refine sr ?_;refine aK (aa (ah (cF (aJ (az (az (aX (ai (sr (mL (aL (aa (ao ?_)))))))))))));refine cq ?_;exact ⟨_, _, rfl, hh.sub (List.Sublist.cons_cons _ (List.nil_sublist _))⟩
 ·rw [show oF p.v p.ts = [] from if_neg h0];refine al (N := 42) (l := [.agg #[.int .i64 p.v, .slice p.A p.n p.c]]) Tryz.func36 rfl rfl (by simp) ?_;refine sr ?_;refine db hh [_,_] ?_;intro b1 w1 hh;refine aL (aa (ah (sr ?_)));refine cR hh 0 [_,_] ?_;refine bE hh (hck _ (hT.hp hh) hh.below) rfl ?_;intro w9 hh;refine cL (aa (cT (sr (aL (aa (ao (aG ?_)))))));refine cq ?_;exact ⟨none, 0, rfl, (hh.sub (List.nil_sublist _)).ef 3 1⟩
end Go.Proofs.YtaapkaefelhfcaaGreatDoor
/- The walks through package box: what is wrong with a box, its form, what lies in it, its widest axis, its volume. -/
namespace Go.Proofs.YtaapkaefelhfcaaGreatDoor
open Go.RowKit
def pP (b : List SR) : Int := if b.any (fun s => !decide (s.lo.d < s.hi.d)) then 5 else if b.length = 0 then 1 else 0
theorem Ff (x y : Dyadic) : (0 ≤ jR x y) ↔ ¬ x < y := by
 rcases Gx x y with h | h | h
 ·rw [rG h]; exact ⟨fun h2 => by omega, fun h2 => absurd h h2⟩
 ·rw [h, sM]; exact ⟨fun _ => by grind, fun _ => by omega⟩
 ·rw [qw h]; exact ⟨fun _ => by grind, fun _ => by omega⟩
theorem uh (L : Option Addr) (n c : Nat) (b : List SR) (w : World) (hT : eP w) (hS : Sl w L n 6 (aY SR.cells b)) (hb : ∀ s ∈ b, s.ok) (hn : n ≤ 1000000) :
  Calls Tryz.prog 143 #[.slice L n c] w fun r w' => r = .returned (.int .i64 (pP b)) ∧ Below w.heap.size w w' := by
 have hh := Hp.start w;have hln := hS.bM SR.len Kz;refine al (N := 21) (l := [.slice L n c]) Tryz.func143 rfl rfl (by simp) ?_;refine sr (aI (aa (ah (sr (mL (aW (mI (aa (aj ?_)))))))));refine bm [2, 4, 7, 8, 9, 10, 11, 12, 13, 14, 15, 16, 17] 7
  (fun v w' => ∃ i : Nat, i ≤ n ∧ v = .int .i64 i ∧ (b.take i).any (fun s => !decide (s.lo.d < s.hi.d)) = false ∧ Hp w [] w')
  (fun v _ => n - (intOf v).toNat) ?_ ?_
 ·exact ⟨0, Nat.zero_le _, rfl, rfl, hh⟩
 ·clear hh;rintro ρ' v w' ⟨i, hi, rfl, hall, hh⟩;by_cases hlt : i < n
  ·obtain ⟨s, hs⟩ := ay (l := b) (k := i) Ky;have ms := List.mem_of_getElem? hs;obtain ⟨ad, rfl, hr⟩ := hS.at_ Ky;have hc := fun w1 hT1 => mQ s.lo s.hi w1 hT1 (hb s ms).1 (hb s ms).2;have e := Ff s.lo.d s.hi.d;generalize jR s.lo.d s.hi.d = cc at *;by_cases g : 0 ≤ cc
   ·refine sr ?_;refine aK (aa (ah (cT (ak (ai (ah (aj (sr ?_))))))));refine aD (k := i) aQ.out aF.size rfl rfl Ky Ky Kz ?_;refine bJ (vs := [_, _, _, _, _, _]) aF.out rfl ((hr.ext hh.below).recAt SR.len hs) rfl Kz ?_;refine cB hh ?_;intro b4 w4 hh;refine bK hh 0 [_,_,_,_,_,_] ?_;intro ws hh;replace hh : Hp _ (.blk _ _ [_, _, _, _, _, _] _ :: _) _ := hh;refine aa (sr (bP ?_));refine cR hh 0 [_,_,_] (bP ?_);refine cR hh 0 [_,_,_] ?_;refine bE hh (hc _ (hT.hp hh)) rfl ?_;intro w15 hh;refine dv (aa (cT (sr (aI (aa (ao (bD (aG (aG (bD (aG ?_)))))))))));refine cq ?_;have : b.any (fun s => !decide (s.lo.d < s.hi.d)) = true := List.any_eq_true.2 ⟨s, ms, by rw [decide_eq_false (e.1 g)]; rfl⟩;exact ⟨by rw [pP, if_pos this], hh.below⟩
   ·refine sr ?_;refine aK (aa (ah (cT (ak (ai (ah (aj (sr ?_))))))));refine aD (k := i) aQ.out aF.size rfl rfl Ky Ky Kz ?_;refine bJ (vs := [_, _, _, _, _, _]) aF.out rfl ((hr.ext hh.below).recAt SR.len hs) rfl Kz ?_;refine cB hh ?_;intro b4 w4 hh;refine bK hh 0 [_,_,_,_,_,_] ?_;intro ws hh;replace hh : Hp _ (.blk _ _ [_, _, _, _, _, _] _ :: _) _ := hh;refine aa (sr (bP ?_));refine cR hh 0 [_,_,_] (bP ?_);refine cR hh 0 [_,_,_] ?_;refine bE hh (hc _ (hT.hp hh)) rfl ?_;intro w15 hh;refine dv (aa (cF (ak (aP (ai (aq ?_))))));refine bB (mI (aE (ai ?_)));replace hh := hh.sub (List.Sublist.cons _ List.Sublist.slnil);refine ⟨⟨i + 1, Ky, rfl, ?_, hh⟩, by show n - (i + 1) < n - i; omega, ?_⟩
    ·rw [aH hs, List.any_append, hall, Bool.false_or, List.any_cons, List.any_nil, Bool.or_false, decide_eq_true (by have : ¬ ¬ s.lo.d < s.hi.d := fun h => g (e.2 h); exact Classical.not_not.1 this)]
     rfl
    ·exact KB
  ·rw [List.take_of_length_le Ky] at hall;by_cases h0 : n = 0
   ·refine sr ?_;refine aK (aa (ah (cF (aJ (az (az (aX (ai (ah (sr (mL (aW ?_))))))))))));refine dh (aa (cT (sr (aI (aa (ao (aG ?_)))))));refine cq ?_;exact ⟨by rw [pP, hall, if_neg (by simp), if_pos Ky], hh.below⟩
   ·refine sr ?_;refine aK (aa (ah (cF (aJ (az (az (aX (ai (ah (sr (mL (aW ?_))))))))))));refine dh (aa (cF (ak (ai (sr (aI (aa (ao ?_))))))));refine cq ?_;exact ⟨by rw [pP, hall, if_neg (by simp), if_neg Ky], hh.below⟩
theorem vT (L : Option Addr) (n c : Nat) (b : List SR) (w : World) (hT : eP w) (hS : Sl w L n 6 (aY SR.cells b)) (hb : ∀ s ∈ b, s.ok) (hn : n ≤ 1000000) :
  Calls Tryz.prog 128 #[.slice L n c] w fun r w' => ∃ A c', r = .returned (.slice A n c') ∧ w'.ownsRow w.heap.size 57 6 (.slice A n c') n (aY SR.cells (b.map SR.f)) ∧ Below w.heap.size w w' := by
 have hh := Hp.start w;have hln := hS.bM SR.len Kz;refine al (N := 19) (l := [.slice L n c]) Tryz.func128 rfl rfl (by simp) ?_;refine sr (aL (aa (sr (aL (aa (ah (sr (mL (aW (mI (aa (aj ?_))))))))))));replace hh := hh.ef 57 6;refine cv [3, 5, 8, 9, 10, 11, 12, 13, 14, 15, 16, 17] 3 8
  (fun v3 v w' => ∃ (i c3 : Nat) (A : Option Addr), i ≤ n ∧ v = .int .i64 i ∧ v3 = .slice A i c3 ∧ Hp w [.row A i c3 57 6 (aY SR.cells ((b.take i).map SR.f))] w')
  (fun _ v _ => n - (intOf v).toNat) ?_ ?_
 ·exact ⟨0, 0, none, Nat.zero_le _, rfl, rfl, hh⟩
 ·clear hh;rintro ρ' v3 v w' ⟨i, c3, A, hi, rfl, rfl, hh⟩;by_cases hlt : i < n
  ·obtain ⟨s, hs⟩ := ay (l := b) (k := i) Ky;have ms := List.mem_of_getElem? hs;obtain ⟨ad, rfl, hr⟩ := hS.at_ Ky;refine sr ?_;refine aK (aa (ah (cT (ak (ai (ah (aj (sr ?_))))))));refine aD (k := i) aQ.out aF.size rfl rfl Ky Ky Kz ?_;refine bJ (vs := [_, _, _, _, _, _]) aF.out rfl ((hr.ext hh.below).recAt SR.len hs) rfl Kz ?_;refine cB hh ?_;intro b5 w5 hh;refine bK hh 0 [_,_,_,_,_,_] ?_;intro ws hh;replace hh : Hp _ (.blk _ _ [_, _, _, _, _, _] _ :: _) _ := hh;refine aa (aq (mL ?_));refine cR hh 0 [_,_,_,_,_,_] ?_;refine bE hh (u5 s _ (hT.hp hh) (hb s ms)) rfl ?_;intro w14 hh;refine aO hh (cs := [_, _, _, _, _, _]) aQ.out aF.out (aR (cJ rfl) bI) rfl rfl Kz Kz Kz rfl Kz ?_;intro b15 w15 hh;refine cz hh (i := 2) rfl rfl rfl (hh.aM (i := 0) rfl) aQ.out aF.out rfl Kz (by first | rfl | exact cD _ | exact cm _ | exact bH _ | exact bO NR.one _) Ky Ky Kz ?_;intro A16 c16 w16 hh;simp only [List.set_cons_zero, List.set_cons_succ] at hh;replace hh := hh.sub (List.sublist_cons_self _ _);refine aL (aE (aP (ai (aq ?_))));refine bB (mI (aE (ai ?_)));replace hh := hh.sub (List.Sublist.cons _ (List.Sublist.cons_cons _ List.Sublist.slnil))
   refine ⟨⟨i + 1, c16, A16, Ky, rfl, rfl, ?_⟩, by show n - (i + 1) < n - i; omega, ?_⟩
   ·rw [aH hs, List.map_append, cK];exact hh
   ·exact KB
  ·obtain rfl : i = n := Ky;rw [List.take_of_length_le Ky] at hh;refine sr ?_;refine aK (aa (ah (cF (aJ (az (az (aX (ai (sr (mL (aL (aa (ao ?_)))))))))))));refine cq ?_;exact ⟨_, _, rfl, hh.at_ (i := 0) rfl, hh.below⟩
def hasB (b : List SR) (p : List NR) : Bool := decide (b.length = p.length) && (b.zip p).all fun x => x.1.has x.2.d
def IL (a b : List SR) : Bool := decide (a.length = b.length) && (a.zip b).all fun x => x.2.has x.1.lo.d && x.2.has x.1.hi.d
end Go.Proofs.YtaapkaefelhfcaaGreatDoor
/- The walk through bern.fits. -/
namespace Go.Proofs.YtaapkaefelhfcaaGreatDoor
open Go.RowKit
def ue (dg ds : List Int) : Bool := (dg.zip ds).any fun q => decide (q.2 < q.1 ∨ 127 < q.2)
def mV (p : PX) (b : List SR) (ds : List Int) : Int :=
 if p.e ≠ 0 then p.e else if pP b ≠ 0 then pP b else if (b.length : Int) ≠ p.v ∨ (ds.length : Int) ≠ p.v then 1 else if ue (oF p.v p.ts) ds = true then 1 else if gB 1 ds = 0 then 3 else 0
theorem zI {α β : Type} {a : List α} {b : List β} {i : Nat} {x : α} {y : β} (hx : a[i]? = some x) (hy : b[i]? = some y) : (a.zip b)[i]? = some (x, y) := by
 rw [List.getElem?_zip_eq_some];exact ⟨hx, hy⟩
theorem re (p : PX) (L : Option Addr) (n c : Nat) (b : List SR) (M : Option Addr) (m mc : Nat) (ds : List Int) (k : Nat) (w : World) (hT : eP w) (hp : p.at_ w) (lp : p.iu k) (hB : Sl w L n 6 (aY SR.cells b)) (hb : ∀ s ∈ b, s.ok) (hn : n ≤ 1000000) (hD : Sl w M m 1 (bG ds)) (hm : m ≤ 1000000) :
  Calls Tryz.prog 114 #[.agg #[.int .i64 p.v, .slice p.A p.n p.c], .slice L n c, .slice M m mc] w fun r w' => r = .returned (.int .i64 (mV p b ds)) ∧ Below w.heap.size w w' := by
 have hh := Hp.start w;have hck := fun w1 hT1 hb => l0 p k w1 hT1 (hp.ext hb) lp;have hbk := fun w1 hT1 hb1 => uh L n c b w1 hT1 (hB.ext hb1) hb hn;have hdg := fun w1 hT1 hb => lj p k w1 hT1 (hp.ext hb) lp;have hbl : b.length = n := hB.bM SR.len Kz;have hdl : ds.length = m := by have := hD.1; rw [bT] at this; omega
 unfold mV;by_cases h0 : p.e ≠ 0
 ·rw [if_pos h0];generalize p.e = e at *;refine al (N := 58) (l := [.agg #[.int .i64 p.v, .slice p.A p.n p.c], .slice L n c, .slice M m mc]) Tryz.func114 rfl rfl (by simp) ?_;refine sr ?_;refine db hh [_,_] ?_;intro b3 w3 hh;refine aI (aa (ah (sr ?_)));refine cR hh 0 [_,_] ?_;refine bE hh (hck _ (hT.hp hh) hh.below) rfl ?_;intro w12 hh;refine aI (aa (sr (mI ?_)));refine cL (aa (cT (sr (mI (aI (aa (ao (aG ?_))))))));refine cq ?_;exact ⟨rfl, hh.below⟩
 ·rw [if_neg h0];have hpe : p.e = 0 := Ky;rw [hpe] at hck;by_cases h1 : pP b ≠ 0
  ·rw [if_pos h1];generalize pP b = e at *;refine al (N := 58) (l := [.agg #[.int .i64 p.v, .slice p.A p.n p.c], .slice L n c, .slice M m mc]) Tryz.func114 rfl rfl (by simp) ?_;refine sr ?_;refine db hh [_,_] ?_;intro b3 w3 hh;refine aI (aa (ah (sr ?_)));refine cR hh 0 [_,_] ?_;refine bE hh (hck _ (hT.hp hh) hh.below) rfl ?_;intro w12 hh;refine aI (aa (sr (mI ?_)));refine cL (aa (cF (ak (ai (ah (sr (mL ?_)))))));refine bE hh (hbk _ (hT.hp hh) hh.below) rfl ?_;intro w17 hh;refine aI (aa (sr (mI ?_)));refine cL (aa (cT (sr (mI (aI (aa (ao (aG ?_))))))));refine cq ?_;exact ⟨rfl, hh.below⟩
  ·rw [if_neg h1];rw [show pP b = 0 by omega] at hbk;by_cases h2 : (b.length : Int) ≠ p.v
   ·rw [if_pos (.inl h2)];refine al (N := 58) (l := [.agg #[.int .i64 p.v, .slice p.A p.n p.c], .slice L n c, .slice M m mc]) Tryz.func114 rfl rfl (by simp) ?_;refine sr ?_;refine db hh [_,_] ?_;intro b3 w3 hh;refine aI (aa (ah (sr ?_)));refine cR hh 0 [_,_] ?_;refine bE hh (hck _ (hT.hp hh) hh.below) rfl ?_;intro w12 hh;refine aI (aa (sr (mI ?_)));refine cL (aa (cF (ak (ai (ah (sr (mL ?_)))))));refine bE hh (hbk _ (hT.hp hh) hh.below) rfl ?_;intro w17 hh;refine aI (aa (sr (mI ?_)));refine cL (aa (cF (ak (ai (ah (sr (mL (aW (bP ?_)))))))));refine bR hh 0 ?_;refine cL (mB ?_);refine gS (gS (gS (gS (gS ?_))));refine e7 ?_;refine aa (cT (sr (aI (aa (ao (aG ?_))))));refine cq ?_;exact ⟨rfl, hh.below⟩
   ·by_cases h3 : (ds.length : Int) ≠ p.v
    ·rw [if_pos (.inr h3)];refine al (N := 58) (l := [.agg #[.int .i64 p.v, .slice p.A p.n p.c], .slice L n c, .slice M m mc]) Tryz.func114 rfl rfl (by simp) ?_;refine sr ?_;refine db hh [_,_] ?_;intro b3 w3 hh;refine aI (aa (ah (sr ?_)));refine cR hh 0 [_,_] ?_;refine bE hh (hck _ (hT.hp hh) hh.below) rfl ?_;intro w12 hh;refine aI (aa (sr (mI ?_)));refine cL (aa (cF (ak (ai (ah (sr (mL ?_)))))));refine bE hh (hbk _ (hT.hp hh) hh.below) rfl ?_;intro w17 hh;refine aI (aa (sr (mI ?_)));refine cL (aa (cF (ak (ai (ah (sr (mL (aW (bP ?_)))))))));refine bR hh 0 ?_;refine cL (mB (gT (mL (gT (aW (gT (bP (gT ?_))))))));refine bR hh 0 ?_;refine gT ?_;refine cL ?_;refine eX ?_;refine aa (cT (sr (aI (aa (ao (aG ?_))))));refine cq ?_;exact ⟨rfl, hh.below⟩
    ·rw [if_neg (fun h => h.elim h2 h3)];have hgl : (oF p.v p.ts).length = m := by
      unfold oF;rw [if_pos (show jl p.v p.ts = 0 from hpe), e6];omega
     have hzl : ((oF p.v p.ts).zip ds).length = m := by rw [List.length_zip]; omega
     have hbd : ue (oF p.v p.ts) ds = ((oF p.v p.ts).zip ds).any fun q => decide (q.2 < q.1 ∨ 127 < q.2) := rfl;generalize oF p.v p.ts = dg at *;rw [hgl] at hdg;refine al (N := 58) (l := [.agg #[.int .i64 p.v, .slice p.A p.n p.c], .slice L n c, .slice M m mc]) Tryz.func114 rfl rfl (by simp) ?_;refine sr ?_;refine db hh [_,_] ?_;intro b3 w3 hh;refine aI (aa (ah (sr ?_)));refine cR hh 0 [_,_] ?_;refine bE hh (hck _ (hT.hp hh) hh.below) rfl ?_;intro w12 hh;refine aI (aa (sr (mI ?_)));refine cL (aa (cF (ak (ai (ah (sr (mL ?_)))))));refine bE hh (hbk _ (hT.hp hh) hh.below) rfl ?_;intro w17 hh;refine aI (aa (sr (mI ?_)));refine cL (aa (cF (ak (ai (ah (sr (mL (aW (bP ?_)))))))));refine bR hh 0 ?_;refine cL (mB (gT (mL (gT (aW (gT (bP (gT ?_))))))));refine bR hh 0 ?_;refine gT ?_;refine cL ?_;refine eX ?_;refine aa (cF (ak (ai (ah (sr ?_)))));refine cR hh 0 [_,_] ?_;refine aN (hdg _ (hT.hp hh) hh.below) aw.out rfl Kz ?_;rintro e_ w34 ⟨G, gc, rfl, h4⟩;refine ⟨_, rfl, ?_⟩;replace hh := hh.join h4;simp only [List.cons_append, List.nil_append] at hh;refine aW (mI (aa (aj ?_)));refine bm [6, 9, 10, 36, 37, 38, 39, 40, 41, 42, 43, 44, 45, 46, 47, 48, 49, 50, 51, 52, 53, 54] 36
      (fun v w' => ∃ i : Nat, i ≤ m ∧ v = .int .i64 i ∧ ((dg.zip ds).take i).any (fun q => decide (q.2 < q.1 ∨ 127 < q.2)) = false ∧ Hp w [.row G m gc 3 1 (bG dg), .blk b3 24 [.int .i64 p.v, .slice p.A p.n p.c] (0, 0)] w')
      (fun v _ => m - (intOf v).toNat) ?_ ?_
     ·exact ⟨0, Nat.zero_le _, rfl, rfl, hh⟩
     ·clear hh;rintro ρ' v w' ⟨i, hi, rfl, hall, hh⟩;by_cases hlt : i < m
      ·obtain ⟨x, hx⟩ := ay (l := dg) (k := i) Ky;obtain ⟨y, hy⟩ := ay (l := ds) (k := i) Ky;have hz := zI hx hy;have hx2 := cx hx;have hy2 := cx hy;have hll : (bG dg).length = m := by rw [bT]; exact hgl
       obtain ⟨ad, rfl, hr⟩ := hD.at_ Ky;obtain ⟨g0, rfl⟩ := hh.dq (i := 0) rfl Ky;by_cases hxy : y < x
       ·refine sr ?_;refine aK (aa (ah (cT (ak (ai (ah (aj (sr (mI ?_)))))))));refine bf (k := i) aQ.out aF.size rfl rfl Ky Ky Kz ?_;refine aZ aF.out rfl (hh.cN (i := 0) rfl (by first | assumption | (simp only [Nat.mul_one]; assumption))) Kz ?_;refine aI (aI (aa (sr (mL (mI ?_)))));refine aD (k := i) aQ.out aF.size rfl rfl Ky Ky Kz ?_;refine aZ aF.out rfl ((hr.ext hh.below).fP hy2) Kz ?_;refine mI ?_;refine aK (mB ?_);refine gS (gS (gS (gS (gS ?_))));refine e7 ?_;refine aa (cT (sr (aI (aa (ao (bD (aG (aG (bD (aG ?_))))))))));refine cq ?_;rw [if_pos (by rw [hbd]; exact List.any_eq_true.2 ⟨_, List.mem_of_getElem? hz, decide_eq_true (.inl hxy)⟩)];exact ⟨rfl, hh.below⟩
       ·by_cases hy7 : 127 < y
        ·refine sr ?_;refine aK (aa (ah (cT (ak (ai (ah (aj (sr (mI ?_)))))))));refine bf (k := i) aQ.out aF.size rfl rfl Ky Ky Kz ?_;refine aZ aF.out rfl (hh.cN (i := 0) rfl (by first | assumption | (simp only [Nat.mul_one]; assumption))) Kz ?_;refine aI (aI (aa (sr (mL (mI ?_)))));refine aD (k := i) aQ.out aF.size rfl rfl Ky Ky Kz ?_;refine aZ aF.out rfl ((hr.ext hh.below).fP hy2) Kz ?_;refine mI ?_;refine aK (mB (gT (mL (gT (mI (gT ?_))))));refine aD (k := i) aQ.out aF.size rfl rfl Ky Ky Kz ?_;refine aV rfl rfl ?_;refine aZ aF.out rfl ((hr.ext hh.below).fP hy2) Kz ?_;refine gT ?_;refine ct ?_;refine eX ?_;refine aa (cT (sr (aI (aa (ao (bD (aG (aG (bD (aG ?_))))))))));refine cq ?_;rw [if_pos (by rw [hbd]; exact List.any_eq_true.2 ⟨_, List.mem_of_getElem? hz, decide_eq_true (.inr hy7)⟩)];exact ⟨rfl, hh.below⟩
        ·refine sr ?_;refine aK (aa (ah (cT (ak (ai (ah (aj (sr (mI ?_)))))))));refine bf (k := i) aQ.out aF.size rfl rfl Ky Ky Kz ?_;refine aZ aF.out rfl (hh.cN (i := 0) rfl (by first | assumption | (simp only [Nat.mul_one]; assumption))) Kz ?_;refine aI (aI (aa (sr (mL (mI ?_)))));refine aD (k := i) aQ.out aF.size rfl rfl Ky Ky Kz ?_;refine aZ aF.out rfl ((hr.ext hh.below).fP hy2) Kz ?_;refine mI ?_;refine aK (mB (gT (mL (gT (mI (gT ?_))))));refine aD (k := i) aQ.out aF.size rfl rfl Ky Ky Kz ?_;refine aV rfl rfl ?_;refine aZ aF.out rfl ((hr.ext hh.below).fP hy2) Kz ?_;refine gT ?_;refine ct ?_;refine eX ?_;refine aa (cF (ak (aP (ai (aq ?_)))));refine bB (mI (aE (ai ?_)));refine ⟨⟨i + 1, Ky, rfl, by rw [aH hz, List.any_append, hall, List.any_cons, List.any_nil, decide_eq_false (fun h => h.elim hxy hy7)]; rfl, hh⟩, by show m - (i + 1) < m - i; omega, ?_⟩;exact KB
      ·rw [List.take_of_length_le Ky] at hall;rw [if_neg (by rw [hbd, hall]; decide)];have hcn := fun w1 hb => dE M m mc ds w1 (hD.ext hb) hm;refine sr ?_;refine aK (aa (ah (cF (aJ (az (az (aX (ai (ah (sr (mL ?_)))))))))));by_cases h9 : gB 1 ds = 0
       ·rw [if_pos h9];rw [h9] at hcn;refine bE hh (hcn _ hh.below) rfl ?_;intro w56 hh;refine dh (aa (cT (sr (aI (aa (ao (aG ?_)))))));refine cq ?_;exact ⟨rfl, hh.below⟩
       ·rw [if_neg h9];generalize gB 1 ds = N at *;refine bE hh (hcn _ hh.below) rfl ?_;intro w56 hh;refine dh (aa (cF (ak (ai (sr (aI (aa (ao ?_))))))));refine cq ?_;exact ⟨rfl, hh.below⟩
end Go.Proofs.YtaapkaefelhfcaaGreatDoor
/- The walk through poly.times. -/
namespace Go.Proofs.YtaapkaefelhfcaaGreatDoor
open Go.RowKit
theorem Ed {p q : List TR} (h : 65536 < p.length * q.length) : fI p q = 3 := by unfold fI; rw [if_pos h]
theorem Fh {p q : List TR} {e : Int} (h6 : ¬ 65536 < p.length * q.length) {a b : List Int} (h : tf p q = a ++ e :: b) (ha : ∀ x ∈ a, x = 0) (he : e ≠ 0) : fI p q = e := by
 unfold fI;rw [if_neg h6, h, List.find?_append, iF (List.any_eq_false.2 fun x hx => by simp [ha x hx]), List.find?_cons_of_pos (p := fun e : Int => decide (e ≠ 0)) (by simpa using he)]
 rfl
theorem CK {p q : List TR} (h6 : ¬ 65536 < p.length * q.length) (h : ∀ x ∈ tf p q, x = 0) : fI p q = gP (cQ p q) := by
 unfold fI gP;rw [if_neg h6, iF (List.any_eq_false.2 fun x hx => by simp [h x hx])]
theorem u3 (p q : PX) (k k2 : Nat) (w : World) (hT : eP w) (hp : p.at_ w) (hq : q.at_ w) (lp : p.iu k) (lq : q.iu k2) (hk : k + k2 ≤ 900000) :
  Calls Tryz.prog 108 #[.agg #[.int .i64 p.v, .slice p.A p.n p.c], .agg #[.int .i64 q.v, .slice q.A q.n q.c]] w fun r w' => ∃ g : PX, eD (fI p.ts q.ts) p.v (a6 (cQ p.ts q.ts)) g ∧ r = .returned (.tuple #[.agg #[.int .i64 g.v, .slice g.A g.n g.c], .int .i64 (fI p.ts q.ts)]) ∧ Hp w [g.row] w' := by
 have hh := Hp.start w;obtain ⟨pv, pA, pn, pc, ps⟩ := p;obtain ⟨qv, qA, qn, qc, qs⟩ := q;have hpl : ps.length = pn := hp.ln;have hql : qs.length = qn := hq.ln;have hpn : pn ≤ 1000000 := lp.n;have hqn : qn ≤ 1000000 := lq.n;have okp : jq k ps := lp.ok;have okq : jq k2 qs := lq.ok;have szp : ∀ t ∈ ps, t.m.size ≤ 100000 := lp.sz;have szq : ∀ t ∈ qs, t.m.size ≤ 100000 := lq.sz;replace hp : Sl w pA pn 4 (aY TR.cells ps) := hp;replace hq : Sl w qA qn 4 (aY TR.cells qs) := hq;clear lp lq;show Calls _ _ _ _ fun r w' => ∃ g : PX, eD (fI ps qs) pv (a6 (cQ ps qs)) g ∧ r = .returned (.tuple #[.agg #[.int .i64 g.v, .slice g.A g.n g.c], .int .i64 (fI ps qs)]) ∧ Hp w [g.row] w';have hmm : pn * qn ≤ 1000000 * 1000000 := Nat.mul_le_mul hpn hqn;obtain ⟨m, hm⟩ : ∃ m, m = pn * qn := ⟨_, rfl⟩;have hmi : (pn : Int) * (qn : Int) = (m : Int) := by rw [hm]; exact (Int.natCast_mul _ _).symm
 by_cases h6 : 65536 < m
 ·rw [Ed (by rw [hpl, hql, ← hm]; exact h6)];refine al (N := 67) (l := [.agg #[.int .i64 pv, .slice pA pn pc], .agg #[.int .i64 qv, .slice qA qn qc]]) Tryz.func108 rfl rfl (by simp) ?_;refine sr ?_;refine db hh [_,_] ?_;intro b2 w2 hh;refine db hh [_,_] ?_;intro b3 w3 hh;refine cB hh ?_;intro b4 w4 hh;refine aI (aa (ah (sr (bP ?_))));refine bR hh 2 ?_;refine aW (bP ?_);refine bR hh 1 ?_;refine aW ?_;refine mulC ?_;refine ct (aa (cT (sr ?_)));refine e9 [_,_] ?_;refine bK hh 0 [_,_] ?_;intro ws hh;replace hh : Hp _ (.blk _ _ [_, _] _ :: _) _ := hh;refine aI (aa (ao (aG ?_)));refine jG (aT rfl (aU (vs := [_, _]) aF.out (hh.aC (i := 0) (n := 2) rfl rfl) rfl) (cw (cM rfl) bq)) ?_;exact ⟨PX.nil, eD.err Kz, rfl, (hh.sub (List.nil_sublist _)).kj⟩
 ·have hbig : ¬ 65536 < ps.length * qs.length := by rw [hpl, hql, ← hm]; exact h6
  refine al (N := 67) (l := [.agg #[.int .i64 pv, .slice pA pn pc], .agg #[.int .i64 qv, .slice qA qn qc]]) Tryz.func108 rfl rfl (by simp) ?_;refine sr ?_;refine db hh [_,_] ?_;intro b2 w2 hh;refine db hh [_,_] ?_;intro b3 w3 hh;refine cB hh ?_;intro b4 w4 hh;refine aI (aa (ah (sr (bP ?_))));refine bR hh 2 ?_;refine aW (bP ?_);refine bR hh 1 ?_;refine aW ?_;refine mulC ?_;refine ct (aa (cF (ak (ai (sr (aL (aa (ah (sr (bP ?_))))))))));refine bR hh 2 ?_;refine aW (mI (aa (aj ?_)));replace hh := hh.ef 55 4;have hall : ∀ i, ((ps.take i).flatMap fun x => qs.map (rh x)).length ≤ 65536 := fun i => by
   have h1 : (cQ ps qs).length = ((ps.take i).flatMap fun x => qs.map (rh x)).length + ((ps.drop i).flatMap fun x => qs.map (rh x)).length := by
    unfold cQ;rw [← List.length_append, ← List.flatMap_append, List.take_append_drop]
   rw [me] at h1;omega
  refine cv [5, 6, 8, 10, 11, 12, 25, 26, 27, 28, 29, 30, 31, 32, 33, 34, 35, 36, 37, 38, 39, 40, 41, 42, 43, 44, 45, 46, 47, 48, 49, 50, 51, 52, 53, 54, 55, 56, 57, 58, 59, 60] 6 25
   (fun a x w' => ∃ (i : Nat) (M : List TR) (A' : Option Addr) (c' : Nat), i ≤ pn ∧ x = .int .i64 i ∧ a = .slice A' M.length c' ∧ M = ((ps.take i).flatMap fun x => qs.map (rh x)) ∧ (∀ e ∈ ((ps.take i).flatMap fun x => qs.map fun y => o5 x.m y.m), e = 0) ∧ Hp w [.row A' M.length c' 55 4 (aY TR.cells M), .blk b4 24 [.int .i64 0, .slice none 0 0] (0, 0), .blk b3 24 [.int .i64 qv, .slice qA qn qc] (0, 0), .blk b2 24 [.int .i64 pv, .slice pA pn pc] (0, 0)] w')
   (fun _ x _ => pn - (intOf x).toNat) ?_ ?_
  ·exact ⟨0, [], none, 0, Nat.zero_le _, rfl, rfl, rfl, fun e he => (nomatch he), hh⟩
  ·clear hh;rintro ρ' a_ x_ w' ⟨i, M, A', c', hi, rfl, rfl, hM, hz, hh⟩;have hMl := hall i;rw [← hM] at hMl;by_cases hlt : i < pn
   ·obtain ⟨x, hx⟩ := ay (l := ps) (k := i) Ky;obtain ⟨ad, rfl, hr⟩ := hp.at_ Ky;have hxm := List.mem_of_getElem? hx;have hxo := okp x hxm;have hxs := szp x hxm;refine sr ?_;refine aK (aa (ah (cT (ak (ai (ah (aj (sr ?_))))))));refine aD (k := i) aQ.out aF.size rfl rfl Ky Ky Kz ?_;refine bJ (vs := [_, _, _, _]) aF.out rfl ((hr.ext hh.below).recAt TR.len hx) rfl Kz ?_;refine cB hh ?_;intro b8 w8 hh;refine bK hh 0 [_,_,_,_] ?_;intro ws hh;replace hh : Hp _ (.blk _ _ [_, _, _, _] _ :: _) _ := hh;refine aa (sr (bP ?_));refine bR hh 3 ?_;refine aW (mI (aa (aj ?_)));replace hh := hh.perm (List.perm_middle (l₁ := [_]));simp only [List.cons_append, List.nil_append] at hh;refine cv [5, 6, 10, 11, 12, 32, 33, 34, 35, 36, 37, 38, 39, 40, 41, 42, 43, 44, 45, 46, 47, 48, 49, 50, 51, 52, 53, 54, 55, 56, 57, 58, 59] 6 32
     (fun a z w' => ∃ (j : Nat) (N : List TR) (A' : Option Addr) (c' : Nat), j ≤ qn ∧ z = .int .i64 j ∧ a = .slice A' N.length c' ∧ N = M ++ (qs.take j).map (rh x) ∧ (∀ e ∈ (qs.take j).map (fun y => o5 x.m y.m), e = 0) ∧ Hp w [.row A' N.length c' 55 4 (aY TR.cells N), .blk b8 55 [.string x.m, .bool x.c.neg, .string x.c.cA, .int .i64 x.c.e] (0, 0), .blk b4 24 [.int .i64 0, .slice none 0 0] (0, 0), .blk b3 24 [.int .i64 qv, .slice qA qn qc] (0, 0), .blk b2 24 [.int .i64 pv, .slice (some ad) pn pc] (0, 0)] w')
     (fun _ z _ => qn - (intOf z).toNat) ?_ ?_
    ·refine ⟨0, M, A', c', Nat.zero_le _, rfl, rfl, by simp, fun e he => (nomatch he), hh⟩
    ·clear hh;rintro ρ2 a2 x2 w2 ⟨j, N, A2, c2, hj, rfl, rfl, hN, hz2, hh⟩;by_cases hjn : j < qn
     ·obtain ⟨y, hy⟩ := ay (l := qs) (k := j) Ky;obtain ⟨ad2, rfl, hr2⟩ := hq.at_ Ky;have hym := List.mem_of_getElem? hy;have hyo := okq y hym;have hys := szq y hym;have hmul : ∀ w1, Calls Tryz.prog 198 #[.string x.m, .string y.m] w1 fun r w' => r = .returned (.tuple #[.string (mulM x.m y.m), .int .i64 (o5 x.m y.m)]) ∧ Below w1.heap.size w1 w' := fun w1 => Cj x.m y.m w1 hxs hys;have hdm := fun A cc w1 hT1 hS1 => jM A 2 cc [x.c, y.c] w1 hT1 hS1 (by simpa using ⟨hxo.1, hyo.1⟩) (k + k2) (by simpa using ⟨hxo.2.mono Ky, hyo.2.mono Ky⟩) Ky Kz;rw [show jL ([x.c, y.c].map NR.d) = x.c.d * y.c.d by show 1 * x.c.d * y.c.d = _; rw [Dyadic.one_mul]] at hdm;obtain ⟨R, hR⟩ := zj (f := fun x y => o5 x.m y.m) hx hy;have hzz : ∀ e ∈ ((ps.take i).flatMap fun x => qs.map fun y => o5 x.m y.m) ++ (qs.take j).map (fun y => o5 x.m y.m), e = 0 := fun e he => by
       rcases List.mem_append.1 he with he | he
       ·exact hz e he
       ·exact hz2 e he
      have hNl : N.length < 65536 := by
       have h1 := hall (i + 1);rw [oR hx, List.length_append, ← hM] at h1;rw [hN, List.length_append];simp at h1 ⊢;omega
      by_cases he : o5 x.m y.m = 0
      ·refine sr ?_;refine aK (aa (ah (cT (ak (ai (ah (aj (sr ?_))))))));refine aD (k := j) aQ.out aF.size rfl rfl Ky Ky Kz ?_;refine bJ (vs := [_, _, _, _]) aF.out rfl ((hr2.ext hh.below).recAt TR.len hy) rfl Kz ?_;refine cB hh ?_;intro b10 w10 hh;refine bK hh 0 [_,_,_,_] ?_;intro ws hh;replace hh : Hp _ (.blk _ _ [_, _, _, _] _ :: _) _ := hh;refine aa (sr (bP ?_));refine bR hh 2 ?_;refine bP ?_;refine bR hh 0 ?_;refine bE hh (hmul _) rfl ?_;intro w41 hh;refine mT ?_;refine dI ?_;refine dI ?_;refine aS (aI (aa (ah (sr (mI ?_)))));refine cL (aa (cF (ak (ai (aq (mL (mS (bP ?_))))))));refine cR hh 2 [_,_,_] (bP ?_);refine cR hh 0 [_,_,_] ?_;refine aO hh (cs := [_, _, _, _, _, _]) aQ.out aF.out (aR (cJ rfl) (aR (cJ rfl) bI)) rfl rfl Kz Kz Kz rfl Kz ?_;intro b54 w54 hh;refine bE hh (hdm _ _ _ (hT.hp hh) (hh.aM (i := 0) rfl)) rfl ?_;intro w55 hh;refine e9 [_,_,_,_] ?_;refine aO hh (cs := [_, _, _, _]) aQ.out aF.out (aR (cJ rfl) bI) rfl rfl Kz Kz Kz rfl Kz ?_;intro b57 w57 hh;refine cz hh (i := 3) rfl rfl rfl (hh.aM (i := 0) rfl) aQ.out aF.out rfl Kz (by first | rfl | exact cD _ | exact cm _ | exact bH _ | exact bO NR.one _) Ky Ky Kz ?_;intro A58 c58 w58 hh
       simp only [List.set_cons_zero, List.set_cons_succ] at hh;replace hh := hh.sub (List.sublist_cons_self _ _);refine aL (aE (aP (ai (aq ?_))));refine bB (mI (aE (ai ?_)));have e1 : aY TR.cells N ++ [.string (mulM x.m y.m), .bool (nR (x.c.d * y.c.d)).neg, .string (nR (x.c.d * y.c.d)).cA, .int .i64 (nR (x.c.d * y.c.d)).e] = aY TR.cells (N ++ [rh x y]) := by rw [cK, qK]; rfl
       replace hh := show Hp w (_ :: _ :: .row A58 (N.length + 1) c58 55 4 (aY TR.cells N ++ [.string (mulM x.m y.m), .bool (nR (x.c.d * y.c.d)).neg, .string (nR (x.c.d * y.c.d)).cA, .int .i64 (nR (x.c.d * y.c.d)).e]) :: _) w58 from hh;rw [e1] at hh;replace hh := hh.sub (List.Sublist.cons _ (List.Sublist.cons _ (List.Sublist.cons_cons _ (List.Sublist.cons_cons _ (List.Sublist.cons_cons _ (List.Sublist.cons_cons _ (List.Sublist.cons_cons _ List.Sublist.slnil)))))));refine ⟨⟨j + 1, N ++ [rh x y], _, _, Ky, rfl, by rw [List.length_append]; rfl, by rw [hN, aH hy, List.map_append, List.append_assoc]; rfl, fun e h => ?_, ?_⟩, by show qn - (j + 1) < qn - j; omega, ?_⟩
       ·rw [aH hy, List.map_append, List.mem_append] at h
        rcases h with h | h
        ·exact hz2 e h
        ·rw [List.mem_singleton.1 h]; exact he
       ·rw [List.length_append]; exact hh
       ·exact KB
      ·rw [Fh hbig hR hzz he];generalize o5 x.m y.m = e at *;refine sr ?_;refine aK (aa (ah (cT (ak (ai (ah (aj (sr ?_))))))));refine aD (k := j) aQ.out aF.size rfl rfl Ky Ky Kz ?_;refine bJ (vs := [_, _, _, _]) aF.out rfl ((hr2.ext hh.below).recAt TR.len hy) rfl Kz ?_;refine cB hh ?_;intro b10 w10 hh;refine bK hh 0 [_,_,_,_] ?_;intro ws hh;replace hh : Hp _ (.blk _ _ [_, _, _, _] _ :: _) _ := hh;refine aa (sr (bP ?_));refine bR hh 2 ?_;refine bP ?_;refine bR hh 0 ?_;refine bE hh (hmul _) rfl ?_;intro w41 hh;refine mT ?_;refine dI ?_;refine dI ?_;refine aS (aI (aa (ah (sr (mI ?_)))));refine cL (aa (cT (sr ?_)));refine e9 [_,_] (mI ?_);refine bK hh 3 [_,_] ?_;intro ws hh;replace hh : Hp _ (_ :: _ :: _ :: .blk _ _ [_, _] _ :: _) _ := hh;refine aI (aa (ao (aG (bD (aG (aG (bD (bD (aG (aG (bD (aG ?_))))))))))));refine jG (aT rfl (aU (vs := [_, _]) aF.out (hh.aC (i := 3) (n := 2) rfl rfl) rfl) (cw (cM rfl) bq)) ?_;exact ⟨PX.nil, eD.err he, rfl, (hh.sub (List.nil_sublist _)).kj⟩
     ·obtain rfl : j = qn := Ky;rw [List.take_of_length_le Ky] at hz2 hN;refine sr ?_;refine aK (aa (ah (cF (aJ (az (az (aX (aP (ai (aq ?_))))))))));refine bB (mI (aE (ai ?_)));replace hh := hh.sub (List.Sublist.cons_cons _ (List.Sublist.cons _ (List.Sublist.cons_cons _ (List.Sublist.cons_cons _ (List.Sublist.cons_cons _ List.Sublist.slnil)))));refine ⟨⟨i + 1, N, A2, c2, Ky, rfl, rfl, by rw [oR hx, ← hM, List.take_of_length_le Ky]; exact hN, fun e h => ?_, hh⟩, by show pn - (i + 1) < pn - i; omega, ?_⟩
      ·rw [oR (f := fun (x y : TR) => o5 x.m y.m) hx, List.mem_append, List.take_length] at h
       rcases h with h | h
       ·exact hz e h
       ·exact hz2 e h
      ·exact KB
   ·obtain rfl : i = pn := Ky;rw [List.take_of_length_le Ky] at hz hM;have hMp : M = cQ ps qs := hM;rw [CK hbig hz, ← hMp];have hpo := nB okp okq Ky;rw [← hMp] at hpo;refine sr ?_;refine aK (aa (ah (cF (aJ (az (az (aX (ai (sr (bP ?_))))))))));refine bR hh 3 ?_;refine mL ?_;refine aN (jX pv A' M.length c' M (k + k2) _ hT hh rfl Ky Ky hpo) aw.out rfl Kz ?_;rintro e_ w64 ⟨g, og, rfl, hh⟩;refine ⟨_, rfl, ?_⟩;refine dI ?_;refine dI ?_;refine bK hh 1 [_,_] ?_;intro ws hh;replace hh : Hp _ (_ :: .blk _ _ [_, _] _ :: _) _ := hh;refine aI (aa (ao ?_));refine jG (aT rfl (aU (vs := [_, _]) aF.out (hh.aC (i := 1) (n := 2) rfl rfl) rfl) (cw (cM rfl) bq)) ?_;exact ⟨g, og, rfl, hh.sub (List.Sublist.cons_cons _ (List.nil_sublist _))⟩
end Go.Proofs.YtaapkaefelhfcaaGreatDoor
/- The walk through poly.Mul. -/
namespace Go.Proofs.YtaapkaefelhfcaaGreatDoor
open Go.RowKit
def kH (base : Nat) (E v : Int) (ts : List TR) : VP := fun x W => ∃ (g : PX) (w1 : World), x = .agg #[.int .i64 g.v, .slice g.A g.n g.c] ∧ eD E v ts g ∧ base ≤ w1.heap.size ∧ Hp w1 [g.row] W
theorem kH.ext {base : Nat} {E v : Int} {ts : List TR} (x : Value) (w w' : World) (h : kH base E v ts x w) (hb : Below w.heap.size w w') : kH base E v ts x w' := let ⟨g, w1, h1, h2, h3, h4⟩ := h; ⟨g, w1, h1, h2, h3, h4.ext hb⟩
def lK (base : Nat) (E v : Int) (ts : List TR) : VP := fun x W => ∃ (g : PX) (w1 : World), x = .tuple #[.agg #[.int .i64 g.v, .slice g.A g.n g.c], .int .i64 E] ∧ eD E v ts g ∧ base ≤ w1.heap.size ∧ Hp w1 [g.row] W
theorem lK.ext {base : Nat} {E v : Int} {ts : List TR} (x : Value) (w w' : World) (h : lK base E v ts x w) (hb : Below w.heap.size w w') : lK base E v ts x w' := let ⟨g, w1, h1, h2, h3, h4⟩ := h; ⟨g, w1, h1, h2, h3, h4.ext hb⟩
def vN (base : Nat) (v : Int) (ts : List TR) : VP := fun x W => ∃ (g : PX) (w1 : World), x = .slice g.A g.n g.c ∧ eD 0 v ts g ∧ base ≤ w1.heap.size ∧ Hp w1 [g.row] W
theorem vN.ext {base : Nat} {v : Int} {ts : List TR} (x : Value) (w w' : World) (h : vN base v ts x w) (hb : Below w.heap.size w w') : vN base v ts x w' := let ⟨g, w1, h1, h2, h3, h4⟩ := h; ⟨g, w1, h1, h2, h3, h4.ext hb⟩
theorem PX.ne {g : PX} {w1 W : World} {b : Nat} {t : TypeId} {cs : Array Value} {fz : Nat × Nat} (h : Hp w1 [g.row] W) (h3 : W.heap[b]? = some (.cells cs t fz)) (h1 : 55 ≠ t) : ∀ x ∈ [g.row], x.id ≠ some b := fun x hx => by
 have hx2 := h.own x hx;obtain rfl := List.mem_singleton.1 hx;exact Hs hx2 h3 h1
def je (a : List TR × Int) (g : PX) : List TR × Int := if a.2 = 0 then (a6 (cQ a.1 g.ts), fI a.1 g.ts) else a
def Iu (ps : List PX) : List TR × Int := match ps with | [] => ([], 0) | g :: l => l.foldl je (g.ts, 0)
def z8 (ps : List PX) : Int := if gl ps = 0 then (Iu ps).2 else gl ps
theorem vI {a : List TR × Int} (h : a.2 ≠ 0) : ∀ l : List PX, l.foldl je a = a
 | [] => rfl
 | g :: l => by
  rw [List.foldl_cons, show je a g = a by unfold je; rw [if_neg h]];exact vI h l
theorem BK {l : List PX} {a : List TR × Int} {i : Nat} {g : PX} (hx : l[i]? = some g) (h0 : ((l.take i).foldl je a).2 = 0) (h : fI ((l.take i).foldl je a).1 g.ts ≠ 0) : (l.foldl je a).2 = fI ((l.take i).foldl je a).1 g.ts := by
 have e : l = l.take i ++ g :: l.drop (i + 1) := by rw [← fN hx, List.take_append_drop]
 have e2 : l.foldl je a = (l.drop (i + 1)).foldl je (je ((l.take i).foldl je a) g) := by
  conv => lhs; rw [e]
  rw [List.foldl_append, List.foldl_cons]
 rw [e2];have e3 : je ((l.take i).foldl je a) g = (a6 (cQ ((l.take i).foldl je a).1 g.ts), fI ((l.take i).foldl je a).1 g.ts) := if_pos h0;rw [e3, vI h]
theorem BM {l : List PX} {a : List TR × Int} {i : Nat} {g : PX} (hx : l[i]? = some g) (h0 : ((l.take i).foldl je a).2 = 0) : (l.take (i + 1)).foldl je a = (a6 (cQ ((l.take i).foldl je a).1 g.ts), fI ((l.take i).foldl je a).1 g.ts) := by
 rw [aH hx, List.foldl_append, List.foldl_cons, List.foldl_nil];exact if_pos h0
theorem Au {p q : List TR} {k j : Nat} (hp : jq k p) (hq : jq j q) (sq : ∀ t ∈ q, t.m.size ≤ 100000) (h : fI p q = 0) (hk : k + j ≤ 900000) : jq (k + j + 65536) (a6 (cQ p q)) ∧ ∀ t ∈ a6 (cQ p q), t.m.size ≤ 100000 := by
 obtain ⟨h6, _, h4⟩ := kG h;have ho := nB hp hq Ky;have hz := l3 fun t ht => (ho t ht).2;rw [me] at hz;refine ⟨fun t ht => ?_, fun t ht => ?_⟩
 ·have : Sz (k + j + 65536) t.c.d := (hz t ht).mono Ky;refine ⟨?_, this⟩;rw [(fm _).nf t ht];exact this.ok Ky
 ·obtain ⟨s, hs, e⟩ := jQ t ht;obtain ⟨x, hx, hs⟩ := List.mem_flatMap.1 hs;obtain ⟨y, hy, rfl⟩ := List.mem_map.1 hs;rw [← e];exact Nat.le_trans (Ca _ _) (sq y hy)
theorem xm (L : Option Addr) (n c : Nat) (ps : List PX) (k s : Nat) (w : World) (hT : eP w) (hL : Sl w L n 2 (aY PX.cells ps)) (hcn : n ≤ c) (hn : n ≤ 8) (hf : ∀ g ∈ ps, g.at_ w) (hl : ∀ g ∈ ps, g.iu k) (hs : k + 65536 ≤ s) (hk : k + k + (n - 2) * s ≤ 900000) :
  Calls Tryz.prog 31 #[.slice L n c] w fun r w' => ∃ g : PX, eD (z8 ps) (fT ps) (Iu ps).1 g ∧ r = .returned (.tuple #[.agg #[.int .i64 g.v, .slice g.A g.n g.c], .int .i64 (z8 ps)]) ∧ Hp w [g.row] w' := by
 have hh := Hp.start w;have hln := hL.bM PX.len Kz;have hlk := fun w1 hT1 hb => px L n c ps k w1 hT1 (hL.ext hb) Ky (fun g hg => (hf g hg).ext hb) hl;unfold z8;by_cases h0 : gl ps = 0
 ·rw [if_pos h0];rw [h0] at hlk;obtain ⟨hne, jv, hvv⟩ := uj h0;obtain ⟨g0, pt, rfl⟩ := List.exists_cons_of_ne_nil hne;rw [ll (g := g0) rfl];have hnp : pt.length + 1 = n := hln;obtain ⟨ad, rfl, hr⟩ := hL.at_ Ky;have hm0 : g0 ∈ g0 :: pt := List.mem_cons_self;have hg0 := hl g0 hm0;have h00 : (g0 :: pt)[0]? = some g0 := rfl;show Calls _ _ _ _ fun r w' => ∃ g : PX, eD (pt.foldl je (g0.ts, 0)).2 g0.v (pt.foldl je (g0.ts, 0)).1 g ∧ r = .returned (.tuple #[.agg #[.int .i64 g.v, .slice g.A g.n g.c], .int .i64 (pt.foldl je (g0.ts, 0)).2]) ∧ Hp w [g.row] w';refine al (N := 46) (l := [.slice (some ad) n c]) Tryz.func31 rfl rfl (by simp) ?_;refine sr ?_;refine cB hh ?_;intro b2 w2 hh;refine aI (aa (ah (sr (mL ?_))));refine bE hh (hlk _ (hT.hp hh) hh.below) rfl ?_;intro w11 hh;refine aI (aa (sr (mI ?_)));refine cL (aa (cF (ak (ai (ah ?_)))));refine a8 11 [[(0, none)], [(16, some 0)], [(17, some 1)], [(18, some 2)], [(0, none)], [(20, some 4)], [(21, some 5)], [(22, some 6)], [(23, some 7)], [(19, some 3), (24, some 8)], []] [(10, 5), (9, 25), (8, 24), (7, 23), (6, 22), (5, 21), (4, 20), (3, 19), (2, 18), (1, 17), (0, 16)] hh mixed KA ?_;refine jt ?_;refine mH (0) ?_;refine GJ ?_
  refine nV (fun _ hj => cO hj.hp.below ((hr.recAt PX.len h00) 0 _ rfl)) ?_;refine jt ?_;refine mH (0) ?_;refine GJ ?_;refine nV (fun _ hj => cO hj.hp.below ((hr.recAt PX.len h00) 1 _ rfl)) ?_;refine cH (i := 8) (vN w11.heap.size g0.v g0.ts) (vN.ext) ?_ ?_
  ·intro ρ1 w1 hj hR;exact du rfl (bX aw.out (a7 (show ρ1 23 = Value.slice _ _ _ from hR.1) bQ)) (kF g0.A g0.n g0.c g0.ts w1 ((hf g0 hm0).ext hj.hp.below) hg0.n) (fun _ _ ⟨A, c, hq, ho, hb⟩ => ⟨_, hq, hb, ⟨g0.v, A, g0.n, c, g0.ts⟩, w1, rfl, ⟨rfl, rfl⟩, hj.bl.size, (Hp.start w1).bz (x := .row _ _ _ _ _ _) hb ho⟩)
  refine cH (i := 9) (kH w11.heap.size 0 g0.v g0.ts) (kH.ext) ?_ ?_
  ·intro ρ1 w1 hj hR;exact let ⟨g, u, e, o, q, h⟩ := hR.2.1; iq rfl (vf (cs := [_, _]) aF.out kr.out (aR (show ρ1 19 = Value.int _ _ from hR.1) (aR e bI)) rfl) ⟨Below.refl _ _, g, u, by rw [show g.v = g0.v from o.v], o, q, h⟩
  refine cH (i := 10) (eJ _ 24 _) eJ.ext (fun ρ1 w1 hj hR => kA aF.out hj.bl (fun v w2 h hb => ⟨hb, h⟩)) ?_;refine bA ?_;intro f W hJ hV;have hb_4 := hJ.bl;obtain ⟨v5, v25, v24, v23, v22, v21, v20, v19, v18, v17, v16, _⟩ := hV;obtain ⟨g24, u24, e24, -⟩ := v24;obtain ⟨g25, u25, e25, o25, q25, h25⟩ := v25;obtain ⟨b5, e5, hl5, hc5⟩ : eJ _ _ _ (f 10) W := v5;replace hh := hJ.tP hh hl5 hc5 q25 h25 (PX.ne h25 hc5 Kz);refine bj (bC (ae e5 (ae e25 (ae e24 (ae v23 (ae v22 (ae v21 (ae v20 (ae v19 (ae v18 (ae v17 (ae v16 bh)))))))))))) ?_;dsimp only [cP];clear e24 e25 e5 hJ;simp only [List.cons_append, List.nil_append] at hh;obtain ⟨gv, gA, gn, gc, gts⟩ := g25;obtain rfl : g0.v = gv := o25.v.symm;obtain rfl : g0.ts = gts := o25.ts.symm;replace hh := show Hp w (_ :: .row gA gn gc 55 4 (aY TR.cells g0.ts) :: _) W from hh;have hgn : g0.ts.length = gn := (hh.aM (i := 1) rfl).bM TR.len Kz;have hgc : gn ≤ gc := hh.iw (i := 1) rfl;refine bK hh 0 [_,_] ?_;intro ws hh;replace hh : Hp _ (.blk _ _ [_, _] _ :: _) _ := hh;refine aa (ah (sr (mL ?_)));refine bp rfl rfl Kz (iS aQ.out aF.size rfl rfl (l := 1) rfl Ky Ky) ?_;refine aW (mI (aa (aj ?_)));replace hh := hh.perm (List.perm_middle (l₁ := [_]))
  simp only [List.cons_append, List.nil_append] at hh;refine bm [3, 7, 8, 9, 29, 30, 31, 32, 33, 34, 35, 36, 37, 38, 39, 40, 41, 42, 43, 44] 29
   (fun v w' => ∃ (i : Nat) (g : PX), i ≤ n - 1 ∧ v = .int .i64 i ∧ ((pt.take i).foldl je (g0.ts, 0)).2 = 0 ∧ g.v = g0.v ∧ g.ts = ((pt.take i).foldl je (g0.ts, 0)).1 ∧ g.iu (k + i * s) ∧ Hp w [.row g.A g.n g.c 55 4 (aY TR.cells g.ts), .blk b5 24 [.int .i64 g.v, .slice g.A g.n g.c] (0, 0), .blk b2 24 [.int .i64 0, .slice none 0 0] (0, 0)] w')
   (fun v _ => n - 1 - (intOf v).toNat) ?_ ?_
  ·exact ⟨0, ⟨g0.v, gA, gn, gc, g0.ts⟩, Nat.zero_le _, rfl, rfl, rfl, rfl, ⟨by show gn ≤ 1000000; have := hg0.n; have h9 := (hf g0 hm0).ln; omega, hgc, hg0.ok.mono (by rw [Nat.zero_mul]; omega), hg0.sz⟩, hh⟩
  ·clear hh;rintro ρ' v w' ⟨i, g, hi, rfl, hz, hgv, hts, hgl, hh⟩;by_cases hlt : i < n - 1
   ·obtain ⟨f, hx⟩ := ay (l := pt) (k := i) Ky;have hmem : f ∈ g0 :: pt := List.mem_cons_of_mem _ (List.mem_of_getElem? hx);have his : i * s ≤ (n - 2) * s := Nat.mul_le_mul_right _ Ky;have his1 := Nat.succ_mul i s;have hbk : Sl w (if c = 1 then some ad else (some ad : Option Addr).map (·.add (1 * 2))) (n - 1) 2 (aY PX.cells pt) := hL.back Ky hcn;obtain ⟨ab, hAb, sb⟩ := hbk.at_ Ky;have jv : Value.slice (if c = 1 then some ad else (some ad : Option Addr).map (·.add (1 * 2))) (n - 1) (c - 1) = .slice (some ab) (n - 1) (c - 1) := by rw [hAb]
    have hfl := hl f hmem;have hnx := BM (a := (g0.ts, 0)) hx hz;have hsp := BK (a := (g0.ts, 0)) hx hz;rw [← hts] at hnx hsp;refine sr ?_;refine aK (aa (ah (cT (ak (ai (ah (aj (sr ?_))))))));refine aD (k := i) aQ.out aF.size jv rfl Ky Ky Kz ?_;refine bJ (vs := [_, _]) aF.out rfl (show Rd _ _ [.int .i64 f.v, .slice f.A f.n f.c] from (sb.ext hh.below).recAt PX.len hx) rfl Kz ?_;refine cB hh ?_;intro b7 w7 hh;refine bK hh 0 [_,_] ?_;intro ws hh;replace hh : Hp _ (.blk _ _ [_, _] _ :: _) _ := hh;refine aa (sr ?_);refine cR hh 2 [_,_] ?_;refine cR hh 0 [_,_] ?_;refine aN (u3 g f (k + i * s) k _ (hT.hp hh) (hh.aM (i := 1) rfl) ((hf f hmem).ext hh.below) hgl hfl Ky) aw.out rfl Kz ?_;rintro e_ w36 ⟨h, oh, rfl, h3⟩;refine ⟨_, rfl, ?_⟩;replace hh := hh.join h3;simp only [List.cons_append, List.nil_append] at hh;by_cases he : fI g.ts f.ts = 0
    ·obtain ⟨hv, hA, hn2, hc2, hts2⟩ := h;rw [he] at oh;obtain rfl : g.v = hv := oh.v.symm;obtain rfl : a6 (cQ g.ts f.ts) = hts2 := oh.ts.symm;replace hh := show Hp w (.row hA hn2 hc2 55 4 (aY TR.cells (a6 (cQ g.ts f.ts))) :: _) w36 from hh;have hhn : (a6 (cQ g.ts f.ts)).length = hn2 := (hh.aM (i := 0) rfl).bM TR.len Kz;have hhc : hn2 ≤ hc2 := hh.iw (i := 0) rfl;have h4 := (kG he).2.2;have htl := Au hgl.ok hfl.ok hfl.sz he Ky;refine mT ?_;refine dI ?_;refine dI ?_;refine cB hh ?_;intro b8 w8 hh;refine bK hh 0 [_,_] ?_;intro ws hh;replace hh : Hp _ (.blk _ _ [_, _] _ :: _) _ := hh;refine aI (aa (ah (sr (mI ?_))));refine cL (aa (cF (ak (ai (aq ?_)))));refine cR hh 0 [_,_] ?_;refine bK hh 4 [_,_] ?_;intro ws hh;replace hh : Hp _ (_ :: _ :: _ :: _ :: .blk _ _ [_, _] _ :: _) _ := hh;refine aE (aP (ai (aq ?_)));refine bB (mI (aE (ai ?_)));replace hh := hh.sub (List.Sublist.cons _ (List.Sublist.cons_cons _ (List.Sublist.cons _ (List.Sublist.cons _ (List.Sublist.cons_cons _ (List.Sublist.cons_cons _ List.Sublist.slnil))))))
     refine ⟨⟨i + 1, ⟨g.v, hA, hn2, hc2, a6 (cQ g.ts f.ts)⟩, Ky, rfl, by rw [hnx]; exact he, hgv, by rw [hnx], ⟨by show hn2 ≤ 1000000; omega, hhc, htl.1.mono (by rw [Nat.succ_mul]; omega), htl.2⟩, hh⟩, by show n - 1 - (i + 1) < n - 1 - i; omega, ?_⟩;exact KB
    ·rw [hsp he];refine mT ?_;refine dI ?_;refine dI ?_;refine cB hh ?_;intro b8 w8 hh;refine bK hh 0 [_,_] ?_;intro ws hh;replace hh : Hp _ (.blk _ _ [_, _] _ :: _) _ := hh;refine aI (aa (ah (sr (mI ?_))));refine cL (aa (cT (sr ?_)));refine e9 [_,_] (mI ?_);refine bK hh 5 [_,_] ?_;intro ws hh;replace hh : Hp _ (_ :: _ :: _ :: _ :: _ :: .blk _ _ [_, _] _ :: _) _ := hh;refine aI (aa (ao (aG (bD (aG (aG (bD (aG ?_))))))));refine jG (aT rfl (aU (vs := [_, _]) aF.out (hh.aC (i := 5) (n := 2) rfl rfl) rfl) (cw (cM rfl) bq)) ?_;exact ⟨PX.nil, eD.err he, rfl, (hh.sub (List.nil_sublist _)).kj⟩
   ·obtain rfl : i = n - 1 := Ky;rw [List.take_of_length_le Ky] at hz hts;refine sr ?_;refine aK (aa (ah (cF (aJ (az (az (aX (ai (sr ?_)))))))));refine cR hh 1 [_,_] ?_;refine bK hh 2 [_,_] ?_;intro ws hh;replace hh : Hp _ (_ :: _ :: .blk _ _ [_, _] _ :: _) _ := hh;refine aI (aa (ao ?_));refine jG (aT rfl (aU (vs := [_, _]) aF.out (hh.aC (i := 2) (n := 2) rfl rfl) rfl) (cw (cM rfl) bq)) ?_;rw [hz];exact ⟨g, ⟨hgv, hts⟩, rfl, hh.sub (List.Sublist.cons_cons _ (List.nil_sublist _))⟩
 ·rw [if_neg h0];generalize gl ps = e at *;refine al (N := 46) (l := [.slice L n c]) Tryz.func31 rfl rfl (by simp) ?_;refine sr ?_;refine cB hh ?_;intro b2 w2 hh;refine aI (aa (ah (sr (mL ?_))));refine bE hh (hlk _ (hT.hp hh) hh.below) rfl ?_;intro w11 hh;refine aI (aa (sr (mI ?_)));refine cL (aa (cT (sr ?_)));refine e9 [_,_] (mI ?_);refine bK hh 0 [_,_] ?_;intro ws hh;replace hh : Hp _ (.blk _ _ [_, _] _ :: _) _ := hh;refine aI (aa (ao (aG ?_)));refine jG (aT rfl (aU (vs := [_, _]) aF.out (hh.aC (i := 0) (n := 2) rfl rfl) rfl) (cw (cM rfl) bq)) ?_;exact ⟨PX.nil, eD.err h0, rfl, (hh.sub (List.nil_sublist _)).kj⟩
end Go.Proofs.YtaapkaefelhfcaaGreatDoor
/- The walk through ogeeref08.Check. -/
namespace Go.Proofs.YtaapkaefelhfcaaGreatDoor
open Go.RowKit
end Go.Proofs.YtaapkaefelhfcaaGreatDoor
/- The walks through ogeeref08.put and Gather. -/
namespace Go.Proofs.YtaapkaefelhfcaaGreatDoor
open Go.RowKit
end Go.Proofs.YtaapkaefelhfcaaGreatDoor
/- The walks through ogeeref08.Like and Times. -/
namespace Go.Proofs.YtaapkaefelhfcaaGreatDoor
open Go.RowKit
end Go.Proofs.YtaapkaefelhfcaaGreatDoor
/- The walks through poly.Const and poly.Var. -/
namespace Go.Proofs.YtaapkaefelhfcaaGreatDoor
open Go.RowKit
def fR (v : Int) : ByteArray := ⟨(List.replicate v.toNat 0).toArray⟩
theorem nc {v : Int} (h : 0 ≤ v) : ((fR v).size : Int) = v := by
 have : (fR v).size = v.toNat := by unfold fR; show (List.replicate v.toNat (0 : UInt8)).toArray.size = _; rw [List.size_toArray, List.length_replicate]
 omega
theorem tC (v : Int) : e8 (fR v).data.toList = true := by
 unfold e8 fR;rw [List.all_eq_true];intro c hc;have : (⟨(List.replicate v.toNat (0 : UInt8)).toArray⟩ : ByteArray).data.toList = List.replicate v.toNat 0 := rfl;rw [this] at hc;rw [(List.mem_replicate.1 hc).2];decide
theorem Dt {l : List TR} (h : l.length ≤ 4096) : gP l = 0 := by
 unfold gP;have := dD l;rw [if_neg Ky]
theorem wU {v : Int} {t : TR} (hf : iB v = true) (h : gH v t = true) : pU v [t] = 0 := by
 unfold pU;rw [if_neg (by rw [hf]; simp [h]), if_neg (by simp), Dt (by simp)]
def xc (v : Int) : Int := if iB v = false then 1 else 0
theorem kI (v : Int) (c : NR) (k : Nat) (w : World) (hT : eP w) (hc : c.ok ∧ Sz k c.d) (hk : k ≤ 2999980) :
  Calls Tryz.prog 63 #[.int .i64 v, .agg #[.bool c.neg, .string c.cA, .int .i64 c.e]] w fun r w' => ∃ g : PX, eD (xc v) v (a6 [⟨fR v, c⟩]) g ∧ r = .returned (.tuple #[.agg #[.int .i64 g.v, .slice g.A g.n g.c], .int .i64 (xc v)]) ∧ Hp w [g.row] w' := by
 have hh := Hp.start w;have hfw := fun w1 => md v w1
 cases hf : iB v with
 | false =>
  rw [hf] at hfw;rw [show xc v = 1 by unfold xc; rw [if_pos hf]];refine al (N := 20) (l := [.int .i64 v, .agg #[.bool c.neg, .string c.cA, .int .i64 c.e]]) Tryz.func63 rfl rfl (by simp) ?_;refine sr ?_;refine db hh [_,_,_] ?_;intro b3 w3 hh;refine cB hh ?_;intro b4 w4 hh;refine aI (aa (ah (sr (mI ?_))));refine bE hh (hfw _) rfl ?_;intro w7 hh;refine g9 ?_;refine aa (cT (sr ?_));refine e9 [_,_] ?_;refine bK hh 0 [_,_] ?_;intro ws hh;replace hh : Hp _ (.blk _ _ [_, _] _ :: _) _ := hh;refine aI (aa (ao (aG ?_)));refine jG (aT rfl (aU (vs := [_, _]) aF.out (hh.aC (i := 0) (n := 2) rfl rfl) rfl) (cw (cM rfl) bq)) ?_;exact ⟨PX.nil, eD.err Kz, rfl, (hh.sub (List.nil_sublist _)).kj⟩
 | true =>
  rw [hf] at hfw;obtain ⟨h0, h12⟩ := gI.1 hf;have hm : pU v [⟨fR v, c⟩] = 0 := wU hf (by unfold gH; rw [tC, decide_eq_true (nc h0)]; rfl);have hmk := fun A cc w1 hT1 hS1 => pC v A 1 cc [⟨fR v, c⟩] k w1 hT1 hS1 Kz Ky (fun t ht => by rw [List.mem_singleton.1 ht]; exact hc) (fun t ht => by rw [List.mem_singleton.1 ht]; have := nc h0; show (fR v).size ≤ _; omega);rw [hm] at hmk;rw [show xc v = 0 by unfold xc; rw [if_neg (by rw [hf]; decide)]];refine al (N := 20) (l := [.int .i64 v, .agg #[.bool c.neg, .string c.cA, .int .i64 c.e]]) Tryz.func63 rfl rfl (by simp) ?_;refine sr ?_;refine db hh [_,_,_] ?_;intro b3 w3 hh;refine cB hh ?_;intro b4 w4 hh;refine aI (aa (ah (sr (mI ?_))));refine bE hh (hfw _) rfl ?_;intro w7 hh;refine g9 ?_;refine aa (cF (ak (ai (ah ?_))));refine o0 [] [0, 0, 2, 6, 0, 30, 62, 127, 255, 255, 1023, 2047] 7 [[(0, none)], [(0, none)], [(11, some 1)], [(12, some 2)], [(3, none)], [(13, some 3), (14, some 4)], [(15, some 5)]] [(6, 16), (5, 15), (4, 14), (3, 13), (2, 12), (1, 11), (0, 10)] [([], 4, [(6, 16), (5, 15), (4, 14), (3, 13), (2, 12), (1, 11), (0, 10)])] hh mixed KA KA Kz ?_;refine fJ ?_;refine fJ ?_
  refine cH (i := 2) (ke v.toNat 1 (mR (List.replicate v.toNat 0))) (ke.ext) ?_ ?_
  ·intro ρ1 w1 hj hR;exact qU v.toNat ▸ Fs (n := v.toNat) (show ρ1 11 = Value.int _ _ from hR.1) (show ρ1 11 = Value.int _ _ from hR.1) Ky Ky aQ.out aF.out rfl Ky Ky (fun _ _ h1 h2 => ⟨h2, h1⟩)
  refine cH (i := 3) (Is (.string (fR v))) (Is.ext) ?_ ?_
  ·intro ρ1 w1 hj hR;exact let ⟨g, e, o⟩ := hR.1; iq rfl (lH (l := List.replicate v.toNat 0) aQ.out aQ.out aQ.out e o) ⟨Below.refl _ _, rfl⟩
  refine gY 1 [_,_,_] ?_;refine dB [_,_,_,_] ?_;refine xw [_,_,_,_] ?_;refine bA ?_;intro p_ hp_;simp only [List.mem_cons, List.not_mem_nil, or_false] at hp_
  rcases hp_ with rfl
  intro f W hJ hV;have hb_3 := hJ.bl;obtain ⟨v16, v15, v14, v13, v12, v11, v10, _⟩ := hV;simp only [lS];have e10 : f 0 = _ := v10;rw [e10];have e11 : f 1 = _ := v11;rw [e11];obtain ⟨g12, e12, o12⟩ : ke v.toNat 1 (mR (List.replicate v.toNat 0)) (f 2) W := v12;rw [e12];have e13 : f 3 = _ := v13;rw [e13];have e14 : f 4 = _ := v14;rw [e14];have e15 : f 5 = _ := v15;rw [e15];obtain ⟨A16, c16, e16, f16⟩ : Rows _ _ _ (f 6) W := v16;rw [e16];replace hh := hJ.hp;clear e10 e11 e12 e13 e14 e15 e16 hJ;refine aN (hmk _ _ _ (hT.hp hh) f16) aw.out rfl Kz ?_; rintro e_ w17 ⟨g, og, rfl, h3⟩; refine ⟨_, rfl, ?_⟩; replace hh := hh.join h3;refine dt ?_;simp only [List.cons_append, List.nil_append] at hh;refine dn (i := 8) (by repeat (first | exact cZ | refine cG ?_ | refine cY ?_ | refine np_scope ?_)) rfl KA KA KA (fun _ => eL (show _ = Value.tuple (List.toArray _) from rfl) rfl) Kz ?_;refine dn (i := 9) (by repeat (first | exact cZ | refine cG ?_ | refine cY ?_ | refine np_scope ?_)) rfl KA KA KA (fun _ => eL (show _ = Value.tuple (List.toArray _) from rfl) rfl) Kz ?_;refine eW 10 Kz KA Kz KA KA ?_;refine bK hh 1 [_,_] ?_;intro ws hh;replace hh : Hp _ (_ :: .blk _ _ [_, _] _ :: _) _ := hh
  refine aI (aa (ao ?_));refine jG (aT rfl (aU (vs := [_, _]) aF.out (hh.aC (i := 1) (n := 2) rfl rfl) rfl) (cw (cM rfl) bq)) ?_;exact ⟨g, og, rfl, hh.sub (List.Sublist.cons_cons _ (List.nil_sublist _))⟩
def mq (v : Int) (x : Nat) : ByteArray := ⟨((List.replicate v.toNat (0 : UInt8)).set x 1).toArray⟩
theorem oT {v : Int} {x : Nat} (h : 0 ≤ v) : ((mq v x).size : Int) = v := by
 have : (mq v x).size = v.toNat := by unfold mq; show ((List.replicate v.toNat (0 : UInt8)).set x 1).toArray.size = _; rw [List.size_toArray, List.length_set, List.length_replicate]
 omega
theorem we (v : Int) (x : Nat) : e8 (mq v x).data.toList = true := by
 unfold e8;rw [List.all_eq_true];intro c hc;have : (mq v x).data.toList = (List.replicate v.toNat 0).set x 1 := rfl;rw [this] at hc
 rcases List.mem_or_eq_of_mem_set hc with h | rfl
 ·rw [(List.mem_replicate.1 h).2]; decide
 ·decide
theorem Cq {l : List UInt8} {i : Nat} {c : UInt8} (h : i < l.length) : cI (mR l) (i * 1) [.int .u8 c.toNat] = mR (l.set i c) := by
 unfold cI mR;rw [Nat.mul_one, List.set_eq_take_append_cons_drop, if_pos h, List.map_append, List.map_cons, List.map_take, List.map_drop, List.append_assoc]
 rfl
def qG (v x : Int) : Int := if iB v = false ∨ x < 0 ∨ v ≤ x then 1 else 0
theorem yu (v x : Int) (w : World) (hT : eP w) :
  Calls Tryz.prog 145 #[.int .i64 v, .int .i64 x] w fun r w' => ∃ g : PX, eD (qG v x) v (a6 [⟨mq v x.toNat, nR ((1 : Int) : Dyadic)⟩]) g ∧ r = .returned (.tuple #[.agg #[.int .i64 g.v, .slice g.A g.n g.c], .int .i64 (qG v x)]) ∧ Hp w [g.row] w' := by
 have hh := Hp.start w;have hfw := fun w1 => md v w1
 cases hf : iB v with
 | false =>
  rw [hf] at hfw;rw [show qG v x = 1 by unfold qG; rw [if_pos (.inl hf)]];refine al (N := 34) (l := [.int .i64 v, .int .i64 x]) Tryz.func145 rfl rfl (by simp) ?_;refine sr ?_;refine cB hh ?_;intro b4 w4 hh;refine aI (aa (ah (sr (mI ?_))));refine bE hh (hfw _) rfl ?_;intro w8 hh;refine g9 ?_;refine mB ?_;refine gS (gS ?_);refine e7 ?_;refine mB ?_;refine gS (gS (gS ?_));refine e7 ?_;refine aa (cT (sr ?_));refine e9 [_,_] ?_;refine bK hh 0 [_,_] ?_;intro ws hh;replace hh : Hp _ (.blk _ _ [_, _] _ :: _) _ := hh;refine aI (aa (ao (aG ?_)));refine jG (aT rfl (aU (vs := [_, _]) aF.out (hh.aC (i := 0) (n := 2) rfl rfl) rfl) (cw (cM rfl) bq)) ?_;exact ⟨PX.nil, eD.err Kz, rfl, (hh.sub (List.nil_sublist _)).kj⟩
 | true =>
  rw [hf] at hfw;obtain ⟨h0, h12⟩ := gI.1 hf;by_cases hx0 : x < 0
  ·rw [show qG v x = 1 by unfold qG; rw [if_pos (.inr (.inl hx0))]];refine al (N := 34) (l := [.int .i64 v, .int .i64 x]) Tryz.func145 rfl rfl (by simp) ?_;refine sr ?_;refine cB hh ?_;intro b4 w4 hh;refine aI (aa (ah (sr (mI ?_))));refine bE hh (hfw _) rfl ?_;intro w8 hh;refine g9 ?_;refine mB (gT (mI (gT ?_)));refine aK ?_;refine eX ?_;refine mB ?_;refine gS (gS (gS ?_));refine e7 ?_;refine aa (cT (sr ?_));refine e9 [_,_] ?_;refine bK hh 0 [_,_] ?_;intro ws hh;replace hh : Hp _ (.blk _ _ [_, _] _ :: _) _ := hh;refine aI (aa (ao (aG ?_)));refine jG (aT rfl (aU (vs := [_, _]) aF.out (hh.aC (i := 0) (n := 2) rfl rfl) rfl) (cw (cM rfl) bq)) ?_;exact ⟨PX.nil, eD.err Kz, rfl, (hh.sub (List.nil_sublist _)).kj⟩
  ·by_cases hx1 : v ≤ x
   ·rw [show qG v x = 1 by unfold qG; rw [if_pos (.inr (.inr hx1))]];refine al (N := 34) (l := [.int .i64 v, .int .i64 x]) Tryz.func145 rfl rfl (by simp) ?_;refine sr ?_;refine cB hh ?_;intro b4 w4 hh;refine aI (aa (ah (sr (mI ?_))));refine bE hh (hfw _) rfl ?_;intro w8 hh;refine g9 ?_;refine mB (gT (mI (gT ?_)));refine aK ?_;refine eX ?_;refine mB (gT (mI (gT (mI (gT ?_)))));refine dv ?_;refine eX ?_;refine aa (cT (sr ?_));refine e9 [_,_] ?_;refine bK hh 0 [_,_] ?_;intro ws hh;replace hh : Hp _ (.blk _ _ [_, _] _ :: _) _ := hh;refine aI (aa (ao (aG ?_)));refine jG (aT rfl (aU (vs := [_, _]) aF.out (hh.aC (i := 0) (n := 2) rfl rfl) rfl) (cw (cM rfl) bq)) ?_;exact ⟨PX.nil, eD.err Kz, rfl, (hh.sub (List.nil_sublist _)).kj⟩
   ·rw [show qG v x = 0 by unfold qG; rw [if_neg (by rintro (h | h | h); exact absurd (hf.symm.trans h) Kz; omega; omega)]];have hm : pU v [⟨mq v x.toNat, nR ((1 : Int) : Dyadic)⟩] = 0 := wU hf (by unfold gH; rw [we, decide_eq_true (oT h0)]; rfl);have z1 : Sz 24 ((1 : Int) : Dyadic) := IA (m := 1) (e := 0) Kz Kz Kz;have hmk := fun A cc w1 hT1 hS1 => pC v A 1 cc [⟨mq v x.toNat, nR ((1 : Int) : Dyadic)⟩] 24 w1 hT1 hS1 Kz Ky (fun t ht => by rw [List.mem_singleton.1 ht]; exact ⟨z1.ok Kz, by show Sz 24 (nR _).d; rw [dK]; exact z1⟩) (fun t ht => by rw [List.mem_singleton.1 ht]; have := oT (x := x.toNat) h0; show (mq v x.toNat).size ≤ _; omega);rw [hm] at hmk;refine al (N := 34) (l := [.int .i64 v, .int .i64 x]) Tryz.func145 rfl rfl (by simp) ?_;refine sr ?_;refine cB hh ?_;intro b4 w4 hh;refine aI (aa (ah (sr (mI ?_))));refine bE hh (hfw _) rfl ?_;intro w8 hh;refine g9 ?_;refine mB (gT (mI (gT ?_)));refine aK ?_;refine eX ?_;refine mB (gT (mI (gT (mI (gT ?_)))));refine dv ?_;refine eX ?_;refine aa (cF (ak (ai (sr (mI ?_)))));refine eT (n := (v.toNat)) hh rfl rfl Ky Ky aQ.out aF.out rfl Ky Ky Kz ?_;intro b21 w21 hh;refine aL (aa (sr (mL (mI ?_))))
    refine bf (k := (x.toNat)) aQ.out aF.size rfl rfl Ky Ky Kz ?_;rw [qU] at hh;have hll : (mR (List.replicate v.toNat 0)).length = v.toNat := by simp [mR]
    refine bs hh (i := 0) (vs := [_]) rfl rfl (cd rfl) rfl aF.out rfl (by rw [hll]; omega) rfl ?_;intro ws hh;simp only [List.set_cons_zero] at hh;rw [show cI (mR (List.replicate v.toNat 0)) (x.toNat * 1) [.int .u8 1] = mR ((List.replicate v.toNat 0).set x.toNat 1) from Cq (l := List.replicate v.toNat 0) (i := x.toNat) (c := 1) (by rw [List.length_replicate]; omega)] at hh;refine aa (ah ?_);refine o0 [] [0, 0, 2, 0, 14, 30, 63, 127, 127, 511, 1023] 6 [[(0, none)], [(6, none)], [(26, some 1)], [], [(27, some 2), (28, some 3)], [(29, some 4)]] [(5, 30), (4, 29), (3, 28), (2, 27), (1, 26), (0, 25)] [([], 4, [(5, 30), (4, 29), (3, 28), (2, 27), (1, 26), (0, 25)])] hh mixed KA KA Kz ?_;refine fJ ?_;refine jt ?_;refine cH (i := 2) (Is (.string ⟨(((List.replicate v.toNat 0).set x.toNat 1)).toArray⟩)) Is.ext ?_ ?_
    ·intro ρ1 w1 hj hR;exact iq rfl (lH (l := ((List.replicate v.toNat 0).set x.toNat 1)) aQ.out aQ.out aQ.out (show ρ1 26 = Value.slice _ _ _ from hR.1) (hj.hp.aM (i := 0) rfl)) ⟨Below.refl _ _, rfl⟩
    refine dC (fun _ hj => jy 1 _ (hT.hp hj.hp) Kz Kz) ?_;refine dB [_,_,_,_] ?_;refine xw [_,_,_,_] ?_;refine bA ?_;intro p_ hp_;simp only [List.mem_cons, List.not_mem_nil, or_false] at hp_
    rcases hp_ with rfl
    intro f W hJ hV;have hb_5 := hJ.bl;obtain ⟨v30, v29, v28, v27, v26, v25, _⟩ := hV;simp only [lS];have e25 : f 0 = _ := v25;rw [e25];have e26 : f 1 = _ := v26;rw [e26];have e27 : f 2 = _ := v27;rw [e27];have e28 : f 3 = _ := v28;rw [e28];have e29 : f 4 = _ := v29;rw [e29];obtain ⟨A30, c30, e30, f30⟩ : Rows _ _ _ (f 5) W := v30;rw [e30];replace hh := hJ.hp;clear e25 e26 e27 e28 e29 e30 hJ;refine aN (hmk _ _ _ (hT.hp hh) f30) aw.out rfl Kz ?_; rintro e_ w31 ⟨g, og, rfl, h3⟩; refine ⟨_, rfl, ?_⟩; replace hh := hh.join h3;refine dt ?_;simp only [List.cons_append, List.nil_append] at hh;refine dn (i := 7) (by repeat (first | exact cZ | refine cG ?_ | refine cY ?_ | refine np_scope ?_)) rfl KA KA KA (fun _ => eL (show _ = Value.tuple (List.toArray _) from rfl) rfl) Kz ?_;refine dn (i := 8) (by repeat (first | exact cZ | refine cG ?_ | refine cY ?_ | refine np_scope ?_)) rfl KA KA KA (fun _ => eL (show _ = Value.tuple (List.toArray _) from rfl) rfl) Kz ?_;refine eW 9 Kz KA Kz KA KA ?_;refine bK hh 2 [_,_] ?_;intro ws hh;replace hh : Hp _ (_ :: _ :: .blk _ _ [_, _] _ :: _) _ := hh;refine aI (aa (ao ?_))
    refine jG (aT rfl (aU (vs := [_, _]) aF.out (hh.aC (i := 2) (n := 2) rfl rfl) rfl) (cw (cM rfl) bq)) ?_;exact ⟨g, og, rfl, hh.sub (List.Sublist.cons_cons _ (List.nil_sublist _))⟩
end Go.Proofs.YtaapkaefelhfcaaGreatDoor
/- The walks through ogeeref08.Make, Const, Var. -/
namespace Go.Proofs.YtaapkaefelhfcaaGreatDoor
open Go.RowKit
end Go.Proofs.YtaapkaefelhfcaaGreatDoor
/- The walk through poly.Pow. -/
namespace Go.Proofs.YtaapkaefelhfcaaGreatDoor
open Go.RowKit
def IW (p : PX) (n : Nat) : List TR × Int := (List.replicate n p).foldl je (a6 [⟨fR p.v, nR ((1 : Int) : Dyadic)⟩], 0)
def JG (p : PX) (n : Int) : Int := if p.e = 0 then (if n < 0 ∨ 127 < n then 1 else (IW p n.toNat).2) else p.e
end Go.Proofs.YtaapkaefelhfcaaGreatDoor
/- The walks through ogeeref08.Mul and Pow. -/
namespace Go.Proofs.YtaapkaefelhfcaaGreatDoor
open Go.RowKit
def JB (ps : List PX) (R : List HE) (g : PX) : Prop := (g ∈ ps ∧ R = []) ∨ R = [g.row]
end Go.Proofs.YtaapkaefelhfcaaGreatDoor
/- The walks through ogeeref08.Degs and Own. -/
namespace Go.Proofs.YtaapkaefelhfcaaGreatDoor
open Go.RowKit
end Go.Proofs.YtaapkaefelhfcaaGreatDoor
/- The walks through ogeeref08.Terms and Same. -/
namespace Go.Proofs.YtaapkaefelhfcaaGreatDoor
open Go.RowKit
section
variable {ρ : Rf} {w : World} {d : Option Nat} {ty u : TypeId} {pos : String} {af : Array Edge} {g : Option (Nat × Bool)} {x y : Operand} {s t : TR}
end
end Go.Proofs.YtaapkaefelhfcaaGreatDoor
/- The walks through ogeelaw08's own helpers. -/
namespace Go.Proofs.YtaapkaefelhfcaaGreatDoor
open Go.RowKit
def J9 (a : NR) : Bool := decide ((24 : Int) < a.cA.size ∨ a.e < -300 ∨ 300 < a.e)
structure Kw (ts : List TR) : Prop where
 n : ts.length ≤ 12
 ok : jq 492 ts
 sz : ∀ t ∈ ts, t.m.size ≤ 50
end Go.Proofs.YtaapkaefelhfcaaGreatDoor
/- Plain: what polynomials come to hangs on their variables and terms alone; how long it is. -/
namespace Go.Proofs.YtaapkaefelhfcaaGreatDoor
open Go.RowKit
def PX.norm (g : PX) : PX := ⟨g.v, none, 0, 0, g.ts⟩
theorem tG (ps : List PX) : gl (ps.map PX.norm) = gl ps := by
 have h1 : (ps.map PX.norm).find? (fun g => decide (g.e ≠ 0)) = (ps.find? fun g => decide (g.e ≠ 0)).map PX.norm := List.find?_map ..;have h2 : uL (ps.map PX.norm) = uL ps := by
  unfold uL;rw [List.any_map, List.map_map]
  rfl
 unfold gl;rw [h1, h2, List.length_map]
 cases ps.find? (fun g => decide (g.e ≠ 0)) <;> rfl
theorem qD (ps : List PX) : fT (ps.map PX.norm) = fT ps := by unfold fT; rw [List.map_map]; rfl
structure CB (ps os : List PX) (R : List HE) : Prop where
 eq : ∀ (j : Nat) (g o : PX), ps[j]? = some g → os[j]? = some o → o.v = g.v ∧ o.ts = g.ts ∧ o.n = g.n
 my : ∀ o ∈ os, o.row ∈ R ∧ o.n ≤ o.c
theorem CB.add {ps os : List PX} {R : List HE} {g o : PX} (h : CB ps os R) (hx : ps[os.length]? = some g) (he : o.v = g.v ∧ o.ts = g.ts ∧ o.n = g.n) (hc : o.n ≤ o.c) : CB ps (os ++ [o]) (o.row :: R) := by
 refine ⟨fun j g2 o2 h1 h2 => ?_, fun o2 h2 => ?_⟩
 ·by_cases hj : j < os.length
  ·rw [List.getElem?_append_left hj] at h2;exact h.eq j g2 o2 h1 h2
  ·by_cases hj2 : j = os.length
   ·subst hj2;rw [List.getElem?_append_right (Nat.le_refl _), Nat.sub_self] at h2;rw [hx] at h1
    cases h1; cases h2
    exact he
   ·rw [List.getElem?_eq_none (by rw [List.length_append]; simp; omega)] at h2
    cases h2
 ·rcases List.mem_append.1 h2 with h2 | h2
  ·exact ⟨List.mem_cons_of_mem _ (h.my o2 h2).1, (h.my o2 h2).2⟩
  ·rw [List.mem_singleton.1 h2];exact ⟨List.mem_cons_self, hc⟩
theorem CB.key {ps os : List PX} {R : List HE} (h : CB ps os R) (hl : os.length = ps.length) : os.map PX.norm = ps.map PX.norm := by
 apply List.ext_getElem?;intro j;rw [List.getElem?_map, List.getElem?_map];by_cases hj : j < os.length
 ·obtain ⟨o, ho⟩ := ay hj;obtain ⟨g, hg⟩ := ay (l := ps) (k := j) Ky;obtain ⟨e1, e2, _⟩ := h.eq j g o hg ho;rw [ho, hg];show some (PX.norm o) = some (PX.norm g);unfold PX.norm;rw [e1, e2]
 ·rw [List.getElem?_eq_none Ky, List.getElem?_eq_none Ky]
theorem F9 {w w' : World} {H : List HE} {g : PX} (hh : Hp w H w') (h : g.row ∈ H) : g.at_ w' := kZ (hh.own g.row h)
end Go.Proofs.YtaapkaefelhfcaaGreatDoor
/- The walk through poly.Scale. -/
namespace Go.Proofs.YtaapkaefelhfcaaGreatDoor
open Go.RowKit
def DG (p : PX) (c : Dyadic) : Int := if p.e = 0 then gP (p.ts.map (rY c)) else p.e
theorem B4 {l X : List TR} {c : Dyadic} {i : Nat} {z : TR} (hz : l[i]? = some z) (hX : X = (l.take i).map (rY c) ++ l.drop i) : X[i]? = some z ∧ X.set i ⟨z.m, nR (z.c.d * c)⟩ = (l.take (i + 1)).map (rY c) ++ l.drop (i + 1) := by
 obtain ⟨h1, h2⟩ := List.getElem?_eq_some_iff.1 hz;have hl : ((l.take i).map (rY c)).length = i := by rw [List.length_map, List.length_take]; omega
 refine ⟨?_, ?_⟩
 ·rw [hX, List.getElem?_append_right Ky, hl, Nat.sub_self, List.getElem?_drop];exact hz
 ·rw [aH hz, List.map_append, hX, List.set_append_right _ _ Ky, hl, Nat.sub_self, List.append_assoc, fN hz]
  rfl
theorem zF {k j : Nat} {l : List TR} {c : Dyadic} (ho : jq k l) (hc : Sz j c) (hk : k + j ≤ 1000000) : jq (k + j) (l.map (rY c)) := fun t ht => by
 obtain ⟨z, hz, rfl⟩ := List.mem_map.1 ht;have hs := (ho z hz).2.mul hc;exact ⟨hs.ok Ky, by show Sz _ (nR _).d; rw [dK]; exact hs⟩
theorem uW (p : PX) (c : NR) (k : Nat) (w : World) (hT : eP w) (hp : p.at_ w) (lp : p.iu k) (hc : c.ok ∧ Sz k c.d) (hk : k ≤ 400000) :
  Calls Tryz.prog 71 #[.agg #[.int .i64 p.v, .slice p.A p.n p.c], .agg #[.bool c.neg, .string c.cA, .int .i64 c.e]] w fun r w' => ∃ g : PX, eD (DG p c.d) p.v (a6 (p.ts.map (rY c.d))) g ∧ r = .returned (.tuple #[.agg #[.int .i64 g.v, .slice g.A g.n g.c], .int .i64 (DG p c.d)]) ∧ Hp w [g.row] w' := by
 have hh := Hp.start w;have hck := fun w1 hT1 hb => l0 p k w1 hT1 (hp.ext hb) lp;unfold DG;by_cases h0 : p.e = 0
 ·rw [if_pos h0];rw [h0] at hck;obtain ⟨_, h4, _, _⟩ := di h0;have hpl : p.ts.length = p.n := hp.ln;refine al (N := 42) (l := [.agg #[.int .i64 p.v, .slice p.A p.n p.c], .agg #[.bool c.neg, .string c.cA, .int .i64 c.e]]) Tryz.func71 rfl rfl (by simp) ?_;refine sr ?_;refine db hh [_,_] ?_;intro b2 w2 hh;refine db hh [_,_,_] ?_;intro b3 w3 hh;refine cB hh ?_;intro b4 w4 hh;refine aI (aa (ah (sr ?_)));refine cR hh 2 [_,_] ?_;refine bE hh (hck _ (hT.hp hh) hh.below) rfl ?_;intro w10 hh;refine aI (aa (sr (mI ?_)));refine cL (aa (cF (ak (ai (sr (bP ?_))))));refine bR hh 2 ?_;refine aN (kF p.A p.n p.c p.ts _ (hp.ext hh.below) lp.n) aw.out rfl Kz ?_;rintro e_ w17 ⟨A17, c17, rfl, hown_, hb_⟩;refine ⟨_, rfl, ?_⟩;replace hh := hh.bz (x := .row _ _ _ _ _ _) hb_ hown_;refine aL (aa (ah (sr (mL (aW (mI (aa (aj ?_))))))));refine bm [8, 20, 21, 22, 23, 24, 25, 26, 27, 28, 29, 30, 31, 32, 33, 34, 35] 20
   (fun v w' => ∃ (i : Nat) (X : List TR), i ≤ p.n ∧ v = .int .i64 i ∧ X = (p.ts.take i).map (rY c.d) ++ p.ts.drop i ∧ Hp w [.row A17 p.n c17 55 4 (aY TR.cells X), .blk b4 24 [.int .i64 0, .slice none 0 0] (0, 0), .blk b3 29 [.bool c.neg, .string c.cA, .int .i64 c.e] (0, 0), .blk b2 24 [.int .i64 p.v, .slice p.A p.n p.c] (0, 0)] w')
   (fun v _ => p.n - (intOf v).toNat) ?_ ?_
  ·exact ⟨0, p.ts, Nat.zero_le _, rfl, rfl, hh⟩
  ·clear hh;rintro ρ' v w' ⟨i, X, hi, rfl, hX, hh⟩;have hXl : X.length = p.n := by rw [hX, List.length_append, List.length_map, List.length_take, List.length_drop]; omega
   by_cases hlt : i < p.n
   ·obtain ⟨z, hz⟩ := ay (l := p.ts) (k := i) Ky;obtain ⟨hXz, hXn⟩ := B4 hz hX;have hzo := lp.ok z (List.mem_of_getElem? hz);have hdm := fun A cc w1 hT1 hS1 => jM A 2 cc [z.c, c] w1 hT1 hS1 (by simpa using ⟨hzo.1, hc.1⟩) k (by simpa using ⟨hzo.2, hc.2⟩) Ky Kz;rw [show jL ([z.c, c].map NR.d) = z.c.d * c.d by show 1 * z.c.d * c.d = _; rw [Dyadic.one_mul]] at hdm;have hrl := eY TR.len X;obtain ⟨g0, rfl⟩ := hh.dq (i := 0) rfl Ky;refine sr ?_;refine aK (aa (ah (cT (ak (ai (ah (aj (sr (mI (aI (aa ?_)))))))))));refine a8 10 [[(7, none)], [(8, none)], [(7, none)], [(8, none)], [(25, some 2), (26, some 3)], [(27, some 4)], [(28, some 5)], [(3, none)], [(29, some 6), (30, some 7)], [(31, some 8)]] [(9, 32), (8, 31), (7, 30), (6, 29), (5, 28), (4, 27), (3, 26), (2, 25), (1, 24), (0, 23)] hh mixed KA ?_;refine jt ?_;refine fJ ?_;refine jt ?_;refine fJ ?_;refine DF (i) ?_;refine eA ?_;refine x6 [_,_,_] (fun _ hj => (hj.hp.gO (f := TR.cells) (x := z) (l := X) (i := 0) rfl TR.len Kz hXz).drop 1) ?_;refine gY 2 [_,_,_] ?_;refine xw [_,_,_,_,_,_] ?_;refine cH (i := 9) (Is (.agg #[.bool (nR (z.c.d * c.d)).neg, .string (nR (z.c.d * c.d)).cA, .int .i64 (nR (z.c.d * c.d)).e])) Is.ext ?_ ?_
    ·intro ρ1 w1 hj hR;obtain ⟨A31, c31, h31, s31⟩ := hR.1;exact du rfl (bX aw.out (a7 h31 bQ)) (hdm A31 c31 _ (hT.hp hj.hp) s31) (fun _ _ hq => ⟨_, hq.1, hq.2, rfl⟩)
    refine bA ?_;intro f W hJ hV;have hb_8 := hJ.bl;obtain ⟨v32, v31, v30, v29, v28, v27, v26, v25, v24, v23, _⟩ := hV;obtain ⟨A31, c31, e31, f31⟩ : Rows _ _ _ (f 8) W := v31;replace hh := hJ.hp;refine bj (bC (ae v32 (ae e31 (ae v30 (ae v29 (ae v28 (ae v27 (ae v26 (ae v25 (ae v24 (ae v23 bh))))))))))) ?_;dsimp only [cP];clear e31 hJ;refine bf (k := i) aQ.out aF.size rfl rfl Ky Ky Kz ?_;refine bP ?_;refine bs hh (i := 0) (vs := [_, _, _]) rfl rfl (cJ rfl) rfl aF.out rfl Ky rfl ?_;intro ws hh;simp only [List.set_cons_zero] at hh;rw [tT hXz, hXn] at hh;refine aE (aP (ai (aq ?_)));refine bB (mI (aE (ai ?_)));replace hh := hh.sub (List.Sublist.cons_cons _ (List.Sublist.cons_cons _ (List.Sublist.cons_cons _ (List.Sublist.cons_cons _ List.Sublist.slnil))));refine ⟨⟨i + 1, _, Ky, rfl, rfl, hh⟩, by show p.n - (i + 1) < p.n - i; omega, ?_⟩;exact KB
   ·obtain rfl : i = p.n := Ky;rw [List.take_of_length_le Ky, List.drop_of_length_le Ky, List.append_nil] at hX;have hso := zF lp.ok hc.2 Ky;rw [← hX] at hso ⊢;refine sr ?_;refine aK (aa (ah (cF (aJ (az (az (aX (ai (sr (bP ?_))))))))));refine bR hh 3 ?_;refine mL ?_;refine aN (jX p.v A17 p.n c17 X (k + k) _ hT hh hXl Ky Ky hso) aw.out rfl Kz ?_;rintro e_ w39 ⟨g, og, rfl, hh⟩;refine ⟨_, rfl, ?_⟩;refine dI ?_;refine dI ?_;refine bK hh 1 [_,_] ?_;intro ws hh;replace hh : Hp _ (_ :: .blk _ _ [_, _] _ :: _) _ := hh;refine aI (aa (ao ?_));refine jG (aT rfl (aU (vs := [_, _]) aF.out (hh.aC (i := 1) (n := 2) rfl rfl) rfl) (cw (cM rfl) bq)) ?_;exact ⟨g, og, rfl, hh.sub (List.Sublist.cons_cons _ (List.nil_sublist _))⟩
 ·rw [if_neg h0];refine al (N := 42) (l := [.agg #[.int .i64 p.v, .slice p.A p.n p.c], .agg #[.bool c.neg, .string c.cA, .int .i64 c.e]]) Tryz.func71 rfl rfl (by simp) ?_;refine sr ?_;refine db hh [_,_] ?_;intro b2 w2 hh;refine db hh [_,_,_] ?_;intro b3 w3 hh;refine cB hh ?_;intro b4 w4 hh;refine aI (aa (ah (sr ?_)));refine cR hh 2 [_,_] ?_;refine bE hh (hck _ (hT.hp hh) hh.below) rfl ?_;intro w10 hh;refine aI (aa (sr (mI ?_)));refine cL (aa (cT (sr ?_)));refine e9 [_,_] (mI ?_);refine bK hh 0 [_,_] ?_;intro ws hh;replace hh : Hp _ (.blk _ _ [_, _] _ :: _) _ := hh;refine aI (aa (ao (aG ?_)));refine jG (aT rfl (aU (vs := [_, _]) aF.out (hh.aC (i := 0) (n := 2) rfl rfl) rfl) (cw (cM rfl) bq)) ?_;exact ⟨PX.nil, eD.err h0, rfl, (hh.sub (List.nil_sublist _)).kj⟩
end Go.Proofs.YtaapkaefelhfcaaGreatDoor
/- Plain: polynomials with whole numbers, given byte by byte; what they come to can be reckoned. No program in sight. -/
namespace Go.Proofs.YtaapkaefelhfcaaGreatDoor
open Go.RowKit
abbrev ZT := List (List UInt8 × Int)
def zT (L : ZT) : List TR := L.map fun x => ⟨str x.1, nR ((x.2 : Int) : Dyadic)⟩
def zS (L : ZT) (b : List UInt8) : Int := match L with | [] => 0 | x :: L => (if x.1 = b then x.2 else 0) + zS L b
def zC : ZT → Bool
 | [] => true
 | [x] => !decide (x.2 = 0)
 | x :: y :: L => !decide (x.2 = 0) && (Op.bytesLess x.1 y.1 && zC (y :: L))
def zE (L K : ZT) : Bool := (L ++ K).all fun x => decide (zS L x.1 = zS K x.1)
def zP (P Q : ZT) : ZT := P.flatMap fun x => Q.map fun y => ((mulL x.1 y.1).1, x.2 * y.2)
def Kn (P Q : ZT) : List Int := P.flatMap fun x => Q.map fun y => (mulL x.1 y.1).2
def zM (v : Int) (L : ZT) : Bool := L.all fun x => e8 x.1 && decide ((x.1.length : Int) = v)
def zB (L : ZT) : Bool := L.all fun x => decide (x.2.natAbs < 256) && decide (x.1.length ≤ 50)
end Go.Proofs.YtaapkaefelhfcaaGreatDoor
/- The walks through ogeelaw08.whole and two; the chapter's examples one by one. -/
namespace Go.Proofs.YtaapkaefelhfcaaGreatDoor
open Go.RowKit
def Kj (n : Int) : ZT := [([0, 1], n), ([1, 0], 1)]
theorem qz {g h : PX} (h1 : g.e = 0) (h2 : h.e = 0) (h3 : h.v = g.v) : gl [g, h] = 0 := by
 have e : [g, h].find? (fun g => decide (g.e ≠ 0)) = none := iF (List.any_eq_false.2 fun x hx => by
  rcases List.mem_cons.1 hx with rfl | hx
  ·simp [h1]
  ·rw [List.mem_singleton.1 hx]; simp [h2])
 unfold gl;rw [e];show (if 2 = 0 ∨ uL [g, h] = true then (1 : Int) else 0) = 0;rw [if_neg];rintro (h0 | h0)
 ·cases h0
 ·obtain ⟨x, hx, hx2⟩ := List.any_eq_true.1 h0;have hx3 : x.v ≠ g.v := of_decide_eq_true hx2
  rcases List.mem_cons.1 hx with rfl | hx
  ·exact hx3 rfl
  ·rw [List.mem_singleton.1 hx] at hx3;exact hx3 h3
end Go.Proofs.YtaapkaefelhfcaaGreatDoor
/- The walk through ogeelaw08.awake. -/
namespace Go.Proofs.YtaapkaefelhfcaaGreatDoor
open Go.RowKit
end Go.Proofs.YtaapkaefelhfcaaGreatDoor
/- The walk through the law PolyMakes. -/
namespace Go.Proofs.YtaapkaefelhfcaaGreatDoor
open Go.RowKit
def I1 (ds : List Int) : VP := fun v W => ∃ g : Option Addr × Nat, v = .slice g.1 ds.length g.2 ∧ Sl W g.1 ds.length 1 (bG ds)
end Go.Proofs.YtaapkaefelhfcaaGreatDoor
/- Plain: what is answered without an error may be; with one it is zero. -/
namespace Go.Proofs.YtaapkaefelhfcaaGreatDoor
open Go.RowKit
structure Kh (E : Int) (g : PX) : Prop where
 bad : E ≠ 0 → g.v = 0 ∧ g.ts = []
 ok : E = 0 → g.e = 0 ∧ jq 100000 g.ts ∧ ∀ t ∈ g.ts, t.m.size ≤ 100000
theorem u1 {l : List TR} (h : gP l = 0) : (a6 l).length ≤ 4096 := by
 unfold gP at h;by_cases h4 : 4096 < (a6 l).length
 ·rw [if_pos h4] at h; omega
 ·omega
theorem kJ {k j : Nat} {l : List TR} (h : jq k l) (hk : k + l.length ≤ j) (hj : j ≤ 3999990) : jq j (a6 l) := fun t ht => by
 have h3 : Sz j t.c.d := (l3 (fun t ht => (h t ht).2) t ht).mono hk;exact ⟨by rw [(fm l).nf t ht]; exact h3.ok hj, h3⟩
theorem na {l : List TR} (h : ∀ t ∈ l, t.m.size ≤ 100000) : ∀ t ∈ a6 l, t.m.size ≤ 100000 := fun t ht => by
 obtain ⟨s, hs, e⟩ := jQ t ht;rw [← e];exact h s hs
end Go.Proofs.YtaapkaefelhfcaaGreatDoor
/- Plain: orders do not matter; the walk through ogeelaw08.same. -/
namespace Go.Proofs.YtaapkaefelhfcaaGreatDoor
open Go.RowKit
theorem rI {l : List TR} (h : l.length ≤ 4096) : gP l = 0 := by
 unfold gP;have := dD l;rw [if_neg Ky]
theorem eD.v0 {v : Int} {ts : List TR} {g : PX} (o : eD 0 v ts g) : g.v = v := o.v
theorem eD.t0 {v : Int} {ts : List TR} {g : PX} (o : eD 0 v ts g) : g.ts = ts := o.ts
theorem GM (p q : PX) : xt [p, q] = p.ts ++ q.ts := by show p.ts ++ (q.ts ++ []) = _; rw [List.append_nil]
end Go.Proofs.YtaapkaefelhfcaaGreatDoor
/- What comes of putting polynomials into one, by the rule of Horner: plain, no program in sight. -/
namespace Go.Proofs.YtaapkaefelhfcaaGreatDoor
open Go.RowKit
def jB (j : Nat) (t : TR) : Nat := match t.m.data.toList[j]? with | some e => e.toNat | none => 0
theorem pd {j : Nat} {t : TR} {e : UInt8} (h : t.m.data.toList[j]? = some e) : jB j t = e.toNat := by unfold jB; rw [h]
def ck (p : List TR) (j n : Nat) : List TR := p.filter fun t => decide (jB j t = n)
def iy (q : List TR) (sub : List TR → Int × List TR) (p : List TR) (j n : Nat) (a : Int × List TR) : Int × List TR :=
 if a.1 ≠ 0 then a else if a.2.length = 0 ∧ (ck p j n).length = 0 then a else
 if fI a.2 q ≠ 0 then (fI a.2 q, []) else if (sub (ck p j n)).1 ≠ 0 then ((sub (ck p j n)).1, []) else
 if gP (a6 (cQ a.2 q) ++ (sub (ck p j n)).2) ≠ 0 then (gP (a6 (cQ a.2 q) ++ (sub (ck p j n)).2), []) else (0, a6 (a6 (cQ a.2 q) ++ (sub (ck p j n)).2))
def cj (q : List TR) (sub : List TR → Int × List TR) (p : List TR) (j : Nat) : Nat → Int × List TR
 | 0 => (0, [])
 | i + 1 => iy q sub p j (127 - i) (cj q sub p j i)
theorem kP (q : List TR) (sub : List TR → Int × List TR) (p : List TR) (j i : Nat) : cj q sub p j (i + 1) = iy q sub p j (127 - i) (cj q sub p j i) := rfl
def fK (v : Int) : List (List TR) → Nat → List TR → Int × List TR
 | [], _, p => (0, a6 [⟨fR v, (p.map TR.c).headD (nR 0)⟩])
 | q :: qs, j, p => cj q (fK v qs (j + 1)) p j 128
theorem kD {q : List TR} {sub : List TR → Int × List TR} {p : List TR} {j i k : Nat} (h : (cj q sub p j i).1 ≠ 0) (hk : i ≤ k) : cj q sub p j k = cj q sub p j i := by
 induction k with
 | zero =>
  obtain rfl : i = 0 := Ky
  rfl
 | succ k ih =>
  by_cases e : i = k + 1
  ·rw [e]
  ·have := ih Ky;show iy q sub p j (127 - k) (cj q sub p j k) = _;rw [this];unfold iy;rw [if_pos h]
theorem wc {p q : List TR} {k j : Nat} (hp : jq k p) (hq : jq j q) (sq : ∀ t ∈ q, t.m.size ≤ 100000) (h : fI p q = 0) (hk : k + j ≤ 900000) : jq (k + j + p.length * q.length) (a6 (cQ p q)) ∧ ∀ t ∈ a6 (cQ p q), t.m.size ≤ 100000 := by
 obtain ⟨h6, _, h4⟩ := kG h;have ho := nB hp hq Ky;have hz := l3 fun t ht => (ho t ht).2;rw [me] at hz;refine ⟨fun t ht => ?_, (Au hp hq sq h hk).2⟩;have : Sz (k + j + p.length * q.length) t.c.d := hz t ht;refine ⟨?_, this⟩;rw [(fm _).nf t ht];exact this.ok Ky
structure jh (v : Int) (k : Nat) (l : List TR) : Prop where
 e : jl v l = 0
 ok : jq k l
 sz : ∀ t ∈ l, t.m.size ≤ 100000
theorem jh.mono {v : Int} {k j : Nat} {l : List TR} (h : jh v k l) (hk : k ≤ j) : jh v j l := ⟨h.e, h.ok.mono hk, h.sz⟩
theorem jh.nil {v : Int} {k : Nat} (hv : iB v = true) : jh v k [] := ⟨Ai hv (Nat.zero_le _) (fun _ h => nomatch h) ⟨.nil, (fun _ h => nomatch h), (fun _ h => nomatch h)⟩, (fun _ h => nomatch h), (fun _ h => nomatch h)⟩
theorem jh.len {v : Int} {k : Nat} {l : List TR} (h : jh v k l) : l.length ≤ 4096 := (di h.e).2.1
theorem AJ {v : Int} {p q : List TR} {k j T : Nat} (hp : jh v k p) (hq : jh v j q) (hT : q.length ≤ T) (h : fI p q = 0) (hk : k + j ≤ 900000) : jh v (k + j + 4096 * T) (a6 (cQ p q)) := by
 obtain ⟨h6, h5, h4⟩ := kG h;obtain ⟨f1, f2, f3, f4⟩ := di hp.e;have := wc hp.ok hq.ok hq.sz h hk;have hm : p.length * q.length ≤ 4096 * T := Nat.mul_le_mul hp.len hT;exact ⟨gW f1 h4 (pe f3 h5), this.1.mono Ky, this.2⟩
theorem Ay {v : Int} {a b : List TR} {k : Nat} (ha : jh v k a) (hb : jh v k b) (h : gP (a ++ b) = 0) (hk : k ≤ 3000000) : jh v (k + 8192) (a6 (a ++ b)) := by
 obtain ⟨f1, f2, f3, f4⟩ := di ha.e;obtain ⟨g1, g2, g3, g4⟩ := di hb.e;have hl : (a ++ b).length ≤ 8192 := by rw [List.length_append]; omega
 refine ⟨gW f1 (u1 h) fun t ht => ?_, kJ (fun t ht => ?_) (show k + (a ++ b).length ≤ k + 8192 by omega) Ky, na fun t ht => ?_⟩
 ·rcases List.mem_append.1 ht with h | h
  ·exact f3 t h
  ·exact g3 t h
 ·rcases List.mem_append.1 ht with h | h
  ·exact ha.ok t h
  ·exact hb.ok t h
 ·rcases List.mem_append.1 ht with h | h
  ·exact ha.sz t h
  ·exact hb.sz t h
theorem Ex {v : Int} {q p : List TR} {sub : List TR → Int × List TR} {j n : Nat} {a : Int × List TR} {S K T B S' : Nat} (ha : jh v S a.2) (hq : jh v K q) (hT : q.length ≤ T) (hb : (sub (ck p j n)).1 = 0 → jh v B (sub (ck p j n)).2) (h1 : S + K + 4096 * T + 8192 ≤ S') (h2 : B + 8192 ≤ S') (hS : S' ≤ 900000)
  (h : (iy q sub p j n a).1 = 0) : jh v S' (iy q sub p j n a).2 := by
 unfold iy at h ⊢;by_cases c0 : a.1 ≠ 0
 ·rw [if_pos c0] at h; exact absurd h c0
 ·rw [if_neg c0] at h ⊢;by_cases c1 : a.2.length = 0 ∧ (ck p j n).length = 0
  ·rw [if_pos c1];exact ha.mono Ky
  ·rw [if_neg c1] at h ⊢;by_cases c2 : fI a.2 q ≠ 0
   ·rw [if_pos c2] at h; exact absurd h c2
   ·rw [if_neg c2] at h ⊢;by_cases c3 : (sub (ck p j n)).1 ≠ 0
    ·rw [if_pos c3] at h; exact absurd h c3
    ·rw [if_neg c3] at h ⊢;by_cases c4 : gP (a6 (cQ a.2 q) ++ (sub (ck p j n)).2) ≠ 0
     ·rw [if_pos c4] at h; exact absurd h c4
     ·rw [if_neg c4];exact (Ay ((AJ ha hq hT Ky Ky).mono (show _ ≤ S' - 8192 by omega)) ((hb Ky).mono Ky) Ky Ky).mono Ky
theorem BZ {p : List TR} {j n : Nat} (h : ∀ t ∈ p, jB j t < n) : ck p j n = [] := List.filter_eq_nil_iff.2 fun t ht => by
 have := h t ht;simp only [decide_eq_true_eq];omega
theorem il {p : List TR} {j n : Nat} : ∀ t ∈ ck p j n, t ∈ p := fun t ht => (List.mem_filter.1 ht).1
theorem iH {q p : List TR} {sub : List TR → Int × List TR} {j D : Nat} (h : ∀ t ∈ p, jB j t ≤ D) : ∀ i, i + D ≤ 127 → cj q sub p j i = (0, [])
 | 0, _ => rfl
 | i + 1, hi => by
  show iy q sub p j (127 - i) (cj q sub p j i) = _;rw [iH h i Ky, show iy q sub p j (127 - i) (0, []) = (0, []) by
   unfold iy;rw [if_neg Kz, if_pos ⟨rfl, by rw [BZ fun t ht => by have := h t ht; omega]; rfl⟩]]
def iU (c : Nat) : List Nat → Nat → Nat
 | [], k => k
 | d :: ds, k => iU c ds k + d * c + 8192
theorem oK (c k : Nat) : iU c [] k = k := rfl
theorem mM (c d k : Nat) (ds : List Nat) : iU c (d :: ds) k = iU c ds k + d * c + 8192 := rfl
theorem qH {v : Int} {q p : List TR} {sub : List TR → Int × List TR} {j D K T B c : Nat} (hv : iB v = true) (hq : jh v K q) (hT : q.length ≤ T) (hD : ∀ t ∈ p, jB j t ≤ D) (hD2 : D ≤ 127) (hb : ∀ n, (sub (ck p j n)).1 = 0 → jh v B (sub (ck p j n)).2) (hc : K + 4096 * T + 8192 ≤ c) (hS : B + D * c + 8192 ≤ 900000) :
  ∀ i, i ≤ 128 → (cj q sub p j i).1 = 0 → jh v (B + (i + D - 128) * c + 8192) (cj q sub p j i).2
 | 0, _, _ => jh.nil hv
 | i + 1, hi, h0 => by
  by_cases h1 : i + 1 + D ≤ 127
  ·rw [iH hD _ h1];exact jh.nil hv
  ·have h2 : (cj q sub p j i).1 = 0 := by
    refine Classical.byContradiction fun c => ?_;rw [kD c (Nat.le_succ i)] at h0;exact c h0
   have hle : (i + 1 + D - 128) * c ≤ D * c := Nat.mul_le_mul_right _ Ky;by_cases h3 : i + D ≤ 127
   ·have h4 := iH (q := q) (sub := sub) hD i h3;show jh v _ (iy q sub p j (127 - i) (cj q sub p j i)).2;have h5 : (iy q sub p j (127 - i) (cj q sub p j i)).1 = 0 := h0;rw [h4] at h5 ⊢;rw [show i + 1 + D - 128 = 0 by omega, Nat.zero_mul];unfold iy at h5 ⊢;rw [if_neg Kz] at h5 ⊢;by_cases c1 : ((0 : Int), ([] : List TR)).2.length = 0 ∧ (ck p j (127 - i)).length = 0
    ·rw [if_pos c1]; exact jh.nil hv
    ·rw [if_neg c1] at h5 ⊢;by_cases c2 : fI [] q ≠ 0
     ·rw [if_pos c2] at h5; exact absurd h5 c2
     ·rw [if_neg c2] at h5 ⊢;by_cases c3 : (sub (ck p j (127 - i))).1 ≠ 0
      ·rw [if_pos c3] at h5; exact absurd h5 c3
      ·rw [if_neg c3] at h5 ⊢;by_cases c4 : gP (a6 (cQ [] q) ++ (sub (ck p j (127 - i))).2) ≠ 0
       ·rw [if_pos c4] at h5; exact absurd h5 c4
       ·rw [if_neg c4];have hn : jh v B (a6 (cQ [] q)) := jh.nil hv;exact (Ay hn (hb _ Ky) Ky Ky).mono Ky
   ·have ih := qH hv hq hT hD hD2 hb hc hS i Ky h2;have e1 : (i + 1 + D - 128) * c = (i + D - 128) * c + c := by rw [show i + 1 + D - 128 = (i + D - 128) + 1 by omega, Nat.succ_mul]
    rw [e1] at hle ⊢;generalize (i + D - 128) * c = y at *;generalize D * c = z at *;exact Ex ih hq hT (hb _) Ky Ky Ky h0
theorem oH {v : Int} {k : Nat} {x : NR} (hv : iB v = true) (hx : Sz k x.d) (hk : k ≤ 900000) : jh v (k + 1) (a6 [⟨fR v, x⟩]) := by
 have h1 := gI.1 hv;have h2 := nc h1.1;refine ⟨gW hv (Nat.le_trans (dD _) (show 1 ≤ 4096 by decide)) fun t ht => ?_, fun t ht => ?_, fun t ht => ?_⟩
 ·rw [List.mem_singleton.1 ht];unfold gH;rw [Bool.and_eq_true, decide_eq_true_eq];exact ⟨tC v, h2⟩
 ·have h1 : Sz (k + 1) t.c.d := l3 (k := k) (l := [⟨fR v, x⟩]) (fun s hs => by rw [List.mem_singleton.1 hs]; exact hx) t ht;exact ⟨by rw [(fm _).nf t ht]; exact h1.ok Ky, h1⟩
 ·obtain ⟨s, hs, e⟩ := jQ t ht;rw [← e, List.mem_singleton.1 hs];show (fR v).size ≤ 100000;omega
theorem Ao {v : Int} {K T c0 : Nat} (hv : iB v = true) (hc0 : K + 4096 * T + 8192 ≤ c0) : ∀ (qs : List (List TR)) (j : Nat) (p : List TR) (ds : List Nat) (k : Nat), (∀ q ∈ qs, jh v K q ∧ q.length ≤ T) → jq k p → ds.length = qs.length → (∀ (i d : Nat), ds[i]? = some d → d ≤ 127 ∧ ∀ t ∈ p, jB (j + i) t ≤ d) → iU c0 ds (k + 1) ≤ 900000 →
  (fK v qs j p).1 = 0 → jh v (iU c0 ds (k + 1)) (fK v qs j p).2 := by
 intro qs
 induction qs with
 | nil =>
  intro j p ds k _ hok hds _ hB _;obtain rfl : ds = [] := List.length_eq_zero_iff.1 hds;rw [oK] at hB ⊢;refine oH hv ?_ Ky
  cases p with
  | nil => show Sz k (nR 0).d; rw [dK]; exact Sz.zero k
  | cons t p => exact (hok t List.mem_cons_self).2
 | cons q qs ih =>
  intro j p ds k hq hok hds hD hB h0
  cases ds with
  | nil => cases hds
  | cons d ds =>
   have hd := hD 0 d rfl;rw [mM] at hB ⊢;have hB1 : iU c0 ds (k + 1) ≤ 900000 := Ky;have hsub : ∀ n, (fK v qs (j + 1) (ck p j n)).1 = 0 → jh v (iU c0 ds (k + 1)) (fK v qs (j + 1) (ck p j n)).2 := fun n hn => by
    refine ih (j + 1) (ck p j n) ds k (fun r hr => hq r (List.mem_cons_of_mem _ hr)) (fun t ht => hok t (il t ht)) (by simpa using hds) (fun i e he => ?_) hB1 hn;have h2 := hD (i + 1) e (by simpa using he);refine ⟨h2.1, fun t ht => ?_⟩;have h3 := h2.2 t (il t ht);rwa [show j + 1 + i = j + (i + 1) by omega]
   have h1 := qH (sub := fK v qs (j + 1)) (p := p) (j := j) hv (hq q List.mem_cons_self).1 (hq q List.mem_cons_self).2 hd.2 hd.1 hsub hc0 hB 128 (Nat.le_refl _) h0;rw [show 128 + d - 128 = d by omega] at h1;exact h1
end Go.Proofs.YtaapkaefelhfcaaGreatDoor
/- Terms that rise: those of one power of a variable lie side by side. Plain, no program in sight. -/
namespace Go.Proofs.YtaapkaefelhfcaaGreatDoor
open Go.RowKit
theorem xk : ∀ {a b : List UInt8} {j : Nat} {x y : UInt8}, Op.bytesLess a b = true → a.take j = b.take j → a[j]? = some x → b[j]? = some y → x.toNat ≤ y.toNat
 | [], _, j, x, y, _, _, hx, _ => by simp at hx
 | _, [], j, x, y, _, _, _, hy => by simp at hy
 | c :: a, d :: b, 0, x, y, h, _, hx, hy => by
  simp only [List.getElem?_cons_zero, Option.some.injEq] at hx hy;subst hx; subst hy;simp only [Op.bytesLess, Bool.or_eq_true, Bool.and_eq_true, decide_eq_true_eq, beq_iff_eq] at h
  rcases h with h | ⟨h, _⟩
  ·exact Nat.le_of_lt (UInt8.lt_iff_toNat_lt.1 h)
  ·rw [h]; exact Nat.le_refl _
 | c :: a, d :: b, j + 1, x, y, h, ht, hx, hy => by
  simp only [List.take_succ_cons, List.cons.injEq] at ht;obtain ⟨rfl, ht⟩ := ht;simp only [List.getElem?_cons_succ] at hx hy;refine xk (a := a) (b := b) ?_ ht hx hy;simpa [Op.bytesLess] using h
structure Eu (v : Int) (j : Nat) (p : List TR) : Prop where
 pS : qY p
 may : ∀ t ∈ p, gH v t = true
 pre : ∀ a ∈ p, ∀ b ∈ p, a.m.data.toList.take j = b.m.data.toList.take j
theorem Eu.size {v : Int} {j : Nat} {p : List TR} (h : Eu v j p) : ∀ t ∈ p, (t.m.data.toList.length : Int) = v := fun t ht => by
 rw [← eF];exact of_decide_eq_true (Bool.and_eq_true_iff.1 (h.may t ht)).2
theorem Eu.get {v : Int} {j : Nat} {p : List TR} (h : Eu v j p) (hj : (j : Int) < v) {t : TR} (ht : t ∈ p) : ∃ e : UInt8, t.m.data.toList[j]? = some e ∧ jB j t = e.toNat ∧ e.toNat < 128 := by
 obtain ⟨e, he⟩ := ay (l := t.m.data.toList) (k := j) (by have := h.size t ht; omega);exact ⟨e, he, pd he, qg (Bool.and_eq_true_iff.1 (h.may t ht)).1 he⟩
theorem Eu.mono {v : Int} {j : Nat} {p : List TR} (h : Eu v j p) (hj : (j : Int) < v) : p.Pairwise fun a b => jB j a ≤ jB j b := by
 refine List.Pairwise.imp_of_mem (fun {a b} ha hb hl => ?_) h.pS;obtain ⟨x, hx, ex, _⟩ := h.get hj ha;obtain ⟨y, hy, ey, _⟩ := h.get hj hb;rw [ex, ey];exact xk hl (h.pre a ha b hb) hx hy
theorem Eu.with {v : Int} {j n : Nat} {p : List TR} (h : Eu v j p) (hj : (j : Int) < v) : Eu v (j + 1) (ck p j n) := by
 refine ⟨h.pS.filter _, fun t ht => h.may t (il t ht), fun a ha b hb => ?_⟩;obtain ⟨ha1, ha2⟩ := List.mem_filter.1 ha;obtain ⟨hb1, hb2⟩ := List.mem_filter.1 hb;obtain ⟨x, hx, ex, _⟩ := h.get hj ha1;obtain ⟨y, hy, ey, _⟩ := h.get hj hb1;have exy : x = y := UInt8.toNat_inj.1 (by rw [← ex, ← ey, of_decide_eq_true ha2, of_decide_eq_true hb2]);rw [aH hx, aH hy, h.pre a ha1 b hb1, exy]
theorem Dk {α : Type} {p : List α} {fr en : Nat} (h : fr ≤ en) : p.drop fr = (p.drop fr).take (en - fr) ++ p.drop en := by
 have : p.drop en = (p.drop fr).drop (en - fr) := by rw [List.drop_drop]; congr 1; omega
 rw [this, List.take_append_drop]
theorem vZ {p : List TR} {j n fr en : Nat} (hfe : fr ≤ en) (h1 : ∀ t ∈ p.take fr, jB j t < n) (h2 : ∀ t ∈ (p.drop fr).take (en - fr), jB j t = n) (h3 : ∀ t ∈ p.drop en, n < jB j t) : ck p j n = (p.drop fr).take (en - fr) := by
 have e : p = p.take fr ++ ((p.drop fr).take (en - fr) ++ p.drop en) := by
  have : p.drop en = (p.drop fr).drop (en - fr) := by rw [List.drop_drop]; congr 1; omega
  rw [this, List.take_append_drop, List.take_append_drop]
 unfold ck
 conv => lhs; rw [e]
 rw [List.filter_append, List.filter_append, List.filter_eq_nil_iff.2, List.filter_eq_self.2, List.filter_eq_nil_iff.2, List.nil_append, List.append_nil]
 ·intro t ht;have := h3 t ht;simp only [decide_eq_true_eq];omega
 ·intro t ht;have := h2 t ht;simpa using this
 ·intro t ht;have := h1 t ht;simp only [decide_eq_true_eq];omega
theorem Cn {p : List TR} {j fr n : Nat} {x : TR} (h : p.Pairwise fun a b => jB j a ≤ jB j b) (hx : p[fr]? = some x) (hn : jB j x < n) : ∀ t ∈ p.take (fr + 1), jB j t < n := fun t ht => by
 rw [aH hx] at ht
 rcases List.mem_append.1 ht with ht | ht
 ·have e : p = p.take fr ++ x :: p.drop (fr + 1) := by rw [← fN hx, List.take_append_drop]
  rw [e, List.pairwise_append] at h;have := h.2.2 t ht x List.mem_cons_self;omega
 ·obtain rfl := List.mem_singleton.1 ht;exact hn
end Go.Proofs.YtaapkaefelhfcaaGreatDoor
/- The walks through calc.has and calc.Derive. -/
namespace Go.Proofs.YtaapkaefelhfcaaGreatDoor
open Go.RowKit
def J8 (p : PX) (i : Int) : Int := if p.e = 0 then (if i < 0 ∨ p.v ≤ i then 1 else 0) else p.e
def IX (i : Nat) (t : TR) : Option TR := match t.m.data.toList[i]? with | some e => if e.toNat = 0 then none else some ⟨str (t.m.data.toList.set i (e - 1)), nR (t.c.d * ((e.toNat : Int) : Dyadic))⟩ | none => none
def JN (i : Nat) (l : List TR) : List TR := l.filterMap (IX i)
end Go.Proofs.YtaapkaefelhfcaaGreatDoor
/- Where several endings of a loop meet: what holds there, once. Plain, no program in sight. -/
namespace Go.Proofs.YtaapkaefelhfcaaGreatDoor
open Go.RowKit
section
variable {ro : Mode} {P : Program} {N : Nat} {Q : Kq} {ρ : Rf} {w : World}
theorem Ee {c : Code} {id : Nat} {next : Rf → World → Prop} (mods : List Nat) (s0 : Nat) (J : Value → World → Prop) (hc : WC ro P N c (oS id (eI (fun ρ2 w2 => J (ρ2 s0) w2 ∧ iz mods ρ2 ρ) Q)) ρ w)
  (hn : ∀ ρ' v0 w', J v0 w' → next (de (mask mods ρ' ρ) s0 v0) w') : WC ro P N c (oS id (eI next Q)) ρ w :=
 hc.mono fun e ρ2 w2 hq => by
  have key : J (ρ2 s0) w2 ∧ iz mods ρ2 ρ → next ρ2 w2 := fun h => by
   have := hn ρ2 (ρ2 s0) w2 h.1;rwa [iE h.2, fq] at this
  cases e with
  | normal => exact key hq
  | exit i =>
   by_cases h : i = id
   ·subst h;simp only [oS, eI, if_true] at hq ⊢;exact key hq
   ·simp only [oS, eI, if_neg h] at hq ⊢;exact hq
  | _ => exact hq
theorem BN {a c : Code} (mods : List Nat) (J : World → Prop) (hc : WC ro P N a (eI (fun ρ2 w2 => J w2 ∧ iz mods ρ2 ρ) Q) ρ w) (hn : ∀ ρ' w', J w' → WC ro P N c Q (mask mods ρ' ρ) w') : WC ro P N (.seq a c) Q ρ w :=
 ah (hc.mono fun e ρ2 w2 hq => by
  cases e with
  | normal =>
   have := hn ρ2 w2 hq.1;rwa [iE hq.2] at this
  | _ => exact hq)
end
end Go.Proofs.YtaapkaefelhfcaaGreatDoor
