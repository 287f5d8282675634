/- Lemmas for bernSums, part 5. -/
import Derived.Test.YteeckcbbnegmcaaGreatDoorZ4
namespace Go.Proofs.YteeckcbbnegmcaaGreatDoor
def sm {α : Type} : List α → (α → Dyadic) → Dyadic
 | [], _ => 0
 | a :: l, f => f a + sm l f
section
variable {α β : Type}
theorem qj (l m : List α) (f : α → Dyadic) : sm (l ++ m) f = sm l f + sm m f := by
 induction l with
 | nil => simp [sm, Dyadic.zero_add]
 | cons a l ih => simp only [List.cons_append, sm, ih]; grind
theorem jx (l : List α) (a : α) (f : α → Dyadic) : sm (l ++ [a]) f = sm l f + f a := by
 rw [qj]; simp only [sm]; grind
theorem bE {l : List α} {f g : α → Dyadic} (h : ∀ a ∈ l, f a = g a) : sm l f = sm l g := by
 induction l with
 | nil => rfl
 | cons a l ih => rw [sm, sm, h a List.mem_cons_self, ih fun b hb => h b (List.mem_cons_of_mem _ hb)]
theorem sf {l : List α} {f : α → Dyadic} (h : ∀ a ∈ l, f a = 0) : sm l f = 0 := by
 induction l with
 | nil => rfl
 | cons a l ih => rw [sm, h a List.mem_cons_self, ih fun b hb => h b (List.mem_cons_of_mem _ hb)]; grind
theorem sX (l : List α) (f g : α → Dyadic) : sm l (fun a => f a + g a) = sm l f + sm l g := by
 induction l with
 | nil => simp [sm]
 | cons a l ih => simp only [sm, ih]; grind
theorem kz (l : List α) (f : α → Dyadic) (c : Dyadic) : sm l (fun a => f a * c) = sm l f * c := by
 induction l with
 | nil => simp only [sm]; grind
 | cons a l ih => simp only [sm, ih]; grind
theorem gD (l : List α) (f : α → Dyadic) (c : Dyadic) : sm l (fun a => c * f a) = c * sm l f := by
 induction l with
 | nil => simp only [sm]; grind
 | cons a l ih => simp only [sm, ih]; grind
theorem sY (l : List α) (g : α → β) (f : β → Dyadic) : sm (l.map g) f = sm l fun a => f (g a) := by
 induction l with
 | nil => rfl
 | cons a l ih => rw [List.map_cons, sm, sm, ih]
theorem sw (l : List α) (m : List β) (f : α → β → Dyadic) : sm l (fun a => sm m (f a)) = sm m fun b => sm l fun a => f a b := by
 induction l with
 | nil => exact (sf fun b _ => rfl).symm
 | cons a l ih => simp only [sm]; rw [ih, ← sX]
theorem FE (l : List α) (p : α → Bool) (f : α → Dyadic) (h : ∀ a ∈ l, p a = false → f a = 0) : sm (l.filter p) f = sm l f := by
 induction l with
 | nil => rfl
 | cons a l ih =>
  rw [sm, ← ih fun b hb => h b (List.mem_cons_of_mem _ hb)]
  cases hp : p a with
  | true => rw [List.filter_cons_of_pos hp, sm]
  | false => rw [List.filter_cons_of_neg (by rw [hp]; exact Bool.false_ne_true), h a List.mem_cons_self hp]; grind
theorem px (n p : Nat) (c : Dyadic) : sm (List.range n) (fun q => if q = p then c else 0) = if p < n then c else 0 := by
 induction n with
 | zero => rw [if_neg Tx]; rfl
 | succ n ih =>
  rw [List.range_succ, jx, ih]
  rcases Nat.lt_trichotomy p n with h | h | h
  ·rw [if_pos h, if_neg (show ¬ n = p by omega), if_pos (show p < n + 1 by omega)]; grind
  ·rw [if_neg (show ¬ p < n by omega), if_pos h.symm, if_pos (show p < n + 1 by omega)]; grind
  ·rw [if_neg (show ¬ p < n by omega), if_neg (show ¬ n = p by omega), if_neg (show ¬ p < n + 1 by omega)]; grind
end
def nE (N : Nat) (L : List (Nat × Dyadic)) : List Dyadic := (List.range N).map fun p => sm L fun q => if q.1 = p then q.2 else 0
theorem k6 (N : Nat) (L : List (Nat × Dyadic)) : (nE N L).length = N := by simp [nE]
theorem tu (N : Nat) : nE N [] = List.replicate N 0 := by
 refine List.ext_getElem (by simp [nE]) fun i h1 h2 => ?_;simp [nE, sm]
theorem nh {N p : Nat} (L : List (Nat × Dyadic)) (h : p < N) : (nE N L)[p]? = some (sm L fun q => if q.1 = p then q.2 else 0) := by
 unfold nE;rw [List.getElem?_map, List.getElem?_range h]
 rfl
theorem GD {N p : Nat} {L : List (Nat × Dyadic)} {x v : Dyadic} (h : (nE N L)[p]? = some x) : (nE N L).set p (x + v) = nE N (L ++ [(p, v)]) := by
 have hp : p < N := by have := (List.getElem?_eq_some_iff.1 h).1; rwa [k6] at this
 rw [nh L hp] at h;refine List.ext_getElem? fun i => ?_;rw [List.getElem?_set];by_cases hi : p = i
 ·subst hi;rw [if_pos rfl, k6, if_pos hp, nh _ hp, jx, ← Option.some.inj h, if_pos rfl]
 ·rw [if_neg hi];by_cases hin : i < N
  ·rw [nh _ hin, nh _ hin, jx, if_neg hi];congr 1;grind
  ·rw [List.getElem?_eq_none (by rw [k6]; omega), List.getElem?_eq_none (by rw [k6]; omega)]
theorem BJ {α : Type} {l : List α} {f : α → Dyadic} {k : Nat} (h : ∀ a ∈ l, Sz k (f a)) : Sz (k + l.length) (sm l f) := by
 induction l with
 | nil => exact Sz.zero _
 | cons a l ih =>
  have h1 := ih fun b hb => h b (List.mem_cons_of_mem _ hb);have h2 := ((h a List.mem_cons_self).mono (show k ≤ k + l.length by omega)).add h1;rw [sm, List.length_cons];exact h2.mono Tx
theorem Lt {N k : Nat} {L : List (Nat × Dyadic)} (h : ∀ a ∈ L, Sz k a.2) : ∀ x ∈ nE N L, Sz (k + L.length) x := fun x hx => by
 obtain ⟨p, _, rfl⟩ := List.mem_map.1 hx;refine BJ fun a ha => ?_;split
 ·exact h a ha
 ·exact Sz.zero _
def au : List Nat → Nat
 | [] => 1
 | d :: ds => (d + 1) * au ds
def cI : List Nat → Nat → List Nat
 | [], _ => []
 | d :: ds, p => p % (d + 1) :: cI ds (p / (d + 1))
def ik : List Nat → List Nat → Nat
 | d :: ds, r :: rs => r + (d + 1) * ik ds rs
 | _, _ => 0
def lZ : List Nat → List Nat → Prop
 | [], [] => True
 | d :: ds, r :: rs => r ≤ d ∧ lZ ds rs
 | _, _ => False
theorem cL (ds : List Nat) : 0 < au ds := by
 induction ds with
 | nil => exact Nat.one_pos
 | cons d ds ih => exact Nat.mul_pos Tx ih
theorem AM : ∀ (ds : List Nat) (p : Nat), (cI ds p).length = ds.length
 | [], _ => rfl
 | d :: ds, p => by rw [cI, List.length_cons, AM ds, List.length_cons]
theorem nk : ∀ (ds : List Nat) (p : Nat), lZ ds (cI ds p)
 | [], _ => trivial
 | d :: ds, p => ⟨by have := Nat.mod_lt p (show 0 < d + 1 by omega); omega, nk ds _⟩
theorem y6 : ∀ {ds : List Nat} {p : Nat}, p < au ds → ik ds (cI ds p) = p
 | [], p, h => by
  have : p < 1 := h;show 0 = p;omega
 | d :: ds, p, h => by
  have h1 : p / (d + 1) < au ds := by rw [Nat.div_lt_iff_lt_mul Tx, Nat.mul_comm]; exact h
  rw [cI, ik, y6 h1, Nat.mod_add_div]
theorem m9 : ∀ {ds rs : List Nat}, lZ ds rs → ik ds rs < au ds
 | [], [], _ => Nat.one_pos
 | d :: ds, r :: rs, h => by
  have h1 := m9 h.2;have h2 := h.1;rw [ik, au];have h3 : (d + 1) * ik ds rs + (d + 1) ≤ (d + 1) * au ds := by
   have := Nat.mul_le_mul_left (d + 1) (show ik ds rs + 1 ≤ au ds by omega);rw [Nat.mul_add, Nat.mul_one] at this;exact this
  omega
theorem iw : ∀ {ds rs : List Nat}, lZ ds rs → cI ds (ik ds rs) = rs
 | [], [], _ => rfl
 | d :: ds, r :: rs, h => by
  have h2 := h.1;rw [ik, cI, Nat.add_mul_mod_self_left, Nat.mod_eq_of_lt Tx, Nat.add_mul_div_left _ _ Tx, Nat.div_eq_of_lt Tx, Nat.zero_add, iw h.2]
theorem sl (d : Nat) (ds : List Nat) (f : Nat → Dyadic) : sm (List.range (au (d :: ds))) f = sm (List.range (au ds)) fun q => sm (List.range (d + 1)) fun r => f (r + (d + 1) * q) := by
 have key : ∀ n, sm (List.range ((d + 1) * n)) f = sm (List.range n) fun q => sm (List.range (d + 1)) fun r => f (r + (d + 1) * q) := fun n => by
  induction n with
  | zero => rfl
  | succ n ih =>
   rw [List.range_succ, jx, ← ih, Nat.mul_succ, List.range_add, qj, sY];congr 1;exact bE fun a _ => by rw [Nat.add_comm]
 exact key _
open Go.RowKit
def kQ (d : Int) : List Int := (List.range (d.toNat + 1)).map fun (k : Nat) => (k : Int)
def eG : List Int → List (List Int)
 | [] => [[]]
 | d :: ds => (kQ d).flatMap fun k => (eG ds).map (k :: ·)
def fO (n : Nat) : List Int := List.replicate n 0
def qa : List Int → List Int → Option (List Int)
 | d :: ds, k :: l => match qa ds l with
  | some l' => some (k :: l')
  | none => if k < d then some ((k + 1) :: fO l.length) else none
 | _, _ => none
def nF {α : Type} (f : α → Option α) : α → List α → Prop
 | a, [b] => b = a ∧ f a = none
 | a, b :: L => b = a ∧ ∃ c, f a = some c ∧ nF f c L
 | _, [] => False
theorem Jw {α : Type} {f : α → Option α} {a : α} (h : f a = none) : nF f a [a] := ⟨rfl, h⟩
theorem nu {α : Type} {f : α → Option α} {a c : α} {L : List α} (h : f a = some c) (hL : nF f c L) : nF f a (a :: L) := by
 cases L with
 | nil => exact hL.elim
 | cons b L => exact ⟨rfl, c, h, hL⟩
theorem vu {α : Type} {f : α → Option α} {a : α} {L : List α} (h : nF f a L) : (L = [a] ∧ f a = none) ∨ ∃ c L', L = a :: L' ∧ f a = some c ∧ nF f c L' := by
 match L, h with
 | [b], h => exact .inl ⟨by rw [h.1], h.2⟩
 | b :: c :: L, h => obtain ⟨h1, x, h2, h3⟩ := h; exact .inr ⟨x, c :: L, by rw [h1], h2, h3⟩
theorem Ah {α β : Type} {f : α → Option α} {g : β → Option β} {e : α → β} {b : List β} {z : Option β} (hs : ∀ a c, f a = some c → g (e a) = some (e c)) (hn : ∀ a, f a = none → g (e a) = z)
  (hz : match z with | some c => nF g c b | none => b = []) : ∀ (L : List α) (a : α), nF f a L → nF g (e a) (L.map e ++ b)
 | [c], a, h => by
  obtain ⟨h1, h2⟩ := h;subst h1
  cases z with
  | none => simp only at hz; subst hz; exact Jw (hn _ h2)
  | some x => exact nu (hn _ h2) hz
 | c :: d :: L, a, h => by
  obtain ⟨h1, x, h2, h3⟩ := h;subst h1;exact nu (hs _ _ h2) (Ah hs hn hz (d :: L) x h3)
theorem H0 (a : Int) : ∀ n : Nat, ((List.range (n + 1)).map fun (k : Nat) => a + (k : Int)) = a :: ((List.range n).map fun (k : Nat) => (a + 1) + (k : Int))
 | n => by
  rw [List.range_succ_eq_map, List.map_cons, List.map_map];congr 1
  ·simp
  ·apply List.map_congr_left;intro k _;simp only [Function.comp];omega
theorem y7 {ds : List Int} {k d : Int} {R : List (List Int)} (hk : k < d) (ih : nF (qa (d :: ds)) ((k + 1) :: fO ds.length) R) : ∀ (L' : List (List Int)) (a : List Int), (∀ l ∈ L', l.length = ds.length) → nF (qa ds) a L' → nF (qa (d :: ds)) (k :: a) (L'.map (k :: ·) ++ R)
 | [c], a, hl, h => by
  obtain ⟨h1, h2⟩ := h;subst h1;refine nu (c := (k + 1) :: fO ds.length) ?_ ih;have : c.length = ds.length := hl c (by simp);simp [qa, h2, this, hk]
 | c :: e :: L', a, hl, h => by
  obtain ⟨h1, x, h2, h3⟩ := h;subst h1;exact nu (c := k :: x) (by simp [qa, h2]) (y7 hk ih (e :: L') x (fun l hm => hl l (List.mem_cons_of_mem _ hm)) h3)
theorem vR {ds : List Int} (L : List (List Int)) (hL : nF (qa ds) (fO ds.length) L) (hlen : ∀ l ∈ L, l.length = ds.length) (d : Int) : ∀ (n : Nat) (k : Int), k + n = d →
  nF (qa (d :: ds)) (k :: fO ds.length) (((List.range (n + 1)).map fun (j : Nat) => k + (j : Int)).flatMap fun k => L.map (k :: ·))
 | 0, k, hk => by
  have hk' : k = d := Tx;subst hk';have := Ah (g := qa (k :: ds)) (e := fun l => k :: l) (b := []) (z := none) (fun a c h => by simp [qa, h]) (fun a h => by simp [qa, h]) rfl L _ hL;simpa using this
 | n + 1, k, hk => by
  rw [H0, List.flatMap_cons];have ih := vR L hL hlen d n (k + 1) Tx;exact y7 Tx ih L _ hlen hL
theorem ll : ∀ (ds : List Int) (l : List Int), l ∈ eG ds → l.length = ds.length
 | [], l, h => by simp [eG] at h; simp [h]
 | d :: ds, l, h => by
  simp only [eG, List.mem_flatMap, List.mem_map] at h;obtain ⟨k, _, l', h2, rfl⟩ := h;simp [ll ds l' h2]
theorem y8 : ∀ ds : List Int, (∀ d ∈ ds, 0 ≤ d) → nF (qa ds) (fO ds.length) (eG ds)
 | [], _ => ⟨rfl, rfl⟩
 | d :: ds, h => by
  have h0 := h d List.mem_cons_self;have := vR (eG ds) (y8 ds fun x hx => h x (List.mem_cons_of_mem _ hx)) (ll ds) d d.toNat 0 Tx;simpa [eG, kQ, fO, List.replicate_succ] using this
theorem qb (d : Int) : ∀ ds : List Int, eG (ds ++ [d]) = (eG ds).flatMap fun p => (kQ d).map fun k => p ++ [k]
 | [] => by simp only [List.nil_append, eG, List.flatMap_cons, List.flatMap_nil, List.append_nil, List.map_cons, List.map_nil]; induction kQ d with
  | nil => rfl
  | cons a l ih => simp [ih]
 | e :: ds => by
  simp only [List.cons_append, eG, qb d ds, List.map_flatMap, List.flatMap_assoc, List.flatMap_map, List.map_map, Function.comp_def]
theorem rg : ∀ (ds : List Int), (∀ d ∈ ds, 0 ≤ d ∧ d ≤ 127) → ∀ l ∈ eG ds, l.all cw = true
 | [], _, l, h => by simp [eG] at h; simp [h]
 | d :: ds, hd, l, h => by
  simp only [eG, kQ, List.mem_flatMap, List.mem_map, List.mem_range] at h;obtain ⟨_, ⟨k, hk, rfl⟩, l', h2, rfl⟩ := h;have := hd d List.mem_cons_self;rw [List.all_cons, rg ds (fun x hx => hd x (List.mem_cons_of_mem _ hx)) l' h2];simp [cw]; omega
theorem rh (d : Int) : (kQ d).length = d.toNat + 1 := by simp [kQ]
theorem qK (d : Int) (ds : List Int) : (eG (ds ++ [d])).length = (eG ds).length * (d.toNat + 1) := by
 rw [qb, List.length_flatMap];simp only [List.length_map, rh]
 induction eG ds with
 | nil => simp
 | cons a l ih => simp [ih, Nat.add_mul]; omega
def yj : Int → List Int → Bool
 | _, [] => true
 | n, d :: ds => decide (0 ≤ d) && (decide (d ≤ 127) && (decide (n * (d + 1) ≤ 65536) && yj (n * (d + 1)) ds))
def fX (l : List Int) : ByteArray := str (l.map xM)
def yy (ds : List Int) : List ByteArray := if yj 1 ds then (eG ds).map fX else []
theorem Ai : ∀ ds : List Int, 0 < (eG ds).length
 | [] => by simp [eG]
 | d :: ds => by
  simp only [eG, kQ, List.length_flatMap];rw [List.range_succ_eq_map];have := Ai ds;simp; omega
theorem Hi : ∀ (ds : List Int) (n : Int), yj n ds = true → ∀ d ∈ ds, 0 ≤ d ∧ d ≤ 127
 | [], _, _, d, h => by simp at h
 | e :: ds, n, h, d, hd => by
  simp only [yj, Bool.and_eq_true, decide_eq_true_eq] at h
  rcases List.mem_cons.1 hd with rfl | hd
  ·exact ⟨h.1, h.2.1⟩
  ·exact Hi ds _ h.2.2.2 d hd
theorem IE {ds : List Int} {k : Nat} {d n : Int} (hk : ds[k]? = some d) (h : yj 1 ds = yj n (ds.drop k)) (hb : (0 ≤ d ∧ d ≤ 127) ∧ n * (d + 1) ≤ 65536) :
  yj 1 ds = yj (n * (d + 1)) (ds.drop (k + 1)) := by
 obtain ⟨hlt, he⟩ := List.getElem?_eq_some_iff.1 hk;rw [h, List.drop_eq_getElem_cons hlt, he];simp [yj, hb.1.1, hb.1.2, hb.2]
theorem zA {ds : List Int} {k : Nat} {d n : Int} (hk : ds[k]? = some d) (h : yj 1 ds = yj n (ds.drop k)) (hb : ¬ ((0 ≤ d ∧ d ≤ 127) ∧ n * (d + 1) ≤ 65536)) : yj 1 ds = false := by
 obtain ⟨hlt, he⟩ := List.getElem?_eq_some_iff.1 hk;rw [h, List.drop_eq_getElem_cons hlt, he];simp only [yj, Bool.and_eq_false_iff, decide_eq_false_iff_not]
 rcases Classical.em (0 ≤ d) with h1 | h1 <;> rcases Classical.em (d ≤ 127) with h2 | h2
 ·exact .inr (.inr (.inl Tx))
 ·exact .inr (.inl h2)
 ·exact .inl h1
 ·exact .inl h1
theorem kW {ds : List Int} {k : Nat} {d : Int} (hk : ds[k]? = some d) (h0 : 0 ≤ d) : ((eG (ds.take (k + 1))).length : Int) = (eG (ds.take k)).length * (d + 1) := by
 rw [ay hk, qK, Int.natCast_mul];congr 1;omega
def gX (d : Int) (s : ByteArray) : List ByteArray := (kQ d).map fun q => s ++ str [xM q]
theorem I3 (d k : Int) : ∀ (ps es : List Int) (ds ls : List Int), ps.length = es.length → qa ds ls = none → qa (es ++ d :: ds) (ps ++ k :: ls) = if k < d then some (ps ++ (k + 1) :: fO ls.length) else qa (es ++ d :: ds) (ps ++ k :: ls)
 | [], [], ds, ls, _, h => by
  simp only [List.nil_append, qa, h];split <;> rfl
 | p :: ps, e :: es, ds, ls, hl, h => by
  have ih := I3 d k ps es ds ls (by simpa using hl) h;split
  ·rename_i hk;rw [if_pos hk] at ih;simp only [List.cons_append, qa, ih]
  ·rfl
 | [], _ :: _, _, _, hl, _ => by simp at hl
 | _ :: _, [], _, _, hl, _ => by simp at hl
theorem IZ {d k : Int} {ds ls : List Int} (h : qa ds ls = none) (hk : ¬ k < d) : qa (d :: ds) (k :: ls) = none := by
 simp [qa, h, hk]
theorem Hp.swap {w0 w : World} {x y : HE} {H : List HE} (h : Hp w0 (x :: y :: H) w) : Hp w0 (y :: x :: H) w := h.perm (.swap y x H)
def nB (ls : List Int) (k n : Nat) : List Int := ls.take k ++ fO (n - k)
theorem Ho {ls : List Int} {n : Nat} (h : ls.length = n) : nB ls n n = ls := by
 unfold nB; rw [List.take_of_length_le Tx, Nat.sub_self]; simp [fO]
theorem Ky {ls : List Int} {n k : Nat} (h : ls.length = n) (hk : k ≤ n) : (nB ls k n).length = n := by
 simp [nB, fO]; omega
theorem Oy {ls : List Int} {n k : Nat} {x : Int} (hx : ls[k]? = some x) : (nB ls (k + 1) n)[k]? = some x := by
 have hlt := (List.getElem?_eq_some_iff.1 hx).1;unfold nB;rw [List.getElem?_append_left (by simp; omega), List.getElem?_take];simp [hx]
theorem EC {ls : List Int} {n k : Nat} (y : Int) (h : ls.length = n) (hk : k < n) : cm (bF (nB ls (k + 1) n)) k [.int .i64 y] = bF (ls.take k ++ y :: fO (n - (k + 1))) := by
 have e1 : (nB ls (k + 1) n).take k = ls.take k := by
  unfold nB;rw [List.take_append_of_le_length (by simp; omega), List.take_take];congr 1; omega
 have e2 : (nB ls (k + 1) n).drop (k + 1) = fO (n - (k + 1)) := by
  unfold nB;have hl : (ls.take (k + 1)).length = k + 1 := by simp; omega
  rw [List.drop_append, hl, List.drop_of_length_le Tx];simp
 simp only [cm, bF, ← List.map_take, ← List.map_drop, List.length_cons, List.length_nil, Nat.zero_add, e1, e2];simp
theorem G6 {ls : List Int} {n k : Nat} (hk : k < n) : ls.take k ++ 0 :: fO (n - (k + 1)) = nB ls k n := by
 unfold nB fO;rw [show n - k = (n - (k + 1)) + 1 by omega, List.replicate_succ]
theorem JW {ds ls : List Int} {n k : Nat} {d x : Int} (hd : ds.length = n) (hl : ls.length = n) (hdk : ds[k]? = some d) (hlk : ls[k]? = some x) (h : qa (ds.drop (k + 1)) (ls.drop (k + 1)) = none) (hx : x < d) :
  qa ds ls = some (ls.take k ++ (x + 1) :: fO (n - (k + 1))) := by
 obtain ⟨h1, h2⟩ := List.getElem?_eq_some_iff.1 hdk;obtain ⟨h3, h4⟩ := List.getElem?_eq_some_iff.1 hlk;have := I3 d x (ls.take k) (ds.take k) _ _ (by simp; omega) h;rw [if_pos hx] at this;have e1 : ds.take k ++ d :: ds.drop (k + 1) = ds := by rw [← h2, ← List.drop_eq_getElem_cons h1, List.take_append_drop]
 have e2 : ls.take k ++ x :: ls.drop (k + 1) = ls := by rw [← h4, ← List.drop_eq_getElem_cons h3, List.take_append_drop]
 rw [e1, e2] at this;rw [this, List.length_drop, hl]
theorem IF {ds ls : List Int} {k : Nat} {d x : Int} (hdk : ds[k]? = some d) (hlk : ls[k]? = some x) (h : qa (ds.drop (k + 1)) (ls.drop (k + 1)) = none) (hx : ¬ x < d) : qa (ds.drop k) (ls.drop k) = none := by
 obtain ⟨h1, h2⟩ := List.getElem?_eq_some_iff.1 hdk;obtain ⟨h3, h4⟩ := List.getElem?_eq_some_iff.1 hlk;rw [List.drop_eq_getElem_cons h1, List.drop_eq_getElem_cons h3, h2, h4];exact IZ h hx
theorem A5 {ls : List Int} (h : ls.all cw = true) {k : Nat} {x : Int} (hx : ls[k]? = some x) : 0 ≤ x ∧ x ≤ 127 := by
 have := List.all_eq_true.1 h x (List.mem_of_getElem? hx);simpa [cw] using this
def bin : Nat → Nat → Nat
 | _, 0 => 1
 | 0, _ + 1 => 0
 | n + 1, k + 1 => bin n k + bin n (k + 1)
theorem mU (n : Nat) : bin n 0 = 1 := by cases n <;> rfl
theorem sg : ∀ {n k : Nat}, n < k → bin n k = 0
 | 0, k + 1, _ => rfl
 | n + 1, k + 1, h => by rw [bin, sg (show n < k by omega), sg (show n < k + 1 by omega)]
theorem yT : ∀ n, bin n n = 1
 | 0 => rfl
 | n + 1 => by rw [bin, yT n, sg (show n < n + 1 by omega)]
theorem yH : ∀ n k : Nat, bin n k ≤ 2 ^ n
 | n, 0 => by rw [mU]; exact Nat.pow_pos Ty
 | 0, k + 1 => Nat.zero_le _
 | n + 1, k + 1 => by
  have h1 := yH n k;have h2 := yH n (k + 1);rw [bin, Nat.pow_succ];omega
def rV (n : Nat) : List Nat := (List.range (n + 1)).map (bin n)
theorem tS (n : Nat) : (rV n).length = n + 1 := by simp [rV]
theorem yC {n k : Nat} (h : k ≤ n) : (rV n)[k]? = some (bin n k) := by
 unfold rV;exact H7
def nD (n : Nat) : Dyadic := ((n : Int) : Dyadic)
theorem EO : nD 0 = 0 := rfl
theorem tB : nD 1 = 1 := rfl
theorem yx (a b : Nat) : nD (a + b) = nD a + nD b := by
 show Dyadic.ofIntWithPrec ((a + b : Nat) : Int) 0 = Dyadic.ofIntWithPrec (a : Int) 0 + Dyadic.ofIntWithPrec (b : Int) 0;rw [ym, Int.natCast_add]
theorem JU (a b : Nat) : nD (a * b) = nD a * nD b := by
 induction a with
 | zero => rw [Nat.zero_mul, EO]; grind
 | succ a ih => rw [Nat.succ_mul, yx, yx, ih, tB]; grind
theorem NG {n k : Nat} (h : n < 2 ^ k) : Sz k (nD n) := by
 refine ⟨(n : Int) * 2 ^ k, ?_, ?_⟩
 ·have := qH (n : Int) 0 k;rw [show (0 : Int) + (k : Int) = k by omega] at this;rw [this]
  rfl
 ·rw [Int.natAbs_mul, Int.natAbs_pow, Int.natAbs_natCast, show 2 * k = k + k by omega, Nat.pow_add];exact Nat.mul_lt_mul_of_pos_right h (Nat.pow_pos Ty)
theorem oI {α β : Type} {m : Nat} (hm : 0 < m) (g : α → List β) : ∀ (l : List α) (p : Nat), (∀ a ∈ l, (g a).length = m) → (l.flatMap g)[p]? = (l[p / m]?).bind fun a => (g a)[p % m]?
 | [], p, _ => by simp
 | a :: l, p, h => by
  have ha := h a List.mem_cons_self;rw [List.flatMap_cons];by_cases hp : p < m
  ·rw [List.getElem?_append_left Tx, Nat.div_eq_of_lt hp, Nat.mod_eq_of_lt hp]
   rfl
  ·obtain ⟨q, rfl⟩ : ∃ q, p = q + m := ⟨p - m, Tx⟩;rw [List.getElem?_append_right Tx, ha, Nat.add_sub_cancel, oI hm g l q fun b hb => h b (List.mem_cons_of_mem _ hb), Nat.add_div_right _ hm, Nat.add_mod_right, List.getElem?_cons_succ]
theorem rN {α β : Type} {m : Nat} (g : α → List β) : ∀ (l : List α), (∀ a ∈ l, (g a).length = m) → (l.flatMap g).length = l.length * m
 | [], _ => by simp
 | a :: l, h => by
  rw [List.flatMap_cons, List.length_append, h a List.mem_cons_self, rN g l fun b hb => h b (List.mem_cons_of_mem _ hb), List.length_cons, Nat.succ_mul, Nat.add_comm]
def bH (l : List Nat) : List Int := l.map fun (n : Nat) => (n : Int)
theorem iC (l : List Nat) : (bH l).length = l.length := by simp [bH]
theorem iX {l : List Nat} {i n : Nat} (h : l[i]? = some n) : (bH l)[i]? = some (n : Int) := by simp [bH, h]
theorem tp : ∀ (rs : List Nat), (eG (bH rs.reverse)).length = au rs ∧ ∀ p, p < au rs → (eG (bH rs.reverse))[p]? = some (bH (cI rs p).reverse)
 | [] => ⟨rfl, fun p h => by obtain rfl : p = 0 := (by have h2 : p < 1 := h; omega); rfl⟩
 | d :: rs => by
  obtain ⟨h1, h2⟩ := tp rs;have e1 : bH (d :: rs).reverse = bH rs.reverse ++ [(d : Int)] := by simp [bH]
  have hu : (kQ (d : Int)).length = d + 1 := by rw [rh]; simp
  have hg : ∀ a ∈ eG (bH rs.reverse), ((kQ (d : Int)).map fun k => a ++ [k]).length = d + 1 := fun a _ => by rw [List.length_map, hu]
  rw [e1, qb];refine ⟨by rw [rN _ _ hg, h1, au, Nat.mul_comm], fun p hp => ?_⟩;have hq : p / (d + 1) < au rs := by rw [Nat.div_lt_iff_lt_mul Tx, Nat.mul_comm]; exact hp
  have hr : p % (d + 1) < d + 1 := Nat.mod_lt _ Tx;rw [oI Tx _ _ _ hg, h2 _ hq];show ((kQ (d : Int)).map fun k => bH (cI rs (p / (d + 1))).reverse ++ [k])[p % (d + 1)]? = _;rw [List.getElem?_map, kQ, List.getElem?_map, List.getElem?_range (by simpa using hr)];simp [cI, bH]
theorem Jy (ds : List Nat) : (eG (bH ds)).length = au ds.reverse := by
 have := (tp ds.reverse).1;rwa [List.reverse_reverse] at this
theorem Ln {ds : List Nat} {p : Nat} (h : p < au ds.reverse) : (eG (bH ds))[p]? = some (bH (cI ds.reverse p).reverse) := by
 have := (tp ds.reverse).2 p h;rwa [List.reverse_reverse] at this
theorem x6 : ∀ {ds rs : List Nat}, lZ ds rs → rs.length = ds.length
 | [], [], _ => rfl
 | _ :: _, _ :: _, h => by rw [List.length_cons, List.length_cons, x6 h.2]
theorem IV {ds rs : List Nat} {i d r : Nat} (hd : ds[i]? = some d) (hr : rs[i]? = some r) : ik (ds.take (i + 1)).reverse (rs.take (i + 1)).reverse = r + (d + 1) * ik (ds.take i).reverse (rs.take i).reverse := by
 rw [ay hd, ay hr];simp [ik]
theorem Jv {ds : List Nat} {i d : Nat} (hd : ds[i]? = some d) : au (ds.take (i + 1)).reverse = (d + 1) * au (ds.take i).reverse := by
 rw [ay hd];simp [au]
theorem dQ (a b : List Nat) : au (a ++ b) = au a * au b := by
 induction a with
 | nil => simp [au]
 | cons d a ih => rw [List.cons_append, au, au, ih, Nat.mul_assoc]
theorem cz (ds : List Nat) : au ds.reverse = au ds := by
 induction ds with
 | nil => rfl
 | cons d ds ih => rw [List.reverse_cons, dQ, ih, au, au, au, Nat.mul_one, Nat.mul_comm]
theorem jn (ds : List Nat) (i : Nat) : au (ds.take i) ≤ au ds := by
 have : ds = ds.take i ++ ds.drop i := (List.take_append_drop i ds).symm
 calc au (ds.take i) = au (ds.take i) * 1 := (Nat.mul_one _).symm
  _ ≤ au (ds.take i) * au (ds.drop i) := Nat.mul_le_mul_left _ (cL _)
  _ = au ds := by rw [← dQ, List.take_append_drop]
theorem lk (A : Option Addr) (n c : Nat) (ds : List Int) (w : World) (hS : Sl w A n 1 (bF ds)) (hn : n ≤ 1000000) :
  Calls Tryz.prog 89 #[.slice A n c] w fun r w' => ∃ B c', r = .returned (.slice B n c') ∧ w'.ownsRow w.heap.size 3 1 (.slice B n c') n (bF ds) ∧ Below w.heap.size w w' := by
 have hh := Hp.start w
 rcases A with _ | ad
 ·have hn0 : n = 0 := by
   exact OC
  subst hn0;have hl : ds = [] := List.eq_nil_of_length_eq_zero (by simpa [bF] using hS.1);subst hl;refine aj (N := 8) (l := [.slice none 0 c]) Tryz.func89 rfl rfl (by simp) ?_;exact OX
 ·refine aj (N := 8) (l := [.slice (some ad) n c]) Tryz.func89 rfl rfl (by simp) ?_;refine sr (aL (aa (ah (sr (mL ?_)))));refine sA bg.out rfl rfl Ty ?_;refine qZ ?_;refine jL hh bg.out aN.out Ty ?_;intro b5 w5 hh;refine mL ?_;refine cJ hh (i := 0) rfl rfl rfl (hS.ext hh.below) bg.out aN.out rfl Ty ?one1 Tx Tx Ty ?kk1
  case one1 => first | rfl | assumption | exact bX _ | exact oneCells_u8s _
  exact O9
theorem yL (A : Option Addr) (n c : Nat) (xs : List NR) (w : World) (hS : Sl w A n 3 (az NR.cells xs)) (hn : n ≤ 1000000) :
  Calls Tryz.prog 102 #[.slice A n c] w fun r w' => ∃ B c', r = .returned (.slice B n c') ∧ w'.ownsRow w.heap.size 65 3 (.slice B n c') n (az NR.cells xs) ∧ Below w.heap.size w w' := by
 have hh := Hp.start w
 rcases A with _ | ad
 ·have hn0 : n = 0 := by
   exact OC
  subst hn0;have hl : xs = [] := List.eq_nil_of_length_eq_zero (by have := hS.bk NR.len Ty; omega);subst hl;refine aj (N := 8) (l := [.slice none 0 c]) Tryz.func102 rfl rfl (by simp) ?_;exact OX
 ·have hone : ((az NR.cells xs).all Value.oneCell') = true := cq NR.one _;refine aj (N := 8) (l := [.slice (some ad) n c]) Tryz.func102 rfl rfl (by simp) ?_;refine sr (aL (aa (ah (sr (mL ?_)))));refine sA bg.out rfl rfl Ty ?_;refine qZ ?_;refine jL hh bg.out aN.out Ty ?_;intro b5 w5 hh;refine mL ?_;refine cJ hh (i := 0) rfl rfl rfl (hS.ext hh.below) bg.out aN.out rfl Ty ?one2 Tx Tx Ty ?kk2
  case one2 => first | rfl | assumption | exact bX _ | exact oneCells_u8s _
  exact O9
theorem CN (A : Option Addr) (n c : Nat) (l : List Int) (g : FuncId) (cap : List Value) (p : Int → Bool) (w : World) (hS : Sl w A n 1 (bF l)) (hn : n ≤ 1000000) [ak Tryz.prog g]
  (hg : ∀ (z : Int) (w1 : World), z ∈ l → Below w.heap.size w w1 → Calls Tryz.prog g (.int .i64 z :: cap).toArray w1 fun r w' => r = .returned (.bool (p z)) ∧ Below w1.heap.size w1 w') :
  Calls Tryz.prog 172 #[.slice A n c, .func (.func g) #[] cap.toArray] w fun r w' => ∃ v, r = .returned (.int .i64 v) ∧ (0 ≤ v ↔ l.any p = true) ∧ Below w.heap.size w w' := by
 have hh := Hp.start w;have hln : l.length = n := by have := hS.1; simpa [bF] using this
 refine aj (N := 19) (l := [.slice A n c, .func (.func g) #[] cap.toArray]) Tryz.func172 rfl rfl (by simp) ?_;refine yS ?_;refine aP [4, 5, 8, 9, 10, 11, 12, 13, 14, 15, 16, 17, 18] 8
  (fun v w' => ∃ i : Nat, i ≤ n ∧ v = .int .i64 i ∧ (l.take i).any p = false ∧ Hp w [] w')
  (fun v _ => n - (intOf v).toNat) ?_ ?_
 ·exact ⟨0, Nat.zero_le _, rfl, rfl, hh⟩
 ·clear hh;rintro ρ' v w' ⟨i, hi, rfl, hall, hh⟩;by_cases hlt : i < n
  ·obtain ⟨z, hz⟩ := ao (l := l) (k := i) Tx;have hgi := cj hz;obtain ⟨ad, rfl, hr⟩ := hS.at_ Tx;have hc := fun w1 => hg z w1 (List.mem_of_getElem? hz)
   cases gz : p z with
   | true =>
    rw [gz] at hc;refine sr ?_;refine ra ?_;refine iI ?_;refine mL (mI ?_);refine cn ?_;refine tK ?_;exact Pw
   | false =>
    rw [gz] at hc;refine sr ?_;refine ra ?_;refine iI ?_;refine mL (mI ?_);refine cn ?_;refine tK ?_;exact EF
  ·exact Oq
theorem Ch (A : Option Addr) (n c : Nat) (l : List Int) (g : FuncId) (cap : List Value) (p : Int → Bool) (w : World) (hS : Sl w A n 1 (bF l)) (hn : n ≤ 1000000) [ak Tryz.prog g]
  (hg : ∀ (z : Int) (w1 : World), z ∈ l → Below w.heap.size w w1 → Calls Tryz.prog g (.int .i64 z :: cap).toArray w1 fun r w' => r = .returned (.bool (p z)) ∧ Below w1.heap.size w1 w') :
  Calls Tryz.prog 100 #[.slice A n c, .func (.func g) #[] cap.toArray] w fun r w' => r = .returned (.bool (l.any p)) ∧ Below w.heap.size w w' := by
 have hh := Hp.start w;refine aj (N := 9) (l := [.slice A n c, .func (.func g) #[] cap.toArray]) Tryz.func100 rfl rfl (by simp) ?_;refine sr (aB (aa (sr (mL ?_))));refine iI ?_;refine aE (CN A n c l g cap p _ (hS.ext hh.below) hn hg) ak.out rfl Ty ?_;exact Ok
theorem Dk (A : Option Addr) (n c : Nat) (l : List NR) (g : FuncId) (cap : List Value) (p : NR → Bool) (w : World) (hS : Sl w A n 3 (az NR.cells l)) (hn : n ≤ 1000000) [ak Tryz.prog g]
  (hg : ∀ (z : NR) (w1 : World), z ∈ l → Below w.heap.size w w1 → Calls Tryz.prog g (.agg #[.bool z.neg, .string z.bo, .int .i64 z.e] :: cap).toArray w1 fun r w' => r = .returned (.bool (p z)) ∧ Below w1.heap.size w1 w') :
  Calls Tryz.prog 193 #[.slice A n c, .func (.func g) #[] cap.toArray] w fun r w' => ∃ v, r = .returned (.int .i64 v) ∧ (0 ≤ v ↔ l.any p = true) ∧ Below w.heap.size w w' := by
 have hh := Hp.start w;have hln := hS.bk NR.len Ty;refine aj (N := 19) (l := [.slice A n c, .func (.func g) #[] cap.toArray]) Tryz.func193 rfl rfl (by simp) ?_;refine yS ?_;refine aP [4, 5, 8, 9, 10, 11, 12, 13, 14, 15, 16, 17, 18] 8
  (fun v w' => ∃ i : Nat, i ≤ n ∧ v = .int .i64 i ∧ (l.take i).any p = false ∧ Hp w [] w')
  (fun v _ => n - (intOf v).toNat) ?_ ?_
 ·exact ⟨0, Nat.zero_le _, rfl, rfl, hh⟩
 ·clear hh;rintro ρ' v w' ⟨i, hi, rfl, hall, hh⟩;by_cases hlt : i < n
  ·obtain ⟨z, hz⟩ := ao (l := l) (k := i) Tx;obtain ⟨ad, rfl, hr⟩ := hS.at_ Tx;have hc := fun w1 => hg z w1 (List.mem_of_getElem? hz)
   cases gz : p z with
   | true =>
    rw [gz] at hc;refine sr ?_;refine ra ?_;refine iI ?_;refine mL (mI ?_);refine cn ?_;refine ct (vs := [_, _, _]) aN.out rfl ((hr.ext hh.below).recAt NR.len hz) rfl Ty ?_;exact Pw
   | false =>
    rw [gz] at hc;refine sr ?_;refine ra ?_;refine iI ?_;refine mL (mI ?_);refine cn ?_;refine ct (vs := [_, _, _]) aN.out rfl ((hr.ext hh.below).recAt NR.len hz) rfl Ty ?_;exact EF
  ·exact Oq
theorem CX (A : Option Addr) (n c : Nat) (l : List NR) (g : FuncId) (cap : List Value) (p : NR → Bool) (w : World) (hS : Sl w A n 3 (az NR.cells l)) (hn : n ≤ 1000000) [ak Tryz.prog g]
  (hg : ∀ (z : NR) (w1 : World), z ∈ l → Below w.heap.size w w1 → Calls Tryz.prog g (.agg #[.bool z.neg, .string z.bo, .int .i64 z.e] :: cap).toArray w1 fun r w' => r = .returned (.bool (p z)) ∧ Below w1.heap.size w1 w') :
  Calls Tryz.prog 130 #[.slice A n c, .func (.func g) #[] cap.toArray] w fun r w' => r = .returned (.bool (l.any p)) ∧ Below w.heap.size w w' := by
 have hh := Hp.start w;refine aj (N := 9) (l := [.slice A n c, .func (.func g) #[] cap.toArray]) Tryz.func130 rfl rfl (by simp) ?_;refine sr (aB (aa (sr (mL ?_))));refine iI ?_;refine aE (Dk A n c l g cap p _ (hS.ext hh.below) hn hg) ak.out rfl Ty ?_;exact Ok
def ij : Int → List Int → Int
 | n, [] => n
 | n, d :: ds => if d < 0 ∨ 127 < d ∨ 4096 < n * (d + 1) then 0 else ij (n * (d + 1)) ds
def xR : Int → List Int → Int
 | n, [] => n
 | n, d :: ds => xR (min (n * (d + 1)) 4097) ds
def tW (ds : List Int) : Int := if ds.any (fun d => !cw d) then -1 else xR 1 ds
def xr (a : NR) : Bool := !(((nR a.d).neg == a.neg && (nR a.d).bo == a.bo) && (nR a.d).e == a.e)
theorem sQ {a : NR} : xr a = false ↔ nR a.d = a := by
 unfold xr;rw [Bool.not_eq_false', nc]
def fE (ds : List Int) (cs : List NR) : Int :=
 if 12 < ds.length ∨ ds.any (fun d => !cw d) = true then 1 else if ij 1 ds = 0 then 3 else if (cs.length : Int) ≠ ij 1 ds then 1 else if cs.any xr = true then 1 else 0
theorem vQ {ds : List Int} (h : ds.any (fun d => !cw d) = false) : ∃ ns : List Nat, ds = bH ns ∧ ∀ n ∈ ns, n ≤ 127 := by
 refine ⟨ds.map Int.toNat, ?_, fun n hn => ?_⟩
 ·unfold bH;rw [List.map_map];refine (List.map_id' ds).symm.trans (List.map_congr_left fun d hd => ?_);have := List.any_eq_false.1 h d hd;simp [cw] at this;show d = ((d.toNat : Nat) : Int);omega
 ·obtain ⟨d, hd, rfl⟩ := List.mem_map.1 hn;have := List.any_eq_false.1 h d hd;simp [cw] at this;omega
theorem CJ {ns : List Nat} (h : ∀ n ∈ ns, n ≤ 127) : (bH ns).any (fun d => !cw d) = false := by
 rw [List.any_eq_false];intro d hd;obtain ⟨n, hn, rfl⟩ := List.mem_map.1 hd;have := h n hn;simp [cw];omega
theorem j2 : ∀ (ns : List Nat) (n : Nat), 1 ≤ n → n ≤ 4096 → (∀ d ∈ ns, d ≤ 127) → ij n (bH ns) = if n * au ns ≤ 4096 then ((n * au ns : Nat) : Int) else 0
 | [], n, _, h, _ => by show (n : Int) = _; rw [au, Nat.mul_one, if_pos h]
 | d :: ns, n, h1, h2, h3 => by
  show (if (d : Int) < 0 ∨ 127 < (d : Int) ∨ 4096 < (n : Int) * ((d : Int) + 1) then 0 else ij ((n : Int) * ((d : Int) + 1)) (bH ns)) = _;have hd := h3 d List.mem_cons_self;have e1 : (n : Int) * ((d : Int) + 1) = ((n * (d + 1) : Nat) : Int) := by rw [Int.natCast_mul, Int.natCast_add]; rfl
  rw [e1];by_cases hg : n * (d + 1) ≤ 4096
  ·rw [if_neg Tx, j2 ns (n * (d + 1)) (Nat.mul_pos h1 Tx) hg fun x hx => h3 x (List.mem_cons_of_mem _ hx), au, Nat.mul_assoc]
  ·have h4 : n * (d + 1) * 1 ≤ n * (d + 1) * au ns := Nat.mul_le_mul_left _ (cL ns);rw [if_pos Tx, if_neg];rw [au, ← Nat.mul_assoc];omega
theorem z9 : ∀ (ns : List Nat) (n : Nat), 1 ≤ n → n ≤ 4097 → xR n (bH ns) = ((min (n * au ns) 4097 : Nat) : Int)
 | [], n, _, h => by show (n : Int) = _; rw [au, Nat.mul_one, Nat.min_eq_left h]
 | d :: ns, n, h1, h2 => by
  show xR (min ((n : Int) * ((d : Int) + 1)) 4097) (bH ns) = _;have e1 : min ((n : Int) * ((d : Int) + 1)) 4097 = ((min (n * (d + 1)) 4097 : Nat) : Int) := by
   have : (n : Int) * ((d : Int) + 1) = ((n * (d + 1) : Nat) : Int) := by rw [Int.natCast_mul, Int.natCast_add]; rfl
   rw [this]; omega
  have hp := Nat.mul_pos h1 (show 0 < d + 1 by omega);rw [e1, z9 ns _ Tx Tx, au, ← Nat.mul_assoc];by_cases hg : n * (d + 1) ≤ 4097
  ·rw [Nat.min_eq_left hg]
  ·have h4 : n * (d + 1) * 1 ≤ n * (d + 1) * au ns := Nat.mul_le_mul_left _ (cL ns);have h5 : 4097 * 1 ≤ 4097 * au ns := Nat.mul_le_mul_left _ (cL ns);rw [Nat.min_eq_right (by omega : 4097 ≤ n * (d + 1)), Nat.min_eq_right Tx, Nat.min_eq_right Tx]
theorem Fa : ∀ (ds : List Int) (n : Int), 1 ≤ n → n ≤ 4096 → 0 ≤ ij n ds ∧ ij n ds ≤ 4096
 | [], n, _, h => by show 0 ≤ n ∧ n ≤ 4096; omega
 | d :: ds, n, h1, h2 => by
  rw [ij];split
  ·omega
  ·rename_i hg;have : 1 * 1 ≤ n * (d + 1) := Int.mul_le_mul h1 Tx Ty Tx;exact Fa ds _ Tx Tx
structure FV (ds : List Int) (cs : List NR) (ns : List Nat) (xs : List Dyadic) : Prop where
 Tk : ds = bH ns
 num : cs = xs.map nR
 Oz : ns.length ≤ 12
 low : ∀ n ∈ ns, n ≤ 127
 len : xs.length = au ns
 max : au ns ≤ 4096
theorem Rk {ds : List Int} {cs : List NR} (h : fE ds cs = 0) : ∃ ns xs, FV ds cs ns xs ∧ xs = cs.map NR.d := by
 unfold fE at h;split at h
 ·cases h
 rename_i h1;split at h
 ·cases h
 rename_i h2;split at h
 ·cases h
 rename_i h3;split at h
 ·cases h
 rename_i h4;have hb : ds.any (fun d => !cw d) = false := by
  cases hx : ds.any (fun d => !cw d) with
  | false => rfl
  | true => exact absurd (.inr hx) h1
 obtain ⟨ns, rfl, hl⟩ := vQ hb;have hc := j2 ns 1 Ty Ty hl;rw [Nat.one_mul] at hc;have hc1 : ij ((1 : Nat) : Int) (bH ns) = ij 1 (bH ns) := rfl;rw [hc1] at hc;have hmax : au ns ≤ 4096 := by
  apply Classical.byContradiction;intro hg;rw [if_neg hg] at hc;exact h2 hc
 rw [if_pos hmax] at hc;have hlen : cs.length = au ns := by
  have : (cs.length : Int) = ij 1 (bH ns) := Classical.not_not.1 h3;rw [hc] at this;omega
 refine ⟨ns, cs.map NR.d, ⟨rfl, ?_, (by have h2 : ¬ 12 < (bH ns).length := fun h => h1 (.inl h); rw [iC] at h2; omega), hl, by rw [List.length_map, hlen], hmax⟩, rfl⟩;rw [List.map_map];refine (List.map_id' cs).symm.trans (List.map_congr_left fun a ha => ?_);have h5 : xr a = false := by
  cases hx : xr a with
  | false => rfl
  | true => exact absurd (List.any_eq_true.2 ⟨a, ha, hx⟩) h4
 exact (sQ.1 h5).symm
theorem ej (A : Option Addr) (n c : Nat) (ds : List Int) (w : World) (hS : Sl w A n 1 (bF ds)) (hn : n ≤ 1000000) :
  Calls Tryz.prog 90 #[.slice A n c] w fun r w' => r = .returned (.int .i64 (ij 1 ds)) ∧ Below w.heap.size w w' := by
 have hh := Hp.start w;have hln : ds.length = n := by have := hS.1; simpa [bF] using this
 refine aj (N := 31) (l := [.slice A n c]) Tryz.func90 rfl rfl (by simp) ?_;refine sr (aI (aa (sr (aI (aa (ah (sr (mL (aJ (mI (aa (aq ?_))))))))))));refine bJ [2, 3, 5, 8, 9, 10, 11, 12, 13, 14, 15, 16, 17, 18, 19, 20, 21, 22, 23, 24, 25, 26, 27, 28, 29] 3 8
  (fun v3 v w' => ∃ (i : Nat) (q : Int), i ≤ n ∧ v = .int .i64 i ∧ v3 = .int .i64 q ∧ 1 ≤ q ∧ q ≤ 4096 ∧ ij 1 ds = ij q (ds.drop i) ∧ Hp w [] w')
  (fun _ v _ => n - (intOf v).toNat) ?_ ?_
 ·exact ⟨0, 1, Nat.zero_le _, rfl, rfl, Tx, Tx, rfl, hh⟩
 ·clear hh;rintro ρ' v3 v w' ⟨i, q, hi, rfl, rfl, hq1, hq2, hc, hh⟩;by_cases hlt : i < n
  ·obtain ⟨d, hd⟩ := ao (l := ds) (k := i) Tx;have hgi := cj hd;obtain ⟨ad, rfl, hr⟩ := hS.at_ Tx;rw [gH hd, ij] at hc;by_cases h1 : d < 0
   ·rw [if_pos (.inl h1)] at hc;refine sr ?_;refine dH ?_;refine cn ?_;refine tK ?_;refine aI (aa (ah (sr (mI ?_))));refine bf (mB ?_);refine gS (gS ?_);refine fu ?_;refine mB ?_;refine gS (gS (gS (gS (gS ?_))));refine fu ?_;exact OR
   ·by_cases h2 : 127 < d
    ·rw [if_pos (.inr (.inl h2))] at hc;refine sr ?_;refine dH ?_;refine cn ?_;refine tK ?_;refine aI (aa (ah (sr (mI ?_))));refine bf (mB (gT (mI (gT ?_))));refine bM ?_;refine dK ?_;refine mB ?_;refine gS (gS (gS (gS (gS ?_))));refine fu ?_;exact OR
    ·have hm1 : 1 * 1 ≤ q * (d + 1) := Int.mul_le_mul hq1 Tx Ty Tx;have hm2 : q * (d + 1) ≤ 4096 * 128 := Int.mul_le_mul hq2 Tx Tx Ty;by_cases h3 : 4096 < q * (d + 1)
     ·rw [if_pos (.inr (.inr h3))] at hc;refine sr ?_;refine dH ?_;refine cn ?_;refine tK ?_;refine aI (aa (ah (sr (mI ?_))));refine bf (mB (gT (mI (gT ?_))));refine bM ?_;refine dK ?_;refine mB (gT (mI (gT (mI (gT ?_)))));refine bh (gT ?_);refine mulC (gT ?_);refine bM ?_;refine dK ?_;exact OR
     ·rw [if_neg Tx] at hc;refine sr ?_;refine dH ?_;refine cn ?_;refine tK ?_;refine aI (aa (ah (sr (mI ?_))));refine bf (mB (gT (mI (gT ?_))));refine bM ?_;refine dK ?_;refine mB (gT (mI (gT (mI (gT ?_)))));refine bh (gT ?_);refine mulC (gT ?_);refine bM ?_;refine dK ?_;refine aa (cF (ar (ai (al (mI (mI ?_))))));refine bh ?_;refine mulC (aI (aA (bA (ai (al ?_)))));refine bh (mI (aA (ai ?_)));refine ⟨⟨i + 1, _, Tx, rfl, rfl, Tx, Tx, hc, hh⟩, by show n - (i + 1) < n - i; omega, ?_⟩;exact dL
  ·rw [List.drop_of_length_le Tx] at hc;refine sr ?_;refine bf (aa (ah (cF (aZ (aD (aD (bq (ai (sr (mI (aI (aa (av ?_)))))))))))));refine cX ?_;exact ⟨by rw [hc]; rfl, hh.below⟩
theorem BV (d : Int) (w : World) :
  Calls Tryz.prog 129 #[.int .i64 d] w fun r w' => r = .returned (.bool (!cw d)) ∧ Below w.heap.size w w' := by
 have hh := Hp.start w;by_cases h1 : d < 0
 ·refine aj (N := 9) (l := [.int .i64 d]) Tryz.func129 rfl rfl (by simp) ?_;refine sr (aB (aa (sr (mI ?_))));refine bf (mB ?_);refine gS (gS ?_);refine fu ?_;refine aB (aa (av ?_));refine cX ?_;refine ⟨?_, hh.below⟩;unfold cw;rw [decide_eq_false (show ¬ 0 ≤ d by omega)]
  rfl
 ·by_cases h2 : 127 < d
  ·refine aj (N := 9) (l := [.int .i64 d]) Tryz.func129 rfl rfl (by simp) ?_;refine sr (aB (aa (sr (mI ?_))));refine bf (mB (gT (mI (gT ?_))));refine bM ?_;refine dK ?_;refine aB (aa (av ?_));refine cX ?_;refine ⟨?_, hh.below⟩;unfold cw;rw [decide_eq_false (show ¬ d ≤ 127 by omega), Bool.and_false]
   rfl
  ·refine aj (N := 9) (l := [.int .i64 d]) Tryz.func129 rfl rfl (by simp) ?_;refine sr (aB (aa (sr (mI ?_))));refine bf (mB (gT (mI (gT ?_))));refine bM ?_;refine dK ?_;refine aB (aa (av ?_));refine cX ?_;refine ⟨?_, hh.below⟩;unfold cw;rw [decide_eq_true (show 0 ≤ d by omega), decide_eq_true (show d ≤ 127 by omega)]
   rfl
theorem C1 (a : NR) (w : World) (hT : ee w) (ha : a.ok) :
  Calls Tryz.prog 131 #[.agg #[.bool a.neg, .string a.bo, .int .i64 a.e]] w fun r w' => r = .returned (.bool (xr a)) ∧ Below w.heap.size w w' := by
 have hh := Hp.start w;have hf := fun w1 hT1 => ep a w1 hT1 (by have := ha.1; omega) (by have := ha.2; omega) (by have := ha.2; omega)
 cases hx : xr a with
 | false =>
  have he := sQ.1 hx;refine aj (N := 7) (l := [.agg #[.bool a.neg, .string a.bo, .int .i64 a.e]]) Tryz.func131 rfl rfl (by simp) ?_;refine sr ?_;refine cx hh [_,_,_] ?_;intro b1 w1 hh;refine aB (aa (ah ?_));refine aY 3 [[(1, none)], [(3, some 0)], [(1, none)]] [(2, 5), (1, 4), (0, 3)] hh mixed Tz ?_;refine fT 0 [_,_,_] ?_;refine dC (fun _ hj => hf _ (hT.hp hj.hp)) ?_;refine fT 0 [_,_,_] ?_;refine aT ?_;intro f W hJ hV;have hb_1 := hJ.bl;obtain ⟨v5, v4, v3, _⟩ := hV;replace hh := hJ.hp;refine a6 (bm (ae v5 (ae v4 (ae v3 a0)))) ?_;dsimp only [cg];clear hJ;refine xL rfl rfl (by first | assumption | rfl) Ty ?_;exact vi
 | true =>
  have he : ¬ nR a.d = a := fun h => by rw [sQ.2 h] at hx; cases hx
  refine aj (N := 7) (l := [.agg #[.bool a.neg, .string a.bo, .int .i64 a.e]]) Tryz.func131 rfl rfl (by simp) ?_;refine sr ?_;refine cx hh [_,_,_] ?_;intro b1 w1 hh;refine aB (aa (ah ?_));refine aY 3 [[(1, none)], [(3, some 0)], [(1, none)]] [(2, 5), (1, 4), (0, 3)] hh mixed Tz ?_;refine fT 0 [_,_,_] ?_;refine dC (fun _ hj => hf _ (hT.hp hj.hp)) ?_;refine fT 0 [_,_,_] ?_;refine aT ?_;intro f W hJ hV;have hb_1 := hJ.bl;obtain ⟨v5, v4, v3, _⟩ := hV;replace hh := hJ.hp;refine a6 (bm (ae v5 (ae v4 (ae v3 a0)))) ?_;dsimp only [cg];clear hJ;refine EH rfl rfl (by assumption) Ty ?_;exact vi
theorem vh (A B : Option Addr) (n c m c2 : Nat) (ds : List Int) (cs : List NR) (w : World) (hT : ee w) (hS : Sl w A n 1 (bF ds)) (hS2 : Sl w B m 3 (az NR.cells cs)) (hn : n ≤ 1000000) (hm : m ≤ 1000000) (hc : ∀ a ∈ cs, a.ok) :
  Calls Tryz.prog 41 #[.agg #[.slice A n c, .slice B m c2]] w fun r w' => r = .returned (.int .i64 (fE ds cs)) ∧ Below w.heap.size w w' := by
 have hh := Hp.start w;have hln : ds.length = n := by have := hS.1; simpa [bF] using this
 have hlm := hS2.bk NR.len Ty;have h1 := fun w1 hS1 => Ch A n c ds 129 [] (fun d => !cw d) w1 hS1 hn (fun z w2 _ hb => BV z w2);have h2 := fun w1 (hT1 : ee w1) hS1 => CX B m c2 cs 131 [] xr w1 hS1 hm (fun z w2 hz hb => C1 z w2 (hT1.ext hb) (hc z hz));have h3 := Fa ds 1 Tx Tx;unfold fE;by_cases g1 : 12 < n
 ·refine wE ?_;refine sr ?_;refine cx hh [_,_] ?_;intro b1 w1 hh;refine uT ?_;refine bB hh 0 ?_;refine aJ ?_;refine bM (mB ?_);refine gS (gS ?_);refine iJ ?_;refine fu ?_;refine EA ?_;refine cX ?_;exact ⟨by rw [if_pos (.inl Tx)], hh.below⟩
 ·cases g2 : ds.any (fun d => !cw d) with
  | true =>
   refine wE ?_;refine sr ?_;refine cx hh [_,_] ?_;intro b1 w1 hh;refine uT ?_;refine bB hh 0 ?_;refine aJ ?_;refine bM (mB (gT (bD (gT ?_))));refine bB hh 0 ?_;refine aH rfl rfl ?_;refine bz hh (h1 _ (hS.ext hh.below)) rfl ?_;intro w11 hh;rw [g2];refine dK ?_;refine EA ?_;refine cX ?_;exact ⟨by rw [if_pos (.inr rfl)], hh.below⟩
  | false =>
   rw [if_neg (fun h => h.elim (fun h => by omega) (fun h => by cases h))];by_cases g3 : ij 1 ds = 0
   ·refine wE ?_;refine sr ?_;refine cx hh [_,_] ?_;intro b1 w1 hh;refine uT ?_;refine bB hh 0 ?_;refine aJ ?_;refine bM (mB (gT (bD (gT ?_))));refine bB hh 0 ?_;refine aH rfl rfl ?_;refine bz hh (h1 _ (hS.ext hh.below)) rfl ?_;intro w11 hh;rw [g2];refine dK ?_;refine aB (aa (cF (sr (bD ?_))));refine bB hh 0 ?_;refine EU ?_;intro w16 hh;refine cW (aB (aa (cT (sr (aI (aa (av (bY (aG ?_)))))))));refine cX ?_;exact ⟨by rw [if_pos g3], hh.below⟩
   ·rw [if_neg g3];by_cases g4 : (m : Int) = ij 1 ds
    ·rw [if_neg (show ¬ (cs.length : Int) ≠ ij 1 ds by omega)]
     cases g5 : cs.any xr with
     | true =>
      refine wE ?_;refine sr ?_;refine cx hh [_,_] ?_;intro b1 w1 hh;refine uT ?_;refine bB hh 0 ?_;refine aJ ?_;refine bM (mB (gT (bD (gT ?_))));refine bB hh 0 ?_;refine aH rfl rfl ?_;refine bz hh (h1 _ (hS.ext hh.below)) rfl ?_;intro w11 hh;rw [g2];refine dK ?_;refine aB (aa (cF (sr (bD ?_))));refine bB hh 0 ?_;refine EU ?_;intro w16 hh;refine cW (aB (aa (cF (ah ?_))));refine Jq ?_;refine dV ?_;refine fJ 0 ?_;refine CP ?_;refine dV ?_;refine fJ 0 ?_;refine dC (fun _ hj => ej A n c ds _ (hS.ext hj.hp.below) hn) ?_;refine aT ?_;intro f W hJ hV;have hb_5 := hJ.bl;obtain ⟨v24, v23, v22, v21, v20, v19, _⟩ := hV;replace hh := hJ.hp;refine Ix ?_;dsimp only [cg];clear hJ;refine cK (aB (aa (cF (ar (bA (ai (ah (sr (bD ?_)))))))));refine bB hh 0 ?_;refine bz hh (h2 _ (hT.hp hh) (hS2.ext hh.below)) rfl ?_;intro w28 hh;rw [g5];refine Ay ?_;refine cX ?_;exact ⟨by rw [if_pos rfl], hh.below⟩
     | false =>
      refine wE ?_;refine sr ?_;refine cx hh [_,_] ?_;intro b1 w1 hh;refine uT ?_;refine bB hh 0 ?_;refine aJ ?_;refine bM (mB (gT (bD (gT ?_))));refine bB hh 0 ?_;refine aH rfl rfl ?_;refine bz hh (h1 _ (hS.ext hh.below)) rfl ?_;intro w11 hh;rw [g2];refine dK ?_;refine aB (aa (cF (sr (bD ?_))));refine bB hh 0 ?_;refine EU ?_;intro w16 hh;refine cW (aB (aa (cF (ah ?_))));refine Jq ?_;refine dV ?_;refine fJ 0 ?_;refine CP ?_;refine dV ?_;refine fJ 0 ?_;refine dC (fun _ hj => ej A n c ds _ (hS.ext hj.hp.below) hn) ?_;refine aT ?_;intro f W hJ hV;have hb_5 := hJ.bl;obtain ⟨v24, v23, v22, v21, v20, v19, _⟩ := hV;replace hh := hJ.hp;refine Ix ?_;dsimp only [cg];clear hJ;refine cK (aB (aa (cF (ar (bA (ai (ah (sr (bD ?_)))))))));refine bB hh 0 ?_;refine bz hh (h2 _ (hT.hp hh) (hS2.ext hh.below)) rfl ?_;intro w28 hh;rw [g5];refine Ex ?_;refine cX ?_;exact ⟨by rw [if_neg Ty], hh.below⟩
    ·rw [if_pos (show (cs.length : Int) ≠ ij 1 ds by omega)];refine wE ?_;refine sr ?_;refine cx hh [_,_] ?_;intro b1 w1 hh;refine uT ?_;refine bB hh 0 ?_;refine aJ ?_;refine bM (mB (gT (bD (gT ?_))));refine bB hh 0 ?_;refine aH rfl rfl ?_;refine bz hh (h1 _ (hS.ext hh.below)) rfl ?_;intro w11 hh;rw [g2];refine dK ?_;refine aB (aa (cF (sr (bD ?_))));refine bB hh 0 ?_;refine EU ?_;intro w16 hh;refine cW (aB (aa (cF (ah ?_))));refine Jq ?_;refine dV ?_;refine fJ 0 ?_;refine CP ?_;refine dV ?_;refine fJ 0 ?_;refine dC (fun _ hj => ej A n c ds _ (hS.ext hj.hp.below) hn) ?_;refine aT ?_;intro f W hJ hV;have hb_5 := hJ.bl;obtain ⟨v24, v23, v22, v21, v20, v19, _⟩ := hV;replace hh := hJ.hp;refine Ix ?_;dsimp only [cg];clear hJ;refine cK (aB (aa (cT (sr (aI (aa (av (bY (aG ?_)))))))));refine cX ?_;exact ⟨rfl, hh.below⟩
def Pj : List Nat → List Nat → Bool
 | [], [] => true
 | d :: ds, r :: rs => decide (r ≤ d) && Pj ds rs
 | _, _ => false
theorem Fo : ∀ (ds rs : List Nat), Pj ds rs = true ↔ lZ ds rs
 | [], [] => by simp [Pj, lZ]
 | [], _ :: _ => by simp [Pj, lZ]
 | _ :: _, [] => by simp [Pj, lZ]
 | d :: ds, r :: rs => by rw [Pj, lZ, Bool.and_eq_true, decide_eq_true_eq, Fo ds rs]
def co (ds : List Nat) (xs : List Dyadic) (row : List Nat) : Dyadic := if Pj ds row then (xs[ik ds row]?).getD 0 else 0
theorem Fe {ds : List Nat} {xs : List Dyadic} {row : List Nat} (h : lZ ds row) : co ds xs row = (xs[ik ds row]?).getD 0 := by
 unfold co; rw [if_pos ((Fo _ _).2 h)]
theorem B2 {ds : List Nat} {xs : List Dyadic} {p : Nat} (h : p < au ds) : co ds xs (cI ds p) = (xs[p]?).getD 0 := by
 rw [Fe (nk ds p), y6 h]
theorem PU {ds : List Nat} {xs ys : List Dyadic} (hx : xs.length = au ds) (hy : ys.length = au ds) (h : ∀ row, lZ ds row → co ds xs row = co ds ys row) : xs = ys := by
 refine List.ext_getElem (by rw [hx, hy]) fun p h1 h2 => ?_;have h3 := h (cI ds p) (nk ds p);rw [B2 Tx, B2 Tx, List.getElem?_eq_getElem h1, List.getElem?_eq_getElem h2] at h3;exact h3
def CW : List Nat → List Nat → List Nat
 | a :: l, b :: m => (a + b) :: CW l m
 | _, _ => []
def RP : (List Nat → Dyadic) → List Nat → List Nat → Dyadic
 | F, r :: rs, j :: js => if j ≤ r then RP (fun t => F ((r - j) :: t)) rs js else 0
 | F, [], [] => F []
 | _, _, _ => 0
def Nf : List Nat → List Nat → Nat
 | m :: ms, j :: js => bin m j * Nf ms js
 | _, _ => 1
def Su : List Nat → (List Nat → Dyadic) → List Nat → Dyadic
 | m :: ms, F, r :: rs => sm (List.range (m + 1)) fun j => if j ≤ r then nD (bin m j) * Su ms (fun t => F ((r - j) :: t)) rs else 0
 | _, F, row => F row
def Sp (ds es : List Nat) (xs ys : List Dyadic) : List (Nat × Dyadic) :=
 (List.range (au es)).flatMap fun k => (List.range (au ds)).map fun i => (ik (CW ds es) (CW (cI ds i) (cI es k)), (xs[i]?).getD 0 * (ys[k]?).getD 0)
theorem zU (n : Nat) (f : Nat → Dyadic) : sm (List.range (n + 1)) f = f 0 + sm (List.range n) fun j => f (j + 1) := by
 induction n with
 | zero => simp only [List.range_succ, List.range_zero, List.nil_append, sm]
 | succ n ih => rw [List.range_succ, jx, ih, List.range_succ (n := n), jx]; grind
def Sh (row : List Nat) (a : Nat) : List Nat := row.set a (row.getD a 0 - 1)
def kJ (n : Nat) : List NR := (rV n).map fun k => nR (nD k)
theorem JG (n : Nat) : (kJ n).length = n + 1 := by simp [kJ, tS]
theorem j6 {n k : Nat} (h : k ≤ n) : (kJ n)[k]? = some (nR (nD (bin n k))) := by
 unfold kJ;rw [List.getElem?_map, yC h]
 rfl
theorem qz (n k : Nat) (h : n ≤ 127) : Sz 128 (nD (bin n k)) := NG (Nat.lt_of_le_of_lt (yH n k) (Nat.pow_lt_pow_right Ty Tx))
theorem kv (n : Nat) (w : World) (hT : ee w) (hn : n ≤ 127) :
  Calls Tryz.prog 135 #[.int .i64 n] w fun r w' => ∃ A c', r = .returned (.slice A (n + 1) c') ∧ w'.ownsRow w.heap.size 65 3 (.slice A (n + 1) c') (n + 1) (az NR.cells (kJ n)) ∧ Below w.heap.size w w' := by
 have hh := Hp.start w;refine aj (N := 39) (l := [.int .i64 n]) Tryz.func135 rfl rfl (by simp) ?_;refine sr (aL (aa (sr ?_)));refine Bc ?_;intro w6 hh;refine rF ?_;intro b7 w7 hh;refine aL (aa (ah (sr (mI (mI (aa (aq ?_)))))));refine bJ [3, 4, 5, 9, 10, 11, 12, 13, 14, 15, 16, 17, 18, 19, 20, 21, 22, 23, 24, 25, 26, 27, 28, 29, 30, 31, 32, 33, 34, 35, 36, 37] 3 9
  (fun v3 v w' => ∃ (i c3 : Nat) (A : Option Addr), i ≤ n ∧ v = .int .i64 i ∧ v3 = .slice A (i + 1) c3 ∧ Hp w [.row A (i + 1) c3 65 3 (az NR.cells (kJ i))] w')
  (fun _ v _ => n - (intOf v).toNat) ?_ ?_
 ·exact ⟨0, _, _, Nat.zero_le _, rfl, rfl, hh⟩
 ·clear hh;rintro ρ' v3 v w' ⟨i, c3, A, hi, rfl, rfl, hh⟩;by_cases hlt : i < n
  ·refine sr ?_;refine dH ?_;refine Bc ?_;intro w11 hh;refine rF ?_;intro b12 w12 hh;refine aL (aa (ah (sr (aI (aa (aq ?_))))));refine bJ [4, 5, 13, 14, 15, 16, 17, 18, 19, 20, 21, 22, 23, 24, 25, 26, 27, 28, 29, 30, 31, 32] 4 5
    (fun v4 v w' => ∃ (k c4 : Nat) (B : Option Addr), k ≤ i ∧ v = .int .i64 ((k + 1 : Nat) : Int) ∧ v4 = .slice B (k + 1) c4 ∧ Hp w [.row B (k + 1) c4 65 3 (az NR.cells ((kJ (i + 1)).take (k + 1))), .row A (i + 1) c3 65 3 (az NR.cells (kJ i))] w')
    (fun _ v _ => i + 1 - (intOf v).toNat) ?_ ?_
   ·refine ⟨0, _, _, Nat.zero_le _, rfl, rfl, ?_⟩;rw [show (kJ (i + 1)).take (0 + 1) = [nR (nD 1)] by rw [ay (j6 (Nat.zero_le _)), mU]; rfl];exact hh
   ·clear hh;rintro ρ2 v4 v w2 ⟨k, c4, B, hk, rfl, rfl, hh⟩;by_cases hlk : k < i
    ·have e1 := j6 (n := i) (k := k) Tx;have e2 := j6 (n := i) (k := k + 1) Tx;have e3 := j6 (n := i + 1) (k := k + 1) Tx;have z1 := qz i k Tx;have z2 := qz i (k + 1) Tx;have hadd := fun A cc w1 hT1 hS1 => gL A 2 cc [nR (nD (bin i k)), nR (nD (bin i (k + 1)))] w1 hT1 hS1 (by simpa using ⟨z1.ok Tx, z2.ok Tx⟩) 128 (by simpa [cf] using ⟨z1, z2⟩) Tx;rw [show md ([nR (nD (bin i k)), nR (nD (bin i (k + 1)))].map NR.d) = nD (bin (i + 1) (k + 1)) by simp only [List.map_cons, List.map_nil, cf, jU, bin, yx]] at hadd;obtain ⟨go, rfl⟩ := hh.cd (i := 1) rfl Tx;refine ah (sr (mI (mL (aJ ?_))));refine bf (aa (cT (ar (ai (ah (aq ?_))))));refine aY 13 [[(4, none)], [(3, none)], [(5, none)], [(21, some 2)], [(20, some 1), (22, some 3)], [(23, some 4)], [(3, none)], [(5, none)], [(25, some 6), (26, some 7)], [(27, some 8)], [(24, some 5), (28, some 9)], [(29, some 10)], [(30, some 11)]] [(12, 31), (11, 30), (10, 29), (9, 28), (8, 27), (7, 26), (6, 25), (5, 24), (4, 23), (3, 22), (2, 21), (1, 20), (0, 19)] hh mixed Tz ?_;refine gk ?_;refine gk ?_;refine dE ?_;refine uX ?_;refine BQ (k) ?_
     refine pE [_,_,_] (fun _ hj => hj.hp.eU (f := NR.cells) (x := nR (nD (bin i k))) (l := kJ i) (i := 1) rfl NR.len Ty e1) ?_;refine gk ?_;refine dE ?_;refine BQ ((k + 1)) ?_;refine pE [_,_,_] (fun _ hj => hj.hp.eU (f := NR.cells) (x := nR (nD (bin i (k + 1)))) (l := kJ i) (i := 1) rfl NR.len Ty e2) ?_;refine sC [_,_,_,_,_,_] ?_;refine aR (i := 11) (Is (.agg #[.bool (nR (nD (bin (i + 1) (k + 1)))).neg, .string (nR (nD (bin (i + 1) (k + 1)))).bo, .int .i64 (nR (nD (bin (i + 1) (k + 1)))).e])) Is.ext ?_ ?_
     ·intro ρ1 w1 hj hR;obtain ⟨A29, c29, h29, s29⟩ := hR.1;exact a8 rfl (aM ak.out (aw h29 aX)) (hadd A29 c29 _ (hT.hp hj.hp) s29) (fun _ _ hq => ⟨_, hq.1, hq.2, rfl⟩)
     refine sC [_,_,_] ?_;refine aT ?_;intro f W hJ hV;have hb_8 := hJ.bl;obtain ⟨v31, v30, v29, v28, v27, v26, v25, v24, v23, v22, v21, v20, v19, _⟩ := hV;obtain ⟨A29, c29, e29, f29⟩ : Rows _ _ _ (f 10) W := v29;obtain ⟨A31, c31, e31, f31⟩ : Rows _ _ _ (f 12) W := v31;replace hh := hJ.hp;refine a6 (bm (ae e31 (ae v30 (ae e29 (ae v28 (ae v27 (ae v26 (ae v25 (ae v24 (ae v23 (ae v22 (ae v21 (ae v20 (ae v19 a0)))))))))))))) ?_;dsimp only [cg];clear e29 e31 hJ;refine cJ hh (i := 0) rfl rfl rfl (f31) bg.out aN.out rfl Ty (by first | rfl | exact dN _ | exact dm _ | exact bX _ | exact cq NR.one _) Tx Tx Ty ?_;intro A32 c32 w32 hh;simp only [List.set_cons_zero] at hh;refine wR ?_;refine bh (aI (aA (ai ?_)));replace hh := hh.sub (List.Sublist.cons_cons _ (List.Sublist.cons_cons _ List.Sublist.slnil));refine ⟨⟨k + 1, c32, A32, Tx, rfl, rfl, ?_⟩, by show i + 1 - (k + 1 + 1) < i + 1 - (k + 1); omega, ?_⟩
     ·rw [ay e3, bV];exact hh
     ·exact dL
    ·obtain rfl : k = i := Tx;have e3 := j6 (n := k + 1) (k := k + 1) (Nat.le_refl _);refine ah (sr (mI (mL (aJ ?_))));refine bf (aa (cF (aZ (aD (aD (bq (ai (al (mL ?_)))))))));refine Bc ?_;intro w34 hh;refine rF ?_;intro b35 w35 hh;refine o7 ?_;intro A36 c36 w36 hh;simp only [List.set_cons_zero, List.set_cons_succ] at hh;replace hh := hh.sub (List.sublist_cons_self _ _);refine k8 ?_;refine bh (mI (aA (ai ?_)));replace hh := hh.sub (List.Sublist.cons_cons _ (List.Sublist.cons _ List.Sublist.slnil));refine ⟨⟨k + 1, c36, A36, Tx, rfl, rfl, ?_⟩, by show n - (k + 1) < n - k; omega, ?_⟩
     ·have e4 : kJ (k + 1) = (kJ (k + 1)).take (k + 1) ++ [nR (nD (bin (k + 1) (k + 1)))] := by
       rw [← ay e3, List.take_of_length_le (by rw [JG]; omega)]
      rw [e4, bV, yT];exact hh
     ·exact dL
  ·obtain rfl : i = n := Tx;exact OW
def yo (ds : List Nat) : List Nat := (List.range (au ds.reverse)).map fun p => Nf ds.reverse (cI ds.reverse p)
theorem I8 (ds : List Nat) (d : Nat) : yo (ds ++ [d]) = (yo ds).flatMap fun x => (rV d).map (x * ·) := by
 have hl : ∀ a ∈ yo ds, ((rV d).map (a * ·)).length = d + 1 := fun a _ => by rw [List.length_map, tS]
 refine List.ext_getElem? fun p => ?_;rw [oI Tx _ _ _ hl];unfold yo;rw [List.reverse_append, List.reverse_singleton, List.singleton_append];by_cases hp : p < au (d :: ds.reverse)
 ·have hq : p / (d + 1) < au ds.reverse := by rw [Nat.div_lt_iff_lt_mul Tx, Nat.mul_comm]; exact hp
  have hr : p % (d + 1) ≤ d := by have := Nat.mod_lt p (show 0 < d + 1 by omega); omega
  rw [List.getElem?_map, List.getElem?_range hp, List.getElem?_map, List.getElem?_range hq];simp only [Option.map_some, Option.bind_some, List.getElem?_map, yC hr, cI, Nf, Nat.mul_comm]
 ·have hq : ¬ p / (d + 1) < au ds.reverse := by rw [Nat.div_lt_iff_lt_mul Tx, Nat.mul_comm]; exact hp
  rw [List.getElem?_eq_none (by simp; omega), List.getElem?_eq_none (l := List.map _ _) (by simp; omega)]
  rfl
theorem si (ds : List Nat) : (yo ds).length = au ds := by simp [yo, cz]
def E6 (ds : List Nat) : List NR := (yo ds).map fun k => nR (nD k)
theorem IY : ∀ (ds row : List Nat), (∀ d ∈ ds, d ≤ 127) → Nf ds row ≤ 2 ^ (127 * ds.length)
 | [], _, _ => by show 1 ≤ 1; exact Nat.le_refl _
 | d :: ds, [], _ => by show 1 ≤ _; exact Nat.pow_pos Ty
 | d :: ds, r :: rs, h => by
  have h1 : bin d r ≤ 2 ^ 127 := Nat.le_trans (yH d r) (Nat.pow_le_pow_right Ty (h d List.mem_cons_self));have h2 := IY ds rs fun x hx => h x (List.mem_cons_of_mem _ hx);rw [Nf, List.length_cons, Nat.mul_succ, Nat.add_comm, Nat.pow_add];exact Nat.mul_le_mul h1 h2
theorem OH {n m k : Nat} (h : n ≤ 2 ^ m) (hk : m < k) : Sz k (nD n) := NG (Nat.lt_of_le_of_lt h (Nat.pow_lt_pow_right Ty hk))
theorem MN {ds : List Nat} {x : Nat} (h : x ∈ yo ds) (h1 : ds.length ≤ 12) (h2 : ∀ d ∈ ds, d ≤ 127) : Sz 1600 (nD x) := by
 obtain ⟨p, _, rfl⟩ := List.mem_map.1 h;have h3 := IY ds.reverse (cI ds.reverse p) fun d hd => h2 d (List.mem_reverse.1 hd);exact OH h3 (by rw [List.length_reverse]; omega)
def LF (ds : List Nat) (d j : Nat) : List Nat := ((yo ds).take j).flatMap fun x => (rV d).map (x * ·)
theorem JS {ds : List Nat} {d j x : Nat} (h : (yo ds)[j]? = some x) : LF ds d (j + 1) = LF ds d j ++ (rV d).map (x * ·) := by
 unfold LF;rw [ay h, List.flatMap_append, List.flatMap_singleton]
theorem mR (A : Option Addr) (n c : Nat) (ns : List Nat) (w : World) (hT : ee w) (hS : Sl w A n 1 (bF (bH ns))) (h12 : ns.length ≤ 12) (hlow : ∀ d ∈ ns, d ≤ 127) (hmax : au ns ≤ 4096) :
  Calls Tryz.prog 46 #[.slice A n c] w fun r w' => ∃ B c', r = .returned (.slice B (au ns) c') ∧ w'.ownsRow w.heap.size 65 3 (.slice B (au ns) c') (au ns) (az NR.cells (E6 ns)) ∧ Below w.heap.size w w' := by
 have hh := Hp.start w;have hln : ns.length = n := by have := hS.1; simpa [bF, bH] using this
 have hc := j2 ns 1 Ty Ty hlow;rw [Nat.one_mul, if_pos hmax] at hc;have hc1 : ij ((1 : Nat) : Int) (bH ns) = ij 1 (bH ns) := rfl;rw [hc1] at hc;have hpos := cL ns;have hcnt := fun w1 hS1 => ej A n c (bH ns) w1 hS1 Tx;rw [hc] at hcnt;refine aj (N := 52) (l := [.slice A n c]) Tryz.func46 rfl rfl (by simp) ?_;refine sr (aL (aa (ah (sr (mL (aJ ?_))))));refine bM (mB (gT (mL ?_)));refine aH rfl rfl ?_;refine bz hh (hcnt _ (hS.ext hh.below)) rfl ?_;intro w16 hh;refine gT ?_;refine cW ?_;refine dK ?_;refine qZ ?_;refine Bc ?_;intro w19 hh;refine rF ?_;intro b20 w20 hh;refine rz ?_;refine bJ [3, 5, 6, 8, 10, 23, 24, 25, 26, 27, 28, 29, 30, 31, 32, 33, 34, 35, 36, 37, 38, 39, 40, 41, 42, 43, 44, 45, 46, 47, 48, 49, 50] 3 23
  (fun v3 v w' => ∃ (i c3 : Nat) (B : Option Addr), i ≤ n ∧ v = .int .i64 i ∧ v3 = .slice B (au (ns.take i)) c3 ∧ Hp w [.row B (au (ns.take i)) c3 65 3 (az NR.cells (E6 (ns.take i)))] w')
  (fun _ v _ => n - (intOf v).toNat) ?_ ?_
 ·exact ⟨0, _, _, Nat.zero_le _, rfl, rfl, hh⟩
 ·clear hh;rintro ρ' v3 v w' ⟨i, c3, B, hi, rfl, rfl, hh⟩;by_cases hlt : i < n
  ·obtain ⟨d, hd⟩ := ao (l := ns) (k := i) Tx;have hgi := cj (iX hd);have hd127 := hlow d (List.mem_of_getElem? hd);have htl : (ns.take i).length ≤ 12 := by rw [List.length_take]; omega
   have htw : ∀ d ∈ ns.take i, d ≤ 127 := fun d hd => hlow d (List.mem_of_mem_take hd);have hct := jn ns (i + 1);have hct2 := jn ns i;have hstep : au (ns.take (i + 1)) = au (ns.take i) * (d + 1) := by rw [ay hd, dQ]; simp [au]
   have hsnoc : E6 (ns.take (i + 1)) = (LF (ns.take i) d (au (ns.take i))).map fun k => nR (nD k) := by
    unfold E6 LF;rw [ay hd, I8, List.take_of_length_le (l := yo (ns.take i)) (by rw [si]; exact Nat.le_refl _)]
   generalize hds : ns.take i = ds at *;generalize hN : au ds = N at *;obtain ⟨ad, rfl, hr⟩ := hS.at_ Tx;refine sr ?_;refine dH ?_;refine cn ?_;refine tK ?_;refine aI (aa (sr (aL (aa (ah (sr (mL (aJ (mI (aa (aq ?_)))))))))));replace hh := hh.db 65 3;refine bJ [6, 8, 10, 29, 30, 31, 32, 33, 34, 35, 36, 37, 38, 39, 40, 41, 42, 43, 44, 45, 46, 47, 48] 6 29
    (fun v6 v w' => ∃ (j c6 : Nat) (C : Option Addr), j ≤ N ∧ v = .int .i64 j ∧ v6 = .slice C (j * (d + 1)) c6 ∧ Hp w [.row C (j * (d + 1)) c6 65 3 (az NR.cells ((LF ds d j).map fun k => nR (nD k))), .row B N c3 65 3 (az NR.cells (E6 ds))] w')
    (fun _ v _ => N - (intOf v).toNat) ?_ ?_
   ·refine ⟨0, 0, none, Nat.zero_le _, rfl, ?_, ?_⟩
    ·rw [Nat.zero_mul]; rfl
    ·rw [Nat.zero_mul]; exact hh
   ·clear hh;rintro ρ2 v6 v w2 ⟨j, c6, C, hj, rfl, rfl, hh⟩;by_cases hjN : j < N
    ·obtain ⟨x, hx⟩ := ao (l := yo ds) (k := j) (by rw [si]; omega);have hx2 : (E6 ds)[j]? = some (nR (nD x)) := by unfold E6; rw [List.getElem?_map, hx]; rfl
     have zx := MN (List.mem_of_getElem? hx) htl htw;have hj1 : (j + 1) * (d + 1) ≤ N * (d + 1) := Nat.mul_le_mul_right _ hjN;rw [Nat.succ_mul] at hj1;obtain ⟨go, rfl⟩ := hh.cd (i := 1) rfl Tx;refine sr ?_;refine dH ?_;refine rn ?_;refine ct (vs := [_, _, _]) aN.out rfl (hh.eU (f := NR.cells) (x := nR (nD x)) (l := E6 ds) (i := 1) rfl NR.len Ty hx2) rfl Ty ?_;refine bR hh ?_;intro b8 w8 hh;refine bW hh 0 [_,_,_] ?_;intro ws hh;replace hh : Hp _ (.blk _ _ [_, _, _] _ :: _) _ := hh;refine aa (sr (mI ?_));refine aE (kv d _ (hT.hp hh) hd127) ak.out rfl Ty ?_;rintro e_ w34 ⟨A34, c34, rfl, hown_, hb_⟩;refine ⟨_, rfl, ?_⟩;replace hh := hh.aV (x := .row _ _ _ _ _ _) hb_ hown_;refine aJ (mI (aa (aq ?_)));refine bJ [6, 10, 36, 37, 38, 39, 40, 41, 42, 43, 44, 45, 46, 47] 6 36
      (fun v6 v w' => ∃ (k c6 : Nat) (C : Option Addr), k ≤ d + 1 ∧ v = .int .i64 k ∧ v6 = .slice C (j * (d + 1) + k) c6 ∧ Hp w [.row A34 (d + 1) c34 65 3 (az NR.cells (kJ d)), .blk b8 65 [.bool (nR (nD x)).neg, .string (nR (nD x)).bo, .int .i64 (nR (nD x)).e] (0, 0), .row C (j * (d + 1) + k) c6 65 3 (az NR.cells ((LF ds d j ++ ((rV d).take k).map (x * ·)).map fun k => nR (nD k))), .row (some ⟨go, 0, none⟩) N c3 65 3 (az NR.cells (E6 ds))] w')
      (fun _ v _ => d + 1 - (intOf v).toNat) ?_ ?_
     ·refine ⟨0, c6, C, Nat.zero_le _, rfl, rfl, ?_⟩;rw [List.take_zero, List.map_nil, List.append_nil];exact hh
     ·clear hh;rintro ρ3 v6 v w3 ⟨k, c6, C, hk, rfl, rfl, hh⟩;by_cases hkd : k < d + 1
      ·have hb1 := yC (n := d) (k := k) Tx;have hb2 := j6 (n := d) (k := k) Tx;have zb := qz d k hd127;have hmul := fun A cc w1 hT1 hS1 => ew A 2 cc [nR (nD x), nR (nD (bin d k))] w1 hT1 hS1 (by simpa using ⟨zx.ok Tx, zb.ok Tx⟩) 1600 (by simpa [cf] using ⟨zx, zb.mono Tx⟩) Tx Tx;rw [show ic ([nR (nD x), nR (nD (bin d k))].map NR.d) = nD (x * bin d k) by rw [JU]; show 1 * (nR (nD x)).d * (nR (nD (bin d k))).d = _; rw [cf, cf, Dyadic.one_mul]] at hmul;obtain ⟨ga, rfl⟩ := hh.cd (i := 0) rfl Tx;refine sr ?_;refine dH ?_;refine cS (k := k) bg.out aN.size rfl rfl Tx Tx Ty ?_;refine ct (vs := [_, _, _]) aN.out rfl (hh.eU (f := NR.cells) (x := nR (nD (bin d k))) (l := kJ d) (i := 0) rfl NR.len Ty hb2) rfl Ty ?_;refine bR hh ?_;intro b10 w10 hh;refine bW hh 0 [_,_,_] ?_;intro ws hh;replace hh : Hp _ (.blk _ _ [_, _, _] _ :: _) _ := hh;refine aa (al (mL ?_));refine cD hh 2 [_,_,_] ?_;refine cD hh 0 [_,_,_] ?_;refine wg ?_;intro b43 w43 hh;refine bz hh (hmul _ _ _ (hT.hp hh) (hh.aC (i := 0) rfl)) rfl ?_;intro w44 hh;refine rF ?_;intro b45 w45 hh
       refine cJ hh (i := 5) rfl rfl rfl (hh.aC (i := 0) rfl) bg.out aN.out rfl Ty (by first | rfl | exact dN _ | exact dm _ | exact bX _ | exact cq NR.one _) Tx Tx Ty ?_;intro A46 c46 w46 hh;simp only [List.set_cons_zero, List.set_cons_succ] at hh;replace hh := hh.sub (List.sublist_cons_self _ _);refine k8 ?_;refine bh (mI (aA (ai ?_)));replace hh := hh.sub (List.Sublist.cons _ (List.Sublist.cons _ (List.Sublist.cons_cons _ (List.Sublist.cons_cons _ (List.Sublist.cons_cons _ (List.Sublist.cons_cons _ List.Sublist.slnil))))));refine ⟨⟨k + 1, c46, A46, Tx, rfl, rfl, ?_⟩, by show d + 1 - (k + 1) < d + 1 - k; omega, ?_⟩
       ·have e : (LF ds d j ++ ((rV d).take (k + 1)).map (x * ·)).map (fun k => nR (nD k)) = (LF ds d j ++ ((rV d).take k).map (x * ·)).map (fun k => nR (nD k)) ++ [nR (nD (x * bin d k))] := by rw [ay hb1]; simp
        rw [e, bV];exact hh
       ·exact dL
      ·obtain rfl : k = d + 1 := Tx;rw [List.take_of_length_le (by rw [tS]; omega), ← JS hx] at hh;refine sr ?_;refine zY ?_;refine bh (mI (aA (ai ?_)));replace hh := hh.sub (List.Sublist.cons _ (List.Sublist.cons _ (List.Sublist.cons_cons _ (List.Sublist.cons_cons _ List.Sublist.slnil))));refine ⟨⟨j + 1, c6, C, Tx, rfl, ?_, ?_⟩, by show N - (j + 1) < N - j; omega, ?_⟩
       ·rw [Nat.succ_mul]; rfl
       ·rw [Nat.succ_mul]; exact hh
       ·exact dL
    ·obtain rfl : j = N := Tx;rw [← hsnoc, ← hstep] at hh;rw [← hstep];refine sr ?_;refine bf (aa (ah (cF (aZ (aD (aD (bq (ai (al (mL (aL (aA (bA (ai (al ?_)))))))))))))));refine bh (mI (aA (ai ?_)));replace hh := hh.sub (List.Sublist.cons_cons _ (List.Sublist.cons _ List.Sublist.slnil));refine ⟨⟨i + 1, c6, C, Tx, rfl, rfl, hh⟩, by show n - (i + 1) < n - i; omega, ?_⟩;exact dL
  ·obtain rfl : i = n := Tx;rw [List.take_of_length_le Tx] at hh ⊢;exact OW
def kA (d r : Nat) (t : Dyadic) : Dyadic := t ^ r * (1 - t) ^ (d - r)
def tR : List Nat → List Nat → List Dyadic → Dyadic
 | d :: ds, r :: rs, t :: ts => kA d r t * tR ds rs ts
 | _, _, _ => 1
def fI (ds : List Nat) (xs : List Dyadic) (ts : List Dyadic) : Dyadic := sm (List.range (au ds)) fun p => (xs[p]?).getD 0 * tR ds (cI ds p) ts
def kT (d : Nat) (t : Dyadic) (m : Nat) (xs : List Dyadic) : List Dyadic := (List.range m).map fun q => sm (List.range (d + 1)) fun r => (xs[r + (d + 1) * q]?).getD 0 * kA d r t
def nQ : List Nat → List Dyadic → List Dyadic → List Dyadic
 | d :: ds, t :: ts, xs => nQ ds ts (kT d t (au ds) xs)
 | _, _, xs => xs
theorem qw (d : Nat) (t : Dyadic) (m : Nat) (xs : List Dyadic) : (kT d t m xs).length = m := by simp [kT]
theorem vy : ∀ (ds : List Nat) (ts xs : List Dyadic), ts.length = ds.length → xs.length = au ds → nQ ds ts xs = [fI ds xs ts]
 | [], [], xs, _, h => by
  match xs, h with
  | [x], _ =>
   show [x] = [x * 1 + 0];congr 1;grind
 | d :: ds, t :: ts, xs, h1, h2 => by
  rw [nQ, vy ds ts _ (by simpa using h1) (qw _ _ _ _)];unfold fI;rw [sl];congr 1;refine bE fun q hq => ?_;have hq2 := List.mem_range.1 hq;have : (kT d t (au ds) xs)[q]? = some (sm (List.range (d + 1)) fun r => (xs[r + (d + 1) * q]?).getD 0 * kA d r t) := by
   unfold kT;rw [List.getElem?_map, List.getElem?_range hq2]
   rfl
  rw [this, Option.getD_some, ← kz];refine bE fun r hr => ?_;have hr2 := List.mem_range.1 hr;exact QZ
theorem qP (t : Dyadic) (a b : Nat) : t ^ (a + b) = t ^ a * t ^ b := by
 induction b with
 | zero => rw [Nat.add_zero]; grind
 | succ b ih => rw [← Nat.add_assoc]; grind
theorem Ic (n : Nat) (a b : Dyadic) : sm (List.range (n + 1)) (fun k => nD (bin n k) * a ^ k * b ^ (n - k)) = (a + b) ^ n := by
 induction n with
 | zero => show nD 1 * a ^ 0 * b ^ 0 + 0 = (a + b) ^ 0; rw [tB]; grind
 | succ n ih =>
  have e2 : ∀ k, nD (bin (n + 1) (k + 1)) * a ^ (k + 1) * b ^ (n + 1 - (k + 1)) = nD (bin n k) * a ^ k * b ^ (n - k) * a + nD (bin n (k + 1)) * a ^ (k + 1) * b ^ (n - k) := fun k => by
   rw [bin, yx, show n + 1 - (k + 1) = n - k by omega];grind
  rw [zU, bE (g := fun k => nD (bin n k) * a ^ k * b ^ (n - k) * a + nD (bin n (k + 1)) * a ^ (k + 1) * b ^ (n - k)) fun k _ => e2 k, sX, kz, ih, mU];have e3 : sm (List.range (n + 1)) (fun k => nD (bin n (k + 1)) * a ^ (k + 1) * b ^ (n - k)) = sm (List.range n) (fun k => nD (bin n (k + 1)) * a ^ (k + 1) * b ^ (n - (k + 1))) * b := by
   rw [List.range_succ, jx, sg (show n < n + 1 by omega), EO, ← kz];have : ∀ x y : Dyadic, x + 0 * y * b ^ (n - n) = x := fun x y => by grind
   rw [this];refine bE fun k hk => ?_;have hk2 := List.mem_range.1 hk;rw [show n - k = (n - (k + 1)) + 1 by omega];grind
  have e4 : (a + b) ^ n = nD 1 * a ^ 0 * b ^ (n - 0) + sm (List.range n) (fun k => nD (bin n (k + 1)) * a ^ (k + 1) * b ^ (n - (k + 1))) := by
   rw [← ih, zU, mU]
  rw [e3];have e5 : (a + b) ^ (n + 1) = (a + b) ^ n * a + (a + b) ^ n * b := by grind
  rw [e5];generalize hS : sm (List.range n) (fun k => nD (bin n (k + 1)) * a ^ (k + 1) * b ^ (n - (k + 1))) = S at *;rw [e4, show n + 1 - 0 = n + 1 by omega, show n - 0 = n by omega, tB];grind
theorem Ee : ∀ (ds : List Nat) (ts : List Dyadic), ts.length = ds.length → sm (List.range (au ds)) (fun p => nD (Nf ds (cI ds p)) * tR ds (cI ds p) ts) = 1
 | [], [], _ => by show nD 1 * 1 + 0 = 1; rw [tB]; grind
 | d :: ds, t :: ts, h => by
  have ih := Ee ds ts (by simpa using h);rw [sl, bE (g := fun q => (nD (Nf ds (cI ds q)) * tR ds (cI ds q) ts) * 1) fun q _ => ?_]
  ·rw [kz, ih]; grind
  ·have hb := Ic d t (1 - t);rw [show t + (1 - t) = (1 : Dyadic) by grind] at hb;have h1 : (1 : Dyadic) ^ d = 1 := by
    clear hb ih
    induction d with
    | zero => grind
    | succ d ih => grind
   rw [h1] at hb;rw [← hb, ← gD];refine bE fun r hr => ?_;have hr2 := List.mem_range.1 hr;rw [cI, Nat.add_mul_mod_self_left, Nat.mod_eq_of_lt hr2, Nat.add_mul_div_left _ _ Tx, Nat.div_eq_of_lt hr2, Nat.zero_add, tR, Nf, JU, kA];grind
def sR : List Nat → (List Nat → Dyadic) → Dyadic
 | [], F => F []
 | d :: ds, F => sm (List.range (d + 1)) fun r => sR ds fun row => F (r :: row)
def gM (ds : List Nat) (a : Nat) (M : Nat → Nat → Dyadic) (xs : List Dyadic) : List Dyadic :=
 (List.range (au ds)).map fun p => sm (List.range (ds.getD a 0 + 1)) fun i => co ds xs ((cI ds p).set a i) * M i ((cI ds p).getD a 0)
theorem n8 (ds : List Nat) (a : Nat) (M : Nat → Nat → Dyadic) (xs : List Dyadic) : (gM ds a M xs).length = au ds := by simp [gM]
theorem FA {ds row : List Nat} (a : Nat) (M : Nat → Nat → Dyadic) (xs : List Dyadic) (h : lZ ds row) : co ds (gM ds a M xs) row = sm (List.range (ds.getD a 0 + 1)) fun i => co ds xs (row.set a i) * M i (row.getD a 0) := by
 rw [Fe h];unfold gM;rw [List.getElem?_map, List.getElem?_range (m9 h)];simp only [Option.map_some, Option.getD_some, iw h]
theorem Ew : ∀ {ds row : List Nat} {a i : Nat}, lZ ds row → i ≤ ds.getD a 0 → lZ ds (row.set a i)
 | [], [], _, _, _, _ => trivial
 | d :: ds, r :: rs, 0, i, h, hi => ⟨hi, h.2⟩
 | d :: ds, r :: rs, a + 1, i, h, hi => ⟨h.1, Ew (a := a) h.2 (by simpa using hi)⟩
def R4 (d : Nat) (s : Dyadic) (i k : Nat) : Dyadic := if k < i then 0 else nD (bin (d - i) (k - i)) * s ^ i * (1 - s) ^ (k - i)
def R9 (d : Nat) (s : Dyadic) (i k : Nat) : Dyadic := if i < k then 0 else nD (bin i (i - k)) * s ^ (i - k) * (1 - s) ^ (d - i)
theorem NH (d i : Nat) (hi : i ≤ d) (f : Nat → Dyadic) : sm (List.range (d + 1)) (fun k => if k < i then 0 else f (k - i)) = sm (List.range (d - i + 1)) f := by
 obtain ⟨m, rfl⟩ : ∃ m, d = i + m := ⟨d - i, Tx⟩;rw [show i + m - i + 1 = m + 1 by omega, show i + m + 1 = i + (m + 1) by omega, List.range_add, qj, sY, sf fun k hk => by rw [if_pos (List.mem_range.1 hk)]];have : ∀ x : Dyadic, 0 + x = x := fun x => by grind
 rw [this];exact bE fun k _ => by rw [if_neg Tx, Nat.add_sub_cancel_left]
theorem rf : ∀ (A B : List Nat) (p : Nat), cI (A ++ B) p = cI A p ++ cI B (p / au A)
 | [], B, p => by rw [List.nil_append, au, Nat.div_one]; rfl
 | d :: A, B, p => by rw [List.cons_append, cI, cI, rf A B, au, Nat.div_div_eq_div_mul]; rfl
theorem z7 : ∀ (A : List Nat) (f q : Nat), cI A (f + au A * q) = cI A f
 | [], _, _ => rfl
 | d :: A, f, q => by
  rw [cI, cI, au, Nat.mul_assoc, Nat.add_mul_mod_self_left, Nat.add_mul_div_left _ _ Tx, z7 A]
section
variable {A B : List Nat} {d : Nat}
def de (A : List Nat) (d f k q : Nat) : Nat := f + au A * (k + (d + 1) * q)
theorem uo {f k q : Nat} (hf : f < au A) (hk : k ≤ d) (hq : q < au B) : de A d f k q < au (A ++ d :: B) := by
 rw [dQ, au, de];have h1 : k + (d + 1) * q + 1 ≤ (d + 1) * au B := by
  have : (d + 1) * (q + 1) ≤ (d + 1) * au B := Nat.mul_le_mul_left _ hq;rw [Nat.mul_succ] at this;omega
 have h2 := Nat.mul_le_mul_left (au A) h1;rw [Nat.mul_succ] at h2;omega
theorem wj {f k q : Nat} (hf : f < au A) (hk : k ≤ d) : cI (A ++ d :: B) (de A d f k q) = cI A f ++ k :: cI B q := by
 unfold de;rw [rf, z7, Nat.add_mul_div_left _ _ (cL A), Nat.div_eq_of_lt hf, Nat.zero_add, cI, Nat.add_mul_mod_self_left, Nat.mod_eq_of_lt Tx, Nat.add_mul_div_left _ _ Tx, Nat.div_eq_of_lt Tx, Nat.zero_add]
theorem B4 {p : Nat} (h : p < au (A ++ d :: B)) : ∃ f k q, f < au A ∧ k ≤ d ∧ q < au B ∧ p = de A d f k q := by
 rw [dQ, au] at h;have hA := cL A;refine ⟨p % au A, p / au A % (d + 1), p / au A / (d + 1), Nat.mod_lt _ hA, by have := Nat.mod_lt (p / au A) (show 0 < d + 1 by omega); omega, ?_, ?_⟩
 ·rw [Nat.div_lt_iff_lt_mul Tx, Nat.div_lt_iff_lt_mul hA, Nat.mul_comm, Nat.mul_comm (au B)];exact h
 ·unfold de;rw [Nat.mod_add_div, Nat.mod_add_div]
theorem Bg (x y : List Nat) (k : Nat) : (x ++ k :: y).getD x.length 0 = k := by
 rw [List.getD_eq_getElem?_getD, List.getElem?_append_right (Nat.le_refl _), Nat.sub_self]
 rfl
theorem CG (x y : List Nat) (k i : Nat) : (x ++ k :: y).set x.length i = x ++ i :: y := by
 rw [List.set_append_right _ _ (Nat.le_refl _), Nat.sub_self, List.set_cons_zero]
def eW (A : List Nat) (d : Nat) (xs : List Dyadic) (f q : Nat) : List Dyadic := (List.range (d + 1)).map fun i => (xs[de A d f i q]?).getD 0
theorem Hg {f k q : Nat} (M : Nat → Nat → Dyadic) (xs : List Dyadic) (hf : f < au A) (hk : k ≤ d) (hq : q < au B) :
  (gM (A ++ d :: B) A.length M xs)[de A d f k q]? = some (sm (List.range (d + 1)) fun i => (xs[de A d f i q]?).getD 0 * M i k) := by
 have hp := uo (B := B) hf hk hq;unfold gM;rw [List.getElem?_map, List.getElem?_range hp];simp only [Option.map_some];rw [wj hf hk, Bg];have hl := AM A f;rw [show ((cI A f ++ k :: cI B q).getD A.length 0) = k by rw [← hl]; exact Bg _ _ _];congr 1;refine bE fun i hi => ?_;have hi2 : i ≤ d := by have := List.mem_range.1 hi; omega
 rw [show (cI A f ++ k :: cI B q).set A.length i = cI A f ++ i :: cI B q by rw [← hl]; exact CG _ _ _ _, ← wj (B := B) hf hi2, B2 (uo hf hi2 hq)]
end
def RL (ns : List Nat) : Bool := ns.any (fun d => decide (127 < d)) || decide (4096 < au ns)
def OP (a b : List Nat) : List Nat := List.zipWith (· + ·) a b
theorem J9 (N : Nat) : fk N [.bool false, .string (ByteArray.mk #[]), .int .i64 0] = az NR.cells ((nE N []).map nR) := by
 rw [tu, List.map_replicate]
 induction N with
 | zero => rfl
 | succ n ih => rw [List.replicate_succ, iS, ← ih]; rfl
def SX (ds es : List Nat) (xs ys : List Dyadic) (k : Nat) : List (Nat × Dyadic) :=
 (List.range k).flatMap fun k => (List.range (au ds)).map fun i => (ik (CW ds es) (CW (cI ds i) (cI es k)), (xs[i]?).getD 0 * (ys[k]?).getD 0)
def Qw (ns ms : List Nat) (xs ys : List Dyadic) : List Dyadic := nE (au (OP ns ms)) (SX ns.reverse ms.reverse xs ys (au ms))
structure FX where
 A : Option Addr
 n : Nat
 a : Nat
 B : Option Addr
 m : Nat
 b : Nat
 ds : List Int
 cs : List NR
def FX.cells (f : FX) : List Value := [.slice f.A f.n f.a, .slice f.B f.m f.b]
def FX.v (f : FX) : Value := .agg #[.slice f.A f.n f.a, .slice f.B f.m f.b]
structure FX.at_ (f : FX) (w : World) : Prop where
 dg : Sl w f.A f.n 1 (bF f.ds)
 nm : Sl w f.B f.m 3 (az NR.cells f.cs)
theorem FX.at_.ext {f : FX} {w w' : World} (h : f.at_ w) (hb : Below w.heap.size w w') : f.at_ w' := ⟨h.dg.ext hb, h.nm.ext hb⟩
structure FX.kO (f : FX) (k : Nat) : Prop where
 So : f.n ≤ 1000
 SK : f.m ≤ 100000
 num : ∀ c ∈ f.cs, c.ok ∧ Sz k c.d
def FX.e (f : FX) : Int := fE f.ds f.cs
theorem xA (f : FX) (k : Nat) (w : World) (hT : ee w) (h : f.at_ w) (hl : f.kO k) :
  Calls Tryz.prog 41 #[.agg #[.slice f.A f.n f.a, .slice f.B f.m f.b]] w fun r w' => r = .returned (.int .i64 f.e) ∧ Below w.heap.size w w' :=
 vh f.A f.B f.n f.a f.m f.b f.ds f.cs w hT h.dg h.nm (by have := hl.So; omega) (by have := hl.SK; omega) fun a ha => (hl.num a ha).1
def Sa (fs : List FX) : Bool := fs.any fun f => decide (f.n ≠ (fs.map FX.n).headD 0)
def Ff (fs : List FX) : Int := match fs.find? (fun f => decide (f.e ≠ 0)) with | some f => f.e | none => if fs.length = 0 ∨ Sa fs = true then 1 else 0
open Go.ChangeShapes Go.WideShapes Go.ChangeAt Go.RowKit Go.ChangeMaps
set_option maxRecDepth 100000 in
theorem CR {H : Type} {enc : TypeId × Value → H} {W : World} {r : Reach} {base b0 : Nat} {sp : Nat → Bool} {held : Bool} {v : Value} {d : DataW H} {ps : List MemPlace}
  (hval : Value.okWide Tryz.prog W r b0 35 v) (hd : DataW.Trod enc Tryz.prog W base sp held 35 v d ps) : ∃ (A : Option Addr) (n c : Nat) (l : List Int), v = .slice A n c ∧ Sl W A n 1 (bF l) ∧ n ≤ c := by
 obtain ⟨A, n, c, l, rfl, h2, _⟩ := FT hval hd;obtain ⟨fuel, hf⟩ := hd;exact ⟨A, n, c, l, rfl, h2, wb Tryz.underlying35 hf⟩
section
variable {ro : Mode} {P : Program} {N : Nat} {Q : Kq} {ρ : Rf} {w : World}
theorem Ij {c : Code} {id : Nat} {next : Rf → World → Prop} (mods : List Nat) (s0 : Nat) (J : Value → World → Prop) (hc : WC ro P N c (qD id (cv (fun ρ2 w2 => J (ρ2 s0) w2 ∧ iH mods ρ2 ρ) Q)) ρ w)
  (hn : ∀ ρ' v0 w', J v0 w' → next (cG (mask mods ρ' ρ) s0 v0) w') : WC ro P N c (qD id (cv next Q)) ρ w :=
 hc.mono fun e ρ2 w2 hq => by
  have key : J (ρ2 s0) w2 ∧ iH mods ρ2 ρ → next ρ2 w2 := fun h => by
   have := hn ρ2 (ρ2 s0) w2 h.1;rwa [iV h.2, gG] at this
  cases e with
  | normal => exact key hq
  | exit i =>
   by_cases h : i = id
   ·subst h;simp only [qD, cv, if_true] at hq ⊢;exact key hq
   ·simp only [qD, cv, if_neg h] at hq ⊢;exact hq
  | _ => exact hq
theorem GJ {a c : Code} (mods : List Nat) (J : World → Prop) (hc : WC ro P N a (cv (fun ρ2 w2 => J w2 ∧ iH mods ρ2 ρ) Q) ρ w) (hn : ∀ ρ' w', J w' → WC ro P N c Q (mask mods ρ' ρ) w') : WC ro P N (.seq a c) Q ρ w :=
 ah (hc.mono fun e ρ2 w2 hq => by
  cases e with
  | normal =>
   have := hn ρ2 w2 hq.1;rwa [iV hq.2] at this
  | _ => exact hq)
end
section
variable {ro : Mode} {P : Program} {N : Nat} {Q : Kq} {ρ : Rf} {w : World}
theorem Gt {a c : Code} (mods : List Nat) (s0 : Nat) (J : Value → World → Prop) (hc : WC ro P N a (cv (fun ρ2 w2 => J (ρ2 s0) w2 ∧ iH mods ρ2 ρ) Q) ρ w) (hn : ∀ ρ' v0 w', J v0 w' → WC ro P N c Q (cG (mask mods ρ' ρ) s0 v0) w') : WC ro P N (.seq a c) Q ρ w :=
 ah (hc.mono fun e ρ2 w2 hq => by
  cases e with
  | normal =>
   have := hn ρ2 (ρ2 s0) w2 hq.1;rwa [iV hq.2, gG] at this
  | _ => exact hq)
end
def mulM (a b : ByteArray) : ByteArray := str (mulL a.data.toList b.data.toList).1
def mm (a b : ByteArray) : Int := (mulL a.data.toList b.data.toList).2
def qL (x y : TR) : TR := ⟨mulM x.m y.m, nR (x.c.d * y.c.d)⟩
def cC (p q : List TR) : List TR := p.flatMap fun x => q.map (qL x)
def ri (p q : List TR) : List Int := p.flatMap fun x => q.map fun y => mm x.m y.m
def fy (p q : List TR) : Int := if 65536 < p.length * q.length then 3 else match (ri p q).find? fun e => decide (e ≠ 0) with | some e => e | none => if 4096 < (aF (cC p q)).length then 3 else 0
theorem An {α β : Type} {f : α → List β} {k : Nat} : ∀ {l : List α}, (∀ x ∈ l, (f x).length = k) → (l.flatMap f).length = l.length * k
 | [], _ => by simp
 | x :: l, h => by
  rw [List.flatMap_cons, List.length_append, h x List.mem_cons_self, An fun y hy => h y (List.mem_cons_of_mem _ hy), List.length_cons, Nat.succ_mul, Nat.add_comm]
theorem lf (p q : List TR) : (cC p q).length = p.length * q.length := An fun x _ => List.length_map _
theorem ql {α β γ : Type} {f : α → β → γ} {p : List α} {q : List β} {i : Nat} {x : α} (hx : p[i]? = some x) :
  ((p.take (i + 1)).flatMap fun x => q.map (f x)) = ((p.take i).flatMap fun x => q.map (f x)) ++ (q.take q.length).map (f x) := by
 rw [ay hx, List.flatMap_append, List.take_of_length_le (Nat.le_refl _)];simp
theorem CQ {α β γ : Type} {f : α → β → γ} {p : List α} {q : List β} {i j : Nat} {x : α} {y : β} (hx : p[i]? = some x) (hy : q[j]? = some y) :
  ∃ R, (p.flatMap fun x => q.map (f x)) = (((p.take i).flatMap fun x => q.map (f x)) ++ (q.take j).map (f x)) ++ f x y :: R := by
 refine ⟨(q.drop (j + 1)).map (f x) ++ (p.drop (i + 1)).flatMap fun x => q.map (f x), ?_⟩;have e1 : p = p.take i ++ x :: p.drop (i + 1) := by rw [← gH hx, List.take_append_drop]
 have e2 : q = q.take j ++ y :: q.drop (j + 1) := by rw [← gH hy, List.take_append_drop]
 have e3 : q.map (f x) = (q.take j).map (f x) ++ f x y :: (q.drop (j + 1)).map (f x) := by
  rw [← List.map_cons, ← List.map_append, ← e2]
 calc (p.flatMap fun x => q.map (f x)) = (p.take i ++ x :: p.drop (i + 1)).flatMap fun x => q.map (f x) := by rw [← e1]
  _ = _ := by rw [List.flatMap_append, List.flatMap_cons, e3]; simp
theorem uD {k j : Nat} {p q : List TR} (hp : iO k p) (hq : iO j q) (h : k + j ≤ 1000000) : iO (k + j) (cC p q) := fun t ht => by
 obtain ⟨x, hx, ht⟩ := List.mem_flatMap.1 ht;obtain ⟨y, hy, rfl⟩ := List.mem_map.1 ht;have hs := (hp x hx).2.mul (hq y hy).2;exact ⟨hs.ok Tx, by show Sz _ (nR _).d; rw [cf]; exact hs⟩
theorem F5 (a b : ByteArray) : (mulM a b).size ≤ b.size := by
 unfold mulM;rw [kM];unfold mulL;split
 ·rename_i l hl;have := (vL hl).2.2;have h4 : l.length ≤ b.data.toList.length := by rw [this.2, List.length_zipWith, cU, cU]; omega
  have h5 : (HW l).length ≤ l.length := by unfold HW; split <;> simp
  rw [dA];exact Nat.le_trans h5 h4
 ·exact Nat.zero_le _
theorem Iv (c : Dyadic) (f : ByteArray → Dyadic) (l : List TR) : wS (fun m => c * f m) l = c * wS f l := by
 induction l with
 | nil => exact (Dyadic.mul_zero _).symm
 | cons t l ih => rw [wS, wS, ih]; grind
theorem JV (f : ByteArray → Dyadic) (x : TR) (q : List TR) : wS f (q.map (qL x)) = x.c.d * wS (fun b => f (mulM x.m b)) q := by
 induction q with
 | nil => exact (Dyadic.mul_zero _).symm
 | cons t q ih =>
  rw [List.map_cons, wS, ih, wS];show (nR _).d * f (mulM x.m t.m) + _ = _;rw [cf];grind
theorem zN (f : ByteArray → Dyadic) (q : List TR) : ∀ p : List TR, wS f (cC p q) = wS (fun a => wS (fun b => f (mulM a b)) q) p
 | [] => rfl
 | t :: p => by
  show wS f (q.map (qL t) ++ cC p q) = _;rw [na, JV, zN f q p, wS]
def qQ (c : Dyadic) (t : TR) : TR := ⟨t.m, nR (t.c.d * c)⟩
theorem cu {v : Int} {ts : List TR} (h : fH v ts = 0) : ja v = true ∧ ts.length ≤ 4096 ∧ (∀ t ∈ ts, eH v t = true) ∧ Canon ts := by
 unfold fH at h
 cases hf : ja v with
 | false => rw [hf, if_pos rfl] at h; omega
 | true =>
  rw [if_neg (by rw [hf]; decide)] at h;by_cases h4 : 4096 < ts.length
  ·rw [if_pos h4] at h; omega
  ·rw [if_neg h4] at h;by_cases ho : okB v ts = true
   ·unfold okB at ho;rw [Bool.and_eq_true] at ho;have hg : ∀ t ∈ ts, nS v t = true := List.all_eq_true.1 ho.1;refine ⟨rfl, Tx, fun t ht => ?_, uM.1 ho.2, fun t ht => ?_, fun t ht => ?_⟩
    ·exact (Bool.and_eq_true_iff.1 (hg t ht)).1
    ·exact C9 (Bool.and_eq_true_iff.1 (Bool.and_eq_true_iff.1 (hg t ht)).2).1
    ·exact ((sF _).1 (Bool.and_eq_true_iff.1 (Bool.and_eq_true_iff.1 (hg t ht)).2).2).symm
   ·rw [if_neg ho] at h; omega
theorem DN {v : Int} {ts : List TR} (hf : ja v = true) (h4 : ts.length ≤ 4096) (hm : ∀ t ∈ ts, eH v t = true) (hc : Canon ts) : fH v ts = 0 := by
 unfold fH;rw [if_neg (by rw [hf]; decide), if_neg Tx, if_pos];unfold okB;rw [Bool.and_eq_true];refine ⟨List.all_eq_true.2 fun t ht => ?_, uM.2 hc.rj⟩;show (eH v t && (yK t && RF t.c)) = true;rw [hm t ht, (sF _).2 (hc.nf t ht).symm];unfold yK;rw [decide_eq_false (hc.nz t ht)]
 rfl
theorem OV {v : Int} {s t : TR} (h : s.m = t.m) (hs : eH v s = true) : eH v t = true := by unfold eH at hs ⊢; rwa [← h]
theorem tN {v : Int} {l : List TR} (h : ∀ t ∈ l, eH v t = true) : ∀ t ∈ aF l, eH v t = true := fun t ht => by
 obtain ⟨s, hs, e⟩ := fQ t ht;exact OV e (h s hs)
theorem eP {v : Int} {l : List TR} (hf : ja v = true) (h4 : (aF l).length ≤ 4096) (hm : ∀ t ∈ l, eH v t = true) : fH v (aF l) = 0 := DN hf h4 (tN hm) (eT l)
theorem Im {v : Int} {x y : TR} (hx : eH v x = true) (h : mm x.m y.m = 0) : eH v (qL x y) = true := by
 unfold eH at hx ⊢;rw [Bool.and_eq_true, decide_eq_true_eq] at hx;obtain ⟨_, _, h3, h4, h5⟩ := m6 h;rw [Bool.and_eq_true, decide_eq_true_eq];have h6 := congrArg List.length h5;rw [cU, List.length_zipWith, cU, cU, h3, Nat.min_self] at h6;refine ⟨?_, ?_⟩
 ·show eE (mulM x.m y.m).data.toList = true;unfold mulM;rw [dt];exact h4
 ·show ((mulM x.m y.m).size : Int) = v;unfold mulM;rw [kM, h6, ← dA];exact hx.2
theorem vI {v : Int} {p q : List TR} (hp : ∀ t ∈ p, eH v t = true) (h : ∀ e ∈ ri p q, e = 0) : ∀ t ∈ cC p q, eH v t = true := fun t ht => by
 obtain ⟨x, hx, ht⟩ := List.mem_flatMap.1 ht;obtain ⟨y, hy, rfl⟩ := List.mem_map.1 ht;exact Im (hp x hx) (h _ (List.mem_flatMap.2 ⟨x, hx, List.mem_map.2 ⟨y, hy, rfl⟩⟩))
theorem nA {p q : List TR} (h : fy p q = 0) : p.length * q.length ≤ 65536 ∧ (∀ e ∈ ri p q, e = 0) ∧ (aF (cC p q)).length ≤ 4096 := by
 unfold fy at h;by_cases h6 : 65536 < p.length * q.length
 ·rw [if_pos h6] at h; omega
 ·rw [if_neg h6] at h;split at h
  ·rename_i e he;have := List.find?_some he;rw [decide_eq_true_eq] at this;exact absurd h this
  ·rename_i he;refine ⟨Tx, fun e hm => ?_, ?_⟩
   ·have := List.find?_eq_none.1 he e hm;simpa using this
   ·by_cases h4 : 4096 < (aF (cC p q)).length
    ·rw [if_pos h4] at h; omega
    ·omega
def eC (ps : List PX) : Int := (ps.map PX.v).headD 0
def rJ (ps : List PX) : List TR := ps.flatMap PX.ts
def yA (ps : List PX) : Int := if eS ps = 0 then gR (rJ ps) else eS ps
theorem yI {ps : List PX} (h : eS ps = 0) : ps ≠ [] ∧ (∀ g ∈ ps, g.e = 0) ∧ ∀ g ∈ ps, g.v = eC ps := by
 unfold eS at h;split at h
 ·rename_i f hf;have := List.find?_some hf;simp at this;exact absurd h this
 ·rename_i hf;split at h
  ·cases h
  rename_i hno;refine ⟨fun e => hno (.inl (by rw [e]; rfl)), fun f hm => ?_, fun f hm => ?_⟩
  ·have := List.find?_eq_none.1 hf f hm;simpa using this
  ·apply Classical.byContradiction;intro hne;exact hno (.inr (List.any_eq_true.2 ⟨f, hm, decide_eq_true hne⟩))
theorem xH {α β : Type} {f : α → List β} {B : Nat} : ∀ {l : List α}, (∀ x ∈ l, (f x).length ≤ B) → (l.flatMap f).length ≤ l.length * B
 | [], _ => by simp
 | x :: l, h => by
  rw [List.flatMap_cons, List.length_append, List.length_cons, Nat.succ_mul];have h1 := h x List.mem_cons_self;have h2 := xH fun y hy => h y (List.mem_cons_of_mem _ hy);omega
theorem Ge {α β : Type} {f : α → List β} {l : List α} {i : Nat} {x : α} (h : l[i]? = some x) : (l.take (i + 1)).flatMap f = (l.take i).flatMap f ++ f x := by
 rw [ay h, List.flatMap_append];simp
theorem CY {l k : List TR} (h : aF l = aF k) : gR l = gR k := by unfold gR; rw [h]
theorem kI {ps : List PX} {g : PX} (h : ps[0]? = some g) : eC ps = g.v := by
 rcases ps with _ | ⟨f, l⟩
 ·cases h
 ·have : f = g := by simpa using h
  rw [← this]; rfl
theorem lH (L : Option Addr) (n c : Nat) (ps : List PX) (k : Nat) (w : World) (hT : ee w) (hL : Sl w L n 2 (az PX.cells ps)) (hn : n ≤ 100) (hf : ∀ g ∈ ps, g.at_ w) (hl : ∀ g ∈ ps, g.kO k) (hk : k ≤ 2999000) :
  Calls Tryz.prog 16 #[.slice L n c] w fun r w' => ∃ g : PX, eK (yA ps) (eC ps) (aF (rJ ps)) g ∧ r = .returned (.tuple #[.agg #[.int .i64 g.v, .slice g.A g.n g.c], .int .i64 (yA ps)]) ∧ Hp w [g.row] w' := by
 have hh := Hp.start w;have hln := hL.bk PX.len Ty;have hlk := fun w1 hT1 hb => qT L n c ps k w1 hT1 (hL.ext hb) Tx (fun g hg => (hf g hg).ext hb) hl;unfold yA;by_cases h0 : eS ps = 0
 ·rw [if_pos h0];rw [h0] at hlk;obtain ⟨hne, mb, hvv⟩ := yI h0;have hpos := List.length_pos_iff.2 hne;obtain ⟨g0, h00⟩ := ao (l := ps) (k := 0) hpos;rw [kI h00];have hfl : (rJ ps).length ≤ ps.length * 4096 := xH fun g hg => (cu (mb g hg)).2.1;obtain ⟨ad, rfl, hr⟩ := hL.at_ Tx;refine aj (N := 33) (l := [.slice (some ad) n c]) Tryz.func16 rfl rfl (by simp) ?_;refine sr ?_;refine bR hh ?_;intro b2 w2 hh;refine aI (aa (ah (sr (mL ?_))));refine bz hh (hlk _ (hT.hp hh) hh.below) rfl ?_;intro w9 hh;refine aI (aa (sr (mI ?_)));refine cK (aa (cF (ar (ai (sr (aL (aa (ah (sr (mL (aJ (mI (aa (aq ?_))))))))))))));replace hh := hh.db 96 4;refine bJ [5, 7, 16, 17, 18, 19, 20, 21, 22, 23, 24] 5 16
   (fun a x w' => ∃ (i : Nat) (M : List TR) (A' : Option Addr) (c' : Nat), i ≤ n ∧ x = .int .i64 i ∧ a = .slice A' M.length c' ∧ MD (k + i) ((ps.take i).flatMap PX.ts) M ∧ Hp w [.row A' M.length c' 96 4 (az TR.cells M), .blk b2 24 [.int .i64 0, .slice none 0 0] (0, 0)] w')
   (fun _ x _ => n - (intOf x).toNat) ?_ ?_
  ·exact ⟨0, [], none, 0, Nat.zero_le _, rfl, rfl, MD.self List.Pairwise.nil (fun t ht => nomatch ht), hh⟩
  ·clear hh;rintro ρ' a_ x_ w' ⟨i, M, A', c', hi, rfl, rfl, hmd, hh⟩;have hfi : ((ps.take i).flatMap PX.ts).length ≤ i * 4096 := by
    have := xH (f := PX.ts) (B := 4096) (l := ps.take i) fun g hg => (cu (mb g (List.mem_of_mem_take hg))).2.1;rwa [List.length_take, Nat.min_eq_left Tx] at this
   have hML := hmd.len;by_cases hlt : i < n
   ·obtain ⟨g, hx⟩ := ao (l := ps) (k := i) Tx;have hmem := List.mem_of_getElem? hx;have hgl := hl g hmem;have hge := cu (mb g hmem);have hgc := hgl.cap;have hgn := hgl.n;refine sr ?_;refine dH ?_;refine cn ?_;refine Hs ?_;refine bR hh ?_;intro b7 w7 hh;refine bW hh 0 [_,_] ?_;intro ws hh;replace hh : Hp _ (.blk _ _ [_, _] _ :: _) _ := hh;refine aa (al (mL (bD ?_)));refine bB hh 0 ?_;refine aE (pL A' M.length c' M g.A g.n g.c g.ts (k + i) _ (hT.hp hh) (hh.aC (i := 1) rfl) ((hf g hmem).ext hh.below) (hh.eO (i := 1) rfl) hgc Tx hgn Tx hmd.rj hge.2.2.2.rj hmd.ok (hgl.ok.mono Tx)) ak.out rfl Ty ?_;rintro e_ w23 ⟨L2, A2, c2, hm2, rfl, h3⟩;refine ⟨_, rfl, ?_⟩;replace hh := hh.join h3;simp only [List.cons_append, List.nil_append] at hh;refine k8 ?_;refine bh (mI (aA (ai ?_)));replace hh := hh.sub (List.Sublist.cons_cons _ (List.Sublist.cons _ (List.Sublist.cons _ (List.Sublist.cons_cons _ List.Sublist.slnil))));refine ⟨⟨i + 1, L2, A2, c2, Tx, rfl, rfl, ?_, hh⟩, by show n - (i + 1) < n - i; omega, ?_⟩
    ·rw [Ge hx];exact hmd.JP (MD.self hge.2.2.2.rj (hgl.ok.mono Tx : iO (k + i) g.ts)) hm2 Tx
    ·exact dL
   ·obtain rfl : i = n := Tx;rw [List.take_of_length_le Tx] at hmd hfi hML;have hgM : aF M = aF (rJ ps) := yf hmd.co;have hgE := CY hgM;refine sr ?_;refine nH ?_;refine Fl ?_;refine oT ?_;refine bT aN.out rfl (cE hh.below ((hr.recAt PX.len h00) 0 _ rfl)) Ty ?_;refine mL ?_;refine aE (ko _ A' M.length c' M (k + i) _ hT hh rfl Tx Tx hmd.ok) ak.out rfl Ty ?_;rintro e_ w30 ⟨g, og, rfl, hh⟩;refine ⟨_, rfl, ?_⟩;refine dq ?_;refine dq ?_;refine bW hh 1 [_,_] ?_;intro ws hh;replace hh : Hp _ (_ :: .blk _ _ [_, _] _ :: _) _ := hh;refine aI (aa (av ?_));refine Dx ?_;rw [← hgE, ← hgM];exact Dq
 ·rw [if_neg h0];generalize eS ps = e at *;refine aj (N := 33) (l := [.slice L n c]) Tryz.func16 rfl rfl (by simp) ?_;refine sr ?_;refine bR hh ?_;intro b2 w2 hh;refine aI (aa (ah (sr (mL ?_))));refine bz hh (hlk _ (hT.hp hh) hh.below) rfl ?_;intro w9 hh;exact KD
def l6 (s : ByteArray) (i : Nat) : Int := match s.data.toList[i]? with | some c => c.toNat | none => 0
def AO (l : List TR) (i : Nat) : Int := l.foldl (fun m t => max m (l6 t.m i)) 0
def me (m : Nat) (l : List TR) : List Int := (List.range m).map (AO l)
def vf (v : Int) (ts : List TR) : List Int := if fH v ts = 0 then me v.toNat ts else []
theorem eX (m : Nat) (l : List TR) : (me m l).length = m := by unfold me; rw [List.length_map, List.length_range]
theorem r8 {m j : Nat} (l : List TR) (h : j < m) : (me m l)[j]? = some (AO l j) := by
 unfold me;rw [List.getElem?_map, List.getElem?_range h]
 rfl
theorem tT (l : List TR) (t : TR) (i : Nat) : AO (l ++ [t]) i = max (AO l i) (l6 t.m i) := by unfold AO; rw [List.foldl_append]; rfl
theorem I0 {s : ByteArray} {i : Nat} {c : UInt8} (h : s.data.toList[i]? = some c) : l6 s i = c.toNat := by unfold l6; rw [h]
theorem Me {α : Type} {A B : List α} {j : Nat} {y : α} (h : A.length = B.length) (hy : B[j]? = some y) : (B.take j ++ A.drop j).set j y = B.take (j + 1) ++ A.drop (j + 1) := by
 have hj := (List.getElem?_eq_some_iff.1 hy).1;have hl : (B.take j).length = j := by rw [List.length_take]; omega
 obtain ⟨x, hx⟩ := ao (l := A) (k := j) Tx;rw [gH hx, ay hy, List.set_append_right _ _ Tx, hl, Nat.sub_self];simp
theorem KP {α : Type} {A B : List α} {j : Nat} {x : α} (h : A.length = B.length) (hx : A[j]? = some x) : (B.take j ++ A.drop j)[j]? = some x := by
 have hj := (List.getElem?_eq_some_iff.1 hx).1;have hl : (B.take j).length = j := by rw [List.length_take]; omega
 rw [List.getElem?_append_right Tx, hl, Nat.sub_self, List.getElem?_drop, Nat.add_zero, hx]
theorem Ig (m : Nat) : fk m [.int .i64 0] = bF (me m []) := by
 have h1 : ∀ n, fk n [.int .i64 0] = bF (List.replicate n 0) := fun n => by
  induction n with
  | zero => rfl
  | succ n ih => rw [fk, ih, List.replicate_succ]; rfl
 rw [h1];congr 1;apply List.ext_getElem?;intro i;by_cases h : i < m
 ·rw [r8 [] h, List.getElem?_replicate, if_pos h]
  rfl
 ·rw [List.getElem?_eq_none (by rw [List.length_replicate]; omega), List.getElem?_eq_none (by rw [eX]; omega)]
theorem rI (p : PX) (k : Nat) (w : World) (hT : ee w) (hp : p.at_ w) (lp : p.kO k) :
  Calls Tryz.prog 82 #[.agg #[.int .i64 p.v, .slice p.A p.n p.c]] w fun r w' => ∃ A c, r = .returned (.slice A (vf p.v p.ts).length c) ∧ Hp w [.row A (vf p.v p.ts).length c 3 1 (bF (vf p.v p.ts))] w' := by
 have hh := Hp.start w;have hck := fun w1 hT1 hb => nj p k w1 hT1 (hp.ext hb) lp;by_cases h0 : p.e = 0
 ·rw [show vf p.v p.ts = me p.v.toNat p.ts from if_pos h0, eX];rw [h0] at hck;obtain ⟨hf, h4, hmy, _⟩ := cu h0;have hpl : p.ts.length = p.n := hp.ln;obtain ⟨pv, pA, pn, pc, ts⟩ := p;replace hf := iD.1 hf;replace hmy : ∀ t ∈ ts, eH pv t = true := hmy;replace hp : Sl w pA pn 4 (az TR.cells ts) := hp;have hsz : ∀ t ∈ ts, t.m.size ≤ 100000 := lp.sz;have hn := lp.n;replace hn : pn ≤ 1000000 := hn;replace hpl : ts.length = pn := hpl;obtain ⟨m, rfl⟩ : ∃ m : Nat, pv = (m : Int) := ⟨pv.toNat, by show pv = _; have : 0 ≤ pv := hf.1; omega⟩;replace hf : m ≤ 12 := by have h9 : (m : Int) ≤ 12 := hf.2; omega
  show Calls _ _ _ _ fun r w' => ∃ A c, r = .returned (.slice A m c) ∧ Hp w [.row A m c 3 1 (bF (me m ts))] w';refine aj (N := 42) (l := [.agg #[.int .i64 m, .slice pA pn pc]]) Tryz.func82 rfl rfl (by simp) ?_;refine sr ?_;refine cx hh [_,_] ?_;intro b1 w1 hh;refine aL (aa (ah (sr ?_)));refine cD hh 0 [_,_] ?_;refine fG ?_;intro w9 hh;refine cK (aa (cF (ar (ai (sr (bD ?_))))));refine bB hh 0 ?_;refine fU (n := m) hh rfl rfl Tx Tx bg.out aN.out rfl Tx Tx Ty ?_;intro b13 w13 hh;refine aL (aa (ah (sr (bD ?_))));refine bB hh 1 ?_;refine aJ (mI (aa (aq ?_)));rw [Ig] at hh;refine aP [5, 6, 7, 17, 18, 19, 20, 21, 22, 23, 24, 25, 26, 27, 28, 29, 30, 31, 32, 33, 34, 35, 36, 37, 38, 39, 40] 17
   (fun v w' => ∃ i : Nat, i ≤ pn ∧ v = .int .i64 i ∧ Hp w [.row (some ⟨b13, 0, none⟩) m m 3 1 (bF (me m (ts.take i))), .blk b1 24 [.int .i64 m, .slice pA pn pc] (0, 0)] w')
   (fun v _ => pn - (intOf v).toNat) ?_ ?_
  ·exact ⟨0, Nat.zero_le _, rfl, hh⟩
  ·clear hh;rintro ρ' v w' ⟨i, hi, rfl, hh⟩;by_cases hlt : i < pn
   ·obtain ⟨x, hx⟩ := ao (l := ts) (k := i) Tx;obtain ⟨ad, rfl, hr⟩ := hp.at_ Tx;have hxm := List.mem_of_getElem? hx;have hxs := hsz x hxm;have hmx := Bool.and_eq_true_iff.1 (hmy x hxm);have hxz : x.m.size = m := by have := of_decide_eq_true hmx.2; omega
    have hxl : x.m.data.toList.length = m := by rw [← dA]; exact hxz
    have hex : iq x.m.data.toList = ints x.m.data.toList := jC hmx.1;have hel : (iq x.m.data.toList).length = m := by rw [hex, cU]; exact hxl
    have hBl : (me m (ts.take i)).length = (me m (ts.take (i + 1))).length := by rw [eX, eX]
    refine sr ?_;refine dH ?_;refine cn ?_;refine qV ?_;refine bR hh ?_;intro b5 w5 hh;refine bW hh 0 [_,_,_,_] ?_;intro ws hh;replace hh : Hp _ (.blk _ _ [_, _, _, _] _ :: _) _ := hh;refine aa (sr (bD ?_));refine bB hh 0 ?_;refine aE (gW x.m _ hxs) ak.out rfl Ty ?_;rintro e_ w23 ⟨A23, c23, rfl, hown_, hb_⟩;refine ⟨_, rfl, ?_⟩;replace hh := hh.aV (x := .row _ _ _ _ _ _) hb_ hown_;rw [hel] at hh ⊢;refine aJ (mI (aa (aq ?_)));refine aP [6, 7, 25, 26, 27, 28, 29, 30, 31, 32, 33, 34, 35, 36, 37, 38, 39] 25
     (fun v w' => ∃ j : Nat, j ≤ m ∧ v = .int .i64 j ∧ Hp w [.row A23 m c23 3 1 (bF (iq x.m.data.toList)), .blk b5 96 [.string x.m, .bool x.c.neg, .string x.c.bo, .int .i64 x.c.e] (0, 0), .row (some ⟨b13, 0, none⟩) m m 3 1 (bF ((me m (ts.take (i + 1))).take j ++ (me m (ts.take i)).drop j)), .blk b1 24 [.int .i64 m, .slice (some ad) pn pc] (0, 0)] w')
     (fun v _ => m - (intOf v).toNat) ?_ ?_
    ·exact ⟨0, Nat.zero_le _, rfl, hh⟩
    ·clear hh;rintro ρ2 v w2 ⟨j, hj, rfl, hh⟩;by_cases hjn : j < m
     ·obtain ⟨e, he⟩ := ao (l := x.m.data.toList) (k := j) Tx;have hee : (iq x.m.data.toList)[j]? = some (e.toNat : Int) := by rw [hex]; exact Lf he
      have ho := KP hBl (r8 (ts.take i) hjn);have hset := Me hBl (r8 (ts.take (i + 1)) hjn);have hmx2 : AO (ts.take (i + 1)) j = max (AO (ts.take i) j) (e.toNat : Int) := by rw [ay hx, tT, I0 he]
      rw [hmx2] at hset;have hol : ((me m (ts.take (i + 1))).take j ++ (me m (ts.take i)).drop j).length = m := by rw [List.length_append, List.length_take, List.length_drop, eX, eX]; omega
      generalize (me m (ts.take (i + 1))).take j ++ (me m (ts.take i)).drop j = M at *;have hee2 := cj hee;have ho2 := cj ho;have hll : (bF M).length = m := by rw [bU]; exact hol
      obtain ⟨g, rfl⟩ := hh.cd (i := 0) rfl Tx;refine sr ?_;refine dZ ?_;refine rn ?_;refine jm ?_;refine aI (aI (aa (al (mL (mI (mL (mI ?_)))))));refine rn ?_;refine bT aN.out rfl (hh.fR (i := 2) rfl (by first | assumption | (simp only [Nat.mul_one]; assumption))) Ty ?_;refine mI ?_;refine kK rfl rfl Ty ?_;refine tM ?_;have hmv : (if (e.toNat : Int) > AO (ts.take i) j then (e.toNat : Int) else AO (ts.take i) j) = max (AO (ts.take i) j) (e.toNat : Int) := by split <;> omega
      refine bL hh (i := 2) (vs := [_]) rfl rfl (cH rfl) rfl aN.out rfl Tx rfl ?_;intro ws hh;simp only [List.set_cons_zero, List.set_cons_succ] at hh;rw [hmv, ru _ (by rw [← bU]; omega), hset] at hh;refine fL ?_;refine bh (mI (aA (ai ?_)));refine ⟨⟨j + 1, Tx, rfl, hh⟩, by show m - (j + 1) < m - j; omega, ?_⟩;exact dL
     ·obtain rfl : j = m := Tx;rw [List.take_of_length_le (by rw [eX]; omega), List.drop_of_length_le (by rw [eX]; omega), List.append_nil] at hh;refine sr ?_;refine zY ?_;refine bh (mI (aA (ai ?_)));replace hh := hh.sub (List.Sublist.cons _ (List.Sublist.cons _ (List.Sublist.cons_cons _ (List.Sublist.cons_cons _ List.Sublist.slnil))));refine ⟨⟨i + 1, Tx, rfl, hh⟩, by show pn - (i + 1) < pn - i; omega, ?_⟩;exact dL
   ·obtain rfl : i = pn := Tx;rw [List.take_of_length_le Tx] at hh;exact Qo
 ·rw [show vf p.v p.ts = [] from if_neg h0];refine aj (N := 42) (l := [.agg #[.int .i64 p.v, .slice p.A p.n p.c]]) Tryz.func82 rfl rfl (by simp) ?_;refine sr ?_;refine cx hh [_,_] ?_;intro b1 w1 hh;refine aL (aa (ah (sr ?_)));refine cD hh 0 [_,_] ?_;refine fG ?_;intro w9 hh;refine cK (aa (cT (sr (aL (aa (av (aG ?_)))))));refine cX ?_;exact ⟨none, 0, rfl, (hh.sub (List.nil_sublist _)).db 3 1⟩
def lS (b : List SR) : Int := if b.any (fun s => !decide (s.lo.d < s.hi.d)) then 5 else if b.length = 0 then 1 else 0
theorem Mv (x y : Dyadic) : (0 ≤ k4 x y) ↔ ¬ x < y := by
 rcases QY x y with h | h | h
 ·rw [BR h]; exact ⟨fun h2 => by omega, fun h2 => absurd h h2⟩
 ·rw [h, Gg]; exact ⟨fun _ => by grind, fun _ => by omega⟩
 ·rw [CI h]; exact ⟨fun _ => by grind, fun _ => by omega⟩
theorem pq (L : Option Addr) (n c : Nat) (b : List SR) (w : World) (hT : ee w) (hS : Sl w L n 6 (az SR.cells b)) (hb : ∀ s ∈ b, s.ok) (hn : n ≤ 1000000) :
  Calls Tryz.prog 115 #[.slice L n c] w fun r w' => r = .returned (.int .i64 (lS b)) ∧ Below w.heap.size w w' := by
 have hh := Hp.start w;have hln := hS.bk SR.len Ty;refine aj (N := 21) (l := [.slice L n c]) Tryz.func115 rfl rfl (by simp) ?_;refine yS ?_;refine aP [2, 4, 7, 8, 9, 10, 11, 12, 13, 14, 15, 16, 17] 7
  (fun v w' => ∃ i : Nat, i ≤ n ∧ v = .int .i64 i ∧ (b.take i).any (fun s => !decide (s.lo.d < s.hi.d)) = false ∧ Hp w [] w')
  (fun v _ => n - (intOf v).toNat) ?_ ?_
 ·exact ⟨0, Nat.zero_le _, rfl, rfl, hh⟩
 ·clear hh;rintro ρ' v w' ⟨i, hi, rfl, hall, hh⟩;by_cases hlt : i < n
  ·obtain ⟨s, hs⟩ := ao (l := b) (k := i) Tx;have ms := List.mem_of_getElem? hs;obtain ⟨ad, rfl, hr⟩ := hS.at_ Tx;have hc := fun w1 hT1 => nU s.lo s.hi w1 hT1 (hb s ms).1 (hb s ms).2;have e := Mv s.lo.d s.hi.d;generalize k4 s.lo.d s.hi.d = cc at *;by_cases g : 0 ≤ cc
   ·refine sr ?_;refine dH ?_;refine cn ?_;refine Jh ?_;refine bR hh ?_;intro b4 w4 hh;refine bW hh 0 [_,_,_,_,_,_] ?_;intro ws hh;replace hh : Hp _ (.blk _ _ [_, _, _, _, _, _] _ :: _) _ := hh;refine aa (sr (bD ?_));refine cD hh 0 [_,_,_] (bD ?_);refine cD hh 0 [_,_,_] ?_;refine bz hh (hc _ (hT.hp hh)) rfl ?_;intro w15 hh;refine dR (aa (cT (sr (aI (aa (av (bY (aG (aG (bY (aG ?_)))))))))));refine cX ?_;have : b.any (fun s => !decide (s.lo.d < s.hi.d)) = true := List.any_eq_true.2 ⟨s, ms, by rw [decide_eq_false (e.1 g)]; rfl⟩;exact ⟨by rw [lS, if_pos this], hh.below⟩
   ·refine sr ?_;refine dH ?_;refine cn ?_;refine Jh ?_;refine bR hh ?_;intro b4 w4 hh;refine bW hh 0 [_,_,_,_,_,_] ?_;intro ws hh;replace hh : Hp _ (.blk _ _ [_, _, _, _, _, _] _ :: _) _ := hh;refine aa (sr (bD ?_));refine cD hh 0 [_,_,_] (bD ?_);refine cD hh 0 [_,_,_] ?_;refine bz hh (hc _ (hT.hp hh)) rfl ?_;intro w15 hh;refine dR (aa (cF (ar (bA (ai (al ?_))))));refine bh (mI (aA (ai ?_)));replace hh := hh.sub (List.Sublist.cons _ List.Sublist.slnil);refine ⟨⟨i + 1, Tx, rfl, ?_, hh⟩, by show n - (i + 1) < n - i; omega, ?_⟩
    ·rw [ay hs, List.any_append, hall, Bool.false_or, List.any_cons, List.any_nil, Bool.or_false, decide_eq_true (by have : ¬ ¬ s.lo.d < s.hi.d := fun h => g (e.2 h); exact Classical.not_not.1 this)]
     rfl
    ·exact dL
  ·rw [List.take_of_length_le Tx] at hall;by_cases h0 : n = 0
   ·refine sr ?_;refine bf (aa (ah (cF (aZ (aD (aD (bq (ai (ah (sr (mL (aJ ?_))))))))))));refine Dt ?_;refine cX ?_;exact ⟨by rw [lS, hall, if_neg (by simp), if_pos Tx], hh.below⟩
   ·refine sr ?_;refine bf (aa (ah (cF (aZ (aD (aD (bq (ai (ah (sr (mL (aJ ?_))))))))))));refine cW (aa (cF (ar (ai (sr (aI (aa (av ?_))))))));refine cX ?_;exact ⟨by rw [lS, hall, if_neg (by simp), if_neg Tx], hh.below⟩
theorem qY (L : Option Addr) (n c : Nat) (b : List SR) (w : World) (hT : ee w) (hS : Sl w L n 6 (az SR.cells b)) (hb : ∀ s ∈ b, s.ok) (hn : n ≤ 1000000) :
  Calls Tryz.prog 96 #[.slice L n c] w fun r w' => ∃ A c', r = .returned (.slice A n c') ∧ w'.ownsRow w.heap.size 81 6 (.slice A n c') n (az SR.cells (b.map SR.f)) ∧ Below w.heap.size w w' := by
 have hh := Hp.start w;have hln := hS.bk SR.len Ty;refine aj (N := 19) (l := [.slice L n c]) Tryz.func96 rfl rfl (by simp) ?_;refine sr (aL (aa (sr (aL (aa (ah (sr (mL (aJ (mI (aa (aq ?_))))))))))));replace hh := hh.db 81 6;refine bJ [3, 5, 8, 9, 10, 11, 12, 13, 14, 15, 16, 17] 3 8
  (fun v3 v w' => ∃ (i c3 : Nat) (A : Option Addr), i ≤ n ∧ v = .int .i64 i ∧ v3 = .slice A i c3 ∧ Hp w [.row A i c3 81 6 (az SR.cells ((b.take i).map SR.f))] w')
  (fun _ v _ => n - (intOf v).toNat) ?_ ?_
 ·exact ⟨0, 0, none, Nat.zero_le _, rfl, rfl, hh⟩
 ·clear hh;rintro ρ' v3 v w' ⟨i, c3, A, hi, rfl, rfl, hh⟩;by_cases hlt : i < n
  ·obtain ⟨s, hs⟩ := ao (l := b) (k := i) Tx;have ms := List.mem_of_getElem? hs;obtain ⟨ad, rfl, hr⟩ := hS.at_ Tx;refine sr ?_;refine dH ?_;refine cn ?_;refine Jh ?_;refine bR hh ?_;intro b5 w5 hh;refine bW hh 0 [_,_,_,_,_,_] ?_;intro ws hh;replace hh : Hp _ (.blk _ _ [_, _, _, _, _, _] _ :: _) _ := hh;refine aa (al (mL ?_));refine cD hh 0 [_,_,_,_,_,_] ?_;refine bz hh (yq s _ (hT.hp hh) (hb s ms)) rfl ?_;intro w14 hh;refine MI ?_;intro b15 w15 hh;refine Nq ?_;intro A16 c16 w16 hh;simp only [List.set_cons_zero, List.set_cons_succ] at hh;replace hh := hh.sub (List.sublist_cons_self _ _);refine k8 ?_;refine bh (mI (aA (ai ?_)));replace hh := hh.sub (List.Sublist.cons _ (List.Sublist.cons_cons _ List.Sublist.slnil));refine ⟨⟨i + 1, c16, A16, Tx, rfl, rfl, ?_⟩, by show n - (i + 1) < n - i; omega, ?_⟩
   ·rw [ay hs, List.map_append, bV];exact hh
   ·exact dL
  ·obtain rfl : i = n := Tx;rw [List.take_of_length_le Tx] at hh;exact OW
def hasB (b : List SR) (p : List NR) : Bool := decide (b.length = p.length) && (b.zip p).all fun x => x.1.has x.2.d
def RH (a b : List SR) : Bool := decide (a.length = b.length) && (a.zip b).all fun x => x.2.has x.1.lo.d && x.2.has x.1.hi.d
def uk (dg ds : List Int) : Bool := (dg.zip ds).any fun q => decide (q.2 < q.1 ∨ 127 < q.2)
def ma (p : PX) (b : List SR) (ds : List Int) : Int :=
 if p.e ≠ 0 then p.e else if lS b ≠ 0 then lS b else if (b.length : Int) ≠ p.v ∨ (ds.length : Int) ≠ p.v then 1 else if uk (vf p.v p.ts) ds = true then 1 else if ij 1 ds = 0 then 3 else 0
theorem DK {α β : Type} {a : List α} {b : List β} {i : Nat} {x : α} {y : β} (hx : a[i]? = some x) (hy : b[i]? = some y) : (a.zip b)[i]? = some (x, y) := by
 rw [List.getElem?_zip_eq_some];exact ⟨hx, hy⟩
theorem uf (p : PX) (L : Option Addr) (n c : Nat) (b : List SR) (M : Option Addr) (m mc : Nat) (ds : List Int) (k : Nat) (w : World) (hT : ee w) (hp : p.at_ w) (lp : p.kO k) (hB : Sl w L n 6 (az SR.cells b)) (hb : ∀ s ∈ b, s.ok) (hn : n ≤ 1000000) (hD : Sl w M m 1 (bF ds)) (hm : m ≤ 1000000) :
  Calls Tryz.prog 87 #[.agg #[.int .i64 p.v, .slice p.A p.n p.c], .slice L n c, .slice M m mc] w fun r w' => r = .returned (.int .i64 (ma p b ds)) ∧ Below w.heap.size w w' := by
 have hh := Hp.start w;have hck := fun w1 hT1 hb => nj p k w1 hT1 (hp.ext hb) lp;have hbk := fun w1 hT1 hb1 => pq L n c b w1 hT1 (hB.ext hb1) hb hn;have hdg := fun w1 hT1 hb => rI p k w1 hT1 (hp.ext hb) lp;have hbl : b.length = n := hB.bk SR.len Ty;have hdl : ds.length = m := by have := hD.1; rw [bU] at this; omega
 unfold ma;by_cases h0 : p.e ≠ 0
 ·rw [if_pos h0];generalize p.e = e at *;refine AQ ?_;refine sr ?_;refine cx hh [_,_] ?_;intro b3 w3 hh;refine aI (aa (ah (sr ?_)));refine cD hh 0 [_,_] ?_;refine fG ?_;intro w12 hh;exact OL
 ·rw [if_neg h0];have hpe : p.e = 0 := Tx;rw [hpe] at hck;by_cases h1 : lS b ≠ 0
  ·rw [if_pos h1];generalize lS b = e at *;refine AQ ?_;refine sr ?_;refine cx hh [_,_] ?_;intro b3 w3 hh;refine aI (aa (ah (sr ?_)));refine cD hh 0 [_,_] ?_;refine fG ?_;intro w12 hh;refine aI (aa (sr (mI ?_)));refine sK ?_;refine bz hh (hbk _ (hT.hp hh) hh.below) rfl ?_;intro w17 hh;exact OL
  ·rw [if_neg h1];rw [show lS b = 0 by omega] at hbk;by_cases h2 : (b.length : Int) ≠ p.v
   ·rw [if_pos (.inl h2)];refine AQ ?_;refine sr ?_;refine cx hh [_,_] ?_;intro b3 w3 hh;refine aI (aa (ah (sr ?_)));refine cD hh 0 [_,_] ?_;refine fG ?_;intro w12 hh;refine aI (aa (sr (mI ?_)));refine sK ?_;refine bz hh (hbk _ (hT.hp hh) hh.below) rfl ?_;intro w17 hh;refine aI (aa (sr (mI ?_)));refine rq ?_;refine bB hh 0 ?_;refine cK (mB ?_);refine gS (gS (gS (gS (gS ?_))));refine fu ?_;exact Jr
   ·by_cases h3 : (ds.length : Int) ≠ p.v
    ·rw [if_pos (.inr h3)];refine AQ ?_;refine sr ?_;refine cx hh [_,_] ?_;intro b3 w3 hh;refine aI (aa (ah (sr ?_)));refine cD hh 0 [_,_] ?_;refine fG ?_;intro w12 hh;refine aI (aa (sr (mI ?_)));refine sK ?_;refine bz hh (hbk _ (hT.hp hh) hh.below) rfl ?_;intro w17 hh;refine aI (aa (sr (mI ?_)));refine rq ?_;refine bB hh 0 ?_;refine cK (mB (gT (mL (gT (aJ (gT (bD (gT ?_))))))));refine bB hh 0 ?_;refine gT ?_;refine cK ?_;refine dK ?_;exact Jr
    ·rw [if_neg (fun h => h.elim h2 h3)];have hgl : (vf p.v p.ts).length = m := by
      unfold vf;rw [if_pos (show fH p.v p.ts = 0 from hpe), eX];omega
     have hzl : ((vf p.v p.ts).zip ds).length = m := by rw [List.length_zip]; omega
     have hbd : uk (vf p.v p.ts) ds = ((vf p.v p.ts).zip ds).any fun q => decide (q.2 < q.1 ∨ 127 < q.2) := rfl;generalize vf p.v p.ts = dg at *;rw [hgl] at hdg;refine AQ ?_;refine sr ?_;refine cx hh [_,_] ?_;intro b3 w3 hh;refine aI (aa (ah (sr ?_)));refine cD hh 0 [_,_] ?_;refine fG ?_;intro w12 hh;refine aI (aa (sr (mI ?_)));refine sK ?_;refine bz hh (hbk _ (hT.hp hh) hh.below) rfl ?_;intro w17 hh;refine aI (aa (sr (mI ?_)));refine rq ?_;refine bB hh 0 ?_;refine cK (mB (gT (mL (gT (aJ (gT (bD (gT ?_))))))));refine bB hh 0 ?_;refine gT ?_;refine cK ?_;refine dK ?_;refine aa (cF (ar (ai (ah (sr ?_)))));refine cD hh 0 [_,_] ?_;refine aE (hdg _ (hT.hp hh) hh.below) ak.out rfl Ty ?_;rintro e_ w34 ⟨G, gc, rfl, h4⟩;refine ⟨_, rfl, ?_⟩;replace hh := hh.join h4;simp only [List.cons_append, List.nil_append] at hh;refine aJ (mI (aa (aq ?_)));refine aP [6, 9, 10, 36, 37, 38, 39, 40, 41, 42, 43, 44, 45, 46, 47, 48, 49, 50, 51, 52, 53, 54] 36
      (fun v w' => ∃ i : Nat, i ≤ m ∧ v = .int .i64 i ∧ ((dg.zip ds).take i).any (fun q => decide (q.2 < q.1 ∨ 127 < q.2)) = false ∧ Hp w [.row G m gc 3 1 (bF dg), .blk b3 24 [.int .i64 p.v, .slice p.A p.n p.c] (0, 0)] w')
      (fun v _ => m - (intOf v).toNat) ?_ ?_
     ·exact ⟨0, Nat.zero_le _, rfl, rfl, hh⟩
     ·clear hh;rintro ρ' v w' ⟨i, hi, rfl, hall, hh⟩;by_cases hlt : i < m
      ·obtain ⟨x, hx⟩ := ao (l := dg) (k := i) Tx;obtain ⟨y, hy⟩ := ao (l := ds) (k := i) Tx;have hz := DK hx hy;have hx2 := cj hx;have hy2 := cj hy;have hll : (bF dg).length = m := by rw [bU]; exact hgl
       obtain ⟨ad, rfl, hr⟩ := hD.at_ Tx;obtain ⟨g0, rfl⟩ := hh.cd (i := 0) rfl Tx;by_cases hxy : y < x
       ·refine sr ?_;refine dZ ?_;refine gh ?_;refine jm ?_;refine aI (aI (aa (sr (mL (mI ?_)))));refine cn ?_;refine Bm ?_;refine mI ?_;refine bf (mB ?_);refine gS (gS (gS (gS (gS ?_))));refine fu ?_;refine EM ?_;refine cX ?_;rw [if_pos (by rw [hbd]; exact List.any_eq_true.2 ⟨_, List.mem_of_getElem? hz, decide_eq_true (.inl hxy)⟩)];exact ⟨rfl, hh.below⟩
       ·by_cases hy7 : 127 < y
        ·refine sr ?_;refine dZ ?_;refine gh ?_;refine jm ?_;refine aI (aI (aa (sr (mL (mI ?_)))));refine cn ?_;refine Bm ?_;refine mI ?_;refine bf (mB (gT (mL (gT (mI (gT ?_))))));refine cn ?_;refine aH rfl rfl ?_;refine Bm ?_;refine gT ?_;refine bM ?_;refine dK ?_;refine EM ?_;refine cX ?_;rw [if_pos (by rw [hbd]; exact List.any_eq_true.2 ⟨_, List.mem_of_getElem? hz, decide_eq_true (.inr hy7)⟩)];exact ⟨rfl, hh.below⟩
        ·refine sr ?_;refine dZ ?_;refine gh ?_;refine jm ?_;refine aI (aI (aa (sr (mL (mI ?_)))));refine cn ?_;refine Bm ?_;refine mI ?_;refine bf (mB (gT (mL (gT (mI (gT ?_))))));refine cn ?_;refine aH rfl rfl ?_;refine Bm ?_;refine gT ?_;refine bM ?_;refine dK ?_;refine Be ?_;refine bh (mI (aA (ai ?_)));refine ⟨⟨i + 1, Tx, rfl, by rw [ay hz, List.any_append, hall, List.any_cons, List.any_nil, decide_eq_false (fun h => h.elim hxy hy7)]; rfl, hh⟩, by show m - (i + 1) < m - i; omega, ?_⟩;exact dL
      ·rw [List.take_of_length_le Tx] at hall;rw [if_neg (by rw [hbd, hall]; decide)];have hcn := fun w1 hb => ej M m mc ds w1 (hD.ext hb) hm;refine sr ?_;refine bf (aa (ah (cF (aZ (aD (aD (bq (ai (ah (sr (mL ?_)))))))))));by_cases h9 : ij 1 ds = 0
       ·rw [if_pos h9];rw [h9] at hcn;refine bz hh (hcn _ hh.below) rfl ?_;intro w56 hh;refine Dt ?_;refine cX ?_;exact ⟨rfl, hh.below⟩
       ·rw [if_neg h9];generalize ij 1 ds = N at *;refine bz hh (hcn _ hh.below) rfl ?_;intro w56 hh;refine cW (aa (cF (ar (ai (sr (aI (aa (av ?_))))))));refine cX ?_;exact ⟨rfl, hh.below⟩
theorem HM {p q : List TR} (h : 65536 < p.length * q.length) : fy p q = 3 := by unfold fy; rw [if_pos h]
theorem Lh {p q : List TR} {e : Int} (h6 : ¬ 65536 < p.length * q.length) {a b : List Int} (h : ri p q = a ++ e :: b) (ha : ∀ x ∈ a, x = 0) (he : e ≠ 0) : fy p q = e := by
 unfold fy;rw [if_neg h6, h, List.find?_append, iP (List.any_eq_false.2 fun x hx => by simp [ha x hx]), List.find?_cons_of_pos (p := fun e : Int => decide (e ≠ 0)) (by simpa using he)]
 rfl
theorem At {p q : List TR} (h6 : ¬ 65536 < p.length * q.length) (h : ∀ x ∈ ri p q, x = 0) : fy p q = gR (cC p q) := by
 unfold fy gR;rw [if_neg h6, iP (List.any_eq_false.2 fun x hx => by simp [h x hx])]
theorem yB (p q : PX) (k k2 : Nat) (w : World) (hT : ee w) (hp : p.at_ w) (hq : q.at_ w) (lp : p.kO k) (lq : q.kO k2) (hk : k + k2 ≤ 900000) :
  Calls Tryz.prog 80 #[.agg #[.int .i64 p.v, .slice p.A p.n p.c], .agg #[.int .i64 q.v, .slice q.A q.n q.c]] w fun r w' => ∃ g : PX, eK (fy p.ts q.ts) p.v (aF (cC p.ts q.ts)) g ∧ r = .returned (.tuple #[.agg #[.int .i64 g.v, .slice g.A g.n g.c], .int .i64 (fy p.ts q.ts)]) ∧ Hp w [g.row] w' := by
 have hh := Hp.start w;obtain ⟨pv, pA, pn, pc, ps⟩ := p;obtain ⟨qv, qA, qn, qc, qs⟩ := q;have hpl : ps.length = pn := hp.ln;have hql : qs.length = qn := hq.ln;have hpn : pn ≤ 1000000 := lp.n;have hqn : qn ≤ 1000000 := lq.n;have okp : iO k ps := lp.ok;have okq : iO k2 qs := lq.ok;have szp : ∀ t ∈ ps, t.m.size ≤ 100000 := lp.sz;have szq : ∀ t ∈ qs, t.m.size ≤ 100000 := lq.sz;replace hp : Sl w pA pn 4 (az TR.cells ps) := hp;replace hq : Sl w qA qn 4 (az TR.cells qs) := hq;clear lp lq;show Calls _ _ _ _ fun r w' => ∃ g : PX, eK (fy ps qs) pv (aF (cC ps qs)) g ∧ r = .returned (.tuple #[.agg #[.int .i64 g.v, .slice g.A g.n g.c], .int .i64 (fy ps qs)]) ∧ Hp w [g.row] w';have hmm : pn * qn ≤ 1000000 * 1000000 := Nat.mul_le_mul hpn hqn;obtain ⟨m, hm⟩ : ∃ m, m = pn * qn := ⟨_, rfl⟩;have hmi : (pn : Int) * (qn : Int) = (m : Int) := by rw [hm]; exact (Int.natCast_mul _ _).symm
 by_cases h6 : 65536 < m
 ·rw [HM (by rw [hpl, hql, ← hm]; exact h6)];refine aj (N := 67) (l := [.agg #[.int .i64 pv, .slice pA pn pc], .agg #[.int .i64 qv, .slice qA qn qc]]) Tryz.func80 rfl rfl (by simp) ?_;refine sr ?_;refine cx hh [_,_] ?_;intro b2 w2 hh;refine cx hh [_,_] ?_;intro b3 w3 hh;refine bR hh ?_;intro b4 w4 hh;refine aI (aa (ah (sr (bD ?_))));refine bB hh 2 ?_;refine aJ (bD ?_);refine bB hh 1 ?_;refine aJ ?_;refine mulC ?_;refine bM (aa (cT (sr ?_)));exact L5
 ·have hbig : ¬ 65536 < ps.length * qs.length := by rw [hpl, hql, ← hm]; exact h6
  refine aj (N := 67) (l := [.agg #[.int .i64 pv, .slice pA pn pc], .agg #[.int .i64 qv, .slice qA qn qc]]) Tryz.func80 rfl rfl (by simp) ?_;refine sr ?_;refine cx hh [_,_] ?_;intro b2 w2 hh;refine cx hh [_,_] ?_;intro b3 w3 hh;refine bR hh ?_;intro b4 w4 hh;refine aI (aa (ah (sr (bD ?_))));refine bB hh 2 ?_;refine aJ (bD ?_);refine bB hh 1 ?_;refine aJ ?_;refine mulC ?_;refine bM (aa (cF (ar (ai (sr (aL (aa (ah (sr (bD ?_))))))))));refine bB hh 2 ?_;refine aJ (mI (aa (aq ?_)));replace hh := hh.db 96 4;have hall : ∀ i, ((ps.take i).flatMap fun x => qs.map (qL x)).length ≤ 65536 := fun i => by
   have h1 : (cC ps qs).length = ((ps.take i).flatMap fun x => qs.map (qL x)).length + ((ps.drop i).flatMap fun x => qs.map (qL x)).length := by
    unfold cC;rw [← List.length_append, ← List.flatMap_append, List.take_append_drop]
   rw [lf] at h1;omega
  refine bJ [5, 6, 8, 10, 11, 12, 25, 26, 27, 28, 29, 30, 31, 32, 33, 34, 35, 36, 37, 38, 39, 40, 41, 42, 43, 44, 45, 46, 47, 48, 49, 50, 51, 52, 53, 54, 55, 56, 57, 58, 59, 60] 6 25
   (fun a x w' => ∃ (i : Nat) (M : List TR) (A' : Option Addr) (c' : Nat), i ≤ pn ∧ x = .int .i64 i ∧ a = .slice A' M.length c' ∧ M = ((ps.take i).flatMap fun x => qs.map (qL x)) ∧ (∀ e ∈ ((ps.take i).flatMap fun x => qs.map fun y => mm x.m y.m), e = 0) ∧ Hp w [.row A' M.length c' 96 4 (az TR.cells M), .blk b4 24 [.int .i64 0, .slice none 0 0] (0, 0), .blk b3 24 [.int .i64 qv, .slice qA qn qc] (0, 0), .blk b2 24 [.int .i64 pv, .slice pA pn pc] (0, 0)] w')
   (fun _ x _ => pn - (intOf x).toNat) ?_ ?_
  ·exact ⟨0, [], none, 0, Nat.zero_le _, rfl, rfl, rfl, fun e he => (nomatch he), hh⟩
  ·clear hh;rintro ρ' a_ x_ w' ⟨i, M, A', c', hi, rfl, rfl, hM, hz, hh⟩;have hMl := hall i;rw [← hM] at hMl;by_cases hlt : i < pn
   ·obtain ⟨x, hx⟩ := ao (l := ps) (k := i) Tx;obtain ⟨ad, rfl, hr⟩ := hp.at_ Tx;have hxm := List.mem_of_getElem? hx;have hxo := okp x hxm;have hxs := szp x hxm;refine sr ?_;refine dH ?_;refine cn ?_;refine qV ?_;refine bR hh ?_;intro b8 w8 hh;refine bW hh 0 [_,_,_,_] ?_;intro ws hh;replace hh : Hp _ (.blk _ _ [_, _, _, _] _ :: _) _ := hh;refine aa (sr (bD ?_));refine bB hh 3 ?_;refine aJ (mI (aa (aq ?_)));replace hh := hh.perm (List.perm_middle (l₁ := [_]));simp only [List.cons_append, List.nil_append] at hh;refine bJ [5, 6, 10, 11, 12, 32, 33, 34, 35, 36, 37, 38, 39, 40, 41, 42, 43, 44, 45, 46, 47, 48, 49, 50, 51, 52, 53, 54, 55, 56, 57, 58, 59] 6 32
     (fun a z w' => ∃ (j : Nat) (N : List TR) (A' : Option Addr) (c' : Nat), j ≤ qn ∧ z = .int .i64 j ∧ a = .slice A' N.length c' ∧ N = M ++ (qs.take j).map (qL x) ∧ (∀ e ∈ (qs.take j).map (fun y => mm x.m y.m), e = 0) ∧ Hp w [.row A' N.length c' 96 4 (az TR.cells N), .blk b8 96 [.string x.m, .bool x.c.neg, .string x.c.bo, .int .i64 x.c.e] (0, 0), .blk b4 24 [.int .i64 0, .slice none 0 0] (0, 0), .blk b3 24 [.int .i64 qv, .slice qA qn qc] (0, 0), .blk b2 24 [.int .i64 pv, .slice (some ad) pn pc] (0, 0)] w')
     (fun _ z _ => qn - (intOf z).toNat) ?_ ?_
    ·refine ⟨0, M, A', c', Nat.zero_le _, rfl, rfl, by simp, fun e he => (nomatch he), hh⟩
    ·clear hh;rintro ρ2 a2 x2 w2 ⟨j, N, A2, c2, hj, rfl, rfl, hN, hz2, hh⟩;by_cases hjn : j < qn
     ·obtain ⟨y, hy⟩ := ao (l := qs) (k := j) Tx;obtain ⟨ad2, rfl, hr2⟩ := hq.at_ Tx;have hym := List.mem_of_getElem? hy;have hyo := okq y hym;have hys := szq y hym;have hmul : ∀ w1, Calls Tryz.prog 165 #[.string x.m, .string y.m] w1 fun r w' => r = .returned (.tuple #[.string (mulM x.m y.m), .int .i64 (mm x.m y.m)]) ∧ Below w1.heap.size w1 w' := fun w1 => GI x.m y.m w1 hxs hys;have hdm := fun A cc w1 hT1 hS1 => ew A 2 cc [x.c, y.c] w1 hT1 hS1 (by simpa using ⟨hxo.1, hyo.1⟩) (k + k2) (by simpa using ⟨hxo.2.mono Tx, hyo.2.mono Tx⟩) Tx Ty;rw [show ic ([x.c, y.c].map NR.d) = x.c.d * y.c.d by show 1 * x.c.d * y.c.d = _; rw [Dyadic.one_mul]] at hdm;obtain ⟨R, hR⟩ := CQ (f := fun x y => mm x.m y.m) hx hy;have hzz : ∀ e ∈ ((ps.take i).flatMap fun x => qs.map fun y => mm x.m y.m) ++ (qs.take j).map (fun y => mm x.m y.m), e = 0 := fun e he => by
       rcases List.mem_append.1 he with he | he
       ·exact hz e he
       ·exact hz2 e he
      have hNl : N.length < 65536 := by
       have h1 := hall (i + 1);rw [ql hx, List.length_append, ← hM] at h1;rw [hN, List.length_append];simp at h1 ⊢;omega
      by_cases he : mm x.m y.m = 0
      ·refine sr ?_;refine dH ?_;refine kg ?_;refine ct (vs := [_, _, _, _]) aN.out rfl ((hr2.ext hh.below).recAt TR.len hy) rfl Ty ?_;refine bR hh ?_;intro b10 w10 hh;refine bW hh 0 [_,_,_,_] ?_;intro ws hh;replace hh : Hp _ (.blk _ _ [_, _, _, _] _ :: _) _ := hh;refine aa (sr (bD ?_));refine bB hh 2 ?_;refine bD ?_;refine bB hh 0 ?_;refine bz hh (hmul _) rfl ?_;intro w41 hh;refine mT ?_;refine dq ?_;refine dq ?_;refine aS (aI (aa (ah (sr (mI ?_)))));refine cK (aa (cF (ar (ai (al (mL (mS (bD ?_))))))));refine cD hh 2 [_,_,_] (bD ?_);refine cD hh 0 [_,_,_] ?_;refine wg ?_;intro b54 w54 hh;refine bz hh (hdm _ _ _ (hT.hp hh) (hh.aC (i := 0) rfl)) rfl ?_;intro w55 hh;refine gj [_,_,_,_] ?_;refine z6 ?_;intro b57 w57 hh;refine M4 ?_;intro A58 c58 w58 hh;simp only [List.set_cons_zero, List.set_cons_succ] at hh;replace hh := hh.sub (List.sublist_cons_self _ _);refine k8 ?_;refine bh (mI (aA (ai ?_)));have e1 : az TR.cells N ++ [.string (mulM x.m y.m), .bool (nR (x.c.d * y.c.d)).neg, .string (nR (x.c.d * y.c.d)).bo, .int .i64 (nR (x.c.d * y.c.d)).e] = az TR.cells (N ++ [qL x y]) := by rw [bV, jI]; rfl
       replace hh := show Hp w (_ :: _ :: .row A58 (N.length + 1) c58 96 4 (az TR.cells N ++ [.string (mulM x.m y.m), .bool (nR (x.c.d * y.c.d)).neg, .string (nR (x.c.d * y.c.d)).bo, .int .i64 (nR (x.c.d * y.c.d)).e]) :: _) w58 from hh;rw [e1] at hh;replace hh := hh.sub (List.Sublist.cons _ (List.Sublist.cons _ (List.Sublist.cons_cons _ (List.Sublist.cons_cons _ (List.Sublist.cons_cons _ (List.Sublist.cons_cons _ (List.Sublist.cons_cons _ List.Sublist.slnil)))))));refine ⟨⟨j + 1, N ++ [qL x y], _, _, Tx, rfl, by rw [List.length_append]; rfl, by rw [hN, ay hy, List.map_append, List.append_assoc]; rfl, fun e h => ?_, ?_⟩, by show qn - (j + 1) < qn - j; omega, ?_⟩
       ·rw [ay hy, List.map_append, List.mem_append] at h
        rcases h with h | h
        ·exact hz2 e h
        ·rw [List.mem_singleton.1 h]; exact he
       ·rw [List.length_append]; exact hh
       ·exact dL
      ·rw [Lh hbig hR hzz he];generalize mm x.m y.m = e at *;refine sr ?_;refine dH ?_;refine kg ?_;refine ct (vs := [_, _, _, _]) aN.out rfl ((hr2.ext hh.below).recAt TR.len hy) rfl Ty ?_;refine bR hh ?_;intro b10 w10 hh;refine bW hh 0 [_,_,_,_] ?_;intro ws hh;replace hh : Hp _ (.blk _ _ [_, _, _, _] _ :: _) _ := hh;refine aa (sr (bD ?_));refine bB hh 2 ?_;refine bD ?_;refine bB hh 0 ?_;refine bz hh (hmul _) rfl ?_;intro w41 hh;refine mT ?_;refine dq ?_;refine dq ?_;refine aS (aI (aa (ah (sr (mI ?_)))));refine cK (aa (cT (sr ?_)));refine gj [_,_] (mI ?_);refine bW hh 3 [_,_] ?_;intro ws hh;replace hh : Hp _ (_ :: _ :: _ :: .blk _ _ [_, _] _ :: _) _ := hh;refine aI (aa (av (aG (bY (aG (aG (bY (bY (aG (aG (bY (aG ?_))))))))))));refine Jf ?_;exact Ol
     ·obtain rfl : j = qn := Tx;rw [List.take_of_length_le Tx] at hz2 hN;refine sr ?_;refine zY ?_;refine bh (mI (aA (ai ?_)));replace hh := hh.sub (List.Sublist.cons_cons _ (List.Sublist.cons _ (List.Sublist.cons_cons _ (List.Sublist.cons_cons _ (List.Sublist.cons_cons _ List.Sublist.slnil)))));refine ⟨⟨i + 1, N, A2, c2, Tx, rfl, rfl, by rw [ql hx, ← hM, List.take_of_length_le Tx]; exact hN, fun e h => ?_, hh⟩, by show pn - (i + 1) < pn - i; omega, ?_⟩
      ·rw [ql (f := fun (x y : TR) => mm x.m y.m) hx, List.mem_append, List.take_length] at h
       rcases h with h | h
       ·exact hz e h
       ·exact hz2 e h
      ·exact dL
   ·obtain rfl : i = pn := Tx;rw [List.take_of_length_le Tx] at hz hM;have hMp : M = cC ps qs := hM;rw [At hbig hz, ← hMp];have hpo := uD okp okq Tx;rw [← hMp] at hpo;refine sr ?_;refine bf (aa (ah (cF (aZ (aD (aD (bq (ai (sr (bD ?_))))))))));refine bB hh 3 ?_;refine mL ?_;refine aE (ko pv A' M.length c' M (k + k2) _ hT hh rfl Tx Tx hpo) ak.out rfl Ty ?_;rintro e_ w64 ⟨g, og, rfl, hh⟩;refine ⟨_, rfl, ?_⟩;refine dq ?_;refine dq ?_;exact Eg
def jW (base : Nat) (E v : Int) (ts : List TR) : VP := fun x W => ∃ (g : PX) (w1 : World), x = .agg #[.int .i64 g.v, .slice g.A g.n g.c] ∧ eK E v ts g ∧ base ≤ w1.heap.size ∧ Hp w1 [g.row] W
theorem jW.ext {base : Nat} {E v : Int} {ts : List TR} (x : Value) (w w' : World) (h : jW base E v ts x w) (hb : Below w.heap.size w w') : jW base E v ts x w' := let ⟨g, w1, h1, h2, h3, h4⟩ := h; ⟨g, w1, h1, h2, h3, h4.ext hb⟩
def jY (base : Nat) (E v : Int) (ts : List TR) : VP := fun x W => ∃ (g : PX) (w1 : World), x = .tuple #[.agg #[.int .i64 g.v, .slice g.A g.n g.c], .int .i64 E] ∧ eK E v ts g ∧ base ≤ w1.heap.size ∧ Hp w1 [g.row] W
theorem jY.ext {base : Nat} {E v : Int} {ts : List TR} (x : Value) (w w' : World) (h : jY base E v ts x w) (hb : Below w.heap.size w w') : jY base E v ts x w' := let ⟨g, w1, h1, h2, h3, h4⟩ := h; ⟨g, w1, h1, h2, h3, h4.ext hb⟩
def Ba (base : Nat) (v : Int) (ts : List TR) : VP := fun x W => ∃ (g : PX) (w1 : World), x = .slice g.A g.n g.c ∧ eK 0 v ts g ∧ base ≤ w1.heap.size ∧ Hp w1 [g.row] W
theorem Ba.ext {base : Nat} {v : Int} {ts : List TR} (x : Value) (w w' : World) (h : Ba base v ts x w) (hb : Below w.heap.size w w') : Ba base v ts x w' := let ⟨g, w1, h1, h2, h3, h4⟩ := h; ⟨g, w1, h1, h2, h3, h4.ext hb⟩
theorem PX.ne {g : PX} {w1 W : World} {b : Nat} {t : TypeId} {cs : Array Value} {fz : Nat × Nat} (h : Hp w1 [g.row] W) (h3 : W.heap[b]? = some (.cells cs t fz)) (h1 : 96 ≠ t) : ∀ x ∈ [g.row], x.id ≠ some b := fun x hx => by
 have hx2 := h.own x hx;obtain rfl := List.mem_singleton.1 hx;exact Jj hx2 h3 h1
def ji (a : List TR × Int) (g : PX) : List TR × Int := if a.2 = 0 then (aF (cC a.1 g.ts), fy a.1 g.ts) else a
def Qb (ps : List PX) : List TR × Int := match ps with | [] => ([], 0) | g :: l => l.foldl ji (g.ts, 0)
def DW (ps : List PX) : Int := if eS ps = 0 then (Qb ps).2 else eS ps
theorem Aa {a : List TR × Int} (h : a.2 ≠ 0) : ∀ l : List PX, l.foldl ji a = a
 | [] => rfl
 | g :: l => by
  rw [List.foldl_cons, show ji a g = a by unfold ji; rw [if_neg h]];exact Aa h l
theorem FG {l : List PX} {a : List TR × Int} {i : Nat} {g : PX} (hx : l[i]? = some g) (h0 : ((l.take i).foldl ji a).2 = 0) (h : fy ((l.take i).foldl ji a).1 g.ts ≠ 0) : (l.foldl ji a).2 = fy ((l.take i).foldl ji a).1 g.ts := by
 have e : l = l.take i ++ g :: l.drop (i + 1) := by rw [← gH hx, List.take_append_drop]
 have e2 : l.foldl ji a = (l.drop (i + 1)).foldl ji (ji ((l.take i).foldl ji a) g) := by
  conv => lhs; rw [e]
  rw [List.foldl_append, List.foldl_cons]
 rw [e2];have e3 : ji ((l.take i).foldl ji a) g = (aF (cC ((l.take i).foldl ji a).1 g.ts), fy ((l.take i).foldl ji a).1 g.ts) := if_pos h0;rw [e3, Aa h]
theorem Gk {l : List PX} {a : List TR × Int} {i : Nat} {g : PX} (hx : l[i]? = some g) (h0 : ((l.take i).foldl ji a).2 = 0) : (l.take (i + 1)).foldl ji a = (aF (cC ((l.take i).foldl ji a).1 g.ts), fy ((l.take i).foldl ji a).1 g.ts) := by
 rw [ay hx, List.foldl_append, List.foldl_cons, List.foldl_nil];exact if_pos h0
theorem D4 {p q : List TR} {k j : Nat} (hp : iO k p) (hq : iO j q) (sq : ∀ t ∈ q, t.m.size ≤ 100000) (h : fy p q = 0) (hk : k + j ≤ 900000) : iO (k + j + 65536) (aF (cC p q)) ∧ ∀ t ∈ aF (cC p q), t.m.size ≤ 100000 := by
 obtain ⟨h6, _, h4⟩ := nA h;have ho := uD hp hq Tx;have hz := nq fun t ht => (ho t ht).2;rw [lf] at hz;refine ⟨fun t ht => ?_, fun t ht => ?_⟩
 ·have : Sz (k + j + 65536) t.c.d := (hz t ht).mono Tx;refine ⟨?_, this⟩;rw [(eT _).nf t ht];exact this.ok Tx
 ·obtain ⟨s, hs, e⟩ := fQ t ht;obtain ⟨x, hx, hs⟩ := List.mem_flatMap.1 hs;obtain ⟨y, hy, rfl⟩ := List.mem_map.1 hs;rw [← e];exact Nat.le_trans (F5 _ _) (sq y hy)
theorem y5 (L : Option Addr) (n c : Nat) (ps : List PX) (k s : Nat) (w : World) (hT : ee w) (hL : Sl w L n 2 (az PX.cells ps)) (hcn : n ≤ c) (hn : n ≤ 8) (hf : ∀ g ∈ ps, g.at_ w) (hl : ∀ g ∈ ps, g.kO k) (hs : k + 65536 ≤ s) (hk : k + k + (n - 2) * s ≤ 900000) :
  Calls Tryz.prog 17 #[.slice L n c] w fun r w' => ∃ g : PX, eK (DW ps) (eC ps) (Qb ps).1 g ∧ r = .returned (.tuple #[.agg #[.int .i64 g.v, .slice g.A g.n g.c], .int .i64 (DW ps)]) ∧ Hp w [g.row] w' := by
 have hh := Hp.start w;have hln := hL.bk PX.len Ty;have hlk := fun w1 hT1 hb => qT L n c ps k w1 hT1 (hL.ext hb) Tx (fun g hg => (hf g hg).ext hb) hl;unfold DW;by_cases h0 : eS ps = 0
 ·rw [if_pos h0];rw [h0] at hlk;obtain ⟨hne, mb, hvv⟩ := yI h0;obtain ⟨g0, pt, rfl⟩ := List.exists_cons_of_ne_nil hne;rw [kI (g := g0) rfl];have hnp : pt.length + 1 = n := hln;obtain ⟨ad, rfl, hr⟩ := hL.at_ Tx;have hm0 : g0 ∈ g0 :: pt := List.mem_cons_self;have hg0 := hl g0 hm0;have h00 : (g0 :: pt)[0]? = some g0 := rfl;show Calls _ _ _ _ fun r w' => ∃ g : PX, eK (pt.foldl ji (g0.ts, 0)).2 g0.v (pt.foldl ji (g0.ts, 0)).1 g ∧ r = .returned (.tuple #[.agg #[.int .i64 g.v, .slice g.A g.n g.c], .int .i64 (pt.foldl ji (g0.ts, 0)).2]) ∧ Hp w [g.row] w';refine aj (N := 46) (l := [.slice (some ad) n c]) Tryz.func17 rfl rfl (by simp) ?_;refine sr ?_;refine bR hh ?_;intro b2 w2 hh;refine aI (aa (ah (sr (mL ?_))));refine bz hh (hlk _ (hT.hp hh) hh.below) rfl ?_;intro w11 hh;refine aI (aa (sr (mI ?_)));refine cK (aa (cF (ar (ai (ah ?_)))));refine aY 11 [[(0, none)], [(16, some 0)], [(17, some 1)], [(18, some 2)], [(0, none)], [(20, some 4)], [(21, some 5)], [(22, some 6)], [(23, some 7)], [(19, some 3), (24, some 8)], []] [(10, 5), (9, 25), (8, 24), (7, 23), (6, 22), (5, 21), (4, 20), (3, 19), (2, 18), (1, 17), (0, 16)] hh mixed Tz ?_;refine gk ?_;refine nT (0) ?_;refine MT ?_
  refine rX (fun _ hj => cE hj.hp.below ((hr.recAt PX.len h00) 0 _ rfl)) ?_;refine gk ?_;refine nT (0) ?_;refine MT ?_;refine rX (fun _ hj => cE hj.hp.below ((hr.recAt PX.len h00) 1 _ rfl)) ?_;refine aR (i := 8) (Ba w11.heap.size g0.v g0.ts) (Ba.ext) ?_ ?_
  ·intro ρ1 w1 hj hR;exact a8 rfl (aM ak.out (aw (show ρ1 23 = Value.slice _ _ _ from hR.1) aX)) (lO g0.A g0.n g0.c g0.ts w1 ((hf g0 hm0).ext hj.hp.below) hg0.n) (fun _ _ ⟨A, c, hq, ho, hb⟩ => ⟨_, hq, hb, ⟨g0.v, A, g0.n, c, g0.ts⟩, w1, rfl, ⟨rfl, rfl⟩, hj.bl.size, (Hp.start w1).aV (x := .row _ _ _ _ _ _) hb ho⟩)
  refine aR (i := 9) (jW w11.heap.size 0 g0.v g0.ts) (jW.ext) ?_ ?_
  ·intro ρ1 w1 hj hR;exact let ⟨g, u, e, o, q, h⟩ := hR.2.1; fC rfl (sy (cs := [_, _]) aN.out kF.out (aK (show ρ1 19 = Value.int _ _ from hR.1) (aK e bP)) rfl) ⟨Below.refl _ _, g, u, by rw [show g.v = g0.v from o.v], o, q, h⟩
  refine aR (i := 10) (dr _ 24 _) dr.ext (fun ρ1 w1 hj hR => jV aN.out hj.bl (fun v w2 h hb => ⟨hb, h⟩)) ?_;refine aT ?_;intro f W hJ hV;have hb_4 := hJ.bl;obtain ⟨v5, v25, v24, v23, v22, v21, v20, v19, v18, v17, v16, _⟩ := hV;obtain ⟨g24, u24, e24, -⟩ := v24;obtain ⟨g25, u25, e25, o25, q25, h25⟩ := v25;obtain ⟨b5, e5, hl5, hc5⟩ : dr _ _ _ (f 10) W := v5;replace hh := hJ.qd hh hl5 hc5 q25 h25 (PX.ne h25 hc5 Ty);refine a6 (bm (ae e5 (ae e25 (ae e24 (ae v23 (ae v22 (ae v21 (ae v20 (ae v19 (ae v18 (ae v17 (ae v16 a0)))))))))))) ?_;dsimp only [cg];clear e24 e25 e5 hJ;simp only [List.cons_append, List.nil_append] at hh;obtain ⟨gv, gA, gn, gc, gts⟩ := g25;obtain rfl : g0.v = gv := o25.v.symm;obtain rfl : g0.ts = gts := o25.ts.symm;replace hh := show Hp w (_ :: .row gA gn gc 96 4 (az TR.cells g0.ts) :: _) W from hh;have hgn : g0.ts.length = gn := (hh.aC (i := 1) rfl).bk TR.len Ty;have hgc : gn ≤ gc := hh.eO (i := 1) rfl;refine bW hh 0 [_,_] ?_;intro ws hh;replace hh : Hp _ (.blk _ _ [_, _] _ :: _) _ := hh;refine aa (ah (sr (mL ?_)));refine aQ rfl rfl Ty (jh bg.out aN.size rfl rfl (l := 1) rfl Tx Tx) ?_;refine aJ (mI (aa (aq ?_)));replace hh := hh.perm (List.perm_middle (l₁ := [_]))
  simp only [List.cons_append, List.nil_append] at hh;refine aP [3, 7, 8, 9, 29, 30, 31, 32, 33, 34, 35, 36, 37, 38, 39, 40, 41, 42, 43, 44] 29
   (fun v w' => ∃ (i : Nat) (g : PX), i ≤ n - 1 ∧ v = .int .i64 i ∧ ((pt.take i).foldl ji (g0.ts, 0)).2 = 0 ∧ g.v = g0.v ∧ g.ts = ((pt.take i).foldl ji (g0.ts, 0)).1 ∧ g.kO (k + i * s) ∧ Hp w [.row g.A g.n g.c 96 4 (az TR.cells g.ts), .blk b5 24 [.int .i64 g.v, .slice g.A g.n g.c] (0, 0), .blk b2 24 [.int .i64 0, .slice none 0 0] (0, 0)] w')
   (fun v _ => n - 1 - (intOf v).toNat) ?_ ?_
  ·exact ⟨0, ⟨g0.v, gA, gn, gc, g0.ts⟩, Nat.zero_le _, rfl, rfl, rfl, rfl, ⟨by show gn ≤ 1000000; have := hg0.n; have h9 := (hf g0 hm0).ln; omega, hgc, hg0.ok.mono (by rw [Nat.zero_mul]; omega), hg0.sz⟩, hh⟩
  ·clear hh;rintro ρ' v w' ⟨i, g, hi, rfl, hz, hgv, hts, hgl, hh⟩;by_cases hlt : i < n - 1
   ·obtain ⟨f, hx⟩ := ao (l := pt) (k := i) Tx;have hmem : f ∈ g0 :: pt := List.mem_cons_of_mem _ (List.mem_of_getElem? hx);have his : i * s ≤ (n - 2) * s := Nat.mul_le_mul_right _ Tx;have his1 := Nat.succ_mul i s;have hbk : Sl w (if c = 1 then some ad else (some ad : Option Addr).map (·.add (1 * 2))) (n - 1) 2 (az PX.cells pt) := hL.back Tx hcn;obtain ⟨ab, hAb, sb⟩ := hbk.at_ Tx;have mb : Value.slice (if c = 1 then some ad else (some ad : Option Addr).map (·.add (1 * 2))) (n - 1) (c - 1) = .slice (some ab) (n - 1) (c - 1) := by rw [hAb]
    have hfl := hl f hmem;have hnx := Gk (a := (g0.ts, 0)) hx hz;have hsp := FG (a := (g0.ts, 0)) hx hz;rw [← hts] at hnx hsp;refine sr ?_;refine dH ?_;refine cZ (k := i) bg.out aN.size mb rfl Tx Tx Ty ?_;refine ct (vs := [_, _]) aN.out rfl (show Rd _ _ [.int .i64 f.v, .slice f.A f.n f.c] from (sb.ext hh.below).recAt PX.len hx) rfl Ty ?_;refine bR hh ?_;intro b7 w7 hh;refine bW hh 0 [_,_] ?_;intro ws hh;replace hh : Hp _ (.blk _ _ [_, _] _ :: _) _ := hh;refine aa (sr ?_);refine cD hh 2 [_,_] ?_;refine cD hh 0 [_,_] ?_;refine aE (yB g f (k + i * s) k _ (hT.hp hh) (hh.aC (i := 1) rfl) ((hf f hmem).ext hh.below) hgl hfl Tx) ak.out rfl Ty ?_;rintro e_ w36 ⟨h, oh, rfl, h3⟩;refine ⟨_, rfl, ?_⟩;replace hh := hh.join h3;simp only [List.cons_append, List.nil_append] at hh;by_cases he : fy g.ts f.ts = 0
    ·obtain ⟨hv, hA, hn2, hc2, hts2⟩ := h;rw [he] at oh;obtain rfl : g.v = hv := oh.v.symm;obtain rfl : aF (cC g.ts f.ts) = hts2 := oh.ts.symm;replace hh := show Hp w (.row hA hn2 hc2 96 4 (az TR.cells (aF (cC g.ts f.ts))) :: _) w36 from hh;have hhn : (aF (cC g.ts f.ts)).length = hn2 := (hh.aC (i := 0) rfl).bk TR.len Ty;have hhc : hn2 ≤ hc2 := hh.eO (i := 0) rfl;have h4 := (nA he).2.2;have htl := D4 hgl.ok hfl.ok hfl.sz he Tx;refine mT ?_;refine dq ?_;refine dq ?_;refine bR hh ?_;intro b8 w8 hh;refine bW hh 0 [_,_] ?_;intro ws hh;replace hh : Hp _ (.blk _ _ [_, _] _ :: _) _ := hh;refine aI (aa (ah (sr (mI ?_))));refine cK (aa (cF (ar (ai (al ?_)))));refine cD hh 0 [_,_] ?_;refine bW hh 4 [_,_] ?_;intro ws hh;replace hh : Hp _ (_ :: _ :: _ :: _ :: .blk _ _ [_, _] _ :: _) _ := hh;refine fL ?_;refine bh (mI (aA (ai ?_)));replace hh := hh.sub (List.Sublist.cons _ (List.Sublist.cons_cons _ (List.Sublist.cons _ (List.Sublist.cons _ (List.Sublist.cons_cons _ (List.Sublist.cons_cons _ List.Sublist.slnil))))))
     refine ⟨⟨i + 1, ⟨g.v, hA, hn2, hc2, aF (cC g.ts f.ts)⟩, Tx, rfl, by rw [hnx]; exact he, hgv, by rw [hnx], ⟨by show hn2 ≤ 1000000; omega, hhc, htl.1.mono (by rw [Nat.succ_mul]; omega), htl.2⟩, hh⟩, by show n - 1 - (i + 1) < n - 1 - i; omega, ?_⟩;exact dL
    ·rw [hsp he];refine mT ?_;refine dq ?_;refine dq ?_;refine bR hh ?_;intro b8 w8 hh;refine bW hh 0 [_,_] ?_;intro ws hh;replace hh : Hp _ (.blk _ _ [_, _] _ :: _) _ := hh;refine aI (aa (ah (sr (mI ?_))));refine cK (aa (cT (sr ?_)));refine gj [_,_] (mI ?_);refine bW hh 5 [_,_] ?_;intro ws hh;replace hh : Hp _ (_ :: _ :: _ :: _ :: _ :: .blk _ _ [_, _] _ :: _) _ := hh;refine aI (aa (av (aG (bY (aG (aG (bY (aG ?_))))))));refine P6 (eI rfl (eJ (vs := [_, _]) aN.out (hh.ck (i := 5) (n := 2) rfl rfl) rfl) (jZ (kP rfl) gg)) ?_;exact Ol
   ·obtain rfl : i = n - 1 := Tx;rw [List.take_of_length_le Tx] at hz hts;refine sr ?_;refine mu ?_;refine cD hh 1 [_,_] ?_;refine bW hh 2 [_,_] ?_;intro ws hh;replace hh : Hp _ (_ :: _ :: .blk _ _ [_, _] _ :: _) _ := hh;refine aI (aa (av ?_));refine rp ?_;rw [hz];exact ⟨g, ⟨hgv, hts⟩, rfl, hh.sub (List.Sublist.cons_cons _ (List.nil_sublist _))⟩
 ·rw [if_neg h0];generalize eS ps = e at *;refine aj (N := 46) (l := [.slice L n c]) Tryz.func17 rfl rfl (by simp) ?_;refine sr ?_;refine bR hh ?_;intro b2 w2 hh;refine aI (aa (ah (sr (mL ?_))));refine bz hh (hlk _ (hT.hp hh) hh.below) rfl ?_;intro w11 hh;exact KD
theorem u5 (A B : Option Addr) (n m c c' : Nat) (xs ys : List Int) (w : World) (hx : Sl w A n 1 (bF xs)) (hy : Sl w B m 1 (bF ys)) (hn : n ≤ 100000) (hm : m ≤ 100000) :
  Calls Tryz.prog 34 #[.slice A n c, .slice B m c'] w fun e w' => e = .returned (.bool (decide (xs = ys))) ∧ Below w.heap.size w w' := by
 have hxl : xs.length = n := by have := hx.1; rw [bU] at this; omega
 have hyl : ys.length = m := by have := hy.1; rw [bU] at this; omega
 have hh := Hp.start w;by_cases hnm : n = m
 ·subst hnm;refine aj (N := 26) (l := [.slice A n c, .slice B n c']) Tryz.func34 rfl rfl (by simp) ?_;refine Bb ?_;refine HY ?_;refine aP [4, 5, 11, 12, 13, 14, 15, 16, 17, 18, 19, 20, 21, 22, 23, 24, 25] 5
   (fun i w' => ∃ k : Nat, k ≤ n ∧ i = .int .i64 k ∧ xs.take k = ys.take k ∧ Hp w [] w')
   (fun i _ => n - (intOf i).toNat) ?_ ?_
  ·exact ⟨0, Nat.zero_le _, rfl, rfl, hh⟩
  ·clear hh;rintro ρ' i w' ⟨k, hk, rfl, he, hh⟩;replace hx := hx.ext hh.below;replace hy := hy.ext hh.below;by_cases hlt : k < n
   ·obtain ⟨x, hxk⟩ := ao (l := xs) (k := k) Tx;obtain ⟨y, hyk⟩ := ao (l := ys) (k := k) Tx;obtain ⟨ad, rfl, hr⟩ := hx.at_ Tx;obtain ⟨bd, rfl, hs⟩ := hy.at_ Tx;by_cases hxy : x = y
    ·subst hxy;refine ah (sr (mI (mL (aJ ?_))));refine uW ?_;refine Ar ?_;refine gk ?_;refine dE ?_;refine M6 ?_;refine rX (fun _ hj => fe (hr.ext hj.bl) (cj hxk) rfl) ?_;refine gk ?_;refine dE ?_;refine NJ ?_;refine rX (fun _ hj => fe (hs.ext hj.bl) (cj hyk) rfl) ?_;refine aT ?_;intro f W hJ hV;have hb_6 := hJ.bl;obtain ⟨v24, v23, v22, v21, v20, v19, v18, v17, _⟩ := hV;replace hh := hJ.hp;refine yR ?_;dsimp only [cg];clear hJ;refine cK (aa (cF (ar (bA (ai (al (mI ?_)))))));refine bh (aI (aA (ai ?_)));refine ⟨⟨k + 1, Tx, rfl, by rw [ay hxk, ay hyk, he], hh⟩, by show n - (k + 1) < n - k; omega, ?_⟩;exact dL
    ·refine ah (sr (mI (mL (aJ ?_))));refine uW ?_;refine Ar ?_;refine gk ?_;refine dE ?_;refine M6 ?_;refine rX (fun _ hj => fe (hr.ext hj.bl) (cj hxk) rfl) ?_;refine gk ?_;refine dE ?_;refine NJ ?_;refine rX (fun _ hj => fe (hs.ext hj.bl) (cj hyk) rfl) ?_;refine aT ?_;intro f W hJ hV;have hb_6 := hJ.bl;obtain ⟨v24, v23, v22, v21, v20, v19, v18, v17, _⟩ := hV;replace hh := hJ.hp;refine yR ?_;dsimp only [cg];clear hJ;refine cK (aa (cT (sr (aB (aa (av (bY (aG (aG (bY (aG ?_)))))))))));refine cX ?_;have : ¬ xs = ys := fun h => hxy (by rw [h, hyk] at hxk; exact (Option.some.inj hxk).symm);simp only [this, decide_false];exact ⟨trivial, hh.below⟩
   ·refine ah (sr (mI (mL (aJ ?_))));refine zt ?_;refine cX ?_;rw [List.take_of_length_le Tx, List.take_of_length_le Tx] at he;simp only [he, decide_true];exact ⟨trivial, hh.below⟩
 ·refine aj (N := 26) (l := [.slice A n c, .slice B m c']) Tryz.func34 rfl rfl (by simp) ?_;refine Bb ?_;refine cK (aa (cT (sr (aB (aa (av (aG ?_)))))));refine cX ?_;have : ¬ xs = ys := fun h => hnm (by rw [← hxl, ← hyl, h]);simp only [this, decide_false];exact ⟨trivial, hh.below⟩
def cR (v : Int) : ByteArray := ⟨(List.replicate v.toNat 0).toArray⟩
theorem jH {v : Int} (h : 0 ≤ v) : ((cR v).size : Int) = v := by
 have : (cR v).size = v.toNat := by unfold cR; show (List.replicate v.toNat (0 : UInt8)).toArray.size = _; rw [List.size_toArray, List.length_replicate]
 omega
theorem m0 (v : Int) : eE (cR v).data.toList = true := by
 unfold eE cR;rw [List.all_eq_true];intro c hc;have : (⟨(List.replicate v.toNat (0 : UInt8)).toArray⟩ : ByteArray).data.toList = List.replicate v.toNat 0 := rfl;rw [this] at hc;rw [(List.mem_replicate.1 hc).2];decide
theorem Ji {l : List TR} (h : l.length ≤ 4096) : gR l = 0 := by
 unfold gR;have := bQ l;rw [if_neg Tx]
theorem AY {v : Int} {t : TR} (hf : ja v = true) (h : eH v t = true) : pT v [t] = 0 := by
 unfold pT;rw [if_neg (by rw [hf]; simp [h]), if_neg (by simp), Ji (by simp)]
def uZ (v : Int) : Int := if ja v = false then 1 else 0
theorem iu (v : Int) (c : NR) (k : Nat) (w : World) (hT : ee w) (hc : c.ok ∧ Sz k c.d) (hk : k ≤ 2999980) :
  Calls Tryz.prog 45 #[.int .i64 v, .agg #[.bool c.neg, .string c.bo, .int .i64 c.e]] w fun r w' => ∃ g : PX, eK (uZ v) v (aF [⟨cR v, c⟩]) g ∧ r = .returned (.tuple #[.agg #[.int .i64 g.v, .slice g.A g.n g.c], .int .i64 (uZ v)]) ∧ Hp w [g.row] w' := by
 have hh := Hp.start w;have hfw := fun w1 => m8 v w1
 cases hf : ja v with
 | false =>
  rw [hf] at hfw;rw [show uZ v = 1 by unfold uZ; rw [if_pos hf]];refine aj (N := 20) (l := [.int .i64 v, .agg #[.bool c.neg, .string c.bo, .int .i64 c.e]]) Tryz.func45 rfl rfl (by simp) ?_;refine sr ?_;refine cx hh [_,_,_] ?_;intro b3 w3 hh;refine bR hh ?_;intro b4 w4 hh;refine aI (aa (ah (sr (mI ?_))));refine bz hh (hfw _) rfl ?_;intro w7 hh;refine gC ?_;refine aa (cT (sr ?_));exact L5
 | true =>
  rw [hf] at hfw;obtain ⟨h0, h12⟩ := iD.1 hf;have hm : pT v [⟨cR v, c⟩] = 0 := AY hf (by unfold eH; rw [m0, decide_eq_true (jH h0)]; rfl);have hmk := fun A cc w1 hT1 hS1 => mE v A 1 cc [⟨cR v, c⟩] k w1 hT1 hS1 Ty Tx (fun t ht => by rw [List.mem_singleton.1 ht]; exact hc) (fun t ht => by rw [List.mem_singleton.1 ht]; have := jH h0; show (cR v).size ≤ _; omega);rw [hm] at hmk;rw [show uZ v = 0 by unfold uZ; rw [if_neg (by rw [hf]; decide)]];refine aj (N := 20) (l := [.int .i64 v, .agg #[.bool c.neg, .string c.bo, .int .i64 c.e]]) Tryz.func45 rfl rfl (by simp) ?_;refine sr ?_;refine cx hh [_,_,_] ?_;intro b3 w3 hh;refine bR hh ?_;intro b4 w4 hh;refine aI (aa (ah (sr (mI ?_))));refine bz hh (hfw _) rfl ?_;intro w7 hh;refine gC ?_;refine aa (cF (ar (ai (ah ?_))));refine qB [] [0, 0, 2, 6, 0, 30, 62, 127, 255, 255, 1023, 2047] 7 [[(0, none)], [(0, none)], [(11, some 1)], [(12, some 2)], [(3, none)], [(13, some 3), (14, some 4)], [(15, some 5)]] [(6, 16), (5, 15), (4, 14), (3, 13), (2, 12), (1, 11), (0, 10)] [([], 4, [(6, 16), (5, 15), (4, 14), (3, 13), (2, 12), (1, 11), (0, 10)])] hh mixed Tz Tz Ty ?_;refine dE ?_;refine dE ?_
  refine aR (i := 2) (iW v.toNat 1 (nC (List.replicate v.toNat 0))) (iW.ext) ?_ ?_
  ·intro ρ1 w1 hj hR;exact sU v.toNat ▸ Mk (n := v.toNat) (show ρ1 11 = Value.int _ _ from hR.1) (show ρ1 11 = Value.int _ _ from hR.1) Tx Tx bg.out aN.out rfl Tx Tx (fun _ _ h1 h2 => ⟨h2, h1⟩)
  refine aR (i := 3) (Is (.string (cR v))) (Is.ext) ?_ ?_
  ·intro ρ1 w1 hj hR;obtain ⟨g12, e12, o12⟩ := hR.1;exact let ⟨g, e, o⟩ := hR.1; fC rfl (kq (l := List.replicate v.toNat 0) bg.out bg.out bg.out e o) ⟨Below.refl _ _, rfl⟩
  refine fT 1 [_,_,_] ?_;refine dB [_,_,_,_] ?_;refine sC [_,_,_,_] ?_;refine aT ?_;intro p_ hp_;simp only [List.mem_cons, List.not_mem_nil, or_false] at hp_
  rcases hp_ with rfl
  intro f W hJ hV;have hb_3 := hJ.bl;obtain ⟨v16, v15, v14, v13, v12, v11, v10, _⟩ := hV;simp only [mJ];have e10 : f 0 = _ := v10;rw [e10];have e11 : f 1 = _ := v11;rw [e11];obtain ⟨g12, e12, o12⟩ : iW v.toNat 1 (nC (List.replicate v.toNat 0)) (f 2) W := v12;rw [e12];have e13 : f 3 = _ := v13;rw [e13];have e14 : f 4 = _ := v14;rw [e14];have e15 : f 5 = _ := v15;rw [e15];obtain ⟨A16, c16, e16, f16⟩ : Rows _ _ _ (f 6) W := v16;rw [e16];replace hh := hJ.hp;clear e10 e11 e12 e13 e14 e15 e16 hJ;refine aE (hmk _ _ _ (hT.hp hh) f16) ak.out rfl Ty ?_; rintro e_ w17 ⟨g, og, rfl, h3⟩; refine ⟨_, rfl, ?_⟩; replace hh := hh.join h3;refine fa ?_;simp only [List.cons_append, List.nil_append] at hh;refine cV (i := 8) (by repeat (first | exact cB | refine bO ?_ | refine cA ?_ | refine np_scope ?_)) rfl Tz Tz Tz (fun _ => fi (show _ = Value.tuple (List.toArray _) from rfl) rfl) Ty ?_;refine cV (i := 9) (by repeat (first | exact cB | refine bO ?_ | refine cA ?_ | refine np_scope ?_)) rfl Tz Tz Tz (fun _ => fi (show _ = Value.tuple (List.toArray _) from rfl) rfl) Ty ?_;refine kt 10 Ty Tz Ty Tz Tz ?_;exact Eg
def kE (v : Int) (x : Nat) : ByteArray := ⟨((List.replicate v.toNat (0 : UInt8)).set x 1).toArray⟩
theorem p7 {v : Int} {x : Nat} (h : 0 ≤ v) : ((kE v x).size : Int) = v := by
 have : (kE v x).size = v.toNat := by unfold kE; show ((List.replicate v.toNat (0 : UInt8)).set x 1).toArray.size = _; rw [List.size_toArray, List.length_set, List.length_replicate]
 omega
theorem y3 (v : Int) (x : Nat) : eE (kE v x).data.toList = true := by
 unfold eE;rw [List.all_eq_true];intro c hc;have : (kE v x).data.toList = (List.replicate v.toNat 0).set x 1 := rfl;rw [this] at hc
 rcases List.mem_or_eq_of_mem_set hc with h | rfl
 ·rw [(List.mem_replicate.1 h).2]; decide
 ·decide
theorem GR {l : List UInt8} {i : Nat} {c : UInt8} (h : i < l.length) : cm (nC l) (i * 1) [.int .u8 c.toNat] = nC (l.set i c) := by
 unfold cm nC;rw [Nat.mul_one, List.set_eq_take_append_cons_drop, if_pos h, List.map_append, List.map_cons, List.map_take, List.map_drop, List.append_assoc]
 rfl
def uw (v x : Int) : Int := if ja v = false ∨ x < 0 ∨ v ≤ x then 1 else 0
theorem uE (v x : Int) (w : World) (hT : ee w) :
  Calls Tryz.prog 117 #[.int .i64 v, .int .i64 x] w fun r w' => ∃ g : PX, eK (uw v x) v (aF [⟨kE v x.toNat, nR ((1 : Int) : Dyadic)⟩]) g ∧ r = .returned (.tuple #[.agg #[.int .i64 g.v, .slice g.A g.n g.c], .int .i64 (uw v x)]) ∧ Hp w [g.row] w' := by
 have hh := Hp.start w;have hfw := fun w1 => m8 v w1
 cases hf : ja v with
 | false =>
  rw [hf] at hfw;rw [show uw v x = 1 by unfold uw; rw [if_pos (.inl hf)]];refine Eu ?_;refine sr ?_;refine bR hh ?_;intro b4 w4 hh;refine aI (aa (ah (sr (mI ?_))));refine bz hh (hfw _) rfl ?_;intro w8 hh;refine gC ?_;refine mB ?_;refine gS (gS ?_);refine fu ?_;refine mB ?_;refine gS (gS (gS ?_));refine fu ?_;refine aa (cT (sr ?_));exact L5
 | true =>
  rw [hf] at hfw;obtain ⟨h0, h12⟩ := iD.1 hf;by_cases hx0 : x < 0
  ·rw [show uw v x = 1 by unfold uw; rw [if_pos (.inr (.inl hx0))]];refine Eu ?_;refine sr ?_;refine bR hh ?_;intro b4 w4 hh;refine aI (aa (ah (sr (mI ?_))));refine bz hh (hfw _) rfl ?_;intro w8 hh;refine gC ?_;refine mB (gT (mI (gT ?_)));refine bf ?_;refine dK ?_;refine mB ?_;refine gS (gS (gS ?_));refine fu ?_;refine aa (cT (sr ?_));exact L5
  ·by_cases hx1 : v ≤ x
   ·rw [show uw v x = 1 by unfold uw; rw [if_pos (.inr (.inr hx1))]];refine Eu ?_;refine sr ?_;refine bR hh ?_;intro b4 w4 hh;refine aI (aa (ah (sr (mI ?_))));refine bz hh (hfw _) rfl ?_;intro w8 hh;refine gC ?_;refine mB (gT (mI (gT ?_)));refine bf ?_;refine dK ?_;refine mB (gT (mI (gT (mI (gT ?_)))));refine dR ?_;refine dK ?_;refine aa (cT (sr ?_));exact L5
   ·rw [show uw v x = 0 by unfold uw; rw [if_neg (by rintro (h | h | h); exact absurd (hf.symm.trans h) Ty; omega; omega)]];have hm : pT v [⟨kE v x.toNat, nR ((1 : Int) : Dyadic)⟩] = 0 := AY hf (by unfold eH; rw [y3, decide_eq_true (p7 h0)]; rfl);have z1 : Sz 24 ((1 : Int) : Dyadic) := KV (m := 1) (e := 0) Ty Ty Ty;have hmk := fun A cc w1 hT1 hS1 => mE v A 1 cc [⟨kE v x.toNat, nR ((1 : Int) : Dyadic)⟩] 24 w1 hT1 hS1 Ty Tx (fun t ht => by rw [List.mem_singleton.1 ht]; exact ⟨z1.ok Ty, by show Sz 24 (nR _).d; rw [cf]; exact z1⟩) (fun t ht => by rw [List.mem_singleton.1 ht]; have := p7 (x := x.toNat) h0; show (kE v x.toNat).size ≤ _; omega);rw [hm] at hmk;refine Eu ?_;refine sr ?_;refine bR hh ?_;intro b4 w4 hh;refine aI (aa (ah (sr (mI ?_))));refine bz hh (hfw _) rfl ?_;intro w8 hh;refine gC ?_;refine mB (gT (mI (gT ?_)));refine bf ?_;refine dK ?_;refine mB (gT (mI (gT (mI (gT ?_)))));refine dR ?_;refine dK ?_;refine aa (cF (ar (ai (sr (mI ?_)))));refine fU (n := (v.toNat)) hh rfl rfl Tx Tx bg.out aN.out rfl Tx Tx Ty ?_;intro b21 w21 hh;refine aL (aa (sr (mL (mI ?_))));refine cS (k := (x.toNat)) bg.out aN.size rfl rfl Tx Tx Ty ?_;rw [sU] at hh
    have hll : (nC (List.replicate v.toNat 0)).length = v.toNat := by simp [nC]
    refine G3 ?_;intro ws hh;simp only [List.set_cons_zero] at hh;rw [show cm (nC (List.replicate v.toNat 0)) (x.toNat * 1) [.int .u8 1] = nC ((List.replicate v.toNat 0).set x.toNat 1) from GR (l := List.replicate v.toNat 0) (i := x.toNat) (c := 1) (by rw [List.length_replicate]; omega)] at hh;refine aa (ah ?_);refine qB [] [0, 0, 2, 0, 14, 30, 63, 127, 127, 511, 1023] 6 [[(0, none)], [(6, none)], [(26, some 1)], [], [(27, some 2), (28, some 3)], [(29, some 4)]] [(5, 30), (4, 29), (3, 28), (2, 27), (1, 26), (0, 25)] [([], 4, [(5, 30), (4, 29), (3, 28), (2, 27), (1, 26), (0, 25)])] hh mixed Tz Tz Ty ?_;refine dE ?_;refine gk ?_;refine aR (i := 2) (Is (.string ⟨(((List.replicate v.toNat 0).set x.toNat 1)).toArray⟩)) Is.ext ?_ ?_
    ·intro ρ1 w1 hj hR;exact fC rfl (kq (l := ((List.replicate v.toNat 0).set x.toNat 1)) bg.out bg.out bg.out (show ρ1 26 = Value.slice _ _ _ from hR.1) (hj.hp.aC (i := 0) rfl)) ⟨Below.refl _ _, rfl⟩
    refine dC (fun _ hj => kS 1 _ (hT.hp hj.hp) Ty Ty) ?_;refine dB [_,_,_,_] ?_;refine sC [_,_,_,_] ?_;refine aT ?_;intro p_ hp_;simp only [List.mem_cons, List.not_mem_nil, or_false] at hp_
    rcases hp_ with rfl
    intro f W hJ hV;have hb_5 := hJ.bl;obtain ⟨v30, v29, v28, v27, v26, v25, _⟩ := hV;simp only [mJ];have e25 : f 0 = _ := v25;rw [e25];have e26 : f 1 = _ := v26;rw [e26];have e27 : f 2 = _ := v27;rw [e27];have e28 : f 3 = _ := v28;rw [e28];have e29 : f 4 = _ := v29;rw [e29];obtain ⟨A30, c30, e30, f30⟩ : Rows _ _ _ (f 5) W := v30;rw [e30];replace hh := hJ.hp;clear e25 e26 e27 e28 e29 e30 hJ;refine aE (hmk _ _ _ (hT.hp hh) f30) ak.out rfl Ty ?_; rintro e_ w31 ⟨g, og, rfl, h3⟩; refine ⟨_, rfl, ?_⟩; replace hh := hh.join h3;refine fa ?_;simp only [List.cons_append, List.nil_append] at hh;refine cV (i := 7) (by repeat (first | exact cB | refine bO ?_ | refine cA ?_ | refine np_scope ?_)) rfl Tz Tz Tz (fun _ => fi (show _ = Value.tuple (List.toArray _) from rfl) rfl) Ty ?_;refine cV (i := 8) (by repeat (first | exact cB | refine bO ?_ | refine cA ?_ | refine np_scope ?_)) rfl Tz Tz Tz (fun _ => fi (show _ = Value.tuple (List.toArray _) from rfl) rfl) Ty ?_;refine kt 9 Ty Tz Ty Tz Tz ?_;exact RB
def R5 (p : PX) (n : Nat) : List TR × Int := (List.replicate n p).foldl ji (aF [⟨cR p.v, nR ((1 : Int) : Dyadic)⟩], 0)
def SA (p : PX) (n : Int) : Int := if p.e = 0 then (if n < 0 ∨ 127 < n then 1 else (R5 p n.toNat).2) else p.e
def St (ps : List PX) (R : List HE) (g : PX) : Prop := (g ∈ ps ∧ R = []) ∨ R = [g.row]
theorem LX (n : Nat) (m m' : ByteArray) (s s' : Bool) (a a' : ByteArray) (e e' : Int) (w : World) : (Op.equalIn (n + 4) 96 (.agg #[.string m, .bool s, .string a, .int .i64 e]) (.agg #[.string m', .bool s', .string a', .int .i64 e'])).run Tryz.prog w = .ok (m == m' && ((s == s' && a == a') && e == e')) w := by
 have h1 := fun (u : ByteArray) (x : Bool) (y : ByteArray) (z : Int) => Dr (P := Tryz.prog) (cs := #[.string u, .bool x, .string y, .int .i64 z]) (off := 0) (aN.out (P := Tryz.prog) (t := 9)) rfl;have h2 := fun (u : ByteArray) (x : Bool) (y : ByteArray) (z : Int) => Ng (P := Tryz.prog) (cs := #[.string u, .bool x, .string y, .int .i64 z]) (vs := #[.bool x, .string y, .int .i64 z]) (off := 1) (aN.out (P := Tryz.prog) (t := 65)) rfl;rw [Op.equalIn];simp [run_underlying Tryz.underlying96, h1, h2, Rt, Kg]
 cases h : m == m' <;> cases h' : ((s == s' && a == a') && e == e') <;> simp_all
theorem BH {x y : TR} : (x.m == y.m && ((x.c.neg == y.c.neg && x.c.bo == y.c.bo) && x.c.e == y.c.e)) = true ↔ x = y := by
 obtain ⟨m, s, a, e⟩ := x;obtain ⟨m', s', a', e'⟩ := y;rw [Bool.and_eq_true, nc, Ip, TR.mk.injEq]
section
variable {ρ : Rf} {w : World} {d : Option Nat} {ty u : TypeId} {pos : String} {af : Array Edge} {g : Option (Nat × Bool)} {x y : Operand} {s t : TR}
theorem NA {r : Bool} (hx : ev ρ x = .agg s.cells.toArray) (hy : ev ρ y = .agg t.cells.toArray) (hr : (s.m == t.m && ((s.c.neg == t.c.neg && s.c.bo == t.c.bo) && s.c.e == t.c.e)) = r) :
  (execOp (ev ρ) ⟨d, .binOp .neq 96 x y u, ty, pos, af, g⟩).run Tryz.prog w = .ok (.value (.bool !r)) w := by
 have h1 : (Op.equal 96 (.agg s.cells.toArray) (.agg t.cells.toArray)).run Tryz.prog w = .ok r w := by rw [← hr]; exact LX 9996 s.m t.m s.c.neg t.c.neg s.c.bo t.c.bo s.c.e t.c.e w
 simp only [execOp, hx, hy];simp [eqGuard, binOp, h1]
theorem Kw (hx : ev ρ x = .agg s.cells.toArray) (hy : ev ρ y = .agg t.cells.toArray) (h : s = t) :
  (execOp (ev ρ) ⟨d, .binOp .neq 96 x y u, ty, pos, af, g⟩).run Tryz.prog w = .ok (.value (.bool false)) w := NA hx hy (BH.2 h)
theorem LW (hx : ev ρ x = .agg s.cells.toArray) (hy : ev ρ y = .agg t.cells.toArray) (h : ¬ s = t) :
  (execOp (ev ρ) ⟨d, .binOp .neq 96 x y u, ty, pos, af, g⟩).run Tryz.prog w = .ok (.value (.bool true)) w := NA hx hy (r := false) (Bool.eq_false_iff.2 fun h1 => h (BH.1 h1))
end
theorem Lv {α : Type} {a b : List α} {i : Nat} (ha : a.length ≤ i) (hb : b.length ≤ i) (h : a.take i = b.take i) : a = b := by
 rwa [List.take_of_length_le ha, List.take_of_length_le hb] at h
theorem xD (A : Option Addr) (n c : Nat) (a : List TR) (B : Option Addr) (m d : Nat) (b : List TR) (w : World) (hS : Sl w A n 4 (az TR.cells a)) (hS2 : Sl w B m 4 (az TR.cells b)) (hn : n ≤ 1000000) (hm : m ≤ 1000000) :
  Calls Tryz.prog 73 #[.slice A n c, .slice B m d] w fun r w' => ∃ v, r = .returned (.bool v) ∧ (v = true ↔ a = b) ∧ Below w.heap.size w w' := by
 have hh := Hp.start w;have hla := hS.bk TR.len Ty;have hlb := hS2.bk TR.len Ty;by_cases hnm : n = m
 ·subst hnm;refine aj (N := 26) (l := [.slice A n c, .slice B n d]) Tryz.func73 rfl rfl (by simp) ?_;refine Bb ?_;refine HY ?_;refine aP [4, 5, 11, 12, 13, 14, 15, 16, 17, 18, 19, 20, 21, 22, 23, 24, 25] 5
   (fun v w' => ∃ i : Nat, i ≤ n ∧ v = .int .i64 i ∧ a.take i = b.take i ∧ Hp w [] w')
   (fun v _ => n - (intOf v).toNat) ?_ ?_
  ·exact ⟨0, Nat.zero_le _, rfl, rfl, hh⟩
  ·clear hh;rintro ρ' v w' ⟨i, hi, rfl, he, hh⟩;by_cases hlt : i < n
   ·obtain ⟨s, hs⟩ := ao (l := a) (k := i) Tx;obtain ⟨t, ht⟩ := ao (l := b) (k := i) Tx;obtain ⟨ad, rfl, hr⟩ := hS.at_ Tx;obtain ⟨ad2, rfl, hr2⟩ := hS2.at_ Tx;by_cases hst : s = t
    ·refine ah (sr (mI (mL (aJ ?_))));refine uW ?_;refine Ar ?_;refine gk ?_;refine dE ?_;refine nT (i) ?_;refine pE [_,_,_,_] (fun _ hj => (hr.ext hj.hp.below).recAt TR.len hs) ?_;refine gk ?_;refine dE ?_;refine nT (i) ?_;refine pE [_,_,_,_] (fun _ hj => (hr2.ext hj.hp.below).recAt TR.len ht) ?_;refine aT ?_;intro f W hJ hV;have hb_6 := hJ.bl;obtain ⟨v24, v23, v22, v21, v20, v19, v18, v17, _⟩ := hV;replace hh := hJ.hp;refine yR ?_;dsimp only [cg];clear hJ;refine aQ rfl rfl Ty (Kw (s := s) (t := t) rfl rfl hst) ?_;skip;refine oS ?_;refine bh (aI (aA (ai ?_)));refine ⟨⟨i + 1, Tx, rfl, by rw [ay hs, ay ht, he, hst], hh⟩, by show n - (i + 1) < n - i; omega, ?_⟩;exact dL
    ·refine ah (sr (mI (mL (aJ ?_))));refine uW ?_;refine Ar ?_;refine gk ?_;refine dE ?_;refine nT (i) ?_;refine pE [_,_,_,_] (fun _ hj => (hr.ext hj.hp.below).recAt TR.len hs) ?_;refine gk ?_;refine dE ?_;refine nT (i) ?_;refine pE [_,_,_,_] (fun _ hj => (hr2.ext hj.hp.below).recAt TR.len ht) ?_;refine aT ?_;intro f W hJ hV;have hb_6 := hJ.bl;obtain ⟨v24, v23, v22, v21, v20, v19, v18, v17, _⟩ := hV;replace hh := hJ.hp;refine yR ?_;dsimp only [cg];clear hJ;refine aQ rfl rfl Ty (LW (s := s) (t := t) rfl rfl hst) ?_;skip;refine aa (cT (sr (aB (aa (av (bY (aG (aG (bY (aG ?_))))))))));refine cX ?_;refine ⟨_, rfl, ⟨fun h => (nomatch h), fun h => absurd ?_ hst⟩, hh.below⟩;rw [h, ht] at hs;exact (Option.some.inj hs).symm
   ·refine ah (sr (mI (mL (aJ ?_))));refine zt ?_;refine cX ?_;exact ⟨_, rfl, ⟨fun _ => Lv Tx Tx he, fun _ => rfl⟩, hh.below⟩
 ·refine aj (N := 26) (l := [.slice A n c, .slice B m d]) Tryz.func73 rfl rfl (by simp) ?_;refine Bb ?_;refine cK (aa (cT (sr (aB (aa (av (aG ?_)))))));refine cX ?_;exact ⟨_, rfl, ⟨fun h => (nomatch h), fun h => absurd (by rw [← hla, ← hlb, h]) hnm⟩, hh.below⟩
theorem zI (p q : PX) (w : World) (hp : p.at_ w) (hq : q.at_ w) (hn : p.n ≤ 1000000) (hm : q.n ≤ 1000000) :
  Calls Tryz.prog 15 #[.agg #[.int .i64 p.v, .slice p.A p.n p.c], .agg #[.int .i64 q.v, .slice q.A q.n q.c]] w fun r w' => ∃ v, r = .returned (.bool v) ∧ (v = true ↔ p.v = q.v ∧ p.ts = q.ts) ∧ Below w.heap.size w w' := by
 have hh := Hp.start w;have ht := fun w1 hb => xD p.A p.n p.c p.ts q.A q.n q.c q.ts w1 (hp.ext hb) (hq.ext hb) hn hm;by_cases hv : p.v = q.v
 ·refine M7 ?_;refine sr ?_;refine cx hh [_,_] ?_;intro b2 w2 hh;refine cx hh [_,_] ?_;intro b3 w3 hh;refine aB (aa (sr (bD ?_)));refine bB hh 1 ?_;refine bD ?_;refine bB hh 0 ?_;refine cW (mB (gT (bD (gT ?_))));refine bB hh 1 ?_;refine gT (bD (gT ?_));refine bB hh 0 ?_;refine aH rfl rfl ?_;refine aE (ht _ hh.below) ak.out rfl Ty ?_;rintro e_ w15 ⟨v_, rfl, hv_, hb_⟩;refine ⟨_, rfl, ?_⟩;replace hh := hh.ext hb_;refine fu ?_;refine aB (aa (av ?_));refine cX ?_;exact ⟨v_, rfl, hv_.trans ⟨fun h => ⟨hv, h⟩, fun h => h.2⟩, hh.below⟩
 ·refine M7 ?_;refine sr ?_;refine cx hh [_,_] ?_;intro b2 w2 hh;refine cx hh [_,_] ?_;intro b3 w3 hh;refine aB (aa (sr (bD ?_)));refine bB hh 1 ?_;refine bD ?_;refine bB hh 0 ?_;refine cW (mB ?_);refine gS (gS (gS (gS ?_)));refine iJ ?_;refine dK ?_;refine aB (aa (av ?_));refine cX ?_;exact ⟨_, rfl, ⟨fun h => (nomatch h), fun h => absurd h.1 hv⟩, hh.below⟩
def Td (a : NR) : Bool := decide ((24 : Int) < a.bo.size ∨ a.e < -300 ∨ 300 < a.e)
structure Tt (ts : List TR) : Prop where
 n : ts.length ≤ 12
 ok : iO 492 ts
 sz : ∀ t ∈ ts, t.m.size ≤ 50
def PX.norm (g : PX) : PX := ⟨g.v, none, 0, 0, g.ts⟩
theorem vJ (ps : List PX) : eS (ps.map PX.norm) = eS ps := by
 have h1 : (ps.map PX.norm).find? (fun g => decide (g.e ≠ 0)) = (ps.find? fun g => decide (g.e ≠ 0)).map PX.norm := List.find?_map ..;have h2 : u2 (ps.map PX.norm) = u2 ps := by
  unfold u2;rw [List.any_map, List.map_map]
  rfl
 unfold eS;rw [h1, h2, List.length_map]
 cases ps.find? (fun g => decide (g.e ≠ 0)) <;> rfl
theorem uh (ps : List PX) : eC (ps.map PX.norm) = eC ps := by unfold eC; rw [List.map_map]; rfl
structure AN (ps os : List PX) (R : List HE) : Prop where
 eq : ∀ (j : Nat) (g o : PX), ps[j]? = some g → os[j]? = some o → o.v = g.v ∧ o.ts = g.ts ∧ o.n = g.n
 my : ∀ o ∈ os, o.row ∈ R ∧ o.n ≤ o.c
theorem AN.add {ps os : List PX} {R : List HE} {g o : PX} (h : AN ps os R) (hx : ps[os.length]? = some g) (he : o.v = g.v ∧ o.ts = g.ts ∧ o.n = g.n) (hc : o.n ≤ o.c) : AN ps (os ++ [o]) (o.row :: R) := by
 refine ⟨fun j g2 o2 h1 h2 => ?_, fun o2 h2 => ?_⟩
 ·by_cases hj : j < os.length
  ·rw [List.getElem?_append_left hj] at h2;exact h.eq j g2 o2 h1 h2
  ·by_cases hj2 : j = os.length
   ·subst hj2;rw [List.getElem?_append_right (Nat.le_refl _), Nat.sub_self] at h2;rw [hx] at h1
    cases h1; cases h2
    exact he
   ·rw [List.getElem?_eq_none (by rw [List.length_append]; simp; omega)] at h2
    cases h2
 ·rcases List.mem_append.1 h2 with h2 | h2
  ·exact ⟨List.mem_cons_of_mem _ (h.my o2 h2).1, (h.my o2 h2).2⟩
  ·rw [List.mem_singleton.1 h2];exact ⟨List.mem_cons_self, hc⟩
theorem AN.key {ps os : List PX} {R : List HE} (h : AN ps os R) (hl : os.length = ps.length) : os.map PX.norm = ps.map PX.norm := by
 apply List.ext_getElem?;intro j;rw [List.getElem?_map, List.getElem?_map];by_cases hj : j < os.length
 ·obtain ⟨o, ho⟩ := ao hj;obtain ⟨g, hg⟩ := ao (l := ps) (k := j) Tx;obtain ⟨e1, e2, _⟩ := h.eq j g o hg ho;rw [ho, hg];show some (PX.norm o) = some (PX.norm g);unfold PX.norm;rw [e1, e2]
 ·rw [List.getElem?_eq_none Tx, List.getElem?_eq_none Tx]
theorem D2 {w w' : World} {H : List HE} {g : PX} (hh : Hp w H w') (h : g.row ∈ H) : g.at_ w' := lB (hh.own g.row h)
def I6 (p : PX) (c : Dyadic) : Int := if p.e = 0 then gR (p.ts.map (qQ c)) else p.e
theorem Fq {l X : List TR} {c : Dyadic} {i : Nat} {z : TR} (hz : l[i]? = some z) (hX : X = (l.take i).map (qQ c) ++ l.drop i) : X[i]? = some z ∧ X.set i ⟨z.m, nR (z.c.d * c)⟩ = (l.take (i + 1)).map (qQ c) ++ l.drop (i + 1) := by
 obtain ⟨h1, h2⟩ := List.getElem?_eq_some_iff.1 hz;have hl : ((l.take i).map (qQ c)).length = i := by rw [List.length_map, List.length_take]; omega
 refine ⟨?_, ?_⟩
 ·rw [hX, List.getElem?_append_right Tx, hl, Nat.sub_self, List.getElem?_drop];exact hz
 ·rw [ay hz, List.map_append, hX, List.set_append_right _ _ Tx, hl, Nat.sub_self, List.append_assoc, gH hz]
  rfl
theorem D6 {k j : Nat} {l : List TR} {c : Dyadic} (ho : iO k l) (hc : Sz j c) (hk : k + j ≤ 1000000) : iO (k + j) (l.map (qQ c)) := fun t ht => by
 obtain ⟨z, hz, rfl⟩ := List.mem_map.1 ht;have hs := (ho z hz).2.mul hc;exact ⟨hs.ok Tx, by show Sz _ (nR _).d; rw [cf]; exact hs⟩
theorem xI (p : PX) (c : NR) (k : Nat) (w : World) (hT : ee w) (hp : p.at_ w) (lp : p.kO k) (hc : c.ok ∧ Sz k c.d) (hk : k ≤ 400000) :
  Calls Tryz.prog 53 #[.agg #[.int .i64 p.v, .slice p.A p.n p.c], .agg #[.bool c.neg, .string c.bo, .int .i64 c.e]] w fun r w' => ∃ g : PX, eK (I6 p c.d) p.v (aF (p.ts.map (qQ c.d))) g ∧ r = .returned (.tuple #[.agg #[.int .i64 g.v, .slice g.A g.n g.c], .int .i64 (I6 p c.d)]) ∧ Hp w [g.row] w' := by
 have hh := Hp.start w;have hck := fun w1 hT1 hb => nj p k w1 hT1 (hp.ext hb) lp;unfold I6;by_cases h0 : p.e = 0
 ·rw [if_pos h0];rw [h0] at hck;obtain ⟨_, h4, _, _⟩ := cu h0;have hpl : p.ts.length = p.n := hp.ln;refine NK ?_;refine sr ?_;refine cx hh [_,_] ?_;intro b2 w2 hh;refine cx hh [_,_,_] ?_;intro b3 w3 hh;refine bR hh ?_;intro b4 w4 hh;refine aI (aa (ah (sr ?_)));refine cD hh 2 [_,_] ?_;refine fG ?_;intro w10 hh;refine aI (aa (sr (mI ?_)));refine cK (aa (cF (ar (ai (sr (bD ?_))))));refine bB hh 2 ?_;refine aE (lO p.A p.n p.c p.ts _ (hp.ext hh.below) lp.n) ak.out rfl Ty ?_;rintro e_ w17 ⟨A17, c17, rfl, hown_, hb_⟩;refine ⟨_, rfl, ?_⟩;replace hh := hh.aV (x := .row _ _ _ _ _ _) hb_ hown_;refine rz ?_;refine aP [8, 20, 21, 22, 23, 24, 25, 26, 27, 28, 29, 30, 31, 32, 33, 34, 35] 20
   (fun v w' => ∃ (i : Nat) (X : List TR), i ≤ p.n ∧ v = .int .i64 i ∧ X = (p.ts.take i).map (qQ c.d) ++ p.ts.drop i ∧ Hp w [.row A17 p.n c17 96 4 (az TR.cells X), .blk b4 24 [.int .i64 0, .slice none 0 0] (0, 0), .blk b3 65 [.bool c.neg, .string c.bo, .int .i64 c.e] (0, 0), .blk b2 24 [.int .i64 p.v, .slice p.A p.n p.c] (0, 0)] w')
   (fun v _ => p.n - (intOf v).toNat) ?_ ?_
  ·exact ⟨0, p.ts, Nat.zero_le _, rfl, rfl, hh⟩
  ·clear hh;rintro ρ' v w' ⟨i, X, hi, rfl, hX, hh⟩;have hXl : X.length = p.n := by rw [hX, List.length_append, List.length_map, List.length_take, List.length_drop]; omega
   by_cases hlt : i < p.n
   ·obtain ⟨z, hz⟩ := ao (l := p.ts) (k := i) Tx;obtain ⟨hXz, hXn⟩ := Fq hz hX;have hzo := lp.ok z (List.mem_of_getElem? hz);have hdm := fun A cc w1 hT1 hS1 => ew A 2 cc [z.c, c] w1 hT1 hS1 (by simpa using ⟨hzo.1, hc.1⟩) k (by simpa using ⟨hzo.2, hc.2⟩) Tx Ty;rw [show ic ([z.c, c].map NR.d) = z.c.d * c.d by show 1 * z.c.d * c.d = _; rw [Dyadic.one_mul]] at hdm;have hrl := eF TR.len X;obtain ⟨g0, rfl⟩ := hh.cd (i := 0) rfl Tx;refine sr ?_;refine bf (aa (ah (cT (ar (ai (ah (aq (sr (mI (aI (aa ?_)))))))))));refine aY 10 [[(7, none)], [(8, none)], [(7, none)], [(8, none)], [(25, some 2), (26, some 3)], [(27, some 4)], [(28, some 5)], [(3, none)], [(29, some 6), (30, some 7)], [(31, some 8)]] [(9, 32), (8, 31), (7, 30), (6, 29), (5, 28), (4, 27), (3, 26), (2, 25), (1, 24), (0, 23)] hh mixed Tz ?_;refine gk ?_;refine dE ?_;refine gk ?_;refine dE ?_;refine BQ (i) ?_;refine dV ?_;refine pE [_,_,_] (fun _ hj => (hj.hp.eU (f := TR.cells) (x := z) (l := X) (i := 0) rfl TR.len Ty hXz).drop 1) ?_;refine fT 2 [_,_,_] ?_;refine sC [_,_,_,_,_,_] ?_;refine aR (i := 9) (Is (.agg #[.bool (nR (z.c.d * c.d)).neg, .string (nR (z.c.d * c.d)).bo, .int .i64 (nR (z.c.d * c.d)).e])) Is.ext ?_ ?_
    ·intro ρ1 w1 hj hR;obtain ⟨A31, c31, h31, s31⟩ := hR.1;exact a8 rfl (aM ak.out (aw h31 aX)) (hdm A31 c31 _ (hT.hp hj.hp) s31) (fun _ _ hq => ⟨_, hq.1, hq.2, rfl⟩)
    refine aT ?_;intro f W hJ hV;have hb_8 := hJ.bl;obtain ⟨v32, v31, v30, v29, v28, v27, v26, v25, v24, v23, _⟩ := hV;obtain ⟨A31, c31, e31, f31⟩ : Rows _ _ _ (f 8) W := v31;replace hh := hJ.hp;refine a6 (bm (ae v32 (ae e31 (ae v30 (ae v29 (ae v28 (ae v27 (ae v26 (ae v25 (ae v24 (ae v23 a0))))))))))) ?_;dsimp only [cg];clear e31 hJ;refine gh ?_;refine bD ?_;refine bL hh (i := 0) (vs := [_, _, _]) rfl rfl (gO rfl) rfl aN.out rfl Tx rfl ?_;intro ws hh;simp only [List.set_cons_zero] at hh;rw [vE hXz, hXn] at hh;refine fL ?_;refine bh (mI (aA (ai ?_)));replace hh := hh.sub (List.Sublist.cons_cons _ (List.Sublist.cons_cons _ (List.Sublist.cons_cons _ (List.Sublist.cons_cons _ List.Sublist.slnil))));refine ⟨⟨i + 1, _, Tx, rfl, rfl, hh⟩, by show p.n - (i + 1) < p.n - i; omega, ?_⟩;exact dL
   ·obtain rfl : i = p.n := Tx;rw [List.take_of_length_le Tx, List.drop_of_length_le Tx, List.append_nil] at hX;have hso := D6 lp.ok hc.2 Tx;rw [← hX] at hso ⊢;refine sr ?_;refine bf (aa (ah (cF (aZ (aD (aD (bq (ai (sr (bD ?_))))))))));refine bB hh 3 ?_;refine mL ?_;refine aE (ko p.v A17 p.n c17 X (k + k) _ hT hh hXl Tx Tx hso) ak.out rfl Ty ?_;rintro e_ w39 ⟨g, og, rfl, hh⟩;refine ⟨_, rfl, ?_⟩;refine dq ?_;refine dq ?_;exact Eg
 ·rw [if_neg h0];refine NK ?_;refine sr ?_;refine cx hh [_,_] ?_;intro b2 w2 hh;refine cx hh [_,_,_] ?_;intro b3 w3 hh;refine bR hh ?_;intro b4 w4 hh;refine aI (aa (ah (sr ?_)));refine cD hh 2 [_,_] ?_;refine fG ?_;intro w10 hh;exact KD
abbrev ZT := List (List UInt8 × Int)
def zT (L : ZT) : List TR := L.map fun x => ⟨str x.1, nR ((x.2 : Int) : Dyadic)⟩
def zS (L : ZT) (b : List UInt8) : Int := match L with | [] => 0 | x :: L => (if x.1 = b then x.2 else 0) + zS L b
def zC : ZT → Bool
 | [] => true
 | [x] => !decide (x.2 = 0)
 | x :: y :: L => !decide (x.2 = 0) && (Op.bytesLess x.1 y.1 && zC (y :: L))
def zE (L K : ZT) : Bool := (L ++ K).all fun x => decide (zS L x.1 = zS K x.1)
def zP (P Q : ZT) : ZT := P.flatMap fun x => Q.map fun y => ((mulL x.1 y.1).1, x.2 * y.2)
def Tp (P Q : ZT) : List Int := P.flatMap fun x => Q.map fun y => (mulL x.1 y.1).2
def zM (v : Int) (L : ZT) : Bool := L.all fun x => eE x.1 && decide ((x.1.length : Int) = v)
def zB (L : ZT) : Bool := L.all fun x => decide (x.2.natAbs < 256) && decide (x.1.length ≤ 50)
def SN (n : Int) : ZT := [([0, 1], n), ([1, 0], 1)]
theorem mj {g h : PX} (h1 : g.e = 0) (h2 : h.e = 0) (h3 : h.v = g.v) : eS [g, h] = 0 := by
 have e : [g, h].find? (fun g => decide (g.e ≠ 0)) = none := iP (List.any_eq_false.2 fun x hx => by
  rcases List.mem_cons.1 hx with rfl | hx
  ·simp [h1]
  ·rw [List.mem_singleton.1 hx]; simp [h2])
 unfold eS;rw [e];show (if 2 = 0 ∨ u2 [g, h] = true then (1 : Int) else 0) = 0;rw [if_neg];rintro (h0 | h0)
 ·cases h0
 ·obtain ⟨x, hx, hx2⟩ := List.any_eq_true.1 h0;have hx3 : x.v ≠ g.v := of_decide_eq_true hx2
  rcases List.mem_cons.1 hx with rfl | hx
  ·exact hx3 rfl
  ·rw [List.mem_singleton.1 hx] at hx3;exact hx3 h3
def RT (ds : List Int) : VP := fun v W => ∃ g : Option Addr × Nat, v = .slice g.1 ds.length g.2 ∧ Sl W g.1 ds.length 1 (bF ds)
structure S6 (E : Int) (g : PX) : Prop where
 bad : E ≠ 0 → g.v = 0 ∧ g.ts = []
 ok : E = 0 → g.e = 0 ∧ iO 100000 g.ts ∧ ∀ t ∈ g.ts, t.m.size ≤ 100000
theorem DM {l : List TR} (h : gR l = 0) : (aF l).length ≤ 4096 := by
 unfold gR at h;by_cases h4 : 4096 < (aF l).length
 ·rw [if_pos h4] at h; omega
 ·omega
theorem lE {k j : Nat} {l : List TR} (h : iO k l) (hk : k + l.length ≤ j) (hj : j ≤ 3999990) : iO j (aF l) := fun t ht => by
 have h3 : Sz j t.c.d := (nq (fun t ht => (h t ht).2) t ht).mono hk;exact ⟨by rw [(eT l).nf t ht]; exact h3.ok hj, h3⟩
theorem lX {l : List TR} (h : ∀ t ∈ l, t.m.size ≤ 100000) : ∀ t ∈ aF l, t.m.size ≤ 100000 := fun t ht => by
 obtain ⟨s, hs, e⟩ := fQ t ht;rw [← e];exact h s hs
theorem Gf {ps : List PX} {v : Int} (h0 : ps ≠ []) (he : ∀ g ∈ ps, g.e = 0) (hv : ∀ g ∈ ps, g.v = v) : eS ps = 0 := by
 unfold eS;rw [iP (List.any_eq_false.2 fun x hx => by simp [he x hx])];show (if ps.length = 0 ∨ u2 ps = true then (1 : Int) else 0) = 0;rw [if_neg];rintro (h | h)
 ·exact h0 (List.eq_nil_of_length_eq_zero h)
 ·obtain ⟨x, hx, hx2⟩ := List.any_eq_true.1 h;have hx3 : x.v ≠ eC ps := of_decide_eq_true hx2;obtain ⟨g, l, rfl⟩ := List.exists_cons_of_ne_nil h0;exact hx3 ((hv x hx).trans (hv g List.mem_cons_self).symm)
theorem gU {l : List TR} (h : l.length ≤ 4096) : gR l = 0 := by
 unfold gR;have := bQ l;rw [if_neg Tx]
theorem eK.v0 {v : Int} {ts : List TR} {g : PX} (o : eK 0 v ts g) : g.v = v := o.v
theorem eK.t0 {v : Int} {ts : List TR} {g : PX} (o : eK 0 v ts g) : g.ts = ts := o.ts
theorem BG (p q : PX) : rJ [p, q] = p.ts ++ q.ts := by show p.ts ++ (q.ts ++ []) = _; rw [List.append_nil]
def fw (j : Nat) (t : TR) : Nat := match t.m.data.toList[j]? with | some e => e.toNat | none => 0
theorem mQ {j : Nat} {t : TR} {e : UInt8} (h : t.m.data.toList[j]? = some e) : fw j t = e.toNat := by unfold fw; rw [h]
def bI (p : List TR) (j n : Nat) : List TR := p.filter fun t => decide (fw j t = n)
def iG (q : List TR) (sub : List TR → Int × List TR) (p : List TR) (j n : Nat) (a : Int × List TR) : Int × List TR :=
 if a.1 ≠ 0 then a else if a.2.length = 0 ∧ (bI p j n).length = 0 then a else
 if fy a.2 q ≠ 0 then (fy a.2 q, []) else if (sub (bI p j n)).1 ≠ 0 then ((sub (bI p j n)).1, []) else
 if gR (aF (cC a.2 q) ++ (sub (bI p j n)).2) ≠ 0 then (gR (aF (cC a.2 q) ++ (sub (bI p j n)).2), []) else (0, aF (aF (cC a.2 q) ++ (sub (bI p j n)).2))
def bZ (q : List TR) (sub : List TR → Int × List TR) (p : List TR) (j : Nat) : Nat → Int × List TR
 | 0 => (0, [])
 | i + 1 => iG q sub p j (127 - i) (bZ q sub p j i)
theorem lM (q : List TR) (sub : List TR → Int × List TR) (p : List TR) (j i : Nat) : bZ q sub p j (i + 1) = iG q sub p j (127 - i) (bZ q sub p j i) := rfl
def fP (v : Int) : List (List TR) → Nat → List TR → Int × List TR
 | [], _, p => (0, aF [⟨cR v, (p.map TR.c).headD (nR 0)⟩])
 | q :: qs, j, p => bZ q (fP v qs (j + 1)) p j 128
theorem m7 {q : List TR} {sub : List TR → Int × List TR} {p : List TR} {j i k : Nat} (h : (bZ q sub p j i).1 ≠ 0) (hk : i ≤ k) : bZ q sub p j k = bZ q sub p j i := by
 induction k with
 | zero =>
  obtain rfl : i = 0 := Tx
  rfl
 | succ k ih =>
  by_cases e : i = k + 1
  ·rw [e]
  ·have := ih Tx;show iG q sub p j (127 - k) (bZ q sub p j k) = _;rw [this];unfold iG;rw [if_pos h]
theorem G5 {p q : List TR} {k j : Nat} (hp : iO k p) (hq : iO j q) (sq : ∀ t ∈ q, t.m.size ≤ 100000) (h : fy p q = 0) (hk : k + j ≤ 900000) : iO (k + j + p.length * q.length) (aF (cC p q)) ∧ ∀ t ∈ aF (cC p q), t.m.size ≤ 100000 := by
 obtain ⟨h6, _, h4⟩ := nA h;have ho := uD hp hq Tx;have hz := nq fun t ht => (ho t ht).2;rw [lf] at hz;refine ⟨fun t ht => ?_, (D4 hp hq sq h hk).2⟩;have : Sz (k + j + p.length * q.length) t.c.d := hz t ht;refine ⟨?_, this⟩;rw [(eT _).nf t ht];exact this.ok Tx
structure ky (v : Int) (k : Nat) (l : List TR) : Prop where
 e : fH v l = 0
 ok : iO k l
 sz : ∀ t ∈ l, t.m.size ≤ 100000
theorem ky.mono {v : Int} {k j : Nat} {l : List TR} (h : ky v k l) (hk : k ≤ j) : ky v j l := ⟨h.e, h.ok.mono hk, h.sz⟩
theorem ky.nil {v : Int} {k : Nat} (hv : ja v = true) : ky v k [] := ⟨DN hv (Nat.zero_le _) (fun _ h => nomatch h) ⟨.nil, (fun _ h => nomatch h), (fun _ h => nomatch h)⟩, (fun _ h => nomatch h), (fun _ h => nomatch h)⟩
theorem ky.len {v : Int} {k : Nat} {l : List TR} (h : ky v k l) : l.length ≤ 4096 := (cu h.e).2.1
theorem DA {v : Int} {p q : List TR} {k j T : Nat} (hp : ky v k p) (hq : ky v j q) (hT : q.length ≤ T) (h : fy p q = 0) (hk : k + j ≤ 900000) : ky v (k + j + 4096 * T) (aF (cC p q)) := by
 obtain ⟨h6, h5, h4⟩ := nA h;obtain ⟨f1, f2, f3, f4⟩ := cu hp.e;have := G5 hp.ok hq.ok hq.sz h hk;have hm : p.length * q.length ≤ 4096 * T := Nat.mul_le_mul hp.len hT;exact ⟨eP f1 h4 (vI f3 h5), this.1.mono Tx, this.2⟩
theorem DT {v : Int} {a b : List TR} {k : Nat} (ha : ky v k a) (hb : ky v k b) (h : gR (a ++ b) = 0) (hk : k ≤ 3000000) : ky v (k + 8192) (aF (a ++ b)) := by
 obtain ⟨f1, f2, f3, f4⟩ := cu ha.e;obtain ⟨g1, g2, g3, g4⟩ := cu hb.e;have hl : (a ++ b).length ≤ 8192 := by rw [List.length_append]; omega
 refine ⟨eP f1 (DM h) fun t ht => ?_, lE (fun t ht => ?_) (show k + (a ++ b).length ≤ k + 8192 by omega) Tx, lX fun t ht => ?_⟩
 ·rcases List.mem_append.1 ht with h | h
  ·exact f3 t h
  ·exact g3 t h
 ·rcases List.mem_append.1 ht with h | h
  ·exact ha.ok t h
  ·exact hb.ok t h
 ·rcases List.mem_append.1 ht with h | h
  ·exact ha.sz t h
  ·exact hb.sz t h
theorem Ja {v : Int} {q p : List TR} {sub : List TR → Int × List TR} {j n : Nat} {a : Int × List TR} {S K T B S' : Nat} (ha : ky v S a.2) (hq : ky v K q) (hT : q.length ≤ T) (hb : (sub (bI p j n)).1 = 0 → ky v B (sub (bI p j n)).2) (h1 : S + K + 4096 * T + 8192 ≤ S') (h2 : B + 8192 ≤ S') (hS : S' ≤ 900000)
  (h : (iG q sub p j n a).1 = 0) : ky v S' (iG q sub p j n a).2 := by
 unfold iG at h ⊢;by_cases c0 : a.1 ≠ 0
 ·rw [if_pos c0] at h; exact absurd h c0
 ·rw [if_neg c0] at h ⊢;by_cases c1 : a.2.length = 0 ∧ (bI p j n).length = 0
  ·rw [if_pos c1];exact ha.mono Tx
  ·rw [if_neg c1] at h ⊢;by_cases c2 : fy a.2 q ≠ 0
   ·rw [if_pos c2] at h; exact absurd h c2
   ·rw [if_neg c2] at h ⊢;by_cases c3 : (sub (bI p j n)).1 ≠ 0
    ·rw [if_pos c3] at h; exact absurd h c3
    ·rw [if_neg c3] at h ⊢;by_cases c4 : gR (aF (cC a.2 q) ++ (sub (bI p j n)).2) ≠ 0
     ·rw [if_pos c4] at h; exact absurd h c4
     ·rw [if_neg c4];exact (DT ((DA ha hq hT Tx Tx).mono (show _ ≤ S' - 8192 by omega)) ((hb Tx).mono Tx) Tx Tx).mono Tx
theorem Gl {p : List TR} {j n : Nat} (h : ∀ t ∈ p, fw j t < n) : bI p j n = [] := List.filter_eq_nil_iff.2 fun t ht => by
 have := h t ht;simp only [decide_eq_true_eq];omega
theorem jJ {p : List TR} {j n : Nat} : ∀ t ∈ bI p j n, t ∈ p := fun t ht => (List.mem_filter.1 ht).1
theorem jR {q p : List TR} {sub : List TR → Int × List TR} {j D : Nat} (h : ∀ t ∈ p, fw j t ≤ D) : ∀ i, i + D ≤ 127 → bZ q sub p j i = (0, [])
 | 0, _ => rfl
 | i + 1, hi => by
  show iG q sub p j (127 - i) (bZ q sub p j i) = _;rw [jR h i Tx, show iG q sub p j (127 - i) (0, []) = (0, []) by
   unfold iG;rw [if_neg Ty, if_pos ⟨rfl, by rw [Gl fun t ht => by have := h t ht; omega]; rfl⟩]]
def eZ (c : Nat) : List Nat → Nat → Nat
 | [], k => k
 | d :: ds, k => eZ c ds k + d * c + 8192
theorem qe (c k : Nat) : eZ c [] k = k := rfl
theorem oB (c d k : Nat) (ds : List Nat) : eZ c (d :: ds) k = eZ c ds k + d * c + 8192 := rfl
theorem uB {v : Int} {q p : List TR} {sub : List TR → Int × List TR} {j D K T B c : Nat} (hv : ja v = true) (hq : ky v K q) (hT : q.length ≤ T) (hD : ∀ t ∈ p, fw j t ≤ D) (hD2 : D ≤ 127) (hb : ∀ n, (sub (bI p j n)).1 = 0 → ky v B (sub (bI p j n)).2) (hc : K + 4096 * T + 8192 ≤ c) (hS : B + D * c + 8192 ≤ 900000) :
  ∀ i, i ≤ 128 → (bZ q sub p j i).1 = 0 → ky v (B + (i + D - 128) * c + 8192) (bZ q sub p j i).2
 | 0, _, _ => ky.nil hv
 | i + 1, hi, h0 => by
  by_cases h1 : i + 1 + D ≤ 127
  ·rw [jR hD _ h1];exact ky.nil hv
  ·have h2 : (bZ q sub p j i).1 = 0 := by
    refine Classical.byContradiction fun c => ?_;rw [m7 c (Nat.le_succ i)] at h0;exact c h0
   have hle : (i + 1 + D - 128) * c ≤ D * c := Nat.mul_le_mul_right _ Tx;by_cases h3 : i + D ≤ 127
   ·have h4 := jR (q := q) (sub := sub) hD i h3;show ky v _ (iG q sub p j (127 - i) (bZ q sub p j i)).2;have h5 : (iG q sub p j (127 - i) (bZ q sub p j i)).1 = 0 := h0;rw [h4] at h5 ⊢;rw [show i + 1 + D - 128 = 0 by omega, Nat.zero_mul];unfold iG at h5 ⊢;rw [if_neg Ty] at h5 ⊢;by_cases c1 : ((0 : Int), ([] : List TR)).2.length = 0 ∧ (bI p j (127 - i)).length = 0
    ·rw [if_pos c1]; exact ky.nil hv
    ·rw [if_neg c1] at h5 ⊢;by_cases c2 : fy [] q ≠ 0
     ·rw [if_pos c2] at h5; exact absurd h5 c2
     ·rw [if_neg c2] at h5 ⊢;by_cases c3 : (sub (bI p j (127 - i))).1 ≠ 0
      ·rw [if_pos c3] at h5; exact absurd h5 c3
      ·rw [if_neg c3] at h5 ⊢;by_cases c4 : gR (aF (cC [] q) ++ (sub (bI p j (127 - i))).2) ≠ 0
       ·rw [if_pos c4] at h5; exact absurd h5 c4
       ·rw [if_neg c4];have hn : ky v B (aF (cC [] q)) := ky.nil hv;exact (DT hn (hb _ Tx) Tx Tx).mono Tx
   ·have ih := uB hv hq hT hD hD2 hb hc hS i Tx h2;have e1 : (i + 1 + D - 128) * c = (i + D - 128) * c + c := by rw [show i + 1 + D - 128 = (i + D - 128) + 1 by omega, Nat.succ_mul]
    rw [e1] at hle ⊢;generalize (i + D - 128) * c = y at *;generalize D * c = z at *;exact Ja ih hq hT (hb _) Tx Tx Tx h0
theorem vn {v : Int} {k : Nat} {x : NR} (hv : ja v = true) (hx : Sz k x.d) (hk : k ≤ 900000) : ky v (k + 1) (aF [⟨cR v, x⟩]) := by
 have h1 := iD.1 hv;have h2 := jH h1.1;refine ⟨eP hv (Nat.le_trans (bQ _) (show 1 ≤ 4096 by decide)) fun t ht => ?_, fun t ht => ?_, fun t ht => ?_⟩
 ·rw [List.mem_singleton.1 ht];unfold eH;rw [Bool.and_eq_true, decide_eq_true_eq];exact ⟨m0 v, h2⟩
 ·have h1 : Sz (k + 1) t.c.d := nq (k := k) (l := [⟨cR v, x⟩]) (fun s hs => by rw [List.mem_singleton.1 hs]; exact hx) t ht;exact ⟨by rw [(eT _).nf t ht]; exact h1.ok Tx, h1⟩
 ·obtain ⟨s, hs, e⟩ := fQ t ht;rw [← e, List.mem_singleton.1 hs];show (cR v).size ≤ 100000;omega
theorem DE {v : Int} {K T c0 : Nat} (hv : ja v = true) (hc0 : K + 4096 * T + 8192 ≤ c0) : ∀ (qs : List (List TR)) (j : Nat) (p : List TR) (ds : List Nat) (k : Nat), (∀ q ∈ qs, ky v K q ∧ q.length ≤ T) → iO k p → ds.length = qs.length → (∀ (i d : Nat), ds[i]? = some d → d ≤ 127 ∧ ∀ t ∈ p, fw (j + i) t ≤ d) → eZ c0 ds (k + 1) ≤ 900000 →
  (fP v qs j p).1 = 0 → ky v (eZ c0 ds (k + 1)) (fP v qs j p).2 := by
 intro qs
 induction qs with
 | nil =>
  intro j p ds k _ hok hds _ hB _;obtain rfl : ds = [] := List.length_eq_zero_iff.1 hds;rw [qe] at hB ⊢;refine vn hv ?_ Tx
  cases p with
  | nil => show Sz k (nR 0).d; rw [cf]; exact Sz.zero k
  | cons t p => exact (hok t List.mem_cons_self).2
 | cons q qs ih =>
  intro j p ds k hq hok hds hD hB h0
  cases ds with
  | nil => cases hds
  | cons d ds =>
   have hd := hD 0 d rfl;rw [oB] at hB ⊢;have hB1 : eZ c0 ds (k + 1) ≤ 900000 := Tx;have hsub : ∀ n, (fP v qs (j + 1) (bI p j n)).1 = 0 → ky v (eZ c0 ds (k + 1)) (fP v qs (j + 1) (bI p j n)).2 := fun n hn => by
    refine ih (j + 1) (bI p j n) ds k (fun r hr => hq r (List.mem_cons_of_mem _ hr)) (fun t ht => hok t (jJ t ht)) (by simpa using hds) (fun i e he => ?_) hB1 hn;exact QU
   have h1 := uB (sub := fP v qs (j + 1)) (p := p) (j := j) hv (hq q List.mem_cons_self).1 (hq q List.mem_cons_self).2 hd.2 hd.1 hsub hc0 hB 128 (Nat.le_refl _) h0;rw [show 128 + d - 128 = d by omega] at h1;exact h1
theorem BA : ∀ {a b : List UInt8} {j : Nat} {x y : UInt8}, Op.bytesLess a b = true → a.take j = b.take j → a[j]? = some x → b[j]? = some y → x.toNat ≤ y.toNat
 | [], _, j, x, y, _, _, hx, _ => by simp at hx
 | _, [], j, x, y, _, _, _, hy => by simp at hy
 | c :: a, d :: b, 0, x, y, h, _, hx, hy => by
  simp only [List.getElem?_cons_zero, Option.some.injEq] at hx hy;subst hx; subst hy;simp only [Op.bytesLess, Bool.or_eq_true, Bool.and_eq_true, decide_eq_true_eq, beq_iff_eq] at h
  rcases h with h | ⟨h, _⟩
  ·exact Nat.le_of_lt (UInt8.lt_iff_toNat_lt.1 h)
  ·rw [h]; exact Nat.le_refl _
 | c :: a, d :: b, j + 1, x, y, h, ht, hx, hy => by
  simp only [List.take_succ_cons, List.cons.injEq] at ht;obtain ⟨rfl, ht⟩ := ht;simp only [List.getElem?_cons_succ] at hx hy;refine BA (a := a) (b := b) ?_ ht hx hy;simpa [Op.bytesLess] using h
structure Fp (v : Int) (j : Nat) (p : List TR) : Prop where
 rj : r9 p
 may : ∀ t ∈ p, eH v t = true
 pre : ∀ a ∈ p, ∀ b ∈ p, a.m.data.toList.take j = b.m.data.toList.take j
theorem Fp.size {v : Int} {j : Nat} {p : List TR} (h : Fp v j p) : ∀ t ∈ p, (t.m.data.toList.length : Int) = v := fun t ht => by
 rw [← dA];exact of_decide_eq_true (Bool.and_eq_true_iff.1 (h.may t ht)).2
theorem Fp.get {v : Int} {j : Nat} {p : List TR} (h : Fp v j p) (hj : (j : Int) < v) {t : TR} (ht : t ∈ p) : ∃ e : UInt8, t.m.data.toList[j]? = some e ∧ fw j t = e.toNat ∧ e.toNat < 128 := by
 obtain ⟨e, he⟩ := ao (l := t.m.data.toList) (k := j) (by have := h.size t ht; omega);exact ⟨e, he, mQ he, sa (Bool.and_eq_true_iff.1 (h.may t ht)).1 he⟩
theorem Fp.mono {v : Int} {j : Nat} {p : List TR} (h : Fp v j p) (hj : (j : Int) < v) : p.Pairwise fun a b => fw j a ≤ fw j b := by
 refine List.Pairwise.imp_of_mem (fun {a b} ha hb hl => ?_) h.rj;obtain ⟨x, hx, ex, _⟩ := h.get hj ha;obtain ⟨y, hy, ey, _⟩ := h.get hj hb;rw [ex, ey];exact BA hl (h.pre a ha b hb) hx hy
theorem Fp.with {v : Int} {j n : Nat} {p : List TR} (h : Fp v j p) (hj : (j : Int) < v) : Fp v (j + 1) (bI p j n) := by
 refine ⟨h.rj.filter _, fun t ht => h.may t (jJ t ht), fun a ha b hb => ?_⟩;obtain ⟨ha1, ha2⟩ := List.mem_filter.1 ha;obtain ⟨hb1, hb2⟩ := List.mem_filter.1 hb;obtain ⟨x, hx, ex, _⟩ := h.get hj ha1;obtain ⟨y, hy, ey, _⟩ := h.get hj hb1;have exy : x = y := UInt8.toNat_inj.1 (by rw [← ex, ← ey, of_decide_eq_true ha2, of_decide_eq_true hb2]);rw [ay hx, ay hy, h.pre a ha1 b hb1, exy]
theorem IJ {α : Type} {p : List α} {fr en : Nat} (h : fr ≤ en) : p.drop fr = (p.drop fr).take (en - fr) ++ p.drop en := by
 have : p.drop en = (p.drop fr).drop (en - fr) := by rw [List.drop_drop]; congr 1; omega
 rw [this, List.take_append_drop]
theorem zQ {p : List TR} {j n fr en : Nat} (hfe : fr ≤ en) (h1 : ∀ t ∈ p.take fr, fw j t < n) (h2 : ∀ t ∈ (p.drop fr).take (en - fr), fw j t = n) (h3 : ∀ t ∈ p.drop en, n < fw j t) : bI p j n = (p.drop fr).take (en - fr) := by
 have e : p = p.take fr ++ ((p.drop fr).take (en - fr) ++ p.drop en) := by
  have : p.drop en = (p.drop fr).drop (en - fr) := by rw [List.drop_drop]; congr 1; omega
  rw [this, List.take_append_drop, List.take_append_drop]
 unfold bI
 conv => lhs; rw [e]
 rw [List.filter_append, List.filter_append, List.filter_eq_nil_iff.2, List.filter_eq_self.2, List.filter_eq_nil_iff.2, List.nil_append, List.append_nil]
 ·intro t ht;have := h3 t ht;simp only [decide_eq_true_eq];omega
 ·intro t ht;have := h2 t ht;simpa using this
 ·intro t ht;have := h1 t ht;simp only [decide_eq_true_eq];omega
theorem Fx {p : List TR} {j fr n : Nat} {x : TR} (h : p.Pairwise fun a b => fw j a ≤ fw j b) (hx : p[fr]? = some x) (hn : fw j x < n) : ∀ t ∈ p.take (fr + 1), fw j t < n := fun t ht => by
 rw [ay hx] at ht
 rcases List.mem_append.1 ht with ht | ht
 ·have e : p = p.take fr ++ x :: p.drop (fr + 1) := by rw [← gH hx, List.take_append_drop]
  rw [e, List.pairwise_append] at h;have := h.2.2 t ht x List.mem_cons_self;omega
 ·obtain rfl := List.mem_singleton.1 ht;exact hn
def SM (p : PX) (i : Int) : Int := if p.e = 0 then (if i < 0 ∨ p.v ≤ i then 1 else 0) else p.e
def R7 (i : Nat) (t : TR) : Option TR := match t.m.data.toList[i]? with | some e => if e.toNat = 0 then none else some ⟨str (t.m.data.toList.set i (e - 1)), nR (t.c.d * ((e.toNat : Int) : Dyadic))⟩ | none => none
def S0 (i : Nat) (l : List TR) : List TR := l.filterMap (R7 i)
theorem JJ.KR {w0 w W w1 : World} {H L : List HE} (hJ : JJ w0 H w W) (hs : Hp w0 H w) (hb : w.heap.size ≤ w1.heap.size) (hL : Hp w1 L W) : Hp w0 (L ++ H) W :=
 hs.join (⟨hJ.bl, fun x hx => mg (hL.own x hx) hb, hL.nd⟩ : Hp w L W)
def pC (base : Nat) (E v : Int) (ts : List TR) : VP := jW base E v ts
theorem pC.ext {base : Nat} {E v : Int} {ts : List TR} (x : Value) (w w' : World) (h : pC base E v ts x w) (hb : Below w.heap.size w w') : pC base E v ts x w' := jW.ext x w w' h hb
theorem y9 (v : Int) : aF [⟨cR v, nR 0⟩] = [] := by
 unfold aF l7 yK
 rfl
theorem CH (lA : Option Addr) (lc K T c0 : Nat) (v : Int) (ls : List PX) (hv : ja v = true) (hlc : ls.length ≤ lc) (hl12 : ls.length ≤ 12) (hls : ∀ g ∈ ls, ky v K g.ts ∧ g.v = v ∧ g.kO K ∧ g.ts.length ≤ T) (hc0 : K + 4096 * T + 8192 ≤ c0) (hc1 : c0 ≤ 440000) :
  ∀ (qs : List PX) (j : Nat) (p : List TR) (A : Option Addr) (n c : Nat) (ds : List Nat) (k : Nat) (w : World), ls.drop j = qs → j ≤ ls.length → ee w → Sl w lA ls.length 2 (az PX.cells ls) → (∀ g ∈ ls, g.at_ w) → Sl w A n 4 (az TR.cells p) → n ≤ c → Fp ls.length j p → iO k p → n ≤ 4096 → ds.length = qs.length → (∀ (i d : Nat), ds[i]? = some d → d ≤ 127 ∧ ∀ t ∈ p, fw (j + i) t ≤ d) → eZ c0 ds (k + 1) ≤ 440000 →
  Calls Tryz.prog 156 #[.slice A n c, .int .i64 j, .slice lA ls.length lc, .int .i64 v] w fun r w' => ∃ g : PX, eK (fP v (qs.map PX.ts) j p).1 v (fP v (qs.map PX.ts) j p).2 g ∧ r = .returned (.tuple #[.agg #[.int .i64 g.v, .slice g.A g.n g.c], .int .i64 (fP v (qs.map PX.ts) j p).1]) ∧ Hp w [g.row] w' := by
 intro qs;have hK : K ≤ 440000 := Tx;have hco : uZ v = 0 := if_neg (by rw [hv]; decide)
 induction qs with
 | nil =>
  intro j p A n c ds k w hq hj hT hL hat hS hnc hsr hok hn hds hD hB;have hh := Hp.start w;have hln := hS.bk TR.len Ty;obtain rfl : j = ls.length := by
   have := congrArg List.length hq;rw [List.length_drop] at this;simp only [List.length_nil] at this;omega
  obtain rfl : ds = [] := List.length_eq_zero_iff.1 hds;rw [qe] at hB;have hcn := fun c hc w1 hT1 => iu v c k w1 hT1 hc Tx;rw [hco] at hcn
  cases p with
  | nil =>
   obtain rfl : n = 0 := by simpa using hln.symm
   show Calls _ _ _ _ fun r w' => ∃ g : PX, eK 0 v (aF [⟨cR v, nR 0⟩]) g ∧ r = .returned (.tuple #[.agg #[.int .i64 g.v, .slice g.A g.n g.c], .int .i64 0]) ∧ Hp w [g.row] w';refine aj (N := 118) (l := [.slice A 0 c, .int .i64 ls.length, .slice lA ls.length lc, .int .i64 v]) Tryz.func156 rfl rfl (by simp) ?_;refine sr ?_;refine bR hh ?_;intro b8 w8 hh;refine aI (aa (ah (sr (mI (mL (aJ ?_))))));refine cW (aa (cT (ah (sr (mL (aJ ?_))))));refine cW (aa (cT (sr (mI ?_))));refine gj [_,_,_] ?_;refine aE (hcn (nR 0) ⟨(Sz.zero k).ok Tx, by rw [cf]; exact Sz.zero k⟩ _ (hT.hp hh)) ak.out rfl Ty ?_;rintro e_ w25 ⟨g, og, rfl, h3⟩;refine ⟨_, rfl, ?_⟩;replace hh := hh.join h3;simp only [List.cons_append, List.nil_append] at hh;refine dq ?_;refine dq ?_;refine bW hh 1 [_,_] ?_;intro ws hh;replace hh : Hp _ (_ :: .blk _ _ [_, _] _ :: _) _ := hh;refine aI (aa (av (aG (aG ?_))));exact O2
  | cons t p =>
   have hn1 : p.length + 1 = n := by simpa using hln
   have ht := hok t List.mem_cons_self;obtain ⟨ad, rfl, hr⟩ := hS.at_ Tx;show Calls _ _ _ _ fun r w' => ∃ g : PX, eK 0 v (aF [⟨cR v, t.c⟩]) g ∧ r = .returned (.tuple #[.agg #[.int .i64 g.v, .slice g.A g.n g.c], .int .i64 0]) ∧ Hp w [g.row] w';refine aj (N := 118) (l := [.slice (some ad) n c, .int .i64 ls.length, .slice lA ls.length lc, .int .i64 v]) Tryz.func156 rfl rfl (by simp) ?_;refine sr ?_;refine bR hh ?_;intro b8 w8 hh;refine aI (aa (ah (sr (mI (mL (aJ ?_))))));refine cW (aa (cT (ah (sr (mL (aJ ?_))))));refine cW (aa (cF (ar (ai (sr (mI (mL ?_)))))));refine Fl ?_;refine oT ?_;refine ct (vs := [_, _, _]) aN.out rfl (((hr.ext hh.below).recAt TR.len (show (t :: p)[0]? = some t from rfl)).drop 1) rfl Ty ?_;refine aE (hcn t.c ht _ (hT.hp hh)) ak.out rfl Ty ?_;rintro e_ w33 ⟨g, og, rfl, h3⟩;refine ⟨_, rfl, ?_⟩;replace hh := hh.join h3;simp only [List.cons_append, List.nil_append] at hh;refine dq ?_;refine dq ?_;refine bW hh 1 [_,_] ?_;intro ws hh;replace hh : Hp _ (_ :: .blk _ _ [_, _] _ :: _) _ := hh;refine aI (aa (av (aG ?_)));exact O2
 | cons q qs ih =>
  intro j p A n c ds k w hq hj hT hL hat hS hnc hsr hok hn hds hD hB;have hh := Hp.start w;have hln := hS.bk TR.len Ty
  cases ds with
  | nil => cases hds
  | cons d ds =>
   have hd := hD 0 d rfl;have hjl : j < ls.length := by
    rcases Nat.lt_or_ge j ls.length with h | h
    ·exact h
    ·rw [List.drop_of_length_le h] at hq; cases hq
   have hqj : ls[j]? = some q := by rw [← List.head?_drop, hq]; rfl
   have hqs : ls.drop (j + 1) = qs := by rw [← List.tail_drop, hq]; rfl
   obtain ⟨hqk, hqv, hql, hqT⟩ := hls q (List.mem_of_getElem? hqj);rw [oB] at hB;have hB1 : eZ c0 ds (k + 1) ≤ 440000 := Tx;have hmono := hsr.mono Tx;rw [List.map_cons];show Calls _ _ _ _ fun r w' => ∃ g : PX, eK (bZ q.ts (fP v (qs.map PX.ts) (j + 1)) p j 128).1 v (bZ q.ts (fP v (qs.map PX.ts) (j + 1)) p j 128).2 g ∧ r = .returned (.tuple #[.agg #[.int .i64 g.v, .slice g.A g.n g.c], .int .i64 (bZ q.ts (fP v (qs.map PX.ts) (j + 1)) p j 128).1]) ∧ Hp w [g.row] w';have hDs : ∀ n (i e : Nat), ds[i]? = some e → e ≤ 127 ∧ ∀ t ∈ bI p j n, fw (j + 1 + i) t ≤ e := fun n i e he => by
    exact QU
   have hrec : ∀ (m fr en : Nat) (w1 : World), ee w1 → Below w.heap.size w w1 → fr ≤ en → en ≤ n → bI p j m = (p.drop fr).take (en - fr) → Calls Tryz.prog 156 #[.slice (if c = fr then A else A.map (·.add (fr * 4))) (en - fr) (c - fr), .int .i64 ((j : Int) + 1), .slice lA ls.length lc, .int .i64 v] w1 fun r w' => ∃ g : PX, eK (fP v (qs.map PX.ts) (j + 1) (bI p j m)).1 v (fP v (qs.map PX.ts) (j + 1) (bI p j m)).2 g ∧ r = .returned (.tuple #[.agg #[.int .i64 g.v, .slice g.A g.n g.c], .int .i64 (fP v (qs.map PX.ts) (j + 1) (bI p j m)).1]) ∧ Hp w1 [g.row] w' := fun m fr en w1 hT1 hb h1 h2 hw => by
    have hcut := (hS.ext hb).cut h1 h2 hnc;rw [jF TR.len, kR TR.len, ← hw] at hcut;exact ih (j + 1) (bI p j m) _ (en - fr) (c - fr) ds k w1 hqs Tx hT1 (hL.ext hb) (fun g hg => (hat g hg).ext hb) hcut Tx (hsr.with Tx) (fun t ht => hok t (jJ t ht)) Tx (by simpa using hds) (hDs m) hB1
   have hsub : ∀ m, (fP v (qs.map PX.ts) (j + 1) (bI p j m)).1 = 0 → ky v (eZ c0 ds (k + 1)) (fP v (qs.map PX.ts) (j + 1) (bI p j m)).2 := fun m hm => by
    refine DE hv hc0 (qs.map PX.ts) (j + 1) (bI p j m) ds k (fun r hr => ?_) (fun t ht => hok t (jJ t ht)) (by rw [List.length_map]; simpa using hds) (hDs m) Tx hm;obtain ⟨g, hg, rfl⟩ := List.mem_map.1 hr;have := hls g (List.mem_of_mem_drop (by rw [hqs]; exact hg));exact ⟨this.1, this.2.2.2⟩
   generalize fP v (qs.map PX.ts) (j + 1) = sub at hrec hsub ⊢;have hlim := uB (sub := sub) (p := p) (j := j) hv hqk hqT hd.2 hd.1 hsub hc0 Tx;have hlim2 : ∀ i, i ≤ 128 → (bZ q.ts sub p j i).1 = 0 → ky v 440000 (bZ q.ts sub p j i).2 := fun i hi h0 => (hlim i hi h0).mono (by
    have : (i + d - 128) * c0 ≤ d * c0 := Nat.mul_le_mul_right _ Tx;omega)
   have hcn := fun w1 hT1 => iu v (nR 0) 0 w1 hT1 ⟨(Sz.zero 0).ok Ty, by rw [cf]; exact Sz.zero 0⟩ Ty;rw [hco, y9] at hcn;refine aj (N := 118) (l := [.slice A n c, .int .i64 j, .slice lA ls.length lc, .int .i64 v]) Tryz.func156 rfl rfl (by simp) ?_;refine sr ?_;refine bR hh ?_;intro b8 w8 hh;refine aI (aa (ah (sr (mI (mL (aJ ?_))))));refine cW (aa (cF (ar (ai (sr (mI ?_))))));refine gj [_,_,_] ?_;refine aE (hcn _ (hT.hp hh)) ak.out rfl Ty ?_;rintro e_ w39 ⟨g, og, rfl, h3⟩;refine ⟨_, rfl, ?_⟩;replace hh := hh.join h3;simp only [List.cons_append, List.nil_append] at hh;refine mT ?_;refine dq ?_;refine dq ?_;refine bR hh ?_;intro b10 w10 hh;refine bW hh 0 [_,_] ?_;intro ws hh;replace hh : Hp _ (.blk _ _ [_, _] _ :: _) _ := hh;refine aI (aa (sr (mL (aJ (aI (aa (ah (sr (aI (aa (aq ?_)))))))))));refine BK [11, 12, 13, 14, 15, 44, 45, 46, 47, 48, 49, 50, 51, 52, 53, 54, 55, 56, 57, 58, 59, 60, 61, 62, 63, 64, 65, 66, 67, 68, 69, 70, 71, 72, 73, 74, 75, 76, 77, 78, 79, 80, 81, 82, 83, 84, 85, 86, 87, 88, 89, 90, 91, 92, 93, 94, 95, 96, 97, 98, 99, 100, 101, 102, 103, 104, 105, 106, 107, 108, 109, 110, 111, 112] 11 12 13
    (fun e en nv w' => ∃ (i en_ : Nat) (e_ ov : Int) (oA : Option Addr) (on oc : Nat) (os : List TR), i ≤ 128 ∧ nv = .int .i64 (127 - (i : Int)) ∧ en = .int .i64 en_ ∧ e = .int .i64 e_ ∧ e_ = (bZ q.ts sub p j i).1 ∧ en_ ≤ n ∧ (e_ = 0 → ov = v ∧ os = (bZ q.ts sub p j i).2 ∧ (∀ t ∈ p.take en_, fw j t < 128 - i) ∧ (∀ t ∈ p.drop en_, 128 - i ≤ fw j t)) ∧ Hp w [.blk b10 24 [.int .i64 ov, .slice oA on oc] (0, 0), .row oA on oc 96 4 (az TR.cells os), .blk b8 24 [.int .i64 0, .slice none 0 0] (0, 0)] w')
    (fun _ _ nv _ => (intOf nv + 1).toNat) ?_ ?_
   ·refine ⟨0, n, 0, g.v, g.A, g.n, g.c, g.ts, Nat.zero_le _, rfl, rfl, rfl, rfl, Nat.le_refl _, fun _ => ⟨og.v, og.ts, fun t ht => ?_, fun t ht => ?_⟩, hh⟩
    ·obtain ⟨x, _, hx, h8⟩ := hsr.get Tx (List.mem_of_mem_take ht);rw [hx];exact h8
    ·rw [List.drop_of_length_le Tx] at ht
     cases ht
   ·clear hh og h3;rintro ρ' e_ en_ nv_ w' ⟨i, en, e, ov, oA, on, oc, os, hi, rfl, rfl, rfl, he, hen, hok0, hh⟩;by_cases hcn : i < 128 ∧ e = 0
    ·obtain ⟨hi8, rfl⟩ := hcn;obtain ⟨rfl, rfl, hlo, hhi⟩ := hok0 rfl;clear hok0;obtain ⟨m, hm⟩ : ∃ m, m = 127 - i := ⟨_, rfl⟩;rw [show (127 - (i : Int)) = (m : Int) by omega];refine ah (sr (mI ?_));refine dR (mB (gT (mI (gT ?_))));refine cW ?_;refine fu ?_;refine aa (cT (ar (ai (ah (aq (sr (mI (aI (aa (ah (aq ?_)))))))))));refine Ij zL2 14
      (fun f w' => ∃ fr : Nat, fr ≤ en ∧ f = .int .i64 fr ∧ bI p j m = (p.drop fr).take (en - fr) ∧ (∀ t ∈ p.take fr, fw j t < m) ∧ Hp w [.blk b10 24 [.int .i64 ov, .slice oA on oc] (0, 0), .row oA on oc 96 4 (az TR.cells (bZ q.ts sub p j i).2), .blk b8 24 [.int .i64 0, .slice none 0 0] (0, 0)] w') ?_ ?_
     ·refine aP zL2 14
       (fun f w' => ∃ fr : Nat, fr ≤ en ∧ f = .int .i64 fr ∧ (∀ t ∈ (p.drop fr).take (en - fr), fw j t = m) ∧ Hp w [.blk b10 24 [.int .i64 ov, .slice oA on oc] (0, 0), .row oA on oc 96 4 (az TR.cells (bZ q.ts sub p j i).2), .blk b8 24 [.int .i64 0, .slice none 0 0] (0, 0)] w')
       (fun f _ => (intOf f).toNat) ?_ ?_
      ·exact ⟨en, Nat.le_refl _, rfl, (fun t ht => by rw [Nat.sub_self] at ht; cases ht), hh⟩
      ·clear hh;rintro ρ' f w' ⟨fr, hfr, rfl, hmid, hh⟩;by_cases h0 : 0 < fr
       ·obtain ⟨fr, rfl⟩ : ∃ g, fr = g + 1 := ⟨fr - 1, Tx⟩;obtain ⟨x, hx⟩ := ao (l := p) (k := fr) Tx;obtain ⟨ad, rfl, hr⟩ := hS.at_ Tx;obtain ⟨e, hex, hxe, h8⟩ := hsr.get Tx (List.mem_of_getElem? hx);by_cases hem : e.toNat = m
        ·refine ah (sr (mI ?_));refine bM (mB (gT (mL (gT (mI (gT ?_))))));refine dT (gT ?_);refine cZ (k := fr) bg.out aN.size rfl rfl Tx Tx Ty ?_;refine gT ?_;refine oT ?_;refine aH rfl rfl ?_;refine It ?_;refine gT (mI (gT ?_));refine jG ?_;refine gT ?_;refine Bx ?_;refine gT (mI (gT ?_));refine cW ?_;refine fu ?_;refine aa (cT (ar (ai (aq (al (mI ?_))))));refine dT (aI (aA (bA (ai ?_))));refine ⟨⟨fr, Tx, by show Value.int .i64 (((fr + 1 : Nat) : Int) - 1) = _; congr 1; omega, fun t ht => ?_, hh⟩, by show (((fr + 1 : Nat) : Int) - 1).toNat < ((fr + 1 : Nat) : Int).toNat; omega, ?_⟩
         ·rw [gH hx, show en - fr = (en - (fr + 1)) + 1 by omega, List.take_succ_cons] at ht
          rcases List.mem_cons.1 ht with rfl | ht
          ·rw [hxe, hem]
          ·exact hmid t ht
         ·exact dL
        ·have hlt : e.toNat < m := by
          have := hlo x (by rw [show en = (fr + 1) + (en - (fr + 1)) by omega, List.take_add]; exact List.mem_append_left _ (by rw [ay hx]; exact List.mem_append_right _ List.mem_cons_self));omega
         have hall := Fx hmono hx (n := m) (by rw [hxe]; exact hlt);refine ah (sr (mI ?_));refine bM (mB (gT (mL (gT (mI (gT ?_))))));refine dT (gT ?_);refine cZ (k := fr) bg.out aN.size rfl rfl Tx Tx Ty ?_;refine gT ?_;refine oT ?_;refine aH rfl rfl ?_;refine It ?_;refine gT (mI (gT ?_));refine jG ?_;refine gT ?_;refine Bx ?_;refine gT (mI (gT ?_));refine cW ?_;refine fu ?_;refine aa (cF (aZ (aD (aD (bq (ai ?_))))));refine ⟨⟨fr + 1, hfr, rfl, zQ hfr hall hmid (fun t ht => by have := hhi t ht; omega), hall, hh⟩, ?_⟩;exact dL
       ·obtain rfl : fr = 0 := Tx;refine ah (sr (mI ?_));refine bM (mB ?_);refine gS (gS (gS (gS (gS ?_))));refine iJ ?_;refine gS (gS (gS (gS (gS ?_))));refine dK ?_;refine aa (cF (aZ (aD (aD (bq (ai ?_))))));refine ⟨⟨0, hfr, rfl, zQ hfr (fun t ht => by cases ht) hmid (fun t ht => by have := hhi t ht; omega), (fun t ht => by cases ht), hh⟩, ?_⟩;exact dL
     ·skip;clear hh;rintro ρ' f w' ⟨fr, hfr, rfl, hwi, hbl, hh⟩;have hnx : bZ q.ts sub p j (i + 1) = iG q.ts sub p j m (bZ q.ts sub p j i) := by rw [lM, hm]
      have hop := hlim2 i Tx he.symm;unfold iG at hnx;rw [if_neg (by rw [← he]; decide)] at hnx;have hmi : m = 128 - (i + 1) := Tx;have hmi2 : (127 - ((i + 1 : Nat) : Int)) = (m : Int) - 1 := Tx;have hdf : ∀ t ∈ p.drop fr, m ≤ fw j t := fun t ht => by
       rw [IJ hfr] at ht
       rcases List.mem_append.1 ht with ht | ht
       ·rw [← hwi] at ht;have := of_decide_eq_true (List.mem_filter.1 ht).2;omega
       ·have := hhi t ht;omega
      have hst : (bZ q.ts sub p j i) = (0, (bZ q.ts sub p j i).2) := by rw [he]
      generalize (bZ q.ts sub p j i).2 = os at *;have hoc : on ≤ oc := hh.eO (i := 1) rfl;have hon : os.length = on := (hh.aC (i := 1) rfl).bk TR.len Ty;have hwl : (bI p j m).length = en - fr := by rw [hwi, List.length_take, List.length_drop]; omega
      by_cases hsk : os.length = 0 ∧ (bI p j m).length = 0
      ·rw [if_pos hsk] at hnx;obtain ⟨h1, h2⟩ := hsk;obtain rfl : on = 0 := Tx;obtain rfl : fr = en := Tx;refine ah (sr (bD ?_));refine bB hh 0 ?_;refine aJ ?_;refine cW (mB (gT (mI (gT (mI (gT ?_))))));refine cW ?_;refine fu ?_;refine aa (cT (aZ (aD (bq (ai (al (mI ?_)))))));refine dT (aI (aA (ai ?_)));refine ⟨⟨i + 1, fr, 0, ov, oA, 0, oc, os, Tx, by rw [hmi2]; rfl, rfl, rfl, by rw [hnx]; exact he, hen, fun _ => ⟨rfl, by rw [hnx, hst], fun t ht => by rw [← hmi]; exact hbl t ht, fun t ht => by rw [← hmi]; exact hdf t ht⟩, hh⟩, by show ((m : Int) - 1 + 1).toNat < ((m : Int) + 1).toNat; omega, ?_⟩;exact dL
      ·rw [if_neg hsk] at hnx;refine GJ [70, 71, 72, 73, 74, 75, 76, 77, 78]
        (fun w' => Hp w [.blk b10 24 [.int .i64 ov, .slice oA on oc] (0, 0), .row oA on oc 96 4 (az TR.cells os), .blk b8 24 [.int .i64 0, .slice none 0 0] (0, 0)] w') ?_ ?_
       ·by_cases h0 : on = 0
        ·subst h0;have hne : fr ≠ en := fun h => hsk ⟨hon, Tx⟩;refine sr (bD ?_);refine bB hh 0 ?_;refine aJ ?_;refine cW (mB (gT (mI (gT (mI (gT ?_))))));refine cW ?_;refine fu ?_;refine aa (cF (ar (ai ?_)));refine ⟨hh, ?_⟩;exact K7
        ·refine sr (bD ?_);refine bB hh 0 ?_;refine aJ ?_;refine cW (mB ?_);refine gS (gS (gS ?_));refine dK ?_;refine aa (cF (ar (ai ?_)));refine ⟨hh, ?_⟩;exact K7
       ·skip;clear hh;rintro ρ' w' hh;obtain ⟨lad, rfl, hlr⟩ := hL.at_ Tx;have hlp : eS [⟨ov, oA, on, oc, os⟩, q] = 0 := mj hop.e (by unfold PX.e; rw [hqv]; exact hqk.e) hqv;have hmu : ∀ (A2 : Option Addr) (w1 : World), ee w1 → Sl w1 A2 2 2 (az PX.cells [⟨ov, oA, on, oc, os⟩, q]) → Sl w1 oA on 4 (az TR.cells os) → Below w.heap.size w w1 → Calls Tryz.prog 17 #[.slice A2 2 2] w1 fun r w' => ∃ g : PX, eK (fy os q.ts) ov (aF (cC os q.ts)) g ∧ r = .returned (.tuple #[.agg #[.int .i64 g.v, .slice g.A g.n g.c], .int .i64 (fy os q.ts)]) ∧ Hp w1 [g.row] w' := fun A2 w1 hT1 s1 s2 hb => by
         have h1 := y5 A2 2 2 [⟨ov, oA, on, oc, os⟩, q] 440000 505536 w1 hT1 s1 Ty Ty (fun g hg => by
          rcases List.mem_cons.1 hg with rfl | hg
          ·exact s2
          ·rw [List.mem_singleton.1 hg]; exact (hat q (List.mem_of_getElem? hqj)).ext hb) (fun g hg => by
          rcases List.mem_cons.1 hg with rfl | hg
          ·exact ⟨by have := hop.len; show on ≤ 1000000; omega, hoc, hop.ok, hop.sz⟩
          ·rw [List.mem_singleton.1 hg]; exact ⟨hql.n, hql.cap, hql.ok.mono hK, hql.sz⟩) Ty Ty
         unfold DW at h1;rw [if_pos hlp] at h1;exact h1
        refine sr ?_;refine bR hh ?_;intro b15 w15 hh;refine aa (ah (ah ?_));refine ef [] [9] [0, 0, 0, 6, 14, 31, 63, 127, 255, 255, 511, 2047] 10 [[(10, none)], [(2, none)], [(1, none)], [(81, some 1), (82, some 2)], [(83, some 3)], [(80, some 0), (84, some 4)], [(85, some 5)], [(86, some 6)], [(79, some 7)], [(79, some 7)]] [(9, 88), (8, 87), (7, 79), (6, 86), (5, 85), (4, 84), (3, 83), (2, 82), (1, 81), (0, 80)] hh mixed Tz e8 rfl (by repeat (first | exact cB | refine bO ?_ | refine cA ?_)) ?_;refine fT 1 [_,_] ?_;refine gk ?_;refine dE ?_;refine nT (j) ?_;refine pE [_,_] (fun _ hj => (hlr.ext hj.hp.below).recAt PX.len hqj) ?_;refine aR (i := 5) (iW 2 2 (az PX.cells [⟨ov, oA, on, oc, os⟩, q])) (iW.ext) ?_ ?_
        ·intro ρ1 w1 hj hR;exact iZ (sz := 2) bg.out aN.out (show wI ρ1 [(0, .tmp 80), (1, .tmp 84)] = [(0, .agg #[.int .i64 ov, .slice oA on oc]), (1, .agg #[.int .i64 q.v, .slice q.A q.n q.c])] from aK (show ρ1 80 = _ from hR.1) (aK (show ρ1 84 = _ from hR.2.1) bP)) rfl rfl Ty Ty rfl fun v w2 h hb => ⟨hb, h⟩
        refine aR (i := 6) (jY hh.sz (fy os q.ts) ov (aF (cC os q.ts))) (jY.ext) ?_ ?_
        ·intro ρ1 w1 hj hR;obtain ⟨g85, e85, o85⟩ := hR.1;exact let ⟨b, e1, s1⟩ := hR.1; a8 rfl (aM ak.out (aw e1 aX)) (hmu _ w1 (hT.hp hj.hp) s1 (hj.hp.aC (i := 2) rfl) hj.hp.below) (fun _ _ ⟨g, og, hq, h3⟩ => ⟨_, hq, h3.below, g, w1, rfl, og, hj.bl.size, h3⟩)
        refine aR (i := 7) (jY hh.sz (fy os q.ts) ov (aF (cC os q.ts))) (jY.ext) ?_ ?_
        ·exact Pr
        refine aR (i := 8) (pC hh.sz (fy os q.ts) ov (aF (cC os q.ts))) (pC.ext) ?_ ?_
        ·exact OD
        refine aR (i := 9) (Is (.int .i64 (fy os q.ts))) (Is.ext) ?_ ?_
        ·exact OO
        refine aT ?_;intro f W hJ hV _;have hb_15 := hJ.bl;obtain ⟨v88, v87, v79, v86, v85, v84, v83, v82, v81, v80, _⟩ := hV;obtain ⟨g85, e85, o85⟩ : iW 2 2 (az PX.cells [⟨ov, oA, on, oc, os⟩, q]) (f 5) W := v85;obtain ⟨g86, u86, e86, -⟩ := v86;obtain ⟨g79, u79, e79, -⟩ := v79;obtain ⟨g87, u87, e87, o87, q87, h87⟩ := v87;replace hh := JJ.KR hJ hh q87 h87;refine a6 (bm (ae v88 (ae e87 (ae e79 (ae e86 (ae e85 (ae v84 (ae v83 (ae v82 (ae v81 (ae v80 a0))))))))))) ?_;dsimp only [cg];clear e85 e86 e79 e87 hJ;simp only [List.cons_append, List.nil_append] at hh;obtain ⟨gv, gA, gn, gc, gts⟩ := g87;replace hh := show Hp w (.row gA gn gc 96 4 (az TR.cells gts) :: _) W from hh;by_cases hte : fy os q.ts = 0
        ·rw [if_neg (by rw [hte]; decide)] at hnx;rw [hte] at o87;obtain rfl : ov = gv := o87.v.symm;obtain rfl : aF (cC os q.ts) = gts := o87.ts.symm;have hgc : gn ≤ gc := hh.eO (i := 0) rfl;have hgl : (aF (cC os q.ts)).length = gn := (hh.aC (i := 0) rfl).bk TR.len Ty;have hgo := DA hop hqk hqT hte Tx;refine bW hh 2 [_,_] ?_;intro ws hh;replace hh : Hp _ (_ :: _ :: .blk _ _ [_, _] _ :: _) _ := hh;refine aI (aa (sr (mI ?_)));refine cW (aa (cT (al (mL (mI (mI ?_))))));dsimp only at hh;refine aQ rfl rfl Ty (iU (lo := some (.tmp 93)) (hi := some (.tmp 94)) (l := fr) (h := en) bg.out aN.size rfl ⟨_, _, rfl, rfl⟩ ⟨_, _, rfl, rfl⟩ hfr Tx) ?_;refine mI ?_;refine bh (mL (mI ?_));refine aE (hrec m fr en _ (hT.hp hh) hh.below hfr hen hwi) ak.out rfl Ty ?_;rintro e_ w100 ⟨g2, og2, rfl, h4⟩;refine ⟨_, rfl, ?_⟩;replace hh := hh.join h4;simp only [List.cons_append, List.nil_append] at hh;have hs2 := hsub m;obtain ⟨hv2, hA2, hn2, hc2, ht2⟩ := g2;replace hh := show Hp w (.row hA2 hn2 hc2 96 4 (az TR.cells ht2) :: _) _ from hh;by_cases hE2 : (sub (bI p j m)).1 = 0
         ·rw [if_neg (by rw [hE2]; decide)] at hnx;rw [hE2] at og2;obtain rfl : ov = hv2 := og2.v.symm;obtain rfl : (sub (bI p j m)).2 = ht2 := og2.ts.symm;have ho2 := hs2 hE2;have hc2c : hn2 ≤ hc2 := hh.eO (i := 0) rfl;have hl2 : ((sub (bI p j m)).2).length = hn2 := (hh.aC (i := 0) rfl).bk TR.len Ty;generalize (sub (bI p j m)).2 = us at *;refine mT ?_;refine dq ?_;refine dq ?_;refine bW hh 2 [_,_] ?_;intro ws hh;replace hh : Hp _ (_ :: _ :: .blk _ _ [_, _] _ :: _) _ := hh;refine aI (aa (ah (sr (mI ?_))));refine cW (aa (cT (al ?_)));refine cD hh 3 [_,_] ?_;refine cD hh 2 [_,_] ?_;refine AV ?_;intro b108 w108 hh;dsimp only at hh;have hlp2 : eS [⟨ov, gA, gn, gc, aF (cC os q.ts)⟩, ⟨ov, hA2, hn2, hc2, us⟩] = 0 := mj hgo.e ho2.e rfl;have had := lH (some ⟨b108, 0, none⟩) 2 2 [⟨ov, gA, gn, gc, aF (cC os q.ts)⟩, ⟨ov, hA2, hn2, hc2, us⟩] 2000000 _ (hT.hp hh) (hh.aC (i := 0) rfl) Ty (fun g hg => by
           rcases List.mem_cons.1 hg with rfl | hg
           ·exact hh.aC (i := 2) rfl
           ·rw [List.mem_singleton.1 hg]; exact hh.aC (i := 1) rfl) (fun g hg => by
           rcases List.mem_cons.1 hg with rfl | hg
           ·exact ⟨by have := hgo.len; show gn ≤ 1000000; omega, hgc, hgo.ok.mono Tx, hgo.sz⟩
           ·rw [List.mem_singleton.1 hg]; exact ⟨by have := ho2.len; show hn2 ≤ 1000000; omega, hc2c, ho2.ok.mono Tx, ho2.sz⟩) Ty
          unfold yA at had;rw [if_pos hlp2, BG] at had;dsimp only at had;refine aE (had) ak.out rfl Ty ?_;rintro e_ w109 ⟨g3, og3, rfl, h5⟩;refine ⟨_, rfl, ?_⟩;replace hh := hh.join h5;simp only [List.cons_append, List.nil_append] at hh;obtain ⟨hv3, hA3, hn3, hc3, ht3⟩ := g3;replace hh := show Hp w (.row hA3 hn3 hc3 96 4 (az TR.cells ht3) :: _) _ from hh;refine mT ?_;refine dq ?_;refine dq ?_;refine bW hh 5 [_,_] ?_;intro ws hh;replace hh : Hp _ (_ :: _ :: _ :: _ :: _ :: .blk _ _ [_, _] _ :: _) _ := hh;refine aI (aa (al (mI (aI (aA (bA (ai (al (mI ?_)))))))));refine dT (aI (aA (ai ?_)));replace hh := hh.sub (List.Sublist.cons_cons _ (List.Sublist.cons _ (List.Sublist.cons _ (List.Sublist.cons _ (List.Sublist.cons _ (List.Sublist.cons_cons _ (List.Sublist.cons _ (List.Sublist.cons_cons _ List.Sublist.slnil))))))));replace hh := hh.perm (List.perm_middle (l₁ := [_]));simp only [List.cons_append, List.nil_append] at hh;try dsimp only at hh
          refine ⟨⟨i + 1, fr, gR (aF (cC os q.ts) ++ us), hv3, hA3, hn3, hc3, ht3, Tx, by rw [hmi2]; rfl, rfl, rfl, ?_, Tx, fun h => ⟨?_, ?_, fun t ht => by rw [← hmi]; exact hbl t ht, fun t ht => by rw [← hmi]; exact hdf t ht⟩, hh⟩, by show ((m : Int) - 1 + 1).toNat < ((m : Int) + 1).toNat; omega, ?_⟩
          ·rw [hnx];by_cases hg : gR (aF (cC os q.ts) ++ us) ≠ 0
           ·rw [if_pos hg]
           ·rw [if_neg hg]; omega
          ·have := og3.v;rw [if_pos h] at this;exact this
          ·rw [hnx, if_neg (by rw [h]; decide)];have := og3.ts;rw [if_pos h] at this;exact this
          ·exact dL
         ·rw [if_pos hE2] at hnx;refine mT ?_;refine dq ?_;refine dq ?_;refine bW hh 2 [_,_] ?_;intro ws hh;replace hh : Hp _ (_ :: _ :: .blk _ _ [_, _] _ :: _) _ := hh;refine aI (aa (ah (sr (mI ?_))));refine cW (aa (cF (ar (ai (al (mI (aI (aA (bA (ai (al (mI ?_))))))))))));refine dT (aI (aA (ai ?_)));replace hh := hh.sub (List.Sublist.cons _ (List.Sublist.cons_cons _ (List.Sublist.cons _ (List.Sublist.cons_cons _ (List.Sublist.cons _ (List.Sublist.cons_cons _ List.Sublist.slnil))))));replace hh := hh.perm (List.perm_middle (l₁ := [_]));simp only [List.cons_append, List.nil_append] at hh;refine ⟨⟨i + 1, fr, _, ov, gA, gn, gc, aF (cC os q.ts), Tx, by rw [hmi2]; rfl, rfl, rfl, by rw [hnx], Tx, fun h => absurd h hE2, hh⟩, by show ((m : Int) - 1 + 1).toNat < ((m : Int) + 1).toNat; omega, ?_⟩;exact dL
        ·rw [if_pos hte] at hnx;refine bW hh 2 [_,_] ?_;intro ws hh;replace hh : Hp _ (_ :: _ :: .blk _ _ [_, _] _ :: _) _ := hh;refine aI (aa (sr (mI ?_)));refine cW (aa (cF (ar (ai (ah (sr (mI ?_)))))));refine cW (aa (cF (ar (ai (al (mI (aI (aA (bA (ai (al (mI ?_))))))))))));refine dT (aI (aA (ai ?_)));replace hh := hh.sub (List.Sublist.cons_cons _ (List.Sublist.cons _ (List.Sublist.cons_cons _ (List.Sublist.cons _ (List.Sublist.cons_cons _ List.Sublist.slnil)))));replace hh := hh.perm (List.perm_middle (l₁ := [_]));simp only [List.cons_append, List.nil_append] at hh;refine ⟨⟨i + 1, fr, fy os q.ts, gv, gA, gn, gc, gts, Tx, by rw [hmi2]; rfl, rfl, rfl, by rw [hnx], Tx, fun h => absurd h hte, hh⟩, by show ((m : Int) - 1 + 1).toNat < ((m : Int) + 1).toNat; omega, ?_⟩;exact dL
    ·have hfin : bZ q.ts sub p j 128 = bZ q.ts sub p j i := by
      by_cases h8 : i = 128
      ·rw [h8]
      ·exact m7 Tx hi
     rw [hfin];by_cases he0 : e = 0
     ·subst he0;obtain ⟨rfl, rfl, -, -⟩ := hok0 rfl;clear hok0 hfin;generalize bZ q.ts sub p j i = X at *;obtain rfl : i = 128 := Tx;rw [← he];refine ah (sr (mI ?_));refine dR (mB ?_);refine gS (gS ?_);refine dK ?_;refine aa (cF (aZ (aD (aD (bq (ai (ah (sr (mI ?_)))))))));refine wY ?_;refine cD hh 0 [_,_] ?_;refine bW hh 2 [_,_] ?_;intro ws hh;replace hh : Hp _ (_ :: _ :: .blk _ _ [_, _] _ :: _) _ := hh;refine aI (aa (av ?_));refine rp ?_;exact ⟨⟨ov, oA, on, oc, _⟩, ⟨rfl, rfl⟩, rfl, hh.sub (.cons _ (List.Sublist.cons_cons _ (List.nil_sublist _)))⟩
     ·rw [← he];clear hok0 hfin;generalize bZ q.ts sub p j i = X at *;by_cases h8 : i = 128
      ·subst h8;refine ah (sr (mI ?_));refine dR (mB ?_);refine gS (gS ?_);refine dK ?_;exact Rj
      ·refine ah (sr (mI ?_));refine dR (mB (gT (mI (gT ?_))));refine cW ?_;refine fu ?_;exact Rj
end Go.Proofs.YteeckcbbnegmcaaGreatDoor
