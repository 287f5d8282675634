/- The row and the card of CalcSubsts. -/
import Derived.Test.YtaapkaefelhfcaaGreatDoorCards
import Derived.Test.YtaapkaefelhfcaaGreatDoorTie
import Derived.SevenTiedAt
import Derived.Test.YtaapkaefelhfcaaGreatDoorZ6
/- A region whose order is left open, each operation with memory of its own: what an operation needs and what it leaves. Plain, no program in sight. -/
namespace Go.Proofs.YtaapkaefelhfcaaGreatDoor
open Go.RowKit
section
variable {P : Program} {N : Nat} {Q : Kq} {ρ : Rf} {w : World}
theorem yC {ops : Array Oper} {fuel : Nat} {L : Array Bool} (hne : Region.ready .any ops L ≠ [])
  (h : ∀ i ∈ Region.ready .any ops L, ∃ o d, ops[i]? = some o ∧ o.dst = some d ∧ d < N ∧ OG P ops o ρ w fun v w' => WA P N ops Q fuel (L.setIfInBounds i true) (cL ρ d v) w') : WA P N ops Q (fuel + 1) L ρ w := by
 refine ⟨fun a hf => wpAny_all rfl hne fun i hi => ?_⟩
 obtain ⟨o, d, ho, hd, hN, hg⟩ := h i hi
 unfold wpOp
 rw [ho]
 simp only []
 exact hg.out a (fun a w => wpAny P .any ops (lift N Q) fuel (L.setIfInBounds i true) a w) (lift N Q) hf.at_ fun v w' hk => by
  rw [hd]
  exact hk.out _ (hf.put hN v)
def waits (o : Oper) (j : Nat) : Bool := o.after.toList.any fun e => (e.on == j) && Region.binds .any e
abbrev Lv := Nat → Value → List HE → Prop
def Spec (P : Program) (l : List Oper) (w0 : World) (ρ : Rf) (dst : Nat → Nat) (m : Nat) (S : Lv) (pre : Nat → List HE) (rest : List HE) (i : Nat) : Prop :=
 ∃ o, l[i]? = some o ∧ ∀ (ρ1 : Rf) (w1 : World) (F : List HE) (R : Nat → List HE), (∀ s, (∀ j, j < m → dst j ≠ s) → ρ1 s = ρ s) → (∀ j, waits o j = true → S j (ρ1 (dst j)) (R j) ∧ ∀ x ∈ R j, x ∈ F) → (∀ x ∈ rest, x ∈ F) → Hp w0 (pre i ++ F) w1 →
  OG P l.toArray o ρ1 w1 fun v w2 => ∃ R', S i v R' ∧ Hp w0 (R' ++ F) w2
def AE : Nat → (Nat → Prop) → Prop
 | 0, _ => True
 | k + 1, p => AE k p ∧ p k
theorem yM : ∀ {k : Nat} {p : Nat → Prop}, (∀ i, i < k → p i) → AE k p
 | 0, _, _ => trivial
 | k + 1, _, h => ⟨yM fun i hi => h i (by omega), h k (by omega)⟩
theorem kX (n j : Nat) : (Array.replicate n false).getD j false = false := by
 rw [Array.getD_eq_getD_getElem?, Array.getElem?_replicate]
 split <;> rfl
theorem AE.get : ∀ {k : Nat} {p : Nat → Prop}, AE k p → ∀ i, i < k → p i
 | k + 1, p, h, i, hi => by
  by_cases e : i = k
  ·rw [e]; exact h.2
  ·exact AE.get h.1 i (by omega)
def AG (l : List Oper) (m N : Nat) (dst : Nat → Nat) : Bool :=
 decide (m ≤ l.length) && ((List.range m).all fun i => match l[i]? with | some o => (o.dst == some (dst i)) && decide (dst i < N) && (o.after.toList.all fun e => !Region.binds .any e || decide (e.on < i)) | none => false) &&
 decide ((List.range m).map dst).Nodup &&
 ((List.range (l.length - m)).all fun k => match l[m + k]? with | some o => (List.range m).all fun j => waits o j | none => false) &&
 ((List.range (l.length - m)).all fun k => Region.ready .any l.toArray (fS l.length (m + k)) == [m + k]) && (Region.ready .any l.toArray (fS l.length l.length) == [])
theorem qH {l : List Oper} {L : Array Bool} {i : Nat} : i ∈ Region.ready .any l.toArray L ↔ i < l.length ∧ L.getD i true = false ∧ ∃ o, l[i]? = some o ∧ ∀ e ∈ o.after, Region.binds .any e = true → L.getD e.on false = true := by
 unfold Region.ready
 rw [List.mem_filter, List.mem_range, show l.toArray.size = l.length by simp]
 constructor
 ·rintro ⟨h1, h2⟩
  have ho : l.toArray[i]? = some l[i] := by simp [h1]
  rw [ho] at h2
  simp only [Option.map_some, Option.getD_some, Bool.and_eq_true, Bool.not_eq_true'] at h2
  refine ⟨h1, h2.1, l[i], by simp, fun e he hb => ?_⟩
  have := Array.all_eq_true'.1 h2.2 e he
  simpa [hb] using this
 ·rintro ⟨h1, h2, o, ho, h3⟩
  refine ⟨h1, ?_⟩
  rw [show l.toArray[i]? = some o by simpa using ho]
  simp only [Option.map_some, Option.getD_some, Bool.and_eq_true, Bool.not_eq_true']
  refine ⟨h2, Array.all_eq_true'.2 fun e he => ?_⟩
  cases hb : Region.binds .any e with
  | false => simp
  | true => simpa [hb] using h3 e he hb
theorem rr {L : Array Bool} {m : Nat} (h : ¬ ∀ i, i < m → L.getD i false = true) : ∃ i, i < m ∧ L.getD i false = false ∧ ∀ j, j < i → L.getD j false = true := by
 induction m with
 | zero => exact absurd (fun i hi => by omega) h
 | succ m ih =>
  by_cases h1 : ∀ i, i < m → L.getD i false = true
  ·refine ⟨m, by omega, ?_, h1⟩
   cases hc : L.getD m false with
   | false => rfl
   | true =>
    refine absurd (fun i hi => ?_) h
    by_cases e : i = m
    ·rw [e]; exact hc
    ·exact h1 i (by omega)
  ·obtain ⟨i, h2, h3⟩ := ih h1
   exact ⟨i, by omega, h3⟩
theorem oa {R : Nat → List HE} {i m : Nat} (h : i < m) (rest : List HE) : ((List.range m).flatMap R ++ rest).Perm (R i ++ (((List.range m).filter (· != i)).flatMap R ++ rest)) := by
 have h1 : ∀ m, i < m → ((List.range m).flatMap R).Perm (R i ++ ((List.range m).filter (· != i)).flatMap R) := fun m => by
  induction m with
  | zero => intro h; omega
  | succ m ih =>
   intro h
   rw [List.range_succ, List.flatMap_append, List.filter_append, List.flatMap_append]
   by_cases e : i = m
   ·subst e
    have h2 : (List.range i).filter (· != i) = List.range i := List.filter_eq_self.2 fun j hj => by have := List.mem_range.1 hj; simp; omega
    rw [h2, show [i].filter (· != i) = [] by simp]
    simp only [List.flatMap_cons, List.flatMap_nil, List.append_nil]
    exact List.perm_append_comm
   ·rw [show [m].filter (· != i) = [m] by simp; omega, ← List.append_assoc]
    exact (ih (by omega)).append_right _
 rw [← List.append_assoc]
 exact (h1 m h).append_right _
theorem tj {ρ ρ' : Rf} {f : Nat → Value} {ds : List (Nat × Nat)} (h1 : ∀ p ∈ ds, ρ' p.2 = f p.1) (h2 : ∀ s, (∀ p ∈ ds, p.2 ≠ s) → ρ' s = ρ s) (hn : (ds.map (·.2)).Nodup) : ρ' = iD ρ f ds := funext fun s => by
 obtain ⟨h3, h4⟩ := eY (ρ := ρ) f ds s hn
 by_cases h : ∃ p ∈ ds, p.2 = s
 ·obtain ⟨p, hp, rfl⟩ := h
  rw [h3 p.1 hp]
  exact h1 p hp
 ·rw [h4 fun i hi => h ⟨(i, s), hi, rfl⟩]
  exact h2 s fun p hp e => h ⟨p, hp, e⟩
theorem OG.imp {ops : Array Oper} {o : Oper} {K K' : Value → World → Prop} (h : OG P ops o ρ w K) (hk : ∀ v w', K v w' → K' v w') : OG P ops o ρ w K' := ⟨fun a next Q ha hn => h.out a next Q ha fun v w' hv => hn v w' (hk v w' hv)⟩
theorem iV {L : Array Bool} {i j : Nat} (h : i < L.size) : (L.setIfInBounds i true).getD j false = (decide (j = i) || L.getD j false) := by
 rw [Array.getD_eq_getD_getElem?, Array.getD_eq_getD_getElem?, Array.getElem?_setIfInBounds]
 by_cases e : i = j
 ·subst e
  simp [h]
 ·rw [if_neg e, decide_eq_false (fun e2 => e e2.symm), Bool.false_or]
theorem wK {L : Array Bool} {i : Nat} (h : i < L.size) (hu : L.getD i false = false) : ∀ m, i < m → (List.range m).countP (fun j => (L.setIfInBounds i true).getD j false) = (List.range m).countP (fun j => L.getD j false) + 1 := by
 have hlow : ∀ m, m ≤ i → (List.range m).countP (fun j => (L.setIfInBounds i true).getD j false) = (List.range m).countP (fun j => L.getD j false) := fun m hm => by
  refine List.countP_congr fun j hj => ?_
  have := List.mem_range.1 hj
  rw [iV h, decide_eq_false (by omega), Bool.false_or]
 intro m
 induction m with
 | zero => intro h; omega
 | succ m ih =>
  intro hm
  rw [List.range_succ, List.countP_append, List.countP_append]
  by_cases e : i = m
  ·subst e
   rw [hlow i (Nat.le_refl _), List.countP_singleton, List.countP_singleton, iV h, hu]
   simp
  ·rw [ih (by omega), List.countP_singleton, List.countP_singleton, iV h, decide_eq_false (by omega), Bool.false_or]
   omega
theorem oC {L : Array Bool} {m : Nat} (h : ∀ i, i < m → L.getD i false = true) : (List.range m).countP (fun j => L.getD j false) = m := by
 rw [List.countP_eq_length.2 fun j hj => h j (List.mem_range.1 hj), List.length_range]
theorem ng {α β : Type} {f g : α → List β} : ∀ {l : List α}, (∀ x ∈ l, f x = g x) → l.flatMap f = l.flatMap g
 | [], _ => rfl
 | x :: l, h => by rw [List.flatMap_cons, List.flatMap_cons, h x List.mem_cons_self, ng fun y hy => h y (List.mem_cons_of_mem _ hy)]
theorem ug {m : Nat} {p : Nat → Bool} (h : (List.range m).all p = true) {i : Nat} (hi : i < m) : p i = true := List.all_eq_true.1 h i (List.mem_range.2 hi)
theorem Bo {l : List Oper} {w0 : World} {m : Nat} {dst : Nat → Nat} {S : Lv} {pre : Nat → List HE} {rest : List HE} {ds : List (Nat × Nat)} (hds : ∀ p ∈ ds, p.1 < m ∧ p.2 = dst p.1) (hds2 : ∀ i, i < m → (i, dst i) ∈ ds) (hnd : (ds.map (·.2)).Nodup) (hinj : ∀ i j, i < m → j < m → dst i = dst j → i = j)
  (hml : m ≤ l.length) (hop : ∀ i, i < m → ∃ o, l[i]? = some o ∧ o.dst = some (dst i) ∧ dst i < N ∧ ∀ e ∈ o.after, Region.binds .any e = true → e.on < i)
  (htl : ∀ k, m ≤ k → k < l.length → ∃ o, l[k]? = some o ∧ ∀ j, j < m → waits o j = true)
  (hrd : ((List.range (l.length - m)).all fun k => Region.ready .any l.toArray (fS l.length (m + k)) == [m + k]) = true) (hend : Region.ready .any l.toArray (fS l.length l.length) = [])
  (hs : AE m (Spec P l w0 ρ dst m S pre rest))
  (hfin : ∀ (f : Nat → Value) (R : Nat → List HE) (w' : World), (∀ i, i < m → S i (f i) (R i)) → Hp w0 ((List.range m).flatMap R ++ rest) w' → WL .plain P N l.toArray Q (l.drop m) (iD ρ f ds) w') :
  ∀ (fuel : Nat) (L : Array Bool) (ρ1 : Rf) (w1 : World) (R : Nat → List HE), L.size = l.length → (∀ j, m ≤ j → L.getD j false = false) → fuel + (List.range m).countP (fun j => L.getD j false) = l.length →
   (∀ s, (∀ j, j < m → L.getD j false = true → dst j ≠ s) → ρ1 s = ρ s) → (∀ j, j < m → L.getD j false = true → S j (ρ1 (dst j)) (R j)) → (∀ j, j < m → L.getD j false = false → R j = pre j) → Hp w0 ((List.range m).flatMap R ++ rest) w1 → WA P N l.toArray Q fuel L ρ1 w1 := by
 intro fuel
 induction fuel with
 | zero =>
  intro L ρ1 w1 R hsz htail hcnt hag hS hpre hh
  have hall : ∀ i, i < m → L.getD i false = true := by
   have h1 : (List.range m).countP (fun j => L.getD j false) ≤ m := by have := List.countP_le_length (p := fun j => L.getD j false) (l := List.range m); rwa [List.length_range] at this
   have h2 : (List.range m).countP (fun j => L.getD j false) = (List.range m).length := by rw [List.length_range]; omega
   intro i hi
   exact List.countP_eq_length.1 h2 i (List.mem_range.2 hi)
  have hL := kH hsz hml hall htail
  have hρ : ρ1 = iD ρ (fun i => ρ1 (dst i)) ds := tj (f := fun i => ρ1 (dst i)) (fun p hp => by rw [(hds p hp).2]) (fun s hs2 => hag s fun j hj _ => hs2 _ (hds2 j hj)) hnd
  refine dO m hml hL (by have := oC hall; omega) hrd hend ?_
  have := hfin (fun i => ρ1 (dst i)) R w1 (fun i hi => hS i hi (hall i hi)) hh
  rwa [← hρ] at this
 | succ fuel ih =>
  intro L ρ1 w1 R hsz htail hcnt hag hS hpre hh
  by_cases hall : ∀ i, i < m → L.getD i false = true
  ·have hL := kH hsz hml hall htail
   have hρ : ρ1 = iD ρ (fun i => ρ1 (dst i)) ds := tj (f := fun i => ρ1 (dst i)) (fun p hp => by rw [(hds p hp).2]) (fun s hs2 => hag s fun j hj _ => hs2 _ (hds2 j hj)) hnd
   refine dO m hml hL (by have := oC hall; omega) hrd hend ?_
   have := hfin (fun i => ρ1 (dst i)) R w1 (fun i hi => hS i hi (hall i hi)) hh
   rwa [← hρ] at this
  ·have und : ∀ i, i < l.length → (L.getD i true = false ↔ L.getD i false = false) := fun i hi => by
    have h1 : i < L.size := by rw [hsz]; exact hi
    rw [Array.getD_eq_getD_getElem?, Array.getD_eq_getD_getElem?, Array.getElem?_eq_getElem h1]
    simp
   refine yC (fun hnil => ?_) fun i hi => ?_
   ·obtain ⟨i, h1, h2, h3⟩ := rr hall
    obtain ⟨o, ho, _, _, he⟩ := hop i h1
    have : i ∈ Region.ready .any l.toArray L := qH.2 ⟨by omega, (und i (by omega)).2 h2, o, ho, fun e he1 he2 => h3 _ (he e he1 he2)⟩
    rw [hnil] at this
    cases this
   ·obtain ⟨hil, hun, o, ho, hed⟩ := qH.1 hi
    rw [und i hil] at hun
    have hwait : ∀ j, waits o j = true → L.getD j false = true := fun j hj => by
     obtain ⟨e, he1, he2⟩ := List.any_eq_true.1 hj
     rw [Bool.and_eq_true, beq_iff_eq] at he2
     rw [← he2.1]
     exact hed e (by simpa using he1) he2.2
    have him : i < m := by
     rcases Nat.lt_or_ge i m with h | h
     ·exact h
     ·obtain ⟨o2, ho2, h2⟩ := htl i h hil
      rw [ho] at ho2
      cases ho2
      exact absurd (fun j hj => hwait j (h2 j hj)) hall
    obtain ⟨o2, ho2, hd, hN, hlt⟩ := hop i him
    rw [ho] at ho2
    cases ho2
    obtain ⟨o3, ho3, hsp⟩ := hs.get i him
    rw [ho] at ho3
    cases ho3
    refine ⟨o, dst i, by simpa using ho, hd, hN, ?_⟩
    have hiL : i < L.size := by rw [hsz]; exact hil
    refine (hsp ρ1 w1 (((List.range m).filter (· != i)).flatMap R ++ rest) R (fun s hs2 => hag s fun j hj _ => hs2 j hj) (fun j hj => ?_) (fun x hx => List.mem_append_right _ hx) ?_).imp fun v w' ⟨R', h1, h2⟩ => ?_
    ·have hjd := hwait j hj
     have hjm : j < m := by
      obtain ⟨e, he1, he2⟩ := List.any_eq_true.1 hj
      rw [Bool.and_eq_true, beq_iff_eq] at he2
      have := hlt e (by simpa using he1) he2.2
      omega
     refine ⟨hS j hjm hjd, fun x hx => List.mem_append_left _ (List.mem_flatMap.2 ⟨j, List.mem_filter.2 ⟨List.mem_range.2 hjm, ?_⟩, hx⟩)⟩
     have : j ≠ i := fun e => by rw [e, hun] at hjd; cases hjd
     simpa using this
    ·rw [← hpre i him hun]
     exact hh.perm (oa him rest)
    ·refine ih _ _ _ (fun j => if j = i then R' else R j) (by rw [Array.size_setIfInBounds]; exact hsz) (fun j hj => ?_) (by rw [wK hiL hun m him]; omega) (fun s hs2 => ?_) (fun j hj hjd => ?_) (fun j hj hjd => ?_) ?_
     ·rw [iV hiL, decide_eq_false (by omega), Bool.false_or]
      exact htail j hj
     ·have hne : dst i ≠ s := hs2 i him (by rw [iV hiL]; simp)
      rw [gK _ (fun e => hne e.symm)]
      exact hag s fun j hj hjd => hs2 j hj (by rw [iV hiL, hjd]; simp)
     ·by_cases e : j = i
      ·subst e
       rw [if_pos rfl, lI]
       exact h1
      ·rw [iV hiL, decide_eq_false e, Bool.false_or] at hjd
       rw [if_neg e, gK _ (fun e2 => e (hinj j i hj him e2))]
       exact hS j hj hjd
     ·rw [iV hiL] at hjd
      have e : j ≠ i := fun e => by rw [e] at hjd; simp at hjd
      rw [decide_eq_false e, Bool.false_or] at hjd
      rw [if_neg e]
      exact hpre j hj hjd
     ·refine Hp.perm h2 (List.Perm.trans ?_ (oa (R := fun j => if j = i then R' else R j) him rest).symm)
      rw [if_pos rfl]
      have : ((List.range m).filter (· != i)).flatMap (fun j => if j = i then R' else R j) = ((List.range m).filter (· != i)).flatMap R := by
       refine ng fun j hj => ?_
       have := (List.mem_filter.1 hj).2
       rw [if_neg (by simpa using this)]
      rw [this]
theorem yR {id : Nat} {l : List Oper} {w0 : World} {H : List HE} (m : Nat) (dst : Nat → Nat) (S : Lv) (pre : Nat → List HE) (rest : List HE) (ds : List (Nat × Nat)) (hh : Hp w0 H w) (hH : H.Perm ((List.range m).flatMap pre ++ rest)) (hm : P.follows .mixedOrders = true)
  (hok : AG l m N dst = true) (hds : ds = ((List.range m).map fun i => (i, dst i)).reverse) (hs : AE m (Spec P l w0 ρ dst m S pre rest))
  (hfin : ∀ (f : Nat → Value) (R : Nat → List HE) (w' : World), AE m (fun i => S i (f i) (R i)) → Hp w0 ((List.range m).flatMap R ++ rest) w' → WL .plain P N l.toArray Q (l.drop m) (iD ρ f ds) w') : WC .plain P N (.region id l.toArray true) Q ρ w := by
 refine jA hh hm fun w' hj => ?_
 simp only [AG, Bool.and_eq_true, decide_eq_true_eq] at hok
 obtain ⟨⟨⟨⟨⟨hml, h1⟩, h2⟩, h3⟩, h4⟩, h5⟩ := hok
 have hop : ∀ i, i < m → ∃ o, l[i]? = some o ∧ o.dst = some (dst i) ∧ dst i < N ∧ ∀ e ∈ o.after, Region.binds .any e = true → e.on < i := fun i hi => by
  have := ug h1 hi
  split at this
  ·rename_i o ho
   simp only [Bool.and_eq_true, beq_iff_eq, decide_eq_true_eq] at this
   refine ⟨o, ho, this.1.1, this.1.2, fun e he hb => ?_⟩
   have h6 := List.all_eq_true.1 this.2 e (by simpa using he)
   simpa [hb] using h6
  ·cases this
 have hmem : ∀ i, i < m → (i, dst i) ∈ ds := fun i hi => by rw [hds, List.mem_reverse]; exact List.mem_map.2 ⟨i, List.mem_range.2 hi, rfl⟩
 have hmap : ds.map (·.2) = ((List.range m).map dst).reverse := by rw [hds, List.map_reverse, List.map_map]; rfl
 refine Bo (w0 := w0) (pre := pre) (rest := rest) (S := S) (ds := ds) (fun p hp => ?_) hmem (by rw [hmap]; exact (List.reverse_perm _).nodup_iff.2 h2) (fun i j hi hj he => ?_) hml hop (fun k hk hkl => ?_) h4 (eq_of_beq h5) hs (fun f R w2 hS hh2 => hfin f R w2 (yM hS) hh2) l.length (Array.replicate l.length false) ρ w' pre (by simp) (fun j _ => ?_) ?_ (fun s _ => rfl) (fun j hj hjd => ?_) (fun j _ _ => rfl) (Hp.perm hj.hp hH)
 ·rw [hds, List.mem_reverse] at hp
  obtain ⟨i, hi, rfl⟩ := List.mem_map.1 hp
  exact ⟨List.mem_range.1 hi, rfl⟩
 ·have hi2 : ((List.range m).map dst)[i]? = some (dst i) := by rw [List.getElem?_map, List.getElem?_range hi]; rfl
  have hj2 : ((List.range m).map dst)[j]? = some (dst j) := by rw [List.getElem?_map, List.getElem?_range hj]; rfl
  exact (List.getElem?_inj (by rw [List.length_map, List.length_range]; exact hi) h2).1 (by rw [hi2, hj2, he])
 ·have := ug h3 (show k - m < l.length - m by omega)
  rw [show m + (k - m) = k by omega] at this
  split at this
  ·rename_i o ho
   exact ⟨o, ho, fun j hj => ug this hj⟩
  ·cases this
 ·exact kX _ _
 ·rw [List.countP_eq_zero.2 fun j _ => by rw [kX]; decide]
  rfl
 ·rw [kX] at hjd
  cases hjd
def jv (v : Value) : Value → List HE → Prop := fun x R => x = v ∧ R = []
theorem qg {ops : Array Oper} {w0 : World} {H : List HE} (hh : Hp w0 H w) {d : Option Nat} {ty : TypeId} {pos : String} {af : Array Edge} {t e : TypeId} {len sz by' : Nat} {ag : Bool} {parts : Array (Nat × Operand)} {ps : List (Nat × Value)} {zc cs : List Value} (ht : P.underlying t = some (.slice e)) (hte : db P e = some (sz, ag, by', zc))
  (hp : pE ρ parts.toList = ps) (hzl : zc.length = sz) (hf : iP (fun i => some (i * sz, sz)) (fe len zc) ps = some cs) (h0 : ¬ len * sz = 0) (hle : len ≤ 1000) (hsl : len * sz ≤ 16777216) (hl : cs.length = len * sz) {K : Value → World → Prop}
  (hk : ∀ b w2, Hp w0 (.row (some ⟨b, 0, none⟩) len len e sz cs :: H) w2 → K (.slice (some ⟨b, 0, none⟩) len len) w2) : OG P ops ⟨d, .buildSlice t len parts, ty, pos, af, none⟩ ρ w K := by
 obtain ⟨z, hz, hzc⟩ := da (w := w) hte
 refine bZ rfl (w' := w.alloc (.cells cs.toArray e)) (v := .slice (some ⟨w.heap.size, 0, none⟩) len len) ?_ (hk _ _ (hh.rQ e sz len cs hl (by unfold maxLen; omega)))
 have h16 : ¬ 2 ^ 24 < len * sz := by omega
 have hf' := mg _ _ _ hf
 rw [← iE, hzl] at hf'
 have hzs : zc.toArray.size = sz := by simpa using hzl
 have hp' := nI parts hp
 simp only [execOp, hp', Instr.buildSlice, Sem.run_bind, run_underlying ht, Result.andThen_ok, dQ hte, gt_iff_lt, if_neg h16, if_neg h0, hz, hzc, Sem.run_pure, hzs, hf']
 simp [newRow]
theorem wJ {ops : Array Oper} {w0 : World} {H : List HE} (hh : Hp w0 H w) {d : Option Nat} {ty : TypeId} {pos : String} {af : Array Edge} {t : TypeId} {n by' : Nat} {ag : Bool} {zc : List Value} (ht : db P t = some (n, ag, by', zc)) {K : Value → World → Prop}
  (hk : ∀ b w2, Hp w0 (.blk b t zc (0, 0) :: H) w2 → K (.pointer (some ⟨b, 0, none⟩)) w2) : OG P ops ⟨d, .alloc t, ty, pos, af, none⟩ ρ w K := by
 obtain ⟨z, hz, hzc⟩ := da (w := w) ht
 exact bZ rfl (w' := w.alloc (.cells zc.toArray t)) (v := .pointer (some ⟨w.heap.size, 0, none⟩)) (by simp [execOp, Instr.alloc, newVar, newRow, hz, hzc]) (hk _ _ (hh.rX t zc))
theorem Hp.uU {w0 w : World} {H : List HE} (h : Hp w0 H w) {b o n : Nat} {t : TypeId} {cs vs : List Value} {fz : Nat × Nat} (hm : HE.blk b t cs fz ∈ H) (hv : (cs.drop o).take n = vs) : Rd w ⟨b, o, none⟩ vs := let ⟨_, hi⟩ := List.mem_iff_getElem?.1 hm; h.au hi hv
theorem Hp.xQ {w0 w : World} {H : List HE} (h : Hp w0 H w) {b o : Nat} {t : TypeId} {cs : List Value} {fz : Nat × Nat} {v : Value} (hm : HE.blk b t cs fz ∈ H) (hv : cs[o]? = some v) : w.cell? ⟨b, o, none⟩ = some v := let ⟨_, hi⟩ := List.mem_iff_getElem?.1 hm; h.dY hi hv
theorem Hp.xZ {w0 w : World} {H : List HE} (h : Hp w0 H w) {A : Option Addr} {n c sz : Nat} {t : TypeId} {xs : List Value} (hm : HE.row A n c t sz xs ∈ H) : Sl w A n sz xs := let ⟨_, hi⟩ := List.mem_iff_getElem?.1 hm; h.aK hi
end
end Go.Proofs.YtaapkaefelhfcaaGreatDoor
/- The walk through calc.Face. -/
namespace Go.Proofs.YtaapkaefelhfcaaGreatDoor
open Go.RowKit
def sG (j : Nat) (y : Dyadic) (t : TR) : TR := ⟨str (t.m.data.toList.take j ++ t.m.data.toList.drop (j + 1)), nR (t.c.d * y ^ (match t.m.data.toList[j]? with | some e => e.toNat | none => 0))⟩
def lk (j : Nat) (y : Dyadic) (l : List TR) : List TR := l.map (sG j y)
theorem yQ {s : ByteArray} {j : Nat} (h : j ≤ s.size) : s.extract 0 j = str (s.data.toList.take j) := by
 apply mC
 rw [dm]
 show (s.extract 0 j).data.toList = _
 rw [ByteArray.data_extract]
 simp
theorem x4 {s : ByteArray} {j : Nat} : s.extract j s.size = str (s.data.toList.drop j) := by
 apply mC
 rw [dm, ByteArray.data_extract, Array.toList_extract, List.extract_eq_take_drop]
 refine List.take_of_length_le ?_
 rw [List.length_drop, cw]
 exact Nat.le_refl _
theorem yD {v : Int} {j : Nat} {y : Dyadic} {t : TR} (hj : (j : Int) < v) (ht : fk v t = true) : fk (v - 1) (sG j y t) = true := by
 unfold fk at ht ⊢
 rw [Bool.and_eq_true, decide_eq_true_eq] at ht
 rw [Bool.and_eq_true, decide_eq_true_eq]
 have h1 := ht.2
 rw [cw] at h1
 refine ⟨?_, ?_⟩
 ·show dN (str _).data.toList = true
  rw [dm, jo]
  intro c hc
  rcases List.mem_append.1 hc with hc | hc
  ·exact jo.1 ht.1 c (List.mem_of_mem_take hc)
  ·exact jo.1 ht.1 c (List.mem_of_mem_drop hc)
 ·show ((str _).size : Int) = v - 1
  rw [eh, List.length_append, List.length_take, List.length_drop]
  omega
theorem zL {v : Int} {ts : List TR} {j k : Nat} {y : Dyadic} (h : fA v ts = 0) (ho : gi k ts) (hz : ∀ t ∈ ts, t.m.size ≤ 100000) (h0 : (j : Int) < v) (hk0 : k ≤ 1000) (hy : Sz k y) (hk : k ≤ 1000) : j2 (v - 1) (lk j y ts) = 0 ∧ gi (k + 128000) (lk j y ts) ∧ ∀ t ∈ lk j y ts, t.m.size ≤ 100000 := by
 obtain ⟨h1, h2, h3, _⟩ := dZ h
 have hf := eE.1 h1
 have hl : (lk j y ts).length ≤ 4096 := by unfold lk; rw [List.length_map]; exact h2
 have hm : ∀ s ∈ lk j y ts, ∃ t ∈ ts, sG j y t = s := fun s hs => List.mem_map.1 hs
 refine ⟨?_, fun s hs => ?_, fun s hs => ?_⟩
 ·unfold j2
  rw [if_neg, if_neg (by omega)]
  ·unfold eW
   have := iz (lk j y ts)
   rw [if_neg (by omega)]
  ·rintro (h5 | h5)
   ·rw [eE.2 (by omega)] at h5; cases h5
   ·obtain ⟨s, hs, h6⟩ := List.any_eq_true.1 h5
    obtain ⟨t, ht, h7⟩ := hm s hs
    rw [← h7, yD h0 (h3 t ht)] at h6
    cases h6
 ·obtain ⟨t, ht, rfl⟩ := hm s hs
  have hmx := Bool.and_eq_true_iff.1 (h3 t ht)
  have hxz : (t.m.size : Int) = v := of_decide_eq_true hmx.2
  obtain ⟨e, he⟩ := aD (l := t.m.data.toList) (k := j) (by rw [← cw]; omega)
  have he8 := hO hmx.1 he
  have hs1 : Sz (k + 128000) (t.c.d * y ^ e.toNat) := ((ho t ht).2.mul ((hy.pow e.toNat).mono (show _ ≤ 128000 by have := Nat.mul_le_mul hk (show e.toNat ≤ 127 by omega); omega))).mono (by omega)
  have e1 : (sG j y t).c = nR (t.c.d * y ^ e.toNat) := by unfold sG; rw [he]
  rw [e1]
  exact ⟨hs1.ok (by omega), by rw [dX]; exact hs1⟩
 ·obtain ⟨t, ht, rfl⟩ := hm s hs
  have := hz t ht
  show (str _).size ≤ _
  rw [eh, List.length_append, List.length_take, List.length_drop, ← cw]
  omega
theorem tW (p : PX) (which : Int) (y : NR) (k : Nat) (w : World) (hT : hG w) (hp : p.at_ w) (lp : p.jO k) (hy : y.ok ∧ Sz k y.d) (hk : k ≤ 1000) :
  Calls Tryz.prog 24 #[.agg #[.int .i64 p.v, .slice p.A p.n p.c], .int .i64 which, .agg #[.bool y.neg, .string y.bJ, .int .i64 y.e]] w fun r w' => ∃ g : PX, cC (lr p which) (p.v - 1) (aT (lk which.toNat y.d p.ts)) g ∧ r = .returned (.tuple #[.agg #[.int .i64 g.v, .slice g.A g.n g.c], .int .i64 (lr p which)]) ∧ Hp w [g.row] w' := by
 have hh := Hp.start w
 have hck := fun w1 hT1 hb => qG p which k w1 hT1 (hp.ext hb) lp
 by_cases h0 : lr p which = 0
 ·obtain ⟨hpe, hi0, hiv⟩ := vB h0
  rw [h0] at hck ⊢
  obtain ⟨hf, h4, hmy, _⟩ := dZ hpe
  replace hf := eE.1 hf
  obtain ⟨pv, pA, pn, pc, ts⟩ := p
  replace hpl : ts.length = pn := hp.ln
  replace hp : Sl w pA pn 4 (aQ TR.cells ts) := hp
  have okp : gi k ts := lp.ok
  have szp : ∀ t ∈ ts, t.m.size ≤ 100000 := lp.sz
  replace hmy : ∀ t ∈ ts, fk pv t = true := hmy
  replace h4 : ts.length ≤ 4096 := h4
  replace hf : 0 ≤ pv ∧ pv ≤ 12 := hf
  replace hiv : which < pv := hiv
  obtain ⟨j, rfl⟩ : ∃ j : Nat, which = (j : Int) := ⟨which.toNat, by omega⟩
  rw [show ((j : Int)).toNat = j from rfl]
  show Calls _ _ _ _ fun r w' => ∃ g : PX, cC 0 (pv - 1) (aT (lk j y.d ts)) g ∧ r = .returned (.tuple #[.agg #[.int .i64 g.v, .slice g.A g.n g.c], .int .i64 0]) ∧ Hp w [g.row] w'
  refine ak (N := 62) (l := [.agg #[.int .i64 pv, .slice pA pn pc], .int .i64 j, .agg #[.bool y.neg, .string y.bJ, .int .i64 y.e]]) Tryz.func24 rfl rfl (by simp) ?_
  refine sr ?_
  refine cK hh [_,_] ?_
  intro b3 w3 hh
  refine cK hh [_,_,_] ?_
  intro b5 w5 hh
  refine cv hh ?_
  intro b6 w6 hh
  refine aI (ae (ah (sr ?_)))
  refine dh hh 2 [_,_] (mI ?_)
  refine bG hh (hck _ (hT.hp hh) hh.below) rfl ?_
  intro w16 hh
  refine aI (ae (sr (mI ?_)))
  refine cE (ae (cF (aj (ai (sr ?_)))))
  refine cv hh ?_
  intro b9 w9 hh
  refine ae (sr (aL (ae (ah (sr (bC ?_))))))
  refine bH hh 3 ?_
  refine aO (mI (ae (al ?_)))
  replace hh := (hh.di 29 3).di 55 4
  refine ct [10, 12, 13, 24, 25, 26, 27, 28, 29, 30, 31, 32, 33, 34, 35, 36, 37, 38, 39, 40, 41, 42, 43, 44, 45, 46, 47, 48, 49, 50, 51, 52, 53, 54] 10 24
   (fun a v w' => ∃ (i : Nat) (M : List TR) (A : Option Addr) (c : Nat) (PA : Option Addr) (pm c2 : Nat), i ≤ pn ∧ v = .int .i64 i ∧ M = lk j y.d (ts.take i) ∧ a = .slice A M.length c ∧ pm ≤ 1000 ∧ Hp w [.row A M.length c 55 4 (aQ TR.cells M), .blk b9 109 [.slice PA pm c2] (0, 0), .row PA pm c2 29 3 (aQ NR.cells (ml y.d pm)), .blk b6 24 [.int .i64 0, .slice none 0 0] (0, 0), .blk b5 29 [.bool y.neg, .string y.bJ, .int .i64 y.e] (0, 0), .blk b3 24 [.int .i64 pv, .slice pA pn pc] (0, 0)] w')
   (fun _ v _ => pn - (intOf v).toNat) ?_ ?_
  ·refine ⟨0, [], none, 0, none, 0, 0, Nat.zero_le _, rfl, rfl, rfl, Nat.zero_le _, hh.perm (.cons _ (.swap _ _ _))⟩
  ·clear hh
   rintro ρ' a_ v w' ⟨i, M, A, c, PA, pm, c2, hi, rfl, hM, rfl, hpm, hh⟩
   have hMl : M.length = i := by rw [hM]; unfold lk; rw [List.length_map, List.length_take]; omega
   by_cases hlt : i < pn
   ·obtain ⟨x, hx⟩ := aD (l := ts) (k := i) (by omega)
    obtain ⟨ad, rfl, hr⟩ := hp.at_ (by omega)
    have hxo := okp x (List.mem_of_getElem? hx)
    have hmx := Bool.and_eq_true_iff.1 (hmy x (List.mem_of_getElem? hx))
    have hxz : (x.m.size : Int) = pv := of_decide_eq_true hmx.2
    obtain ⟨e, he⟩ := aD (l := x.m.data.toList) (k := j) (by rw [← cw]; omega)
    have he8 := hO hmx.1 he
    have zp : Sz 128000 (y.d ^ e.toNat) := (hy.2.pow e.toNat).mono (by have := Nat.mul_le_mul hk (show e.toNat ≤ 127 by omega); omega)
    have hdm := fun A cc w1 hT1 hS1 => gF A 2 cc [x.c, nR (y.d ^ e.toNat)] w1 hT1 hS1 (by simpa using ⟨hxo.1, zp.ok (by decide)⟩) 130000 (by simpa [dX] using ⟨hxo.2.mono (by omega), zp.mono (by decide)⟩) (by decide) (by decide)
    rw [show g9 ([x.c, nR (y.d ^ e.toNat)].map NR.d) = x.c.d * y.d ^ e.toNat by show 1 * x.c.d * (nR _).d = _; rw [dX, Dyadic.one_mul]] at hdm
    refine sr ?_
    refine aU (ae (ah (cT (aj (ai (ah (al (sr ?_))))))))
    refine aR (k := i) aF.out aC.size rfl rfl (by omega) (by omega) (by decide) ?_
    refine bQ (vs := [_, _, _, _]) aC.out rfl ((hr.ext hh.below).recAt TR.len hx) rfl (by decide) ?_
    refine cv hh ?_
    intro b12 w12 hh
    refine bE hh 0 [_,_,_,_] ?_
    intro ws hh
    replace hh : Hp _ (.blk _ _ [_, _, _, _] _ :: _) _ := hh
    refine ae (ah ?_)
    have mb12 : (.blk b12 55 [.string x.m, .bool x.c.neg, .string x.c.bJ, .int .i64 x.c.e] (0, 0) : HE) ∈ [.blk b12 55 [.string x.m, .bool x.c.neg, .string x.c.bJ, .int .i64 x.c.e] (0, 0), .row A M.length c 55 4 (aQ TR.cells M), .blk b6 24 [.int .i64 0, .slice none 0 0] (0, 0), .blk b5 29 [.bool y.neg, .string y.bJ, .int .i64 y.e] (0, 0), .blk b3 24 [.int .i64 pv, .slice (some ad) pn pc] (0, 0)] := by simp
    have mb5 : (.blk b5 29 [.bool y.neg, .string y.bJ, .int .i64 y.e] (0, 0) : HE) ∈ [.blk b12 55 [.string x.m, .bool x.c.neg, .string x.c.bJ, .int .i64 x.c.e] (0, 0), .row A M.length c 55 4 (aQ TR.cells M), .blk b6 24 [.int .i64 0, .slice none 0 0] (0, 0), .blk b5 29 [.bool y.neg, .string y.bJ, .int .i64 y.e] (0, 0), .blk b3 24 [.int .i64 pv, .slice (some ad) pn pc] (0, 0)] := by simp
    refine yR 12 (fun i => [28, 29, 30, 31, 32, 33, 34, 35, 36, 37, 38, 13].getD i 0) (fun i => [jv (.pointer (some ⟨b12, 0 + 1, none⟩)), jv (.agg #[.bool x.c.neg, .string x.c.bJ, .int .i64 x.c.e]), jv (.agg #[.bool y.neg, .string y.bJ, .int .i64 y.e]), jv (.pointer (some ⟨b12, 0 + 0, none⟩)), jv (.string x.m), jv (.int .i64 j), jv (.int .u8 e.toNat), jv (.int .i64 e.toNat), fun v R => v = .agg #[.bool (nR (y.d ^ e.toNat)).neg, .string (nR (y.d ^ e.toNat)).bJ, .int .i64 (nR (y.d ^ e.toNat)).e] ∧ ∃ (A2 : Option Addr) (m2 c3 : Nat), m2 ≤ 1000 ∧ R = [.blk b9 109 [.slice A2 m2 c3] (0, 0), .row A2 m2 c3 29 3 (aQ NR.cells (ml y.d m2))], fun v R => ∃ b : Nat, v = .slice (some ⟨b, 0, none⟩) 2 2 ∧ R = [.row (some ⟨b, 0, none⟩) 2 2 29 3 (aQ NR.cells [x.c, nR (y.d ^ e.toNat)])], jv (.agg #[.bool (nR (x.c.d * y.d ^ e.toNat)).neg, .string (nR (x.c.d * y.d ^ e.toNat)).bJ, .int .i64 (nR (x.c.d * y.d ^ e.toNat)).e]), fun v R => ∃ b : Nat, v = .pointer (some ⟨b, 0, none⟩) ∧ R = [.blk b 29 [.bool false, .string (ByteArray.mk #[]), .int .i64 0] (0, 0)]].getD i (jv undef)) (fun i => [[], [], [], [], [], [], [], [], [.blk b9 109 [.slice PA pm c2] (0, 0), .row PA pm c2 29 3 (aQ NR.cells (ml y.d pm))], [], [], []].getD i []) [.blk b12 55 [.string x.m, .bool x.c.neg, .string x.c.bJ, .int .i64 x.c.e] (0, 0), .row A M.length c 55 4 (aQ TR.cells M), .blk b6 24 [.int .i64 0, .slice none 0 0] (0, 0), .blk b5 29 [.bool y.neg, .string y.bJ, .int .i64 y.e] (0, 0), .blk b3 24 [.int .i64 pv, .slice (some ad) pn pc] (0, 0)] _ hh ((List.perm_append_comm (l₁ := [_, _]) (l₂ := [_, _])).append_right _) mixed (by kernel_rfl) rfl ⟨⟨⟨⟨⟨⟨⟨⟨⟨⟨⟨⟨trivial, ?s0⟩, ?s1⟩, ?s2⟩, ?s3⟩, ?s4⟩, ?s5⟩, ?s6⟩, ?s7⟩, ?s8⟩, ?s9⟩, ?s10⟩, ?s11⟩ ?fin
    case s0 => exact ⟨_, rfl, fun ρ1 w1 F R ha hd hr (hh : Hp w F w1) => bZ rfl (iL (b := b12) (o := 0) (off := 1) dE.out (ha 12 (by decide))) ⟨[], ⟨rfl, rfl⟩, hh⟩⟩
    case s1 => exact ⟨_, rfl, fun ρ1 w1 F R ha hd hr (hh : Hp w F w1) => bZ rfl (k8 (vs := [_, _, _]) aC.out (show jv (.pointer (some ⟨b12, 0 + 1, none⟩)) (ρ1 28) (R 0) from (hd 0 rfl).1).1 (hh.uU (n := 3) (hr _ mb12) rfl) rfl) ⟨[], ⟨rfl, rfl⟩, hh⟩⟩
    case s2 => exact ⟨_, rfl, fun ρ1 w1 F R ha hd hr (hh : Hp w F w1) => bZ rfl (k8 (vs := [_, _, _]) aC.out (ha 5 (by decide)) (hh.uU (n := 3) (hr _ mb5) rfl) rfl) ⟨[], ⟨rfl, rfl⟩, hh⟩⟩
    case s3 => exact ⟨_, rfl, fun ρ1 w1 F R ha hd hr (hh : Hp w F w1) => bZ rfl (iL (b := b12) (o := 0) (off := 0) dE.out (ha 12 (by decide))) ⟨[], ⟨rfl, rfl⟩, hh⟩⟩
    case s4 => exact ⟨_, rfl, fun ρ1 w1 F R ha hd hr (hh : Hp w F w1) => bZ rfl (ic aC.out (show jv (.pointer (some ⟨b12, 0 + 0, none⟩)) (ρ1 31) (R 3) from (hd 3 rfl).1).1 (hh.xQ (o := 0) (hr _ mb12) rfl)) ⟨[], ⟨rfl, rfl⟩, hh⟩⟩
    case s5 => exact ⟨_, rfl, fun ρ1 w1 F R ha hd hr (hh : Hp w F w1) => bZ rfl (dg (ha 1 (by decide))) ⟨[], ⟨rfl, rfl⟩, hh⟩⟩
    case s6 => exact ⟨_, rfl, fun ρ1 w1 F R ha hd hr (hh : Hp w F w1) => bZ rfl (gU aF.out (show jv (.string x.m) (ρ1 32) (R 4) from (hd 4 rfl).1).1 (show jv (.int .i64 j) (ρ1 33) (R 5) from (hd 5 rfl).1).1 (by omega) he) ⟨[], ⟨rfl, rfl⟩, hh⟩⟩
    case s7 => exact ⟨_, rfl, fun ρ1 w1 F R ha hd hr (hh : Hp w F w1) => bZ rfl (iG aF.out aF.out (show jv (.int .u8 e.toNat) (ρ1 34) (R 6) from (hd 6 rfl).1).1 (by omega) (by omega)) ⟨[], ⟨rfl, rfl⟩, hh⟩⟩
    case s8 => exact ⟨_, rfl, fun ρ1 w1 F R ha hd hr hh => bW rfl (a3 av.out (aA (show ρ1 9 = Value.pointer (some ⟨b9, 0, none⟩) from ha 9 (by decide)) (aA (show jv (.agg #[.bool y.neg, .string y.bJ, .int .i64 y.e]) (ρ1 30) (R 2) from (hd 2 rfl).1).1 (aA (show jv (.int .i64 e.toNat) (ρ1 35) (R 7) from (hd 7 rfl).1).1 a9)))) (oL dY y e.toNat pm PA c2 k w1 hT hh (by omega) hpm hy hk) fun r w2 ⟨h1, A2, m2, c3, h2, h3⟩ => ⟨_, h1, [_, _], ⟨rfl, A2, m2, c3, h2, rfl⟩, h3⟩⟩
    case s9 => exact ⟨_, rfl, fun ρ1 w1 F R ha hd hr (hh : Hp w F w1) => qg (sz := 3) (cs := aQ NR.cells [x.c, nR (y.d ^ e.toNat)]) hh aF.out aC.out (show pE ρ1 [(0, .tmp 29), (1, .tmp 36)] = [(0, .agg #[.bool x.c.neg, .string x.c.bJ, .int .i64 x.c.e]), (1, .agg #[.bool (nR (y.d ^ e.toNat)).neg, .string (nR (y.d ^ e.toNat)).bJ, .int .i64 (nR (y.d ^ e.toNat)).e])] from bm (show ρ1 29 = _ from (show jv (.agg #[.bool x.c.neg, .string x.c.bJ, .int .i64 x.c.e]) (ρ1 29) (R 1) from (hd 1 rfl).1).1) (bm (show ρ1 36 = _ from (hd 8 rfl).1.1) cn)) rfl rfl (by decide) (by decide) (by decide) rfl fun b w2 h2 => ⟨[_], ⟨b, rfl, rfl⟩, h2⟩⟩
    case s10 => exact ⟨_, rfl, fun ρ1 w1 F R ha hd hr (hh : Hp w F w1) => let ⟨b, e9, r9⟩ := (show ∃ b : Nat, ρ1 37 = .slice (some ⟨b, 0, none⟩) 2 2 ∧ R 9 = [.row (some ⟨b, 0, none⟩) 2 2 29 3 (aQ NR.cells [x.c, nR (y.d ^ e.toNat)])] from (hd 9 rfl).1); bW rfl (a3 av.out (aA e9 a9)) (hdm _ _ w1 (hT.hp hh) (hh.xZ ((hd 9 rfl).2 _ (r9 ▸ List.mem_cons_self)))) fun r w2 hq => ⟨_, hq.1, [], ⟨rfl, rfl⟩, hh.ext hq.2⟩⟩
    case s11 => exact ⟨_, rfl, fun ρ1 w1 F R ha hd hr (hh : Hp w F w1) => wJ hh aC.out fun b w2 h2 => ⟨[_], ⟨b, rfl, rfl⟩, h2⟩⟩
    clear hh
    rintro f R W ⟨⟨⟨⟨⟨⟨⟨⟨⟨⟨⟨⟨-, s0⟩, s1⟩, s2⟩, s3⟩, s4⟩, s5⟩, s6⟩, s7⟩, s8⟩, s9⟩, s10⟩, s11⟩ hh
    obtain ⟨e0, r0⟩ := s0
    obtain ⟨e1, r1⟩ := s1
    obtain ⟨e2, r2⟩ := s2
    obtain ⟨e3, r3⟩ := s3
    obtain ⟨e4, r4⟩ := s4
    obtain ⟨e5, r5⟩ := s5
    obtain ⟨e6, r6⟩ := s6
    obtain ⟨e7, r7⟩ := s7
    obtain ⟨e8, A2, m2, c3, hm2, r8⟩ := s8
    obtain ⟨b37, e9, r9⟩ := s9
    obtain ⟨e10, r10⟩ := s10
    obtain ⟨b13, e11, r11⟩ := s11
    rw [show List.range 12 = [0, 1, 2, 3, 4, 5, 6, 7, 8, 9, 10, 11] from rfl] at hh
    simp only [List.flatMap_cons, List.flatMap_nil, r0, r1, r2, r3, r4, r5, r6, r7, r8, r9, r10, r11, List.nil_append, List.append_nil, List.cons_append] at hh
    refine aN (a4 (aa e11 (aa e10 (aa e9 (aa e8 (aa e7 (aa e6 (aa e5 (aa e4 (aa e3 (aa e2 (aa e1 (aa e0 aM))))))))))))) ?_
    dsimp only [ca]
    refine bE hh 3 [_,_,_] ?_
    intro ws hh
    replace hh : Hp _ (_ :: _ :: _ :: .blk _ _ [_, _, _] _ :: _) _ := hh
    refine ae ?_
    have hjl : j < x.m.data.toList.length := (List.getElem?_eq_some_iff.1 he).1
    have hjs : j + 1 ≤ x.m.size := by rw [cw]; omega
    have hsz100 := szp x (List.mem_of_getElem? hx)
    have hc1 : (str (x.m.data.toList.take j)).size + (str (x.m.data.toList.drop (j + 1))).size ≤ 9223372036854775807 := by rw [eh, eh, List.length_take, List.length_drop, ← cw]; omega
    refine aX 14 [[(10, none)], [(12, none)], [(40, some 1)], [(1, none)], [(41, some 2), (42, some 3)], [(12, none)], [(44, some 5)], [(1, none)], [(46, some 7)], [(45, some 6), (47, some 8)], [(43, some 4), (48, some 9)], [(13, none)], [(49, some 10), (50, some 11)], [(51, some 12)]] [(13, 52), (12, 51), (11, 50), (10, 49), (9, 48), (8, 47), (7, 46), (6, 45), (5, 44), (4, 43), (3, 42), (2, 41), (1, 40), (0, 39)] hh mixed (by kernel_rfl) ?_
    refine fN ?_
    refine cD ?_
    refine dF 4 ?_
    refine eb ?_
    refine bj (i := 4) (Is (.string (str (x.m.data.toList.take j)))) (Is.ext) ?_ ?_
    ·intro ρ1 w1 hj hR
     exact bZ rfl ((jX (ρ := ρ1) (x := .tmp 41) (lo := none) (hi := some (.tmp 42)) (l := 0) (h := j) aF.out (show ρ1 41 = Value.string x.m from hR.1) rfl ⟨.i64, j, hR.2.1, rfl⟩ (Nat.zero_le _) (by omega)).trans (by rw [yQ (by omega)])) ⟨Below.refl _ _, rfl⟩
    refine cD ?_
    refine dF 4 ?_
    refine eb ?_
    refine uB ?_
    refine bj (i := 9) (Is (.string (str (x.m.data.toList.drop (j + 1))))) (Is.ext) ?_ ?_
    ·intro ρ1 w1 hj hR
     exact bZ rfl ((jX (ρ := ρ1) (x := .tmp 45) (lo := some (.tmp 47)) (hi := none) (l := j + 1) (h := x.m.size) aF.out (show ρ1 45 = Value.string x.m from hR.1) ⟨.i64, (j : Int) + 1, hR.2.1, rfl⟩ rfl hjs (Nat.le_refl _)).trans (by rw [x4])) ⟨Below.refl _ _, rfl⟩
    refine bj (i := 10) (Is (.string (str (x.m.data.toList.take j ++ x.m.data.toList.drop (j + 1))))) (Is.ext) ?_ ?_
    ·intro ρ1 w1 hj hR
     exact bZ rfl ((AL (ρ := ρ1) (x := .tmp 43) (y := .tmp 48) (show ρ1 43 = Value.string _ from hR.1) (show ρ1 48 = Value.string _ from hR.2.1) hc1).trans (by rw [oz])) ⟨Below.refl _ _, rfl⟩
    refine ef 3 [_,_,_] ?_
    refine dB [_,_,_,_] ?_
    refine pD [_,_,_,_] ?_
    refine a0 ?_
    intro f W hJ hV
    have hb_10 := hJ.bl
    obtain ⟨v52, v51, v50, v49, v48, v47, v46, v45, v44, v43, v42, v41, v40, v39, _⟩ := hV
    obtain ⟨A52, c52, e52, f52⟩ : Rows _ _ _ (f 13) W := v52
    replace hh := hJ.hp
    refine aN (a4 (aa e52 (aa v51 (aa v50 (aa v49 (aa v48 (aa v47 (aa v46 (aa v45 (aa v44 (aa v43 (aa v42 (aa v41 (aa v40 (aa v39 aM))))))))))))))) ?_
    dsimp only [ca]
    clear e52 hJ
    refine bF hh (i := 5) rfl rfl rfl (f52) aF.out aC.out rfl (by decide) (by first | rfl | exact bU _ | exact bI _ | exact oneCells_i64s _ | exact bf NR.one _) (by omega) (by omega) (by decide) ?_
    intro A53 c53 w53 hh
    simp only [List.set_cons_zero, List.set_cons_succ] at hh
    refine aL (aE (aW (ai (aq ?_))))
    refine bL (mI (aE (ai ?_)))
    replace hh := hh.sub (List.Sublist.cons_cons _ (List.Sublist.cons_cons _ (List.Sublist.cons _ (List.Sublist.cons _ (List.Sublist.cons _ (List.Sublist.cons_cons _ (List.Sublist.cons_cons _ (List.Sublist.cons_cons _ (List.Sublist.cons_cons _ List.Sublist.slnil)))))))))
    replace hh := hh.perm (List.perm_middle (l₁ := [_, _]))
    simp only [List.cons_append, List.nil_append] at hh
    have hft : sG j y.d x = ⟨str (x.m.data.toList.take j ++ x.m.data.toList.drop (j + 1)), nR (x.c.d * y.d ^ e.toNat)⟩ := by unfold sG; rw [he]
    refine ⟨⟨i + 1, M ++ [sG j y.d x], A53, c53, A2, m2, c3, by omega, rfl, by rw [hM]; unfold lk; rw [aJ hx, List.map_append]; rfl, by rw [List.length_append]; rfl, hm2, by rw [List.length_append, bR, fB, hft]; exact hh⟩, by show pn - (i + 1) < pn - i; omega, ?_⟩
    (repeat (first | exact aw _ _ _ | refine ax rfl ?_ | refine ar rfl ?_))
   ·obtain rfl : i = pn := by omega
    rw [List.take_of_length_le (by omega)] at hM
    have hmk : j2 (pv - 1) M = 0 ∧ gi (k + 128000) M ∧ ∀ t ∈ M, t.m.size ≤ 100000 := by
     rw [hM]
     exact zL hpe okp szp (by omega) (by omega) hy.2 hk
    have hmc := fun A c w1 hT1 hS1 => j7 (pv - 1) A M.length c M (k + 128000) w1 hT1 hS1 (by omega) (by omega) hmk.2.1 hmk.2.2
    rw [hmk.1] at hmc
    refine sr ?_
    refine aU (ae (ah (cF ?_)))
    refine aP ?_
    refine ay (ay (a6 (ai (sr (bC ?_)))))
    refine bH hh 5 ?_
    refine eB (mL ?_)
    refine aV (hmc _ _ _ (hT.hp hh) (hh.aK (i := 0) rfl)) av.out rfl (by decide) ?_
    rintro e_ w59 ⟨g, og, rfl, h3⟩
    refine ⟨_, rfl, ?_⟩
    replace hh := hh.join h3
    simp only [List.cons_append, List.nil_append] at hh
    refine dp ?_
    refine dp ?_
    refine bE hh 4 [_,_] ?_
    intro ws hh
    replace hh : Hp _ (_ :: _ :: _ :: _ :: .blk _ _ [_, _] _ :: _) _ := hh
    refine aI (ae (ao ?_))
    refine gL (aG rfl (aH (vs := [_, _]) aC.out (hh.au (i := 4) (n := 2) rfl rfl) rfl) (bS (cf rfl) a7)) ?_
    rw [hM] at og
    exact ⟨g, og, rfl, hh.sub (List.Sublist.cons_cons _ (List.nil_sublist _))⟩
 ·generalize lr p which = e at *
  refine ak (N := 62) (l := [.agg #[.int .i64 p.v, .slice p.A p.n p.c], .int .i64 which, .agg #[.bool y.neg, .string y.bJ, .int .i64 y.e]]) Tryz.func24 rfl rfl (by simp) ?_
  refine sr ?_
  refine cK hh [_,_] ?_
  intro b3 w3 hh
  refine cK hh [_,_,_] ?_
  intro b5 w5 hh
  refine cv hh ?_
  intro b6 w6 hh
  refine aI (ae (ah (sr ?_)))
  refine dh hh 2 [_,_] (mI ?_)
  refine bG hh (hck _ (hT.hp hh) hh.below) rfl ?_
  intro w16 hh
  refine aI (ae (sr (mI ?_)))
  refine cE (ae (cT (sr ?_)))
  refine ep [_,_] (mI ?_)
  refine bE hh 0 [_,_] ?_
  intro ws hh
  replace hh : Hp _ (.blk _ _ [_, _] _ :: _) _ := hh
  refine aI (ae (ao (az ?_)))
  refine gL (aG rfl (aH (vs := [_, _]) aC.out (hh.au (i := 0) (n := 2) rfl rfl) rfl) (bS (cf rfl) a7)) ?_
  exact ⟨PX.nil, cC.err h0, rfl, (hh.sub (List.nil_sublist _)).fP⟩
end Go.Proofs.YtaapkaefelhfcaaGreatDoor
/- The walk through calc.Eval. -/
namespace Go.Proofs.YtaapkaefelhfcaaGreatDoor
open Go.RowKit
def y8 (xs : List NR) (m : ByteArray) (k : Nat) : Dyadic := match xs[k]?, m.data.toList[k]? with | some x, some e => x.d ^ e.toNat | _, _ => 1
def yf (c : Dyadic) (xs : List NR) (m : ByteArray) : Nat → Dyadic
 | 0 => c
 | k + 1 => yf c xs m k * y8 xs m k
def nw (xs : List NR) (ts : List TR) : Nat → Dyadic
 | 0 => 0
 | i + 1 => nw xs ts i + (match ts[i]? with | some t => yf t.c.d xs t.m xs.length | none => 0)
def lL (p : PX) (n : Nat) : Int := if p.e = 0 then (if (n : Int) = p.v then 0 else 1) else p.e
def m9 (p : PX) (xs : List NR) : NR := if lL p xs.length = 0 then nR (nw xs p.ts p.ts.length) else nR 0
abbrev xN := Option Addr × Nat × Nat
def tX (ks : List xN) : List Value := ks.map fun k => .slice k.1 k.2.1 k.2.2
def Cz (y : NR) (k : xN) : HE := .row k.1 k.2.1 k.2.2 29 3 (aQ NR.cells (ml y.d k.2.1))
def xd (ys : List NR) (ks : List xN) : List HE := List.zipWith Cz ys ks
theorem wb {w0 w : World} {H : List HE} (hh : Hp w0 H w) : ∀ ys : List NR, Hp w0 (xd ys (List.replicate ys.length (none, 0, 0)) ++ H) w
 | [] => hh
 | y :: ys => (wb hh ys).di 29 3
theorem zg (ks : List xN) : (tX ks).length = ks.length := List.length_map ..
theorem Ay (ks : List xN) (i : Nat) (k : xN) : tX (ks.set i k) = (tX ks).set i (.slice k.1 k.2.1 k.2.2) := by unfold tX; rw [List.map_set]
theorem mR {α : Type} : ∀ {l : List α} {i : Nat} {a : α}, l[i]? = some a → l.Perm (a :: l.eraseIdx i)
 | [], i, a, h => by cases h
 | b :: l, 0, a, h => by cases h; exact List.Perm.refl _
 | b :: l, i + 1, a, h => ((mR (l := l) (i := i) h).cons b).trans (.swap _ _ _)
theorem xP {ys : List NR} {ks : List xN} {i : Nat} {y : NR} {k : xN} (hy : ys[i]? = some y) (hk : ks[i]? = some k) : (xd ys ks)[i]? = some (Cz y k) := by
 unfold xd
 rw [List.getElem?_zipWith, hy, hk]
theorem qu : ∀ {ys : List NR} {ks : List xN} {i : Nat} {k : xN}, (xd ys (ks.set i k)).eraseIdx i = (xd ys ks).eraseIdx i
 | [], _, _, _ => by unfold xd; simp
 | _ :: _, [], _, _ => by unfold xd; simp
 | y :: ys, k0 :: ks, 0, k => rfl
 | y :: ys, k0 :: ks, i + 1, k => by
  show Cz y k0 :: (xd ys (ks.set i k)).eraseIdx i = Cz y k0 :: (xd ys ks).eraseIdx i
  rw [qu]
theorem zd {xs : List NR} {m : ByteArray} {k : Nat} {x : NR} {e : UInt8} (hx : xs[k]? = some x) (he : m.data.toList[k]? = some e) : y8 xs m k = x.d ^ e.toNat := by
 unfold y8
 rw [hx, he]
theorem rj {xs : List NR} {m : ByteArray} {c : Dyadic} {q : Nat} (hc : Sz q c) (hq : q ≤ 1000) (hx : ∀ x ∈ xs, Sz q x.d) (hm : dN m.data.toList = true) : ∀ k, Sz (q + 128000 * k) (yf c xs m k)
 | 0 => hc
 | k + 1 => by
  refine ((rj hc hq hx hm k).mul (l := 128000) ?_).mono (by omega)
  unfold y8
  split
  ·rename_i x e h1 h2
   have he := hO hm h2
   exact ((hx x (List.mem_of_getElem? h1)).pow e.toNat).mono (by have := Nat.mul_le_mul hq (show e.toNat ≤ 127 by omega); omega)
  ·exact Sz.one.mono (by omega)
theorem yP {xs : List NR} {ts : List TR} {q : Nat} (hq : q ≤ 1000) (hx : ∀ x ∈ xs, Sz q x.d) (ht : gi q ts) (hm : ∀ t ∈ ts, dN t.m.data.toList = true) (hl : xs.length ≤ 12) : ∀ i, Sz (1600000 + i) (nw xs ts i)
 | 0 => Sz.zero _
 | i + 1 => by
  show Sz (1600000 + i + 1) (nw xs ts i + _)
  refine (yP hq hx ht hm hl i).add ?_
  split
  ·rename_i t h
   exact (rj (ht t (List.mem_of_getElem? h)).2 hq hx (hm t (List.mem_of_getElem? h)) xs.length).mono (by omega)
  ·exact Sz.zero _
def CL (w : World) (b : Nat) : Nat := match w.heap[b]? with | some (.stringIter _ p) => p | _ => 0
theorem yF {w0 w : World} {H : List HE} (hh : Hp w0 H w) {i b p : Nat} {s : ByteArray} (hi : H[i]? = some (.it b s p)) : CL w b = p := by
 unfold CL
 rw [(hh.at_ hi).2]
theorem nt (p : PX) (ys : List NR) (xA : Option Addr) (xn xc : Nat) (k : Nat) (w : World) (hT : hG w) (hp : p.at_ w) (lp : p.jO k) (hS : Sl w xA xn 3 (aQ NR.cells ys)) (hl : ys.length = xn) (hy : ∀ y ∈ ys, y.ok ∧ Sz k y.d) (hk : k ≤ 1000) :
  Calls Tryz.prog 20 #[.agg #[.int .i64 p.v, .slice p.A p.n p.c], .slice xA xn xc] w fun r w' => r = .returned (.tuple #[.agg #[.bool (m9 p ys).neg, .string (m9 p ys).bJ, .int .i64 (m9 p ys).e], .int .i64 (lL p xn)]) ∧ Below w.heap.size w w' := by
 have hh := Hp.start w
 subst hl
 have hck := fun w1 hT1 hb => l8 p k w1 hT1 (hp.ext hb) lp
 unfold m9 lL
 by_cases h0 : p.e = 0
 ·rw [h0] at hck
  simp only [if_pos h0]
  by_cases h1 : (ys.length : Int) = p.v
  ·simp only [if_pos h1]
   obtain ⟨hf, h4, hmy, _⟩ := dZ h0
   replace hf := eE.1 hf
   obtain ⟨pv, pA, pn, pc, ts⟩ := p
   replace hpl : ts.length = pn := hp.ln
   replace hp : Sl w pA pn 4 (aQ TR.cells ts) := hp
   have okp : gi k ts := lp.ok
   have szp : ∀ t ∈ ts, t.m.size ≤ 100000 := lp.sz
   replace hmy : ∀ t ∈ ts, fk pv t = true := hmy
   replace h4 : ts.length ≤ 4096 := h4
   replace hf : 0 ≤ pv ∧ pv ≤ 12 := hf
   replace h1 : (ys.length : Int) = pv := h1
   subst h1
   have hyl : ys.length ≤ 12 := by omega
   have pM : ∀ i, i ≤ 4096 → Sz 1700000 (nw ys ts i) := fun i hi => (yP hk (fun y h => (hy y h).2) okp (fun t h => (Bool.and_eq_true_iff.1 (hmy t h)).1) hyl i).mono (by omega)
   show Calls _ _ _ _ fun r w' => r = .returned (.tuple #[.agg #[.bool (nR (nw ys ts ts.length)).neg, .string (nR (nw ys ts ts.length)).bJ, .int .i64 (nR (nw ys ts ts.length)).e], .int .i64 0]) ∧ Below w.heap.size w w'
   refine ak (N := 64) (l := [.agg #[.int .i64 ys.length, .slice pA pn pc], .slice xA ys.length xc]) Tryz.func20 rfl rfl (by simp) ?_
   refine sr ?_
   refine cK hh [_,_] ?_
   intro b2 w2 hh
   refine cv hh ?_
   intro b4 w4 hh
   refine aI (ae (ah (sr ?_)))
   refine dh hh 1 [_,_] ?_
   refine bG hh (hck _ (hT.hp hh) hh.below) rfl ?_
   intro w15 hh
   refine aI (ae (sr (mI ?_)))
   refine cE (ae (cF (aj (ai (ah (sr (mL (aO (bC ?_)))))))))
   refine bH hh 1 ?_
   refine cE (ae (cF (aj (ai (sr (mL (aO ?_)))))))
   refine gO (n := ys.length) hh rfl rfl (by omega) (by omega) aF.out aC.out rfl (by omega) (by omega) (by decide) ?_
   intro b28 w28 hh
   refine aL (ae (sr ?_))
   refine cv hh ?_
   intro b8 w8 hh
   refine ae (ah (sr (bC ?_)))
   refine bH hh 3 ?_
   refine aO (mI (ae (al ?_)))
   rw [nP, show List.replicate ys.length (Value.slice none 0 0) = tX (List.replicate ys.length (none, 0, 0)) by unfold tX; rw [List.map_replicate]] at hh
   replace hh := (wb hh ys).perm List.perm_append_comm
   simp only [List.cons_append, List.nil_append] at hh
   refine bs [10, 11, 12, 13, 32, 33, 34, 35, 36, 37, 38, 39, 40, 41, 42, 43, 44, 45, 46, 47, 48, 49, 50, 51, 52, 53, 54, 55, 56, 57, 58, 59, 60, 61, 62] 32
    (fun v w' => ∃ (i : Nat) (ks : List xN), i ≤ pn ∧ v = .int .i64 i ∧ ks.length = ys.length ∧ (∀ q ∈ ks, q.2.1 ≤ 1000) ∧ Hp w (.blk b8 29 [.bool (nR (nw ys ts i)).neg, .string (nR (nw ys ts i)).bJ, .int .i64 (nR (nw ys ts i)).e] (0, 0) :: .row (some ⟨b28, 0, none⟩) ys.length ys.length 109 1 (tX ks) :: .blk b4 29 [.bool false, .string (ByteArray.mk #[]), .int .i64 0] (0, 0) :: .blk b2 24 [.int .i64 ys.length, .slice pA pn pc] (0, 0) :: xd ys ks) w')
    (fun v _ => pn - (intOf v).toNat) ?_ ?_
   ·exact ⟨0, _, Nat.zero_le _, rfl, List.length_replicate, fun q hq => by rw [List.eq_of_mem_replicate hq]; exact Nat.zero_le _, hh⟩
   ·clear hh
    rintro ρ' v w' ⟨i, ks, hi, rfl, hkl, hkm, hh⟩
    by_cases hlt : i < pn
    ·obtain ⟨x, hx⟩ := aD (l := ts) (k := i) (by omega)
     obtain ⟨ad, rfl, hr⟩ := hp.at_ (by omega)
     have hxo := okp x (List.mem_of_getElem? hx)
     have hmx := Bool.and_eq_true_iff.1 (hmy x (List.mem_of_getElem? hx))
     have hxz : (x.m.size : Int) = ys.length := of_decide_eq_true hmx.2
     refine sr ?_
     refine aU (ae (ah (cT (aj (ai (ah (al (sr ?_))))))))
     refine aR (k := i) aF.out aC.size rfl rfl (by omega) (by omega) (by decide) ?_
     refine bQ (vs := [_, _, _, _]) aC.out rfl ((hr.ext hh.below).recAt TR.len hx) rfl (by decide) ?_
     refine cv hh ?_
     intro b10 w10 hh
     refine bE hh 0 [_,_,_,_] ?_
     intro ws hh
     replace hh : Hp _ (.blk _ _ [_, _, _, _] _ :: _) _ := hh
     refine ae (sr (bC ?_))
     refine dh hh 0 [_,_,_] ?_
     refine cv hh ?_
     intro b11 w11 hh
     refine bE hh 0 [_,_,_] ?_
     intro ws hh
     replace hh : Hp _ (.blk _ _ [_, _, _] _ :: _) _ := hh
     refine ae (ah (sr (bC ?_)))
     refine bH hh 1 ?_
     refine lZ hh aF.out rfl (by decide) ?_
     intro b40 w40 hh
     skip
     refine ae (al ?_)
     refine pd [12, 13, 41, 42, 43, 44, 45, 46, 47, 48, 49, 50, 51, 52, 53, 54, 55, 56, 57]
      (fun w' => ∃ (q : Nat) (z : NR) (ks : List xN), q ≤ ys.length ∧ z.ok ∧ z.d = yf x.c.d ys x.m q ∧ ks.length = ys.length ∧ (∀ q ∈ ks, q.2.1 ≤ 1000) ∧ Hp w (.it b40 x.m q :: .blk b11 29 [.bool z.neg, .string z.bJ, .int .i64 z.e] (0, 0) :: .blk b10 55 [.string x.m, .bool x.c.neg, .string x.c.bJ, .int .i64 x.c.e] (0, 0) :: .blk b8 29 [.bool (nR (nw ys ts i)).neg, .string (nR (nw ys ts i)).bJ, .int .i64 (nR (nw ys ts i)).e] (0, 0) :: .row (some ⟨b28, 0, none⟩) ys.length ys.length 109 1 (tX ks) :: .blk b4 29 [.bool false, .string (ByteArray.mk #[]), .int .i64 0] (0, 0) :: .blk b2 24 [.int .i64 ys.length, .slice (some ad) pn pc] (0, 0) :: xd ys ks) w')
      (fun w' => ys.length - CL w' b40) ?_ ?_
     ·exact ⟨0, x.c, ks, Nat.zero_le _, hxo.1, rfl, hkl, hkm, hh⟩
     ·clear hh hkl hkm
      rintro ρ' w' ⟨q, z, ks, hq, hzo, hzd, hkl, hkm, hh⟩
      have hit := yF hh (i := 0) rfl
      have hzs : Sz 1600000 z.d := by rw [hzd]; exact (rj hxo.2 hk (fun y h => (hy y h).2) hmx.1 q).mono (by omega)
      by_cases hlq : q < ys.length
      ·obtain ⟨y, hyq⟩ := aD (l := ys) (k := q) hlq
       obtain ⟨⟨ka, km, kc⟩, hkq⟩ := aD (l := ks) (k := q) (by omega)
       obtain ⟨xad, rfl, hxr⟩ := hS.at_ (by omega)
       obtain ⟨e, he⟩ := aD (l := x.m.data.toList) (k := q) (by rw [← cw]; omega)
       have he8 := hO hmx.1 he
       have hyo := hy y (List.mem_of_getElem? hyq)
       have hkm0 : km ≤ 1000 := hkm _ (List.mem_of_getElem? hkq)
       have hqk : q < (tX ks).length := by rw [zg]; omega
       have zp : Sz 128000 (y.d ^ e.toNat) := (hyo.2.pow e.toNat).mono (by have := Nat.mul_le_mul hk (show e.toNat ≤ 127 by omega); omega)
       have hdm := fun A cc w1 hT1 hS1 => gF A 2 cc [z, nR (y.d ^ e.toNat)] w1 hT1 hS1 (by simpa using ⟨hzo, zp.ok (by decide)⟩) 1600000 (by simpa [dX] using ⟨hzs, zp.mono (by decide)⟩) (by decide) (by decide)
       rw [show g9 ([z, nR (y.d ^ e.toNat)].map NR.d) = z.d * y.d ^ e.toNat by show 1 * z.d * (nR _).d = _; rw [dX, Dyadic.one_mul]] at hdm
       have hcq : (tX ks)[q]? = some (.slice ka km kc) := by unfold tX; rw [List.getElem?_map, hkq]; rfl
       refine sr ?_
       refine mc hh (i := 0) rfl rfl he he8 (by decide) ?_
       intro w41 hh
       simp only [List.set_cons_zero] at hh
       skip
       refine dp ?_
       refine ae (ah (cT (aj (ai (al (sr ?_))))))
       refine dp ?_
       refine dp ?_
       refine aI (aI (ae ?_))
       replace hh := hh.perm (List.perm_middle (l₁ := [_, _, _, _]))
       simp only [List.cons_append, List.nil_append] at hh
       replace hh := hh.perm (((mR (xP hyq hkq)).append_left [_, _, _, _, _, _, _]).trans (List.perm_middle.trans (.swap _ _ _)))
       rw [← oE hcq] at hh
       have mb11 : (.blk b11 29 [.bool z.neg, .string z.bJ, .int .i64 z.e] (0, 0) : HE) ∈ (.it b40 x.m (q + 1) :: .blk b11 29 [.bool z.neg, .string z.bJ, .int .i64 z.e] (0, 0) :: .blk b10 55 [.string x.m, .bool x.c.neg, .string x.c.bJ, .int .i64 x.c.e] (0, 0) :: .blk b8 29 [.bool (nR (nw ys ts i)).neg, .string (nR (nw ys ts i)).bJ, .int .i64 (nR (nw ys ts i)).e] (0, 0) :: .blk b4 29 [.bool false, .string (ByteArray.mk #[]), .int .i64 0] (0, 0) :: .blk b2 24 [.int .i64 ys.length, .slice (some ad) pn pc] (0, 0) :: (xd ys ks).eraseIdx q) := by simp
       refine yR 13 (fun i => [45, 46, 47, 48, 49, 50, 51, 52, 53, 54, 55, 56, 57].getD i 0) (fun i => [jv (.agg #[.bool z.neg, .string z.bJ, .int .i64 z.e]), jv (.slice (some ⟨b28, 0, none⟩) ys.length ys.length), jv (.int .i64 q), jv (.pointer (some ⟨b28, q * 1, none⟩)), jv (.slice (some xad) ys.length xc), jv (.int .i64 q), jv (.pointer (some (xad.add (q * 3)))), jv (.agg #[.bool y.neg, .string y.bJ, .int .i64 y.e]), jv (.int .i32 e.toNat), jv (.int .i64 e.toNat), fun v R => v = .agg #[.bool (nR (y.d ^ e.toNat)).neg, .string (nR (y.d ^ e.toNat)).bJ, .int .i64 (nR (y.d ^ e.toNat)).e] ∧ ∃ (A2 : Option Addr) (m2 c3 : Nat), m2 ≤ 1000 ∧ R = [.row (some ⟨b28, 0, none⟩) ys.length ys.length 109 1 ((tX ks).set q (.slice A2 m2 c3)), .row A2 m2 c3 29 3 (aQ NR.cells (ml y.d m2))], fun v R => ∃ b : Nat, v = .slice (some ⟨b, 0, none⟩) 2 2 ∧ R = [.row (some ⟨b, 0, none⟩) 2 2 29 3 (aQ NR.cells [z, nR (y.d ^ e.toNat)])], jv (.agg #[.bool (nR (z.d * y.d ^ e.toNat)).neg, .string (nR (z.d * y.d ^ e.toNat)).bJ, .int .i64 (nR (z.d * y.d ^ e.toNat)).e])].getD i (jv undef)) (fun i => [[], [], [], [], [], [], [], [], [], [], [.row (some ⟨b28, 0, none⟩) ys.length ys.length 109 1 ((tX ks).set q (.slice ka km kc)), .row ka km kc 29 3 (aQ NR.cells (ml y.d km))], [], []].getD i []) (.it b40 x.m (q + 1) :: .blk b11 29 [.bool z.neg, .string z.bJ, .int .i64 z.e] (0, 0) :: .blk b10 55 [.string x.m, .bool x.c.neg, .string x.c.bJ, .int .i64 x.c.e] (0, 0) :: .blk b8 29 [.bool (nR (nw ys ts i)).neg, .string (nR (nw ys ts i)).bJ, .int .i64 (nR (nw ys ts i)).e] (0, 0) :: .blk b4 29 [.bool false, .string (ByteArray.mk #[]), .int .i64 0] (0, 0) :: .blk b2 24 [.int .i64 ys.length, .slice (some ad) pn pc] (0, 0) :: (xd ys ks).eraseIdx q) _ hh (List.Perm.refl _) mixed (by kernel_rfl) rfl ⟨⟨⟨⟨⟨⟨⟨⟨⟨⟨⟨⟨⟨trivial, ?s0⟩, ?s1⟩, ?s2⟩, ?s3⟩, ?s4⟩, ?s5⟩, ?s6⟩, ?s7⟩, ?s8⟩, ?s9⟩, ?s10⟩, ?s11⟩, ?s12⟩ ?fin
       case s0 => exact ⟨_, rfl, fun ρ1 w1 F R ha hd hr (hh : Hp w F w1) => bZ rfl (k8 (vs := [_, _, _]) aC.out (ha 11 (by decide)) (hh.uU (n := 3) (hr _ mb11) rfl) rfl) ⟨[], ⟨rfl, rfl⟩, hh⟩⟩
       case s1 => exact ⟨_, rfl, fun ρ1 w1 F R ha hd hr (hh : Hp w F w1) => bZ rfl (dg (ha 7 (by decide))) ⟨[], ⟨rfl, rfl⟩, hh⟩⟩
       case s2 => exact ⟨_, rfl, fun ρ1 w1 F R ha hd hr (hh : Hp w F w1) => bZ rfl (dg (ha 12 (by decide))) ⟨[], ⟨rfl, rfl⟩, hh⟩⟩
       case s3 => exact ⟨_, rfl, fun ρ1 w1 F R ha hd hr (hh : Hp w F w1) => bZ rfl (lf (k := q) aF.out aC.size (show jv (.slice (some ⟨b28, 0, none⟩) ys.length ys.length) (ρ1 46) (R 1) from (hd 1 rfl).1).1 (show jv (.int .i64 q) (ρ1 47) (R 2) from (hd 2 rfl).1).1 (by omega) (by omega)) ⟨[], ⟨rfl, rfl⟩, hh⟩⟩
       case s4 => exact ⟨_, rfl, fun ρ1 w1 F R ha hd hr (hh : Hp w F w1) => bZ rfl (dg (ha 1 (by decide))) ⟨[], ⟨rfl, rfl⟩, hh⟩⟩
       case s5 => exact ⟨_, rfl, fun ρ1 w1 F R ha hd hr (hh : Hp w F w1) => bZ rfl (dg (ha 12 (by decide))) ⟨[], ⟨rfl, rfl⟩, hh⟩⟩
       case s6 => exact ⟨_, rfl, fun ρ1 w1 F R ha hd hr (hh : Hp w F w1) => bZ rfl (eg (k := q) aF.out aC.size (show jv (.slice (some xad) ys.length xc) (ρ1 49) (R 4) from (hd 4 rfl).1).1 (show jv (.int .i64 q) (ρ1 50) (R 5) from (hd 5 rfl).1).1 (by omega) (by omega)) ⟨[], ⟨rfl, rfl⟩, hh⟩⟩
       case s7 => exact ⟨_, rfl, fun ρ1 w1 F R ha hd hr (hh : Hp w F w1) => bZ rfl (k8 (vs := [_, _, _]) aC.out (show jv (.pointer (some (xad.add (q * 3)))) (ρ1 51) (R 6) from (hd 6 rfl).1).1 ((hxr.ext hh.below).recAt NR.len hyq) rfl) ⟨[], ⟨rfl, rfl⟩, hh⟩⟩
       case s8 => exact ⟨_, rfl, fun ρ1 w1 F R ha hd hr (hh : Hp w F w1) => bZ rfl (dg (ha 13 (by decide))) ⟨[], ⟨rfl, rfl⟩, hh⟩⟩
       case s9 => exact ⟨_, rfl, fun ρ1 w1 F R ha hd hr (hh : Hp w F w1) => bZ rfl (iG aF.out aF.out (show jv (.int .i32 e.toNat) (ρ1 53) (R 8) from (hd 8 rfl).1).1 (by omega) (by omega)) ⟨[], ⟨rfl, rfl⟩, hh⟩⟩
       case s10 => exact ⟨_, rfl, fun ρ1 w1 F R ha hd hr hh => bW rfl (a3 av.out (aA (show jv (.pointer (some ⟨b28, q * 1, none⟩)) (ρ1 48) (R 3) from (hd 3 rfl).1).1 (aA (show jv (.agg #[.bool y.neg, .string y.bJ, .int .i64 y.e]) (ρ1 52) (R 7) from (hd 7 rfl).1).1 (aA (show jv (.int .i64 e.toNat) (ρ1 54) (R 9) from (hd 9 rfl).1).1 a9)))) (oL (cI (g := b28) (m := ys.length) (c := ys.length) (i := q) (t := 109) (xs := tX ks) hqk) y e.toNat km ka kc k w1 hT hh (by omega) hkm0 hyo hk) fun r w2 ⟨h1, A2, m2, c3, h2, h3⟩ => ⟨_, h1, [_, _], ⟨rfl, A2, m2, c3, h2, rfl⟩, h3⟩⟩
       case s11 => exact ⟨_, rfl, fun ρ1 w1 F R ha hd hr (hh : Hp w F w1) => qg (sz := 3) (cs := aQ NR.cells [z, nR (y.d ^ e.toNat)]) hh aF.out aC.out (show pE ρ1 [(0, .tmp 45), (1, .tmp 55)] = [(0, .agg #[.bool z.neg, .string z.bJ, .int .i64 z.e]), (1, .agg #[.bool (nR (y.d ^ e.toNat)).neg, .string (nR (y.d ^ e.toNat)).bJ, .int .i64 (nR (y.d ^ e.toNat)).e])] from bm (show ρ1 45 = _ from (show jv (.agg #[.bool z.neg, .string z.bJ, .int .i64 z.e]) (ρ1 45) (R 0) from (hd 0 rfl).1).1) (bm (show ρ1 55 = _ from (hd 10 rfl).1.1) cn)) rfl rfl (by decide) (by decide) (by decide) rfl fun b w2 h2 => ⟨[_], ⟨b, rfl, rfl⟩, h2⟩⟩
       case s12 => exact ⟨_, rfl, fun ρ1 w1 F R ha hd hr (hh : Hp w F w1) => let ⟨b, e9, r9⟩ := (show ∃ b : Nat, ρ1 56 = .slice (some ⟨b, 0, none⟩) 2 2 ∧ R 11 = [.row (some ⟨b, 0, none⟩) 2 2 29 3 (aQ NR.cells [z, nR (y.d ^ e.toNat)])] from (hd 11 rfl).1); bW rfl (a3 av.out (aA e9 a9)) (hdm _ _ w1 (hT.hp hh) (hh.xZ ((hd 11 rfl).2 _ (r9 ▸ List.mem_cons_self)))) fun r w2 hq => ⟨_, hq.1, [], ⟨rfl, rfl⟩, hh.ext hq.2⟩⟩
       clear hh
       rintro f R W ⟨⟨⟨⟨⟨⟨⟨⟨⟨⟨⟨⟨⟨-, s0⟩, s1⟩, s2⟩, s3⟩, s4⟩, s5⟩, s6⟩, s7⟩, s8⟩, s9⟩, s10⟩, s11⟩, s12⟩ hh
       obtain ⟨e0, r0⟩ := s0
       obtain ⟨e1, r1⟩ := s1
       obtain ⟨e2, r2⟩ := s2
       obtain ⟨e3, r3⟩ := s3
       obtain ⟨e4, r4⟩ := s4
       obtain ⟨e5, r5⟩ := s5
       obtain ⟨e6, r6⟩ := s6
       obtain ⟨e7, r7⟩ := s7
       obtain ⟨e8, r8⟩ := s8
       obtain ⟨e9, r9⟩ := s9
       obtain ⟨e10, A2, m2, c3, hm2, r10⟩ := s10
       obtain ⟨b56, e11, r11⟩ := s11
       obtain ⟨e12, r12⟩ := s12
       rw [show List.range 13 = [0, 1, 2, 3, 4, 5, 6, 7, 8, 9, 10, 11, 12] from rfl] at hh
       simp only [List.flatMap_cons, List.flatMap_nil, r0, r1, r2, r3, r4, r5, r6, r7, r8, r9, r10, r11, r12, List.nil_append, List.append_nil, List.cons_append] at hh
       refine aN (a4 (aa e12 (aa e11 (aa e10 (aa e9 (aa e8 (aa e7 (aa e6 (aa e5 (aa e4 (aa e3 (aa e2 (aa e1 (aa e0 aM)))))))))))))) ?_
       dsimp only [ca]
       refine bE hh 4 [_,_,_] ?_
       intro ws hh
       replace hh : Hp _ (_ :: _ :: _ :: _ :: .blk _ _ [_, _, _] _ :: _) _ := hh
       refine aE (aW (ai ?_))
       have hz2 : Sz 1728000 (z.d * y.d ^ e.toNat) := (hzs.mul zp).mono (by omega)
       have e1 : (tX ks).set q (.slice A2 m2 c3) = tX (ks.set q (A2, m2, c3)) := (Ay ks q (A2, m2, c3)).symm
       have hpk := mR (xP hyq (show (ks.set q (A2, m2, c3))[q]? = some (A2, m2, c3) from List.getElem?_set_self (by omega)))
       rw [qu] at hpk
       rw [e1] at hh
       replace hh := hh.perm (List.perm_middle (l₁ := [_]))
       simp only [List.cons_append, List.nil_append] at hh
       replace hh := hh.perm (List.perm_middle (l₁ := [_, _, _, _, _, _, _, _]))
       simp only [List.cons_append, List.nil_append] at hh
       replace hh := hh.perm (List.perm_middle (l₁ := [_, _, _, _, _, _, _, _]))
       simp only [List.cons_append, List.nil_append] at hh
       replace hh := hh.perm (List.perm_middle (l₁ := [_, _, _]))
       simp only [List.cons_append, List.nil_append] at hh
       replace hh := hh.perm (List.perm_middle (l₁ := [_, _, _, _, _, _, _, _]))
       simp only [List.cons_append, List.nil_append] at hh
       replace hh := hh.perm (List.perm_middle (l₁ := [_, _, _, _, _, _, _, _]))
       simp only [List.cons_append, List.nil_append] at hh
       replace hh := hh.perm (List.perm_middle (l₁ := [_, _, _, _, _, _, _, _]))
       simp only [List.cons_append, List.nil_append] at hh
       replace hh := hh.perm (List.perm_middle (l₁ := [_, _, _, _, _, _, _, _]))
       simp only [List.cons_append, List.nil_append] at hh
       replace hh := hh.sub (.cons_cons _ (.cons_cons _ (.cons_cons _ (.cons_cons _ (.cons_cons _ (.cons_cons _ (.cons_cons _ (.cons_cons _ (.cons _ (List.Sublist.refl _))))))))))
       have hit2 := yF hh (i := 0) rfl
       refine ⟨⟨q + 1, nR (z.d * y.d ^ e.toNat), ks.set q (A2, m2, c3), by omega, hz2.ok (by decide), by rw [dX]; show _ = yf x.c.d ys x.m q * y8 ys x.m q; rw [← hzd, zd hyq he], by rw [List.length_set]; exact hkl, fun r hr => ?_, hh.perm (hpk.symm.append_left [_, _, _, _, _, _, _])⟩, by rw [hit, hit2]; omega, ?_⟩
       ·rcases List.mem_or_eq_of_mem_set hr with h | rfl
        ·exact hkm r h
        ·exact hm2
       ·(repeat (first | exact aw _ _ _ | refine ax rfl ?_ | refine ar rfl ?_))
      ·obtain rfl : q = ys.length := by omega
       have hsm := fun A cc w1 hT1 hS1 => n5 A 2 cc [nR (nw ys ts i), z] w1 hT1 hS1 (by simpa using ⟨(pM i (by omega)).ok (by decide), hzo⟩) 1700000 (by simpa [dX] using ⟨pM i (by omega), hzs.mono (by decide)⟩) (by decide)
       rw [show mW ([nR (nw ys ts i), z].map NR.d) = nw ys ts (i + 1) by simp only [List.map_cons, List.map_nil, se, dX]; show _ = nw ys ts i + _; rw [hx, hzd]] at hsm
       refine sr ?_
       refine lS hh (i := 0) rfl rfl (by omega) (by decide) ?_
       skip
       refine dp ?_
       refine ae (ah (cF ?_))
       refine aP ?_
       refine ay (ay (a6 (ai (aq ?_))))
       refine dh hh 3 [_,_,_] ?_
       refine dh hh 1 [_,_,_] ?_
       refine bB hh (cs := [_, _, _, _, _, _]) aF.out aC.out (bm (dM rfl) (bm (dM rfl) cn)) rfl rfl (by decide) (by decide) (by decide) rfl (by decide) ?_
       intro b60 w60 hh
       refine bG hh (hsm _ _ _ (hT.hp hh) (hh.aK (i := 0) rfl)) rfl ?_
       intro w61 hh
       refine bE hh 4 [_,_,_] ?_
       intro ws hh
       replace hh : Hp _ (_ :: _ :: _ :: _ :: .blk _ _ [_, _, _] _ :: _) _ := hh
       refine aE (aW (ai (aq ?_)))
       refine bL (mI (aE (ai ?_)))
       replace hh := hh.sub (List.Sublist.cons _ (List.Sublist.cons _ (List.Sublist.cons _ (List.Sublist.cons _ (List.Sublist.cons_cons _ (List.Sublist.cons_cons _ (List.Sublist.cons_cons _ (List.Sublist.cons_cons _ (List.Sublist.refl _)))))))))
       refine ⟨⟨i + 1, ks, by omega, rfl, hkl, hkm, hh⟩, by show pn - (i + 1) < pn - i; omega, ?_⟩
       (repeat (first | exact aw _ _ _ | refine ax rfl ?_ | refine ar rfl ?_))
    ·obtain rfl : i = pn := by omega
     refine sr ?_
     refine aU (ae (ah (cF ?_)))
     refine aP ?_
     refine ay (ay (a6 (ai (sr ?_))))
     refine dh hh 0 [_,_,_] ?_
     refine bE hh 2 [_,_,_] ?_
     intro ws hh
     replace hh : Hp _ (_ :: _ :: .blk _ _ [_, _, _] _ :: _) _ := hh
     refine aI (ae (ao ?_))
     refine gL (aG rfl (aH (vs := [_, _, _]) aC.out (hh.au (i := 2) (n := 3) rfl rfl) rfl) (bS (cf rfl) a7)) ?_
     exact ⟨by rw [hpl], hh.below⟩
  ·simp only [if_neg h1]
   rw [if_neg (by decide)]
   refine ak (N := 64) (l := [.agg #[.int .i64 p.v, .slice p.A p.n p.c], .slice xA ys.length xc]) Tryz.func20 rfl rfl (by simp) ?_
   refine sr ?_
   refine cK hh [_,_] ?_
   intro b2 w2 hh
   refine cv hh ?_
   intro b4 w4 hh
   refine aI (ae (ah (sr ?_)))
   refine dh hh 1 [_,_] ?_
   refine bG hh (hck _ (hT.hp hh) hh.below) rfl ?_
   intro w15 hh
   refine aI (ae (sr (mI ?_)))
   refine cE (ae (cF (aj (ai (ah (sr (mL (aO (bC ?_)))))))))
   refine bH hh 1 ?_
   refine cE (ae (cT (sr ?_)))
   refine ep [_,_,_] ?_
   refine bE hh 0 [_,_,_] ?_
   intro ws hh
   replace hh : Hp _ (.blk _ _ [_, _, _] _ :: _) _ := hh
   refine aI (ae (ao (az ?_)))
   refine gL (aG rfl (aH (vs := [_, _, _]) aC.out (hh.au (i := 0) (n := 3) rfl rfl) rfl) (bS (cf rfl) a7)) ?_
   exact ⟨rfl, hh.below⟩
 ·simp only [if_neg h0]
  generalize p.e = e at *
  refine ak (N := 64) (l := [.agg #[.int .i64 p.v, .slice p.A p.n p.c], .slice xA ys.length xc]) Tryz.func20 rfl rfl (by simp) ?_
  refine sr ?_
  refine cK hh [_,_] ?_
  intro b2 w2 hh
  refine cv hh ?_
  intro b4 w4 hh
  refine aI (ae (ah (sr ?_)))
  refine dh hh 1 [_,_] ?_
  refine bG hh (hck _ (hT.hp hh) hh.below) rfl ?_
  intro w15 hh
  refine aI (ae (sr (mI ?_)))
  refine cE (ae (cT (sr ?_)))
  refine ep [_,_,_] (mI ?_)
  refine bE hh 0 [_,_,_] ?_
  intro ws hh
  replace hh : Hp _ (.blk _ _ [_, _, _] _ :: _) _ := hh
  refine aI (ae (ao (az ?_)))
  refine gL (aG rfl (aH (vs := [_, _, _]) aC.out (hh.au (i := 0) (n := 3) rfl rfl) rfl) (bS (cf rfl) a7)) ?_
  exact ⟨rfl, hh.below⟩
end Go.Proofs.YtaapkaefelhfcaaGreatDoor
/- The chapter's examples of ogeelaw09, plain. -/
namespace Go.Proofs.YtaapkaefelhfcaaGreatDoor
open Go.RowKit
def qZ : ZT := [([0, 0], 2), ([2, 1], 1)]
def qS : ZT := [([0, 1], 1), ([1, 0], 1)]
theorem zq : nw [nR ((3 : Int) : Dyadic), nR ((-1 : Int) : Dyadic)] (zT qZ) 2 = ((-7 : Int) : Dyadic) := by decide +kernel
theorem zV : kf 0 (zT qZ) = zT [([1, 1], 2)] := by kernel_rfl
theorem zG : kf 1 (zT qZ) = zT [([2, 0], 1)] := by kernel_rfl
theorem z5 : lk 0 ((3 : Int) : Dyadic) (zT qZ) = zT [([0], 2), ([1], 9)] := by kernel_rfl
theorem Bf : eV 2 [zT qS] 0 (zT [([2], 1)]) = (0, zT [([0, 2], 1), ([1, 1], 2), ([2, 0], 1)]) := by kernel_rfl
end Go.Proofs.YtaapkaefelhfcaaGreatDoor
/- The chapter's examples of ogeelaw09, each by its contract. -/
namespace Go.Proofs.YtaapkaefelhfcaaGreatDoor
open Go.RowKit
def m4 (v : Int) (n : Nat) (ts : List TR) : VP := fun x W => ∃ g : Nat, x = .agg #[.int .i64 v, .slice (some ⟨g, 0, none⟩) n n] ∧ Sl W (some ⟨g, 0, none⟩) n 4 (aQ TR.cells ts)
theorem m4.ext {v : Int} {n : Nat} {ts : List TR} (x : Value) (w w' : World) (h : m4 v n ts x w) (hb : Below w.heap.size w w') : m4 v n ts x w' := let ⟨g, h1, h2⟩ := h; ⟨g, h1, h2.ext hb⟩
def fQ (v : Int) (n : Nat) (ts : List TR) : VP := fun x W => ∃ g : Option Addr × Nat, x = .agg #[.int .i64 v, .slice g.1 n g.2] ∧ Sl W g.1 n 4 (aQ TR.cells ts)
theorem fQ.ext {v : Int} {n : Nat} {ts : List TR} (x : Value) (w w' : World) (h : fQ v n ts x w) (hb : Below w.heap.size w w') : fQ v n ts x w' := let ⟨g, h1, h2⟩ := h; ⟨g, h1, h2.ext hb⟩
theorem B7 : fA 2 (zT qZ) = 0 := qP rfl rfl (by decide)
theorem B1 : fA 2 (zT qS) = 0 := qP rfl rfl (by decide)
theorem CA : fA 1 (zT [([2], 1)]) = 0 := qP rfl rfl (by decide)
theorem wh (n : Int) (h : n.natAbs < 256) : (nR (n : Dyadic)).ok ∧ Sz 24 (nR (n : Dyadic)).d := by
 have z : Sz 24 ((n : Int) : Dyadic) := z3 (m := n) (e := 0) h (by decide) (by decide)
 exact ⟨z.ok (by decide), by rw [dX]; exact z⟩
theorem Cb (A : Option Addr) (c : Nat) (B : Option Addr) (d : Nat) (w : World) (hT : hG w) (hS : Sl w A 2 4 (aQ TR.cells (zT qZ))) (hc : 2 ≤ c) (hB : Sl w B 2 3 (aQ NR.cells [nR ((3 : Int) : Dyadic), nR ((-1 : Int) : Dyadic)])) :
  Calls Tryz.prog 20 #[.agg #[.int .i64 2, .slice A 2 c], .slice B 2 d] w fun r w' => r = .returned (.tuple #[.agg #[.bool (nR ((-7 : Int) : Dyadic)).neg, .string (nR ((-7 : Int) : Dyadic)).bJ, .int .i64 (nR ((-7 : Int) : Dyadic)).e], .int .i64 0]) ∧ Below w.heap.size w w' := by
 have h := nt ⟨2, A, 2, c, zT qZ⟩ [nR ((3 : Int) : Dyadic), nR ((-1 : Int) : Dyadic)] B 2 d 24 w hT hS (mD rfl (by decide) hc) hB rfl (fun y hy => by
  rcases List.mem_cons.1 hy with rfl | hy
  ·exact wh 3 (by decide)
  ·rw [List.mem_singleton.1 hy]; exact wh (-1) (by decide)) (by decide)
 have he : lL ⟨2, A, 2, c, zT qZ⟩ 2 = 0 := by
  unfold lL
  rw [if_pos (show PX.e ⟨2, A, 2, c, zT qZ⟩ = 0 from B7)]
  rfl
 have hv : m9 ⟨2, A, 2, c, zT qZ⟩ [nR ((3 : Int) : Dyadic), nR ((-1 : Int) : Dyadic)] = nR ((-7 : Int) : Dyadic) := by
  unfold m9
  rw [if_pos (show lL ⟨2, A, 2, c, zT qZ⟩ [nR ((3 : Int) : Dyadic), nR ((-1 : Int) : Dyadic)].length = 0 from he)]
  exact congrArg nR zq
 rw [hv, he] at h
 exact h
theorem yu (A : Option Addr) (c : Nat) (B : Option Addr) (d : Nat) (w : World) (hT : hG w) (hS : Sl w A 2 4 (aQ TR.cells (zT qS))) (hc : 2 ≤ c) (hB : Sl w B 1 3 (aQ NR.cells [nR ((1 : Int) : Dyadic)])) :
  Calls Tryz.prog 20 #[.agg #[.int .i64 2, .slice A 2 c], .slice B 1 d] w fun r w' => r = .returned (.tuple #[.agg #[.bool (nR 0).neg, .string (nR 0).bJ, .int .i64 (nR 0).e], .int .i64 1]) ∧ Below w.heap.size w w' := by
 have h := nt ⟨2, A, 2, c, zT qS⟩ [nR ((1 : Int) : Dyadic)] B 1 d 24 w hT hS (mD rfl (by decide) hc) hB rfl (fun y hy => by
  rw [List.mem_singleton.1 hy]; exact wh 1 (by decide)) (by decide)
 have he : lL ⟨2, A, 2, c, zT qS⟩ 1 = 1 := by
  unfold lL
  rw [if_pos (show PX.e ⟨2, A, 2, c, zT qS⟩ = 0 from B1)]
  rfl
 have hv : m9 ⟨2, A, 2, c, zT qS⟩ [nR ((1 : Int) : Dyadic)] = nR 0 := by
  unfold m9
  rw [show lL _ [nR ((1 : Int) : Dyadic)].length = 1 from he]
  rfl
 rw [hv, he] at h
 exact h
theorem wB {A : Option Addr} {c i : Nat} : i < 2 → lr ⟨2, A, 2, c, zT qZ⟩ (i : Int) = 0 := fun hi => by
 unfold lr
 rw [if_pos (show PX.e ⟨2, A, 2, c, zT qZ⟩ = 0 from B7), if_neg]
 show ¬ ((i : Int) < 0 ∨ (2 : Int) ≤ i)
 omega
theorem Ci (K : ZT) (i : Nat) (A : Option Addr) (c : Nat) (w : World) (hT : hG w) (hS : Sl w A 2 4 (aQ TR.cells (zT qZ))) (hc : 2 ≤ c) (hi : i < 2) (hd : kf i (zT qZ) = zT K) (hz : zC K = true) :
  Calls Tryz.prog 22 #[.agg #[.int .i64 2, .slice A 2 c], .int .i64 i] w fun r w' => ∃ A' c', r = .returned (.tuple #[.agg #[.int .i64 2, .slice A' K.length c'], .int .i64 0]) ∧ Hp w [.row A' K.length c' 55 4 (aQ TR.cells (zT K))] w' := by
 have h := kS ⟨2, A, 2, c, zT qZ⟩ (i : Int) 24 w hT hS (mD rfl (by decide) hc) (by decide)
 rw [wB hi, show ((i : Int)).toNat = i from rfl] at h
 have e : aT (kf i (zT qZ)) = zT K := by rw [hd, nn (pe hz)]
 replace h : Calls Tryz.prog 22 #[.agg #[.int .i64 2, .slice A 2 c], .int .i64 i] w fun r w' => ∃ g : PX, cC 0 2 (aT (kf i (zT qZ))) g ∧ r = .returned (.tuple #[.agg #[.int .i64 g.v, .slice g.A g.n g.c], .int .i64 0]) ∧ Hp w [g.row] w' := h
 rw [e] at h
 refine h.mono fun r w' ⟨g, og, hr, h3⟩ => ?_
 obtain ⟨A', c', rfl⟩ := og.zT (h3.aK (i := 0) rfl)
 exact ⟨A', c', hr, h3⟩
theorem zt (w : World) (hT : hG w) : Calls Tryz.prog 22 #[.agg #[.int .i64 0, .slice none 0 0], .int .i64 0] w fun r w' => ∃ g : PX, r = .returned (.tuple #[.agg #[.int .i64 g.v, .slice g.A g.n g.c], .int .i64 1]) ∧ Below w.heap.size w w' := by
 have h := kS ⟨0, none, 0, 0, []⟩ 0 24 w hT (Sl.nil _ _ _) ⟨by decide, Nat.le_refl _, (fun _ h => nomatch h), (fun _ h => nomatch h)⟩ (by decide)
 rw [show lr ⟨0, none, 0, 0, []⟩ 0 = 1 from rfl] at h
 exact h.mono fun r w' ⟨g, _, hr, h3⟩ => ⟨g, hr, h3.below⟩
theorem Cq (A : Option Addr) (c : Nat) (w : World) (hT : hG w) (hS : Sl w A 2 4 (aQ TR.cells (zT qZ))) (hc : 2 ≤ c) :
  Calls Tryz.prog 24 #[.agg #[.int .i64 2, .slice A 2 c], .int .i64 0, .agg #[.bool (nR ((3 : Int) : Dyadic)).neg, .string (nR ((3 : Int) : Dyadic)).bJ, .int .i64 (nR ((3 : Int) : Dyadic)).e]] w fun r w' => ∃ g : PX, cC 0 1 (zT [([0], 2), ([1], 9)]) g ∧ r = .returned (.tuple #[.agg #[.int .i64 g.v, .slice g.A g.n g.c], .int .i64 0]) ∧ Hp w [g.row] w' := by
 have h := tW ⟨2, A, 2, c, zT qZ⟩ ((0 : Nat) : Int) (nR ((3 : Int) : Dyadic)) 24 w hT hS (mD rfl (by decide) hc) (wh 3 (by decide)) (by decide)
 rw [wB (by decide), dX, show (((0 : Nat) : Int)).toNat = 0 from rfl] at h
 have e : aT (lk 0 ((3 : Int) : Dyadic) (zT qZ)) = zT [([0], 2), ([1], 9)] := by rw [z5, nn (pe rfl)]
 replace h : Calls Tryz.prog 24 #[.agg #[.int .i64 2, .slice A 2 c], .int .i64 0, .agg #[.bool (nR ((3 : Int) : Dyadic)).neg, .string (nR ((3 : Int) : Dyadic)).bJ, .int .i64 (nR ((3 : Int) : Dyadic)).e]] w fun r w' => ∃ g : PX, cC 0 1 (aT (lk 0 ((3 : Int) : Dyadic) (zT qZ))) g ∧ r = .returned (.tuple #[.agg #[.int .i64 g.v, .slice g.A g.n g.c], .int .i64 0]) ∧ Hp w [g.row] w' := h
 rw [e] at h
 exact h
theorem CR (b d e : Nat) (w : World) (hT : hG w) (hS : Sl w (some ⟨b, 0, none⟩) 1 4 (aQ TR.cells (zT [([2], 1)]))) (hL : Sl w (some ⟨d, 0, none⟩) 1 2 (aQ PX.cells [⟨2, some ⟨e, 0, none⟩, 2, 2, zT qS⟩])) (hQ : Sl w (some ⟨e, 0, none⟩) 2 4 (aQ TR.cells (zT qS))) :
  Calls Tryz.prog 28 #[.agg #[.int .i64 1, .slice (some ⟨b, 0, none⟩) 1 1], .slice (some ⟨d, 0, none⟩) 1 1] w fun r w' => ∃ g : PX, cC 0 2 (zT [([0, 2], 1), ([1, 1], 2), ([2, 0], 1)]) g ∧ r = .returned (.tuple #[.agg #[.int .i64 g.v, .slice g.A g.n g.c], .int .i64 0]) ∧ Hp w [g.row] w' := by
 have hf : Cv ⟨1, some ⟨b, 0, none⟩, 1, 1, zT [([2], 1)]⟩ [⟨2, some ⟨e, 0, none⟩, 2, 2, zT qS⟩] 24 24 2 16408 [2] := by
  refine ⟨rfl, fun i x hx => ?_, ?_, by decide, by decide, fun g hg => ?_, fun g hg => ?_⟩
  ·cases i with
   | zero =>
    cases hx
    refine ⟨by decide, fun t ht => ?_⟩
    rw [List.mem_singleton.1 ht]
    decide
   | succ i => cases hx
  ·rw [iC, jj]
   decide
  ·rw [List.mem_singleton.1 hg]
   exact mD rfl (by decide) (by decide)
  ·rw [List.mem_singleton.1 hg]
   exact Nat.le_refl 2
 have h := l0 ⟨1, some ⟨b, 0, none⟩, 1, 1, zT [([2], 1)]⟩ (some ⟨d, 0, none⟩) 1 [⟨2, some ⟨e, 0, none⟩, 2, 2, zT qS⟩] 24 24 2 16408 [2] w hT hS (mD rfl (by decide) (by decide)) hL (fun g hg => by rw [List.mem_singleton.1 hg]; exact hQ) (Nat.le_refl 1) hf
 have he : PX.e ⟨2, some ⟨e, 0, none⟩, 2, 2, zT qS⟩ = 0 := B1
 have hlk : er [⟨2, some ⟨e, 0, none⟩, 2, 2, zT qS⟩] = 0 := by
  unfold er
  rw [gh (List.any_eq_false.2 fun x hx => by rw [List.mem_singleton.1 hx]; simp [he])]
  rfl
 have e1 : jR ⟨1, some ⟨b, 0, none⟩, 1, 1, zT [([2], 1)]⟩ [⟨2, some ⟨e, 0, none⟩, 2, 2, zT qS⟩] = (0, zT [([0, 2], 1), ([1, 1], 2), ([2, 0], 1)]) := by
  unfold jR
  rw [if_neg (fun h => h (show PX.e ⟨1, some ⟨b, 0, none⟩, 1, 1, zT [([2], 1)]⟩ = 0 from CA)), if_neg (fun h => h rfl), if_neg (fun h => h.2 hlk)]
  exact Bf
 rw [e1] at h
 exact h
theorem vD (K : ZT) (v : Int) (A : Option Addr) (n c : Nat) (B : Option Addr) (d : Nat) (w : World) (hA : Sl w A n 4 (aQ TR.cells (zT K))) (hB : Sl w B n 4 (aQ TR.cells (zT K))) (hn : n ≤ 60) :
  Calls Tryz.prog 26 #[.agg #[.int .i64 v, .slice A n c], .agg #[.int .i64 v, .slice B n d]] w fun r w' => r = .returned (.bool true) ∧ Below w.heap.size w w' :=
 (ni ⟨v, A, n, c, zT K⟩ ⟨v, B, n, d, zT K⟩ w hA hB (by show n ≤ 1000000; omega) (by show n ≤ 1000000; omega)).mono fun r w' ⟨x, hr, hv, hb⟩ => ⟨by rw [hr, hv.2 ⟨rfl, rfl⟩], hb⟩
end Go.Proofs.YtaapkaefelhfcaaGreatDoor
/- The walk through ogeelaw09.awake. -/
namespace Go.Proofs.YtaapkaefelhfcaaGreatDoor
open Go.RowKit
set_option maxRecDepth 10000 in
theorem rl (w : World) (hT : hG w) : Calls Tryz.prog 18 #[] w fun r w' => r = .returned (.bool true) ∧ Below w.heap.size w w' := by
 have hh := Hp.start w
 refine ak (N := 144) (l := []) Tryz.func18 rfl rfl (by simp) ?_
 refine sr (aB (ae (sr ?_)))
 refine bG hh (cj 2 _ (by decide) (by decide)) rfl ?_
 intro w17 hh
 refine ep [_,_,_,_] ?_
 refine bG hh (cj 1 _ (by decide) (by decide)) rfl ?_
 intro w19 hh
 refine ep [_,_,_,_] ?_
 refine bB hh (cs := [_, _, _, _, _, _, _, _]) aF.out aC.out (bm (dM rfl) (bm (dM rfl) cn)) rfl rfl (by decide) (by decide) (by decide) rfl (by decide) ?_
 intro b21 w21 hh
 refine bG hh (eG 2 (some ⟨b21, 0, none⟩) 2 2 _) rfl ?_
 intro w22 hh
 refine cv hh ?_
 intro b1 w1 hh
 refine bE hh 0 [_,_] ?_
 intro ws hh
 replace hh : Hp _ (.blk _ _ [_, _] _ :: _) _ := hh
 refine ae (ah ?_)
 replace hh := show Hp w [.blk b1 24 [.int .i64 2, .slice (some ⟨b21, 0, none⟩) 2 2] (0, 0), .row (some ⟨b21, 0, none⟩) 2 2 55 4 (aQ TR.cells (zT qZ))] _ from hh
 refine cq [8] [7] [0, 0, 2, 6, 15, 31, 63, 63, 0, 383, 1023] 9 [[(1, none)], [], [], [(25, some 1), (26, some 2)], [(24, some 0), (27, some 3)], [(28, some 4)], [(23, some 5)], [(23, some 5)], []] [(8, 2), (7, 30), (6, 29), (5, 23), (4, 28), (3, 27), (2, 26), (1, 25), (0, 24)] hh mixed (by kernel_rfl) (jq rfl aC.out cG) rfl (by repeat (first | exact bX | refine bA ?_ | refine bV ?_)) ?_
 refine ef 0 [_,_] ?_
 refine dC (fun _ hj => cj 3 _ (by decide) (by decide)) ?_
 refine dC (fun _ hj => cj (-1) _ (by decide) (by decide)) ?_
 refine pD [_,_,_,_,_,_] ?_
 refine bj (i := 4) (Is (.tuple #[.agg #[.bool (nR ((-7 : Int) : Dyadic)).neg, .string (nR ((-7 : Int) : Dyadic)).bJ, .int .i64 (nR ((-7 : Int) : Dyadic)).e], .int .i64 0])) Is.ext ?_ ?_
 ·intro ρ1 w1 hj hR
  obtain ⟨A27, c27, h27, s27⟩ := hR.2.1
  exact bW rfl (a3 av.out (aA (show ρ1 24 = Value.agg (List.toArray _) from hR.1) (aA h27 a9))) (Cb (some ⟨b21, 0, none⟩) 2 A27 c27 _ (hT.hp hj.hp) (hj.hp.aK (i := 1) rfl) (by decide) s27) (fun _ _ hq => ⟨_, hq.1, hq.2, rfl⟩)
 refine B0 ?_
 refine yj ?_
 refine yj ?_
 refine bj (i := 8) (cN _ 29 _) cN.ext (fun ρ1 w1 hj hR => fI aC.out hj.bl (fun v w2 h hb => ⟨hb, h⟩)) ?_
 refine a0 ?_
 intro f W hJ hV _
 have hb_2 := hJ.bl
 obtain ⟨v2, v30, v29, v23, v28, v27, v26, v25, v24, _⟩ := hV
 obtain ⟨A27, c27, e27, f27⟩ : Rows _ _ _ (f 3) W := v27
 obtain ⟨b2, e2, hl2, hc2⟩ : cN _ _ _ (f 8) W := v2
 replace hh := hJ.newVar hh hl2 hc2
 refine aN (a4 (aa e2 (aa v30 (aa v29 (aa v23 (aa v28 (aa e27 (aa v26 (aa v25 (aa v24 aM)))))))))) ?_
 dsimp only [ca]
 clear e27 e2 hJ
 refine bE hh 0 [_,_,_] ?_
 intro ws hh
 replace hh : Hp _ (.blk _ _ [_, _, _] _ :: _) _ := hh
 refine aI (ae (sr ?_))
 refine dh hh 1 [_,_] ?_
 refine aV (Ci [([1, 1], 2)] 0 _ 2 _ (hT.hp hh) (hh.aK (i := 2) rfl) (by decide) (by decide) zV rfl) av.out rfl (by decide) ?_
 rintro e_ w33 ⟨A4, c4, rfl, h2⟩
 refine ⟨_, rfl, ?_⟩
 replace hh := hh.join h2
 simp only [List.cons_append, List.nil_append] at hh
 clear h2
 refine mT ?_
 refine dp ?_
 refine dp ?_
 refine cv hh ?_
 intro b4 w4 hh
 refine bE hh 0 [_,_] ?_
 intro ws hh
 replace hh : Hp _ (.blk _ _ [_, _] _ :: _) _ := hh
 refine aI (ae (sr ?_))
 refine dh hh 3 [_,_] ?_
 refine aV (Ci [([2, 0], 1)] 1 _ 2 _ (hT.hp hh) (hh.aK (i := 4) rfl) (by decide) (by decide) zG rfl) av.out rfl (by decide) ?_
 rintro e_ w38 ⟨A6, c6, rfl, h2⟩
 refine ⟨_, rfl, ?_⟩
 replace hh := hh.join h2
 simp only [List.cons_append, List.nil_append] at hh
 clear h2
 refine mT ?_
 refine dp ?_
 refine dp ?_
 refine cv hh ?_
 intro b6 w6 hh
 refine bE hh 0 [_,_] ?_
 intro ws hh
 replace hh : Hp _ (.blk _ _ [_, _] _ :: _) _ := hh
 refine aI (ae (sr ?_))
 refine bG hh (cj 1 _ (by decide) (by decide)) rfl ?_
 intro w41 hh
 refine ep [_,_,_,_] ?_
 refine bG hh (cj 1 _ (by decide) (by decide)) rfl ?_
 intro w43 hh
 refine ep [_,_,_,_] ?_
 refine bB hh (cs := [_, _, _, _, _, _, _, _]) aF.out aC.out (bm (dM rfl) (bm (dM rfl) cn)) rfl rfl (by decide) (by decide) (by decide) rfl (by decide) ?_
 intro b45 w45 hh
 refine bG hh (eG 2 (some ⟨b45, 0, none⟩) 2 2 _) rfl ?_
 intro w46 hh
 refine cv hh ?_
 intro b8 w8 hh
 refine bE hh 0 [_,_] ?_
 intro ws hh
 replace hh : Hp _ (.blk _ _ [_, _] _ :: _) _ := hh
 refine ae (ah ?_)
 replace hh := show Hp w (.blk b8 24 [.int .i64 2, .slice (some ⟨b45, 0, none⟩) 2 2] (0, 0) :: .row (some ⟨b45, 0, none⟩) 2 2 55 4 (aQ TR.cells (zT qS)) :: _) _ from hh
 refine cq [10] [9] [0, 1, 3, 7, 0, 16, 63, 127, 255, 255, 0, 1535, 4095] 11 [[], [(48, some 0)], [(49, some 1)], [(50, some 2)], [(8, none)], [(52, some 4)], [(51, some 3), (53, some 5)], [(54, some 6)], [(47, some 7)], [(47, some 7)], []] [(10, 9), (9, 56), (8, 55), (7, 47), (6, 54), (5, 53), (4, 52), (3, 51), (2, 50), (1, 49), (0, 48)] hh mixed (by kernel_rfl) (jq rfl aC.out cG) rfl (by repeat (first | exact bX | refine bA ?_ | refine bV ?_)) ?_
 refine dC (fun _ hj => cj (1) _ (by decide) (by decide)) ?_
 refine dB [_,_,_,_] ?_
 refine bj (i := 2) (eM 1 4 (aQ TR.cells (zT [([2], 1)]))) (eM.ext) ?_ ?_
 ·intro ρ1 w1 hj hR
  exact fH (sz := 4) aF.out aC.out (show pE ρ1 [(0, .tmp 49)] = [(0, .agg #[.string (str [2]), .bool (nR ((1 : Int) : Dyadic)).neg, .string (nR ((1 : Int) : Dyadic)).bJ, .int .i64 (nR ((1 : Int) : Dyadic)).e])] from bm (show ρ1 49 = _ from hR.1) cn) rfl rfl (by decide) (by decide) rfl fun v w2 h hb => ⟨hb, h⟩
 refine bj (i := 3) (m4 1 1 (zT [([2], 1)])) (m4.ext) ?_ ?_
 ·intro ρ1 w1 hj hR
  exact let ⟨b, e1, s1⟩ := hR.1; bW rfl (a3 av.out (aA rfl (aA e1 a9))) (eG 1 (some ⟨b, 0, none⟩) 1 1 w1) (fun _ _ hq => ⟨_, hq.1, hq.2, b, rfl, s1.ext hq.2⟩)
 refine ef 0 [_,_] ?_
 refine bj (i := 5) (eM 1 2 (aQ PX.cells [⟨2, some ⟨b45, 0, none⟩, 2, 2, zT qS⟩])) (eM.ext) ?_ ?_
 ·intro ρ1 w1 hj hR
  exact fH (sz := 2) aF.out aC.out (show pE ρ1 [(0, .tmp 52)] = [(0, .agg #[.int .i64 2, .slice (some ⟨b45, 0, none⟩) 2 2])] from bm (show ρ1 52 = _ from hR.1) cn) rfl rfl (by decide) (by decide) rfl fun v w2 h hb => ⟨hb, h⟩
 refine bj (i := 6) (fE hh.sz 0 2 (zT [([0, 2], 1), ([1, 1], 2), ([2, 0], 1)])) (fE.ext) ?_ ?_
 ·intro ρ1 w1 hj hR
  exact let ⟨b, e1, s1⟩ := hR.1; let ⟨d, e2, s2⟩ := hR.2.1; bW rfl (a3 av.out (aA e1 (aA e2 a9))) (CR b d b45 w1 (hT.hp hj.hp) s1 s2 (hj.hp.aK (i := 1) rfl)) (fun _ _ ⟨g, og, hq, h3⟩ => ⟨_, hq, h3.below, g, w1, rfl, og, hj.bl.size, h3⟩)
 refine bj (i := 7) (fE hh.sz 0 2 (zT [([0, 2], 1), ([1, 1], 2), ([2, 0], 1)])) (fE.ext) ?_ ?_
 ·intro ρ1 w1 hj hR
  exact let ⟨g, u, e1, e2⟩ := hR.1; bZ rfl (dg e1) ⟨Below.refl _ _, g, u, rfl, e2⟩
 refine bj (i := 8) (gM hh.sz 0 2 (zT [([0, 2], 1), ([1, 1], 2), ([2, 0], 1)])) (gM.ext) ?_ ?_
 ·intro ρ1 w1 hj hR
  exact let ⟨g, u, e1, e2⟩ := hR.1; bZ rfl (cX (vs := [_, _]) e1 rfl) ⟨Below.refl _ _, g, u, rfl, e2⟩
 refine bj (i := 9) (Is (.int .i64 0)) (Is.ext) ?_ ?_
 ·intro ρ1 w1 hj hR
  exact let ⟨g, u, e1, e2⟩ := hR.1; bZ rfl (cX (vs := [_, _]) e1 rfl) ⟨Below.refl _ _, rfl⟩
 refine bj (i := 10) (cN _ 24 _) cN.ext (fun ρ1 w1 hj hR => fI aC.out hj.bl (fun v w2 h hb => ⟨hb, h⟩)) ?_
 refine a0 ?_
 intro f W hJ hV _
 have hb_6 := hJ.bl
 obtain ⟨v9, v56, v55, v47, v54, v53, v52, v51, v50, v49, v48, _⟩ := hV
 obtain ⟨g50, e50, o50⟩ : eM 1 4 (aQ TR.cells (zT [([2], 1)])) (f 2) W := v50
 obtain ⟨g51, e51, o51⟩ : m4 1 1 (zT [([2], 1)]) (f 3) W := v51
 obtain ⟨g53, e53, o53⟩ : eM 1 2 (aQ PX.cells [⟨2, some ⟨b45, 0, none⟩, 2, 2, zT qS⟩]) (f 5) W := v53
 obtain ⟨g54, u54, e54, -⟩ := v54
 obtain ⟨g47, u47, e47, -⟩ := v47
 obtain ⟨g55, u55, e55, o55, q55, h55⟩ := v55
 obtain ⟨b9, e9, hl9, hc9⟩ : cN _ _ _ (f 10) W := v9
 replace hh := hJ.kD hh hl9 hc9 q55 h55 (PX.ne h55 hc9 (by decide))
 refine aN (a4 (aa e9 (aa v56 (aa e55 (aa e47 (aa e54 (aa e53 (aa v52 (aa e51 (aa e50 (aa v49 (aa v48 aM)))))))))))) ?_
 dsimp only [ca]
 clear e50 e51 e53 e54 e47 e55 e9 hJ
 simp only [List.cons_append, List.nil_append] at hh
 obtain ⟨A9, c9, rfl⟩ := o55.zT (show PX.at_ _ _ from hh.aK (i := 1) rfl)
 refine bE hh 0 [_,_] ?_
 intro ws hh
 replace hh : Hp _ (.blk _ _ [_, _] _ :: _) _ := hh
 refine aI (ae (ah ?_))
 refine cq [6] [5] [0, 0, 3, 7, 15, 15, 0, 95, 255] 7 [[(1, none)], [], [(58, some 0), (59, some 1)], [(60, some 2)], [(57, some 3)], [(57, some 3)], []] [(6, 11), (5, 62), (4, 61), (3, 57), (2, 60), (1, 59), (0, 58)] hh mixed (by kernel_rfl) (jq rfl aC.out cG) rfl (by repeat (first | exact bX | refine bA ?_ | refine bV ?_)) ?_
 refine ef 9 [_,_] ?_
 refine dC (fun _ hj => cj (3) _ (by decide) (by decide)) ?_
 refine bj (i := 2) (fE hh.sz 0 1 (zT [([0], 2), ([1], 9)])) (fE.ext) ?_ ?_
 ·intro ρ1 w1 hj hR
  exact bW rfl (a3 av.out (aA (show ρ1 58 = Value.agg _ from hR.1) (aA rfl (aA (show ρ1 59 = Value.agg _ from hR.2.1) a9)))) (Cq (some ⟨b21, 0, none⟩) 2 w1 (hT.hp hj.hp) (hj.hp.aK (i := 10) rfl) (by decide)) (fun _ _ ⟨g, og, hq, h3⟩ => ⟨_, hq, h3.below, g, w1, rfl, og, hj.bl.size, h3⟩)
 refine bj (i := 3) (fE hh.sz 0 1 (zT [([0], 2), ([1], 9)])) (fE.ext) ?_ ?_
 ·intro ρ1 w1 hj hR
  exact let ⟨g, u, e1, e2⟩ := hR.1; bZ rfl (dg e1) ⟨Below.refl _ _, g, u, rfl, e2⟩
 refine bj (i := 4) (gM hh.sz 0 1 (zT [([0], 2), ([1], 9)])) (gM.ext) ?_ ?_
 ·intro ρ1 w1 hj hR
  exact let ⟨g, u, e1, e2⟩ := hR.1; bZ rfl (cX (vs := [_, _]) e1 rfl) ⟨Below.refl _ _, g, u, rfl, e2⟩
 refine bj (i := 5) (Is (.int .i64 0)) (Is.ext) ?_ ?_
 ·intro ρ1 w1 hj hR
  exact let ⟨g, u, e1, e2⟩ := hR.1; bZ rfl (cX (vs := [_, _]) e1 rfl) ⟨Below.refl _ _, rfl⟩
 refine bj (i := 6) (cN _ 24 _) cN.ext (fun ρ1 w1 hj hR => fI aC.out hj.bl (fun v w2 h hb => ⟨hb, h⟩)) ?_
 refine a0 ?_
 intro f W hJ hV _
 have hb_7 := hJ.bl
 obtain ⟨v11, v62, v61, v57, v60, v59, v58, _⟩ := hV
 obtain ⟨g60, u60, e60, -⟩ := v60
 obtain ⟨g57, u57, e57, -⟩ := v57
 obtain ⟨g61, u61, e61, o61, q61, h61⟩ := v61
 obtain ⟨b11, e11, hl11, hc11⟩ : cN _ _ _ (f 6) W := v11
 replace hh := hJ.kD hh hl11 hc11 q61 h61 (PX.ne h61 hc11 (by decide))
 refine aN (a4 (aa e11 (aa v62 (aa e61 (aa e57 (aa e60 (aa v59 (aa v58 aM)))))))) ?_
 dsimp only [ca]
 clear e60 e57 e61 e11 hJ
 simp only [List.cons_append, List.nil_append] at hh
 obtain ⟨A11, c11, rfl⟩ := o61.zT (show PX.at_ _ _ from hh.aK (i := 1) rfl)
 refine bE hh 0 [_,_] ?_
 intro ws hh
 replace hh : Hp _ (.blk _ _ [_, _] _ :: _) _ := hh
 refine aI (ae (ah ?_))
 refine cq [7] [6] [0, 0, 2, 7, 15, 31, 31, 0, 191, 511] 8 [[(8, none)], [], [(65, some 1)], [(64, some 0), (66, some 2)], [(67, some 3)], [(63, some 4)], [(63, some 4)], []] [(7, 13), (6, 69), (5, 68), (4, 63), (3, 67), (2, 66), (1, 65), (0, 64)] hh mixed (by kernel_rfl) (jq rfl aC.out cG) rfl (by repeat (first | exact bX | refine bA ?_ | refine bV ?_)) ?_
 refine ef 4 [_,_] ?_
 refine dC (fun _ hj => cj 1 _ (by decide) (by decide)) ?_
 refine pD [_,_,_] ?_
 refine bj (i := 3) (Is (.tuple #[.agg #[.bool (nR 0).neg, .string (nR 0).bJ, .int .i64 (nR 0).e], .int .i64 1])) Is.ext ?_ ?_
 ·intro ρ1 w1 hj hR
  obtain ⟨A66, c66, h66, s66⟩ := hR.2.1
  exact bW rfl (a3 av.out (aA (show ρ1 64 = Value.agg (List.toArray _) from hR.1) (aA h66 a9))) (yu (some ⟨b45, 0, none⟩) 2 A66 c66 _ (hT.hp hj.hp) (hj.hp.aK (i := 5) rfl) (by decide) s66) (fun _ _ hq => ⟨_, hq.1, hq.2, rfl⟩)
 refine B0 ?_
 refine yj ?_
 refine yj ?_
 refine bj (i := 7) (cN _ 29 _) cN.ext (fun ρ1 w1 hj hR => fI aC.out hj.bl (fun v w2 h hb => ⟨hb, h⟩)) ?_
 refine a0 ?_
 intro f W hJ hV _
 have hb_8 := hJ.bl
 obtain ⟨v13, v69, v68, v63, v67, v66, v65, v64, _⟩ := hV
 obtain ⟨A66, c66, e66, f66⟩ : Rows _ _ _ (f 2) W := v66
 obtain ⟨b13, e13, hl13, hc13⟩ : cN _ _ _ (f 7) W := v13
 replace hh := hJ.newVar hh hl13 hc13
 refine aN (a4 (aa e13 (aa v69 (aa v68 (aa v63 (aa v67 (aa e66 (aa v65 (aa v64 aM))))))))) ?_
 dsimp only [ca]
 clear e66 e13 hJ
 refine bE hh 0 [_,_,_] ?_
 intro ws hh
 replace hh : Hp _ (.blk _ _ [_, _, _] _ :: _) _ := hh
 refine aI (ae (sr ?_))
 refine bG hh (eG 0 none 0 0 _) rfl ?_
 intro w71 hh
 refine aV (zt _ (hT.hp hh)) av.out rfl (by decide) ?_
 rintro e_ w72 ⟨g15, rfl, hb_⟩
 refine ⟨_, rfl, ?_⟩
 replace hh := hh.ext hb_
 refine mT ?_
 refine dp ?_
 refine dp ?_
 refine cv hh ?_
 intro b15 w15 hh
 refine bE hh 0 [_,_] ?_
 intro ws hh
 replace hh : Hp _ (.blk _ _ [_, _] _ :: _) _ := hh
 refine aI (ae (ah ?_))
 replace hh := show Hp w (_ :: _ :: .blk b11 24 [.int .i64 1, .slice A11 2 c11] (0, 0) :: .row A11 2 c11 55 4 (aQ TR.cells (zT [([0], 2), ([1], 9)])) :: .blk b9 24 [.int .i64 2, .slice A9 3 c9] (0, 0) :: .row A9 3 c9 55 4 (aQ TR.cells (zT [([0, 2], 1), ([1, 1], 2), ([2, 0], 1)])) :: _ :: _ :: .blk b6 24 [.int .i64 2, .slice A6 1 c6] (0, 0) :: .row A6 1 c6 55 4 (aQ TR.cells (zT [([2, 0], 1)])) :: .blk b4 24 [.int .i64 2, .slice A4 1 c4] (0, 0) :: .row A4 1 c4 55 4 (aQ TR.cells (zT [([1, 1], 2)])) :: _) _ from hh
 refine cq [] [] [0, 0, 3, 7, 15, 31, 63, 127, 255, 255, 767, 1791, 3839, 8191, 16383, 32767, 65535, 131071, 262143, 524287, 1048575, 1048575, 3145727, 7340031, 15728639, 33554431, 67108863, 134217727, 268435455, 536870911, 1073741823, 2147483647, 4294967295, 4294967295, 12884901887, 12884901887, 47244640255, 47244640255, 184683593727, 545460846591, 1095216660479, 2199023255551, 4398046511103, 8796093022207, 17592186044415, 35184372088831, 70368744177663, 140737488355327, 281474976710655, 281474976710655, 844424930131967, 844424930131967, 3096224743817215, 8725724278030335, 17732923532771327, 36028797018963967, 72057594037927935, 144115188075855871, 288230376151711743, 576460752303423487, 1152921504606846975, 2305843009213693951, 4611686018427387903, 9223372036854775807, 18446744073709551615, 36893488147419103231, 73786976294838206463, 147573952589676412927, 295147905179352825855, 590295810358705651711] 55 [[(2, none)], [], [(75, some 0), (76, some 1)], [(77, some 2)], [(3, none), (78, some 3)], [(79, some 4), (78, some 3)], [(78, some 3), (80, some 5)], [(81, some 6)], [(4, none), (82, some 7)], [(82, some 7)], [(84, some 9), (82, some 7)], [(85, some 10), (82, some 7)], [(86, some 11), (82, some 7)], [(83, some 8), (87, some 12), (82, some 7)], [(82, some 7), (88, some 13)], [(89, some 14)], [(5, none), (90, some 15)], [(91, some 16), (90, some 15)], [(90, some 15), (92, some 17)], [(93, some 18)], [(6, none), (94, some 19)], [(94, some 19)], [(96, some 21), (94, some 19)], [(97, some 22), (94, some 19)], [(98, some 23), (94, some 19)], [(95, some 20), (99, some 24), (94, some 19)], [(94, some 19), (100, some 25)], [(101, some 26)], [(7, none), (102, some 27)], [(103, some 28), (102, some 27)], [(102, some 27), (104, some 29)], [(105, some 30)], [(9, none), (106, some 31)], [(106, some 31)], [(108, some 33), (106, some 31)], [(106, some 31)], [(110, some 35), (106, some 31)], [(106, some 31)], [(112, some 37), (106, some 31)], [(109, some 34), (111, some 36), (113, some 38), (106, some 31)], [(114, some 39), (106, some 31)], [(107, some 32), (115, some 40), (106, some 31)], [(106, some 31), (116, some 41)], [(117, some 42)], [(10, none), (118, some 43)], [(119, some 44), (118, some 43)], [(118, some 43), (120, some 45)], [(121, some 46)], [(11, none), (122, some 47)], [(122, some 47)], [(124, some 49), (122, some 47)], [(122, some 47)], [(126, some 51), (122, some 47)], [(125, some 50), (127, some 52), (122, some 47)], [(128, some 53), (122, some 47)]] [(54, 129), (53, 128), (52, 127), (51, 126), (50, 125), (49, 124), (48, 123), (47, 122), (46, 121), (45, 120), (44, 119), (43, 118), (42, 117), (41, 116), (40, 115), (39, 114), (38, 113), (37, 112), (36, 111), (35, 110), (34, 109), (33, 108), (32, 107), (31, 106), (30, 105), (29, 104), (28, 103), (27, 102), (26, 101), (25, 100), (24, 99), (23, 98), (22, 97), (21, 96), (20, 95), (19, 94), (18, 93), (17, 92), (16, 91), (15, 90), (14, 89), (13, 88), (12, 87), (11, 86), (10, 85), (9, 84), (8, 83), (7, 82), (6, 81), (5, 80), (4, 79), (3, 78), (2, 77), (1, 76), (0, 75)] hh mixed (by kernel_rfl) cG rfl (by repeat (first | exact bX | refine bA ?_ | refine bV ?_)) ?_
 refine ef 12 [_,_,_] ?_
 refine dC (fun _ hj => cj (-7) _ (by decide) (by decide)) ?_
 first | refine bq (i := 2) (fun ρ1 w1 hj hR => vT (show ρ1 75 = Value.agg (List.toArray _) from hR.1) (show ρ1 76 = Value.agg (List.toArray _) from hR.2.1) (by first | assumption | rfl)) ?_ | refine bq (i := 2) (fun ρ1 w1 hj hR => wu (show ρ1 75 = Value.agg (List.toArray _) from hR.1) (show ρ1 76 = Value.agg (List.toArray _) from hR.2.1) (by assumption)) ?_
 refine ie ?_
 first | refine dS ?_ | refine dU ?_ | refine dG (eb ?_)
 first | refine dS ?_ | refine dU ?_ | refine dG (l4 ?_)
 first | refine oR ?_ | refine pj ?_
 refine ie ?_
 first | refine dS ?_ | refine dU ?_ | refine dG (ef 10 [_,_] ?_)
 refine bO (i := 9) rfl (fun ρ1 w1 hj hR => (show ρ1 82 = Value.bool _ from hR.1)) (fun ρ1 w1 hj hR => a3 av.out (aA rfl a9)) (fun w1 hj => cj (2) _ (by decide) (by decide)) ?_
 first | refine dS ?_ | refine dU ?_ | refine dG (dB [_,_,_,_] ?_)
 refine eK (i := 11) (cs := [_, _, _, _]) rfl (fun ρ1 w1 hj hR => (show ρ1 82 = Value.bool _ from hR.2.1)) aF.out aC.out (fun ρ1 w1 hj hR => (bm (show ρ1 85 = Value.agg (List.toArray _) from hR.1) cn)) rfl rfl (by decide) (by decide) rfl ?_
 refine bj (i := 12) (fQ 2 1 (zT [([1, 1], 2)])) (fQ.ext) ?_ ?_
 ·intro ρ1 w1 hj hR
  obtain ⟨A86, c86, h86, s86⟩ := hR.1
  exact cZ rfl (show ρ1 82 = Value.bool _ from hR.2.1) (bW rfl (a3 av.out (aA rfl (aA h86 a9))) (eG 2 A86 1 c86 w1) (fun _ _ hq => ⟨_, hq.1, hq.2, (A86, c86), rfl, s86.ext hq.2⟩))
 refine bj (i := 13) (Is (.bool true)) (Is.ext) ?_ ?_
 ·intro ρ1 w1 hj hR
  exact let ⟨p, e1, s1⟩ := hR.2.1; cZ rfl (show ρ1 82 = Value.bool _ from hR.2.2.1) (bW rfl (a3 av.out (aA (show ρ1 83 = Value.agg _ from hR.1) (aA e1 a9))) (vD [([1, 1], 2)] 2 A4 1 c4 p.1 p.2 w1 (hj.hp.aK (i := 11) rfl) s1 (by decide)) (fun _ _ hq => ⟨_, hq.1, hq.2, rfl⟩))
 first | refine oR ?_ | refine pj ?_
 refine ie ?_
 first | refine dS ?_ | refine dU ?_ | refine dG (eb ?_)
 first | refine dS ?_ | refine dU ?_ | refine dG (l4 ?_)
 first | refine oR ?_ | refine pj ?_
 refine ie ?_
 first | refine dS ?_ | refine dU ?_ | refine dG (ef 8 [_,_] ?_)
 refine bO (i := 21) rfl (fun ρ1 w1 hj hR => (show ρ1 94 = Value.bool _ from hR.1)) (fun ρ1 w1 hj hR => a3 av.out (aA rfl a9)) (fun w1 hj => cj (1) _ (by decide) (by decide)) ?_
 first | refine dS ?_ | refine dU ?_ | refine dG (dB [_,_,_,_] ?_)
 refine eK (i := 23) (cs := [_, _, _, _]) rfl (fun ρ1 w1 hj hR => (show ρ1 94 = Value.bool _ from hR.2.1)) aF.out aC.out (fun ρ1 w1 hj hR => (bm (show ρ1 97 = Value.agg (List.toArray _) from hR.1) cn)) rfl rfl (by decide) (by decide) rfl ?_
 refine bj (i := 24) (fQ 2 1 (zT [([2, 0], 1)])) (fQ.ext) ?_ ?_
 ·intro ρ1 w1 hj hR
  obtain ⟨A98, c98, h98, s98⟩ := hR.1
  exact cZ rfl (show ρ1 94 = Value.bool _ from hR.2.1) (bW rfl (a3 av.out (aA rfl (aA h98 a9))) (eG 2 A98 1 c98 w1) (fun _ _ hq => ⟨_, hq.1, hq.2, (A98, c98), rfl, s98.ext hq.2⟩))
 refine bj (i := 25) (Is (.bool true)) (Is.ext) ?_ ?_
 ·intro ρ1 w1 hj hR
  exact let ⟨p, e1, s1⟩ := hR.2.1; cZ rfl (show ρ1 94 = Value.bool _ from hR.2.2.1) (bW rfl (a3 av.out (aA (show ρ1 95 = Value.agg _ from hR.1) (aA e1 a9))) (vD [([2, 0], 1)] 2 A6 1 c6 p.1 p.2 w1 (hj.hp.aK (i := 9) rfl) s1 (by decide)) (fun _ _ hq => ⟨_, hq.1, hq.2, rfl⟩))
 first | refine oR ?_ | refine pj ?_
 refine ie ?_
 first | refine dS ?_ | refine dU ?_ | refine dG (eb ?_)
 first | refine dS ?_ | refine dU ?_ | refine dG (l4 ?_)
 first | refine oR ?_ | refine pj ?_
 refine ie ?_
 first | refine dS ?_ | refine dU ?_ | refine dG (ef 4 [_,_] ?_)
 refine bO (i := 33) rfl (fun ρ1 w1 hj hR => (show ρ1 106 = Value.bool _ from hR.1)) (fun ρ1 w1 hj hR => a3 av.out (aA rfl a9)) (fun w1 hj => cj (1) _ (by decide) (by decide)) ?_
 first | refine dS ?_ | refine dU ?_ | refine dG (dB [_,_,_,_] ?_)
 refine bO (i := 35) rfl (fun ρ1 w1 hj hR => (show ρ1 106 = Value.bool _ from hR.1)) (fun ρ1 w1 hj hR => a3 av.out (aA rfl a9)) (fun w1 hj => cj (2) _ (by decide) (by decide)) ?_
 first | refine dS ?_ | refine dU ?_ | refine dG (dB [_,_,_,_] ?_)
 refine bO (i := 37) rfl (fun ρ1 w1 hj hR => (show ρ1 106 = Value.bool _ from hR.1)) (fun ρ1 w1 hj hR => a3 av.out (aA rfl a9)) (fun w1 hj => cj (1) _ (by decide) (by decide)) ?_
 first | refine dS ?_ | refine dU ?_ | refine dG (dB [_,_,_,_] ?_)
 refine eK (i := 39) (cs := [_, _, _, _, _, _, _, _, _, _, _, _]) rfl (fun ρ1 w1 hj hR => (show ρ1 106 = Value.bool _ from hR.2.2.2.1)) aF.out aC.out (fun ρ1 w1 hj hR => (bm (show ρ1 109 = Value.agg (List.toArray _) from hR.1) (bm (show ρ1 111 = Value.agg (List.toArray _) from hR.2.1) (bm (show ρ1 113 = Value.agg (List.toArray _) from hR.2.2.1) cn)))) rfl rfl (by decide) (by decide) rfl ?_
 refine bj (i := 40) (fQ 2 3 (zT [([0, 2], 1), ([1, 1], 2), ([2, 0], 1)])) (fQ.ext) ?_ ?_
 ·intro ρ1 w1 hj hR
  obtain ⟨A114, c114, h114, s114⟩ := hR.1
  exact cZ rfl (show ρ1 106 = Value.bool _ from hR.2.1) (bW rfl (a3 av.out (aA rfl (aA h114 a9))) (eG 2 A114 3 c114 w1) (fun _ _ hq => ⟨_, hq.1, hq.2, (A114, c114), rfl, s114.ext hq.2⟩))
 refine bj (i := 41) (Is (.bool true)) (Is.ext) ?_ ?_
 ·intro ρ1 w1 hj hR
  exact let ⟨p, e1, s1⟩ := hR.2.1; cZ rfl (show ρ1 106 = Value.bool _ from hR.2.2.1) (bW rfl (a3 av.out (aA (show ρ1 107 = Value.agg _ from hR.1) (aA e1 a9))) (vD [([0, 2], 1), ([1, 1], 2), ([2, 0], 1)] 2 A9 3 c9 p.1 p.2 w1 (hj.hp.aK (i := 5) rfl) s1 (by decide)) (fun _ _ hq => ⟨_, hq.1, hq.2, rfl⟩))
 first | refine oR ?_ | refine pj ?_
 refine ie ?_
 first | refine dS ?_ | refine dU ?_ | refine dG (eb ?_)
 first | refine dS ?_ | refine dU ?_ | refine dG (l4 ?_)
 first | refine oR ?_ | refine pj ?_
 refine ie ?_
 first | refine dS ?_ | refine dU ?_ | refine dG (ef 2 [_,_] ?_)
 refine bO (i := 49) rfl (fun ρ1 w1 hj hR => (show ρ1 122 = Value.bool _ from hR.1)) (fun ρ1 w1 hj hR => a3 av.out (aA rfl a9)) (fun w1 hj => cj (2) _ (by decide) (by decide)) ?_
 first | refine dS ?_ | refine dU ?_ | refine dG (dB [_,_,_,_] ?_)
 refine bO (i := 51) rfl (fun ρ1 w1 hj hR => (show ρ1 122 = Value.bool _ from hR.1)) (fun ρ1 w1 hj hR => a3 av.out (aA rfl a9)) (fun w1 hj => cj (9) _ (by decide) (by decide)) ?_
 first | refine dS ?_ | refine dU ?_ | refine dG (dB [_,_,_,_] ?_)
 refine eK (i := 53) (cs := [_, _, _, _, _, _, _, _]) rfl (fun ρ1 w1 hj hR => (show ρ1 122 = Value.bool _ from hR.2.2.1)) aF.out aC.out (fun ρ1 w1 hj hR => (bm (show ρ1 125 = Value.agg (List.toArray _) from hR.1) (bm (show ρ1 127 = Value.agg (List.toArray _) from hR.2.1) cn))) rfl rfl (by decide) (by decide) rfl ?_
 refine bj (i := 54) (fQ 1 2 (zT [([0], 2), ([1], 9)])) (fQ.ext) ?_ ?_
 ·intro ρ1 w1 hj hR
  obtain ⟨A128, c128, h128, s128⟩ := hR.1
  exact cZ rfl (show ρ1 122 = Value.bool _ from hR.2.1) (bW rfl (a3 av.out (aA rfl (aA h128 a9))) (eG 1 A128 2 c128 w1) (fun _ _ hq => ⟨_, hq.1, hq.2, (A128, c128), rfl, s128.ext hq.2⟩))
 refine a0 ?_
 intro f W hJ hV _
 have hb_10 := hJ.bl
 obtain ⟨v129, v128, v127, v126, v125, v124, v123, v122, v121, v120, v119, v118, v117, v116, v115, v114, v113, v112, v111, v110, v109, v108, v107, v106, v105, v104, v103, v102, v101, v100, v99, v98, v97, v96, v95, v94, v93, v92, v91, v90, v89, v88, v87, v86, v85, v84, v83, v82, v81, v80, v79, v78, v77, v76, v75, _⟩ := hV
 obtain ⟨A86, c86, e86, f86⟩ : Rows _ _ _ (f 11) W := v86
 obtain ⟨g87, e87, o87⟩ : fQ 2 1 (zT [([1, 1], 2)]) (f 12) W := v87
 obtain ⟨A98, c98, e98, f98⟩ : Rows _ _ _ (f 23) W := v98
 obtain ⟨g99, e99, o99⟩ : fQ 2 1 (zT [([2, 0], 1)]) (f 24) W := v99
 obtain ⟨A114, c114, e114, f114⟩ : Rows _ _ _ (f 39) W := v114
 obtain ⟨g115, e115, o115⟩ : fQ 2 3 (zT [([0, 2], 1), ([1, 1], 2), ([2, 0], 1)]) (f 40) W := v115
 obtain ⟨A128, c128, e128, f128⟩ : Rows _ _ _ (f 53) W := v128
 obtain ⟨g129, e129, o129⟩ : fQ 1 2 (zT [([0], 2), ([1], 9)]) (f 54) W := v129
 replace hh := hJ.hp
 refine aN (a4 (aa e129 (aa e128 (aa v127 (aa v126 (aa v125 (aa v124 (aa v123 (aa v122 (aa v121 (aa v120 (aa v119 (aa v118 (aa v117 (aa v116 (aa e115 (aa e114 (aa v113 (aa v112 (aa v111 (aa v110 (aa v109 (aa v108 (aa v107 (aa v106 (aa v105 (aa v104 (aa v103 (aa v102 (aa v101 (aa v100 (aa e99 (aa e98 (aa v97 (aa v96 (aa v95 (aa v94 (aa v93 (aa v92 (aa v91 (aa v90 (aa v89 (aa v88 (aa e87 (aa e86 (aa v85 (aa v84 (aa v83 (aa v82 (aa v81 (aa v80 (aa v79 (aa v78 (aa v77 (aa v76 (aa v75 aM)))))))))))))))))))))))))))))))))))))))))))))))))))))))) ?_
 dsimp only [ca]
 clear e86 e87 e98 e99 e114 e115 e128 e129 hJ
 refine bu rfl rfl ?_
 refine bG hh (vD [([0], 2), ([1], 9)] 1 A11 2 c11 g129.1 g129.2 _ (hh.aK (i := 3) rfl) o129 (by decide)) rfl ?_
 intro w130 hh
 first | refine cR ?_ | refine cQ ?_
 refine mB ?_
 first | refine gS ?_ | (refine gT ?_; refine mI ?_) | refine gV ?_
 first | refine gS ?_ | (refine gT ?_; refine ck ?_) | refine gV ?_
 first | refine cR ?_ | refine cQ ?_
 refine mB ?_
 first | refine gS ?_ | (refine gT ?_; refine mI ?_) | refine gV ?_
 first | refine gS ?_ | (refine gT ?_; refine ck ?_) | refine gV ?_
 first | refine cR ?_ | refine cQ ?_
 refine mB ?_
 first | refine gS ?_ | (refine gT ?_; refine mI ?_) | refine gV ?_
 first | refine gS ?_ | (refine gT ?_; refine ck ?_) | refine gV ?_
 first | refine cR ?_ | refine cQ ?_
 refine aB (ae (ao ?_))
 refine cA ?_
 exact ⟨rfl, hh.below⟩
end Go.Proofs.YtaapkaefelhfcaaGreatDoor
/- The walk through ogeelaw09.great. -/
namespace Go.Proofs.YtaapkaefelhfcaaGreatDoor
open Go.RowKit
structure CB (p : PX) (ls : List PX) : Prop where
 CX : BB p.ts
 Da : p.ts.length ≤ 6
 ex : ∀ t ∈ p.ts, ∀ c ∈ t.m.data.toList, c.toNat ≤ 3
 four : ls.length ≤ 4
 Aq : ∀ g ∈ ls, BB g.ts ∧ g.ts.length ≤ 3
theorem tA (p : PX) (L : Option Addr) (n c : Nat) (ls : List PX) (w : World) (hp : p.at_ w) (hL : Sl w L n 2 (aQ PX.cells ls)) (hf : ∀ g ∈ ls, g.at_ w) :
  Calls Tryz.prog 27 #[.agg #[.int .i64 p.v, .slice p.A p.n p.c], .slice L n c] w fun r w' => ∃ b : Bool, r = .returned (.bool b) ∧ (b = false → CB p ls) ∧ Below w.heap.size w w' := by
 have hh := Hp.start w
 have hln := hL.cg PX.len (by decide)
 obtain ⟨pv, pA, pn, pc, ts⟩ := p
 have hpl : ts.length = pn := hp.ln
 replace hp : Sl w pA pn 4 (aQ TR.cells ts) := hp
 show Calls Tryz.prog 27 #[.agg #[.int .i64 pv, .slice pA pn pc], .slice L n c] w _
 refine ak (N := 68) (l := [.agg #[.int .i64 pv, .slice pA pn pc], .slice L n c]) Tryz.func27 rfl rfl (by simp) ?_
 refine sr ?_
 refine cK hh [_,_] ?_
 intro b2 w2 hh
 refine aB (ae (ah (sr ?_)))
 refine dh hh 0 [_,_] ?_
 refine aV (mf pv pA pn pc ts _ (hp.ext hh.below)) av.out rfl (by decide) ?_
 rintro e_ w9 ⟨b, rfl, hb, hb_⟩
 refine ⟨_, rfl, ?_⟩
 replace hh := hh.ext hb_
 cases b with
 | true =>
  refine mB ?_
  first | refine gS ?_ | (refine gT ?_; refine bC ?_) | refine gV ?_
  first | refine gS ?_ | (refine gT ?_; refine bH hh 0 ?_) | refine gV ?_
  first | refine gS ?_ | (refine gT ?_; refine aO ?_) | refine gV ?_
  first | refine gS ?_ | (refine gT ?_; refine bY ?_) | refine gV ?_
  first | refine cR ?_ | refine cQ ?_
  refine mB ?_
  first | refine gS ?_ | (refine gT ?_; refine mL ?_) | refine gV ?_
  first | refine gS ?_ | (refine gT ?_; refine aO ?_) | refine gV ?_
  first | refine gS ?_ | (refine gT ?_; refine bY ?_) | refine gV ?_
  first | refine cR ?_ | refine cQ ?_
  refine ae (cT (sr (aB (ae (ao (az ?_))))))
  refine cA ?_
  exact ⟨_, rfl, fun h => (nomatch h), hh.below⟩
 | false =>
  have hsm := hb rfl
  clear hb hb_
  by_cases h6 : 6 < pn
  ·refine mB ?_
   first | refine gS ?_ | (refine gT ?_; refine bC ?_) | refine gV ?_
   first | refine gS ?_ | (refine gT ?_; refine bH hh 0 ?_) | refine gV ?_
   first | refine gS ?_ | (refine gT ?_; refine aO ?_) | refine gV ?_
   first | refine gS ?_ | (refine gT ?_; refine bY ?_) | refine gV ?_
   first | refine cR ?_ | refine cQ ?_
   refine mB ?_
   first | refine gS ?_ | (refine gT ?_; refine mL ?_) | refine gV ?_
   first | refine gS ?_ | (refine gT ?_; refine aO ?_) | refine gV ?_
   first | refine gS ?_ | (refine gT ?_; refine bY ?_) | refine gV ?_
   first | refine cR ?_ | refine cQ ?_
   refine ae (cT (sr (aB (ae (ao (az ?_))))))
   refine cA ?_
   exact ⟨_, rfl, fun h => (nomatch h), hh.below⟩
  ·by_cases h4 : 4 < n
   ·refine mB ?_
    first | refine gS ?_ | (refine gT ?_; refine bC ?_) | refine gV ?_
    first | refine gS ?_ | (refine gT ?_; refine bH hh 0 ?_) | refine gV ?_
    first | refine gS ?_ | (refine gT ?_; refine aO ?_) | refine gV ?_
    first | refine gS ?_ | (refine gT ?_; refine bY ?_) | refine gV ?_
    first | refine cR ?_ | refine cQ ?_
    refine mB ?_
    first | refine gS ?_ | (refine gT ?_; refine mL ?_) | refine gV ?_
    first | refine gS ?_ | (refine gT ?_; refine aO ?_) | refine gV ?_
    first | refine gS ?_ | (refine gT ?_; refine bY ?_) | refine gV ?_
    first | refine cR ?_ | refine cQ ?_
    refine ae (cT (sr (aB (ae (ao (az ?_))))))
    refine cA ?_
    exact ⟨_, rfl, fun h => (nomatch h), hh.below⟩
   ·refine mB ?_
    first | refine gS ?_ | (refine gT ?_; refine bC ?_) | refine gV ?_
    first | refine gS ?_ | (refine gT ?_; refine bH hh 0 ?_) | refine gV ?_
    first | refine gS ?_ | (refine gT ?_; refine aO ?_) | refine gV ?_
    first | refine gS ?_ | (refine gT ?_; refine bY ?_) | refine gV ?_
    first | refine cR ?_ | refine cQ ?_
    refine mB ?_
    first | refine gS ?_ | (refine gT ?_; refine mL ?_) | refine gV ?_
    first | refine gS ?_ | (refine gT ?_; refine aO ?_) | refine gV ?_
    first | refine gS ?_ | (refine gT ?_; refine bY ?_) | refine gV ?_
    first | refine cR ?_ | refine cQ ?_
    refine ae (cF (aj (ai (ah (sr (aI (ae (al ?_))))))))
    refine bs [4, 5, 6, 21, 22, 23, 24, 25, 26, 27, 28, 29, 30, 31, 32, 33, 34, 35, 36, 37, 38, 39, 40, 41, 42, 43, 44, 45, 46, 47] 5
     (fun x w' => ∃ i : Nat, i ≤ pn ∧ x = .int .i64 i ∧ (∀ t ∈ ts.take i, ∀ c ∈ t.m.data.toList, c.toNat ≤ 3) ∧ Hp w [.blk b2 24 [.int .i64 pv, .slice pA pn pc] (0, 0)] w')
     (fun v _ => pn - (intOf v).toNat) ?_ ?_
    ·exact ⟨0, Nat.zero_le _, rfl, fun t ht => (nomatch ht), hh⟩
    ·clear hh
     rintro ρ' x_ w' ⟨i, hi, rfl, hall, hh⟩
     by_cases hlt : i < pn
     ·obtain ⟨x, hx⟩ := aD (l := ts) (k := i) (by omega)
      obtain ⟨ad, rfl, hr⟩ := hp.at_ (by omega)
      have hbm := cw x.m
      have hxs := (hsm.sz x (List.mem_of_getElem? hx))
      refine ah (sr (mI (bC ?_)))
      refine bH hh 0 ?_
      refine aO ?_
      refine aU (ae (cT (aj (ai (ah (al (sr (aI (ae (al ?_))))))))))
      refine bs [4, 6, 28, 29, 30, 31, 32, 33, 34, 35, 36, 37, 38, 39, 40, 41, 42, 43, 44, 45, 46, 47] 6
       (fun y w' => ∃ q : Nat, q ≤ x.m.size ∧ y = .int .i64 q ∧ (∀ c ∈ x.m.data.toList.take q, c.toNat ≤ 3) ∧ Hp w [.blk b2 24 [.int .i64 pv, .slice (some ad) pn pc] (0, 0)] w')
       (fun v _ => x.m.size - (intOf v).toNat) ?_ ?_
      ·exact ⟨0, Nat.zero_le _, rfl, fun t ht => (nomatch ht), hh⟩
      ·clear hh
       rintro ρ' y_ w' ⟨q, hq, rfl, hex, hh⟩
       by_cases hqs : q < x.m.size
       ·obtain ⟨e, he⟩ := aD (l := x.m.data.toList) (k := q) (by omega)
        have he8 : e.toNat < 256 := e.toNat_lt
        refine ah (sr (mI (bC ?_)))
        refine bH hh 0 ?_
        refine mI ?_
        refine aR (k := i) aF.out aC.size rfl rfl (by omega) (by omega) (by decide) ?_
        refine bz dE.out rfl (by decide) ?_
        refine bh aC.out rfl (((hr.ext hh.below).recAt TR.len hx).cell (i := 0) rfl) (by decide) ?_
        refine bg aF.out rfl (by decide) ?_
        refine aU (ae (cT (aj (ai (ah (al (sr (bC ?_))))))))
        refine bH hh 0 ?_
        refine mI ?_
        refine aR (k := i) aF.out aC.size rfl rfl (by omega) (by omega) (by decide) ?_
        refine bz dE.out rfl (by decide) ?_
        refine bh aC.out rfl (((hr.ext hh.below).recAt TR.len hx).cell (i := 0) rfl) (by decide) ?_
        by_cases h3 : 3 < e.toNat
        ·refine mI ?_
         refine bo aF.out rfl rfl (by omega) (by assumption) (by decide) ?_
         refine bY (ae (cT (sr (aB (ae (ao (br (az (az (br (br ?_)))))))))))
         refine az (az (br (az ?_)))
         refine cA ?_
         exact ⟨_, rfl, fun h => (nomatch h), hh.below⟩
        ·refine mI ?_
         refine bo aF.out rfl rfl (by omega) (by assumption) (by decide) ?_
         refine bY (ae (cF (aj (aW (ai (aq (mI ?_)))))))
         refine bL (aI (aE (ai ?_)))
         refine ⟨⟨q + 1, by omega, rfl, fun c hc => ?_, hh⟩, by show x.m.size - (q + 1) < x.m.size - q; omega, ?_⟩
         ·rw [aJ he] at hc
          rcases List.mem_append.1 hc with hc | hc
          ·exact hex c hc
          ·rw [List.mem_singleton.1 hc]; omega
         ·(repeat (first | exact aw _ _ _ | refine ax rfl ?_ | refine ar rfl ?_))
       ·refine ah (sr (mI (bC ?_)))
        refine bH hh 0 ?_
        refine mI ?_
        refine aR (k := i) aF.out aC.size rfl rfl (by omega) (by omega) (by decide) ?_
        refine bz dE.out rfl (by decide) ?_
        refine bh aC.out rfl (((hr.ext hh.below).recAt TR.len hx).cell (i := 0) rfl) (by decide) ?_
        rw [List.take_of_length_le (by omega)] at hex
        refine bg aF.out rfl (by decide) ?_
        refine aU (ae (cF ?_))
        refine aP ?_
        refine ay (ay (a6 (aW (ai (aq (mI ?_))))))
        refine bL (aI (aE (ai ?_)))
        refine ⟨⟨i + 1, by omega, rfl, fun t ht => ?_, hh⟩, by show pn - (i + 1) < pn - i; omega, ?_⟩
        ·rw [aJ hx] at ht
         rcases List.mem_append.1 ht with ht | ht
         ·exact hall t ht
         ·rw [List.mem_singleton.1 ht]; exact hex
        ·(repeat (first | exact aw _ _ _ | refine ax rfl ?_ | refine ar rfl ?_))
     ·rw [List.take_of_length_le (by omega)] at hall
      refine ah (sr (mI (bC ?_)))
      refine bH hh 0 ?_
      refine aO ?_
      refine aU (ae (cF ?_))
      refine aP ?_
      refine ay (ay (a6 (ai (ah (sr (aI (ae (al ?_))))))))
      refine bs [4, 7, 48, 49, 50, 51, 52, 53, 54, 55, 56, 57, 58, 59, 60, 61, 62, 63, 64, 65, 66, 67] 7
       (fun x w' => ∃ i : Nat, i ≤ n ∧ x = .int .i64 i ∧ (∀ g ∈ ls.take i, BB g.ts ∧ g.ts.length ≤ 3) ∧ Hp w [.blk b2 24 [.int .i64 pv, .slice pA pn pc] (0, 0)] w')
       (fun v _ => n - (intOf v).toNat) ?_ ?_
      ·exact ⟨0, Nat.zero_le _, rfl, fun t ht => (nomatch ht), hh⟩
      ·clear hh
       rintro ρ' x_ w' ⟨j, hj, rfl, hls, hh⟩
       by_cases hlt2 : j < n
       ·obtain ⟨g, hx⟩ := aD (l := ls) (k := j) (by omega)
        obtain ⟨ad, rfl, hr⟩ := hL.at_ (by omega)
        have hga := hf g (List.mem_of_getElem? hx)
        have hgl : g.ts.length = g.n := hga.ln
        refine ah (sr (mI (mL (aO ?_))))
        refine aU (ae (cT (aj (ai (ah (al (sr (mL (mI ?_)))))))))
        refine aR (k := j) aF.out aC.size rfl rfl (by omega) (by omega) (by decide) ?_
        refine bQ (vs := [_, _]) aC.out rfl ((hr.ext hh.below).recAt PX.len hx) rfl (by decide) ?_
        refine aV (mf g.v g.A g.n g.c g.ts _ (hga.ext hh.below)) av.out rfl (by decide) ?_
        rintro e_ w58 ⟨b, rfl, hb, hb_⟩
        refine ⟨_, rfl, ?_⟩
        replace hh := hh.ext hb_
        cases b with
        | true =>
         refine mB ?_
         first | refine gS ?_ | (refine gT ?_; refine mL ?_) | refine gV ?_
         first | refine gS ?_ | (refine gT ?_; refine mI ?_) | refine gV ?_
         first | refine gS ?_ | (refine gT ?_; refine aR (k := j) aF.out aC.size rfl rfl (by omega) (by omega) (by decide) ?_) | refine gV ?_
         first | refine gS ?_ | (refine gT ?_; refine bz dE.out rfl (by decide) ?_) | refine gV ?_
         refine cm (by decide) rfl rfl (by decide) ?_
         first | refine gS ?_ | (refine gT ?_; refine aO ?_) | refine gV ?_
         first | refine gS ?_ | (refine gT ?_; refine bY ?_) | refine gV ?_
         first | refine cR ?_ | refine cQ ?_
         refine ae (cT (sr (aB (ae (ao (br (az (az (br (az ?_))))))))))
         refine cA ?_
         exact ⟨_, rfl, fun h => (nomatch h), hh.below⟩
        | false =>
         have hs2 := hb rfl
         clear hb hb_
         refine mB ?_
         first | refine gS ?_ | (refine gT ?_; refine mL ?_) | refine gV ?_
         first | refine gS ?_ | (refine gT ?_; refine mI ?_) | refine gV ?_
         first | refine gS ?_ | (refine gT ?_; refine aR (k := j) aF.out aC.size rfl rfl (by omega) (by omega) (by decide) ?_) | refine gV ?_
         first | refine gS ?_ | (refine gT ?_; refine bz dE.out rfl (by decide) ?_) | refine gV ?_
         refine bu rfl rfl ?_
         refine bh aC.out rfl (((hr.ext hh.below).recAt PX.len hx).cell (i := 1) rfl) (by decide) ?_
         by_cases h3 : 3 < g.n
         ·first | refine gS ?_ | (refine gT ?_; refine aO ?_) | refine gV ?_
          first | refine gS ?_ | (refine gT ?_; refine bY ?_) | refine gV ?_
          first | refine cR ?_ | refine cQ ?_
          refine ae (cT (sr (aB (ae (ao (br (az (az (br (az ?_))))))))))
          refine cA ?_
          exact ⟨_, rfl, fun h => (nomatch h), hh.below⟩
         ·first | refine gS ?_ | (refine gT ?_; refine aO ?_) | refine gV ?_
          first | refine gS ?_ | (refine gT ?_; refine bY ?_) | refine gV ?_
          first | refine cR ?_ | refine cQ ?_
          refine ae (cF (aj (aW (ai (aq (mI ?_))))))
          refine bL (aI (aE (ai ?_)))
          refine ⟨⟨j + 1, by omega, rfl, fun z hz => ?_, hh⟩, by show n - (j + 1) < n - j; omega, ?_⟩
          ·rw [aJ hx] at hz
           rcases List.mem_append.1 hz with hz | hz
           ·exact hls z hz
           ·rw [List.mem_singleton.1 hz]; exact ⟨hs2, by omega⟩
          ·(repeat (first | exact aw _ _ _ | refine ax rfl ?_ | refine ar rfl ?_))
       ·rw [List.take_of_length_le (by omega)] at hls
        refine ah (sr (mI (mL (aO ?_))))
        refine aU (ae (cF ?_))
        refine aP ?_
        refine ay (ay (a6 (ai (sr (aB (ae (ao ?_)))))))
        refine cA ?_
        exact ⟨_, rfl, fun _ => ⟨hsm, by show ts.length ≤ 6; omega, hall, by omega, hls⟩, hh.below⟩
end Go.Proofs.YtaapkaefelhfcaaGreatDoor
/- The walk through ogeeref08.Add. -/
namespace Go.Proofs.YtaapkaefelhfcaaGreatDoor
open Go.RowKit
theorem sD (L : Option Addr) (n c : Nat) (ps : List PX) (k : Nat) (w : World) (hL : Sl w L n 2 (aQ PX.cells ps)) (hn : n ≤ 20) (hf : ∀ g ∈ ps, g.at_ w) (hl : ∀ g ∈ ps, g.jO k) (hk : k ≤ 2999000) :
  Calls Tryz.prog 152 #[.slice L n c] w fun r w' => ∃ g : PX, cC (sS ps) (fa ps) (aT (oW ps)) g ∧ r = .returned (.tuple #[.agg #[.int .i64 g.v, .slice g.A g.n g.c], .int .i64 (sS ps)]) ∧ Hp w [g.row] w' := by
 have hh := Hp.start w
 have hln := hL.cg PX.len (by decide)
 have hlk := fun w1 hb => mj L n c ps k w1 (hL.ext hb) (by omega) (fun g hg => (hf g hg).ext hb) hl
 unfold sS
 by_cases h0 : er ps = 0
 ·rw [if_pos h0]
  rw [h0] at hlk
  obtain ⟨hne, hev, hvv⟩ := lz h0
  have hpos := List.length_pos_iff.2 hne
  obtain ⟨g0, h00⟩ := aD (l := ps) (k := 0) hpos
  rw [lX h00]
  have hflt : ∀ i, i ≤ n → ((ps.take i).flatMap PX.ts).length ≤ i * 4096 := fun i hi => by
   have := nD (f := PX.ts) (B := 4096) (l := ps.take i) fun g hg => (dZ (hev g (List.mem_of_mem_take hg))).2.1
   rwa [List.length_take, Nat.min_eq_left (by omega)] at this
  obtain ⟨ad, rfl, hr⟩ := hL.at_ (by omega)
  refine ak (N := 34) (l := [.slice (some ad) n c]) Tryz.func152 rfl rfl (by simp) ?_
  refine sr ?_
  refine cv hh ?_
  intro b2 w2 hh
  refine aI (ae (ah (sr (mL ?_))))
  refine bG hh (hlk _ hh.below) rfl ?_
  intro w8 hh
  refine aI (ae (sr (mI ?_)))
  refine cE (ae (cF (aj (ai (sr (aL (ae (ah (sr (aI (ae ?_)))))))))))
  refine al ?_
  replace hh := hh.di 55 4
  refine ct [5, 6, 13, 14, 15, 16, 17, 18, 19, 20, 21, 22, 23, 24, 25] 5 6
   (fun a x w' => ∃ (i : Nat) (M : List TR) (A' : Option Addr) (c' : Nat), i ≤ n ∧ x = .int .i64 i ∧ a = .slice A' M.length c' ∧ M = (ps.take i).flatMap PX.ts ∧ Hp w [.row A' M.length c' 55 4 (aQ TR.cells M), .blk b2 24 [.int .i64 0, .slice none 0 0] (0, 0)] w')
   (fun _ x _ => n - (intOf x).toNat) ?_ ?_
  ·exact ⟨0, [], none, 0, Nat.zero_le _, rfl, rfl, rfl, hh⟩
  ·clear hh
   rintro ρ' a_ x_ w' ⟨i, M, A', c', hi, rfl, rfl, hM, hh⟩
   have hML := hflt i hi
   rw [← hM] at hML
   by_cases hlt : i < n
   ·obtain ⟨g, hx⟩ := aD (l := ps) (k := i) (by omega)
    have hmem := List.mem_of_getElem? hx
    have hgn := (hl g hmem).n
    have hgl := (hf g hmem).ln
    have oc1 := bf TR.one g.ts
    refine ah (sr (mI (mL (aO ?_))))
    refine aU (ae (cT (aj (ai (ah (al (aq (mL (mL (mI ?_))))))))))
    refine cJ aF.out aC.size rfl rfl (by omega) (by omega) (by decide) ?_
    refine bz dE.out rfl (by decide) ?_
    refine bh aC.out rfl (((hr.ext hh.below).recAt PX.len hx).cell (i := 1) rfl) (by decide) ?_
    refine bF hh (i := 0) rfl rfl rfl ((hf g hmem).ext hh.below) aF.out aC.out rfl (by decide) ?one14 (by omega) (by omega) (by decide) ?kk14
    case one14 => first | rfl | assumption | exact oneCells_i64s _ | exact oneCells_u8s _
    intro A25 c25 w25 hh
    simp only [List.set_cons_zero] at hh
    refine aL (aE (aW (ai (aq (mI ?_)))))
    refine bL (aI (aE (ai ?_)))
    refine ⟨⟨i + 1, M ++ g.ts, A25, c25, by omega, rfl, by rw [List.length_append, hgl]; rfl, by rw [qK hx, hM], by rw [List.length_append, hgl, bR]; exact hh⟩, by show n - (i + 1) < n - i; omega, ?_⟩
    (repeat (first | exact aw _ _ _ | refine ax rfl ?_ | refine ar rfl ?_))
   ·obtain rfl : i = n := by omega
    rw [List.take_of_length_le (by omega)] at hM
    have hMf : M = oW ps := hM
    rw [← hMf]
    refine ah (sr (mI (mL (aO ?_))))
    refine aU (ae (cF ?_))
    refine aP ?_
    refine ay (ay (a6 (ai (sr (mL ?_)))))
    refine cJ aF.out aC.size rfl rfl (by omega) (by omega) (by decide) ?_
    refine bz dE.out rfl (by decide) ?_
    refine bh aC.out rfl (((hr.ext hh.below).recAt PX.len h00).cell (i := 0) rfl) (by decide) ?_
    refine mL ?_
    have hMo : gi k M := fun t ht => by
     rw [hM] at ht
     obtain ⟨g, hg, ht⟩ := List.mem_flatMap.1 ht
     exact (hl g hg).ok t ht
    refine aV (ja g0.v A' M.length c' M k _ (hh.aK (i := 0) rfl) (by omega) hMo (by omega)) av.out rfl (by decide) ?_
    rintro e_ w31 ⟨g, og, rfl, h3⟩
    refine ⟨_, rfl, ?_⟩
    replace hh := hh.join h3
    simp only [List.cons_append, List.nil_append] at hh
    refine dp ?_
    refine dp ?_
    refine bE hh 2 [_,_] ?_
    intro ws hh
    replace hh : Hp _ (_ :: _ :: .blk _ _ [_, _] _ :: _) _ := hh
    refine aI (ae (ao ?_))
    refine gL (aG rfl (aH (vs := [_, _]) aC.out (hh.au (i := 2) (n := 2) rfl rfl) rfl) (bS (cf rfl) a7)) ?_
    exact ⟨g, og, rfl, hh.sub (List.Sublist.cons_cons _ (List.nil_sublist _))⟩
 ·rw [if_neg h0]
  generalize er ps = e at *
  refine ak (N := 34) (l := [.slice L n c]) Tryz.func152 rfl rfl (by simp) ?_
  refine sr ?_
  refine cv hh ?_
  intro b2 w2 hh
  refine aI (ae (ah (sr (mL ?_))))
  refine bG hh (hlk _ hh.below) rfl ?_
  intro w8 hh
  refine aI (ae (sr (mI ?_)))
  refine cE (ae (cT (sr ?_)))
  refine ep [_,_] (mI ?_)
  refine bE hh 0 [_,_] ?_
  intro ws hh
  replace hh : Hp _ (.blk _ _ [_, _] _ :: _) _ := hh
  refine aI (ae (ao (az ?_)))
  refine gL (aG rfl (aH (vs := [_, _]) aC.out (hh.au (i := 0) (n := 2) rfl rfl) rfl) (bS (cf rfl) a7)) ?_
  exact ⟨PX.nil, cC.err h0, rfl, (hh.sub (List.nil_sublist _)).fP⟩
end Go.Proofs.YtaapkaefelhfcaaGreatDoor
/- The walks through the document's with and put (ogeeref09). -/
namespace Go.Proofs.YtaapkaefelhfcaaGreatDoor
open Go.RowKit
theorem xL {p : List TR} {j m i : Nat} {x : TR} (h : p[i]? = some x) : bK (p.take (i + 1)) j m = bK (p.take i) j m ++ if kZ j x = m then [x] else [] := by
 unfold bK
 rw [aJ h, List.filter_append]
 by_cases hx : kZ j x = m
 ·rw [if_pos hx, List.filter_cons_of_pos (by simpa using hx)]; rfl
 ·rw [if_neg hx, List.filter_cons_of_neg (by simpa using hx)]; rfl
theorem tF (p : List TR) (j m : Nat) : (bK p j m).length ≤ p.length := List.length_filter_le _ _
theorem sk (p : List TR) (A : Option Addr) (n c j m : Nat) (v : Int) (w : World) (hS : Sl w A n 4 (aQ TR.cells p)) (hsr : wV v j p) (hj : (j : Int) < v) (hn : n ≤ 100000) :
  Calls Tryz.prog 192 #[.slice A n c, .int .i64 j, .int .i64 m] w fun r w' => ∃ (B : Option Addr) (b : Nat), r = .returned (.slice B (bK p j m).length b) ∧ Hp w [.row B (bK p j m).length b 55 4 (aQ TR.cells (bK p j m))] w' := by
 have hh := Hp.start w
 have hln := hS.cg TR.len (by decide)
 refine ak (N := 33) (l := [.slice A n c, .int .i64 j, .int .i64 m]) Tryz.func192 rfl rfl (by simp) ?_
 refine sr (aL (ae (sr (aL (ae (ah (sr (aI (ae (al ?_))))))))))
 replace hh := hh.di 55 4
 refine ct [7, 8, 9, 10, 11, 12, 13, 14, 15, 16, 17, 18, 19, 20, 21, 22, 23, 24, 25, 26, 27, 28, 29, 30, 31] 7 8
  (fun a x w' => ∃ (i : Nat) (M : List TR) (B : Option Addr) (b : Nat), i ≤ n ∧ x = .int .i64 i ∧ a = .slice B M.length b ∧ M = bK (p.take i) j m ∧ Hp w [.row B M.length b 55 4 (aQ TR.cells M)] w')
  (fun _ x _ => n - (intOf x).toNat) ?_ ?_
 ·exact ⟨0, [], none, 0, Nat.zero_le _, rfl, rfl, rfl, hh⟩
 ·clear hh
  rintro ρ' a_ x_ w' ⟨i, M, B, b, hi, rfl, rfl, hM, hh⟩
  have hML : M.length ≤ i := by rw [hM]; exact Nat.le_trans (tF _ _ _) (by rw [List.length_take]; omega)
  by_cases hlt : i < n
  ·obtain ⟨x, hx⟩ := aD (l := p) (k := i) (by omega)
   obtain ⟨e, hex, hxe, h8⟩ := hsr.get hj (List.mem_of_getElem? hx)
   obtain ⟨ad, rfl, hr⟩ := hS.at_ (by omega)
   have hsn := xL (j := j) (m := m) hx
   rw [← hM, hxe] at hsn
   by_cases hem : e.toNat = m
   ·rw [if_pos hem] at hsn
    refine ah (sr (mI (mL (aO ?_))))
    refine aU (ae (cT (aj (ai (ah (al (sr (mL (mI ?_)))))))))
    refine aR (k := i) aF.out aC.size rfl rfl (by omega) (by omega) (by decide) ?_
    refine bz dE.out rfl (by decide) ?_
    refine bh aC.out rfl (((hr.ext hh.below).recAt TR.len hx).cell (i := 0) rfl) (by decide) ?_
    refine mI ?_
    refine bo aF.out rfl rfl (by omega) (by assumption) (by decide) ?_
    refine cP aF.out aF.out rfl (by omega) (by omega) (by decide) ?_
    refine mI ?_
    refine ck (ae (cT (aq (mL (mL (mI ?_))))))
    refine aR (k := i) aF.out aC.size rfl rfl (by omega) (by omega) (by decide) ?_
    refine bQ (vs := [_, _, _, _]) aC.out rfl ((hr.ext hh.below).recAt TR.len hx) rfl (by decide) ?_
    refine bB hh (cs := [_, _, _, _]) aF.out aC.out (bm (dM rfl) cn) rfl rfl (by decide) (by decide) (by decide) rfl (by decide) ?_
    intro b30 w30 hh
    refine bF hh (i := 1) rfl rfl rfl (hh.aK (i := 0) rfl) aF.out aC.out rfl (by decide) (by first | rfl | exact bU _ | exact bI _ | exact oneCells_i64s _ | exact bf NR.one _) (by omega) (by omega) (by decide) ?_
    intro A31 c31 w31 hh
    simp only [List.set_cons_zero, List.set_cons_succ] at hh
    replace hh := hh.sub (List.sublist_cons_self _ _)
    refine aL (aE (aW (ai (aq (mI ?_)))))
    refine bL (aI (aE (ai ?_)))
    refine ⟨⟨i + 1, M ++ [x], A31, c31, by omega, rfl, by rw [List.length_append]; rfl, hsn.symm, by rw [List.length_append, bR, fB]; exact hh⟩, by show n - (i + 1) < n - i; omega, ?_⟩
    (repeat (first | exact aw _ _ _ | refine ax rfl ?_ | refine ar rfl ?_))
   ·rw [if_neg hem, List.append_nil] at hsn
    refine ah (sr (mI (mL (aO ?_))))
    refine aU (ae (cT (aj (ai (ah (al (sr (mL (mI ?_)))))))))
    refine aR (k := i) aF.out aC.size rfl rfl (by omega) (by omega) (by decide) ?_
    refine bz dE.out rfl (by decide) ?_
    refine bh aC.out rfl (((hr.ext hh.below).recAt TR.len hx).cell (i := 0) rfl) (by decide) ?_
    refine mI ?_
    refine bo aF.out rfl rfl (by omega) (by assumption) (by decide) ?_
    refine cP aF.out aF.out rfl (by omega) (by omega) (by decide) ?_
    refine mI ?_
    refine ck (ae (cF (aj (aW (ai (aq (mI ?_)))))))
    refine bL (aI (aE (ai ?_)))
    refine ⟨⟨i + 1, M, B, b, by omega, rfl, rfl, hsn.symm, hh⟩, by show n - (i + 1) < n - i; omega, ?_⟩
    (repeat (first | exact aw _ _ _ | refine ax rfl ?_ | refine ar rfl ?_))
  ·obtain rfl : i = n := by omega
   rw [List.take_of_length_le (by omega)] at hM
   rw [← hM]
   refine ah (sr (mI (mL (aO ?_))))
   refine aU (ae (cF ?_))
   refine aP ?_
   refine ay (ay (a6 (ai (sr (mL (aL (ae (ao ?_))))))))
   refine cA ?_
   exact ⟨_, _, rfl, hh⟩
theorem uq (lA : Option Addr) (lc K T c0 : Nat) (v : Int) (ls : List PX) (hv : gD v = true) (hl12 : ls.length ≤ 12) (hls : ∀ g ∈ ls, jS v K g.ts ∧ g.v = v ∧ g.jO K ∧ g.ts.length ≤ T) (hc0 : K + 4096 * T + 8192 ≤ c0) (hc1 : c0 ≤ 440000) :
  ∀ (qs : List PX) (j : Nat) (p : List TR) (A : Option Addr) (n c : Nat) (ds : List Nat) (k : Nat) (w : World), ls.drop j = qs → j ≤ ls.length → Sl w lA ls.length 2 (aQ PX.cells ls) → (∀ g ∈ ls, g.at_ w) → Sl w A n 4 (aQ TR.cells p) → wV ls.length j p → gi k p → n ≤ 4096 → ds.length = qs.length → (∀ (i d : Nat), ds[i]? = some d → d ≤ 127 ∧ ∀ t ∈ p, kZ (j + i) t ≤ d) → hF c0 ds (k + 1) ≤ 440000 →
  Calls Tryz.prog 100 #[.slice A n c, .int .i64 j, .slice lA ls.length lc, .int .i64 v] w fun r w' => ∃ g : PX, cC (eV v (qs.map PX.ts) j p).1 v (eV v (qs.map PX.ts) j p).2 g ∧ r = .returned (.tuple #[.agg #[.int .i64 g.v, .slice g.A g.n g.c], .int .i64 (eV v (qs.map PX.ts) j p).1]) ∧ Hp w [g.row] w' := by
 intro qs
 have hK : K ≤ 440000 := by omega
 have hco : lB v = 0 := if_neg (by rw [hv]; decide)
 induction qs with
 | nil =>
  intro j p A n c ds k w hq hj hL hat hS hsr hok hn hds hD hB
  have hh := Hp.start w
  have hln := hS.cg TR.len (by decide)
  obtain rfl : j = ls.length := by
   have := congrArg List.length hq
   rw [List.length_drop] at this
   simp only [List.length_nil] at this
   omega
  obtain rfl : ds = [] := List.length_eq_zero_iff.1 hds
  rw [jj] at hB
  have hcn := fun c hc w1 => pK v c k w1 hc (by omega)
  rw [hco] at hcn
  cases p with
  | nil =>
   obtain rfl : n = 0 := by simpa using hln.symm
   show Calls _ _ _ _ fun r w' => ∃ g : PX, cC 0 v (aT [⟨eZ v, nR 0⟩]) g ∧ r = .returned (.tuple #[.agg #[.int .i64 g.v, .slice g.A g.n g.c], .int .i64 0]) ∧ Hp w [g.row] w'
   rw [nh]
   refine ak (N := 94) (l := [.slice A 0 c, .int .i64 ls.length, .slice lA ls.length lc, .int .i64 v]) Tryz.func100 rfl rfl (by simp) ?_
   refine sr ?_
   refine cv hh ?_
   intro b8 w8 hh
   refine aI (ae (sr (mI ?_)))
   refine ep [_,_] ?_
   refine cv hh ?_
   intro b10 w10 hh
   refine bE hh 0 [_,_] ?_
   intro ws hh
   replace hh : Hp _ (.blk _ _ [_, _] _ :: _) _ := hh
   refine ae (ah (sr (mI (mL (aO ?_)))))
   refine ck (ae (cT (ah (sr (aI (ae (al ?_)))))))
   refine bs [9, 11, 23, 24, 25, 26, 27, 28, 29, 30, 31, 32, 33, 34, 35, 36, 37] 11
    (fun x w' => x = .int .i64 0 ∧ Hp w [.blk b10 24 [.int .i64 v, .slice none 0 0] (0, 0), .blk b8 24 [.int .i64 0, .slice none 0 0] (0, 0)] w')
    (fun _ _ => 0) ?_ ?_
   ·exact ⟨rfl, hh⟩
   ·clear hh
    rintro ρ' x_ w' ⟨rfl, hh⟩
    refine ah (sr (mI (mL (aO ?_))))
    refine aU (ae (cF ?_))
    refine aP ?_
    refine ay (ay (a6 (ai (sr ?_))))
    refine dh hh 0 [_,_] ?_
    refine bE hh 1 [_,_] ?_
    intro ws hh
    replace hh : Hp _ (_ :: .blk _ _ [_, _] _ :: _) _ := hh
    refine aI (ae (ao (az ?_)))
    refine gL (aG rfl (aH (vs := [_, _]) aC.out (hh.au (i := 1) (n := 2) rfl rfl) rfl) (bS (cf rfl) a7)) ?_
    exact ⟨⟨v, none, 0, 0, []⟩, ⟨rfl, rfl⟩, rfl, (hh.sub (List.nil_sublist _)).fP⟩
  | cons t p =>
   have hn1 : p.length + 1 = n := by simpa using hln
   have ht := hok t List.mem_cons_self
   obtain ⟨ad, rfl, hr⟩ := hS.at_ (by omega)
   show Calls _ _ _ _ fun r w' => ∃ g : PX, cC 0 v (aT [⟨eZ v, t.c⟩]) g ∧ r = .returned (.tuple #[.agg #[.int .i64 g.v, .slice g.A g.n g.c], .int .i64 0]) ∧ Hp w [g.row] w'
   refine ak (N := 94) (l := [.slice (some ad) n c, .int .i64 ls.length, .slice lA ls.length lc, .int .i64 v]) Tryz.func100 rfl rfl (by simp) ?_
   refine sr ?_
   refine cv hh ?_
   intro b8 w8 hh
   refine aI (ae (sr (mI ?_)))
   refine ep [_,_] ?_
   refine cv hh ?_
   intro b10 w10 hh
   refine bE hh 0 [_,_] ?_
   intro ws hh
   replace hh : Hp _ (.blk _ _ [_, _] _ :: _) _ := hh
   refine ae (ah (sr (mI (mL (aO ?_)))))
   refine ck (ae (cT (ah (sr (aI (ae (al ?_)))))))
   refine bs [9, 11, 23, 24, 25, 26, 27, 28, 29, 30, 31, 32, 33, 34, 35, 36, 37] 11
    (fun x w' => x = .int .i64 0 ∧ Hp w [.blk b10 24 [.int .i64 v, .slice none 0 0] (0, 0), .blk b8 24 [.int .i64 0, .slice none 0 0] (0, 0)] w')
    (fun _ _ => 0) ?_ ?_
   ·exact ⟨rfl, hh⟩
   ·clear hh
    rintro ρ' x_ w' ⟨rfl, hh⟩
    refine ah (sr (mI (mL (aO ?_))))
    refine aU (ae (cT (aj (ai (ah (al (sr (mI (mL (mI ?_))))))))))
    refine aR (k := 0) aF.out aC.size rfl rfl (by omega) (by omega) (by decide) ?_
    refine bz dE.out rfl (by decide) ?_
    refine bQ (vs := [_, _, _]) aC.out rfl (((hr.ext hh.below).recAt TR.len (show (t :: p)[0]? = some t from rfl)).drop 1) rfl (by decide) ?_
    refine aV (hcn t.c ht _) av.out rfl (by decide) ?_
    rintro e_ w35 ⟨g, og, rfl, h3⟩
    refine ⟨_, rfl, ?_⟩
    replace hh := hh.join h3
    simp only [List.cons_append, List.nil_append] at hh
    refine dp ?_
    refine dp ?_
    refine bE hh 2 [_,_] ?_
    intro ws hh
    replace hh : Hp _ (_ :: _ :: .blk _ _ [_, _] _ :: _) _ := hh
    refine aI (ae (ao (br (az (az (br (az (az ?_))))))))
    refine gL (aG rfl (aH (vs := [_, _]) aC.out (hh.au (i := 2) (n := 2) rfl rfl) rfl) (bS (cf rfl) a7)) ?_
    exact ⟨g, og, rfl, hh.sub (List.Sublist.cons_cons _ (List.nil_sublist _))⟩
 | cons q qs ih =>
  intro j p A n c ds k w hq hj hL hat hS hsr hok hn hds hD hB
  have hh := Hp.start w
  have hln := hS.cg TR.len (by decide)
  cases ds with
  | nil => cases hds
  | cons d ds =>
   have hd := hD 0 d rfl
   have hjl : j < ls.length := by
    rcases Nat.lt_or_ge j ls.length with h | h
    ·exact h
    ·rw [List.drop_of_length_le h] at hq; cases hq
   have hqj : ls[j]? = some q := by rw [← List.head?_drop, hq]; rfl
   have hqs : ls.drop (j + 1) = qs := by rw [← List.tail_drop, hq]; rfl
   obtain ⟨hqk, hqv, hql, hqT⟩ := hls q (List.mem_of_getElem? hqj)
   rw [iC] at hB
   have hB1 : hF c0 ds (k + 1) ≤ 440000 := by omega
   rw [List.map_cons]
   show Calls _ _ _ _ fun r w' => ∃ g : PX, cC (cx q.ts (eV v (qs.map PX.ts) (j + 1)) p j 128).1 v (cx q.ts (eV v (qs.map PX.ts) (j + 1)) p j 128).2 g ∧ r = .returned (.tuple #[.agg #[.int .i64 g.v, .slice g.A g.n g.c], .int .i64 (cx q.ts (eV v (qs.map PX.ts) (j + 1)) p j 128).1]) ∧ Hp w [g.row] w'
   have hDs : ∀ n (i e : Nat), ds[i]? = some e → e ≤ 127 ∧ ∀ t ∈ bK p j n, kZ (j + 1 + i) t ≤ e := fun n i e he => by
    have h2 := hD (i + 1) e (by simpa using he)
    refine ⟨h2.1, fun t ht => ?_⟩
    have h3 := h2.2 t (gC t ht)
    rwa [show j + 1 + i = j + (i + 1) by omega]
   have hrec : ∀ (m : Nat) (B : Option Addr) (b : Nat) (w1 : World), Below w.heap.size w w1 → Sl w1 B (bK p j m).length 4 (aQ TR.cells (bK p j m)) → Calls Tryz.prog 100 #[.slice B (bK p j m).length b, .int .i64 ((j : Int) + 1), .slice lA ls.length lc, .int .i64 v] w1 fun r w' => ∃ g : PX, cC (eV v (qs.map PX.ts) (j + 1) (bK p j m)).1 v (eV v (qs.map PX.ts) (j + 1) (bK p j m)).2 g ∧ r = .returned (.tuple #[.agg #[.int .i64 g.v, .slice g.A g.n g.c], .int .i64 (eV v (qs.map PX.ts) (j + 1) (bK p j m)).1]) ∧ Hp w1 [g.row] w' := fun m B b w1 hb hs => by
    have hwl := tF p j m
    exact ih (j + 1) (bK p j m) _ _ b ds k w1 hqs (by omega) (hL.ext hb) (fun g hg => (hat g hg).ext hb) hs (hsr.with (by omega)) (fun t ht => hok t (gC t ht)) (by omega) (by simpa using hds) (hDs m) hB1
   have hsub : ∀ m, (eV v (qs.map PX.ts) (j + 1) (bK p j m)).1 = 0 → jS v (hF c0 ds (k + 1)) (eV v (qs.map PX.ts) (j + 1) (bK p j m)).2 := fun m hm => by
    refine vt hv hc0 (qs.map PX.ts) (j + 1) (bK p j m) ds k (fun r hr => ?_) (fun t ht => hok t (gC t ht)) (by rw [List.length_map]; simpa using hds) (hDs m) (by omega) hm
    obtain ⟨g, hg, rfl⟩ := List.mem_map.1 hr
    have := hls g (List.mem_of_mem_drop (by rw [hqs]; exact hg))
    exact ⟨this.1, this.2.2.2⟩
   generalize eV v (qs.map PX.ts) (j + 1) = sub at hrec hsub ⊢
   have hlim := l6 (sub := sub) (p := p) (j := j) hv hqk hqT hd.2 hd.1 hsub hc0 (by omega)
   have hlim2 : ∀ i, i ≤ 128 → (cx q.ts sub p j i).1 = 0 → jS v 440000 (cx q.ts sub p j i).2 := fun i hi h0 => (hlim i hi h0).mono (by
    have : (i + d - 128) * c0 ≤ d * c0 := Nat.mul_le_mul_right _ (by omega)
    omega)
   obtain ⟨lad, rfl, hlr⟩ := hL.at_ (by omega)
   have hsd := qM (q := q.ts) (sub := sub) (p := p) (j := j)
   refine ak (N := 94) (l := [.slice A n c, .int .i64 j, .slice (some lad) ls.length lc, .int .i64 v]) Tryz.func100 rfl rfl (by simp) ?_
   refine sr ?_
   refine cv hh ?_
   intro b8 w8 hh
   refine aI (ae (sr (mI ?_)))
   refine ep [_,_] ?_
   refine cv hh ?_
   intro b10 w10 hh
   refine bE hh 0 [_,_] ?_
   intro ws hh
   replace hh : Hp _ (.blk _ _ [_, _] _ :: _) _ := hh
   refine ae (ah (sr (mI (mL (aO ?_)))))
   refine ck (ae (cF (aj (ai (ah (sr (aI (ae (al ?_)))))))))
   replace hh := (hh.di 55 4)
   replace hh := show Hp w (.row none 0 0 55 4 (aQ TR.cells []) :: .blk b10 24 [.int .i64 v, .slice none 0 0] (0, 0) :: _) _ from hh
   replace hh := hh.perm (List.perm_middle (l₁ := [_]))
   simp only [List.cons_append, List.nil_append] at hh
   refine bs [9, 12, 13, 14, 15, 16, 39, 40, 41, 42, 43, 44, 45, 46, 47, 48, 49, 50, 51, 52, 53, 54, 55, 56, 57, 58, 59, 60, 61, 62, 63, 64, 65, 66, 67, 68, 69, 70, 71, 72, 73, 74, 75, 76, 77, 78, 79, 80, 81, 82, 83, 84, 85, 86, 87, 88, 89, 90, 91, 92] 12
    (fun nv w' => ∃ (i : Nat) (oA : Option Addr) (on oc : Nat) (os : List TR), i ≤ 128 ∧ nv = .int .i64 (127 - (i : Int)) ∧ cx q.ts sub p j i = (0, os) ∧ Hp w [.blk b10 24 [.int .i64 v, .slice oA on oc] (0, 0), .row oA on oc 55 4 (aQ TR.cells os), .blk b8 24 [.int .i64 0, .slice none 0 0] (0, 0)] w')
    (fun nv _ => (intOf nv + 1).toNat) ?_ ?_
   ·exact ⟨0, none, 0, 0, [], Nat.zero_le _, rfl, rfl, hh⟩
   ·clear hh
    rintro ρ' nv_ w' ⟨i, oA, on, oc, os, hi, rfl, hos, hh⟩
    by_cases hi8 : i < 128
    ·obtain ⟨m, hm⟩ : ∃ m, m = 127 - i := ⟨_, rfl⟩
     rw [show (127 - (i : Int)) = (m : Int) by omega]
     have hnx : cx q.ts sub p j (i + 1) = fw q.ts sub p j m (0, os) := by rw [lu, hos, hm]
     have hop := hlim2 i (by omega) (by rw [hos])
     rw [hos] at hop
     replace hop : jS v 440000 os := hop
     unfold fw at hnx
     rw [if_neg (fun h => h rfl)] at hnx
     have hmi2 : (127 - ((i + 1 : Nat) : Int)) = (m : Int) - 1 := by omega
     have hoc : on ≤ oc := hh.g7 (i := 1) rfl
     have hon : os.length = on := (hh.aK (i := 1) rfl).cg TR.len (by decide)
     have hol := hop.len
     dsimp only at hnx
     refine ah (sr (mI ?_))
     refine dn (ae (cT (aj (ai (ah (al (sr (mL (mI (mI ?_))))))))))
     refine aV (sk p A n c j m ls.length _ (hS.ext hh.below) hsr (by omega) (by omega)) av.out rfl (by decide) ?_
     rintro e_ w46 ⟨B, b, rfl, h3⟩
     refine ⟨_, rfl, ?_⟩
     replace hh := hh.join h3
     simp only [List.cons_append, List.nil_append] at hh
     refine aL (ae ?_)
     by_cases hsk : os.length = 0 ∧ (bK p j m).length = 0
     ·rw [if_pos hsk] at hnx
      obtain ⟨h1, h2⟩ := hsk
      obtain rfl : on = 0 := by omega
      generalize (bK p j m).length = wl at *
      subst h2
      refine ah (sr (bC ?_))
      refine bH hh 1 ?_
      refine aO ?_
      refine ck (mB ?_)
      first | refine gS ?_ | (refine gT ?_; refine mL ?_) | refine gV ?_
      first | refine gS ?_ | (refine gT ?_; refine aO ?_) | refine gV ?_
      first | refine gS ?_ | (refine gT ?_; refine ck ?_) | refine gV ?_
      first | refine cR ?_ | refine cQ ?_
      refine ae (cT ?_)
      refine aP ?_
      refine ay (a6 (ai (aq (mI ?_))))
      refine eB (aI (aE (ai ?_)))
      replace hh := hh.sub (List.Sublist.cons _ (List.Sublist.cons_cons _ (List.Sublist.cons_cons _ (List.Sublist.cons_cons _ List.Sublist.slnil))))
      refine ⟨⟨i + 1, oA, 0, oc, os, by omega, by rw [hmi2]; rfl, hnx, hh⟩, by show ((m : Int) - 1 + 1).toNat < ((m : Int) + 1).toNat; omega, ?_⟩
      (repeat (first | exact aw _ _ _ | refine ax rfl ?_ | refine ar rfl ?_))
     ·rw [if_neg hsk] at hnx
      have htm := fun w1 (hp1 : PX.at_ ⟨v, oA, on, oc, os⟩ w1) hb => pL ⟨v, oA, on, oc, os⟩ q 440000 440000 w1 hp1 ((hat q (List.mem_of_getElem? hqj)).ext hb) ⟨by show on ≤ 1000000; omega, hoc, hop.ok, hop.sz⟩ ⟨hql.n, hql.cap, hql.ok.mono hK, hql.sz⟩ (by decide)
      refine qx [47, 48, 49, 50, 51, 52, 53, 54, 55]
       (fun w' => Hp w [.row B (bK p j m).length b 55 4 (aQ TR.cells (bK p j m)), .blk b10 24 [.int .i64 v, .slice oA on oc] (0, 0), .row oA on oc 55 4 (aQ TR.cells os), .blk b8 24 [.int .i64 0, .slice none 0 0] (0, 0)] w') ?_ ?_
      ·by_cases h0 : on = 0
       ·subst h0
        have hne : (bK p j m).length ≠ 0 := fun h => hsk ⟨hon, h⟩
        refine sr (bC ?_)
        refine bH hh 1 ?_
        refine aO ?_
        refine ck (mB ?_)
        first | refine gS ?_ | (refine gT ?_; refine mL ?_) | refine gV ?_
        first | refine gS ?_ | (refine gT ?_; refine aO ?_) | refine gV ?_
        first | refine gS ?_ | (refine gT ?_; refine ck ?_) | refine gV ?_
        first | refine cR ?_ | refine cQ ?_
        refine ae (cF (aj (ai ?_)))
        refine ⟨hh, ?_⟩
        (repeat (first | exact aw _ _ _ | refine ax rfl ?_ | refine ar rfl ?_))
        exact fun _ _ => rfl
       ·refine sr (bC ?_)
        refine bH hh 1 ?_
        refine aO ?_
        refine ck (mB ?_)
        first | refine gS ?_ | (refine gT ?_; refine mL ?_) | refine gV ?_
        first | refine gS ?_ | (refine gT ?_; refine aO ?_) | refine gV ?_
        first | refine gS ?_ | (refine gT ?_; refine ck ?_) | refine gV ?_
        first | refine cR ?_ | refine cQ ?_
        refine ae (cF (aj (ai ?_)))
        refine ⟨hh, ?_⟩
        (repeat (first | exact aw _ _ _ | refine ax rfl ?_ | refine ar rfl ?_))
        exact fun _ _ => rfl
      ·skip
       clear hh
       rintro ρ' w' hh
       refine ah ?_
       refine cq [9] [8] [0, 0, 0, 6, 14, 31, 63, 127, 127, 0, 767, 2047] 10 [[(10, none)], [(2, none)], [(1, none)], [(58, some 1), (59, some 2)], [(60, some 3)], [(57, some 0), (61, some 4)], [(62, some 5)], [(56, some 6)], [(56, some 6)], []] [(9, 14), (8, 64), (7, 63), (6, 56), (5, 62), (4, 61), (3, 60), (2, 59), (1, 58), (0, 57)] hh mixed (by kernel_rfl) (jq rfl aC.out cG) rfl (by repeat (first | exact bX | refine bA ?_ | refine bV ?_)) ?_
       refine ef 1 [_,_] ?_
       refine fN ?_
       refine eb ?_
       refine iA (j) ?_
       refine rh [_,_] (fun _ hj => (hlr.ext hj.hp.below).recAt PX.len hqj) ?_
       refine bj (i := 5) (fE hh.sz (ee os q.ts) v (aT (cd os q.ts))) (fE.ext) ?_ ?_
       ·intro ρ1 w1 hj hR
        exact bW rfl (a3 av.out (aA (show ρ1 57 = Value.agg (List.toArray _) from hR.1) (aA (show ρ1 61 = Value.agg (List.toArray _) from hR.2.1) a9))) (htm w1 (hj.hp.aK (i := 2) rfl) hj.hp.below) (fun _ _ ⟨g, og, hq, h3⟩ => ⟨_, hq, h3.below, g, w1, rfl, og, hj.bl.size, h3⟩)
       refine bj (i := 6) (fE hh.sz (ee os q.ts) v (aT (cd os q.ts))) (fE.ext) ?_ ?_
       ·intro ρ1 w1 hj hR
        exact let ⟨g, u, e1, e2⟩ := hR.1; bZ rfl (dg e1) ⟨Below.refl _ _, g, u, rfl, e2⟩
       refine bj (i := 7) (gM hh.sz (ee os q.ts) v (aT (cd os q.ts))) (gM.ext) ?_ ?_
       ·intro ρ1 w1 hj hR
        exact let ⟨g, u, e1, e2⟩ := hR.1; bZ rfl (cX (vs := [_, _]) e1 rfl) ⟨Below.refl _ _, g, u, rfl, e2⟩
       refine bj (i := 8) (Is (.int .i64 (ee os q.ts))) (Is.ext) ?_ ?_
       ·intro ρ1 w1 hj hR
        exact let ⟨g, u, e1, e2⟩ := hR.1; bZ rfl (cX (vs := [_, _]) e1 rfl) ⟨Below.refl _ _, rfl⟩
       refine bj (i := 9) (cN _ 24 _) cN.ext (fun ρ1 w1 hj hR => fI aC.out hj.bl (fun v w2 h hb => ⟨hb, h⟩)) ?_
       refine a0 ?_
       intro f W hJ hV _
       have hb_13 := hJ.bl
       obtain ⟨v14, v64, v63, v56, v62, v61, v60, v59, v58, v57, _⟩ := hV
       obtain ⟨g62, u62, e62, -⟩ := v62
       obtain ⟨g56, u56, e56, -⟩ := v56
       obtain ⟨g63, u63, e63, o63, q63, h63⟩ := v63
       obtain ⟨b14, e14, hl14, hc14⟩ : cN _ _ _ (f 9) W := v14
       replace hh := hJ.kD hh hl14 hc14 q63 h63 (PX.ne h63 hc14 (by decide))
       refine aN (a4 (aa e14 (aa v64 (aa e63 (aa e56 (aa e62 (aa v61 (aa v60 (aa v59 (aa v58 (aa v57 aM))))))))))) ?_
       dsimp only [ca]
       clear e62 e56 e63 e14 hJ
       simp only [List.cons_append, List.nil_append] at hh
       obtain ⟨gv, gA, gn, gc, gts⟩ := g63
       replace hh := show Hp w (_ :: .row gA gn gc 55 4 (aQ TR.cells gts) :: _) W from hh
       by_cases hte : ee os q.ts = 0
       ·rw [if_neg (by rw [hte]; decide)] at hnx
        rw [hte] at o63
        obtain rfl : v = gv := o63.v.symm
        obtain rfl : aT (cd os q.ts) = gts := o63.ts.symm
        have hgc : gn ≤ gc := hh.g7 (i := 1) rfl
        have hgl : (aT (cd os q.ts)).length = gn := (hh.aK (i := 1) rfl).cg TR.len (by decide)
        have hgo := rC hop hqk hqT hte (by omega)
        have hwi := hh.aK (i := 2) rfl
        refine bE hh 0 [_,_] ?_
        intro ws hh
        replace hh : Hp _ (.blk _ _ [_, _] _ :: _) _ := hh
        refine aI (ae (ah (sr (mI ?_))))
        refine cE (ae (cF (aj (ai (sr (mL (mI ?_)))))))
        refine bL (mL (mI ?_))
        refine aV (hrec m B b _ hh.below (hh.aK (i := 2) rfl)) av.out rfl (by decide) ?_
        rintro e_ w75 ⟨g2, og2, rfl, h4⟩
        refine ⟨_, rfl, ?_⟩
        replace hh := hh.join h4
        simp only [List.cons_append, List.nil_append] at hh
        have hs2 := hsub m
        obtain ⟨hv2, hA2, hn2, hc2, ht2⟩ := g2
        replace hh := show Hp w (.row hA2 hn2 hc2 55 4 (aQ TR.cells ht2) :: _) _ from hh
        by_cases hE2 : (sub (bK p j m)).1 = 0
        ·rw [if_neg (by rw [hE2]; decide)] at hnx
         rw [hE2] at og2
         obtain rfl : v = hv2 := og2.v.symm
         obtain rfl : (sub (bK p j m)).2 = ht2 := og2.ts.symm
         have ho2 := hs2 hE2
         have hc2c : hn2 ≤ hc2 := hh.g7 (i := 0) rfl
         have hl2 : ((sub (bK p j m)).2).length = hn2 := (hh.aK (i := 0) rfl).cg TR.len (by decide)
         generalize (sub (bK p j m)).2 = us at *
         rw [hE2]
         refine mT ?_
         refine dp ?_
         refine dp ?_
         refine cv hh ?_
         intro b16 w16 hh
         refine bE hh 0 [_,_] ?_
         intro ws hh
         replace hh : Hp _ (.blk _ _ [_, _] _ :: _) _ := hh
         refine aI (ae (ah (sr (mI ?_))))
         refine cE (ae (cF (aj (ai (sr ?_)))))
         refine dh hh 2 [_,_] ?_
         refine dh hh 0 [_,_] ?_
         refine bB hh (cs := [_, _, _, _]) aF.out aC.out (bm (dM rfl) (bm (dM rfl) cn)) rfl rfl (by decide) (by decide) (by decide) rfl (by decide) ?_
         intro b85 w85 hh
         have hlp2 : er [⟨v, gA, gn, gc, aT (cd os q.ts)⟩, ⟨v, hA2, hn2, hc2, us⟩] = 0 := oP hgo.e ho2.e rfl
         have had := fun A3 w1 (hT1 : Sl w1 A3 2 2 (aQ PX.cells [⟨v, gA, gn, gc, aT (cd os q.ts)⟩, ⟨v, hA2, hn2, hc2, us⟩])) s1 s2 => sD A3 2 2 [⟨v, gA, gn, gc, aT (cd os q.ts)⟩, ⟨v, hA2, hn2, hc2, us⟩] 2000000 w1 hT1 (by decide) (fun g hg => by
          rcases List.mem_cons.1 hg with rfl | hg
          ·exact s1
          ·rw [List.mem_singleton.1 hg]; exact s2) (fun g hg => by
          rcases List.mem_cons.1 hg with rfl | hg
          ·exact ⟨by have := hgo.len; show gn ≤ 1000000; omega, hgc, hgo.ok.mono (by omega), hgo.sz⟩
          ·rw [List.mem_singleton.1 hg]; exact ⟨by have := ho2.len; show hn2 ≤ 1000000; omega, hc2c, ho2.ok.mono (by omega), ho2.sz⟩) (by decide)
         unfold sS at had
         rw [if_pos hlp2, Bb] at had
         dsimp only at had
         refine aV (had _ _ (hh.aK (i := 0) rfl) (hh.aK (i := 4) rfl) (hh.aK (i := 2) rfl)) av.out rfl (by decide) ?_
         rintro e_ w86 ⟨g3, og3, rfl, h5⟩
         refine ⟨_, rfl, ?_⟩
         replace hh := hh.join h5
         simp only [List.cons_append, List.nil_append] at hh
         obtain ⟨hv3, hA3, hn3, hc3, ht3⟩ := g3
         replace hh := show Hp w (.row hA3 hn3 hc3 55 4 (aQ TR.cells ht3) :: _) _ from hh
         by_cases hg : eW (aT (cd os q.ts) ++ us) ≠ 0
         ·rw [if_pos hg] at hnx
          have hfin : cx q.ts sub p j 128 = (eW (aT (cd os q.ts) ++ us), []) := by rw [jn (by rw [hnx]; exact hg) (show i + 1 ≤ 128 by omega), hnx]
          rw [hfin]
          generalize eW (aT (cd os q.ts) ++ us) = E at *
          refine mT ?_
          refine dp ?_
          refine dp ?_
          refine bE hh 7 [_,_] ?_
          intro ws hh
          replace hh : Hp _ (_ :: _ :: _ :: _ :: _ :: _ :: _ :: .blk _ _ [_, _] _ :: _) _ := hh
          refine aI (ae (sr (mI ?_)))
          refine cE (ae (cT (sr ?_)))
          refine ep [_,_] (mI ?_)
          refine bE hh 9 [_,_] ?_
          intro ws hh
          replace hh : Hp _ (_ :: _ :: _ :: _ :: _ :: _ :: _ :: _ :: _ :: .blk _ _ [_, _] _ :: _) _ := hh
          refine aI (ae (ao (br (az (az (br (az ?_)))))))
          refine gL (aG rfl (aH (vs := [_, _]) aC.out (hh.au (i := 9) (n := 2) rfl rfl) rfl) (bS (cf rfl) a7)) ?_
          exact ⟨PX.nil, cC.err hg, rfl, (hh.sub (List.nil_sublist _)).fP⟩
         ·rw [if_neg hg] at hnx
          have hg0 : eW (aT (cd os q.ts) ++ us) = 0 := by omega
          rw [hg0] at og3
          obtain rfl : hv3 = v := og3.v
          obtain rfl : aT (aT (cd os q.ts) ++ us) = ht3 := og3.ts.symm
          rw [hg0]
          refine mT ?_
          refine dp ?_
          refine dp ?_
          refine bE hh 7 [_,_] ?_
          intro ws hh
          replace hh : Hp _ (_ :: _ :: _ :: _ :: _ :: _ :: _ :: .blk _ _ [_, _] _ :: _) _ := hh
          refine aI (ae (sr (mI ?_)))
          refine cE (ae (cF (aj (aW (ai (aq (mI ?_)))))))
          refine eB (aI (aE (ai ?_)))
          replace hh := hh.sub (List.Sublist.cons_cons _ (List.Sublist.cons _ (List.Sublist.cons _ (List.Sublist.cons _ (List.Sublist.cons _ (List.Sublist.cons _ (List.Sublist.cons _ (List.Sublist.cons_cons _ (List.Sublist.cons _ (List.Sublist.cons_cons _ List.Sublist.slnil))))))))))
          replace hh := hh.perm (List.perm_middle (l₁ := [_]))
          simp only [List.cons_append, List.nil_append] at hh
          try dsimp only at hh
          refine ⟨⟨i + 1, hA3, hn3, hc3, _, by omega, by rw [hmi2]; rfl, hnx, hh⟩, by show ((m : Int) - 1 + 1).toNat < ((m : Int) + 1).toNat; omega, ?_⟩
          (repeat (first | exact aw _ _ _ | refine ax rfl ?_ | refine ar rfl ?_))
        ·rw [if_pos hE2] at hnx
         have hfin : cx q.ts sub p j 128 = ((sub (bK p j m)).1, []) := by rw [jn (by rw [hnx]; exact hE2) (show i + 1 ≤ 128 by omega), hnx]
         rw [hfin]
         generalize (sub (bK p j m)).1 = E at *
         refine mT ?_
         refine dp ?_
         refine dp ?_
         refine cv hh ?_
         intro b16 w16 hh
         refine bE hh 0 [_,_] ?_
         intro ws hh
         replace hh : Hp _ (.blk _ _ [_, _] _ :: _) _ := hh
         refine aI (ae (ah (sr (mI ?_))))
         refine cE (ae (cT (sr ?_)))
         refine ep [_,_] (mI ?_)
         refine bE hh 7 [_,_] ?_
         intro ws hh
         replace hh : Hp _ (_ :: _ :: _ :: _ :: _ :: _ :: _ :: .blk _ _ [_, _] _ :: _) _ := hh
         refine aI (ae (ao (az (br (az (az (br (az ?_))))))))
         refine gL (aG rfl (aH (vs := [_, _]) aC.out (hh.au (i := 7) (n := 2) rfl rfl) rfl) (bS (cf rfl) a7)) ?_
         exact ⟨PX.nil, cC.err hE2, rfl, (hh.sub (List.nil_sublist _)).fP⟩
       ·rw [if_pos hte] at hnx
        have hfin : cx q.ts sub p j 128 = (ee os q.ts, []) := by rw [jn (by rw [hnx]; exact hte) (show i + 1 ≤ 128 by omega), hnx]
        rw [hfin]
        generalize ee os q.ts = E at *
        refine bE hh 0 [_,_] ?_
        intro ws hh
        replace hh : Hp _ (.blk _ _ [_, _] _ :: _) _ := hh
        refine aI (ae (ah (sr (mI ?_))))
        refine cE (ae (cT (sr ?_)))
        refine ep [_,_] (mI ?_)
        refine bE hh 5 [_,_] ?_
        intro ws hh
        replace hh : Hp _ (_ :: _ :: _ :: _ :: _ :: .blk _ _ [_, _] _ :: _) _ := hh
        refine aI (ae (ao (az (br (az (az (br (az ?_))))))))
        refine gL (aG rfl (aH (vs := [_, _]) aC.out (hh.au (i := 5) (n := 2) rfl rfl) rfl) (bS (cf rfl) a7)) ?_
        exact ⟨PX.nil, cC.err hte, rfl, (hh.sub (List.nil_sublist _)).fP⟩
    ·obtain rfl : i = 128 := by omega
     rw [hos]
     refine ah (sr (mI ?_))
     refine dn (ae (cF ?_))
     refine aP ?_
     refine ay (ay (a6 (ai (sr ?_))))
     refine dh hh 0 [_,_] ?_
     refine bE hh 2 [_,_] ?_
     intro ws hh
     replace hh : Hp _ (_ :: _ :: .blk _ _ [_, _] _ :: _) _ := hh
     refine aI (ae (ao ?_))
     refine gL (aG rfl (aH (vs := [_, _]) aC.out (hh.au (i := 2) (n := 2) rfl rfl) rfl) (bS (cf rfl) a7)) ?_
     exact ⟨⟨v, oA, on, oc, os⟩, ⟨rfl, rfl⟩, rfl, hh.sub (.cons _ (List.Sublist.cons_cons _ (List.nil_sublist _)))⟩
end Go.Proofs.YtaapkaefelhfcaaGreatDoor
/- The walk through the document's Subst (ogeeref09). -/
namespace Go.Proofs.YtaapkaefelhfcaaGreatDoor
open Go.RowKit
theorem re (p : PX) (lA : Option Addr) (lc : Nat) (ls : List PX) (k K T c0 : Nat) (ds : List Nat) (w : World) (hp : p.at_ w) (lp : p.jO k) (hL : Sl w lA ls.length 2 (aQ PX.cells ls)) (hat : ∀ g ∈ ls, g.at_ w) (hl4 : ls.length ≤ 1000) (hf : Cv p ls k K T c0 ds) :
  Calls Tryz.prog 29 #[.agg #[.int .i64 p.v, .slice p.A p.n p.c], .slice lA ls.length lc] w fun r w' => ∃ g : PX, cC (jR p ls).1 (fa ls) (jR p ls).2 g ∧ r = .returned (.tuple #[.agg #[.int .i64 g.v, .slice g.A g.n g.c], .int .i64 (jR p ls).1]) ∧ Hp w [g.row] w' := by
 have hh := Hp.start w
 have hck := fun w1 hb => sx p k w1 (hp.ext hb) lp
 have hlk := fun w1 hb => mj lA ls.length lc ls K w1 (hL.ext hb) (by omega) (fun g hg => (hat g hg).ext hb) hf.jO
 unfold jR
 by_cases h0 : p.e ≠ 0
 ·rw [if_pos h0]
  generalize p.e = e at *
  refine ak (N := 45) (l := [.agg #[.int .i64 p.v, .slice p.A p.n p.c], .slice lA ls.length lc]) Tryz.func29 rfl rfl (by simp) ?_
  refine sr ?_
  refine cK hh [_,_] ?_
  intro b2 w2 hh
  refine cv hh ?_
  intro b4 w4 hh
  refine aI (ae (ah (sr ?_)))
  refine dh hh 1 [_,_] ?_
  refine bG hh (hck _ hh.below) rfl ?_
  intro w9 hh
  refine aI (ae (sr (mI ?_)))
  refine cE (ae (cT (sr ?_)))
  refine ep [_,_] (mI ?_)
  refine bE hh 0 [_,_] ?_
  intro ws hh
  replace hh : Hp _ (.blk _ _ [_, _] _ :: _) _ := hh
  refine aI (ae (ao (az ?_)))
  refine gL (aG rfl (aH (vs := [_, _]) aC.out (hh.au (i := 0) (n := 2) rfl rfl) rfl) (bS (cf rfl) a7)) ?_
  exact ⟨PX.nil, cC.err h0, rfl, (hh.sub (List.nil_sublist _)).fP⟩
 ·rw [if_neg h0]
  have hpe : p.e = 0 := by omega
  rw [hpe] at hck
  by_cases h1 : (ls.length : Int) ≠ p.v
  ·rw [if_pos h1]
   refine ak (N := 45) (l := [.agg #[.int .i64 p.v, .slice p.A p.n p.c], .slice lA ls.length lc]) Tryz.func29 rfl rfl (by simp) ?_
   refine sr ?_
   refine cK hh [_,_] ?_
   intro b2 w2 hh
   refine cv hh ?_
   intro b4 w4 hh
   refine aI (ae (ah (sr ?_)))
   refine dh hh 1 [_,_] ?_
   refine bG hh (hck _ hh.below) rfl ?_
   intro w9 hh
   refine aI (ae (sr (mI ?_)))
   refine cE (ae (cF (aj (ai (ah (sr (mL (aO (bC ?_)))))))))
   refine bH hh 1 ?_
   refine cE (ae (cT (sr ?_)))
   refine ep [_,_] ?_
   refine bE hh 0 [_,_] ?_
   intro ws hh
   replace hh : Hp _ (.blk _ _ [_, _] _ :: _) _ := hh
   refine aI (ae (ao (az ?_)))
   refine gL (aG rfl (aH (vs := [_, _]) aC.out (hh.au (i := 0) (n := 2) rfl rfl) rfl) (bS (cf rfl) a7)) ?_
   exact ⟨PX.nil, cC.err (by decide), rfl, (hh.sub (List.nil_sublist _)).fP⟩
  ·rw [if_neg h1]
   obtain ⟨hfw, h4, hmy, hca⟩ := dZ hpe
   replace hfw := eE.1 hfw
   have hl12 : ls.length ≤ 12 := by omega
   have hpl := hp.ln
   have hsr := tn hpe
   have hput := fun (v : Int) (hv : gD v = true) (hz : ∀ g ∈ ls, fA v g.ts = 0) (hvv : ∀ g ∈ ls, g.v = v) w1 hb => uq lA lc K T c0 v ls hv hl12 (fun g hg => ⟨⟨hz g hg, (hf.jO g hg).ok, (hf.jO g hg).sz⟩, hvv g hg, hf.jO g hg, hf.CI g hg⟩) hf.step hf.top ls 0 p.ts p.A p.n p.c ds k w1 rfl (Nat.zero_le _) (hL.ext hb) (fun g hg => (hat g hg).ext hb) (hp.ext hb) (by rw [show ((ls.length : Nat) : Int) = p.v by omega]; exact hsr) lp.ok (by omega) hf.len (fun i d h => by rw [Nat.zero_add]; exact hf.B9 i d h) hf.grow
   by_cases hn : ls = []
   ·subst hn
    rw [if_neg (fun h => h.1 rfl)]
    have hpu := hput 0 rfl (fun g hg => by cases hg) (fun g hg => by cases hg)
    refine ak (N := 45) (l := [.agg #[.int .i64 p.v, .slice p.A p.n p.c], .slice lA 0 lc]) Tryz.func29 rfl rfl (by simp) ?_
    refine sr ?_
    refine cK hh [_,_] ?_
    intro b2 w2 hh
    refine cv hh ?_
    intro b4 w4 hh
    refine aI (ae (ah (sr ?_)))
    refine dh hh 1 [_,_] ?_
    refine bG hh (hck _ hh.below) rfl ?_
    intro w9 hh
    refine aI (ae (sr (mI ?_)))
    refine cE (ae (cF (aj (ai (ah (sr (mL (aO (bC ?_)))))))))
    refine bH hh 1 ?_
    refine cE (ae (cF (aj (ai (ah (sr (mL (aO ?_))))))))
    refine ck (ae (cT (sr (bC ?_))))
    refine bH hh 1 ?_
    refine mL ?_
    refine aV (hpu _ hh.below) av.out rfl (by decide) ?_
    rintro e_ w26 ⟨g, og, rfl, h3⟩
    refine ⟨_, rfl, ?_⟩
    replace hh := hh.join h3
    simp only [List.cons_append, List.nil_append] at hh
    refine dp ?_
    refine dp ?_
    refine bE hh 1 [_,_] ?_
    intro ws hh
    replace hh : Hp _ (_ :: .blk _ _ [_, _] _ :: _) _ := hh
    refine aI (ae (ao (az ?_)))
    refine gL (aG rfl (aH (vs := [_, _]) aC.out (hh.au (i := 1) (n := 2) rfl rfl) rfl) (bS (cf rfl) a7)) ?_
    exact ⟨g, og, rfl, hh.sub (List.Sublist.cons_cons _ (List.nil_sublist _))⟩
   ·have hlp0 : 0 < ls.length := List.length_pos_iff.2 hn
    obtain ⟨lad, rfl, hlr⟩ := hL.at_ hlp0
    by_cases hl0 : er ls = 0
    ·rw [if_neg (fun h => h.2 hl0)]
     rw [hl0] at hlk
     obtain ⟨g0, h00⟩ := aD (l := ls) (k := 0) hlp0
     have hhv := lX h00
     obtain ⟨_, hev, hvv⟩ := lz hl0
     have hg0 := hev g0 (List.mem_of_getElem? h00)
     unfold PX.e at hg0
     have hpu := hput (fa ls) (by rw [hhv]; exact (dZ hg0).1) (fun g hg => by rw [← hvv g hg]; exact hev g hg) hvv
     rw [hhv] at hpu ⊢
     generalize eV g0.v (ls.map PX.ts) 0 p.ts = E at *
     refine ak (N := 45) (l := [.agg #[.int .i64 p.v, .slice p.A p.n p.c], .slice (some lad) ls.length lc]) Tryz.func29 rfl rfl (by simp) ?_
     refine sr ?_
     refine cK hh [_,_] ?_
     intro b2 w2 hh
     refine cv hh ?_
     intro b4 w4 hh
     refine aI (ae (ah (sr ?_)))
     refine dh hh 1 [_,_] ?_
     refine bG hh (hck _ hh.below) rfl ?_
     intro w9 hh
     refine aI (ae (sr (mI ?_)))
     refine cE (ae (cF (aj (ai (ah (sr (mL (aO (bC ?_)))))))))
     refine bH hh 1 ?_
     refine cE (ae (cF (aj (ai (ah (sr (mL (aO ?_))))))))
     refine ck (ae (cF (aj (ai (ah (sr (mL ?_)))))))
     refine bG hh (hlk _ hh.below) rfl ?_
     intro w30 hh
     refine aI (ae (sr (mI ?_)))
     refine cE (ae (cF (aj (ai (ah ?_)))))
     refine aX 10 [[(2, none)], [(35, some 0)], [(1, none)], [(1, none)], [(38, some 3)], [(39, some 4)], [(40, some 5)], [(36, some 1), (37, some 2), (41, some 6)], [(42, some 7)], [(42, some 7)]] [(9, 44), (8, 43), (7, 42), (6, 41), (5, 40), (4, 39), (3, 38), (2, 37), (1, 36), (0, 35)] hh mixed (by kernel_rfl) ?_
     refine cD ?_
     refine dF 1 ?_
     refine fN ?_
     refine fN ?_
     refine iA (0) ?_
     refine jP ?_
     refine hU (fun _ hj => ((hlr.ext hj.hp.below).recAt PX.len h00).cell (i := 0) rfl) ?_
     refine bj (i := 7) (fE hh.sz E.1 g0.v E.2) (fE.ext) ?_ ?_
     ·intro ρ1 w1 hj hR
      exact bW rfl (a3 av.out (aA (show ρ1 36 = Value.slice _ _ _ from hR.1) (aA rfl (aA (show ρ1 37 = Value.slice _ _ _ from hR.2.1) (aA (show ρ1 41 = Value.int _ _ from hR.2.2.1) a9))))) (hpu w1 hj.hp.below) (fun _ _ ⟨g, og, hq, h3⟩ => ⟨_, hq, h3.below, g, w1, rfl, og, hj.bl.size, h3⟩)
     refine bj (i := 8) (jG hh.sz E.1 g0.v E.2) (jG.ext) ?_ ?_
     ·intro ρ1 w1 hj hR
      exact let ⟨g, u, e1, e2⟩ := hR.1; bZ rfl (cX (vs := [_, _]) e1 rfl) ⟨Below.refl _ _, g, u, rfl, e2⟩
     refine bj (i := 9) (Is (.int .i64 E.1)) (Is.ext) ?_ ?_
     ·intro ρ1 w1 hj hR
      exact let ⟨g, u, e1, e2⟩ := hR.1; bZ rfl (cX (vs := [_, _]) e1 rfl) ⟨Below.refl _ _, rfl⟩
     refine a0 ?_
     intro f W hJ hV
     have hb_11 := hJ.bl
     obtain ⟨v44, v43, v42, v41, v40, v39, v38, v37, v36, v35, _⟩ := hV
     obtain ⟨g42, u42, e42, -⟩ := v42
     obtain ⟨g43, u43, e43, o43, q43, h43⟩ := v43
     replace hh := JJ.wm hJ hh q43 h43
     refine aN (a4 (aa v44 (aa e43 (aa e42 (aa v41 (aa v40 (aa v39 (aa v38 (aa v37 (aa v36 (aa v35 aM))))))))))) ?_
     dsimp only [ca]
     clear e42 e43 hJ
     simp only [List.cons_append, List.nil_append] at hh
     refine bE hh 1 [_,_] ?_
     intro ws hh
     replace hh : Hp _ (_ :: .blk _ _ [_, _] _ :: _) _ := hh
     refine aI (ae (ao ?_))
     refine gL (aG rfl (aH (vs := [_, _]) aC.out (hh.au (i := 1) (n := 2) rfl rfl) rfl) (bS (cf rfl) a7)) ?_
     exact ⟨_, o43, rfl, hh.sub (List.Sublist.cons_cons _ (List.nil_sublist _))⟩
    ·rw [if_pos ⟨by omega, hl0⟩]
     generalize er ls = E at *
     refine ak (N := 45) (l := [.agg #[.int .i64 p.v, .slice p.A p.n p.c], .slice (some lad) ls.length lc]) Tryz.func29 rfl rfl (by simp) ?_
     refine sr ?_
     refine cK hh [_,_] ?_
     intro b2 w2 hh
     refine cv hh ?_
     intro b4 w4 hh
     refine aI (ae (ah (sr ?_)))
     refine dh hh 1 [_,_] ?_
     refine bG hh (hck _ hh.below) rfl ?_
     intro w9 hh
     refine aI (ae (sr (mI ?_)))
     refine cE (ae (cF (aj (ai (ah (sr (mL (aO (bC ?_)))))))))
     refine bH hh 1 ?_
     refine cE (ae (cF (aj (ai (ah (sr (mL (aO ?_))))))))
     refine ck (ae (cF (aj (ai (ah (sr (mL ?_)))))))
     refine bG hh (hlk _ hh.below) rfl ?_
     intro w30 hh
     refine aI (ae (sr (mI ?_)))
     refine cE (ae (cT (sr ?_)))
     refine ep [_,_] (mI ?_)
     refine bE hh 0 [_,_] ?_
     intro ws hh
     replace hh : Hp _ (.blk _ _ [_, _] _ :: _) _ := hh
     refine aI (ae (ao (az ?_)))
     refine gL (aG rfl (aH (vs := [_, _]) aC.out (hh.au (i := 0) (n := 2) rfl rfl) rfl) (bS (cf rfl) a7)) ?_
     exact ⟨PX.nil, cC.err hl0, rfl, (hh.sub (List.nil_sublist _)).fP⟩
end Go.Proofs.YtaapkaefelhfcaaGreatDoor
/- What is put in hangs on what the polynomials are alone. Plain, no program in sight. -/
namespace Go.Proofs.YtaapkaefelhfcaaGreatDoor
open Go.RowKit
theorem Au {o p : PX} {os ls : List PX} (hv : o.v = p.v) (ht : o.ts = p.ts) (h : os.map PX.norm = ls.map PX.norm) : jR o os = jR p ls ∧ fa os = fa ls := by
 have h1 : er os = er ls := by rw [← qq, h, qq]
 have h2 : fa os = fa ls := by rw [← pr, h, pr]
 have h3 : os.length = ls.length := by have := congrArg List.length h; rwa [List.length_map, List.length_map] at this
 have h4 : os.map PX.ts = ls.map PX.ts := by
  have := congrArg (List.map PX.ts) h
  rw [List.map_map, List.map_map] at this
  exact this
 refine ⟨?_, h2⟩
 unfold jR PX.e
 rw [hv, ht, h1, h2, h3, h4]
end Go.Proofs.YtaapkaefelhfcaaGreatDoor
/- The walk through the law PolyMuls. -/
namespace Go.Proofs.YtaapkaefelhfcaaGreatDoor
open Go.RowKit
theorem wq {H R : List HE} (k : Nat) (h : H.drop k = R) {x : HE} (hx : x ∈ R) : x ∈ H := List.mem_of_mem_drop (h ▸ hx)
end Go.Proofs.YtaapkaefelhfcaaGreatDoor
/- The walk through the law CalcSubsts. -/
namespace Go.Proofs.YtaapkaefelhfcaaGreatDoor
open Go.RowKit
theorem xv (c d n k : Nat) : hF c (List.replicate n d) k = k + n * (d * c + 8192) := by
 induction n with
 | zero => rw [List.replicate_zero, jj, Nat.zero_mul, Nat.add_zero]
 | succ n ih => rw [List.replicate_succ, iC, ih, Nat.succ_mul]; omega
theorem tq {q p : List TR} {sub : List TR → Int × List TR} {j : Nat} : ∀ i, (cx q sub p j i).1 = 0 → (cx q sub p j i).2.length ≤ 4096
 | 0, _ => Nat.zero_le _
 | i + 1, h => by
  rw [lu] at h ⊢
  have h1 : (cx q sub p j i).1 = 0 := by
   refine Classical.byContradiction fun c => ?_
   unfold fw at h
   rw [if_pos c] at h
   exact c h
  have ih := tq i h1
  unfold fw at h ⊢
  rw [if_neg (fun h => h h1)] at h ⊢
  by_cases c1 : (cx q sub p j i).2.length = 0 ∧ (bK p j (127 - i)).length = 0
  ·rw [if_pos c1]; exact ih
  ·rw [if_neg c1] at h ⊢
   by_cases c2 : ee (cx q sub p j i).2 q ≠ 0
   ·rw [if_pos c2] at h; exact absurd h c2
   ·rw [if_neg c2] at h ⊢
    by_cases c3 : (sub (bK p j (127 - i))).1 ≠ 0
    ·rw [if_pos c3] at h; exact absurd h c3
    ·rw [if_neg c3] at h ⊢
     by_cases c4 : eW (aT (cd (cx q sub p j i).2 q) ++ (sub (bK p j (127 - i))).2) ≠ 0
     ·rw [if_pos c4] at h; exact absurd h c4
     ·rw [if_neg c4]; exact vJ (by omega)
theorem z8 {v : Int} {qs : List (List TR)} {j : Nat} {p : List TR} (h : (eV v qs j p).1 = 0) : (eV v qs j p).2.length ≤ 4096 := by
 cases qs with
 | nil => exact Nat.le_trans (iz _) (by show 1 ≤ 4096; decide)
 | cons q qs =>
  have e : ∀ m, m = 128 → (cx q (eV v qs (j + 1)) p j m).1 = 0 → (cx q (eV v qs (j + 1)) p j m).2.length ≤ 4096 := fun m _ hm => tq m hm
  exact e 128 rfl h
theorem zf {p : PX} {ls : List PX} (h : (jR p ls).1 = 0) : (jR p ls).2.length ≤ 4096 := by
 unfold jR at h ⊢
 by_cases h1 : p.e ≠ 0
 ·rw [if_pos h1] at h; exact absurd h h1
 ·rw [if_neg h1] at h ⊢
  by_cases h2 : (ls.length : Int) ≠ p.v
  ·rw [if_pos h2] at h; exact absurd h (by decide)
  ·rw [if_neg h2] at h ⊢
   by_cases h3 : ls.length ≠ 0 ∧ er ls ≠ 0
   ·rw [if_pos h3] at h; exact absurd h h3.2
   ·rw [if_neg h3] at h ⊢
    exact z8 h
theorem BJ {t : TR} {k : Nat} (h : ∀ c ∈ t.m.data.toList, c.toNat ≤ k) (j : Nat) : kZ j t ≤ k := by
 unfold kZ
 cases he : t.m.data.toList[j]? with
 | none => exact Nat.zero_le _
 | some e => exact h e (List.mem_of_getElem? he)
theorem B8 {p : PX} {ls : List PX} (h : CB p ls) (hl : ∀ g ∈ ls, g.jO 124) : Cv p ls 124 124 3 20604 (List.replicate ls.length 3) := by
 refine ⟨List.length_replicate, fun i d hd => ?_, ?_, by decide, by decide, hl, fun g hg => (h.Aq g hg).2⟩
 ·obtain ⟨_, rfl⟩ := List.mem_replicate.1 (List.mem_of_getElem? hd)
  exact ⟨by decide, fun t ht => BJ (h.ex t ht) i⟩
 ·rw [xv]
  have := Nat.mul_le_mul_right (3 * 20604 + 8192) h.four
  omega
theorem mV (p : PX) (L : Option Addr) (n c : Nat) (ls : List PX) (w : World) (hT : hG w) (hp : p.at_ w) (hpc : p.n ≤ p.c) (hL : Sl w L n 2 (aQ PX.cells ls)) (hf : ∀ g ∈ ls, g.at_ w ∧ g.n ≤ g.c) :
  Calls Tryz.prog 4 #[.agg #[.int .i64 p.v, .slice p.A p.n p.c], .slice L n c] w fun r w' => r = .returned (.bool true) ∧ Below w.heap.size w w' := by
 have hh := Hp.start w
 have hln := hL.cg PX.len (by decide)
 have haw := fun w1 hT1 => rl w1 hT1
 refine ak (N := 78) (l := [.agg #[.int .i64 p.v, .slice p.A p.n p.c], .slice L n c]) Tryz.func4 rfl rfl (by simp) ?_
 refine sr ?_
 refine cK hh [_,_] ?_
 intro b2 w2 hh
 refine aB (ae (ah (sr ?_)))
 refine dh hh 0 [_,_] (mL ?_)
 refine aV (tA p L n c ls _ (hp.ext hh.below) (hL.ext hh.below) (fun z hz => (hf z hz).1.ext hh.below)) av.out rfl (by decide) ?_
 rintro e_ w15 ⟨b, rfl, hb, hb_⟩
 refine ⟨_, rfl, ?_⟩
 replace hh := hh.ext hb_
 cases b with
 | true =>
  refine ae (cT (sr ?_))
  refine bG hh (haw _ (hT.hp hh)) rfl ?_
  intro w16 hh
  refine aB (ae (ao (az ?_)))
  refine cA ?_
  exact ⟨rfl, hh.below⟩
 | false =>
  have hg := hb rfl
  clear hb hb_
  have lp := hg.CX.jO hp hpc
  have hpl := hp.ln
  have hp6 := hg.Da
  have hl4 := hg.four
  have hll : ∀ g ∈ ls, g.jO 124 := fun g hz => (hg.Aq g hz).1.jO (hf g hz).1 (hf g hz).2
  have hft := B8 hg hll
  refine ae (cF (aj (ai (sr (aL (ae (ah (sr (aI (ae (al ?_)))))))))))
  replace hh := hh.di 24 2
  refine ct [5, 6, 17, 18, 19, 20, 21, 22, 23, 24, 25, 26, 27, 28, 29, 30] 5 6
   (fun a v w' => ∃ (i c3 : Nat) (A : Option Addr) (os : List PX) (R : List HE), i ≤ n ∧ v = .int .i64 i ∧ a = .slice A i c3 ∧ os.length = i ∧ xf ls os R ∧ Hp w (.row A i c3 24 2 (aQ PX.cells os) :: .blk b2 24 [.int .i64 p.v, .slice p.A p.n p.c] (0, 0) :: R) w')
   (fun _ v _ => n - (intOf v).toNat) ?_ ?_
  ·exact ⟨0, 0, none, [], [], Nat.zero_le _, rfl, rfl, rfl, ⟨fun j g o _ h => (nomatch h), fun o h => (nomatch h)⟩, hh⟩
  ·clear hh
   rintro ρ' a_ v w' ⟨i, c3, A, os, R, hi, rfl, rfl, hol, hcp, hh⟩
   by_cases hlt : i < n
   ·obtain ⟨z, hx⟩ := aD (l := ls) (k := i) (by omega)
    have hmem := List.mem_of_getElem? hx
    have hz := (hg.Aq z hmem)
    have hzn : z.n ≤ 12 := by have := hz.2; have := (hf z hmem).1.ln; omega
    obtain ⟨ad, rfl, hr⟩ := hL.at_ (by omega)
    refine ah (sr (mI (mL (aO ?_))))
    refine aU (ae (cT (aj (ai (ah (al (aq (mL (mL (mI ?_))))))))))
    refine aR (k := i) aF.out aC.size rfl rfl (by omega) (by omega) (by decide) ?_
    refine bQ (vs := [_, _]) aC.out rfl ((hr.ext hh.below).recAt PX.len hx) rfl (by decide) ?_
    refine aV (ns z _ ((hf z hmem).1.ext hh.below) (by omega)) av.out rfl (by decide) ?_
    rintro e_ w28 ⟨o, ho, rfl, h2⟩
    refine ⟨_, rfl, ?_⟩
    have hoc : o.n ≤ o.c := h2.g7 (i := 0) rfl
    replace hh := hh.join h2
    clear h2
    replace hh := hh.perm (H' := .row A i c3 24 2 (aQ PX.cells os) :: .blk b2 24 [.int .i64 p.v, .slice p.A p.n p.c] (0, 0) :: o.row :: R) (List.perm_middle (l₁ := [_, _])).symm
    refine bB hh (cs := [_, _]) aF.out aC.out (bm (dM rfl) cn) rfl rfl (by decide) (by decide) (by decide) rfl (by decide) ?_
    intro b29 w29 hh
    refine bF hh (i := 1) rfl rfl rfl (hh.aK (i := 0) rfl) aF.out aC.out rfl (by decide) (by first | rfl | exact bU _ | exact bI _ | exact oneCells_i64s _ | exact bf NR.one _) (by omega) (by omega) (by decide) ?_
    intro A30 c30 w30 hh
    simp only [List.set_cons_zero, List.set_cons_succ] at hh
    replace hh := hh.sub (List.sublist_cons_self _ _)
    refine aL (aE (aW (ai (aq (mI ?_)))))
    refine bL (aI (aE (ai ?_)))
    refine ⟨⟨i + 1, c30, A30, os ++ [o], o.row :: R, by omega, rfl, rfl, by rw [List.length_append, hol]; rfl, hcp.add (by rw [hol]; exact hx) ho hoc, by rw [bR, fB]; exact hh⟩, by show n - (i + 1) < n - i; omega, ?_⟩
    (repeat (first | exact aw _ _ _ | refine ax rfl ?_ | refine ar rfl ?_))
   ·obtain rfl : i = n := by omega
    have hol2 : os.length = ls.length := by omega
    have hkey := hcp.key hol2
    have hall : ∀ o ∈ os, o.jO 124 ∧ o.n ≤ 12 ∧ BB o.ts ∧ o.ts.length ≤ 3 := fun o ho => by
     obtain ⟨j, hj⟩ := List.mem_iff_getElem?.1 ho
     obtain ⟨g, hgg⟩ := aD (l := ls) (k := j) (by have := (List.getElem?_eq_some_iff.1 hj).1; omega)
     obtain ⟨e1, e2, e3⟩ := hcp.eq j g o hgg hj
     have hs := hg.Aq g (List.mem_of_getElem? hgg)
     have hl := hll g (List.mem_of_getElem? hgg)
     have hgn : g.ts.length = g.n := (hf g (List.mem_of_getElem? hgg)).1.ln
     exact ⟨⟨by have := hl.n; omega, (hcp.my o ho).2, by rw [e2]; exact hl.ok, fun t ht => hl.sz t (e2 ▸ ht)⟩, by have := hs.2; omega, by rw [e2]; exact hs.1, by rw [e2]; exact hs.2⟩
    refine ah (sr (mI (mL (aO ?_))))
    refine aU (ae (cF ?_))
    refine aP ?_
    refine ay (ay (a6 (ai (sr ?_))))
    refine dh hh 1 [_,_] ?_
    refine aV (ns p _ (hp.ext hh.below) (by omega)) av.out rfl (by decide) ?_
    rintro e_ w32 ⟨o, ⟨o1, o2, o3⟩, rfl, h4⟩
    refine ⟨_, rfl, ?_⟩
    have hoc : o.n ≤ o.c := h4.g7 (i := 0) rfl
    replace hh := hh.join h4
    clear h4
    simp only [List.cons_append, List.nil_append] at hh
    replace hh := show Hp w (.row o.A o.n o.c 55 4 (aQ TR.cells o.ts) :: _) _ from hh
    have lo : o.jO 124 := ⟨by have := lp.n; omega, hoc, by rw [o2]; exact lp.ok, by rw [o2]; exact lp.sz⟩
    have hgo : CB o os := ⟨by rw [o2]; exact hg.CX, by rw [o2]; exact hp6, by rw [o2]; exact hg.ex, by omega, fun g hz => (hall g hz).2.2⟩
    obtain ⟨ks, kh⟩ := Au o1 o2 hkey
    have hsu := fun w1 hT1 ha hs hm hc => l0 o A c3 os 124 124 3 20604 _ w1 hT1 ha lo hs hm hc (B8 hgo fun g hz => (hall g hz).1)
    rw [ks, kh, hol] at hsu
    have hru := fun w1 (hb : Below w.heap.size w w1) => re p L c ls 124 124 3 20604 _ w1 (hp.ext hb) lp (by rw [hln]; exact hL.ext hb) (fun z hz => (hf z hz).1.ext hb) (by omega) hft
    rw [hln] at hru
    have hsl := fun h => zf (p := p) (ls := ls) h
    generalize (jR p ls).1 = E at *
    generalize fa ls = V at *
    generalize (jR p ls).2 = S at *
    refine cv hh ?_
    intro b7 w7 hh
    refine bE hh 0 [_,_] ?_
    intro ws hh
    replace hh : Hp _ (.blk _ _ [_, _] _ :: _) _ := hh
    refine ae (sr ?_)
    refine dh hh 0 [_,_] (mL ?_)
    refine aV (hsu _ (hT.hp hh) (hh.aK (i := 1) rfl) (hh.aK (i := 2) rfl) (fun z hz => vS hh (wq 4 rfl (hcp.my z hz).1)) (hh.g7 (i := 2) rfl)) av.out rfl (by decide) ?_
    rintro e_ w36 ⟨g, og, rfl, h2⟩
    refine ⟨_, rfl, ?_⟩
    replace hh := hh.join h2
    clear h2
    simp only [List.cons_append, List.nil_append] at hh
    replace hh := show Hp w (.row g.A g.n g.c 55 4 (aQ TR.cells g.ts) :: _) _ from hh
    have gn := og.n4 (hh.aK (i := 0) rfl) hsl
    refine mT ?_
    refine dp ?_
    refine dp ?_
    refine cv hh ?_
    intro b8 w8 hh
    refine bE hh 0 [_,_] ?_
    intro ws hh
    replace hh : Hp _ (.blk _ _ [_, _] _ :: _) _ := hh
    refine aI (ae (sr ?_))
    refine dh hh 5 [_,_] (mL ?_)
    refine aV (hru _ hh.below) av.out rfl (by decide) ?_
    rintro e_ w42 ⟨k, ok, rfl, h2⟩
    refine ⟨_, rfl, ?_⟩
    replace hh := hh.join h2
    clear h2
    simp only [List.cons_append, List.nil_append] at hh
    replace hh := show Hp w (.row k.A k.n k.c 55 4 (aQ TR.cells k.ts) :: _) _ from hh
    have kn := ok.n4 (hh.aK (i := 0) rfl) hsl
    refine mT ?_
    refine dp ?_
    refine dp ?_
    refine cv hh ?_
    intro b10 w10 hh
    refine bE hh 0 [_,_] ?_
    intro ws hh
    replace hh : Hp _ (.blk _ _ [_, _] _ :: _) _ := hh
    refine aI (ae (ah (sr (mI (mI ?_)))))
    refine cE (mB ?_)
    first | refine gS ?_ | (refine gT ?_; refine dh hh 2 [_,_] ?_) | refine gV ?_
    first | refine gS ?_ | (refine gT ?_; refine dh hh 0 [_,_] ?_) | refine gV ?_
    refine bu rfl rfl ?_
    refine bG hh (kg (g := g) (h := k) _ (hh.aK (i := 3) rfl) (hh.aK (i := 1) rfl) (og.same ok) (by omega) (by omega)) rfl ?_
    intro w51 hh
    first | refine gS ?_ | (refine gT ?_; refine fi ?_) | refine gV ?_
    first | refine cR ?_ | refine cQ ?_
    refine ae (cF (aj (ai (sr (bC ?_)))))
    refine bH hh 2 ?_
    replace hh := hh.perm (List.perm_middle (l₁ := [_, _, _]))
    simp only [List.cons_append, List.nil_append] at hh
    refine yy hh (i := 0) rfl rfl aF.out aC.out rfl rfl ?_
    intro wc hh
    simp only [List.set_cons_zero] at hh
    replace hh := hh.sub (List.Sublist.cons _ (List.Sublist.cons _ (List.Sublist.cons _ (List.Sublist.cons _ (List.Sublist.cons_cons _ (List.Sublist.cons_cons _ (List.Sublist.cons_cons _ (List.Sublist.cons_cons _ (List.Sublist.refl _)))))))))
    refine ae (ah (sr (aI (ae (al ?_)))))
    refine bs [4, 12, 56, 57, 58, 59, 60, 61, 62, 63, 64, 65, 66, 67, 68, 69, 70, 71] 12
     (fun v w' => ∃ j : Nat, j ≤ i ∧ v = .int .i64 j ∧ Hp w (.blk b7 24 [.int .i64 o.v, .slice o.A o.n o.c] (0, 0) :: .row o.A o.n o.c 55 4 (aQ TR.cells o.ts) :: .row A i c3 24 2 (aQ PX.cells os) :: .blk b2 24 [.int .i64 p.v, .slice p.A p.n p.c] (0, 0) :: R) w')
     (fun v _ => i - (intOf v).toNat) ?_ ?_
    ·exact ⟨0, Nat.zero_le _, rfl, hh⟩
    ·clear hh
     rintro ρ3 v w3 ⟨j, hj, rfl, hh⟩
     by_cases hlt2 : j < i
     ·obtain ⟨z, hx⟩ := aD (l := ls) (k := j) (by omega)
      obtain ⟨y, hy⟩ := aD (l := os) (k := j) (by omega)
      obtain ⟨e1, e2, e3⟩ := hcp.eq j z y hx hy
      have hym := List.mem_of_getElem? hy
      have hy12 := (hall y hym).2.1
      obtain ⟨ad, rfl, hr⟩ := hL.at_ (by omega)
      obtain ⟨g0, rfl⟩ := hh.eO (i := 2) rfl (by omega)
      refine ah (sr (mI (mL (aO ?_))))
      refine aU (ae (cT (aj (ai (ah (al (ah ?_)))))))
      refine aX 8 [[(5, none)], [(12, none)], [(62, some 0), (63, some 1)], [(64, some 2)], [(1, none)], [(12, none)], [(66, some 4), (67, some 5)], [(68, some 6)]] [(7, 69), (6, 68), (5, 67), (4, 66), (3, 65), (2, 64), (1, 63), (0, 62)] hh mixed (by kernel_rfl) ?_
      refine fN ?_
      refine eb ?_
      refine AH (j) ?_
      refine rh [_,_] (fun _ hj => hj.hp.iZ (f := PX.cells) (x := y) (l := os) (i := 2) rfl PX.len (by decide) hy) ?_
      refine fN ?_
      refine eb ?_
      refine iA (j) ?_
      refine rh [_,_] (fun _ hj => (hr.ext hj.hp.below).recAt PX.len hx) ?_
      refine a0 ?_
      intro f W hJ hV
      have hb_17 := hJ.bl
      obtain ⟨v69, v68, v67, v66, v65, v64, v63, v62, _⟩ := hV
      replace hh := hJ.hp
      refine aN (a4 (aa v69 (aa v68 (aa v67 (aa v66 (aa v65 (aa v64 (aa v63 (aa v62 aM))))))))) ?_
      dsimp only [ca]
      clear hJ
      refine bG hh (kg (g := y) (h := z) _ (vS hh (wq 4 rfl (hcp.my y hym).1)) ((hf z (List.mem_of_getElem? hx)).1.ext hh.below) ⟨e1, e2⟩ (by omega) (by omega)) rfl ?_
      intro w70 hh
      refine fi ?_
      refine ae (cF (aj (aW (ai (aq (mI ?_))))))
      refine bL (aI (aE (ai ?_)))
      refine ⟨⟨j + 1, by omega, rfl, hh⟩, by show i - (j + 1) < i - j; omega, ?_⟩
      (repeat (first | exact aw _ _ _ | refine ax rfl ?_ | refine ar rfl ?_))
     ·refine ah (sr (mI (mL (aO ?_))))
      refine aU (ae (cF ?_))
      refine aP ?_
      refine ay (ay (a6 (ai (sr ?_))))
      refine dh hh 0 [_,_] ?_
      refine dh hh 3 [_,_] ?_
      refine bG hh (kg (g := o) (h := p) _ (hh.aK (i := 1) rfl) (hp.ext hh.below) ⟨o1, o2⟩ lo.n lp.n) rfl ?_
      intro w74 hh
      refine mB ?_
      refine bu rfl rfl ?_
      refine bG hh (haw _ (hT.hp hh)) rfl ?_
      intro w76 hh
      first | refine cR ?_ | refine cQ ?_
      refine aB (ae (ao ?_))
      refine cA ?_
      exact ⟨rfl, hh.below⟩
end Go.Proofs.YtaapkaefelhfcaaGreatDoor
/- The row and the card of CalcSubsts. -/
namespace Go.Proofs.YtaapkaefelhfcaaGreatDoor.calcSubsts
open Go.ChangeShapes Go.WideShapes Go.ChangeAt Go.RowKit Go.ChangeMaps
theorem own : ownKnob Tryz.prog.godebug = none := by kernel_rfl
set_option maxRecDepth 100000 in
theorem lifted (os : Os) (started : os.Started) (H : Type) (enc : TypeId × Value → H) :
  ReturnsInHanded {} Tryz.checked os 4 .any (fun w args => (Rows.calcSubstsSpec.pre enc Tryz.prog Tryz.f4 Rows.calcSubstsRow.domain false w args ∧ laidMetH Tryz.prog Rows.calcSubstsRow.laid w) ∧ sizedMet enc Tryz.prog Tryz.f4 (OpenSpec.ofChange Rows.calcSubstsSpec) false w args)
   (Rows.calcSubstsSpec.post enc Tryz.prog Tryz.f4 false true false false) := by
 refine returnsInHanded_of_change_and (C := Tryz.checked) (X := fun w _ => laidMetH Tryz.prog Rows.calcSubstsRow.laid w) (fun _ _ _ hh h => h.of_heap hh) own started (by kernel_rfl) Tryz.func4
  (ChangeSpec.witness_shaped (enc := enc) (C := Tryz.checked) (os := os) (X := fun w _ => laidMetH Tryz.prog Rows.calcSubstsRow.laid w) false (World.laidAll Tryz.prog os Rows.calcSubstsRow.laid) #[.agg #[.int .i64 0, .slice none 0 0], .slice none 0 0] 8 (World.laidAll_os _ _ _)
   (World.shaped_of_ZipB (by kernel_rfl) (by kernel_rfl)) (by kernel_rfl) (by kernel_rfl) (by kernel_rfl)
   (by rw [MakeChecks.laidMetH_plain _ _ _ (by kernel_rfl)]; exact laidMet_laidAll _ (by kernel_rfl) (by kernel_rfl))) ?_
 intro W base args ds gs before hval0 hW hc _ hL _
 have hval : ∀ (j : Nat) t v, Tryz.f4.params[j]? = some t → args[j]? = some v → Value.okWide Tryz.prog W .any base t v := hval0
 have hW' := hW
 obtain ⟨p, q, hA0, hV, rfl, hfz, hnd⟩ := hW
 have hA : DataW.TrodAll enc Tryz.prog W 0 (fun _ => true) true Tryz.f4.params.toList args.toList ds p := hA0
 rw [Tryz.params4] at hA hval
 obtain ⟨v0, vs0, d0, ds0, p0, q0, hargs, rfl, rfl, h0, r0⟩ := trodAll_cons hA
 obtain ⟨v1, vs1, d1, ds1, p1, q1, rfl, rfl, rfl, h1, r1⟩ := trodAll_cons r0
 obtain ⟨rfl, rfl, rfl⟩ := trodAll_nil r1
 obtain rfl : args = #[v0, v1] := by cases args; simp_all
 obtain ⟨rfl, rfl⟩ := trodVars_none hV
 obtain ⟨f0, rfl, hS0, hR0⟩ := xm (hval 0 24 v0 rfl rfl) h0
 obtain ⟨A1, n1, c1, l1, rfl, hS1, hF1⟩ := vi (hval 1 44 v1 rfl rfl) h1
 refine (mV f0 A1 n1 c1 l1 W (tu hL) hS0 hR0 hS1 hF1).mono fun e W' ⟨he, hb⟩ => ?_
 subst he
 exact ⟨_, rfl, y3 hW' rfl (by kernel_rfl) (by rw [Tryz.params4]; exact of_decide_eq_true (by kernel_rfl)) (by kernel_rfl) Tryz.underlying4 rfl rfl rfl hb⟩
set_option maxHeartbeats 8000000 in
theorem row_holds : Rows.CalcSubstsSaid :=
 OpenClaim.holds_of_wide 4 Tryz.f4 rfl rfl rfl rfl rfl rfl rfl ⟨rfl, rfl, rfl, rfl, rfl⟩ rfl rfl rfl rfl rfl (by as_aux_lemma => kernel_rfl) Tryz.func4 (by rw [joinedFacts]; simp only [Bool.and_eq_true]; and_intros <;> as_aux_lemma => kernel_rfl)
  (of_decide_eq_true (by as_aux_lemma => kernel_rfl)) (by unfold Func.isWrapper; first | (rw [if_pos (by decide +kernel)]; kernel_rfl) | (rw [if_neg (by decide +kernel)]; exact ⟨rfl, rfl⟩))
  (fun os started H enc _ => lifted os started H enc)
set_option maxHeartbeats 8000000 in
theorem holds : Rows.CalcSubstsCardSaid :=
 Claim7.holds_tied_plain_at .later [] [.data, .data, .pinned] true (true, "2e058731d083964e00da79f56b5eaec75083ca1c857dbc4a5b6262d178933a13") false row_holds (fun _ h => by cases h) (by as_aux_lemma => kernel_rfl) (fun _ h => by cases h) calcSubsts_row_tie rfl ⟨rfl, rfl⟩ (by as_aux_lemma => kernel_rfl) rfl
  (fun f fn hf hfn => by
   obtain rfl : f = 4 := Option.some.inj ((show Tryz.prog.funcNamed "ogee/ogeelaw09.CalcSubsts" = some 4 by as_aux_lemma => kernel_rfl).symm.trans hf) |>.symm
   obtain rfl : fn = Tryz.f4 := (Option.some.inj (Tryz.func4.symm.trans hfn)).symm
   exact ⟨by as_aux_lemma => kernel_rfl, fun j t ht => by
    rw [Tryz.params4] at ht
    have hm : t ∈ [24, 44] := by simpa using Array.mem_of_getElem? ht
    have hall : ([24, 44].all fun u => !Tryz.prog.wantsStandIn u) = true := by as_aux_lemma => kernel_rfl
    exact (show Tryz.prog.wantsStandIn t = false by simpa using List.all_eq_true.1 hall t hm)⟩)
  (by as_aux_lemma => kernel_rfl)
#print axioms holds
end Go.Proofs.YtaapkaefelhfcaaGreatDoor.calcSubsts
