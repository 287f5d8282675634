/- All products within some degrees: the odometer's list. Plain lemmas, no program in sight. -/
import Derived.Test.YtgljgalcbbjfgaaMonoF
namespace Go.Proofs.Ytgljgalcbbjfgaa
open Go.RowKit
def upTo' (d : Int) : List Int := (List.range (d.toNat + 1)).map fun (k : Nat) => (k : Int)
/-- all lists within ds, rising. -/
def allX : List Int → List (List Int)
  | [] => [[]]
  | d :: ds => (upTo' d).flatMap fun k => (allX ds).map (k :: ·)
def zeros (n : Nat) : List Int := List.replicate n 0
/-- the next one of a list within ds. -/
def nxt : List Int → List Int → Option (List Int)
  | d :: ds, k :: l => match nxt ds l with
    | some l' => some (k :: l')
    | none => if k < d then some ((k + 1) :: zeros l.length) else none
  | _, _ => none
/-- L tells, from a on, all that come by f. -/
def Enum {α : Type} (f : α → Option α) : α → List α → Prop
  | a, [b] => b = a ∧ f a = none
  | a, b :: L => b = a ∧ ∃ c, f a = some c ∧ Enum f c L
  | _, [] => False
theorem enum_one {α : Type} {f : α → Option α} {a : α} (h : f a = none) : Enum f a [a] := ⟨rfl, h⟩
theorem enum_cons {α : Type} {f : α → Option α} {a c : α} {L : List α} (h : f a = some c) (hL : Enum f c L) : Enum f a (a :: L) := by
  cases L with
  | nil => exact hL.elim
  | cons b L => exact ⟨rfl, c, h, hL⟩
theorem enum_step {α : Type} {f : α → Option α} {a : α} {L : List α} (h : Enum f a L) : (L = [a] ∧ f a = none) ∨ ∃ c L', L = a :: L' ∧ f a = some c ∧ Enum f c L' := by
  match L, h with
  | [b], h => exact .inl ⟨by rw [h.1], h.2⟩
  | b :: c :: L, h => obtain ⟨h1, x, h2, h3⟩ := h; exact .inr ⟨x, c :: L, by rw [h1], h2, h3⟩
theorem enum_map {α β : Type} {f : α → Option α} {g : β → Option β} {e : α → β} {b : List β} {z : Option β} (hs : ∀ a c, f a = some c → g (e a) = some (e c)) (hn : ∀ a, f a = none → g (e a) = z)
    (hz : match z with | some c => Enum g c b | none => b = []) : ∀ (L : List α) (a : α), Enum f a L → Enum g (e a) (L.map e ++ b)
  | [c], a, h => by
    obtain ⟨h1, h2⟩ := h
    subst h1
    cases z with
    | none => simp only at hz; subst hz; exact enum_one (hn _ h2)
    | some x => exact enum_cons (hn _ h2) hz
  | c :: d :: L, a, h => by
    obtain ⟨h1, x, h2, h3⟩ := h
    subst h1
    exact enum_cons (hs _ _ h2) (enum_map hs hn hz (d :: L) x h3)
theorem length_zeros (n : Nat) : (zeros n).length = n := by simp [zeros]
theorem range_up (a : Int) : ∀ n : Nat, ((List.range (n + 1)).map fun (k : Nat) => a + (k : Int)) = a :: ((List.range n).map fun (k : Nat) => (a + 1) + (k : Int))
  | n => by
    rw [List.range_succ_eq_map, List.map_cons, List.map_map]
    congr 1
    · simp
    · apply List.map_congr_left
      intro k _
      simp only [Function.comp]
      omega
theorem nxt_len : ∀ (ds l l' : List Int), nxt ds l = some l' → l'.length = l.length
  | d :: ds, k :: l, l', h => by
    simp only [nxt] at h
    split at h
    · rename_i l1 h1
      cases h
      simp [nxt_len ds l l1 h1]
    · split at h
      · cases h; simp [zeros]
      · cases h
  | [], _, _, h => by simp [nxt] at h
  | _ :: _, [], _, h => by simp [nxt] at h
theorem enum_key {ds : List Int} {k d : Int} {R : List (List Int)} (hk : k < d) (ih : Enum (nxt (d :: ds)) ((k + 1) :: zeros ds.length) R) : ∀ (L' : List (List Int)) (a : List Int), (∀ l ∈ L', l.length = ds.length) → Enum (nxt ds) a L' → Enum (nxt (d :: ds)) (k :: a) (L'.map (k :: ·) ++ R)
  | [c], a, hl, h => by
    obtain ⟨h1, h2⟩ := h
    subst h1
    refine enum_cons (c := (k + 1) :: zeros ds.length) ?_ ih
    have : c.length = ds.length := hl c (by simp)
    simp [nxt, h2, this, hk]
  | c :: e :: L', a, hl, h => by
    obtain ⟨h1, x, h2, h3⟩ := h
    subst h1
    exact enum_cons (c := k :: x) (by simp [nxt, h2]) (enum_key hk ih (e :: L') x (fun l hm => hl l (List.mem_cons_of_mem _ hm)) h3)
/-- from k on. -/
theorem enum_from {ds : List Int} (L : List (List Int)) (hL : Enum (nxt ds) (zeros ds.length) L) (hlen : ∀ l ∈ L, l.length = ds.length) (d : Int) : ∀ (n : Nat) (k : Int), k + n = d →
    Enum (nxt (d :: ds)) (k :: zeros ds.length) (((List.range (n + 1)).map fun (j : Nat) => k + (j : Int)).flatMap fun k => L.map (k :: ·))
  | 0, k, hk => by
    have hk' : k = d := by omega
    subst hk'
    have := enum_map (g := nxt (k :: ds)) (e := fun l => k :: l) (b := []) (z := none) (fun a c h => by simp [nxt, h]) (fun a h => by simp [nxt, h]) rfl L _ hL
    simpa using this
  | n + 1, k, hk => by
    rw [range_up, List.flatMap_cons]
    have ih := enum_from L hL hlen d n (k + 1) (by omega)
    exact enum_key (by omega) ih L _ hlen hL
theorem mem_allX_len : ∀ (ds : List Int) (l : List Int), l ∈ allX ds → l.length = ds.length
  | [], l, h => by simp [allX] at h; simp [h]
  | d :: ds, l, h => by
    simp only [allX, List.mem_flatMap, List.mem_map] at h
    obtain ⟨k, _, l', h2, rfl⟩ := h
    simp [mem_allX_len ds l' h2]
theorem enum_all : ∀ ds : List Int, (∀ d ∈ ds, 0 ≤ d) → Enum (nxt ds) (zeros ds.length) (allX ds)
  | [], _ => ⟨rfl, rfl⟩
  | d :: ds, h => by
    have h0 := h d List.mem_cons_self
    have := enum_from (allX ds) (enum_all ds fun x hx => h x (List.mem_cons_of_mem _ hx)) (mem_allX_len ds) d d.toNat 0 (by omega)
    simpa [allX, upTo', zeros, List.replicate_succ] using this
theorem allX_snoc (d : Int) : ∀ ds : List Int, allX (ds ++ [d]) = (allX ds).flatMap fun p => (upTo' d).map fun k => p ++ [k]
  | [] => by simp only [List.nil_append, allX, List.flatMap_cons, List.flatMap_nil, List.append_nil, List.map_cons, List.map_nil]; induction upTo' d with
    | nil => rfl
    | cons a l ih => simp [ih]
  | e :: ds => by
    simp only [List.cons_append, allX, allX_snoc d ds, List.map_flatMap, List.flatMap_assoc, List.flatMap_map, List.map_map, Function.comp_def]
theorem mem_allX_ok : ∀ (ds : List Int), (∀ d ∈ ds, 0 ≤ d ∧ d ≤ 127) → ∀ l ∈ allX ds, l.all expOk = true
  | [], _, l, h => by simp [allX] at h; simp [h]
  | d :: ds, hd, l, h => by
    simp only [allX, upTo', List.mem_flatMap, List.mem_map, List.mem_range] at h
    obtain ⟨_, ⟨k, hk, rfl⟩, l', h2, rfl⟩ := h
    have := hd d List.mem_cons_self
    rw [List.all_cons, mem_allX_ok ds (fun x hx => hd x (List.mem_cons_of_mem _ hx)) l' h2]
    simp [expOk]; omega
theorem length_upTo (d : Int) : (upTo' d).length = d.toNat + 1 := by simp [upTo']
theorem length_allX_snoc (d : Int) (ds : List Int) : (allX (ds ++ [d])).length = (allX ds).length * (d.toNat + 1) := by
  rw [allX_snoc, List.length_flatMap]
  simp only [List.length_map, length_upTo]
  induction allX ds with
  | nil => simp
  | cons a l ih => simp [ih, Nat.add_mul]; omega
/-- whether they are not too many; n: how many so far. -/
def okN : Int → List Int → Bool
  | _, [] => true
  | n, d :: ds => decide (0 ≤ d) && (decide (d ≤ 127) && (decide (n * (d + 1) ≤ 65536) && okN (n * (d + 1)) ds))
def fX (l : List Int) : ByteArray := str (l.map toB)
def allL (ds : List Int) : List ByteArray := if okN 1 ds then (allX ds).map fX else []
theorem allX_pos : ∀ ds : List Int, 0 < (allX ds).length
  | [] => by simp [allX]
  | d :: ds => by
    simp only [allX, upTo', List.length_flatMap]
    rw [List.range_succ_eq_map]
    have := allX_pos ds
    simp; omega
theorem okN_bd : ∀ (ds : List Int) (n : Int), okN n ds = true → ∀ d ∈ ds, 0 ≤ d ∧ d ≤ 127
  | [], _, _, d, h => by simp at h
  | e :: ds, n, h, d, hd => by
    simp only [okN, Bool.and_eq_true, decide_eq_true_eq] at h
    rcases List.mem_cons.1 hd with rfl | hd
    · exact ⟨h.1, h.2.1⟩
    · exact okN_bd ds _ h.2.2.2 d hd
/-- k of them are through. -/
theorem okN_step {ds : List Int} {k : Nat} {d n : Int} (hk : ds[k]? = some d) (h : okN 1 ds = okN n (ds.drop k)) (hb : (0 ≤ d ∧ d ≤ 127) ∧ n * (d + 1) ≤ 65536) :
    okN 1 ds = okN (n * (d + 1)) (ds.drop (k + 1)) := by
  obtain ⟨hlt, he⟩ := List.getElem?_eq_some_iff.1 hk
  rw [h, List.drop_eq_getElem_cons hlt, he]
  simp [okN, hb.1.1, hb.1.2, hb.2]
theorem okN_fail {ds : List Int} {k : Nat} {d n : Int} (hk : ds[k]? = some d) (h : okN 1 ds = okN n (ds.drop k)) (hb : ¬ ((0 ≤ d ∧ d ≤ 127) ∧ n * (d + 1) ≤ 65536)) : okN 1 ds = false := by
  obtain ⟨hlt, he⟩ := List.getElem?_eq_some_iff.1 hk
  rw [h, List.drop_eq_getElem_cons hlt, he]
  simp only [okN, Bool.and_eq_false_iff, decide_eq_false_iff_not]
  rcases Classical.em (0 ≤ d) with h1 | h1 <;> rcases Classical.em (d ≤ 127) with h2 | h2
  · exact .inr (.inr (.inl (by omega)))
  · exact .inr (.inl h2)
  · exact .inl h1
  · exact .inl h1
theorem length_take_succ {ds : List Int} {k : Nat} {d : Int} (hk : ds[k]? = some d) (h0 : 0 ≤ d) : ((allX (ds.take (k + 1))).length : Int) = (allX (ds.take k)).length * (d + 1) := by
  rw [take_snoc hk, length_allX_snoc, Int.natCast_mul]
  congr 1
  omega
theorem okN_take {ds : List Int} (h : okN 1 ds = true) : ∀ k, k ≤ ds.length → okN 1 ds = okN (allX (ds.take k)).length (ds.drop k) ∧ (allX (ds.take k)).length ≤ 65536
  | 0, _ => ⟨by simp [allX], by simp [allX]⟩
  | k + 1, hk => by
    obtain ⟨h1, h2⟩ := okN_take h k (by omega)
    obtain ⟨d, hd⟩ := get_of_lt (l := ds) (k := k) (by omega)
    have hb := okN_bd ds 1 h d (List.mem_of_getElem? hd)
    by_cases hc : ((allX (ds.take k)).length : Int) * (d + 1) ≤ 65536
    · have h3 := okN_step hd h1 ⟨hb, hc⟩
      have h4 := length_take_succ hd hb.1
      rw [← h4] at h3 hc
      exact ⟨h3, by omega⟩
    · have := okN_fail hd h1 fun x => hc x.2
      rw [h] at this; cases this
/-- what the document's answer makes of one of them, with one more variable. -/
def gX (d : Int) (s : ByteArray) : List ByteArray := (upTo' d).map fun q => s ++ str [toB q]
theorem gX_step {ds : List Int} {k : Nat} {d : Int} (hk : ds[k]? = some d) : (allX (ds.take (k + 1))).map fX = ((allX (ds.take k)).map fX).flatMap (gX d) := by
  rw [take_snoc hk, allX_snoc, List.map_flatMap, List.flatMap_map]
  congr 1
  funext p
  simp only [gX, List.map_map]
  apply List.map_congr_left
  intro q _
  simp only [Function.comp, fX, List.map_append, str_append, List.map_cons, List.map_nil]
theorem gX_at {d : Int} {s : ByteArray} {q : Nat} (hq : (q : Int) ≤ d) : (gX d s)[q]? = some (s ++ str [toB q]) := by
  simp only [gX, upTo', List.map_map, List.getElem?_map, List.getElem?_range (show q < d.toNat + 1 by omega), Option.map_some, Function.comp]
theorem length_gX (d : Int) (s : ByteArray) : (gX d s).length = d.toNat + 1 := by simp [gX, upTo']
theorem gX_bd {d : Int} {S : List ByteArray} {j : Nat} {s : ByteArray} (hs : S[j]? = some s) (q : Nat) : ((S.take j).flatMap (gX d) ++ (gX d s).take q).length ≤ (S.flatMap (gX d)).length := by
  have e : S.flatMap (gX d) = (S.take j).flatMap (gX d) ++ (gX d s ++ (S.drop (j + 1)).flatMap (gX d)) := by
    obtain ⟨h1, h2⟩ := List.getElem?_eq_some_iff.1 hs
    conv => lhs; rw [← List.take_append_drop j S, List.drop_eq_getElem_cons h1, h2]
    rw [List.flatMap_append, List.flatMap_cons]
  rw [e]
  simp only [List.length_append, List.length_take]
  omega
theorem fX_size {ds : List Int} {k : Nat} {j : Nat} {s : ByteArray} (hs : ((allX (ds.take k)).map fX)[j]? = some s) : s.size ≤ k := by
  have := List.mem_of_getElem? hs
  obtain ⟨l, hl, rfl⟩ := List.mem_map.1 this
  have := mem_allX_len _ l hl
  simp only [fX, str_size, List.length_map]
  simp at this
  omega
/-- the odometer, from the right: what is behind place i is through. -/
theorem nxt_at (d k : Int) : ∀ (ps es : List Int) (ds ls : List Int), ps.length = es.length → nxt ds ls = none → nxt (es ++ d :: ds) (ps ++ k :: ls) = if k < d then some (ps ++ (k + 1) :: zeros ls.length) else nxt (es ++ d :: ds) (ps ++ k :: ls)
  | [], [], ds, ls, _, h => by
    simp only [List.nil_append, nxt, h]
    split <;> rfl
  | p :: ps, e :: es, ds, ls, hl, h => by
    have ih := nxt_at d k ps es ds ls (by simpa using hl) h
    split
    · rename_i hk
      rw [if_pos hk] at ih
      simp only [List.cons_append, nxt, ih]
    · rfl
  | [], _ :: _, _, _, hl, _ => by simp at hl
  | _ :: _, [], _, _, hl, _ => by simp at hl
theorem nxt_none {d k : Int} {ds ls : List Int} (h : nxt ds ls = none) (hk : ¬ k < d) : nxt (d :: ds) (k :: ls) = none := by
  simp [nxt, h, hk]
theorem Hp.perm {w0 w : World} {H H' : List HE} (h : Hp w0 H w) (p : H.Perm H') : Hp w0 H' w :=
  ⟨h.below, fun x hx => h.own x (p.mem_iff.2 hx), ((p.filterMap _).nodup_iff).1 h.nd⟩
theorem Hp.swap {w0 w : World} {x y : HE} {H : List HE} (h : Hp w0 (x :: y :: H) w) : Hp w0 (y :: x :: H) w := h.perm (.swap y x H)
/-- the row while the places from k on are through. -/
def odoL (ls : List Int) (k n : Nat) : List Int := ls.take k ++ zeros (n - k)
theorem odo_full {ls : List Int} {n : Nat} (h : ls.length = n) : odoL ls n n = ls := by
  unfold odoL; rw [List.take_of_length_le (by omega), Nat.sub_self]; simp [zeros]
theorem odo_len {ls : List Int} {n k : Nat} (h : ls.length = n) (hk : k ≤ n) : (odoL ls k n).length = n := by
  simp [odoL, zeros]; omega
theorem odo_at {ls : List Int} {n k : Nat} {x : Int} (hx : ls[k]? = some x) : (odoL ls (k + 1) n)[k]? = some x := by
  have hlt := (List.getElem?_eq_some_iff.1 hx).1
  unfold odoL
  rw [List.getElem?_append_left (by simp; omega), List.getElem?_take]
  simp [hx]
theorem odo_set {ls : List Int} {n k : Nat} (y : Int) (h : ls.length = n) (hk : k < n) : splice (i64s (odoL ls (k + 1) n)) k [.int .i64 y] = i64s (ls.take k ++ y :: zeros (n - (k + 1))) := by
  have e1 : (odoL ls (k + 1) n).take k = ls.take k := by
    unfold odoL
    rw [List.take_append_of_le_length (by simp; omega), List.take_take]
    congr 1; omega
  have e2 : (odoL ls (k + 1) n).drop (k + 1) = zeros (n - (k + 1)) := by
    unfold odoL
    have hl : (ls.take (k + 1)).length = k + 1 := by simp; omega
    rw [List.drop_append, hl, List.drop_of_length_le (by omega)]
    simp
  simp only [splice, i64s, ← List.map_take, ← List.map_drop, List.length_cons, List.length_nil, Nat.zero_add, e1, e2]
  simp
theorem odo_zero {ls : List Int} {n k : Nat} (hk : k < n) : ls.take k ++ 0 :: zeros (n - (k + 1)) = odoL ls k n := by
  unfold odoL zeros
  rw [show n - k = (n - (k + 1)) + 1 by omega, List.replicate_succ]
theorem odo_some {ds ls : List Int} {n k : Nat} {d x : Int} (hd : ds.length = n) (hl : ls.length = n) (hdk : ds[k]? = some d) (hlk : ls[k]? = some x) (h : nxt (ds.drop (k + 1)) (ls.drop (k + 1)) = none) (hx : x < d) :
    nxt ds ls = some (ls.take k ++ (x + 1) :: zeros (n - (k + 1))) := by
  obtain ⟨h1, h2⟩ := List.getElem?_eq_some_iff.1 hdk
  obtain ⟨h3, h4⟩ := List.getElem?_eq_some_iff.1 hlk
  have := nxt_at d x (ls.take k) (ds.take k) _ _ (by simp; omega) h
  rw [if_pos hx] at this
  have e1 : ds.take k ++ d :: ds.drop (k + 1) = ds := by rw [← h2, ← List.drop_eq_getElem_cons h1, List.take_append_drop]
  have e2 : ls.take k ++ x :: ls.drop (k + 1) = ls := by rw [← h4, ← List.drop_eq_getElem_cons h3, List.take_append_drop]
  rw [e1, e2] at this
  rw [this, List.length_drop, hl]
theorem odo_none {ds ls : List Int} {k : Nat} {d x : Int} (hdk : ds[k]? = some d) (hlk : ls[k]? = some x) (h : nxt (ds.drop (k + 1)) (ls.drop (k + 1)) = none) (hx : ¬ x < d) : nxt (ds.drop k) (ls.drop k) = none := by
  obtain ⟨h1, h2⟩ := List.getElem?_eq_some_iff.1 hdk
  obtain ⟨h3, h4⟩ := List.getElem?_eq_some_iff.1 hlk
  rw [List.drop_eq_getElem_cons h1, List.drop_eq_getElem_cons h3, h2, h4]
  exact nxt_none h hx
theorem expOk_at {ls : List Int} (h : ls.all expOk = true) {k : Nat} {x : Int} (hx : ls[k]? = some x) : 0 ≤ x ∧ x ≤ 127 := by
  have := List.all_eq_true.1 h x (List.mem_of_getElem? hx)
  simpa [expOk] using this
end Go.Proofs.Ytgljgalcbbjfgaa
