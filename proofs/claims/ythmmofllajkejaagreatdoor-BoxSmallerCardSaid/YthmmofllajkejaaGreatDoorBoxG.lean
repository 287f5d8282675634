/- The walks through package box, seventh part: the halvings one after another. Plain theory. -/
import Derived.Test.YthmmofllajkejaaGreatDoorBoxF
namespace Go.Proofs.YthmmofllajkejaaGreatDoor
open Go.RowKit
/-- One halving of a box: the axis and the half are told by h; none where the axis lacks. -/
def halveS (b : List SR) (h : Int) : Option (List SR) :=
  if h.fdiv 2 < 0 then none else (b[(h.fdiv 2).toNat]?).map fun s => (b.map SR.f).set (h.fdiv 2).toNat (s.f.half (nR s.f.mid) (decide (h % 2 = 1)))
def partS (b : List SR) (hs : List Int) : Option (List SR) := hs.foldl (fun o h => o.bind (halveS · h)) (some b)
theorem partS_snoc (b : List SR) (hs : List Int) (h : Int) : partS b (hs ++ [h]) = (partS b hs).bind (halveS · h) := by
  unfold partS
  rw [List.foldl_append]
  rfl
theorem foldl_none (hs : List Int) : hs.foldl (fun (o : Option (List SR)) h => o.bind (halveS · h)) none = none := by
  induction hs with
  | nil => rfl
  | cons _ r ih => exact ih
theorem partS_none {b : List SR} {hs : List Int} (i : Nat) (h : partS b (hs.take i) = none) : partS b hs = none := by
  have : hs = hs.take i ++ hs.drop i := (List.take_append_drop i hs).symm
  rw [this]
  unfold partS at *
  rw [List.foldl_append, h, foldl_none]
theorem Sz.mid {k : Nat} {x y : Dyadic} (hx : Sz k x) (hy : Sz k y) : Sz (k + 2) ((x + y) * twoD (-1)) :=
  ((hx.add hy).mul (show Sz 1 (twoD (-1)) from ⟨1, by decide +kernel, by decide⟩)).mono (by omega)
theorem Fin_.up {k l : Nat} {a : NR} (h : Fin_ k a) (hl : k ≤ l) : Fin_ l a := ⟨h.ok, h.sz.mono hl⟩
theorem halveS_fin {b b' : List SR} {h : Int} {k : Nat} (hb : ∀ s ∈ b, s.fin k) (hk : k + 2 ≤ 3000000) (e : halveS b h = some b') : (∀ s ∈ b', s.fin (k + 2)) ∧ b'.length = b.length := by
  unfold halveS at e
  split at e
  · cases e
  · rcases hs : b[(h.fdiv 2).toNat]? with _ | s
    · rw [hs] at e; cases e
    · rw [hs] at e
      cases e
      refine ⟨fun t ht => ?_, by rw [List.length_set, List.length_map]⟩
      have hf := SR.fin_f (hb s (List.mem_of_getElem? hs)) (by omega)
      rcases List.mem_or_eq_of_mem_set ht with ht | rfl
      · obtain ⟨u, hu, rfl⟩ := List.mem_map.1 ht
        have := SR.fin_f (hb u hu) (by omega)
        exact ⟨this.1.up (by omega), this.2.up (by omega)⟩
      · have hm : Fin_ (k + 2) (nR s.f.mid) := Fin_.of (Sz.mid hf.1.sz hf.2.sz) hk
        unfold SR.half
        split
        · exact ⟨hm, hf.2.up (by omega)⟩
        · exact ⟨hf.1.up (by omega), hm⟩
end Go.Proofs.YthmmofllajkejaaGreatDoor
