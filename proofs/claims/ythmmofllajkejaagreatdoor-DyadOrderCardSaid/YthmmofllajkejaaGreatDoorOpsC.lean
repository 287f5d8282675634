/- Rules for copy. Plain lemmas, no program in sight. -/
import Derived.Test.YthmmofllajkejaaGreatDoorSteps
namespace Go.Proofs.YthmmofllajkejaaGreatDoor
open Go.RowKit
section
variable {P : Program} {N : Nat} {ops : Array Oper} {Q : Kq} {ρ : Rf} {w w0 : World} {rest : List Oper} {H : List HE} {d : Nat} {ty : TypeId} {pos : String} {af : Array Edge}
/-- copy into a row of one's own. -/
theorem wl_copy (hh : Hp w0 H w) {t s e : TypeId} {x y : Operand} {i b o m c dl dc n cy sz by' : Nat} {ag : Bool} {B : Option Addr} {zc xs news : List Value} (hi : H[i]? = some (.row (some ⟨b, 0, none⟩) m c e sz xs)) (hx : ev ρ x = .slice (some ⟨b, o, none⟩) dl dc) (hy : ev ρ y = .slice B n cy)
    (hsl : Sl w B n sz news) (ht : P.underlying t = some (.slice e)) (hte : tinfo P e = some (sz, ag, by', zc)) (ho : o + min n dl * sz ≤ xs.length) (h1 : (news.all Value.oneCell') = true) (hN : d < N)
    (kk : ∀ w', Hp w0 (H.set i (.row (some ⟨b, 0, none⟩) m c e sz (splice xs o (news.take (min n dl * sz))))) w' → WL P N ops Q rest (upd ρ d (.int .i64 ((min n dl : Nat) : Int))) w') :
    WL P N ops Q (⟨some d, .call ⟨.builtin .copy, #[x, y], #[t, s]⟩, ty, pos, af, none⟩ :: rest) ρ w := by
  obtain ⟨inf, z, dd, hti, hd, hz, hsz, hby, hzc, _⟩ := tinfo_spec hte
  have hrow := hh.at_ hi
  obtain ⟨hlen, h2⟩ := hrow
  have hnl := hsl.1
  have hmin : min n dl * sz ≤ n * sz := Nat.mul_le_mul_right _ (Nat.min_le_left _ _)
  have hvl : (news.take (min n dl * sz)).length = min n dl * sz := by rw [List.length_take]; omega
  have h1' : ∀ v ∈ news.take (min n dl * sz), v.oneCell' = true := fun v hv => List.all_eq_true.1 h1 v (List.mem_of_mem_take hv)
  have hcells : (Builtin.firstCells sz (min n dl) (.slice B n cy)).run P w = .ok (news.take (min n dl * sz)).toArray w := by
    cases B with
    | none =>
      have h0 : n = 0 := by
        rcases Nat.eq_zero_or_pos n with h0 | h0
        · exact h0
        · obtain ⟨ad, h1, _⟩ := hsl.2 h0; cases h1
      subst h0
      simp [Builtin.firstCells]
    | some ad =>
      have hrd : ∀ j u, (news.take (min n dl * sz))[j]? = some u → w.cell? (ad.add j) = some u := by
        intro j u hj
        rw [List.getElem?_take] at hj
        split at hj
        · rcases Nat.eq_zero_or_pos n with h0 | h0
          · subst h0
            have : news = [] := List.eq_nil_of_length_eq_zero (by simpa using hnl)
            simp [this] at hj
          · obtain ⟨ad', he, hr'⟩ := hsl.2 h0
            injection he with he
            subst he
            exact hr' j u hj
        · cases hj
      have := run_loadCells_list (P := P) w ad _ hrd
      rw [hvl] at this
      simpa [Builtin.firstCells] using this
  generalize news.take (min n dl * sz) = vs at hvl h1' hcells kk
  rw [← hvl] at ho
  rcases h2 with ⟨h2, _⟩ | ⟨g, cap, cur, hv, hg, hheap, hmc, hcm, hcur, htake⟩
  · injection h2 with h2; cases h2
  · injection hv with hA hn hcap
    injection hA with hA
    injection hA with hA
    subst hA; subst hcap
    have hcl : cur.size = cur.toList.length := by simp
    have hle : m * sz ≤ c * sz := Nat.mul_le_mul_right _ hmc
    obtain ⟨w', hr, hb', hgr, hs⟩ := run_store_blk (P := P) (b := b) (t := e) (fz := (0, 0)) o vs 0 cur.toList w (by simpa using hheap) (.inr (Nat.le_refl _)) (by rw [← hcl]; omega) h1'
    refine wl_val rfl rfl hN (w' := w') (v := .int .i64 ((min n dl : Nat) : Int)) ?_ (kk w' (hh.grown hi hgr (.inl rfl) ⟨by rw [length_splice (by omega)]; exact hlen, .inr ⟨b, c, (splice cur.toList o vs).toArray, rfl, hg, by simpa using hb', hmc, hcm, ?_, ?_⟩⟩))
    · have hmm : Nat.min n dl = min n dl := rfl
      simp only [execOp, resolve, invoke, hx, hy, List.map_toArray, List.map_cons, List.map_nil]
      simp [builtin, Builtin.copy_, run_underlying ht, Builtin.lenOf, sizeOf, typeInfo, hti, hsz, hmm, hcells, hr, goInt]
    · simp only [List.size_toArray]
      rw [length_splice (by rw [← hcl]; omega), ← hcl, hcur]
    · simp only [splice]
      rw [← htake]
      have h5 : o + vs.length ≤ m * sz := by omega
      have h6 : m * sz ≤ cur.toList.length := by rw [← hcl, hcur]; exact hle
      rw [List.take_take, Nat.min_eq_left (by omega), List.drop_take, List.append_assoc, List.append_assoc, List.take_append, List.take_append]
      simp only [List.length_take, Nat.min_eq_left (show o ≤ cur.toList.length by omega)]
      rw [List.take_of_length_le (l := cur.toList.take o) (by simp; omega), List.take_of_length_le (l := vs) (by omega)]
      congr 2
      congr 1
      omega
end
end Go.Proofs.YthmmofllajkejaaGreatDoor
