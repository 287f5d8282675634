/- The built-in clear, on a slice that one owns. Plain lemmas, no program in sight. -/
import Derived.Test.YthmmofllajkejaaGreatDoorBase
namespace Go.Proofs.YthmmofllajkejaaGreatDoor
open Go.RowKit
theorem owns_lower {w : World} {b b' : Nat} {t : TypeId} {sz n c : Nat} {A : Option Addr} {xs : List Value} (h : w.ownsRow b t sz (.slice A n c) n xs) (hb : b' ≤ b) : w.ownsRow b' t sz (.slice A n c) n xs :=
  ⟨h.1, h.2.imp id fun ⟨g, cap, cur, h1, h2, h3⟩ => ⟨g, cap, cur, h1, Nat.le_trans hb h2, h3⟩⟩
theorem holds_lower {w : World} {b b' : Nat} {x : HE} (h : x.holds b w) (hb : b' ≤ b) : x.holds b' w := by
  cases x with
  | blk b t cs fz => exact ⟨Nat.le_trans hb h.1, h.2⟩
  | row A n c t sz xs => exact owns_lower h hb
  | it b s pos => exact ⟨Nat.le_trans hb h.1, h.2⟩
/-- What a call owns at its end its caller owns. -/
theorem Hp.join {w0 w w' : World} {H H2 : List HE} (h : Hp w0 H w) (h2 : Hp w H2 w') : Hp w0 (H2 ++ H) w' := by
  have h' := h.ext h2.below
  refine ⟨h'.below, fun x hx => ?_, ?_⟩
  · rcases List.mem_append.1 hx with hx | hx
    · exact holds_lower (h2.own x hx) h.size
    · exact h'.own x hx
  · rw [List.filterMap_append, List.nodup_append]
    refine ⟨h2.nd, h.nd, fun a ha b hb hab => ?_⟩
    subst hab
    obtain ⟨x, hx, hxa⟩ := List.mem_filterMap.1 ha
    obtain ⟨y, hy, hya⟩ := List.mem_filterMap.1 hb
    have h3 := holds_lt (h2.own x hx) hxa
    have h4 := holds_lt (h.own y hy) hya
    omega
section
variable {P : Program} {N : Nat} {ops : Array Oper} {Q : Kq} {ρ : Rf} {w w0 : World} {rest : List Oper} {H : List HE} {ty : TypeId} {pos : String} {af : Array Edge}
/-- An operation whose value nobody takes. -/
theorem wl_val0 {o : Oper} {v : Value} {w' : World} (hg : o.guard = none) (hd : o.dst = none)
    (hr : (execOp (ev ρ) o).run P w = .ok (.value v) w') (k : WL P N ops Q rest ρ w') : WL P N ops Q (o :: rest) ρ w :=
  ⟨fun a hf => wpList_plain hg fun K hK => by
    unfold Oper.wp
    rw [hf.eval, hr]
    show K (a.put o.dst v) w'
    rw [hd]
    exact hK _ _ (k.out _ hf)⟩
theorem set_same {α : Type} {l : List α} {i : Nat} {x : α} (h : l[i]? = some x) : l.set i x = l := by
  obtain ⟨h1, rfl⟩ := List.getElem?_eq_some_iff.1 h
  exact List.set_getElem_self h1
theorem wl_clear (hh : Hp w0 H w) {t e : TypeId} {x : Operand} {i n c sz by' : Nat} {ag : Bool} {A : Option Addr} {zc xs : List Value} (hi : H[i]? = some (.row A n c e sz xs)) (hx : ev ρ x = .slice A n c)
    (ht : P.underlying t = some (.slice e)) (hte : tinfo P e = some (sz, ag, by', zc)) (hzl : zc.length = sz) (h1 : (zc.all Value.oneCell') = true)
    (k : ∀ w', Hp w0 (H.set i (.row A n c e sz (zrep n zc))) w' → WL P N ops Q rest ρ w') : WL P N ops Q (⟨none, .call ⟨.builtin .clear, #[x], #[t]⟩, ty, pos, af, none⟩ :: rest) ρ w := by
  obtain ⟨z, hz, hzc⟩ := run_zeroValue' (w := w) hte
  have hrow := hh.at_ hi
  obtain ⟨hlen, h2⟩ := hrow
  by_cases h0 : n = 0
  · subst h0
    have hxs : xs = zrep 0 zc := by
      have : xs.length = 0 := by omega
      rw [List.eq_nil_of_length_eq_zero this]; rfl
    subst hxs
    rw [set_same hi] at k
    refine wl_val0 rfl rfl (v := .tuple #[]) ?_ (k w hh)
    simp only [execOp, resolve, invoke, hx, List.map_toArray, List.map_cons, List.map_nil]
    cases A <;> simp [builtin, Builtin.clear_, run_underlying ht]
  · rcases h2 with ⟨h2, _⟩ | ⟨g, cap, cur, hv, hg, hheap, hmc, hcm, hcur, htake⟩
    · injection h2 with h2 h3; omega
    · injection hv with hA hn hcap
      subst hA; subst hcap
      have hcl : cur.size = cur.toList.length := by simp
      have hle : n * sz ≤ c * sz := Nat.mul_le_mul_right _ hmc
      have hzr : (zrep n zc).length = n * sz := by rw [length_zrep, hzl]
      have hall : ∀ v ∈ zrep n zc, v.oneCell' = true := fun v hv => by
        obtain ⟨j, hj⟩ := List.mem_iff_getElem?.1 hv
        have hj2 := (List.getElem?_eq_some_iff.1 hj).1
        rw [length_zrep] at hj2
        rw [zrep_at n zc j hj2] at hj
        exact List.all_eq_true.1 h1 v (List.mem_of_getElem? hj)
      obtain ⟨w', hr, hb', hgr, hs⟩ := run_store_blk (P := P) (b := g) (t := e) (fz := (0, 0)) 0 (zrep n zc) 0 cur.toList w (by simpa using hheap) (.inr (Nat.le_refl _)) (by rw [← hcl, hzr]; omega) hall
      refine wl_val0 rfl rfl (w' := w') (v := .tuple #[]) ?_ (k w' (hh.grown hi hgr (.inl rfl) ⟨hzr, .inr ⟨g, c, (splice cur.toList 0 (zrep n zc)).toArray, rfl, hg, by simpa using hb', hmc, hcm, ?_, ?_⟩⟩))
      · simp only [execOp, resolve, invoke, hx, List.map_toArray, List.map_cons, List.map_nil]
        have hzz : Builtin.zeroCells z.cells n = (zrep n zc).toArray := by
          rw [Builtin.zeroCells, hzc, List.size_toArray]; exact zrep_arr n zc
        obtain ⟨m, rfl⟩ : ∃ m, n = m + 1 := ⟨n - 1, by omega⟩
        simp [builtin, Builtin.clear_, run_underlying ht, hz, hzz, hr]
      · simp only [List.size_toArray]
        rw [length_splice (by rw [← hcl, hzr]; omega), ← hcl, hcur]
      · simp only [splice]
        rw [List.take_zero, List.nil_append, List.take_left' hzr]
end
end Go.Proofs.YthmmofllajkejaaGreatDoor
