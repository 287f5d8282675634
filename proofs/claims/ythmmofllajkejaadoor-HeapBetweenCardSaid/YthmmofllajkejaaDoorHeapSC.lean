/- The walks through package heap, Drop: queues of string. -/
import Derived.Test.YthmmofllajkejaaDoorHeapSB
namespace Go.Proofs.YthmmofllajkejaaDoor
open Go.RowKit
-- umode
theorem ESlim (above k : NR) (z : ByteArray) : ah (⟨above, -1, z⟩ : Ent ByteArray) ⟨k, -1, z⟩ = decide (above.d < k.d) := by
  unfold ah
  exact decide_eq_decide.2 ⟨fun h => h.elim id fun h => absurd h.2 (by simp), .inl⟩
theorem ESdrop0_calls (above : NR) (w : World) :
    Calls Tryd.prog 20 #[.pointer none, .agg #[.bool above.neg, .string above.mag, .int .i64 above.e]] w fun r w' => r = .returned (.int .i64 0) ∧ Below w.heap.size w w' := by
  have hh := Hp.start w
  refine calls_vc (N := 64) (l := [.pointer none, .agg #[.bool above.neg, .string above.mag, .int .i64 above.e]]) Tryd.func20 rfl rfl (by simp) ?_
  refine sr ?_
  refine bxC hh [_,_,_] ?_
  intro b3 w3 hh
  refine aI (wl_end (wc_seq (sr (mP ?_))))
  first | refine s_eqp_f UIs.out rfl rfl (by decide) ?_ | refine s_eqp_t UIs.out rfl rfl (by decide) ?_
  refine wl_end (cT (sr (aI (wl_end (wc_ret (k_ret ?_))))))
  refine ret1 (by first | exact .inr rfl | exact .inl rfl) rfl (v_int rfl) ?_
  exact ⟨rfl, hh.below⟩
/-- What stays. -/
def ESkeep (above : NR) (e : Ent ByteArray) : Bool := !decide (above.d < e.k.d)
theorem ESdrop_calls {w0 w : World} {Hr : List HE} {b n c : Nat} {A : Option Addr} {next : Int} {L : List (Ent ByteArray)} (hh : Hp w0 (.blk b 63 [.slice A n c, .int .i64 next] (0, 0) :: .row A n c 65 5 (recs ES.cells L) :: Hr) w) (hT : Tab w0)
    (above : NR) (ho : above.ok) (hok : ∀ e ∈ L, e.k.ok) (hn : n ≤ 100000) :
    Calls Tryd.prog 20 #[.pointer (some ⟨b, 0, none⟩), .agg #[.bool above.neg, .string above.mag, .int .i64 above.e]] w fun r w' => r = .returned (.int .i64 ((n : Int) - ((L.filter (ESkeep above)).length : Nat))) ∧ ∃ A' c' L', L'.Perm (L.filter (ESkeep above)) ∧ Heap ah 0 L' ∧ Hp w0 (.blk b 63 [.slice A' (L.filter (ESkeep above)).length c', .int .i64 next] (0, 0) :: .row A' (L.filter (ESkeep above)).length c' 65 5 (recs ES.cells L') :: Hr) w' := by
  have hln := (hh.sl_row (i := 1) rfl).recLen ES.len (by decide)
  have hcut : ∀ k, ((L.take k).filter (ESkeep above)).length ≤ n := fun k => Nat.le_trans (List.length_filter_le _ _) (by rw [List.length_take]; omega)
  refine calls_vc (N := 64) (l := [.pointer (some ⟨b, 0, none⟩), .agg #[.bool above.neg, .string above.mag, .int .i64 above.e]]) Tryd.func20 rfl rfl (by simp) ?_
  refine sr ?_
  refine bxC hh [_,_,_] ?_
  intro b3 w3 hh
  refine aI (wl_end (wc_seq (sr (mP ?_))))
  first | refine s_eqp_f UIs.out rfl rfl (by decide) ?_ | refine s_eqp_t UIs.out rfl rfl (by decide) ?_
  refine wl_end (cF (wc_skip (k_then (sr (aL (wl_end (sr ?_)))))))
  refine lgC hh 0 [_,_,_] ?_
  refine bdC [_,_,_,_,_] ?_
  refine alC hh ?_
  intro b6 w6 hh
  refine stC hh 0 [_,_,_,_,_] ?_
  intro ws hh
  replace hh : Hp _ (.blk _ _ [_, _, _, _, _] _ :: _) _ := hh
  refine wl_end (sr ?_)
  refine lgC hh 0 [_,_,_,_,_] ?_
  refine s_makeFunc (evs_cons (ev_agg rfl) evs_nil) rfl (by decide) ?_
  refine s_assign (by first | exact ev_func rfl | exact ev_nilf rfl) (by decide) ?_
  refine wl_end (wc_seq (sr (mP ?_)))
  refine s_nilCheck rfl (by decide) ?_
  refine faC ?_
  refine l1C hh 2 ?_
  refine lenC (mI (wl_end (wc_block ?_)))
  replace hh := hh.sub (List.Sublist.cons _ (List.Sublist.cons _ (List.Sublist.cons_cons _ (List.Sublist.cons_cons _ (List.Sublist.refl _)))))
  replace hh := hh.nil_row 65 5
  refine wc_loop2 [5, 9, 23, 24, 25, 26, 27, 28, 29, 30, 31, 32, 33, 34, 35, 36, 37] 5 23
    (fun v5 v23 w' => ∃ (i c5 : Nat) (A5 : Option Addr), i ≤ n ∧ v23 = .int .i64 i ∧ v5 = .slice A5 ((L.take i).filter (ESkeep above)).length c5 ∧ Hp w0 (.row A5 ((L.take i).filter (ESkeep above)).length c5 65 5 (recs ES.cells ((L.take i).filter (ESkeep above))) :: .blk b 63 [.slice A n c, .int .i64 next] (0, 0) :: .row A n c 65 5 (recs ES.cells L) :: Hr) w')
    (fun _ j _ => n - (intOf j).toNat) ?_ ?_
  · exact ⟨0, 0, none, by omega, rfl, rfl, hh⟩
  · clear hh
    rintro ρ' v5 v23 w' ⟨i, c5, A5, hi, rfl, rfl, hh⟩
    have hci := hcut i
    by_cases hlt : i < n
    · obtain ⟨x, hx⟩ := get_of_lt (l := L) (k := i) (by omega)
      have ox := hok x (List.mem_of_getElem? hx)
      have htk : (L.take (i + 1)).filter (ESkeep above) = (L.take i).filter (ESkeep above) ++ [x].filter (ESkeep above) := by rw [take_snoc hx, List.filter_append]
      have haw := fun w1 hT1 => ESahead_calls ⟨above, -1, (ByteArray.mk #[])⟩ ⟨x.k, -1, (ByteArray.mk #[])⟩ w1 hT1 ho ox
      rw [ESlim] at haw
      obtain ⟨g, rfl⟩ := hh.row_some (i := 2) rfl (by omega)
      cases hk : decide (above.d < x.k.d) with
      | true =>
        rw [hk] at haw
        have hf : [x].filter (ESkeep above) = [] := by rw [List.filter_cons, ESkeep, hk]; rfl
        rw [hf, List.append_nil] at htk
        refine sr ?_
        refine lssC (wl_end (wc_seq (cT (wc_skip (k_then (wc_seq (wc_block (sr ?_))))))))
        refine s_indexRow (k := i) UIs.out TIs.size rfl rfl (by omega) (by omega) (by decide) ?_
        refine s_load (vs := [_, _, _, _, _]) TIs.out rfl (hh.recRow (f := ES.cells) (x := x) (l := L) (i := 2) rfl ES.len (by decide) hx) rfl (by decide) ?_
        refine alC hh ?_
        intro b9 w9 hh
        refine stC hh 0 [_,_,_,_,_] ?_
        intro ws hh
        replace hh : Hp _ (.blk _ _ [_, _, _, _, _] _ :: _) _ := hh
        refine wl_end (sr ?_)
        refine s_move (by first | exact ev_func rfl | exact ev_nilf rfl) (by decide) ?_
        refine faC ?_
        refine lgC hh 0 [_,_,_] ?_
        refine bdC [_,_,_,_,_] ?_
        refine s_callv (haw _ (hT.hp hh)) FnIs.out rfl rfl (by decide) ?_
        rintro e_ w31 ⟨rfl, hb_⟩
        refine ⟨_, rfl, ?_⟩
        replace hh := hh.ext hb_
        refine notC ?_
        refine wl_end (cF (wc_skip (b_norm (k_then (wc_region ?_)))))
        refine addC (mI (wl_nil (k_then ?_)))
        replace hh := hh.sub (List.Sublist.cons _ (List.Sublist.cons_cons _ (List.Sublist.cons_cons _ (List.Sublist.cons_cons _ (List.Sublist.refl _)))))
        refine ⟨⟨i + 1, c5, A5, by omega, rfl, by rw [htk]; rfl, by rw [htk]; exact hh⟩, by show n - (i + 1) < n - i; omega, ?_⟩
        (repeat (first | exact agree_mask _ _ _ | refine agree_upd rfl ?_ | refine agree_mask2 rfl ?_))
      | false =>
        rw [hk] at haw
        have hf : [x].filter (ESkeep above) = [x] := by rw [List.filter_cons, ESkeep, hk]; rfl
        rw [hf] at htk
        have hl2 : ((L.take (i + 1)).filter (ESkeep above)).length = ((L.take i).filter (ESkeep above)).length + 1 := by rw [htk, List.length_append]; rfl
        have hr2 : recs ES.cells ((L.take (i + 1)).filter (ESkeep above)) = recs ES.cells ((L.take i).filter (ESkeep above)) ++ [.bool x.k.neg, .string x.k.mag, .int .i64 x.k.e, .int .i64 x.t, .string x.x] := by rw [htk, recs_append, recs_one]; rfl
        refine sr ?_
        refine lssC (wl_end (wc_seq (cT (wc_skip (k_then (wc_seq (wc_block (sr ?_))))))))
        refine s_indexRow (k := i) UIs.out TIs.size rfl rfl (by omega) (by omega) (by decide) ?_
        refine s_load (vs := [_, _, _, _, _]) TIs.out rfl (hh.recRow (f := ES.cells) (x := x) (l := L) (i := 2) rfl ES.len (by decide) hx) rfl (by decide) ?_
        refine alC hh ?_
        intro b9 w9 hh
        refine stC hh 0 [_,_,_,_,_] ?_
        intro ws hh
        replace hh : Hp _ (.blk _ _ [_, _, _, _, _] _ :: _) _ := hh
        refine wl_end (sr ?_)
        refine s_move (by first | exact ev_func rfl | exact ev_nilf rfl) (by decide) ?_
        refine faC ?_
        refine lgC hh 0 [_,_,_] ?_
        refine bdC [_,_,_,_,_] ?_
        refine s_callv (haw _ (hT.hp hh)) FnIs.out rfl rfl (by decide) ?_
        rintro e_ w31 ⟨rfl, hb_⟩
        refine ⟨_, rfl, ?_⟩
        replace hh := hh.ext hb_
        refine notC ?_
        refine wl_end (cT (wc_region (mL ?_)))
        refine lgC hh 0 [_,_,_,_,_] ?_
        refine wl_buildSlice hh (cs := [_, _, _, _, _]) UIs.out TIs.out (evp_cons (ev_agg rfl) evp_nil) rfl rfl (by decide) (by decide) (by decide) rfl (by decide) ?_
        intro b35 w35 hh
        refine wl_append hh (i := 2) rfl rfl rfl (hh.sl_row (i := 0) rfl) UIs.out TIs.out rfl (by decide) (by first | rfl | exact oneCells_u8n _ | exact oneCells_u64s _ | exact oneCells_i64s _ | exact recs_oneCells NR.one _) (by omega) (by omega) (by decide) ?_
        intro A36 c36 w36 hh
        simp only [List.set_cons_zero, List.set_cons_succ] at hh
        replace hh := hh.sub (List.sublist_cons_self _ _)
        refine aL (wl_nil (b_norm (k_then (wc_region ?_))))
        refine addC (mI (wl_nil (k_then ?_)))
        replace hh := hh.sub (List.Sublist.cons _ (List.Sublist.cons_cons _ (List.Sublist.cons_cons _ (List.Sublist.cons_cons _ (List.Sublist.refl _)))))
        refine ⟨⟨i + 1, c36, A36, by omega, rfl, by rw [hl2]; rfl, by rw [hl2, hr2]; exact hh⟩, by show n - (i + 1) < n - i; omega, ?_⟩
        (repeat (first | exact agree_mask _ _ _ | refine agree_upd rfl ?_ | refine agree_mask2 rfl ?_))
    · have hin : L.take i = L := List.take_of_length_le (by omega)
      rw [hin] at hh hci ⊢
      refine sr ?_
      refine lssC (wl_end (wc_seq (cF ?_)))
      refine wc_exit ?_
      refine k_exit (k_exit (b_here (k_then (sr (mP ?_)))))
      refine s_nilCheck rfl (by decide) ?_
      refine faC ?_
      refine l1C hh 1 ?_
      refine lenC (mL (lenC ?_))
      refine subC (aI (wl_end (sr (mP (mL ?_)))))
      refine s_nilCheck rfl (by decide) ?_
      refine faC ?_
      refine stC hh 1 [_] ?_
      intro ws hh
      replace hh : Hp _ (_ :: .blk _ _ [_, _] _ :: _) _ := hh
      refine wl_end (wc_seq (sr (mP ?_)))
      refine s_nilCheck rfl (by decide) ?_
      refine faC ?_
      refine l1C hh 1 ?_
      refine lenC ?_
      refine subC (aI (wl_end (wc_block ?_)))
      replace hh := hh.sub (List.Sublist.cons_cons _ (List.Sublist.cons_cons _ (List.Sublist.cons _ (List.Sublist.refl _))))
      replace hh := hh.perm (List.perm_middle (l₁ := [_]))
      simp only [List.cons_append, List.nil_append] at hh
      refine wc_loop1 [11, 56, 57, 58, 59, 60, 61, 62] 11
        (fun v11 w' => ∃ (k : Nat) (L' : List (Ent ByteArray)), k ≤ (L.filter (ESkeep above)).length ∧ v11 = .int .i64 ((k : Int) - 1) ∧ L'.Perm (L.filter (ESkeep above)) ∧ Heap ah k L' ∧ Hp w0 (.blk b 63 [.slice A5 (L.filter (ESkeep above)).length c5, .int .i64 next] (0, 0) :: .row A5 (L.filter (ESkeep above)).length c5 65 5 (recs ES.cells L') :: Hr) w')
        (fun v _ => (intOf v + 1).toNat) ?_ ?_
      · exact ⟨_, _, Nat.le_refl _, rfl, List.Perm.refl _, Heap.past (by omega), hh⟩
      · clear hh
        rintro ρ' v11 w' ⟨k, L', hk, rfl, hp, hhp, hh⟩
        cases k with
        | zero =>
          refine wc_seq (sr (mI ?_))
          refine geqC (wl_end (cF ?_))
          refine wc_exit ?_
          refine k_exit (k_exit (b_here (k_then (sr (mI (aI (wl_end (wc_ret ?_))))))))
          refine ret1 (by first | exact .inr rfl | exact .inl rfl) rfl (v_int rfl) ?_
          exact ⟨rfl, A5, c5, L', hp, hhp, hh⟩
        | succ k =>
          rw [show ((k + 1 : Nat) : Int) - 1 = (k : Int) by omega]
          refine wc_seq (sr (mI ?_))
          refine geqC (wl_end (cT (wc_skip (k_then (wc_seq (wc_block (wc_region (mP (mI ?_)))))))))
          refine s_callf (ESsink_calls (at_ := k) (s := k) hh hT (fun e he => hok e (List.mem_filter.1 (hp.mem_iff.1 he)).1) (by omega) (by omega) (Sinks.start hhp)) FnIs.out rfl (by decide) ?_
          rintro e_ w62 ⟨rfl, L2, hp2, hhp2, hh⟩
          refine ⟨_, rfl, ?_⟩
          refine wl_nil (b_norm (k_then (wc_region (mI ?_))))
          refine subC (aI (wl_nil (k_then ?_)))
          refine ⟨⟨k, L2, by omega, rfl, hp2.trans hp, hhp2, hh⟩, by show ((k : Int) - 1 + 1).toNat < ((k : Int) + 1).toNat; omega, ?_⟩
          (repeat (first | exact agree_mask _ _ _ | refine agree_upd rfl ?_ | refine agree_mask2 rfl ?_))
end Go.Proofs.YthmmofllajkejaaDoor
