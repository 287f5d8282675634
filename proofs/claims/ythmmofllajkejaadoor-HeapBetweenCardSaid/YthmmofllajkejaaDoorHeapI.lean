/- The walks through package heap: queues of int. -/
import Derived.Test.YthmmofllajkejaaDoorShD
import Derived.Test.YthmmofllajkejaaDoorHeapM
namespace Go.Proofs.YthmmofllajkejaaDoor
open Go.RowKit
-- umode
theorem EIahead_calls (a b : Ent Int) (w : World) (hT : Tab w) (ha : a.k.ok) (hb : b.k.ok) :
    Calls Tryd.prog 24 #[.agg #[.bool a.k.neg, .string a.k.mag, .int .i64 a.k.e, .int .i64 a.t, .int .i64 a.x], .agg #[.bool b.k.neg, .string b.k.mag, .int .i64 b.k.e, .int .i64 b.t, .int .i64 b.x]] w fun r w' => r = .returned (.bool (ah a b)) ∧ Below w.heap.size w w' := by
  have hh := Hp.start w
  have hc := fun w1 hT1 => dCmp_calls a.k b.k w1 hT1 ha hb
  rcases d_tri a.k.d b.k.d with h | h | h
  · rw [cmpD_of_lt h] at hc
    refine calls_vc (N := 19) (l := [.agg #[.bool a.k.neg, .string a.k.mag, .int .i64 a.k.e, .int .i64 a.t, .int .i64 a.x], .agg #[.bool b.k.neg, .string b.k.mag, .int .i64 b.k.e, .int .i64 b.t, .int .i64 b.x]]) Tryd.func24 rfl rfl (by simp) ?_
    refine sr ?_
    refine bxC hh [_,_,_,_,_] ?_
    intro b2 w2 hh
    refine bxC hh [_,_,_,_,_] ?_
    intro b3 w3 hh
    refine aB (wl_end (wc_seq (sr (faC ?_))))
    refine lgC hh 1 [_,_,_] (faC ?_)
    refine lgC hh 0 [_,_,_] ?_
    refine s_callf (hc _ (hT.hp hh)) FnIs.out rfl (by decide) ?_
    rintro e_ w9 ⟨rfl, hb_⟩
    refine ⟨_, rfl, ?_⟩
    replace hh := hh.ext hb_
    refine wl_end (wc_block (sr ?_))
    refine eqlC (aB (wl_end (cT (sr (aB (wl_end (wc_ret (b_ret (k_ret ?_)))))))))
    refine ret1 (by first | exact .inr rfl | exact .inl rfl) rfl (v_bool rfl) ?_
    exact ⟨by rw [ah, decide_eq_true (.inl h)], hh.below⟩
  · rw [h, cmpD_self] at hc
    have hn : ¬ a.k.d < b.k.d := by grind
    by_cases ht : a.t < b.t
    · refine calls_vc (N := 19) (l := [.agg #[.bool a.k.neg, .string a.k.mag, .int .i64 a.k.e, .int .i64 a.t, .int .i64 a.x], .agg #[.bool b.k.neg, .string b.k.mag, .int .i64 b.k.e, .int .i64 b.t, .int .i64 b.x]]) Tryd.func24 rfl rfl (by simp) ?_
      refine sr ?_
      refine bxC hh [_,_,_,_,_] ?_
      intro b2 w2 hh
      refine bxC hh [_,_,_,_,_] ?_
      intro b3 w3 hh
      refine aB (wl_end (wc_seq (sr (faC ?_))))
      refine lgC hh 1 [_,_,_] (faC ?_)
      refine lgC hh 0 [_,_,_] ?_
      refine s_callf (hc _ (hT.hp hh)) FnIs.out rfl (by decide) ?_
      rintro e_ w9 ⟨rfl, hb_⟩
      refine ⟨_, rfl, ?_⟩
      replace hh := hh.ext hb_
      refine wl_end (wc_block (sr ?_))
      refine eqlC (aB (wl_end (cF (sr ?_))))
      refine eqlC (aB (wl_end (cT (sr (faC ?_)))))
      refine l1C hh 1 ?_
      refine faC ?_
      refine l1C hh 0 ?_
      refine lssC (aB (wl_end (wc_ret (b_ret (k_ret ?_)))))
      refine ret1 (by first | exact .inr rfl | exact .inl rfl) rfl (v_bool rfl) ?_
      exact ⟨by rw [ah, decide_eq_true (.inr ⟨h, ht⟩)], hh.below⟩
    · refine calls_vc (N := 19) (l := [.agg #[.bool a.k.neg, .string a.k.mag, .int .i64 a.k.e, .int .i64 a.t, .int .i64 a.x], .agg #[.bool b.k.neg, .string b.k.mag, .int .i64 b.k.e, .int .i64 b.t, .int .i64 b.x]]) Tryd.func24 rfl rfl (by simp) ?_
      refine sr ?_
      refine bxC hh [_,_,_,_,_] ?_
      intro b2 w2 hh
      refine bxC hh [_,_,_,_,_] ?_
      intro b3 w3 hh
      refine aB (wl_end (wc_seq (sr (faC ?_))))
      refine lgC hh 1 [_,_,_] (faC ?_)
      refine lgC hh 0 [_,_,_] ?_
      refine s_callf (hc _ (hT.hp hh)) FnIs.out rfl (by decide) ?_
      rintro e_ w9 ⟨rfl, hb_⟩
      refine ⟨_, rfl, ?_⟩
      replace hh := hh.ext hb_
      refine wl_end (wc_block (sr ?_))
      refine eqlC (aB (wl_end (cF (sr ?_))))
      refine eqlC (aB (wl_end (cT (sr (faC ?_)))))
      refine l1C hh 1 ?_
      refine faC ?_
      refine l1C hh 0 ?_
      refine lssC (aB (wl_end (wc_ret (b_ret (k_ret ?_)))))
      refine ret1 (by first | exact .inr rfl | exact .inl rfl) rfl (v_bool rfl) ?_
      exact ⟨by rw [ah, decide_eq_false fun h2 => h2.elim hn fun h3 => ht h3.2], hh.below⟩
  · rw [cmpD_of_gt h] at hc
    refine calls_vc (N := 19) (l := [.agg #[.bool a.k.neg, .string a.k.mag, .int .i64 a.k.e, .int .i64 a.t, .int .i64 a.x], .agg #[.bool b.k.neg, .string b.k.mag, .int .i64 b.k.e, .int .i64 b.t, .int .i64 b.x]]) Tryd.func24 rfl rfl (by simp) ?_
    refine sr ?_
    refine bxC hh [_,_,_,_,_] ?_
    intro b2 w2 hh
    refine bxC hh [_,_,_,_,_] ?_
    intro b3 w3 hh
    refine aB (wl_end (wc_seq (sr (faC ?_))))
    refine lgC hh 1 [_,_,_] (faC ?_)
    refine lgC hh 0 [_,_,_] ?_
    refine s_callf (hc _ (hT.hp hh)) FnIs.out rfl (by decide) ?_
    rintro e_ w9 ⟨rfl, hb_⟩
    refine ⟨_, rfl, ?_⟩
    replace hh := hh.ext hb_
    refine wl_end (wc_block (sr ?_))
    refine eqlC (aB (wl_end (cF (sr ?_))))
    refine eqlC (aB (wl_end (cF (wc_skip (b_norm (k_then (sr (aB (wl_end (wc_ret ?_))))))))))
    refine ret1 (by first | exact .inr rfl | exact .inl rfl) rfl (v_bool rfl) ?_
    exact ⟨by rw [ah, decide_eq_false fun h2 => by rcases h2 with h2 | h2 <;> grind], hh.below⟩
theorem EIrise_calls {w0 w : World} {Hr : List HE} {b n c at_ : Nat} {A : Option Addr} {next : Int} {L : List (Ent Int)} (hh : Hp w0 (.blk b 50 [.slice A n c, .int .i64 next] (0, 0) :: .row A n c 52 5 (recs EI.cells L) :: Hr) w) (hT : Tab w0)
    (hok : ∀ e ∈ L, e.k.ok) (hn : n ≤ 1000000) (hat : at_ < n) (hr : Rises ah at_ L) :
    Calls Tryd.prog 22 #[.pointer (some ⟨b, 0, none⟩), .int .i64 at_] w fun r w' => r = .returned (.tuple #[]) ∧ ∃ L', L'.Perm L ∧ Heap ah 0 L' ∧ Hp w0 (.blk b 50 [.slice A n c, .int .i64 next] (0, 0) :: .row A n c 52 5 (recs EI.cells L') :: Hr) w' := by
  refine calls_vc (N := 53) (l := [.pointer (some ⟨b, 0, none⟩), .int .i64 at_]) Tryd.func22 rfl rfl (by simp) ?_
  refine wc_scope (wc_seq (wc_label (k_then (wc_block ?_))))
  refine wc_loop1 [1, 4, 5, 6, 7, 8, 9, 10, 11, 12, 13, 14, 15, 16, 17, 18, 19, 20, 21, 22, 23, 24, 25, 26, 27, 28, 29, 30, 31, 32, 33, 34, 35, 36, 37, 38, 39, 40, 41, 42, 43, 44, 45, 46, 47, 48, 49, 50, 51, 52] 1
    (fun j w' => ∃ (i : Nat) (L' : List (Ent Int)), j = .int .i64 i ∧ i < n ∧ L'.Perm L ∧ Rises ah i L' ∧ Hp w0 (.blk b 50 [.slice A n c, .int .i64 next] (0, 0) :: .row A n c 52 5 (recs EI.cells L') :: Hr) w')
    (fun j _ => (intOf j).toNat) ?_ ?_
  · exact ⟨at_, L, rfl, hat, List.Perm.refl _, hr, hh⟩
  · clear hh hr hat
    rintro ρ' j w' ⟨i, L', rfl, hi, hp, hr, hh⟩
    by_cases hi0 : i = 0
    · subst hi0
      refine wc_seq (sr (mI ?_))
      refine gtrC (wl_end (cF ?_))
      refine wc_exit ?_
      refine k_exit (k_exit (b_here (sc_norm ?_)))
      refine ret0 (by first | exact .inr rfl | exact .inl rfl) rfl  ?_
      exact ⟨rfl, L', hp, hr.stop fun p a b hk => by unfold Kid at hk; omega, hh⟩
    · have hln := (hh.sl_row (i := 1) rfl).recLen EI.len (by decide)
      obtain ⟨x, hx⟩ := get_of_lt (l := L') (k := i) (by omega)
      obtain ⟨y, hy⟩ := get_of_lt (l := L') (k := (i - 1) / 2) (by omega)
      have hkid : Kid ((i - 1) / 2) i := by unfold Kid; omega
      have ox := hok x (hp.mem_iff.1 (List.mem_of_getElem? hx))
      have oy := hok y (hp.mem_iff.1 (List.mem_of_getElem? hy))
      have e : ((i : Int) - 1) / 2 = (((i - 1) / 2 : Nat) : Int) := by omega
      have haw := fun w1 hT1 => EIahead_calls x y w1 hT1 ox oy
      obtain ⟨g, rfl⟩ := hh.row_some (i := 1) rfl (by omega)
      cases hxy : ah x y with
      | false =>
        rw [hxy] at haw
        refine wc_seq (sr (mI ?_))
        refine gtrC (wl_end (cT (wc_skip (k_then (wc_block (sr (mI ?_)))))))
        refine subC ?_
        refine s_quoi rfl rfl (by omega) (by omega) (by omega) (by decide) ?_
        refine aI (wl_end (wc_seq (wc_seq ?_)))
        rw [e]
        refine wc_drawn 14 [[(0, none)], [(10, some 0)], [(11, some 1)], [(12, some 2)], [(1, none)], [(13, some 3), (14, some 4)], [(15, some 5)], [(0, none)], [(17, some 7)], [(18, some 8)], [(19, some 9)], [(4, none)], [(20, some 10), (21, some 11)], [(22, some 12)]] [(13, 23), (12, 22), (11, 21), (10, 20), (9, 19), (8, 18), (7, 17), (6, 16), (5, 15), (4, 14), (3, 13), (2, 12), (1, 11), (0, 10)] hh mixed (by kernel_rfl) ?_
        refine dmP ?_
        refine dnc ?_
        refine dfa ?_
        refine dl1 0 ?_
        refine dmI ?_
        refine dix (i) ?_
        refine dLF [_,_,_,_,_] (fun _ hj => hj.hp.recRow (f := EI.cells) (x := x) (l := L') (i := 1) rfl EI.len (by decide) hx) ?_
        refine dmP ?_
        refine dnc ?_
        refine dfa ?_
        refine dl1 0 ?_
        refine dmI ?_
        refine dix ((i - 1) / 2) ?_
        refine dLF [_,_,_,_,_] (fun _ hj => hj.hp.recRow (f := EI.cells) (x := y) (l := L') (i := 1) rfl EI.len (by decide) hy) ?_
        refine dx_nil ?_
        intro f W hJ hV
        have hb_2 := hJ.bl
        obtain ⟨v23, v22, v21, v20, v19, v18, v17, v16, v15, v14, v13, v12, v11, v10, _⟩ := hV
        replace hh := hJ.hp
        refine wl_cast (updL_K (eql_cons v23 (eql_cons v22 (eql_cons v21 (eql_cons v20 (eql_cons v19 (eql_cons v18 (eql_cons v17 (eql_cons v16 (eql_cons v15 (eql_cons v14 (eql_cons v13 (eql_cons v12 (eql_cons v11 (eql_cons v10 eql_nil))))))))))))))) ?_
        dsimp only [updK]
        clear hJ
        refine s_callf (haw _ (hT.hp hh)) FnIs.out rfl (by decide) ?_
        rintro e_ w24 ⟨rfl, hb_⟩
        refine ⟨_, rfl, ?_⟩
        replace hh := hh.ext hb_
        refine notC ?_
        refine wl_end (cT ?_)
        refine wc_exit ?_
        refine k_exit ?_
        refine b_past (by decide) ?_
        refine k_exit (b_here (sc_norm ?_))
        refine ret0 (by first | exact .inr rfl | exact .inl rfl) rfl  ?_
        refine ⟨rfl, L', hp, hr.stop fun p a b hk ha hb => ?_, hh⟩
        have e2 : p = (i - 1) / 2 := by unfold Kid at hk hkid; omega
        subst e2
        rw [hx] at hb
        rw [hy] at ha
        cases ha
        cases hb
        exact hxy
      | true =>
        rw [hxy] at haw
        refine wc_seq (sr (mI ?_))
        refine gtrC (wl_end (cT (wc_skip (k_then (wc_block (sr (mI ?_)))))))
        refine subC ?_
        refine s_quoi rfl rfl (by omega) (by omega) (by omega) (by decide) ?_
        refine aI (wl_end (wc_seq (wc_seq ?_)))
        rw [e]
        refine wc_drawn 14 [[(0, none)], [(10, some 0)], [(11, some 1)], [(12, some 2)], [(1, none)], [(13, some 3), (14, some 4)], [(15, some 5)], [(0, none)], [(17, some 7)], [(18, some 8)], [(19, some 9)], [(4, none)], [(20, some 10), (21, some 11)], [(22, some 12)]] [(13, 23), (12, 22), (11, 21), (10, 20), (9, 19), (8, 18), (7, 17), (6, 16), (5, 15), (4, 14), (3, 13), (2, 12), (1, 11), (0, 10)] hh mixed (by kernel_rfl) ?_
        refine dmP ?_
        refine dnc ?_
        refine dfa ?_
        refine dl1 0 ?_
        refine dmI ?_
        refine dix (i) ?_
        refine dLF [_,_,_,_,_] (fun _ hj => hj.hp.recRow (f := EI.cells) (x := x) (l := L') (i := 1) rfl EI.len (by decide) hx) ?_
        refine dmP ?_
        refine dnc ?_
        refine dfa ?_
        refine dl1 0 ?_
        refine dmI ?_
        refine dix ((i - 1) / 2) ?_
        refine dLF [_,_,_,_,_] (fun _ hj => hj.hp.recRow (f := EI.cells) (x := y) (l := L') (i := 1) rfl EI.len (by decide) hy) ?_
        refine dx_nil ?_
        intro f W hJ hV
        have hb_2 := hJ.bl
        obtain ⟨v23, v22, v21, v20, v19, v18, v17, v16, v15, v14, v13, v12, v11, v10, _⟩ := hV
        replace hh := hJ.hp
        refine wl_cast (updL_K (eql_cons v23 (eql_cons v22 (eql_cons v21 (eql_cons v20 (eql_cons v19 (eql_cons v18 (eql_cons v17 (eql_cons v16 (eql_cons v15 (eql_cons v14 (eql_cons v13 (eql_cons v12 (eql_cons v11 (eql_cons v10 eql_nil))))))))))))))) ?_
        dsimp only [updK]
        clear hJ
        refine s_callf (haw _ (hT.hp hh)) FnIs.out rfl (by decide) ?_
        rintro e_ w24 ⟨rfl, hb_⟩
        refine ⟨_, rfl, ?_⟩
        replace hh := hh.ext hb_
        refine notC ?_
        refine wl_end (cF (wc_skip (k_then (wc_seq ?_))))
        refine wc_drawn2 [] [9] [0, 1, 3, 7, 0, 0, 32, 96, 224, 0, 0, 1024, 3072, 7168, 0, 31744, 64512, 0, 131072, 393216, 917504, 0, 4063232, 8257536, 16776703, 33553919, 67108863, 134217727] 24 [[(0, none)], [(26, some 0)], [(27, some 1)], [(28, some 2)], [(1, none)], [(0, none)], [(31, some 5)], [(32, some 6)], [(33, some 7)], [(4, none)], [(0, none)], [(36, some 10)], [(37, some 11)], [(38, some 12)], [(4, none)], [(39, some 13), (40, some 14)], [(41, some 15)], [(0, none)], [(43, some 17)], [(44, some 18)], [(45, some 19)], [(1, none)], [(46, some 20), (47, some 21)], [(48, some 22)]] [(23, 49), (22, 48), (21, 47), (20, 46), (19, 45), (18, 44), (17, 43), (16, 42), (15, 41), (14, 40), (13, 39), (12, 38), (11, 37), (10, 36), (9, 35), (8, 34), (7, 33), (6, 32), (5, 31), (4, 30), (3, 29), (2, 28), (1, 27), (0, 26)] hh mixed (by kernel_rfl) alok_nil rfl (by repeat (first | exact np_ret | refine np_then ?_ | refine np_blk ?_ | refine np_scope ?_)) ?_
        refine dmP ?_
        refine dnc ?_
        refine dfa ?_
        refine dl1 0 ?_
        refine dmI ?_
        refine dmP ?_
        refine dnc ?_
        refine dfa ?_
        refine dl1 0 ?_
        refine dmI ?_
        refine dmP ?_
        refine dnc ?_
        refine dfa ?_
        refine dl1 0 ?_
        refine dmI ?_
        refine dix ((i - 1) / 2) ?_
        refine dLF [_,_,_,_,_] (fun _ hj => hj.hp.recRow (f := EI.cells) (x := y) (l := L') (i := 1) rfl EI.len (by decide) hy) ?_
        refine dmP ?_
        refine dnc ?_
        refine dfa ?_
        refine dl1 0 ?_
        refine dmI ?_
        refine dix (i) ?_
        refine dLF [_,_,_,_,_] (fun _ hj => hj.hp.recRow (f := EI.cells) (x := x) (l := L') (i := 1) rfl EI.len (by decide) hx) ?_
        refine dx_nil ?_
        intro f W hJ hV _
        have hb_3 := hJ.bl
        obtain ⟨v49, v48, v47, v46, v45, v44, v43, v42, v41, v40, v39, v38, v37, v36, v35, v34, v33, v32, v31, v30, v29, v28, v27, v26, _⟩ := hV
        replace hh := hJ.hp
        refine wl_cast (updL_K (eql_cons v49 (eql_cons v48 (eql_cons v47 (eql_cons v46 (eql_cons v45 (eql_cons v44 (eql_cons v43 (eql_cons v42 (eql_cons v41 (eql_cons v40 (eql_cons v39 (eql_cons v38 (eql_cons v37 (eql_cons v36 (eql_cons v35 (eql_cons v34 (eql_cons v33 (eql_cons v32 (eql_cons v31 (eql_cons v30 (eql_cons v29 (eql_cons v28 (eql_cons v27 (eql_cons v26 eql_nil))))))))))))))))))))))))) ?_
        dsimp only [updK]
        clear hJ
        refine s_indexRow (k := i) UIs.out TIs.size rfl rfl (by omega) (by omega) (by decide) ?_
        have hrl := recs_len EI.len L'
        have hs1 : splice (recs EI.cells L') (i * 5) [.bool y.k.neg, .string y.k.mag, .int .i64 y.k.e, .int .i64 y.t, .int .i64 y.x] = recs EI.cells (L'.set i y) := recs_splice EI.len (by omega)
        have hrl2 := recs_len EI.len (L'.set i y)
        have hsl2 : (L'.set i y).length = n := by rw [List.length_set, hln]
        have hs2 : splice (recs EI.cells (L'.set i y)) ((i - 1) / 2 * 5) [.bool x.k.neg, .string x.k.mag, .int .i64 x.k.e, .int .i64 x.t, .int .i64 x.x] = recs EI.cells ((L'.set i y).set ((i - 1) / 2) x) := recs_splice EI.len (by omega)
        refine wl_store_row hh (i := 1) (vs := [_, _, _, _, _]) rfl rfl (ev_agg rfl) rfl TIs.out rfl (by omega) rfl ?_
        intro ws hh
        simp only [List.set_cons_zero, List.set_cons_succ] at hh
        rw [hs1] at hh
        refine s_indexRow (k := (i - 1) / 2) UIs.out TIs.size rfl rfl (by omega) (by omega) (by decide) ?_
        refine wl_store_row hh (i := 1) (vs := [_, _, _, _, _]) rfl rfl (ev_agg rfl) rfl TIs.out rfl (by omega) rfl ?_
        intro ws hh
        simp only [List.set_cons_zero, List.set_cons_succ] at hh
        rw [hs2, ← swp_eq hx hy] at hh
        refine wl_end (wc_region (mI (aI (wl_nil (b_norm (k_then ?_))))))
        refine ⟨⟨(i - 1) / 2, swp L' i ((i - 1) / 2), rfl, by omega, (swp_perm _ _ _).trans hp, hr.step ah_ord hkid hx hy hxy, hh⟩, by show (i - 1) / 2 < i; omega, ?_⟩
        (repeat (first | exact agree_mask _ _ _ | refine agree_upd rfl ?_ | refine agree_mask2 rfl ?_))
theorem EIsink_calls {w0 w : World} {Hr : List HE} {b n c at_ s : Nat} {A : Option Addr} {next : Int} {L : List (Ent Int)} (hh : Hp w0 (.blk b 50 [.slice A n c, .int .i64 next] (0, 0) :: .row A n c 52 5 (recs EI.cells L) :: Hr) w) (hT : Tab w0)
    (hok : ∀ e ∈ L, e.k.ok) (hn : n ≤ 1000000) (hat : at_ ≤ 1000000) (hs : Sinks ah s at_ L) :
    Calls Tryd.prog 23 #[.pointer (some ⟨b, 0, none⟩), .int .i64 at_] w fun r w' => r = .returned (.tuple #[]) ∧ ∃ L', L'.Perm L ∧ Heap ah s L' ∧ Hp w0 (.blk b 50 [.slice A n c, .int .i64 next] (0, 0) :: .row A n c 52 5 (recs EI.cells L') :: Hr) w' := by
  refine calls_vc (N := 74) (l := [.pointer (some ⟨b, 0, none⟩), .int .i64 at_]) Tryd.func23 rfl rfl (by simp) ?_
  refine wc_scope (wc_seq (wc_label (k_then (wc_block ?_))))
  refine wc_loop1 [1, 4, 6, 7, 8, 9, 10, 11, 12, 13, 14, 15, 16, 17, 18, 19, 20, 21, 22, 23, 24, 25, 26, 27, 28, 29, 30, 31, 32, 33, 34, 35, 36, 37, 38, 39, 40, 41, 42, 43, 44, 45, 46, 47, 48, 49, 50, 51, 52, 53, 54, 55, 56, 57, 58, 59, 60, 61, 62, 63, 64, 65, 66, 67, 68, 69, 70, 71, 72, 73] 1
    (fun j w' => ∃ (i : Nat) (L' : List (Ent Int)), j = .int .i64 i ∧ i ≤ 1000000 ∧ L'.Perm L ∧ Sinks ah s i L' ∧ Hp w0 (.blk b 50 [.slice A n c, .int .i64 next] (0, 0) :: .row A n c 52 5 (recs EI.cells L') :: Hr) w')
    (fun j _ => n - (intOf j).toNat) ?_ ?_
  · exact ⟨at_, L, rfl, hat, List.Perm.refl _, hs, hh⟩
  · clear hh hs hat
    rintro ρ' j w' ⟨i, L', rfl, hi, hp, hs, hh⟩
    have hln := (hh.sl_row (i := 1) rfl).recLen EI.len (by decide)
    refine wc_block (sr (mI (aI (wl_end (wc_seq (sr (mI ?_)))))))
    refine mulC ?_
    refine addC (mI ?_)
    refine mulC ?_
    refine addC ?_
    refine s_build_arr (cs := [_, _]) UIs.out TIs.out TIs.out (evp_cons (ev_int rfl) (evp_cons (ev_int rfl) evp_nil)) rfl (by decide) ?_
    refine mI (wl_end (wc_block ?_))
    refine wc_loop2 [4, 6, 15, 16, 17, 18, 19, 20, 21, 22, 23, 24, 25, 26, 27, 28, 29, 30, 31, 32, 33, 34, 35, 36, 37, 38, 39, 40, 41, 42, 43] 4 15
      (fun v4 v15 w' => ∃ (m best : Nat), m ≤ 2 ∧ v15 = .int .i64 m ∧ v4 = .int .i64 best ∧ (best = i ∨ (Kid i best ∧ best < n)) ∧ (∀ k a y, (k = i ∨ (k = 2 * i + 1 ∧ 0 < m) ∨ (k = 2 * i + 2 ∧ 1 < m)) → L'[k]? = some a → L'[best]? = some y → ah a y = false) ∧ Hp w0 (.blk b 50 [.slice A n c, .int .i64 next] (0, 0) :: .row A n c 52 5 (recs EI.cells L') :: Hr) w')
      (fun _ j _ => 2 - (intOf j).toNat) ?_ ?_
    · refine ⟨0, i, by omega, rfl, rfl, .inl rfl, fun k a y hk ha hy => ?_, hh⟩
      obtain rfl : k = i := by omega
      rw [ha] at hy
      cases hy
      exact ah_ord.irr _
    · clear hh
      rintro ρ'' v4 v15 w'' ⟨m, best, hm, rfl, rfl, hb, hmin, hh⟩
      by_cases hm2 : m < 2
      · have hv : (#[.int .i64 (2 * (i : Int) + 1), .int .i64 (2 * (i : Int) + 2)] : Array Value)[m]? = some (.int .i64 ((2 * i + 1 + m : Nat) : Int)) := by
          rcases (by omega : m = 0 ∨ m = 1) with rfl | rfl
          · simp
          · simp
            omega
        by_cases hk : 2 * i + 1 + m < n
        · have hbn : best < n := by omega
          obtain ⟨x, hx⟩ := get_of_lt (l := L') (k := 2 * i + 1 + m) (by omega)
          obtain ⟨y, hy⟩ := get_of_lt (l := L') (k := best) (by omega)
          have ox := hok x (hp.mem_iff.1 (List.mem_of_getElem? hx))
          have oy := hok y (hp.mem_iff.1 (List.mem_of_getElem? hy))
          have haw := fun w1 hT1 => EIahead_calls x y w1 hT1 ox oy
          obtain ⟨g, rfl⟩ := hh.row_some (i := 1) rfl (by omega)
          cases hxy : ah x y with
          | true =>
            rw [hxy] at haw
            refine sr ?_
            refine lssC (wl_end (wc_seq (cT (wc_skip (k_then (wc_seq (wc_block (sr ?_))))))))
            refine s_index_arr1 (i := m) UIs.out TIs.out rfl rfl (by omega) (by first | assumption | rfl) (by decide) ?_
            refine aI (wl_end (wc_seq ?_))
            refine wc_drawn 22 [[(6, none)], [(0, none)], [(19, some 1)], [(20, some 2)], [(21, some 3)], [(22, some 4)], [(18, some 0), (23, some 5)], [(24, some 6)], [(0, none), (25, some 7)], [(26, some 8), (25, some 7)], [(27, some 9), (25, some 7)], [(28, some 10), (25, some 7)], [(6, none), (25, some 7)], [(29, some 11), (30, some 12), (25, some 7)], [(31, some 13), (25, some 7)], [(0, none), (25, some 7)], [(33, some 15), (25, some 7)], [(34, some 16), (25, some 7)], [(35, some 17), (25, some 7)], [(4, none), (25, some 7)], [(36, some 18), (37, some 19), (25, some 7)], [(38, some 20), (25, some 7)]] [(21, 39), (20, 38), (19, 37), (18, 36), (17, 35), (16, 34), (15, 33), (14, 32), (13, 31), (12, 30), (11, 29), (10, 28), (9, 27), (8, 26), (7, 25), (6, 24), (5, 23), (4, 22), (3, 21), (2, 20), (1, 19), (0, 18)] hh mixed (by kernel_rfl) ?_
            refine dmI ?_
            refine dmP ?_
            refine dnc ?_
            refine dfa ?_
            refine dl1 0 ?_
            refine dlen ?_
            refine dlss ?_
            refine dmB ?_
            first | refine dS ?_ | refine dG (dmP ?_)
            first | refine dS ?_ | refine dG (dnc ?_)
            first | refine dS ?_ | refine dG (dfa ?_)
            first | refine dS ?_ | refine dG (dl1 0 ?_)
            first | refine dS ?_ | refine dG (dmI ?_)
            first | refine dS ?_ | refine dG (dix (2 * i + 1 + m) ?_)
            first | refine dS ?_ | refine dG (dLF [_,_,_,_,_] (fun _ hj => hj.hp.recRow (f := EI.cells) (x := x) (l := L') (i := 1) rfl EI.len (by decide) hx) ?_)
            first | refine dS ?_ | refine dG (dmP ?_)
            first | refine dS ?_ | refine dG (dnc ?_)
            first | refine dS ?_ | refine dG (dfa ?_)
            first | refine dS ?_ | refine dG (dl1 0 ?_)
            first | refine dS ?_ | refine dG (dmI ?_)
            first | refine dS ?_ | refine dG (dix (best) ?_)
            first | refine dS ?_ | refine dG (dLF [_,_,_,_,_] (fun _ hj => hj.hp.recRow (f := EI.cells) (x := y) (l := L') (i := 1) rfl EI.len (by decide) hy) ?_)
            refine dx_nil ?_
            intro f W hJ hV
            have hb_4 := hJ.bl
            obtain ⟨v39, v38, v37, v36, v35, v34, v33, v32, v31, v30, v29, v28, v27, v26, v25, v24, v23, v22, v21, v20, v19, v18, _⟩ := hV
            replace hh := hJ.hp
            refine wl_cast (updL_K (eql_cons v39 (eql_cons v38 (eql_cons v37 (eql_cons v36 (eql_cons v35 (eql_cons v34 (eql_cons v33 (eql_cons v32 (eql_cons v31 (eql_cons v30 (eql_cons v29 (eql_cons v28 (eql_cons v27 (eql_cons v26 (eql_cons v25 (eql_cons v24 (eql_cons v23 (eql_cons v22 (eql_cons v21 (eql_cons v20 (eql_cons v19 (eql_cons v18 eql_nil))))))))))))))))))))))) ?_
            dsimp only [updK]
            clear hJ
            refine wl_guard_take rfl rfl ?_
            refine s_callf (haw _ (hT.hp hh)) FnIs.out rfl (by decide) ?_
            rintro e_ w40 ⟨rfl, hb_⟩
            refine ⟨_, rfl, ?_⟩
            replace hh := hh.ext hb_
            first | refine pkT ?_ | refine pkF ?_
            refine wl_end (cT (wc_region (mI (aI (wl_nil (b_norm (k_then (wc_region ?_))))))))
            refine addC (mI (wl_nil (k_then ?_)))
            refine ⟨⟨m + 1, 2 * i + 1 + m, by omega, rfl, rfl, .inr ⟨by unfold Kid; omega, hk⟩, fun k a z hk2 ha hz => ?_, hh⟩, by show 2 - (m + 1) < 2 - m; omega, ?_⟩
            · rw [hx] at hz
              cases hz
              by_cases hkx : k = 2 * i + 1 + m
              · subst hkx
                rw [hx] at ha
                cases ha
                exact ah_ord.irr _
              · exact ah_ord.tr _ _ _ (ah_ord.as _ _ hxy) (hmin k a y (by omega) ha hy)
            · (repeat (first | exact agree_mask _ _ _ | refine agree_upd rfl ?_ | refine agree_mask2 rfl ?_))
          | false =>
            rw [hxy] at haw
            refine sr ?_
            refine lssC (wl_end (wc_seq (cT (wc_skip (k_then (wc_seq (wc_block (sr ?_))))))))
            refine s_index_arr1 (i := m) UIs.out TIs.out rfl rfl (by omega) (by first | assumption | rfl) (by decide) ?_
            refine aI (wl_end (wc_seq ?_))
            refine wc_drawn 22 [[(6, none)], [(0, none)], [(19, some 1)], [(20, some 2)], [(21, some 3)], [(22, some 4)], [(18, some 0), (23, some 5)], [(24, some 6)], [(0, none), (25, some 7)], [(26, some 8), (25, some 7)], [(27, some 9), (25, some 7)], [(28, some 10), (25, some 7)], [(6, none), (25, some 7)], [(29, some 11), (30, some 12), (25, some 7)], [(31, some 13), (25, some 7)], [(0, none), (25, some 7)], [(33, some 15), (25, some 7)], [(34, some 16), (25, some 7)], [(35, some 17), (25, some 7)], [(4, none), (25, some 7)], [(36, some 18), (37, some 19), (25, some 7)], [(38, some 20), (25, some 7)]] [(21, 39), (20, 38), (19, 37), (18, 36), (17, 35), (16, 34), (15, 33), (14, 32), (13, 31), (12, 30), (11, 29), (10, 28), (9, 27), (8, 26), (7, 25), (6, 24), (5, 23), (4, 22), (3, 21), (2, 20), (1, 19), (0, 18)] hh mixed (by kernel_rfl) ?_
            refine dmI ?_
            refine dmP ?_
            refine dnc ?_
            refine dfa ?_
            refine dl1 0 ?_
            refine dlen ?_
            refine dlss ?_
            refine dmB ?_
            first | refine dS ?_ | refine dG (dmP ?_)
            first | refine dS ?_ | refine dG (dnc ?_)
            first | refine dS ?_ | refine dG (dfa ?_)
            first | refine dS ?_ | refine dG (dl1 0 ?_)
            first | refine dS ?_ | refine dG (dmI ?_)
            first | refine dS ?_ | refine dG (dix (2 * i + 1 + m) ?_)
            first | refine dS ?_ | refine dG (dLF [_,_,_,_,_] (fun _ hj => hj.hp.recRow (f := EI.cells) (x := x) (l := L') (i := 1) rfl EI.len (by decide) hx) ?_)
            first | refine dS ?_ | refine dG (dmP ?_)
            first | refine dS ?_ | refine dG (dnc ?_)
            first | refine dS ?_ | refine dG (dfa ?_)
            first | refine dS ?_ | refine dG (dl1 0 ?_)
            first | refine dS ?_ | refine dG (dmI ?_)
            first | refine dS ?_ | refine dG (dix (best) ?_)
            first | refine dS ?_ | refine dG (dLF [_,_,_,_,_] (fun _ hj => hj.hp.recRow (f := EI.cells) (x := y) (l := L') (i := 1) rfl EI.len (by decide) hy) ?_)
            refine dx_nil ?_
            intro f W hJ hV
            have hb_4 := hJ.bl
            obtain ⟨v39, v38, v37, v36, v35, v34, v33, v32, v31, v30, v29, v28, v27, v26, v25, v24, v23, v22, v21, v20, v19, v18, _⟩ := hV
            replace hh := hJ.hp
            refine wl_cast (updL_K (eql_cons v39 (eql_cons v38 (eql_cons v37 (eql_cons v36 (eql_cons v35 (eql_cons v34 (eql_cons v33 (eql_cons v32 (eql_cons v31 (eql_cons v30 (eql_cons v29 (eql_cons v28 (eql_cons v27 (eql_cons v26 (eql_cons v25 (eql_cons v24 (eql_cons v23 (eql_cons v22 (eql_cons v21 (eql_cons v20 (eql_cons v19 (eql_cons v18 eql_nil))))))))))))))))))))))) ?_
            dsimp only [updK]
            clear hJ
            refine wl_guard_take rfl rfl ?_
            refine s_callf (haw _ (hT.hp hh)) FnIs.out rfl (by decide) ?_
            rintro e_ w40 ⟨rfl, hb_⟩
            refine ⟨_, rfl, ?_⟩
            replace hh := hh.ext hb_
            first | refine pkT ?_ | refine pkF ?_
            refine wl_end (cF (wc_skip (b_norm (k_then (wc_region ?_)))))
            refine addC (mI (wl_nil (k_then ?_)))
            refine ⟨⟨m + 1, best, by omega, rfl, rfl, hb, fun k a z hk2 ha hz => ?_, hh⟩, by show 2 - (m + 1) < 2 - m; omega, ?_⟩
            · by_cases hkx : k = 2 * i + 1 + m
              · subst hkx
                rw [hx] at ha
                rw [hy] at hz
                cases ha
                cases hz
                exact hxy
              · exact hmin k a z (by omega) ha hz
            · (repeat (first | exact agree_mask _ _ _ | refine agree_upd rfl ?_ | refine agree_mask2 rfl ?_))
        · refine sr ?_
          refine lssC (wl_end (wc_seq (cT (wc_skip (k_then (wc_seq (wc_block (sr ?_))))))))
          refine s_index_arr1 (i := m) UIs.out TIs.out rfl rfl (by omega) (by first | assumption | rfl) (by decide) ?_
          refine aI (wl_end (wc_seq ?_))
          refine wc_drawn 22 [[(6, none)], [(0, none)], [(19, some 1)], [(20, some 2)], [(21, some 3)], [(22, some 4)], [(18, some 0), (23, some 5)], [(24, some 6)], [(0, none), (25, some 7)], [(26, some 8), (25, some 7)], [(27, some 9), (25, some 7)], [(28, some 10), (25, some 7)], [(6, none), (25, some 7)], [(29, some 11), (30, some 12), (25, some 7)], [(31, some 13), (25, some 7)], [(0, none), (25, some 7)], [(33, some 15), (25, some 7)], [(34, some 16), (25, some 7)], [(35, some 17), (25, some 7)], [(4, none), (25, some 7)], [(36, some 18), (37, some 19), (25, some 7)], [(38, some 20), (25, some 7)]] [(21, 39), (20, 38), (19, 37), (18, 36), (17, 35), (16, 34), (15, 33), (14, 32), (13, 31), (12, 30), (11, 29), (10, 28), (9, 27), (8, 26), (7, 25), (6, 24), (5, 23), (4, 22), (3, 21), (2, 20), (1, 19), (0, 18)] hh mixed (by kernel_rfl) ?_
          refine dmI ?_
          refine dmP ?_
          refine dnc ?_
          refine dfa ?_
          refine dl1 0 ?_
          refine dlen ?_
          refine dlss ?_
          refine dmB ?_
          first | refine dS ?_ | refine dG (dmP ?_)
          first | refine dS ?_ | refine dG (dnc ?_)
          first | refine dS ?_ | refine dG (dfa ?_)
          first | refine dS ?_ | refine dG (dl1 0 ?_)
          first | refine dS ?_ | refine dG (dmI ?_)
          first | refine dS ?_ | refine dG (dix (2 * i + 1 + m) ?_)
          first | refine dS ?_ | refine dG (dLF [_,_,_,_,_] (fun _ hj => trivial) ?_)
          first | refine dS ?_ | refine dG (dmP ?_)
          first | refine dS ?_ | refine dG (dnc ?_)
          first | refine dS ?_ | refine dG (dfa ?_)
          first | refine dS ?_ | refine dG (dl1 0 ?_)
          first | refine dS ?_ | refine dG (dmI ?_)
          first | refine dS ?_ | refine dG (dix (best) ?_)
          first | refine dS ?_ | refine dG (dLF [_,_,_,_,_] (fun _ hj => trivial) ?_)
          refine dx_nil ?_
          intro f W hJ hV
          have hb_4 := hJ.bl
          obtain ⟨v39, v38, v37, v36, v35, v34, v33, v32, v31, v30, v29, v28, v27, v26, v25, v24, v23, v22, v21, v20, v19, v18, _⟩ := hV
          replace hh := hJ.hp
          refine wl_cast (updL_K (eql_cons v39 (eql_cons v38 (eql_cons v37 (eql_cons v36 (eql_cons v35 (eql_cons v34 (eql_cons v33 (eql_cons v32 (eql_cons v31 (eql_cons v30 (eql_cons v29 (eql_cons v28 (eql_cons v27 (eql_cons v26 (eql_cons v25 (eql_cons v24 (eql_cons v23 (eql_cons v22 (eql_cons v21 (eql_cons v20 (eql_cons v19 (eql_cons v18 eql_nil))))))))))))))))))))))) ?_
          dsimp only [updK]
          clear hJ
          refine wl_guard_skip (by decide) rfl rfl (by decide) ?_
          first | refine pkT ?_ | refine pkF ?_
          refine wl_end (cF (wc_skip (b_norm (k_then (wc_region ?_)))))
          refine addC (mI (wl_nil (k_then ?_)))
          refine ⟨⟨m + 1, best, by omega, rfl, rfl, hb, fun k a z hk2 ha hz => ?_, hh⟩, by show 2 - (m + 1) < 2 - m; omega, ?_⟩
          · by_cases hkx : k = 2 * i + 1 + m
            · subst hkx
              have := (List.getElem?_eq_some_iff.1 ha).1
              omega
            · exact hmin k a z (by omega) ha hz
          · (repeat (first | exact agree_mask _ _ _ | refine agree_upd rfl ?_ | refine agree_mask2 rfl ?_))
      · obtain rfl : m = 2 := by omega
        by_cases hbi : best = i
        · subst hbi
          refine sr ?_
          refine lssC (wl_end (wc_seq (cF ?_)))
          refine wc_exit ?_
          refine k_exit (k_exit (b_here (k_then (wc_seq (sr (mI (mI ?_)))))))
          refine eqlC (wl_end (cT ?_))
          refine wc_exit ?_
          refine k_exit ?_
          refine b_past (by decide) ?_
          refine k_exit (b_here (sc_norm ?_))
          refine ret0 (by first | exact .inr rfl | exact .inl rfl) rfl  ?_
          exact ⟨rfl, L', hp, hs.stop fun k a b hk ha hb2 => hmin k b a (by unfold Kid at hk; omega) hb2 ha, hh⟩
        · obtain ⟨hkid, hbn⟩ := hb.resolve_left hbi
          have hib : i < best := by unfold Kid at hkid; omega
          have hin : i < n := by omega
          obtain ⟨x, hx⟩ := get_of_lt (l := L') (k := i) (by omega)
          obtain ⟨y, hy⟩ := get_of_lt (l := L') (k := best) (by omega)
          obtain ⟨g, rfl⟩ := hh.row_some (i := 1) rfl (by omega)
          refine sr ?_
          refine lssC (wl_end (wc_seq (cF ?_)))
          refine wc_exit ?_
          refine k_exit (k_exit (b_here (k_then (wc_seq (sr (mI (mI ?_)))))))
          refine eqlC (wl_end (cF (wc_skip (k_then (wc_seq ?_)))))
          refine wc_drawn2 [] [9] [0, 1, 3, 7, 0, 0, 32, 96, 224, 0, 0, 1024, 3072, 7168, 0, 31744, 64512, 0, 131072, 393216, 917504, 0, 4063232, 8257536, 16776703, 33553919, 67108863, 134217727] 24 [[(0, none)], [(47, some 0)], [(48, some 1)], [(49, some 2)], [(1, none)], [(0, none)], [(52, some 5)], [(53, some 6)], [(54, some 7)], [(4, none)], [(0, none)], [(57, some 10)], [(58, some 11)], [(59, some 12)], [(4, none)], [(60, some 13), (61, some 14)], [(62, some 15)], [(0, none)], [(64, some 17)], [(65, some 18)], [(66, some 19)], [(1, none)], [(67, some 20), (68, some 21)], [(69, some 22)]] [(23, 70), (22, 69), (21, 68), (20, 67), (19, 66), (18, 65), (17, 64), (16, 63), (15, 62), (14, 61), (13, 60), (12, 59), (11, 58), (10, 57), (9, 56), (8, 55), (7, 54), (6, 53), (5, 52), (4, 51), (3, 50), (2, 49), (1, 48), (0, 47)] hh mixed (by kernel_rfl) alok_nil rfl (by repeat (first | exact np_ret | refine np_then ?_ | refine np_blk ?_ | refine np_scope ?_)) ?_
          refine dmP ?_
          refine dnc ?_
          refine dfa ?_
          refine dl1 0 ?_
          refine dmI ?_
          refine dmP ?_
          refine dnc ?_
          refine dfa ?_
          refine dl1 0 ?_
          refine dmI ?_
          refine dmP ?_
          refine dnc ?_
          refine dfa ?_
          refine dl1 0 ?_
          refine dmI ?_
          refine dix (best) ?_
          refine dLF [_,_,_,_,_] (fun _ hj => hj.hp.recRow (f := EI.cells) (x := y) (l := L') (i := 1) rfl EI.len (by decide) hy) ?_
          refine dmP ?_
          refine dnc ?_
          refine dfa ?_
          refine dl1 0 ?_
          refine dmI ?_
          refine dix (i) ?_
          refine dLF [_,_,_,_,_] (fun _ hj => hj.hp.recRow (f := EI.cells) (x := x) (l := L') (i := 1) rfl EI.len (by decide) hx) ?_
          refine dx_nil ?_
          intro f W hJ hV _
          have hb_8 := hJ.bl
          obtain ⟨v70, v69, v68, v67, v66, v65, v64, v63, v62, v61, v60, v59, v58, v57, v56, v55, v54, v53, v52, v51, v50, v49, v48, v47, _⟩ := hV
          replace hh := hJ.hp
          refine wl_cast (updL_K (eql_cons v70 (eql_cons v69 (eql_cons v68 (eql_cons v67 (eql_cons v66 (eql_cons v65 (eql_cons v64 (eql_cons v63 (eql_cons v62 (eql_cons v61 (eql_cons v60 (eql_cons v59 (eql_cons v58 (eql_cons v57 (eql_cons v56 (eql_cons v55 (eql_cons v54 (eql_cons v53 (eql_cons v52 (eql_cons v51 (eql_cons v50 (eql_cons v49 (eql_cons v48 (eql_cons v47 eql_nil))))))))))))))))))))))))) ?_
          dsimp only [updK]
          clear hJ
          have hrl := recs_len EI.len L'
          have hs1 : splice (recs EI.cells L') (i * 5) [.bool y.k.neg, .string y.k.mag, .int .i64 y.k.e, .int .i64 y.t, .int .i64 y.x] = recs EI.cells (L'.set i y) := recs_splice EI.len (by omega)
          have hrl2 := recs_len EI.len (L'.set i y)
          have hsl2 : (L'.set i y).length = n := by rw [List.length_set, hln]
          have hs2 : splice (recs EI.cells (L'.set i y)) (best * 5) [.bool x.k.neg, .string x.k.mag, .int .i64 x.k.e, .int .i64 x.t, .int .i64 x.x] = recs EI.cells ((L'.set i y).set best x) := recs_splice EI.len (by omega)
          refine s_indexRow (k := i) UIs.out TIs.size rfl rfl (by omega) (by omega) (by decide) ?_
          refine wl_store_row hh (i := 1) (vs := [_, _, _, _, _]) rfl rfl (ev_agg rfl) rfl TIs.out rfl (by omega) rfl ?_
          intro ws hh
          simp only [List.set_cons_zero, List.set_cons_succ] at hh
          rw [hs1] at hh
          refine s_indexRow (k := best) UIs.out TIs.size rfl rfl (by omega) (by omega) (by decide) ?_
          refine wl_store_row hh (i := 1) (vs := [_, _, _, _, _]) rfl rfl (ev_agg rfl) rfl TIs.out rfl (by omega) rfl ?_
          intro ws hh
          simp only [List.set_cons_zero, List.set_cons_succ] at hh
          rw [hs2, ← swp_eq hx hy] at hh
          refine wl_end (wc_region (mI (aI (wl_nil (b_norm (k_then ?_))))))
          refine ⟨⟨best, swp L' i best, rfl, by omega, (swp_perm _ _ _).trans hp, hs.step hkid hx hy (hmin i x y (.inl rfl) hx hy) (fun k b hk hb2 => hmin k b y (by unfold Kid at hk; omega) hb2 hy), hh⟩, by show n - best < n - i; omega, ?_⟩
          (repeat (first | exact agree_mask _ _ _ | refine agree_upd rfl ?_ | refine agree_mask2 rfl ?_))
end Go.Proofs.YthmmofllajkejaaDoor
