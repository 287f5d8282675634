/- The walks through package box, third part: the points of a box: each, Mid, Corner. -/
import Derived.Test.YthmmofllajkejaaGreatDoorBoxB
namespace Go.Proofs.YthmmofllajkejaaGreatDoor
open Go.RowKit
-- umode
-- skipu
theorem beach_calls (L : Option Addr) (n c : Nat) (b : List SR) (g : FuncId) (cap : List Value) (G : Nat → SR → NR) (w : World) (hT : Tab w) (hS : Sl w L n 6 (recs SR.cells b)) (hb : ∀ s ∈ b, s.ok) (hn : n ≤ 1000000) [FnIs Tryz.prog g]
    (hg : ∀ (i : Nat) (s : SR) (w1 : World), i < n → b[i]? = some s → Below w.heap.size w w1 → Tab w1 → Calls Tryz.prog g (.int .i64 i :: .agg s.f.cells.toArray :: cap).toArray w1 fun r w' => r = .returned (.agg #[.bool (G i s).neg, .string (G i s).mag, .int .i64 (G i s).e]) ∧ Below w1.heap.size w1 w') :
    Calls Tryz.prog 98 #[.slice L n c, .func (.func g) #[] cap.toArray] w fun r w' => ∃ A c', r = .returned (.slice A n c') ∧ w'.ownsRow w.heap.size 25 3 (.slice A n c') n (recs NR.cells (b.mapIdx G)) ∧ Below w.heap.size w w' := by
  have hh := Hp.start w
  have hln := hS.recLen SR.len (by decide)
  refine calls_vc (N := 25) (l := [.slice L n c, .func (.func g) #[] cap.toArray]) Tryz.func98 rfl rfl (by simp) ?_
  refine sr (aL (wl_end (sr (aL (wl_end (wc_seq (sr (mL ?_))))))))
  refine s_callf (bForm_calls L n c b _ (hT.hp hh) (hS.ext hh.below) hb hn) FnIs.out rfl (by decide) ?_
  rintro e_ w9 ⟨A9, c9, rfl, hown_, hb_⟩
  refine ⟨_, rfl, ?_⟩
  replace hh := hh.push_new (x := .row _ _ _ _ _ _) hb_ hown_
  refine lenC (mI (wl_end (wc_block ?_)))
  replace hh := hh.nil_row 25 3
  refine wc_loop2 [5, 6, 7, 11, 12, 13, 14, 15, 16, 17, 18, 19, 20, 21, 22, 23] 5 11
    (fun v3 v w' => ∃ (i c3 : Nat) (A : Option Addr), i ≤ n ∧ v = .int .i64 i ∧ v3 = .slice A i c3 ∧ Hp w [.row A i c3 25 3 (recs NR.cells ((b.take i).mapIdx G)), .row A9 n c9 80 6 (recs SR.cells (b.map SR.f))] w')
    (fun _ v _ => n - (intOf v).toNat) ?_ ?_
  · exact ⟨0, 0, none, Nat.zero_le _, rfl, rfl, hh⟩
  · clear hh
    rintro ρ' v3 v w' ⟨i, c3, A, hi, rfl, rfl, hh⟩
    by_cases hlt : i < n
    · obtain ⟨s, hs⟩ := get_of_lt (l := b) (k := i) (by omega)
      have ms := List.mem_of_getElem? hs
      have hfs : (b.map SR.f)[i]? = some s.f := by rw [List.getElem?_map, hs]; rfl
      obtain ⟨g9, rfl⟩ := hh.row_some (i := 1) rfl (by omega)
      refine sr ?_
      refine lssC (wl_end (wc_seq (cT (wc_skip (k_then (wc_seq (wc_block (sr (mI ?_)))))))))
      refine s_indexRow (k := i) UIs.out TIs.size rfl rfl (by omega) (by omega) (by decide) ?_
      refine s_load (vs := [_, _, _, _, _, _]) TIs.out rfl (hh.recRow (f := SR.cells) (x := s.f) (l := b.map SR.f) (i := 1) rfl SR.len (by decide) hfs) rfl (by decide) ?_
      refine alC hh ?_
      intro b7 w7 hh
      refine aI ?_
      refine stC hh 0 [_,_,_,_,_,_] ?_
      intro ws hh
      replace hh : Hp _ (.blk _ _ [_, _, _, _, _, _] _ :: _) _ := hh
      refine wl_end (wc_region (mL ?_))
      refine s_move (by first | exact ev_func rfl | exact ev_nilf rfl) (by decide) ?_
      refine mI ?_
      refine lgC hh 0 [_,_,_,_,_,_] ?_
      refine s_callv (hg i s _ hlt hs hh.below (hT.hp hh)) FnIs.out rfl rfl (by decide) ?_
      rintro e_ w20 ⟨rfl, hb_⟩
      refine ⟨_, rfl, ?_⟩
      replace hh := hh.ext hb_
      refine wl_buildSlice hh (cs := [_, _, _]) UIs.out TIs.out (evp_cons (ev_agg rfl) evp_nil) rfl rfl (by decide) (by decide) (by decide) rfl (by decide) ?_
      intro b21 w21 hh
      refine wl_append hh (i := 2) rfl rfl rfl (hh.sl_row (i := 0) rfl) UIs.out TIs.out rfl (by decide) (by first | rfl | exact oneCells_u8n _ | exact oneCells_u64s _ | exact oneCells_i64s _ | exact recs_oneCells NR.one _) (by omega) (by omega) (by decide) ?_
      intro A22 c22 w22 hh
      simp only [List.set_cons_zero, List.set_cons_succ] at hh
      replace hh := hh.sub (List.sublist_cons_self _ _)
      refine aL (wl_nil (b_norm (k_then (wc_region ?_))))
      refine addC (mI (wl_nil (k_then ?_)))
      replace hh := hh.sub (List.Sublist.cons _ (List.Sublist.cons_cons _ (List.Sublist.cons_cons _ List.Sublist.slnil)))
      refine ⟨⟨i + 1, c22, A22, by omega, rfl, rfl, ?_⟩, by show n - (i + 1) < n - i; omega, ?_⟩
      · rw [take_snoc hs, List.mapIdx_concat, List.length_take, Nat.min_eq_left (by omega), recs_append]
        exact hh
      · (repeat (first | exact agree_mask _ _ _ | refine agree_upd rfl ?_ | refine agree_mask2 rfl ?_))
    · obtain rfl : i = n := by omega
      rw [List.take_of_length_le (by omega)] at hh
      refine sr ?_
      refine lssC (wl_end (wc_seq (cF ?_)))
      refine wc_exit ?_
      refine k_exit (k_exit (b_here (k_then (sr (mL (aL (wl_end (wc_ret ?_))))))))
      refine ret1 (by first | exact .inr rfl | exact .inl rfl) rfl (v_sl rfl) ?_
      exact ⟨_, _, rfl, hh.at_ (i := 0) rfl, hh.below⟩
theorem bMid1_calls (i : Int) (s : SR) (k : Nat) (w : World) (hT : Tab w) (hs : s.fin k) (hk : k ≤ 3000000) :
    Calls Tryz.prog 99 #[.int .i64 i, .agg s.cells.toArray] w fun r w' => r = .returned (.agg #[.bool (nR s.mid).neg, .string (nR s.mid).mag, .int .i64 (nR s.mid).e]) ∧ Below w.heap.size w w' := by
  have hh := Hp.start w
  refine calls_vc (N := 7) (l := [.int .i64 i, .agg s.cells.toArray]) Tryz.func99 rfl rfl (by simp) ?_
  refine sr ?_
  refine bxC hh [_,_,_,_,_,_] ?_
  intro b3 w3 hh
  refine alC hh ?_
  intro b4 w4 hh
  refine wl_end (sr ?_)
  refine lgC hh 1 [_,_,_,_,_,_] ?_
  refine s_callf (spMid_calls s k _ (hT.hp hh) hs hk) FnIs.out rfl (by decide) ?_
  rintro e_ w6 ⟨rfl, hb_⟩
  refine ⟨_, rfl, ?_⟩
  replace hh := hh.ext hb_
  refine stC hh 0 [_,_,_] ?_
  intro ws hh
  replace hh : Hp _ (.blk _ _ [_, _, _] _ :: _) _ := hh
  refine wl_end (wc_ret ?_)
  refine retc1 (by first | exact .inr rfl | exact .inl rfl) rfl (r_cell rfl (lv_agg (vs := [_, _, _]) TIs.out (hh.rd_blk_at (i := 0) (n := 3) rfl rfl) rfl) r_nil) ?_
  exact ⟨rfl, hh.below⟩
theorem bMid_calls (L : Option Addr) (n c : Nat) (b : List SR) (k : Nat) (w : World) (hT : Tab w) (hS : Sl w L n 6 (recs SR.cells b)) (hb : ∀ s ∈ b, s.fin k) (hn : n ≤ 1000000) (hk : k ≤ 3000000) :
    Calls Tryz.prog 42 #[.slice L n c] w fun r w' => ∃ A c', r = .returned (.slice A n c') ∧ w'.ownsRow w.heap.size 25 3 (.slice A n c') n (recs NR.cells (b.mapIdx fun _ s => nR s.f.mid)) ∧ Below w.heap.size w w' := by
  have hh := Hp.start w
  refine calls_vc (N := 5) (l := [.slice L n c]) Tryz.func42 rfl rfl (by simp) ?_
  refine sr (aL (wl_end (sr (mL ?_))))
  refine s_callf (beach_calls L n c b 99 [] (fun _ s => nR s.f.mid) _ (hT.hp hh) (hS.ext hh.below) (fun s h => ⟨(hb s h).1.ok, (hb s h).2.ok⟩) hn (fun i s w1 hi hs _ hT1 => bMid1_calls i s.f k w1 hT1 (SR.fin_f (hb s (List.mem_of_getElem? hs)) hk) hk)) FnIs.out rfl (by decide) ?_
  rintro e_ w4 ⟨A4, c4, rfl, hown_, hb_⟩
  refine ⟨_, rfl, ?_⟩
  replace hh := hh.push_new (x := .row _ _ _ _ _ _) hb_ hown_
  refine aL (wl_end (wc_ret ?_))
  refine ret1 (by first | exact .inr rfl | exact .inl rfl) rfl (v_sl rfl) ?_
  exact ⟨_, _, rfl, hh.at_ (i := 0) rfl, hh.below⟩
end Go.Proofs.YthmmofllajkejaaGreatDoor
