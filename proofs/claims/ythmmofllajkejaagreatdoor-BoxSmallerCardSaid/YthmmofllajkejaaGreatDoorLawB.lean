/- The walks through ogeelaw11's own helpers. -/
import Derived.Test.YthmmofllajkejaaGreatDoorShD
import Derived.Test.YthmmofllajkejaaGreatDoorBoxI
import Derived.Test.YthmmofllajkejaaGreatDoorRBoxD
import Derived.Test.YthmmofllajkejaaGreatDoorLawD
namespace Go.Proofs.YthmmofllajkejaaGreatDoor
open Go.RowKit
-- umode
-- skipu
theorem bnum_calls (m e : Int) (w : World) (h1 : -9223372036854775808 ≤ m) (h2 : m ≤ 9223372036854775807) (h3 : -1000000000000 ≤ e) (h4 : e ≤ 1000000000000) :
    Calls Tryz.prog 87 #[.int .i64 m, .int .i64 e] w fun r w' => r = .returned (.agg #[.bool (nR (D m e)).neg, .string (nR (D m e)).mag, .int .i64 (nR (D m e)).e]) ∧ Below w.heap.size w w' := by
  have hh := Hp.start w
  have hsz : (iM m).size ≤ 10000000 := by
    rw [iM_size]
    have : blen m.natAbs ≤ 64 := blen_le (by omega)
    omega
  have hc := fun w1 => yMake_at (z := m) (e := e) (x := D m e) w1 rfl hsz h3 h4
  refine calls_vc (N := 9) (l := [.int .i64 m, .int .i64 e]) Tryz.func87 rfl rfl (by simp) ?_
  refine sr ?_
  refine alC hh ?_
  intro b4 w4 hh
  refine wl_end (sr (mI ?_))
  refine s_callf (xOf_calls m _ h1 h2) FnIs.out rfl (by decide) ?_
  rintro e_ w6 ⟨rfl, hb_⟩
  refine ⟨_, rfl, ?_⟩
  replace hh := hh.ext hb_
  refine mI ?_
  refine s_callf (hc _) FnIs.out rfl (by decide) ?_
  rintro e_ w8 ⟨rfl, hb_⟩
  refine ⟨_, rfl, ?_⟩
  replace hh := hh.ext hb_
  refine stC hh 0 [_,_,_] ?_
  intro ws hh
  replace hh : Hp _ (.blk _ _ [_, _, _] _ :: _) _ := hh
  refine wl_end (wc_ret ?_)
  refine retc1 (by first | exact .inr rfl | exact .inl rfl) rfl (r_cell rfl (lv_agg (vs := [_, _, _]) TIs.out (hh.rd_blk_at (i := 0) (n := 3) rfl rfl) rfl) r_nil) ?_
  exact ⟨rfl, hh.below⟩
def sp (p : Int × Int) : SR := ⟨nR (D p.1 0), nR (D p.2 0)⟩
def PI (p : Int × Int) : List Value := [.int .i64 p.1, .int .i64 p.2]
theorem PI.len (p : Int × Int) : (PI p).length = 2 := rfl
theorem bof_calls (L : Option Addr) (n c : Nat) (l : List (Int × Int)) (w : World) (hS : Sl w L (2 * n) 1 (recs PI l)) (hn : n ≤ 100) (hl : ∀ p ∈ l, p.1.natAbs < 256 ∧ p.2.natAbs < 256) :
    Calls Tryz.prog 86 #[.slice L (2 * n) c] w fun r w' => ∃ A c', r = .returned (.slice A n c') ∧ w'.ownsRow w.heap.size 80 6 (.slice A n c') n (recs SR.cells (l.map sp)) ∧ Below w.heap.size w w' := by
  have hh := Hp.start w
  have hln : l.length = n := by have := hS.1; rw [recs_len PI.len] at this; omega
  refine calls_vc (N := 28) (l := [.slice L (2 * n) c]) Tryz.func86 rfl rfl (by simp) ?_
  refine sr (aL (wl_end (sr (aL (wl_end (wc_seq (sr (aI (wl_end (wc_block ?_))))))))))
  replace hh := hh.nil_row 80 6
  refine wc_loop2 [3, 4, 5, 6, 7, 8, 9, 10, 11, 12, 13, 14, 15, 16, 17, 18, 19, 20, 21, 22, 23, 24, 25, 26] 3 4
    (fun v3 v w' => ∃ (i c3 : Nat) (A : Option Addr), i ≤ n ∧ v = .int .i64 ((2 * i : Nat) : Int) ∧ v3 = .slice A i c3 ∧ Hp w [.row A i c3 80 6 (recs SR.cells ((l.take i).map sp))] w')
    (fun _ v _ => 2 * n - (intOf v).toNat) ?_ ?_
  · exact ⟨0, 0, none, Nat.zero_le _, rfl, rfl, hh⟩
  · clear hh
    rintro ρ' v3 v w' ⟨i, c3, A, hi, rfl, rfl, hh⟩
    by_cases hlt : i < n
    · obtain ⟨s, hs⟩ := get_of_lt (l := l) (k := i) (by omega)
      obtain ⟨hs1, hs2⟩ := hl s (List.mem_of_getElem? hs)
      obtain ⟨ad, rfl, hr⟩ := hS.at_ (by omega)
      have f1 : ∀ w1, Below w.heap.size w w1 → w1.cell? (ad.add (2 * i * 1)) = some (.int .i64 s.1) := fun w1 hb => by
        have := ((hr.ext hb).recAt PI.len hs) 0 (.int .i64 s.1) rfl
        rwa [addr_add_add, show i * 2 + 0 = 2 * i * 1 by omega] at this
      have f2 : ∀ w1, Below w.heap.size w w1 → w1.cell? (ad.add ((2 * i + 1) * 1)) = some (.int .i64 s.2) := fun w1 hb => by
        have := ((hr.ext hb).recAt PI.len hs) 1 (.int .i64 s.2) rfl
        rwa [addr_add_add, show i * 2 + 1 = (2 * i + 1) * 1 by omega] at this
      refine wc_seq (sr (mI ?_))
      refine addC (mL (lenC ?_))
      refine lssC (wl_end (cT (wc_skip (k_then (wc_seq (wc_block ?_))))))
      refine wc_drawn 14 [[(3, none)], [(0, none)], [(4, none)], [(13, some 1), (14, some 2)], [(15, some 3)], [(16, some 4)], [(0, none)], [(4, none)], [(19, some 7)], [(18, some 6), (20, some 8)], [(21, some 9)], [(22, some 10)], [(17, some 5), (23, some 11)], [(24, some 12)]] [(13, 25), (12, 24), (11, 23), (10, 22), (9, 21), (8, 20), (7, 19), (6, 18), (5, 17), (4, 16), (3, 15), (2, 14), (1, 13), (0, 12)] hh mixed (by kernel_rfl) ?_
      refine dmL ?_
      refine dmL ?_
      refine dmI ?_
      refine dis ((2 * i)) ?_
      refine dlF (fun _ hj => f1 _ hj.hp.below) ?_
      refine dC (fun _ hj => bnum_calls s.1 0 _ (by omega) (by omega) (by omega) (by omega)) ?_
      refine dmL ?_
      refine dmI ?_
      refine dadd ?_
      refine dis ((2 * i + 1)) ?_
      refine dlF (fun _ hj => f2 _ hj.hp.below) ?_
      refine dC (fun _ hj => bnum_calls s.2 0 _ (by omega) (by omega) (by omega) (by omega)) ?_
      refine dB [_,_,_,_,_,_] ?_
      refine dBS [_,_,_,_,_,_] ?_
      refine dx_nil ?_
      intro f W hJ hV
      have hb_5 := hJ.bl
      obtain ⟨v25, v24, v23, v22, v21, v20, v19, v18, v17, v16, v15, v14, v13, v12, _⟩ := hV
      obtain ⟨A25, c25, e25, f25⟩ : Rows _ _ _ (f 13) W := v25
      replace hh := hJ.hp
      refine wl_cast (updL_K (eql_cons e25 (eql_cons v24 (eql_cons v23 (eql_cons v22 (eql_cons v21 (eql_cons v20 (eql_cons v19 (eql_cons v18 (eql_cons v17 (eql_cons v16 (eql_cons v15 (eql_cons v14 (eql_cons v13 (eql_cons v12 eql_nil))))))))))))))) ?_
      dsimp only [updK]
      clear e25 hJ
      refine wl_append hh (i := 0) rfl rfl rfl (f25) UIs.out TIs.out rfl (by decide) (by first | rfl | exact oneCells_u8n _ | exact oneCells_u64s _ | exact oneCells_i64s _ | exact recs_oneCells NR.one _) (by omega) (by omega) (by decide) ?_
      intro A26 c26 w26 hh
      simp only [List.set_cons_zero] at hh
      refine aL (wl_nil (b_norm (k_then (wc_region (mI ?_)))))
      refine addC (aI (wl_nil (k_then ?_)))
      replace hh := hh.sub (List.Sublist.cons_cons _ List.Sublist.slnil)
      refine ⟨⟨i + 1, c26, A26, by omega, ?_, rfl, ?_⟩, by show 2 * n - ((2 * i : Nat) + 2 : Int).toNat < 2 * n - ((2 * i : Nat) : Int).toNat; omega, ?_⟩
      · show Value.int IntKind.i64 (((2 * i : Nat) : Int) + 2) = _
        rw [show ((2 * i : Nat) : Int) + 2 = ((2 * (i + 1) : Nat) : Int) by omega]
      · rw [take_snoc hs, List.map_append, recs_append]
        exact hh
      · (repeat (first | exact agree_mask _ _ _ | refine agree_upd rfl ?_ | refine agree_mask2 rfl ?_))
    · obtain rfl : i = n := by omega
      rw [List.take_of_length_le (by omega)] at hh
      refine wc_seq (sr (mI ?_))
      refine addC (mL (lenC ?_))
      refine lssC (wl_end (cF ?_))
      refine wc_exit ?_
      refine k_exit (k_exit (b_here (k_then (sr (mL (aL (wl_end (wc_ret ?_))))))))
      refine ret1 (by first | exact .inr rfl | exact .inl rfl) rfl (v_sl rfl) ?_
      exact ⟨_, _, rfl, hh.at_ (i := 0) rfl, hh.below⟩
theorem bis_calls (M : Option Addr) (n c2 : Nat) (L : Option Addr) (c : Nat) (l : List Int) (w : World) (hS2 : Sl w M n 3 (recs NR.cells (l.map fun m => nR (D m 0)))) (hS : Sl w L n 1 (i64s l)) (hn : n ≤ 100) (hl : ∀ p ∈ l, p.natAbs < 256) :
    Calls Tryz.prog 88 #[.slice M n c2, .slice L n c] w fun r w' => r = .returned (.bool true) ∧ Below w.heap.size w w' := by
  have hh := Hp.start w
  have hln : l.length = n := by have := hS.1; simpa [i64s] using this
  refine calls_vc (N := 24) (l := [.slice M n c2, .slice L n c]) Tryz.func88 rfl rfl (by simp) ?_
  refine sr (aB (wl_end (sr (aL (wl_end (wc_seq (sr (aI (wl_end (wc_block ?_))))))))))
  replace hh := hh.nil_row 25 3
  refine wc_loop2 [5, 6, 7, 8, 9, 10, 11, 12, 13, 14, 15, 16, 17, 18, 19, 20] 5 6
    (fun v3 v w' => ∃ (i c3 : Nat) (A : Option Addr), i ≤ n ∧ v = .int .i64 i ∧ v3 = .slice A i c3 ∧ Hp w [.row A i c3 25 3 (recs NR.cells ((l.take i).map fun m => nR (D m 0)))] w')
    (fun _ v _ => n - (intOf v).toNat) ?_ ?_
  · exact ⟨0, 0, none, Nat.zero_le _, rfl, rfl, hh⟩
  · clear hh
    rintro ρ' v3 v w' ⟨i, c3, A, hi, rfl, rfl, hh⟩
    by_cases hlt : i < n
    · obtain ⟨s, hs⟩ := get_of_lt (l := l) (k := i) (by omega)
      have hs1 := hl s (List.mem_of_getElem? hs)
      have hgi : (i64s l)[i]? = some (.int .i64 s) := by simp [i64s, hs]
      obtain ⟨ad, rfl, hr⟩ := hS.at_ (by omega)
      refine wc_seq (sr (mI (mL (lenC ?_))))
      refine lssC (wl_end (cT (wc_skip (k_then (wc_seq (wc_block (wc_region (mL (mL (mI ?_))))))))))
      refine s_indexSl (k := i) UIs.out TIs.size rfl rfl (by omega) (by omega) (by decide) ?_
      refine s_load1 TIs.out rfl ((hr.ext hh.below).at1 hgi) (by decide) ?_
      refine s_callf (bnum_calls s 0 _ (by omega) (by omega) (by omega) (by omega)) FnIs.out rfl (by decide) ?_
      rintro e_ w18 ⟨rfl, hb_⟩
      refine ⟨_, rfl, ?_⟩
      replace hh := hh.ext hb_
      refine wl_buildSlice hh (cs := [_, _, _]) UIs.out TIs.out (evp_cons (ev_agg rfl) evp_nil) rfl rfl (by decide) (by decide) (by decide) rfl (by decide) ?_
      intro b19 w19 hh
      refine wl_append hh (i := 1) rfl rfl rfl (hh.sl_row (i := 0) rfl) UIs.out TIs.out rfl (by decide) (by first | rfl | exact oneCells_u8n _ | exact oneCells_u64s _ | exact oneCells_i64s _ | exact recs_oneCells NR.one _) (by omega) (by omega) (by decide) ?_
      intro A20 c20 w20 hh
      simp only [List.set_cons_zero, List.set_cons_succ] at hh
      replace hh := hh.sub (List.sublist_cons_self _ _)
      refine aL (wl_nil (b_norm (k_then (wc_region (mI ?_)))))
      refine addC (aI (wl_nil (k_then ?_)))
      replace hh := hh.sub (List.Sublist.cons_cons _ List.Sublist.slnil)
      refine ⟨⟨i + 1, c20, A20, by omega, rfl, rfl, ?_⟩, by show n - (i + 1) < n - i; omega, ?_⟩
      · rw [take_snoc hs, List.map_append, recs_append]
        exact hh
      · (repeat (first | exact agree_mask _ _ _ | refine agree_upd rfl ?_ | refine agree_mask2 rfl ?_))
    · obtain rfl : i = n := by omega
      rw [List.take_of_length_le (by omega)] at hh
      refine wc_seq (sr (mI (mL (lenC ?_))))
      refine lssC (wl_end (cF ?_))
      refine wc_exit ?_
      refine k_exit (k_exit (b_here (k_then (sr (mL (mL ?_))))))
      refine s_callf (rbSamePoint_calls M i c2 (l.map fun m => nR (D m 0)) A c3 _ (hS2.ext hh.below) (hh.sl_row (i := 0) rfl) (by omega)) FnIs.out rfl (by decide) ?_
      rintro e_ w23 ⟨rfl, hb_⟩
      refine ⟨_, rfl, ?_⟩
      replace hh := hh.ext hb_
      refine aB (wl_end (wc_ret ?_))
      refine ret1 (by first | exact .inr rfl | exact .inl rfl) rfl (v_bool rfl) ?_
      exact ⟨rfl, hh.below⟩
def farB (a : NR) : Bool := decide ((30 : Int) < a.mag.size ∨ a.e < -200 ∨ 200 < a.e)
theorem bfar_calls (a : NR) (w : World) :
    Calls Tryz.prog 85 #[.agg #[.bool a.neg, .string a.mag, .int .i64 a.e]] w fun r w' => r = .returned (.bool (farB a)) ∧ Below w.heap.size w w' := by
  have hh := Hp.start w
  by_cases h1 : (30 : Int) < a.mag.size
  · refine calls_vc (N := 18) (l := [.agg #[.bool a.neg, .string a.mag, .int .i64 a.e]]) Tryz.func85 rfl rfl (by simp) ?_
    refine sr ?_
    refine bxC hh [_,_,_] ?_
    intro b1 w1 hh
    refine aB (wl_end (sr (faC (faC ?_))))
    refine l1C hh 0 ?_
    refine s_len_str UIs.out rfl (by decide) ?_
    refine gtrC (mB ?_)
    first | refine gS ?_ | (refine gT ?_; refine faC ?_) | refine gV ?_
    first | refine gS ?_ | (refine gT ?_; refine l1C hh 0 ?_) | refine gV ?_
    first | refine gS ?_ | (refine gT ?_; refine lssC ?_) | refine gV ?_
    first | refine pkT ?_ | refine pkF ?_
    refine mB ?_
    first | refine gS ?_ | (refine gT ?_; refine faC ?_) | refine gV ?_
    first | refine gS ?_ | (refine gT ?_; refine l1C hh 0 ?_) | refine gV ?_
    first | refine gS ?_ | (refine gT ?_; refine gtrC ?_) | refine gV ?_
    first | refine pkT ?_ | refine pkF ?_
    refine aB (wl_end (wc_ret ?_))
    refine ret1 (by first | exact .inr rfl | exact .inl rfl) rfl (v_bool rfl) ?_
    refine ⟨?_, hh.below⟩
    unfold farB
    rw [decide_eq_true (.inl h1)]
  · by_cases h2 : a.e < -200
    · refine calls_vc (N := 18) (l := [.agg #[.bool a.neg, .string a.mag, .int .i64 a.e]]) Tryz.func85 rfl rfl (by simp) ?_
      refine sr ?_
      refine bxC hh [_,_,_] ?_
      intro b1 w1 hh
      refine aB (wl_end (sr (faC (faC ?_))))
      refine l1C hh 0 ?_
      refine s_len_str UIs.out rfl (by decide) ?_
      refine gtrC (mB ?_)
      first | refine gS ?_ | (refine gT ?_; refine faC ?_) | refine gV ?_
      first | refine gS ?_ | (refine gT ?_; refine l1C hh 0 ?_) | refine gV ?_
      first | refine gS ?_ | (refine gT ?_; refine lssC ?_) | refine gV ?_
      first | refine pkT ?_ | refine pkF ?_
      refine mB ?_
      first | refine gS ?_ | (refine gT ?_; refine faC ?_) | refine gV ?_
      first | refine gS ?_ | (refine gT ?_; refine l1C hh 0 ?_) | refine gV ?_
      first | refine gS ?_ | (refine gT ?_; refine gtrC ?_) | refine gV ?_
      first | refine pkT ?_ | refine pkF ?_
      refine aB (wl_end (wc_ret ?_))
      refine ret1 (by first | exact .inr rfl | exact .inl rfl) rfl (v_bool rfl) ?_
      refine ⟨?_, hh.below⟩
      unfold farB
      rw [decide_eq_true (.inr (.inl h2))]
    · by_cases h3 : 200 < a.e
      · refine calls_vc (N := 18) (l := [.agg #[.bool a.neg, .string a.mag, .int .i64 a.e]]) Tryz.func85 rfl rfl (by simp) ?_
        refine sr ?_
        refine bxC hh [_,_,_] ?_
        intro b1 w1 hh
        refine aB (wl_end (sr (faC (faC ?_))))
        refine l1C hh 0 ?_
        refine s_len_str UIs.out rfl (by decide) ?_
        refine gtrC (mB ?_)
        first | refine gS ?_ | (refine gT ?_; refine faC ?_) | refine gV ?_
        first | refine gS ?_ | (refine gT ?_; refine l1C hh 0 ?_) | refine gV ?_
        first | refine gS ?_ | (refine gT ?_; refine lssC ?_) | refine gV ?_
        first | refine pkT ?_ | refine pkF ?_
        refine mB ?_
        first | refine gS ?_ | (refine gT ?_; refine faC ?_) | refine gV ?_
        first | refine gS ?_ | (refine gT ?_; refine l1C hh 0 ?_) | refine gV ?_
        first | refine gS ?_ | (refine gT ?_; refine gtrC ?_) | refine gV ?_
        first | refine pkT ?_ | refine pkF ?_
        refine aB (wl_end (wc_ret ?_))
        refine ret1 (by first | exact .inr rfl | exact .inl rfl) rfl (v_bool rfl) ?_
        refine ⟨?_, hh.below⟩
        unfold farB
        rw [decide_eq_true (.inr (.inr h3))]
      · refine calls_vc (N := 18) (l := [.agg #[.bool a.neg, .string a.mag, .int .i64 a.e]]) Tryz.func85 rfl rfl (by simp) ?_
        refine sr ?_
        refine bxC hh [_,_,_] ?_
        intro b1 w1 hh
        refine aB (wl_end (sr (faC (faC ?_))))
        refine l1C hh 0 ?_
        refine s_len_str UIs.out rfl (by decide) ?_
        refine gtrC (mB ?_)
        first | refine gS ?_ | (refine gT ?_; refine faC ?_) | refine gV ?_
        first | refine gS ?_ | (refine gT ?_; refine l1C hh 0 ?_) | refine gV ?_
        first | refine gS ?_ | (refine gT ?_; refine lssC ?_) | refine gV ?_
        first | refine pkT ?_ | refine pkF ?_
        refine mB ?_
        first | refine gS ?_ | (refine gT ?_; refine faC ?_) | refine gV ?_
        first | refine gS ?_ | (refine gT ?_; refine l1C hh 0 ?_) | refine gV ?_
        first | refine gS ?_ | (refine gT ?_; refine gtrC ?_) | refine gV ?_
        first | refine pkT ?_ | refine pkF ?_
        refine aB (wl_end (wc_ret ?_))
        refine ret1 (by first | exact .inr rfl | exact .inl rfl) rfl (v_bool rfl) ?_
        refine ⟨?_, hh.below⟩
        unfold farB
        rw [decide_eq_false (by omega)]
theorem fin_of {a : NR} (h : farB a = false) : Fin_ 440 a := by
  have h' := of_decide_eq_false h
  have h1 : (a.mag.size : Int) ≤ 30 := by omega
  have h2 : -200 ≤ a.e := by omega
  have h3 : a.e ≤ 200 := by omega
  exact ⟨⟨by omega, by omega, by omega⟩, Sz.raw (m := 240) (E := 200) (by omega) h2 h3⟩
def farS (s : SR) : Bool := farB s.lo || farB s.hi
def vastB (b : List SR) (p : List NR) : Bool := (decide (8 < b.length) || decide (8 < p.length)) || (b.any farS || p.any farB)
theorem bvast_calls (L : Option Addr) (n c : Nat) (b : List SR) (M : Option Addr) (m c2 : Nat) (p : List NR) (w : World) (hS : Sl w L n 6 (recs SR.cells b)) (hS2 : Sl w M m 3 (recs NR.cells p)) :
    Calls Tryz.prog 26 #[.slice L n c, .slice M m c2] w fun r w' => r = .returned (.bool (vastB b p)) ∧ Below w.heap.size w w' := by
  have hh := Hp.start w
  have hln := hS.recLen SR.len (by decide)
  have hlm := hS2.recLen NR.len (by decide)
  unfold vastB
  by_cases h1 : 8 < n
  · refine calls_vc (N := 46) (l := [.slice L n c, .slice M m c2]) Tryz.func26 rfl rfl (by simp) ?_
    refine sr (aB (wl_end (wc_seq (sr (mL (lenC ?_))))))
    refine gtrC (mB ?_)
    first | refine gS ?_ | (refine gT ?_; refine mL ?_) | refine gV ?_
    first | refine gS ?_ | (refine gT ?_; refine lenC ?_) | refine gV ?_
    first | refine gS ?_ | (refine gT ?_; refine gtrC ?_) | refine gV ?_
    first | refine pkT ?_ | refine pkF ?_
    refine wl_end (cT (sr (aB (wl_end (wc_ret (k_ret ?_))))))
    refine ret1 (by first | exact .inr rfl | exact .inl rfl) rfl (v_bool rfl) ?_
    rw [decide_eq_true (by omega), Bool.true_or, Bool.true_or]
    exact ⟨rfl, hh.below⟩
  · rw [decide_eq_false (show ¬ 8 < b.length by omega), Bool.false_or]
    by_cases h2 : 8 < m
    · refine calls_vc (N := 46) (l := [.slice L n c, .slice M m c2]) Tryz.func26 rfl rfl (by simp) ?_
      refine sr (aB (wl_end (wc_seq (sr (mL (lenC ?_))))))
      refine gtrC (mB ?_)
      first | refine gS ?_ | (refine gT ?_; refine mL ?_) | refine gV ?_
      first | refine gS ?_ | (refine gT ?_; refine lenC ?_) | refine gV ?_
      first | refine gS ?_ | (refine gT ?_; refine gtrC ?_) | refine gV ?_
      first | refine pkT ?_ | refine pkF ?_
      refine wl_end (cT (sr (aB (wl_end (wc_ret (k_ret ?_))))))
      refine ret1 (by first | exact .inr rfl | exact .inl rfl) rfl (v_bool rfl) ?_
      rw [decide_eq_true (by omega), Bool.true_or]
      exact ⟨rfl, hh.below⟩
    · rw [decide_eq_false (show ¬ 8 < p.length by omega), Bool.false_or]
      refine calls_vc (N := 46) (l := [.slice L n c, .slice M m c2]) Tryz.func26 rfl rfl (by simp) ?_
      refine sr (aB (wl_end (wc_seq (sr (mL (lenC ?_))))))
      refine gtrC (mB ?_)
      first | refine gS ?_ | (refine gT ?_; refine mL ?_) | refine gV ?_
      first | refine gS ?_ | (refine gT ?_; refine lenC ?_) | refine gV ?_
      first | refine gS ?_ | (refine gT ?_; refine gtrC ?_) | refine gV ?_
      first | refine pkT ?_ | refine pkF ?_
      refine wl_end (cF (wc_skip (k_then (wc_seq (sr (aI (wl_end (wc_block ?_))))))))
      refine wc_loop1 [4, 5, 15, 16, 17, 18, 19, 20, 21, 22, 23, 24, 25, 26, 27, 28, 29, 30, 31, 32, 33, 34] 5
        (fun v w' => ∃ i : Nat, i ≤ n ∧ v = .int .i64 i ∧ (b.take i).any farS = false ∧ Hp w [] w')
        (fun v _ => n - (intOf v).toNat) ?_ ?_
      · exact ⟨0, Nat.zero_le _, rfl, rfl, hh⟩
      · clear hh
        rintro ρ' v w' ⟨i, hi, rfl, hall, hh⟩
        by_cases hlt : i < n
        · obtain ⟨s, hs⟩ := get_of_lt (l := b) (k := i) (by omega)
          obtain ⟨ad, rfl, hr⟩ := hS.at_ (by omega)
          have hbad : farS s = true → b.any farS = true := fun h => List.any_eq_true.2 ⟨s, List.mem_of_getElem? hs, h⟩
          have c1 := fun w1 => bfar_calls s.lo w1
          have c2 := fun w1 => bfar_calls s.hi w1
          cases g1 : farB s.lo with
          | true =>
            rw [g1] at c1
            refine wc_seq (sr (mI (mL (lenC ?_))))
            refine lssC (wl_end (cT (wc_skip (k_then (wc_seq (wc_block (sr (mL (mI ?_)))))))))
            refine s_indexSl (k := i) UIs.out TIs.size rfl rfl (by omega) (by omega) (by decide) ?_
            refine s_fieldAddrA FIs.out rfl (by decide) ?_
            refine s_load (vs := [_, _, _]) TIs.out rfl (((((hr.ext hh.below).recAt SR.len hs).drop 0).take 3)) rfl (by decide) ?_
            refine s_callf (c1 _) FnIs.out rfl (by decide) ?_
            rintro e_ w26 ⟨rfl, hb_⟩
            refine ⟨_, rfl, ?_⟩
            replace hh := hh.ext hb_
            refine mB ?_
            first | refine gS ?_ | (refine gT ?_; refine mL ?_) | refine gV ?_
            first | refine gS ?_ | (refine gT ?_; refine mI ?_) | refine gV ?_
            first | refine gS ?_ | (refine gT ?_; refine s_indexSl UIs.out TIs.size rfl rfl rfl (by omega) (by decide) ?_) | refine gV ?_
            first | refine gS ?_ | (refine gT ?_; refine s_fieldAddrA FIs.out rfl (by decide) ?_) | refine gV ?_
            refine wl_guard_skip (by decide) rfl rfl (by decide) ?_
            refine wl_guard_skip (by decide) rfl rfl (by decide) ?_
            first | refine pkT ?_ | refine pkF ?_
            refine wl_end (cT (sr (aB (wl_end (wc_ret (b_ret (k_ret (k_ret (b_ret (k_ret ?_))))))))))
            refine ret1 (by first | exact .inr rfl | exact .inl rfl) rfl (v_bool rfl) ?_
            rw [hbad (by unfold farS; rw [g1]; rfl), Bool.true_or]
            exact ⟨rfl, hh.below⟩
          | false =>
            rw [g1] at c1
            cases g2 : farB s.hi with
            | true =>
              rw [g2] at c2
              refine wc_seq (sr (mI (mL (lenC ?_))))
              refine lssC (wl_end (cT (wc_skip (k_then (wc_seq (wc_block (sr (mL (mI ?_)))))))))
              refine s_indexSl (k := i) UIs.out TIs.size rfl rfl (by omega) (by omega) (by decide) ?_
              refine s_fieldAddrA FIs.out rfl (by decide) ?_
              refine s_load (vs := [_, _, _]) TIs.out rfl (((((hr.ext hh.below).recAt SR.len hs).drop 0).take 3)) rfl (by decide) ?_
              refine s_callf (c1 _) FnIs.out rfl (by decide) ?_
              rintro e_ w26 ⟨rfl, hb_⟩
              refine ⟨_, rfl, ?_⟩
              replace hh := hh.ext hb_
              refine mB ?_
              first | refine gS ?_ | (refine gT ?_; refine mL ?_) | refine gV ?_
              first | refine gS ?_ | (refine gT ?_; refine mI ?_) | refine gV ?_
              first | refine gS ?_ | (refine gT ?_; refine s_indexSl (k := i) UIs.out TIs.size rfl rfl (by omega) (by omega) (by decide) ?_) | refine gV ?_
              first | refine gS ?_ | (refine gT ?_; refine s_fieldAddrA FIs.out rfl (by decide) ?_) | refine gV ?_
              refine wl_guard_take rfl rfl ?_
              refine s_load (vs := [_, _, _]) TIs.out rfl (((((hr.ext hh.below).recAt SR.len hs).drop 3).take 3)) rfl (by decide) ?_
              refine wl_guard_take rfl rfl ?_
              refine s_callf (c2 _) FnIs.out rfl (by decide) ?_
              rintro e_ w33 ⟨rfl, hb_⟩
              refine ⟨_, rfl, ?_⟩
              replace hh := hh.ext hb_
              first | refine pkT ?_ | refine pkF ?_
              refine wl_end (cT (sr (aB (wl_end (wc_ret (b_ret (k_ret (k_ret (b_ret (k_ret ?_))))))))))
              refine ret1 (by first | exact .inr rfl | exact .inl rfl) rfl (v_bool rfl) ?_
              rw [hbad (by unfold farS; rw [g1, g2]; rfl), Bool.true_or]
              exact ⟨rfl, hh.below⟩
            | false =>
              rw [g2] at c2
              refine wc_seq (sr (mI (mL (lenC ?_))))
              refine lssC (wl_end (cT (wc_skip (k_then (wc_seq (wc_block (sr (mL (mI ?_)))))))))
              refine s_indexSl (k := i) UIs.out TIs.size rfl rfl (by omega) (by omega) (by decide) ?_
              refine s_fieldAddrA FIs.out rfl (by decide) ?_
              refine s_load (vs := [_, _, _]) TIs.out rfl (((((hr.ext hh.below).recAt SR.len hs).drop 0).take 3)) rfl (by decide) ?_
              refine s_callf (c1 _) FnIs.out rfl (by decide) ?_
              rintro e_ w26 ⟨rfl, hb_⟩
              refine ⟨_, rfl, ?_⟩
              replace hh := hh.ext hb_
              refine mB ?_
              first | refine gS ?_ | (refine gT ?_; refine mL ?_) | refine gV ?_
              first | refine gS ?_ | (refine gT ?_; refine mI ?_) | refine gV ?_
              first | refine gS ?_ | (refine gT ?_; refine s_indexSl (k := i) UIs.out TIs.size rfl rfl (by omega) (by omega) (by decide) ?_) | refine gV ?_
              first | refine gS ?_ | (refine gT ?_; refine s_fieldAddrA FIs.out rfl (by decide) ?_) | refine gV ?_
              refine wl_guard_take rfl rfl ?_
              refine s_load (vs := [_, _, _]) TIs.out rfl (((((hr.ext hh.below).recAt SR.len hs).drop 3).take 3)) rfl (by decide) ?_
              refine wl_guard_take rfl rfl ?_
              refine s_callf (c2 _) FnIs.out rfl (by decide) ?_
              rintro e_ w33 ⟨rfl, hb_⟩
              refine ⟨_, rfl, ?_⟩
              replace hh := hh.ext hb_
              first | refine pkT ?_ | refine pkF ?_
              refine wl_end (cF (wc_skip (b_norm (k_then (wc_region (mI ?_))))))
              refine addC (aI (wl_nil (k_then ?_)))
              refine ⟨⟨i + 1, by omega, rfl, ?_, hh⟩, by show n - (i + 1) < n - i; omega, ?_⟩
              · rw [take_snoc hs, List.any_append, hall, List.any_cons, List.any_nil, farS, g1, g2]; rfl
              · (repeat (first | exact agree_mask _ _ _ | refine agree_upd rfl ?_ | refine agree_mask2 rfl ?_))
        · rw [List.take_of_length_le (by omega)] at hall
          rw [hall, Bool.false_or]
          clear hall
          refine wc_seq (sr (mI (mL (lenC ?_))))
          refine lssC (wl_end (cF ?_))
          refine wc_exit ?_
          refine k_exit (k_exit (b_here (k_then (wc_seq (sr (aI (wl_end (wc_block ?_))))))))
          refine wc_loop1 [4, 6, 35, 36, 37, 38, 39, 40, 41, 42, 43, 44, 45] 6
            (fun v w' => ∃ i : Nat, i ≤ m ∧ v = .int .i64 i ∧ (p.take i).any farB = false ∧ Hp w [] w')
            (fun v _ => m - (intOf v).toNat) ?_ ?_
          · exact ⟨0, Nat.zero_le _, rfl, rfl, hh⟩
          · clear hh
            rintro ρ2 v w2 ⟨j, hj, rfl, hall, hh⟩
            by_cases hlt : j < m
            · obtain ⟨s, hs⟩ := get_of_lt (l := p) (k := j) (by omega)
              obtain ⟨ad, rfl, hr⟩ := hS2.at_ (by omega)
              have c1 := fun w1 => bfar_calls s w1
              cases g1 : farB s with
              | true =>
                rw [g1] at c1
                refine wc_seq (sr (mI (mL (lenC ?_))))
                refine lssC (wl_end (cT (wc_skip (k_then (wc_seq (wc_block (sr (mL (mI ?_)))))))))
                refine s_indexSl (k := j) UIs.out TIs.size rfl rfl (by omega) (by omega) (by decide) ?_
                refine s_load (vs := [_, _, _]) TIs.out rfl ((hr.ext hh.below).recAt NR.len hs) rfl (by decide) ?_
                refine s_callf (c1 _) FnIs.out rfl (by decide) ?_
                rintro e_ w45 ⟨rfl, hb_⟩
                refine ⟨_, rfl, ?_⟩
                replace hh := hh.ext hb_
                refine wl_end (cT (sr (aB (wl_end (wc_ret (b_ret (k_ret (k_ret (b_ret (k_ret ?_))))))))))
                refine ret1 (by first | exact .inr rfl | exact .inl rfl) rfl (v_bool rfl) ?_
                rw [List.any_eq_true.2 ⟨s, List.mem_of_getElem? hs, g1⟩]
                exact ⟨rfl, hh.below⟩
              | false =>
                rw [g1] at c1
                refine wc_seq (sr (mI (mL (lenC ?_))))
                refine lssC (wl_end (cT (wc_skip (k_then (wc_seq (wc_block (sr (mL (mI ?_)))))))))
                refine s_indexSl (k := j) UIs.out TIs.size rfl rfl (by omega) (by omega) (by decide) ?_
                refine s_load (vs := [_, _, _]) TIs.out rfl ((hr.ext hh.below).recAt NR.len hs) rfl (by decide) ?_
                refine s_callf (c1 _) FnIs.out rfl (by decide) ?_
                rintro e_ w45 ⟨rfl, hb_⟩
                refine ⟨_, rfl, ?_⟩
                replace hh := hh.ext hb_
                refine wl_end (cF (wc_skip (b_norm (k_then (wc_region (mI ?_))))))
                refine addC (aI (wl_nil (k_then ?_)))
                refine ⟨⟨j + 1, by omega, rfl, ?_, hh⟩, by show m - (j + 1) < m - j; omega, ?_⟩
                · rw [take_snoc hs, List.any_append, hall, List.any_cons, List.any_nil, g1]; rfl
                · (repeat (first | exact agree_mask _ _ _ | refine agree_upd rfl ?_ | refine agree_mask2 rfl ?_))
            · rw [List.take_of_length_le (by omega)] at hall
              refine wc_seq (sr (mI (mL (lenC ?_))))
              refine lssC (wl_end (cF ?_))
              refine wc_exit ?_
              refine k_exit (k_exit (b_here (k_then (sr (aB (wl_end (wc_ret ?_)))))))
              refine ret1 (by first | exact .inr rfl | exact .inl rfl) rfl (v_bool rfl) ?_
              rw [hall]
              exact ⟨rfl, hh.below⟩
theorem vast_no {b : List SR} {p : List NR} (h : vastB b p = false) : b.length ≤ 8 ∧ p.length ≤ 8 ∧ (∀ s ∈ b, s.fin 440) ∧ ∀ a ∈ p, Fin_ 440 a := by
  unfold vastB at h
  simp only [farS, Bool.or_eq_false_iff, decide_eq_false_iff_not, List.any_eq_false, Bool.not_eq_true] at h
  obtain ⟨⟨h1, h2⟩, h3, h4⟩ := h
  exact ⟨by omega, by omega, fun s hs => ⟨fin_of (h3 s hs).1, fin_of (h3 s hs).2⟩, fun a ha => fin_of (h4 a ha)⟩
end Go.Proofs.YthmmofllajkejaaGreatDoor
