/- The walks through the program's whole numbers (whole): sums, products, shifts. -/
import Derived.Test.YthmmofllajkejaaGreatDoorWhole
import Derived.Test.YthmmofllajkejaaGreatDoorRecs
namespace Go.Proofs.YthmmofllajkejaaGreatDoor
open Go.RowKit
-- umode
structure IR where
  neg : Bool
  mag : ByteArray
def IR.cells (a : IR) : List Value := [.bool a.neg, .string a.mag]
def IR.v (a : IR) : Int := iv a.neg a.mag
def iR (z : Int) : IR := ⟨iN z, iM z⟩
theorem iR_v (z : Int) : (iR z).v = z := iv_of z
theorem IR.len (a : IR) : a.cells.length = 2 := rfl
theorem IR.one (a : IR) : a.cells.all Value.oneCell' = true := rfl
theorem blen_add_int (x y : Int) : blen (x + y).natAbs ≤ max (blen x.natAbs) (blen y.natAbs) + 1 := by
  apply blen_le
  have h1 := lt_blen x.natAbs
  have h2 := lt_blen y.natAbs
  have h3 : 2 ^ blen x.natAbs ≤ 2 ^ max (blen x.natAbs) (blen y.natAbs) := Nat.pow_le_pow_right (by omega) (Nat.le_max_left _ _)
  have h4 : 2 ^ blen y.natAbs ≤ 2 ^ max (blen x.natAbs) (blen y.natAbs) := Nat.pow_le_pow_right (by omega) (Nat.le_max_right _ _)
  rw [Nat.pow_succ]
  omega
theorem blen_iv (s : Bool) (m : ByteArray) : blen (iv s m).natAbs ≤ 8 * m.size := by rw [iv_abs]; exact bN_blen m
theorem sum_snocI (l : List Int) (x : Int) : (l ++ [x]).sum = l.sum + x := by simp
theorem wAdd_calls (L : Option Addr) (n c : Nat) (l : List IR) (w : World) (hS : Sl w L n 2 (recs IR.cells l)) (hn : n ≤ 1000000) (hs : ∀ s ∈ l, s.mag.size ≤ 100000000) :
    Calls Tryz.prog 63 #[.slice L n c] w fun e w' => e = .returned (.agg #[.bool (iN (l.map IR.v).sum), .string (iM (l.map IR.v).sum)]) ∧ Below w.heap.size w w' := by
  have hl := hS.recLen IR.len (by omega)
  have hh := Hp.start w
  refine calls_vc (N := 19) (l := [.slice L n c]) Tryz.func63 rfl rfl (by simp) ?_
  refine wc_seq ?_
  refine wc_region ?_
  refine wl_alloc hh TIs.out (by decide) ?_
  intro b2 w2 hh
  refine wl_end ?_
  refine wc_seq ?_
  refine wc_region ?_
  refine wl_alloc hh TIs.out (by decide) ?_
  intro b3 w3 hh
  refine wl_end ?_
  refine wc_seq ?_
  refine wc_seq ?_
  refine wc_region ?_
  refine s_move (ev_sl rfl) (by decide) ?_
  refine s_len_sl UIs.out rfl (by decide) ?_
  refine s_move (ev_int rfl) (by decide) ?_
  refine wl_end ?_
  refine wc_block ?_
  -- at a loop
  refine wc_loop1 [5, 8, 9, 10, 11, 12, 13, 14, 15, 16] 8
    (fun j w' => ∃ (i : Nat) (u : Bool) (S : Int), i ≤ n ∧ j = .int .i64 i ∧ S = ((l.take i).map IR.v).sum ∧ iv u (iM S) = S ∧ blen S.natAbs ≤ 800000000 + i ∧ Hp w [.blk b3 130 [.string (iM S), .bool u] (0, 0), .blk b2 23 [.bool false, .string (ByteArray.mk #[])] (0, 0)] w')
    (fun j _ => n - (intOf j).toNat) ?_ ?_
  · exact ⟨0, false, 0, Nat.zero_le _, rfl, rfl, by rw [iM]; exact congrArg _ (bN_sN 0), by simp [blen_zero], by rw [iM, Int.natAbs_zero, sN_zero]; exact hh⟩
  · clear hh
    rintro ρ' j w' ⟨i, u, S, hi, rfl, hS2, hu, hb, hh⟩
    -- 
    by_cases hlt : i < n
    · obtain ⟨x, hx⟩ := get_of_lt (l := l) (k := i) (by omega)
      obtain ⟨ad, rfl, hr⟩ := hS.at_ (by omega)
      have hxs := hs x (List.mem_of_getElem? hx)
      have hS3 : ((l.take (i + 1)).map IR.v).sum = S + x.v := by rw [take_snoc hx, List.map_append, List.map_singleton, sum_snocI, hS2]
      have hms : (iM S).size ≤ 1000000000 := by rw [iM_size]; omega
      have hbx := blen_iv x.neg x.mag
      have hba := blen_add_int S x.v
      have hpl := iv_plus u x.neg (iM S) x.mag
      rw [hu] at hpl
      have hwc := fun w1 => wplus_calls u x.neg (iM S) x.mag w1 hms (by omega)
      rw [hu] at hwc
      -- 
      refine wc_seq ?_
      refine wc_region ?_
      first | refine s_lss_t rfl rfl (by omega) (by decide) ?_ | refine s_lss_f rfl rfl (by omega) (by decide) ?_ | refine s_lss_v rfl rfl (by decide) ?_
      refine wl_end ?_
      refine wc_seq ?_
      refine wc_cond_t rfl ?_
      refine wc_skip ?_
      refine k_then ?_
      refine wc_seq ?_
      refine wc_block ?_
      refine wc_seq ?_
      refine wc_region ?_
      refine s_indexSl (k := i) UIs.out TIs.size rfl rfl (by omega) (by omega) (by decide) ?_
      -- at some 11
      refine s_load (vs := [_, _]) TIs.out rfl (((hr.ext hh.below).recAt IR.len hx)) rfl (by decide) ?_
      refine wl_alloc hh TIs.out (by decide) ?_
      intro b5 w5 hh
      refine wl_store hh (i := 0) (vs := [_, _]) rfl rfl rfl rfl TIs.out rfl (by simp) rfl ?_
      intro ws hh
      replace hh : Hp _ (.blk _ _ [_, _] _ :: _) _ := hh
      refine wl_end ?_
      -- at the drawn region 5
      refine wc_drawn 3 [[(3, none)], [(5, none)], [(13, some 1)]] [(2, 14), (1, 13), (0, 12)] hh mixed (by kernel_rfl) ?_
      refine dx_val (i := 0) (fun ρ1 w1 hj hR => x_load (vs := [_, _]) TIs.out (show ρ1 3 = Value.pointer _ from hR.1) (hj.hp.rd_blk_at (i := 1) (n := 2) rfl rfl) rfl) ?_
      refine dx_val (i := 1) (fun ρ1 w1 hj hR => x_load (vs := [_, _]) TIs.out (show ρ1 5 = Value.pointer _ from hR.1) (hj.hp.rd_blk_at (i := 0) (n := 2) rfl rfl) rfl) ?_
      refine dx_call (i := 2) (fun ρ1 w1 hj hR => run_callf FnIs.out (evs_cons (show ρ1 13 = Value.agg (List.toArray _) from hR.1) evs_nil)) (fun w1 hj => wof_calls x.neg x.mag _) ?_
      refine dx_nil ?_
      intro f W hJ hV
      have hb_5 := hJ.bl
      obtain ⟨v14, v13, v12, _⟩ := hV
      simp only [updL]
      have e12 : f 0 = _ := v12
      rw [e12]
      have e13 : f 1 = _ := v13
      rw [e13]
      have e14 : f 2 = _ := v14
      rw [e14]
      replace hh := hJ.hp
      clear e12 e13 e14 hJ
      -- at some 15 := Op.call { callee := Callee.value (Operand.func 116), args := #[Operand.tmp 12, Operand.tmp
      refine s_callf (hwc _) FnIs.out rfl (by decide) ?_
      rintro e_ w15 ⟨rfl, hb_⟩
      refine ⟨_, rfl, ?_⟩
      replace hh := hh.ext hb_
      refine wl_store hh (i := 1) (vs := [_, _]) rfl rfl rfl rfl TIs.out rfl (by simp) rfl ?_
      intro ws hh
      replace hh : Hp _ (_ :: .blk _ _ [_, _] _ :: _) _ := hh
      refine wl_nil ?_
      refine b_norm ?_
      refine k_then ?_
      refine wc_region ?_
      refine s_addi rfl rfl (by omega) (by omega) (by decide) ?_
      refine s_move (ev_int rfl) (by decide) ?_
      refine wl_nil ?_
      refine k_then ?_
      -- at ('round',)
      replace hh := hh.sub (List.sublist_cons_self _ _)
      refine ⟨⟨i + 1, _, _, by omega, rfl, hS3.symm, hpl, by unfold IR.v at hba ⊢; omega, hh⟩, by show n - (i + 1) < n - i; omega, ?_⟩
      (repeat (first | exact agree_mask _ _ _ | refine agree_upd rfl ?_ | refine agree_mask2 rfl ?_))
    · refine wc_seq ?_
      refine wc_region ?_
      first | refine s_lss_t rfl rfl (by omega) (by decide) ?_ | refine s_lss_f rfl rfl (by omega) (by decide) ?_ | refine s_lss_v rfl rfl (by decide) ?_
      refine wl_end ?_
      refine wc_seq ?_
      refine wc_cond_f rfl ?_
      refine wc_exit ?_
      refine k_exit ?_
      refine k_exit ?_
      refine b_here ?_
      refine k_then ?_
      refine wc_seq ?_
      refine wc_region ?_
      refine s_load (vs := [_, _]) TIs.out rfl (hh.rd_blk_at (i := 0) (n := 2) rfl rfl) rfl (by decide) ?_
      -- at some 18 := Op.call { callee := Callee.value (Operand.func 118), args := #[Operand.tmp 17], argTypes :
      refine s_callf (wmade_calls u (iM S) _) FnIs.out rfl (by decide) ?_
      rintro e_ w18 ⟨rfl, hb_⟩
      refine ⟨_, rfl, ?_⟩
      replace hh := hh.ext hb_
      rw [hu]
      refine wl_store hh (i := 1) (vs := [_, _]) rfl rfl rfl rfl TIs.out rfl (by simp) rfl ?_
      intro ws hh
      replace hh : Hp _ (_ :: .blk _ _ [_, _] _ :: _) _ := hh
      refine wl_end ?_
      refine wc_ret ?_
      -- at ('end', 'ret')
      refine retc1 (by first | exact .inr rfl | exact .inl rfl) rfl (r_cell rfl (lv_agg (vs := [_, _]) TIs.out (hh.rd_blk_at (i := 1) (n := 2) rfl rfl) rfl) r_nil) ?_
      rw [List.take_of_length_le (by omega)] at hS2
      rw [hS2]
      exact ⟨rfl, hh.below⟩
theorem iM_neg_size (s : Bool) (b : ByteArray) : (iM (-(iv s b))).size ≤ b.size := by
  have := blen_iv s b
  rw [iM_size, Int.natAbs_neg]; omega
theorem wSub_calls (s t : Bool) (a b : ByteArray) (w : World) (ha : a.size ≤ 100000000) (hb : b.size ≤ 100000000) :
    Calls Tryz.prog 115 #[.agg #[.bool s, .string a], .agg #[.bool t, .string b]] w fun e w' => e = .returned (.agg #[.bool (iN (iv s a - iv t b)), .string (iM (iv s a - iv t b))]) ∧ Below w.heap.size w w' := by
  have hh := Hp.start w
  have h1 := iM_neg_size t b
  have e1 : ([IR.mk s a, iR (-(iv t b))].map IR.v).sum = iv s a - iv t b := by
    simp only [List.map_cons, List.map_nil, List.sum_cons, List.sum_nil, iR_v]
    simp only [IR.v]; omega
  refine calls_vc (N := 10) (l := [.agg #[.bool s, .string a], .agg #[.bool t, .string b]]) Tryz.func115 rfl rfl (by simp) ?_
  refine wc_seq ?_
  refine wc_region ?_
  refine wl_box hh (cs := [_, _]) rfl rfl (by decide) ?_
  intro b2 w2 hh
  refine wl_box hh (cs := [_, _]) rfl rfl (by decide) ?_
  intro b3 w3 hh
  refine wl_alloc hh TIs.out (by decide) ?_
  intro b4 w4 hh
  refine wl_end ?_
  refine wc_seq ?_
  -- at the drawn region 1
  refine wc_drawn 3 [[(2, none)], [(3, none)], [(6, some 1)]] [(2, 7), (1, 6), (0, 5)] hh mixed (by kernel_rfl) ?_
  refine dx_val (i := 0) (fun ρ1 w1 hj hR => x_load (vs := [_, _]) TIs.out (show ρ1 2 = Value.pointer _ from hR.1) (hj.hp.rd_blk_at (i := 2) (n := 2) rfl rfl) rfl) ?_
  refine dx_val (i := 1) (fun ρ1 w1 hj hR => x_load (vs := [_, _]) TIs.out (show ρ1 3 = Value.pointer _ from hR.1) (hj.hp.rd_blk_at (i := 1) (n := 2) rfl rfl) rfl) ?_
  refine dx_call (i := 2) (fun ρ1 w1 hj hR => run_callf FnIs.out (evs_cons (show ρ1 6 = Value.agg (List.toArray _) from hR.1) evs_nil)) (fun w1 hj => wneg_calls t b _) ?_
  refine dx_nil ?_
  intro f W hJ hV
  have hb_1 := hJ.bl
  obtain ⟨v7, v6, v5, _⟩ := hV
  simp only [updL]
  have e5 : f 0 = _ := v5
  rw [e5]
  have e6 : f 1 = _ := v6
  rw [e6]
  have e7 : f 2 = _ := v7
  rw [e7]
  replace hh := hJ.hp
  clear e5 e6 e7 hJ
  refine wl_buildSlice hh (cs := [_, _, _, _]) UIs.out TIs.out (evp_cons (ev_agg rfl) (evp_cons (ev_agg rfl) evp_nil)) rfl rfl (by decide) (by decide) (by decide) rfl (by decide) ?_
  intro b8 w8 hh
  -- at some 9 := Op.call { callee := Callee.value (Operand.func 63), args := #[Operand.tmp 8], argTypes := 
  refine s_callf (wAdd_calls _ 2 _ [IR.mk s a, iR (-(iv t b))] _ (hh.sl_row (i := 0) rfl) (by omega) (by simp [iR]; omega)) FnIs.out rfl (by decide) ?_
  rintro e_ w9 ⟨rfl, hb_⟩
  refine ⟨_, rfl, ?_⟩
  replace hh := hh.ext hb_
  rw [e1]
  refine wl_store hh (i := 1) (vs := [_, _]) rfl rfl rfl rfl TIs.out rfl (by simp) rfl ?_
  intro ws hh
  replace hh : Hp _ (_ :: .blk _ _ [_, _] _ :: _) _ := hh
  refine wl_end ?_
  refine wc_ret ?_
  -- at ('end', 'ret')
  refine retc1 (by first | exact .inr rfl | exact .inl rfl) rfl (r_cell rfl (lv_agg (vs := [_, _]) TIs.out (hh.rd_blk_at (i := 1) (n := 2) rfl rfl) rfl) r_nil) ?_
  exact ⟨rfl, hh.below⟩
theorem wCmp_calls (s t : Bool) (a b : ByteArray) (w : World) (ha : a.size ≤ 100000000) (hb : b.size ≤ 100000000) :
    Calls Tryz.prog 62 #[.agg #[.bool s, .string a], .agg #[.bool t, .string b]] w fun e w' => e = .returned (.int .i64 (iv s a - iv t b).sign) ∧ Below w.heap.size w w' := by
  have hh := Hp.start w
  refine calls_vc (N := 9) (l := [.agg #[.bool s, .string a], .agg #[.bool t, .string b]]) Tryz.func62 rfl rfl (by simp) ?_
  refine wc_seq ?_
  refine wc_region ?_
  refine wl_box hh (cs := [_, _]) rfl rfl (by decide) ?_
  intro b2 w2 hh
  refine wl_box hh (cs := [_, _]) rfl rfl (by decide) ?_
  intro b3 w3 hh
  refine s_assign (ev_int rfl) (by decide) ?_
  refine wl_end ?_
  refine wc_seq ?_
  refine wc_region ?_
  refine s_load (vs := [_, _]) TIs.out rfl (hh.rd_blk_at (i := 1) (n := 2) rfl rfl) rfl (by decide) ?_
  refine s_load (vs := [_, _]) TIs.out rfl (hh.rd_blk_at (i := 0) (n := 2) rfl rfl) rfl (by decide) ?_
  -- at some 7 := Op.call { callee := Callee.value (Operand.func 115), args := #[Operand.tmp 5, Operand.tmp 
  refine s_callf (wSub_calls s t a b _ ha hb) FnIs.out rfl (by decide) ?_
  rintro e_ w7 ⟨rfl, hb_⟩
  refine ⟨_, rfl, ?_⟩
  replace hh := hh.ext hb_
  -- at some 8 := Op.call { callee := Callee.value (Operand.func 68), args := #[Operand.tmp 7], argTypes := 
  refine s_callf (wsign_calls _ _ _) FnIs.out rfl (by decide) ?_
  rintro e_ w8 ⟨rfl, hb_⟩
  refine ⟨_, rfl, ?_⟩
  replace hh := hh.ext hb_
  rw [iv_of]
  refine s_assign (ev_int rfl) (by decide) ?_
  refine wl_end ?_
  refine wc_ret ?_
  -- at ('end', 'ret')
  refine ret1 (by first | exact .inr rfl | exact .inl rfl) rfl (v_int rfl) ?_
  exact ⟨rfl, hh.below⟩
theorem blen_mul (a b : Nat) : blen (a * b) ≤ blen a + blen b := by
  apply blen_le
  rw [Nat.pow_add]
  exact Nat.mul_lt_mul'' (lt_blen a) (lt_blen b)
theorem blen_mul_int (a b : Int) : blen (a * b).natAbs ≤ blen a.natAbs + blen b.natAbs := by rw [Int.natAbs_mul]; exact blen_mul _ _
/-- The product of a list. -/
def prodI : List Int → Int
  | [] => 1
  | x :: l => x * prodI l
theorem prodI_snoc (l : List Int) (x : Int) : prodI (l ++ [x]) = prodI l * x := by
  induction l with
  | nil => simp [prodI]
  | cons y l ih => simp only [List.cons_append, prodI, ih, Int.mul_assoc]
theorem sum_take_le (l : List Nat) (i : Nat) : (l.take i).sum ≤ l.sum := by
  rw [← List.sum_append_nat.symm.trans (congrArg List.sum (List.take_append_drop i l))]; omega
theorem blen_one : blen 1 = 1 := by decide +kernel
theorem wMul_calls (L : Option Addr) (n c : Nat) (l : List IR) (w : World) (hS : Sl w L n 2 (recs IR.cells l)) (hn : n ≤ 1000000) (hs : (l.map fun a => a.mag.size).sum ≤ 100000000) :
    Calls Tryz.prog 67 #[.slice L n c] w fun e w' => e = .returned (.agg #[.bool (iN (prodI (l.map IR.v))), .string (iM (prodI (l.map IR.v)))]) ∧ Below w.heap.size w w' := by
  have hl := hS.recLen IR.len (by omega)
  have hh := Hp.start w
  have hsum := sum_take_le (l.map fun a => a.mag.size)
  refine calls_vc (N := 21) (l := [.slice L n c]) Tryz.func67 rfl rfl (by simp) ?_
  refine wc_seq ?_
  refine wc_region ?_
  refine wl_alloc hh TIs.out (by decide) ?_
  intro b2 w2 hh
  refine wl_end ?_
  refine wc_seq ?_
  refine wc_region ?_
  -- at some 6 := Op.call { callee := Callee.value (Operand.func 107), args := #[Operand.const (Value.int In
  refine s_callf (wOf_calls 1 _ (by omega) (by omega)) FnIs.out rfl (by decide) ?_
  rintro e_ w6 ⟨rfl, hb_⟩
  refine ⟨_, rfl, ?_⟩
  replace hh := hh.ext hb_
  -- at some 7 := Op.call { callee := Callee.value (Operand.func 117), args := #[Operand.tmp 6], argTypes :=
  refine s_callf (wof_calls _ _ _) FnIs.out rfl (by decide) ?_
  rintro e_ w7 ⟨rfl, hb_⟩
  refine ⟨_, rfl, ?_⟩
  replace hh := hh.ext hb_
  refine wl_alloc hh TIs.out (by decide) ?_
  intro b3 w3 hh
  refine wl_store hh (i := 0) (vs := [_, _]) rfl rfl rfl rfl TIs.out rfl (by simp) rfl ?_
  intro ws hh
  replace hh : Hp _ (.blk _ _ [_, _] _ :: _) _ := hh
  refine wl_end ?_
  refine wc_seq ?_
  refine wc_seq ?_
  refine wc_region ?_
  refine s_move (ev_sl rfl) (by decide) ?_
  refine s_len_sl UIs.out rfl (by decide) ?_
  refine s_move (ev_int rfl) (by decide) ?_
  refine wl_end ?_
  refine wc_block ?_
  -- at a loop
  refine wc_loop1 [5, 10, 11, 12, 13, 14, 15, 16, 17, 18] 10
    (fun j w' => ∃ (i : Nat) (u : Bool) (S : Int), i ≤ n ∧ j = .int .i64 i ∧ S = prodI ((l.take i).map IR.v) ∧ iv u (iM S) = S ∧ blen S.natAbs ≤ 1 + 8 * ((l.map fun a => a.mag.size).take i).sum ∧ Hp w [.blk b3 130 [.string (iM S), .bool u] (0, 0), .blk b2 23 [.bool false, .string (ByteArray.mk #[])] (0, 0)] w')
    (fun j _ => n - (intOf j).toNat) ?_ ?_
  · exact ⟨0, _, 1, Nat.zero_le _, rfl, rfl, iv_of 1, by rw [Int.natAbs_one, blen_one]; omega, hh⟩
  · clear hh
    rintro ρ' j w' ⟨i, u, S, hi, rfl, hS2, hu, hb, hh⟩
    -- 
    by_cases hlt : i < n
    · obtain ⟨x, hx⟩ := get_of_lt (l := l) (k := i) (by omega)
      obtain ⟨ad, rfl, hr⟩ := hS.at_ (by omega)
      have hsi := hsum i
      have hsi2 := hsum (i + 1)
      have hsz : ((l.map fun a => a.mag.size).take (i + 1)).sum = ((l.map fun a => a.mag.size).take i).sum + x.mag.size := by
        rw [take_snoc (x := x.mag.size) (by rw [List.getElem?_map, hx]; rfl), sum_snocN]
      have hS3 : prodI ((l.take (i + 1)).map IR.v) = S * x.v := by rw [take_snoc hx, List.map_append, List.map_singleton, prodI_snoc, hS2]
      have hms : (iM S).size ≤ 1000000000 := by rw [iM_size]; omega
      have hbx := blen_iv x.neg x.mag
      have hba := blen_mul_int S x.v
      have hpl := iv_times u x.neg (iM S) x.mag
      rw [hu] at hpl
      have hwc := fun w1 => wtimes_calls u x.neg (iM S) x.mag w1 hms (by omega)
      rw [hu] at hwc
      -- 
      refine wc_seq ?_
      refine wc_region ?_
      first | refine s_lss_t rfl rfl (by omega) (by decide) ?_ | refine s_lss_f rfl rfl (by omega) (by decide) ?_ | refine s_lss_v rfl rfl (by decide) ?_
      refine wl_end ?_
      refine wc_seq ?_
      refine wc_cond_t rfl ?_
      refine wc_skip ?_
      refine k_then ?_
      refine wc_seq ?_
      refine wc_block ?_
      refine wc_seq ?_
      refine wc_region ?_
      refine s_indexSl (k := i) UIs.out TIs.size rfl rfl (by omega) (by omega) (by decide) ?_
      -- at some 13
      refine s_load (vs := [_, _]) TIs.out rfl (((hr.ext hh.below).recAt IR.len hx)) rfl (by decide) ?_
      refine wl_alloc hh TIs.out (by decide) ?_
      intro b5 w5 hh
      refine wl_store hh (i := 0) (vs := [_, _]) rfl rfl rfl rfl TIs.out rfl (by simp) rfl ?_
      intro ws hh
      replace hh : Hp _ (.blk _ _ [_, _] _ :: _) _ := hh
      refine wl_end ?_
      -- at the drawn region 5
      refine wc_drawn 3 [[(3, none)], [(5, none)], [(15, some 1)]] [(2, 16), (1, 15), (0, 14)] hh mixed (by kernel_rfl) ?_
      refine dx_val (i := 0) (fun ρ1 w1 hj hR => x_load (vs := [_, _]) TIs.out (show ρ1 3 = Value.pointer _ from hR.1) (hj.hp.rd_blk_at (i := 1) (n := 2) rfl rfl) rfl) ?_
      refine dx_val (i := 1) (fun ρ1 w1 hj hR => x_load (vs := [_, _]) TIs.out (show ρ1 5 = Value.pointer _ from hR.1) (hj.hp.rd_blk_at (i := 0) (n := 2) rfl rfl) rfl) ?_
      refine dx_call (i := 2) (fun ρ1 w1 hj hR => run_callf FnIs.out (evs_cons (show ρ1 15 = Value.agg (List.toArray _) from hR.1) evs_nil)) (fun w1 hj => wof_calls x.neg x.mag _) ?_
      refine dx_nil ?_
      intro f W hJ hV
      have hb_5 := hJ.bl
      obtain ⟨v16, v15, v14, _⟩ := hV
      simp only [updL]
      have e14 : f 0 = _ := v14
      rw [e14]
      have e15 : f 1 = _ := v15
      rw [e15]
      have e16 : f 2 = _ := v16
      rw [e16]
      replace hh := hJ.hp
      clear e14 e15 e16 hJ
      -- at some 17 := Op.call { callee := Callee.value (Operand.func 119), args := #[Operand.tmp 14, Operand.tmp
      refine s_callf (hwc _) FnIs.out rfl (by decide) ?_
      rintro e_ w17 ⟨rfl, hb_⟩
      refine ⟨_, rfl, ?_⟩
      replace hh := hh.ext hb_
      refine wl_store hh (i := 1) (vs := [_, _]) rfl rfl rfl rfl TIs.out rfl (by simp) rfl ?_
      intro ws hh
      replace hh : Hp _ (_ :: .blk _ _ [_, _] _ :: _) _ := hh
      refine wl_nil ?_
      refine b_norm ?_
      refine k_then ?_
      refine wc_region ?_
      refine s_addi rfl rfl (by omega) (by omega) (by decide) ?_
      refine s_move (ev_int rfl) (by decide) ?_
      refine wl_nil ?_
      refine k_then ?_
      -- at ('round',)
      replace hh := hh.sub (List.sublist_cons_self _ _)
      refine ⟨⟨i + 1, _, _, by omega, rfl, hS3.symm, hpl, by unfold IR.v at hba ⊢; omega, hh⟩, by show n - (i + 1) < n - i; omega, ?_⟩
      (repeat (first | exact agree_mask _ _ _ | refine agree_upd rfl ?_ | refine agree_mask2 rfl ?_))
    · refine wc_seq ?_
      refine wc_region ?_
      first | refine s_lss_t rfl rfl (by omega) (by decide) ?_ | refine s_lss_f rfl rfl (by omega) (by decide) ?_ | refine s_lss_v rfl rfl (by decide) ?_
      refine wl_end ?_
      refine wc_seq ?_
      refine wc_cond_f rfl ?_
      refine wc_exit ?_
      refine k_exit ?_
      refine k_exit ?_
      refine b_here ?_
      refine k_then ?_
      refine wc_seq ?_
      refine wc_region ?_
      refine s_load (vs := [_, _]) TIs.out rfl (hh.rd_blk_at (i := 0) (n := 2) rfl rfl) rfl (by decide) ?_
      -- at some 20 := Op.call { callee := Callee.value (Operand.func 118), args := #[Operand.tmp 19], argTypes :
      refine s_callf (wmade_calls u (iM S) _) FnIs.out rfl (by decide) ?_
      rintro e_ w20 ⟨rfl, hb_⟩
      refine ⟨_, rfl, ?_⟩
      replace hh := hh.ext hb_
      rw [hu]
      refine wl_store hh (i := 1) (vs := [_, _]) rfl rfl rfl rfl TIs.out rfl (by simp) rfl ?_
      intro ws hh
      replace hh : Hp _ (_ :: .blk _ _ [_, _] _ :: _) _ := hh
      refine wl_end ?_
      refine wc_ret ?_
      -- at ('end', 'ret')
      refine retc1 (by first | exact .inr rfl | exact .inl rfl) rfl (r_cell rfl (lv_agg (vs := [_, _]) TIs.out (hh.rd_blk_at (i := 1) (n := 2) rfl rfl) rfl) r_nil) ?_
      rw [List.take_of_length_le (by omega)] at hS2
      rw [hS2]
      exact ⟨rfl, hh.below⟩
theorem div_neg_pow (M k : Nat) (h : 2 ^ k ∣ M) : -((M / 2 ^ k : Nat) : Int) = -(M : Int) / 2 ^ k := by
  obtain ⟨q, rfl⟩ := h
  have hp : (0 : Int) < 2 ^ k := Int.pow_pos (by omega)
  rw [Nat.mul_div_cancel_left _ (Nat.pow_pos (by omega)), Int.natCast_mul, ← Int.mul_neg, Int.natCast_pow]
  exact (Int.mul_ediv_cancel_left _ (by exact Int.ne_of_gt hp)).symm
theorem div_neg_pow' (M k : Nat) (h : ¬ 2 ^ k ∣ M) : -((M / 2 ^ k : Nat) : Int) - 1 = -(M : Int) / 2 ^ k := by
  have hp : (0 : Int) < 2 ^ k := Int.pow_pos (by omega)
  have h1 := Nat.div_add_mod M (2 ^ k)
  have h2 := Nat.mod_lt M (Nat.pow_pos (n := k) (show 0 < 2 by omega))
  have h3 : M % 2 ^ k ≠ 0 := fun h0 => h (Nat.dvd_of_mod_eq_zero h0)
  have hc : ((2 ^ k : Nat) : Int) = 2 ^ k := by simp
  symm
  rw [Int.ediv_eq_iff_of_pos hp, ← hc]
  have h4 : (M : Int) = (2 ^ k : Nat) * (M / 2 ^ k : Nat) + (M % 2 ^ k : Nat) := by rw [← Int.natCast_mul, ← Int.natCast_add, h1]
  generalize hK : ((2 ^ k : Nat) : Int) = K at *
  generalize ((M / 2 ^ k : Nat) : Int) = q at *
  have e : (-q - 1) * K = -(K * q) - K := by rw [Int.sub_mul, Int.neg_mul, Int.mul_comm q]; omega
  have e2 : (-q - 1 + 1) * K = -(K * q) := by rw [Int.sub_add_cancel, Int.neg_mul, Int.mul_comm]
  omega
theorem dvd_tz {M k : Nat} (h0 : M ≠ 0) : 2 ^ k ∣ M ↔ k ≤ tz M := by
  obtain ⟨m, hm⟩ := tz_spec h0
  generalize tz M = t at *
  constructor
  · intro h
    rcases Nat.lt_or_ge t k with hlt | hge
    · exfalso
      obtain ⟨q, hq⟩ := h
      rw [hm, show k = t + (1 + (k - t - 1)) by omega, Nat.pow_add, Nat.pow_add, Nat.mul_assoc] at hq
      have := Nat.eq_of_mul_eq_mul_left (Nat.pow_pos (by omega)) hq
      rw [Nat.pow_one, Nat.mul_assoc] at this
      omega
    · exact hge
  · intro h
    rw [hm]
    exact Nat.dvd_trans (Nat.pow_dvd_pow 2 h) (Nat.dvd_mul_right _ _)
end Go.Proofs.YthmmofllajkejaaGreatDoor
