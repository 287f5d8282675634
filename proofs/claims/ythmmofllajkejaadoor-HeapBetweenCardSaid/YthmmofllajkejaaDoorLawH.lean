/- The walks through ogeelaw19's own helpers. -/
import Derived.Test.YthmmofllajkejaaDoorHeapIC
import Derived.Test.YthmmofllajkejaaDoorHeapSC
import Derived.Test.YthmmofllajkejaaDoorHeapQ
import Derived.Test.YthmmofllajkejaaDoorLawD
namespace Go.Proofs.YthmmofllajkejaaDoor
open Go.RowKit
-- umode
theorem hnum_calls (m : Int) (w : World) (h1 : -9223372036854775808 ≤ m) (h2 : m ≤ 9223372036854775807) :
    Calls Tryd.prog 18 #[.int .i64 m] w fun r w' => r = .returned (.agg #[.bool (nR (D m 0)).neg, .string (nR (D m 0)).mag, .int .i64 (nR (D m 0)).e]) ∧ Below w.heap.size w w' := by
  have hh := Hp.start w
  have hsz : (iM m).size ≤ 10000000 := by
    rw [iM_size]
    have : blen m.natAbs ≤ 64 := blen_le (by omega)
    omega
  have hc := fun w1 => yMake_at (z := m) (e := 0) (x := D m 0) w1 rfl hsz (by omega) (by omega)
  refine calls_vc (N := 6) (l := [.int .i64 m]) Tryd.func18 rfl rfl (by simp) ?_
  refine sr ?_
  refine alC hh ?_
  intro b2 w2 hh
  refine wl_end (sr (mI ?_))
  refine s_callf (xOf_calls m _ h1 h2) FnIs.out rfl (by decide) ?_
  rintro e_ w4 ⟨rfl, hb_⟩
  refine ⟨_, rfl, ?_⟩
  replace hh := hh.ext hb_
  refine s_callf (hc _) FnIs.out rfl (by decide) ?_
  rintro e_ w5 ⟨rfl, hb_⟩
  refine ⟨_, rfl, ?_⟩
  replace hh := hh.ext hb_
  refine stC hh 0 [_,_,_] ?_
  intro ws hh
  replace hh : Hp _ (.blk _ _ [_, _, _] _ :: _) _ := hh
  refine wl_end (wc_ret ?_)
  refine retc1 (by first | exact .inr rfl | exact .inl rfl) rfl (r_cell rfl (lv_agg (vs := [_, _, _]) TIs.out (hh.rd_blk_at (i := 0) (n := 3) rfl rfl) rfl) r_nil) ?_
  exact ⟨rfl, hh.below⟩
def farH (a : NR) : Bool := decide ((40 : Int) < a.mag.size ∨ a.e < -300 ∨ 300 < a.e)
theorem hfar_calls (a : NR) (w : World) :
    Calls Tryd.prog 6 #[.agg #[.bool a.neg, .string a.mag, .int .i64 a.e]] w fun r w' => r = .returned (.bool (farH a)) ∧ Below w.heap.size w w' := by
  have hh := Hp.start w
  by_cases h1 : (40 : Int) < a.mag.size
  · refine calls_vc (N := 18) (l := [.agg #[.bool a.neg, .string a.mag, .int .i64 a.e]]) Tryd.func6 rfl rfl (by simp) ?_
    refine sr ?_
    refine bxC hh [_,_,_] ?_
    intro b1 w1 hh
    refine aB (wl_end (sr (faC (faC ?_))))
    refine l1C hh 0 ?_
    refine s_len_str UIs.out rfl (by decide) ?_
    refine gtrC (mB ?_)
    first | refine gS ?_ | (refine gT ?_; refine faC ?_) | refine gV ?_
    first | refine gS ?_ | (refine gT ?_; refine l1C hh 0 ?_) | refine gV ?_
    first | refine gS ?_ | (refine gT ?_; refine lssC ?_) | refine gV ?_
    first | refine pkT ?_ | refine pkF ?_
    refine mB ?_
    first | refine gS ?_ | (refine gT ?_; refine faC ?_) | refine gV ?_
    first | refine gS ?_ | (refine gT ?_; refine l1C hh 0 ?_) | refine gV ?_
    first | refine gS ?_ | (refine gT ?_; refine gtrC ?_) | refine gV ?_
    first | refine pkT ?_ | refine pkF ?_
    refine aB (wl_end (wc_ret ?_))
    refine ret1 (by first | exact .inr rfl | exact .inl rfl) rfl (v_bool rfl) ?_
    refine ⟨?_, hh.below⟩
    unfold farH
    rw [decide_eq_true (.inl h1)]
  · by_cases h2 : a.e < -300
    · refine calls_vc (N := 18) (l := [.agg #[.bool a.neg, .string a.mag, .int .i64 a.e]]) Tryd.func6 rfl rfl (by simp) ?_
      refine sr ?_
      refine bxC hh [_,_,_] ?_
      intro b1 w1 hh
      refine aB (wl_end (sr (faC (faC ?_))))
      refine l1C hh 0 ?_
      refine s_len_str UIs.out rfl (by decide) ?_
      refine gtrC (mB ?_)
      first | refine gS ?_ | (refine gT ?_; refine faC ?_) | refine gV ?_
      first | refine gS ?_ | (refine gT ?_; refine l1C hh 0 ?_) | refine gV ?_
      first | refine gS ?_ | (refine gT ?_; refine lssC ?_) | refine gV ?_
      first | refine pkT ?_ | refine pkF ?_
      refine mB ?_
      first | refine gS ?_ | (refine gT ?_; refine faC ?_) | refine gV ?_
      first | refine gS ?_ | (refine gT ?_; refine l1C hh 0 ?_) | refine gV ?_
      first | refine gS ?_ | (refine gT ?_; refine gtrC ?_) | refine gV ?_
      first | refine pkT ?_ | refine pkF ?_
      refine aB (wl_end (wc_ret ?_))
      refine ret1 (by first | exact .inr rfl | exact .inl rfl) rfl (v_bool rfl) ?_
      refine ⟨?_, hh.below⟩
      unfold farH
      rw [decide_eq_true (.inr (.inl h2))]
    · by_cases h3 : 300 < a.e
      · refine calls_vc (N := 18) (l := [.agg #[.bool a.neg, .string a.mag, .int .i64 a.e]]) Tryd.func6 rfl rfl (by simp) ?_
        refine sr ?_
        refine bxC hh [_,_,_] ?_
        intro b1 w1 hh
        refine aB (wl_end (sr (faC (faC ?_))))
        refine l1C hh 0 ?_
        refine s_len_str UIs.out rfl (by decide) ?_
        refine gtrC (mB ?_)
        first | refine gS ?_ | (refine gT ?_; refine faC ?_) | refine gV ?_
        first | refine gS ?_ | (refine gT ?_; refine l1C hh 0 ?_) | refine gV ?_
        first | refine gS ?_ | (refine gT ?_; refine lssC ?_) | refine gV ?_
        first | refine pkT ?_ | refine pkF ?_
        refine mB ?_
        first | refine gS ?_ | (refine gT ?_; refine faC ?_) | refine gV ?_
        first | refine gS ?_ | (refine gT ?_; refine l1C hh 0 ?_) | refine gV ?_
        first | refine gS ?_ | (refine gT ?_; refine gtrC ?_) | refine gV ?_
        first | refine pkT ?_ | refine pkF ?_
        refine aB (wl_end (wc_ret ?_))
        refine ret1 (by first | exact .inr rfl | exact .inl rfl) rfl (v_bool rfl) ?_
        refine ⟨?_, hh.below⟩
        unfold farH
        rw [decide_eq_true (.inr (.inr h3))]
      · refine calls_vc (N := 18) (l := [.agg #[.bool a.neg, .string a.mag, .int .i64 a.e]]) Tryd.func6 rfl rfl (by simp) ?_
        refine sr ?_
        refine bxC hh [_,_,_] ?_
        intro b1 w1 hh
        refine aB (wl_end (sr (faC (faC ?_))))
        refine l1C hh 0 ?_
        refine s_len_str UIs.out rfl (by decide) ?_
        refine gtrC (mB ?_)
        first | refine gS ?_ | (refine gT ?_; refine faC ?_) | refine gV ?_
        first | refine gS ?_ | (refine gT ?_; refine l1C hh 0 ?_) | refine gV ?_
        first | refine gS ?_ | (refine gT ?_; refine lssC ?_) | refine gV ?_
        first | refine pkT ?_ | refine pkF ?_
        refine mB ?_
        first | refine gS ?_ | (refine gT ?_; refine faC ?_) | refine gV ?_
        first | refine gS ?_ | (refine gT ?_; refine l1C hh 0 ?_) | refine gV ?_
        first | refine gS ?_ | (refine gT ?_; refine gtrC ?_) | refine gV ?_
        first | refine pkT ?_ | refine pkF ?_
        refine aB (wl_end (wc_ret ?_))
        refine ret1 (by first | exact .inr rfl | exact .inl rfl) rfl (v_bool rfl) ?_
        refine ⟨?_, hh.below⟩
        unfold farH
        rw [decide_eq_false (by omega)]
/-- A number that is within. -/
structure Fine (a : NR) : Prop where
  ok : a.ok
  sz : Sz 620 a.d
theorem Fine.nr {a : NR} (h : Fine a) : Fine (nR a.d) := ⟨h.sz.ok (by omega), by rw [nR_d]; exact h.sz⟩
theorem fine_of {a : NR} (h : farH a = false) : Fine a := by
  have h' := of_decide_eq_false h
  have h1 : (a.mag.size : Int) ≤ 40 := by omega
  have h2 : -300 ≤ a.e := by omega
  have h3 : a.e ≤ 300 := by omega
  exact ⟨⟨by omega, by omega, by omega⟩, Sz.raw (m := 320) (E := 300) (by omega) h2 h3⟩
def aw (m t : Int) (c : UInt8) : Ent ByteArray := ⟨nR (D m 0), t, ByteArray.mk #[c]⟩
def awB : Nat → List (Ent ByteArray)
  | 0 => [aw 2 0 97, aw 1 1 98, aw 2 2 99, aw 1 3 100]
  | 1 => [aw 2 0 97, aw 2 2 99, aw 1 3 100]
  | 2 => [aw 2 0 97, aw 2 2 99]
  | 3 => [aw 2 2 99]
  | _ => []
def awS : Nat → ByteArray
  | 0 => ByteArray.mk #[]
  | 1 => ByteArray.mk #[98]
  | 2 => ByteArray.mk #[98, 100]
  | 3 => ByteArray.mk #[98, 100, 97]
  | _ => ByteArray.mk #[98, 100, 97, 99]
theorem aw_min {l : List (Ent ByteArray)} {e : Ent ByteArray} (h : (l.all fun a => !ah a e) = true) (k : Nat) (a : Ent ByteArray) (ha : l[k]? = some a) : ah a e = false := by
  have := List.all_eq_true.1 h a (List.mem_of_getElem? ha)
  simpa using this
theorem aw_step (i : Nat) (hi : i < 4) : ∃ (m : Nat) (e : Ent ByteArray), (awB i)[m]? = some e ∧ ((awB i).all fun a => !ah a e) = true ∧ (awB i).eraseIdx m = awB (i + 1) ∧ awS i ++ e.x = awS (i + 1) ∧ (awB i).length + i = 4 ∧ (awS i).size ≤ 4 ∧ e.x.size = 1 := by
  rcases (by omega : i = 0 ∨ i = 1 ∨ i = 2 ∨ i = 3) with rfl | rfl | rfl | rfl
  · exact ⟨1, aw 1 1 98, rfl, by decide +kernel, rfl, by decide +kernel, rfl, by decide, rfl⟩
  · exact ⟨2, aw 1 3 100, rfl, by decide +kernel, rfl, by decide +kernel, rfl, by decide, rfl⟩
  · exact ⟨0, aw 2 0 97, rfl, by decide +kernel, rfl, by decide +kernel, rfl, by decide, rfl⟩
  · exact ⟨0, aw 2 2 99, rfl, by decide +kernel, rfl, by decide +kernel, rfl, by decide, rfl⟩
theorem aw_ok {m : Int} (hm : m.natAbs < 256) : (nR (D m 0)).ok := (D_sz hm (by omega) (by omega)).ok (by omega)
theorem awB_ok : ∀ i, ∀ e ∈ awB i, e.k.ok := fun i e he => by
  have o1 : (nR (D 1 0)).ok := aw_ok (by decide)
  have o2 : (nR (D 2 0)).ok := aw_ok (by decide)
  unfold awB at he
  split at he <;> simp only [List.mem_cons, List.not_mem_nil, or_false] at he
  · rcases he with rfl | rfl | rfl | rfl <;> assumption
  · rcases he with rfl | rfl | rfl <;> assumption
  · rcases he with rfl | rfl <;> assumption
  · rcases he with rfl; assumption
theorem QI.ok {α : Type} {L B : List (Ent α)} {next : Int} (h : QI L B next) (hb : ∀ e ∈ B, e.k.ok) : ∀ e ∈ L, e.k.ok := fun e he => hb e (h.perm.mem_iff.1 he)
theorem hawake_calls (w : World) (hT : Tab w) :
    Calls Tryd.prog 7 #[] w fun r w' => r = .returned (.bool true) ∧ Below w.heap.size w w' := by
  have hh := Hp.start w
  have o1 : (nR (D 1 0)).ok := aw_ok (by decide)
  have o2 : (nR (D 2 0)).ok := aw_ok (by decide)
  have o3 : (nR (D 3 0)).ok := aw_ok (by decide)
  have p1 : (nR (nR (D 1 0)).d).ok := by rw [nR_d]; exact o1
  have p2 : (nR (nR (D 2 0)).d).ok := by rw [nR_d]; exact o2
  have p3 : (nR (nR (D 3 0)).d).ok := by rw [nR_d]; exact o3
  refine calls_vc (N := 83) (l := []) Tryd.func7 rfl rfl (by simp) ?_
  refine sr (aB (wl_end (sr ?_)))
  refine s_callf (ESnew_calls hh) FnIs.out rfl (by decide) ?_
  rintro e_ w11 ⟨b, rfl, hh⟩
  refine ⟨_, rfl, ?_⟩
  refine aP (wl_end (wc_seq (sr (mP ?_))))
  first | refine s_eqp_f UIs.out rfl rfl (by decide) ?_ | refine s_eqp_t UIs.out rfl rfl (by decide) ?_
  refine wl_end (cF (wc_skip (k_then (sr (mP ?_)))))
  refine s_callf (hnum_calls 2 _ (by omega) (by omega)) FnIs.out rfl (by decide) ?_
  rintro e_ w15 ⟨rfl, hb_⟩
  refine ⟨_, rfl, ?_⟩
  replace hh := hh.ext hb_
  refine s_callf (ESput_calls hh hT (nR (D 2 0)) _ o2 p2 (fun _ h => by cases h) (by omega) (by omega) (by omega) (Heap.nil _)) FnIs.out rfl (by decide) ?_
  rintro e_ w16 ⟨rfl, A1, c1, L1, hp1, hh1, hh⟩
  refine ⟨_, rfl, ?_⟩
  have q1 := QI.put (next := 0) QI.nil (by omega) rfl hp1 hh1
  have k1 := q1.ok (by intro e he; simp only [List.nil_append, List.mem_singleton] at he; subst he; exact p2)
  refine wl_end (sr (mP ?_))
  refine s_callf (hnum_calls 1 _ (by omega) (by omega)) FnIs.out rfl (by decide) ?_
  rintro e_ w18 ⟨rfl, hb_⟩
  refine ⟨_, rfl, ?_⟩
  replace hh := hh.ext hb_
  refine s_callf (ESput_calls hh hT (nR (D 1 0)) _ o1 p1 k1 (by omega) (by omega) (by omega) q1.heap) FnIs.out rfl (by decide) ?_
  rintro e_ w19 ⟨rfl, A2, c2, L2, hp2, hh2, hh⟩
  refine ⟨_, rfl, ?_⟩
  have q2 := q1.put (by omega) rfl hp2 hh2
  have k2 := q2.ok (by intro e he; simp only [List.nil_append, List.cons_append, List.mem_cons, List.not_mem_nil, or_false] at he; rcases he with rfl | rfl <;> assumption)
  refine wl_end (sr (mP ?_))
  refine s_callf (hnum_calls 2 _ (by omega) (by omega)) FnIs.out rfl (by decide) ?_
  rintro e_ w21 ⟨rfl, hb_⟩
  refine ⟨_, rfl, ?_⟩
  replace hh := hh.ext hb_
  refine s_callf (ESput_calls hh hT (nR (D 2 0)) _ o2 p2 k2 (by omega) (by omega) (by omega) q2.heap) FnIs.out rfl (by decide) ?_
  rintro e_ w22 ⟨rfl, A3, c3, L3, hp3, hh3, hh⟩
  refine ⟨_, rfl, ?_⟩
  have q3 := q2.put (by omega) rfl hp3 hh3
  have k3 := q3.ok (by intro e he; simp only [List.nil_append, List.cons_append, List.mem_cons, List.not_mem_nil, or_false] at he; rcases he with rfl | rfl | rfl <;> assumption)
  refine wl_end (sr (mP ?_))
  refine s_callf (hnum_calls 1 _ (by omega) (by omega)) FnIs.out rfl (by decide) ?_
  rintro e_ w24 ⟨rfl, hb_⟩
  refine ⟨_, rfl, ?_⟩
  replace hh := hh.ext hb_
  refine s_callf (ESput_calls hh hT (nR (D 1 0)) _ o1 p1 k3 (by omega) (by omega) (by omega) q3.heap) FnIs.out rfl (by decide) ?_
  rintro e_ w25 ⟨rfl, A4, c4, L4, hp4, hh4, hh⟩
  refine ⟨_, rfl, ?_⟩
  have q4 := q3.put (by omega) rfl hp4 hh4
  rw [nR_d, nR_d] at q4
  have q4' : QI L4 (awB 0) (0 + 1 + 1 + 1 + 1) := q4
  clear q1 q2 q3 q4 k1 k2 k3 hp1 hp2 hp3 hp4 hh1 hh2 hh3 hh4
  refine wl_end (sr (aS (wl_end (wc_seq (sr (aI (wl_end (wc_block ?_))))))))
  refine wc_loop2 [0, 2, 3, 4, 5, 6, 26, 27, 28, 29, 30, 31, 32, 33, 34, 35, 36, 37, 38, 39, 40] 2 3
    (fun v2 v3 w' => ∃ (i n c : Nat) (A : Option Addr) (nx : Int) (L : List (Ent ByteArray)), i ≤ 4 ∧ n + i = 4 ∧ v3 = .int .i64 i ∧ v2 = .string (awS i) ∧ 0 ≤ nx ∧ nx ≤ 100 ∧ QI L (awB i) nx ∧ Hp w [.blk b 63 [.slice A n c, .int .i64 nx] (0, 0), .row A n c 65 5 (recs ES.cells L)] w')
    (fun _ j _ => 4 - (intOf j).toNat) ?_ ?_
  · exact ⟨0, _, _, _, _, L4, by omega, by omega, rfl, rfl, by omega, by omega, q4', hh⟩
  · clear hh
    rintro ρ' v2 v3 w' ⟨i, n, c, A, nx, L, hi, hni, rfl, rfl, hx1, hx2, hq, hh⟩
    have hln := (hh.sl_row (i := 1) rfl).recLen ES.len (by decide)
    by_cases hlt : i < 4
    · obtain ⟨n, rfl⟩ : ∃ r, n = r + 1 := ⟨n - 1, by omega⟩
      obtain ⟨m, e, hm, hmin, hcut, hcat, hlen, hs1, hs2⟩ := aw_step i hlt
      obtain ⟨e0, he0⟩ := get_of_lt (l := L) (k := 0) (by omega)
      have hs1' : (awS i).data.toList.length ≤ 4 := hs1
      have hs2' : e.x.data.toList.length = 1 := hs2
      obtain rfl := hq.first he0 hm (aw_min hmin)
      refine wc_seq (sr (mI ?_))
      refine lssC (wl_end (cT (wc_skip (k_then (wc_seq (wc_block (sr (mP ?_))))))))
      refine s_callf (EStake_calls hh hT (hq.ok (awB_ok i)) (by omega) hq.heap he0) FnIs.out rfl (by decide) ?_
      rintro e_ w32 ⟨rfl, L', hp, hhp, hh⟩
      refine ⟨_, rfl, ?_⟩
      have hq' := hq.take hm hp hhp
      rw [hcut] at hq'
      refine mT ?_
      refine exC ?_
      refine exC ?_
      refine exC ?_
      refine alC hh ?_
      intro b4 w4 hh
      refine stC hh 0 [_,_,_] ?_
      intro ws hh
      replace hh : Hp _ (.blk _ _ [_, _, _] _ :: _) _ := hh
      refine aS (aB (wl_end (wc_seq (sr (mB ?_)))))
      refine notC ?_
      refine wl_end (cF (wc_skip (k_then (wc_region (mS (mS ?_))))))
      refine s_cat rfl rfl (by simp only [ba_size]; omega) (by decide) ?_
      refine aS (wl_nil (b_norm (k_then (wc_region (mI ?_)))))
      refine addC (aI (wl_nil (k_then ?_)))
      rw [hcat]
      replace hh := hh.sub (List.Sublist.cons _ (List.Sublist.cons_cons _ (List.Sublist.cons_cons _ List.Sublist.slnil)))
      refine ⟨⟨i + 1, n, c, A, nx, L', by omega, by omega, rfl, rfl, hx1, hx2, hq', hh⟩, by show 4 - (i + 1) < 4 - i; omega, ?_⟩
      (repeat (first | exact agree_mask _ _ _ | refine agree_upd rfl ?_ | refine agree_mask2 rfl ?_))
    · obtain rfl : i = 4 := by omega
      obtain rfl : n = 0 := by omega
      have hL : L = [] := List.eq_nil_of_length_eq_zero hln
      subst hL
      refine wc_seq (sr (mI ?_))
      refine lssC (wl_end (cF ?_))
      refine wc_exit ?_
      refine k_exit (k_exit (b_here (k_then (sr (mP ?_)))))
      refine s_callf (EStake_nil _ (hh.cell_blk (i := 0) rfl rfl) rfl) FnIs.out rfl (by decide) ?_
      rintro e_ w43 ⟨rfl, hb_⟩
      refine ⟨_, rfl, ?_⟩
      replace hh := hh.ext hb_
      refine mT ?_
      refine exC ?_
      refine exC ?_
      refine exC ?_
      refine alC hh ?_
      intro b7 w7 hh
      refine stC hh 0 [_,_,_] ?_
      intro ws hh
      replace hh : Hp _ (.blk _ _ [_, _, _] _ :: _) _ := hh
      refine aS (aB (wl_end (sr (mP ?_))))
      refine s_callf (hnum_calls 2 _ (by omega) (by omega)) FnIs.out rfl (by decide) ?_
      rintro e_ w48 ⟨rfl, hb_⟩
      refine ⟨_, rfl, ?_⟩
      replace hh := hh.ext hb_
      replace hh := hh.perm (List.perm_middle (l₁ := [_, _]))
      simp only [List.cons_append, List.nil_append] at hh
      replace hh := hh.perm (List.perm_middle (l₁ := [_, _]))
      simp only [List.cons_append, List.nil_append] at hh
      refine s_callf (ESput_calls hh hT (nR (D 2 0)) _ o2 p2 (fun _ h => by cases h) (by omega) (by omega) (by omega) (Heap.nil _)) FnIs.out rfl (by decide) ?_
      rintro e_ w49 ⟨rfl, A1, c1, L1, hp1, hh1, hh⟩
      refine ⟨_, rfl, ?_⟩
      have q1 := QI.put (next := nx) ⟨List.Perm.refl _, Heap.nil _, List.Pairwise.nil, fun _ h => by cases h⟩ (by omega) rfl hp1 hh1
      have k1 := q1.ok (by intro e he; simp only [List.nil_append, List.mem_singleton] at he; subst he; exact p2)
      refine wl_end (sr (mP ?_))
      refine s_callf (hnum_calls 1 _ (by omega) (by omega)) FnIs.out rfl (by decide) ?_
      rintro e_ w51 ⟨rfl, hb_⟩
      refine ⟨_, rfl, ?_⟩
      replace hh := hh.ext hb_
      refine s_callf (ESput_calls hh hT (nR (D 1 0)) _ o1 p1 k1 (by omega) (by omega) (by omega) q1.heap) FnIs.out rfl (by decide) ?_
      rintro e_ w52 ⟨rfl, A2, c2, L2, hp2, hh2, hh⟩
      refine ⟨_, rfl, ?_⟩
      have q2 := q1.put (by omega) rfl hp2 hh2
      have k2 := q2.ok (by intro e he; simp only [List.nil_append, List.cons_append, List.mem_cons, List.not_mem_nil, or_false] at he; rcases he with rfl | rfl <;> assumption)
      refine wl_end (sr (mP ?_))
      refine s_callf (hnum_calls 3 _ (by omega) (by omega)) FnIs.out rfl (by decide) ?_
      rintro e_ w54 ⟨rfl, hb_⟩
      refine ⟨_, rfl, ?_⟩
      replace hh := hh.ext hb_
      refine s_callf (ESput_calls hh hT (nR (D 3 0)) _ o3 p3 k2 (by omega) (by omega) (by omega) q2.heap) FnIs.out rfl (by decide) ?_
      rintro e_ w55 ⟨rfl, A3, c3, L3, hp3, hh3, hh⟩
      refine ⟨_, rfl, ?_⟩
      have q3 := q2.put (by omega) rfl hp3 hh3
      have k3 := q3.ok (by intro e he; simp only [List.nil_append, List.cons_append, List.mem_cons, List.not_mem_nil, or_false] at he; rcases he with rfl | rfl | rfl <;> assumption)
      refine wl_end (sr (mP ?_))
      refine s_callf (hnum_calls 1 _ (by omega) (by omega)) FnIs.out rfl (by decide) ?_
      rintro e_ w57 ⟨rfl, hb_⟩
      refine ⟨_, rfl, ?_⟩
      replace hh := hh.ext hb_
      refine s_callf (ESdrop_calls hh hT (nR (D 1 0)) o1 k3 (by omega)) FnIs.out rfl (by decide) ?_
      rintro e_ w58 ⟨rfl, A4, c4, L4, hp4, hh4, hh⟩
      refine ⟨_, rfl, ?_⟩
      have hl1 : (L3.filter (ESkeep (nR (D 1 0)))).length = 1 := by
        rw [q3.droplen]
        have f1 : ∀ (t : Int) (s : ByteArray), ESkeep (nR (D 1 0)) ⟨nR (nR (D 1 0)).d, t, s⟩ = true := fun t s => by unfold ESkeep; simp only [nR_d]; decide +kernel
        have f2 : ∀ (t : Int) (s : ByteArray), ESkeep (nR (D 1 0)) ⟨nR (nR (D 2 0)).d, t, s⟩ = false := fun t s => by unfold ESkeep; simp only [nR_d]; decide +kernel
        have f3 : ∀ (t : Int) (s : ByteArray), ESkeep (nR (D 1 0)) ⟨nR (nR (D 3 0)).d, t, s⟩ = false := fun t s => by unfold ESkeep; simp only [nR_d]; decide +kernel
        simp [f1, f2, f3]
      rw [hl1] at hh ⊢
      refine aI (wl_end (sr (mS ?_)))
      first | refine s_eql_str_t rfl rfl (by first | rfl | assumption | decide) (by decide) ?_ | refine s_eql_str_f rfl rfl (by first | assumption | decide) (by decide) ?_
      refine mB ?_
      first | refine gS ?_ | (refine gT ?_; refine mB ?_) | refine gV ?_
      first | refine gS ?_ | (refine gT ?_; refine notC ?_) | refine gV ?_
      first | refine pkT ?_ | refine pkF ?_
      refine mB ?_
      first | refine gS ?_ | (refine gT ?_; refine mS ?_) | refine gV ?_
      first | refine gS ?_ | (refine gT ?_; (first | refine s_eql_str_t rfl rfl (by first | rfl | assumption | decide) (by decide) ?_ | refine s_eql_str_f rfl rfl (by first | assumption | decide) (by decide) ?_)) | refine gV ?_
      first | refine pkT ?_ | refine pkF ?_
      refine mB ?_
      first | refine gS ?_ | (refine gT ?_; refine lgC hh 2 [_,_,_] ?_) | refine gV ?_
      first | refine gS ?_ | (refine gT ?_; refine bdC [_,_,_] ?_) | refine gV ?_
      first | refine gS ?_ | (refine gT ?_; (first | refine s_eqN_t rfl rfl (by first | assumption | rfl) (by decide) ?_ | refine s_eqN_f rfl rfl (by assumption) (by decide) ?_)) | refine gV ?_
      first | refine pkT ?_ | refine pkF ?_
      refine mB ?_
      first | refine gS ?_ | (refine gT ?_; refine mI ?_) | refine gV ?_
      first | refine gS ?_ | (refine gT ?_; refine eqlC ?_) | refine gV ?_
      first | refine pkT ?_ | refine pkF ?_
      refine mB ?_
      first | refine gS ?_ | (refine gT ?_; refine mP ?_) | refine gV ?_
      refine wl_guard_take rfl rfl ?_
      refine s_callf (ESlen_calls _ (hh.cell_blk (i := 0) rfl rfl)) FnIs.out rfl (by decide) ?_
      rintro e_ w80 ⟨rfl, hb_⟩
      refine ⟨_, rfl, ?_⟩
      replace hh := hh.ext hb_
      first | refine gS ?_ | (refine gT ?_; refine eqlC ?_) | refine gV ?_
      first | refine pkT ?_ | refine pkF ?_
      refine aB (wl_end (wc_ret ?_))
      refine ret1 (by first | exact .inr rfl | exact .inl rfl) rfl (v_bool rfl) ?_
      exact ⟨rfl, hh.below⟩
end Go.Proofs.YthmmofllajkejaaDoor
