/- The walks through package box, fifth part: the corners. -/
import Derived.Test.YthmmofllajkejaaGreatDoorBoxD
namespace Go.Proofs.YthmmofllajkejaaGreatDoor
open Go.RowKit
-- umode
-- skipu
section
variable {P : Program} {N : Nat} {ops : Array Oper} {Q : Kq} {ρ : Rf} {w : World} {rest : List Oper} {d ty : Nat} {pos : String} {af : Array Edge}
theorem and1 (a : Int) : IntKind.i64.wrap (BitVec.ofInt IntKind.i64.bits a &&& BitVec.ofInt IntKind.i64.bits 1).toNat = a % 2 := by
  have h1 : (BitVec.ofInt IntKind.i64.bits a &&& BitVec.ofInt IntKind.i64.bits 1).toNat = (a % 2).toNat := by
    show (BitVec.ofInt 64 a &&& BitVec.ofInt 64 1).toNat = _
    rw [BitVec.toNat_and, show (BitVec.ofInt 64 1).toNat = 2 ^ 1 - 1 by decide, Nat.and_two_pow_sub_one_eq_mod, BitVec.toNat_ofInt]
    omega
  rw [h1, wrap_i64 (by omega) (by omega)]
  omega
theorem s_and1 {t u : Nat} {x y : Operand} {a : Int} (hx : ev ρ x = .int .i64 a) (hy : ev ρ y = .int .i64 1) (hN : d < N) (kk : WL P N ops Q rest (upd ρ d (.int .i64 (a % 2))) w) : WL P N ops Q (⟨some d, .binOp .and t x y u, ty, pos, af, none⟩ :: rest) ρ w :=
  wl_val rfl rfl hN (by rw [x_and hx hy, and1]) kk
end
/-- Whether the corner k takes the upper end on axis i. -/
def cornU (k : Int) (i : Nat) : Bool := decide (0 < k) && (decide (i < 62) && decide (k.fdiv (2 ^ i) % 2 = 1))
theorem bCorner1_calls (i : Nat) (s : SR) (p : Addr) (k : Int) (w : World) (hi : i ≤ 1000000) (hp : w.cell? p = some (.int .i64 k)) :
    Calls Tryz.prog 102 #[.int .i64 i, .agg s.cells.toArray, .pointer (some p)] w fun r w' => r = .returned (.agg #[.bool (cond (cornU k i) s.hi s.lo).neg, .string (cond (cornU k i) s.hi s.lo).mag, .int .i64 (cond (cornU k i) s.hi s.lo).e]) ∧ Below w.heap.size w w' := by
  have hh := Hp.start w
  have hmn : min (i : Int).toNat IntKind.i64.bits = min i 64 := rfl
  unfold cornU
  by_cases h0 : 0 < k
  · rw [decide_eq_true h0, Bool.true_and]
    by_cases h1 : i < 62
    · rw [decide_eq_true h1, Bool.true_and]
      have hm2 : min (i : Int).toNat IntKind.i64.bits = i := by rw [hmn]; omega
      by_cases g : k.fdiv (2 ^ i) % 2 = 1
      · rw [decide_eq_true g]
        refine calls_vc (N := 23) (l := [.int .i64 i, .agg s.cells.toArray, .pointer (some p)]) Tryz.func102 rfl rfl (by simp) ?_
        refine sr ?_
        refine bxC hh [_,_,_,_,_,_] ?_
        intro b4 w4 hh
        refine alC hh ?_
        intro b5 w5 hh
        refine wl_end (wc_seq (sr ?_))
        refine s_load1 TIs.out rfl ((hh.below.cell (cell_lt hp)).trans hp) (by decide) ?_
        refine gtrC (mB ?_)
        first | refine gS ?_ | (refine gT ?_; refine mI ?_) | refine gV ?_
        first | refine gS ?_ | (refine gT ?_; refine lssC ?_) | refine gV ?_
        first | refine pkT ?_ | refine pkF ?_
        refine mB ?_
        refine wl_guard_take rfl rfl ?_
        refine s_load1 TIs.out rfl ((hh.below.cell (cell_lt hp)).trans hp) (by decide) ?_
        first | refine gS ?_ | (refine gT ?_; refine mI ?_) | refine gV ?_
        refine wl_guard_take rfl rfl ?_
        refine s_shr rfl rfl (by omega) (by decide) ?_
        refine wl_guard_take rfl rfl ?_
        refine s_and1 rfl rfl (by decide) ?_
        rw [hm2]
        first | refine gS ?_ | (refine gT ?_; refine eqlC ?_) | refine gV ?_
        first | refine pkT ?_ | refine pkF ?_
        refine wl_end (cT (sr (faC ?_)))
        refine lgC hh 1 [_,_,_] ?_
        refine stC hh 0 [_,_,_] ?_
        intro ws hh
        replace hh : Hp _ (.blk _ _ [_, _, _] _ :: _) _ := hh
        refine wl_end (wc_ret (k_ret ?_))
        refine retc1 (by first | exact .inr rfl | exact .inl rfl) rfl (r_cell rfl (lv_agg (vs := [_, _, _]) TIs.out (hh.rd_blk_at (i := 0) (n := 3) rfl rfl) rfl) r_nil) ?_
        exact ⟨rfl, hh.below⟩
      · rw [decide_eq_false g]
        refine calls_vc (N := 23) (l := [.int .i64 i, .agg s.cells.toArray, .pointer (some p)]) Tryz.func102 rfl rfl (by simp) ?_
        refine sr ?_
        refine bxC hh [_,_,_,_,_,_] ?_
        intro b4 w4 hh
        refine alC hh ?_
        intro b5 w5 hh
        refine wl_end (wc_seq (sr ?_))
        refine s_load1 TIs.out rfl ((hh.below.cell (cell_lt hp)).trans hp) (by decide) ?_
        refine gtrC (mB ?_)
        first | refine gS ?_ | (refine gT ?_; refine mI ?_) | refine gV ?_
        first | refine gS ?_ | (refine gT ?_; refine lssC ?_) | refine gV ?_
        first | refine pkT ?_ | refine pkF ?_
        refine mB ?_
        refine wl_guard_take rfl rfl ?_
        refine s_load1 TIs.out rfl ((hh.below.cell (cell_lt hp)).trans hp) (by decide) ?_
        first | refine gS ?_ | (refine gT ?_; refine mI ?_) | refine gV ?_
        refine wl_guard_take rfl rfl ?_
        refine s_shr rfl rfl (by omega) (by decide) ?_
        refine wl_guard_take rfl rfl ?_
        refine s_and1 rfl rfl (by decide) ?_
        rw [hm2]
        first | refine gS ?_ | (refine gT ?_; refine eqlC ?_) | refine gV ?_
        first | refine pkT ?_ | refine pkF ?_
        refine wl_end (cF (wc_skip (k_then (sr (faC ?_)))))
        refine lgC hh 1 [_,_,_] ?_
        refine stC hh 0 [_,_,_] ?_
        intro ws hh
        replace hh : Hp _ (.blk _ _ [_, _, _] _ :: _) _ := hh
        refine wl_end (wc_ret ?_)
        refine retc1 (by first | exact .inr rfl | exact .inl rfl) rfl (r_cell rfl (lv_agg (vs := [_, _, _]) TIs.out (hh.rd_blk_at (i := 0) (n := 3) rfl rfl) rfl) r_nil) ?_
        exact ⟨rfl, hh.below⟩
    · rw [decide_eq_false h1, Bool.false_and]
      refine calls_vc (N := 23) (l := [.int .i64 i, .agg s.cells.toArray, .pointer (some p)]) Tryz.func102 rfl rfl (by simp) ?_
      refine sr ?_
      refine bxC hh [_,_,_,_,_,_] ?_
      intro b4 w4 hh
      refine alC hh ?_
      intro b5 w5 hh
      refine wl_end (wc_seq (sr ?_))
      refine s_load1 TIs.out rfl ((hh.below.cell (cell_lt hp)).trans hp) (by decide) ?_
      refine gtrC (mB ?_)
      first | refine gS ?_ | (refine gT ?_; refine mI ?_) | refine gV ?_
      first | refine gS ?_ | (refine gT ?_; refine lssC ?_) | refine gV ?_
      first | refine pkT ?_ | refine pkF ?_
      refine mB ?_
      refine wl_guard_skip (by decide) rfl rfl (by decide) ?_
      first | refine gS ?_ | (refine gT ?_; refine mI ?_) | refine gV ?_
      refine wl_guard_skip (by decide) rfl rfl (by decide) ?_
      first | (refine wl_guard_skip (by decide) rfl rfl (by decide) ?_) | (refine wl_guard_skipV (by decide) rfl rfl ?_)
      first | refine gS ?_ | (refine gT ?_; refine eqlC ?_) | refine gV ?_
      first | refine pkT ?_ | refine pkF ?_
      refine wl_end (cF (wc_skip (k_then (sr (faC ?_)))))
      refine lgC hh 1 [_,_,_] ?_
      refine stC hh 0 [_,_,_] ?_
      intro ws hh
      replace hh : Hp _ (.blk _ _ [_, _, _] _ :: _) _ := hh
      refine wl_end (wc_ret ?_)
      refine retc1 (by first | exact .inr rfl | exact .inl rfl) rfl (r_cell rfl (lv_agg (vs := [_, _, _]) TIs.out (hh.rd_blk_at (i := 0) (n := 3) rfl rfl) rfl) r_nil) ?_
      exact ⟨rfl, hh.below⟩
  · rw [decide_eq_false h0, Bool.false_and]
    refine calls_vc (N := 23) (l := [.int .i64 i, .agg s.cells.toArray, .pointer (some p)]) Tryz.func102 rfl rfl (by simp) ?_
    refine sr ?_
    refine bxC hh [_,_,_,_,_,_] ?_
    intro b4 w4 hh
    refine alC hh ?_
    intro b5 w5 hh
    refine wl_end (wc_seq (sr ?_))
    refine s_load1 TIs.out rfl ((hh.below.cell (cell_lt hp)).trans hp) (by decide) ?_
    refine gtrC (mB ?_)
    first | refine gS ?_ | (refine gT ?_; refine mI ?_) | refine gV ?_
    first | refine gS ?_ | (refine gT ?_; refine lssC ?_) | refine gV ?_
    first | refine pkT ?_ | refine pkF ?_
    refine mB ?_
    refine wl_guard_skip (by decide) rfl rfl (by decide) ?_
    first | refine gS ?_ | (refine gT ?_; refine mI ?_) | refine gV ?_
    refine wl_guard_skip (by decide) rfl rfl (by decide) ?_
    first | (refine wl_guard_skip (by decide) rfl rfl (by decide) ?_) | (refine wl_guard_skipV (by decide) rfl rfl ?_)
    first | refine gS ?_ | (refine gT ?_; refine eqlC ?_) | refine gV ?_
    first | refine pkT ?_ | refine pkF ?_
    refine wl_end (cF (wc_skip (k_then (sr (faC ?_)))))
    refine lgC hh 1 [_,_,_] ?_
    refine stC hh 0 [_,_,_] ?_
    intro ws hh
    replace hh : Hp _ (.blk _ _ [_, _, _] _ :: _) _ := hh
    refine wl_end (wc_ret ?_)
    refine retc1 (by first | exact .inr rfl | exact .inl rfl) rfl (r_cell rfl (lv_agg (vs := [_, _, _]) TIs.out (hh.rd_blk_at (i := 0) (n := 3) rfl rfl) rfl) r_nil) ?_
    exact ⟨rfl, hh.below⟩
theorem bCorner_calls (L : Option Addr) (n c : Nat) (b : List SR) (k : Int) (w : World) (hT : Tab w) (hS : Sl w L n 6 (recs SR.cells b)) (hb : ∀ s ∈ b, s.ok) (hn : n ≤ 1000000) :
    Calls Tryz.prog 44 #[.slice L n c, .int .i64 k] w fun r w' => ∃ A c', r = .returned (.slice A n c') ∧ w'.ownsRow w.heap.size 25 3 (.slice A n c') n (recs NR.cells (b.mapIdx fun i s => cond (cornU k i) s.f.hi s.f.lo)) ∧ Below w.heap.size w w' := by
  have hh := Hp.start w
  refine calls_vc (N := 8) (l := [.slice L n c, .int .i64 k]) Tryz.func44 rfl rfl (by simp) ?_
  refine sr ?_
  refine bxC hh [_] ?_
  intro b3 w3 hh
  refine aL (wl_end (sr (mL ?_)))
  refine s_makeFunc rfl (evs_cons (ev_ptr rfl) evs_nil) (by decide) ?_
  refine s_callf (beach_calls L n c b 102 [.pointer (some ⟨b3, 0, none⟩)] (fun i s => cond (cornU k i) s.f.hi s.f.lo) _ (hT.hp hh) (hS.ext hh.below) hb hn (fun i s w1 hi _ hw1 _ => bCorner1_calls i s.f ⟨b3, 0, none⟩ k w1 (by omega) ((hw1.cell (cell_lt (hh.cell_blk (i := 0) rfl rfl))).trans (hh.cell_blk (i := 0) rfl rfl)))) FnIs.out rfl (by decide) ?_
  rintro e_ w7 ⟨A7, c7, rfl, hown_, hb_⟩
  refine ⟨_, rfl, ?_⟩
  replace hh := hh.push_new (x := .row _ _ _ _ _ _) hb_ hown_
  refine aL (wl_end (wc_ret ?_))
  refine ret1 (by first | exact .inr rfl | exact .inl rfl) rfl (v_sl rfl) ?_
  exact ⟨_, _, rfl, hh.at_ (i := 0) rfl, hh.below⟩
end Go.Proofs.YthmmofllajkejaaGreatDoor
