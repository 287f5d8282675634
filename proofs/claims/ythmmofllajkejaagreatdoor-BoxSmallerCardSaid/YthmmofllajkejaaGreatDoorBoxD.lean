/- The walks through package box, fourth part: one axis changed, the halves. -/
import Derived.Test.YthmmofllajkejaaGreatDoorBoxC
namespace Go.Proofs.YthmmofllajkejaaGreatDoor
open Go.RowKit
-- umode
-- skipu
/-- The half of a span whose midpoint is m. -/
def SR.half (s : SR) (m : NR) (u : Bool) : SR := if u then ⟨m, s.hi⟩ else ⟨s.lo, m⟩
theorem bhalf_calls (s : SR) (m : NR) (u : Bool) (w : World) :
    Calls Tryz.prog 106 #[.agg #[.bool s.lo.neg, .string s.lo.mag, .int .i64 s.lo.e, .bool s.hi.neg, .string s.hi.mag, .int .i64 s.hi.e, .bool m.neg, .string m.mag, .int .i64 m.e], .bool u] w fun r w' => r = .returned (.agg (s.half m u).cells.toArray) ∧ Below w.heap.size w w' := by
  have hh := Hp.start w
  cases u with
  | true =>
    refine calls_vc (N := 18) (l := [.agg #[.bool s.lo.neg, .string s.lo.mag, .int .i64 s.lo.e, .bool s.hi.neg, .string s.hi.mag, .int .i64 s.hi.e, .bool m.neg, .string m.mag, .int .i64 m.e], .bool true]) Tryz.func106 rfl rfl (by simp) ?_
    refine sr ?_
    refine bxC hh [_,_,_,_,_,_,_,_,_] ?_
    intro b2 w2 hh
    refine alC hh ?_
    intro b4 w4 hh
    refine wl_end (wc_seq (sr (mB (wl_end (cT (sr (faC ?_)))))))
    refine lgC hh 1 [_,_,_] (faC (faC ?_))
    refine lgC hh 1 [_,_,_] ?_
    refine bdC [_,_,_,_,_,_] ?_
    refine stC hh 0 [_,_,_,_,_,_] ?_
    intro ws hh
    replace hh : Hp _ (.blk _ _ [_, _, _, _, _, _] _ :: _) _ := hh
    refine wl_end (wc_ret (k_ret ?_))
    refine retc1 (by first | exact .inr rfl | exact .inl rfl) rfl (r_cell rfl (lv_agg (vs := [_, _, _, _, _, _]) TIs.out (hh.rd_blk_at (i := 0) (n := 6) rfl rfl) rfl) r_nil) ?_
    exact ⟨rfl, hh.below⟩
  | false =>
    refine calls_vc (N := 18) (l := [.agg #[.bool s.lo.neg, .string s.lo.mag, .int .i64 s.lo.e, .bool s.hi.neg, .string s.hi.mag, .int .i64 s.hi.e, .bool m.neg, .string m.mag, .int .i64 m.e], .bool false]) Tryz.func106 rfl rfl (by simp) ?_
    refine sr ?_
    refine bxC hh [_,_,_,_,_,_,_,_,_] ?_
    intro b2 w2 hh
    refine alC hh ?_
    intro b4 w4 hh
    refine wl_end (wc_seq (sr (mB (wl_end (cF (wc_skip (k_then (sr (faC (faC ?_))))))))))
    refine lgC hh 1 [_,_,_] (faC ?_)
    refine lgC hh 1 [_,_,_] ?_
    refine bdC [_,_,_,_,_,_] ?_
    refine stC hh 0 [_,_,_,_,_,_] ?_
    intro ws hh
    replace hh : Hp _ (.blk _ _ [_, _, _, _, _, _] _ :: _) _ := hh
    refine wl_end (wc_ret ?_)
    refine retc1 (by first | exact .inr rfl | exact .inl rfl) rfl (r_cell rfl (lv_agg (vs := [_, _, _, _, _, _]) TIs.out (hh.rd_blk_at (i := 0) (n := 6) rfl rfl) rfl) r_nil) ?_
    exact ⟨rfl, hh.below⟩
theorem bwith_calls (L : Option Addr) (n c a : Nat) (b : List SR) (s : SR) (w : World) (hS : Sl w L n 6 (recs SR.cells b)) (hn : n ≤ 1000000) (ha : a < n) :
    Calls Tryz.prog 105 #[.slice L n c, .int .i64 a, .agg s.cells.toArray] w fun r w' => ∃ A c', r = .returned (.slice A n c') ∧ w'.ownsRow w.heap.size 80 6 (.slice A n c') n (recs SR.cells (b.set a s)) ∧ Below w.heap.size w w' := by
  have hh := Hp.start w
  have hln := hS.recLen SR.len (by decide)
  have hrl := recs_len SR.len b
  refine calls_vc (N := 19) (l := [.slice L n c, .int .i64 a, .agg s.cells.toArray]) Tryz.func105 rfl rfl (by simp) ?_
  refine sr ?_
  refine bxC hh [_,_,_,_,_,_] ?_
  intro b5 w5 hh
  refine aL (wl_end (sr (mL (lenC ?_))))
  refine wl_make (n := n) hh rfl rfl (by omega) (by omega) UIs.out TIs.out rfl (by omega) (by omega) (by decide) ?_
  intro b10 w10 hh
  refine aL (wl_end (sr (mL (mL ?_))))
  refine wl_copy hh (i := 0) (o := 0) rfl rfl rfl (hS.ext hh.below) UIs.out TIs.out (by rw [length_zrep, Nat.min_self]; show 0 + n * 6 ≤ n * 6; omega) (recs_oneCells SR.one _) (by decide) ?_
  intro w13 hh
  skip
  have e1 : ∀ xs : List Value, xs.length = n * 6 → splice xs 0 ((recs SR.cells b).take (min n n * 6)) = recs SR.cells b := fun xs hx => by
    rw [Nat.min_self, List.take_of_length_le (by omega), splice, List.take_zero, List.nil_append, List.drop_of_length_le (by omega), List.append_nil]
  rw [List.set_cons_zero, e1 _ (by rw [length_zrep]; rfl)] at hh
  refine wl_end (sr (mL (mI ?_)))
  refine lgC hh 1 [_,_,_,_,_,_] ?_
  refine s_indexRow (k := a) UIs.out TIs.size rfl rfl (by omega) (by omega) (by decide) ?_
  refine wl_store_row hh (i := 0) (vs := [_, _, _, _, _, _]) rfl rfl (ev_agg rfl) rfl TIs.out rfl (by omega) rfl ?_
  intro ws hh
  simp only [List.set_cons_zero] at hh
  rw [show splice (recs SR.cells b) (a * 6) [.bool s.lo.neg, .string s.lo.mag, .int .i64 s.lo.e, .bool s.hi.neg, .string s.hi.mag, .int .i64 s.hi.e] = recs SR.cells (b.set a s) from recs_splice SR.len (by omega)] at hh
  refine wl_end (sr (mL (aL (wl_end (wc_ret ?_)))))
  refine ret1 (by first | exact .inr rfl | exact .inl rfl) rfl (v_sl rfl) ?_
  exact ⟨_, _, rfl, hh.at_ (i := 0) rfl, hh.below⟩
end Go.Proofs.YthmmofllajkejaaGreatDoor
