/- The walk through the law HeapNobody. -/
import Derived.Test.YthmmofllajkejaaDoorLawH
namespace Go.Proofs.YthmmofllajkejaaDoor
open Go.RowKit
-- umode
theorem heapNobody_calls (key : NR) (x : Int) (w : World) (hT : Tab w) :
    Calls Tryd.prog 3 #[.agg #[.bool key.neg, .string key.mag, .int .i64 key.e], .int .i64 x] w fun r w' => r = .returned (.bool true) ∧ Below w.heap.size w w' := by
  have hh := Hp.start w
  cases hf : farH key with
  | true =>
    refine calls_vc (N := 59) (l := [.agg #[.bool key.neg, .string key.mag, .int .i64 key.e], .int .i64 x]) Tryd.func3 rfl rfl (by simp) ?_
    refine sr ?_
    refine bxC hh [_,_,_] ?_
    intro b2 w2 hh
    refine aB (wl_end (wc_seq (sr ?_)))
    refine lgC hh 0 [_,_,_] ?_
    refine s_callf (hfar_calls key _) FnIs.out rfl (by decide) ?_
    rintro e_ w13 ⟨rfl, hb_⟩
    refine ⟨_, rfl, ?_⟩
    replace hh := hh.ext hb_
    rw [hf]
    refine wl_end (cT (sr ?_))
    refine s_callf (hawake_calls _ (hT.hp hh)) FnIs.out rfl (by decide) ?_
    rintro e_ w14 ⟨rfl, hb_⟩
    refine ⟨_, rfl, ?_⟩
    replace hh := hh.ext hb_
    refine aB (wl_end (wc_ret (k_ret ?_)))
    refine ret1 (by first | exact .inr rfl | exact .inl rfl) rfl (v_bool rfl) ?_
    exact ⟨rfl, hh.below⟩
  | false =>
    refine calls_vc (N := 59) (l := [.agg #[.bool key.neg, .string key.mag, .int .i64 key.e], .int .i64 x]) Tryd.func3 rfl rfl (by simp) ?_
    refine sr ?_
    refine bxC hh [_,_,_] ?_
    intro b2 w2 hh
    refine aB (wl_end (wc_seq (sr ?_)))
    refine lgC hh 0 [_,_,_] ?_
    refine s_callf (hfar_calls key _) FnIs.out rfl (by decide) ?_
    rintro e_ w13 ⟨rfl, hb_⟩
    refine ⟨_, rfl, ?_⟩
    replace hh := hh.ext hb_
    rw [hf]
    refine wl_end (cF (wc_skip (k_then (sr (aP (wl_end (sr (mP ?_))))))))
    refine lgC hh 0 [_,_,_] (mI ?_)
    refine s_callf (EIput0_calls key x _) FnIs.out rfl (by decide) ?_
    rintro e_ w18 ⟨rfl, hb_⟩
    refine ⟨_, rfl, ?_⟩
    replace hh := hh.ext hb_
    refine wl_end (sr (mP ?_))
    refine s_callf (EItake0_calls _) FnIs.out rfl (by decide) ?_
    rintro e_ w21 ⟨rfl, hb_⟩
    refine ⟨_, rfl, ?_⟩
    replace hh := hh.ext hb_
    refine mT ?_
    refine exC ?_
    refine exC ?_
    refine exC ?_
    refine alC hh ?_
    intro b6 w6 hh
    refine stC hh 0 [_,_,_] ?_
    intro ws hh
    replace hh : Hp _ (.blk _ _ [_, _, _] _ :: _) _ := hh
    refine aI (aB (wl_end (sr (mP ?_))))
    refine s_callf (EIfirst0_calls _) FnIs.out rfl (by decide) ?_
    rintro e_ w27 ⟨rfl, hb_⟩
    refine ⟨_, rfl, ?_⟩
    replace hh := hh.ext hb_
    refine mT ?_
    refine exC ?_
    refine exC ?_
    refine exC ?_
    refine alC hh ?_
    intro b9 w9 hh
    refine stC hh 0 [_,_,_] ?_
    intro ws hh
    replace hh : Hp _ (.blk _ _ [_, _, _] _ :: _) _ := hh
    refine aI (aB (wl_end (sr (mI ?_))))
    refine eqlC (mB ?_)
    first | refine gS ?_ | (refine gT ?_; refine mI ?_) | refine gV ?_
    first | refine gS ?_ | (refine gT ?_; refine eqlC ?_) | refine gV ?_
    first | refine pkT ?_ | refine pkF ?_
    refine mB ?_
    first | refine gS ?_ | (refine gT ?_; refine mB ?_) | refine gV ?_
    first | refine gS ?_ | (refine gT ?_; refine notC ?_) | refine gV ?_
    first | refine pkT ?_ | refine pkF ?_
    refine mB ?_
    first | refine gS ?_ | (refine gT ?_; refine mB ?_) | refine gV ?_
    first | refine gS ?_ | (refine gT ?_; refine notC ?_) | refine gV ?_
    first | refine pkT ?_ | refine pkF ?_
    refine mB ?_
    first | refine gS ?_ | (refine gT ?_; refine mP ?_) | refine gV ?_
    refine wl_guard_take rfl rfl ?_
    refine s_callf (EIlen0_calls _) FnIs.out rfl (by decide) ?_
    rintro e_ w47 ⟨rfl, hb_⟩
    refine ⟨_, rfl, ?_⟩
    replace hh := hh.ext hb_
    first | refine gS ?_ | (refine gT ?_; refine eqlC ?_) | refine gV ?_
    first | refine pkT ?_ | refine pkF ?_
    refine mB ?_
    first | refine gS ?_ | (refine gT ?_; refine mP ?_) | refine gV ?_
    first | refine gS ?_ | (refine gT ?_; refine lgC hh 2 [_,_,_] ?_) | refine gV ?_
    refine wl_guard_take rfl rfl ?_
    refine s_callf (EIdrop0_calls key _) FnIs.out rfl (by decide) ?_
    rintro e_ w53 ⟨rfl, hb_⟩
    refine ⟨_, rfl, ?_⟩
    replace hh := hh.ext hb_
    first | refine gS ?_ | (refine gT ?_; refine eqlC ?_) | refine gV ?_
    first | refine pkT ?_ | refine pkF ?_
    refine mB ?_
    refine wl_guard_take rfl rfl ?_
    refine s_callf (hawake_calls _ (hT.hp hh)) FnIs.out rfl (by decide) ?_
    rintro e_ w57 ⟨rfl, hb_⟩
    refine ⟨_, rfl, ?_⟩
    replace hh := hh.ext hb_
    first | refine pkT ?_ | refine pkF ?_
    refine aB (wl_end (wc_ret ?_))
    refine ret1 (by first | exact .inr rfl | exact .inl rfl) rfl (v_bool rfl) ?_
    exact ⟨rfl, hh.below⟩
end Go.Proofs.YthmmofllajkejaaDoor
