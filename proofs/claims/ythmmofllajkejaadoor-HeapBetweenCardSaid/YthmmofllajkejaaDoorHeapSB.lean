/- The walks through package heap, more: queues of string. -/
import Derived.Test.YthmmofllajkejaaDoorShD
import Derived.Test.YthmmofllajkejaaDoorHeapS
namespace Go.Proofs.YthmmofllajkejaaDoor
open Go.RowKit
-- umode
theorem ESlen_calls {b n c : Nat} {A : Option Addr} (w : World) (h0 : w.cell? ⟨b, 0, none⟩ = some (.slice A n c)) :
    Calls Tryd.prog 21 #[.pointer (some ⟨b, 0, none⟩)] w fun r w' => r = .returned (.int .i64 n) ∧ Below w.heap.size w w' := by
  have hh := Hp.start w
  refine calls_vc (N := 10) (l := [.pointer (some ⟨b, 0, none⟩)]) Tryd.func21 rfl rfl (by simp) ?_
  refine sr (aI (wl_end (wc_seq (sr (mP ?_)))))
  first | refine s_eqp_f UIs.out rfl rfl (by decide) ?_ | refine s_eqp_t UIs.out rfl rfl (by decide) ?_
  refine wl_end (cF (wc_skip (k_then (sr (mP ?_)))))
  refine s_nilCheck rfl (by decide) ?_
  refine s_fieldAddrA FIs.out rfl (by decide) ?_
  refine s_load1 TIs.out rfl (below_cell hh.below h0) (by decide) ?_
  refine lenC (aI (wl_end (wc_ret ?_)))
  refine ret1 (by first | exact .inr rfl | exact .inl rfl) rfl (v_int rfl) ?_
  exact ⟨rfl, hh.below⟩
theorem ESlen0_calls (w : World) :
    Calls Tryd.prog 21 #[.pointer none] w fun r w' => r = .returned (.int .i64 0) ∧ Below w.heap.size w w' := by
  have hh := Hp.start w
  refine calls_vc (N := 10) (l := [.pointer none]) Tryd.func21 rfl rfl (by simp) ?_
  refine sr (aI (wl_end (wc_seq (sr (mP ?_)))))
  first | refine s_eqp_f UIs.out rfl rfl (by decide) ?_ | refine s_eqp_t UIs.out rfl rfl (by decide) ?_
  refine wl_end (cT (sr (aI (wl_end (wc_ret (k_ret ?_))))))
  refine ret1 (by first | exact .inr rfl | exact .inl rfl) rfl (v_int rfl) ?_
  exact ⟨rfl, hh.below⟩
theorem ESfirst0_calls (w : World) :
    Calls Tryd.prog 32 #[.pointer none] w fun r w' => r = .returned (.tuple #[.agg #[.bool false, .string (ByteArray.mk #[]), .int .i64 0], .string (ByteArray.mk #[]), .bool false]) ∧ Below w.heap.size w w' := by
  have hh := Hp.start w
  refine calls_vc (N := 26) (l := [.pointer none]) Tryd.func32 rfl rfl (by simp) ?_
  refine sr ?_
  refine alC hh ?_
  intro b2 w2 hh
  refine aS (aB (wl_end (wc_seq (sr (mP ?_)))))
  refine s_callf (ESlen0_calls _) FnIs.out rfl (by decide) ?_
  rintro e_ w7 ⟨rfl, hb_⟩
  refine ⟨_, rfl, ?_⟩
  replace hh := hh.ext hb_
  refine eqlC (wl_end (cT (sr ?_)))
  refine bdC [_,_,_] (mS ?_)
  refine stC hh 0 [_,_,_] ?_
  intro ws hh
  replace hh : Hp _ (.blk _ _ [_, _, _] _ :: _) _ := hh
  refine aS (aB (wl_end (wc_ret (k_ret ?_))))
  refine retc3 (by first | exact .inr rfl | exact .inl rfl) rfl (r_cell rfl (lv_agg (vs := [_, _, _]) TIs.out (hh.rd_blk_at (i := 0) (n := 3) rfl rfl) rfl) (r_tmp (v_str rfl) (r_tmp (v_bool rfl) r_nil))) ?_
  exact ⟨rfl, hh.below⟩
theorem ESfirst_nil {b n c : Nat} {A : Option Addr} (w : World) (h0 : w.cell? ⟨b, 0, none⟩ = some (.slice A n c)) (hn : n = 0) :
    Calls Tryd.prog 32 #[.pointer (some ⟨b, 0, none⟩)] w fun r w' => r = .returned (.tuple #[.agg #[.bool false, .string (ByteArray.mk #[]), .int .i64 0], .string (ByteArray.mk #[]), .bool false]) ∧ Below w.heap.size w w' := by
  have hh := Hp.start w
  refine calls_vc (N := 26) (l := [.pointer (some ⟨b, 0, none⟩)]) Tryd.func32 rfl rfl (by simp) ?_
  refine sr ?_
  refine alC hh ?_
  intro b2 w2 hh
  refine aS (aB (wl_end (wc_seq (sr (mP ?_)))))
  refine s_callf (ESlen_calls _ (below_cell hh.below h0)) FnIs.out rfl (by decide) ?_
  rintro e_ w7 ⟨rfl, hb_⟩
  refine ⟨_, rfl, ?_⟩
  replace hh := hh.ext hb_
  refine eqlC (wl_end (cT (sr ?_)))
  refine bdC [_,_,_] (mS ?_)
  refine stC hh 0 [_,_,_] ?_
  intro ws hh
  replace hh : Hp _ (.blk _ _ [_, _, _] _ :: _) _ := hh
  refine aS (aB (wl_end (wc_ret (k_ret ?_))))
  refine retc3 (by first | exact .inr rfl | exact .inl rfl) rfl (r_cell rfl (lv_agg (vs := [_, _, _]) TIs.out (hh.rd_blk_at (i := 0) (n := 3) rfl rfl) rfl) (r_tmp (v_str rfl) (r_tmp (v_bool rfl) r_nil))) ?_
  exact ⟨rfl, hh.below⟩
theorem ESfirst_calls {b n c : Nat} {A : Option Addr} {L : List (Ent ByteArray)} (w : World) (h0 : w.cell? ⟨b, 0, none⟩ = some (.slice A n c)) (hS : Sl w A n 5 (recs ES.cells L)) (hn : n ≤ 1000000) {e : Ent ByteArray} (he : L[0]? = some e) :
    Calls Tryd.prog 32 #[.pointer (some ⟨b, 0, none⟩)] w fun r w' => r = .returned (.tuple #[.agg #[.bool e.k.neg, .string e.k.mag, .int .i64 e.k.e], .string e.x, .bool true]) ∧ Below w.heap.size w w' := by
  have hln := hS.recLen ES.len (by decide)
  have h1 := (List.getElem?_eq_some_iff.1 he).1
  have hh := Hp.start w
  obtain ⟨ad, rfl, hr⟩ := hS.2 (by omega)
  refine calls_vc (N := 26) (l := [.pointer (some ⟨b, 0, none⟩)]) Tryd.func32 rfl rfl (by simp) ?_
  refine sr ?_
  refine alC hh ?_
  intro b2 w2 hh
  refine aS (aB (wl_end (wc_seq (sr (mP ?_)))))
  refine s_callf (ESlen_calls _ (below_cell hh.below h0)) FnIs.out rfl (by decide) ?_
  rintro e_ w7 ⟨rfl, hb_⟩
  refine ⟨_, rfl, ?_⟩
  replace hh := hh.ext hb_
  refine eqlC (wl_end (cF (wc_skip (k_then (sr (mP ?_))))))
  refine s_nilCheck rfl (by decide) ?_
  refine s_fieldAddrA FIs.out rfl (by decide) ?_
  refine s_load1 TIs.out rfl (below_cell hh.below h0) (by decide) ?_
  refine s_indexSl (k := 0) UIs.out TIs.size rfl rfl (by omega) (by omega) (by decide) ?_
  refine s_load (vs := [_, _, _, _, _]) TIs.out rfl ((hr.ext hh.below).recAt ES.len he) rfl (by decide) ?_
  refine alC hh ?_
  intro b5 w5 hh
  refine stC hh 0 [_,_,_,_,_] ?_
  intro ws hh
  replace hh : Hp _ (.blk _ _ [_, _, _, _, _] _ :: _) _ := hh
  refine wl_end (wc_seq ?_)
  refine wc_drawn5 [7, 8] [0, 1, 3, 0, 8, 24, 63, 0, 128, 127, 1023, 2047] 9 [[(5, none)], [(17, some 0)], [(18, some 1)], [(5, none)], [(20, some 3)], [(21, some 4)], [(19, some 2), (22, some 5)], [(5, none)], [(24, some 7)]] [(8, 25), (7, 24), (6, 23), (5, 22), (4, 21), (3, 20), (2, 19), (1, 18), (0, 17)] [([], 4, [(6, 23), (5, 22), (4, 21), (3, 20), (2, 19), (1, 18), (0, 17)]), ([7], 3, [(7, 24), (6, 23), (5, 22), (4, 21), (3, 20), (2, 19), (1, 18), (0, 17)]), ([7, 8], 2, [(8, 25), (7, 24), (6, 23), (5, 22), (4, 21), (3, 20), (2, 19), (1, 18), (0, 17)])] hh mixed (by kernel_rfl) (by kernel_rfl) (by decide) ?_
  refine dfa ?_
  refine dfa ?_
  refine dlg 0 [_,_] ?_
  refine dfa ?_
  refine dfa ?_
  refine dl1 0 ?_
  refine dB [_,_,_] ?_
  refine dfa ?_
  refine dl1 0 ?_
  refine dx_nil ?_
  intro p_ hp_
  simp only [List.mem_cons, List.not_mem_nil, or_false] at hp_
  rcases hp_ with rfl | rfl | rfl
  · intro f W hJ hV
    have hb_4 := hJ.bl
    obtain ⟨v23, v22, v21, v20, v19, v18, v17, _⟩ := hV
    simp only [updL]
    have e17 : f 0 = _ := v17
    rw [e17]
    have e18 : f 1 = _ := v18
    rw [e18]
    have e19 : f 2 = _ := v19
    rw [e19]
    have e20 : f 3 = _ := v20
    rw [e20]
    have e21 : f 4 = _ := v21
    rw [e21]
    have e22 : f 5 = _ := v22
    rw [e22]
    have e23 : f 6 = _ := v23
    rw [e23]
    replace hh := hJ.hp
    clear e17 e18 e19 e20 e21 e22 e23 hJ
    refine stC hh 1 [_,_,_] ?_
    intro ws hh
    replace hh : Hp _ (_ :: .blk _ _ [_, _, _] _ :: _) _ := hh
    refine wl_wa ?_
    refine wa_one (i := 7) (by kernel_rfl) rfl ?_
    refine faC ?_
    refine wl_wa ?_
    refine wa_one (i := 8) (by kernel_rfl) rfl ?_
    refine l1C hh 0 ?_
    refine wl_wa ?_
    refine wa_tail 10 (by decide) (by kernel_rfl) (by decide) (by kernel_rfl) (by kernel_rfl) ?_
    refine aS (aB (wl_end (wc_ret ?_)))
    refine retc3 (by first | exact .inr rfl | exact .inl rfl) rfl (r_cell rfl (lv_agg (vs := [_, _, _]) TIs.out (hh.rd_blk_at (i := 1) (n := 3) rfl rfl) rfl) (r_tmp (v_str rfl) (r_tmp (v_bool rfl) r_nil))) ?_
    exact ⟨rfl, hh.below⟩
  · intro f W hJ hV
    have hb_4 := hJ.bl
    obtain ⟨v24, v23, v22, v21, v20, v19, v18, v17, _⟩ := hV
    simp only [updL]
    have e17 : f 0 = _ := v17
    rw [e17]
    have e18 : f 1 = _ := v18
    rw [e18]
    have e19 : f 2 = _ := v19
    rw [e19]
    have e20 : f 3 = _ := v20
    rw [e20]
    have e21 : f 4 = _ := v21
    rw [e21]
    have e22 : f 5 = _ := v22
    rw [e22]
    have e23 : f 6 = _ := v23
    rw [e23]
    have e24 : f 7 = _ := v24
    rw [e24]
    replace hh := hJ.hp
    clear e17 e18 e19 e20 e21 e22 e23 e24 hJ
    refine stC hh 1 [_,_,_] ?_
    intro ws hh
    replace hh : Hp _ (_ :: .blk _ _ [_, _, _] _ :: _) _ := hh
    refine wl_wa ?_
    refine wa_one (i := 8) (by kernel_rfl) rfl ?_
    refine l1C hh 0 ?_
    refine wl_wa ?_
    refine wa_tail 10 (by decide) (by kernel_rfl) (by decide) (by kernel_rfl) (by kernel_rfl) ?_
    refine aS (aB (wl_end (wc_ret ?_)))
    refine retc3 (by first | exact .inr rfl | exact .inl rfl) rfl (r_cell rfl (lv_agg (vs := [_, _, _]) TIs.out (hh.rd_blk_at (i := 1) (n := 3) rfl rfl) rfl) (r_tmp (v_str rfl) (r_tmp (v_bool rfl) r_nil))) ?_
    exact ⟨rfl, hh.below⟩
  · intro f W hJ hV
    have hb_4 := hJ.bl
    obtain ⟨v25, v24, v23, v22, v21, v20, v19, v18, v17, _⟩ := hV
    simp only [updL]
    have e17 : f 0 = _ := v17
    rw [e17]
    have e18 : f 1 = _ := v18
    rw [e18]
    have e19 : f 2 = _ := v19
    rw [e19]
    have e20 : f 3 = _ := v20
    rw [e20]
    have e21 : f 4 = _ := v21
    rw [e21]
    have e22 : f 5 = _ := v22
    rw [e22]
    have e23 : f 6 = _ := v23
    rw [e23]
    have e24 : f 7 = _ := v24
    rw [e24]
    have e25 : f 8 = _ := v25
    rw [e25]
    replace hh := hJ.hp
    clear e17 e18 e19 e20 e21 e22 e23 e24 e25 hJ
    refine stC hh 1 [_,_,_] ?_
    intro ws hh
    replace hh : Hp _ (_ :: .blk _ _ [_, _, _] _ :: _) _ := hh
    refine wl_wa ?_
    refine wa_tail 10 (by decide) (by kernel_rfl) (by decide) (by kernel_rfl) (by kernel_rfl) ?_
    refine aS (aB (wl_end (wc_ret ?_)))
    refine retc3 (by first | exact .inr rfl | exact .inl rfl) rfl (r_cell rfl (lv_agg (vs := [_, _, _]) TIs.out (hh.rd_blk_at (i := 1) (n := 3) rfl rfl) rfl) (r_tmp (v_str rfl) (r_tmp (v_bool rfl) r_nil))) ?_
    exact ⟨rfl, hh.below⟩
theorem ESnew_calls {w0 w : World} {H : List HE} (hh : Hp w0 H w) :
    Calls Tryd.prog 16 #[] w fun r w' => ∃ b, r = .returned (.pointer (some ⟨b, 0, none⟩)) ∧ Hp w0 (.blk b 63 [.slice none 0 0, .int .i64 0] (0, 0) :: .row none 0 0 65 5 (recs ES.cells []) :: H) w' := by
  refine calls_vc (N := 3) (l := []) Tryd.func16 rfl rfl (by simp) ?_
  refine sr (aP (wl_end (sr ?_)))
  refine bdC [_,_] ?_
  refine bxC hh [_,_] ?_
  intro b2 w2 hh
  refine aP (wl_end (wc_ret ?_))
  refine ret1 (by first | exact .inr rfl | exact .inl rfl) rfl rfl ?_
  replace hh := hh.nil_row 65 5
  exact ⟨_, rfl, hh.perm (List.Perm.swap _ _ _)⟩
theorem ESput0_calls (key : NR) (x : ByteArray) (w : World) :
    Calls Tryd.prog 17 #[.pointer none, .agg #[.bool key.neg, .string key.mag, .int .i64 key.e], .string x] w fun r w' => r = .returned (.tuple #[]) ∧ Below w.heap.size w w' := by
  have hh := Hp.start w
  refine calls_vc (N := 40) (l := [.pointer none, .agg #[.bool key.neg, .string key.mag, .int .i64 key.e], .string x]) Tryd.func17 rfl rfl (by simp) ?_
  refine sr ?_
  refine bxC hh [_,_,_] ?_
  intro b4 w4 hh
  refine wl_end (wc_seq (sr (mP ?_)))
  first | refine s_eqp_f UIs.out rfl rfl (by decide) ?_ | refine s_eqp_t UIs.out rfl rfl (by decide) ?_
  refine wl_end (cT (wc_ret (k_ret ?_)))
  refine ret0 (by first | exact .inr rfl | exact .inl rfl) rfl  ?_
  exact ⟨rfl, hh.below⟩
theorem ESput_calls {w0 w : World} {Hr : List HE} {b n c : Nat} {A : Option Addr} {next : Int} {L : List (Ent ByteArray)} (hh : Hp w0 (.blk b 63 [.slice A n c, .int .i64 next] (0, 0) :: .row A n c 65 5 (recs ES.cells L) :: Hr) w) (hT : Tab w0)
    (key : NR) (x : ByteArray) (hk : key.ok) (hk2 : (nR key.d).ok) (hok : ∀ e ∈ L, e.k.ok) (hn : n ≤ 100000) (hx1 : 0 ≤ next) (hx2 : next ≤ 1000000) (hhp : Heap ah 0 L) :
    Calls Tryd.prog 17 #[.pointer (some ⟨b, 0, none⟩), .agg #[.bool key.neg, .string key.mag, .int .i64 key.e], .string x] w fun r w' => r = .returned (.tuple #[]) ∧ ∃ A' c' L', L'.Perm (L ++ [⟨nR key.d, next, x⟩]) ∧ Heap ah 0 L' ∧ Hp w0 (.blk b 63 [.slice A' (n + 1) c', .int .i64 (next + 1)] (0, 0) :: .row A' (n + 1) c' 65 5 (recs ES.cells L') :: Hr) w' := by
  have hln := (hh.sl_row (i := 1) rfl).recLen ES.len (by decide)
  have e1 : ((n + 1 : Nat) : Int) - 1 = (n : Int) := by omega
  have e2 : recs ES.cells L ++ [.bool (nR key.d).neg, .string (nR key.d).mag, .int .i64 (nR key.d).e, .int .i64 next, .string x] = recs ES.cells (L ++ [⟨nR key.d, next, x⟩]) := by rw [recs_append, recs_one]; rfl
  obtain ⟨hk3, hk4, hk5⟩ := hk
  refine calls_vc (N := 40) (l := [.pointer (some ⟨b, 0, none⟩), .agg #[.bool key.neg, .string key.mag, .int .i64 key.e], .string x]) Tryd.func17 rfl rfl (by simp) ?_
  refine sr ?_
  refine bxC hh [_,_,_] ?_
  intro b4 w4 hh
  refine wl_end (wc_seq (sr (mP ?_)))
  first | refine s_eqp_f UIs.out rfl rfl (by decide) ?_ | refine s_eqp_t UIs.out rfl rfl (by decide) ?_
  refine wl_end (cF (wc_skip (k_then (wc_seq ?_))))
  refine wc_drawn2 [] [0] [0, 0, 2, 6, 14, 0, 32, 0, 128, 384, 896, 0, 4064, 8160, 16382, 32767, 65535, 131071] 14 [[(0, none)], [(0, none)], [(9, some 1)], [(10, some 2)], [(11, some 3)], [(4, none)], [(13, some 5)], [(0, none)], [(15, some 7)], [(16, some 8)], [(17, some 9)], [(2, none)], [(14, some 6), (18, some 10), (19, some 11)], [(20, some 12)]] [(13, 21), (12, 20), (11, 19), (10, 18), (9, 17), (8, 16), (7, 15), (6, 14), (5, 13), (4, 12), (3, 11), (2, 10), (1, 9), (0, 8)] hh mixed (by kernel_rfl) alok_nil rfl (by repeat (first | exact np_ret | refine np_then ?_ | refine np_blk ?_)) ?_
  refine dmP ?_
  refine dmP ?_
  refine dnc ?_
  refine dfa ?_
  refine dl1 1 ?_
  refine dlg 0 [_,_,_] ?_
  refine dC (fun _ hj => dForm_calls key _ (hT.hp hj.hp) (by omega) (by omega) (by omega)) ?_
  refine dmP ?_
  refine dnc ?_
  refine dfa ?_
  refine dl1 1 ?_
  refine dmS ?_
  refine dB [_,_,_,_,_] ?_
  refine dBS [_,_,_,_,_] ?_
  refine dx_nil ?_
  intro f W hJ hV _
  have hb_2 := hJ.bl
  obtain ⟨v21, v20, v19, v18, v17, v16, v15, v14, v13, v12, v11, v10, v9, v8, _⟩ := hV
  obtain ⟨A21, c21, e21, f21⟩ : Rows _ _ _ (f 13) W := v21
  replace hh := hJ.hp
  refine wl_cast (updL_K (eql_cons e21 (eql_cons v20 (eql_cons v19 (eql_cons v18 (eql_cons v17 (eql_cons v16 (eql_cons v15 (eql_cons v14 (eql_cons v13 (eql_cons v12 (eql_cons v11 (eql_cons v10 (eql_cons v9 (eql_cons v8 eql_nil))))))))))))))) ?_
  dsimp only [updK]
  clear e21 hJ
  refine wl_append hh (i := 2) rfl rfl rfl (f21) UIs.out TIs.out rfl (by decide) (by first | rfl | exact oneCells_u8n _ | exact oneCells_u64s _ | exact oneCells_i64s _ | exact recs_oneCells NR.one _) (by omega) (by omega) (by decide) ?_
  intro A22 c22 w22 hh
  simp only [List.set_cons_zero, List.set_cons_succ] at hh
  refine s_nilCheck rfl (by decide) ?_
  refine faC ?_
  refine stC hh 1 [_] ?_
  intro ws hh
  replace hh : Hp _ (_ :: .blk _ _ [_, _] _ :: _) _ := hh
  refine wl_end (sr (mP ?_))
  refine s_nilCheck rfl (by decide) ?_
  refine faC ?_
  refine l1C hh 1 ?_
  refine addC ?_
  refine s_nilCheck rfl (by decide) ?_
  refine faC ?_
  refine stC hh 1 [_] ?_
  intro ws hh
  replace hh : Hp _ (_ :: .blk _ _ [_, _] _ :: _) _ := hh
  refine wl_end (wc_region (mP (mP ?_)))
  refine s_nilCheck rfl (by decide) ?_
  refine faC ?_
  refine l1C hh 1 ?_
  refine lenC ?_
  refine subC ?_
  rw [e2] at hh
  replace hh := hh.sub (List.Sublist.cons _ (List.Sublist.cons_cons _ (List.Sublist.cons_cons _ (List.Sublist.refl _))))
  rw [e1]
  have hok2 : ∀ e ∈ L ++ [⟨nR key.d, next, x⟩], e.k.ok := List.forall_mem_append.2 ⟨hok, fun e he => by obtain rfl := List.mem_singleton.1 he; exact hk2⟩
  refine s_callf (ESrise_calls hh hT hok2 (by omega) (Nat.lt_succ_self n) (by rw [← hln]; exact Rises.start hhp)) FnIs.out rfl (by decide) ?_
  rintro e_ w39 ⟨rfl, L', hp, hhp', hh⟩
  refine ⟨_, rfl, ?_⟩
  refine wl_nil ?_
  refine ret0 (by first | exact .inr rfl | exact .inl rfl) rfl  ?_
  exact ⟨rfl, _, _, L', hp, hhp', hh⟩
theorem EStake_nil {b n c : Nat} {A : Option Addr} (w : World) (h0 : w.cell? ⟨b, 0, none⟩ = some (.slice A n c)) (hn : n = 0) :
    Calls Tryd.prog 19 #[.pointer (some ⟨b, 0, none⟩)] w fun r w' => r = .returned (.tuple #[.agg #[.bool false, .string (ByteArray.mk #[]), .int .i64 0], .string (ByteArray.mk #[]), .bool false]) ∧ Below w.heap.size w w' := by
  have hh := Hp.start w
  refine calls_vc (N := 47) (l := [.pointer (some ⟨b, 0, none⟩)]) Tryd.func19 rfl rfl (by simp) ?_
  refine sr ?_
  refine alC hh ?_
  intro b2 w2 hh
  refine aS (aB (wl_end (sr (mP ?_))))
  refine s_callf (ESfirst_nil _ (below_cell hh.below h0) hn) FnIs.out rfl (by decide) ?_
  rintro e_ w8 ⟨rfl, hb_⟩
  refine ⟨_, rfl, ?_⟩
  replace hh := hh.ext hb_
  refine mT ?_
  refine exC ?_
  refine exC ?_
  refine exC ?_
  refine stC hh 0 [_,_,_] ?_
  intro ws hh
  replace hh : Hp _ (.blk _ _ [_, _, _] _ :: _) _ := hh
  refine aS (aB (wl_end (wc_seq (sr (mB ?_)))))
  refine notC ?_
  refine wl_end (cT (sr ?_))
  refine lgC hh 0 [_,_,_] (mS ?_)
  refine stC hh 0 [_,_,_] ?_
  intro ws hh
  replace hh : Hp _ (.blk _ _ [_, _, _] _ :: _) _ := hh
  refine aS (aB (wl_end (wc_ret (k_ret ?_))))
  refine retc3 (by first | exact .inr rfl | exact .inl rfl) rfl (r_cell rfl (lv_agg (vs := [_, _, _]) TIs.out (hh.rd_blk_at (i := 0) (n := 3) rfl rfl) rfl) (r_tmp (v_str rfl) (r_tmp (v_bool rfl) r_nil))) ?_
  exact ⟨rfl, hh.below⟩
theorem EStake0_calls (w : World) :
    Calls Tryd.prog 19 #[.pointer none] w fun r w' => r = .returned (.tuple #[.agg #[.bool false, .string (ByteArray.mk #[]), .int .i64 0], .string (ByteArray.mk #[]), .bool false]) ∧ Below w.heap.size w w' := by
  have hh := Hp.start w
  refine calls_vc (N := 47) (l := [.pointer none]) Tryd.func19 rfl rfl (by simp) ?_
  refine sr ?_
  refine alC hh ?_
  intro b2 w2 hh
  refine aS (aB (wl_end (sr (mP ?_))))
  refine s_callf (ESfirst0_calls _) FnIs.out rfl (by decide) ?_
  rintro e_ w8 ⟨rfl, hb_⟩
  refine ⟨_, rfl, ?_⟩
  replace hh := hh.ext hb_
  refine mT ?_
  refine exC ?_
  refine exC ?_
  refine exC ?_
  refine stC hh 0 [_,_,_] ?_
  intro ws hh
  replace hh : Hp _ (.blk _ _ [_, _, _] _ :: _) _ := hh
  refine aS (aB (wl_end (wc_seq (sr (mB ?_)))))
  refine notC ?_
  refine wl_end (cT (sr ?_))
  refine lgC hh 0 [_,_,_] (mS ?_)
  refine stC hh 0 [_,_,_] ?_
  intro ws hh
  replace hh : Hp _ (.blk _ _ [_, _, _] _ :: _) _ := hh
  refine aS (aB (wl_end (wc_ret (k_ret ?_))))
  refine retc3 (by first | exact .inr rfl | exact .inl rfl) rfl (r_cell rfl (lv_agg (vs := [_, _, _]) TIs.out (hh.rd_blk_at (i := 0) (n := 3) rfl rfl) rfl) (r_tmp (v_str rfl) (r_tmp (v_bool rfl) r_nil))) ?_
  exact ⟨rfl, hh.below⟩
theorem EStake_calls {w0 w : World} {Hr : List HE} {b n c : Nat} {A : Option Addr} {next : Int} {L : List (Ent ByteArray)} (hh : Hp w0 (.blk b 63 [.slice A (n + 1) c, .int .i64 next] (0, 0) :: .row A (n + 1) c 65 5 (recs ES.cells L) :: Hr) w) (hT : Tab w0)
    (hok : ∀ e ∈ L, e.k.ok) (hn : n ≤ 100000) (hhp : Heap ah 0 L) {e : Ent ByteArray} (he : L[0]? = some e) :
    Calls Tryd.prog 19 #[.pointer (some ⟨b, 0, none⟩)] w fun r w' => r = .returned (.tuple #[.agg #[.bool e.k.neg, .string e.k.mag, .int .i64 e.k.e], .string e.x, .bool true]) ∧ ∃ L', (e :: L').Perm L ∧ Heap ah 0 L' ∧ Hp w0 (.blk b 63 [.slice A n c, .int .i64 next] (0, 0) :: .row A n c 65 5 (recs ES.cells L') :: Hr) w' := by
  have hln := (hh.sl_row (i := 1) rfl).recLen ES.len (by decide)
  have hcap := hh.rowCap (i := 1) rfl
  obtain ⟨y, hy⟩ := get_of_lt (l := L) (k := n) (by omega)
  have e1 : ((n + 1 : Nat) : Int) - 1 = (n : Int) := by omega
  have hs1 : splice (recs ES.cells L) (0 * 5) [.bool y.k.neg, .string y.k.mag, .int .i64 y.k.e, .int .i64 y.t, .string y.x] = recs ES.cells (L.set 0 y) := recs_splice ES.len (by omega)
  have hrl := recs_len ES.len L
  refine calls_vc (N := 47) (l := [.pointer (some ⟨b, 0, none⟩)]) Tryd.func19 rfl rfl (by simp) ?_
  refine sr ?_
  refine alC hh ?_
  intro b2 w2 hh
  refine aS (aB (wl_end (sr (mP ?_))))
  refine s_callf (ESfirst_calls _ (hh.cell_blk (i := 1) rfl rfl) (hh.sl_row (i := 2) rfl) (by omega) he) FnIs.out rfl (by decide) ?_
  rintro e_ w8 ⟨rfl, hb_⟩
  refine ⟨_, rfl, ?_⟩
  replace hh := hh.ext hb_
  obtain ⟨g, rfl⟩ := hh.row_some (i := 2) rfl (by omega)
  refine mT ?_
  refine exC ?_
  refine exC ?_
  refine exC ?_
  refine stC hh 0 [_,_,_] ?_
  intro ws hh
  replace hh : Hp _ (.blk _ _ [_, _, _] _ :: _) _ := hh
  refine aS (aB (wl_end (wc_seq (sr (mB ?_)))))
  refine notC ?_
  refine wl_end (cF (wc_skip (k_then (sr (mP ?_)))))
  refine s_nilCheck rfl (by decide) ?_
  refine faC ?_
  refine l1C hh 1 ?_
  refine lenC ?_
  refine subC (aI (wl_end (wc_seq ?_)))
  rw [e1]
  refine wc_drawn 11 [[(0, none)], [(22, some 0)], [(23, some 1)], [(24, some 2)], [(0, none)], [(26, some 4)], [(27, some 5)], [(28, some 6)], [(5, none)], [(29, some 7), (30, some 8)], [(31, some 9)]] [(10, 32), (9, 31), (8, 30), (7, 29), (6, 28), (5, 27), (4, 26), (3, 25), (2, 24), (1, 23), (0, 22)] hh mixed (by kernel_rfl) ?_
  refine dmP ?_
  refine dnc ?_
  refine dfa ?_
  refine dl1 1 ?_
  refine dmP ?_
  refine dnc ?_
  refine dfa ?_
  refine dl1 1 ?_
  refine dmI ?_
  refine dix (n) ?_
  refine dLF [_,_,_,_,_] (fun _ hj => hj.hp.recRow (f := ES.cells) (x := y) (l := L) (i := 2) rfl ES.len (by decide) hy) ?_
  refine dx_nil ?_
  intro f W hJ hV
  have hb_5 := hJ.bl
  obtain ⟨v32, v31, v30, v29, v28, v27, v26, v25, v24, v23, v22, _⟩ := hV
  replace hh := hJ.hp
  refine wl_cast (updL_K (eql_cons v32 (eql_cons v31 (eql_cons v30 (eql_cons v29 (eql_cons v28 (eql_cons v27 (eql_cons v26 (eql_cons v25 (eql_cons v24 (eql_cons v23 (eql_cons v22 eql_nil)))))))))))) ?_
  dsimp only [updK]
  clear hJ
  refine s_indexRow (k := 0) UIs.out TIs.size rfl rfl (by omega) (by omega) (by decide) ?_
  refine wl_store_row hh (i := 2) (vs := [_, _, _, _, _]) rfl rfl (ev_agg rfl) rfl TIs.out rfl (by omega) rfl ?_
  intro ws hh
  simp only [List.set_cons_zero, List.set_cons_succ] at hh
  rw [hs1] at hh
  refine wl_end (sr (mP (mP ?_)))
  refine s_nilCheck rfl (by decide) ?_
  refine faC ?_
  refine l1C hh 1 ?_
  refine mI ?_
  refine s_cutEnd (h := n) UIs.out TIs.size rfl rfl (by omega) (by omega) (by decide) ?_
  refine s_nilCheck rfl (by decide) ?_
  refine faC ?_
  refine stC hh 1 [_] ?_
  intro ws hh
  replace hh : Hp _ (_ :: .blk _ _ [_, _] _ :: _) _ := hh
  refine wl_end (sr (mP ?_))
  replace hh := hh.perm (List.perm_middle (l₁ := [_, _]))
  simp only [List.cons_append, List.nil_append] at hh
  replace hh := hh.cutRow (k := n) (by omega)
  rw [recs_take ES.len] at hh
  replace hh := hh.perm (List.perm_middle (l₁ := [_, _]))
  simp only [List.cons_append, List.nil_append] at hh
  have hp1 := perm_take hln he hy
  refine s_callf (ESsink_calls (at_ := 0) (s := 0) hh hT (fun e2 he2 => hok e2 (hp1.mem_iff.1 (List.mem_cons_of_mem _ he2))) (by omega) (by omega) (Sinks.start hhp.set0.take)) FnIs.out rfl (by decide) ?_
  rintro e_ w44 ⟨rfl, L', hp, hhp', hh⟩
  refine ⟨_, rfl, ?_⟩
  refine wl_end (sr ?_)
  refine lgC hh 2 [_,_,_] (mS ?_)
  refine stC hh 2 [_,_,_] ?_
  intro ws hh
  replace hh : Hp _ (_ :: _ :: .blk _ _ [_, _, _] _ :: _) _ := hh
  refine aS (aB (wl_end (wc_ret ?_)))
  refine retc3 (by first | exact .inr rfl | exact .inl rfl) rfl (r_cell rfl (lv_agg (vs := [_, _, _]) TIs.out (hh.rd_blk_at (i := 2) (n := 3) rfl rfl) rfl) (r_tmp (v_str rfl) (r_tmp (v_bool rfl) r_nil))) ?_
  replace hh := hh.sub (List.Sublist.cons_cons _ (List.Sublist.cons_cons _ (List.Sublist.cons _ (List.Sublist.refl _))))
  exact ⟨rfl, L', (hp.cons e).trans hp1, hhp', hh⟩
end Go.Proofs.YthmmofllajkejaaDoor
