/- The walks through ogeeref19: a queue by definition. -/
import Derived.Test.YthmmofllajkejaaGreatDoorShD
import Derived.Test.YthmmofllajkejaaGreatDoorHeapIC
import Derived.Test.YthmmofllajkejaaGreatDoorDraws
import Derived.Test.YthmmofllajkejaaGreatDoorRDy
namespace Go.Proofs.YthmmofllajkejaaGreatDoor
open Go.RowKit
-- umode
-- skipu
def RE.cells (e : Ent Int) : List Value := [.bool e.k.neg, .string e.k.mag, .int .i64 e.k.e, .int .i64 e.x, .int .i64 e.t]
theorem RE.len (e : Ent Int) : (RE.cells e).length = 5 := rfl
theorem RE.one (e : Ent Int) : (RE.cells e).all Value.oneCell' = true := rfl
theorem qput_calls {w0 w : World} {Hr : List HE} {b n c : Nat} {A : Option Addr} {next : Int} {L : List (Ent Int)} (hh : Hp w0 (.blk b 43 [.slice A n c, .int .i64 next] (0, 0) :: .row A n c 104 5 (recs RE.cells L) :: Hr) w)
    (key : NR) (x : Int) (hk : key.ok) (hn : n ≤ 100000) (hx1 : 0 ≤ next) (hx2 : next ≤ 1000000) :
    Calls Tryz.prog 77 #[.pointer (some ⟨b, 0, none⟩), .agg #[.bool key.neg, .string key.mag, .int .i64 key.e], .int .i64 x] w fun r w' => r = .returned (.tuple #[]) ∧ ∃ A' c', Hp w0 (.blk b 43 [.slice A' (n + 1) c', .int .i64 (next + 1)] (0, 0) :: .row A' (n + 1) c' 104 5 (recs RE.cells (L ++ [⟨nR key.d, next, x⟩])) :: Hr) w' := by
  obtain ⟨hk3, hk4, hk5⟩ := hk
  have e2 : recs RE.cells L ++ [.bool (nR key.d).neg, .string (nR key.d).mag, .int .i64 (nR key.d).e, .int .i64 x, .int .i64 next] = recs RE.cells (L ++ [⟨nR key.d, next, x⟩]) := by rw [recs_append, recs_one]; rfl
  refine calls_vc (N := 30) (l := [.pointer (some ⟨b, 0, none⟩), .agg #[.bool key.neg, .string key.mag, .int .i64 key.e], .int .i64 x]) Tryz.func77 rfl rfl (by simp) ?_
  refine sr ?_
  refine bxC hh [_,_,_] ?_
  intro b4 w4 hh
  refine wl_end (wc_seq ?_)
  refine wc_drawn2 [] [0] [0, 0, 2, 6, 14, 0, 32, 0, 0, 256, 768, 1792, 4064, 8160, 16382, 32767, 65535, 131071] 14 [[(0, none)], [(0, none)], [(7, some 1)], [(8, some 2)], [(9, some 3)], [(4, none)], [(11, some 5)], [(2, none)], [(0, none)], [(14, some 8)], [(15, some 9)], [(16, some 10)], [(12, some 6), (13, some 7), (17, some 11)], [(18, some 12)]] [(13, 19), (12, 18), (11, 17), (10, 16), (9, 15), (8, 14), (7, 13), (6, 12), (5, 11), (4, 10), (3, 9), (2, 8), (1, 7), (0, 6)] hh mixed (by kernel_rfl) alok_nil rfl (by repeat (first | exact np_ret | refine np_then ?_ | refine np_blk ?_)) ?_
  refine dmP ?_
  refine dmP ?_
  refine dnc ?_
  refine dfa ?_
  refine dl1 1 ?_
  refine dlg 0 [_,_,_] ?_
  refine dC (fun _ hj => yForm_calls key _ (by omega) (by omega) (by omega)) ?_
  refine dmI ?_
  refine dmP ?_
  refine dnc ?_
  refine dfa ?_
  refine dl1 1 ?_
  refine dB [_,_,_,_,_] ?_
  refine dBS [_,_,_,_,_] ?_
  refine dx_nil ?_
  intro f W hJ hV _
  have hb_1 := hJ.bl
  obtain ⟨v19, v18, v17, v16, v15, v14, v13, v12, v11, v10, v9, v8, v7, v6, _⟩ := hV
  obtain ⟨A19, c19, e19, f19⟩ : Rows _ _ _ (f 13) W := v19
  replace hh := hJ.hp
  refine wl_cast (updL_K (eql_cons e19 (eql_cons v18 (eql_cons v17 (eql_cons v16 (eql_cons v15 (eql_cons v14 (eql_cons v13 (eql_cons v12 (eql_cons v11 (eql_cons v10 (eql_cons v9 (eql_cons v8 (eql_cons v7 (eql_cons v6 eql_nil))))))))))))))) ?_
  dsimp only [updK]
  clear e19 hJ
  refine wl_append hh (i := 2) rfl rfl rfl (f19) UIs.out TIs.out rfl (by decide) (by first | rfl | exact oneCells_u8n _ | exact oneCells_u64s _ | exact oneCells_i64s _ | exact recs_oneCells NR.one _) (by omega) (by omega) (by decide) ?_
  intro A20 c20 w20 hh
  simp only [List.set_cons_zero, List.set_cons_succ] at hh
  refine s_nilCheck rfl (by decide) ?_
  refine faC ?_
  refine stC hh 1 [_] ?_
  intro ws hh
  replace hh : Hp _ (_ :: .blk _ _ [_, _] _ :: _) _ := hh
  refine wl_end (wc_region (mP ?_))
  refine s_nilCheck rfl (by decide) ?_
  refine faC ?_
  refine l1C hh 1 ?_
  refine addC ?_
  refine s_nilCheck rfl (by decide) ?_
  refine faC ?_
  refine stC hh 1 [_] ?_
  intro ws hh
  replace hh : Hp _ (_ :: .blk _ _ [_, _] _ :: _) _ := hh
  refine wl_nil ?_
  refine ret0 (by first | exact .inr rfl | exact .inl rfl) rfl  ?_
  rw [e2] at hh
  replace hh := hh.sub (List.Sublist.cons _ (List.Sublist.cons_cons _ (List.Sublist.cons_cons _ (List.Sublist.refl _))))
  exact ⟨rfl, _, _, hh⟩
/-- The place of the first one. -/
theorem qfirst_calls {b n c : Nat} {A : Option Addr} {L : List (Ent Int)} (w : World) (h0 : w.cell? ⟨b, 0, none⟩ = some (.slice A n c)) (hS : Sl w A n 5 (recs RE.cells L)) (hn : n ≤ 1000000) (hok : ∀ e ∈ L, e.k.ok) (k : Nat) (hk : ∀ e ∈ L, Sz k e.k.d) (hkn : k ≤ 3000000) :
    Calls Tryz.prog 82 #[.pointer (some ⟨b, 0, none⟩)] w fun r w' => ∃ v : Int, r = .returned (.int .i64 v) ∧ ((n = 0 ∧ v = -1) ∨ ∃ m : Nat, v = m ∧ m < n ∧ ∀ (k : Nat) (a y : Ent Int), L[k]? = some a → L[m]? = some y → ah a y = false) ∧ Below w.heap.size w w' := by
  have hln := hS.recLen RE.len (by decide)
  have hh := Hp.start w
  refine calls_vc (N := 62) (l := [.pointer (some ⟨b, 0, none⟩)]) Tryz.func82 rfl rfl (by simp) ?_
  refine sr (aI (wl_end (sr (aI (wl_end (wc_seq (sr (aI (wl_end (wc_block ?_))))))))))
  refine wc_loop2 [3, 4, 5, 6, 7, 8, 9, 10, 11, 12, 13, 14, 15, 16, 17, 18, 19, 20, 21, 22, 23, 24, 25, 26, 27, 28, 29, 30, 31, 32, 33, 34, 35, 36, 37, 38, 39, 40, 41, 42, 43, 44, 45, 46, 47, 48, 49, 50, 51, 52, 53, 54, 55, 56, 57, 58, 59, 60] 3 4
    (fun v3 v4 w' => ∃ (i : Nat) (v : Int), i ≤ n ∧ v4 = .int .i64 i ∧ v3 = .int .i64 v ∧ ((i = 0 ∧ v = -1) ∨ ∃ m : Nat, v = m ∧ m < i ∧ ∀ (k : Nat) (a y : Ent Int), k < i → L[k]? = some a → L[m]? = some y → ah a y = false) ∧ Hp w [] w')
    (fun _ j _ => n - (intOf j).toNat) ?_ ?_
  · exact ⟨0, -1, by omega, rfl, rfl, .inl ⟨rfl, rfl⟩, hh⟩
  · clear hh
    rintro ρ' v3 v4 w' ⟨i, v, hi, rfl, rfl, hm, hh⟩
    by_cases hlt : i < n
    · obtain ⟨ad, rfl, hr⟩ := hS.2 (by omega)
      obtain ⟨x, hx⟩ := get_of_lt (l := L) (k := i) (by omega)
      rcases hm with ⟨hi0, rfl⟩ | ⟨m, rfl, hmi, hmin⟩
      · refine wc_seq (sr (mI (mP ?_)))
        refine s_nilCheck rfl (by decide) ?_
        refine s_fieldAddrA FIs.out rfl (by decide) ?_
        refine s_load1 TIs.out rfl (below_cell hh.below h0) (by decide) ?_
        refine lenC ?_
        refine lssC (wl_end (cT (wc_skip (k_then (wc_seq (wc_block (wc_seq (sr (mI ?_)))))))))
        refine lssC (wl_end (cT (sr (mI (aI (wl_end ?_))))))
        refine wc_exit ?_
        refine k_exit (b_here (k_then (wc_region (mI ?_))))
        refine addC (aI (wl_nil (k_then ?_)))
        refine ⟨⟨i + 1, i, by omega, rfl, rfl, .inr ⟨i, rfl, by omega, fun k a y hk2 ha hy => ?_⟩, hh⟩, by show n - (i + 1) < n - i; omega, ?_⟩
        · obtain rfl : k = i := by omega
          rw [ha] at hy
          cases hy
          exact ah_ord.irr _
        · (repeat (first | exact agree_mask _ _ _ | refine agree_upd rfl ?_ | refine agree_mask2 rfl ?_))
      · obtain ⟨y, hy⟩ := get_of_lt (l := L) (k := m) (by omega)
        have mx := List.mem_of_getElem? hx
        have my := List.mem_of_getElem? hy
        have hc := fun w1 => yCmp_calls x.k y.k w1 (hok x mx) (hok y my) ((hk y my).ok (by omega)) (by have := (((hk x mx).sub (hk y my)).ok (by omega)).1; omega)
        rcases d_tri x.k.d y.k.d with h | h | h
        · rw [cmpD_of_lt h] at hc
          have hxy : ah x y = true := decide_eq_true (.inl h)
          refine wc_seq (sr (mI (mP ?_)))
          refine s_nilCheck rfl (by decide) ?_
          refine s_fieldAddrA FIs.out rfl (by decide) ?_
          refine s_load1 TIs.out rfl (below_cell hh.below h0) (by decide) ?_
          refine lenC ?_
          refine lssC (wl_end (cT (wc_skip (k_then (wc_seq (wc_block (wc_seq (sr (mI ?_)))))))))
          refine lssC (wl_end (cF (wc_skip (k_then (wc_seq ?_)))))
          refine wc_drawn 16 [[(0, none)], [(18, some 0)], [(19, some 1)], [(20, some 2)], [(4, none)], [(21, some 3), (22, some 4)], [(23, some 5)], [(24, some 6)], [(0, none)], [(26, some 8)], [(27, some 9)], [(28, some 10)], [(3, none)], [(29, some 11), (30, some 12)], [(31, some 13)], [(32, some 14)]] [(15, 33), (14, 32), (13, 31), (12, 30), (11, 29), (10, 28), (9, 27), (8, 26), (7, 25), (6, 24), (5, 23), (4, 22), (3, 21), (2, 20), (1, 19), (0, 18)] hh mixed (by kernel_rfl) ?_
          refine dmP ?_
          refine dnc ?_
          refine dfA ?_
          refine dlF (fun _ hj => below_cell hj.hp.below h0) ?_
          refine dmI ?_
          refine dis (i) ?_
          refine dfA ?_
          refine dLF [_,_,_] (fun _ hj => (((hr.ext hj.hp.below).recAt RE.len hx).drop 0).take 3) ?_
          refine dmP ?_
          refine dnc ?_
          refine dfA ?_
          refine dlF (fun _ hj => below_cell hj.hp.below h0) ?_
          refine dmI ?_
          refine dis (m) ?_
          refine dfA ?_
          refine dLF [_,_,_] (fun _ hj => (((hr.ext hj.hp.below).recAt RE.len hy).drop 0).take 3) ?_
          refine dx_nil ?_
          intro f W hJ hV
          have hb_7 := hJ.bl
          obtain ⟨v33, v32, v31, v30, v29, v28, v27, v26, v25, v24, v23, v22, v21, v20, v19, v18, _⟩ := hV
          replace hh := hJ.hp
          refine wl_cast (updL_K (eql_cons v33 (eql_cons v32 (eql_cons v31 (eql_cons v30 (eql_cons v29 (eql_cons v28 (eql_cons v27 (eql_cons v26 (eql_cons v25 (eql_cons v24 (eql_cons v23 (eql_cons v22 (eql_cons v21 (eql_cons v20 (eql_cons v19 (eql_cons v18 eql_nil))))))))))))))))) ?_
          dsimp only [updK]
          clear hJ
          refine s_callf (hc _) FnIs.out rfl (by decide) ?_
          rintro e_ w34 ⟨rfl, hb_⟩
          refine ⟨_, rfl, ?_⟩
          replace hh := hh.ext hb_
          refine aI (wl_end (wc_seq ?_))
          refine wc_drawn 22 [[(5, none)], [(35, some 0)], [(36, some 1)], [(5, none), (37, some 2)], [(38, some 3), (37, some 2)], [(39, some 4), (37, some 2)], [(0, none), (40, some 5)], [(41, some 6), (40, some 5)], [(42, some 7), (40, some 5)], [(43, some 8), (40, some 5)], [(4, none), (40, some 5)], [(44, some 9), (45, some 10), (40, some 5)], [(46, some 11), (40, some 5)], [(47, some 12), (40, some 5)], [(0, none), (40, some 5)], [(49, some 14), (40, some 5)], [(50, some 15), (40, some 5)], [(51, some 16), (40, some 5)], [(3, none), (40, some 5)], [(52, some 17), (53, some 18), (40, some 5)], [(54, some 19), (40, some 5)], [(55, some 20), (40, some 5)]] [(21, 56), (20, 55), (19, 54), (18, 53), (17, 52), (16, 51), (15, 50), (14, 49), (13, 48), (12, 47), (11, 46), (10, 45), (9, 44), (8, 43), (7, 42), (6, 41), (5, 40), (4, 39), (3, 38), (2, 37), (1, 36), (0, 35)] hh mixed (by kernel_rfl) ?_
          refine dmI ?_
          refine dlss ?_
          refine dmB ?_
          first | refine dS ?_ | refine dU ?_ | refine dG (dmI ?_)
          first | refine dS ?_ | refine dU ?_ | refine dG (deql ?_)
          first | refine dS ?_ | refine dU ?_ | refine dG (dmB ?_)
          first | refine dS ?_ | refine dU ?_ | refine dG (dmP ?_)
          first | refine dS ?_ | refine dU ?_ | refine dG (dnc ?_)
          first | refine dS ?_ | refine dU ?_ | refine dG (dfA ?_)
          first | refine dS ?_ | refine dU ?_ | refine dG (dlF (fun _ hj => trivial) ?_)
          first | refine dS ?_ | refine dU ?_ | refine dG (dmI ?_)
          first | refine dS ?_ | refine dU ?_ | refine dG (dis (i) ?_)
          first | refine dS ?_ | refine dU ?_ | refine dG (dfA ?_)
          first | refine dS ?_ | refine dU ?_ | refine dG (dlF (fun _ hj => trivial) ?_)
          first | refine dS ?_ | refine dU ?_ | refine dG (dmP ?_)
          first | refine dS ?_ | refine dU ?_ | refine dG (dnc ?_)
          first | refine dS ?_ | refine dU ?_ | refine dG (dfA ?_)
          first | refine dS ?_ | refine dU ?_ | refine dG (dlF (fun _ hj => trivial) ?_)
          first | refine dS ?_ | refine dU ?_ | refine dG (dmI ?_)
          first | refine dS ?_ | refine dU ?_ | refine dG (dis (m) ?_)
          first | refine dS ?_ | refine dU ?_ | refine dG (dfA ?_)
          first | refine dS ?_ | refine dU ?_ | refine dG (dlF (fun _ hj => trivial) ?_)
          refine dx_nil ?_
          intro f W hJ hV
          have hb_8 := hJ.bl
          obtain ⟨v56, v55, v54, v53, v52, v51, v50, v49, v48, v47, v46, v45, v44, v43, v42, v41, v40, v39, v38, v37, v36, v35, _⟩ := hV
          replace hh := hJ.hp
          refine wl_cast (updL_K (eql_cons v56 (eql_cons v55 (eql_cons v54 (eql_cons v53 (eql_cons v52 (eql_cons v51 (eql_cons v50 (eql_cons v49 (eql_cons v48 (eql_cons v47 (eql_cons v46 (eql_cons v45 (eql_cons v44 (eql_cons v43 (eql_cons v42 (eql_cons v41 (eql_cons v40 (eql_cons v39 (eql_cons v38 (eql_cons v37 (eql_cons v36 (eql_cons v35 eql_nil))))))))))))))))))))))) ?_
          dsimp only [updK]
          clear hJ
          first | refine gS ?_ | (refine gT ?_; refine lssC ?_) | refine gV ?_
          first | refine gS ?_ | (refine gT ?_; (first | refine pkT ?_ | refine pkF ?_)) | refine gV ?_
          first | refine pkT ?_ | refine pkF ?_
          refine wl_end (cT (wc_region (mI (aI (wl_nil (b_norm (k_then (wc_region (mI ?_)))))))))
          refine addC (aI (wl_nil (k_then ?_)))
          refine ⟨⟨i + 1, i, by omega, rfl, rfl, .inr ⟨i, rfl, by omega, fun k a z hk2 ha hz => ?_⟩, hh⟩, by show n - (i + 1) < n - i; omega, ?_⟩
          · rw [hx] at hz
            cases hz
            by_cases hki : k = i
            · subst hki
              rw [hx] at ha
              cases ha
              exact ah_ord.irr _
            · exact ah_ord.tr _ _ _ (ah_ord.as _ _ hxy) (hmin k a y (by omega) ha hy)
          · (repeat (first | exact agree_mask _ _ _ | refine agree_upd rfl ?_ | refine agree_mask2 rfl ?_))
        · rw [h, cmpD_self] at hc
          have c1 : ∀ (w1 : World), Rd w1 ad (recs RE.cells L) → w1.cell? (((ad.add (i * 5)).add 4)) = some (.int .i64 x.t) := fun w1 hr1 => (hr1.recAt RE.len hx) 4 _ rfl
          have c2 : ∀ (w1 : World), Rd w1 ad (recs RE.cells L) → w1.cell? (((ad.add (m * 5)).add 4)) = some (.int .i64 y.t) := fun w1 hr1 => (hr1.recAt RE.len hy) 4 _ rfl
          by_cases ht : x.t < y.t
          · have hxy : ah x y = true := decide_eq_true (.inr ⟨h, ht⟩)
            refine wc_seq (sr (mI (mP ?_)))
            refine s_nilCheck rfl (by decide) ?_
            refine s_fieldAddrA FIs.out rfl (by decide) ?_
            refine s_load1 TIs.out rfl (below_cell hh.below h0) (by decide) ?_
            refine lenC ?_
            refine lssC (wl_end (cT (wc_skip (k_then (wc_seq (wc_block (wc_seq (sr (mI ?_)))))))))
            refine lssC (wl_end (cF (wc_skip (k_then (wc_seq ?_)))))
            refine wc_drawn 16 [[(0, none)], [(18, some 0)], [(19, some 1)], [(20, some 2)], [(4, none)], [(21, some 3), (22, some 4)], [(23, some 5)], [(24, some 6)], [(0, none)], [(26, some 8)], [(27, some 9)], [(28, some 10)], [(3, none)], [(29, some 11), (30, some 12)], [(31, some 13)], [(32, some 14)]] [(15, 33), (14, 32), (13, 31), (12, 30), (11, 29), (10, 28), (9, 27), (8, 26), (7, 25), (6, 24), (5, 23), (4, 22), (3, 21), (2, 20), (1, 19), (0, 18)] hh mixed (by kernel_rfl) ?_
            refine dmP ?_
            refine dnc ?_
            refine dfA ?_
            refine dlF (fun _ hj => below_cell hj.hp.below h0) ?_
            refine dmI ?_
            refine dis (i) ?_
            refine dfA ?_
            refine dLF [_,_,_] (fun _ hj => (((hr.ext hj.hp.below).recAt RE.len hx).drop 0).take 3) ?_
            refine dmP ?_
            refine dnc ?_
            refine dfA ?_
            refine dlF (fun _ hj => below_cell hj.hp.below h0) ?_
            refine dmI ?_
            refine dis (m) ?_
            refine dfA ?_
            refine dLF [_,_,_] (fun _ hj => (((hr.ext hj.hp.below).recAt RE.len hy).drop 0).take 3) ?_
            refine dx_nil ?_
            intro f W hJ hV
            have hb_7 := hJ.bl
            obtain ⟨v33, v32, v31, v30, v29, v28, v27, v26, v25, v24, v23, v22, v21, v20, v19, v18, _⟩ := hV
            replace hh := hJ.hp
            refine wl_cast (updL_K (eql_cons v33 (eql_cons v32 (eql_cons v31 (eql_cons v30 (eql_cons v29 (eql_cons v28 (eql_cons v27 (eql_cons v26 (eql_cons v25 (eql_cons v24 (eql_cons v23 (eql_cons v22 (eql_cons v21 (eql_cons v20 (eql_cons v19 (eql_cons v18 eql_nil))))))))))))))))) ?_
            dsimp only [updK]
            clear hJ
            refine s_callf (hc _) FnIs.out rfl (by decide) ?_
            rintro e_ w34 ⟨rfl, hb_⟩
            refine ⟨_, rfl, ?_⟩
            replace hh := hh.ext hb_
            refine aI (wl_end (wc_seq ?_))
            refine wc_drawn 22 [[(5, none)], [(35, some 0)], [(36, some 1)], [(5, none), (37, some 2)], [(38, some 3), (37, some 2)], [(39, some 4), (37, some 2)], [(0, none), (40, some 5)], [(41, some 6), (40, some 5)], [(42, some 7), (40, some 5)], [(43, some 8), (40, some 5)], [(4, none), (40, some 5)], [(44, some 9), (45, some 10), (40, some 5)], [(46, some 11), (40, some 5)], [(47, some 12), (40, some 5)], [(0, none), (40, some 5)], [(49, some 14), (40, some 5)], [(50, some 15), (40, some 5)], [(51, some 16), (40, some 5)], [(3, none), (40, some 5)], [(52, some 17), (53, some 18), (40, some 5)], [(54, some 19), (40, some 5)], [(55, some 20), (40, some 5)]] [(21, 56), (20, 55), (19, 54), (18, 53), (17, 52), (16, 51), (15, 50), (14, 49), (13, 48), (12, 47), (11, 46), (10, 45), (9, 44), (8, 43), (7, 42), (6, 41), (5, 40), (4, 39), (3, 38), (2, 37), (1, 36), (0, 35)] hh mixed (by kernel_rfl) ?_
            refine dmI ?_
            refine dlss ?_
            refine dmB ?_
            first | refine dS ?_ | refine dU ?_ | refine dG (dmI ?_)
            first | refine dS ?_ | refine dU ?_ | refine dG (deql ?_)
            first | refine dS ?_ | refine dU ?_ | refine dG (dmB ?_)
            first | refine dS ?_ | refine dU ?_ | refine dG (dmP ?_)
            first | refine dS ?_ | refine dU ?_ | refine dG (dnc ?_)
            first | refine dS ?_ | refine dU ?_ | refine dG (dfA ?_)
            first | refine dS ?_ | refine dU ?_ | refine dG (dlF (fun _ hj => below_cell hj.hp.below h0) ?_)
            first | refine dS ?_ | refine dU ?_ | refine dG (dmI ?_)
            first | refine dS ?_ | refine dU ?_ | refine dG (dis (i) ?_)
            first | refine dS ?_ | refine dU ?_ | refine dG (dfA ?_)
            first | refine dS ?_ | refine dU ?_ | refine dG (dlF (fun _ hj => c1 _ (hr.ext hj.hp.below)) ?_)
            first | refine dS ?_ | refine dU ?_ | refine dG (dmP ?_)
            first | refine dS ?_ | refine dU ?_ | refine dG (dnc ?_)
            first | refine dS ?_ | refine dU ?_ | refine dG (dfA ?_)
            first | refine dS ?_ | refine dU ?_ | refine dG (dlF (fun _ hj => below_cell hj.hp.below h0) ?_)
            first | refine dS ?_ | refine dU ?_ | refine dG (dmI ?_)
            first | refine dS ?_ | refine dU ?_ | refine dG (dis (m) ?_)
            first | refine dS ?_ | refine dU ?_ | refine dG (dfA ?_)
            first | refine dS ?_ | refine dU ?_ | refine dG (dlF (fun _ hj => c2 _ (hr.ext hj.hp.below)) ?_)
            refine dx_nil ?_
            intro f W hJ hV
            have hb_8 := hJ.bl
            obtain ⟨v56, v55, v54, v53, v52, v51, v50, v49, v48, v47, v46, v45, v44, v43, v42, v41, v40, v39, v38, v37, v36, v35, _⟩ := hV
            replace hh := hJ.hp
            refine wl_cast (updL_K (eql_cons v56 (eql_cons v55 (eql_cons v54 (eql_cons v53 (eql_cons v52 (eql_cons v51 (eql_cons v50 (eql_cons v49 (eql_cons v48 (eql_cons v47 (eql_cons v46 (eql_cons v45 (eql_cons v44 (eql_cons v43 (eql_cons v42 (eql_cons v41 (eql_cons v40 (eql_cons v39 (eql_cons v38 (eql_cons v37 (eql_cons v36 (eql_cons v35 eql_nil))))))))))))))))))))))) ?_
            dsimp only [updK]
            clear hJ
            first | refine gS ?_ | (refine gT ?_; refine lssC ?_) | refine gV ?_
            first | refine gS ?_ | (refine gT ?_; (first | refine pkT ?_ | refine pkF ?_)) | refine gV ?_
            first | refine pkT ?_ | refine pkF ?_
            refine wl_end (cT (wc_region (mI (aI (wl_nil (b_norm (k_then (wc_region (mI ?_)))))))))
            refine addC (aI (wl_nil (k_then ?_)))
            refine ⟨⟨i + 1, i, by omega, rfl, rfl, .inr ⟨i, rfl, by omega, fun k a z hk2 ha hz => ?_⟩, hh⟩, by show n - (i + 1) < n - i; omega, ?_⟩
            · rw [hx] at hz
              cases hz
              by_cases hki : k = i
              · subst hki
                rw [hx] at ha
                cases ha
                exact ah_ord.irr _
              · exact ah_ord.tr _ _ _ (ah_ord.as _ _ hxy) (hmin k a y (by omega) ha hy)
            · (repeat (first | exact agree_mask _ _ _ | refine agree_upd rfl ?_ | refine agree_mask2 rfl ?_))
          · have hxy : ah x y = false := decide_eq_false fun h2 => by rcases h2 with h2 | h2 <;> grind
            refine wc_seq (sr (mI (mP ?_)))
            refine s_nilCheck rfl (by decide) ?_
            refine s_fieldAddrA FIs.out rfl (by decide) ?_
            refine s_load1 TIs.out rfl (below_cell hh.below h0) (by decide) ?_
            refine lenC ?_
            refine lssC (wl_end (cT (wc_skip (k_then (wc_seq (wc_block (wc_seq (sr (mI ?_)))))))))
            refine lssC (wl_end (cF (wc_skip (k_then (wc_seq ?_)))))
            refine wc_drawn 16 [[(0, none)], [(18, some 0)], [(19, some 1)], [(20, some 2)], [(4, none)], [(21, some 3), (22, some 4)], [(23, some 5)], [(24, some 6)], [(0, none)], [(26, some 8)], [(27, some 9)], [(28, some 10)], [(3, none)], [(29, some 11), (30, some 12)], [(31, some 13)], [(32, some 14)]] [(15, 33), (14, 32), (13, 31), (12, 30), (11, 29), (10, 28), (9, 27), (8, 26), (7, 25), (6, 24), (5, 23), (4, 22), (3, 21), (2, 20), (1, 19), (0, 18)] hh mixed (by kernel_rfl) ?_
            refine dmP ?_
            refine dnc ?_
            refine dfA ?_
            refine dlF (fun _ hj => below_cell hj.hp.below h0) ?_
            refine dmI ?_
            refine dis (i) ?_
            refine dfA ?_
            refine dLF [_,_,_] (fun _ hj => (((hr.ext hj.hp.below).recAt RE.len hx).drop 0).take 3) ?_
            refine dmP ?_
            refine dnc ?_
            refine dfA ?_
            refine dlF (fun _ hj => below_cell hj.hp.below h0) ?_
            refine dmI ?_
            refine dis (m) ?_
            refine dfA ?_
            refine dLF [_,_,_] (fun _ hj => (((hr.ext hj.hp.below).recAt RE.len hy).drop 0).take 3) ?_
            refine dx_nil ?_
            intro f W hJ hV
            have hb_7 := hJ.bl
            obtain ⟨v33, v32, v31, v30, v29, v28, v27, v26, v25, v24, v23, v22, v21, v20, v19, v18, _⟩ := hV
            replace hh := hJ.hp
            refine wl_cast (updL_K (eql_cons v33 (eql_cons v32 (eql_cons v31 (eql_cons v30 (eql_cons v29 (eql_cons v28 (eql_cons v27 (eql_cons v26 (eql_cons v25 (eql_cons v24 (eql_cons v23 (eql_cons v22 (eql_cons v21 (eql_cons v20 (eql_cons v19 (eql_cons v18 eql_nil))))))))))))))))) ?_
            dsimp only [updK]
            clear hJ
            refine s_callf (hc _) FnIs.out rfl (by decide) ?_
            rintro e_ w34 ⟨rfl, hb_⟩
            refine ⟨_, rfl, ?_⟩
            replace hh := hh.ext hb_
            refine aI (wl_end (wc_seq ?_))
            refine wc_drawn 22 [[(5, none)], [(35, some 0)], [(36, some 1)], [(5, none), (37, some 2)], [(38, some 3), (37, some 2)], [(39, some 4), (37, some 2)], [(0, none), (40, some 5)], [(41, some 6), (40, some 5)], [(42, some 7), (40, some 5)], [(43, some 8), (40, some 5)], [(4, none), (40, some 5)], [(44, some 9), (45, some 10), (40, some 5)], [(46, some 11), (40, some 5)], [(47, some 12), (40, some 5)], [(0, none), (40, some 5)], [(49, some 14), (40, some 5)], [(50, some 15), (40, some 5)], [(51, some 16), (40, some 5)], [(3, none), (40, some 5)], [(52, some 17), (53, some 18), (40, some 5)], [(54, some 19), (40, some 5)], [(55, some 20), (40, some 5)]] [(21, 56), (20, 55), (19, 54), (18, 53), (17, 52), (16, 51), (15, 50), (14, 49), (13, 48), (12, 47), (11, 46), (10, 45), (9, 44), (8, 43), (7, 42), (6, 41), (5, 40), (4, 39), (3, 38), (2, 37), (1, 36), (0, 35)] hh mixed (by kernel_rfl) ?_
            refine dmI ?_
            refine dlss ?_
            refine dmB ?_
            first | refine dS ?_ | refine dU ?_ | refine dG (dmI ?_)
            first | refine dS ?_ | refine dU ?_ | refine dG (deql ?_)
            first | refine dS ?_ | refine dU ?_ | refine dG (dmB ?_)
            first | refine dS ?_ | refine dU ?_ | refine dG (dmP ?_)
            first | refine dS ?_ | refine dU ?_ | refine dG (dnc ?_)
            first | refine dS ?_ | refine dU ?_ | refine dG (dfA ?_)
            first | refine dS ?_ | refine dU ?_ | refine dG (dlF (fun _ hj => below_cell hj.hp.below h0) ?_)
            first | refine dS ?_ | refine dU ?_ | refine dG (dmI ?_)
            first | refine dS ?_ | refine dU ?_ | refine dG (dis (i) ?_)
            first | refine dS ?_ | refine dU ?_ | refine dG (dfA ?_)
            first | refine dS ?_ | refine dU ?_ | refine dG (dlF (fun _ hj => c1 _ (hr.ext hj.hp.below)) ?_)
            first | refine dS ?_ | refine dU ?_ | refine dG (dmP ?_)
            first | refine dS ?_ | refine dU ?_ | refine dG (dnc ?_)
            first | refine dS ?_ | refine dU ?_ | refine dG (dfA ?_)
            first | refine dS ?_ | refine dU ?_ | refine dG (dlF (fun _ hj => below_cell hj.hp.below h0) ?_)
            first | refine dS ?_ | refine dU ?_ | refine dG (dmI ?_)
            first | refine dS ?_ | refine dU ?_ | refine dG (dis (m) ?_)
            first | refine dS ?_ | refine dU ?_ | refine dG (dfA ?_)
            first | refine dS ?_ | refine dU ?_ | refine dG (dlF (fun _ hj => c2 _ (hr.ext hj.hp.below)) ?_)
            refine dx_nil ?_
            intro f W hJ hV
            have hb_8 := hJ.bl
            obtain ⟨v56, v55, v54, v53, v52, v51, v50, v49, v48, v47, v46, v45, v44, v43, v42, v41, v40, v39, v38, v37, v36, v35, _⟩ := hV
            replace hh := hJ.hp
            refine wl_cast (updL_K (eql_cons v56 (eql_cons v55 (eql_cons v54 (eql_cons v53 (eql_cons v52 (eql_cons v51 (eql_cons v50 (eql_cons v49 (eql_cons v48 (eql_cons v47 (eql_cons v46 (eql_cons v45 (eql_cons v44 (eql_cons v43 (eql_cons v42 (eql_cons v41 (eql_cons v40 (eql_cons v39 (eql_cons v38 (eql_cons v37 (eql_cons v36 (eql_cons v35 eql_nil))))))))))))))))))))))) ?_
            dsimp only [updK]
            clear hJ
            first | refine gS ?_ | (refine gT ?_; refine lssC ?_) | refine gV ?_
            first | refine gS ?_ | (refine gT ?_; (first | refine pkT ?_ | refine pkF ?_)) | refine gV ?_
            first | refine pkT ?_ | refine pkF ?_
            refine wl_end (cF (wc_skip (b_norm (k_then (wc_region (mI ?_))))))
            refine addC (aI (wl_nil (k_then ?_)))
            refine ⟨⟨i + 1, m, by omega, rfl, rfl, .inr ⟨m, rfl, by omega, fun k a z hk2 ha hz => ?_⟩, hh⟩, by show n - (i + 1) < n - i; omega, ?_⟩
            · by_cases hki : k = i
              · subst hki
                rw [hx] at ha
                rw [hy] at hz
                cases ha
                cases hz
                exact hxy
              · exact hmin k a z (by omega) ha hz
            · (repeat (first | exact agree_mask _ _ _ | refine agree_upd rfl ?_ | refine agree_mask2 rfl ?_))
        · rw [cmpD_of_gt h] at hc
          have hxy : ah x y = false := decide_eq_false fun h2 => by rcases h2 with h2 | h2 <;> grind
          refine wc_seq (sr (mI (mP ?_)))
          refine s_nilCheck rfl (by decide) ?_
          refine s_fieldAddrA FIs.out rfl (by decide) ?_
          refine s_load1 TIs.out rfl (below_cell hh.below h0) (by decide) ?_
          refine lenC ?_
          refine lssC (wl_end (cT (wc_skip (k_then (wc_seq (wc_block (wc_seq (sr (mI ?_)))))))))
          refine lssC (wl_end (cF (wc_skip (k_then (wc_seq ?_)))))
          refine wc_drawn 16 [[(0, none)], [(18, some 0)], [(19, some 1)], [(20, some 2)], [(4, none)], [(21, some 3), (22, some 4)], [(23, some 5)], [(24, some 6)], [(0, none)], [(26, some 8)], [(27, some 9)], [(28, some 10)], [(3, none)], [(29, some 11), (30, some 12)], [(31, some 13)], [(32, some 14)]] [(15, 33), (14, 32), (13, 31), (12, 30), (11, 29), (10, 28), (9, 27), (8, 26), (7, 25), (6, 24), (5, 23), (4, 22), (3, 21), (2, 20), (1, 19), (0, 18)] hh mixed (by kernel_rfl) ?_
          refine dmP ?_
          refine dnc ?_
          refine dfA ?_
          refine dlF (fun _ hj => below_cell hj.hp.below h0) ?_
          refine dmI ?_
          refine dis (i) ?_
          refine dfA ?_
          refine dLF [_,_,_] (fun _ hj => (((hr.ext hj.hp.below).recAt RE.len hx).drop 0).take 3) ?_
          refine dmP ?_
          refine dnc ?_
          refine dfA ?_
          refine dlF (fun _ hj => below_cell hj.hp.below h0) ?_
          refine dmI ?_
          refine dis (m) ?_
          refine dfA ?_
          refine dLF [_,_,_] (fun _ hj => (((hr.ext hj.hp.below).recAt RE.len hy).drop 0).take 3) ?_
          refine dx_nil ?_
          intro f W hJ hV
          have hb_7 := hJ.bl
          obtain ⟨v33, v32, v31, v30, v29, v28, v27, v26, v25, v24, v23, v22, v21, v20, v19, v18, _⟩ := hV
          replace hh := hJ.hp
          refine wl_cast (updL_K (eql_cons v33 (eql_cons v32 (eql_cons v31 (eql_cons v30 (eql_cons v29 (eql_cons v28 (eql_cons v27 (eql_cons v26 (eql_cons v25 (eql_cons v24 (eql_cons v23 (eql_cons v22 (eql_cons v21 (eql_cons v20 (eql_cons v19 (eql_cons v18 eql_nil))))))))))))))))) ?_
          dsimp only [updK]
          clear hJ
          refine s_callf (hc _) FnIs.out rfl (by decide) ?_
          rintro e_ w34 ⟨rfl, hb_⟩
          refine ⟨_, rfl, ?_⟩
          replace hh := hh.ext hb_
          refine aI (wl_end (wc_seq ?_))
          refine wc_drawn 22 [[(5, none)], [(35, some 0)], [(36, some 1)], [(5, none), (37, some 2)], [(38, some 3), (37, some 2)], [(39, some 4), (37, some 2)], [(0, none), (40, some 5)], [(41, some 6), (40, some 5)], [(42, some 7), (40, some 5)], [(43, some 8), (40, some 5)], [(4, none), (40, some 5)], [(44, some 9), (45, some 10), (40, some 5)], [(46, some 11), (40, some 5)], [(47, some 12), (40, some 5)], [(0, none), (40, some 5)], [(49, some 14), (40, some 5)], [(50, some 15), (40, some 5)], [(51, some 16), (40, some 5)], [(3, none), (40, some 5)], [(52, some 17), (53, some 18), (40, some 5)], [(54, some 19), (40, some 5)], [(55, some 20), (40, some 5)]] [(21, 56), (20, 55), (19, 54), (18, 53), (17, 52), (16, 51), (15, 50), (14, 49), (13, 48), (12, 47), (11, 46), (10, 45), (9, 44), (8, 43), (7, 42), (6, 41), (5, 40), (4, 39), (3, 38), (2, 37), (1, 36), (0, 35)] hh mixed (by kernel_rfl) ?_
          refine dmI ?_
          refine dlss ?_
          refine dmB ?_
          first | refine dS ?_ | refine dU ?_ | refine dG (dmI ?_)
          first | refine dS ?_ | refine dU ?_ | refine dG (deql ?_)
          first | refine dS ?_ | refine dU ?_ | refine dG (dmB ?_)
          first | refine dS ?_ | refine dU ?_ | refine dG (dmP ?_)
          first | refine dS ?_ | refine dU ?_ | refine dG (dnc ?_)
          first | refine dS ?_ | refine dU ?_ | refine dG (dfA ?_)
          first | refine dS ?_ | refine dU ?_ | refine dG (dlF (fun _ hj => trivial) ?_)
          first | refine dS ?_ | refine dU ?_ | refine dG (dmI ?_)
          first | refine dS ?_ | refine dU ?_ | refine dG (dis (i) ?_)
          first | refine dS ?_ | refine dU ?_ | refine dG (dfA ?_)
          first | refine dS ?_ | refine dU ?_ | refine dG (dlF (fun _ hj => trivial) ?_)
          first | refine dS ?_ | refine dU ?_ | refine dG (dmP ?_)
          first | refine dS ?_ | refine dU ?_ | refine dG (dnc ?_)
          first | refine dS ?_ | refine dU ?_ | refine dG (dfA ?_)
          first | refine dS ?_ | refine dU ?_ | refine dG (dlF (fun _ hj => trivial) ?_)
          first | refine dS ?_ | refine dU ?_ | refine dG (dmI ?_)
          first | refine dS ?_ | refine dU ?_ | refine dG (dis (m) ?_)
          first | refine dS ?_ | refine dU ?_ | refine dG (dfA ?_)
          first | refine dS ?_ | refine dU ?_ | refine dG (dlF (fun _ hj => trivial) ?_)
          refine dx_nil ?_
          intro f W hJ hV
          have hb_8 := hJ.bl
          obtain ⟨v56, v55, v54, v53, v52, v51, v50, v49, v48, v47, v46, v45, v44, v43, v42, v41, v40, v39, v38, v37, v36, v35, _⟩ := hV
          replace hh := hJ.hp
          refine wl_cast (updL_K (eql_cons v56 (eql_cons v55 (eql_cons v54 (eql_cons v53 (eql_cons v52 (eql_cons v51 (eql_cons v50 (eql_cons v49 (eql_cons v48 (eql_cons v47 (eql_cons v46 (eql_cons v45 (eql_cons v44 (eql_cons v43 (eql_cons v42 (eql_cons v41 (eql_cons v40 (eql_cons v39 (eql_cons v38 (eql_cons v37 (eql_cons v36 (eql_cons v35 eql_nil))))))))))))))))))))))) ?_
          dsimp only [updK]
          clear hJ
          first | refine gS ?_ | (refine gT ?_; refine lssC ?_) | refine gV ?_
          first | refine gS ?_ | (refine gT ?_; (first | refine pkT ?_ | refine pkF ?_)) | refine gV ?_
          first | refine pkT ?_ | refine pkF ?_
          refine wl_end (cF (wc_skip (b_norm (k_then (wc_region (mI ?_))))))
          refine addC (aI (wl_nil (k_then ?_)))
          refine ⟨⟨i + 1, m, by omega, rfl, rfl, .inr ⟨m, rfl, by omega, fun k a z hk2 ha hz => ?_⟩, hh⟩, by show n - (i + 1) < n - i; omega, ?_⟩
          · by_cases hki : k = i
            · subst hki
              rw [hx] at ha
              rw [hy] at hz
              cases ha
              cases hz
              exact hxy
            · exact hmin k a z (by omega) ha hz
          · (repeat (first | exact agree_mask _ _ _ | refine agree_upd rfl ?_ | refine agree_mask2 rfl ?_))
    · refine wc_seq (sr (mI (mP ?_)))
      refine s_nilCheck rfl (by decide) ?_
      refine s_fieldAddrA FIs.out rfl (by decide) ?_
      refine s_load1 TIs.out rfl (below_cell hh.below h0) (by decide) ?_
      refine lenC ?_
      refine lssC (wl_end (cF ?_))
      refine wc_exit ?_
      refine k_exit (k_exit (b_here (k_then (sr (mI (aI (wl_end (wc_ret ?_))))))))
      refine ret1 (by first | exact .inr rfl | exact .inl rfl) rfl (v_int rfl) ?_
      refine ⟨v, rfl, ?_, hh.below⟩
      obtain rfl : i = n := by omega
      rcases hm with hm | ⟨m, h1, h2, h3⟩
      · exact .inl hm
      · exact .inr ⟨m, h1, h2, fun k a y ha hy => h3 k a y (by have := (List.getElem?_eq_some_iff.1 ha).1; omega) ha hy⟩
theorem qout_calls {w0 w : World} {Hr : List HE} {b n c at_ : Nat} {A : Option Addr} {next : Int} {L : List (Ent Int)} (hh : Hp w0 (.blk b 43 [.slice A n c, .int .i64 next] (0, 0) :: .row A n c 104 5 (recs RE.cells L) :: Hr) w)
    (hn : n ≤ 100000) (hat : at_ < n) :
    Calls Tryz.prog 83 #[.pointer (some ⟨b, 0, none⟩), .int .i64 at_] w fun r w' => r = .returned (.tuple #[]) ∧ ∃ A' c', Hp w0 (.blk b 43 [.slice A' (n - 1) c', .int .i64 next] (0, 0) :: .row A' (n - 1) c' 104 5 (recs RE.cells (L.eraseIdx at_)) :: Hr) w' := by
  have hln := (hh.sl_row (i := 1) rfl).recLen RE.len (by decide)
  have hcap := hh.rowCap (i := 1) rfl
  have e1 : (recs RE.cells L).take (at_ * 5) = recs RE.cells (L.take at_) := recs_take RE.len L at_
  have e2 : (recs RE.cells L).drop ((at_ + 1) * 5) = recs RE.cells (L.drop (at_ + 1)) := recs_drop RE.len L (at_ + 1)
  have o1 : ((recs RE.cells L).take (at_ * 5)).all Value.oneCell' = true := by rw [e1]; exact recs_oneCells RE.one _
  have o2 : ((recs RE.cells L).drop ((at_ + 1) * 5)).all Value.oneCell' = true := by rw [e2]; exact recs_oneCells RE.one _
  have e3 : recs RE.cells (L.eraseIdx at_) = (recs RE.cells L).take (at_ * 5) ++ (recs RE.cells L).drop ((at_ + 1) * 5) := by rw [e1, e2, ← recs_append, List.eraseIdx_eq_take_drop_succ]
  have e4 : at_ + (n - (at_ + 1)) = n - 1 := by omega
  refine calls_vc (N := 23) (l := [.pointer (some ⟨b, 0, none⟩), .int .i64 at_]) Tryz.func83 rfl rfl (by simp) ?_
  refine wc_drawn2 [] [0] [0, 0, 0, 4, 12, 28, 0, 124, 254, 0, 512, 1536, 3584, 0, 8192, 32256, 65534, 131071, 262143, 524287] 16 [[(0, none)], [], [(0, none)], [(6, some 2)], [(7, some 3)], [(8, some 4)], [(1, none)], [(9, some 5), (10, some 6)], [(5, some 1), (11, some 7)], [(0, none)], [(13, some 9)], [(14, some 10)], [(15, some 11)], [(1, none)], [(17, some 13)], [(16, some 12), (18, some 14)]] [(15, 19), (14, 18), (13, 17), (12, 16), (11, 15), (10, 14), (9, 13), (8, 12), (7, 11), (6, 10), (5, 9), (4, 8), (3, 7), (2, 6), (1, 5), (0, 4)] hh mixed (by kernel_rfl) alok_nil rfl (by repeat (first | exact np_ret | refine np_then ?_ | refine np_blk ?_)) ?_
  refine dmP ?_
  refine dx_build0 (i := 1) UIs.out TIs.out (fun w1 hj => hj.bl.size) ?_
  refine dmP ?_
  refine dnc ?_
  refine dfa ?_
  refine dl1 0 ?_
  refine dmI ?_
  refine dx_val (i := 7) (fun ρ1 w1 hj hR => x_cutEnd (h := at_) UIs.out TIs.size (show ρ1 9 = Value.slice _ _ _ from hR.1) (show ρ1 10 = Value.int _ _ from hR.2.1) (by omega) (by omega)) ?_
  refine dx_append0 (i := 8) (fun ρ1 w1 hj hR => hR.1) (fun ρ1 w1 hj hR => ⟨_, _, (show ρ1 11 = Value.slice _ _ _ from hR.2.1), (hj.hp.sl_row (i := 1) rfl).front (by omega)⟩) UIs.out TIs.out rfl (by decide) (by first | rfl | assumption) (by unfold maxLen; omega) (by omega) (fun w1 hj => hj.bl.size) ?_
  refine dmP ?_
  refine dnc ?_
  refine dfa ?_
  refine dl1 0 ?_
  refine dmI ?_
  refine dadd ?_
  refine dx_val (i := 15) (fun ρ1 w1 hj hR => x_cutAny (l := at_ + 1) UIs.out TIs.size (show ρ1 16 = Value.slice _ _ _ from hR.1) (show ρ1 18 = Value.int _ _ from hR.2.1) (by omega) (by omega) (by omega)) ?_
  refine dx_nil ?_
  intro f W hJ hV _
  have hb_0 := hJ.bl
  obtain ⟨v19, v18, v17, v16, v15, v14, v13, v12, v11, v10, v9, v8, v7, v6, v5, v4, _⟩ := hV
  obtain ⟨g5, e5, _⟩ : Own0 _ _ _ (f 1) W := v5
  obtain ⟨A12, c12, e12, o12⟩ : OwnV _ _ _ _ _ (f 8) W := v12
  replace hh := JJ.newOwn hh hJ.hp o12
  clear o12
  refine wl_cast (updL_K (eql_cons v19 (eql_cons v18 (eql_cons v17 (eql_cons v16 (eql_cons v15 (eql_cons v14 (eql_cons v13 (eql_cons e12 (eql_cons v11 (eql_cons v10 (eql_cons v9 (eql_cons v8 (eql_cons v7 (eql_cons v6 (eql_cons e5 (eql_cons v4 eql_nil))))))))))))))))) ?_
  dsimp only [updK]
  clear e5 e12 hJ
  refine wl_append hh (i := 0) rfl rfl rfl ((hh.sl_row (i := 2) rfl).back (by omega) hcap) UIs.out TIs.out rfl (by decide) ?one (by omega) (by omega) (by decide) ?kk
  case one => first | rfl | assumption | exact oneCells_i64s _ | exact oneCells_u8s _
  intro A20 c20 w20 hh
  simp only [List.set_cons_zero] at hh
  rw [← e3, e4] at hh
  rw [e4]
  refine s_nilCheck rfl (by decide) ?_
  refine faC ?_
  refine stC hh 1 [_] ?_
  intro ws hh
  replace hh : Hp _ (_ :: .blk _ _ [_, _] _ :: _) _ := hh
  refine wl_nil ?_
  refine ret0 (by first | exact .inr rfl | exact .inl rfl) rfl  ?_
  replace hh := hh.sub (List.Sublist.cons_cons _ (List.Sublist.cons_cons _ (List.Sublist.cons _ (List.Sublist.refl _))))
  replace hh := hh.perm (List.perm_middle (l₁ := [_]))
  simp only [List.cons_append, List.nil_append] at hh
  exact ⟨rfl, _, _, hh⟩
theorem qdrop_calls {w0 w : World} {Hr : List HE} {b n c : Nat} {A : Option Addr} {next : Int} {L : List (Ent Int)} (hh : Hp w0 (.blk b 43 [.slice A n c, .int .i64 next] (0, 0) :: .row A n c 104 5 (recs RE.cells L) :: Hr) w)
    (above : NR) (ho : above.ok) (hok : ∀ e ∈ L, e.k.ok) (hn : n ≤ 100000) (k : Nat) (hk : ∀ e ∈ L, Sz k e.k.d) (hka : Sz k above.d) (hkn : k ≤ 3000000) :
    Calls Tryz.prog 79 #[.pointer (some ⟨b, 0, none⟩), .agg #[.bool above.neg, .string above.mag, .int .i64 above.e]] w fun r w' => r = .returned (.int .i64 ((n : Int) - ((L.filter (EIkeep above)).length : Nat))) ∧ ∃ A' c', Hp w0 (.blk b 43 [.slice A' (L.filter (EIkeep above)).length c', .int .i64 next] (0, 0) :: .row A' (L.filter (EIkeep above)).length c' 104 5 (recs RE.cells (L.filter (EIkeep above))) :: Hr) w' := by
  have hln := (hh.sl_row (i := 1) rfl).recLen RE.len (by decide)
  have hcut : ∀ k, ((L.take k).filter (EIkeep above)).length ≤ n := fun k => Nat.le_trans (List.length_filter_le _ _) (by rw [List.length_take]; omega)
  refine calls_vc (N := 51) (l := [.pointer (some ⟨b, 0, none⟩), .agg #[.bool above.neg, .string above.mag, .int .i64 above.e]]) Tryz.func79 rfl rfl (by simp) ?_
  refine sr ?_
  refine bxC hh [_,_,_] ?_
  intro b3 w3 hh
  refine aI (wl_end (sr (aL (wl_end (wc_seq (sr (aI (wl_end (wc_block ?_)))))))))
  replace hh := hh.nil_row 104 5
  refine wc_loop2 [5, 6, 8, 9, 10, 11, 12, 13, 14, 15, 16, 17, 18, 19, 20, 21, 22, 23, 24, 25, 26, 27, 28, 29, 30, 31, 32, 33, 34, 35, 36, 37] 5 6
    (fun v5 v6 w' => ∃ (i c5 : Nat) (A5 : Option Addr), i ≤ n ∧ v6 = .int .i64 i ∧ v5 = .slice A5 ((L.take i).filter (EIkeep above)).length c5 ∧ Hp w0 (.row A5 ((L.take i).filter (EIkeep above)).length c5 104 5 (recs RE.cells ((L.take i).filter (EIkeep above))) :: .blk b3 25 [.bool above.neg, .string above.mag, .int .i64 above.e] (0, 0) :: .blk b 43 [.slice A n c, .int .i64 next] (0, 0) :: .row A n c 104 5 (recs RE.cells L) :: Hr) w')
    (fun _ j _ => n - (intOf j).toNat) ?_ ?_
  · exact ⟨0, 0, none, by omega, rfl, rfl, hh⟩
  · clear hh
    rintro ρ' v5 v6 w' ⟨i, c5, A5, hi, rfl, rfl, hh⟩
    have hci := hcut i
    by_cases hlt : i < n
    · obtain ⟨x, hx⟩ := get_of_lt (l := L) (k := i) (by omega)
      have mx := List.mem_of_getElem? hx
      have ox := hok x mx
      have htk : (L.take (i + 1)).filter (EIkeep above) = (L.take i).filter (EIkeep above) ++ [x].filter (EIkeep above) := by rw [take_snoc hx, List.filter_append]
      have hc := fun w1 => yCmp_calls x.k above w1 ox ho (hka.ok (by omega)) (by have := (((hk x mx).sub hka).ok (by omega)).1; omega)
      obtain ⟨g, rfl⟩ := hh.row_some (i := 3) rfl (by omega)
      cases hkp : decide (above.d < x.k.d) with
      | true =>
        have h := of_decide_eq_true hkp
        rw [cmpD_of_gt h] at hc
        have hf : [x].filter (EIkeep above) = [] := by rw [List.filter_cons, EIkeep, hkp]; rfl
        rw [hf, List.append_nil] at htk
        refine wc_seq (sr (mI (mP ?_)))
        refine s_nilCheck rfl (by decide) ?_
        refine faC ?_
        refine l1C hh 2 ?_
        refine lenC ?_
        refine lssC (wl_end (cT (wc_skip (k_then (wc_seq (wc_block (wc_seq ?_)))))))
        refine wc_drawn 9 [[(0, none)], [(17, some 0)], [(18, some 1)], [(19, some 2)], [(6, none)], [(20, some 3), (21, some 4)], [(22, some 5)], [(23, some 6)], [(3, none)]] [(8, 25), (7, 24), (6, 23), (5, 22), (4, 21), (3, 20), (2, 19), (1, 18), (0, 17)] hh mixed (by kernel_rfl) ?_
        refine dmP ?_
        refine dnc ?_
        refine dfa ?_
        refine dl1 2 ?_
        refine dmI ?_
        refine dix (i) ?_
        refine dfa ?_
        refine dLF [_,_,_] (fun _ hj => (hj.hp.recRow (f := RE.cells) (x := x) (l := L) (i := 3) rfl RE.len (by decide) hx).take 3) ?_
        refine dlg 1 [_,_,_] ?_
        refine dx_nil ?_
        intro f W hJ hV
        have hb_5 := hJ.bl
        obtain ⟨v25, v24, v23, v22, v21, v20, v19, v18, v17, _⟩ := hV
        replace hh := hJ.hp
        refine wl_cast (updL_K (eql_cons v25 (eql_cons v24 (eql_cons v23 (eql_cons v22 (eql_cons v21 (eql_cons v20 (eql_cons v19 (eql_cons v18 (eql_cons v17 eql_nil)))))))))) ?_
        dsimp only [updK]
        clear hJ
        refine s_callf (hc _) FnIs.out rfl (by decide) ?_
        rintro e_ w26 ⟨rfl, hb_⟩
        refine ⟨_, rfl, ?_⟩
        replace hh := hh.ext hb_
        refine leqC (wl_end (cF (wc_skip (b_norm (k_then (wc_region (mI ?_)))))))
        refine addC (aI (wl_nil (k_then ?_)))
        refine ⟨⟨i + 1, c5, A5, by omega, rfl, by rw [htk]; rfl, by rw [htk]; exact hh⟩, by show n - (i + 1) < n - i; omega, ?_⟩
        (repeat (first | exact agree_mask _ _ _ | refine agree_upd rfl ?_ | refine agree_mask2 rfl ?_))
      | false =>
        have h := of_decide_eq_false hkp
        have hle : cmpD x.k.d above.d ≤ 0 := by
          rcases d_tri x.k.d above.d with h2 | h2 | h2
          · rw [cmpD_of_lt h2]; omega
          · rw [h2, cmpD_self]; omega
          · exact absurd h2 h
        generalize cmpD x.k.d above.d = cc at *
        have hf : [x].filter (EIkeep above) = [x] := by rw [List.filter_cons, EIkeep, hkp]; rfl
        rw [hf] at htk
        have hl2 : ((L.take (i + 1)).filter (EIkeep above)).length = ((L.take i).filter (EIkeep above)).length + 1 := by rw [htk, List.length_append]; rfl
        have hr2 : recs RE.cells ((L.take (i + 1)).filter (EIkeep above)) = recs RE.cells ((L.take i).filter (EIkeep above)) ++ [.bool x.k.neg, .string x.k.mag, .int .i64 x.k.e, .int .i64 x.x, .int .i64 x.t] := by rw [htk, recs_append, recs_one]; rfl
        refine wc_seq (sr (mI (mP ?_)))
        refine s_nilCheck rfl (by decide) ?_
        refine faC ?_
        refine l1C hh 2 ?_
        refine lenC ?_
        refine lssC (wl_end (cT (wc_skip (k_then (wc_seq (wc_block (wc_seq ?_)))))))
        refine wc_drawn 9 [[(0, none)], [(17, some 0)], [(18, some 1)], [(19, some 2)], [(6, none)], [(20, some 3), (21, some 4)], [(22, some 5)], [(23, some 6)], [(3, none)]] [(8, 25), (7, 24), (6, 23), (5, 22), (4, 21), (3, 20), (2, 19), (1, 18), (0, 17)] hh mixed (by kernel_rfl) ?_
        refine dmP ?_
        refine dnc ?_
        refine dfa ?_
        refine dl1 2 ?_
        refine dmI ?_
        refine dix (i) ?_
        refine dfa ?_
        refine dLF [_,_,_] (fun _ hj => (hj.hp.recRow (f := RE.cells) (x := x) (l := L) (i := 3) rfl RE.len (by decide) hx).take 3) ?_
        refine dlg 1 [_,_,_] ?_
        refine dx_nil ?_
        intro f W hJ hV
        have hb_5 := hJ.bl
        obtain ⟨v25, v24, v23, v22, v21, v20, v19, v18, v17, _⟩ := hV
        replace hh := hJ.hp
        refine wl_cast (updL_K (eql_cons v25 (eql_cons v24 (eql_cons v23 (eql_cons v22 (eql_cons v21 (eql_cons v20 (eql_cons v19 (eql_cons v18 (eql_cons v17 eql_nil)))))))))) ?_
        dsimp only [updK]
        clear hJ
        refine s_callf (hc _) FnIs.out rfl (by decide) ?_
        rintro e_ w26 ⟨rfl, hb_⟩
        refine ⟨_, rfl, ?_⟩
        replace hh := hh.ext hb_
        refine leqC (wl_end (cT (wc_region (mL (mP ?_)))))
        refine s_nilCheck rfl (by decide) ?_
        refine faC ?_
        refine l1C hh 2 ?_
        refine mI ?_
        refine s_indexRow (k := i) UIs.out TIs.size rfl rfl (by omega) (by omega) (by decide) ?_
        refine s_load (vs := [_, _, _, _, _]) TIs.out rfl (hh.recRow (f := RE.cells) (x := x) (l := L) (i := 3) rfl RE.len (by decide) hx) rfl (by decide) ?_
        refine wl_buildSlice hh (cs := [_, _, _, _, _]) UIs.out TIs.out (evp_cons (ev_agg rfl) evp_nil) rfl rfl (by decide) (by decide) (by decide) rfl (by decide) ?_
        intro b36 w36 hh
        refine wl_append hh (i := 1) rfl rfl rfl (hh.sl_row (i := 0) rfl) UIs.out TIs.out rfl (by decide) (by first | rfl | exact oneCells_u8n _ | exact oneCells_u64s _ | exact oneCells_i64s _ | exact recs_oneCells NR.one _) (by omega) (by omega) (by decide) ?_
        intro A37 c37 w37 hh
        simp only [List.set_cons_zero, List.set_cons_succ] at hh
        replace hh := hh.sub (List.sublist_cons_self _ _)
        refine aL (wl_nil (b_norm (k_then (wc_region (mI ?_)))))
        refine addC (aI (wl_nil (k_then ?_)))
        replace hh := hh.sub (List.Sublist.cons_cons _ (List.Sublist.cons_cons _ (List.Sublist.cons_cons _ (List.Sublist.cons_cons _ (List.Sublist.refl _)))))
        refine ⟨⟨i + 1, c37, A37, by omega, rfl, by rw [hl2]; rfl, by rw [hl2, hr2]; exact hh⟩, by show n - (i + 1) < n - i; omega, ?_⟩
        (repeat (first | exact agree_mask _ _ _ | refine agree_upd rfl ?_ | refine agree_mask2 rfl ?_))
    · have hin : L.take i = L := List.take_of_length_le (by omega)
      rw [hin] at hh hci ⊢
      refine wc_seq (sr (mI (mP ?_)))
      refine s_nilCheck rfl (by decide) ?_
      refine faC ?_
      refine l1C hh 2 ?_
      refine lenC ?_
      refine lssC (wl_end (cF ?_))
      refine wc_exit ?_
      refine k_exit (k_exit (b_here (k_then (sr (mP ?_)))))
      refine s_nilCheck rfl (by decide) ?_
      refine faC ?_
      refine l1C hh 2 ?_
      refine lenC (mL (lenC ?_))
      refine subC (aI (wl_end (sr (mP (mL ?_)))))
      refine s_nilCheck rfl (by decide) ?_
      refine faC ?_
      refine stC hh 2 [_] ?_
      intro ws hh
      replace hh : Hp _ (_ :: _ :: .blk _ _ [_, _] _ :: _) _ := hh
      refine wl_end (sr (mI (aI (wl_end (wc_ret ?_)))))
      refine ret1 (by first | exact .inr rfl | exact .inl rfl) rfl (v_int rfl) ?_
      replace hh := hh.sub (List.Sublist.cons_cons _ (List.Sublist.cons _ (List.Sublist.cons_cons _ (List.Sublist.cons _ (List.Sublist.refl _)))))
      replace hh := hh.perm (List.perm_middle (l₁ := [_]))
      simp only [List.cons_append, List.nil_append] at hh
      exact ⟨rfl, A5, c5, hh⟩
end Go.Proofs.YthmmofllajkejaaGreatDoor
