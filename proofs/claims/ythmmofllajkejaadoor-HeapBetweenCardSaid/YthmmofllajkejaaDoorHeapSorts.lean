/- The walk through the law HeapSorts. -/
import Derived.Test.YthmmofllajkejaaDoorShD
import Derived.Test.YthmmofllajkejaaDoorLawH
namespace Go.Proofs.YthmmofllajkejaaDoor
open Go.RowKit
-- umode
-- skipu
/-- The entry of the k-th number. -/
def entA (l : List NR) (k : Nat) : Ent Int := ⟨nR (((l[k]?).getD ⟨false, ByteArray.mk #[], 0⟩).d), k, k⟩
def entsA (l : List NR) (i : Nat) : List (Ent Int) := (List.range i).map (entA l)
theorem entsA_succ (l : List NR) (i : Nat) : entsA l (i + 1) = entsA l i ++ [entA l i] := by simp [entsA, List.range_succ]
theorem entA_at {l : List NR} {k : Nat} {x : NR} (h : l[k]? = some x) : entA l k = ⟨nR x.d, k, k⟩ := by rw [entA, h]; rfl
theorem mem_entsA {l : List NR} {i : Nat} {e : Ent Int} (h : e ∈ entsA l i) : ∃ k, k < i ∧ e = entA l k := by
  simp only [entsA, List.mem_map, List.mem_range] at h
  obtain ⟨k, h1, rfl⟩ := h
  exact ⟨k, h1, rfl⟩
theorem entsA_ok {l : List NR} {i : Nat} (hi : i ≤ l.length) (hl : ∀ a ∈ l.take i, farH a = false) : ∀ e ∈ entsA l i, e.k.ok := fun e he => by
  obtain ⟨k, hk, rfl⟩ := mem_entsA he
  obtain ⟨x, hx⟩ := get_of_lt (l := l) (k := k) (by omega)
  rw [entA_at hx]
  exact (fine_of (hl x (List.mem_of_getElem? (i := k) (by rw [List.getElem?_take, if_pos hk]; exact hx)))).nr.ok
theorem splice_i64s {l : List Int} {k : Nat} {x : Int} (h : k < l.length) : splice (i64s l) (k * 1) [.int .i64 x] = i64s (l.set k x) := by
  rw [Nat.mul_one]
  simp only [splice, i64s, List.length_singleton, ← List.map_take, ← List.map_drop]
  rw [show [Value.int IntKind.i64 x] = [x].map (Value.int .i64) from rfl, ← List.map_append, ← List.map_append]
  congr 1
  rw [List.set_eq_take_append_cons_drop, if_pos h, List.append_assoc]
  rfl
theorem heapSorts_calls (L : Option Addr) (n c : Nat) (l : List NR) (w : World) (hT : Tab w) (hS : Sl w L n 3 (recs NR.cells l)) :
    Calls Tryd.prog 4 #[.slice L n c] w fun r w' => r = .returned (.bool true) ∧ Below w.heap.size w w' := by
  have hh := Hp.start w
  have hln := hS.recLen NR.len (by omega)
  by_cases h5 : 200 < n
  · refine calls_vc (N := 125) (l := [.slice L n c]) Tryd.func4 rfl rfl (by simp) ?_
    refine sr (aB (wl_end (wc_seq (sr (mL (lenC ?_))))))
    refine gtrC (wl_end (cT (sr ?_)))
    refine s_callf (hawake_calls _ (hT.hp hh)) FnIs.out rfl (by decide) ?_
    rintro e_ w19 ⟨rfl, hb_⟩
    refine ⟨_, rfl, ?_⟩
    replace hh := hh.ext hb_
    refine aB (wl_end (wc_ret (k_ret ?_)))
    refine ret1 (by first | exact .inr rfl | exact .inl rfl) rfl (v_bool rfl) ?_
    exact ⟨rfl, hh.below⟩
  · refine calls_vc (N := 125) (l := [.slice L n c]) Tryd.func4 rfl rfl (by simp) ?_
    refine sr (aB (wl_end (wc_seq (sr (mL (lenC ?_))))))
    refine gtrC (wl_end (cF (wc_skip (k_then (sr ?_)))))
    refine s_callf (EInew_calls hh) FnIs.out rfl (by decide) ?_
    rintro e_ w20 ⟨b, rfl, hh⟩
    refine ⟨_, rfl, ?_⟩
    refine aP (wl_end (wc_seq (sr (mP ?_))))
    first | refine s_eqp_f UIs.out rfl rfl (by decide) ?_ | refine s_eqp_t UIs.out rfl rfl (by decide) ?_
    refine wl_end (cF (wc_skip (k_then (wc_seq (sr (aI (wl_end (wc_block ?_))))))))
    refine wc_loop1 [2, 4, 23, 24, 25, 26, 27, 28, 29, 30, 31, 32, 33, 34, 35, 36, 37, 38, 39, 40, 41] 4
      (fun j w' => ∃ (i c : Nat) (A : Option Addr) (Q : List (Ent Int)), i ≤ n ∧ j = .int .i64 i ∧ (∀ a ∈ l.take i, farH a = false) ∧ QI Q (entsA l i) i ∧ Hp w [.blk b 50 [.slice A i c, .int .i64 i] (0, 0), .row A i c 52 5 (recs EI.cells Q)] w')
      (fun j _ => n - (intOf j).toNat) ?_ ?_
    · exact ⟨0, 0, none, [], Nat.zero_le _, rfl, fun a h => by simp at h, QI.nil, hh⟩
    · clear hh
      rintro ρ' j w' ⟨i, c', A, Q, hi, rfl, hfar, hq, hh⟩
      by_cases hlt : i < n
      · obtain ⟨x, hx⟩ := get_of_lt (l := l) (k := i) (by omega)
        obtain ⟨ad, rfl, hr⟩ := hS.at_ (by omega)
        refine wc_seq (sr (mI (mL (lenC ?_))))
        refine lssC (wl_end (cT (wc_skip (k_then (wc_seq (wc_block (wc_seq (sr (mL (mI ?_))))))))))
        refine s_indexAddr UIs.out TIs.size rfl rfl (by omega) (by omega) (by decide) ?_
        refine s_load (vs := [_, _, _]) TIs.out rfl ((hr.ext hh.below).recAt NR.len hx) rfl (by decide) ?_
        refine s_callf (hfar_calls x _) FnIs.out rfl (by decide) ?_
        rintro e_ w33 ⟨rfl, hb_⟩
        refine ⟨_, rfl, ?_⟩
        replace hh := hh.ext hb_
        cases hf : farH x with
        | true =>
          refine wl_end (cT (sr ?_))
          refine s_callf (hawake_calls _ (hT.hp hh)) FnIs.out rfl (by decide) ?_
          rintro e_ w34 ⟨rfl, hb_⟩
          refine ⟨_, rfl, ?_⟩
          replace hh := hh.ext hb_
          refine aB (wl_end (wc_ret (k_ret (b_ret (k_ret (k_ret (b_ret (k_ret ?_))))))))
          refine ret1 (by first | exact .inr rfl | exact .inl rfl) rfl (v_bool rfl) ?_
          exact ⟨rfl, hh.below⟩
        | false =>
          have hfx := fine_of hf
          refine wl_end (cF (wc_skip (k_then (wc_region (mP (mL (mI ?_)))))))
          refine s_indexAddr UIs.out TIs.size rfl rfl (by omega) (by omega) (by decide) ?_
          refine s_load (vs := [_, _, _]) TIs.out rfl ((hr.ext hh.below).recAt NR.len hx) rfl (by decide) ?_
          refine mI ?_
          refine s_callf (EIput_calls hh hT x (i : Int) hfx.ok hfx.nr.ok (hq.ok (entsA_ok (by omega) hfar)) (by omega) (by omega) (by omega) hq.heap) FnIs.out rfl (by decide) ?_
          rintro e_ w41 ⟨rfl, A', c2, Q', hp, hhp, hh⟩
          refine ⟨_, rfl, ?_⟩
          have hq' := hq.put (by omega) rfl hp hhp
          rw [← entA_at hx, ← entsA_succ] at hq'
          refine wl_nil (b_norm (k_then (wc_region (mI ?_))))
          refine addC (aI (wl_nil (k_then ?_)))
          refine ⟨⟨i + 1, c2, A', Q', by omega, rfl, ?_, hq', hh⟩, by show n - (i + 1) < n - i; omega, ?_⟩
          · rw [take_snoc hx]
            exact List.forall_mem_append.2 ⟨hfar, fun a ha => by obtain rfl := List.mem_singleton.1 ha; exact hf⟩
          · (repeat (first | exact agree_mask _ _ _ | refine agree_upd rfl ?_ | refine agree_mask2 rfl ?_))
      · obtain rfl : i = n := by omega
        have hok := entsA_ok (by omega) hfar
        rw [List.take_of_length_le (by omega)] at hfar
        refine wc_seq (sr (mI (mL (lenC ?_))))
        refine lssC (wl_end (cF ?_))
        refine wc_exit ?_
        refine k_exit (k_exit (b_here (k_then (sr (mL (lenC ?_))))))
        refine wl_make hh rfl rfl rfl rfl UIs.out TIs.out rfl (by omega) (by omega) (by decide) ?_
        intro b44 w44 hh
        refine aL (wl_end (sr ?_))
        refine bdC [_,_,_] ?_
        refine alC hh ?_
        intro b6 w6 hh
        refine stC hh 0 [_,_,_] ?_
        intro ws hh
        replace hh : Hp _ (.blk _ _ [_, _, _] _ :: _) _ := hh
        refine aI (wl_end (wc_seq (sr (aI (wl_end (wc_block ?_))))))
        have hz : zrep i [Value.int IntKind.i64 0] = i64s (List.replicate i 0) := by rw [zrep_one]; simp [i64s]
        rw [hz] at hh
        replace hh := hh.sub (List.Sublist.cons_cons _ (List.Sublist.cons_cons _ (List.Sublist.cons_cons _ (List.Sublist.cons_cons _ List.Sublist.slnil))))
        refine wc_loop2 [2, 7, 8, 9, 10, 11, 12, 46, 47, 48, 49, 50, 51, 52, 53, 54, 55, 56, 57, 58, 59, 60, 61, 62, 63, 64, 65, 66, 67, 68, 69, 70, 71, 72, 73, 74, 75, 76, 77, 78, 79, 80, 81, 82, 83, 84, 85, 86, 87, 88, 89, 90, 91, 92, 93, 94, 95, 96, 97, 98, 99, 100, 101, 102, 103, 104, 105, 106, 107, 108] 8 7
          (fun v8 v7 w' => ∃ (j m c : Nat) (A : Option Addr) (Q B : List (Ent Int)) (seen : List Int) (p : NR) (pt : Int), j + m = i ∧ v8 = .int .i64 j ∧ v7 = .int .i64 pt ∧ QI Q B i ∧ B.length = m ∧ (∀ e ∈ B, e.k.ok ∧ ∃ k : Nat, k < i ∧ e = entA l k ∧ seen[k]? = some 0) ∧ seen.length = i ∧ (j = 0 ∨ ∀ e ∈ B, ah e ⟨p, pt, 0⟩ = false) ∧ p.ok ∧ Hp w [.blk b6 25 [.bool p.neg, .string p.mag, .int .i64 p.e] (0, 0), .row (some ⟨b44, 0, none⟩) i i 3 1 (i64s seen), .blk b 50 [.slice A m c, .int .i64 i] (0, 0), .row A m c 52 5 (recs EI.cells Q)] w')
          (fun v _ _ => i - (intOf v).toNat) ?_ ?_
        · refine ⟨0, i, c', A, Q, entsA l i, List.replicate i 0, ⟨false, ByteArray.mk #[], 0⟩, -1, by omega, rfl, rfl, hq, by simp [entsA], fun e he => ?_, by simp, .inl rfl, ⟨by show (0 : Nat) ≤ _; omega, by show (-10000000 : Int) ≤ 0; omega, by show (0 : Int) ≤ _; omega⟩, hh⟩
          obtain ⟨k, hk, rfl⟩ := mem_entsA he
          exact ⟨hok _ he, k, hk, rfl, by simp [hk]⟩
        · clear hh hq
          rintro ρ'' v8 v7 w'' ⟨j, m, c2, A, Q, B, seen, p, pt, hjm, rfl, rfl, hq, hBl, hB, hsl, hprev, hp, hh⟩
          have hQo := hq.ok fun e he => (hB e he).1
          have hQl := (hh.sl_row (i := 3) rfl).recLen EI.len (by decide)
          by_cases hlt : j < i
          · obtain ⟨m, rfl⟩ : ∃ r, m = r + 1 := ⟨m - 1, by omega⟩
            obtain ⟨ad, rfl, hr⟩ := hS.at_ (by omega)
            obtain ⟨e, he⟩ := get_of_lt (l := Q) (k := 0) (by omega)
            have heB := hq.perm.mem_iff.1 (List.mem_of_getElem? he)
            obtain ⟨heo, k, hk, hek, hs0⟩ := hB e heB
            obtain ⟨x, hx⟩ := get_of_lt (l := l) (k := k) (by omega)
            rw [entA_at hx] at hek
            subst hek
            obtain ⟨at_, hat⟩ := List.mem_iff_getElem?.1 heB
            have hfx := fine_of (hfar x (List.mem_of_getElem? hx))
            have hkl := i64s_at hs0
            have hrl : (i64s seen).length = i := by rw [length_i64s, hsl]
            have hcm := fun w1 hT1 => dCmp_calls p (nR x.d) w1 hT1 hp heo
            have hc0 : j = 0 ∨ (¬ 0 < cmpD p.d (nR x.d).d ∧ (cmpD p.d (nR x.d).d = 0 → ¬ (k : Int) < pt)) := hprev.imp id fun h => by
              have h1 := of_decide_eq_false (h _ heB)
              rcases d_tri p.d (nR x.d).d with h2 | h2 | h2
              · rw [cmpD_of_lt h2]
                exact ⟨by omega, fun h3 => by omega⟩
              · rw [h2, cmpD_self]
                exact ⟨by omega, fun _ h3 => h1 (.inr ⟨h2.symm, h3⟩)⟩
              · exact absurd (.inl h2) h1
            generalize cmpD p.d (nR x.d).d = cc at *
            replace hh := hh.perm (List.perm_middle (l₁ := [_]))
            simp only [List.cons_append, List.nil_append] at hh
            replace hh := hh.perm (List.perm_middle (l₁ := [_]))
            simp only [List.cons_append, List.nil_append] at hh
            replace hh := hh.perm (List.perm_middle (l₁ := [_, _, _]))
            simp only [List.cons_append, List.nil_append] at hh
            replace hh := hh.perm (List.perm_middle (l₁ := [_, _, _]))
            simp only [List.cons_append, List.nil_append] at hh
            have htk := EItake_calls (n := m) hh hT hQo (by omega) hq.heap he
            dsimp only at htk
            by_cases hj0 : j = 0
            · refine wc_seq (sr (mI (mL (lenC ?_))))
              refine lssC (wl_end (cT (wc_skip (k_then (wc_seq (wc_block (sr (mP ?_))))))))
              refine s_callf (htk) FnIs.out rfl (by decide) ?_
              rintro e_ w54 ⟨rfl, Q', hp1, hhp, hh⟩
              refine ⟨_, rfl, ?_⟩
              have hq' := hq.take hat hp1 hhp
              have hle := hq.least he
              refine mT ?_
              refine exC ?_
              refine exC ?_
              refine exC ?_
              refine alC hh ?_
              intro b9 w9 hh
              refine stC hh 0 [_,_,_] ?_
              intro ws hh
              replace hh : Hp _ (.blk _ _ [_, _, _] _ :: _) _ := hh
              refine aI (aB (wl_end (wc_seq (wc_seq ?_))))
              refine wc_drawn 26 [[(11, none)], [(58, some 0)], [(59, some 1)], [(10, none), (60, some 2)], [(61, some 3), (60, some 2)], [(60, some 2), (62, some 4)], [(63, some 5)], [(10, none), (64, some 6)], [(0, none), (64, some 6)], [(66, some 8), (64, some 6)], [(65, some 7), (67, some 9), (64, some 6)], [(64, some 6), (68, some 10)], [(69, some 11)], [(5, none), (70, some 12)], [(10, none), (70, some 12)], [(71, some 13), (72, some 14), (70, some 12)], [(73, some 15), (70, some 12)], [(74, some 16), (70, some 12)], [(70, some 12), (75, some 17)], [(76, some 18)], [(9, none), (77, some 19)], [(0, none), (77, some 19)], [(10, none), (77, some 19)], [(79, some 21), (80, some 22), (77, some 19)], [(81, some 23), (77, some 19)], [(82, some 24), (77, some 19)]] [(25, 83), (24, 82), (23, 81), (22, 80), (21, 79), (20, 78), (19, 77), (18, 76), (17, 75), (16, 74), (15, 73), (14, 72), (13, 71), (12, 70), (11, 69), (10, 68), (9, 67), (8, 66), (7, 65), (6, 64), (5, 63), (4, 62), (3, 61), (2, 60), (1, 59), (0, 58)] hh mixed (by kernel_rfl) ?_
              refine dmB ?_
              refine dnot ?_
              refine dmB ?_
              first | refine dS ?_ | refine dU ?_ | refine dG (dmI ?_)
              first | refine dS ?_ | refine dU ?_ | refine dG (dlss ?_)
              first | refine dpT ?_ | refine dpF ?_
              refine dmB ?_
              first | refine dS ?_ | refine dU ?_ | refine dG (dmI ?_)
              first | refine dS ?_ | refine dU ?_ | refine dG (dmL ?_)
              first | refine dS ?_ | refine dU ?_ | refine dG (dlen ?_)
              first | refine dS ?_ | refine dU ?_ | refine dG (dgeq ?_)
              first | refine dpT ?_ | refine dpF ?_
              refine dmB ?_
              first | refine dS ?_ | refine dU ?_ | refine dG (dmL ?_)
              first | refine dS ?_ | refine dU ?_ | refine dG (dmI ?_)
              first | refine dS ?_ | refine dU ?_ | refine dG (dix (k) ?_)
              first | refine dx_skip (i := 16) rfl (fun ρ1 w1 hj hR => (show ρ1 70 = Value.bool _ from hR.2.1)) (by decide) ?_ | refine dx_skipU (i := 16) rfl (fun ρ1 w1 hj hR => (show ρ1 70 = undef from hR.2.1)) ?_ | refine dx_take (i := 16) rfl (fun ρ1 w1 hj hR => (show ρ1 70 = Value.bool _ from hR.2.1)) (fun ρ1 w1 hj hR => x_load1 TIs.out (show ρ1 73 = Value.pointer _ from hR.1) (hj.hp.cell_row (i := 4) rfl (by simp only [Nat.mul_one]; exact hkl))) ?_
              first | refine dS ?_ | refine dU ?_ | refine dG (dgtr ?_)
              first | refine dpT ?_ | refine dpF ?_
              refine dmB ?_
              first | refine dS ?_ | refine dU ?_ | refine dG (dlg 0 [_,_,_] ?_)
              first | refine dS ?_ | refine dU ?_ | refine dG (dmL ?_)
              first | refine dS ?_ | refine dU ?_ | refine dG (dmI ?_)
              first | refine dS ?_ | refine dU ?_ | refine dG (dis (k) ?_)
              first | refine dS ?_ | refine dU ?_ | refine dG (dLF [_,_,_] (fun _ hj => (hr.ext hj.hp.below).recAt NR.len hx) ?_)
              refine dx_take_call (i := 25) rfl (fun ρ1 w1 hj hR => (show ρ1 77 = Value.bool _ from hR.2.1)) (fun ρ1 w1 hj hR => run_callf FnIs.out (evs_cons (show ρ1 82 = Value.agg (List.toArray _) from hR.1) evs_nil)) (fun w1 hj => dForm_calls x _ (hT.hp hj.hp) (by have := hfx.ok.1; omega) (by have := hfx.ok.2.1; omega) (by have := hfx.ok.2.2; omega)) ?_
              refine dx_nil ?_
              intro f W hJ hV
              have hb_18 := hJ.bl
              obtain ⟨v83, v82, v81, v80, v79, v78, v77, v76, v75, v74, v73, v72, v71, v70, v69, v68, v67, v66, v65, v64, v63, v62, v61, v60, v59, v58, _⟩ := hV
              replace hh := hJ.hp
              refine wl_cast (updL_K (eql_cons v83 (eql_cons v82 (eql_cons v81 (eql_cons v80 (eql_cons v79 (eql_cons v78 (eql_cons v77 (eql_cons v76 (eql_cons v75 (eql_cons v74 (eql_cons v73 (eql_cons v72 (eql_cons v71 (eql_cons v70 (eql_cons v69 (eql_cons v68 (eql_cons v67 (eql_cons v66 (eql_cons v65 (eql_cons v64 (eql_cons v63 (eql_cons v62 (eql_cons v61 (eql_cons v60 (eql_cons v59 (eql_cons v58 eql_nil))))))))))))))))))))))))))) ?_
              dsimp only [updK]
              clear hJ
              first | refine gS ?_ | (refine gT ?_; (first | refine s_neN_f rfl rfl (by first | assumption | rfl) (by decide) ?_ | refine s_neN_t rfl rfl (by assumption) (by decide) ?_)) | refine gV ?_
              first | refine pkT ?_ | refine pkF ?_
              refine wl_end (cF (wc_skip (k_then (sr (mL (mI ?_))))))
              refine s_indexRow (k := k) UIs.out TIs.size rfl rfl (by omega) (by omega) (by decide) ?_
              refine wl_store_row hh (i := 4) (vs := [_]) rfl rfl (ev_int rfl) rfl TIs.out rfl (by omega) rfl ?_
              intro ws hh
              simp only [List.set_cons_zero, List.set_cons_succ] at hh
              rw [splice_i64s (by omega)] at hh
              refine wl_end (wc_seq (sr ?_))
              refine lgC hh 3 [_,_,_] ?_
              refine lgC hh 0 [_,_,_] ?_
              refine s_callf (hcm _ (hT.hp hh)) FnIs.out rfl (by decide) ?_
              rintro e_ w91 ⟨rfl, hb_⟩
              refine ⟨_, rfl, ?_⟩
              replace hh := hh.ext hb_
              refine aI (wl_end (sr (mI ?_)))
              refine gtrC (mB ?_)
              first | refine gS ?_ | (refine gT ?_; refine mI ?_) | refine gV ?_
              first | refine gS ?_ | (refine gT ?_; refine gtrC ?_) | refine gV ?_
              first | refine gS ?_ | (refine gT ?_; refine mB ?_) | refine gV ?_
              first | refine gS ?_ | (refine gT ?_; refine mI ?_) | refine gV ?_
              first | refine gS ?_ | (refine gT ?_; refine eqlC ?_) | refine gV ?_
              first | refine gS ?_ | (refine gT ?_; refine mB ?_) | refine gV ?_
              first | refine gS ?_ | (refine gT ?_; refine mI ?_) | refine gV ?_
              first | refine gS ?_ | (refine gT ?_; refine mI ?_) | refine gV ?_
              first | refine gS ?_ | (refine gT ?_; refine gtrC ?_) | refine gV ?_
              first | refine gS ?_ | (refine gT ?_; (first | refine pkT ?_ | refine pkF ?_)) | refine gV ?_
              first | refine gS ?_ | (refine gT ?_; (first | refine pkT ?_ | refine pkF ?_)) | refine gV ?_
              first | refine pkT ?_ | refine pkF ?_
              refine wl_end (cF (wc_skip (k_then (wc_region ?_))))
              refine lgC hh 0 [_,_,_] (mI ?_)
              refine stC hh 3 [_,_,_] ?_
              intro ws hh
              replace hh : Hp _ (_ :: _ :: _ :: .blk _ _ [_, _, _] _ :: _) _ := hh
              refine aI (wl_nil (b_norm (k_then (wc_region (mI ?_)))))
              refine addC (aI (wl_nil (k_then ?_)))
              replace hh := hh.perm (List.perm_middle (l₁ := [_, _]))
              simp only [List.cons_append, List.nil_append] at hh
              replace hh := hh.perm (List.perm_middle (l₁ := [_, _]))
              simp only [List.cons_append, List.nil_append] at hh
              replace hh := hh.perm (List.perm_middle (l₁ := [_, _, _, _]))
              simp only [List.cons_append, List.nil_append] at hh
              replace hh := hh.perm (List.perm_middle (l₁ := [_, _, _, _]))
              simp only [List.cons_append, List.nil_append] at hh
              replace hh := hh.sub (List.Sublist.cons_cons _ (List.Sublist.cons_cons _ (List.Sublist.cons_cons _ (List.Sublist.cons_cons _ (List.Sublist.cons _ List.Sublist.slnil)))))
              refine ⟨⟨j + 1, m, c2, A, Q', B.eraseIdx at_, seen.set k 1, nR x.d, k, by omega, rfl, rfl, hq', ?_, fun e he2 => ?_, by rw [List.length_set]; exact hsl, .inr fun e he2 => ?_, heo, hh⟩, by show i - (j + 1) < i - j; omega, ?_⟩
              · have := hq'.len
                have := hq.len
                have h9 := hp1.length_eq
                simp only [List.length_cons] at h9
                omega
              · have hmem := (List.eraseIdx_sublist _ _).subset he2
                obtain ⟨h1, k2, h2, rfl, h3⟩ := hB e hmem
                refine ⟨h1, k2, h2, rfl, ?_⟩
                have hne : k ≠ k2 := fun hkk => by
                  subst hkk
                  obtain ⟨i2, hi2⟩ := List.mem_iff_getElem?.1 he2
                  rw [List.getElem?_eraseIdx] at hi2
                  rw [entA_at hx] at hi2
                  split at hi2
                  · have := pw_get hq.dist hi2 hat (by assumption)
                    exact absurd this (by show ¬ ((k : Int) < (k : Int)); omega)
                  · have := pw_get hq.dist hat hi2 (by omega)
                    exact absurd this (by show ¬ ((k : Int) < (k : Int)); omega)
                rw [List.getElem?_set_ne hne]
                exact h3
              · exact hle e ((List.eraseIdx_sublist _ _).subset he2)
              · (repeat (first | exact agree_mask _ _ _ | refine agree_upd rfl ?_ | refine agree_mask2 rfl ?_))
            · obtain ⟨hc1, hc2⟩ := hc0.resolve_left hj0
              by_cases hcz : cc = 0
              · have hc3 := hc2 hcz
                subst hcz
                refine wc_seq (sr (mI (mL (lenC ?_))))
                refine lssC (wl_end (cT (wc_skip (k_then (wc_seq (wc_block (sr (mP ?_))))))))
                refine s_callf (htk) FnIs.out rfl (by decide) ?_
                rintro e_ w54 ⟨rfl, Q', hp1, hhp, hh⟩
                refine ⟨_, rfl, ?_⟩
                have hq' := hq.take hat hp1 hhp
                have hle := hq.least he
                refine mT ?_
                refine exC ?_
                refine exC ?_
                refine exC ?_
                refine alC hh ?_
                intro b9 w9 hh
                refine stC hh 0 [_,_,_] ?_
                intro ws hh
                replace hh : Hp _ (.blk _ _ [_, _, _] _ :: _) _ := hh
                refine aI (aB (wl_end (wc_seq (wc_seq ?_))))
                refine wc_drawn 26 [[(11, none)], [(58, some 0)], [(59, some 1)], [(10, none), (60, some 2)], [(61, some 3), (60, some 2)], [(60, some 2), (62, some 4)], [(63, some 5)], [(10, none), (64, some 6)], [(0, none), (64, some 6)], [(66, some 8), (64, some 6)], [(65, some 7), (67, some 9), (64, some 6)], [(64, some 6), (68, some 10)], [(69, some 11)], [(5, none), (70, some 12)], [(10, none), (70, some 12)], [(71, some 13), (72, some 14), (70, some 12)], [(73, some 15), (70, some 12)], [(74, some 16), (70, some 12)], [(70, some 12), (75, some 17)], [(76, some 18)], [(9, none), (77, some 19)], [(0, none), (77, some 19)], [(10, none), (77, some 19)], [(79, some 21), (80, some 22), (77, some 19)], [(81, some 23), (77, some 19)], [(82, some 24), (77, some 19)]] [(25, 83), (24, 82), (23, 81), (22, 80), (21, 79), (20, 78), (19, 77), (18, 76), (17, 75), (16, 74), (15, 73), (14, 72), (13, 71), (12, 70), (11, 69), (10, 68), (9, 67), (8, 66), (7, 65), (6, 64), (5, 63), (4, 62), (3, 61), (2, 60), (1, 59), (0, 58)] hh mixed (by kernel_rfl) ?_
                refine dmB ?_
                refine dnot ?_
                refine dmB ?_
                first | refine dS ?_ | refine dU ?_ | refine dG (dmI ?_)
                first | refine dS ?_ | refine dU ?_ | refine dG (dlss ?_)
                first | refine dpT ?_ | refine dpF ?_
                refine dmB ?_
                first | refine dS ?_ | refine dU ?_ | refine dG (dmI ?_)
                first | refine dS ?_ | refine dU ?_ | refine dG (dmL ?_)
                first | refine dS ?_ | refine dU ?_ | refine dG (dlen ?_)
                first | refine dS ?_ | refine dU ?_ | refine dG (dgeq ?_)
                first | refine dpT ?_ | refine dpF ?_
                refine dmB ?_
                first | refine dS ?_ | refine dU ?_ | refine dG (dmL ?_)
                first | refine dS ?_ | refine dU ?_ | refine dG (dmI ?_)
                first | refine dS ?_ | refine dU ?_ | refine dG (dix (k) ?_)
                first | refine dx_skip (i := 16) rfl (fun ρ1 w1 hj hR => (show ρ1 70 = Value.bool _ from hR.2.1)) (by decide) ?_ | refine dx_skipU (i := 16) rfl (fun ρ1 w1 hj hR => (show ρ1 70 = undef from hR.2.1)) ?_ | refine dx_take (i := 16) rfl (fun ρ1 w1 hj hR => (show ρ1 70 = Value.bool _ from hR.2.1)) (fun ρ1 w1 hj hR => x_load1 TIs.out (show ρ1 73 = Value.pointer _ from hR.1) (hj.hp.cell_row (i := 4) rfl (by simp only [Nat.mul_one]; exact hkl))) ?_
                first | refine dS ?_ | refine dU ?_ | refine dG (dgtr ?_)
                first | refine dpT ?_ | refine dpF ?_
                refine dmB ?_
                first | refine dS ?_ | refine dU ?_ | refine dG (dlg 0 [_,_,_] ?_)
                first | refine dS ?_ | refine dU ?_ | refine dG (dmL ?_)
                first | refine dS ?_ | refine dU ?_ | refine dG (dmI ?_)
                first | refine dS ?_ | refine dU ?_ | refine dG (dis (k) ?_)
                first | refine dS ?_ | refine dU ?_ | refine dG (dLF [_,_,_] (fun _ hj => (hr.ext hj.hp.below).recAt NR.len hx) ?_)
                refine dx_take_call (i := 25) rfl (fun ρ1 w1 hj hR => (show ρ1 77 = Value.bool _ from hR.2.1)) (fun ρ1 w1 hj hR => run_callf FnIs.out (evs_cons (show ρ1 82 = Value.agg (List.toArray _) from hR.1) evs_nil)) (fun w1 hj => dForm_calls x _ (hT.hp hj.hp) (by have := hfx.ok.1; omega) (by have := hfx.ok.2.1; omega) (by have := hfx.ok.2.2; omega)) ?_
                refine dx_nil ?_
                intro f W hJ hV
                have hb_18 := hJ.bl
                obtain ⟨v83, v82, v81, v80, v79, v78, v77, v76, v75, v74, v73, v72, v71, v70, v69, v68, v67, v66, v65, v64, v63, v62, v61, v60, v59, v58, _⟩ := hV
                replace hh := hJ.hp
                refine wl_cast (updL_K (eql_cons v83 (eql_cons v82 (eql_cons v81 (eql_cons v80 (eql_cons v79 (eql_cons v78 (eql_cons v77 (eql_cons v76 (eql_cons v75 (eql_cons v74 (eql_cons v73 (eql_cons v72 (eql_cons v71 (eql_cons v70 (eql_cons v69 (eql_cons v68 (eql_cons v67 (eql_cons v66 (eql_cons v65 (eql_cons v64 (eql_cons v63 (eql_cons v62 (eql_cons v61 (eql_cons v60 (eql_cons v59 (eql_cons v58 eql_nil))))))))))))))))))))))))))) ?_
                dsimp only [updK]
                clear hJ
                first | refine gS ?_ | (refine gT ?_; (first | refine s_neN_f rfl rfl (by first | assumption | rfl) (by decide) ?_ | refine s_neN_t rfl rfl (by assumption) (by decide) ?_)) | refine gV ?_
                first | refine pkT ?_ | refine pkF ?_
                refine wl_end (cF (wc_skip (k_then (sr (mL (mI ?_))))))
                refine s_indexRow (k := k) UIs.out TIs.size rfl rfl (by omega) (by omega) (by decide) ?_
                refine wl_store_row hh (i := 4) (vs := [_]) rfl rfl (ev_int rfl) rfl TIs.out rfl (by omega) rfl ?_
                intro ws hh
                simp only [List.set_cons_zero, List.set_cons_succ] at hh
                rw [splice_i64s (by omega)] at hh
                refine wl_end (wc_seq (sr ?_))
                refine lgC hh 3 [_,_,_] ?_
                refine lgC hh 0 [_,_,_] ?_
                refine s_callf (hcm _ (hT.hp hh)) FnIs.out rfl (by decide) ?_
                rintro e_ w91 ⟨rfl, hb_⟩
                refine ⟨_, rfl, ?_⟩
                replace hh := hh.ext hb_
                refine aI (wl_end (sr (mI ?_)))
                refine gtrC (mB ?_)
                first | refine gS ?_ | (refine gT ?_; refine mI ?_) | refine gV ?_
                first | refine gS ?_ | (refine gT ?_; refine gtrC ?_) | refine gV ?_
                first | refine gS ?_ | (refine gT ?_; refine mB ?_) | refine gV ?_
                first | refine gS ?_ | (refine gT ?_; refine mI ?_) | refine gV ?_
                first | refine gS ?_ | (refine gT ?_; refine eqlC ?_) | refine gV ?_
                first | refine gS ?_ | (refine gT ?_; refine mB ?_) | refine gV ?_
                first | refine gS ?_ | (refine gT ?_; refine mI ?_) | refine gV ?_
                first | refine gS ?_ | (refine gT ?_; refine mI ?_) | refine gV ?_
                first | refine gS ?_ | (refine gT ?_; refine gtrC ?_) | refine gV ?_
                first | refine gS ?_ | (refine gT ?_; (first | refine pkT ?_ | refine pkF ?_)) | refine gV ?_
                first | refine gS ?_ | (refine gT ?_; (first | refine pkT ?_ | refine pkF ?_)) | refine gV ?_
                first | refine pkT ?_ | refine pkF ?_
                refine wl_end (cF (wc_skip (k_then (wc_region ?_))))
                refine lgC hh 0 [_,_,_] (mI ?_)
                refine stC hh 3 [_,_,_] ?_
                intro ws hh
                replace hh : Hp _ (_ :: _ :: _ :: .blk _ _ [_, _, _] _ :: _) _ := hh
                refine aI (wl_nil (b_norm (k_then (wc_region (mI ?_)))))
                refine addC (aI (wl_nil (k_then ?_)))
                replace hh := hh.perm (List.perm_middle (l₁ := [_, _]))
                simp only [List.cons_append, List.nil_append] at hh
                replace hh := hh.perm (List.perm_middle (l₁ := [_, _]))
                simp only [List.cons_append, List.nil_append] at hh
                replace hh := hh.perm (List.perm_middle (l₁ := [_, _, _, _]))
                simp only [List.cons_append, List.nil_append] at hh
                replace hh := hh.perm (List.perm_middle (l₁ := [_, _, _, _]))
                simp only [List.cons_append, List.nil_append] at hh
                replace hh := hh.sub (List.Sublist.cons_cons _ (List.Sublist.cons_cons _ (List.Sublist.cons_cons _ (List.Sublist.cons_cons _ (List.Sublist.cons _ List.Sublist.slnil)))))
                refine ⟨⟨j + 1, m, c2, A, Q', B.eraseIdx at_, seen.set k 1, nR x.d, k, by omega, rfl, rfl, hq', ?_, fun e he2 => ?_, by rw [List.length_set]; exact hsl, .inr fun e he2 => ?_, heo, hh⟩, by show i - (j + 1) < i - j; omega, ?_⟩
                · have := hq'.len
                  have := hq.len
                  have h9 := hp1.length_eq
                  simp only [List.length_cons] at h9
                  omega
                · have hmem := (List.eraseIdx_sublist _ _).subset he2
                  obtain ⟨h1, k2, h2, rfl, h3⟩ := hB e hmem
                  refine ⟨h1, k2, h2, rfl, ?_⟩
                  have hne : k ≠ k2 := fun hkk => by
                    subst hkk
                    obtain ⟨i2, hi2⟩ := List.mem_iff_getElem?.1 he2
                    rw [List.getElem?_eraseIdx] at hi2
                    rw [entA_at hx] at hi2
                    split at hi2
                    · have := pw_get hq.dist hi2 hat (by assumption)
                      exact absurd this (by show ¬ ((k : Int) < (k : Int)); omega)
                    · have := pw_get hq.dist hat hi2 (by omega)
                      exact absurd this (by show ¬ ((k : Int) < (k : Int)); omega)
                  rw [List.getElem?_set_ne hne]
                  exact h3
                · exact hle e ((List.eraseIdx_sublist _ _).subset he2)
                · (repeat (first | exact agree_mask _ _ _ | refine agree_upd rfl ?_ | refine agree_mask2 rfl ?_))
              · refine wc_seq (sr (mI (mL (lenC ?_))))
                refine lssC (wl_end (cT (wc_skip (k_then (wc_seq (wc_block (sr (mP ?_))))))))
                refine s_callf (htk) FnIs.out rfl (by decide) ?_
                rintro e_ w54 ⟨rfl, Q', hp1, hhp, hh⟩
                refine ⟨_, rfl, ?_⟩
                have hq' := hq.take hat hp1 hhp
                have hle := hq.least he
                refine mT ?_
                refine exC ?_
                refine exC ?_
                refine exC ?_
                refine alC hh ?_
                intro b9 w9 hh
                refine stC hh 0 [_,_,_] ?_
                intro ws hh
                replace hh : Hp _ (.blk _ _ [_, _, _] _ :: _) _ := hh
                refine aI (aB (wl_end (wc_seq (wc_seq ?_))))
                refine wc_drawn 26 [[(11, none)], [(58, some 0)], [(59, some 1)], [(10, none), (60, some 2)], [(61, some 3), (60, some 2)], [(60, some 2), (62, some 4)], [(63, some 5)], [(10, none), (64, some 6)], [(0, none), (64, some 6)], [(66, some 8), (64, some 6)], [(65, some 7), (67, some 9), (64, some 6)], [(64, some 6), (68, some 10)], [(69, some 11)], [(5, none), (70, some 12)], [(10, none), (70, some 12)], [(71, some 13), (72, some 14), (70, some 12)], [(73, some 15), (70, some 12)], [(74, some 16), (70, some 12)], [(70, some 12), (75, some 17)], [(76, some 18)], [(9, none), (77, some 19)], [(0, none), (77, some 19)], [(10, none), (77, some 19)], [(79, some 21), (80, some 22), (77, some 19)], [(81, some 23), (77, some 19)], [(82, some 24), (77, some 19)]] [(25, 83), (24, 82), (23, 81), (22, 80), (21, 79), (20, 78), (19, 77), (18, 76), (17, 75), (16, 74), (15, 73), (14, 72), (13, 71), (12, 70), (11, 69), (10, 68), (9, 67), (8, 66), (7, 65), (6, 64), (5, 63), (4, 62), (3, 61), (2, 60), (1, 59), (0, 58)] hh mixed (by kernel_rfl) ?_
                refine dmB ?_
                refine dnot ?_
                refine dmB ?_
                first | refine dS ?_ | refine dU ?_ | refine dG (dmI ?_)
                first | refine dS ?_ | refine dU ?_ | refine dG (dlss ?_)
                first | refine dpT ?_ | refine dpF ?_
                refine dmB ?_
                first | refine dS ?_ | refine dU ?_ | refine dG (dmI ?_)
                first | refine dS ?_ | refine dU ?_ | refine dG (dmL ?_)
                first | refine dS ?_ | refine dU ?_ | refine dG (dlen ?_)
                first | refine dS ?_ | refine dU ?_ | refine dG (dgeq ?_)
                first | refine dpT ?_ | refine dpF ?_
                refine dmB ?_
                first | refine dS ?_ | refine dU ?_ | refine dG (dmL ?_)
                first | refine dS ?_ | refine dU ?_ | refine dG (dmI ?_)
                first | refine dS ?_ | refine dU ?_ | refine dG (dix (k) ?_)
                first | refine dx_skip (i := 16) rfl (fun ρ1 w1 hj hR => (show ρ1 70 = Value.bool _ from hR.2.1)) (by decide) ?_ | refine dx_skipU (i := 16) rfl (fun ρ1 w1 hj hR => (show ρ1 70 = undef from hR.2.1)) ?_ | refine dx_take (i := 16) rfl (fun ρ1 w1 hj hR => (show ρ1 70 = Value.bool _ from hR.2.1)) (fun ρ1 w1 hj hR => x_load1 TIs.out (show ρ1 73 = Value.pointer _ from hR.1) (hj.hp.cell_row (i := 4) rfl (by simp only [Nat.mul_one]; exact hkl))) ?_
                first | refine dS ?_ | refine dU ?_ | refine dG (dgtr ?_)
                first | refine dpT ?_ | refine dpF ?_
                refine dmB ?_
                first | refine dS ?_ | refine dU ?_ | refine dG (dlg 0 [_,_,_] ?_)
                first | refine dS ?_ | refine dU ?_ | refine dG (dmL ?_)
                first | refine dS ?_ | refine dU ?_ | refine dG (dmI ?_)
                first | refine dS ?_ | refine dU ?_ | refine dG (dis (k) ?_)
                first | refine dS ?_ | refine dU ?_ | refine dG (dLF [_,_,_] (fun _ hj => (hr.ext hj.hp.below).recAt NR.len hx) ?_)
                refine dx_take_call (i := 25) rfl (fun ρ1 w1 hj hR => (show ρ1 77 = Value.bool _ from hR.2.1)) (fun ρ1 w1 hj hR => run_callf FnIs.out (evs_cons (show ρ1 82 = Value.agg (List.toArray _) from hR.1) evs_nil)) (fun w1 hj => dForm_calls x _ (hT.hp hj.hp) (by have := hfx.ok.1; omega) (by have := hfx.ok.2.1; omega) (by have := hfx.ok.2.2; omega)) ?_
                refine dx_nil ?_
                intro f W hJ hV
                have hb_18 := hJ.bl
                obtain ⟨v83, v82, v81, v80, v79, v78, v77, v76, v75, v74, v73, v72, v71, v70, v69, v68, v67, v66, v65, v64, v63, v62, v61, v60, v59, v58, _⟩ := hV
                replace hh := hJ.hp
                refine wl_cast (updL_K (eql_cons v83 (eql_cons v82 (eql_cons v81 (eql_cons v80 (eql_cons v79 (eql_cons v78 (eql_cons v77 (eql_cons v76 (eql_cons v75 (eql_cons v74 (eql_cons v73 (eql_cons v72 (eql_cons v71 (eql_cons v70 (eql_cons v69 (eql_cons v68 (eql_cons v67 (eql_cons v66 (eql_cons v65 (eql_cons v64 (eql_cons v63 (eql_cons v62 (eql_cons v61 (eql_cons v60 (eql_cons v59 (eql_cons v58 eql_nil))))))))))))))))))))))))))) ?_
                dsimp only [updK]
                clear hJ
                first | refine gS ?_ | (refine gT ?_; (first | refine s_neN_f rfl rfl (by first | assumption | rfl) (by decide) ?_ | refine s_neN_t rfl rfl (by assumption) (by decide) ?_)) | refine gV ?_
                first | refine pkT ?_ | refine pkF ?_
                refine wl_end (cF (wc_skip (k_then (sr (mL (mI ?_))))))
                refine s_indexRow (k := k) UIs.out TIs.size rfl rfl (by omega) (by omega) (by decide) ?_
                refine wl_store_row hh (i := 4) (vs := [_]) rfl rfl (ev_int rfl) rfl TIs.out rfl (by omega) rfl ?_
                intro ws hh
                simp only [List.set_cons_zero, List.set_cons_succ] at hh
                rw [splice_i64s (by omega)] at hh
                refine wl_end (wc_seq (sr ?_))
                refine lgC hh 3 [_,_,_] ?_
                refine lgC hh 0 [_,_,_] ?_
                refine s_callf (hcm _ (hT.hp hh)) FnIs.out rfl (by decide) ?_
                rintro e_ w91 ⟨rfl, hb_⟩
                refine ⟨_, rfl, ?_⟩
                replace hh := hh.ext hb_
                refine aI (wl_end (sr (mI ?_)))
                refine gtrC (mB ?_)
                first | refine gS ?_ | (refine gT ?_; refine mI ?_) | refine gV ?_
                first | refine gS ?_ | (refine gT ?_; refine gtrC ?_) | refine gV ?_
                first | refine gS ?_ | (refine gT ?_; refine mB ?_) | refine gV ?_
                first | refine gS ?_ | (refine gT ?_; refine mI ?_) | refine gV ?_
                first | refine gS ?_ | (refine gT ?_; refine eqlC ?_) | refine gV ?_
                first | refine gS ?_ | (refine gT ?_; refine mB ?_) | refine gV ?_
                first | refine gS ?_ | (refine gT ?_; refine mI ?_) | refine gV ?_
                first | refine gS ?_ | (refine gT ?_; refine mI ?_) | refine gV ?_
                first | refine gS ?_ | (refine gT ?_; refine gtrC ?_) | refine gV ?_
                first | refine gS ?_ | (refine gT ?_; (first | refine pkT ?_ | refine pkF ?_)) | refine gV ?_
                first | refine gS ?_ | (refine gT ?_; (first | refine pkT ?_ | refine pkF ?_)) | refine gV ?_
                first | refine pkT ?_ | refine pkF ?_
                refine wl_end (cF (wc_skip (k_then (wc_region ?_))))
                refine lgC hh 0 [_,_,_] (mI ?_)
                refine stC hh 3 [_,_,_] ?_
                intro ws hh
                replace hh : Hp _ (_ :: _ :: _ :: .blk _ _ [_, _, _] _ :: _) _ := hh
                refine aI (wl_nil (b_norm (k_then (wc_region (mI ?_)))))
                refine addC (aI (wl_nil (k_then ?_)))
                replace hh := hh.perm (List.perm_middle (l₁ := [_, _]))
                simp only [List.cons_append, List.nil_append] at hh
                replace hh := hh.perm (List.perm_middle (l₁ := [_, _]))
                simp only [List.cons_append, List.nil_append] at hh
                replace hh := hh.perm (List.perm_middle (l₁ := [_, _, _, _]))
                simp only [List.cons_append, List.nil_append] at hh
                replace hh := hh.perm (List.perm_middle (l₁ := [_, _, _, _]))
                simp only [List.cons_append, List.nil_append] at hh
                replace hh := hh.sub (List.Sublist.cons_cons _ (List.Sublist.cons_cons _ (List.Sublist.cons_cons _ (List.Sublist.cons_cons _ (List.Sublist.cons _ List.Sublist.slnil)))))
                refine ⟨⟨j + 1, m, c2, A, Q', B.eraseIdx at_, seen.set k 1, nR x.d, k, by omega, rfl, rfl, hq', ?_, fun e he2 => ?_, by rw [List.length_set]; exact hsl, .inr fun e he2 => ?_, heo, hh⟩, by show i - (j + 1) < i - j; omega, ?_⟩
                · have := hq'.len
                  have := hq.len
                  have h9 := hp1.length_eq
                  simp only [List.length_cons] at h9
                  omega
                · have hmem := (List.eraseIdx_sublist _ _).subset he2
                  obtain ⟨h1, k2, h2, rfl, h3⟩ := hB e hmem
                  refine ⟨h1, k2, h2, rfl, ?_⟩
                  have hne : k ≠ k2 := fun hkk => by
                    subst hkk
                    obtain ⟨i2, hi2⟩ := List.mem_iff_getElem?.1 he2
                    rw [List.getElem?_eraseIdx] at hi2
                    rw [entA_at hx] at hi2
                    split at hi2
                    · have := pw_get hq.dist hi2 hat (by assumption)
                      exact absurd this (by show ¬ ((k : Int) < (k : Int)); omega)
                    · have := pw_get hq.dist hat hi2 (by omega)
                      exact absurd this (by show ¬ ((k : Int) < (k : Int)); omega)
                  rw [List.getElem?_set_ne hne]
                  exact h3
                · exact hle e ((List.eraseIdx_sublist _ _).subset he2)
                · (repeat (first | exact agree_mask _ _ _ | refine agree_upd rfl ?_ | refine agree_mask2 rfl ?_))
          · obtain rfl : m = 0 := by omega
            have hQ0 : Q = [] := List.eq_nil_of_length_eq_zero hQl
            subst hQ0
            refine wc_seq (sr (mI (mL (lenC ?_))))
            refine lssC (wl_end (cF ?_))
            refine wc_exit ?_
            refine k_exit (k_exit (b_here (k_then (sr (mP ?_)))))
            refine s_callf (EItake_nil _ (hh.cell_blk (i := 2) rfl rfl) rfl) FnIs.out rfl (by decide) ?_
            rintro e_ w111 ⟨rfl, hb_⟩
            refine ⟨_, rfl, ?_⟩
            replace hh := hh.ext hb_
            refine mT ?_
            refine exC ?_
            refine exC ?_
            refine exC ?_
            refine alC hh ?_
            intro b13 w13 hh
            refine stC hh 0 [_,_,_] ?_
            intro ws hh
            replace hh : Hp _ (.blk _ _ [_, _, _] _ :: _) _ := hh
            refine aI (aB (wl_end (sr (mB ?_))))
            refine notC ?_
            refine mB ?_
            first | refine gS ?_ | (refine gT ?_; refine mP ?_) | refine gV ?_
            refine wl_guard_take rfl rfl ?_
            refine s_callf (EIlen_calls _ (hh.cell_blk (i := 3) rfl rfl)) FnIs.out rfl (by decide) ?_
            rintro e_ w119 ⟨rfl, hb_⟩
            refine ⟨_, rfl, ?_⟩
            replace hh := hh.ext hb_
            first | refine gS ?_ | (refine gT ?_; refine eqlC ?_) | refine gV ?_
            first | refine pkT ?_ | refine pkF ?_
            refine mB ?_
            refine wl_guard_take rfl rfl ?_
            refine s_callf (hawake_calls _ (hT.hp hh)) FnIs.out rfl (by decide) ?_
            rintro e_ w123 ⟨rfl, hb_⟩
            refine ⟨_, rfl, ?_⟩
            replace hh := hh.ext hb_
            first | refine pkT ?_ | refine pkF ?_
            refine aB (wl_end (wc_ret ?_))
            refine ret1 (by first | exact .inr rfl | exact .inl rfl) rfl (v_bool rfl) ?_
            exact ⟨rfl, hh.below⟩
end Go.Proofs.YthmmofllajkejaaDoor
