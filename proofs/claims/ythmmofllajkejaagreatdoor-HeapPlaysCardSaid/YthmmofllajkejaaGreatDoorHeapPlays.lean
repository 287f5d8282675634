/- The walk through the law HeapPlays. -/
import Derived.Test.YthmmofllajkejaaGreatDoorHeapT
namespace Go.Proofs.YthmmofllajkejaaGreatDoor
open Go.RowKit
-- umode
-- skipu
structure AR where
  kind : Int
  key : NR
  x : Int
def AR.cells (a : AR) : List Value := [.int .i64 a.kind, .bool a.key.neg, .string a.key.mag, .int .i64 a.key.e, .int .i64 a.x]
theorem AR.len (a : AR) : (AR.cells a).length = 5 := rfl
def Pair (b1 b2 : Nat) (top : Int) (E : List HE) : Prop := ∃ (n c c2 : Nat) (A A2 : Option Addr) (nx : Int) (L B : List (Ent Int)), (n : Int) ≤ nx ∧ 0 ≤ nx ∧ nx ≤ top ∧ QI L B nx ∧ (∀ e ∈ B, Fine e.k) ∧
  E = [.blk b1 46 [.slice A n c, .int .i64 nx] (0, 0), .row A n c 142 5 (recs EI.cells L), .blk b2 43 [.slice A2 n c2, .int .i64 nx] (0, 0), .row A2 n c2 104 5 (recs RE.cells B)]
theorem Pair.both {b1 b2 : Nat} {top : Int} {E Hr : List HE} {w0 w : World} (h : Pair b1 b2 top E) (hh : Hp w0 (E ++ Hr) w) : Both w0 Hr b1 b2 top w := by
  obtain ⟨n, c, c2, A, A2, nx, L, B, h1, h2, h3, h4, h5, rfl⟩ := h
  exact ⟨n, c, c2, A, A2, nx, L, B, h1, h2, h3, h4, h5, hh⟩
theorem Both.pair {b1 b2 : Nat} {top : Int} {Hr : List HE} {w0 w : World} (h : Both w0 Hr b1 b2 top w) : ∃ E, Pair b1 b2 top E ∧ Hp w0 (E ++ Hr) w := by
  obtain ⟨n, c, c2, A, A2, nx, L, B, h1, h2, h3, h4, h5, hh⟩ := h
  exact ⟨_, ⟨n, c, c2, A, A2, nx, L, B, h1, h2, h3, h4, h5, rfl⟩, hh⟩
theorem Pair.mono {b1 b2 : Nat} {top top' : Int} {E : List HE} (h : Pair b1 b2 top E) (ht : top ≤ top') : Pair b1 b2 top' E := by
  obtain ⟨n, c, c2, A, A2, nx, L, B, h1, h2, h3, h4⟩ := h
  exact ⟨n, c, c2, A, A2, nx, L, B, h1, h2, by omega, h4⟩
theorem Pair.new (b1 b2 : Nat) : Pair b1 b2 0 [.blk b1 46 [.slice none 0 0, .int .i64 0] (0, 0), .row none 0 0 142 5 (recs EI.cells []), .blk b2 43 [.slice none 0 0, .int .i64 0] (0, 0), .row none 0 0 104 5 (recs RE.cells [])] :=
  ⟨0, 0, 0, none, none, 0, [], [], by omega, by omega, by omega, QI.nil, (fun _ h => by cases h), rfl⟩
theorem heapPlays_calls (L : Option Addr) (n c : Nat) (l : List AR) (w : World) (hT : Tab w) (hS : Sl w L n 5 (recs AR.cells l)) :
    Calls Tryz.prog 4 #[.slice L n c] w fun r w' => r = .returned (.bool true) ∧ Below w.heap.size w w' := by
  have hh := Hp.start w
  have hln := hS.recLen AR.len (by omega)
  by_cases h5 : 200 < n
  · refine calls_vc (N := 58) (l := [.slice L n c]) Tryz.func4 rfl rfl (by simp) ?_
    refine sr (aB (wl_end (wc_seq (sr (mL (lenC ?_))))))
    refine gtrC (wl_end (cT (sr ?_)))
    refine s_callf (hawake_calls _ (hT.hp hh)) FnIs.out rfl (by decide) ?_
    rintro e_ w12 ⟨rfl, hb_⟩
    refine ⟨_, rfl, ?_⟩
    replace hh := hh.ext hb_
    refine aB (wl_end (wc_ret (k_ret ?_)))
    refine ret1 (by first | exact .inr rfl | exact .inl rfl) rfl (v_bool rfl) ?_
    exact ⟨rfl, hh.below⟩
  · refine calls_vc (N := 58) (l := [.slice L n c]) Tryz.func4 rfl rfl (by simp) ?_
    refine sr (aB (wl_end (wc_seq (sr (mL (lenC ?_))))))
    refine gtrC (wl_end (cF (wc_skip (k_then (wc_seq (sr (aI (wl_end (wc_block ?_)))))))))
    refine wc_loop1 [2, 3, 13, 14, 15, 16, 17, 18, 19, 20, 21, 22, 23, 24, 25] 3
      (fun j w' => ∃ (i : Nat), i ≤ n ∧ j = .int .i64 i ∧ (∀ a ∈ l.take i, farH a.key = false) ∧ Hp w [] w')
      (fun j _ => n - (intOf j).toNat) ?_ ?_
    · exact ⟨0, Nat.zero_le _, rfl, fun a h => by simp at h, hh⟩
    · clear hh
      rintro ρ' j w' ⟨i, hi, rfl, hfar, hh⟩
      by_cases hlt : i < n
      · obtain ⟨x, hx⟩ := get_of_lt (l := l) (k := i) (by omega)
        obtain ⟨ad, rfl, hr⟩ := hS.at_ (by omega)
        refine wc_seq (sr (mI (mL (lenC ?_))))
        refine lssC (wl_end (cT (wc_skip (k_then (wc_seq (wc_block (sr (mL (mI ?_)))))))))
        refine s_indexAddr UIs.out TIs.size rfl rfl (by omega) (by omega) (by decide) ?_
        refine s_fieldAddrA FIs.out rfl (by decide) ?_
        refine s_load (vs := [_, _, _]) TIs.out rfl ((((hr.ext hh.below).recAt AR.len hx).drop 1).take 3) rfl (by decide) ?_
        refine s_callf (hfar_calls x.key _) FnIs.out rfl (by decide) ?_
        rintro e_ w24 ⟨rfl, hb_⟩
        refine ⟨_, rfl, ?_⟩
        replace hh := hh.ext hb_
        cases hf : farH x.key with
        | true =>
          refine wl_end (cT (sr ?_))
          refine s_callf (hawake_calls _ (hT.hp hh)) FnIs.out rfl (by decide) ?_
          rintro e_ w25 ⟨rfl, hb_⟩
          refine ⟨_, rfl, ?_⟩
          replace hh := hh.ext hb_
          refine aB (wl_end (wc_ret (b_ret (k_ret (k_ret (b_ret (k_ret ?_)))))))
          refine ret1 (by first | exact .inr rfl | exact .inl rfl) rfl (v_bool rfl) ?_
          exact ⟨rfl, hh.below⟩
        | false =>
          refine wl_end (cF (wc_skip (b_norm (k_then (wc_region (mI ?_))))))
          refine addC (aI (wl_nil (k_then ?_)))
          refine ⟨⟨i + 1, by omega, rfl, ?_, hh⟩, by show n - (i + 1) < n - i; omega, ?_⟩
          · rw [take_snoc hx]
            exact List.forall_mem_append.2 ⟨hfar, fun a ha => by obtain rfl := List.mem_singleton.1 ha; exact hf⟩
          · (repeat (first | exact agree_mask _ _ _ | refine agree_upd rfl ?_ | refine agree_mask2 rfl ?_))
      · have hfar2 : ∀ a ∈ l, farH a.key = false := by rw [List.take_of_length_le (by omega)] at hfar; exact hfar
        refine wc_seq (sr (mI (mL (lenC ?_))))
        refine lssC (wl_end (cF ?_))
        refine wc_exit ?_
        refine k_exit (k_exit (b_here (k_then (sr ?_))))
        refine s_callf (EInew_calls hh) FnIs.out rfl (by decide) ?_
        rintro e_ w26 ⟨b, rfl, hh⟩
        refine ⟨_, rfl, ?_⟩
        refine bdC [_,_] ?_
        refine alC hh ?_
        intro b5 w5 hh
        refine aP ?_
        refine stC hh 0 [_,_] ?_
        intro ws hh
        replace hh : Hp _ (.blk _ _ [_, _] _ :: _) _ := hh
        refine wl_end (sr ?_)
        refine bdC [_,_] ?_
        refine bdC [_,_] ?_
        refine alC hh ?_
        intro b6 w6 hh
        refine alC hh ?_
        intro b7 w7 hh
        refine stC hh 1 [_,_] ?_
        intro ws hh
        replace hh : Hp _ (_ :: .blk _ _ [_, _] _ :: _) _ := hh
        refine stC hh 0 [_,_] ?_
        intro ws hh
        replace hh : Hp _ (.blk _ _ [_, _] _ :: _) _ := hh
        refine wl_end (wc_seq (sr (mP ?_)))
        first | refine s_eqp_f UIs.out rfl rfl (by decide) ?_ | refine s_eqp_t UIs.out rfl rfl (by decide) ?_
        refine wl_end ?_
        replace hh := hh.nil_row 104 5
        replace hh := hh.nil_row 142 5
        replace hh := hh.nil_row 104 5
        replace hh := hh.perm (List.perm_middle (l₁ := [_, _, _]))
        simp only [List.cons_append, List.nil_append] at hh
        replace hh := hh.perm (List.perm_middle (l₁ := [_, _]))
        simp only [List.cons_append, List.nil_append] at hh
        replace hh := hh.perm (List.perm_middle (l₁ := [_, _, _, _]))
        simp only [List.cons_append, List.nil_append] at hh
        replace hh := hh.perm (List.perm_middle (l₁ := [_, _, _, _]))
        simp only [List.cons_append, List.nil_append] at hh
        replace hh := hh.perm (List.perm_middle (l₁ := [_, _, _, _, _]))
        simp only [List.cons_append, List.nil_append] at hh
        replace hh := hh.perm (List.perm_middle (l₁ := [_, _, _, _, _, _, _]))
        simp only [List.cons_append, List.nil_append] at hh
        replace hh := hh.perm (List.perm_middle (l₁ := [_, _, _, _, _, _, _]))
        simp only [List.cons_append, List.nil_append] at hh
        refine cF (wc_skip (k_then (wc_seq (sr (aI (wl_end (wc_block ?_)))))))
        refine wc_loop1 [2, 8, 32, 33, 34, 35, 36, 37, 38, 39, 40, 41, 42, 43, 44, 45, 46, 47, 48, 49, 50, 51, 52, 53, 54, 55, 56] 8
          (fun j w' => ∃ (i : Nat) (E1 E2 : List HE), i ≤ n ∧ j = .int .i64 i ∧ Pair b b5 i E1 ∧ Pair b6 b7 i E2 ∧ Hp w (E1 ++ E2) w')
          (fun j _ => n - (intOf j).toNat) ?_ ?_
        · exact ⟨0, _, _, by omega, rfl, Pair.new b b5, Pair.new b6 b7, hh⟩
        · clear hh
          rintro ρ'' j w'' ⟨i, E1, E2, hi, rfl, p1, p2, hh⟩
          by_cases hlt : i < n
          · obtain ⟨x, hx⟩ := get_of_lt (l := l) (k := i) (by omega)
            obtain ⟨ad, rfl, hr⟩ := hS.at_ (by omega)
            have hfx := fine_of (hfar2 x (List.mem_of_getElem? hx))
            by_cases h20 : i < 20
            · refine wc_seq (sr (mI (mL (lenC ?_))))
              refine lssC (wl_end (cT (wc_skip (k_then (wc_seq (wc_block (sr (mP (mL (mI ?_))))))))))
              refine s_indexAddr UIs.out TIs.size rfl rfl (by omega) (by omega) (by decide) ?_
              refine s_load (vs := [_, _, _, _, _]) TIs.out rfl ((hr.ext hh.below).recAt AR.len hx) rfl (by decide) ?_
              refine s_callf (hstep_calls (p1.both hh) hT (by omega) x.kind x.x x.key hfx) FnIs.out rfl (by decide) ?_
              rintro e_ w43 ⟨rfl, hbo⟩
              refine ⟨_, rfl, ?_⟩
              obtain ⟨E1', p1', hh⟩ := hbo.pair
              refine notC ?_
              refine mB ?_
              first | refine gS ?_ | (refine gT ?_; refine mI ?_) | refine gV ?_
              first | refine gS ?_ | (refine gT ?_; refine lssC ?_) | refine gV ?_
              first | refine gS ?_ | (refine gT ?_; refine mB ?_) | refine gV ?_
              first | refine gS ?_ | (refine gT ?_; refine mL ?_) | refine gV ?_
              first | refine gS ?_ | (refine gT ?_; refine mI ?_) | refine gV ?_
              first | refine gS ?_ | (refine gT ?_; refine s_indexAddr UIs.out TIs.size rfl rfl (by omega) (by omega) (by decide) ?_) | refine gV ?_
              refine wl_guard_take rfl rfl ?_
              refine s_load (vs := [_, _, _, _, _]) TIs.out rfl ((hr.ext hh.below).recAt AR.len hx) rfl (by decide) ?_
              replace hh := hh.perm List.perm_append_comm
              refine wl_guard_take rfl rfl ?_
              refine s_callf (hstep_calls (p2.both hh) hT (by omega) x.kind x.x x.key hfx) FnIs.out rfl (by decide) ?_
              rintro e_ w53 ⟨rfl, hbo2⟩
              refine ⟨_, rfl, ?_⟩
              obtain ⟨E2', p2', hh⟩ := hbo2.pair
              replace hh := hh.perm List.perm_append_comm
              first | refine gS ?_ | (refine gT ?_; refine notC ?_) | refine gV ?_
              first | refine gS ?_ | (refine gT ?_; (first | refine pkT ?_ | refine pkF ?_)) | refine gV ?_
              first | refine pkT ?_ | refine pkF ?_
              refine wl_end (cF (wc_skip (b_norm (k_then (wc_region (mI ?_))))))
              refine addC (aI (wl_nil (k_then ?_)))
              refine ⟨⟨i + 1, E1', E2', by omega, rfl, p1', p2', hh⟩, by show n - (i + 1) < n - i; omega, ?_⟩
              (repeat (first | exact agree_mask _ _ _ | refine agree_upd rfl ?_ | refine agree_mask2 rfl ?_))
            · refine wc_seq (sr (mI (mL (lenC ?_))))
              refine lssC (wl_end (cT (wc_skip (k_then (wc_seq (wc_block (sr (mP (mL (mI ?_))))))))))
              refine s_indexAddr UIs.out TIs.size rfl rfl (by omega) (by omega) (by decide) ?_
              refine s_load (vs := [_, _, _, _, _]) TIs.out rfl ((hr.ext hh.below).recAt AR.len hx) rfl (by decide) ?_
              refine s_callf (hstep_calls (p1.both hh) hT (by omega) x.kind x.x x.key hfx) FnIs.out rfl (by decide) ?_
              rintro e_ w43 ⟨rfl, hbo⟩
              refine ⟨_, rfl, ?_⟩
              obtain ⟨E1', p1', hh⟩ := hbo.pair
              refine notC ?_
              refine mB ?_
              first | refine gS ?_ | (refine gT ?_; refine mI ?_) | refine gV ?_
              first | refine gS ?_ | (refine gT ?_; refine lssC ?_) | refine gV ?_
              first | refine gS ?_ | (refine gT ?_; refine mB ?_) | refine gV ?_
              first | refine gS ?_ | (refine gT ?_; refine mL ?_) | refine gV ?_
              first | refine gS ?_ | (refine gT ?_; refine mI ?_) | refine gV ?_
              first | refine gS ?_ | (refine gT ?_; refine s_indexAddr UIs.out TIs.size rfl rfl (by omega) (by omega) (by decide) ?_) | refine gV ?_
              refine wl_guard_skip (by decide) rfl rfl (by decide) ?_
              refine wl_guard_skip (by decide) rfl rfl (by decide) ?_
              first | refine gS ?_ | (refine gT ?_; refine notC ?_) | refine gV ?_
              first | refine gS ?_ | (refine gT ?_; (first | refine pkT ?_ | refine pkF ?_)) | refine gV ?_
              first | refine pkT ?_ | refine pkF ?_
              refine wl_end (cF (wc_skip (b_norm (k_then (wc_region (mI ?_))))))
              refine addC (aI (wl_nil (k_then ?_)))
              refine ⟨⟨i + 1, E1', E2, by omega, rfl, p1', p2.mono (by omega), hh⟩, by show n - (i + 1) < n - i; omega, ?_⟩
              (repeat (first | exact agree_mask _ _ _ | refine agree_upd rfl ?_ | refine agree_mask2 rfl ?_))
          · refine wc_seq (sr (mI (mL (lenC ?_))))
            refine lssC (wl_end (cF ?_))
            refine wc_exit ?_
            refine k_exit (k_exit (b_here (k_then (sr ?_))))
            refine s_callf (hawake_calls _ (hT.hp hh)) FnIs.out rfl (by decide) ?_
            rintro e_ w57 ⟨rfl, hb_⟩
            refine ⟨_, rfl, ?_⟩
            replace hh := hh.ext hb_
            refine aB (wl_end (wc_ret ?_))
            refine ret1 (by first | exact .inr rfl | exact .inl rfl) rfl (v_bool rfl) ?_
            exact ⟨rfl, hh.below⟩
end Go.Proofs.YthmmofllajkejaaGreatDoor
