/- The row and the card of CastMeets. -/
import Derived.Laws.OwnMore
import Derived.OrdersIn
import Derived.Test.YtioilmppidlbnaaGreatDoorCards
import Derived.Test.YtioilmppidlbnaaGreatDoorTie
import Derived.SevenTiedAt
import Derived.Test.YtioilmppidlbnaaGreatDoorZ5
/- A part of a row of one's own: append in place, clear of the tail. Plain lemmas, no program in sight. -/
namespace Go.Proofs.YtioilmppidlbnaaGreatDoor
open Go.RowKit
variable {ro : Mode}
theorem uY {w : World} {b : Nat} {t : TypeId} {sz n c p g : Nat} {xs : List Value} (h : w.ownsRow b t sz (.slice (some ⟨g, 0, none⟩) n c) n xs) (hp : p ≤ n) : w.ownsRow b t sz (.slice (some ⟨g, 0, none⟩) p c) p (xs.take (p * sz)) := by
 have hps : p * sz ≤ n * sz := Nat.mul_le_mul_right _ hp
 have hl : (xs.take (p * sz)).length = p * sz := by rw [List.length_take, h.1]; omega
 refine ⟨hl, ?_⟩
 rcases h.2 with ⟨h1, _⟩ | ⟨g', cap, cur, hv, hg, hheap, hmc, hcm, hcur, htake⟩
 ·cases h1
 ·injection hv with hA _ hcap
  injection hA with hA
  injection hA with hA
  subst hA; subst hcap
  refine .inr ⟨g, c, cur, rfl, hg, hheap, by omega, hcm, hcur, ?_⟩
  rw [← htake, List.take_take, Nat.min_eq_left hps]
section
variable {P : Program} {N : Nat} {ops : Array Oper} {Q : Kq} {ρ : Rf} {w w0 : World} {rest : List Oper} {H : List HE} {ty d : Nat} {pos : String} {af : Array Edge}
theorem oh (hh : Hp w0 H w) {t e : TypeId} {s x : Operand} {i n c p m c' sz by' g : Nat} {ag : Bool} {a : Addr} {zc xs news : List Value} (hi : H[i]? = some (.row (some ⟨g, 0, none⟩) n c e sz xs)) (hs : ev ρ s = .slice (some ⟨g, 0, none⟩) p c) (hx : ev ρ x = .slice (some a) m c')
  (hp : p ≤ n) (hpm : p + m ≤ c) (hl : news.length = m * sz) (hr : ∀ j u, news[j]? = some u → w.cell? (a.add j) = some u) (h1 : (news.all Value.oneCell') = true) (ht : P.underlying t = some (.slice e)) (hte : dp P e = some (sz, ag, by', zc)) (hN : d < N)
  (k : ∀ w', Hp w0 (H.set i (.row (some ⟨g, 0, none⟩) (p + m) c e sz (xs.take (p * sz) ++ news))) w' → WL ro P N ops Q rest (cn ρ d (.slice (some ⟨g, 0, none⟩) (p + m) c)) w') :
  WL ro P N ops Q (⟨some d, .call ⟨.builtin .append, #[s, x], #[t, t]⟩, ty, pos, af, none⟩ :: rest) ρ w := by
 obtain ⟨inf, z, dd, hinf, hd, hz, hsz, hby, hzc, _⟩ := eH hte
 obtain ⟨w', hrun, hown, hg⟩ := run_append_fits (P := P) w w0.heap.size t ty e inf sz ht hinf hsz g p c _ (uY (hh.at_ hi) hp) a m c' news hl hr (by simpa using h1) hpm
 refine aW rfl rfl hN (w' := w') (v := .slice (some ⟨g, 0, none⟩) (p + m) c) ?_ (k w' (hh.grown hi hg (.inl rfl) hown))
 simp only [execOp, resolve, invoke, builtin, Sem.run_bind, Sem.run_pure, Result.andThen_ok, List.map_toArray, List.map_cons, List.map_nil, hs, hx, hrun]
theorem qj (hh : Hp w0 H w) {t e : TypeId} {x : Operand} {i p c m c' o sz by' g : Nat} {ag : Bool} {zc xs : List Value} (hi : H[i]? = some (.row (some ⟨g, 0, none⟩) p c e sz xs)) (hx : ev ρ x = .slice (some ⟨g, o, none⟩) m c') (ho : p * sz ≤ o) (hom : o + m * sz ≤ c * sz) (hm : 0 < m)
  (ht : P.underlying t = some (.slice e)) (hte : dp P e = some (sz, ag, by', zc)) (hzl : zc.length = sz) (h1 : (zc.all Value.oneCell') = true)
  (k : ∀ w', Hp w0 H w' → WL ro P N ops Q rest ρ w') : WL ro P N ops Q (⟨none, .call ⟨.builtin .clear, #[x], #[t]⟩, ty, pos, af, none⟩ :: rest) ρ w := by
 obtain ⟨z, hz, hzc⟩ := dI (w := w) hte
 obtain ⟨hlen, h2⟩ := hh.at_ hi
 rcases h2 with ⟨h2, _⟩ | ⟨g', cap, cur, hv, hg, hheap, hmc, hcm, hcur, htake⟩
 ·cases h2
 ·injection hv with hA hn hcap
  injection hA with hA
  injection hA with hA
  subst hA; subst hcap
  have hcl : cur.size = cur.toList.length := by simp
  have hzr : (gj m zc).length = m * sz := by rw [jl, hzl]
  have hall : ∀ v ∈ gj m zc, v.oneCell' = true := fun v hv => by
   obtain ⟨j, hj⟩ := List.mem_iff_getElem?.1 hv
   have hj2 := (List.getElem?_eq_some_iff.1 hj).1
   rw [jl] at hj2
   rw [qn m zc j hj2] at hj
   exact List.all_eq_true.1 h1 v (List.mem_of_getElem? hj)
  obtain ⟨w', hr, hb', hgr, hs⟩ := fe (P := P) (b := g) (t := e) (fz := (0, 0)) o (gj m zc) 0 cur.toList w (by simpa using hheap) (.inr (Nat.le_refl _)) (by rw [← hcl, hzr]; omega) hall
  have hset := vy hi
  refine yA rfl rfl (w' := w') (v := .tuple #[]) ?_ (k w' (hset ▸ hh.grown hi hgr (.inl rfl) ⟨hlen, .inr ⟨g, c, (cj cur.toList (o + 0) (gj m zc)).toArray, rfl, hg, by simpa using hb', hmc, hcm, ?_, ?_⟩⟩))
  ·simp only [execOp, resolve, invoke, hx, List.map_toArray, List.map_cons, List.map_nil]
   have hzz : Builtin.zeroCells z.cells m = (gj m zc).toArray := by
    rw [Builtin.zeroCells, hzc, List.size_toArray]; exact lk m zc
   obtain ⟨q, rfl⟩ : ∃ q, m = q + 1 := ⟨m - 1, by omega⟩
   simp [builtin, Builtin.clear_, run_underlying ht, hz, hzz, hr]
  ·simp only [List.size_toArray]
   rw [eB (by rw [← hcl, hzr]; omega), ← hcl, hcur]
  ·simp only [cj]
   rw [List.append_assoc, List.take_append_of_le_length (by rw [List.length_take, ← hcl]; omega), List.take_take, Nat.min_eq_left (by omega)]
   exact htake
end
end Go.Proofs.YtioilmppidlbnaaGreatDoor
/- The walks through slices.Delete (one element), bern.has and bern.of. -/
namespace Go.Proofs.YtioilmppidlbnaaGreatDoor
open Go.RowKit
theorem pd {w0 : World} {Hr : List HE} (g n c a : Nat) (ds : List Int) (w : World) (hh : Hp w0 (.row (some ⟨g, 0, none⟩) n c 3 1 (bP ds) :: Hr) w) (hl : ds.length = n) (ha : a < n) (hn : n ≤ 1000) :
  Calls Tryz.prog 94 #[.slice (some ⟨g, 0, none⟩) n c, .int .i64 a, .int .i64 ((a : Int) + 1)] w fun r w' => r = .returned (.slice (some ⟨g, 0, none⟩) (n - 1) c) ∧ Hp w0 (.row (some ⟨g, 0, none⟩) (n - 1) c 3 1 (bP (ds.eraseIdx a)) :: Hr) w' := by
 have hc := hh.g9 (i := 0) rfl
 refine aj (N := 33) (l := [.slice (some ⟨g, 0, none⟩) n c, .int .i64 a, .int .i64 ((a : Int) + 1)]) Tryz.func94 rfl rfl (by simp) ?_
 have hsl0 := fun (w1 : World) (H1 : Hp w0 (.row (some ⟨g, 0, none⟩) n c 3 1 (bP ds) :: Hr) w1) => H1.aR (i := 0) rfl
 have her : bP (ds.take a) ++ bP (ds.drop (a + 1)) = bP (ds.eraseIdx a) := by
  rw [List.eraseIdx_eq_take_drop_succ]
  simp [bP]
 refine sr (aL (aa (sr (mL (mI (mI (mL (a6 ?_))))))))
 refine aW rfl rfl (by decide) (wO aG.out aC.size rfl rfl rfl rfl (l := a) (h := a + 1) (q := n) rfl (by omega) rfl (by omega) (by omega) (by omega) (by omega)) ?_
 refine aa (ah (sr (mI (mI ?_))))
 refine dL (aa ?_)
 refine cF (al (ai (sr (mL (a6 (aI (aa (ah ?_))))))))
 refine aN 6 [[(0, none)], [(1, none)], [(20, some 0), (21, some 1)], [(0, none)], [(2, none)], [(23, some 3), (24, some 4)]] [(5, 25), (4, 24), (3, 23), (2, 22), (1, 21), (0, 20)] hh mixed (by kernel_rfl) ?_
 refine iY ?_
 refine ee ?_
 refine bk (i := 2) (fun ρ1 w1 hj hR => rn (h := a) aG.out aC.size (show ρ1 20 = Value.slice _ _ _ from hR.1) (show ρ1 21 = Value.int _ _ from hR.2.1) (by omega) (by omega)) ?_
 refine iY ?_
 refine ee ?_
 refine bk (i := 5) (fun ρ1 w1 hj hR => kI (l := (a + 1)) aG.out aC.size (show ρ1 23 = Value.slice _ _ _ from hR.1) (show ρ1 24 = Value.int _ _ from hR.2.1) (by omega) (by omega) (by omega)) ?_
 refine bj ?_
 intro f W hJ hV
 have hb_5 := hJ.bl
 obtain ⟨v25, v24, v23, v22, v21, v20, _⟩ := hV
 replace hh := hJ.hp
 refine aY (bm (ae v25 (ae v24 (ae v23 (ae v22 (ae v21 (ae v20 aX))))))) ?_
 dsimp only [ct]
 clear hJ
 have hbk := (hsl0 _ hh).back (l := a + 1) (c := c) (by omega) hc
 obtain ⟨ad, had⟩ : ∃ ad, (if c = a + 1 then some (⟨g, 0, none⟩ : Addr) else (some (⟨g, 0, none⟩ : Addr)).map (·.add ((a + 1) * 1))) = some ad := by
  split <;> exact ⟨_, rfl⟩
 rw [had] at hbk ⊢
 have hds : (bP ds).drop ((a + 1) * 1) = bP (ds.drop (a + 1)) := by rw [Nat.mul_one]; unfold bP; rw [← List.map_drop]
 have hdt : (bP ds).take (a * 1) = bP (ds.take a) := by rw [Nat.mul_one]; unfold bP; rw [← List.map_take]
 rw [hds] at hbk
 have hrd : ∀ j u, (bP (ds.drop (a + 1)))[j]? = some u → W.cell? (ad.add j) = some u := fun j u hu => by
  have hj := (List.getElem?_eq_some_iff.1 hu).1
  rw [gv, List.length_drop] at hj
  obtain ⟨ad', e, r⟩ := hbk.2 (by omega)
  obtain rfl : ad = ad' := Option.some.inj e
  exact r j u hu
 refine oh hh (i := 0) (a := ad) (p := a) (m := n - (a + 1)) rfl rfl rfl (by omega) (by omega) hbk.1 hrd (bM _) aG.out aC.out (by decide) ?_
 intro w26 hh
 simp only [List.set_cons_zero] at hh
 rw [hdt, her, show a + (n - (a + 1)) = n - 1 by omega] at hh
 rw [show a + (n - (a + 1)) = n - 1 by omega]
 have hp31 : (if c = n - 1 then some (⟨g, 0, none⟩ : Addr) else (some (⟨g, 0, none⟩ : Addr)).map (·.add ((n - 1) * 1))) = some ⟨g, n - 1, none⟩ := by
  rw [if_neg (by omega)]
  show some ((⟨g, 0, none⟩ : Addr).add ((n - 1) * 1)) = _
  rw [dO, Nat.zero_add, Nat.mul_one]
 refine aL (aa (sr (mL (mL (a6 (mI ?_))))))
 refine aW rfl rfl (by decide) (gZ (l := n - 1) (h := n) aG.out aC.size rfl ⟨_, _, rfl, rfl⟩ ⟨_, _, rfl, rfl⟩ (by omega) (by omega)) ?_
 rw [hp31, show n - (n - 1) = 1 by omega]
 refine qj hh (i := 0) (o := n - 1) (m := 1) rfl rfl (by omega) (by omega) (by decide) aG.out aC.out rfl rfl ?_
 intro w32 hh
 refine aa (sr (mL (aL (aa (aq ?_)))))
 refine cC ?_
 exact ⟨rfl, hh⟩
theorem vo (fx : FX) (ax : Int) (k : Nat) (w : World) (hT : eN w) (hf : fx.at_ w) (hl : fx.qf k) :
  Calls Tryz.prog 93 #[.agg #[.slice fx.A fx.n fx.a, .slice fx.B fx.m fx.b], .int .i64 ax] w fun r w' => r = .returned (.int .i64 (dX fx ax)) ∧ Below w.heap.size w w' := by
 have hh := Hp.start w
 have hck := fun w1 hT1 hb => lu fx k w1 hT1 (hf.ext hb) hl
 by_cases h0 : fx.e = 0
 ·by_cases h1 : ax < 0
  ·rw [show dX fx ax = 1 by unfold dX; rw [if_neg (by omega), if_pos (.inl h1)]]
   refine aj (N := 20) (l := [.agg #[.slice fx.A fx.n fx.a, .slice fx.B fx.m fx.b], .int .i64 ax]) Tryz.func93 rfl rfl (by simp) ?_
   refine sr ?_
   refine cW hh [_,_] ?_
   intro b2 w2 hh
   refine aI (aa (ah (sr ?_)))
   refine cD hh 0 [_,_] ?_
   refine bF hh (hck _ (hT.hp hh) hh.below) rfl ?_
   intro w7 hh
   refine aI (aa (sr (mI ?_)))
   refine dR (aa (cF (al (ai (ah (sr (mI ?_)))))))
   refine aQ (mB ?_)
   first | refine gS ?_ | (refine gT ?_; refine mI ?_) | refine gV ?_
   first | refine gS ?_ | (refine gT ?_; refine bG ?_) | refine gV ?_
   first | refine gS ?_ | (refine gT ?_; refine bI hh 0 ?_) | refine gV ?_
   first | refine gS ?_ | (refine gT ?_; refine a6 ?_) | refine gV ?_
   first | refine gS ?_ | (refine gT ?_; refine de ?_) | refine gV ?_
   first | refine dq ?_ | refine dr ?_
   refine aa (cT (sr (aI (aa (aq (a8 ?_))))))
   refine cC ?_
   exact ⟨rfl, hh.below⟩
  ·by_cases h2 : (fx.n : Int) ≤ ax
   ·rw [show dX fx ax = 1 by unfold dX; rw [if_neg (by omega), if_pos (.inr h2)]]
    refine aj (N := 20) (l := [.agg #[.slice fx.A fx.n fx.a, .slice fx.B fx.m fx.b], .int .i64 ax]) Tryz.func93 rfl rfl (by simp) ?_
    refine sr ?_
    refine cW hh [_,_] ?_
    intro b2 w2 hh
    refine aI (aa (ah (sr ?_)))
    refine cD hh 0 [_,_] ?_
    refine bF hh (hck _ (hT.hp hh) hh.below) rfl ?_
    intro w7 hh
    refine aI (aa (sr (mI ?_)))
    refine dR (aa (cF (al (ai (ah (sr (mI ?_)))))))
    refine aQ (mB ?_)
    first | refine gS ?_ | (refine gT ?_; refine mI ?_) | refine gV ?_
    first | refine gS ?_ | (refine gT ?_; refine bG ?_) | refine gV ?_
    first | refine gS ?_ | (refine gT ?_; refine bI hh 0 ?_) | refine gV ?_
    first | refine gS ?_ | (refine gT ?_; refine a6 ?_) | refine gV ?_
    first | refine gS ?_ | (refine gT ?_; refine de ?_) | refine gV ?_
    first | refine dq ?_ | refine dr ?_
    refine aa (cT (sr (aI (aa (aq (a8 ?_))))))
    refine cC ?_
    exact ⟨rfl, hh.below⟩
   ·rw [show dX fx ax = 0 by unfold dX; rw [if_neg (by omega), if_neg (by omega)]]
    refine aj (N := 20) (l := [.agg #[.slice fx.A fx.n fx.a, .slice fx.B fx.m fx.b], .int .i64 ax]) Tryz.func93 rfl rfl (by simp) ?_
    refine sr ?_
    refine cW hh [_,_] ?_
    intro b2 w2 hh
    refine aI (aa (ah (sr ?_)))
    refine cD hh 0 [_,_] ?_
    refine bF hh (hck _ (hT.hp hh) hh.below) rfl ?_
    intro w7 hh
    refine aI (aa (sr (mI ?_)))
    refine dR (aa (cF (al (ai (ah (sr (mI ?_)))))))
    refine aQ (mB ?_)
    first | refine gS ?_ | (refine gT ?_; refine mI ?_) | refine gV ?_
    first | refine gS ?_ | (refine gT ?_; refine bG ?_) | refine gV ?_
    first | refine gS ?_ | (refine gT ?_; refine bI hh 0 ?_) | refine gV ?_
    first | refine gS ?_ | (refine gT ?_; refine a6 ?_) | refine gV ?_
    first | refine gS ?_ | (refine gT ?_; refine de ?_) | refine gV ?_
    first | refine dq ?_ | refine dr ?_
    refine aa (cF (al (ai (sr (aI (aa (aq ?_)))))))
    refine cC ?_
    exact ⟨rfl, hh.below⟩
 ·rw [show dX fx ax = fx.e by unfold dX; rw [if_pos h0]]
  refine aj (N := 20) (l := [.agg #[.slice fx.A fx.n fx.a, .slice fx.B fx.m fx.b], .int .i64 ax]) Tryz.func93 rfl rfl (by simp) ?_
  refine sr ?_
  refine cW hh [_,_] ?_
  intro b2 w2 hh
  refine aI (aa (ah (sr ?_)))
  refine cD hh 0 [_,_] ?_
  refine bF hh (hck _ (hT.hp hh) hh.below) rfl ?_
  intro w7 hh
  refine aI (aa (sr (mI ?_)))
  refine dR (aa (cT (sr (mI (aI (aa (aq (a8 ?_))))))))
  refine cC ?_
  exact ⟨rfl, hh.below⟩
theorem qC (A : Option Addr) (n c a d : Nat) (ns : List Nat) (w : World) (hS : Sl w A n 1 (bP (cm ns))) (hcap : n ≤ c) (hn : n ≤ 1000) (hd : ns[a]? = some d) (hlow : ∀ x ∈ ns, x ≤ 127) (hmax : aw ns ≤ 4096) :
  Calls Tryz.prog 80 #[.slice A n c, .int .i64 a] w fun r w' => r = .returned (.agg #[.int .i64 ((d : Int) + 1), .int .i64 (aw (ns.drop (a + 1)) : Nat)]) ∧ Below w.heap.size w w' := by
 have hh := Hp.start w
 have hln : ns.length = n := by have := hS.1; simpa [bP, cm] using this
 have ha := (List.getElem?_eq_some_iff.1 hd).1
 have hd127 := hlow d (List.mem_of_getElem? hd)
 have hgd := ep (jJ hd)
 have hbk := hS.back (l := a + 1) (c := c) (by omega) hcap
 have hds : (bP (cm ns)).drop ((a + 1) * 1) = bP (cm (ns.drop (a + 1))) := by
  rw [Nat.mul_one]
  unfold bP cm
  rw [← List.map_drop, ← List.map_drop]
 rw [hds] at hbk
 have hcd : gE 1 (cm (ns.drop (a + 1))) = (aw (ns.drop (a + 1)) : Nat) := by
  have h1 := jt (ns.drop (a + 1)) 1 (by decide) (by decide) (fun x hx => hlow x (List.mem_of_mem_drop hx))
  have h2 : aw (ns.drop (a + 1)) ≤ aw ns := by
   have h3 : aw ns = aw (ns.take (a + 1)) * aw (ns.drop (a + 1)) := by rw [← cZ, List.take_append_drop]
   rw [h3]
   exact Nat.le_mul_of_pos_left _ (dE _)
  rw [Nat.one_mul, if_pos (by omega)] at h1
  exact h1
 have hcnt := fun w1 hS1 => dt (if c = a + 1 then A else A.map (·.add ((a + 1) * 1))) (n - (a + 1)) (c - (a + 1)) (cm (ns.drop (a + 1))) w1 hS1 (by omega)
 rw [hcd] at hcnt
 obtain ⟨ad, rfl, srd⟩ := hS.at_ (by omega)
 refine aj (N := 16) (l := [.slice (some ad) n c, .int .i64 a]) Tryz.func80 rfl rfl (by simp) ?_
 refine sr ?_
 refine bY hh ?_
 intro b4 w4 hh
 refine aa (ah ?_)
 refine aN 10 [[(0, none)], [(1, none)], [(5, some 0), (6, some 1)], [(7, some 2)], [(8, some 3)], [(0, none)], [(1, none)], [(11, some 6)], [(10, some 5), (12, some 7)], [(13, some 8)]] [(9, 14), (8, 13), (7, 12), (6, 11), (5, 10), (4, 9), (3, 8), (2, 7), (1, 6), (0, 5)] hh mixed (by kernel_rfl) ?_
 refine iY ?_
 refine ee ?_
 refine r8 (a) ?_
 refine mU (fun _ hj => (srd.ext hj.hp.below).gU hgd) ?_
 refine qJ ?_
 refine iY ?_
 refine ee ?_
 refine qJ ?_
 refine bk (i := 8) (fun ρ1 w1 hj hR => kI (l := (a + 1)) aG.out aC.size (show ρ1 10 = Value.slice _ _ _ from hR.1) (show ρ1 12 = Value.int _ _ from hR.2.1) (by omega) (by omega) (by omega)) ?_
 refine dC (fun _ hj => hcnt _ (hbk.ext hj.hp.below)) ?_
 refine bj ?_
 intro f W hJ hV
 have hb_1 := hJ.bl
 obtain ⟨v14, v13, v12, v11, v10, v9, v8, v7, v6, v5, _⟩ := hV
 replace hh := hJ.hp
 refine aY (bm (ae v14 (ae v13 (ae v12 (ae v11 (ae v10 (ae v9 (ae v8 (ae v7 (ae v6 (ae v5 aX))))))))))) ?_
 dsimp only [ct]
 clear hJ
 refine fS [_,_] ?_
 refine bK hh 0 [_,_] ?_
 intro ws hh
 replace hh : Hp _ (.blk _ _ [_, _] _ :: _) _ := hh
 refine aa (aq ?_)
 refine gC (aO rfl (aP (vs := [_, _]) aC.out (hh.au (i := 0) (n := 2) rfl rfl) rfl) bA) ?_
 exact ⟨rfl, hh.below⟩
end Go.Proofs.YtioilmppidlbnaaGreatDoor
/- Plain laws: the faces of a form, and where the parts of a form that is cut meet. No program in sight. -/
namespace Go.Proofs.YtioilmppidlbnaaGreatDoor
theorem qG {α β : Type} {l : List α} {f g : α → List β} (h : ∀ a ∈ l, f a = g a) : l.flatMap f = l.flatMap g := by
 rw [List.flatMap_def, List.flatMap_def, List.map_congr_left h]
theorem pe (m n : Nat) : List.range (m * n) = (List.range n).flatMap fun q => (List.range m).map fun r => r + m * q := by
 induction n with
 | zero => rfl
 | succ n ih =>
  rw [Nat.mul_succ, List.range_add, ih, List.range_succ, List.flatMap_append, List.flatMap_singleton]
  congr 1
  exact List.map_congr_left fun r _ => Nat.add_comm _ _
theorem zl {α : Type} (d t : Nat) (ht : t ≤ d) (G : Nat → List α) : (List.range (d + 1)).flatMap (fun k => if k = t then G k else []) = G t := by
 have none : ∀ n, n ≤ t → (List.range n).flatMap (fun k => if k = t then G k else []) = [] := fun n hn => by
  refine List.flatMap_eq_nil_iff.2 fun k hk => ?_
  have := List.mem_range.1 hk
  rw [if_neg (by omega)]
 induction d with
 | zero =>
  obtain rfl : t = 0 := by omega
  simp
 | succ d ih =>
  rw [List.range_succ, List.flatMap_append, List.flatMap_singleton]
  by_cases h : t = d + 1
  ·subst h
   rw [none _ (Nat.le_refl _), if_pos rfl, List.nil_append]
  ·rw [ih (by omega), if_neg (by omega), List.append_nil]
def tD (A B : List Nat) (d t : Nat) : List Nat := (List.range (aw B)).flatMap fun q => (List.range (aw A)).map fun f => cu A d f t q
theorem rf (A B : List Nat) (d t : Nat) (ht : t ≤ d) : (List.range (aw (A ++ d :: B))).filter (fun p => decide (p / aw A % (d + 1) = t)) = tD A B d t := by
 have hA := dE A
 rw [cZ, aw, pe, List.filter_flatMap]
 have e1 : ∀ x, ((List.range (aw A)).map fun f => f + aw A * x).filter (fun p => decide (p / aw A % (d + 1) = t)) = if x % (d + 1) = t then (List.range (aw A)).map fun f => f + aw A * x else [] := fun x => by
  by_cases h : x % (d + 1) = t
  ·rw [if_pos h]
   refine List.filter_eq_self.2 fun p hp => ?_
   obtain ⟨f, hf, rfl⟩ := List.mem_map.1 hp
   have hf := List.mem_range.1 hf
   rw [Nat.add_mul_div_left _ _ hA, Nat.div_eq_of_lt hf, Nat.zero_add, decide_eq_true h]
  ·rw [if_neg h]
   refine List.filter_eq_nil_iff.2 fun p hp => ?_
   obtain ⟨f, hf, rfl⟩ := List.mem_map.1 hp
   have hf := List.mem_range.1 hf
   rw [Nat.add_mul_div_left _ _ hA, Nat.div_eq_of_lt hf, Nat.zero_add, decide_eq_true_iff]
   exact h
 simp only [e1]
 rw [pe, List.flatMap_assoc]
 unfold tD
 congr 1
 funext q
 rw [List.flatMap_map]
 have e2 : ∀ k ∈ List.range (d + 1), (if (k + (d + 1) * q) % (d + 1) = t then (List.range (aw A)).map (fun f => f + aw A * (k + (d + 1) * q)) else []) = if k = t then (List.range (aw A)).map (fun f => cu A d f k q) else [] := fun k hk => by
  have := List.mem_range.1 hk
  rw [Nat.add_mul_mod_self_left, Nat.mod_eq_of_lt this]
  rfl
 rw [qG e2, zl d t ht fun k => (List.range (aw A)).map fun f => cu A d f k q]
def jx (A B : List Nat) (d t : Nat) (xs : List Dyadic) : List Dyadic := (tD A B d t).map fun p => (xs[p]?).getD 0
theorem kD {A B : List Nat} {d t u : Nat} {xs ys : List Dyadic} (h : ∀ f q, f < aw A → q < aw B → (xs[cu A d f t q]?).getD 0 = (ys[cu A d f u q]?).getD 0) : jx A B d t xs = jx A B d u ys := by
 unfold jx tD
 rw [List.map_flatMap, List.map_flatMap]
 refine qG fun q hq => ?_
 rw [List.map_map, List.map_map]
 exact List.map_congr_left fun f hf => h f q (List.mem_range.1 hf) (List.mem_range.1 hq)
theorem uz (d k : Nat) (hk : k ≤ d) (F : Nat → Dyadic) : sm (List.range (d + 1)) (fun i => F i * (if i = k then 1 else 0)) = F k := by
 rw [bR (g := fun i => if i = k then F k else 0) fun i _ => ?_, pT, if_pos (by omega)]
 split
 ·rename_i h; rw [h, Dyadic.mul_one]
 ·exact Dyadic.mul_zero _
theorem vw {A B : List Nat} {d : Nat} (s : Dyadic) (xs : List Dyadic) : jx A B d 0 (dh (A ++ d :: B) A.length (j4 d s) xs) = jx A B d 0 xs :=
 kD fun f q hf hq => by
  rw [iw _ _ hf (Nat.zero_le _) hq, Option.getD_some]
  simp only [xk]
  exact uz d 0 (Nat.zero_le _) fun i => (xs[cu A d f i q]?).getD 0
theorem vT {A B : List Nat} {d : Nat} (s : Dyadic) (xs : List Dyadic) : jx A B d d (dh (A ++ d :: B) A.length (j5 d s) xs) = jx A B d d xs :=
 kD fun f q hf hq => by
  rw [iw _ _ hf (Nat.le_refl _) hq, Option.getD_some, bR (g := fun i => (xs[cu A d f i q]?).getD 0 * (if i = d then 1 else 0)) fun i hi => by rw [xd s (by have := List.mem_range.1 hi; omega)]]
  exact uz d d (Nat.le_refl _) fun i => (xs[cu A d f i q]?).getD 0
theorem u7 {A B : List Nat} {d : Nat} (s : Dyadic) (xs : List Dyadic) : jx A B d d (dh (A ++ d :: B) A.length (j4 d s) xs) = jx A B d 0 (dh (A ++ d :: B) A.length (j5 d s) xs) :=
 kD fun f q hf hq => by
  rw [iw _ _ hf (Nat.le_refl _) hq, iw _ _ hf (Nat.zero_le _) hq, Option.getD_some, Option.getD_some]
  exact bR fun i hi => by rw [x6 s (by have := List.mem_range.1 hi; omega)]
end Go.Proofs.YtioilmppidlbnaaGreatDoor
/- The walk through bern.Face. -/
namespace Go.Proofs.YtioilmppidlbnaaGreatDoor
open Go.RowKit
def eV (ap d t : Nat) (xs : List Dyadic) (i : Nat) : List Dyadic := ((List.range i).filter fun p => decide (p / ap % (d + 1) = t)).map fun p => (xs[p]?).getD 0
theorem o9 (ap d t : Nat) (xs : List Dyadic) (i : Nat) : eV ap d t xs (i + 1) = eV ap d t xs i ++ if i / ap % (d + 1) = t then [(xs[i]?).getD 0] else [] := by
 unfold eV
 rw [List.range_succ, List.filter_append, List.map_append]
 congr 1
 by_cases h : i / ap % (d + 1) = t
 ·rw [if_pos h, List.filter_cons_of_pos (by rw [decide_eq_true h])]; rfl
 ·rw [if_neg h, List.filter_cons_of_neg (by rw [decide_eq_false h]; decide)]; rfl
theorem tv (fx : FX) (a d : Nat) (sd : Nat) (k : Nat) (w : World) (hT : eN w) (hf : fx.at_ w) (hl : fx.qf k) (hcap : fx.n ≤ fx.a) (h0 : fx.e = 0) (hd : fx.ns[a]? = some d) (hsd : sd = 0 ∨ sd = 1) :
  Calls Tryz.prog 45 #[.agg #[.slice fx.A fx.n fx.a, .slice fx.B fx.m fx.b], .int .i64 a, .int .i64 sd] w fun r w' => ∃ g : FX, g.ds = fx.ds.eraseIdx a ∧ g.cs = (eV (aw (fx.ns.drop (a + 1))) d (d * sd) (fx.cs.map NR.d) fx.m).map nR ∧ g.n ≤ 100000 ∧ g.m ≤ 1000000 ∧ r = .returned (.tuple #[.agg #[.slice g.A g.n g.a, .slice g.B g.m g.b], .int .i64 0]) ∧ Hp w [g.gp, g.fQ] w' := by
 have hh := Hp.start w
 obtain ⟨hdeg, hnum, h12, hlow, hcnt, hmax⟩ := FX.fv h0
 have hln := hf.ln.1
 have hlm := hf.ln.2
 have hnl : fx.ns.length = fx.n := by unfold FX.ns; rw [List.length_map]; exact hln
 have ha := (List.getElem?_eq_some_iff.1 hd).1
 have hd127 := hlow d (List.mem_of_getElem? hd)
 have hE : dX fx (a : Int) = 0 := by unfold dX; rw [if_neg (by omega), if_neg (by omega)]
 have hhas := fun w1 hT1 hb => vo fx (a : Int) k w1 hT1 (hf.ext hb) hl
 rw [hE] at hhas
 have hdg : Sl w fx.A fx.n 1 (bP (cm fx.ns)) := by rw [← hdeg]; exact hf.dg
 have hof := fun w1 hb => qC fx.A fx.n fx.a a d fx.ns w1 (hdg.ext hb) hcap (by omega) hd hlow hmax
 have hap : 0 < aw (fx.ns.drop (a + 1)) := dE _
 have hgd : (bP fx.ds)[a]? = some (.int .i64 (d : Int)) := by rw [hdeg]; exact ep (jJ hd)
 obtain ⟨ad0, hAD, sD⟩ := hf.dg.at_ (by omega)
 have hev : Value.slice fx.A fx.n fx.a = .slice (some ad0) fx.n fx.a := by rw [hAD]
 have hprod : (d : Int) * (sd : Int) = ((d * sd : Nat) : Int) := by rw [Int.natCast_mul]
 have hpb : d * sd ≤ 127 := by rcases hsd with rfl | rfl <;> omega
 have hap2 : aw (fx.ns.drop (a + 1)) ≤ 4096 := by
  have h3 : aw fx.ns = aw (fx.ns.take (a + 1)) * aw (fx.ns.drop (a + 1)) := by rw [← cZ, List.take_append_drop]
  have := Nat.le_mul_of_pos_left (aw (fx.ns.drop (a + 1))) (dE (fx.ns.take (a + 1)))
  omega
 generalize aw (fx.ns.drop (a + 1)) = ap at *
 refine aj (N := 70) (l := [.agg #[.slice fx.A fx.n fx.a, .slice fx.B fx.m fx.b], .int .i64 a, .int .i64 sd]) Tryz.func45 rfl rfl (by simp) ?_
 refine sr ?_
 refine cW hh [_,_] ?_
 intro b3 w3 hh
 refine bY hh ?_
 intro b6 w6 hh
 refine aI (aa (ah (sr ?_)))
 refine cD hh 1 [_,_] (mI ?_)
 refine bF hh (hhas _ (hT.hp hh) hh.below) rfl ?_
 intro w15 hh
 rcases hsd with hs0 | hs0
 ·refine aI (aa (sr (mI ?_)))
  refine dR (aa (cF (al (ai (ah (sr (mI ?_)))))))
  refine dR (mB ?_)
  first | refine gS ?_ | (refine gT ?_; refine mI ?_) | refine gV ?_
  first | refine gS ?_ | (refine gT ?_; refine dR ?_) | refine gV ?_
  first | refine dq ?_ | refine dr ?_
  refine aa (cF (al (ai (sr (bG ?_)))))
  refine bI hh 1 ?_
  refine mI ?_
  refine bF hh (hof _ hh.below) rfl ?_
  intro w30 hh
  refine bY hh ?_
  intro b9 w9 hh
  refine bK hh 0 [_,_] ?_
  intro ws hh
  replace hh : Hp _ (.blk _ _ [_, _] _ :: _) _ := hh
  refine aa (sr (bG ?_))
  refine bI hh 2 ?_
  refine aJ (gI fx.A fx.n fx.a fx.ds _ (hf.dg.ext hh.below) (by omega)) ar.out rfl (by decide) ?_
  rintro e_ w33 ⟨A33, c33, rfl, hown_, hb_⟩
  refine ⟨_, rfl, ?_⟩
  replace hh := hh.bg (x := .row _ _ _ _ _ _) hb_ hown_
  obtain ⟨gd, rfl⟩ := hh.dn (i := 0) rfl (by omega)
  refine mI (mI ?_)
  refine bC ?_
  refine aJ (pd gd fx.n c33 a fx.ds _ hh hln (by omega) (by omega)) ar.out rfl (by decide) ?_
  rintro e_ w37 ⟨rfl, hh2⟩
  refine ⟨_, rfl, ?_⟩
  replace hh := hh2
  clear hh2
  refine fS [_,_] ?_
  refine bY hh ?_
  intro b10 w10 hh
  refine bK hh 0 [_,_] ?_
  intro ws hh
  replace hh : Hp _ (.blk _ _ [_, _] _ :: _) _ := hh
  refine aa (ah (sr (bG ?_)))
  refine bI hh 4 ?_
  refine a6 (mI (aa (ao ?_)))
  replace hh := hh.ew 39 3
  refine bD [11, 12, 42, 43, 44, 45, 46, 47, 48, 49, 50, 51, 52, 53, 54, 55, 56, 57, 58, 59, 60, 61, 62, 63, 64, 65, 66, 67, 68] 42
   (fun v w' => ∃ (i c1 : Nat) (B : Option Addr), i ≤ fx.m ∧ v = .int .i64 i ∧ Hp w [.row B (eV ap d (d * sd) (fx.cs.map NR.d) i).length c1 39 3 (a9 NR.cells ((eV ap d (d * sd) (fx.cs.map NR.d) i).map nR)), .blk b10 28 [.slice (some ⟨gd, 0, none⟩) (fx.n - 1) c33, .slice B (eV ap d (d * sd) (fx.cs.map NR.d) i).length c1] (0, 0), .row (some ⟨gd, 0, none⟩) (fx.n - 1) c33 3 1 (bP (fx.ds.eraseIdx a)), .blk b9 112 [.int .i64 ((d : Int) + 1), .int .i64 (ap : Int)] (0, 0), .blk b6 28 [.slice none 0 0, .slice none 0 0] (0, 0), .blk b3 28 [.slice fx.A fx.n fx.a, .slice fx.B fx.m fx.b] (0, 0)] w')
   (fun v _ => fx.m - (intOf v).toNat) ?_ ?_
  ·exact ⟨0, 0, none, Nat.zero_le _, rfl, hh⟩
  ·clear hh
   rintro ρ' v w' ⟨i, c1, B, hi, rfl, hh⟩
   by_cases hlt : i < fx.m
   ·obtain ⟨x, hx⟩ := aU (l := fx.cs) (k := i) (by omega)
    obtain ⟨adC, hAC, sC⟩ := hf.nm.at_ (by omega)
    have hevC : Value.slice fx.B fx.m fx.b = .slice (some adC) fx.m fx.b := by rw [hAC]
    have hxd : ((fx.cs.map NR.d)[i]?).getD 0 = x.d := by rw [List.getElem?_map, hx]; rfl
    have hxn : nR x.d = x := by
     have : ((fx.cs.map NR.d).map nR)[i]? = some x := by rw [← hnum]; exact hx
     rw [List.getElem?_map, List.getElem?_map, hx] at this
     exact Option.some.inj this
    have hcast : ((i : Int) / (ap : Int)) % ((d : Int) + 1) = ((i / ap % (d + 1) : Nat) : Int) := by norm_cast
    have hq0 : (0 : Int) ≤ (i : Int) / (ap : Int) := Int.ediv_nonneg (by omega) (by omega)
    have hst := o9 ap d (d * sd) (fx.cs.map NR.d) i
    rw [hxd] at hst
    have hfl : (eV ap d (d * sd) (fx.cs.map NR.d) i).length ≤ i := by
     unfold eV
     rw [List.length_map]
     exact Nat.le_trans (List.length_filter_le _ _) (by rw [List.length_range]; exact Nat.le_refl _)
    generalize hF : eV ap d (d * sd) (fx.cs.map NR.d) i = F at *
    by_cases hdg2 : i / ap % (d + 1) = d * sd
    ·rw [if_pos hdg2] at hst
     refine sr ?_
     refine aQ (aa (ah (cT (al (ai (ah (ao (sr (mI ?_)))))))))
     refine aT (k := i) aG.out aC.size hevC rfl (by omega) (by omega) (by decide) ?_
     refine dM (vs := [_, _, _]) aC.out rfl ((sC.ext hh.below).recAt NR.len hx) rfl (by decide) ?_
     refine bY hh ?_
     intro b12 w12 hh
     refine aI ?_
     refine bK hh 0 [_,_,_] ?_
     intro ws hh
     replace hh : Hp _ (.blk _ _ [_, _, _] _ :: _) _ := hh
     refine aa (ah ?_)
     refine aN 14 [[(11, none)], [(9, none)], [(48, some 1)], [(47, some 0), (49, some 2)], [(9, none)], [(51, some 4)], [(50, some 3), (52, some 5)], [(3, none)], [(54, some 7)], [(1, none)], [(55, some 8), (56, some 9)], [(57, some 10)], [(2, none)], [(58, some 11), (59, some 12)]] [(13, 60), (12, 59), (11, 58), (10, 57), (9, 56), (8, 55), (7, 54), (6, 53), (5, 52), (4, 51), (3, 50), (2, 49), (1, 48), (0, 47)] hh mixed (by kernel_rfl) ?_
     refine ee ?_
     refine eZ ?_
     refine fZ 4 ?_
     refine bk (i := 3) (fun ρ1 w1 hj hR => jh (show ρ1 47 = Value.int _ _ from hR.1) (show ρ1 49 = Value.int _ _ from hR.2.1) (by omega) (by omega) (by omega)) ?_
     refine eZ ?_
     refine fZ 4 ?_
     refine bk (i := 6) (fun ρ1 w1 hj hR => ik (show ρ1 50 = Value.int _ _ from hR.1) (show ρ1 52 = Value.int _ _ from hR.2.1) (by omega) (by omega)) ?_
     refine eZ ?_
     refine fZ 6 ?_
     refine ee ?_
     refine bJ (i := 10) (Is (.pointer (some (ad0.add (a * 1))))) (Is.ext) ?_ ?_
     ·intro ρ1 w1 hj hR
      exact gy rfl (gJ (k := a) aG.out aC.size ((show ρ1 55 = Value.slice _ _ _ from hR.1).trans hev) (show ρ1 56 = Value.int _ _ from hR.2.1) (by omega) (by omega)) ⟨Below.refl _ _, rfl⟩
     refine mU (fun _ hj => (sD.ext hj.hp.below).gU hgd) ?_
     refine ee ?_
     refine uR ?_
     refine bj ?_
     intro f W hJ hV
     have hb_11 := hJ.bl
     obtain ⟨v60, v59, v58, v57, v56, v55, v54, v53, v52, v51, v50, v49, v48, v47, _⟩ := hV
     replace hh := hJ.hp
     refine aY (bm (ae v60 (ae v59 (ae v58 (ae v57 (ae v56 (ae v55 (ae v54 (ae v53 (ae v52 (ae v51 (ae v50 (ae v49 (ae v48 (ae v47 aX))))))))))))))) ?_
     dsimp only [ct]
     clear hJ
     refine dL (aa (cT (ak (bG ?_))))
     refine bI hh 2 ?_
     refine cD hh 0 [_,_,_] ?_
     refine aZ hh (cs := [_, _, _]) aG.out aC.out (aK (cH rfl) bL) rfl rfl (by decide) (by decide) (by decide) rfl (by decide) ?_
     intro b65 w65 hh
     refine cI hh (i := 2) rfl rfl rfl (hh.aR (i := 0) rfl) aG.out aC.out rfl (by decide) (by first | rfl | exact cg _ | exact bV _ | exact bM _ | exact bT NR.one _) (by omega) (by omega) (by decide) ?_
     intro A66 c66 w66 hh
     simp only [List.set_cons_zero, List.set_cons_succ] at hh
     replace hh := hh.sub (List.sublist_cons_self _ _)
     refine bG ?_
     refine bK hh 2 [_] ?_
     intro ws hh
     replace hh : Hp _ (_ :: _ :: .blk _ _ [_, _] _ :: _) _ := hh
     refine aD (aV (ai (ak ?_)))
     refine bC (mI (aD (ai ?_)))
     replace hh := hh.sub (List.Sublist.cons _ (List.Sublist.cons_cons _ (List.Sublist.cons_cons _ (List.Sublist.cons_cons _ (List.Sublist.cons_cons _ (List.Sublist.cons_cons _ (List.Sublist.cons_cons _ List.Sublist.slnil)))))))
     refine ⟨⟨i + 1, c66, A66, by omega, rfl, ?_⟩, by show fx.m - (i + 1) < fx.m - i; omega, ?_⟩
     ·rw [hst, List.length_append, List.map_append, dx, show [x.d].map nR = [x] by rw [List.map_cons, List.map_nil, hxn]]
      exact hh
     ·(repeat (first | exact ay _ _ _ | refine az rfl ?_ | refine av rfl ?_))
    ·rw [if_neg hdg2, List.append_nil] at hst
     refine sr ?_
     refine aQ (aa (ah (cT (al (ai (ah (ao (sr (mI ?_)))))))))
     refine aT (k := i) aG.out aC.size hevC rfl (by omega) (by omega) (by decide) ?_
     refine dM (vs := [_, _, _]) aC.out rfl ((sC.ext hh.below).recAt NR.len hx) rfl (by decide) ?_
     refine bY hh ?_
     intro b12 w12 hh
     refine aI ?_
     refine bK hh 0 [_,_,_] ?_
     intro ws hh
     replace hh : Hp _ (.blk _ _ [_, _, _] _ :: _) _ := hh
     refine aa (ah ?_)
     refine aN 14 [[(11, none)], [(9, none)], [(48, some 1)], [(47, some 0), (49, some 2)], [(9, none)], [(51, some 4)], [(50, some 3), (52, some 5)], [(3, none)], [(54, some 7)], [(1, none)], [(55, some 8), (56, some 9)], [(57, some 10)], [(2, none)], [(58, some 11), (59, some 12)]] [(13, 60), (12, 59), (11, 58), (10, 57), (9, 56), (8, 55), (7, 54), (6, 53), (5, 52), (4, 51), (3, 50), (2, 49), (1, 48), (0, 47)] hh mixed (by kernel_rfl) ?_
     refine ee ?_
     refine eZ ?_
     refine fZ 4 ?_
     refine bk (i := 3) (fun ρ1 w1 hj hR => jh (show ρ1 47 = Value.int _ _ from hR.1) (show ρ1 49 = Value.int _ _ from hR.2.1) (by omega) (by omega) (by omega)) ?_
     refine eZ ?_
     refine fZ 4 ?_
     refine bk (i := 6) (fun ρ1 w1 hj hR => ik (show ρ1 50 = Value.int _ _ from hR.1) (show ρ1 52 = Value.int _ _ from hR.2.1) (by omega) (by omega)) ?_
     refine eZ ?_
     refine fZ 6 ?_
     refine ee ?_
     refine bJ (i := 10) (Is (.pointer (some (ad0.add (a * 1))))) (Is.ext) ?_ ?_
     ·intro ρ1 w1 hj hR
      exact gy rfl (gJ (k := a) aG.out aC.size ((show ρ1 55 = Value.slice _ _ _ from hR.1).trans hev) (show ρ1 56 = Value.int _ _ from hR.2.1) (by omega) (by omega)) ⟨Below.refl _ _, rfl⟩
     refine mU (fun _ hj => (sD.ext hj.hp.below).gU hgd) ?_
     refine ee ?_
     refine uR ?_
     refine bj ?_
     intro f W hJ hV
     have hb_11 := hJ.bl
     obtain ⟨v60, v59, v58, v57, v56, v55, v54, v53, v52, v51, v50, v49, v48, v47, _⟩ := hV
     replace hh := hJ.hp
     refine aY (bm (ae v60 (ae v59 (ae v58 (ae v57 (ae v56 (ae v55 (ae v54 (ae v53 (ae v52 (ae v51 (ae v50 (ae v49 (ae v48 (ae v47 aX))))))))))))))) ?_
     dsimp only [ct]
     clear hJ
     refine dL (aa (cF (al (aV (ai (ak ?_))))))
     refine bC (mI (aD (ai ?_)))
     replace hh := hh.sub (List.Sublist.cons _ (List.Sublist.cons_cons _ (List.Sublist.cons_cons _ (List.Sublist.cons_cons _ (List.Sublist.cons_cons _ (List.Sublist.cons_cons _ (List.Sublist.cons_cons _ List.Sublist.slnil)))))))
     refine ⟨⟨i + 1, c1, B, by omega, rfl, by rw [hst]; exact hh⟩, by show fx.m - (i + 1) < fx.m - i; omega, ?_⟩
     (repeat (first | exact ay _ _ _ | refine az rfl ?_ | refine av rfl ?_))
   ·obtain rfl : i = fx.m := by omega
    refine sr ?_
    refine aQ (aa (ah (cF ?_)))
    refine a0 ?_
    refine aA (aA (bu (ai (sr ?_))))
    refine cD hh 1 [_,_] ?_
    refine bK hh 4 [_,_] ?_
    intro ws hh
    replace hh : Hp _ (_ :: _ :: _ :: _ :: .blk _ _ [_, _] _ :: _) _ := hh
    refine aI (aa (aq ?_))
    replace hh := hh.sub (List.Sublist.cons_cons _ (List.Sublist.cons _ (List.Sublist.cons_cons _ (List.Sublist.cons _ (List.Sublist.cons_cons _ (List.Sublist.cons _ List.Sublist.slnil))))))
    refine AH (aO rfl (aP (vs := [_, _]) aC.out (hh.au (i := 2) (n := 2) rfl rfl) rfl) (dP (fm rfl) bA)) ?_
    refine ⟨⟨some ⟨gd, 0, none⟩, fx.n - 1, c33, B, (eV ap d (d * sd) (fx.cs.map NR.d) fx.m).length, c1, fx.ds.eraseIdx a, (eV ap d (d * sd) (fx.cs.map NR.d) fx.m).map nR⟩, rfl, rfl, by show fx.n - 1 ≤ 100000; omega, ?_, rfl, hh.sub (List.sublist_append_left [_, _] _)⟩
    show (eV ap d (d * sd) (fx.cs.map NR.d) fx.m).length ≤ 1000000
    unfold eV
    rw [List.length_map]
    exact Nat.le_trans (List.length_filter_le _ _) (by rw [List.length_range]; omega)
 ·refine aI (aa (sr (mI ?_)))
  refine dR (aa (cF (al (ai (ah (sr (mI ?_)))))))
  refine dR (mB ?_)
  first | refine gS ?_ | (refine gT ?_; refine mI ?_) | refine gV ?_
  first | refine gS ?_ | (refine gT ?_; refine dR ?_) | refine gV ?_
  first | refine dq ?_ | refine dr ?_
  refine aa (cF (al (ai (sr (bG ?_)))))
  refine bI hh 1 ?_
  refine mI ?_
  refine bF hh (hof _ hh.below) rfl ?_
  intro w30 hh
  refine bY hh ?_
  intro b9 w9 hh
  refine bK hh 0 [_,_] ?_
  intro ws hh
  replace hh : Hp _ (.blk _ _ [_, _] _ :: _) _ := hh
  refine aa (sr (bG ?_))
  refine bI hh 2 ?_
  refine aJ (gI fx.A fx.n fx.a fx.ds _ (hf.dg.ext hh.below) (by omega)) ar.out rfl (by decide) ?_
  rintro e_ w33 ⟨A33, c33, rfl, hown_, hb_⟩
  refine ⟨_, rfl, ?_⟩
  replace hh := hh.bg (x := .row _ _ _ _ _ _) hb_ hown_
  obtain ⟨gd, rfl⟩ := hh.dn (i := 0) rfl (by omega)
  refine mI (mI ?_)
  refine bC ?_
  refine aJ (pd gd fx.n c33 a fx.ds _ hh hln (by omega) (by omega)) ar.out rfl (by decide) ?_
  rintro e_ w37 ⟨rfl, hh2⟩
  refine ⟨_, rfl, ?_⟩
  replace hh := hh2
  clear hh2
  refine fS [_,_] ?_
  refine bY hh ?_
  intro b10 w10 hh
  refine bK hh 0 [_,_] ?_
  intro ws hh
  replace hh : Hp _ (.blk _ _ [_, _] _ :: _) _ := hh
  refine aa (ah (sr (bG ?_)))
  refine bI hh 4 ?_
  refine a6 (mI (aa (ao ?_)))
  replace hh := hh.ew 39 3
  refine bD [11, 12, 42, 43, 44, 45, 46, 47, 48, 49, 50, 51, 52, 53, 54, 55, 56, 57, 58, 59, 60, 61, 62, 63, 64, 65, 66, 67, 68] 42
   (fun v w' => ∃ (i c1 : Nat) (B : Option Addr), i ≤ fx.m ∧ v = .int .i64 i ∧ Hp w [.row B (eV ap d (d * sd) (fx.cs.map NR.d) i).length c1 39 3 (a9 NR.cells ((eV ap d (d * sd) (fx.cs.map NR.d) i).map nR)), .blk b10 28 [.slice (some ⟨gd, 0, none⟩) (fx.n - 1) c33, .slice B (eV ap d (d * sd) (fx.cs.map NR.d) i).length c1] (0, 0), .row (some ⟨gd, 0, none⟩) (fx.n - 1) c33 3 1 (bP (fx.ds.eraseIdx a)), .blk b9 112 [.int .i64 ((d : Int) + 1), .int .i64 (ap : Int)] (0, 0), .blk b6 28 [.slice none 0 0, .slice none 0 0] (0, 0), .blk b3 28 [.slice fx.A fx.n fx.a, .slice fx.B fx.m fx.b] (0, 0)] w')
   (fun v _ => fx.m - (intOf v).toNat) ?_ ?_
  ·exact ⟨0, 0, none, Nat.zero_le _, rfl, hh⟩
  ·clear hh
   rintro ρ' v w' ⟨i, c1, B, hi, rfl, hh⟩
   by_cases hlt : i < fx.m
   ·obtain ⟨x, hx⟩ := aU (l := fx.cs) (k := i) (by omega)
    obtain ⟨adC, hAC, sC⟩ := hf.nm.at_ (by omega)
    have hevC : Value.slice fx.B fx.m fx.b = .slice (some adC) fx.m fx.b := by rw [hAC]
    have hxd : ((fx.cs.map NR.d)[i]?).getD 0 = x.d := by rw [List.getElem?_map, hx]; rfl
    have hxn : nR x.d = x := by
     have : ((fx.cs.map NR.d).map nR)[i]? = some x := by rw [← hnum]; exact hx
     rw [List.getElem?_map, List.getElem?_map, hx] at this
     exact Option.some.inj this
    have hcast : ((i : Int) / (ap : Int)) % ((d : Int) + 1) = ((i / ap % (d + 1) : Nat) : Int) := by norm_cast
    have hq0 : (0 : Int) ≤ (i : Int) / (ap : Int) := Int.ediv_nonneg (by omega) (by omega)
    have hst := o9 ap d (d * sd) (fx.cs.map NR.d) i
    rw [hxd] at hst
    have hfl : (eV ap d (d * sd) (fx.cs.map NR.d) i).length ≤ i := by
     unfold eV
     rw [List.length_map]
     exact Nat.le_trans (List.length_filter_le _ _) (by rw [List.length_range]; exact Nat.le_refl _)
    generalize hF : eV ap d (d * sd) (fx.cs.map NR.d) i = F at *
    by_cases hdg2 : i / ap % (d + 1) = d * sd
    ·rw [if_pos hdg2] at hst
     refine sr ?_
     refine aQ (aa (ah (cT (al (ai (ah (ao (sr (mI ?_)))))))))
     refine aT (k := i) aG.out aC.size hevC rfl (by omega) (by omega) (by decide) ?_
     refine dM (vs := [_, _, _]) aC.out rfl ((sC.ext hh.below).recAt NR.len hx) rfl (by decide) ?_
     refine bY hh ?_
     intro b12 w12 hh
     refine aI ?_
     refine bK hh 0 [_,_,_] ?_
     intro ws hh
     replace hh : Hp _ (.blk _ _ [_, _, _] _ :: _) _ := hh
     refine aa (ah ?_)
     refine aN 14 [[(11, none)], [(9, none)], [(48, some 1)], [(47, some 0), (49, some 2)], [(9, none)], [(51, some 4)], [(50, some 3), (52, some 5)], [(3, none)], [(54, some 7)], [(1, none)], [(55, some 8), (56, some 9)], [(57, some 10)], [(2, none)], [(58, some 11), (59, some 12)]] [(13, 60), (12, 59), (11, 58), (10, 57), (9, 56), (8, 55), (7, 54), (6, 53), (5, 52), (4, 51), (3, 50), (2, 49), (1, 48), (0, 47)] hh mixed (by kernel_rfl) ?_
     refine ee ?_
     refine eZ ?_
     refine fZ 4 ?_
     refine bk (i := 3) (fun ρ1 w1 hj hR => jh (show ρ1 47 = Value.int _ _ from hR.1) (show ρ1 49 = Value.int _ _ from hR.2.1) (by omega) (by omega) (by omega)) ?_
     refine eZ ?_
     refine fZ 4 ?_
     refine bk (i := 6) (fun ρ1 w1 hj hR => ik (show ρ1 50 = Value.int _ _ from hR.1) (show ρ1 52 = Value.int _ _ from hR.2.1) (by omega) (by omega)) ?_
     refine eZ ?_
     refine fZ 6 ?_
     refine ee ?_
     refine bJ (i := 10) (Is (.pointer (some (ad0.add (a * 1))))) (Is.ext) ?_ ?_
     ·intro ρ1 w1 hj hR
      exact gy rfl (gJ (k := a) aG.out aC.size ((show ρ1 55 = Value.slice _ _ _ from hR.1).trans hev) (show ρ1 56 = Value.int _ _ from hR.2.1) (by omega) (by omega)) ⟨Below.refl _ _, rfl⟩
     refine mU (fun _ hj => (sD.ext hj.hp.below).gU hgd) ?_
     refine ee ?_
     refine uR ?_
     refine bj ?_
     intro f W hJ hV
     have hb_11 := hJ.bl
     obtain ⟨v60, v59, v58, v57, v56, v55, v54, v53, v52, v51, v50, v49, v48, v47, _⟩ := hV
     replace hh := hJ.hp
     refine aY (bm (ae v60 (ae v59 (ae v58 (ae v57 (ae v56 (ae v55 (ae v54 (ae v53 (ae v52 (ae v51 (ae v50 (ae v49 (ae v48 (ae v47 aX))))))))))))))) ?_
     dsimp only [ct]
     clear hJ
     refine dL (aa (cT (ak (bG ?_))))
     refine bI hh 2 ?_
     refine cD hh 0 [_,_,_] ?_
     refine aZ hh (cs := [_, _, _]) aG.out aC.out (aK (cH rfl) bL) rfl rfl (by decide) (by decide) (by decide) rfl (by decide) ?_
     intro b65 w65 hh
     refine cI hh (i := 2) rfl rfl rfl (hh.aR (i := 0) rfl) aG.out aC.out rfl (by decide) (by first | rfl | exact cg _ | exact bV _ | exact bM _ | exact bT NR.one _) (by omega) (by omega) (by decide) ?_
     intro A66 c66 w66 hh
     simp only [List.set_cons_zero, List.set_cons_succ] at hh
     replace hh := hh.sub (List.sublist_cons_self _ _)
     refine bG ?_
     refine bK hh 2 [_] ?_
     intro ws hh
     replace hh : Hp _ (_ :: _ :: .blk _ _ [_, _] _ :: _) _ := hh
     refine aD (aV (ai (ak ?_)))
     refine bC (mI (aD (ai ?_)))
     replace hh := hh.sub (List.Sublist.cons _ (List.Sublist.cons_cons _ (List.Sublist.cons_cons _ (List.Sublist.cons_cons _ (List.Sublist.cons_cons _ (List.Sublist.cons_cons _ (List.Sublist.cons_cons _ List.Sublist.slnil)))))))
     refine ⟨⟨i + 1, c66, A66, by omega, rfl, ?_⟩, by show fx.m - (i + 1) < fx.m - i; omega, ?_⟩
     ·rw [hst, List.length_append, List.map_append, dx, show [x.d].map nR = [x] by rw [List.map_cons, List.map_nil, hxn]]
      exact hh
     ·(repeat (first | exact ay _ _ _ | refine az rfl ?_ | refine av rfl ?_))
    ·rw [if_neg hdg2, List.append_nil] at hst
     refine sr ?_
     refine aQ (aa (ah (cT (al (ai (ah (ao (sr (mI ?_)))))))))
     refine aT (k := i) aG.out aC.size hevC rfl (by omega) (by omega) (by decide) ?_
     refine dM (vs := [_, _, _]) aC.out rfl ((sC.ext hh.below).recAt NR.len hx) rfl (by decide) ?_
     refine bY hh ?_
     intro b12 w12 hh
     refine aI ?_
     refine bK hh 0 [_,_,_] ?_
     intro ws hh
     replace hh : Hp _ (.blk _ _ [_, _, _] _ :: _) _ := hh
     refine aa (ah ?_)
     refine aN 14 [[(11, none)], [(9, none)], [(48, some 1)], [(47, some 0), (49, some 2)], [(9, none)], [(51, some 4)], [(50, some 3), (52, some 5)], [(3, none)], [(54, some 7)], [(1, none)], [(55, some 8), (56, some 9)], [(57, some 10)], [(2, none)], [(58, some 11), (59, some 12)]] [(13, 60), (12, 59), (11, 58), (10, 57), (9, 56), (8, 55), (7, 54), (6, 53), (5, 52), (4, 51), (3, 50), (2, 49), (1, 48), (0, 47)] hh mixed (by kernel_rfl) ?_
     refine ee ?_
     refine eZ ?_
     refine fZ 4 ?_
     refine bk (i := 3) (fun ρ1 w1 hj hR => jh (show ρ1 47 = Value.int _ _ from hR.1) (show ρ1 49 = Value.int _ _ from hR.2.1) (by omega) (by omega) (by omega)) ?_
     refine eZ ?_
     refine fZ 4 ?_
     refine bk (i := 6) (fun ρ1 w1 hj hR => ik (show ρ1 50 = Value.int _ _ from hR.1) (show ρ1 52 = Value.int _ _ from hR.2.1) (by omega) (by omega)) ?_
     refine eZ ?_
     refine fZ 6 ?_
     refine ee ?_
     refine bJ (i := 10) (Is (.pointer (some (ad0.add (a * 1))))) (Is.ext) ?_ ?_
     ·intro ρ1 w1 hj hR
      exact gy rfl (gJ (k := a) aG.out aC.size ((show ρ1 55 = Value.slice _ _ _ from hR.1).trans hev) (show ρ1 56 = Value.int _ _ from hR.2.1) (by omega) (by omega)) ⟨Below.refl _ _, rfl⟩
     refine mU (fun _ hj => (sD.ext hj.hp.below).gU hgd) ?_
     refine ee ?_
     refine uR ?_
     refine bj ?_
     intro f W hJ hV
     have hb_11 := hJ.bl
     obtain ⟨v60, v59, v58, v57, v56, v55, v54, v53, v52, v51, v50, v49, v48, v47, _⟩ := hV
     replace hh := hJ.hp
     refine aY (bm (ae v60 (ae v59 (ae v58 (ae v57 (ae v56 (ae v55 (ae v54 (ae v53 (ae v52 (ae v51 (ae v50 (ae v49 (ae v48 (ae v47 aX))))))))))))))) ?_
     dsimp only [ct]
     clear hJ
     refine dL (aa (cF (al (aV (ai (ak ?_))))))
     refine bC (mI (aD (ai ?_)))
     replace hh := hh.sub (List.Sublist.cons _ (List.Sublist.cons_cons _ (List.Sublist.cons_cons _ (List.Sublist.cons_cons _ (List.Sublist.cons_cons _ (List.Sublist.cons_cons _ (List.Sublist.cons_cons _ List.Sublist.slnil)))))))
     refine ⟨⟨i + 1, c1, B, by omega, rfl, by rw [hst]; exact hh⟩, by show fx.m - (i + 1) < fx.m - i; omega, ?_⟩
     (repeat (first | exact ay _ _ _ | refine az rfl ?_ | refine av rfl ?_))
   ·obtain rfl : i = fx.m := by omega
    refine sr ?_
    refine aQ (aa (ah (cF ?_)))
    refine a0 ?_
    refine aA (aA (bu (ai (sr ?_))))
    refine cD hh 1 [_,_] ?_
    refine bK hh 4 [_,_] ?_
    intro ws hh
    replace hh : Hp _ (_ :: _ :: _ :: _ :: .blk _ _ [_, _] _ :: _) _ := hh
    refine aI (aa (aq ?_))
    replace hh := hh.sub (List.Sublist.cons_cons _ (List.Sublist.cons _ (List.Sublist.cons_cons _ (List.Sublist.cons _ (List.Sublist.cons_cons _ (List.Sublist.cons _ List.Sublist.slnil))))))
    refine AH (aO rfl (aP (vs := [_, _]) aC.out (hh.au (i := 2) (n := 2) rfl rfl) rfl) (dP (fm rfl) bA)) ?_
    refine ⟨⟨some ⟨gd, 0, none⟩, fx.n - 1, c33, B, (eV ap d (d * sd) (fx.cs.map NR.d) fx.m).length, c1, fx.ds.eraseIdx a, (eV ap d (d * sd) (fx.cs.map NR.d) fx.m).map nR⟩, rfl, rfl, by show fx.n - 1 ≤ 100000; omega, ?_, rfl, hh.sub (List.sublist_append_left [_, _] _)⟩
    show (eV ap d (d * sd) (fx.cs.map NR.d) fx.m).length ≤ 1000000
    unfold eV
    rw [List.length_map]
    exact Nat.le_trans (List.length_filter_le _ _) (by rw [List.length_range]; omega)
end Go.Proofs.YtioilmppidlbnaaGreatDoor
/- Ranges over functions inside a loop: the marks that they leave. Plain lemmas, no program in sight. -/
namespace Go.Proofs.YtioilmppidlbnaaGreatDoor
open Go.RowKit
section
variable {P : Program} {N : Nat} {Q : Kd} {ρ : Rf} {w : World}
theorem WD.mono {c : Code} {Q' : Kd} (h : WD P N c Q ρ w) (hq : ∀ e M ρ w, Q e M ρ w → Q' e M ρ w) : WD P N c Q' ρ w :=
 ⟨fun M a hf n => wpIn_mono (h.out M a hf n) fun e a' w' ⟨M', ρ', hf', hk⟩ => ⟨M', ρ', hf', hq e M' ρ' w' hk⟩⟩
theorem vP {c : Code} (mods : List Nat) (s0 s1 : Nat) (I : List Nat → Value → Value → World → Prop) (μ : Value → Value → World → Nat) (h0 : I [] (ρ s0) (ρ s1) w)
  (round : ∀ M ρ' v0 v1 w', I M v0 v1 w' → WD P N c (fun e M2 ρ2 w2 => qv (fun M3 ρ2 w2 => I M3 (ρ2 s0) (ρ2 s1) w2 ∧ μ (ρ2 s0) (ρ2 s1) w2 < μ v0 v1 w' ∧ jc mods ρ2 ρ) Q e (M2 ++ M) ρ2 w2) (cn (cn (mask mods ρ' ρ) s0 v0) s1 v1) w') : WD P N (.loop c) Q ρ w :=
 xG (fun M ρ1 w1 => I M (ρ1 s0) (ρ1 s1) w1 ∧ jc mods ρ1 ρ) (fun ρ1 w1 => μ (ρ1 s0) (ρ1 s1) w1) ⟨h0, fun _ _ => rfl⟩ fun M ρ1 w1 ⟨hi, ha⟩ => by
  have h := round M ρ1 (ρ1 s0) (ρ1 s1) w1 hi
  rw [lU ha, ji, ji] at h
  exact h.mono fun e M2 ρ2 w2 hq => by
   cases e with
   | normal => exact ⟨⟨hq.1, hq.2.2⟩, hq.2.1⟩
   | _ => exact hq
theorem zC {M : List Nat} {id : Nat} {next : List Nat → Rf → World → Prop} (h : next M ρ w) : vx (nh M (wi id (qv next Q))) .normal ρ w := h
theorem wh {M M0 : List Nat} {next : List Nat → Rf → World → Prop} (h : next (M ++ M0) ρ w) : vx (nh M (fun e M2 ρ2 w2 => qv next Q e (M2 ++ M0) ρ2 w2)) .normal ρ w := h
theorem xy {M0 : List Nat} {id : Nat} {next next' : List Nat → Rf → World → Prop} (h : next' M0 ρ w) : vx (fun e M2 ρ2 w2 => qv next (wi id (qv next' Q)) e (M2 ++ M0) ρ2 w2) (.exit id) ρ w := by
 show if id = id then qv next' Q .normal ([] ++ M0) ρ w else qv next' Q (.exit id) ([] ++ M0) ρ w
 rw [if_pos rfl]
 exact h
end
structure Marks (w0 : World) (M : List Nat) (w : World) : Prop where
 at_ : ∀ D ∈ M, w0.heap.size ≤ D ∧ w.heap[D]? = some (.deferred (some []))
 nd : M.Nodup
theorem ux (M : List Nat) : (kW M).filterMap HE.id = M := by
 induction M with
 | nil => rfl
 | cons D M ih => rw [show kW (D :: M) = .ob D (.deferred (some [])) :: kW M from rfl, List.filterMap_cons, show HE.id (.ob D (.deferred (some []))) = some D from rfl]; simp only [ih]
theorem Hp.marks {w0 w : World} {H : List HE} {M : List Nat} (h : Hp w0 (H ++ kW M) w) : Marks w0 M w := by
 refine ⟨fun D hD => h.own (.ob D (.deferred (some []))) (List.mem_append_right _ (List.mem_map_of_mem (f := fun D => HE.ob D (.deferred (some []))) hD)), ?_⟩
 have := h.nd
 rw [List.filterMap_append, ux] at this
 exact (List.nodup_append.1 this).2.1
theorem Hp.zw {w0 w : World} {H : List HE} {M : List Nat} (h : Hp w0 H w) (hc : ∀ x ∈ H, x.xr = true) (hm : Marks w0 M w) : Hp w0 (H ++ kW M) w := by
 refine ⟨h.below, fun x hx => ?_, ?_⟩
 ·rcases List.mem_append.1 hx with hx | hx
  ·exact h.own x hx
  ·obtain ⟨D, hD, rfl⟩ := List.mem_map.1 hx
   exact hm.at_ D hD
 ·rw [List.filterMap_append, ux]
  refine List.nodup_append.2 ⟨h.nd, hm.nd, fun a ha b hb e => ?_⟩
  subst e
  obtain ⟨y, hy, hyb⟩ := List.mem_filterMap.1 ha
  obtain ⟨o', h2, h3⟩ := jB (h.own y hy) (hc y hy) hyb
  rw [(hm.at_ a hb).2] at h2
  cases h2
  cases h3
theorem Marks.keeps {w0 w w' : World} {M : List Nat} (h : Marks w0 M w) (hk : KeepsOthers w w') : Marks w0 M w' := ⟨fun D hD => ⟨(h.at_ D hD).1, hk.2 D _ (h.at_ D hD).2 rfl⟩, h.nd⟩
theorem Marks.grown {w0 ws w w' : World} {M : List Nat} (h : Marks w0 M w) (hlt : ∀ D ∈ M, D < ws.heap.size) {row : Option Nat} (hg : w.grownBy w' row) (hr : ∀ r, row = some r → ws.heap.size ≤ r) : Marks w0 M w' := by
 refine ⟨fun D hD => ⟨(h.at_ D hD).1, ?_⟩, h.nd⟩
 have h1 := (h.at_ D hD).2
 refine (hg.block D (Array.getElem?_eq_some_iff.1 h1).1 fun e => ?_).trans h1
 have := hr D e.symm
 have := hlt D hD
 omega
theorem Marks.lt {w0 w : World} {M : List Nat} (h : Marks w0 M w) : ∀ D ∈ M, D < w.heap.size := fun D hD => (Array.getElem?_eq_some_iff.1 (h.at_ D hD).2).1
theorem Marks.cons {w0 ws w : World} {M : List Nat} {D : Nat} (h : Marks w0 M w) (hlt : ∀ D ∈ M, D < ws.heap.size) (h0 : w0.heap.size ≤ ws.heap.size) (hD : ws.heap.size ≤ D) (h1 : w.heap[D]? = some (.deferred (some []))) : Marks w0 (D :: M) w := by
 refine ⟨fun E hE => ?_, List.nodup_cons.2 ⟨fun hm => ?_, h.nd⟩⟩
 ·rcases List.mem_cons.1 hE with rfl | hE
  ·exact ⟨by omega, h1⟩
  ·exact h.at_ E hE
 ·have := hlt D hm
  omega
theorem Hp.zt {w0 w : World} {L : List HE} {M : List Nat} (h : Hp w0 L w) (hs : (kW M).Sublist L) : Marks w0 M w := Hp.marks (H := []) (h.sub hs)
theorem Hp.zK {w0 w w' : World} {x y : HE} {T T' : List HE} {b : Nat} (hs : Hp w0 (x :: T) w) (hc : ∀ z ∈ x :: T, z.xr = true) (he : Hp w0 (y :: (T' ++ ot w0.heap.size ((x :: T).filterMap HE.id) w)) w') (hid : T'.filterMap HE.id = T.filterMap HE.id) (hy : y.id = some b) : KeepsOthers w w' := by
 have hoth : ∀ k, k < w.heap.size → w0.heap.size ≤ k → k ∉ (x :: T).filterMap HE.id → ∃ o, w.heap[k]? = some o ∧ HE.ob k o ∈ ot w0.heap.size ((x :: T).filterMap HE.id) w := fun k hk h0 hm => ⟨w.heap[k], Array.getElem?_eq_getElem hk, List.mem_filterMap.2 ⟨k, List.mem_range.2 hk, by
  unfold vS
  rw [if_pos ⟨h0, by simpa using hm⟩, Array.getElem?_eq_getElem hk]
  rfl⟩⟩
 have hob : ∀ z ∈ ot w0.heap.size ((x :: T).filterMap HE.id) w, z ∈ y :: (T' ++ ot w0.heap.size ((x :: T).filterMap HE.id) w) := fun z hz => List.mem_cons_of_mem _ (List.mem_append_right _ hz)
 have hbl := dk (he.own y List.mem_cons_self) hy
 have hnd := he.nd
 rw [List.filterMap_cons, hy] at hnd
 have hnd1 := (List.nodup_cons.1 hnd).1
 refine ⟨?_, fun k o h1 h2 => ?_⟩
 ·rcases Nat.eq_zero_or_pos w.heap.size with h | h
  ·omega
  ·have hk : w.heap.size - 1 < w.heap.size := by omega
   by_cases h0 : w.heap.size - 1 < w0.heap.size
   ·have := he.size
    omega
   ·by_cases hm : w.heap.size - 1 ∈ (x :: T).filterMap HE.id
    ·rw [List.filterMap_cons] at hm
     have hT : w.heap.size - 1 ∈ T.filterMap HE.id → w.heap.size ≤ w'.heap.size := fun hm => by
      obtain ⟨z, hz, hzb⟩ := List.mem_filterMap.1 (hid ▸ hm)
      have := (dk (he.own z (List.mem_cons_of_mem _ (List.mem_append_left _ hz))) hzb).2
      omega
     split at hm
     ·exact hT hm
     ·rename_i r hr
      rcases List.mem_cons.1 hm with e | hm
      ·by_cases hb : b < w.heap.size
       ·by_cases hbk : b = w.heap.size - 1
        ·omega
        ·exfalso
         by_cases hbm : b ∈ (x :: T).filterMap HE.id
         ·rw [List.filterMap_cons, hr] at hbm
          rcases List.mem_cons.1 hbm with e2 | hbm
          ·omega
          ·rw [← hid] at hbm
           exact hnd1 (by rw [List.filterMap_append]; exact List.mem_append_left _ hbm)
         ·obtain ⟨o, _, h3⟩ := hoth b hb hbl.1 hbm
          exact hnd1 (by rw [List.filterMap_append]; exact List.mem_append_right _ (List.mem_filterMap.2 ⟨_, h3, rfl⟩))
       ·omega
      ·exact hT hm
    ·obtain ⟨o, _, h3⟩ := hoth _ hk (by omega) hm
     have := (dk (he.own _ (hob _ h3)) rfl).2
     omega
 ·have hk := (Array.getElem?_eq_some_iff.1 h1).1
  by_cases h0 : k < w0.heap.size
  ·exact (he.below.block k h0).trans ((hs.below.block k h0).symm.trans h1)
  ·by_cases hm : k ∈ (x :: T).filterMap HE.id
   ·obtain ⟨z, hz, hzb⟩ := List.mem_filterMap.1 hm
    obtain ⟨o', h3, h4⟩ := jB (hs.own z hz) (hc z hz) hzb
    rw [h1] at h3
    cases h3
    rw [h2] at h4
    cases h4
   ·obtain ⟨o', h3, h4⟩ := hoth k hk (by omega) hm
    rw [h1] at h3
    cases h3
    exact (he.own _ (hob _ h4)).2
end Go.Proofs.YtioilmppidlbnaaGreatDoor
/- The walks through bern.folded and the function that it hands back. -/
namespace Go.Proofs.YtioilmppidlbnaaGreatDoor
open Go.RowKit
def ja (d : Nat) (t : Dyadic) (xs : List Dyadic) (i : Nat) : Dyadic := sm (List.range i) fun r => dz xs r * fO d r t
theorem uJ (d : Nat) (t : Dyadic) (xs : List Dyadic) (i : Nat) : ja d t xs (i + 1) = ja d t xs i + dz xs i * fO d i t := by
 unfold ja
 rw [List.range_succ, ij]
theorem pZ {d i k q : Nat} {t : Dyadic} {xs : List Dyadic} (hx : ∀ x ∈ xs, Sz k x) (ht : Sz q t) (ht1 : Sz q (1 - t)) (hi : i ≤ d + 1) : Sz (k + (2 + 2 * (q * d)) + i) (ja d t xs i) := by
 have h2 := y6 (l := List.range i) (f := fun r => dz xs r * fO d r t) (k := k + (2 + 2 * (q * d))) fun r hr => by
  have hr := List.mem_range.1 hr
  unfold fO
  exact ((kj hx r).mul ((ht.rC (show r ≤ d by omega)).mul (ht1.rC (show d - r ≤ d by omega)))).mono (by omega)
 rw [List.length_range] at h2
 exact h2
theorem og (tn : NR) (t : Dyadic) (bt bl : Addr) (L : Option Addr) (n c d : Nat) (xs : List Dyadic) (k q : Nat) (w : World) (hT : eN w) (hS : Sl w L n 3 (a9 NR.cells (xs.map nR))) (hn : n = d + 1) (hd : d ≤ 127) (hx : ∀ x ∈ xs, Sz k x) (vt : ke q tn t) (ht1 : Sz q (1 - t))
  (hb1 : Rd w bt [.bool tn.neg, .string tn.br, .int .i64 tn.e]) (hb2 : Rd w bl [.bool (nR (1 - t)).neg, .string (nR (1 - t)).br, .int .i64 (nR (1 - t)).e]) (hk : k ≤ 500000) (hq : q ≤ 2000) :
  Calls Tryz.prog 120 #[.slice L n c, .pointer (some bt), .pointer (some bl)] w fun r w' => r = .returned (.agg #[.bool (nR (ja d t xs (d + 1))).neg, .string (nR (ja d t xs (d + 1))).br, .int .i64 (nR (ja d t xs (d + 1))).e]) ∧ Below w.heap.size w w' := by
 have hh := Hp.start w
 have hln : xs.length = n := by have := hS.eb NR.len (by decide); simpa using this
 have hqd : q * d ≤ 2000 * 127 := Nat.mul_le_mul hq hd
 have ht := vt.sz
 have hpw : ∀ (sn : NR) (z : Dyadic), ke q sn z → ∀ (i : Nat), i ≤ d → ∀ w1, eN w1 → Calls Tryz.prog 121 #[.agg #[.bool sn.neg, .string sn.br, .int .i64 sn.e], .int .i64 (i : Int)] w1 fun r w' => r = .returned (.agg #[.bool (nR (z ^ i)).neg, .string (nR (z ^ i)).br, .int .i64 (nR (z ^ i)).e]) ∧ Below w1.heap.size w1 w' := fun sn z hz i hi w1 hT1 => by
  have h1 := hz.br
  have h2 : i * sn.br.size ≤ 127 * 2001 := Nat.mul_le_mul (by omega) (by omega)
  have := nz sn i w1 hT1 hz.ok (by rw [Int.toNat_natCast]; omega) (by omega)
  rwa [hz.d, Int.toNat_natCast] at this
 obtain ⟨ad, rfl, hr⟩ := hS.at_ (by omega)
 refine aj (N := 35) (l := [.slice (some ad) n c, .pointer (some bt), .pointer (some bl)]) Tryz.func120 rfl rfl (by simp) ?_
 refine sr ?_
 refine bY hh ?_
 intro b4 w4 hh
 refine aa (sr (mL (a6 ?_)))
 refine eu (aI (aa (sr ?_)))
 refine bY hh ?_
 intro b6 w6 hh
 refine aa (ah (sr (mL (a6 (mI (aa (ao ?_)))))))
 refine bD [7, 8, 14, 15, 16, 17, 18, 19, 20, 21, 22, 23, 24, 25, 26, 27, 28, 29, 30, 31, 32, 33] 14
  (fun v w' => ∃ i : Nat, i ≤ n ∧ v = .int .i64 i ∧ Hp w [.blk b6 39 [.bool (nR (ja d t xs i)).neg, .string (nR (ja d t xs i)).br, .int .i64 (nR (ja d t xs i)).e] (0, 0), .blk b4 39 [.bool false, .string (ByteArray.mk #[]), .int .i64 0] (0, 0)] w')
  (fun v _ => n - (intOf v).toNat) ?_ ?_
 ·exact ⟨0, Nat.zero_le _, rfl, hh⟩
 ·clear hh
  rintro ρ' v w' ⟨i, hi, rfl, hh⟩
  by_cases hlt : i < n
  ·obtain ⟨x, hxi⟩ := aU (l := xs) (k := i) (by omega)
   have hxn : (xs.map nR)[i]? = some (nR x) := by rw [List.getElem?_map, hxi]; rfl
   have hat : dz xs i = x := by unfold dz; rw [hxi]; rfl
   have zx := hx x (List.mem_of_getElem? hxi)
   have hpa := hpw tn t vt i (by omega)
   have hpb := hpw (nR (1 - t)) (1 - t) (ke.of ht1 hq) (d - i) (by omega)
   have zp := ht.rC (show i ≤ d by omega)
   have zq := ht1.rC (show d - i ≤ d by omega)
   have zo := pZ (d := d) (i := i) hx ht ht1 (by omega)
   have zy := (zx.mul zp).mul zq
   have hst := uJ d t xs i
   unfold fO at hst
   rw [hat, ← Dyadic.mul_assoc] at hst
   have hm3 := fun A cc w1 hT1 hS1 => fR A 3 cc [nR x, nR (t ^ i), nR ((1 - t) ^ (d - i))] w1 hT1 hS1 (by simpa using ⟨zx.ok (by omega), zp.ok (by omega), zq.ok (by omega)⟩) 600000 (by simpa [dw] using ⟨zx.mono (by omega), zp.mono (by omega), zq.mono (by omega)⟩) (by omega) (by omega)
   rw [show gB ([nR x, nR (t ^ i), nR ((1 - t) ^ (d - i))].map NR.d) = x * t ^ i * (1 - t) ^ (d - i) by simp only [List.map_cons, List.map_nil, dw]; show 1 * x * _ * _ = _; rw [Dyadic.one_mul]] at hm3
   generalize x * t ^ i * (1 - t) ^ (d - i) = y at *
   have hsum := fun A cc w1 hT1 hS1 => gR A 2 cc [nR (ja d t xs i), nR y] w1 hT1 hS1 (by simpa using ⟨zo.ok (by omega), zy.ok (by omega)⟩) 2000000 (by simpa [dw] using ⟨zo.mono (by omega), zy.mono (by omega)⟩) (by omega)
   rw [show j3 ([nR (ja d t xs i), nR y].map NR.d) = ja d t xs i + y by simp only [List.map_cons, List.map_nil, dw, jE], ← hst] at hsum
   generalize hS2 : ja d t xs (i + 1) = S2 at *
   generalize ja d t xs i = S1 at *
   have e27 : (n : Int) - 1 - (i : Int) = ((d - i : Nat) : Int) := by omega
   refine sr ?_
   refine aQ (aa (ah (cT (al (ai (ah (ao (sr (mI ?_)))))))))
   refine ie aG.out aC.size rfl rfl (by omega) (by omega) (by decide) ?_
   refine dM (vs := [_, _, _]) aC.out rfl ((hr.ext hh.below).recAt NR.len hxn) rfl (by decide) ?_
   refine bY hh ?_
   intro b8 w8 hh
   refine aI ?_
   refine bK hh 0 [_,_,_] ?_
   intro ws hh
   replace hh : Hp _ (.blk _ _ [_, _, _] _ :: _) _ := hh
   refine aa ?_
   rw [← e27] at hpb
   refine aN 12 [[(6, none)], [(8, none)], [(1, none)], [(7, none)], [(21, some 2), (22, some 3)], [(2, none)], [(5, none)], [(7, none)], [(25, some 6), (26, some 7)], [(24, some 5), (27, some 8)], [(20, some 1), (23, some 4), (28, some 9)], [(29, some 10)]] [(11, 30), (10, 29), (9, 28), (8, 27), (7, 26), (6, 25), (5, 24), (4, 23), (3, 22), (2, 21), (1, 20), (0, 19)] hh mixed (by kernel_rfl) ?_
   refine fB 1 [_,_,_] ?_
   refine fB 0 [_,_,_] ?_
   refine yf [_,_,_] (fun _ hj => hb1.ext hj.hp.below) ?_
   refine ee ?_
   refine dC (fun _ hj => hpa _ (hT.hp hj.hp)) ?_
   refine yf [_,_,_] (fun _ hj => hb2.ext hj.hp.below) ?_
   refine ee ?_
   refine ee ?_
   refine uS ?_
   refine dC (fun _ hj => hpb _ (hT.hp hj.hp)) ?_
   refine uM [_,_,_,_,_,_,_,_,_] ?_
   refine bJ (i := 11) (Is (.agg #[.bool (nR y).neg, .string (nR y).br, .int .i64 (nR y).e])) Is.ext ?_ ?_
   ·intro ρ1 w1 hj hR
    obtain ⟨A29, c29, h29, s29⟩ := hR.1
    exact bQ rfl (bE ar.out (aE h29 bz)) (hm3 A29 c29 _ (hT.hp hj.hp) s29) (fun _ _ hq => ⟨_, hq.1, hq.2, rfl⟩)
   refine bj ?_
   intro f W hJ hV
   have hb_6 := hJ.bl
   obtain ⟨v30, v29, v28, v27, v26, v25, v24, v23, v22, v21, v20, v19, _⟩ := hV
   obtain ⟨A29, c29, e29, f29⟩ : Rows _ _ _ (f 10) W := v29
   replace hh := hJ.hp
   refine aY (bm (ae v30 (ae e29 (ae v28 (ae v27 (ae v26 (ae v25 (ae v24 (ae v23 (ae v22 (ae v21 (ae v20 (ae v19 aX))))))))))))) ?_
   dsimp only [ct]
   clear e29 hJ
   refine aZ hh (cs := [_, _, _, _, _, _]) aG.out aC.out (aK (cH rfl) (aK (cH rfl) bL)) rfl rfl (by decide) (by decide) (by decide) rfl (by decide) ?_
   intro b31 w31 hh
   refine bF hh (hsum _ _ _ (hT.hp hh) (hh.aR (i := 0) rfl)) rfl ?_
   intro w32 hh
   refine bK hh 2 [_,_,_] ?_
   intro ws hh
   replace hh : Hp _ (_ :: _ :: .blk _ _ [_, _, _] _ :: _) _ := hh
   refine aD (aV (ai (ak ?_)))
   refine bC (mI (aD (ai ?_)))
   replace hh := hh.sub (List.Sublist.cons _ (List.Sublist.cons _ (List.Sublist.cons_cons _ (List.Sublist.cons_cons _ List.Sublist.slnil))))
   refine ⟨⟨i + 1, by omega, rfl, by rw [hS2]; exact hh⟩, by show n - (i + 1) < n - i; omega, ?_⟩
   (repeat (first | exact ay _ _ _ | refine az rfl ?_ | refine av rfl ?_))
  ·obtain rfl : i = n := by omega
   rw [show i = d + 1 from hn] at hh
   refine sr ?_
   refine aQ (aa (ah (cF ?_)))
   refine a0 ?_
   refine aA (aA (bu (ai (sr ?_))))
   refine cD hh 0 [_,_,_] ?_
   refine bK hh 1 [_,_,_] ?_
   intro ws hh
   replace hh : Hp _ (_ :: .blk _ _ [_, _, _] _ :: _) _ := hh
   refine aa (aq ?_)
   refine gC (aO rfl (aP (vs := [_, _, _]) aC.out (hh.au (i := 1) (n := 3) rfl rfl) rfl) bA) ?_
   exact ⟨rfl, hh.below⟩
theorem qm (tn : NR) (t : Dyadic) (q : Nat) (w : World) (hT : eN w) (vt : ke q tn t) (hq : q ≤ 2000) :
  Calls Tryz.prog 69 #[.agg #[.bool tn.neg, .string tn.br, .int .i64 tn.e]] w fun r w' => ∃ b1 b3, r = .returned (.func (.func 120) #[] #[.pointer (some ⟨b1, 0, none⟩), .pointer (some ⟨b3, 0, none⟩)]) ∧ Hp w [.blk b3 39 [.bool (nR (1 - t)).neg, .string (nR (1 - t)).br, .int .i64 (nR (1 - t)).e] (0, 0), .blk b1 39 [.bool tn.neg, .string tn.br, .int .i64 tn.e] (0, 0)] w' := by
 have hh := Hp.start w
 have hof : ∀ w1, eN w1 → Calls Tryz.prog 47 #[.int .i64 1] w1 fun r w' => r = .returned (.agg #[.bool (nR (1 : Dyadic)).neg, .string (nR (1 : Dyadic)).br, .int .i64 (nR (1 : Dyadic)).e]) ∧ Below w1.heap.size w1 w' := fun w1 hT1 => ea 1 w1 hT1 (by decide) (by decide)
 have hsb := fun w1 hT1 => kA (nR (1 : Dyadic)) tn w1 hT1 (Sz.one.ok (by omega)) vt.ok (q + 1) (by rw [dw]; exact Sz.one.mono (by omega)) (by rw [vt.d]; exact vt.sz.mono (by omega)) (by omega)
 simp only [dw, vt.d] at hsb
 refine aj (N := 8) (l := [.agg #[.bool tn.neg, .string tn.br, .int .i64 tn.e]]) Tryz.func69 rfl rfl (by simp) ?_
 refine sr ?_
 refine cW hh [_,_,_] ?_
 intro b1 w1 hh
 refine gi (by first | exact fD rfl | exact fM rfl) (by decide) ?_
 refine aa (ah ?_)
 refine aN 4 [[], [(1, none)], [(4, some 0), (5, some 1)], []] [(3, 3), (2, 6), (1, 5), (0, 4)] hh mixed (by kernel_rfl) ?_
 refine dC (fun _ hj => hof _ (hT.hp hj.hp)) ?_
 refine fB 0 [_,_,_] ?_
 refine dC (fun _ hj => hsb _ (hT.hp hj.hp)) ?_
 refine bJ (i := 3) (cK _ 39 _) cK.ext (fun ρ1 w1 hj hR => gu aC.out hj.bl (fun v w2 h hb => ⟨hb, h⟩)) ?_
 refine bj ?_
 intro f W hJ hV
 have hb_1 := hJ.bl
 obtain ⟨v3, v6, v5, v4, _⟩ := hV
 obtain ⟨b3, e3, hl3, hc3⟩ : cK _ _ _ (f 3) W := v3
 replace hh := hJ.newVar hh hl3 hc3
 refine aY (bm (ae e3 (ae v6 (ae v5 (ae v4 aX))))) ?_
 dsimp only [ct]
 clear e3 hJ
 refine bK hh 0 [_,_,_] ?_
 intro ws hh
 replace hh : Hp _ (.blk _ _ [_, _, _] _ :: _) _ := hh
 refine aa (sr ?_)
 refine iV rfl (aE (lZ rfl) (aE (lZ rfl) bz)) (by decide) ?_
 refine gi (by first | exact fD rfl | exact fM rfl) (by decide) ?_
 refine aa (aq ?_)
 refine cC ?_
 exact ⟨_, _, rfl, hh⟩
end Go.Proofs.YtioilmppidlbnaaGreatDoor
/- Plain laws: a form's value, folded line by line; a part of a slice. No program in sight. -/
namespace Go.Proofs.YtioilmppidlbnaaGreatDoor
open Go.RowKit
theorem Sl.part {w : World} {ad : Addr} {n : Nat} {l : List NR} (h : Sl w (some ad) n 3 (a9 NR.cells l)) (p m : Nat) (hpm : p + m ≤ n) (hm : 0 < m) : Sl w (some (ad.add (p * 3))) m 3 (a9 NR.cells ((l.drop p).take m)) := by
 have hl := h.eb NR.len (by decide)
 obtain ⟨ad', e, r⟩ := h.2 (by omega)
 obtain rfl : ad = ad' := Option.some.inj e
 refine ⟨by rw [fL NR.len, List.length_take, List.length_drop, hl, Nat.min_eq_left (by omega)], fun _ => ⟨_, rfl, fun j u hu => ?_⟩⟩
 rw [iT]
 refine r (p * 3 + j) u ?_
 rw [← o7 NR.len, ← l7 NR.len, List.getElem?_take] at hu
 split at hu
 ·rw [List.getElem?_drop] at hu
  exact hu
 ·cases hu
def jD (K q : Nat) (X : List Dyadic) : List Dyadic := (X.drop (q * K)).take K
theorem oX (K q : Nat) (X : List Dyadic) : ((X.map nR).drop (q * K)).take K = (jD K q X).map nR := by unfold jD; rw [List.map_take, List.map_drop]
theorem lK {K q : Nat} {X : List Dyadic} {x : Dyadic} (h : x ∈ jD K q X) : x ∈ X := List.mem_of_mem_drop (List.mem_of_mem_take h)
theorem pB {d q : Nat} (t : Dyadic) (X : List Dyadic) : ja d t (jD (d + 1) q X) (d + 1) = sm (List.range (d + 1)) fun r => (X[r + (d + 1) * q]?).getD 0 * fO d r t := by
 unfold ja
 refine bR fun r hr => ?_
 have hr := List.mem_range.1 hr
 unfold dz jD
 rw [List.getElem?_take, if_pos hr, List.getElem?_drop, show q * (d + 1) + r = r + (d + 1) * q by rw [Nat.mul_comm]; omega]
theorem vA {d m q : Nat} (t : Dyadic) (X : List Dyadic) (h : q < m) : (iD d t m X)[q]? = some (ja d t (jD (d + 1) q X) (d + 1)) := by
 unfold iD
 rw [List.getElem?_map, List.getElem?_range h, pB]
 rfl
theorem wC {d m k q : Nat} {t : Dyadic} {X : List Dyadic} (hx : ∀ x ∈ X, Sz k x) (ht : Sz q t) (ht1 : Sz q (1 - t)) : ∀ x ∈ iD d t m X, Sz (k + (2 + 2 * (q * d)) + (d + 1)) x := fun x h => by
 obtain ⟨p, _, rfl⟩ := List.mem_map.1 h
 rw [← pB]
 exact pZ (fun y hy => hx y (lK hy)) ht ht1 (Nat.le_refl _)
theorem sk {ns : List Nat} {ts : List Dyadic} {i d : Nat} {t : Dyadic} (X : List Dyadic) (hd : ns[i]? = some d) (ht : ts[i]? = some t) : j7 (ns.take (i + 1)).reverse (ts.take (i + 1)).reverse X = j7 (ns.take i).reverse (ts.take i).reverse (iD d t (aw (ns.take i)) X) := by
 rw [bo hd, bo ht, List.reverse_append, List.reverse_append]
 show j7 (d :: (ns.take i).reverse) (t :: (ts.take i).reverse) X = _
 rw [j7, eY]
def wZ (fx : FX) (m : Nat) : Int := if fx.e ≠ 0 then fx.e else if m ≠ fx.n then 1 else 0
def xC (fx : FX) (tn : List NR) : Dyadic := if wZ fx tn.length = 0 then gW fx.ns.reverse (fx.cs.map NR.d) (tn.map NR.d).reverse else 0
end Go.Proofs.YtioilmppidlbnaaGreatDoor
/- A region whose order is left open, order by order, in a round of a range over a function: one operation that may float along a chain. Plain lemmas, no program in sight. -/
namespace Go.Proofs.YtioilmppidlbnaaGreatDoor
open Go.RowKit
section
variable {P : Program} {N : Nat} {Q : Kq} {ρ : Rf} {w : World} {ro : Option Nat} {D : List Deferred}
structure WR (ro : Option Nat) (D : List Deferred) (P : Program) (N : Nat) (ops : Array Oper) (Q : Kq) (fuel : Nat) (L : Array Bool) (ρ : Rf) (w : World) : Prop where
 out : ∀ a, dW N D a ρ → ∀ n, wpAnyIn (FW ro) n P .any ops (cU N D Q) fuel L a w
theorem qz {F : Fence} {n : Nat} {o : Oper} {a : Act} {next : Rf → World → Prop} {K : Act → World → Prop} {r : Result Next} (h : o.uponIn F n P a K (cU N D (ck next Q)) r) : o.uponIn F n P a K (cU N D Q) r := by
 have hp : ∀ c a w, cU N D (ck next Q) (.panic c) a w → cU N D Q (.panic c) a w := fun _ _ _ h => h
 have ho : LetsOut (cU N D (ck next Q)) → LetsOut (cU N D Q) := fun ⟨a, w, h⟩ => ⟨a, w, h⟩
 cases r with
 | ok n w' =>
  cases n <;> simp only [Oper.uponIn] at h ⊢ <;> first
   | exact h
   | exact ⟨h.1, CallsIn.mono h.2 (fun e w'' he => by cases e <;> first | exact he | exact hp _ _ _ he | exact ho he)⟩
   | exact ⟨h.1, RoundIn.mono h.2 (fun e w'' he => by cases e <;> first | exact he | exact hp _ _ _ he | exact ho he)⟩
 | halt x w' => cases x <;> simp only [Oper.uponIn] at h ⊢ <;> first | exact h | exact hp _ _ _ h | exact ho h
theorem qy {ops : Array Oper} {fuel : Nat} {L : Array Bool} {rs : List Nat} (hr : Region.ready .any ops L = rs) (hne : rs ≠ [])
  (h : ∀ i ∈ rs, ∃ o, ops[i]? = some o ∧ WL ⟨ro, D, true⟩ P N ops (ck (fun ρ w => WR ro D P N ops Q fuel (L.setIfInBounds i true) ρ w) Q) [o] ρ w) : WR ro D P N ops Q (fuel + 1) L ρ w := by
 refine ⟨fun a hf n => ⟨fun e => absurd (hr.symm.trans e) hne, fun i hi => ?_⟩⟩
 rw [hr] at hi
 obtain ⟨o, ho, hw⟩ := h i hi
 have h1 := hw.gP a hf n
 have hK : ∀ a w, wpListIn (FW ro) n P ops (cU N D (ck (fun ρ w => WR ro D P N ops Q fuel (L.setIfInBounds i true) ρ w) Q)) [] a w → wpAnyIn (FW ro) n P .any ops (cU N D Q) fuel (L.setIfInBounds i true) a w := fun a w ⟨ρ', hf', hq⟩ => by
  have hq' : WR ro D P N ops Q fuel (L.setIfInBounds i true) ρ' w := hq
  exact hq'.out a hf' n
 unfold wpOpIn
 rw [ho]
 simp only []
 unfold wpListIn at h1
 split at h1
 ·rename_i hwt
  rw [if_pos hwt]
  have h2 := Oper.wpIn_mono hK h1
  unfold Oper.wpIn at h2 ⊢
  exact ⟨h2.1, qz h2.2⟩
 ·rename_i hwt
  rw [if_neg hwt]
  exact ⟨h1.1, hK _ _ h1.2⟩
theorem zQ {ops : Array Oper} {fuel : Nat} {L : Array Bool} (hr : Region.ready .any ops L = []) (h : Q .normal ρ w) : WR ro D P N ops Q fuel L ρ w :=
 ⟨fun a hf n => by
  cases fuel with
  | zero => exact ⟨hr, ρ, hf, h⟩
  | succ fuel => exact ⟨fun _ => ⟨ρ, hf, h⟩, fun i hi => by rw [hr] at hi; cases hi⟩⟩
theorem vU {id : Nat} {l : List Oper} {w0 : World} {H : List HE} (hh : Hp w0 H w) (hm : P.follows .mixedOrders = true) (h : ∀ w', JJ w0 H w w' → WR ro D P N l.toArray Q l.length (Array.replicate l.length false) ρ w') : WC ⟨ro, D, true⟩ P N (.region id l.toArray true) Q ρ w := by
 refine ⟨fun h => (by cases h), fun a hf n => wpIn_region_any hm ?_⟩
 have hb : Below w.heap.size w ({ w with drawn := w.drawn + 1 } : World) := ⟨rfl, rfl, rfl, Nat.le_refl _, fun _ _ => rfl⟩
 have := (h _ ((JJ.start hh).ext hb)).out a hf n
 simpa using this
theorem qi {F : Fence} {n : Nat} {o : Oper} {a : Act} {K : Act → World → Prop} {Q1 Q2 : Exit → Act → World → Prop} {r : Result Next} (hq : ∀ e a w, Q1 e a w → Q2 e a w) (h : o.uponIn F n P a K Q1 r) : o.uponIn F n P a K Q2 r := by
 have ho : LetsOut Q1 → LetsOut Q2 := fun ⟨a, w, h⟩ => ⟨a, w, hq _ _ _ h⟩
 cases r with
 | ok n w' =>
  cases n <;> simp only [Oper.uponIn] at h ⊢ <;> first
   | exact h
   | exact ⟨h.1, CallsIn.mono h.2 (fun e w'' he => by cases e <;> first | exact he | exact hq _ _ _ he | exact ho he)⟩
   | exact ⟨h.1, RoundIn.mono h.2 (fun e w'' he => by cases e <;> first | exact he | exact hq _ _ _ he | exact ho he)⟩
 | halt x w' => cases x <;> simp only [Oper.uponIn] at h ⊢ <;> first | exact h | exact hq _ _ _ h | exact ho h
theorem l5 {ops : Array Oper} {o : Oper} {A B : Rf → World → Prop} (h : WL ⟨ro, D, true⟩ P N ops (ck A lv) [o] ρ w) (hi : ∀ ρ w, A ρ w → B ρ w) : WL ⟨ro, D, true⟩ P N ops (ck B Q) [o] ρ w := by
 refine ⟨fun h => (by cases h), fun a hf n => ?_⟩
 have h1 := h.gP a hf n
 have hq : ∀ e a w, cU N D (ck A lv) e a w → cU N D (ck B Q) e a w := fun e a w ⟨ρ', hf', hk⟩ => ⟨ρ', hf', by
  cases e with
  | normal => exact hi _ _ hk
  | _ => exact hk.elim⟩
 unfold wpListIn at h1 ⊢
 split at h1
 ·rename_i hwt
  rw [if_pos hwt]
  have h2 := Oper.wpIn_mono (K' := wpListIn (FW ro) n P ops (cU N D (ck B Q)) []) (fun a w h => hq .normal a w h) h1
  unfold Oper.wpIn at h2 ⊢
  exact ⟨h2.1, qi hq h2.2⟩
 ·rename_i hwt
  rw [if_neg hwt]
  exact ⟨h1.1, hq .normal _ _ h1.2⟩
theorem vZ {ops : Array Oper} {o0 o1 o2 o3 o4 o5 o6 : Oper} {I : Bool → Bool → Bool → Bool → Bool → Rf → World → Prop} {J K : Rf → World → Prop}
  (e0 : ops[0]? = some o0) (e1 : ops[1]? = some o1) (e2 : ops[2]? = some o2) (e3 : ops[3]? = some o3) (e4 : ops[4]? = some o4) (e5 : ops[5]? = some o5) (e6 : ops[6]? = some o6)
  (r0 : Region.ready .any ops #[false, false, false, false, false, false, false] = [0, 1, 2])
  (r1 : Region.ready .any ops #[false, true, false, false, false, false, false] = [0, 2])
  (r2 : Region.ready .any ops #[false, false, true, false, false, false, false] = [0, 1])
  (r3 : Region.ready .any ops #[false, true, true, false, false, false, false] = [0, 3])
  (r4 : Region.ready .any ops #[false, true, true, true, false, false, false] = [0, 4])
  (r5 : Region.ready .any ops #[false, true, true, true, true, false, false] = [0])
  (q0 : Region.ready .any ops #[true, false, false, false, false, false, false] = [1, 2])
  (q1 : Region.ready .any ops #[true, true, false, false, false, false, false] = [2])
  (q2 : Region.ready .any ops #[true, false, true, false, false, false, false] = [1])
  (q3 : Region.ready .any ops #[true, true, true, false, false, false, false] = [3])
  (q4 : Region.ready .any ops #[true, true, true, true, false, false, false] = [4])
  (q5 : Region.ready .any ops #[true, true, true, true, true, false, false] = [5])
  (q6 : Region.ready .any ops #[true, true, true, true, true, true, false] = [6])
  (q7 : Region.ready .any ops #[true, true, true, true, true, true, true] = [])
  (s0 : ∀ a b e g ρ w, I false a b e g ρ w → WL ⟨ro, D, true⟩ P N ops (ck (fun ρ w => I true a b e g ρ w) lv) [o0] ρ w)
  (s1 : ∀ c b ρ w, I c false b false false ρ w → WL ⟨ro, D, true⟩ P N ops (ck (fun ρ w => I c true b false false ρ w) lv) [o1] ρ w)
  (s2 : ∀ c a ρ w, I c a false false false ρ w → WL ⟨ro, D, true⟩ P N ops (ck (fun ρ w => I c a true false false ρ w) lv) [o2] ρ w)
  (s3 : ∀ c ρ w, I c true true false false ρ w → WL ⟨ro, D, true⟩ P N ops (ck (fun ρ w => I c true true true false ρ w) lv) [o3] ρ w)
  (s4 : ∀ c ρ w, I c true true true false ρ w → WL ⟨ro, D, true⟩ P N ops (ck (fun ρ w => I c true true true true ρ w) lv) [o4] ρ w)
  (s5 : ∀ ρ w, I true true true true true ρ w → WL ⟨ro, D, true⟩ P N ops (ck J lv) [o5] ρ w)
  (s6 : ∀ ρ w, J ρ w → WL ⟨ro, D, true⟩ P N ops (ck K lv) [o6] ρ w)
  (fin : ∀ ρ w, K ρ w → Q .normal ρ w) (st : I false false false false false ρ w) : WR ro D P N ops Q 7 #[false, false, false, false, false, false, false] ρ w := by
 have one : ∀ {fuel : Nat} {L : Array Bool} {i : Nat} {o : Oper} {ρ : Rf} {w : World} {A : Rf → World → Prop}, Region.ready .any ops L = [i] → ops[i]? = some o → WL ⟨ro, D, true⟩ P N ops (ck A lv) [o] ρ w → (∀ ρ w, A ρ w → WR ro D P N ops Q fuel (L.setIfInBounds i true) ρ w) → WR ro D P N ops Q (fuel + 1) L ρ w := fun hr ho h hi =>
  qy hr (by simp) fun j hj => by
   obtain rfl := List.mem_singleton.1 hj
   exact ⟨_, ho, l5 h hi⟩
 have two : ∀ {fuel : Nat} {L : Array Bool} {i j : Nat} {o p : Oper} {ρ : Rf} {w : World} {A B : Rf → World → Prop}, Region.ready .any ops L = [i, j] → ops[i]? = some o → ops[j]? = some p → WL ⟨ro, D, true⟩ P N ops (ck A lv) [o] ρ w → (∀ ρ w, A ρ w → WR ro D P N ops Q fuel (L.setIfInBounds i true) ρ w) → WL ⟨ro, D, true⟩ P N ops (ck B lv) [p] ρ w → (∀ ρ w, B ρ w → WR ro D P N ops Q fuel (L.setIfInBounds j true) ρ w) → WR ro D P N ops Q (fuel + 1) L ρ w := fun hr ho hp h hi h2 hi2 =>
  qy hr (by simp) fun k hk => by
   rcases List.mem_cons.1 hk with rfl | hk
   ·exact ⟨_, ho, l5 h hi⟩
   ·obtain rfl := List.mem_singleton.1 hk
    exact ⟨_, hp, l5 h2 hi2⟩
 have n7 : ∀ ρ w, K ρ w → WR ro D P N ops Q 0 #[true, true, true, true, true, true, true] ρ w := fun ρ w h => zQ q7 (fin ρ w h)
 have n6 : ∀ ρ w, J ρ w → WR ro D P N ops Q 1 #[true, true, true, true, true, true, false] ρ w := fun ρ w h => one q6 e6 (s6 ρ w h) n7
 have n5 : ∀ ρ w, I true true true true true ρ w → WR ro D P N ops Q 2 #[true, true, true, true, true, false, false] ρ w := fun ρ w h => one q5 e5 (s5 ρ w h) n6
 have n4 : ∀ ρ w, I true true true true false ρ w → WR ro D P N ops Q 3 #[true, true, true, true, false, false, false] ρ w := fun ρ w h => one q4 e4 (s4 true ρ w h) n5
 have m5 : ∀ ρ w, I false true true true true ρ w → WR ro D P N ops Q 3 #[false, true, true, true, true, false, false] ρ w := fun ρ w h => one r5 e0 (s0 _ _ _ _ ρ w h) n5
 have m4 : ∀ ρ w, I false true true true false ρ w → WR ro D P N ops Q 4 #[false, true, true, true, false, false, false] ρ w := fun ρ w h => two r4 e0 e4 (s0 _ _ _ _ ρ w h) n4 (s4 false ρ w h) m5
 have n3 : ∀ ρ w, I true true true false false ρ w → WR ro D P N ops Q 4 #[true, true, true, false, false, false, false] ρ w := fun ρ w h => one q3 e3 (s3 true ρ w h) n4
 have m3 : ∀ ρ w, I false true true false false ρ w → WR ro D P N ops Q 5 #[false, true, true, false, false, false, false] ρ w := fun ρ w h => two r3 e0 e3 (s0 _ _ _ _ ρ w h) n3 (s3 false ρ w h) m4
 have n1 : ∀ ρ w, I true true false false false ρ w → WR ro D P N ops Q 5 #[true, true, false, false, false, false, false] ρ w := fun ρ w h => one q1 e2 (s2 true true ρ w h) n3
 have n2 : ∀ ρ w, I true false true false false ρ w → WR ro D P N ops Q 5 #[true, false, true, false, false, false, false] ρ w := fun ρ w h => one q2 e1 (s1 true true ρ w h) n3
 have m1 : ∀ ρ w, I false true false false false ρ w → WR ro D P N ops Q 6 #[false, true, false, false, false, false, false] ρ w := fun ρ w h => two r1 e0 e2 (s0 _ _ _ _ ρ w h) n1 (s2 false true ρ w h) m3
 have m2 : ∀ ρ w, I false false true false false ρ w → WR ro D P N ops Q 6 #[false, false, true, false, false, false, false] ρ w := fun ρ w h => two r2 e0 e1 (s0 _ _ _ _ ρ w h) n2 (s1 false true ρ w h) m3
 have n0 : ∀ ρ w, I true false false false false ρ w → WR ro D P N ops Q 6 #[true, false, false, false, false, false, false] ρ w := fun ρ w h => two q0 e1 e2 (s1 true false ρ w h) n1 (s2 true false ρ w h) n2
 refine qy r0 (by simp) fun k hk => ?_
 rcases List.mem_cons.1 hk with rfl | hk
 ·exact ⟨_, e0, l5 (s0 _ _ _ _ ρ w st) n0⟩
 ·rcases List.mem_cons.1 hk with rfl | hk
  ·exact ⟨_, e1, l5 (s1 false false ρ w st) m1⟩
  ·obtain rfl := List.mem_singleton.1 hk
   exact ⟨_, e2, l5 (s2 false false ρ w st) m2⟩
end
end Go.Proofs.YtioilmppidlbnaaGreatDoor
/- The walk through bern.Eval. -/
namespace Go.Proofs.YtioilmppidlbnaaGreatDoor
open Go.RowKit
instance : aC Tryz.prog 95 1 false 8 [.nilFunc] := ⟨by kernel_rfl⟩
theorem rh (fx : FX) (L : Option Addr) (m2 c2 : Nat) (tn : List NR) (k q G : Nat) (w : World) (hT : eN w) (hf : fx.at_ w) (hl : fx.qf k) (hcap : fx.m ≤ fx.b) (hS : Sl w L m2 3 (a9 NR.cells tn)) (hv : ∀ s ∈ tn, ke q s s.d ∧ Sz q (1 - s.d)) (hq : q ≤ 2000)
  (hG : fx.e = 0 → ∀ d ∈ fx.ns, 2 + 2 * (q * d) + (d + 1) ≤ G) (hk : k + fx.n * G ≤ 500000) :
  Calls Tryz.prog 29 #[.agg #[.slice fx.A fx.n fx.a, .slice fx.B fx.m fx.b], .slice L m2 c2] w fun r w' => r = .returned (.tuple #[.agg #[.bool (nR (xC fx tn)).neg, .string (nR (xC fx tn)).br, .int .i64 (nR (xC fx tn)).e], .int .i64 (wZ fx m2)]) ∧ Below w.heap.size w w' := by
 have hh := Hp.start w
 have hck := fun w1 hT1 hb => lu fx k w1 hT1 (hf.ext hb) hl
 have hlt := hS.eb NR.len (by decide)
 have hev0 : wZ fx m2 ≠ 0 → xC fx tn = 0 := fun h => by unfold xC; rw [hlt, if_neg h]
 by_cases h0 : fx.e = 0
 ·by_cases h1 : m2 = fx.n
  ·have hE : wZ fx m2 = 0 := by unfold wZ; rw [if_neg (by omega), if_neg (by omega)]
   have hV : xC fx tn = gW fx.ns.reverse (fx.cs.map NR.d) (tn.map NR.d).reverse := by unfold xC; rw [hlt, hE, if_pos rfl]
   rw [hE, hV]
   obtain ⟨hdeg, hnum, h12, hlow, hcnt, hmax⟩ := FX.fv h0
   have hln : fx.ds.length = fx.n := hf.ln.1
   have hlm := hf.ln.2
   have hnl : fx.ns.length = fx.n := by unfold FX.ns; rw [List.length_map]; exact hln
   have hm : fx.m = aw fx.ns := by rw [← hlm, hcnt]
   have hdg : Sl w fx.A fx.n 1 (bP (cm fx.ns)) := by rw [← hdeg]; exact hf.dg
   have hxz : ∀ x ∈ fx.cs.map NR.d, Sz k x := fun x h => by
    obtain ⟨c, hc, rfl⟩ := List.mem_map.1 h
    exact (hl.num c hc).2
   have hxl : (fx.cs.map NR.d).length = aw fx.ns := by rw [List.length_map, hcnt]
   have hval := oM fx.ns.reverse (tn.map NR.d).reverse (fx.cs.map NR.d) (by rw [List.length_reverse, List.length_reverse, List.length_map]; omega) (by rw [hxl, eY])
   have hnm : Sl w fx.B (aw fx.ns) 3 (a9 NR.cells ((fx.cs.map NR.d).map nR)) := by rw [← hm, ← hnum]; exact hf.nm
   have hG := hG h0
   rw [hm] at hcap
   refine jL (N := 58) (l := [.agg #[.slice fx.A fx.n fx.a, .slice fx.B fx.m fx.b], .slice L m2 c2]) Tryz.func29 rfl rfl (by simp) ?_
   refine eR fun D_ => ?_
   refine ak ?_
   refine cW hh [_,_] ?_
   intro b2 w2 hh
   refine bY hh ?_
   intro b4 w4 hh
   refine aI (aa ?_)
   refine eR fun D_ => ?_
   refine sr ?_
   refine cD hh 1 [_,_] ?_
   refine bF hh (hck _ (hT.hp hh) hh.below) rfl ?_
   intro w13 hh
   refine aI (aa (sr (mI ?_)))
   refine dR (aa (cF (al (ai ?_))))
   refine eR fun D_ => ?_
   refine sr (mL (a6 (bG ?_)))
   refine bI hh 1 ?_
   refine a6 ?_
   refine dR (aa (cF (al (ai ?_))))
   refine eR fun D_ => ?_
   refine ak (bG ?_)
   refine bI hh 1 ?_
   refine aL (aa ?_)
   refine nf ?_
   refine eR fun D_ => ?_
   refine ak (mL (a6 ?_))
   refine eu (aI (aa ?_))
   rw [hm]
   have hst : ∀ (H : List HE) (w1 : World), Hp w (H ++ []) w1 → Sl w1 fx.B (aw fx.ns) 3 (a9 NR.cells ((fx.cs.map NR.d).map nR)) := fun H w1 h => hnm.ext h.below
   generalize fx.cs.map NR.d = xs at *
   refine lF (vP [7, 8, 9, 10, 11, 30, 31, 32, 33, 34, 35, 36, 37, 38, 39, 40, 41, 42, 43, 44, 45, 46, 47, 48, 49, 50, 51, 52, 53, 54] 7 8
    (fun M v7 v8 w' => ∃ (j : Nat) (z : Int) (X : List Dyadic) (A : Option Addr) (a : Nat) (R : List HE), j ≤ fx.n ∧ v8 = .int .i64 z ∧ z = (j : Int) - 1 ∧ v7 = .slice A (aw (fx.ns.take j)) a ∧ aw (fx.ns.take j) ≤ a ∧ X.length = aw (fx.ns.take j) ∧ (∀ x ∈ X, Sz (k + (fx.n - j) * G) x) ∧ j7 (fx.ns.take j).reverse ((tn.map NR.d).take j).reverse X = j7 fx.ns.reverse (tn.map NR.d).reverse xs ∧ (∀ x ∈ R, x.xr = true) ∧ (∀ (H : List HE) (w1 : World), Hp w (H ++ R) w1 → Sl w1 A (aw (fx.ns.take j)) 3 (a9 NR.cells (X.map nR))) ∧ Hp w (.blk b4 39 [.bool false, .string (ByteArray.mk #[]), .int .i64 0] (0, 0) :: .blk b2 28 [.slice fx.A fx.n fx.a, .slice fx.B fx.m fx.b] (0, 0) :: (R ++ kW M)) w')
    (fun _ v _ => (intOf v + 1).toNat) ?_ ?_)
   ·refine ⟨fx.n, _, xs, _, _, [], Nat.le_refl _, rfl, by omega, by rw [List.take_of_length_le (by omega)]; rfl, by rw [List.take_of_length_le (by omega)]; exact hcap, by rw [List.take_of_length_le (by omega)]; exact hxl, fun x h => (hxz x h).mono (by omega), by rw [List.take_of_length_le (by omega), List.take_of_length_le (by rw [List.length_map]; omega)], fun x h => (by cases h), by rw [List.take_of_length_le (by omega)]; exact hst, hh⟩
   ·clear hh hst
    rintro M ρ' v7 v8 w' ⟨j, z, X, A, a, R, hj, rfl, hz, rfl, hca, hXl, hXz, hXe, hcR, hrd, hh⟩
    by_cases hj0 : j = 0
    ·subst hj0
     obtain rfl : z = -1 := by omega
     have hX : X = [gW fx.ns.reverse xs (tn.map NR.d).reverse] := by
      rw [← hval, ← hXe]
      simp [j7]
     subst hX
     have hh1 : Hp w ([_, _] ++ R) w' := hh.sub (.cons_cons _ (.cons_cons _ (List.sublist_append_left R _)))
     have hsl := hrd _ _ hh1
     rw [List.take_zero] at hsl
     obtain ⟨ac, rfl, sc⟩ := hsl.at_ (show 0 < aw [] by decide)
     have hx0 : ([gW fx.ns.reverse xs (tn.map NR.d).reverse].map nR)[0]? = some (nR (gW fx.ns.reverse xs (tn.map NR.d).reverse)) := rfl
     generalize gW fx.ns.reverse xs (tn.map NR.d).reverse = V at *
     rw [List.take_zero]
     refine eR fun D_ => ?_
     refine sr (mI ?_)
     refine de (aa (cF ?_))
     refine a0 ?_
     refine aA ?_
     refine xy ?_
     refine eR fun D_ => ?_
     refine ak (mL ?_)
     refine aT (k := 0) aG.out aC.size rfl rfl (by omega) (show 0 < aw [] by decide) (by decide) ?_
     refine dM (vs := [_, _, _]) aC.out rfl (sc.recAt NR.len hx0) rfl (by decide) ?_
     refine bK hh 0 [_,_,_] ?_
     intro ws hh
     replace hh : Hp _ (.blk _ _ [_, _, _] _ :: _) _ := hh
     refine aI (aa ?_)
     refine qT fun D_ => ?_
     refine aq ?_
     refine jU (M := M) (vs := [.agg #[.bool (nR V).neg, .string (nR V).br, .int .i64 (nR V).e], .int .i64 0]) (hh.perm (List.perm_append_comm (l₁ := _ :: _ :: R))) (.inr rfl) rfl ?_
     intro w9 hh
     refine ⟨(aO rfl (aP (vs := [_, _, _]) aC.out (hh.au (i := 0) (n := 3) rfl rfl) rfl) (dP (fm rfl) bA)), ?_⟩
     exact ⟨rfl, hh.below⟩
    ·obtain ⟨i, rfl⟩ : ∃ i, j = i + 1 := ⟨j - 1, by omega⟩
     obtain rfl : z = (i : Int) := by omega
     obtain ⟨tq, htq⟩ := aU (l := tn) (k := i) (by omega)
     obtain ⟨vt, ht1⟩ := hv tq (List.mem_of_getElem? htq)
     obtain ⟨d, hd⟩ := aU (l := fx.ns) (k := i) (by omega)
     have hmd := List.mem_of_getElem? hd
     have hdl := hlow d hmd
     have hGd := hG d hmd
     have hgd := ep (jJ hd)
     obtain ⟨adL, rfl, sL⟩ := hS.at_ (by omega)
     obtain ⟨adD, hAD, sD⟩ := hdg.at_ (by omega)
     have hev : Value.slice fx.A fx.n fx.a = .slice (some adD) fx.n fx.a := by rw [hAD]
     have hh1 : Hp w ([_, _] ++ R) w' := hh.sub (.cons_cons _ (.cons_cons _ (List.sublist_append_left R _)))
     obtain ⟨ac, rfl, -⟩ := (hrd _ _ hh1).at_ (dE _)
     clear hh1
     have hcs : aw (fx.ns.take (i + 1)) = aw (fx.ns.take i) * (d + 1) := by rw [bo hd, cZ]; simp [aw]
     have hct := fp fx.ns (i + 1)
     have hcp := dE (fx.ns.take i)
     have hc4 := fp fx.ns i
     have hd1c : d + 1 ≤ aw (fx.ns.take (i + 1)) := by rw [hcs]; exact Nat.le_mul_of_pos_left _ hcp
     have hKG : k + (fx.n - (i + 1)) * G + G = k + (fx.n - i) * G := by
      rw [show fx.n - i = fx.n - (i + 1) + 1 by omega, Nat.add_mul, Nat.one_mul]
      omega
     have hKle : k + (fx.n - (i + 1)) * G ≤ 500000 := by
      have := Nat.mul_le_mul_right G (show fx.n - (i + 1) ≤ fx.n by omega)
      omega
     have eD : (d : Int) + 1 = ((d + 1 : Nat) : Int) := by omega
     refine eR fun D_ => ?_
     refine sr (mI ?_)
     refine de (aa (cT (al (ai ?_))))
     refine nf (lF ?_)
     refine eR fun D_ => ?_
     refine ak (mL (mI ?_))
     refine aT (k := i) aG.out aC.size rfl rfl (by omega) (by omega) (by decide) ?_
     refine dM (vs := [_, _, _]) aC.out rfl ((sL.ext hh.below).recAt NR.len htq) rfl (by decide) ?_
     refine aJ (qm tq tq.d q _ (hT.hp hh) vt hq) ar.out rfl (by decide) ?_
     rintro e_ w38 ⟨b1, b3, rfl, h2⟩
     refine ⟨_, rfl, ?_⟩
     replace hh := hh.join h2
     simp only [List.cons_append, List.nil_append] at hh
     clear h2
     refine bY hh ?_
     intro b9 w9 hh
     refine bK hh 0 [_] ?_
     intro ws hh
     replace hh : Hp _ (.blk _ _ [_] _ :: _) _ := hh
     refine aa ?_
     refine eR fun D_ => ?_
     refine ak ?_
     refine bY hh ?_
     intro b10 w10 hh
     refine aa ?_
     refine nf ?_
     refine eR fun D_ => ?_
     refine ak (mL (bG ?_))
     refine bI hh 5 ?_
     refine mI ?_
     refine aT (k := i) aG.out aC.size hev rfl (by omega) (by omega) (by decide) ?_
     refine bh aC.out rfl ((sD.ext hh.below).gU hgd) (by decide) ?_
     refine bC ?_
     rw [eD]
     refine aJ (mq (some ac) (aw (fx.ns.take (i + 1))) a (d + 1) _ (by omega)) ar.out rfl (by decide) ?_
     rintro e_ w46 ⟨c2, c1, rfl, h2⟩
     refine ⟨_, rfl, ?_⟩
     replace hh := hh.join h2
     simp only [List.cons_append, List.nil_append] at hh
     clear h2
     replace hh := hh.perm (List.perm_middle (l₁ := [_, _]))
     simp only [List.cons_append, List.nil_append] at hh
     replace hh := hh.ew 39 3
     refine aa ?_
     have hmk := hh.zt (M := M) (by repeat (first | exact List.sublist_append_right _ _ | apply List.Sublist.cons))
     have hmlt := hmk.lt
     replace hh := hh.sub (H' := _ :: _ :: _ :: _ :: _ :: _ :: _ :: _ :: _ :: R) (by repeat (first | exact List.sublist_append_left _ _ | apply List.Sublist.cons_cons))
     have hc2 := hh.cM (i := 3) (o := 0) rfl rfl
     have hc1 := hh.cM (i := 2) (o := 0) rfl rfl
     have hseq := pg c2 c1 ac (aw (fx.ns.take (i + 1))) a (d + 1) (aw (fx.ns.take i)) _ hc2 hc1 hcs (by omega) hca (by omega) (by omega)
     have hcel : ∀ (A1 : Option Addr) (n1 k1 : Nat) (cs vs : List Value), ∀ x ∈ (HE.row A1 n1 k1 39 3 cs :: .blk b10 26 vs (0, 0) :: .blk c1 3 [.int .i64 ((d + 1 : Nat) : Int)] (0, 0) :: .blk c2 26 [.slice (some ac) (aw (fx.ns.take (i + 1))) a] (0, 0) :: .blk b9 95 [.func (.func 120) #[] #[.pointer (some ⟨b1, 0, none⟩), .pointer (some ⟨b3, 0, none⟩)]] (0, 0) :: .blk b3 39 [.bool (nR (1 - tq.d)).neg, .string (nR (1 - tq.d)).br, .int .i64 (nR (1 - tq.d)).e] (0, 0) :: .blk b1 39 [.bool tq.neg, .string tq.br, .int .i64 tq.e] (0, 0) :: .blk b4 39 [.bool false, .string (ByteArray.mk #[]), .int .i64 0] (0, 0) :: .blk b2 28 [.slice fx.A fx.n fx.a, .slice fx.B fx.m fx.b] (0, 0) :: R), x.xr = true := fun A1 n1 k1 cs vs x hx => by
      simp only [List.mem_cons] at hx
      rcases hx with rfl | rfl | rfl | rfl | rfl | rfl | rfl | rfl | rfl | hx
      all_goals first | rfl | exact hcR x hx
     trace_state
     refine lF (oJ (α := Fin (aw (fx.ns.take i))) (enc := fun jj : Fin (aw (fx.ns.take i)) => .slice (some (ac.add (jj.val * (d + 1) * 3))) (d + 1) (d + 1)) 11 (by decide) (by decide) rfl (enters_of Tryz.func122 (by kernel_rfl) rfl) hseq ug (fun W l o o' h _ _ _ => tS (k9 hc2) (k9 hc1) W l o o' h)
      (fun bs W => ∃ (Y : List Dyadic) (A1 : Option Addr) (k1 : Nat), Y.length = bs.length ∧ (∀ y ∈ Y, Sz (k + (fx.n - i) * G) y) ∧ (bs = (List.finRange (aw (fx.ns.take i))).take bs.length → Y = (iD d tq.d (aw (fx.ns.take i)) X).take bs.length) ∧ Marks w M W ∧ Hp w (.row A1 bs.length k1 39 3 (a9 NR.cells (Y.map nR)) :: .blk b10 26 [.slice A1 bs.length k1] (0, 0) :: .blk c1 3 [.int .i64 ((d + 1 : Nat) : Int)] (0, 0) :: .blk c2 26 [.slice (some ac) (aw (fx.ns.take (i + 1))) a] (0, 0) :: .blk b9 95 [.func (.func 120) #[] #[.pointer (some ⟨b1, 0, none⟩), .pointer (some ⟨b3, 0, none⟩)]] (0, 0) :: .blk b3 39 [.bool (nR (1 - tq.d)).neg, .string (nR (1 - tq.d)).br, .int .i64 (nR (1 - tq.d)).e] (0, 0) :: .blk b1 39 [.bool tq.neg, .string tq.br, .int .i64 tq.e] (0, 0) :: .blk b4 39 [.bool false, .string (ByteArray.mk #[]), .int .i64 0] (0, 0) :: .blk b2 28 [.slice fx.A fx.n fx.a, .slice fx.B fx.m fx.b] (0, 0) :: R) W)
      ?own ?zero ?asg ?body ?done)
     case own =>
      intro s W W' row ⟨Y, A1, k1, h1, h2, h3, h4, h5⟩ hg hr
      exact ⟨Y, A1, k1, h1, h2, h3, h4.grown hmlt hg (fun r e => (hr r e).1), h5.wg (hcel _ _ _ _ _) hg fun r e => ⟨Nat.le_trans hh.size (hr r e).1, (hr r e).2⟩⟩
     case zero => exact ⟨[], none, 0, rfl, fun y h => (by cases h), fun _ => rfl, hmk, hh⟩
     case asg =>
      intro l x W
      refine ak (aL (aD ?_))
      exact ⟨rfl, rfl⟩
     case body =>
      rintro l bs qq W ⟨Y, A1, k1, hYl, hYz, hYe, hmk2, hh0⟩ hbl
      have hqm := qq.isLt
      have hh := hh0.uA
      simp only [List.cons_append, List.nil_append] at hh
      generalize hO : ot _ _ _ = O at hh
      have hq1 : qq.val * (d + 1) + (d + 1) ≤ aw (fx.ns.take (i + 1)) := by
       have := Nat.mul_le_mul_right (d + 1) (show qq.val + 1 ≤ aw (fx.ns.take i) from hqm)
       rw [Nat.succ_mul] at this
       omega
      have hline := (hrd [_, _, _, _, _, _, _, _, _] W hh0).part (qq.val * (d + 1)) (d + 1) hq1 (by omega)
      rw [oX] at hline
      have hfo := fun w1 hT1 hS1 hb1 hb2 => og tq tq.d ⟨b1, 0, none⟩ ⟨b3, 0, none⟩ (some (ac.add (qq.val * (d + 1) * 3))) (d + 1) (d + 1) d (jD (d + 1) qq.val X) (k + (fx.n - (i + 1)) * G) q w1 hT1 hS1 rfl hdl (fun x hx => hXz x (lK hx)) vt ht1 hb1 hb2 hKle hq
      have hfz := pZ (d := d) (i := d + 1) (fun x hx => hXz x (lK (K := d + 1) (q := qq.val) hx)) vt.sz ht1 (Nat.le_refl _)
      have hfa := vA (d := d) (m := aw (fx.ns.take i)) tq.d X hqm
      generalize ja d tq.d (jD (d + 1) qq.val X) (d + 1) = y at *
      refine ao ?_
      refine vU hh mixed fun W2 hJ2 => ?_
      have hst2 := hJ2.hp
      refine vZ (I := fun c x1 x2 e g ρ w' => ρ 9 = .pointer (some ⟨b9, 0, none⟩) ∧ ρ 10 = .pointer (some ⟨b10, 0, none⟩) ∧ ρ 11 = .slice (some (ac.add (qq.val * (d + 1) * 3))) (d + 1) (d + 1) ∧ (c = true → ρ 48 = .slice A1 bs.length k1) ∧ (x1 = true → ρ 49 = .func (.func 120) #[] #[.pointer (some ⟨b1, 0, none⟩), .pointer (some ⟨b3, 0, none⟩)]) ∧ (x2 = true → ρ 50 = .slice (some (ac.add (qq.val * (d + 1) * 3))) (d + 1) (d + 1)) ∧ (e = true → ρ 51 = .agg #[.bool (nR y).neg, .string (nR y).br, .int .i64 (nR y).e]) ∧ ∃ R52 : List HE, Hp w (R52 ++ (.row A1 bs.length k1 39 3 (a9 NR.cells (Y.map nR)) :: .blk b10 26 [.slice A1 bs.length k1] (0, 0) :: .blk c1 3 [.int .i64 ((d + 1 : Nat) : Int)] (0, 0) :: .blk c2 26 [.slice (some ac) (aw (fx.ns.take (i + 1))) a] (0, 0) :: .blk b9 95 [.func (.func 120) #[] #[.pointer (some ⟨b1, 0, none⟩), .pointer (some ⟨b3, 0, none⟩)]] (0, 0) :: .blk b3 39 [.bool (nR (1 - tq.d)).neg, .string (nR (1 - tq.d)).br, .int .i64 (nR (1 - tq.d)).e] (0, 0) :: .blk b1 39 [.bool tq.neg, .string tq.br, .int .i64 tq.e] (0, 0) :: .blk b4 39 [.bool false, .string (ByteArray.mk #[]), .int .i64 0] (0, 0) :: .blk b2 28 [.slice fx.A fx.n fx.a, .slice fx.B fx.m fx.b] (0, 0) :: (R ++ O))) w' ∧ (g = true → ∃ g52, ρ 52 = .slice (some ⟨g52, 0, none⟩) 1 1 ∧ R52 = [.row (some ⟨g52, 0, none⟩) 1 1 39 3 [.bool (nR y).neg, .string (nR y).br, .int .i64 (nR y).e]]))
       (J := fun ρ w' => ρ 10 = .pointer (some ⟨b10, 0, none⟩) ∧ ∃ (A3 : Option Addr) (k3 : Nat), ρ 53 = .slice A3 (bs.length + 1) k3 ∧ Hp w (.row A3 (bs.length + 1) k3 39 3 (a9 NR.cells (Y.map nR) ++ [.bool (nR y).neg, .string (nR y).br, .int .i64 (nR y).e]) :: .blk b10 26 [.slice A1 bs.length k1] (0, 0) :: .blk c1 3 [.int .i64 ((d + 1 : Nat) : Int)] (0, 0) :: .blk c2 26 [.slice (some ac) (aw (fx.ns.take (i + 1))) a] (0, 0) :: .blk b9 95 [.func (.func 120) #[] #[.pointer (some ⟨b1, 0, none⟩), .pointer (some ⟨b3, 0, none⟩)]] (0, 0) :: .blk b3 39 [.bool (nR (1 - tq.d)).neg, .string (nR (1 - tq.d)).br, .int .i64 (nR (1 - tq.d)).e] (0, 0) :: .blk b1 39 [.bool tq.neg, .string tq.br, .int .i64 tq.e] (0, 0) :: .blk b4 39 [.bool false, .string (ByteArray.mk #[]), .int .i64 0] (0, 0) :: .blk b2 28 [.slice fx.A fx.n fx.a, .slice fx.B fx.m fx.b] (0, 0) :: (R ++ O)) w')
       (K := fun _ w' => ∃ (A3 : Option Addr) (k3 : Nat), Hp w (.row A3 (bs.length + 1) k3 39 3 (a9 NR.cells (Y.map nR) ++ [.bool (nR y).neg, .string (nR y).br, .int .i64 (nR y).e]) :: .blk b10 26 [.slice A3 (bs.length + 1) k3] (0, 0) :: .blk c1 3 [.int .i64 ((d + 1 : Nat) : Int)] (0, 0) :: .blk c2 26 [.slice (some ac) (aw (fx.ns.take (i + 1))) a] (0, 0) :: .blk b9 95 [.func (.func 120) #[] #[.pointer (some ⟨b1, 0, none⟩), .pointer (some ⟨b3, 0, none⟩)]] (0, 0) :: .blk b3 39 [.bool (nR (1 - tq.d)).neg, .string (nR (1 - tq.d)).br, .int .i64 (nR (1 - tq.d)).e] (0, 0) :: .blk b1 39 [.bool tq.neg, .string tq.br, .int .i64 tq.e] (0, 0) :: .blk b4 39 [.bool false, .string (ByteArray.mk #[]), .int .i64 0] (0, 0) :: .blk b2 28 [.slice fx.A fx.n fx.a, .slice fx.B fx.m fx.b] (0, 0) :: (R ++ O)) w')
       rfl rfl rfl rfl rfl rfl rfl (by kernel_rfl) (by kernel_rfl) (by kernel_rfl) (by kernel_rfl) (by kernel_rfl) (by kernel_rfl) (by kernel_rfl) (by kernel_rfl) (by kernel_rfl) (by kernel_rfl) (by kernel_rfl) (by kernel_rfl) (by kernel_rfl) (by kernel_rfl) ?s0 ?s1 ?s2 ?s3 ?s4 ?s5 ?s6 ?fin ?st
      case st => exact ⟨rfl, rfl, rfl, fun h => (by cases h), fun h => (by cases h), fun h => (by cases h), fun h => (by cases h), [], hst2, fun h => (by cases h)⟩
      case s0 =>
       rintro a b e g ρ w3 ⟨h9, h10, h11, -, h49, h50, h51, R52, hp, h52⟩
       have hp2 := hp.sub (List.sublist_append_right R52 _)
       refine bh aC.out h10 (hp2.cM (i := 1) (o := 0) rfl rfl) (by decide) (aa ?_)
       refine ⟨(bf _ (by decide) _).trans h9, (bf _ (by decide) _).trans h10, (bf _ (by decide) _).trans h11, fun _ => fJ _ _ _, fun h => (bf _ (by decide) _).trans (h49 h), fun h => (bf _ (by decide) _).trans (h50 h), fun h => (bf _ (by decide) _).trans (h51 h), R52, hp, fun h => ?_⟩
       obtain ⟨g52, h1, h2⟩ := h52 h
       exact ⟨g52, (bf _ (by decide) _).trans h1, h2⟩
      case s1 =>
       rintro c b ρ w3 ⟨h9, h10, h11, h48, -, h50, h51, R52, hp, h52⟩
       have hp2 := hp.sub (List.sublist_append_right R52 _)
       refine bh aC.out h9 (hp2.cM (i := 4) (o := 0) rfl rfl) (by decide) (aa ?_)
       exact ⟨(bf _ (by decide) _).trans h9, (bf _ (by decide) _).trans h10, (bf _ (by decide) _).trans h11, fun h => (bf _ (by decide) _).trans (h48 h), fun _ => fJ _ _ _, fun h => (bf _ (by decide) _).trans (h50 h), fun h => (by cases h), R52, hp, fun h => (by cases h)⟩
      case s2 =>
       rintro c a ρ w3 ⟨h9, h10, h11, h48, h49, -, h51, R52, hp, h52⟩
       refine aW rfl rfl (by decide) (kp h11) (aa ?_)
       exact ⟨(bf _ (by decide) _).trans h9, (bf _ (by decide) _).trans h10, (bf _ (by decide) _).trans h11, fun h => (bf _ (by decide) _).trans (h48 h), fun h => (bf _ (by decide) _).trans (h49 h), fun _ => fJ _ _ _, fun h => (by cases h), R52, hp, fun h => (by cases h)⟩
      case s3 =>
       rintro c ρ w3 ⟨h9, h10, h11, h48, h49, h50, -, R52, hp, h52⟩
       have hp2 := hp.sub (List.sublist_append_right R52 _)
       have hp3 : Hp w ([_, _, _, _, _, _, _, _, _] ++ R) w3 := hp2.sub (by repeat (first | exact List.sublist_append_left _ _ | apply List.Sublist.cons_cons))
       have hl3 := (hrd _ w3 hp3).part (qq.val * (d + 1)) (d + 1) hq1 (by omega)
       rw [oX] at hl3
       refine j2 (first := []) (cap := [_, _]) (hfo w3 (hT.hp hp2) hl3 (hp2.au (i := 6) (n := 3) rfl rfl) (hp2.au (i := 5) (n := 3) rfl rfl)) ar.out (h49 rfl) (congrArg (fun l => [] ++ (l ++ [_, _])) (aE (show ev ρ (Operand.tmp 50) = _ from h50 rfl) bz)) (by decide) ?_
       rintro e_ w5 ⟨rfl, hb_⟩
       refine ⟨_, rfl, aa ?_⟩
       exact ⟨(bf _ (by decide) _).trans h9, (bf _ (by decide) _).trans h10, (bf _ (by decide) _).trans h11, fun h => (bf _ (by decide) _).trans (h48 h), fun h => (bf _ (by decide) _).trans (h49 h), fun h => (bf _ (by decide) _).trans (h50 h), fun _ => fJ _ _ _, R52, hp.ext hb_, fun h => (by cases h)⟩
      case s4 =>
       rintro c ρ w3 ⟨h9, h10, h11, h48, h49, h50, h51, R52, hp, -⟩
       have hp2 := hp.sub (List.sublist_append_right R52 _)
       refine aZ hp2 (cs := [_, _, _]) aG.out aC.out (aK (show ev ρ (Operand.tmp 51) = _ from h51 rfl) bL) rfl rfl (by decide) (by decide) (by decide) rfl (by decide) ?_
       intro g52 w5 hp5
       refine aa ?_
       exact ⟨(bf _ (by decide) _).trans h9, (bf _ (by decide) _).trans h10, (bf _ (by decide) _).trans h11, fun h => (bf _ (by decide) _).trans (h48 h), fun h => (bf _ (by decide) _).trans (h49 h), fun h => (bf _ (by decide) _).trans (h50 h), fun h => (bf _ (by decide) _).trans (h51 h), [_], hp5, fun _ => ⟨g52, fJ _ _ _, rfl⟩⟩
      case s5 =>
       rintro ρ w3 ⟨h9, h10, h11, h48, h49, h50, h51, R52, hp, h52⟩
       obtain ⟨g52, h52', rfl⟩ := h52 rfl
       refine cI hp (i := 1) rfl (show ev ρ (Operand.tmp 48) = _ from h48 rfl) (show ev ρ (Operand.tmp 52) = _ from h52') (hp.aR (i := 0) rfl) aG.out aC.out rfl (by decide) (bT NR.one [nR y]) (by omega) (by omega) (by decide) ?_
       intro A3 k3 w5 hp5
       refine aa ⟨(bf _ (by decide) _).trans h10, A3, k3, fJ _ _ _, ?_⟩
       exact hp5.sub (List.sublist_cons_self _ _)
      case s6 =>
       rintro ρ w3 ⟨h10, A3, k3, h53, hp⟩
       refine qL hp h10 (i := 1) rfl h53 rfl aC.out rfl (by simp) rfl ?_
       intro w5 hp5
       exact aa ⟨A3, k3, hp5⟩
      case fin =>
       rintro ρ ws ⟨A3, k3, hh⟩
       refine aV ?_
       subst hO
       obtain ⟨gr, rfl⟩ := hh.dn (i := 0) rfl (by omega)
       have hkeep := Hp.zK (T' := _ :: _ :: _ :: _ :: _ :: _ :: _ :: _ :: R) hh0 (hcel _ _ _ _ _) hh rfl rfl
       have el : (bs ++ [qq]).length = bs.length + 1 := by simp
       refine ⟨hkeep, ⟨by rw [hh.cM (i := 3) (o := 0) rfl rfl, hh0.cM (i := 3) (o := 0) rfl rfl], by rw [hh.cM (i := 2) (o := 0) rfl rfl, hh0.cM (i := 2) (o := 0) rfl rfl]⟩, Y ++ [y], some ⟨gr, 0, none⟩, k3, ?_, ?_, ?_, hmk2.keeps hkeep, ?_⟩
       ·rw [el, List.length_append, hYl]; rfl
       ·intro x hx
        rcases List.mem_append.1 hx with hx | hx
        ·exact hYz x hx
        ·obtain rfl := List.mem_singleton.1 hx
         exact hfz.mono (by omega)
       ·intro h
        obtain ⟨h1, h2⟩ := oB h hbl
        rw [el, hYe h1, ← h2, bo hfa]
       ·rw [el, List.map_append, dx]
        exact hh.sub (by repeat (first | exact List.sublist_append_left _ _ | apply List.Sublist.cons_cons))
     case done =>
      rintro D bs W hD2 rfl ⟨Y, A1, k1, hYl, hYz, hYe, hmk2, hh0⟩ hDo
      have hA2 := hYe (by rw [List.take_of_length_le (Nat.le_refl _)])
      rw [List.take_of_length_le (by rw [l6, List.length_finRange]; exact Nat.le_refl _)] at hA2
      rw [List.length_finRange] at hh0
      subst hA2
      have hmk3 := hmk2.cons hmlt hh.size hD2 hDo
      have hroom := hh0.g9 (i := 0) rfl
      replace hh := hh0.zw (hcel _ _ _ _ _) hmk3
      simp only [List.cons_append, List.nil_append] at hh
      refine qT fun D_ => ?_
      refine ak ?_
      refine bI hh 1 ?_
      refine aL (aD ?_)
      refine zC ?_
      refine qT fun D_ => ?_
      refine ak (mI ?_)
      refine eu (aI (aD ?_))
      refine wh ?_
      replace hh := hh.sub (List.Sublist.cons_cons _ (List.Sublist.cons _ (List.Sublist.cons _ (List.Sublist.cons _ (List.Sublist.cons _ (List.Sublist.cons _ (List.Sublist.cons _ (List.Sublist.cons_cons _ (List.Sublist.cons_cons _ (List.Sublist.refl _))))))))))
      replace hh := hh.perm (List.perm_middle (l₁ := [_, _]))
      simp only [List.cons_append, List.nil_append] at hh
      replace hh := hh.perm (List.perm_middle (l₁ := [_, _]))
      simp only [List.cons_append, List.nil_append] at hh
      refine ⟨⟨i, (i : Int) - 1, iD d tq.d (aw (fx.ns.take i)) X, A1, k1, .row A1 (aw (fx.ns.take i)) k1 39 3 (a9 NR.cells ((iD d tq.d (aw (fx.ns.take i)) X).map nR)) :: R, by omega, rfl, rfl, rfl, hroom, l6 _ _ _ _, fun x hx => (wC hXz vt.sz ht1 x hx).mono (by omega), ?_, fun x hx => ?_, fun H w1 h1 => ?_, hh⟩, ?_, ?_⟩
      ·rw [← sk X hd (by rw [List.getElem?_map, htq]; rfl)]
       exact hXe
      ·rcases List.mem_cons.1 hx with rfl | hx
       ·rfl
       ·exact hcR x hx
      ·exact mC (h1.own (.row A1 (aw (fx.ns.take i)) k1 39 3 (a9 NR.cells ((iD d tq.d (aw (fx.ns.take i)) X).map nR))) (List.mem_append_right _ List.mem_cons_self))
      ·show ((i : Int) - 1 + 1).toNat < ((i : Int) + 1).toNat
       omega
      ·(repeat (first | exact ay _ _ _ | refine az rfl ?_ | refine av rfl ?_))
  ·have hE : wZ fx m2 = 1 := by unfold wZ; rw [if_neg (by omega), if_pos h1]
   rw [hev0 (by rw [hE]; decide), hE]
   refine jL (N := 58) (l := [.agg #[.slice fx.A fx.n fx.a, .slice fx.B fx.m fx.b], .slice L m2 c2]) Tryz.func29 rfl rfl (by simp) ?_
   refine eR fun D_ => ?_
   refine ak ?_
   refine cW hh [_,_] ?_
   intro b2 w2 hh
   refine bY hh ?_
   intro b4 w4 hh
   refine aI (aa ?_)
   refine eR fun D_ => ?_
   refine sr ?_
   refine cD hh 1 [_,_] ?_
   refine bF hh (hck _ (hT.hp hh) hh.below) rfl ?_
   intro w13 hh
   refine aI (aa (sr (mI ?_)))
   refine dR (aa (cF (al (ai ?_))))
   refine eR fun D_ => ?_
   refine sr (mL (a6 (bG ?_)))
   refine bI hh 1 ?_
   refine a6 ?_
   refine dR (aa (cT (sr ?_)))
   refine fS [_,_,_] ?_
   refine bK hh 0 [_,_,_] ?_
   intro ws hh
   replace hh : Hp _ (.blk _ _ [_, _, _] _ :: _) _ := hh
   refine aI (aa (aq (a8 ?_)))
   refine jU (M := []) (vs := [.agg #[.bool false, .string (ByteArray.mk #[]), .int .i64 0], .int .i64 1]) hh (.inr rfl) rfl ?_
   intro w9 hh
   refine ⟨(aO rfl (aP (vs := [_, _, _]) aC.out (hh.au (i := 0) (n := 3) rfl rfl) rfl) (dP (fm rfl) bA)), ?_⟩
   exact ⟨rfl, hh.below⟩
 ·have hE : wZ fx m2 = fx.e := by unfold wZ; rw [if_pos h0]
  rw [hev0 (by rw [hE]; exact h0), hE]
  refine jL (N := 58) (l := [.agg #[.slice fx.A fx.n fx.a, .slice fx.B fx.m fx.b], .slice L m2 c2]) Tryz.func29 rfl rfl (by simp) ?_
  refine eR fun D_ => ?_
  refine ak ?_
  refine cW hh [_,_] ?_
  intro b2 w2 hh
  refine bY hh ?_
  intro b4 w4 hh
  refine aI (aa ?_)
  refine eR fun D_ => ?_
  refine sr ?_
  refine cD hh 1 [_,_] ?_
  refine bF hh (hck _ (hT.hp hh) hh.below) rfl ?_
  intro w13 hh
  refine aI (aa (sr (mI ?_)))
  refine dR (aa (cT (sr ?_)))
  refine fS [_,_,_] (mI ?_)
  refine bK hh 0 [_,_,_] ?_
  intro ws hh
  replace hh : Hp _ (.blk _ _ [_, _, _] _ :: _) _ := hh
  refine aI (aa (aq (a8 ?_)))
  refine jU (M := []) (vs := [.agg #[.bool false, .string (ByteArray.mk #[]), .int .i64 0], .int .i64 fx.e]) hh (.inr rfl) rfl ?_
  intro w9 hh
  refine ⟨(aO rfl (aP (vs := [_, _, _]) aC.out (hh.au (i := 0) (n := 3) rfl rfl) rfl) (dP (fm rfl) bA)), ?_⟩
  exact ⟨rfl, hh.below⟩
end Go.Proofs.YtioilmppidlbnaaGreatDoor
/- Plain laws: the values of forms that are raised, added, multiplied. No program in sight. -/
namespace Go.Proofs.YtioilmppidlbnaaGreatDoor
end Go.Proofs.YtioilmppidlbnaaGreatDoor
/- The walks through ogeelaw14's own helpers: what is more than is reckoned with. -/
namespace Go.Proofs.YtioilmppidlbnaaGreatDoor
open Go.RowKit
def BS (a : NR) : Bool := decide ((8 : Int) < a.br.size ∨ a.e < -60 ∨ 60 < a.e)
def FX.small (f : FX) : Prop := f.qf 124 ∧ f.m ≤ 60 ∧ f.n ≤ 20
end Go.Proofs.YtioilmppidlbnaaGreatDoor
/- The walks through ogeelaw14's examples. -/
namespace Go.Proofs.YtioilmppidlbnaaGreatDoor
open Go.RowKit
abbrev Ck (l : List Int) (A : Option Addr) (a : Nat) (B : Option Addr) (b : Nat) : FX := ⟨A, 1, a, B, l.length, b, [(l.length : Int) - 1], l.map fun z : Int => nR (z : Dyadic)⟩
def Bv (ds : List Int) (cs : List NR) : VP := fun v W => ∃ g : FX, v = .agg #[.slice g.A g.n g.a, .slice g.B g.m g.b] ∧ g.ds = ds ∧ g.cs = cs ∧ g.at_ W
end Go.Proofs.YtioilmppidlbnaaGreatDoor
/- The walk through ogeelaw14.awake. -/
namespace Go.Proofs.YtioilmppidlbnaaGreatDoor
open Go.RowKit
end Go.Proofs.YtioilmppidlbnaaGreatDoor
/- The value of a form that is told without an error. -/
namespace Go.Proofs.YtioilmppidlbnaaGreatDoor
open Go.RowKit
end Go.Proofs.YtioilmppidlbnaaGreatDoor
/- What the law CastMeets rests on: the faces of the parts, their values; contracts for a part. -/
namespace Go.Proofs.YtioilmppidlbnaaGreatDoor
open Go.RowKit
theorem oV {ns pre suf : List Nat} {d t : Nat} (hns : ns = pre ++ d :: suf) (ht : t ≤ d) (ys : List Dyadic) : eV (aw suf) d t ys (aw ns) = jx suf.reverse pre.reverse d t ys := by
 have h1 : aw suf = aw suf.reverse := (eY suf).symm
 have h2 : aw ns = aw (suf.reverse ++ d :: pre.reverse) := by rw [← eY ns, hns, List.reverse_append, List.reverse_cons, List.append_assoc]; rfl
 unfold eV jx
 rw [h1, h2, rf _ _ _ _ ht]
theorem se {ns : List Nat} {a d : Nat} (hd : ns[a]? = some d) (s : Dyadic) (xs : List Dyadic) :
  eV (aw (ns.drop (a + 1))) d (d * 0) (eI false s ns a xs) (aw ns) = eV (aw (ns.drop (a + 1))) d (d * 0) xs (aw ns) ∧
  eV (aw (ns.drop (a + 1))) d (d * 1) (eI false s ns a xs) (aw ns) = eV (aw (ns.drop (a + 1))) d (d * 0) (eI true s ns a xs) (aw ns) ∧
  eV (aw (ns.drop (a + 1))) d (d * 1) (eI true s ns a xs) (aw ns) = eV (aw (ns.drop (a + 1))) d (d * 1) xs (aw ns) := by
 have ha := (List.getElem?_eq_some_iff.1 hd).1
 obtain ⟨pre, dd, suf, hns, hap, hgd, hsl⟩ := ki ha
 have hdd : dd = d := by rw [← hgd, List.getD_eq_getElem?_getD, hd]; rfl
 subst hdd
 have hr : ns.reverse = suf.reverse ++ dd :: pre.reverse := by rw [hns, List.reverse_append, List.reverse_cons, List.append_assoc]; rfl
 have hdrop : ns.drop (a + 1) = suf := by rw [hns, hap, ← List.drop_drop, List.drop_left]; rfl
 have er : suf.reverse.length = suf.length := List.length_reverse
 have e0 := fun ys => oV hns (show dd * 0 ≤ dd by omega) ys
 have e1 := fun ys => oV hns (show dd * 1 ≤ dd by omega) ys
 rw [hdrop]
 simp only [e0, e1]
 unfold eI
 rw [hsl, hgd, hr, ← er]
 simp only [Nat.mul_zero, Nat.mul_one, Bool.false_eq_true, if_false, if_true]
 exact ⟨vw s xs, u7 s xs, vT s xs⟩
theorem qe {α : Type} (l : List α) {a : Nat} (h : a < l.length) (x : α) : (l.set a x).reverse = l.reverse.set (l.length - 1 - a) x := by
 refine List.ext_getElem? fun i => ?_
 by_cases hi : i < l.length
 ·rw [List.getElem?_reverse (by rw [List.length_set]; exact hi), List.getElem?_set, List.getElem?_set, List.length_set, List.length_reverse, List.getElem?_reverse hi]
  by_cases e : a = l.length - 1 - i
  ·rw [if_pos e, if_pos (by omega), if_pos (by omega), if_pos (by omega)]
  ·rw [if_neg e, if_neg (by omega)]
 ·rw [List.getElem?_eq_none (by simp; omega), List.getElem?_eq_none (by simp; omega)]
theorem oA {ns : List Nat} {a : Nat} (ha : a < ns.length) (s t : Dyadic) (xs ts : List Dyadic) (hl : ts.length = ns.length) :
  gW ns.reverse (eI false s ns a xs) (ts.set a t).reverse = gW ns.reverse xs (ts.set a (s * t)).reverse ∧
  gW ns.reverse (eI true s ns a xs) (ts.set a t).reverse = gW ns.reverse xs (ts.set a (s + (1 - s) * t)).reverse := by
 have hg : ns.reverse.getD (ns.length - 1 - a) 0 = ns.getD a 0 := by
  rw [List.getD_eq_getElem?_getD, List.getD_eq_getElem?_getD, List.getElem?_reverse (by omega)]
  congr 2
  omega
 rw [qe _ (by omega), qe _ (by omega), qe _ (by omega), hl]
 unfold eI
 simp only [Bool.false_eq_true, if_false, if_true]
 have la : ns.length - 1 - a < ns.reverse.length := by rw [List.length_reverse]; omega
 have ll : ts.reverse.length = ns.reverse.length := by rw [List.length_reverse, List.length_reverse, hl]
 exact ⟨oO la ll fun i hi => by rw [hg] at hi ⊢; exact yi s t hi, oO la ll fun i hi => by rw [hg] at hi ⊢; exact xM s t hi⟩
theorem j0 (p : FX) (D : List Nat) (ys : List Dyadic) (V : Dyadic) (L : Option Addr) (m2 c2 : Nat) (tn : List NR) (k q B : Nat) (w : World) (hT : eN w) (o : Out 0 D ys p) (hp : p.at_ w) (hcap : p.m ≤ p.b) (hS : Sl w L m2 3 (a9 NR.cells tn)) (hv : ∀ s ∈ tn, ke q s s.d ∧ Sz q (1 - s.d)) (hq : q ≤ 2000)
  (h12 : D.length ≤ 12) (h127 : ∀ d ∈ D, d ≤ 127) (hB : ∀ d ∈ D, d ≤ B) (hyl : ys.length = aw D) (hc : aw D ≤ 4096) (hm : m2 = D.length) (hz : ∀ x ∈ ys, Sz k x) (hk : k + 12 * (2 + 2 * (q * B) + (B + 1)) ≤ 500000) (hV : gW D.reverse ys (tn.map NR.d).reverse = V) :
  Calls Tryz.prog 29 #[.agg #[.slice p.A p.n p.a, .slice p.B p.m p.b], .slice L m2 c2] w fun r w' => r = .returned (.tuple #[.agg #[.bool (nR V).neg, .string (nR V).br, .int .i64 (nR V).e], .int .i64 0]) ∧ Below w.heap.size w w' := by
 obtain ⟨e1, e2, e3⟩ := vu o h12 h127 hyl hc
 have hpl := hp.ln
 have hpn : p.n = D.length := by rw [← hpl.1, o.ds]; show (cm D).length = _; rw [jf]
 have hlt := hS.eb NR.len (by decide)
 have hlim : p.qf k := ⟨by omega, by
  rw [← hpl.2, o.cs]
  show (ys.map nR).length ≤ _
  rw [List.length_map]
  omega, fun c h => by
  rw [o.cs] at h
  obtain ⟨y, hy, rfl⟩ := List.mem_map.1 (show c ∈ ys.map nR from h)
  have := hz y hy
  exact ⟨this.ok (by omega), by rw [dw]; exact this⟩⟩
 have hE : wZ p m2 = 0 := by unfold wZ; rw [if_neg (fun h => h e1), if_neg (by omega)]
 have hVV : xC p tn = V := by unfold xC; rw [hlt, hE, if_pos rfl, e2, e3, hV]
 have hG : p.e = 0 → ∀ d ∈ p.ns, 2 + 2 * (q * d) + (d + 1) ≤ 2 + 2 * (q * B) + (B + 1) := fun _ d hd => by
  rw [e2] at hd
  have h1 := hB d hd
  have := Nat.mul_le_mul_left q h1
  omega
 have hkk : k + p.n * (2 + 2 * (q * B) + (B + 1)) ≤ 500000 := by
  have := Nat.mul_le_mul_right (2 + 2 * (q * B) + (B + 1)) (show p.n ≤ 12 by omega)
  omega
 have := rh p L m2 c2 tn k q (2 + 2 * (q * B) + (B + 1)) w hT hp hlim hcap hS hv hq hG hkk
 rw [hE, hVV] at this
 exact this
theorem wR {fa : FX} (h0 : fa.e = 0) (hs : fa.oe) : Out 0 fa.ns (fa.cs.map NR.d) fa := by
 obtain ⟨hdeg, hnum, -, -, -, -⟩ := FX.fv h0
 exact ⟨hdeg, hnum, by have := hs.1.z8; omega, by have := hs.1.Ak; omega⟩
theorem lO (g : FX) (D : List Nat) (ys : List Dyadic) (a d sd k : Nat) (w : World) (hT : eN w) (o : Out 0 D ys g) (hg : g.at_ w) (hcap : g.n ≤ g.a) (h12 : D.length ≤ 12) (h127 : ∀ d ∈ D, d ≤ 127) (hyl : ys.length = aw D) (hc : aw D ≤ 4096) (hd : D[a]? = some d) (hz : ∀ x ∈ ys, Sz k x) (hk : k ≤ 300000) (hsd : sd = 0 ∨ sd = 1) :
  Calls Tryz.prog 45 #[.agg #[.slice g.A g.n g.a, .slice g.B g.m g.b], .int .i64 a, .int .i64 sd] w fun r w' => ∃ p : FX, p.ds = (cm D).eraseIdx a ∧ p.cs = (eV (aw (D.drop (a + 1))) d (d * sd) ys (aw D)).map nR ∧ p.n ≤ 100000 ∧ p.m ≤ 1000000 ∧
   r = .returned (.tuple #[.agg #[.slice p.A p.n p.a, .slice p.B p.m p.b], .int .i64 0]) ∧ Hp w [p.gp, p.fQ] w' := by
 obtain ⟨e1, e2, e3⟩ := vu o h12 h127 hyl hc
 have hgl := hg.ln
 have gn : g.n = D.length := by rw [← hgl.1, o.ds]; show (cm D).length = _; rw [jf]
 have gm : g.m = aw D := by rw [← hgl.2, o.cs]; show (ys.map nR).length = _; rw [List.length_map, hyl]
 have hlim : g.qf k := ⟨by omega, by omega, fun z hz1 => by
  rw [o.cs] at hz1
  obtain ⟨y, hy, rfl⟩ := List.mem_map.1 (show z ∈ ys.map nR from hz1)
  have := hz y hy
  exact ⟨this.ok (by omega), by rw [dw]; exact this⟩⟩
 have := tv g a d sd k w hT hg hlim hcap e1 (by rw [e2]; exact hd) hsd
 rw [e2, e3, gm, o.ds] at this
 rw [gm]
 exact this
end Go.Proofs.YtioilmppidlbnaaGreatDoor
/- The walk through the law CastMeets. -/
namespace Go.Proofs.YtioilmppidlbnaaGreatDoor
open Go.RowKit
theorem ti (z : Int) (h : z.natAbs < 256) : Sz 24 (z : Dyadic) := ve (e := 0) h (by decide) (by decide)
def AZ (m : Nat) : NR := nR ((((m : Int) + 1 : Int) : Dyadic) * cz (-2))
theorem sP {q : Nat} {x : Dyadic} (h : Sz q x) (h1 : 1 ≤ q) (hq : q ≤ 1999) : ke (q + 1) (nR x) (nR x).d ∧ Sz (q + 1) (1 - (nR x).d) := by
 rw [dw]
 exact ⟨ke.of (h.mono (by omega)) (by omega), (Sz.one.mono h1).sub h⟩
theorem qx {q a : Nat} {T : List NR} {x : NR} (h : ∀ s ∈ T, ke q s s.d ∧ Sz q (1 - s.d)) (hx : ke q x x.d ∧ Sz q (1 - x.d)) : ∀ s ∈ T.set a x, ke q s s.d ∧ Sz q (1 - s.d) := fun s hs => by
 rcases List.mem_or_eq_of_mem_set hs with h1 | rfl
 ·exact h s h1
 ·exact hx
theorem ke.up {q k : Nat} {s : NR} {x : Dyadic} (h : ke q s x) (hk : q ≤ k) : ke k s x := ⟨h.ok, h.br, h.d, h.sz.mono hk⟩
theorem zi {T : List NR} {n : Nat} (hT : T = (List.range n).map AZ) (hn : n ≤ 20) : ∀ s ∈ T, ke 260 s s.d ∧ Sz 260 (1 - s.d) := fun s hs => by
 rw [hT] at hs
 obtain ⟨m, hm, rfl⟩ := List.mem_map.1 hs
 have := List.mem_range.1 hm
 have h34 : Sz 34 ((((m : Int) + 1 : Int) : Dyadic) * cz (-2)) := (ti ((m : Int) + 1) (by omega)).mul (Sz.two (k := 2) (by decide) (by decide))
 exact sP (q := 259) (h34.mono (by omega)) (by omega) (by omega)
set_option maxRecDepth 10000 in
theorem mv (fa : FX) (ax : Int) (c e : NR) (w : World) (hT : eN w) (hf : fa.at_ w) (hcap : fa.n ≤ fa.a) (hcapm : fa.m ≤ fa.b) :
  Calls Tryz.prog 10 #[.agg #[.slice fa.A fa.n fa.a, .slice fa.B fa.m fa.b], .int .i64 ax, .agg #[.bool c.neg, .string c.br, .int .i64 c.e], .agg #[.bool e.neg, .string e.br, .int .i64 e.e]] w fun r w' => r = .returned (.bool true) ∧ Below w.heap.size w w' := by
 have hh := Hp.start w
 refine aj (N := 247) (l := [.agg #[.slice fa.A fa.n fa.a, .slice fa.B fa.m fa.b], .int .i64 ax, .agg #[.bool c.neg, .string c.br, .int .i64 c.e], .agg #[.bool e.neg, .string e.br, .int .i64 e.e]]) Tryz.func10 rfl rfl (by simp) ?_
 refine sr ?_
 refine cW hh [_,_] ?_
 intro b4 w4 hh
 refine cW hh [_,_,_] ?_
 intro b6 w6 hh
 refine cW hh [_,_,_] ?_
 intro b7 w7 hh
 refine aB (aa (ah (sr ?_)))
 refine cD hh 2 [_,_] ?_
 refine aJ (p8 fa _ (hf.ext hh.below)) ar.out rfl (by decide) ?_
 rintro e_ w37 ⟨p1, rfl, hs, hb_⟩
 refine ⟨_, rfl, ?_⟩
 replace hh := hh.ext hb_
 cases p1 with
 | true =>
  refine mB ?_
  first | refine gS ?_ | (refine gT ?_; refine cD hh 1 [_,_,_] ?_) | refine gV ?_
  first | refine cf (by decide) rfl rfl (by decide) ?_ | refine wl_guard_skipV (by decide) rfl rfl ?_
  first | refine dq ?_ | refine dr ?_
  refine mB ?_
  first | refine gS ?_ | (refine gT ?_; refine cD hh 0 [_,_,_] ?_) | refine gV ?_
  first | refine cf (by decide) rfl rfl (by decide) ?_ | refine wl_guard_skipV (by decide) rfl rfl ?_
  first | refine dq ?_ | refine dr ?_
  refine aa (cT (sr ?_))
  refine bF hh (fG _ (hT.hp hh)) rfl ?_
  intro w46 hh
  refine aB (aa (aq (a8 ?_)))
  refine cC ?_
  exact ⟨rfl, hh.below⟩
 | false =>
  have hs := hs rfl
  have hfc := fun w1 => ku c w1
  refine mB ?_
  first | refine gS ?_ | (refine gT ?_; refine cD hh 1 [_,_,_] ?_) | refine gV ?_
  cases hfr : nV c with
  | true =>
   rw [hfr] at hfc
   refine a7 rfl rfl ?_
   refine bF hh (hfc _) rfl ?_
   intro w40 hh
   first | refine dq ?_ | refine dr ?_
   refine mB ?_
   first | refine gS ?_ | (refine gT ?_; refine cD hh 0 [_,_,_] ?_) | refine gV ?_
   first | refine cf (by decide) rfl rfl (by decide) ?_ | refine wl_guard_skipV (by decide) rfl rfl ?_
   first | refine dq ?_ | refine dr ?_
   refine aa (cT (sr ?_))
   refine bF hh (fG _ (hT.hp hh)) rfl ?_
   intro w46 hh
   refine aB (aa (aq (a8 ?_)))
   refine cC ?_
   exact ⟨rfl, hh.below⟩
  | false =>
   rw [hfr] at hfc
   obtain ⟨vs, hs1⟩ := rv hfr
   have hfe := fun w1 => ku e w1
   refine a7 rfl rfl ?_
   refine bF hh (hfc _) rfl ?_
   intro w40 hh
   first | refine dq ?_ | refine dr ?_
   refine mB ?_
   first | refine gS ?_ | (refine gT ?_; refine cD hh 0 [_,_,_] ?_) | refine gV ?_
   cases hfr2 : nV e with
   | true =>
    rw [hfr2] at hfe
    refine a7 rfl rfl ?_
    refine bF hh (hfe _) rfl ?_
    intro w44 hh
    first | refine dq ?_ | refine dr ?_
    refine aa (cT (sr ?_))
    refine bF hh (fG _ (hT.hp hh)) rfl ?_
    intro w46 hh
    refine aB (aa (aq (a8 ?_)))
    refine cC ?_
    exact ⟨rfl, hh.below⟩
   | false =>
    rw [hfr2] at hfe
    obtain ⟨vt, ht1⟩ := rv hfr2
    refine a7 rfl rfl ?_
    refine bF hh (hfe _) rfl ?_
    intro w44 hh
    obtain ⟨hsl, hsm, hsn, hsd⟩ := id hs
    have hk := vO hs 124 125 (by decide)
    have hc1 := fun w1 hT1 hb => wA fa ax c c.d 124 125 w1 hT1 (hf.ext hb) hsl hcap vs hs1 (by decide) hk
    have hln := hf.ln
    by_cases hE1 : dX fa ax = 0
    ·obtain ⟨h0, hx0, hx1⟩ := lW hE1
     obtain ⟨a, rfl⟩ : ∃ a : Nat, ax = a := ⟨ax.toNat, by omega⟩
     rw [hE1] at hc1
     rw [Int.toNat_natCast] at hc1
     obtain ⟨hdeg, hnum, h12, h127, hcnt, hmax⟩ := FX.fv h0
     have hnl : fa.ns.length = fa.n := by unfold FX.ns; rw [List.length_map]; exact hln.1
     obtain ⟨d, hd⟩ := aU (l := fa.ns) (k := a) (by omega)
     have h6 := oz hs h0
     have hog := wR h0 hs
     have zx : ∀ x ∈ fa.cs.map NR.d, Sz 124 x := fun x h => by
      obtain ⟨z, hz, rfl⟩ := List.mem_map.1 h
      exact (hs.1.num z hz).2
     have zlo : ∀ x ∈ eI false c.d fa.ns a (fa.cs.map NR.d), Sz 1884 x := qc (by omega) h6 (by decide) (by rw [List.length_map, hcnt]) vs.sz hs1 zx
     have zup : ∀ x ∈ eI true c.d fa.ns a (fa.cs.map NR.d), Sz 1884 x := qc (by omega) h6 (by decide) (by rw [List.length_map, hcnt]) vs.sz hs1 zx
     have llo : (eI false c.d fa.ns a (fa.cs.map NR.d)).length = aw fa.ns := kH _ _ _ _ _
     have lup : (eI true c.d fa.ns a (fa.cs.map NR.d)).length = aw fa.ns := kH _ _ _ _ _
     have lxs : (fa.cs.map NR.d).length = aw fa.ns := by rw [List.length_map, hcnt]
     obtain ⟨m1, m2, m3⟩ := se hd c.d (fa.cs.map NR.d)
     have hfc0 := fun sd hsd w1 hT1 hb => lO fa fa.ns _ a d sd 124 w1 hT1 hog (hf.ext hb) hcap h12 h127 lxs hmax hd zx (by decide) hsd
     have hlo := oA (ns := fa.ns) (a := a) (by omega) c.d e.d (fa.cs.map NR.d)
     first | refine dq ?_ | refine dr ?_
     refine aa (cF (al (ai (sr ?_))))
     refine cD hh 2 [_,_] (mI ?_)
     refine cD hh 1 [_,_,_] ?_
     refine aJ (hc1 _ (hT.hp hh) hh.below) ar.out rfl (by decide) ?_
     rintro e_ w51 ⟨ga, gb, oga, ogb, rfl, h2⟩
     refine ⟨_, rfl, ?_⟩
     replace hh := hh.join h2
     simp only [List.cons_append, List.nil_append] at hh
     clear h2
     have hfc1 := fun sd hsd w1 hT1 hg hca => lO ga fa.ns _ a d sd 1884 w1 hT1 oga hg hca h12 h127 llo hmax hd zlo (by decide) hsd
     have hfc2 := fun sd hsd w1 hT1 hg hca => lO gb fa.ns _ a d sd 1884 w1 hT1 ogb hg hca h12 h127 lup hmax hd zup (by decide) hsd
     refine mT ?_
     refine dY ?_
     refine dY ?_
     refine dY ?_
     refine bY hh ?_
     intro b9 w9 hh
     refine bY hh ?_
     intro b10 w10 hh
     refine bK hh 1 [_,_] ?_
     intro ws hh
     replace hh : Hp _ (_ :: .blk _ _ [_, _] _ :: _) _ := hh
     refine bK hh 0 [_,_] ?_
     intro ws hh
     replace hh : Hp _ (.blk _ _ [_, _] _ :: _) _ := hh
     refine aI (aa (ah (sr (mI ?_))))
     refine dR (aa ?_)
     refine cF (al (ai (sr ?_)))
     refine cD hh 8 [_,_] (mI ?_)
     refine aJ (hfc0 0 (.inl rfl) _ (hT.hp hh) hh.below) ar.out rfl (by decide) ?_
     rintro e_ w71 ⟨lo, dlo, clo, nlo, mlo, rfl, h2⟩
     refine ⟨_, rfl, ?_⟩
     replace hh := hh.join h2
     simp only [List.cons_append, List.nil_append] at hh
     clear h2
     refine mT ?_
     refine dY ?_
     refine dY ?_
     refine bY hh ?_
     intro b12 w12 hh
     refine bK hh 0 [_,_] ?_
     intro ws hh
     replace hh : Hp _ (.blk _ _ [_, _] _ :: _) _ := hh
     refine aI (aa (sr ?_))
     refine cD hh 11 [_,_] (mI ?_)
     refine aJ (hfc0 1 (.inr rfl) _ (hT.hp hh) hh.below) ar.out rfl (by decide) ?_
     rintro e_ w77 ⟨hi, dhi, chi, nhi, mhi, rfl, h2⟩
     refine ⟨_, rfl, ?_⟩
     replace hh := hh.join h2
     simp only [List.cons_append, List.nil_append] at hh
     clear h2
     refine mT ?_
     refine dY ?_
     refine dY ?_
     refine bY hh ?_
     intro b14 w14 hh
     refine bK hh 0 [_,_] ?_
     intro ws hh
     replace hh : Hp _ (.blk _ _ [_, _] _ :: _) _ := hh
     refine aI (aa (sr ?_))
     refine cD hh 7 [_,_] (mI ?_)
     refine aJ (hfc1 0 (.inl rfl) _ (hT.hp hh) (hh.dz (List.mem_of_getElem? (i := 11) rfl) (List.mem_of_getElem? (i := 10) rfl)) (hh.g9 (i := 10) rfl)) ar.out rfl (by decide) ?_
     rintro e_ w83 ⟨pw, dpw, cpw, npw, mpw, rfl, h2⟩
     refine ⟨_, rfl, ?_⟩
     replace hh := hh.join h2
     simp only [List.cons_append, List.nil_append] at hh
     clear h2
     refine mT ?_
     refine dY ?_
     refine dY ?_
     refine bY hh ?_
     intro b16 w16 hh
     refine bK hh 0 [_,_] ?_
     intro ws hh
     replace hh : Hp _ (.blk _ _ [_, _] _ :: _) _ := hh
     refine aI (aa (sr ?_))
     refine cD hh 10 [_,_] (mI ?_)
     refine aJ (hfc1 1 (.inr rfl) _ (hT.hp hh) (hh.dz (List.mem_of_getElem? (i := 14) rfl) (List.mem_of_getElem? (i := 13) rfl)) (hh.g9 (i := 13) rfl)) ar.out rfl (by decide) ?_
     rintro e_ w89 ⟨px, dpx, cpx, npx, mpx, rfl, h2⟩
     refine ⟨_, rfl, ?_⟩
     replace hh := hh.join h2
     simp only [List.cons_append, List.nil_append] at hh
     clear h2
     refine mT ?_
     refine dY ?_
     refine dY ?_
     refine bY hh ?_
     intro b18 w18 hh
     refine bK hh 0 [_,_] ?_
     intro ws hh
     replace hh : Hp _ (.blk _ _ [_, _] _ :: _) _ := hh
     refine aI (aa (sr ?_))
     refine cD hh 12 [_,_] (mI ?_)
     refine aJ (hfc2 0 (.inl rfl) _ (hT.hp hh) (hh.dz (List.mem_of_getElem? (i := 14) rfl) (List.mem_of_getElem? (i := 15) rfl)) (hh.g9 (i := 15) rfl)) ar.out rfl (by decide) ?_
     rintro e_ w95 ⟨py, dpy, cpy, npy, mpy, rfl, h2⟩
     refine ⟨_, rfl, ?_⟩
     replace hh := hh.join h2
     simp only [List.cons_append, List.nil_append] at hh
     clear h2
     refine mT ?_
     refine dY ?_
     refine dY ?_
     refine bY hh ?_
     intro b20 w20 hh
     refine bK hh 0 [_,_] ?_
     intro ws hh
     replace hh : Hp _ (.blk _ _ [_, _] _ :: _) _ := hh
     refine aI (aa (sr ?_))
     refine cD hh 15 [_,_] (mI ?_)
     refine aJ (hfc2 1 (.inr rfl) _ (hT.hp hh) (hh.dz (List.mem_of_getElem? (i := 17) rfl) (List.mem_of_getElem? (i := 18) rfl)) (hh.g9 (i := 18) rfl)) ar.out rfl (by decide) ?_
     rintro e_ w101 ⟨pz, dpz, cpz, npz, mpz, rfl, h2⟩
     refine ⟨_, rfl, ?_⟩
     replace hh := hh.join h2
     simp only [List.cons_append, List.nil_append] at hh
     clear h2
     refine mT ?_
     refine dY ?_
     refine dY ?_
     refine bY hh ?_
     intro b22 w22 hh
     refine bK hh 0 [_,_] ?_
     intro ws hh
     replace hh : Hp _ (.blk _ _ [_, _] _ :: _) _ := hh
     refine aI (aa (ah (sr (mI ?_))))
     refine dR (mB ?_)
     first | refine gS ?_ | (refine gT ?_; refine mI ?_) | refine gV ?_
     first | refine gS ?_ | (refine gT ?_; refine dR ?_) | refine gV ?_
     first | refine dq ?_ | refine dr ?_
     refine mB ?_
     first | refine gS ?_ | (refine gT ?_; refine mI ?_) | refine gV ?_
     first | refine gS ?_ | (refine gT ?_; refine dR ?_) | refine gV ?_
     first | refine dq ?_ | refine dr ?_
     refine mB ?_
     first | refine gS ?_ | (refine gT ?_; refine mI ?_) | refine gV ?_
     first | refine gS ?_ | (refine gT ?_; refine dR ?_) | refine gV ?_
     first | refine dq ?_ | refine dr ?_
     refine mB ?_
     first | refine gS ?_ | (refine gT ?_; refine mI ?_) | refine gV ?_
     first | refine gS ?_ | (refine gT ?_; refine dR ?_) | refine gV ?_
     first | refine dq ?_ | refine dr ?_
     refine mB ?_
     first | refine gS ?_ | (refine gT ?_; refine mI ?_) | refine gV ?_
     first | refine gS ?_ | (refine gT ?_; refine dR ?_) | refine gV ?_
     first | refine dq ?_ | refine dr ?_
     refine mB ?_
     first | refine gS ?_ | (refine gT ?_; refine cD hh 15 [_,_] ?_) | refine gV ?_
     first | refine gS ?_ | (refine gT ?_; refine cD hh 9 [_,_] ?_) | refine gV ?_
     refine a7 rfl rfl ?_
     refine bF hh (dy lo pw _ (hh.dz (List.mem_of_getElem? (i := 16) rfl) (List.mem_of_getElem? (i := 17) rfl)) (hh.dz (List.mem_of_getElem? (i := 10) rfl) (List.mem_of_getElem? (i := 11) rfl)) ⟨by rw [dlo, dpw], by rw [clo, cpw, m1]⟩ nlo mlo) rfl ?_
     intro w129 hh
     first | refine gS ?_ | (refine gT ?_; refine pU ?_) | refine gV ?_
     first | refine dq ?_ | refine dr ?_
     refine mB ?_
     first | refine gS ?_ | (refine gT ?_; refine cD hh 6 [_,_] ?_) | refine gV ?_
     first | refine gS ?_ | (refine gT ?_; refine cD hh 3 [_,_] ?_) | refine gV ?_
     refine a7 rfl rfl ?_
     refine bF hh (dy px py _ (hh.dz (List.mem_of_getElem? (i := 7) rfl) (List.mem_of_getElem? (i := 8) rfl)) (hh.dz (List.mem_of_getElem? (i := 4) rfl) (List.mem_of_getElem? (i := 5) rfl)) ⟨by rw [dpx, dpy], by rw [cpx, cpy, m2]⟩ npx mpx) rfl ?_
     intro w135 hh
     first | refine gS ?_ | (refine gT ?_; refine pU ?_) | refine gV ?_
     first | refine dq ?_ | refine dr ?_
     refine mB ?_
     first | refine gS ?_ | (refine gT ?_; refine cD hh 0 [_,_] ?_) | refine gV ?_
     first | refine gS ?_ | (refine gT ?_; refine cD hh 12 [_,_] ?_) | refine gV ?_
     refine a7 rfl rfl ?_
     refine bF hh (dy pz hi _ (hh.dz (List.mem_of_getElem? (i := 1) rfl) (List.mem_of_getElem? (i := 2) rfl)) (hh.dz (List.mem_of_getElem? (i := 13) rfl) (List.mem_of_getElem? (i := 14) rfl)) ⟨by rw [dpz, dhi], by rw [cpz, chi, m3]⟩ npz mpz) rfl ?_
     intro w141 hh
     first | refine gS ?_ | (refine gT ?_; refine pU ?_) | refine gV ?_
     first | refine dq ?_ | refine dr ?_
     refine aa (cF (al (ai (ah (sr (mI ?_))))))
     refine aQ (mB ?_)
     first | refine gS ?_ | (refine gT ?_; refine mI ?_) | refine gV ?_
     first | refine gS ?_ | (refine gT ?_; refine bG ?_) | refine gV ?_
     first | refine gS ?_ | (refine gT ?_; refine bI hh 26 ?_) | refine gV ?_
     first | refine gS ?_ | (refine gT ?_; refine a6 ?_) | refine gV ?_
     first | refine gS ?_ | (refine gT ?_; refine de ?_) | refine gV ?_
     first | refine dq ?_ | refine dr ?_
     refine aa (cF (al (ai (sr (aL (aa (ah (sr (aI (aa (ao ?_)))))))))))
     replace hh := hh.sub (List.Sublist.cons _ (List.Sublist.cons _ (List.Sublist.cons _ (List.Sublist.cons _ (List.Sublist.cons _ (List.Sublist.cons _ (List.Sublist.cons _ (List.Sublist.cons _ (List.Sublist.cons _ (List.Sublist.cons _ (List.Sublist.cons _ (List.Sublist.cons _ (List.Sublist.cons _ (List.Sublist.cons _ (List.Sublist.cons _ (List.Sublist.cons _ (List.Sublist.cons _ (List.Sublist.cons _ (List.Sublist.cons_cons _ (List.Sublist.cons_cons _ (List.Sublist.cons_cons _ (List.Sublist.cons_cons _ (List.Sublist.cons_cons _ (List.Sublist.cons_cons _ (List.Sublist.cons_cons _ (List.Sublist.cons_cons _ (List.Sublist.cons_cons _ List.Sublist.slnil)))))))))))))))))))))))))))
     replace hh := hh.ew 39 3
     refine cw [24, 25, 153, 154, 155, 156, 157, 158, 159, 160, 161, 162, 163, 164, 165, 166] 24 25
      (fun v3 v w' => ∃ (i c3 : Nat) (A : Option Addr), i ≤ fa.n ∧ v = .int .i64 i ∧ v3 = .slice A i c3 ∧ Hp w [.row A i c3 39 3 (a9 NR.cells ((List.range i).map AZ)), .blk b10 28 [.slice gb.A gb.n gb.a, .slice gb.B gb.m gb.b] (0, 0), .blk b9 28 [.slice ga.A ga.n ga.a, .slice ga.B ga.m ga.b] (0, 0), gb.gp, gb.fQ, ga.fQ, ga.gp, .blk b7 39 [.bool e.neg, .string e.br, .int .i64 e.e] (0, 0), .blk b6 39 [.bool c.neg, .string c.br, .int .i64 c.e] (0, 0), .blk b4 28 [.slice fa.A fa.n fa.a, .slice fa.B fa.m fa.b] (0, 0)] w')
      (fun _ v _ => fa.n - (intOf v).toNat) ?_ ?_
     ·exact ⟨0, 0, none, Nat.zero_le _, rfl, rfl, hh⟩
     ·clear hh
      rintro ρ' v3 v w' ⟨i, c3, A, hi, rfl, rfl, hh⟩
      by_cases hlt : i < fa.n
      ·have hs24 : Sz 24 ((((i : Int) + 1 : Int)) : Dyadic) := ti _ (by omega)
       have hsh := fun w1 hT1 => iU (nR ((((i : Int) + 1 : Int)) : Dyadic)) (-2) w1 hT1 (by have := hs24.br; omega) (by have := hs24.nr; omega) (by have := hs24.nr; omega) (by decide) (by decide)
       rw [dw] at hsh
       refine ah (sr (mI (bG ?_)))
       refine bI hh 9 ?_
       refine a6 ?_
       refine aQ (aa (cT (al (ai (ah (ao (ak (mL (mI ?_)))))))))
       refine bC ?_
       refine bF hh (ea ((i : Int) + 1) _ (hT.hp hh) (by omega) (by omega)) rfl ?_
       intro w163 hh
       refine bF hh (hsh _ (hT.hp hh)) rfl ?_
       intro w164 hh
       refine aZ hh (cs := [_, _, _]) aG.out aC.out (aK (cH rfl) bL) rfl rfl (by decide) (by decide) (by decide) rfl (by decide) ?_
       intro b165 w165 hh
       refine cI hh (i := 1) rfl rfl rfl (hh.aR (i := 0) rfl) aG.out aC.out rfl (by decide) (by first | rfl | exact cg _ | exact bV _ | exact bM _ | exact bT NR.one _) (by omega) (by omega) (by decide) ?_
       intro A166 c166 w166 hh
       simp only [List.set_cons_zero, List.set_cons_succ] at hh
       replace hh := hh.sub (List.sublist_cons_self _ _)
       refine aL (aD (aV (ai (ak (mI ?_)))))
       refine bC (aI (aD (ai ?_)))
       replace hh := hh.sub (List.Sublist.cons_cons _ (List.Sublist.cons_cons _ (List.Sublist.cons_cons _ (List.Sublist.cons_cons _ (List.Sublist.cons_cons _ (List.Sublist.cons_cons _ (List.Sublist.cons_cons _ (List.Sublist.cons_cons _ (List.Sublist.cons_cons _ (List.Sublist.cons_cons _ List.Sublist.slnil))))))))))
       refine ⟨⟨i + 1, c166, A166, by omega, rfl, rfl, ?_⟩, by show fa.n - (i + 1) < fa.n - i; omega, ?_⟩
       ·rw [List.range_succ, List.map_append, dx]
        exact hh
       ·(repeat (first | exact ay _ _ _ | refine az rfl ?_ | refine av rfl ?_))
      ·obtain rfl : i = fa.n := by omega
       obtain ⟨T0, hT0⟩ : ∃ T0, T0 = (List.range fa.n).map AZ := ⟨_, rfl⟩
       have hT0l : T0.length = fa.n := by rw [hT0, List.length_map, List.length_range]
       rw [← hT0] at hh
       have hrl := fL NR.len T0
       have hmul := fun A cc w1 hT1 hS1 => fR A 2 cc [c, e] w1 hT1 hS1 (by simpa using ⟨vs.ok, vt.ok⟩) 600000 (by simpa using ⟨vs.sz.mono (by omega), vt.sz.mono (by omega)⟩) (by omega) (by omega)
       rw [show gB ([c, e].map NR.d) = c.d * e.d by simp only [List.map_cons, List.map_nil]; show 1 * _ * _ = _; rw [Dyadic.one_mul]] at hmul
       have z1 : Sz 124 (((1 : Int) : Dyadic)) := (ti 1 (by decide)).mono (by omega)
       have hsub := fun w1 hT1 => kA (nR ((1 : Int) : Dyadic)) c w1 hT1 (z1.ok (by omega)) vs.ok 125 (by rw [dw]; exact z1.mono (by omega)) vs.sz (by omega)
       rw [dw, show ((1 : Int) : Dyadic) - c.d = 1 - c.d from rfl] at hsub
       have hmul2 := fun A cc w1 hT1 hS1 => fR A 2 cc [nR (1 - c.d), e] w1 hT1 hS1 (by simpa using ⟨hs1.ok (by omega), vt.ok⟩) 600000 (by simpa [dw] using ⟨hs1.mono (by omega), vt.sz.mono (by omega)⟩) (by omega) (by omega)
       rw [show gB ([nR (1 - c.d), e].map NR.d) = (1 - c.d) * e.d by simp only [List.map_cons, List.map_nil, dw]; show 1 * _ * _ = _; rw [Dyadic.one_mul]] at hmul2
       have zm2 : Sz 250 ((1 - c.d) * e.d) := hs1.mul vt.sz
       have hsum := fun A cc w1 hT1 hS1 => gR A 2 cc [c, nR ((1 - c.d) * e.d)] w1 hT1 hS1 (by simpa using ⟨vs.ok, zm2.ok (by omega)⟩) 600000 (by simpa [dw] using ⟨vs.sz.mono (by omega), zm2.mono (by omega)⟩) (by omega)
       rw [show j3 ([c, nR ((1 - c.d) * e.d)].map NR.d) = c.d + (1 - c.d) * e.d by simp only [List.map_cons, List.map_nil, dw, jE]] at hsum
       obtain ⟨g24, rfl⟩ := hh.dn (i := 0) rfl (by omega)
       refine ah (sr (mI (bG ?_)))
       refine bI hh 9 ?_
       refine a6 ?_
       refine aQ (aa (cF ?_))
       refine a0 ?_
       refine aA (aA (bu (ai (sr ?_))))
       refine fH hh aG.out aC.out (by decide) ?_
       intro b167 w167 hh
       refine mL ?_
       refine cI hh (i := 0) rfl rfl rfl (hh.aR (i := 1) rfl) aG.out aC.out rfl (by decide) (by first | rfl | exact cg _ | exact bV _ | exact bM _ | exact bT NR.one _) (by omega) (by omega) (by decide) ?_
       intro A169 c169 w169 hh
       simp only [List.set_cons_zero] at hh
       refine fH hh aG.out aC.out (by decide) ?_
       intro b170 w170 hh
       refine mL ?_
       refine cI hh (i := 0) rfl rfl rfl (hh.aR (i := 2) rfl) aG.out aC.out rfl (by decide) (by first | rfl | exact cg _ | exact bV _ | exact bM _ | exact bT NR.one _) (by omega) (by omega) (by decide) ?_
       intro A172 c172 w172 hh
       simp only [List.set_cons_zero] at hh
       refine aL (aL (aa (sr (mL (mI ?_)))))
       refine cD hh 9 [_,_,_] ?_
       refine bB (k := a) aG.out aC.size rfl rfl (by omega) (by omega) (by decide) ?_
       simp only [List.nil_append, Nat.zero_add fa.n] at hh
       rw [Nat.zero_add fa.n]
       refine bq hh (i := 2) (vs := [_, _, _]) rfl rfl (cH rfl) rfl aC.out rfl (by omega) rfl ?_
       intro ws hh
       simp only [List.set_cons_zero, List.set_cons_succ] at hh
       rw [show cj (a9 NR.cells T0) (a * 3) [.bool e.neg, .string e.br, .int .i64 e.e] = a9 NR.cells (T0.set a e) from eF NR.len (by omega)] at hh
       obtain ⟨g26, rfl⟩ := hh.dn (i := 1) rfl (by omega)
       obtain ⟨g27, rfl⟩ := hh.dn (i := 0) rfl (by omega)
       refine aa (sr (mL (mI ?_)))
       refine cD hh 10 [_,_,_] ?_
       refine cD hh 9 [_,_,_] ?_
       refine aZ hh (cs := [_, _, _, _, _, _]) aG.out aC.out (aK (cH rfl) (aK (cH rfl) bL)) rfl rfl (by decide) (by decide) (by decide) rfl (by decide) ?_
       intro b181 w181 hh
       refine bF hh (hmul _ _ _ (hT.hp hh) (hh.aR (i := 0) rfl)) rfl ?_
       intro w182 hh
       refine bB (k := a) aG.out aC.size rfl rfl (by omega) (by omega) (by decide) ?_
       refine bq hh (i := 2) (vs := [_, _, _]) rfl rfl (cH rfl) rfl aC.out rfl (by omega) rfl ?_
       intro ws hh
       simp only [List.set_cons_zero, List.set_cons_succ] at hh
       rw [show cj (a9 NR.cells T0) (a * 3) [.bool (nR (c.d * e.d)).neg, .string (nR (c.d * e.d)).br, .int .i64 (nR (c.d * e.d)).e] = a9 NR.cells (T0.set a (nR (c.d * e.d))) from eF NR.len (by omega)] at hh
       replace hh := hh.sub (List.Sublist.cons _ (List.Sublist.cons_cons _ (List.Sublist.cons_cons _ (List.Sublist.cons_cons _ (List.Sublist.cons_cons _ (List.Sublist.cons_cons _ (List.Sublist.cons_cons _ (List.Sublist.cons_cons _ (List.Sublist.cons_cons _ (List.Sublist.cons_cons _ (List.Sublist.cons_cons _ (List.Sublist.cons_cons _ (List.Sublist.cons_cons _ List.Sublist.slnil)))))))))))))
       refine aa (ah ?_)
       refine jN [] [] [0, 0, 0, 0, 0, 24, 0, 120, 248, 508, 1020, 2047, 4095] 11 [[(27, none)], [(1, none)], [(6, none)], [], [(6, none)], [(187, some 3), (188, some 4)], [(7, none)], [(189, some 5), (190, some 6)], [(191, some 7)], [(186, some 2), (192, some 8)], [(193, some 9)]] [(10, 194), (9, 193), (8, 192), (7, 191), (6, 190), (5, 189), (4, 188), (3, 187), (2, 186), (1, 185), (0, 184)] hh mixed (by kernel_rfl) kZ rfl (by repeat (first | exact im | refine gg ?_ | refine iu ?_)) ?_
       refine iY ?_
       refine ee ?_
       refine fB 10 [_,_,_] ?_
       refine dC (fun _ hj => ea 1 _ (hT.hp hj.hp) (by decide) (by decide)) ?_
       refine fB 10 [_,_,_] ?_
       refine dC (fun _ hj => hsub _ (hT.hp hj.hp)) ?_
       refine fB 9 [_,_,_] ?_
       refine uM [_,_,_,_,_,_] ?_
       refine bJ (i := 8) (Is (.agg #[.bool (nR ((1 - c.d) * e.d)).neg, .string (nR ((1 - c.d) * e.d)).br, .int .i64 (nR ((1 - c.d) * e.d)).e])) Is.ext ?_ ?_
       ·intro ρ1 w1 hj hR
        obtain ⟨A191, c191, h191, s191⟩ := hR.1
        exact bQ rfl (bE ar.out (aE h191 bz)) (hmul2 A191 c191 _ (hT.hp hj.hp) s191) (fun _ _ hq => ⟨_, hq.1, hq.2, rfl⟩)
       refine uM [_,_,_,_,_,_] ?_
       refine bJ (i := 10) (Is (.agg #[.bool (nR (c.d + (1 - c.d) * e.d)).neg, .string (nR (c.d + (1 - c.d) * e.d)).br, .int .i64 (nR (c.d + (1 - c.d) * e.d)).e])) Is.ext ?_ ?_
       ·intro ρ1 w1 hj hR
        obtain ⟨A193, c193, h193, s193⟩ := hR.1
        exact bQ rfl (bE ar.out (aE h193 bz)) (hsum A193 c193 _ (hT.hp hj.hp) s193) (fun _ _ hq => ⟨_, hq.1, hq.2, rfl⟩)
       refine bj ?_
       intro f W hJ hV _
       have hb_24 := hJ.bl
       obtain ⟨v194, v193, v192, v191, v190, v189, v188, v187, v186, v185, v184, _⟩ := hV
       obtain ⟨A191, c191, e191, f191⟩ : Rows _ _ _ (f 7) W := v191
       obtain ⟨A193, c193, e193, f193⟩ : Rows _ _ _ (f 9) W := v193
       replace hh := hJ.hp
       refine aY (bm (ae v194 (ae e193 (ae v192 (ae e191 (ae v190 (ae v189 (ae v188 (ae v187 (ae v186 (ae v185 (ae v184 aX)))))))))))) ?_
       dsimp only [ct]
       clear e191 e193 hJ
       refine bB (k := a) aG.out aC.size rfl rfl (by omega) (by omega) (by decide) ?_
       refine bq hh (i := 0) (vs := [_, _, _]) rfl rfl (cH rfl) rfl aC.out rfl (by omega) rfl ?_
       intro ws hh
       simp only [List.set_cons_zero] at hh
       rw [show cj (a9 NR.cells T0) (a * 3) [.bool (nR (c.d + (1 - c.d) * e.d)).neg, .string (nR (c.d + (1 - c.d) * e.d)).br, .int .i64 (nR (c.d + (1 - c.d) * e.d)).e] = a9 NR.cells (T0.set a (nR (c.d + (1 - c.d) * e.d))) from eF NR.len (by omega)] at hh
       have hv0 := zi hT0 (by omega)
       have hvt := qx (a := a) hv0 ⟨vt.up (by omega), ht1.mono (by omega)⟩
       have hvd := qx (a := a) hv0 (sP (q := 259) ((vs.sz.mul vt.sz).mono (by omega)) (by omega) (by omega))
       have hvu := qx (a := a) hv0 (sP (q := 259) (((vs.sz.mono (show 125 ≤ 250 by omega)).add zm2).mono (by omega)) (by omega) (by omega))
       obtain ⟨v1, v2⟩ := oA (ns := fa.ns) (a := a) (by omega) c.d e.d (fa.cs.map NR.d) (T0.map NR.d) (by rw [List.length_map, hT0l, hnl])
       have hE1 := fun w1 hT1 hg hca hS => j0 ga fa.ns _ (gW fa.ns.reverse (fa.cs.map NR.d) ((T0.map NR.d).set a (c.d * e.d)).reverse) (some ⟨g24, 0, none⟩) fa.n c3 _ 1884 260 6 w1 hT1 oga hg hca hS hvt (by decide) h12 h127 h6 llo hmax hnl.symm zlo (by decide) (by rw [List.map_set]; exact v1)
       have hE2 := fun w1 hT1 hb hS => j0 fa fa.ns _ (gW fa.ns.reverse (fa.cs.map NR.d) ((T0.map NR.d).set a (c.d * e.d)).reverse) (some ⟨g26, 0, none⟩) fa.n c169 _ 124 260 6 w1 hT1 hog (hf.ext hb) hcapm hS hvd (by decide) h12 h127 h6 lxs hmax hnl.symm zx (by decide) (by rw [List.map_set, dw])
       have hE3 := fun w1 hT1 hg hca hS => j0 gb fa.ns _ (gW fa.ns.reverse (fa.cs.map NR.d) ((T0.map NR.d).set a (c.d + (1 - c.d) * e.d)).reverse) (some ⟨g24, 0, none⟩) fa.n c3 _ 1884 260 6 w1 hT1 ogb hg hca hS hvt (by decide) h12 h127 h6 lup hmax hnl.symm zup (by decide) (by rw [List.map_set]; exact v2)
       have hE4 := fun w1 hT1 hb hS => j0 fa fa.ns _ (gW fa.ns.reverse (fa.cs.map NR.d) ((T0.map NR.d).set a (c.d + (1 - c.d) * e.d)).reverse) (some ⟨g27, 0, none⟩) fa.n c172 _ 124 260 6 w1 hT1 hog (hf.ext hb) hcapm hS hvu (by decide) h12 h127 h6 lxs hmax hnl.symm zx (by decide) (by rw [List.map_set, dw])
       generalize gW fa.ns.reverse (fa.cs.map NR.d) ((T0.map NR.d).set a (c.d * e.d)).reverse = V1 at *
       generalize gW fa.ns.reverse (fa.cs.map NR.d) ((T0.map NR.d).set a (c.d + (1 - c.d) * e.d)).reverse = V2 at *
       refine aa (sr ?_)
       refine cD hh 4 [_,_] (mL ?_)
       refine bF hh (hE1 _ (hT.hp hh) (hh.dz (List.mem_of_getElem? (i := 8) rfl) (List.mem_of_getElem? (i := 7) rfl)) (hh.g9 (i := 8) rfl) (hh.aR (i := 2) rfl)) rfl ?_
       intro w199 hh
       refine mT ?_
       refine dY ?_
       refine dY ?_
       refine bY hh ?_
       intro b28 w28 hh
       refine bK hh 0 [_,_,_] ?_
       intro ws hh
       replace hh : Hp _ (.blk _ _ [_, _, _] _ :: _) _ := hh
       refine aI (aa (sr ?_))
       refine cD hh 12 [_,_] (mL ?_)
       refine bF hh (hE2 _ (hT.hp hh) hh.below (hh.aR (i := 2) rfl)) rfl ?_
       intro w205 hh
       refine mT ?_
       refine dY ?_
       refine dY ?_
       refine bY hh ?_
       intro b30 w30 hh
       refine bK hh 0 [_,_,_] ?_
       intro ws hh
       replace hh : Hp _ (.blk _ _ [_, _, _] _ :: _) _ := hh
       refine aI (aa (sr ?_))
       refine cD hh 5 [_,_] (mL ?_)
       refine bF hh (hE3 _ (hT.hp hh) (hh.dz (List.mem_of_getElem? (i := 7) rfl) (List.mem_of_getElem? (i := 8) rfl)) (hh.g9 (i := 7) rfl) (hh.aR (i := 4) rfl)) rfl ?_
       intro w211 hh
       refine mT ?_
       refine dY ?_
       refine dY ?_
       refine bY hh ?_
       intro b32 w32 hh
       refine bK hh 0 [_,_,_] ?_
       intro ws hh
       replace hh : Hp _ (.blk _ _ [_, _, _] _ :: _) _ := hh
       refine aI (aa (sr ?_))
       refine cD hh 14 [_,_] (mL ?_)
       refine bF hh (hE4 _ (hT.hp hh) hh.below (hh.aR (i := 3) rfl)) rfl ?_
       intro w217 hh
       refine mT ?_
       refine dY ?_
       refine dY ?_
       refine bY hh ?_
       intro b34 w34 hh
       refine bK hh 0 [_,_,_] ?_
       intro ws hh
       replace hh : Hp _ (.blk _ _ [_, _, _] _ :: _) _ := hh
       refine aI (aa (sr (mI ?_)))
       refine dL (mB ?_)
       first | refine gS ?_ | (refine gT ?_; refine mI ?_) | refine gV ?_
       first | refine gS ?_ | (refine gT ?_; refine dL ?_) | refine gV ?_
       first | refine dq ?_ | refine dr ?_
       refine mB ?_
       first | refine gS ?_ | (refine gT ?_; refine mI ?_) | refine gV ?_
       first | refine gS ?_ | (refine gT ?_; refine dL ?_) | refine gV ?_
       first | refine dq ?_ | refine dr ?_
       refine mB ?_
       first | refine gS ?_ | (refine gT ?_; refine mI ?_) | refine gV ?_
       first | refine gS ?_ | (refine gT ?_; refine dL ?_) | refine gV ?_
       first | refine dq ?_ | refine dr ?_
       refine mB ?_
       first | refine gS ?_ | (refine gT ?_; refine cD hh 3 [_,_,_] ?_) | refine gV ?_
       first | refine gS ?_ | (refine gT ?_; refine cD hh 2 [_,_,_] ?_) | refine gV ?_
       first | refine gS ?_ | (refine gT ?_; (first | refine iJ rfl rfl (by first | assumption | rfl) (by decide) ?_ | refine iQ rfl rfl (by assumption) (by decide) ?_)) | refine gV ?_
       first | refine dq ?_ | refine dr ?_
       refine mB ?_
       first | refine gS ?_ | (refine gT ?_; refine cD hh 1 [_,_,_] ?_) | refine gV ?_
       first | refine gS ?_ | (refine gT ?_; refine cD hh 0 [_,_,_] ?_) | refine gV ?_
       first | refine gS ?_ | (refine gT ?_; (first | refine iJ rfl rfl (by first | assumption | rfl) (by decide) ?_ | refine iQ rfl rfl (by assumption) (by decide) ?_)) | refine gV ?_
       first | refine dq ?_ | refine dr ?_
       refine mB ?_
       refine a7 rfl rfl ?_
       refine bF hh (fG _ (hT.hp hh)) rfl ?_
       intro w245 hh
       first | refine dq ?_ | refine dr ?_
       refine aB (aa (aq ?_))
       refine cC ?_
       exact ⟨rfl, hh.below⟩
    ·have hbad := fun w1 hT1 hb => (iW fa ax c c.d 124 125 w1 hT1 (hf.ext hb) hsl hcap vs hs1 (by decide) hk).mono fun r w' h => (show r = vR (dX fa ax) ∧ Below w1.heap.size w1 w' from ⟨h.2.elim (fun q => q.2) (fun q => absurd q.1 hE1), h.1⟩)
     first | refine dq ?_ | refine dr ?_
     refine aa (cF (al (ai (sr ?_))))
     refine cD hh 2 [_,_] (mI ?_)
     refine cD hh 1 [_,_,_] ?_
     refine bF hh (hbad _ (hT.hp hh) hh.below) rfl ?_
     intro w51 hh
     refine mT ?_
     refine dY ?_
     refine dY ?_
     refine dY ?_
     refine bY hh ?_
     intro b9 w9 hh
     refine bY hh ?_
     intro b10 w10 hh
     refine bK hh 1 [_,_] ?_
     intro ws hh
     replace hh : Hp _ (_ :: .blk _ _ [_, _] _ :: _) _ := hh
     refine bK hh 0 [_,_] ?_
     intro ws hh
     replace hh : Hp _ (.blk _ _ [_, _] _ :: _) _ := hh
     refine aI (aa (ah (sr (mI ?_))))
     refine dR (aa (cT (sr (bG ?_))))
     refine bI hh 1 ?_
     refine a6 (bG ?_)
     refine bI hh 0 ?_
     refine a6 ?_
     refine bC ?_
     refine dL (mB ?_)
     refine a7 rfl rfl ?_
     refine bF hh (fG _ (hT.hp hh)) rfl ?_
     intro w66 hh
     first | refine dq ?_ | refine dr ?_
     refine aB (aa (aq (a8 ?_)))
     refine cC ?_
     exact ⟨rfl, hh.below⟩
end Go.Proofs.YtioilmppidlbnaaGreatDoor
/- The row and the card of CastMeets. -/
namespace Go.Proofs.YtioilmppidlbnaaGreatDoor.castMeets
open Go.ChangeShapes Go.WideShapes Go.ChangeAt Go.RowKit Go.ChangeMaps
theorem own : ownKnob Tryz.prog.godebug = none := by kernel_rfl
set_option maxRecDepth 100000 in
theorem lifted (os : Os) (started : os.Started) (H : Type) (enc : TypeId × Value → H) :
  ReturnsInHanded {} Tryz.checked os 10 .any (fun w args => (Rows.castMeetsSpec.pre enc Tryz.prog Tryz.f10 Rows.castMeetsRow.domain false w args ∧ laidMetH Tryz.prog Rows.castMeetsRow.laid w) ∧ sizedMet enc Tryz.prog Tryz.f10 (OpenSpec.ofChange Rows.castMeetsSpec) false w args)
   (Rows.castMeetsSpec.post enc Tryz.prog Tryz.f10 false true false false) := by
 refine returnsInHanded_of_change_and (C := Tryz.checked) (X := fun w _ => laidMetH Tryz.prog Rows.castMeetsRow.laid w) (fun _ _ _ hh h => h.of_heap hh) own started (by kernel_rfl) Tryz.func10
  (ChangeSpec.witness_shaped (enc := enc) (C := Tryz.checked) (os := os) (X := fun w _ => laidMetH Tryz.prog Rows.castMeetsRow.laid w) false (World.laidAll Tryz.prog os Rows.castMeetsRow.laid) #[.agg #[.slice none 0 0, .slice none 0 0], .int .i64 0, .agg #[.bool false, .string ⟨#[]⟩, .int .i64 0], .agg #[.bool false, .string ⟨#[]⟩, .int .i64 0]] 8 (World.laidAll_os _ _ _)
   (World.shaped_of_ZipB (by kernel_rfl) (by kernel_rfl)) (by kernel_rfl) (by kernel_rfl) (by kernel_rfl)
   (by rw [MakeChecks.laidMetH_plain _ _ _ (by kernel_rfl)]; exact laidMet_laidAll _ (by kernel_rfl) (by kernel_rfl))) ?_
 intro W base args ds gs before hval0 hW hc _ hL _
 have hval : ∀ (j : Nat) t v, Tryz.f10.params[j]? = some t → args[j]? = some v → Value.okWide Tryz.prog W .any base t v := hval0
 have hW' := hW
 obtain ⟨p, q, hA0, hV, rfl, hfz, hnd⟩ := hW
 have hA : DataW.TrodAll enc Tryz.prog W 0 (fun _ => true) true Tryz.f10.params.toList args.toList ds p := hA0
 rw [Tryz.params10] at hA hval
 obtain ⟨v0, vs0, d0, ds0, p0, q0, hargs, rfl, rfl, h0, r0⟩ := trodAll_cons hA
 obtain ⟨v1, vs1, d1, ds1, p1, q1, rfl, rfl, rfl, h1, r1⟩ := trodAll_cons r0
 obtain ⟨v2, vs2, d2, ds2, p2, q2, rfl, rfl, rfl, h2, r2⟩ := trodAll_cons r1
 obtain ⟨v3, vs3, d3, ds3, p3, q3, rfl, rfl, rfl, h3, r3⟩ := trodAll_cons r2
 obtain ⟨rfl, rfl, rfl⟩ := trodAll_nil r3
 obtain rfl : args = #[v0, v1, v2, v3] := by cases args; simp_all
 obtain ⟨rfl, rfl⟩ := trodVars_none hV
 obtain ⟨f0, rfl, hS0, hR0, hQ0⟩ := th (hval 0 28 v0 rfl rfl) h0
 obtain ⟨x1, rfl, rfl, rfl, b1⟩ := open_int Tryz.underlying3 (hval 1 3 v1 rfl rfl) h1
 obtain ⟨x2, rfl, _, _⟩ := ri (hval 2 39 v2 rfl rfl) h2
 obtain ⟨x3, rfl, _, _⟩ := ri (hval 3 39 v3 rfl rfl) h3
 refine (mv f0 x1 x2 x3 W (rQ hL) hS0 hR0 hQ0).mono fun e W' ⟨he, hb⟩ => ?_
 subst he
 exact ⟨_, rfl, we hW' rfl (by kernel_rfl) (by rw [Tryz.params10]; exact of_decide_eq_true (by kernel_rfl)) (by kernel_rfl) Tryz.underlying4 rfl rfl rfl hb⟩
theorem row_holds : Rows.CastMeetsSaid :=
 OpenClaim.holds_of_wide 10 Tryz.f10 rfl rfl rfl rfl rfl rfl rfl ⟨rfl, rfl, rfl, rfl, rfl⟩ rfl rfl rfl rfl rfl (by kernel_rfl) Tryz.func10 (by kernel_rfl)
  (of_decide_eq_true (by kernel_rfl)) (by unfold Func.isWrapper; first | (rw [if_pos (by decide +kernel)]; kernel_rfl) | (rw [if_neg (by decide +kernel)]; exact ⟨rfl, rfl⟩))
  (fun os started H enc _ => lifted os started H enc)
theorem holds : Rows.CastMeetsCardSaid :=
 Claim7.holds_tied_plain_at .later [] [.data, .data, .pinned] true (true, "0b215af0b67f448459599e78ac8335c1e55d291f4b1ea5a16e79847ce8851b12") false row_holds (fun _ h => by cases h) (by kernel_rfl) (fun _ h => by cases h) castMeets_row_tie rfl ⟨rfl, rfl⟩ (by kernel_rfl) rfl
  (fun f fn hf hfn => by
   obtain rfl : f = 10 := Option.some.inj ((show Tryz.prog.funcNamed "ogee/ogeelaw13.CastMeets" = some 10 by kernel_rfl).symm.trans hf) |>.symm
   obtain rfl : fn = Tryz.f10 := (Option.some.inj (Tryz.func10.symm.trans hfn)).symm
   exact ⟨by kernel_rfl, fun j t ht => by
    rw [Tryz.params10] at ht
    have hm : t ∈ [28, 3, 39, 39] := by simpa using Array.mem_of_getElem? ht
    have hall : ([28, 3, 39, 39].all fun u => !Tryz.prog.wantsStandIn u) = true := by kernel_rfl
    exact (show Tryz.prog.wantsStandIn t = false by simpa using List.all_eq_true.1 hall t hm)⟩)
  (by kernel_rfl)
#print axioms holds
end Go.Proofs.YtioilmppidlbnaaGreatDoor.castMeets
