/- Lemmas for bernSums, part 1. -/
import Derived.KernelRfl
import Derived.Test.YteeckcbbnegmcaaGreatDoorRows
import Derived.WalkKit
import Derived.ProofKit
import Derived.OpenShut
import Derived.Carry
import Derived.WalkLawsBesides
import Derived.Below
import Derived.Laws.OwnMore
import Derived.Laws.Rows
import Derived.RegionTactic
import Derived.ControlIn
import Derived.TacticsIn
import Derived.AtR
import Derived.Deep.AppendLies
import Derived.Maps.AppendAt
import Derived.OwnWalk
import Derived.Test.YteeckcbbnegmcaaGreatDoorProg
namespace Go.Proofs.YteeckcbbnegmcaaGreatDoor
open Go.ChangeShapes Go.WideShapes Go.ChangeAt Go.RowKit
def zL0 : List (List (Nat × Option Nat)) := [[(4, none)], [(21, some 0)], [(1, none)], [(23, some 2)], [(22, some 1), (24, some 3)], [(25, some 4)], [(26, some 5)], [(4, none), (27, some 6)], [(28, some 7), (27, some 6)], [(29, some 8), (27, some 6)], [(30, some 9), (27, some 6)], [(27, some 6), (31, some 10)], [(32, some 11)], [(4, none), (33, some 12)], [(34, some 13), (33, some 12)], [(35, some 14), (33, some 12)], [(4, none), (33, some 12)], [(37, some 16), (33, some 12)], [(36, some 15), (38, some 17), (33, some 12)], [(33, some 12), (39, some 18)], [(40, some 19)], [(3, none), (41, some 20)], [(42, some 21), (41, some 20)], [(43, some 22), (41, some 20)], [(1, none), (44, some 23)], [(45, some 24), (44, some 23)], [(3, none), (44, some 23)], [(47, some 26), (44, some 23)], [(46, some 25), (48, some 27), (44, some 23)], [(49, some 28), (44, some 23)], [(50, some 29), (44, some 23)], [(4, none), (44, some 23)], [(52, some 31), (44, some 23)]]
def zL1 : List Nat := [0, 1, 0, 4, 15, 31, 63, 127, 255, 511, 1023, 2047, 4095, 8191, 16383, 32767, 8191, 73727, 262143, 524287, 1048575, 2097151, 4194303, 8388607, 16777215, 33554431, 16777215, 83886079, 268435455, 536870911, 1073741823, 16777215, 2164260863, 8589934591, 17179869183, 34359738367]
def zL2 : List Nat := [14, 53, 54, 55, 56, 57, 58, 59, 60, 61, 62, 63, 64, 65, 66, 67, 68, 69]
theorem Tx {p : Prop} (h : p := by omega) : p := h
theorem Ty {p : Prop} (h : p := by decide) : p := h
theorem Tz {p : Prop} (h : p := by kernel_rfl) : p := h
theorem J7 {P Q : Prop} (p : P) (h : P → Q := by intro k; exact Ci (b := 4294967295) rfl rfl (by first | assumption | omega) (by first | assumption | omega) Ty k) : Q := h p
theorem wc {P Q : Prop} (p : P) (h : P → Q := by intro k; exact lK (s := 32) (m := 4294967296) rfl rfl Ty Ty Ty k) : Q := h p
theorem Dz {P Q : Prop} (p : P) (h : P → Q := by intro k; exact lK (s := 8) (m := 256) rfl rfl Ty Ty Ty k) : Q := h p
theorem l8 {P Q : Prop} (p : P) (h : P → Q := by intro k; exact C2 bg.out bg.out rfl (by first | assumption | omega) Ty k) : Q := h p
theorem DU {P Q : Prop} (p : P) (h : P → Q := by intro k; exact dR (aa (cF (ar (ai (sr (mI (mI k)))))))) : Q := h p
theorem Bx {P Q : Prop} (p : P) (h : P → Q := by intro k; exact B7 bg.out bg.out rfl Tx Tx Ty k) : Q := h p
theorem iJ {P Q : Prop} (p : P) (h : P → Q := by intro k; exact kD Ty rfl rfl Ty k) : Q := h p
theorem kg {P Q : Prop} (p : P) (h : P → Q := by intro k; exact cZ (k := j) bg.out aN.size rfl rfl Tx Tx Ty k) : Q := h p
theorem gu {P Q : Prop} (p : P) (h : P → Q := by intro k; exact bT aN.out rfl ((hr.ext hh.below).xo (by assumption)) Ty k) : Q := h p
theorem nP {P Q : Prop} (p : P) (h : P → Q := by intro k; exact Py rfl rfl Tx Tx Tx Ty k) : Q := h p
theorem DF {P Q : Prop} (p : P) (h : P → Q := by intro k; exact Qj rfl rfl (by first | assumption | omega) (by first | assumption | omega) Ty k) : Q := h p
theorem HF {P Q : Prop} (p : P) (h : P → Q := by intro k; exact bL hh (i := 0) (vs := [_]) rfl rfl (cH rfl) rfl aN.out rfl (by rw [a9, aO]; omega) rfl k) : Q := h p
theorem fL {P Q : Prop} (p : P) (h : P → Q := by intro k; exact aA (bA (ai (al k)))) : Q := h p
theorem nH {P Q : Prop} (p : P) (h : P → Q := by intro k; exact bf (aa (ah (cF (aZ (aD (aD (bq (ai (sr (mL k))))))))))) : Q := h p
theorem Dt {P Q : Prop} (p : P) (h : P → Q := by intro k; exact cW (aa (cT (sr (aI (aa (av (aG k)))))))) : Q := h p
theorem rv {P Q : Prop} (p : P) (h : P → Q := by intro k; exact Ox rfl rfl Tx Tx Ty k) : Q := h p
theorem Hz {P Q : Prop} (p : P) (h : P → Q := by intro k; exact dR (aa (cT (ar (ai (ah (aq (aq (ah k))))))))) : Q := h p
theorem HX {P Q : Prop} (p : P) (h : P → Q := by intro k; exact aY 8 [[(0, none)], [(5, none)], [(28, some 0), (29, some 1)], [(30, some 2)], [(1, none)], [(5, none)], [(32, some 4), (33, some 5)], [(34, some 6)]] [(7, 35), (6, 34), (5, 33), (4, 32), (3, 31), (2, 30), (1, 29), (0, 28)] hh mixed Tz k) : Q := h p
theorem zj {P Q : Prop} (p : P) (h : P → Q := by intro k; exact rX (fun _ hj => (hr.ext hj.hp.below).xo hx3) k) : Q := h p
theorem AW {P Q : Prop} (p : P) (h : P → Q := by intro k; exact rX (fun _ hj => (hs.ext hj.hp.below).xo hy3) k) : Q := h p
theorem Jz {P Q : Prop} (p : P) (h : P → Q := by intro k; exact a6 (bm (ae v35 (ae v34 (ae v33 (ae v32 (ae v31 (ae v30 (ae v29 (ae v28 a0))))))))) k) : Q := h p
theorem MV {P Q : Prop} (p : P) (h : P → Q := by intro k; exact aY 8 [[(0, none)], [(5, none)], [(38, some 0), (39, some 1)], [(40, some 2)], [(1, none)], [(5, none)], [(42, some 4), (43, some 5)], [(44, some 6)]] [(7, 45), (6, 44), (5, 43), (4, 42), (3, 41), (2, 40), (1, 39), (0, 38)] hh mixed Tz k) : Q := h p
theorem Oe {P Q : Prop} (p : P) (h : P → Q := by intro k; exact a6 (bm (ae v45 (ae v44 (ae v43 (ae v42 (ae v41 (ae v40 (ae v39 (ae v38 a0))))))))) k) : Q := h p
theorem wa {P Q : Prop} (p : P) (h : P → Q := by intro k; exact bf (aa (ah (cT (ar (ai (ah (aq (sr (mI (aI (aa (sr (aI (aa (ah (sr (mI (mL (aJ k)))))))))))))))))))) : Q := h p
theorem Ih {P Q : Prop} (p : P) (h : P → Q := by intro k; exact cZ (k := done.length) bg.out aN.size rfl rfl Tx Tx Ty k) : Q := h p
theorem jm {P Q : Prop} (p : P) (h : P → Q := by intro k; exact bT aN.out rfl (hh.fR (i := 0) rfl (by first | assumption | (simp only [Nat.mul_one]; assumption))) Ty k) : Q := h p
theorem nI {P Q : Prop} (p : P) (h : P → Q := by intro k; exact om (k := done.length) bg.out aN.size rfl rfl Tx Tx Ty k) : Q := h p
theorem xd {P Q : Prop} (p : P) (h : P → Q := by intro k; exact bL hh (i := 0) (vs := [_]) rfl rfl (cH rfl) rfl aN.out rfl (by rw [a9]; simp only [List.length_append, List.length_cons]; omega) rfl k) : Q := h p
theorem vB {P Q : Prop} (p : P) (h : P → Q := by intro k; exact aI (aA (bA (ai (al k))))) : Q := h p
theorem rz {P Q : Prop} (p : P) (h : P → Q := by intro k; exact aL (aa (ah (sr (mL (aJ (mI (aa (aq k))))))))) : Q := h p
theorem dZ {P Q : Prop} (p : P) (h : P → Q := by intro k; exact bf (aa (ah (cT (ar (ai (ah (aq (sr (mI k)))))))))) : Q := h p
theorem gh {P Q : Prop} (p : P) (h : P → Q := by intro k; exact cS (k := i) bg.out aN.size rfl rfl Tx Tx Ty k) : Q := h p
theorem vP {P Q : Prop} (p : P) (h : P → Q := by intro k; exact cP hh (cs := [_]) bg.out aN.out (aK (cH rfl) bP) rfl rfl Ty Ty Ty rfl Ty k) : Q := h p
theorem re {P Q : Prop} (p : P) (h : P → Q := by intro k; exact aE (n9 a _ ha) ak.out rfl Ty k) : Q := h p
theorem Ei {P Q : Prop} (p : P) (h : P → Q := by intro k; exact aE (n9 b _ hb) ak.out rfl Ty k) : Q := h p
theorem G8 {P Q : Prop} (p : P) (h : P → Q := by intro k; exact bz hh (C6 _ _ _ _ _ _ (aU 18446744073709551616 (bN a)) (aU 18446744073709551616 (bN b)) _ (hh.aC (i := 1) rfl) (hh.aC (i := 0) rfl) (je _) (je _) (hh.fF (i := 1) rfl) (hh.fF (i := 0) rfl) Tx Tx) rfl k) : Q := h p
theorem Ea {P Q : Prop} (p : P) (h : P → Q := by intro k; exact bf (aa (ah (cF (aZ (aD (aD (bq (ai (sr (aI (aa (av k))))))))))))) : Q := h p
theorem dH {P Q : Prop} (p : P) (h : P → Q := by intro k; exact bf (aa (ah (cT (ar (ai (ah (aq (sr k))))))))) : Q := h p
theorem k8 {P Q : Prop} (p : P) (h : P → Q := by intro k; exact aL (aA (bA (ai (al k))))) : Q := h p
theorem jG {P Q : Prop} (p : P) (h : P → Q := by intro k; exact qX bg.out rfl rfl Tx (by assumption) Ty k) : Q := h p
theorem pD {P Q : Prop} (p : P) (h : P → Q := by intro k; exact KT (eI rfl (eJ (vs := [_, _]) aN.out (hh.ck (i := 0) (n := 2) rfl rfl) rfl) gg) k) : Q := h p
theorem J8 {P Q : Prop} (p : P) (h : P → Q := by intro k; exact aj (N := 13) (l := [.agg #[.bool s, .string m]]) Tryz.func195 rfl rfl (by simp) k) : Q := h p
theorem EA {P Q : Prop} (p : P) (h : P → Q := by intro k; exact aB (aa (cT (sr (aI (aa (av (bY (aG k))))))))) : Q := h p
theorem Fj {P Q : Prop} (p : P) (h : P → Q := by intro k; exact LG bg.out rfl rfl (by first | rfl | assumption | decide) Ty k) : Q := h p
theorem DQ {P Q : Prop} (p : P) (h : P → Q := by intro k; exact aa (cF (ar (ai (ah (sr (bD k))))))) : Q := h p
theorem Nl {P Q : Prop} (p : P) (h : P → Q := by intro k; exact a6 (bm (ae v14 (ae v13 (ae v12 (ae v11 (ae v10 (ae v9 (ae v8 (ae v7 (ae v6 (ae v5 a0))))))))))) k) : Q := h p
theorem wh {P Q : Prop} (p : P) (h : P → Q := by intro k; exact aa (ah (sr (mL (aJ (mI (aa (aq k)))))))) : Q := h p
theorem cn {P Q : Prop} (p : P) (h : P → Q := by intro k; exact cZ (k := i) bg.out aN.size rfl rfl Tx Tx Ty k) : Q := h p
theorem mu {P Q : Prop} (p : P) (h : P → Q := by intro k; exact bf (aa (ah (cF (aZ (aD (aD (bq (ai (sr k)))))))))) : Q := h p
theorem AV {P Q : Prop} (p : P) (h : P → Q := by intro k; exact cP hh (cs := [_, _, _, _]) bg.out aN.out (aK (gO rfl) (aK (gO rfl) bP)) rfl rfl Ty Ty Ty rfl Ty k) : Q := h p
theorem EE {P Q : Prop} (p : P) (h : P → Q := by intro k; exact aY 10 [[(2, none)], [(18, some 0)], [(1, none)], [(20, some 2)], [(19, some 1), (21, some 3)], [(2, none)], [(23, some 5)], [(22, some 4), (24, some 6)], [(25, some 7)], []] [(9, 5), (8, 26), (7, 25), (6, 24), (5, 23), (4, 22), (3, 21), (2, 20), (1, 19), (0, 18)] hh mixed Tz k) : Q := h p
theorem Eo {P Q : Prop} (p : P) (h : P → Q := by intro k; exact bp (i := 3) (fun ρ1 w1 hj hR => HR (show ρ1 20 = Value.int _ _ from hR.1) Tx Tx) k) : Q := h p
theorem Fg {P Q : Prop} (p : P) (h : P → Q := by intro k; exact aR (i := 9) (dr _ 63 _) dr.ext (fun ρ1 w1 hj hR => jV aN.out hj.bl (fun v w2 h hb => ⟨hb, h⟩)) k) : Q := h p
theorem EW {P Q : Prop} (p : P) (h : P → Q := by intro k; exact a6 (bm (ae e5 (ae v26 (ae v25 (ae v24 (ae v23 (ae v22 (ae v21 (ae v20 (ae v19 (ae v18 a0))))))))))) k) : Q := h p
theorem Jc {P Q : Prop} (p : P) (h : P → Q := by intro k; exact aj (N := 47) (l := [.agg #[.bool true, .string a], .int .i64 (-(m : Int))]) Tryz.func197 rfl rfl (by simp) k) : Q := h p
theorem qZ {P Q : Prop} (p : P) (h : P → Q := by intro k; exact aa (cF (ar (ai (sr k))))) : Q := h p
theorem HB {P Q : Prop} (p : P) (h : P → Q := by intro k; exact aj (N := 41) (l := [.agg #[.bool a.neg, .string a.bo, .int .i64 a.e], .agg #[.bool b.neg, .string b.bo, .int .i64 b.e]]) Tryz.func136 rfl rfl (by simp) k) : Q := h p
theorem JI {P Q : Prop} (p : P) (h : P → Q := by intro k; exact aY 3 [[(2, none)], [(7, some 0)], [(3, none)]] [(2, 9), (1, 8), (0, 7)] hh mixed Tz k) : Q := h p
theorem Hw {P Q : Prop} (p : P) (h : P → Q := by intro k; exact dC (fun _ hj => ep a _ (hT.hp hj.hp) Tx Tx Tx) k) : Q := h p
theorem NU {P Q : Prop} (p : P) (h : P → Q := by intro k; exact aj (N := 28) (l := [.agg #[.bool a.neg, .string a.bo, .int .i64 a.e], .agg #[.bool b.neg, .string b.bo, .int .i64 b.e]]) Tryz.func184 rfl rfl (by simp) k) : Q := h p
theorem wY {P Q : Prop} (p : P) (h : P → Q := by intro k; exact cK (aa (cF (ar (ai (sr k)))))) : Q := h p
theorem Eb {P Q : Prop} (p : P) (h : P → Q := by intro k; exact ct (vs := [_, _, _]) aN.out rfl (((hr.ext hh.below).recAt NR.len hx)) rfl Ty k) : Q := h p
theorem wg {P Q : Prop} (p : P) (h : P → Q := by intro k; exact cP hh (cs := [_, _, _, _, _, _]) bg.out aN.out (aK (gO rfl) (aK (gO rfl) bP)) rfl rfl Ty Ty Ty rfl Ty k) : Q := h p
theorem Bc {P Q : Prop} (p : P) (h : P → Q := by intro k; exact bz hh (kS 1 _ (hT.hp hh) Tx Tx) rfl k) : Q := h p
theorem Fl {P Q : Prop} (p : P) (h : P → Q := by intro k; exact cZ (k := 0) bg.out aN.size rfl rfl Tx Tx Ty k) : Q := h p
theorem iI {P Q : Prop} (p : P) (h : P → Q := by intro k; exact qI (by first | exact sj rfl | exact su rfl) Ty k) : Q := h p
theorem Be {P Q : Prop} (p : P) (h : P → Q := by intro k; exact aa (cF (ar (bA (ai (al k)))))) : Q := h p
theorem J3 {P Q : Prop} (p : P) (h : P → Q := by intro k; exact Ci (b := 1) rfl rfl (by first | assumption | omega) (by first | assumption | omega) Ty k) : Q := h p
theorem o7 {P Q : Prop} (p : P) (h : P → Q := by intro k; exact cJ hh (i := 1) rfl rfl rfl (hh.aC (i := 0) rfl) bg.out aN.out rfl Ty (by first | rfl | exact dN _ | exact dm _ | exact bX _ | exact cq NR.one _) Tx Tx Ty k) : Q := h p
theorem wR {P Q : Prop} (p : P) (h : P → Q := by intro k; exact aL (aA (bA (ai (al (mI k)))))) : Q := h p
theorem I2 {P Q : Prop} (p : P) (h : P → Q := by intro k; exact dR (aa (cT (ar (ai (ah (aq (ah (sr (mL (mI k))))))))))) : Q := h p
theorem z8 {P Q : Prop} (p : P) (h : P → Q := by intro k; exact bz hh (iK A n c j xs _ (hx.ext hh.below) hdx Tx Tx) rfl k) : Q := h p
theorem Am {P Q : Prop} (p : P) (h : P → Q := by intro k; exact bz hh (iK B m c' j ys _ (hy.ext hh.below) hdy Tx Tx) rfl k) : Q := h p
theorem mD {P Q : Prop} (p : P) (h : P → Q := by intro k; exact bf (aa (cT (ar (ai (ah (aq (sr (mL (mI k)))))))))) : Q := h p
theorem Iu {P Q : Prop} (p : P) (h : P → Q := by intro k; exact fU (n := n) hh rfl rfl Tx Tx bg.out aN.out rfl Tx Tx Ty k) : Q := h p
theorem G3 {P Q : Prop} (p : P) (h : P → Q := by intro k; exact bL hh (i := 0) (vs := [_]) rfl rfl (cH rfl) rfl aN.out rfl (by rw [hll]; omega) rfl k) : Q := h p
theorem DC {P Q : Prop} (p : P) (h : P → Q := by intro k; exact aE (eM a _ ha) ak.out rfl Ty k) : Q := h p
theorem H9 {P Q : Prop} (p : P) (h : P → Q := by intro k; exact bf (aa (cT (ar (ai (ah (aq (al (mL (mL (mI k))))))))))) : Q := h p
theorem HD {P Q : Prop} (p : P) (h : P → Q := by intro k; exact bz hh (gY _ _ _ (aU 2 (bN m)) _ (hh.aC (i := 0) rfl) (ld _) (hh.fF (i := 0) rfl) Tx) rfl k) : Q := h p
theorem AZ {P Q : Prop} (p : P) (h : P → Q := by intro k; exact KT (eI rfl (eJ (vs := [_, _]) aN.out (hh.ck (i := 1) (n := 2) rfl rfl) rfl) gg) k) : Q := h p
theorem Ay {P Q : Prop} (p : P) (h : P → Q := by intro k; exact aa (cT (sr (aI (aa (av (aG k))))))) : Q := h p
theorem Ex {P Q : Prop} (p : P) (h : P → Q := by intro k; exact aa (cF (ar (ai (sr (aI (aa (av k)))))))) : Q := h p
theorem vx {P Q : Prop} (p : P) (h : P → Q := by intro k; exact aa (cF (ar (ai (sr (bD k)))))) : Q := h p
theorem Iw {P Q : Prop} (p : P) (h : P → Q := by intro k; exact KT (eI rfl (eJ (vs := [_, _, _]) aN.out (hh.ck (i := 0) (n := 3) rfl rfl) rfl) gg) k) : Q := h p
theorem uT {P Q : Prop} (p : P) (h : P → Q := by intro k; exact aI (aa (ah (aq (sr (bD k)))))) : Q := h p
theorem vN {P Q : Prop} (p : P) (h : P → Q := by intro k; exact bM (mB (gT (mL (gT (aJ (gT k))))))) : Q := h p
theorem IP {P Q : Prop} (p : P) (h : P → Q := by intro k; exact aY 7 [[(2, none)], [(0, none)], [(26, some 1)], [(27, some 2)], [(1, none)], [(29, some 4)], [(30, some 5)]] [(6, 31), (5, 30), (4, 29), (3, 28), (2, 27), (1, 26), (0, 25)] hh mixed Tz k) : Q := h p
theorem HZ {P Q : Prop} (p : P) (h : P → Q := by intro k; exact a6 (bm (ae v31 (ae v30 (ae v29 (ae v28 (ae v27 (ae v26 (ae v25 a0)))))))) k) : Q := h p
theorem JR {P Q : Prop} (p : P) (h : P → Q := by intro k; exact ct (vs := [_, _, _, _]) aN.out rfl ((hr.ext hh.below).recAt TR.len hxx) rfl Ty k) : Q := h p
theorem z6 {P Q : Prop} (p : P) (h : P → Q := by intro k; exact cP hh (cs := [_, _, _, _]) bg.out aN.out (aK (gO rfl) bP) rfl rfl Ty Ty Ty rfl Ty k) : Q := h p
theorem II {P Q : Prop} (p : P) (h : P → Q := by intro k; exact ct (vs := [_, _, _, _]) aN.out rfl ((hr2.ext hh.below).recAt TR.len hyy) rfl Ty k) : Q := h p
theorem yS {P Q : Prop} (p : P) (h : P → Q := by intro k; exact sr (aI (aa (ah (sr (mL (aJ (mI (aa (aq k)))))))))) : Q := h p
theorem ra {P Q : Prop} (p : P) (h : P → Q := by intro k; exact bf (aa (ah (cT (ar (ai (ah (aq (sr (mI (aI (aa (sr k))))))))))))) : Q := h p
theorem rn {P Q : Prop} (p : P) (h : P → Q := by intro k; exact cS (k := j) bg.out aN.size rfl rfl Tx Tx Ty k) : Q := h p
theorem oS {P Q : Prop} (p : P) (h : P → Q := by intro k; exact aa (cF (ar (bA (ai (al (mI k))))))) : Q := h p
theorem yZ {P Q : Prop} (p : P) (h : P → Q := by intro k; exact P6 (eI rfl (eJ (vs := [_, _]) aN.out (hh.ck (i := 0) (n := 2) rfl rfl) rfl) (jZ (kP rfl) gg)) k) : Q := h p
theorem Dx {P Q : Prop} (p : P) (h : P → Q := by intro k; exact P6 (eI rfl (eJ (vs := [_, _]) aN.out (hh.ck (i := 1) (n := 2) rfl rfl) rfl) (jZ (kP rfl) gg)) k) : Q := h p
theorem uR {P Q : Prop} (p : P) (h : P → Q := by intro k; exact Ap bg.out aN.size rfl rfl Tx Tx Ty k) : Q := h p
theorem JZ {P Q : Prop} (p : P) (h : P → Q := by intro k; exact aj (N := 45) (l := [.string a, .string b, .func (.func g) #[] #[]]) Tryz.func206 rfl rfl (by simp) k) : Q := h p
theorem tM {P Q : Prop} (p : P) (h : P → Q := by intro k; exact cS bg.out aN.size rfl rfl rfl Tx Ty k) : Q := h p
theorem HV {P Q : Prop} (p : P) (h : P → Q := by intro k; exact bT aN.out rfl (hh.fR (i := 1) rfl (by first | assumption | (simp only [Nat.mul_one]; assumption))) Ty k) : Q := h p
theorem Ht {P Q : Prop} (p : P) (h : P → Q := by intro k; exact aj (N := 58) (l := [.agg #[.int .i64 v, .slice A n c]]) Tryz.func142 rfl rfl (by simp) k) : Q := h p
theorem qV {P Q : Prop} (p : P) (h : P → Q := by intro k; exact ct (vs := [_, _, _, _]) aN.out rfl ((hr.ext hh.below).recAt TR.len hx) rfl Ty k) : Q := h p
theorem Bk {P Q : Prop} (p : P) (h : P → Q := by intro k; exact lT (i := 9) rfl (fun ρ1 w1 hj hR => (show ρ1 27 = Value.bool _ from hR.2.1)) (fun ρ1 w1 hj hR => aM ak.out (aw (show ρ1 29 = Value.agg (List.toArray _) from hR.1) aX)) (fun w1 hj => hsg _) k) : Q := h p
theorem DZ {P Q : Prop} (p : P) (h : P → Q := by intro k; exact lT (i := 15) rfl (fun ρ1 w1 hj hR => (show ρ1 33 = Value.bool _ from hR.2.1)) (fun ρ1 w1 hj hR => aM ak.out (aw (show ρ1 35 = Value.agg (List.toArray _) from hR.1) aX)) (fun w1 hj => hfo _ (hT.hp hj.hp)) k) : Q := h p
theorem G7 {P Q : Prop} (p : P) (h : P → Q := by intro k; exact xk (i := 18) rfl (fun ρ1 w1 hj hR => (show ρ1 33 = Value.bool _ from hR.2.2.1)) (fun ρ1 w1 hj hR => xq (show ρ1 36 = Value.agg (List.toArray _) from hR.1) (show ρ1 38 = Value.agg (List.toArray _) from hR.2.1) (by first | assumption | rfl)) k) : Q := h p
theorem El {P Q : Prop} (p : P) (h : P → Q := by intro k; exact a6 (bm (ae v53 (ae v52 (ae v51 (ae v50 (ae v49 (ae v48 (ae v47 (ae v46 (ae v45 (ae v44 (ae v43 (ae v42 (ae v41 (ae v40 (ae v39 (ae v38 (ae v37 (ae v36 (ae v35 (ae v34 (ae v33 (ae v32 (ae v31 (ae v30 (ae v29 (ae v28 (ae v27 (ae v26 (ae v25 (ae v24 (ae v23 (ae v22 (ae v21 a0)))))))))))))))))))))))))))))))))) k) : Q := h p
theorem EZ {P Q : Prop} (p : P) (h : P → Q := by intro k; exact aj (N := 25) (l := [.int .i64 v, .slice A n c]) Tryz.func72 rfl rfl (by simp) k) : Q := h p
theorem vk {P Q : Prop} (p : P) (h : P → Q := by intro k; exact uQ rfl (aw (CA rfl) aX) Ty k) : Q := h p
theorem MQ {P Q : Prop} (p : P) (h : P → Q := by intro k; exact aY 6 [[(2, none)], [(4, some 0)], [(1, none)], [(6, some 2)], [(7, some 3)], [(8, some 4)]] [(5, 9), (4, 8), (3, 7), (2, 6), (1, 5), (0, 4)] hh mixed Tz k) : Q := h p
theorem Hs {P Q : Prop} (p : P) (h : P → Q := by intro k; exact ct (vs := [_, _]) aN.out rfl ((hr.ext hh.below).recAt PX.len hx) rfl Ty k) : Q := h p
theorem G9 {P Q : Prop} (p : P) (h : P → Q := by intro k; exact bf (aa (ah (cF (aZ (aD (aD (bq (ai (ah (sr k))))))))))) : Q := h p
theorem tK {P Q : Prop} (p : P) (h : P → Q := by intro k; exact bT aN.out rfl ((hr.ext hh.below).xo hgi) Ty k) : Q := h p
theorem wE {P Q : Prop} (p : P) (h : P → Q := by intro k; exact aj (N := 29) (l := [.agg #[.slice A n c, .slice B m c2]]) Tryz.func41 rfl rfl (by simp) k) : Q := h p
theorem EU {P Q : Prop} (p : P) (h : P → Q := by intro k; exact bz hh (ej A n c ds _ (hS.ext hh.below) hn) rfl k) : Q := h p
theorem Jq {P Q : Prop} (p : P) (h : P → Q := by intro k; exact aY 6 [[(1, none)], [(19, some 0)], [(20, some 1)], [(1, none)], [(22, some 3)], [(23, some 4)]] [(5, 24), (4, 23), (3, 22), (2, 21), (1, 20), (0, 19)] hh mixed Tz k) : Q := h p
theorem Ix {P Q : Prop} (p : P) (h : P → Q := by intro k; exact a6 (bm (ae v24 (ae v23 (ae v22 (ae v21 (ae v20 (ae v19 a0))))))) k) : Q := h p
theorem rF {P Q : Prop} (p : P) (h : P → Q := by intro k; exact cP hh (cs := [_, _, _]) bg.out aN.out (aK (gO rfl) bP) rfl rfl Ty Ty Ty rfl Ty k) : Q := h p
theorem zY {P Q : Prop} (p : P) (h : P → Q := by intro k; exact bf (aa (ah (cF (aZ (aD (aD (bq (bA (ai (al k))))))))))) : Q := h p
theorem oT {P Q : Prop} (p : P) (h : P → Q := by intro k; exact yg eL.out rfl Ty k) : Q := h p
theorem fG {P Q : Prop} (p : P) (h : P → Q := by intro k; exact bz hh (hck _ (hT.hp hh) hh.below) rfl k) : Q := h p
theorem Jh {P Q : Prop} (p : P) (h : P → Q := by intro k; exact ct (vs := [_, _, _, _, _, _]) aN.out rfl ((hr.ext hh.below).recAt SR.len hs) rfl Ty k) : Q := h p
theorem MI {P Q : Prop} (p : P) (h : P → Q := by intro k; exact cP hh (cs := [_, _, _, _, _, _]) bg.out aN.out (aK (gO rfl) bP) rfl rfl Ty Ty Ty rfl Ty k) : Q := h p
theorem Nq {P Q : Prop} (p : P) (h : P → Q := by intro k; exact cJ hh (i := 2) rfl rfl rfl (hh.aC (i := 0) rfl) bg.out aN.out rfl Ty (by first | rfl | exact dN _ | exact dm _ | exact bX _ | exact cq NR.one _) Tx Tx Ty k) : Q := h p
theorem AQ {P Q : Prop} (p : P) (h : P → Q := by intro k; exact aj (N := 58) (l := [.agg #[.int .i64 p.v, .slice p.A p.n p.c], .slice L n c, .slice M m mc]) Tryz.func87 rfl rfl (by simp) k) : Q := h p
theorem sK {P Q : Prop} (p : P) (h : P → Q := by intro k; exact cK (aa (cF (ar (ai (ah (sr (mL k)))))))) : Q := h p
theorem rq {P Q : Prop} (p : P) (h : P → Q := by intro k; exact cK (aa (cF (ar (ai (ah (sr (mL (aJ (bD k)))))))))) : Q := h p
theorem Bm {P Q : Prop} (p : P) (h : P → Q := by intro k; exact bT aN.out rfl ((hr.ext hh.below).xo hy2) Ty k) : Q := h p
theorem EM {P Q : Prop} (p : P) (h : P → Q := by intro k; exact aa (cT (sr (aI (aa (av (bY (aG (aG (bY (aG k))))))))))) : Q := h p
theorem M4 {P Q : Prop} (p : P) (h : P → Q := by intro k; exact cJ hh (i := 3) rfl rfl rfl (hh.aC (i := 0) rfl) bg.out aN.out rfl Ty (by first | rfl | exact dN _ | exact dm _ | exact bX _ | exact cq NR.one _) Tx Tx Ty k) : Q := h p
theorem Jf {P Q : Prop} (p : P) (h : P → Q := by intro k; exact P6 (eI rfl (eJ (vs := [_, _]) aN.out (hh.ck (i := 3) (n := 2) rfl rfl) rfl) (jZ (kP rfl) gg)) k) : Q := h p
theorem rp {P Q : Prop} (p : P) (h : P → Q := by intro k; exact P6 (eI rfl (eJ (vs := [_, _]) aN.out (hh.ck (i := 2) (n := 2) rfl rfl) rfl) (jZ (kP rfl) gg)) k) : Q := h p
theorem Bb {P Q : Prop} (p : P) (h : P → Q := by intro k; exact sr (aB (aa (ah (sr (mL (aJ (mL (aJ k))))))))) : Q := h p
theorem HY {P Q : Prop} (p : P) (h : P → Q := by intro k; exact cK (aa (cF (ar (ai (ah (sr (aI (aa (aq k)))))))))) : Q := h p
theorem uW {P Q : Prop} (p : P) (h : P → Q := by intro k; exact bf (aa (cT (ar (ai (ah (aq (ah k)))))))) : Q := h p
theorem Ar {P Q : Prop} (p : P) (h : P → Q := by intro k; exact aY 8 [[(0, none)], [(5, none)], [(17, some 0), (18, some 1)], [(19, some 2)], [(1, none)], [(5, none)], [(21, some 4), (22, some 5)], [(23, some 6)]] [(7, 24), (6, 23), (5, 22), (4, 21), (3, 20), (2, 19), (1, 18), (0, 17)] hh mixed Tz k) : Q := h p
theorem M6 {P Q : Prop} (p : P) (h : P → Q := by intro k; exact bp (i := 2) (fun ρ1 w1 hj hR => dy bg.out aN.size (show ρ1 17 = Value.slice _ _ _ from hR.1) (show ρ1 18 = Value.int _ _ from hR.2.1) Tx Tx) k) : Q := h p
theorem NJ {P Q : Prop} (p : P) (h : P → Q := by intro k; exact bp (i := 6) (fun ρ1 w1 hj hR => dy bg.out aN.size (show ρ1 21 = Value.slice _ _ _ from hR.1) (show ρ1 22 = Value.int _ _ from hR.2.1) Tx Tx) k) : Q := h p
theorem yR {P Q : Prop} (p : P) (h : P → Q := by intro k; exact a6 (bm (ae v24 (ae v23 (ae v22 (ae v21 (ae v20 (ae v19 (ae v18 (ae v17 a0))))))))) k) : Q := h p
theorem zt {P Q : Prop} (p : P) (h : P → Q := by intro k; exact bf (aa (cF (aZ (aD (aD (bq (ai (sr (aB (aa (av k)))))))))))) : Q := h p
theorem Eu {P Q : Prop} (p : P) (h : P → Q := by intro k; exact aj (N := 34) (l := [.int .i64 v, .int .i64 x]) Tryz.func117 rfl rfl (by simp) k) : Q := h p
theorem M7 {P Q : Prop} (p : P) (h : P → Q := by intro k; exact aj (N := 17) (l := [.agg #[.int .i64 p.v, .slice p.A p.n p.c], .agg #[.int .i64 q.v, .slice q.A q.n q.c]]) Tryz.func15 rfl rfl (by simp) k) : Q := h p
theorem NK {P Q : Prop} (p : P) (h : P → Q := by intro k; exact aj (N := 42) (l := [.agg #[.int .i64 p.v, .slice p.A p.n p.c], .agg #[.bool c.neg, .string c.bo, .int .i64 c.e]]) Tryz.func53 rfl rfl (by simp) k) : Q := h p
theorem It {P Q : Prop} (p : P) (h : P → Q := by intro k; exact bT aN.out rfl (((hr.ext hh.below).recAt TR.len hx).cell (i := 0) rfl) Ty k) : Q := h p
theorem s7 {P Q : Prop} (p : P) (h : P → Q := by intro k; exact sr (aB (aa (ah (sr (mL (aJ k))))))) : Q := h p
theorem MF {P Q : Prop} (p : P) (h : P → Q := by intro k; exact aY 8 [[(0, none)], [(5, none)], [(13, some 0), (14, some 1)], [(15, some 2)], [(1, none)], [(5, none)], [(17, some 4), (18, some 5)], [(19, some 6)]] [(7, 20), (6, 19), (5, 18), (4, 17), (3, 16), (2, 15), (1, 14), (0, 13)] hh mixed Tz k) : Q := h p
theorem N2 {P Q : Prop} (p : P) (h : P → Q := by intro k; exact bp (i := 2) (fun ρ1 w1 hj hR => oa bg.out aN.size (show ρ1 13 = Value.slice _ _ _ from hR.1) (show ρ1 14 = Value.int _ _ from hR.2.1) rfl Tx) k) : Q := h p
theorem MZ {P Q : Prop} (p : P) (h : P → Q := by intro k; exact bp (i := 3) (fun ρ1 w1 hj hR => jv aN.out (show ρ1 15 = Value.pointer _ from hR.1) (hj.hp.fR (i := 0) rfl (by rw [Nat.mul_one]; exact hx2))) k) : Q := h p
theorem MW {P Q : Prop} (p : P) (h : P → Q := by intro k; exact bp (i := 6) (fun ρ1 w1 hj hR => dy bg.out aN.size (show ρ1 17 = Value.slice _ _ _ from hR.1) (show ρ1 18 = Value.int _ _ from hR.2.1) Tx Tx) k) : Q := h p
theorem N4 {P Q : Prop} (p : P) (h : P → Q := by intro k; exact a6 (bm (ae v20 (ae v19 (ae v18 (ae v17 (ae v16 (ae v15 (ae v14 (ae v13 a0))))))))) k) : Q := h p
theorem JQ {P Q : Prop} (p : P) (h : P → Q := by intro k; exact ct (vs := [_, _, _]) aN.out rfl ((hr.ext hh.below).recAt NR.len hxn) rfl Ty k) : Q := h p
theorem MM {P Q : Prop} (p : P) (h : P → Q := by intro k; exact ct (vs := [_, _, _]) aN.out rfl (hh.eU (f := NR.cells) (x := nR (nD (bin (d - i) j))) (l := kJ (d - i)) (i := 0) rfl NR.len Ty hbn) rfl Ty k) : Q := h p
theorem EI {P Q : Prop} (p : P) (h : P → Q := by intro k; exact aj (N := 20) (l := [.agg #[.slice fx.A fx.n fx.a, .slice fx.B fx.m fx.b], .int .i64 ax]) Tryz.func144 rfl rfl (by simp) k) : Q := h p
theorem NX {P Q : Prop} (p : P) (h : P → Q := by intro k; exact aY 6 [[(8, none)], [(3, none)], [(21, some 1)], [(20, some 0), (22, some 2)], [(3, none)], [(24, some 4)]] [(5, 25), (4, 24), (3, 23), (2, 22), (1, 21), (0, 20)] hh mixed Tz k) : Q := h p
theorem Mz {P Q : Prop} (p : P) (h : P → Q := by intro k; exact bp (i := 3) (fun ρ1 w1 hj hR => qE (show ρ1 20 = Value.int _ _ from hR.1) (show ρ1 22 = Value.int _ _ from hR.2.1) Tx Tx Tx) k) : Q := h p
theorem Nw {P Q : Prop} (p : P) (h : P → Q := by intro k; exact ct (vs := [_, _, _]) aN.out rfl (hh.eU (f := NR.cells) (x := nR x) (l := Y.map nR) (i := 1) rfl NR.len Ty hxn) rfl Ty k) : Q := h p
theorem M8 {P Q : Prop} (p : P) (h : P → Q := by intro k; exact aY 12 [[(9, none)], [(7, none)], [(58, some 1)], [(57, some 0), (59, some 2)], [(7, none)], [(61, some 4)], [(60, some 3), (62, some 5)], [(2, none)], [(64, some 7)], [(1, none)], [(65, some 8), (66, some 9)], [(67, some 10)]] [(11, 68), (10, 67), (9, 66), (8, 65), (7, 64), (6, 63), (5, 62), (4, 61), (3, 60), (2, 59), (1, 58), (0, 57)] hh mixed Tz k) : Q := h p
theorem NZ {P Q : Prop} (p : P) (h : P → Q := by intro k; exact bp (i := 3) (fun ρ1 w1 hj hR => qE (show ρ1 57 = Value.int _ _ from hR.1) (show ρ1 59 = Value.int _ _ from hR.2.1) Tx Tx Tx) k) : Q := h p
theorem My {P Q : Prop} (p : P) (h : P → Q := by intro k; exact bp (i := 6) (fun ρ1 w1 hj hR => nW (show ρ1 60 = Value.int _ _ from hR.1) (show ρ1 62 = Value.int _ _ from hR.2.1) Tx Tx) k) : Q := h p
theorem NO {P Q : Prop} (p : P) (h : P → Q := by intro k; exact a6 (bm (ae v68 (ae v67 (ae v66 (ae v65 (ae v64 (ae v63 (ae v62 (ae v61 (ae v60 (ae v59 (ae v58 (ae v57 a0))))))))))))) k) : Q := h p
theorem D3 {P Q : Prop} (p : P) (h : P → Q := by intro k; exact aj (N := 165) (l := [.agg #[.slice fx.A fx.n fx.a, .slice fx.B fx.m fx.b], .slice L n c]) Tryz.func37 rfl rfl (by simp) k) : Q := h p
theorem Ib {P Q : Prop} (p : P) (h : P → Q := by intro k; exact FK (N := 58) (l := [.agg #[.slice fx.A fx.n fx.a, .slice fx.B fx.m fx.b], .slice L m2 c2]) Tryz.func39 rfl rfl (by simp) k) : Q := h p
theorem Dn {P Q : Prop} (p : P) (h : P → Q := by intro k; exact aj (N := 18) (l := [.agg #[.bool a.neg, .string a.bo, .int .i64 a.e]]) Tryz.func43 rfl rfl (by simp) k) : Q := h p
theorem HA {P Q : Prop} (p : P) (h : P → Q := by intro k; exact aj (N := 46) (l := [.slice A n c, .slice B m d]) Tryz.func27 rfl rfl (by simp) k) : Q := h p
theorem HP {P Q : Prop} (p : P) (h : P → Q := by intro k; exact bf (aa (ah (cF (aZ (aD (aD (bq (ai (sr (mL (aL (aa (av k)))))))))))))) : Q := h p
theorem N0 {p : Prop} (h : p := by
  refine mB ?_;refine gS ?_;refine iJ ?_;refine fu ?_;exact MR) : p := h
theorem N6 {p : Prop} (h : p := by
  refine ⟨⟨i + 1, Tx, rfl, hh⟩, by show (n - m / 64) - (i + 1) < (n - m / 64) - i; omega, ?_⟩;exact dL) : p := h
theorem MC {p : Prop} (h : p := by
  refine aa (sr (mI ?_));refine bh (mL (aJ ?_));refine bf (mB ?_);refine gS (gS (gS ?_));refine dK ?_;exact MU) : p := h
theorem Nt {p : Prop} (h : p := by
  refine mB ?_;refine gS ?_;refine iJ ?_;refine fu ?_;refine mB ?_;refine gS (gS (gS ?_));refine fu ?_;exact Sg) : p := h
theorem NT {p : Prop} (h : p := by
  refine fa ?_;refine fK (i := 2) Tz rfl ?_;refine bW hh 3 [_,_] ?_;intro ws hh;replace hh : Hp _ (_ :: _ :: _ :: .blk _ _ [_, _] _ :: _) _ := hh;exact MY) : p := h
theorem Ni {p : Prop} (h : p := by
  refine cS (k := (i + j)) bg.out aN.size rfl rfl Tx Tx Ty ?_;refine bL hh (i := 3) (vs := [_, _, _]) rfl rfl (gO rfl) rfl aN.out rfl Tx rfl ?_;intro ws hh;simp only [List.set_cons_zero, List.set_cons_succ] at hh;rw [show cm (az NR.cells (S.map nR)) ((i + j) * 3) [.bool (nR (o + y)).neg, .string (nR (o + y)).bo, .int .i64 (nR (o + y)).e] = az NR.cells ((S.map nR).set (i + j) (nR (o + y))) from jg NR.len Tx, ← List.map_set, hset] at hh;refine fL ?_;refine bh (mI (aA (ai ?_)));replace hh := hh.sub (List.Sublist.cons _ (List.Sublist.cons_cons _ (List.Sublist.cons_cons _ (List.Sublist.cons_cons _ List.Sublist.slnil))));refine ⟨⟨j + 1, Tx, rfl, hh⟩, by show d - i + 1 - (j + 1) < d - i + 1 - j; omega, ?_⟩;exact dL) : p := h
theorem NQ {p : Prop} (h : p := by
  refine rH bg.out bg.out bg.out rfl (hh.aC (i := 0) rfl) Ty ?_;exact F1) : p := h
theorem Ny {p : Prop} (h : p := by
  refine ⟨⟨i + 1, _, Tx, rfl, hS3.symm, hh⟩, by show n - (i + 1) < n - i; omega, ?_⟩;exact dL) : p := h
theorem Jt {p : Prop} (h : p := by
  exact ⟨none, 0, rfl, World.ownsRow_nil _ _ _ _, hh.below⟩) : p := h
theorem MP {p : Prop} (h : p := by
  refine aI (aa (sr (mI ?_)));refine cK (aa (cT (sr ?_)));refine gj [_,_] (mI ?_);exact QI) : p := h
theorem NY {p : Prop} (h : p := by
  refine aa (cT (sr (aB (aa (av (aG (bY (aG (aG (bY (aG ?_)))))))))));exact zi) : p := h
theorem Nb {p : Prop} (h : p := by
  refine pD ?_;exact ⟨rfl, hh.below⟩) : p := h
theorem Ns {p : Prop} (h : p := by
  refine AZ ?_;exact ⟨rfl, hh.below⟩) : p := h
theorem Nz {p : Prop} (h : p := by
  refine Iw ?_;exact ⟨rfl, hh.below⟩) : p := h
theorem Nc {p : Prop} (h : p := by
  refine mB ?_;refine gS (gS ?_);refine fu ?_;refine aa (cT (sr ?_));refine bz hh (jw _ (hT.hp hh)) rfl ?_;intro w85 hh;exact RC) : p := h
theorem Nk {p : Prop} (h : p := by
  refine ⟨⟨i, _, _, Tx, rfl, by rw [d1]; rfl, by rw [d1]; exact hh⟩, by show ((i : Int) - 1 + 1).toNat < ((i : Int) + 1).toNat; omega, ?_⟩;exact dL) : p := h
theorem Oa {p : Prop} (h : p := by
  refine nJ ?_;refine dS (dS (dS (dS (dS ?_))));refine yk (i := 18) rfl (fun ρ1 w1 hj hR => (show ρ1 33 = Value.bool _ from hR.2.2.1)) Ty ?_;refine FJ ?_;exact SE) : p := h
theorem MA {p : Prop} (h : p := by
  refine fa ?_;refine fK (i := 2) Tz rfl ?_;refine bW hh 4 [_,_] ?_;intro ws hh;replace hh : Hp _ (_ :: _ :: _ :: _ :: .blk _ _ [_, _] _ :: _) _ := hh;exact Qt) : p := h
theorem M1 {p : Prop} (h : p := by
  refine aj (N := 9) (l := [.int .i64 v]) Tryz.func134 rfl rfl (by simp) ?_;refine sr (aB (aa (sr (mI ?_))));refine dR (mB (gT (mI (gT ?_))));refine RQ ?_;refine fu ?_;exact vi) : p := h
theorem Dv {p : Prop} (h : p := by
  refine dR (aB (aa (av ?_)));refine cX ?_;exact ⟨rfl, hh.below⟩) : p := h
theorem Dq {p : Prop} (h : p := by
  exact ⟨g, og, rfl, hh.sub (List.Sublist.cons_cons _ (List.nil_sublist _))⟩) : p := h
theorem NI {p : Prop} (h : p := by
  refine mB ?_;refine gS (gS ?_);refine iJ ?_;refine gS (gS (gS ?_));refine dK ?_;refine qZ ?_;refine cD hh 0 [_,_] ?_;exact Ia) : p := h
theorem N5 {p : Prop} (h : p := by
  refine oS ?_;refine bh (aI (aA (ai ?_)));refine ⟨⟨j + 1, Tx, rfl, fun x hx => ?_, hh⟩, by show n - (j + 1) < n - j; omega, ?_⟩
  ·exact RV
  ·exact dL) : p := h
theorem M9 {p : Prop} (h : p := by
  refine aE (hpu _ (hT.hp hh) hh.below) ak.out rfl Ty ?_;rintro e_ w51 ⟨g, og, rfl, h3⟩;refine ⟨_, rfl, ?_⟩;replace hh := hh.join h3;simp only [List.cons_append, List.nil_append] at hh;refine dq ?_;refine dq ?_;exact RB) : p := h
theorem Nh {p : Prop} (h : p := by
  have hik : i = k := by
   rcases Nat.lt_or_ge i k with h | h
   ·exact absurd ⟨i, h, h2, h3⟩ hex
   ·omega
  subst hik;refine ⟨i, h2, h3, fun j hj => ?_⟩
  cases hc2 : L.getD j false with
  | true => rfl
  | false => exact absurd ⟨j, hj, Tx, hc2⟩ hex) : p := h
theorem Nx {p : Prop} (h : p := by
  have h1 : L.toList.countP (fun b => b) = L.toList.length := by
   have := hI.ls; simp only [Array.length_toList]; omega
  have h2 := List.countP_eq_length.1 h1;have h3 : i < L.size := by rw [hI.ls, hnn]; exact hi
  have := h2 L[i] (by simp);simpa [h3] using this) : p := h
theorem D9 {p : Prop} (h : p := by
  refine aa (cT (sr (aB (aa (av (bY (aG (aG (bY (aG ?_))))))))));exact zi) : p := h
theorem HK {p : Prop} (h : p := by
  refine ⟨⟨i + 1, Tx, rfl, hh⟩, by show n - (i + 1) < n - i; omega, ?_⟩;exact dL) : p := h
theorem NB {p : Prop} (h : p := by
  refine bW hh 1 [_,_] ?_;intro ws hh;replace hh : Hp _ (_ :: .blk _ _ [_, _] _ :: _) _ := hh;refine fL ?_;refine bh (mI (aA (ai ?_)));replace hh := hh.sub (List.sublist_cons_self _ _);refine ⟨⟨i + 1, _, _, Tx, rfl, hS3.symm, hpl, by unfold IR.v at hba ⊢; omega, hh⟩, by show n - (i + 1) < n - i; omega, ?_⟩;exact dL) : p := h
theorem DL {p : Prop} (h : p := by
  refine bW hh 0 [_,_] ?_;intro ws hh;replace hh : Hp _ (.blk _ _ [_, _] _ :: _) _ := hh;refine aa (av (aG ?_));exact R1) : p := h
theorem Eg {p : Prop} (h : p := by
  refine bW hh 1 [_,_] ?_;intro ws hh;replace hh : Hp _ (_ :: .blk _ _ [_, _] _ :: _) _ := hh;refine aI (aa (av ?_));exact O2) : p := h
theorem Nd {p : Prop} (h : p := by
  obtain rfl : j = d - i + 1 := Tx;rw [Gs Tx] at hh;refine sr ?_;refine zY ?_;refine bh (mI (aA (ai ?_)));replace hh := hh.sub (List.Sublist.cons _ (List.Sublist.cons _ (List.Sublist.cons_cons _ List.Sublist.slnil)));refine ⟨⟨i + 1, Tx, rfl, hh⟩, by show n - (i + 1) < n - i; omega, ?_⟩;exact dL) : p := h
theorem MU {p : Prop} (h : p := by
  refine Be ?_;refine bh (mI (aA (ai ?_)));rw [e1, hac, ← hnew] at hh;exact N6) : p := h
theorem MR {p : Prop} (h : p := by
  refine mB ?_;refine gS ?_;refine iJ ?_;refine fu ?_;exact Nt) : p := h
theorem N7 {p : Prop} (h : p := by
  have hil : i < l.length := Tx;have hE := hedge i hil;have ho : l.toArray[i]? = some l[i] := by simp [hil]
  rw [ho] at hE;have hmem : i ∈ Region.ready .any l.toArray L := (hready_spec i).2 ⟨hil, by
   have h3 : i < L.size := by rw [hI.ls, hnn]; exact hil
   rw [Array.getD_eq_getD_getElem?] at hu ⊢;rw [Array.getElem?_eq_getElem h3] at hu ⊢;simpa using hu, l[i], ho, fun e he hb => by
   have := Array.all_eq_true'.1 hE e he;simp only [hb, Bool.not_true, Bool.false_or, decide_eq_true_eq] at this;exact hlow _ this⟩
  rw [hnil] at hmem
  cases hmem) : p := h
theorem Nj {p : Prop} (h : p := by
  refine J3 ?_;refine gh ?_;refine G3 ?_;intro ws hh;simp only [List.set_cons_zero] at hh;rw [hand, es, Nat.mul_one, cM (by rw [hll]; omega), pj, ← b1, hfk] at hh;refine aa (al (mI ?_));refine lK (s := 1) (m := 2) rfl rfl Ty Ty Ty ?_;refine aI (aA (bA (ai (al (mI ?_)))));refine bh (aI (aA (ai ?_)));rw [es];refine ⟨⟨i + 1, Tx, rfl, by rw [b2]; rfl, hh⟩, by show K - (i + 1) < K - i; omega, ?_⟩;exact dL) : p := h
theorem MY {p : Prop} (h : p := by
  refine fa ?_;refine kt 3 Ty Tz Ty Tz Tz ?_;refine bW hh 2 [_,_] ?_;intro ws hh;replace hh : Hp _ (_ :: _ :: .blk _ _ [_, _] _ :: _) _ := hh;refine aB (aa (av ?_));refine SC (eI rfl (eJ (vs := [_, _]) aN.out (hh.ck (i := 3) (n := 2) rfl rfl) rfl) (eI rfl (eJ (vs := [_, _]) aN.out (hh.ck (i := 2) (n := 2) rfl rfl) rfl) (jZ (mr rfl) gg))) ?_;exact ⟨rfl, hh.below⟩) : p := h
theorem EF {p : Prop} (h : p := by
  refine fY (hc _ hh.below) ak.out rfl rfl Ty ?_;rintro e_ w16 ⟨rfl, hb_⟩;refine ⟨_, rfl, ?_⟩;replace hh := hh.ext hb_;refine Be ?_;refine bh (mI (aA (ai ?_)));refine ⟨⟨i + 1, Tx, rfl, by rw [ay hz, List.any_append, hall, List.any_cons, List.any_nil, gz]; rfl, hh⟩, by show n - (i + 1) < n - i; omega, ?_⟩;exact dL) : p := h
theorem MK {p : Prop} (h : p := by
  refine fa ?_;refine fK (i := 8) Tz rfl ?_;refine fY (hsm _ (hT.hp hh)) ak.out rfl rfl Ty ?_; rintro e_ w41 ⟨rfl, hb_⟩; refine ⟨_, rfl, ?_⟩; replace hh := hh.ext hb_;refine fa ?_;refine fK (i := 9) Tz rfl ?_;refine z6 ?_;intro b42 w42 hh;refine fa ?_;refine fK (i := 10) Tz rfl ?_;refine o7 ?_;intro A43 c43 w43 hh;simp only [List.set_cons_zero, List.set_cons_succ] at hh;replace hh := hh.sub (List.sublist_cons_self _ _);refine fa ?_;refine kt 15 Ty Tz Ty Tz Tz ?_;refine aL (aL (aL (aA (bA (bA (ai ?_))))));replace hh := hh.sub (List.Sublist.cons_cons _ List.Sublist.slnil);refine ⟨⟨_, n - 1, c - 1, X, _, m - 1, c2 - 1, Y, O ++ [⟨x.m, nR (x.c.d + y.c.d)⟩], A43, c43, rfl, rfl, ?_, Tx, Tx, hSt, hSt2, hmg.both h1 h2 hk, ?_⟩, by show (n - 1) + (m - 1) < n + m; omega, ?_⟩
  ·exact Sj
  ·rw [List.length_append, bV];exact hh
  ·exact dL) : p := h
theorem Nv {p : Prop} (h : p := by
  have zy := zx.mul zu;have hm2 := fun A cc w1 hT1 hS1 => ew A 2 cc [nR x, nR u] w1 hT1 hS1 (by simpa using ⟨zx.ok Tx, zu.ok Tx⟩) 600000 (by simpa [cf] using ⟨zx.mono Tx, zu.mono Tx⟩) Tx Tx;rw [show ic ([nR x, nR u].map NR.d) = x * u by simp only [List.map_cons, List.map_nil, cf]; show 1 * x * _ = _; rw [Dyadic.one_mul]] at hm2;generalize x * u = y at *;have hsum := fun A cc w1 hT1 hS1 => gL A 2 cc [nR o, nR y] w1 hT1 hS1 (by simpa using ⟨zo.ok Tx, zy.ok Tx⟩) 2000000 (by simpa [cf] using ⟨zo.mono Tx, zy.mono Tx⟩) Tx;rw [show md ([nR o, nR y].map NR.d) = o + y by simp only [List.map_cons, List.map_nil, cf, jU]] at hsum;have hrl := eF NR.len (S.map nR);refine aY 16 [[(4, none)], [(5, none)], [(7, none)], [(38, some 1), (39, some 2)], [(4, none)], [(5, none)], [(7, none)], [(42, some 5), (43, some 6)], [(41, some 4), (44, some 7)], [(45, some 8)], [(6, none)], [(8, none)], [(47, some 10), (48, some 11)], [(49, some 12)], [(46, some 9), (50, some 13)], [(51, some 14)]] [(15, 52), (14, 51), (13, 50), (12, 49), (11, 48), (10, 47), (9, 46), (8, 45), (7, 44), (6, 43), (5, 42), (4, 41), (3, 40), (2, 39), (1, 38), (0, 37)] hh mixed Tz ?_;refine gk ?_;refine dE ?_;refine dE ?_;refine rP ?_
  refine gk ?_;refine dE ?_;refine dE ?_;refine rP ?_;refine BQ ((i + j)) ?_;refine pE [_,_,_] (fun _ hj => hj.hp.eU (f := NR.cells) (x := nR o) (l := S.map nR) (i := 3) rfl NR.len Ty hon) ?_;refine fT 2 [_,_,_] ?_;refine fT 0 [_,_,_] ?_;refine sC [_,_,_,_,_,_] ?_;refine aR (i := 13) (Is (.agg #[.bool (nR y).neg, .string (nR y).bo, .int .i64 (nR y).e])) Is.ext ?_ ?_
  ·exact Sc
  refine sC [_,_,_,_,_,_] ?_;refine aR (i := 15) (Is (.agg #[.bool (nR (o + y)).neg, .string (nR (o + y)).bo, .int .i64 (nR (o + y)).e])) Is.ext ?_ ?_
  ·exact RW
  refine aT ?_;intro f W hJ hV;have hb_11 := hJ.bl;obtain ⟨v52, v51, v50, v49, v48, v47, v46, v45, v44, v43, v42, v41, v40, v39, v38, v37, _⟩ := hV;obtain ⟨A49, c49, e49, f49⟩ : Rows _ _ _ (f 12) W := v49;obtain ⟨A51, c51, e51, f51⟩ : Rows _ _ _ (f 14) W := v51;replace hh := hJ.hp;refine a6 (bm (ae v52 (ae e51 (ae v50 (ae e49 (ae v48 (ae v47 (ae v46 (ae v45 (ae v44 (ae v43 (ae v42 (ae v41 (ae v40 (ae v39 (ae v38 (ae v37 a0))))))))))))))))) ?_;dsimp only [cg];clear e49 e51 hJ;exact Ni) : p := h
theorem NM {p : Prop} (h : p := by
  refine cK (aB (aa (av ?_)));refine cX ?_;exact ⟨by rw [decide_eq_true hg], hh.below⟩) : p := h
theorem Nu {p : Prop} (h : p := by
  have h1 : bN m ≠ 0 := fun h => h0 (by rw [h, nn]);rw [decide_eq_true h1];exact ⟨rfl, hh.below⟩) : p := h
theorem Np {p : Prop} (h : p := by
  refine aS (aB (aa (av ?_)));refine Kl ?_;rw [decide_eq_true Tx];exact ⟨rfl, hh.below⟩) : p := h
theorem H7 {p : Prop} (h : p := by
  rw [List.getElem?_map, List.getElem?_range Tx]
  rfl) : p := h
theorem Mx {p : Prop} (h : p := by
  refine cK (aB (aa (av ?_)));refine cX ?_;exact ⟨by rw [decide_eq_false Tx], hh.below⟩) : p := h
theorem Hj {p : Prop} (h : p := by
  exact ⟨0, Nat.zero_le _, rfl, fun t ht => (nomatch ht), hh⟩) : p := h
theorem MB {p : Prop} (h : p := by
  rw [List.filterMap_cons];split
  ·exact List.nodup_nil
  ·exact List.nodup_cons.2 ⟨by simp, List.nodup_nil⟩) : p := h
theorem NW {p : Prop} (h : p := by
  obtain ⟨cs, h6, h7⟩ := h5 i Tx;rw [hc] at h6;obtain ⟨a, rfl, h8⟩ := one _ _ _ h7;exact ⟨a, h6, h8⟩) : p := h
theorem Pk {p : Prop} (h : p := by
  rw [ho] at ho'; injection ho' with ho'; subst ho'; exact hed) : p := h
theorem Q4 {p : Prop} (h : p := by
  exact ⟨⟨Tx, (hcp.my o ho).2, by rw [e2]; exact po.ok, by rw [e2]; exact po.sz⟩, by rw [e2]; exact pl⟩) : p := h
theorem Q3 {p : Prop} (h : p := by
  refine cX ?_;rw [← hcut, List.length_append, List.length_take, Nat.min_eq_left Tx];exact ⟨rfl, hh.below⟩) : p := h
theorem QO {p : Prop} (h : p := by
  exact ⟨0, 0, none, [], [], Nat.zero_le _, rfl, rfl, rfl, ⟨fun j g o _ h => (nomatch h), fun o h => (nomatch h)⟩, hh⟩) : p := h
theorem QC {p : Prop} (h : p := by
  have h1 : bN m = 0 := by rw [← nn] at h0; exact H4 h0
  rw [decide_eq_false Tx];exact ⟨rfl, hh.below⟩) : p := h
theorem Q6 {p : Prop} (h : p := by
  induction xs generalizing ys c with
  | nil => exact Dg.nil
  | cons x xs ih => exact Dg.cons (Nat.mod_lt _ hB) (ih _ _)) : p := h
theorem Qx {p : Prop} (h : p := by
  refine aS (aa (av ?_));refine cX ?_;rw [List.take_of_length_le Tx] at hT;rw [hT];exact ⟨rfl, hh.below⟩) : p := h
theorem RV {p : Prop} (h : p := by
  rw [ay hd] at hx
  rcases List.mem_append.1 hx with hx | hx
  ·exact hall x hx
  ·rw [List.mem_singleton.1 hx]; omega) : p := h
theorem P9 {p : Prop} (h : p := by
  rw [show (18446744073709551616 : Nat) = 2 ^ 64 from rfl, ← Nat.pow_mul];exact Nat.pow_le_pow_right Tx Tx) : p := h
theorem PY {p : Prop} (h : p := by
  rw [ie Tx (fV Tx _ _), dh hbd]) : p := h
theorem Ol {p : Prop} (h : p := by
  exact ⟨PX.nil, eK.err he, rfl, (hh.sub (List.nil_sublist _)).Cs⟩) : p := h
theorem Qy {p : Prop} (h : p := by
  rw [ay hx] at ht
  rcases List.mem_append.1 ht with ht | ht
  ·exact hall t ht
  ·rw [List.mem_singleton.1 ht]; exact KO hf) : p := h
theorem Sj {p : Prop} (h : p := by
  show Value.slice _ (O.length + 1) _ = Value.slice _ (O ++ [(⟨x.m, nR (x.c.d + y.c.d)⟩ : TR)]).length _;rw [List.length_append]
  rfl) : p := h
theorem LD {p : Prop} (h : p := by
  rw [hd] at h1;rw [hd];exact ⟨_, _, rfl, h1, hh.below⟩) : p := h
theorem Rm {p : Prop} (h : p := by
  unfold Program.cellsOf at hc
  cases hi : P.info? fd.type with
  | none => simp [hi] at hc
  | some i => exact ⟨i, rfl, by simpa [hi] using hc⟩) : p := h
theorem PQ {p : Prop} (h : p := by
  cases rest with
  | nil => simp at hlen; omega
  | cons x r => exact ⟨x, r, rfl⟩) : p := h
theorem QZ {p : Prop} (h : p := by
  rw [cI, Nat.add_mul_mod_self_left, Nat.mod_eq_of_lt hr2, Nat.add_mul_div_left _ _ Tx, Nat.div_eq_of_lt hr2, Nat.zero_add, tR];grind) : p := h
theorem Qm {p : Prop} (h : p := by
  refine Classical.byContradiction fun hn => hall fun i hi => ?_
  cases hc2 : L.getD i false with
  | true => rfl
  | false => exact absurd ⟨i, hi, hc2⟩ hn) : p := h
theorem Q5 {p : Prop} (h : p := by
  refine full L a w (fuel + 1) hI hall ?_;have hL : L = jc l.length m := xT (by rw [hI.ls, hnn]) hml hall hI.tl;rw [hL, Ck] at hc;omega) : p := h
theorem QU {p : Prop} (h : p := by
  have h2 := hD (i + 1) e (by simpa using he);refine ⟨h2.1, fun t ht => ?_⟩;have h3 := h2.2 t (jJ t ht);rwa [show j + 1 + i = j + (i + 1) by omega]) : p := h
theorem RA {p : Prop} (h : p := by
  unfold co;split
  ·cases h : X[ik ds ((cI ds p).set a i)]? with
   | none => exact Sz.zero k
   | some y => exact hx y (List.mem_of_getElem? h)
  ·exact Sz.zero k) : p := h
theorem Rc {p : Prop} (h : p := by
  refine ⟨Tx, ?_⟩;by_cases hc : x0 + 2 ^ i * (x1 % 2) < y0 + 2 ^ i * (y1 % 2)
  ·rw [if_pos hc]; rw [hlt] at hc; omega
  ·rw [if_neg hc]; rw [hlt] at hc; omega) : p := h
theorem OC {p : Prop} (h : p := by
  rcases Nat.eq_zero_or_pos n with h | h
  ·exact h
  ·obtain ⟨_, h1, _⟩ := hS.2 h; cases h1) : p := h
theorem Q8 {p : Prop} (h : p := by
  refine EM ?_;refine cX ?_;rw [hbad (by simp [cw]; omega), if_pos rfl];exact ⟨rfl, hh.below⟩) : p := h
theorem Qs {p : Prop} (h : p := by
  have e : ns = ns.take i ++ d :: ns.drop (i + 1) := by rw [← gH h, List.take_append_drop]
  conv => lhs; rw [e]
  rw [List.reverse_append, List.reverse_cons, List.append_assoc]
  rfl) : p := h
theorem Qd {p : Prop} (h : p := by
  refine bf (aa (cT (sr (aS (aB (aa (av (aG ?_))))))));refine Kl ?_;rw [Nat.sub_eq_zero_of_le Tx, decide_eq_false Tx, nn];exact ⟨rfl, hh.below⟩) : p := h
theorem Sc {p : Prop} (h : p := by
  intro ρ1 w1 hj hR;obtain ⟨A49, c49, h49, s49⟩ := hR.1;exact a8 rfl (aM ak.out (aw h49 aX)) (hm2 A49 c49 _ (hT.hp hj.hp) s49) (fun _ _ hq => ⟨_, hq.1, hq.2, rfl⟩)) : p := h
theorem RW {p : Prop} (h : p := by
  intro ρ1 w1 hj hR;obtain ⟨A51, c51, h51, s51⟩ := hR.1;exact a8 rfl (aM ak.out (aw h51 aX)) (hsum A51 c51 _ (hT.hp hj.hp) s51) (fun _ _ hq => ⟨_, hq.1, hq.2, rfl⟩)) : p := h
theorem OE {p : Prop} (h : p := by
  rw [Array.getD_eq_getD_getElem?] at hun ⊢;rw [Array.getElem?_eq_getElem hiL] at hun ⊢;simpa using hun) : p := h
theorem Pr {p : Prop} (h : p := by
  intro ρ1 w1 hj hR;exact let ⟨g, u, e1, e2⟩ := hR.1; fC rfl (ez e1) ⟨Below.refl _ _, g, u, rfl, e2⟩) : p := h
theorem Qf {p : Prop} (h : p := by
  have e1 : (O ++ X ++ Y).length = O.length + n + m := by rw [List.length_append, List.length_append]; omega
  exact ⟨O ++ X ++ Y, A74, c74, hd, by rw [e1], by rw [e1, bV, bV]; exact hh⟩) : p := h
theorem QB {p : Prop} (h : p := by
  refine aa (cT (sr (aS (aI (aa (av (aG (bY (aG (aG (bY (aG ?_))))))))))));refine Kl ?_;obtain ⟨e1, e2⟩ := Om hx (by simp [cw]; omega);rw [e1, e2];exact ⟨rfl, hh.below⟩) : p := h
theorem Rv {p : Prop} (h : p := by
  intro ρ1 w1 hj hR;exact fC rfl (g6 (k := a) bg.out aN.size ((show ρ1 65 = Value.slice _ _ _ from hR.1).trans mb) (show ρ1 66 = Value.int _ _ from hR.2.1) Tx Tx) ⟨Below.refl _ _, rfl⟩) : p := h
theorem Qo {p : Prop} (h : p := by
  refine sr ?_;refine HP ?_;refine cX ?_;exact ⟨_, _, rfl, hh.sub (List.Sublist.cons_cons _ (List.nil_sublist _))⟩) : p := h
theorem OO {p : Prop} (h : p := by
  intro ρ1 w1 hj hR;exact let ⟨g, u, e1, e2⟩ := hR.1; fC rfl (fi (vs := [_, _]) e1 rfl) ⟨Below.refl _ _, rfl⟩) : p := h
theorem Rp {p : Prop} (h : p := by
  refine uQ rfl (aw (CA rfl) (aw (CA rfl) aX)) Ty ?_;refine j1 (by first | exact sj rfl | exact su rfl) Ty ?_;refine aa (av ?_);refine cX ?_;exact ⟨_, _, rfl, hh⟩) : p := h
theorem QK {p : Prop} (h : p := by
  have h3 := hdep (i - m) Tx;rw [show m + (i - m) = i by omega] at h3;have h4 : (i - m == 0) = false := by simp; omega
  rw [h4, Bool.false_or] at h3;have := j0 hM hI.cl i m hed' h3;rw [hI.tl m (Nat.le_refl _)] at this
  cases this) : p := h
theorem Qq {p : Prop} (h : p := by
  have h1 : (Op.equal 65 (.agg #[.bool s, .string a, .int .i64 e]) (.agg #[.bool s', .string a', .int .i64 e'])).run Tryz.prog w = .ok r w := by rw [← hr]; exact Kg 9997 s s' a a' e e' w
  simp only [execOp, hx, hy];simp [eqGuard, binOp, h1]) : p := h
theorem OD {p : Prop} (h : p := by
  intro ρ1 w1 hj hR;exact let ⟨g, u, e1, e2⟩ := hR.1; fC rfl (fi (vs := [_, _]) e1 rfl) ⟨Below.refl _ _, g, u, rfl, e2⟩) : p := h
theorem Rs {p : Prop} (h : p := by
  refine ⟨hI.nd, hI.sz, fun s => ?_⟩;by_cases hs : ∃ i, (i, s) ∈ ds
  ·obtain ⟨i, hi⟩ := hs;rw [(lL _ ds s hnd).1 i hi, (hdsm i s hi).2]
  ·rw [(lL _ ds s hnd).2 fun i hi => hs ⟨i, hi⟩];exact hI.Kk s fun i hi _ hd => hs ⟨i, hpre i s hi hd⟩) : p := h
theorem OY {p : Prop} (h : p := by
  have := ue n zc;rw [hzl] at this;unfold madeCells;rw [hzc];have e2 : zc.toArray.size = sz := by simpa using hzl
  rw [e2, this]) : p := h
theorem Q7 {p : Prop} (h : p := by
  have h1 : M < 256 ^ (aU 256 M).length := o8 Tx M;rw [Iq Tx h1, Nat.sub_self, List.replicate_zero, List.append_nil, Gx (fun d hd => (dI (B := 256) Tx M).1 d (List.mem_reverse.1 hd)), sb, List.map_reverse]) : p := h
theorem QR {p : Prop} (h : p := by
  obtain rfl : i = n := Tx;rw [List.take_of_length_le Tx] at hh;refine ah (sr (mI (mL (aJ ?_))));refine bf (aa (cF (aZ (aD (aD (bq (ai (sr (mL (aL (aa (av ?_))))))))))));refine cX ?_;exact ⟨_, _, rfl, hh⟩) : p := h
theorem Qk {p : Prop} (h : p := by
  rintro e a' w' ⟨ρ', hf', hq⟩;have e1 : (fun i => a.tmps.getD i undef) = ρ := funext hf.at_;have e2 : (fun i => a'.tmps.getD i undef) = ρ' := funext hf'.at_
  cases e with
  | normal => exact ⟨⟨ρ', hf', hq.1⟩, by rw [e1, e2]; exact hq.2⟩
  | _ => exact ⟨ρ', hf', hq⟩) : p := h
theorem OL {p : Prop} (h : p := by
  refine aI (aa (sr (mI ?_)));refine cK (aa (cT (sr (mI (aI (aa (av (aG ?_))))))));refine cX ?_;exact ⟨rfl, hh.below⟩) : p := h
theorem QX {p : Prop} (h : p := by
  have h1 : z.natAbs = y.natAbs * 2 ^ j := by rw [← hyz, Int.natAbs_mul, Int.natAbs_pow]; rfl
  have h2 : y.natAbs * 1 ≤ y.natAbs * 2 ^ j := Nat.mul_le_mul_left _ (Nat.pow_pos Tx);have h3 : bC y.natAbs ≤ 8 * a.size := dv Tx;rw [lr];omega) : p := h
theorem OR {p : Prop} (h : p := by
  refine aa (cT (sr (aI (aa (av (aG (bY (aG (aG (bY (aG ?_)))))))))));refine cX ?_;exact ⟨by rw [hc], hh.below⟩) : p := h
theorem Rw {p : Prop} (h : p := by
  rw [Nat.sub_self, List.replicate_zero, List.append_nil] at hh;refine ah (sr (mI (mL (aJ ?_))));refine bf (aa (cF (aZ (aD (aD (bq (ai (sr (mL (aL (aa (av ?_))))))))))));refine cX ?_;exact ⟨_, rfl, hh.at_ (i := 0) rfl, hh.below⟩) : p := h
theorem Q9 {p : Prop} (h : p := by
  refine bW hh 0 [_,_,_,_,_,_] ?_;intro ws hh;replace hh : Hp _ (.blk _ _ [_, _, _, _, _, _] _ :: _) _ := hh;refine aa (av ?_);refine KT (eI rfl (eJ (vs := [_, _, _, _, _, _]) aN.out (hh.ck (i := 0) (n := 6) rfl rfl) rfl) gg) ?_;exact ⟨rfl, hh.below⟩) : p := h
theorem Rg {p : Prop} (h : p := by
  have hr0 : rest = [] := List.eq_nil_of_length_eq_zero Tx;subst hr0;refine sr ?_;refine bf (aa (ah (cF (aZ (aD (aD (bq ?_)))))));refine PF (by first | exact .inr rfl | exact .inl rfl) rfl  ?_;rw [List.append_nil, g7, List.append_nil] at *;rw [← heq];exact ⟨rfl, hh⟩) : p := h
theorem Rx {p : Prop} (h : p := by
  rw [hu];refine bW hh 1 [_,_] ?_;intro ws hh;replace hh : Hp _ (_ :: .blk _ _ [_, _] _ :: _) _ := hh;refine aa (av ?_);refine AZ ?_;rw [List.take_of_length_le Tx] at hS2;rw [hS2];exact ⟨rfl, hh.below⟩) : p := h
theorem O0 {p : Prop} (h : p := by
  intro w9 hh;refine ⟨(eI rfl (eJ (vs := [_, _, _]) aN.out (hh.ck (i := 0) (n := 3) rfl rfl) rfl) (jZ (kP rfl) gg)), ?_⟩;exact ⟨rfl, hh.below⟩) : p := h
theorem PS {p : Prop} (h : p := by
  refine sr ?_;refine HP ?_;refine cX ?_;exact ⟨_, _, rfl, hh⟩) : p := h
theorem K7 {p : Prop} (h : p := by
  exact TB) : p := h
theorem F1 {p : Prop} (h : p := by
  refine aS (aa (av ?_));refine cX ?_;exact ⟨rfl, hh.below⟩) : p := h
theorem Jr {p : Prop} (h : p := by
  refine Ay ?_;refine cX ?_;exact ⟨rfl, hh.below⟩) : p := h
theorem Pu {p : Prop} (h : p := by
  rw [hds, List.mem_reverse, List.mem_filterMap];refine ⟨(some d, i), ?_, rfl⟩;rw [List.mem_zipIdx_iff_getElem?];rw [List.getElem?_map, List.getElem?_range hi];simp only [Option.map_some, hd]) : p := h
theorem Pn {p : Prop} (h : p := by
  refine aa (cT (sr (aL (aa (av (aG (bY (aG (aG (bY (aG ?_)))))))))));refine cX ?_;simp only [yy, hf];exact Jt) : p := h
theorem OW {p : Prop} (h : p := by
  refine sr ?_;refine HP ?_;refine cX ?_;exact ⟨_, _, rfl, hh.at_ (i := 0) rfl, hh.below⟩) : p := h
theorem zr {p : Prop} (h : p := by
  refine aI (aa (av ?_));refine cX ?_;exact ⟨rfl, hh.below⟩) : p := h
theorem O9 {p : Prop} (h : p := by
  intro A7 c7 w7 hh;simp only [List.set_cons_zero] at hh;rw [Nat.zero_add] at hh ⊢;rw [List.nil_append] at hh;refine aL (aa (av ?_));refine cX ?_;exact ⟨_, _, rfl, hh.at_ (i := 0) rfl, hh.below⟩) : p := h
theorem RD {p : Prop} (h : p := by
  refine aI (aa (sr (mI ?_)));refine cK (aa (cT (sr ?_)));refine gj [_,_] (mI ?_);refine bW hh 0 [_,_] ?_;intro ws hh;replace hh : Hp _ (.blk _ _ [_, _] _ :: _) _ := hh;refine aI (aa (av (aG ?_)));refine yZ ?_;exact ⟨FX.nil, Out.err hE, rfl, (hh.sub (List.nil_sublist _)).Qz⟩) : p := h
theorem OX {p : Prop} (h : p := by
  refine sr (aL (aa (ah (sr (mL ?_)))));refine sA bg.out rfl rfl Ty ?_;refine aa (cT (sr (aL (aa (av (aG ?_))))));refine cX ?_;exact ⟨_, _, rfl, World.ownsRow_nil _ _ _ _, hh.below⟩) : p := h
theorem Pb {p : Prop} (h : p := by
  have p1 := hpre i d hi h1;have p2 := hpre j d hj h2;have e1 := ((lL (ρ := ρ) (fun i => .int .i64 i) ds d hnd).1 i p1).symm.trans ((lL (ρ := ρ) (fun i => .int .i64 i) ds d hnd).1 j p2);injection e1 with _ e1
  omega) : p := h
theorem Ru {p : Prop} (h : p := by
  refine sr ?_;refine mu ?_;refine cD hh 0 [_,_,_] ?_;refine bW hh 1 [_,_,_] ?_;intro ws hh;replace hh : Hp _ (_ :: .blk _ _ [_, _, _] _ :: _) _ := hh;refine aa (av ?_);refine KT (eI rfl (eJ (vs := [_, _, _]) aN.out (hh.ck (i := 1) (n := 3) rfl rfl) rfl) gg) ?_;rw [List.take_of_length_le Tx] at hS2;rw [hS2];exact ⟨rfl, hh.below⟩) : p := h
theorem Rj {p : Prop} (h : p := by
  refine aa (cF (aZ (aD (aD (bq (ai (ah (sr (mI ?_)))))))));refine cK (aa (cT (sr ?_)));refine gj [_,_] (mI ?_);refine bW hh 2 [_,_] ?_;intro ws hh;replace hh : Hp _ (_ :: _ :: .blk _ _ [_, _] _ :: _) _ := hh;refine aI (aa (av (aG ?_)));refine rp ?_;exact ⟨PX.nil, eK.err he0, rfl, (hh.sub (List.nil_sublist _)).Cs⟩) : p := h
theorem RC {p : Prop} (h : p := by
  refine aB (aa (av (aG ?_)));refine cX ?_;exact ⟨rfl, hh.below⟩) : p := h
theorem Og {p : Prop} (h : p := by
  refine bW hh 1 [_,_,_] ?_;intro ws hh;replace hh : Hp _ (_ :: .blk _ _ [_, _, _] _ :: _) _ := hh;refine aa (av ?_);refine KT (eI rfl (eJ (vs := [_, _, _]) aN.out (hh.ck (i := 1) (n := 3) rfl rfl) rfl) gg) ?_;exact ⟨rfl, hh.below⟩) : p := h
theorem Qc {p : Prop} (h : p := by
  simp only [cm];rw [← htake];have h5 : o + vs.length ≤ m * sz := Tx;have h6 : m * sz ≤ cur.toList.length := by rw [← hcl, hcur]; exact hle
  rw [List.take_take, Nat.min_eq_left Tx, List.drop_take, List.append_assoc, List.append_assoc, List.take_append, List.take_append];simp only [List.length_take, Nat.min_eq_left (show o ≤ cur.toList.length by omega)];rw [List.take_of_length_le (l := cur.toList.take o) (by simp; omega), List.take_of_length_le (l := vs) Tx];congr 2;congr 1;omega) : p := h
theorem zi {p : Prop} (h : p := by
  refine cX ?_;exact ⟨_, rfl, fun h => (by cases h), hh.below⟩) : p := h
theorem vi {p : Prop} (h : p := by
  refine aB (aa (av ?_));refine cX ?_;exact ⟨rfl, hh.below⟩) : p := h
theorem Oq {p : Prop} (h : p := by
  rw [List.take_of_length_le Tx] at hall;refine sr ?_;refine Ea ?_;refine cX ?_;exact ⟨_, rfl, ⟨fun h => absurd h Ty, fun h => by rw [hall] at h; cases h⟩, hh.below⟩) : p := h
theorem QH {p : Prop} (h : p := by
  intro L a w hI hc;have hall : ∀ i, i < l.length → L.getD i false = true := fun i hi => by
   exact Nx
  have hmn : l.length ≤ 0 + m := by
   rcases Nat.lt_or_ge m l.length with h | h
   ·have h1 := hall m h;rw [hI.tl m (Nat.le_refl _)] at h1
    cases h1
   ·omega
  exact full L a w 0 hI (fun i hi => hall i Tx) hmn) : p := h
theorem Qn {p : Prop} (h : p := by
  have hdm : j / sz * sz + j % sz = j := by rw [Nat.mul_comm]; exact Nat.div_add_mod j sz
  have hmod : j % sz < sz := Nat.mod_lt _ h0;have hj : j / sz < l.length := by
   have := (List.getElem?_eq_some_iff.1 hu).1;rw [eF hf] at this;exact Nat.div_lt_of_lt_mul (by rw [Nat.mul_comm]; exact this)
  obtain ⟨x, hx⟩ := ao hj;have h6 := tP hf hx;have h7 : (f x)[j % sz]? = some u := by
   rw [← h6, List.getElem?_take, if_pos hmod, List.getElem?_drop, hdm];exact hu
  have h8 := (World.cells?_some (hp _ _ hx).1).2.2 (j % sz) hmod;rw [h7, lz, hdm] at h8;exact h8) : p := h
theorem Q0 {p : Prop} (h : p := by
  have hJ0 : J ({ w with drawn := w.drawn + 1 } : World) := hJ w _ h0 ⟨rfl, rfl, rfl, Nat.le_refl _, fun _ _ => rfl⟩;have hr0 : ∀ i, (Array.replicate l.toArray.size false).getD i false = false := fun i => by
   rw [Array.getD_eq_getD_getElem?, Array.getElem?_replicate]; split <;> rfl
  refine key _ _ _ _ ⟨hf.nd, hf.sz, hJ0, by simp, fun k o _ hk => ?_, fun k _ => hr0 k, fun i d _ hi => ?_, fun s _ => hf.at_ s, fun i _ hi => ?_, fun i _ j _ _ hi => ?_⟩ ?_
  ·rw [hr0] at hk; cases hk
  ·rw [hr0] at hi; cases hi
  ·rw [hr0] at hi; cases hi
  ·rw [hr0] at hi; cases hi
  ·simp [List.countP_replicate]) : p := h
theorem QI {p : Prop} (h : p := by
  refine bW hh 0 [_,_] ?_;intro ws hh;replace hh : Hp _ (.blk _ _ [_, _] _ :: _) _ := hh;refine aI (aa (av (aG ?_)));refine yZ ?_;exact ⟨PX.nil, eK.err Tx, rfl, (hh.sub (List.nil_sublist _)).Cs⟩) : p := h
theorem RB {p : Prop} (h : p := by
  refine bW hh 2 [_,_] ?_;intro ws hh;replace hh : Hp _ (_ :: _ :: .blk _ _ [_, _] _ :: _) _ := hh;refine aI (aa (av ?_));refine rp ?_;exact Dq) : p := h
theorem Pw {p : Prop} (h : p := by
  refine fY (hc _ hh.below) ak.out rfl rfl Ty ?_;rintro e_ w16 ⟨rfl, hb_⟩;refine ⟨_, rfl, ?_⟩;replace hh := hh.ext hb_;refine aa (cT (sr (mI (aI (aa (av (bY (aG (aG (bY (aG ?_)))))))))));refine cX ?_;exact ⟨_, rfl, ⟨fun _ => List.any_eq_true.2 ⟨z, List.mem_of_getElem? hz, gz⟩, fun _ => by omega⟩, hh.below⟩) : p := h
theorem Ok {p : Prop} (h : p := by
  rintro e_ w7 ⟨v_, rfl, hv_, hb_⟩;refine ⟨_, rfl, ?_⟩;replace hh := hh.ext hb_
  cases ga : l.any p with
  | true =>
   have h0 := hv_.2 ga;exact Dv
  | false =>
   have h0 : ¬ 0 ≤ v_ := fun h => by rw [hv_.1 h] at ga; cases ga
   exact Dv) : p := h
theorem QP {p : Prop} (h : p := by
  unfold ByteArray.toList;have : ∀ (n i : Nat) (r : List UInt8), s.size - i = n → ByteArray.toList.loop s i r = r.reverse ++ s.data.toList.drop i := by
   intro n
   induction n with
   | zero =>
    intro i r h;rw [ByteArray.toList.loop, if_neg Tx, List.drop_of_length_le (by rw [Array.length_toList]; show s.size ≤ i; omega)];simp
   | succ n ih =>
    intro i r h;have hi : i < s.size := Tx;rw [ByteArray.toList.loop, if_pos hi, ih (i + 1) _ Tx];have hi2 : i < s.data.toList.length := by rw [Array.length_toList]; exact hi
    rw [List.drop_eq_getElem_cons hi2];have : s.get! i = s.data.toList[i] := by
     show s.data[i]! = _;rw [getElem!_pos s.data i (by simpa using hi2)];simp
    simp [this]
  simpa using this (s.size - 0) 0 [] rfl) : p := h
theorem Ov {p : Prop} (h : p := by
  have h16 : ¬ 2 ^ 24 < len * sz := Tx;have hf' := xz _ _ _ hf;rw [← ue, hzl] at hf';have hzs : zc.toArray.size = sz := by simpa using hzl
  have hp' := E7 parts hp;simp only [execOp, hp', Instr.buildSlice, Sem.run_bind, run_underlying ht, Result.andThen_ok, eN hte, gt_iff_lt, if_neg h16, if_neg h0, hz, hzc, Sem.run_pure, hzs, hf'];simp [newRow]) : p := h
theorem PD {p : Prop} (h : p := by
  simp only [D0]
  rcases Nat.lt_or_ge i l.length with hi | hi
  ·rw [Array.getD_eq_getD_getElem?, Array.getElem?_append_left (by simpa using hi)];simp [List.getD_eq_getElem?_getD]
  ·rw [Array.getD_eq_getD_getElem?, Array.getElem?_append_right (by simpa using hi)];simp only [List.getD_eq_getElem?_getD, List.getElem?_eq_none hi, Option.getD_none, Array.getElem?_replicate];split <;> rfl) : p := h
theorem Qt {p : Prop} (h : p := by
  refine fa ?_;refine kt 3 Ty Tz Ty Tz Tz ?_;refine bW hh 3 [_,_] ?_;intro ws hh;replace hh : Hp _ (_ :: _ :: _ :: .blk _ _ [_, _] _ :: _) _ := hh;refine aB (aa (av ?_));refine SC (eI rfl (eJ (vs := [_, _]) aN.out (hh.ck (i := 4) (n := 2) rfl rfl) rfl) (eI rfl (eJ (vs := [_, _]) aN.out (hh.ck (i := 3) (n := 2) rfl rfl) rfl) (jZ (mr rfl) gg))) ?_;exact ⟨rfl, hh.below⟩) : p := h
theorem O2 {p : Prop} (h : p := by
  refine Dx ?_;exact Dq) : p := h
theorem O3 {p : Prop} (h : p := by
  rw [hds, List.mem_reverse, List.mem_filterMap] at hp;obtain ⟨⟨x, k⟩, hx, hxe⟩ := hp;rw [List.mem_zipIdx_iff_getElem?] at hx
  cases x with
  | none => simp at hxe
  | some d' =>
   simp only [Option.map_some, Option.some.injEq, Prod.mk.injEq] at hxe;obtain ⟨rfl, rfl⟩ := hxe;rw [List.getElem?_map] at hx
   cases hr : (List.range m)[k]? with
   | none => rw [hr] at hx; simp at hx
   | some y =>
    have hkm : k < m := by
     have := (List.getElem?_eq_some_iff.1 hr).1;simpa using this
    rw [List.getElem?_range hkm] at hx;simp only [Option.map_some, Option.some.injEq] at hx;exact ⟨hkm, hx⟩) : p := h
theorem Ia {p : Prop} (h : p := by
  refine bW hh 1 [_,_] ?_;intro ws hh;replace hh : Hp _ (_ :: .blk _ _ [_, _] _ :: _) _ := hh;refine aa (av ?_);exact Ns) : p := h
theorem P7 {p : Prop} (h : p := by
  exfalso;have hmin : ∀ k, (∃ i, i < k ∧ i < m ∧ L.getD i false = false) → ∃ i, i < m ∧ L.getD i false = false ∧ ∀ j, j < i → L.getD j false = true := by
   intro k
   induction k with
   | zero => rintro ⟨i, h, _⟩; omega
   | succ k ihk =>
    rintro ⟨i, h1, h2, h3⟩;by_cases hex : ∃ i, i < k ∧ i < m ∧ L.getD i false = false
    ·exact ihk hex
    ·exact Nh
  obtain ⟨i0, h1, h2⟩ := hsome;obtain ⟨i, hi, hu, hlow⟩ := hmin (i0 + 1) ⟨i0, Tx, h1, h2⟩;exact N7) : p := h
theorem KD {p : Prop} (h : p := by
  refine aI (aa (sr (mI ?_)));refine cK (aa (cT (sr ?_)));refine gj [_,_] (mI ?_);refine bW hh 0 [_,_] ?_;intro ws hh;replace hh : Hp _ (.blk _ _ [_, _] _ :: _) _ := hh;refine aI (aa (av (aG ?_)));refine yZ ?_;exact ⟨PX.nil, eK.err h0, rfl, (hh.sub (List.nil_sublist _)).Cs⟩) : p := h
theorem Pt {p : Prop} (h : p := by
  unfold Region.ready;rw [List.mem_filter, List.mem_range, hnn];constructor
  ·rintro ⟨h1, h2⟩;have ho : l.toArray[i]? = some l[i] := by simp [h1]
   rw [ho] at h2;simp only [Option.map_some, Option.getD_some, Bool.and_eq_true, Bool.not_eq_true'] at h2;refine ⟨h1, h2.1, l[i], ho, fun e he hb => ?_⟩;have := Array.all_eq_true'.1 h2.2 e he;simpa [hb] using this
  ·rintro ⟨h1, h2, o, ho, h3⟩;refine ⟨h1, ?_⟩;rw [ho];simp only [Option.map_some, Option.getD_some, Bool.and_eq_true, Bool.not_eq_true'];refine ⟨h2, Array.all_eq_true'.2 fun e he => ?_⟩
   cases hb : Region.binds .any e with
   | false => simp
   | true => simpa [hb] using h3 e he hb) : p := h
theorem R1 {p : Prop} (h : p := by
  exact Nb) : p := h
theorem Sg {p : Prop} (h : p := by
  refine mB ?_;refine gS ?_;refine iJ ?_;refine gS ?_;refine fu ?_;refine aa (cT (sr ?_));refine bz hh (jw _ (hT.hp hh)) rfl ?_;intro w53 hh;refine aB (aa (av (aG ?_)));refine cX ?_;exact ⟨rfl, hh.below⟩) : p := h
theorem Ob {p : Prop} (h : p := by
  refine bW hh 0 [_,_] ?_;intro ws hh;replace hh : Hp _ (.blk _ _ [_, _] _ :: _) _ := hh;refine aa (av ?_);exact Nb) : p := h
theorem NF {p : Prop} (h : p := by
  refine qX (c := cc) bg.out rfl rfl Tx hcc Ty ?_;skip;refine Bx ?_;refine bh (aI (aa (av ?_)));refine cX ?_;refine ⟨?_, Below.refl _ _⟩;congr 2;rw [hcv];omega) : p := h
theorem Lr {p : Prop} (h : p := by
  refine bW hh 0 [_,_,_] ?_;intro ws hh;replace hh : Hp _ (.blk _ _ [_, _, _] _ :: _) _ := hh;refine aa (av ?_);exact Nz) : p := h
theorem SE {p : Prop} (h : p := by
  refine nJ ?_;refine dS (dS (dS (dU (dU (dU (dU ?_))))));refine AJ (i := 28) rfl (fun ρ1 w1 hj hR => (show ρ1 44 = undef from hR.2.2.1)) ?_;refine dU (dU (dU (dU ?_)));refine aT ?_;intro f W hJ hV _;have hb_8 := hJ.bl;obtain ⟨v53, v52, v51, v50, v49, v48, v47, v46, v45, v44, v43, v42, v41, v40, v39, v38, v37, v36, v35, v34, v33, v32, v31, v30, v29, v28, v27, v26, v25, v24, v23, v22, v21, _⟩ := hV;replace hh := hJ.hp;refine El ?_;dsimp only [cg];clear hJ;refine gV (gS ?_);refine fu ?_;refine EM ?_;refine cX ?_;exact ⟨rfl, hh.below⟩) : p := h
theorem Sx {p : Prop} (h : p := by
  intro w40 hh;rw [e9];refine bf (aa (cF (ar (ai (ah ?_)))));refine p5 hh mixed fun w_ hj_ => ?_;replace hh := hj_.hp;clear hj_;refine sS (i := 0) (i2 := 1) Tz rfl rfl ?_ ?_
  ·refine cD hh 1 [_,_] ?_;refine fa ?_;refine sS (i := 1) (i2 := 2) Tz rfl rfl ?_ ?_
   ·refine cD hh 0 [_,_] ?_;exact NT
   ·refine bW hh 3 [_,_] ?_;intro ws hh;replace hh : Hp _ (_ :: _ :: _ :: .blk _ _ [_, _] _ :: _) _ := hh;refine fa ?_;refine fK (i := 1) Tz rfl ?_;refine cD hh 0 [_,_] ?_;exact MY
  ·refine cD hh 0 [_,_] ?_;refine fa ?_;refine fK (i := 0) Tz rfl ?_;refine cD hh 1 [_,_] ?_;exact NT) : p := h
theorem L5 {p : Prop} (h : p := by
  refine gj [_,_] ?_;refine bW hh 0 [_,_] ?_;intro ws hh;replace hh : Hp _ (.blk _ _ [_, _] _ :: _) _ := hh;refine aI (aa (av (aG ?_)));refine yZ ?_;exact ⟨PX.nil, eK.err Ty, rfl, (hh.sub (List.nil_sublist _)).Cs⟩) : p := h
theorem RO {p : Prop} (h : p := by
  rw [hs];refine mI ?_;refine gj [_,_,_,_,_] ?_;refine bR hh ?_;intro b6 w6 hh;refine bW hh 0 [_,_,_,_,_] ?_;intro ws hh;replace hh : Hp _ (.blk _ _ [_, _, _, _, _] _ :: _) _ := hh;refine aa (ah ?_);refine aY 9 [[(6, none)], [(30, some 0)], [(2, none)], [(31, some 1), (32, some 2)], [(6, none)], [(34, some 4)], [(3, none)], [(35, some 5), (36, some 6)], [(6, none)]] [(8, 38), (7, 37), (6, 36), (5, 35), (4, 34), (3, 33), (2, 32), (1, 31), (0, 30)] hh mixed Tz ?_;refine dV ?_;refine fJ 0 ?_;refine fT 3 [_,_,_] ?_;refine dC (fun _ hj => hcx _ (hT.hp hj.hp)) ?_;refine dV ?_;refine fJ 0 ?_;refine fT 2 [_,_,_] ?_;refine dC (fun _ hj => hcy _ (hT.hp hj.hp)) ?_;refine dV ?_;refine aT ?_;intro f W hJ hV;have hb_8 := hJ.bl;obtain ⟨v38, v37, v36, v35, v34, v33, v32, v31, v30, _⟩ := hV;replace hh := hJ.hp;refine a6 (bm (ae v38 (ae v37 (ae v36 (ae v35 (ae v34 (ae v33 (ae v32 (ae v31 (ae v30 a0)))))))))) ?_;dsimp only [cg];clear hJ;refine bW hh 0 [_,_] ?_;intro ws hh;replace hh : Hp _ (.blk _ _ [_, _, _, _, _] _ :: _) _ := hh;refine bD ?_;refine bW hh 0 [_,_] ?_;intro ws hh;replace hh : Hp _ (.blk _ _ [_, _, _, _, _] _ :: _) _ := hh;refine aa (sr ?_);refine cD hh 0 [_,_,_,_,_] ?_
  refine bW hh 1 [_,_,_,_,_] ?_;intro ws hh;replace hh : Hp _ (_ :: .blk _ _ [_, _, _, _, _] _ :: _) _ := hh;refine aa (av ?_);refine KT (eI rfl (eJ (vs := [_, _, _, _, _]) aN.out (hh.ck (i := 1) (n := 5) rfl rfl) rfl) gg) ?_;exact ⟨rfl, hh.below⟩) : p := h
theorem dL {p : Prop} (h : p := by
  exact TA) : p := h
section
variable {H : Type} {enc : TypeId × Value → H} {P : Program}
theorem nN (hl : laidOutB P = true) {W W' : World} (hb : Below W.heap.size W W') (sp : Nat → Bool) : ∀ (ts : List TypeId) (vs : List Value) (ds : List (DataW H)) (ps : List MemPlace), (∀ t ∈ ts, P.readableRec t = true ∧ t < P.types.size) →
  (∀ x ∈ ps, x.block < W.heap.size) → (∀ x ∈ ps, sp x.block = true) → DataW.TrodAll enc P W 0 (fun _ => true) true ts vs ds ps → DataW.TrodAll enc P W' 0 sp true ts vs ds ps
 | [], vs, ds, ps, _, _, _, h => by
  obtain ⟨rfl, rfl, rfl⟩ := trodAll_nil h;exact trodAll_mk0
 | t :: ts, vs, ds, ps, hr, hlt, hsp, h => by
  obtain ⟨v, vs', d, ds', p, q, rfl, rfl, rfl, h0, r0⟩ := trodAll_cons h;refine trodAll_cons_mk (WideElems.Trod_stays hl (hr t List.mem_cons_self).1 (hr t List.mem_cons_self).2 h0 (fun x hx => hb.same (hlt x (List.mem_append_left _ hx))) (fun x hx => hsp x (List.mem_append_left _ hx)))
   (nN hl hb sp ts vs' ds' q (fun t ht => hr t (List.mem_cons_of_mem _ ht)) (fun x hx => hlt x (List.mem_append_right _ hx)) (fun x hx => hsp x (List.mem_append_right _ hx)) r0)
theorem HS {f : Func} {s : ChangeSpec} {W W' : World} {args : Array Value} {ds : List (DataW H)} {before : List MemPlace} {tb : TypeId}
  (hW : DataW.Whole enc P f.params.toList s.vars false W args.toList ds [] before) (hv : s.vars = []) (hl : laidOutB P = true) (hr : ∀ t ∈ f.params.toList, P.readableRec t = true ∧ t < P.types.size)
  (hres : f.resultTypes = #[tb]) (hbool : P.underlying tb = some .bool) (hs1 : (s.fn H (ds ++ [])).results = [.lit (.bool true)]) (hs2 : (s.fn H (ds ++ [])).args = ds) (hs3 : (s.fn H (ds ++ [])).vars = []) (hb : Below W.heap.size W W') :
  s.post enc P f false true false false W args (.bool true) W' := by
 have hlt : ∀ p ∈ before, p.block < W.heap.size := fun p hp => by simpa using hW.lt p hp
 have hold : ∀ p ∈ before, (fun b => decide (b < W.heap.size)) p.block = true := fun p hp => by simpa using hlt p hp
 have hW0 := hW;obtain ⟨pa, pv, hA, hV, hps, hz, hn⟩ := hW0;rw [hv] at hV;obtain ⟨_, rfl⟩ := trodVars_none hV;have hbp : before = pa := by rw [hps, List.append_nil]
 subst hbp;have hA' : ∀ sp : Nat → Bool, (∀ p ∈ before, sp p.block = true) → DataW.TrodAll enc P W' 0 sp true f.params.toList args.toList (s.fn H (ds ++ [])).args before := fun sp hsp => by
  rw [hs2];exact nN hl hb sp _ _ _ _ hr hlt hsp hA
 have hV' : ∀ sp : Nat → Bool, DataW.TrodVars enc P W' sp s.vars (s.fn H (ds ++ [])).vars [] := fun sp => by
  rw [hv, hs3]; rfl
 have hR : ∀ (b : Nat) (sp : Nat → Bool) (hd : Bool), DataW.TrodAll enc P W' b sp hd f.resultTypes.toList ((Value.bool true).resultList f.resultTypes.size) (s.fn H (ds ++ [])).results [] := fun b sp hd => by
  rw [hres, hs1];exact trodAll_cons_mk (shut_bool hbool _) trodAll_mk0
 refine ⟨ds, [], before, [], before, [], hW, hR _ _ _, hA' _ hold, hV' _, World.keptBut_mono (fun p hp => ⟨hp, ?_⟩) (hb.frame (· ∈ before)), fun _ => ?_⟩
 ·exact .inr (.inl hp)
 ·refine ⟨ok_one hres rfl (okWide_bool_mk hbool _), _, _, ([] ++ before) ++ [], ⟨[] ++ before, [], trodAll_append (hA' _ (fun _ _ => rfl)) (hR _ _ _), hV' _, rfl, ?_, ?_⟩, ?_⟩
  ·intro b off hp;have hp2 := hz b off (by simpa using hp);rw [hb.frozen (hlt _ (by simpa using hp))];exact hp2
  ·intro ha
   cases ha
  ·intro p hp _;simpa using hp
end
open Go.RowKit
abbrev Rf := Nat → Value
def cG (ρ : Rf) (d : Nat) (v : Value) : Rf := fun i => bif Nat.beq i d then v else ρ i
def ev (ρ : Rf) : Operand → Value
 | .tmp t => ρ t
 | .const v => v
 | .global g => .pointer (some ⟨g, 0, none⟩)
 | .func f => .func (.func f) #[] #[]
structure eh (N : Nat) (D : List Deferred) (a : Act) (ρ : Rf) : Prop where
 nd : a.defers = D
 sz : a.tmps.size = N
 at_ : ∀ i, a.tmps.getD i undef = ρ i
abbrev Fits (N : Nat) (a : Act) (ρ : Rf) : Prop := eh N [] a ρ
theorem eh.eval {N : Nat} {D : List Deferred} {a : Act} {ρ : Rf} (h : eh N D a ρ) : a.eval = ev ρ := by
 funext x
 cases x with
 | tmp t => exact h.at_ t
 | _ => rfl
theorem im (ρ : Rf) (d : Nat) (v : Value) : cG ρ d v d = v := by simp [cG]
theorem bj (ρ : Rf) {d i : Nat} (h : i ≠ d) (v : Value) : cG ρ d v i = ρ i := by
 have hb : Nat.beq i d = false := by
  cases hb : Nat.beq i d
  ·rfl
  ·exact absurd (Nat.eq_of_beq_eq_true hb) h
 simp only [cG, hb, cond_false]
theorem eh.put {N : Nat} {D : List Deferred} {a : Act} {ρ : Rf} (h : eh N D a ρ) {d : Nat} (hd : d < N) (v : Value) : eh N D (a.put (some d) v) (cG ρ d v) := by
 refine ⟨h.nd, by simp [Act.put, h.sz], fun i => ?_⟩;by_cases hi : i = d
 ·subst hi;rw [im];simp [Act.put, h.sz, hd]
 ·rw [bj ρ hi, ← h.at_ i];have : d ≠ i := fun e => hi e.symm;simp [Act.put, Array.getElem?_setIfInBounds_ne this]
abbrev Kq := Exit → Rf → World → Prop
def du (N : Nat) (D : List Deferred) (Q : Kq) : Exit → Act → World → Prop := fun e a w => ∃ ρ, eh N D a ρ ∧ Q e ρ w
abbrev lift (N : Nat) (Q : Kq) : Exit → Act → World → Prop := du N [] Q
structure Mode where
 round : Option Nat := none
 D : List Deferred := []
 any : Bool := false
abbrev Mode.plain : Mode := {}
def FW (ro : Option Nat) : Fence := { Fence.wide with round := ro }
structure WC (ro : Mode) (P : Program) (N : Nat) (c : Code) (Q : Kq) (ρ : Rf) (w : World) : Prop where
 l9 : ro.any = false → ∀ a, eh N ro.D a ρ → c.wp P (du N ro.D Q) a w
 jy : ∀ a, eh N ro.D a ρ → ∀ n, c.wpIn (FW ro.round) n P (du N ro.D Q) a w
structure WL (ro : Mode) (P : Program) (N : Nat) (ops : Array Oper) (Q : Kq) (l : List Oper) (ρ : Rf) (w : World) : Prop where
 l9 : ro.any = false → ∀ a, eh N ro.D a ρ → wpList P ops (du N ro.D Q) l a w
 jy : ∀ a, eh N ro.D a ρ → ∀ n, wpListIn (FW ro.round) n P ops (du N ro.D Q) l a w
def cv (next : Rf → World → Prop) (Q : Kq) : Kq
 | .normal, ρ, w => next ρ w
 | e, ρ, w => Q e ρ w
def qD (id : Nat) (Q : Kq) : Kq
 | .exit id', ρ, w => if id' = id then Q .normal ρ w else Q (.exit id') ρ w
 | e, ρ, w => Q e ρ w
section code
variable {ro : Mode} {P : Program} {N : Nat} {Q : Kq} {ρ : Rf} {w : World}
theorem WC.oR {D : List Deferred} {c : Code} (h : ∀ a, eh N D a ρ → c.wp P (du N D Q) a w) : WC ⟨none, D, false⟩ P N c Q ρ w := ⟨fun _ => h, fun a hf _ => wpIn_wide.2 (h a hf)⟩
theorem WC.out {D : List Deferred} {c : Code} (h : WC ⟨none, D, false⟩ P N c Q ρ w) : ∀ a, eh N D a ρ → c.wp P (du N D Q) a w := h.l9 rfl
theorem PI {r : Option Nat} {D : List Deferred} {c : Code} (h : WC ⟨r, D, false⟩ P N c Q ρ w) : WC ⟨r, D, true⟩ P N c Q ρ w := ⟨fun h => (by cases h), h.jy⟩
theorem WL.out {D : List Deferred} {ops : Array Oper} {l : List Oper} (h : WL ⟨none, D, false⟩ P N ops Q l ρ w) : ∀ a, eh N D a ρ → wpList P ops (du N D Q) l a w := h.l9 rfl
theorem wC {D : List Deferred} {Q Q' : Kq} (h : ∀ e ρ w, Q e ρ w → Q' e ρ w) (e : Exit) (a : Act) (w : World) : du N D Q e a w → du N D Q' e a w :=
 fun ⟨ρ, hf, hq⟩ => ⟨ρ, hf, h _ _ _ hq⟩
theorem WC.mono {c : Code} {Q' : Kq} (h : WC ro P N c Q ρ w) (hq : ∀ e ρ w, Q e ρ w → Q' e ρ w) : WC ro P N c Q' ρ w :=
 ⟨fun hm a hf => wp_mono (h.l9 hm a hf) (wC hq), fun a hf n => wpIn_mono (h.jy a hf n) (wC hq)⟩
theorem ah {x y : Code} (h : WC ro P N x (cv (fun ρ w => WC ro P N y Q ρ w) Q) ρ w) : WC ro P N (.seq x y) Q ρ w :=
 ⟨fun hm a hf => wp_seq (wp_mono (h.l9 hm a hf) fun e a' w' ⟨ρ', hf', hq⟩ => by
  cases e with
  | normal => exact hq.l9 hm a' hf'
  | _ => exact ⟨ρ', hf', hq⟩),
 fun a hf n => wpIn_seq (wpIn_mono (h.jy a hf n) fun e a' w' ⟨ρ', hf', hq⟩ => by
  cases e with
  | normal => exact hq.jy a' hf' n
  | _ => exact ⟨ρ', hf', hq⟩)⟩
theorem ar (h : Q .normal ρ w) : WC ro P N .skip Q ρ w := ⟨fun _ _ hf => wp_skip ⟨ρ, hf, h⟩, fun _ hf _ => wpIn_skip ⟨ρ, hf, h⟩⟩
theorem av (h : Q .ret ρ w) : WC ro P N .ret Q ρ w := ⟨fun _ _ hf => wp_ret ⟨ρ, hf, h⟩, fun _ hf _ => wpIn_ret ⟨ρ, hf, h⟩⟩
theorem aZ {id : Nat} (h : Q (.exit id) ρ w) : WC ro P N (.exit id) Q ρ w := ⟨fun _ _ hf => wp_exit ⟨ρ, hf, h⟩, fun _ hf _ => wpIn_exit ⟨ρ, hf, h⟩⟩
theorem aq {id : Nat} {c : Code} (h : WC ro P N c (qD id Q) ρ w) : WC ro P N (.block id c) Q ρ w :=
 have key : ∀ (D : List Deferred) e a' w', du N D (qD id Q) e a' w' → Exit.inBlock id (du N D Q) e a' w' := fun D e a' w' ⟨ρ', hf', hq⟩ => by
  cases e with
  | exit id' =>
   by_cases hid : id' = id
   ·simp only [qD, hid, if_true] at hq;simp only [Exit.inBlock, hid, if_true];exact ⟨ρ', hf', hq⟩
   ·simp only [qD, hid, if_false] at hq;simp only [Exit.inBlock, hid, if_false];exact ⟨ρ', hf', hq⟩
  | _ => exact ⟨ρ', hf', hq⟩
 ⟨fun hm a hf => wp_block (wp_mono (h.l9 hm a hf) (key _)), fun a hf n => wpIn_block (wpIn_mono (h.jy a hf n) (key _))⟩
theorem FY {c : Operand} {x y : Code} (hc : ev ρ c = .bool true) (h : WC ro P N x Q ρ w) : WC ro P N (.cond c x y) Q ρ w :=
 ⟨fun hm a hf => wp_cond_true (by rw [hf.eval]; exact hc) (h.l9 hm a hf), fun a hf n => wpIn_cond_true (by rw [hf.eval]; exact hc) (h.jy a hf n)⟩
theorem F0 {c : Operand} {x y : Code} (hc : ev ρ c = .bool false) (h : WC ro P N y Q ρ w) : WC ro P N (.cond c x y) Q ρ w :=
 ⟨fun hm a hf => wp_cond_false (by rw [hf.eval]; exact hc) (h.l9 hm a hf), fun a hf n => wpIn_cond_false (by rw [hf.eval]; exact hc) (h.jy a hf n)⟩
theorem al {id : Nat} {l : List Oper} (h : WL ro P N l.toArray Q l ρ w) : WC ro P N (.region id l.toArray false) Q ρ w :=
 ⟨fun hm a hf => wp_region_lit (h.l9 hm a hf), fun a hf n => wpIn_region_lit (h.jy a hf n)⟩
theorem ai {next : Rf → World → Prop} (h : next ρ w) : cv next Q .normal ρ w := h
theorem aG {next : Rf → World → Prop} (h : Q .ret ρ w) : cv next Q .ret ρ w := h
theorem aD {next : Rf → World → Prop} {id : Nat} (h : Q (.exit id) ρ w) : cv next Q (.exit id) ρ w := h
theorem bA {id : Nat} (h : Q .normal ρ w) : qD id Q .normal ρ w := h
theorem bY {id : Nat} (h : Q .ret ρ w) : qD id Q .ret ρ w := h
theorem bq {id : Nat} (h : Q .normal ρ w) : qD id Q (.exit id) ρ w := by simpa [qD] using h
def mask (mods : List Nat) (ρ' ρ : Rf) : Rf := fun i => bif mods.contains i then ρ' i else ρ i
def iH (mods : List Nat) (ρ1 ρ : Rf) : Prop := ∀ i, mods.contains i = false → ρ1 i = ρ i
theorem eB (mods : List Nat) (ρ' ρ : Rf) : iH mods (mask mods ρ' ρ) ρ := fun i hi => by simp only [mask, hi, cond_false]
theorem fg {mods : List Nat} {ρ1 ρ : Rf} {d : Nat} {v : Value} (hd : mods.contains d = true) (h : iH mods ρ1 ρ) : iH mods (cG ρ1 d v) ρ := fun i hi => by
 rw [bj ρ1 (fun e => by rw [e, hd] at hi; cases hi)];exact h i hi
theorem dP {mods mods2 : List Nat} {ρ' ρ1 ρ : Rf} (hm : (mods2.all fun i => mods.contains i) = true) (h : iH mods ρ1 ρ) : iH mods (mask mods2 ρ' ρ1) ρ := fun i hi => by
 have h2 : mods2.contains i = false := by
  cases hc : mods2.contains i with
  | false => rfl
  | true =>
   have := List.all_eq_true.1 hm i (by simpa using hc);rw [this] at hi; cases hi
 simp only [mask, h2, cond_false];exact h i hi
theorem TA {p : Prop} (h : p := by repeat (first | exact eB _ _ _ | refine fg rfl ?_ | refine dP rfl ?_)) : p := h
theorem TB {p : Prop} (h : p := by (repeat (first | exact eB _ _ _ | refine fg rfl ?_ | refine dP rfl ?_)); exact fun _ _ => rfl) : p := h
theorem iV {mods : List Nat} {ρ1 ρ : Rf} (h : iH mods ρ1 ρ) : mask mods ρ1 ρ = ρ1 := by
 funext i;simp only [mask]
 cases hc : mods.contains i with
 | true => rfl
 | false => simpa using (h i hc).symm
theorem gG (ρ : Rf) (d : Nat) : cG ρ d (ρ d) = ρ := by
 funext i;by_cases h : i = d
 ·subst h; rw [im]
 ·rw [bj ρ h]
theorem xu {c : Code} (I : Rf → World → Prop) (μ : Rf → World → Nat) (h0 : I ρ w)
  (round : ∀ ρ w, I ρ w → WC ro P N c (cv (fun ρ' w' => I ρ' w' ∧ μ ρ' w' < μ ρ w) Q) ρ w) : WC ro P N (.loop c) Q ρ w := by
 refine ⟨fun hm a hf => ?_, fun a hf n => ?_⟩
 ·refine wp_loop (fun a w => ∃ ρ, eh N ro.D a ρ ∧ I ρ w) (fun a w => μ (fun i => a.tmps.getD i undef) w) ⟨ρ, hf, h0⟩ ?_;rintro a w ⟨ρ, hf, hi⟩;refine wp_mono ((round ρ w hi).l9 hm a hf) ?_;exact Qk
 ·refine wpIn_loop (fun a w => ∃ ρ, eh N ro.D a ρ ∧ I ρ w) (fun a w => μ (fun i => a.tmps.getD i undef) w) ⟨ρ, hf, h0⟩ ?_;rintro a w ⟨ρ, hf, hi⟩;refine wpIn_mono ((round ρ w hi).jy a hf n) ?_;exact Qk
theorem aP {c : Code} (mods : List Nat) (s0 : Nat) (I : Value → World → Prop) (μ : Value → World → Nat) (h0 : I (ρ s0) w)
  (round : ∀ ρ' v0 w', I v0 w' → WC ro P N c (cv (fun ρ2 w2 => I (ρ2 s0) w2 ∧ μ (ρ2 s0) w2 < μ v0 w' ∧ iH mods ρ2 ρ) Q) (cG (mask mods ρ' ρ) s0 v0) w') : WC ro P N (.loop c) Q ρ w :=
 xu (fun ρ1 w1 => I (ρ1 s0) w1 ∧ iH mods ρ1 ρ) (fun ρ1 w1 => μ (ρ1 s0) w1) ⟨h0, fun _ _ => rfl⟩ fun ρ1 w1 ⟨hi, ha⟩ => by
  have h := round ρ1 (ρ1 s0) w1 hi;rw [iV ha, gG] at h;exact h.mono fun e ρ2 w2 hq => by
   cases e with
   | normal => exact ⟨⟨hq.1, hq.2.2⟩, hq.2.1⟩
   | _ => exact hq
theorem bJ {c : Code} (mods : List Nat) (s0 s1 : Nat) (I : Value → Value → World → Prop) (μ : Value → Value → World → Nat) (h0 : I (ρ s0) (ρ s1) w)
  (round : ∀ ρ' v0 v1 w', I v0 v1 w' → WC ro P N c (cv (fun ρ2 w2 => I (ρ2 s0) (ρ2 s1) w2 ∧ μ (ρ2 s0) (ρ2 s1) w2 < μ v0 v1 w' ∧ iH mods ρ2 ρ) Q) (cG (cG (mask mods ρ' ρ) s0 v0) s1 v1) w') : WC ro P N (.loop c) Q ρ w :=
 xu (fun ρ1 w1 => I (ρ1 s0) (ρ1 s1) w1 ∧ iH mods ρ1 ρ) (fun ρ1 w1 => μ (ρ1 s0) (ρ1 s1) w1) ⟨h0, fun _ _ => rfl⟩ fun ρ1 w1 ⟨hi, ha⟩ => by
  have h := round ρ1 (ρ1 s0) (ρ1 s1) w1 hi;rw [iV ha, gG, gG] at h;exact h.mono fun e ρ2 w2 hq => by
   cases e with
   | normal => exact ⟨⟨hq.1, hq.2.2⟩, hq.2.1⟩
   | _ => exact hq
theorem BK {c : Code} (mods : List Nat) (s0 s1 s2 : Nat) (I : Value → Value → Value → World → Prop) (μ : Value → Value → Value → World → Nat) (h0 : I (ρ s0) (ρ s1) (ρ s2) w)
  (round : ∀ ρ' v0 v1 v2 w', I v0 v1 v2 w' → WC ro P N c (cv (fun ρ2 w2 => I (ρ2 s0) (ρ2 s1) (ρ2 s2) w2 ∧ μ (ρ2 s0) (ρ2 s1) (ρ2 s2) w2 < μ v0 v1 v2 w' ∧ iH mods ρ2 ρ) Q) (cG (cG (cG (mask mods ρ' ρ) s0 v0) s1 v1) s2 v2) w') : WC ro P N (.loop c) Q ρ w :=
 xu (fun ρ1 w1 => I (ρ1 s0) (ρ1 s1) (ρ1 s2) w1 ∧ iH mods ρ1 ρ) (fun ρ1 w1 => μ (ρ1 s0) (ρ1 s1) (ρ1 s2) w1) ⟨h0, fun _ _ => rfl⟩ fun ρ1 w1 ⟨hi, ha⟩ => by
  have h := round ρ1 (ρ1 s0) (ρ1 s1) (ρ1 s2) w1 hi;rw [iV ha, gG, gG, gG] at h;exact h.mono fun e ρ2 w2 hq => by
   cases e with
   | normal => exact ⟨⟨hq.1, hq.2.2⟩, hq.2.1⟩
   | _ => exact hq
end code
inductive J4 (P : Program) (ρ : Rf) (w : World) : ResultVar → Value → Prop
 | tmp (t : Tmp) {v : Value} (h : ρ t = v) : J4 P ρ w (.tmp t) v
 | cell (p : Tmp) (t : TypeId) {a : Addr} {v : Value} (hp : ρ p = .pointer (some a)) (h : (loadVar t a).run P w = .ok v w) : J4 P ρ w (.cell p t) v
def gK (P : Program) (ρ : Rf) (w : World) : List ResultVar → List Value → Prop
 | [], [] => True
 | r :: rs, v :: vs => J4 P ρ w r v ∧ gK P ρ w rs vs
 | _, _ => False
def wG : List Value → Value
 | [v] => v
 | vs => .tuple vs.toArray
def mi (P : Program) (fn : Func) (R : Ending → World → Prop) : Kq := fun e ρ w =>
 (e = .normal ∨ e = .ret) ∧ ∃ v, (∀ tmps : Array Value, (∀ i, tmps.getD i undef = ρ i) → (results fn tmps).run P w = .ok v w) ∧ R (.returned v) w
theorem Ey {P : Program} {ρ : Rf} {w : World} {f : ResultVar → Sem Value} (h1 : ∀ t, (f (.tmp t)).run P w = .ok (ρ t) w)
  (h2 : ∀ p t a v, ρ p = .pointer (some a) → (loadVar t a).run P w = .ok v w → (f (.cell p t)).run P w = .ok v w) : ∀ (rs : List ResultVar) (vs : List Value), gK P ρ w rs vs →
  (rs.mapM f).run P w = .ok vs w
 | [], [], _ => by simp
 | [], _ :: _, h => h.elim
 | _ :: _, [], h => h.elim
 | r :: rs, v :: vs, h => by
  have ih := Ey h1 h2 rs vs h.2;obtain ⟨h3, _⟩ := h;rw [List.mapM_cons]
  cases h3 with
  | tmp t hv => rw [Sem.run_bind, h1, Result.andThen_ok, Sem.run_bind, ih, Result.andThen_ok, Sem.run_pure, hv]
  | cell p t hp hl => rw [Sem.run_bind, h2 _ _ _ _ hp hl, Result.andThen_ok, Sem.run_bind, ih, Result.andThen_ok, Sem.run_pure]
theorem j3 {P : Program} {fn : Func} {R : Ending → World → Prop} {ρ : Rf} {w : World} {rs : List ResultVar} {vs : List Value} {e : Exit} (he : e = .normal ∨ e = .ret) (hr : fn.results = rs.toArray)
  (hv : gK P ρ w rs vs) (h : R (.returned (wG vs)) w) : mi P fn R e ρ w := by
 refine ⟨he, wG vs, fun tmps ht => ?_, h⟩;unfold results;rw [hr, Sem.run_bind, List.mapM_toArray, Sem.run_map, Ey (ρ := ρ) (fun t => by simp [ht]) (fun p t a v hp hl => by simp [ht, hp, asAddr, hl]) rs vs hv];simp only [Result.andThen_ok]
 match vs with
 | [] => simp [wG]
 | [v] => simp [wG]
 | _ :: _ :: _ => simp [wG]
theorem gg {P : Program} {ρ : Rf} {w : World} : gK P ρ w [] [] := trivial
theorem jZ {P : Program} {ρ : Rf} {w : World} {t : Tmp} {v : Value} {rs : List ResultVar} {vs : List Value} (h : ρ t = v) (k : gK P ρ w rs vs) : gK P ρ w (.tmp t :: rs) (v :: vs) := ⟨.tmp t h, k⟩
theorem eI {P : Program} {ρ : Rf} {w : World} {p : Tmp} {t : TypeId} {a : Addr} {v : Value} {rs : List ResultVar} {vs : List Value} (hp : ρ p = .pointer (some a)) (h : (loadVar t a).run P w = .ok v w) (k : gK P ρ w rs vs) : gK P ρ w (.cell p t :: rs) (v :: vs) := ⟨.cell p t hp h, k⟩
theorem Sm {P : Program} {fn : Func} {R : Ending → World → Prop} {ρ : Rf} {w : World} {t : Tmp} {e : Exit} {v : Value} (he : e = .normal ∨ e = .ret) (hr : fn.results = #[.tmp t]) (hv : ρ t = v) (h : R (.returned v) w) : mi P fn R e ρ w :=
 j3 he hr (jZ hv gg) h
theorem Sn {P : Program} {fn : Func} {R : Ending → World → Prop} {ρ : Rf} {w : World} {t u : Tmp} {e : Exit} {v x : Value} (he : e = .normal ∨ e = .ret) (hr : fn.results = #[.tmp t, .tmp u]) (hv : ρ t = v) (hx : ρ u = x) (h : R (.returned (.tuple #[v, x])) w) : mi P fn R e ρ w :=
 j3 he hr (jZ hv (jZ hx gg)) h
theorem Si {P : Program} {fn : Func} {R : Ending → World → Prop} {ρ : Rf} {w : World} {t u s : Tmp} {e : Exit} {v x y : Value} (he : e = .normal ∨ e = .ret) (hr : fn.results = #[.tmp t, .tmp u, .tmp s]) (hv : ρ t = v) (hx : ρ u = x) (hy : ρ s = y) (h : R (.returned (.tuple #[v, x, y])) w) : mi P fn R e ρ w :=
 j3 he hr (jZ hv (jZ hx (jZ hy gg))) h
theorem PF {P : Program} {fn : Func} {R : Ending → World → Prop} {ρ : Rf} {w : World} {e : Exit} (he : e = .normal ∨ e = .ret) (hr : fn.results = #[]) (h : R (.returned (.tuple #[])) w) : mi P fn R e ρ w :=
 j3 he hr gg h
theorem Qv {P : Program} {fn : Func} {R : Ending → World → Prop} {ρ : Rf} {w : World} {r : ResultVar} {e : Exit} {v : Value} (he : e = .normal ∨ e = .ret) (hr : fn.results = #[r]) (h1 : gK P ρ w [r] [v]) (h : R (.returned v) w) : mi P fn R e ρ w :=
 j3 he hr h1 h
theorem QD {P : Program} {fn : Func} {R : Ending → World → Prop} {ρ : Rf} {w : World} {r s : ResultVar} {e : Exit} {v x : Value} (he : e = .normal ∨ e = .ret) (hr : fn.results = #[r, s]) (h1 : gK P ρ w [r, s] [v, x]) (h : R (.returned (.tuple #[v, x])) w) : mi P fn R e ρ w :=
 j3 he hr h1 h
theorem Rq {P : Program} {fn : Func} {R : Ending → World → Prop} {ρ : Rf} {w : World} {r s t : ResultVar} {e : Exit} {v x y : Value} (he : e = .normal ∨ e = .ret) (hr : fn.results = #[r, s, t]) (h1 : gK P ρ w [r, s, t] [v, x, y]) (h : R (.returned (.tuple #[v, x, y])) w) : mi P fn R e ρ w :=
 j3 he hr h1 h
def D0 (l : List Value) : Rf := fun i => l.getD i undef
theorem aj {P : Program} {f : FuncId} {fn : Func} {c : Code} {N : Nat} {l : List Value} {w : World} {R : Ending → World → Prop}
  (hf : P.funcs[f]? = some fn) (hb : fn.body = some c) (hn : fn.ntmps = N) (ha : l.length ≤ N)
  (h : WC .plain P N c (mi P fn R) (D0 l) w) : Calls P f l.toArray w R := by
 refine calls_of_wp hf hb ?_;refine wp_mono (h.out _ ⟨rfl, by simp [hn]; omega, fun i => ?_⟩) ?_
 ·exact PD
 ·rintro e a w' ⟨ρ', hf', he, v, hr, hR⟩
  rcases he with rfl | rfl <;> exact ⟨hf'.nd, v, hr _ hf'.at_, hR⟩
section
variable {ro : Mode} {P : Program} {N : Nat} {ops : Array Oper} {Q : Kq} {ρ : Rf} {w : World} {rest : List Oper}
theorem k7 {f : Operand → Value} {o : Oper} {x : Next} {w' : World} (ro : Option Nat) (h : (execOp f o).run P w = .ok x w') (hx : ∀ d, x ≠ .defer d) : (o.semAt ro f).run P w = .ok x w' := by
 cases hop : o.op with
 | defer c =>
  exfalso;unfold execOp at h;rw [hop] at h;simp only [Sem.run_bind] at h
  cases h2 : (resolve f c o.type).run P w with
  | ok v w2 =>
   rw [h2] at h;simp at h;exact hx _ h.1.symm
  | halt e w2 =>
   rw [h2] at h;simp [Result.andThen] at h
 | _ => rw [Oper.semAt_eq _ _ _ (by rw [hop]; intro c hc; cases hc)]; exact h
theorem Al {r1 : Option Nat} {n : Nat} {f : FuncId} {args : Array Value} {R : Ending → World → Prop} (h : Calls P f args w R) : CallsIn (FW r1) n P f args w R := (callsIn_wide (n := n)).2 h
theorem aA (h : Q .normal ρ w) : WL ro P N ops Q [] ρ w := ⟨fun _ _ hf => wpList_nil ⟨ρ, hf, h⟩, fun _ hf _ => wpListIn_nil ⟨ρ, hf, h⟩⟩
theorem aa {next : Rf → World → Prop} {Q' : Kq} (h : next ρ w) : WL ro P N ops (cv next Q') [] ρ w := aA h
theorem aQ {o : Oper} {d : Nat} {v : Value} {w' : World} (hg : o.guard = none) (hd : o.dst = some d) (hN : d < N)
  (hr : (execOp (ev ρ) o).run P w = .ok (.value v) w') (k : WL ro P N ops Q rest (cG ρ d v) w') : WL ro P N ops Q (o :: rest) ρ w :=
 ⟨fun hm a hf => wpList_plain hg fun K hK => by
  unfold Oper.wp;rw [hf.eval, hr];show K (a.put o.dst v) w';rw [hd];exact hK _ _ (k.l9 hm _ (hf.put hN v)),
 fun a hf n => wpListIn_plain hg fun K hK => by
  refine ⟨fun _ _ => trivial, ?_⟩;rw [hf.eval, k7 _ hr (fun _ h => by cases h)];show K (a.put o.dst v) w';rw [hd];exact hK _ _ (k.jy _ (hf.put hN v) n)⟩
theorem Ep {o : Oper} {w' : World} (hg : o.guard = none) (hd : o.dst = none)
  (hr : (execOp (ev ρ) o).run P w = .ok .skip w') (k : WL ro P N ops Q rest ρ w') : WL ro P N ops Q (o :: rest) ρ w :=
 ⟨fun hm a hf => wpList_plain hg fun K hK => by
  unfold Oper.wp;rw [hf.eval, hr];show K (a.put o.dst undef) w';rw [hd];exact hK _ _ (k.l9 hm _ hf),
 fun a hf n => wpListIn_plain hg fun K hK => by
  refine ⟨fun _ _ => trivial, ?_⟩;rw [hf.eval, k7 _ hr (fun _ h => by cases h)];show K (a.put o.dst undef) w';rw [hd];exact hK _ _ (k.jy _ hf n)⟩
theorem yQ {o : Oper} {d : Nat} {f : FuncId} {args : Array Value} {w1 : World} {R : Ending → World → Prop} (hg : o.guard = none) (hd : o.dst = some d) (hN : d < N)
  (hr : (execOp (ev ρ) o).run P w = .ok (.enter f args) w1) (hc : Calls P f args w1 R)
  (k : ∀ e w', R e w' → ∃ v, e = .returned v ∧ WL ro P N ops Q rest (cG ρ d v) w') : WL ro P N ops Q (o :: rest) ρ w :=
 ⟨fun hm a hf => wpList_plain hg fun K hK => by
  unfold Oper.wp;rw [hf.eval, hr];show Calls P f args w1 _;refine hc.mono fun e w' hR => ?_;obtain ⟨v, rfl, hk⟩ := k e w' hR;show K (a.put o.dst v) w';rw [hd];exact hK _ _ (hk.l9 hm _ (hf.put hN v)),
 fun a hf n => wpListIn_plain hg fun K hK => by
  refine ⟨fun _ _ => trivial, ?_⟩;rw [hf.eval, k7 _ hr (fun _ h => by cases h)];refine ⟨fun h => (by cases h), ?_⟩;refine Al (hc.mono fun e w' hR => ?_);obtain ⟨v, rfl, hk⟩ := k e w' hR;show K (a.put o.dst v) w';rw [hd];exact hK _ _ (hk.jy _ (hf.put hN v) n)⟩
theorem aH {d : Option Nat} {op : Op} {ty : TypeId} {pos : String} {af : Array Edge} {j dj : Nat} {b : Bool}
  (hj : (ops[j]?).bind (·.dst) = some dj) (hv : ρ dj = .bool b) (k : WL ro P N ops Q (⟨d, op, ty, pos, af, none⟩ :: rest) ρ w) :
  WL ro P N ops Q (⟨d, op, ty, pos, af, some (j, b)⟩ :: rest) ρ w :=
 have h0 : ∀ D a, eh N D a ρ → Region.wanted ⟨d, op, ty, pos, af, some (j, b)⟩ (yielded ops a.tmps) = true := fun D a hf => by
  have h2 := hf.at_ dj;rw [hv, Array.getD_eq_getD_getElem?] at h2
  cases h3 : a.tmps[dj]? with
  | none => rw [h3] at h2; cases h2
  | some x =>
   rw [h3] at h2;simp only [Option.getD_some] at h2;subst h2;simp [Region.wanted, yielded, hj, h3]
 ⟨fun hm a hf => by
  have h2 := k.l9 hm a hf;unfold wpList at h2 ⊢;rw [if_pos (h0 _ a hf)];rw [if_pos (by simp [Region.wanted])] at h2;exact h2,
 fun a hf n => by
  have h2 := k.jy a hf n;unfold wpListIn at h2 ⊢;rw [if_pos (h0 _ a hf)];rw [if_pos (by simp [Region.wanted])] at h2;exact h2⟩
theorem kD {d : Nat} {op : Op} {ty : TypeId} {pos : String} {af : Array Edge} {j dj : Nat} {b c : Bool} (hN : d < N)
  (hj : (ops[j]?).bind (·.dst) = some dj) (hv : ρ dj = .bool c) (hb : c ≠ b) (k : WL ro P N ops Q rest (cG ρ d undef) w) :
  WL ro P N ops Q (⟨some d, op, ty, pos, af, some (j, b)⟩ :: rest) ρ w :=
 have h0 : ∀ D a, eh N D a ρ → Region.wanted ⟨some d, op, ty, pos, af, some (j, b)⟩ (yielded ops a.tmps) = false := fun D a hf => by
  have h2 := hf.at_ dj;rw [hv, Array.getD_eq_getD_getElem?] at h2
  cases h3 : a.tmps[dj]? with
  | none => rw [h3] at h2; cases h2
  | some x =>
   rw [h3] at h2;simp only [Option.getD_some] at h2;subst h2;simp [Region.wanted, yielded, hj, h3, hb]
 ⟨fun hm a hf => by
  unfold wpList;rw [h0 _ a hf];exact k.l9 hm _ (hf.put hN undef),
 fun a hf n => by
  unfold wpListIn;rw [h0 _ a hf];exact ⟨fun _ _ => trivial, k.jy _ (hf.put hN undef) n⟩⟩
def nb (v : Value) (b : Bool) : Bool := match v with | .bool c => c != b | _ => true
theorem tC {d : Nat} {op : Op} {ty : TypeId} {pos : String} {af : Array Edge} {j dj : Nat} {b : Bool} (hN : d < N)
  (hj : (ops[j]?).bind (·.dst) = some dj) (hb : nb (ρ dj) b = true) (k : WL ro P N ops Q rest (cG ρ d undef) w) :
  WL ro P N ops Q (⟨some d, op, ty, pos, af, some (j, b)⟩ :: rest) ρ w := by
 cases hv : ρ dj with
 | bool c =>
  rw [hv] at hb;exact kD hN hj hv (by simpa [nb] using hb) k
 | _ =>
  have h0 : ∀ D a, eh N D a ρ → Region.wanted ⟨some d, op, ty, pos, af, some (j, b)⟩ (yielded ops a.tmps) = false := fun D a hf => by
   have h2 := hf.at_ dj;rw [hv, Array.getD_eq_getD_getElem?] at h2
   cases h3 : a.tmps[dj]? with
   | none => simp [Region.wanted, yielded, hj, h3]
   | some x =>
    rw [h3] at h2;simp only [Option.getD_some] at h2;subst h2;simp [Region.wanted, yielded, hj, h3]
  refine ⟨fun hm a hf => ?_, fun a hf n => ?_⟩
  ·unfold wpList;rw [h0 _ a hf];exact k.l9 hm _ (hf.put hN undef)
  ·unfold wpListIn;rw [h0 _ a hf];exact ⟨fun _ _ => trivial, k.jy _ (hf.put hN undef) n⟩
end
section
variable {P : Program} {ρ : Rf} {w : World} {d : Option Nat} {ty : TypeId} {pos : String} {af : Array Edge} {g : Option (Nat × Bool)}
theorem ez {x : Operand} {v : Value} (hx : ev ρ x = v) : (execOp (ev ρ) ⟨d, .move x, ty, pos, af, g⟩).run P w = .ok (.value v) w := by simp [execOp, hx]
theorem Hl {x : Operand} {v : Value} (hx : ev ρ x = v) : (execOp (ev ρ) ⟨d, .assign x, ty, pos, af, g⟩).run P w = .ok (.value v) w := by simp [execOp, hx]
theorem Aw {c a b : Operand} {v : Value} (hc : ev ρ c = .bool true) (hx : ev ρ a = v) : (execOp (ev ρ) ⟨d, .pick c a b, ty, pos, af, g⟩).run P w = .ok (.value v) w := by simp [execOp, asBool, hc, hx]
theorem Bf {c a b : Operand} {v : Value} (hc : ev ρ c = .bool false) (hx : ev ρ b = v) : (execOp (ev ρ) ⟨d, .pick c a b, ty, pos, af, g⟩).run P w = .ok (.value v) w := by simp [execOp, asBool, hc, hx]
section ints
variable {t u : TypeId} {x y : Operand} {k : IntKind} {a b : Int}
theorem MX (hx : ev ρ x = .int k a) (hy : ev ρ y = .int k b) : (execOp (ev ρ) ⟨d, .binOp .add t x y u, ty, pos, af, g⟩).run P w = .ok (.value (.int k (k.wrap (a + b)))) w := by
 simp [execOp, hx, hy, eqGuard, binOp, Op.intArith]
theorem Na (hx : ev ρ x = .int k a) (hy : ev ρ y = .int k b) : (execOp (ev ρ) ⟨d, .binOp .sub t x y u, ty, pos, af, g⟩).run P w = .ok (.value (.int k (k.wrap (a - b)))) w := by
 simp [execOp, hx, hy, eqGuard, binOp, Op.intArith]
theorem NC (hx : ev ρ x = .int k a) (hy : ev ρ y = .int k b) : (execOp (ev ρ) ⟨d, .binOp .mul t x y u, ty, pos, af, g⟩).run P w = .ok (.value (.int k (k.wrap (a * b)))) w := by
 simp [execOp, hx, hy, eqGuard, binOp, Op.intArith]
theorem NS (hx : ev ρ x = .int k a) (hy : ev ρ y = .int k b) (hb : b ≠ 0) : (execOp (ev ρ) ⟨d, .binOp .quo t x y u, ty, pos, af, g⟩).run P w = .ok (.value (.int k (k.wrap (a.tdiv b)))) w := by
 simp [execOp, hx, hy, eqGuard, binOp, Op.intDiv, hb]
theorem ME (hx : ev ρ x = .int k a) (hy : ev ρ y = .int k b) (hb : b ≠ 0) : (execOp (ev ρ) ⟨d, .binOp .rem t x y u, ty, pos, af, g⟩).run P w = .ok (.value (.int k (a.tmod b))) w := by
 simp [execOp, hx, hy, eqGuard, binOp, Op.intDiv, hb]
theorem N9 (hx : ev ρ x = .int k a) (hy : ev ρ y = .int k b) : (execOp (ev ρ) ⟨d, .binOp .and t x y u, ty, pos, af, g⟩).run P w = .ok (.value (.int k (k.wrap (BitVec.ofInt k.bits a &&& BitVec.ofInt k.bits b).toNat))) w := by
 simp [execOp, hx, hy, eqGuard, binOp, Op.intBits]
theorem RN (hx : ev ρ x = .int k a) (hy : ev ρ y = .int k b) : (execOp (ev ρ) ⟨d, .binOp .or t x y u, ty, pos, af, g⟩).run P w = .ok (.value (.int k (k.wrap (BitVec.ofInt k.bits a ||| BitVec.ofInt k.bits b).toNat))) w := by
 simp [execOp, hx, hy, eqGuard, binOp, Op.intBits]
theorem QQ {k' : IntKind} (hx : ev ρ x = .int k a) (hy : ev ρ y = .int k' b) (hb : 0 ≤ b) : (execOp (ev ρ) ⟨d, .binOp .shl t x y u, ty, pos, af, g⟩).run P w = .ok (.value (.int k (k.wrap (a * 2 ^ (min b.toNat k.bits))))) w := by
 simp [execOp, hx, hy, eqGuard, binOp, Op.shift, show ¬ b < 0 by omega]
theorem Qe {k' : IntKind} (hx : ev ρ x = .int k a) (hy : ev ρ y = .int k' b) (hb : 0 ≤ b) : (execOp (ev ρ) ⟨d, .binOp .shr t x y u, ty, pos, af, g⟩).run P w = .ok (.value (.int k (a.fdiv (2 ^ (min b.toNat k.bits))))) w := by
 simp [execOp, hx, hy, eqGuard, binOp, Op.shift, show ¬ b < 0 by omega]
theorem zk {op : BinOp} : (eqGuard op t x y (.int k a) (.int k b)).run P w = .ok () w := by
 unfold eqGuard; cases op <;> simp
theorem mh {op : BinOp} {r : Bool} (hx : ev ρ x = .int k a) (hy : ev ρ y = .int k b) (hop : (Op.intCmp op a b).run P w = .ok (.bool r) w) (hc : op = .eql ∨ op = .neq ∨ op = .lss ∨ op = .leq ∨ op = .gtr ∨ op = .geq) :
  (execOp (ev ρ) ⟨d, .binOp op t x y u, ty, pos, af, g⟩).run P w = .ok (.value (.bool r)) w := by
 rcases hc with h | h | h | h | h | h <;> subst h <;> simp [execOp, hx, hy, zk, binOp, hop]
theorem Lz (hx : ev ρ x = .int k a) (hy : ev ρ y = .int k b) (h : a < b) : (execOp (ev ρ) ⟨d, .binOp .lss t x y u, ty, pos, af, g⟩).run P w = .ok (.value (.bool true)) w :=
 mh hx hy (by simp [Op.intCmp, h]) (by simp)
theorem LS (hx : ev ρ x = .int k a) (hy : ev ρ y = .int k b) (h : ¬ a < b) : (execOp (ev ρ) ⟨d, .binOp .lss t x y u, ty, pos, af, g⟩).run P w = .ok (.value (.bool false)) w :=
 mh hx hy (by simp [Op.intCmp]; omega) (by simp)
theorem KJ (hx : ev ρ x = .int k a) (hy : ev ρ y = .int k b) (h : a ≤ b) : (execOp (ev ρ) ⟨d, .binOp .leq t x y u, ty, pos, af, g⟩).run P w = .ok (.value (.bool true)) w :=
 mh hx hy (by simp [Op.intCmp, h]) (by simp)
theorem LU (hx : ev ρ x = .int k a) (hy : ev ρ y = .int k b) (h : ¬ a ≤ b) : (execOp (ev ρ) ⟨d, .binOp .leq t x y u, ty, pos, af, g⟩).run P w = .ok (.value (.bool false)) w :=
 mh hx hy (by simp [Op.intCmp]; omega) (by simp)
theorem K0 (hx : ev ρ x = .int k a) (hy : ev ρ y = .int k b) (h : b < a) : (execOp (ev ρ) ⟨d, .binOp .gtr t x y u, ty, pos, af, g⟩).run P w = .ok (.value (.bool true)) w :=
 mh hx hy (by simp [Op.intCmp, h]) (by simp)
theorem Mf (hx : ev ρ x = .int k a) (hy : ev ρ y = .int k b) (h : ¬ b < a) : (execOp (ev ρ) ⟨d, .binOp .gtr t x y u, ty, pos, af, g⟩).run P w = .ok (.value (.bool false)) w :=
 mh hx hy (by simp [Op.intCmp]; omega) (by simp)
theorem LM (hx : ev ρ x = .int k a) (hy : ev ρ y = .int k b) (h : b ≤ a) : (execOp (ev ρ) ⟨d, .binOp .geq t x y u, ty, pos, af, g⟩).run P w = .ok (.value (.bool true)) w :=
 mh hx hy (by simp [Op.intCmp, h]) (by simp)
theorem Lx (hx : ev ρ x = .int k a) (hy : ev ρ y = .int k b) (h : ¬ b ≤ a) : (execOp (ev ρ) ⟨d, .binOp .geq t x y u, ty, pos, af, g⟩).run P w = .ok (.value (.bool false)) w :=
 mh hx hy (by simp [Op.intCmp]; omega) (by simp)
theorem KW (hx : ev ρ x = .int k a) (hy : ev ρ y = .int k b) (h : a ≠ b) : (execOp (ev ρ) ⟨d, .binOp .neq t x y u, ty, pos, af, g⟩).run P w = .ok (.value (.bool true)) w :=
 mh hx hy (by simp [Op.intCmp, h]) (by simp)
theorem K3 (hx : ev ρ x = .int k a) (hy : ev ρ y = .int k b) (h : a = b) : (execOp (ev ρ) ⟨d, .binOp .neq t x y u, ty, pos, af, g⟩).run P w = .ok (.value (.bool false)) w :=
 mh hx hy (by simp [Op.intCmp, h]) (by simp)
theorem D5 (hx : ev ρ x = .int k a) (hy : ev ρ y = .int k b) : (execOp (ev ρ) ⟨d, .binOp .eql t x y u, ty, pos, af, g⟩).run P w = .ok (.value (.bool (decide (a = b)))) w :=
 mh hx hy (by simp [Op.intCmp]; rw [Bool.eq_iff_iff]; simp) (by simp)
theorem NL (hx : ev ρ x = .int k a) : (execOp (ev ρ) ⟨d, .unOp .neg t x, ty, pos, af, g⟩).run P w = .ok (.value (.int k (k.wrap (-a)))) w := by
 simp [execOp, hx, Op.unary, Op.intArith]
theorem jM {n : Int} (h1 : -9223372036854775808 ≤ n) (h2 : n ≤ 9223372036854775807) : IntKind.i64.wrap n = n := IntWalk.i64_in n ⟨h1, h2⟩
theorem IH (hx : ev ρ x = .int .i64 a) (hy : ev ρ y = .int .i64 b) (h1 : -9223372036854775808 ≤ a + b) (h2 : a + b ≤ 9223372036854775807) : (execOp (ev ρ) ⟨d, .binOp .add t x y u, ty, pos, af, g⟩).run P w = .ok (.value (.int .i64 (a + b))) w := by
 rw [MX hx hy, jM h1 h2]
theorem J2 (hx : ev ρ x = .int .i64 a) (hy : ev ρ y = .int .i64 b) (h1 : -9223372036854775808 ≤ a - b) (h2 : a - b ≤ 9223372036854775807) : (execOp (ev ρ) ⟨d, .binOp .sub t x y u, ty, pos, af, g⟩).run P w = .ok (.value (.int .i64 (a - b))) w := by
 rw [Na hx hy, jM h1 h2]
theorem HO (hx : ev ρ x = .int .i64 a) (hy : ev ρ y = .int .i64 b) (h1 : -9223372036854775808 ≤ a * b) (h2 : a * b ≤ 9223372036854775807) : (execOp (ev ρ) ⟨d, .binOp .mul t x y u, ty, pos, af, g⟩).run P w = .ok (.value (.int .i64 (a * b))) w := by
 rw [NC hx hy, jM h1 h2]
theorem HR (hx : ev ρ x = .int .i64 a) (h1 : -9223372036854775808 ≤ -a) (h2 : -a ≤ 9223372036854775807) : (execOp (ev ρ) ⟨d, .unOp .neg t x, ty, pos, af, g⟩).run P w = .ok (.value (.int .i64 (-a))) w := by
 rw [NL hx, jM h1 h2]
theorem qE (hx : ev ρ x = .int .i64 a) (hy : ev ρ y = .int .i64 b) (ha : 0 ≤ a) (hb : 0 < b) (h2 : a ≤ 9223372036854775807) : (execOp (ev ρ) ⟨d, .binOp .quo t x y u, ty, pos, af, g⟩).run P w = .ok (.value (.int .i64 (a / b))) w := by
 have h3 : a / b ≤ a := Int.ediv_le_self b ha;have h4 : 0 ≤ a / b := Int.ediv_nonneg ha Tx;rw [NS hx hy Tx, Int.tdiv_eq_ediv_of_nonneg ha, jM Tx Tx]
theorem nW (hx : ev ρ x = .int .i64 a) (hy : ev ρ y = .int .i64 b) (ha : 0 ≤ a) (hb : 0 < b) : (execOp (ev ρ) ⟨d, .binOp .rem t x y u, ty, pos, af, g⟩).run P w = .ok (.value (.int .i64 (a % b))) w := by
 rw [ME hx hy Tx, Int.tmod_eq_emod_of_nonneg ha]
end ints
theorem ML {t : TypeId} {x : Operand} {b : Bool} (hx : ev ρ x = .bool b) : (execOp (ev ρ) ⟨d, .unOp .not t x, ty, pos, af, g⟩).run P w = .ok (.value (.bool !b)) w := by
 simp [execOp, hx, Op.unary]
section bools
variable {t u : TypeId} {x y : Operand} {a b : Bool}
theorem x8 (n : Nat) (ht : P.underlying t = some .bool) : (Op.equalIn (n + 1) t (.bool a) (.bool b)).run P w = .ok (a == b) w := by
 simp [Op.equalIn, run_underlying ht]
theorem uC (ht : P.underlying t = some .bool) : (Op.equal t (.bool a) (.bool b)).run P w = .ok (a == b) w := x8 9999 ht
theorem sP (ht : P.underlying t = some .bool) : (binOp .eql t (.bool a) (.bool b)).run P w = .ok (.bool (a == b)) w := by
 simp only [binOp];simp [uC ht]
theorem s8 (ht : P.underlying t = some .bool) : (binOp .neq t (.bool a) (.bool b)).run P w = .ok (.bool (a != b)) w := by
 simp only [binOp];simp [uC ht, bne]
theorem tw (ht : P.underlying t = some .bool) (hx : ev ρ x = .bool a) (hy : ev ρ y = .bool b) : (execOp (ev ρ) ⟨d, .binOp .eql t x y u, ty, pos, af, g⟩).run P w = .ok (.value (.bool (a == b))) w := by
 simp only [execOp, hx, hy, eqGuard];simp [sP ht]
theorem oD (ht : P.underlying t = some .bool) (hx : ev ρ x = .bool a) (hy : ev ρ y = .bool b) : (execOp (ev ρ) ⟨d, .binOp .neq t x y u, ty, pos, af, g⟩).run P w = .ok (.value (.bool (a != b))) w := by
 simp only [execOp, hx, hy, eqGuard];simp [s8 ht]
end bools
section lj
variable {t u : TypeId} {x y : Operand} {a b : ByteArray}
theorem BL {op : BinOp} : (eqGuard op t x y (.string a) (.string b)).run P w = .ok () w := by
 unfold eqGuard; cases op <;> simp
theorem Bu {op : BinOp} {r : Value} (hx : ev ρ x = .string a) (hy : ev ρ y = .string b) (hs : op ≠ .shl ∧ op ≠ .shr) (hop : (Op.stringOp op a b).run P w = .ok r w) :
  (execOp (ev ρ) ⟨d, .binOp op t x y u, ty, pos, af, g⟩).run P w = .ok (.value r) w := by
 cases op <;> simp_all [execOp, BL, binOp]
theorem wz (hx : ev ρ x = .string a) (hy : ev ρ y = .string b) : (execOp (ev ρ) ⟨d, .binOp .eql t x y u, ty, pos, af, g⟩).run P w = .ok (.value (.bool (a.toList == b.toList))) w :=
 Bu hx hy (by simp) (by simp [Op.stringOp])
theorem wu (hx : ev ρ x = .string a) (hy : ev ρ y = .string b) : (execOp (ev ρ) ⟨d, .binOp .neq t x y u, ty, pos, af, g⟩).run P w = .ok (.value (.bool !(a.toList == b.toList))) w :=
 Bu hx hy (by simp) (by simp [Op.stringOp])
theorem IW {a b : ByteArray} : (a.toList == b.toList) = decide (a = b) := by
 have key : ∀ s : ByteArray, s.toList = s.data.toList := fun s => by
  exact QP
 rw [Bool.eq_iff_iff, beq_iff_eq, decide_eq_true_eq, key, key];constructor
 ·intro h; cases a; cases b; congr 1; exact Array.ext' h
 ·intro h; rw [h]
theorem AK (hx : ev ρ x = .string a) (hy : ev ρ y = .string b) (h : a = b) : (execOp (ev ρ) ⟨d, .binOp .eql t x y u, ty, pos, af, g⟩).run P w = .ok (.value (.bool true)) w := by
 rw [wz hx hy, IW]; simp [h]
theorem zZ (hx : ev ρ x = .string a) (hy : ev ρ y = .string b) (h : ¬ a = b) : (execOp (ev ρ) ⟨d, .binOp .eql t x y u, ty, pos, af, g⟩).run P w = .ok (.value (.bool false)) w := by
 rw [wz hx hy, IW]; simp [h]
theorem zf (hx : ev ρ x = .string a) (hy : ev ρ y = .string b) (h : ¬ a = b) : (execOp (ev ρ) ⟨d, .binOp .neq t x y u, ty, pos, af, g⟩).run P w = .ok (.value (.bool true)) w := by
 rw [wu hx hy, IW]; simp [h]
theorem BE (hx : ev ρ x = .string a) (hy : ev ρ y = .string b) (h : a = b) : (execOp (ev ρ) ⟨d, .binOp .neq t x y u, ty, pos, af, g⟩).run P w = .ok (.value (.bool false)) w := by
 rw [wu hx hy, IW]; simp [h]
theorem F6 (hx : ev ρ x = .string a) (hy : ev ρ y = .string b) : (execOp (ev ρ) ⟨d, .binOp .lss t x y u, ty, pos, af, g⟩).run P w = .ok (.value (.bool (Op.bytesLess a.toList b.toList))) w :=
 Bu hx hy (by simp) (by simp [Op.stringOp])
theorem FO (hx : ev ρ x = .string a) (hy : ev ρ y = .string b) : (execOp (ev ρ) ⟨d, .binOp .gtr t x y u, ty, pos, af, g⟩).run P w = .ok (.value (.bool !(Op.bytesLess a.toList b.toList || a.toList == b.toList))) w :=
 Bu hx hy (by simp) (by simp [Op.stringOp])
theorem GZ (hx : ev ρ x = .string a) (hy : ev ρ y = .string b) : (execOp (ev ρ) ⟨d, .binOp .geq t x y u, ty, pos, af, g⟩).run P w = .ok (.value (.bool !(Op.bytesLess a.toList b.toList))) w :=
 Bu hx hy (by simp) (by simp [Op.stringOp])
end lj
theorem lv {s t : TypeId} {x : Operand} {k k' : IntKind} {a : Int} {sd : TypeDesc} (hs : P.underlying s = some sd) (ht : P.underlying t = some (.int k)) (hx : ev ρ x = .int k' a) :
  (execOp (ev ρ) ⟨d, .convert s t x, ty, pos, af, g⟩).run P w = .ok (.value (.int k (k.wrap a))) w := by
 simp [execOp, hx, convert, run_underlying hs, run_underlying ht, Conv.intToInt]
theorem BS {s t : TypeId} {x : Operand} {k' : IntKind} {a : Int} {sd : TypeDesc} (hs : P.underlying s = some sd) (ht : P.underlying t = some (.int .i64)) (hx : ev ρ x = .int k' a) (h1 : -9223372036854775808 ≤ a) (h2 : a ≤ 9223372036854775807) :
  (execOp (ev ρ) ⟨d, .convert s t x, ty, pos, af, g⟩).run P w = .ok (.value (.int .i64 a)) w := by
 rw [lv hs ht hx, jM h1 h2]
theorem fi {x : Operand} {i : Nat} {vs : List Value} {v : Value} (hx : ev ρ x = .tuple vs.toArray) (hv : vs[i]? = some v) :
  (execOp (ev ρ) ⟨d, .extract x i, ty, pos, af, g⟩).run P w = .ok (.value v) w := by
 simp [execOp, hx, Instr.extract, hv]
def wN (ρ : Rf) : List Operand → List Value
 | [] => []
 | x :: l => ev ρ x :: wN ρ l
theorem mZ {ρ : Rf} (args : Array Operand) {vs : List Value} (h : wN ρ args.toList = vs) : args.map (ev ρ) = vs.toArray := by
 have h1 : ∀ l : List Operand, l.map (ev ρ) = wN ρ l := by
  intro l
  induction l with
  | nil => rfl
  | cons a l ih => simp only [List.map_cons, ih]; rfl
 subst h;rw [← h1];apply Array.ext';simp
theorem Cl {fn : Fn} {first captured : Array Operand} {fs cs : List Value} (hf : wN ρ first.toList = fs) (hc : wN ρ captured.toList = cs) :
  (execOp (ev ρ) ⟨d, .makeFunc fn first captured, ty, pos, af, g⟩).run P w = .ok (.value (.func fn fs.toArray cs.toArray)) w := by
 simp [execOp, mZ _ hf, mZ _ hc, Instr.makeFunc]
theorem kP {i : Nat} {k : IntKind} {n : Int} (h : ρ i = .int k n) : ρ i = .int k n := h
theorem mr {i : Nat} {b : Bool} (h : ρ i = .bool b) : ρ i = .bool b := h
theorem vW {i : Nat} {s : ByteArray} (h : ρ i = .string s) : ρ i = .string s := h
theorem Gh {i : Nat} {A : Option Addr} {n c : Nat} (h : ρ i = .slice A n c) : ρ i = .slice A n c := h
theorem cH {x : Operand} {k : IntKind} {n : Int} (h : ev ρ x = .int k n) : ev ρ x = .int k n := h
theorem r6 {x : Operand} {b : Bool} (h : ev ρ x = .bool b) : ev ρ x = .bool b := h
theorem C3 {x : Operand} {s : ByteArray} (h : ev ρ x = .string s) : ev ρ x = .string s := h
theorem DD {x : Operand} {A : Option Addr} {n c : Nat} (h : ev ρ x = .slice A n c) : ev ρ x = .slice A n c := h
theorem CA {x : Operand} {a : Addr} (h : ev ρ x = .pointer (some a)) : ev ρ x = .pointer (some a) := h
theorem gO {x : Operand} {l : List Value} (h : ev ρ x = .agg l.toArray) : ev ρ x = .agg l.toArray := h
theorem Oo {x : Operand} {l : List Value} (h : ev ρ x = .tuple l.toArray) : ev ρ x = .tuple l.toArray := h
theorem sj {x : Operand} {f : Fn} {a b : List Value} (h : ev ρ x = .func f a.toArray b.toArray) : ev ρ x = .func f a.toArray b.toArray := h
theorem su {x : Operand} (h : ev ρ x = .nilFunc) : ev ρ x = .nilFunc := h
theorem GP {x : Operand} {t : TypeId} {s : ByteArray} (ht : P.underlying t = some .string) (hx : ev ρ x = .string s) :
  (execOp (ev ρ) ⟨d, .call ⟨.builtin .len, #[x], #[t]⟩, ty, pos, af, g⟩).run P w = .ok (.value (.int .i64 s.size)) w := by
 simp [execOp, resolve, invoke, builtin, Builtin.len_, hx, run_underlying ht, goInt]
theorem Ax {x : Operand} {t e : TypeId} {A : Option Addr} {n c : Nat} (ht : P.underlying t = some (.slice e)) (hx : ev ρ x = .slice A n c) :
  (execOp (ev ρ) ⟨d, .call ⟨.builtin .len, #[x], #[t]⟩, ty, pos, af, g⟩).run P w = .ok (.value (.int .i64 n)) w := by
 simp [execOp, resolve, invoke, builtin, Builtin.len_, hx, run_underlying ht, goInt]
theorem Qa {x y : Operand} {ts : Array TypeId} {k : IntKind} {a b : Int} (hx : ev ρ x = .int k a) (hy : ev ρ y = .int k b) :
  (execOp (ev ρ) ⟨d, .call ⟨.builtin .min, #[x, y], ts⟩, ty, pos, af, g⟩).run P w = .ok (.value (.int k (if b < a then b else a))) w := by
 simp [execOp, resolve, invoke, builtin, Builtin.min_, Builtin.min2, hx, hy, List.foldlM]
theorem MJ {x y : Operand} {ts : Array TypeId} {k : IntKind} {a b : Int} (hx : ev ρ x = .int k a) (hy : ev ρ y = .int k b) :
  (execOp (ev ρ) ⟨d, .call ⟨.builtin .max, #[x, y], ts⟩, ty, pos, af, g⟩).run P w = .ok (.value (.int k (if b > a then b else a))) w := by
 simp [execOp, resolve, invoke, builtin, Builtin.max_, Builtin.max2, hx, hy, List.foldlM]
theorem rE {t : TypeId} {x i : Operand} {s : ByteArray} {n : Int} {k : IntKind} {c : UInt8} (ht : P.underlying t = some .string) (hx : ev ρ x = .string s) (hi : ev ρ i = .int k n)
  (h0 : 0 ≤ n) (hc : s.data.toList[n.toNat]? = some c) : (execOp (ev ρ) ⟨d, .index t x i, ty, pos, af, g⟩).run P w = .ok (.value (.int .u8 c.toNat)) w := by
 have hs : s[n.toNat]? = some c := by
  rw [← hc];obtain ⟨h1, h2⟩ := List.getElem?_eq_some_iff.1 hc;have h3 : n.toNat < s.size := by simpa using h1
  rw [getElem?_pos s n.toNat h3, getElem?_pos s.data.toList n.toNat h1]
  rfl
 simp [execOp, hx, hi, Instr.index, asIntOf, run_underlying ht, h0, hs]
theorem BB {t : TypeId} {x : Operand} {lo hi : Option Operand} {s : ByteArray} {l h : Nat} (ht : P.underlying t = some .string) (hx : ev ρ x = .string s)
  (hlo : match lo with | none => l = 0 | some o => ∃ (k : IntKind) (n : Int), ev ρ o = .int k n ∧ n = l) (hhi : match hi with | none => h = s.size | some o => ∃ (k : IntKind) (n : Int), ev ρ o = .int k n ∧ n = h)
  (h1 : l ≤ h) (h2 : h ≤ s.size) : (execOp (ev ρ) ⟨d, .slice t x lo hi none, ty, pos, af, g⟩).run P w = .ok (.value (.string (s.extract l h))) w := by
 have e1 : (l : Int) ≤ h := Tx;have e2 : (h : Int) ≤ s.size := Tx
 cases lo <;> cases hi <;> simp only [] at hlo hhi
 ·subst hlo; subst hhi;simp [execOp, hx, Instr.sliceAt, Instr.slice, run_underlying ht, Instr.sliceBounds]
 ·obtain ⟨k2, n2, hv2, rfl⟩ := hhi;subst hlo;simp [execOp, hx, Instr.sliceAt, Instr.slice, run_underlying ht, Instr.sliceBounds, Instr.sliceBound, asIntOf, hv2, h2]
 ·obtain ⟨k2, n2, hv2, rfl⟩ := hlo;subst hhi;simp [execOp, hx, Instr.sliceAt, Instr.slice, run_underlying ht, Instr.sliceBounds, Instr.sliceBound, asIntOf, hv2, h1]
 ·obtain ⟨k2, n2, hv2, rfl⟩ := hhi;obtain ⟨k3, n3, hv3, rfl⟩ := hlo;simp [execOp, hx, Instr.sliceAt, Instr.slice, run_underlying ht, Instr.sliceBounds, Instr.sliceBound, asIntOf, hv2, hv3, h1, h2]
theorem iU {t e : TypeId} {x : Operand} {lo hi : Option Operand} {A : Option Addr} {n c l h sz : Nat} (ht : P.underlying t = some (.slice e)) (hsz : (P.info? e).map (·.size) = some sz) (hx : ev ρ x = .slice A n c)
  (hlo : match lo with | none => l = 0 | some o => ∃ (k : IntKind) (n : Int), ev ρ o = .int k n ∧ n = l) (hhi : match hi with | none => h = n | some o => ∃ (k : IntKind) (n : Int), ev ρ o = .int k n ∧ n = h)
  (h1 : l ≤ h) (h2 : h ≤ c) : (execOp (ev ρ) ⟨d, .slice t x lo hi none, ty, pos, af, g⟩).run P w = .ok (.value (.slice (if c = l then A else A.map (·.add (l * sz))) (h - l) (c - l))) w := by
 obtain ⟨i, hi1, hi2⟩ := Option.map_eq_some_iff.1 hsz;have e1 : (l : Int) ≤ h := Tx;have e2 : (h : Int) ≤ c := Tx
 cases lo <;> cases hi <;> simp only [] at hlo hhi
 ·subst hlo; subst hhi;simp [execOp, hx, Instr.sliceAt, Instr.slice, run_underlying ht, Instr.sliceBounds, sizeOf, typeInfo, hi1]
 ·obtain ⟨k2, n2, hv2, rfl⟩ := hhi;subst hlo;simp [execOp, hx, Instr.sliceAt, Instr.slice, run_underlying ht, Instr.sliceBounds, Instr.sliceBound, asIntOf, hv2, h2, sizeOf, typeInfo, hi1]
 ·obtain ⟨k2, n2, hv2, rfl⟩ := hlo;subst hhi;simp [execOp, hx, Instr.sliceAt, Instr.slice, run_underlying ht, Instr.sliceBounds, Instr.sliceBound, asIntOf, hv2, h1, sizeOf, typeInfo, hi1, hi2]
 ·obtain ⟨k2, n2, hv2, rfl⟩ := hhi;obtain ⟨k3, n3, hv3, rfl⟩ := hlo;simp [execOp, hx, Instr.sliceAt, Instr.slice, run_underlying ht, Instr.sliceBounds, Instr.sliceBound, asIntOf, hv2, hv3, h1, h2, sizeOf, typeInfo, hi1, hi2]
theorem dy {t e : TypeId} {x i : Operand} {ad : Addr} {n c sz : Nat} {k : IntKind} {m : Int} (ht : P.underlying t = some (.slice e)) (hsz : (P.info? e).map (·.size) = some sz) (hx : ev ρ x = .slice (some ad) n c) (hi : ev ρ i = .int k m)
  (h0 : 0 ≤ m) (h1 : m < n) : (execOp (ev ρ) ⟨d, .indexAddr t x i, ty, pos, af, g⟩).run P w = .ok (.value (.pointer (some (ad.add (m.toNat * sz))))) w := by
 obtain ⟨i, hi1, hi2⟩ := Option.map_eq_some_iff.1 hsz;simp [execOp, hx, hi, Instr.indexAt, asIntOf, run_underlying ht, sizeOf, typeInfo, hi1, hi2, h0, h1]
theorem oa {t e : TypeId} {x i : Operand} {b n c sz k : Nat} {kk : IntKind} {m : Int} (ht : P.underlying t = some (.slice e)) (hsz : (P.info? e).map (·.size) = some sz) (hx : ev ρ x = .slice (some ⟨b, 0, none⟩) n c) (hi : ev ρ i = .int kk m)
  (hm : m = (k : Int)) (h1 : k < n) : (execOp (ev ρ) ⟨d, .indexAddr t x i, ty, pos, af, g⟩).run P w = .ok (.value (.pointer (some ⟨b, k * sz, none⟩))) w := by
 have h := dy (P := P) (w := w) (d := d) (ty := ty) (pos := pos) (af := af) (g := g) ht hsz hx hi Tx Tx;rw [h, hm];have : (⟨b, 0, none⟩ : Addr).add (((k : Int)).toNat * sz) = ⟨b, k * sz, none⟩ := by
  unfold Addr.add;split
  ·rename_i h0;rw [Int.toNat_natCast] at h0;rw [h0]
  ·rw [Int.toNat_natCast]; simp
 rw [this]
theorem Hk {x : Operand} {args : Array Operand} {ts : Array TypeId} {f : FuncId} {fn : Func} {first cap : Array Value} {vs : Array Value} (hf : P.funcs[f]? = some fn) (hb : fn.body.isNone = false) (hn : (fn.name == "runtime.NumGoroutine") = false)
  (hx : ev ρ x = .func (.func f) first cap) (ha : args.map (ev ρ) = vs) : (execOp (ev ρ) ⟨d, .call ⟨.value x, args, ts⟩, ty, pos, af, g⟩).run P w = .ok (.enter f (first ++ vs ++ cap)) w := by
 have h1 : ¬ fn.name = "runtime.NumGoroutine" := by simpa using hn
 have h2 : ¬ fn.body = none := by intro h; simp [h] at hb
 simp [execOp, resolve, Deferred.ofValue, hx, ha, invoke, callFunc, program, Sem.run, hf, h1, h2]
end
def dn (P : Program) (t : TypeId) : Option (Nat × Bool × Nat × List Value) :=
 match P.info? t, P.underlying t with
 | some i, some d => i.zero.map fun z => (i.size, (match d with | .struct _ | .array _ _ => true | _ => false), i.bytes, z.cells.toList)
 | _, _ => none
theorem eu {P : Program} {t : TypeId} {n by' : Nat} {ag : Bool} {zc : List Value} (h : dn P t = some (n, ag, by', zc)) :
  ∃ i z d, P.info? t = some i ∧ P.underlying t = some d ∧ i.zero = some z ∧ i.size = n ∧ i.bytes = by' ∧ z.cells = zc.toArray ∧ (match d with | .struct _ | .array _ _ => true | _ => false) = ag := by
 unfold dn at h;split at h
 ·rename_i i d hi hd;obtain ⟨z, hz, he⟩ := Option.map_eq_some_iff.1 h;simp only [Prod.mk.injEq] at he;exact ⟨i, z, d, hi, hd, hz, he.1, he.2.2.1, by rw [← he.2.2.2], he.2.1⟩
 ·cases h
section
variable {P : Program} {w : World} {t : TypeId} {n by' : Nat} {ag : Bool} {zc : List Value}
theorem eN (h : dn P t = some (n, ag, by', zc)) : (sizeOf t).run P w = .ok n w := by
 obtain ⟨i, z, d, hi, hd, hz, hs, _⟩ := eu h;simp [sizeOf, typeInfo, hi, hs]
theorem iL (h : dn P t = some (n, ag, by', zc)) : (isAgg t).run P w = .ok ag w := by
 obtain ⟨i, z, d, hi, hd, hz, hs, _, _, ha⟩ := eu h;simp only [isAgg, Sem.run_bind, run_underlying hd, Result.andThen_ok];subst ha
 cases d <;> rfl
theorem dx (h : dn P t = some (n, ag, by', zc)) : ∃ z, (zeroValue t).run P w = .ok z w ∧ z.cells = zc.toArray := by
 obtain ⟨i, z, d, hi, hd, hz, hs, _, hc, _⟩ := eu h;exact ⟨z, by simp [zeroValue, typeInfo, hi, hz], hc⟩
end
def Rd (w : World) (ad : Addr) (vs : List Value) : Prop := ∀ j u, vs[j]? = some u → w.cell? (ad.add j) = some u
def Sl (w : World) (A : Option Addr) (n k : Nat) (xs : List Value) : Prop := xs.length = n * k ∧ (0 < n → ∃ ad, A = some ad ∧ Rd w ad xs)
theorem eY (b o n : Nat) : (⟨b, o, none⟩ : Addr).add n = ⟨b, o + n, none⟩ := by
 unfold Addr.add;split
 ·rename_i h; subst h; rfl
 ·rfl
theorem lz (a : Addr) (i j : Nat) : (a.add i).add j = a.add (i + j) := by
 unfold Addr.add;by_cases hi : i = 0 <;> by_cases hj : j = 0 <;> simp [hi, hj, Nat.add_assoc]
theorem lh {w : World} {a : Addr} {v : Value} (h : w.cell? a = some v) : a.block < w.heap.size := block_lt_of_cell h
theorem cE {w w' : World} (h : Below w.heap.size w w') {a : Addr} {v : Value} (hc : w.cell? a = some v) : w'.cell? a = some v := (h.cell (lh hc)).trans hc
theorem Rd.ext {w w' : World} {ad : Addr} {vs : List Value} (h : Rd w ad vs) (hb : Below w.heap.size w w') : Rd w' ad vs := fun j u hu => cE hb (h j u hu)
theorem Sl.ext {w w' : World} {A : Option Addr} {n k : Nat} {xs : List Value} (h : Sl w A n k xs) (hb : Below w.heap.size w w') : Sl w' A n k xs :=
 ⟨h.1, fun hn => let ⟨ad, ha, hr⟩ := h.2 hn; ⟨ad, ha, hr.ext hb⟩⟩
theorem Rd.drop {w : World} {ad : Addr} {vs : List Value} (h : Rd w ad vs) (i : Nat) : Rd w (ad.add i) (vs.drop i) := fun j u hu => by
 rw [lz];exact h _ u (by rw [← hu, List.getElem?_drop])
theorem Rd.take {w : World} {ad : Addr} {vs : List Value} (h : Rd w ad vs) (n : Nat) : Rd w ad (vs.take n) := fun j u hu => by
 rw [List.getElem?_take] at hu;split at hu
 ·exact h _ u hu
 ·cases hu
theorem Rd.cell {w : World} {ad : Addr} {vs : List Value} (h : Rd w ad vs) {i : Nat} {v : Value} (hv : vs[i]? = some v) : w.cell? (ad.add i) = some v := h i v hv
theorem Sl.nil (w : World) (A : Option Addr) (k : Nat) : Sl w A 0 k [] := ⟨by simp, fun h => absurd h Tx⟩
theorem Sl.at_ {w : World} {A : Option Addr} {n k : Nat} {xs : List Value} (h : Sl w A n k xs) (hn : 0 < n) : ∃ ad, A = some ad ∧ Rd w ad xs := h.2 hn
theorem Rd.elem {w : World} {ad : Addr} {xs : List Value} (h : Rd w ad xs) (i k : Nat) : Rd w (ad.add (i * k)) ((xs.drop (i * k)).take k) := (h.drop _).take _
theorem Sl.cut {w : World} {A : Option Addr} {n k c l m : Nat} {xs : List Value} (h : Sl w A n k xs) (hl : l ≤ m) (hm : m ≤ n) (hc : n ≤ c) :
  Sl w (if c = l then A else A.map (·.add (l * k))) (m - l) k ((xs.drop (l * k)).take ((m - l) * k)) := by
 have hle : l * k + (m - l) * k ≤ n * k := by
  rw [← Nat.add_mul];exact Nat.mul_le_mul_right _ Tx
 refine ⟨by rw [List.length_take, List.length_drop, h.1]; omega, fun hn => ?_⟩;obtain ⟨ad, rfl, hr⟩ := h.2 Tx;rw [if_neg Tx];exact ⟨_, rfl, (hr.drop _).take _⟩
inductive HE where
 | blk (b : Nat) (t : TypeId) (cs : List Value) (fz : Nat × Nat)
 | row (A : Option Addr) (n c : Nat) (t : TypeId) (sz : Nat) (xs : List Value)
 | ob (b : Nat) (o : Obj)
abbrev HE.it (b : Nat) (s : ByteArray) (pos : Nat) : HE := .ob b (.stringIter s pos)
def HE.id : HE → Option Nat
 | .blk b _ _ _ => some b
 | .row A _ _ _ _ _ => A.map (·.block)
 | .ob b _ => some b
def HE.holds (base : Nat) (w : World) : HE → Prop
 | .blk b t cs fz => base ≤ b ∧ w.heap[b]? = some (.cells cs.toArray t fz) ∧ (cs.length ≤ fz.1 ∨ fz.2 ≤ fz.1)
 | .row A n c t sz xs => w.ownsRow base t sz (.slice A n c) n xs
 | .ob b o => base ≤ b ∧ w.heap[b]? = some o
structure Hp (w0 : World) (H : List HE) (w : World) : Prop where
 below : Below w0.heap.size w0 w
 own : ∀ x ∈ H, x.holds w0.heap.size w
 nd : (H.filterMap HE.id).Nodup
section
variable {w0 w w' : World} {H : List HE}
theorem Hp.start (w : World) : Hp w [] w := ⟨Below.refl _ _, fun _ h => (nomatch h), List.nodup_nil⟩
theorem Hp.size (h : Hp w0 H w) : w0.heap.size ≤ w.heap.size := h.below.size
theorem dJ {base : Nat} {x : HE} (h : x.holds base w) {b : Nat} (hb : x.id = some b) : base ≤ b ∧ b < w.heap.size := by
 cases x with
 | blk b' t cs fz =>
  obtain rfl : b' = b := by simpa [HE.id] using hb
  refine ⟨h.1, ?_⟩
  rcases Nat.lt_or_ge b' w.heap.size with hlt | hge
  ·exact hlt
  ·have := h.2.1; rw [Array.getElem?_eq_none hge] at this; cases this
 | row A n c t sz xs =>
  cases A with
  | none => simp [HE.id] at hb
  | some a => exact World.ownsRow.lt h b (by simpa [HE.id, Value.ownBlock] using hb)
 | ob b' o =>
  obtain rfl : b' = b := by simpa [HE.id] using hb
  refine ⟨h.1, ?_⟩
  rcases Nat.lt_or_ge b' w.heap.size with hlt | hge
  ·exact hlt
  ·have := h.2; rw [Array.getElem?_eq_none hge] at this; cases this
theorem oF {base : Nat} {x : HE} (h : x.holds base w) (hk : ∀ b, x.id = some b → w'.heap[b]? = w.heap[b]?) : x.holds base w' := by
 cases x with
 | blk b t cs fz => exact ⟨h.1, (hk b rfl).trans h.2.1, h.2.2⟩
 | row A n c t sz xs =>
  obtain ⟨h1, h2⟩ := h;refine ⟨h1, ?_⟩
  rcases h2 with h2 | ⟨g, cap, cur, hv, hg, hh, r⟩
  ·exact .inl h2
  ·have hA : A = some ⟨g, 0, none⟩ := by injection hv
   subst hA;exact .inr ⟨g, cap, cur, hv, hg, (hk g rfl).trans hh, r⟩
 | ob b o => exact ⟨h.1, (hk b rfl).trans h.2⟩
theorem Hp.ext (h : Hp w0 H w) (hb : Below w.heap.size w w') : Hp w0 H w' :=
 ⟨h.below.trans (hb.mono h.size), fun x hx => oF (h.own x hx) fun _ hi => hb.block _ (dJ (h.own x hx) hi).2, h.nd⟩
theorem Hp.sub (h : Hp w0 H w) {H' : List HE} (hs : H'.Sublist H) : Hp w0 H' w := ⟨h.below, fun x hx => h.own x (hs.subset hx), h.nd.sublist (hs.filterMap _)⟩
theorem Hp.at_ (h : Hp w0 H w) {i : Nat} {x : HE} (hi : H[i]? = some x) : x.holds w0.heap.size w := h.own x (List.mem_of_getElem? hi)
theorem Hp.aV (h : Hp w0 H w) (hb : Below w.heap.size w w') {x : HE} (hx : x.holds w.heap.size w') : Hp w0 (x :: H) w' := by
 have h' := h.ext hb;refine ⟨h'.below, ?_, ?_⟩
 ·intro y hy
  rcases List.mem_cons.1 hy with rfl | hy
  ·cases y with
   | blk b t cs fz => exact ⟨Nat.le_trans h.size hx.1, hx.2⟩
   | row A n c t sz xs =>
    obtain ⟨h1, h2⟩ := hx;exact ⟨h1, h2.imp id fun ⟨g, cap, cur, hv, hg, r⟩ => ⟨g, cap, cur, hv, Nat.le_trans h.size hg, r⟩⟩
   | ob b o => exact ⟨Nat.le_trans h.size hx.1, hx.2⟩
  ·exact h'.own y hy
 ·rw [List.filterMap_cons];split
  ·exact h'.nd
  ·rename_i b hb';refine List.nodup_cons.2 ⟨fun hm => ?_, h'.nd⟩;obtain ⟨y, hy, hyb⟩ := List.mem_filterMap.1 hm;have h1 := (dJ hx hb').1;have h2 := (dJ (h.own y hy) hyb).2;omega
theorem Hp.KZ (h : Hp w0 H w) {i : Nat} {x y : HE} (hi : H[i]? = some x) (hid : ∀ b, y.id = some b → x.id = some b ∨ w.heap.size ≤ b)
  (hb : Below w0.heap.size w0 w') (hk : ∀ b, b < w.heap.size → x.id ≠ some b → w'.heap[b]? = w.heap[b]?) (hy : y.holds w0.heap.size w') : Hp w0 (H.set i y) w' := by
 obtain ⟨hlt, hx⟩ := List.getElem?_eq_some_iff.1 hi;have hsplit : H = H.take i ++ x :: H.drop (i + 1) := by
  rw [← hx, ← List.drop_eq_getElem_cons hlt, List.take_append_drop]
 have hset : H.set i y = H.take i ++ y :: H.drop (i + 1) := by rw [List.set_eq_take_append_cons_drop, if_pos hlt]
 have hnd := h.nd;rw [hsplit, List.filterMap_append] at hnd;have hother : ∀ z, z ∈ H.take i ∨ z ∈ H.drop (i + 1) → z ∈ H ∧ (∀ b, z.id = some b → x.id ≠ some b) := by
  intro z hz;refine ⟨hz.elim List.mem_of_mem_take List.mem_of_mem_drop, fun b hzb hxb => ?_⟩;rw [List.filterMap_cons, hxb] at hnd;simp only [] at hnd;rw [List.nodup_append] at hnd
  rcases hz with hz | hz
  ·exact hnd.2.2 b (List.mem_filterMap.2 ⟨z, hz, hzb⟩) b (List.mem_cons_self) rfl
  ·exact (List.nodup_cons.1 hnd.2.1).1 (List.mem_filterMap.2 ⟨z, hz, hzb⟩)
 have hold : ∀ z, z ∈ H.take i ∨ z ∈ H.drop (i + 1) → z.holds w0.heap.size w' := fun z hz => by
  obtain ⟨hm, hne⟩ := hother z hz;exact oF (h.own z hm) fun b hzb => hk b (dJ (h.own z hm) hzb).2 (hne b hzb)
 rw [hset];refine ⟨hb, ?_, ?_⟩
 ·intro z hz
  rcases List.mem_append.1 hz with hz | hz
  ·exact hold z (.inl hz)
  ·rcases List.mem_cons.1 hz with rfl | hz
   ·exact hy
   ·exact hold z (.inr hz)
 ·rw [List.filterMap_append];have hsub : ((H.take i).filterMap HE.id ++ (H.drop (i + 1)).filterMap HE.id).Nodup := by
   refine hnd.sublist (List.Sublist.append (List.Sublist.refl _) ?_);exact List.Sublist.filterMap _ (List.sublist_cons_self _ _)
  rw [List.filterMap_cons];split
  ·exact hsub
  ·rename_i b hyb;have hfresh : ∀ z, z ∈ H.take i ∨ z ∈ H.drop (i + 1) → z.id ≠ some b := fun z hz hzb => by
    obtain ⟨hm, hne⟩ := hother z hz
    rcases hid b hyb with h1 | h1
    ·exact hne b hzb h1
    ·have := (dJ (h.own z hm) hzb).2; omega
   rw [List.nodup_append] at hsub ⊢;refine ⟨hsub.1, List.nodup_cons.2 ⟨fun hm => ?_, hsub.2.1⟩, fun u hu v hv => ?_⟩
   ·obtain ⟨z, hz, hzb⟩ := List.mem_filterMap.1 hm;exact hfresh z (.inr hz) hzb
   ·rcases List.mem_cons.1 hv with rfl | hv
    ·rintro rfl;obtain ⟨z, hz, hzb⟩ := List.mem_filterMap.1 hu;exact hfresh z (.inl hz) hzb
    ·exact hsub.2.2 u hu v hv
end
section
variable {w0 w w' : World} {H : List HE}
theorem Hp.Jd (h : Hp w0 H w) {i b : Nat} {t : TypeId} {cs : List Value} {fz : Nat × Nat} (hi : H[i]? = some (.blk b t cs fz)) : Rd w ⟨b, 0, none⟩ cs := fun j u hu => by
 have h1 := (h.at_ hi).2.1;rw [eY, Nat.zero_add, cell_of_row w b j _ t fz h1];simpa using hu
theorem Hp.dX (h : Hp w0 H w) {i b o : Nat} {t : TypeId} {cs : List Value} {fz : Nat × Nat} {v : Value} (hi : H[i]? = some (.blk b t cs fz)) (hv : cs[o]? = some v) : w.cell? ⟨b, o, none⟩ = some v := by
 have := h.Jd hi o v hv;rwa [eY, Nat.zero_add] at this
theorem Hp.ck (h : Hp w0 H w) {i b o n : Nat} {t : TypeId} {cs vs : List Value} {fz : Nat × Nat} (hi : H[i]? = some (.blk b t cs fz)) (hv : (cs.drop o).take n = vs) : Rd w ⟨b, o, none⟩ vs := by
 have := ((h.Jd hi).drop o).take n;rwa [eY, Nat.zero_add, hv] at this
theorem lB {base : Nat} {t : TypeId} {A : Option Addr} {n c sz : Nat} {xs : List Value} (h : w.ownsRow base t sz (.slice A n c) n xs) : Sl w A n sz xs := by
 refine ⟨h.1, fun hn => ?_⟩;obtain ⟨g, cap, hv, _, hlt⟩ := h.form hn;have hA : A = some ⟨g, 0, none⟩ := by injection hv
 subst hA;exact ⟨_, rfl, h.cells (g := g) rfl⟩
theorem Hp.cd (h : Hp w0 H w) {i n c sz : Nat} {A : Option Addr} {t : TypeId} {xs : List Value} (hi : H[i]? = some (.row A n c t sz xs)) (hn : 0 < n) : ∃ g, A = some ⟨g, 0, none⟩ := by
 obtain ⟨g, cap, hv, _⟩ := World.ownsRow.form (h.at_ hi) hn;injection hv with hA
 exact ⟨g, hA⟩
theorem Hp.fR (h : Hp w0 H w) {i b n c sz o : Nat} {t : TypeId} {xs : List Value} {v : Value} (hi : H[i]? = some (.row (some ⟨b, 0, none⟩) n c t sz xs)) (hv : xs[o]? = some v) : w.cell? ⟨b, o, none⟩ = some v := by
 have := World.ownsRow.cells (h.at_ hi) (g := b) rfl o v hv;rwa [eY, Nat.zero_add] at this
theorem Hp.L3 (h : Hp w0 H w) {i n c sz : Nat} {A : Option Addr} {t : TypeId} {xs : List Value} (hi : H[i]? = some (.row A n c t sz xs)) : xs.length = n * sz := (h.at_ hi).1
theorem Hp.aC (h : Hp w0 H w) {i n c sz : Nat} {A : Option Addr} {t : TypeId} {xs : List Value} (hi : H[i]? = some (.row A n c t sz xs)) : Sl w A n sz xs := lB (h.at_ hi)
end
section
variable {P : Program} {ρ : Rf} {w : World} {d : Option Nat} {ty : TypeId} {pos : String} {af : Array Edge} {g : Option (Nat × Bool)}
theorem CE {t : TypeId} {x : Operand} {ad : Addr} {n by' : Nat} {zc vs : List Value} (ht : dn P t = some (n, true, by', zc)) (hx : ev ρ x = .pointer (some ad)) (hr : Rd w ad vs) (hl : vs.length = n) :
  (execOp (ev ρ) ⟨d, .load t x, ty, pos, af, g⟩).run P w = .ok (.value (.agg vs.toArray)) w := by
 subst hl;simp [execOp, hx, Instr.loadAt, Instr.sureAddr, loadVar, iL ht, eN ht, run_loadCells_list (P := P) w ad vs hr]
theorem jv {t : TypeId} {x : Operand} {ad : Addr} {n by' : Nat} {zc : List Value} {v : Value} (ht : dn P t = some (n, false, by', zc)) (hx : ev ρ x = .pointer (some ad)) (hc : w.cell? ad = some v) :
  (execOp (ev ρ) ⟨d, .load t x, ty, pos, af, g⟩).run P w = .ok (.value v) w := by
 simp [execOp, hx, Instr.loadAt, Instr.sureAddr, loadVar, iL ht, run_load, hc]
theorem eJ {t : TypeId} {ad : Addr} {n by' : Nat} {zc vs : List Value} (ht : dn P t = some (n, true, by', zc)) (hr : Rd w ad vs) (hl : vs.length = n) :
  (loadVar t ad).run P w = .ok (.agg vs.toArray) w := by
 subst hl;simp [loadVar, iL ht, eN ht, run_loadCells_list (P := P) w ad vs hr]
def gE (P : Program) (s : TypeId) (i : Nat) : Option (Nat × TypeId) :=
 match P.underlying s with
 | some (.struct fs) => match fs[i]? with
  | some f => if P.cellsOf f.type = 0 then none else some (f.offset, f.type)
  | none => none
 | _ => none
theorem rC {s : TypeId} {x : Operand} {f b o off : Nat} {ft : TypeId} (hf : gE P s f = some (off, ft)) (hx : ev ρ x = .pointer (some ⟨b, o, none⟩)) :
  (execOp (ev ρ) ⟨d, .fieldAddr s x f, ty, pos, af, g⟩).run P w = .ok (.value (.pointer (some ⟨b, o + off, none⟩))) w := by
 unfold gE at hf;split at hf
 ·rename_i fs hs;split at hf
  ·rename_i fd hfd;split at hf
   ·cases hf
   ·rename_i hc;simp only [Option.some.injEq, Prod.mk.injEq] at hf;obtain ⟨rfl, rfl⟩ := hf;have hsz : ∃ i, P.info? fd.type = some i ∧ i.size ≠ 0 := by
     exact Rm
    obtain ⟨i, hi, hi0⟩ := hsz;simp [execOp, hx, Instr.fieldAt, run_underlying hs, hfd, Instr.sureAddr, fieldPlace, sizeOf, typeInfo, hi, hi0, eY]
  ·cases hf
 ·cases hf
theorem pZ {s : TypeId} {x : Operand} {f off : Nat} {ad : Addr} {ft : TypeId} (hf : gE P s f = some (off, ft)) (hx : ev ρ x = .pointer (some ad)) :
  (execOp (ev ρ) ⟨d, .fieldAddr s x f, ty, pos, af, g⟩).run P w = .ok (.value (.pointer (some (ad.add off)))) w := by
 unfold gE at hf;split at hf
 ·rename_i fs hs;split at hf
  ·rename_i fd hfd;split at hf
   ·cases hf
   ·rename_i hc;simp only [Option.some.injEq, Prod.mk.injEq] at hf;obtain ⟨rfl, rfl⟩ := hf;have hsz : ∃ i, P.info? fd.type = some i ∧ i.size ≠ 0 := by
     exact Rm
    obtain ⟨i, hi, hi0⟩ := hsz;simp [execOp, hx, Instr.fieldAt, run_underlying hs, hfd, Instr.sureAddr, fieldPlace, sizeOf, typeInfo, hi, hi0]
  ·cases hf
 ·cases hf
theorem LB {s : TypeId} {x : Operand} {f off n by' : Nat} {ft : TypeId} {cs vs : Array Value} {zc : List Value} (hf : gE P s f = some (off, ft)) (ht : dn P ft = some (n, true, by', zc)) (hx : ev ρ x = .agg cs) (hv : cs.extract off (off + n) = vs) :
  (execOp (ev ρ) ⟨d, .field s x f, ty, pos, af, g⟩).run P w = .ok (.value (.agg vs)) w := by
 unfold gE at hf;split at hf
 ·rename_i fs hs;split at hf
  ·rename_i fd hfd;split at hf
   ·cases hf
   ·simp only [Option.some.injEq, Prod.mk.injEq] at hf;obtain ⟨rfl, rfl⟩ := hf;simp [execOp, hx, Instr.field, run_underlying hs, hfd, asAgg, part, iL ht, eN ht, hv]
  ·cases hf
 ·cases hf
end
section
variable {ro : Mode}
def cm (cs : List Value) (o : Nat) (vs : List Value) : List Value := cs.take o ++ vs ++ cs.drop (o + vs.length)
theorem ff {cs vs : List Value} {o : Nat} (h : o + vs.length ≤ cs.length) : (cm cs o vs).length = cs.length := by
 simp only [cm, List.length_append, List.length_take, List.length_drop]; omega
theorem uz (cs : List Value) (o : Nat) : cm cs o [] = cs := by simp [cm]
theorem qU {cs vs : List Value} {o : Nat} {v : Value} (h : o + (v :: vs).length ≤ cs.length) : cm cs o (v :: vs) = cm (cs.set o v) (o + 1) vs := by
 simp only [List.length_cons] at h;have h0 : cs.set o v = cs.take o ++ v :: cs.drop (o + 1) := by rw [List.set_eq_take_append_cons_drop, if_pos Tx]
 have h2 : (cs.take o).length = o := by simp; omega
 have h1 : (cs.set o v).take (o + 1) = cs.take o ++ [v] := by
  rw [h0, List.take_append, h2, List.take_of_length_le Tx];simp
 have h3 : (cs.set o v).drop (o + 1 + vs.length) = cs.drop (o + 1 + vs.length) := List.drop_set_of_lt Tx;unfold cm;rw [h1, h3];simp [Nat.add_assoc, Nat.add_comm 1]
theorem u6 {a b c : World} {r : Option Nat} (h : a.grownBy b r) (k : b.grownBy c r) : a.grownBy c r :=
 ⟨k.os.trans h.os, k.tape.trans h.tape, k.output.trans h.output, Nat.le_trans h.size k.size, fun i hi hne => (k.block i (Nat.lt_of_lt_of_le hi h.size) hne).trans (h.block i hi hne)⟩
theorem yP (w : World) (b o : Nat) (v : Value) : w.grownBy (w.setCell ⟨b, o, none⟩ v) (some b) :=
 ⟨rfl, rfl, rfl, by simp [World.setCell], fun k _ hne => Below.heap_setCell w _ v k (fun e => hne (by rw [e]))⟩
section
variable {P : Program}
theorem gF {b : Nat} {t : TypeId} {fz : Nat × Nat} (o : Nat) : ∀ (vs : List Value) (i : Nat) (cs : List Value) (w : World), w.heap[b]? = some (.cells cs.toArray t fz) → (cs.length ≤ fz.1 ∨ fz.2 ≤ fz.1) →
  o + i + vs.length ≤ cs.length → (∀ v ∈ vs, v.oneCell' = true) →
  ∃ w', (storeCells ⟨b, o, none⟩ vs i).run P w = .ok () w' ∧ w'.heap[b]? = some (.cells (cm cs (o + i) vs).toArray t fz) ∧ w.grownBy w' (some b) ∧ w'.heap.size = w.heap.size
 | [], i, cs, w, hw, _, _, _ => ⟨w, by simp [storeCells], by rw [uz]; exact hw, World.grownBy.refl _ _, rfl⟩
 | v :: vs, i, cs, w, hw, hf, hl, h1 => by
  simp only [List.length_cons] at hl;have hoi : o + i < cs.length := Tx;have hc : w.cell? ⟨b, o + i, none⟩ = some cs[o + i] := by
   rw [cell_of_row w b (o + i) _ t fz hw];simp [List.getElem?_eq_getElem hoi]
  have hfr : w.frozen? ⟨b, o + i, none⟩ = false := by
   simp only [World.frozen?, hw]
   rcases hf with hf | hf <;> simp <;> omega
  have hw2 : (w.setCell ⟨b, o + i, none⟩ v).heap[b]? = some (.cells (cs.set (o + i) v).toArray t fz) := by
   simp [World.setCell, Array.getElem?_modify, hw]
  obtain ⟨w', hr, hb', hg, hs⟩ := gF (b := b) (t := t) (fz := fz) o vs (i + 1) (cs.set (o + i) v) _ hw2 (by simpa using hf) (by simp; omega) (fun u hu => h1 u (List.mem_cons_of_mem _ hu));refine ⟨w', ?_, ?_, u6 (yP w b (o + i) v) hg, hs.trans (by simp [World.setCell])⟩
  ·simp only [storeCells, Sem.run_bind, eY, run_store P w ⟨b, o + i, none⟩ v .plain (h1 v (List.mem_cons_self)), hc, hfr];simpa using hr
  ·rw [qU (by simp; omega)];exact hb'
end
def ke (pl : Nat → Option (Nat × Nat)) : List Value → List (Nat × Value) → Option (List Value)
 | cs, [] => some cs
 | cs, (i, v) :: r =>
  match pl i with
  | none => none
  | some (off, size) => if v.cells.toList.length ≠ size ∨ cs.length < off + v.cells.toList.length then none else ke pl (cm cs off v.cells.toList) r
theorem pf : ∀ (vs : List Value) (k o : Nat) (cs : List Value), o + k + vs.length ≤ cs.length →
  (vs.zipIdx k).foldl (fun (cs : Array Value) (x : Value × Nat) => cs.setIfInBounds (o + x.2) x.1) cs.toArray = (cm cs (o + k) vs).toArray
 | [], k, o, cs, _ => by simp [uz]
 | v :: vs, k, o, cs, h => by
  rw [List.zipIdx_cons, List.foldl_cons];simp only [List.setIfInBounds_toArray];rw [pf vs (k + 1) o (cs.set (o + k) v) (by simp at h ⊢; omega), qU (by simp at h ⊢; omega)]
  rfl
theorem xz {pl : Nat → Option (Nat × Nat)} : ∀ (ps : List (Nat × Value)) (zs cs : List Value), ke pl zs ps = some cs → Instr.fill pl zs.toArray ps = some cs.toArray
 | [], zs, cs, h => by simp only [ke, Option.some.injEq] at h; subst h; rfl
 | (i, v) :: r, zs, cs, h => by
  unfold ke at h;unfold Instr.fill;split at h
  ·cases h
  ·rename_i off size hpl;split at h
   ·cases h
   ·rename_i hc;simp only [ne_eq, not_or, Decidable.not_not, Nat.not_lt] at hc;simp only [hpl];have h1 : ¬ ((v.cells.size ≠ size || decide (off + v.cells.size > zs.toArray.size)) = true) := by
     have e : v.cells.size = v.cells.toList.length := by simp
     simp only [e, hc.1, List.size_toArray, Bool.or_eq_true, decide_eq_true_eq, ne_eq, not_true, decide_false, Bool.false_eq_true, false_or];omega
    rw [if_neg h1];have h2 : v.cells.zipIdx.foldl (fun (cs : Array Value) (x : Value × Nat) => cs.setIfInBounds (off + x.2) x.1) zs.toArray = (cm zs off v.cells.toList).toArray := by
     have := pf v.cells.toList 0 off zs Tx;rw [Nat.add_zero] at this;rw [← this, ← Array.foldl_toList, Array.toList_zipIdx]
    exact (congrArg (fun x => Instr.fill pl x r) h2).trans (xz r _ cs h)
def fk : Nat → List Value → List Value
 | 0, _ => []
 | n + 1, zc => zc ++ fk n zc
theorem mK (n : Nat) (zc : List Value) : (fk n zc).length = n * zc.length := by
 induction n with
 | zero => simp [fk]
 | succ n ih => simp [fk, ih, Nat.add_mul, Nat.add_comm]
theorem xj : ∀ (n : Nat) (zc : List Value) (i : Nat), i < n * zc.length → (fk n zc)[i]? = zc[i % zc.length]?
 | 0, zc, i, h => by simp at h
 | n + 1, zc, i, h => by
  unfold fk
  rcases Nat.lt_or_ge i zc.length with hi | hi
  ·rw [List.getElem?_append_left hi, Nat.mod_eq_of_lt hi]
  ·rw [List.getElem?_append_right hi, xj n zc (i - zc.length) (by rw [Nat.add_mul] at h; omega)];congr 1;rw [Nat.mod_eq_sub_mod hi]
theorem ue (n : Nat) (zc : List Value) : (Array.range (n * zc.length)).map (fun i => zc.toArray[i % zc.length]!) = (fk n zc).toArray := by
 apply Array.ext_getElem?;intro i
 rcases Nat.lt_or_ge i (n * zc.length) with h | h
 ·have hpos : 0 < zc.length := by
   rcases Nat.eq_zero_or_pos zc.length with h0 | h0
   ·rw [h0] at h; omega
   ·exact h0
  have hm : i % zc.length < zc.length := Nat.mod_lt _ hpos;simp [h, xj n zc i h, List.getElem?_eq_getElem hm]
 ·have h2 : (fk n zc).length ≤ i := by rw [mK]; exact h
  simp [h2, h]
def wI (ρ : Rf) : List (Nat × Operand) → List (Nat × Value)
 | [] => []
 | (i, x) :: l => (i, ev ρ x) :: wI ρ l
theorem E7 {ρ : Rf} (parts : Array (Nat × Operand)) {ps : List (Nat × Value)} (h : wI ρ parts.toList = ps) : (parts.map fun (i, x) => (i, ev ρ x)) = ps.toArray := by
 have h1 : ∀ l : List (Nat × Operand), l.map (fun (i, x) => (i, ev ρ x)) = wI ρ l := by
  intro l
  induction l with
  | nil => rfl
  | cons a l ih => simp only [List.map_cons, ih]; rfl
 subst h;rw [← h1];apply Array.ext';simp
section
variable {P : Program} {N : Nat} {ops : Array Oper} {Q : Kq} {ρ : Rf} {w w0 : World} {rest : List Oper} {H : List HE} {d : Nat} {ty : TypeId} {pos : String} {af : Array Edge}
theorem tm {w' : World} {r : Option Nat} (h : Below w0.heap.size w0 w) (hg : w.grownBy w' r) (hr : ∀ k, r = some k → w0.heap.size ≤ k) : Below w0.heap.size w0 w' := h.grown hg h.size hr
theorem Hp.grown {w' : World} {x y : HE} {i : Nat} (h : Hp w0 H w) (hi : H[i]? = some x) (hg : w.grownBy w' x.id) (hid : y.id = x.id ∨ y.id = none ∨ y.id = some w.heap.size) (hy : y.holds w0.heap.size w') : Hp w0 (H.set i y) w' := by
 refine h.KZ hi (fun b hb => ?_) (tm h.below hg fun k hk => (dJ (h.at_ hi) hk).1) (fun b hlt hne => hg.block b hlt (fun e => hne e.symm)) hy
 rcases hid with e | e | e
 ·exact .inl (by rw [← e]; exact hb)
 ·rw [e] at hb; cases hb
 ·rw [e] at hb;injection hb with hb
  exact .inr Tx
theorem Hp.db (h : Hp w0 H w) (t : TypeId) (sz : Nat) : Hp w0 (.row none 0 0 t sz [] :: H) w :=
 ⟨h.below, fun x hx => by
  rcases List.mem_cons.1 hx with rfl | hx
  ·exact World.ownsRow_nil _ _ _ _
  ·exact h.own x hx, by show (List.filterMap HE.id H).Nodup; exact h.nd⟩
theorem Hp.Dp (h : Hp w0 H w) (t : TypeId) (cs : List Value) : Hp w0 (.blk w.heap.size t cs (0, 0) :: H) (w.alloc (.cells cs.toArray t)) :=
 h.aV ((Below.refl _ _).alloc (Nat.le_refl _) _) ⟨Nat.le_refl _, heap_alloc_new w _, .inr (Nat.le_refl _)⟩
theorem Hp.DV (h : Hp w0 H w) (t : TypeId) (sz n : Nat) (cs : List Value) (hl : cs.length = n * sz) (hn : n ≤ maxLen) : Hp w0 (.row (some ⟨w.heap.size, 0, none⟩) n n t sz cs :: H) (w.alloc (.cells cs.toArray t)) :=
 h.aV ((Below.refl _ _).alloc (Nat.le_refl _) _) ⟨hl, .inr ⟨w.heap.size, n, cs.toArray, rfl, Nat.le_refl _, heap_alloc_new w _, Nat.le_refl _, hn, by simpa using hl, by simp only [List.take_of_length_le (show cs.length ≤ n * sz by omega)]⟩⟩
theorem Pm (hh : Hp w0 H w) {t : TypeId} {x : Operand} {cs : List Value} {v : Value} (hx : ev ρ x = v) (hc : v.cells = cs.toArray) (hN : d < N)
  (k : ∀ b w', Hp w0 (.blk b t cs (0, 0) :: H) w' → WL ro P N ops Q rest (cG ρ d (.pointer (some ⟨b, 0, none⟩))) w') : WL ro P N ops Q (⟨some d, .box t x, ty, pos, af, none⟩ :: rest) ρ w :=
 aQ rfl rfl hN (w' := w.alloc (.cells cs.toArray t)) (v := .pointer (some ⟨w.heap.size, 0, none⟩)) (by simp [execOp, hx, Instr.box, newVar, newRow, hc]) (k _ _ (hh.Dp t cs))
theorem Hu (hh : Hp w0 H w) {t : TypeId} {n by' : Nat} {ag : Bool} {zc : List Value} (ht : dn P t = some (n, ag, by', zc)) (hN : d < N)
  (k : ∀ b w', Hp w0 (.blk b t zc (0, 0) :: H) w' → WL ro P N ops Q rest (cG ρ d (.pointer (some ⟨b, 0, none⟩))) w') : WL ro P N ops Q (⟨some d, .alloc t, ty, pos, af, none⟩ :: rest) ρ w := by
 obtain ⟨z, hz, hzc⟩ := dx (w := w) ht;exact aQ rfl rfl hN (w' := w.alloc (.cells zc.toArray t)) (v := .pointer (some ⟨w.heap.size, 0, none⟩)) (by simp [execOp, Instr.alloc, newVar, newRow, hz, hzc]) (k _ _ (hh.Dp t zc))
theorem Br (hh : Hp w0 H w) {t t' : TypeId} {x y : Operand} {i b o n by' : Nat} {ag : Bool} {zc cs vs : List Value} {fz : Nat × Nat} {v : Value} (hx : ev ρ x = .pointer (some ⟨b, o, none⟩)) (hi : H[i]? = some (.blk b t' cs fz))
  (hy : ev ρ y = v) (hc : v.cells = vs.toArray) (ht : dn P t = some (n, ag, by', zc)) (hl : vs.length = n) (ho : o + n ≤ cs.length) (h1 : (vs.all Value.oneCell') = true)
  (k : ∀ w', Hp w0 (H.set i (.blk b t' (cm cs o vs) fz)) w' → WL ro P N ops Q rest ρ w') : WL ro P N ops Q (⟨none, .store t x y, ty, pos, af, none⟩ :: rest) ρ w := by
 have hb := hh.at_ hi;obtain ⟨w', hr, hb', hg, hs⟩ := gF (P := P) (b := b) (t := t') (fz := fz) o vs 0 cs w hb.2.1 hb.2.2 Tx (by simpa using h1);refine Ep rfl rfl (w' := w') ?_ (k w' (hh.grown hi hg (.inl rfl) ⟨hb.1, by simpa using hb', by rw [ff Tx]; exact hb.2.2⟩));simp [execOp, hx, hy, Instr.storeAt, Instr.sureAddr, storeVar, eN ht, hl, hc, hr]
theorem bL (hh : Hp w0 H w) {t t' : TypeId} {x y : Operand} {i b o n m c sz by' : Nat} {ag : Bool} {zc xs vs : List Value} {v : Value} (hx : ev ρ x = .pointer (some ⟨b, o, none⟩)) (hi : H[i]? = some (.row (some ⟨b, 0, none⟩) m c t' sz xs))
  (hy : ev ρ y = v) (hc : v.cells = vs.toArray) (ht : dn P t = some (n, ag, by', zc)) (hl : vs.length = n) (ho : o + n ≤ xs.length) (h1 : (vs.all Value.oneCell') = true)
  (k : ∀ w', Hp w0 (H.set i (.row (some ⟨b, 0, none⟩) m c t' sz (cm xs o vs))) w' → WL ro P N ops Q rest ρ w') : WL ro P N ops Q (⟨none, .store t x y, ty, pos, af, none⟩ :: rest) ρ w := by
 have hrow := hh.at_ hi;obtain ⟨hlen, h2⟩ := hrow
 rcases h2 with ⟨h2, _⟩ | ⟨g, cap, cur, hv, hg, hheap, hmc, hcm, hcur, htake⟩
 ·injection h2 with h2; cases h2
 ·injection hv with hA hn hcap
  injection hA with hA
  injection hA with hA
  subst hA; subst hcap;have hcl : cur.size = cur.toList.length := by simp
  have hle : m * sz ≤ c * sz := Nat.mul_le_mul_right _ hmc;obtain ⟨w', hr, hb', hgr, hs⟩ := gF (P := P) (b := b) (t := t') (fz := (0, 0)) o vs 0 cur.toList w (by simpa using hheap) (.inr (Nat.le_refl _)) (by rw [← hcl]; omega) (by simpa using h1);refine Ep rfl rfl (w' := w') ?_ (k w' (hh.grown hi hgr (.inl rfl) ⟨by rw [ff Tx]; exact hlen, .inr ⟨b, c, (cm cur.toList o vs).toArray, rfl, hg, by simpa using hb', hmc, hcm, ?_, ?_⟩⟩))
  ·simp [execOp, hx, hy, Instr.storeAt, Instr.sureAddr, storeVar, eN ht, hl, hc, hr]
  ·simp only [List.size_toArray];rw [ff (by rw [← hcl]; omega), ← hcl, hcur]
  ·exact Qc
theorem cP (hh : Hp w0 H w) {t e : TypeId} {len sz by' : Nat} {ag : Bool} {parts : Array (Nat × Operand)} {ps : List (Nat × Value)} {zc cs : List Value} (ht : P.underlying t = some (.slice e)) (hte : dn P e = some (sz, ag, by', zc))
  (hp : wI ρ parts.toList = ps) (hzl : zc.length = sz) (hf : ke (fun i => some (i * sz, sz)) (fk len zc) ps = some cs) (h0 : ¬ len * sz = 0) (hle : len ≤ 1000) (hsl : len * sz ≤ 16777216) (hl : cs.length = len * sz) (hN : d < N)
  (k : ∀ b w', Hp w0 (.row (some ⟨b, 0, none⟩) len len e sz cs :: H) w' → WL ro P N ops Q rest (cG ρ d (.slice (some ⟨b, 0, none⟩) len len)) w') : WL ro P N ops Q (⟨some d, .buildSlice t len parts, ty, pos, af, none⟩ :: rest) ρ w := by
 obtain ⟨z, hz, hzc⟩ := dx (w := w) hte;refine aQ rfl rfl hN (w' := w.alloc (.cells cs.toArray e)) (v := .slice (some ⟨w.heap.size, 0, none⟩) len len) ?_ (k _ _ (hh.DV e sz len cs hl (by unfold maxLen; omega)));exact Ov
def pI (P : Program) (t : TypeId) : Option (List (Nat × Nat)) :=
 match P.underlying t with
 | some (.struct fs) => fs.toList.mapM fun f => (P.info? f.type).map fun i => (f.offset, i.size)
 | _ => none
theorem uP {P : Program} {w : World} : ∀ (l : List Field) (pl : List (Nat × Nat)), (l.mapM fun f => (P.info? f.type).map fun i => (f.offset, i.size)) = some pl →
  (l.mapM (m := Sem) fun f => do pure (f.offset, ← sizeOf f.type)).run P w = .ok pl w
 | [], pl, h => by
  simp at h; subst h; simp
 | f :: l, pl, h => by
  rw [List.mapM_cons] at h
  cases hi : P.info? f.type with
  | none => simp [hi] at h
  | some i =>
   cases hr : l.mapM (fun f => (P.info? f.type).map fun i => (f.offset, i.size)) with
   | none => simp [hr] at h
   | some pl' =>
    simp [hi, hr] at h;have ih := uP (w := w) l pl' hr;have hs : (sizeOf f.type).run P w = .ok i.size w := by simp [sizeOf, typeInfo, hi]
    rw [List.mapM_cons, Sem.run_bind, Sem.run_bind, hs, Result.andThen_ok, Sem.run_pure, Result.andThen_ok, Sem.run_bind, ih, Result.andThen_ok, Sem.run_pure, h]
theorem sy {dd : Option Nat} {g : Option (Nat × Bool)} {t : TypeId} {n by' : Nat} {parts : Array (Nat × Operand)} {ps : List (Nat × Value)} {zc cs : List Value} {pl : List (Nat × Nat)} (hte : dn P t = some (n, true, by', zc))
  (hpl : pI P t = some pl)
  (hp : wI ρ parts.toList = ps) (hf : ke (pl[·]?) zc ps = some cs) :
  (execOp (ev ρ) ⟨dd, .build t parts, ty, pos, af, g⟩).run P w = .ok (.value (.agg cs.toArray)) w := by
 obtain ⟨z, hz, hzc⟩ := dx (w := w) hte;unfold pI at hpl;split at hpl
 ·rename_i fs hfs;have h1 := uP (w := w) _ _ hpl;have h2 : (fs.mapM (m := Sem) fun f => do pure (f.offset, ← sizeOf f.type)).run P w = .ok pl.toArray w := by
   have e : fs = fs.toList.toArray := by simp
   rw [e, List.mapM_toArray, Sem.run_map, h1]
   rfl
  have hf' := xz _ _ _ hf;have hpp : (fun (x : Nat) => pl.toArray[x]?) = fun x => pl[x]? := by funext x; simp
  have hp' := E7 parts hp;simp only [execOp, hp', Instr.build, Sem.run_bind, hz, Result.andThen_ok, run_underlying hfs, h2, hzc, hpp, hf', Sem.run_pure]
 ·cases hpl
end
end
section
variable {ro : Mode}
theorem ir (A : Option Addr) (n c : Nat) : (Value.slice A n c).ownBlock = A.map (·.block) := by cases A <;> rfl
theorem um (n : Nat) (z : Value) : fk n [z] = List.replicate n z := by
 induction n with
 | zero => rfl
 | succ n ih => simp [fk, ih, List.replicate_succ]
theorem fe {w : World} {ad : Addr} {xs : List Value} {m : Int} {k : Nat} {v : Value} (h : Rd w ad xs) (hx : xs[k]? = some v) (hm : m = (k : Int)) : w.cell? (ad.add (m.toNat * 1)) = some v := by
 subst hm;simpa using h k v hx
def nC (l : List UInt8) : List Value := l.map fun c => .int .u8 c.toNat
theorem sJ (l : List UInt8) : (nC l).length = l.length := by simp [nC]
section
variable {P : Program} {w : World}
theorem ph (base : Nat) (t ty e : TypeId) (i : TypeInfo) (ht : P.underlying t = some (.slice e)) (hi : P.info? e = some i)
  (v : Value) (n : Nat) (xs : List Value) (sz : Nat) (hown : w.ownsRow base e sz v n xs) (c : Nat) : (Builtin.append_ #[t, t] ty #[v, .slice none 0 c]).run P w = .ok v w := by
 rcases hown.2 with ⟨rfl, rfl⟩ | ⟨g, cap, cur, rfl, _, _, hnc, _⟩
 ·simp [Builtin.append_, run_underlying ht, sizeOf, typeInfo, hi, Builtin.lenOf, Builtin.firstCells]
 ·simp [Builtin.append_, run_underlying ht, sizeOf, typeInfo, hi, Builtin.lenOf, Builtin.firstCells, hnc, storeCells]
theorem u1 (base : Nat) (t ty e : TypeId) (sz by' : Nat) (ag : Bool) (zc : List Value) (ht : P.underlying t = some (.slice e)) (hte : dn P e = some (sz, ag, by', zc)) (hzl : zc.length = sz) (hsz : 0 < sz)
  (A : Option Addr) (n c : Nat) (xs : List Value) (hown : w.ownsRow base e sz (.slice A n c) n xs) (B : Option Addr) (m c' : Nat) (news : List Value) (hsl : Sl w B m sz news) (h1 : ∀ u ∈ news, u.oneCell' = true)
  (h63 : n + m ≤ maxLen) (hbytes : (n + m) * by' ≤ 140737488355328) (hbase : base ≤ w.heap.size) :
  ∃ A' c2 w', (Builtin.append_ #[t, t] ty #[.slice A n c, .slice B m c']).run P w = .ok (.slice A' (n + m) c2) w' ∧ w'.ownsRow base e sz (.slice A' (n + m) c2) (n + m) (xs ++ news) ∧
   w.grownBy w' (A.map (·.block)) ∧ (A'.map (·.block) = A.map (·.block) ∨ A'.map (·.block) = none ∨ A'.map (·.block) = some w.heap.size) := by
 obtain ⟨i, z, d, hi, hd, hz, hs, hby, hzc, _⟩ := eu hte;have hzs : z.cells.size = sz := by rw [hzc]; simpa using hzl
 have fin : ∀ (ad : Addr), B = some ad → Rd w ad news → ∃ A' c2 w', (Builtin.append_ #[t, t] ty #[.slice A n c, .slice B m c']).run P w = .ok (.slice A' (n + m) c2) w' ∧ w'.ownsRow base e sz (.slice A' (n + m) c2) (n + m) (xs ++ news) ∧
   w.grownBy w' (A.map (·.block)) ∧ (A'.map (·.block) = A.map (·.block) ∨ A'.map (·.block) = none ∨ A'.map (·.block) = some w.heap.size) := by
  rintro ad rfl hr;obtain ⟨v', w', hrun, h2, h3, _, h5⟩ := run_append_own_at (P := P) w base t ty e i z sz by' ht hi hz hs hby hzs hsz (.slice A n c) n xs hown ad m c' news hsl.1 hr h1 h63 hbytes hbase;rw [ir] at h3
  rcases h2.2 with ⟨hv, h0⟩ | ⟨g, cap, cur, hv, r⟩
  ·subst hv;refine ⟨none, 0, w', by rw [hrun, h0], by rw [h0]; exact h0 ▸ h2, h3, .inr (.inl rfl)⟩
  ·subst hv;refine ⟨_, _, w', hrun, h2, h3, ?_⟩
   rcases h5 with h5 | h5
   ·exact .inl (by rw [← ir _ (n + m) cap, h5, ir])
   ·exact .inr (.inr (by rw [← ir _ (n + m) cap, h5]))
 rcases Nat.eq_zero_or_pos m with h0 | h0
 ·subst h0;have hnews : news = [] := List.eq_nil_of_length_eq_zero (by simpa using hsl.1);subst hnews
  cases B with
  | none => exact ⟨A, c, w, ph base t ty e i ht hi _ n xs sz hown c', by simpa using hown, World.grownBy.refl _ _, .inl rfl⟩
  | some ad => exact fin ad rfl (fun j u hu => by simp at hu)
 ·obtain ⟨ad, hB, hr⟩ := hsl.2 h0;exact fin ad hB hr
theorem u3 {A : Option Addr} {n c : Nat} {l : List UInt8} (h : Sl w A n 1 (nC l)) : (Conv.bytesToString (.slice A n c)).run P w = .ok (.string ⟨l.toArray⟩) w := by
 have hn : l.length = n := by have := h.1; rw [sJ] at this; omega
 cases A with
 | none =>
  have h0 : n = 0 := by
   rcases Nat.eq_zero_or_pos n with h0 | h0
   ·exact h0
   ·obtain ⟨ad, h1, _⟩ := h.2 h0; cases h1
  have : l = [] := List.eq_nil_of_length_eq_zero Tx;subst this;simp [Conv.bytesToString, ByteArray.empty, ByteArray.emptyWithCapacity]
  rfl
 | some a =>
  have hr : Rd w a (nC l) := by
   rcases Nat.eq_zero_or_pos n with h0 | h0
   ·have : l = [] := List.eq_nil_of_length_eq_zero Tx;subst this;intro j u hu; simp [nC] at hu
   ·obtain ⟨ad, h1, h2⟩ := h.2 h0;injection h1 with h1; subst h1; exact h2
  have e1 : nC l = (l.map fun c : UInt8 => (c.toNat : Int)).map (Value.int .u8) := by simp [nC]
  have hld := run_loadCells_list (P := P) w a (nC l) hr;rw [sJ, hn, e1] at hld;rw [run_bytesToString w a n c _ hld];congr 2;have : ∀ (l : List UInt8) (s : ByteArray), (l.map fun c : UInt8 => (c.toNat : Int)).foldl (fun r n => r.push (UInt8.ofNat n.toNat)) s = ⟨s.data ++ l.toArray⟩ := by
   intro l
   induction l with
   | nil => intro s; simp
   | cons c l ih =>
    intro s;simp only [List.map_cons, List.foldl_cons];rw [ih];have : (s.push (UInt8.ofNat ((c.toNat : Int)).toNat)).data = s.data.push c := by simp [ByteArray.push]
    rw [this];congr 1;apply Array.ext';simp
  rw [this];congr 1;apply Array.ext';simp [ByteArray.empty, ByteArray.emptyWithCapacity]
  rfl
end
section
variable {P : Program} {N : Nat} {ops : Array Oper} {Q : Kq} {ρ : Rf} {w w0 : World} {rest : List Oper} {H : List HE} {d : Nat} {ty : TypeId} {pos : String} {af : Array Edge}
theorem cJ (hh : Hp w0 H w) {t e : TypeId} {s x : Operand} {i n c m c' sz by' : Nat} {ag : Bool} {A B : Option Addr} {zc xs news : List Value} (hi : H[i]? = some (.row A n c e sz xs)) (hs : ev ρ s = .slice A n c) (hx : ev ρ x = .slice B m c')
  (hsl : Sl w B m sz news) (ht : P.underlying t = some (.slice e)) (hte : dn P e = some (sz, ag, by', zc)) (hzl : zc.length = sz) (hsz : 0 < sz) (h1 : (news.all Value.oneCell') = true)
  (h63 : n + m ≤ 9223372036854775807) (hbytes : (n + m) * by' ≤ 140737488355328) (hN : d < N)
  (k : ∀ A' c2 w', Hp w0 (H.set i (.row A' (n + m) c2 e sz (xs ++ news))) w' → WL ro P N ops Q rest (cG ρ d (.slice A' (n + m) c2)) w') :
  WL ro P N ops Q (⟨some d, .call ⟨.builtin .append, #[s, x], #[t, t]⟩, ty, pos, af, none⟩ :: rest) ρ w := by
 obtain ⟨A', c2, w', hr, hown, hg, hid⟩ := u1 (P := P) w0.heap.size t ty e sz by' ag zc ht hte hzl hsz A n c xs (hh.at_ hi) B m c' news hsl (by simpa using h1) (by unfold maxLen; omega) hbytes hh.size;refine aQ rfl rfl hN (w' := w') (v := .slice A' (n + m) c2) ?_ (k A' c2 w' (hh.grown hi hg hid hown));simp only [execOp, resolve, invoke, builtin, Sem.run_bind, Sem.run_pure, Result.andThen_ok, List.map_toArray, List.map_cons, List.map_nil, hs, hx, hr]
theorem fU (hh : Hp w0 H w) {t e : TypeId} {l cp : Operand} {kl kc : IntKind} {L C : Int} {n sz by' : Nat} {ag : Bool} {zc : List Value} (hl : ev ρ l = .int kl L) (hc : ev ρ cp = .int kc C) (hL : L = (n : Int)) (hC : C = (n : Int))
  (ht : P.underlying t = some (.slice e)) (hte : dn P e = some (sz, ag, by', zc)) (hzl : zc.length = sz) (hb : by' * n ≤ 281474976710656) (h63 : n ≤ 9223372036854775807) (hN : d < N)
  (k : ∀ b w', Hp w0 (.row (some ⟨b, 0, none⟩) n n e sz (fk n zc) :: H) w' → WL ro P N ops Q rest (cG ρ d (.slice (some ⟨b, 0, none⟩) n n)) w') :
  WL ro P N ops Q (⟨some d, .makeSlice t l cp, ty, pos, af, none⟩ :: rest) ρ w := by
 obtain ⟨i, z, dd, hi, hd, hz, hs, hby, hzc, _⟩ := eu hte;subst hL; subst hC;obtain ⟨w', hr, hown, hg⟩ := run_make_full (P := P) w w.heap.size t e i z sz ht hi hz hs kl kc n (by rw [hby]; exact hb) (by unfold maxLen; omega) (Nat.le_refl _);have hzz : (madeCells z.cells (n * sz)).toList = fk n zc := by
  exact OY
 rw [hzz] at hown;refine aQ rfl rfl hN (w' := w') (v := .slice (some ⟨w.heap.size, 0, none⟩) n n) ?_ (k _ w' (hh.aV ⟨hg.os, hg.tape, hg.output, hg.size, fun j hj => hg.block j hj (by simp)⟩ hown));simp [execOp, hl, hc, hr]
theorem jL (hh : Hp w0 H w) {t e : TypeId} {sz by' : Nat} {ag : Bool} {zc : List Value} (ht : P.underlying t = some (.slice e)) (hte : dn P e = some (sz, ag, by', zc)) (hN : d < N)
  (k : ∀ b w', Hp w0 (.row (some ⟨b, 0, none⟩) 0 0 e sz [] :: H) w' → WL ro P N ops Q rest (cG ρ d (.slice (some ⟨b, 0, none⟩) 0 0)) w') : WL ro P N ops Q (⟨some d, .buildSlice t 0 #[], ty, pos, af, none⟩ :: rest) ρ w := by
 refine aQ rfl rfl hN (w' := w.alloc (.cells #[] e)) (v := .slice (some ⟨w.heap.size, 0, none⟩) 0 0) ?_ (k _ _ (hh.DV e sz 0 [] (by simp) (by unfold maxLen; omega)));have e0 : Array.range 0 = #[] := rfl;simp [execOp, Instr.buildSlice, run_underlying ht, eN hte, Instr.fill, newRow, e0]
theorem kq {dd : Option Nat} {g : Option (Nat × Bool)} {s t e : TypeId} {x : Operand} {A : Option Addr} {n c : Nat} {l : List UInt8} (hs : P.underlying s = some (.slice e)) (he : P.underlying e = some (.int .u8)) (ht : P.underlying t = some .string)
  (hx : ev ρ x = .slice A n c) (h : Sl w A n 1 (nC l)) : (execOp (ev ρ) ⟨dd, .convert s t x, ty, pos, af, g⟩).run P w = .ok (.value (.string ⟨l.toArray⟩)) w := by
 simp [execOp, hx, run_convert_bytes_string w s t e A n c hs he ht, u3 h]
theorem yh (hh : Hp w0 H w) {t : TypeId} {x : Operand} {s : ByteArray} (ht : P.underlying t = some .string) (hx : ev ρ x = .string s) (hN : d < N)
  (k : ∀ b w', Hp w0 (.it b s 0 :: H) w' → WL ro P N ops Q rest (cG ρ d (.pointer (some ⟨b, 0, none⟩))) w') : WL ro P N ops Q (⟨some d, .range t x, ty, pos, af, none⟩ :: rest) ρ w := by
 refine aQ rfl rfl hN (w' := w.alloc (.stringIter s 0)) (v := .pointer (some ⟨w.heap.size, 0, none⟩)) (by simp [execOp, hx, Instr.range, run_underlying ht]) (k _ _ (hh.aV ((Below.refl _ _).alloc (Nat.le_refl _) _) ⟨Nat.le_refl _, heap_alloc_new w _⟩))
theorem xh (hh : Hp w0 H w) {x : Operand} {i b p : Nat} {s : ByteArray} (hi : H[i]? = some (.it b s p)) (hx : ev ρ x = .pointer (some ⟨b, 0, none⟩)) (hp : ¬ p < s.size) (hN : d < N)
  (k : WL ro P N ops Q rest (cG ρ d (.tuple #[.bool false])) w) : WL ro P N ops Q (⟨some d, .next x true, ty, pos, af, none⟩ :: rest) ρ w := by
 have h1 := (hh.at_ hi).2;refine aQ rfl rfl hN (w' := w) (v := .tuple #[.bool false]) ?_ k;simp [execOp, hx, Instr.next, getObj, Sem.run, h1, hp]
theorem yt (hh : Hp w0 H w) {x : Operand} {i b p : Nat} {s : ByteArray} {c : UInt8} (hi : H[i]? = some (.it b s p)) (hx : ev ρ x = .pointer (some ⟨b, 0, none⟩)) (hc : s.data.toList[p]? = some c) (h128 : c.toNat < 128) (hN : d < N)
  (k : ∀ w', Hp w0 (H.set i (.it b s (p + 1))) w' → WL ro P N ops Q rest (cG ρ d (.tuple #[.bool true, .int .i64 p, .int .i32 c.toNat])) w') : WL ro P N ops Q (⟨some d, .next x true, ty, pos, af, none⟩ :: rest) ρ w := by
 have h1 := (hh.at_ hi).2;obtain ⟨hlt, hcc⟩ := List.getElem?_eq_some_iff.1 hc;have hlt' : p < s.size := by simpa using hlt
 have hget : s.get! p = c := by
  have : s.get! p = s.data[p]! := rfl;rw [this, getElem!_pos s.data p hlt'];simpa using hcc
 have hdec : Utf8.decode s p = (c.toNat, 1) := by
  unfold Utf8.decode;simp only [Nat.add_zero, hget];rw [if_pos h128]
 let w' : World := { w with heap := w.heap.setIfInBounds b (.stringIter s (p + 1)) }
 have hb := dJ (hh.at_ hi) (b := b) rfl;have hg : w.grownBy w' (some b) := ⟨rfl, rfl, rfl, by simp [w'], fun k _ hne => by
  show (w.heap.setIfInBounds b _)[k]? = _;rw [Array.getElem?_setIfInBounds_ne (fun e => hne (by rw [e]))]⟩
 refine aQ rfl rfl hN (w' := w') (v := .tuple #[.bool true, .int .i64 p, .int .i32 c.toNat]) ?_ (k w' (hh.grown hi hg (.inl rfl) ⟨hb.1, ?_⟩))
 ·simp [execOp, hx, Instr.next, getObj, setObj, Sem.run, h1, hlt', hdec, goInt, w']
 ·show (w.heap.setIfInBounds b _)[b]? = _;simp [hb.2]
end
end
class UK (k : IntKind) (b : outParam Nat) (M : outParam Nat) : Prop where
 bits : k.bits = b
 sgn : k.signed = false
 pow : 2 ^ b = M
instance : UK .u8 8 256 := ⟨rfl, rfl, rfl⟩
instance : UK .u16 16 65536 := ⟨rfl, rfl, rfl⟩
instance : UK .u32 32 4294967296 := ⟨rfl, rfl, rfl⟩
instance : UK .u64 64 18446744073709551616 := ⟨rfl, rfl, rfl⟩
theorem UK.wrap {k : IntKind} {b M : Nat} [h : UK k b M] (n : Nat) : k.wrap (n : Int) = ((n % M : Nat) : Int) := by
 unfold IntKind.wrap;have hM : (2 : Int) ^ k.bits = (M : Int) := by rw [h.bits, ← h.pow]; simp
 simp only [h.sgn, hM, Bool.false_and];simp
theorem UK.oO {k : IntKind} {b M : Nat} [UK k b M] {n : Nat} (hn : n < M) : k.wrap (n : Int) = (n : Int) := by rw [UK.wrap, Nat.mod_eq_of_lt hn]
theorem UK.wrap_add {k : IntKind} {b M : Nat} [h : UK k b M] (z : Int) : k.wrap (z + M) = k.wrap z := by
 unfold IntKind.wrap;have hM : (2 : Int) ^ k.bits = (M : Int) := by rw [h.bits, ← h.pow]; simp
 simp [hM]
section
variable {P : Program} {ρ : Rf} {w : World} {d : Option Nat} {ty : TypeId} {pos : String} {af : Array Edge} {g : Option (Nat × Bool)}
section unats
variable {t u : TypeId} {x y : Operand} {k : IntKind} {q M : Nat} {a b : Nat}
theorem PA [UK k q M] (hx : ev ρ x = .int k (a : Int)) (hy : ev ρ y = .int k (b : Int)) : (execOp (ev ρ) ⟨d, .binOp .add t x y u, ty, pos, af, g⟩).run P w = .ok (.value (.int k (((a + b) % M : Nat) : Int))) w := by
 rw [MX hx hy, ← Int.natCast_add, UK.wrap]
theorem Ow [UK k q M] (hx : ev ρ x = .int k (a : Int)) (hy : ev ρ y = .int k (b : Int)) (hb : b ≤ M) : (execOp (ev ρ) ⟨d, .binOp .sub t x y u, ty, pos, af, g⟩).run P w = .ok (.value (.int k (((a + M - b) % M : Nat) : Int))) w := by
 rw [Na hx hy, ← UK.wrap (k := k)];have h : ((a + M - b : Nat) : Int) = (a : Int) - b + M := Tx;rw [h, UK.wrap_add]
theorem Pq [UK k q M] (hx : ev ρ x = .int k (a : Int)) (hy : ev ρ y = .int k (b : Int)) : (execOp (ev ρ) ⟨d, .binOp .mul t x y u, ty, pos, af, g⟩).run P w = .ok (.value (.int k (((a * b) % M : Nat) : Int))) w := by
 rw [NC hx hy, ← Int.natCast_mul, UK.wrap]
theorem OZ [UK k q M] (hx : ev ρ x = .int k (a : Int)) (hy : ev ρ y = .int k (b : Int)) (hb : 0 < b) (ha : a < M) : (execOp (ev ρ) ⟨d, .binOp .quo t x y u, ty, pos, af, g⟩).run P w = .ok (.value (.int k ((a / b : Nat) : Int))) w := by
 rw [NS hx hy Tx, ← Int.ofNat_tdiv, UK.oO (Nat.lt_of_le_of_lt (Nat.div_le_self _ _) ha)]
theorem Oj (hx : ev ρ x = .int k (a : Int)) (hy : ev ρ y = .int k (b : Int)) (hb : 0 < b) : (execOp (ev ρ) ⟨d, .binOp .rem t x y u, ty, pos, af, g⟩).run P w = .ok (.value (.int k ((a % b : Nat) : Int))) w := by
 rw [ME hx hy Tx, ← Int.ofNat_tmod]
theorem nt (n : Nat) (a : Nat) : BitVec.ofInt n (a : Int) = BitVec.ofNat n a := by simp
theorem QV [h : UK k q M] (hx : ev ρ x = .int k (a : Int)) (hy : ev ρ y = .int k (b : Int)) (ha : a < M) (hb : b < M) : (execOp (ev ρ) ⟨d, .binOp .or t x y u, ty, pos, af, g⟩).run P w = .ok (.value (.int k ((a ||| b : Nat) : Int))) w := by
 rw [RN hx hy, nt, nt, BitVec.toNat_or, BitVec.toNat_ofNat, BitVec.toNat_ofNat, h.bits, h.pow, Nat.mod_eq_of_lt ha, Nat.mod_eq_of_lt hb, UK.oO];rw [← h.pow] at ha hb ⊢;exact Nat.or_lt_two_pow ha hb
theorem Pc [h : UK k q M] (hx : ev ρ x = .int k (a : Int)) (hy : ev ρ y = .int k (b : Int)) (ha : a < M) (hb : b < M) : (execOp (ev ρ) ⟨d, .binOp .and t x y u, ty, pos, af, g⟩).run P w = .ok (.value (.int k ((a &&& b : Nat) : Int))) w := by
 rw [N9 hx hy, nt, nt, BitVec.toNat_and, BitVec.toNat_ofNat, BitVec.toNat_ofNat, h.bits, h.pow, Nat.mod_eq_of_lt ha, Nat.mod_eq_of_lt hb, UK.oO];exact Nat.lt_of_le_of_lt Nat.and_le_left ha
theorem xZ [h : UK k q M] {k' : IntKind} {s : Int} (hx : ev ρ x = .int k (a : Int)) (hy : ev ρ y = .int k' s) (hs : 0 ≤ s ∧ s ≤ q) : (execOp (ev ρ) ⟨d, .binOp .shl t x y u, ty, pos, af, g⟩).run P w = .ok (.value (.int k (((a * 2 ^ s.toNat) % M : Nat) : Int))) w := by
 have e : (a : Int) * 2 ^ (min s.toNat k.bits) = ((a * 2 ^ s.toNat : Nat) : Int) := by
  rw [h.bits, Nat.min_eq_left Tx, Int.natCast_mul, Int.natCast_pow]; rfl
 rw [QQ hx hy hs.1, e, UK.wrap]
theorem BX [h : UK k q M] {k' : IntKind} {s : Int} (hx : ev ρ x = .int k (a : Int)) (hy : ev ρ y = .int k' s) (hs : 0 ≤ s ∧ s ≤ q) : (execOp (ev ρ) ⟨d, .binOp .shr t x y u, ty, pos, af, g⟩).run P w = .ok (.value (.int k ((a / 2 ^ s.toNat : Nat) : Int))) w := by
 rw [Qe hx hy hs.1, h.bits, Nat.min_eq_left Tx, Int.fdiv_eq_ediv_of_nonneg _ (Int.le_of_lt (Int.pow_pos Tx))];simp
theorem KE [UK k q M] {k' : IntKind} {s m : Nat} (hx : ev ρ x = .int k (a : Int)) (hy : ev ρ y = .int k' (s : Int)) (hs : s ≤ q) (hm : 2 ^ s = m) : (execOp (ev ρ) ⟨d, .binOp .shr t x y u, ty, pos, af, g⟩).run P w = .ok (.value (.int k ((a / m : Nat) : Int))) w := by
 rw [BX hx hy Tx, ← hm]; rfl
theorem OT [h : UK k q M] (hx : ev ρ x = .int k (a : Int)) (ha : a ≤ M) : (execOp (ev ρ) ⟨d, .unOp .neg t x, ty, pos, af, g⟩).run P w = .ok (.value (.int k (((M - a) % M : Nat) : Int))) w := by
 rw [NL hx, ← UK.wrap (k := k)];have e : ((M - a : Nat) : Int) = -(a : Int) + M := Tx;rw [e, UK.wrap_add]
theorem Kr [UK k q M] {s t : TypeId} {k' : IntKind} {sd : TypeDesc} (hs : P.underlying s = some sd) (ht : P.underlying t = some (.int k)) (hx : ev ρ x = .int k' (a : Int)) :
  (execOp (ev ρ) ⟨d, .convert s t x, ty, pos, af, g⟩).run P w = .ok (.value (.int k ((a % M : Nat) : Int))) w := by
 rw [lv hs ht hx, UK.wrap]
theorem tV [UK k q M] {s t : TypeId} {k' : IntKind} {sd : TypeDesc} (hs : P.underlying s = some sd) (ht : P.underlying t = some (.int k)) (hx : ev ρ x = .int k' (a : Int)) (ha : a < M) :
  (execOp (ev ρ) ⟨d, .convert s t x, ty, pos, af, g⟩).run P w = .ok (.value (.int k (a : Int))) w := by
 rw [lv hs ht hx, UK.oO ha]
end unats
section ints
variable {t u : TypeId} {x y : Operand} {k : IntKind} {a b : Int}
theorem KB (hx : ev ρ x = .int k a) (hy : ev ρ y = .int k b) : (execOp (ev ρ) ⟨d, .binOp .lss t x y u, ty, pos, af, g⟩).run P w = .ok (.value (.bool (decide (a < b)))) w := by
 by_cases h : a < b
 ·rw [Lz hx hy h, decide_eq_true h]
 ·rw [LS hx hy h, decide_eq_false h]
theorem Lj (hx : ev ρ x = .int k a) (hy : ev ρ y = .int k b) : (execOp (ev ρ) ⟨d, .binOp .leq t x y u, ty, pos, af, g⟩).run P w = .ok (.value (.bool (decide (a ≤ b)))) w := by
 by_cases h : a ≤ b
 ·rw [KJ hx hy h, decide_eq_true h]
 ·rw [LU hx hy h, decide_eq_false h]
theorem Eh (hx : ev ρ x = .int k a) (hy : ev ρ y = .int k b) : (execOp (ev ρ) ⟨d, .binOp .gtr t x y u, ty, pos, af, g⟩).run P w = .ok (.value (.bool (decide (b < a)))) w := by
 by_cases h : b < a
 ·rw [K0 hx hy h, decide_eq_true h]
 ·rw [Mf hx hy h, decide_eq_false h]
theorem LY (hx : ev ρ x = .int k a) (hy : ev ρ y = .int k b) : (execOp (ev ρ) ⟨d, .binOp .geq t x y u, ty, pos, af, g⟩).run P w = .ok (.value (.bool (decide (b ≤ a)))) w := by
 by_cases h : b ≤ a
 ·rw [LM hx hy h, decide_eq_true h]
 ·rw [Lx hx hy h, decide_eq_false h]
theorem LK (hx : ev ρ x = .int k a) (hy : ev ρ y = .int k b) : (execOp (ev ρ) ⟨d, .binOp .neq t x y u, ty, pos, af, g⟩).run P w = .ok (.value (.bool (decide (a ≠ b)))) w := by
 by_cases h : a = b
 ·rw [K3 hx hy h, decide_eq_false (by simpa using h)]
 ·rw [KW hx hy h, decide_eq_true h]
end ints
section bools
variable {t u : TypeId} {x y : Operand} {a b : Bool}
theorem LJ (ht : P.underlying t = some .bool) (hx : ev ρ x = .bool a) (hy : ev ρ y = .bool b) (h : a = b) : (execOp (ev ρ) ⟨d, .binOp .eql t x y u, ty, pos, af, g⟩).run P w = .ok (.value (.bool true)) w := by
 rw [tw ht hx hy, h, beq_self_eq_true]
theorem Le (ht : P.underlying t = some .bool) (hx : ev ρ x = .bool a) (hy : ev ρ y = .bool b) (h : ¬ a = b) : (execOp (ev ρ) ⟨d, .binOp .eql t x y u, ty, pos, af, g⟩).run P w = .ok (.value (.bool false)) w := by
 rw [tw ht hx hy, beq_false_of_ne h]
theorem L9 (ht : P.underlying t = some .bool) (hx : ev ρ x = .bool a) (hy : ev ρ y = .bool b) (h : ¬ a = b) : (execOp (ev ρ) ⟨d, .binOp .neq t x y u, ty, pos, af, g⟩).run P w = .ok (.value (.bool true)) w := by
 rw [oD ht hx hy, bne, beq_false_of_ne h]; rfl
theorem K1 (ht : P.underlying t = some .bool) (hx : ev ρ x = .bool a) (hy : ev ρ y = .bool b) (h : a = b) : (execOp (ev ρ) ⟨d, .binOp .neq t x y u, ty, pos, af, g⟩).run P w = .ok (.value (.bool false)) w := by
 rw [oD ht hx hy, bne, h, beq_self_eq_true]; rfl
end bools
theorem g6 {t e : TypeId} {x i : Operand} {ad : Addr} {n c sz k : Nat} {kk : IntKind} {m : Int} (ht : P.underlying t = some (.slice e)) (hsz : (P.info? e).map (·.size) = some sz) (hx : ev ρ x = .slice (some ad) n c) (hi : ev ρ i = .int kk m)
  (hm : m = (k : Int)) (h1 : k < n) : (execOp (ev ρ) ⟨d, .indexAddr t x i, ty, pos, af, g⟩).run P w = .ok (.value (.pointer (some (ad.add (k * sz))))) w := by
 rw [dy ht hsz hx hi Tx Tx, hm]; rfl
theorem Cd {t e : TypeId} {x i : Operand} {b o n c sz k : Nat} {kk : IntKind} {m : Int} (ht : P.underlying t = some (.slice e)) (hsz : (P.info? e).map (·.size) = some sz) (hx : ev ρ x = .slice (some ⟨b, o, none⟩) n c) (hi : ev ρ i = .int kk m)
  (hm : m = (k : Int)) (h1 : k < n) : (execOp (ev ρ) ⟨d, .indexAddr t x i, ty, pos, af, g⟩).run P w = .ok (.value (.pointer (some ⟨b, o + k * sz, none⟩))) w := by
 rw [dy ht hsz hx hi Tx Tx, hm, eY]; rfl
theorem CO {t e : TypeId} {x i : Operand} {ad : Addr} {n sz k : Nat} {kk : IntKind} {m : Int} (ht : P.underlying t = some (.array n e)) (hsz : (P.info? e).map (·.size) = some sz) (hx : ev ρ x = .pointer (some ad)) (hi : ev ρ i = .int kk m)
  (hm : m = (k : Int)) (h1 : k < n) : (execOp (ev ρ) ⟨d, .indexAddr t x i, ty, pos, af, g⟩).run P w = .ok (.value (.pointer (some (ad.add (k * sz))))) w := by
 obtain ⟨i, hi1, hi2⟩ := Option.map_eq_some_iff.1 hsz;have h2 : (k : Int) < n := Tx;subst hm;simp [execOp, hx, hi, Instr.indexAt, asIntOf, run_underlying ht, sizeOf, typeInfo, hi1, hi2, Instr.sureAddr, h1]
theorem BD {t e : TypeId} {x hi : Operand} {A : Option Addr} {n c h sz : Nat} {k : IntKind} {m : Int} (ht : P.underlying t = some (.slice e)) (hsz : (P.info? e).map (·.size) = some sz) (hx : ev ρ x = .slice A n c) (hhi : ev ρ hi = .int k m)
  (hm : m = (h : Int)) (h2 : h ≤ c) : (execOp (ev ρ) ⟨d, .slice t x none (some hi) none, ty, pos, af, g⟩).run P w = .ok (.value (.slice A h c)) w := by
 rw [iU (lo := none) (hi := some hi) (l := 0) (h := h) ht hsz hx rfl ⟨k, m, hhi, hm⟩ (Nat.zero_le _) h2];congr 3
 cases A with
 | none => simp
 | some ad => simp [Addr.add]
theorem Cn {t e : TypeId} {x lo : Operand} {b o n c l sz : Nat} {k : IntKind} {m : Int} (ht : P.underlying t = some (.slice e)) (hsz : (P.info? e).map (·.size) = some sz) (hx : ev ρ x = .slice (some ⟨b, o, none⟩) n c) (hlo : ev ρ lo = .int k m)
  (hm : m = (l : Int)) (h1 : l ≤ n) (h2 : n ≤ c) (h3 : l < c) : (execOp (ev ρ) ⟨d, .slice t x (some lo) none none, ty, pos, af, g⟩).run P w = .ok (.value (.slice (some ⟨b, o + l * sz, none⟩) (n - l) (c - l))) w := by
 rw [iU (lo := some lo) (hi := none) (l := l) (h := n) ht hsz hx ⟨k, m, hlo, hm⟩ rfl h1 h2, if_neg Tx];simp only [Option.map_some, eY]
theorem As {t e : TypeId} {x lo : Operand} {ad : Addr} {n c l sz : Nat} {k : IntKind} {m : Int} (ht : P.underlying t = some (.slice e)) (hsz : (P.info? e).map (·.size) = some sz) (hx : ev ρ x = .slice (some ad) n c) (hlo : ev ρ lo = .int k m)
  (hm : m = (l : Int)) (h1 : l ≤ n) (h2 : n ≤ c) (h3 : l < c) : (execOp (ev ρ) ⟨d, .slice t x (some lo) none none, ty, pos, af, g⟩).run P w = .ok (.value (.slice (some (ad.add (l * sz))) (n - l) (c - l))) w := by
 rw [iU (lo := some lo) (hi := none) (l := l) (h := n) ht hsz hx ⟨k, m, hlo, hm⟩ rfl h1 h2, if_neg Tx]
 rfl
end
theorem Rd.xo {w : World} {ad : Addr} {xs : List Value} {k : Nat} {v : Value} (h : Rd w ad xs) (hx : xs[k]? = some v) : w.cell? (ad.add (k * 1)) = some v := by
 rw [Nat.mul_one]; exact h k v hx
def cY (l : List Nat) : List Value := l.map fun (d : Nat) => .int .u64 (d : Int)
theorem a9 (l : List Nat) : (cY l).length = l.length := by simp [cY]
theorem dY {l : List Nat} {k d : Nat} (h : l[k]? = some d) : (cY l)[k]? = some (.int .u64 (d : Int)) := by simp [cY, h]
theorem fN (l : List Nat) (k d : Nat) : (cY l).set k (.int .u64 (d : Int)) = cY (l.set k d) := by simp [cY, List.map_set]
theorem Bz (a b : List Nat) : cY (a ++ b) = cY a ++ cY b := by simp [cY]
theorem wZ (a : List Nat) (k : Nat) : cY (a.take k) = (cY a).take k := by simp [cY, List.map_take]
theorem vH (a : List Nat) (k : Nat) : cY (a.drop k) = (cY a).drop k := by simp [cY, List.map_drop]
theorem dm (l : List Nat) : ((cY l).all Value.oneCell') = true := by simp [cY, Value.oneCell']
theorem pB (n : Nat) : fk n [Value.int .u64 0] = cY (List.replicate n 0) := by rw [um]; simp [cY]
def gl (l : List Nat) : List Value := l.map fun (d : Nat) => .int .u8 (d : Int)
theorem cN (l : List Nat) : (gl l).length = l.length := by simp [gl]
theorem qp {l : List Nat} {k d : Nat} (h : l[k]? = some d) : (gl l)[k]? = some (.int .u8 (d : Int)) := by simp [gl, h]
theorem pj (l : List Nat) (k d : Nat) : (gl l).set k (.int .u8 (d : Int)) = gl (l.set k d) := by simp [gl, List.map_set]
theorem th (a b : List Nat) : gl (a ++ b) = gl a ++ gl b := by simp [gl]
theorem Bt (a : List Nat) (k : Nat) : gl (a.take k) = (gl a).take k := by simp [gl, List.map_take]
theorem dN (l : List Nat) : ((gl l).all Value.oneCell') = true := by simp [gl, Value.oneCell']
theorem pg (n : Nat) : fk n [Value.int .u8 0] = gl (List.replicate n 0) := by rw [um]; simp [gl]
theorem Gx {l : List Nat} (h : ∀ d ∈ l, d < 256) : gl l = nC (l.map UInt8.ofNat) := by
 rw [gl, nC, List.map_map];apply List.map_congr_left;intro d hd;have := h d hd;simp only [Function.comp, UInt8.toNat_ofNat'];congr 2;omega
theorem Sl.OS {w : World} {ad : Addr} {n : Nat} {ys : List Nat} {k d : Nat} (h : Sl w (some ad) n 1 (cY ys)) (hd : ys[k]? = some d) : w.cell? (ad.add (k * 1)) = some (.int .u64 (d : Int)) := by
 have hl := h.1;have hk := (List.getElem?_eq_some_iff.1 hd).1;rw [a9] at hl;obtain ⟨ad', he, hr⟩ := h.2 Tx;injection he with he
 subst he;exact hr.xo (dY hd)
theorem xW {pre done r post : List Nat} {x : Nat} : (pre ++ (done ++ x :: r) ++ post)[pre.length + done.length]? = some x := by
 rw [List.append_assoc, List.getElem?_append_right Tx, List.append_assoc, List.getElem?_append_right Tx];simp
theorem mY {pre done r post : List Nat} {x y : Nat} : (pre ++ (done ++ x :: r) ++ post).set (pre.length + done.length) y = pre ++ ((done ++ [y]) ++ r) ++ post := by
 rw [List.append_assoc, List.set_append_right _ _ Tx, List.append_assoc, List.set_append_right _ _ Tx];simp
theorem cM {cs : List Value} {o : Nat} {v : Value} (h : o < cs.length) : cm cs o [v] = cs.set o v := by
 unfold cm;rw [List.set_eq_take_append_cons_drop, if_pos h];simp
theorem Hp.front {w0 w : World} {H : List HE} {x : HE} (h : Hp w0 H w) (i : Nat) (hi : H[i]? = some x) : Hp w0 (x :: H.eraseIdx i) w := by
 have hp : H.Perm (x :: H.eraseIdx i) := by
  clear h
  induction H generalizing i with
  | nil => simp at hi
  | cons y H ih =>
   cases i with
   | zero => simp at hi; subst hi; simp
   | succ i =>
    simp only [List.getElem?_cons_succ] at hi;simp only [List.eraseIdx_cons_succ];exact ((ih i hi).cons y).trans (List.Perm.swap x y _)
 exact ⟨h.below, fun y hy => h.own y (hp.mem_iff.2 hy), (hp.filterMap _).nodup_iff.1 h.nd⟩
theorem Hp.CS {w0 w : World} {H : List HE} {A : Option Addr} {n c : Nat} {t : TypeId} {sz : Nat} {xs : List Value} (h : Hp w0 (.row A n c t sz xs :: H) w) {k : Nat} (hk : k ≤ n) : Hp w0 (.row A k c t sz (xs.take (k * sz)) :: H) w := by
 refine ⟨h.below, fun y hy => ?_, h.nd⟩
 rcases List.mem_cons.1 hy with rfl | hy
 ·have h1 : w.ownsRow w0.heap.size t sz (.slice A n c) n xs := h.own _ List.mem_cons_self;obtain ⟨h2, h3⟩ := h1;have hkn : k * sz ≤ n * sz := Nat.mul_le_mul_right _ hk;refine ⟨by rw [List.length_take]; omega, ?_⟩
  rcases h3 with ⟨h3, h4⟩ | ⟨g, cap, cur, hv, hb, hg, h4, h5, h6, h7⟩
  ·injection h3 with h5 h6 h7
   subst h5 h6 h7;exact .inl ⟨by rw [show k = 0 by omega], Tx⟩
  ·injection hv with h8 h9 h10
   subst h8;refine .inr ⟨g, cap, cur, by rw [h10], hb, hg, Tx, h5, h6, ?_⟩;rw [← h7, List.take_take, Nat.min_eq_left hkn]
 ·exact h.own y (List.mem_cons_of_mem _ hy)
theorem Hp.fF {w0 w : World} {H : List HE} {A : Option Addr} {n c : Nat} {t : TypeId} {sz : Nat} {xs : List Value} {i : Nat} (h : Hp w0 H w) (hi : H[i]? = some (.row A n c t sz xs)) : n ≤ c := by
 have h1 : w.ownsRow w0.heap.size t sz (.slice A n c) n xs := h.at_ hi
 rcases h1.2 with ⟨h3, h4⟩ | ⟨g, cap, cur, hv, hb, hg, h4, h5, h6, h7⟩
 ·omega
 ·injection hv with h8 h9 h10
  omega
section
variable {ro : Mode}
section
variable {P : Program} {N : Nat} {ops : Array Oper} {Q : Kq} {ρ : Rf} {w w0 : World} {rest : List Oper} {H : List HE} {d : Nat} {ty : TypeId} {pos : String} {af : Array Edge}
theorem qI {x : Operand} {v : Value} (hx : ev ρ x = v) (hN : d < N) (kk : WL ro P N ops Q rest (cG ρ d v) w) :
  WL ro P N ops Q (⟨some d, .move x, ty, pos, af, none⟩ :: rest) ρ w := aQ rfl rfl hN (ez hx) kk
theorem j1 {x : Operand} {v : Value} (hx : ev ρ x = v) (hN : d < N) (kk : WL ro P N ops Q rest (cG ρ d v) w) :
  WL ro P N ops Q (⟨some d, .assign x, ty, pos, af, none⟩ :: rest) ρ w := aQ rfl rfl hN (Hl hx) kk
theorem HN {c a b : Operand} {v : Value} (hc : ev ρ c = .bool true) (hx : ev ρ a = v) (hN : d < N) (kk : WL ro P N ops Q rest (cG ρ d v) w) :
  WL ro P N ops Q (⟨some d, .pick c a b, ty, pos, af, none⟩ :: rest) ρ w := aQ rfl rfl hN (Aw hc hx) kk
theorem Hx {c a b : Operand} {v : Value} (hc : ev ρ c = .bool false) (hx : ev ρ b = v) (hN : d < N) (kk : WL ro P N ops Q rest (cG ρ d v) w) :
  WL ro P N ops Q (⟨some d, .pick c a b, ty, pos, af, none⟩ :: rest) ρ w := aQ rfl rfl hN (Bf hc hx) kk
section
variable {t u : TypeId} {x y : Operand} {k : IntKind} {a b : Int}
theorem Et (hx : ev ρ x = .int k a) (hy : ev ρ y = .int k b) (hN : d < N) (kk : WL ro P N ops Q rest (cG ρ d (.bool (decide (a = b)))) w) :
  WL ro P N ops Q (⟨some d, .binOp .eql t x y u, ty, pos, af, none⟩ :: rest) ρ w := aQ rfl rfl hN (D5 hx hy) kk
theorem PB (hx : ev ρ x = .int .i64 a) (hy : ev ρ y = .int .i64 b) (h1 : -9223372036854775808 ≤ a + b) (h2 : a + b ≤ 9223372036854775807) (hN : d < N) (kk : WL ro P N ops Q rest (cG ρ d (.int .i64 (a + b))) w) :
  WL ro P N ops Q (⟨some d, .binOp .add t x y u, ty, pos, af, none⟩ :: rest) ρ w := aQ rfl rfl hN (IH hx hy h1 h2) kk
theorem OM (hx : ev ρ x = .int .i64 a) (hy : ev ρ y = .int .i64 b) (h1 : -9223372036854775808 ≤ a - b) (h2 : a - b ≤ 9223372036854775807) (hN : d < N) (kk : WL ro P N ops Q rest (cG ρ d (.int .i64 (a - b))) w) :
  WL ro P N ops Q (⟨some d, .binOp .sub t x y u, ty, pos, af, none⟩ :: rest) ρ w := aQ rfl rfl hN (J2 hx hy h1 h2) kk
theorem Pv (hx : ev ρ x = .int .i64 a) (hy : ev ρ y = .int .i64 b) (h1 : -9223372036854775808 ≤ a * b) (h2 : a * b ≤ 9223372036854775807) (hN : d < N) (kk : WL ro P N ops Q rest (cG ρ d (.int .i64 (a * b))) w) :
  WL ro P N ops Q (⟨some d, .binOp .mul t x y u, ty, pos, af, none⟩ :: rest) ρ w := aQ rfl rfl hN (HO hx hy h1 h2) kk
theorem yD (hx : ev ρ x = .int .i64 a) (h1 : -9223372036854775808 ≤ -a) (h2 : -a ≤ 9223372036854775807) (hN : d < N) (kk : WL ro P N ops Q rest (cG ρ d (.int .i64 (-a))) w) :
  WL ro P N ops Q (⟨some d, .unOp .neg t x, ty, pos, af, none⟩ :: rest) ρ w := aQ rfl rfl hN (HR hx h1 h2) kk
theorem Py (hx : ev ρ x = .int .i64 a) (hy : ev ρ y = .int .i64 b) (ha : 0 ≤ a) (hb : 0 < b) (h2 : a ≤ 9223372036854775807) (hN : d < N) (kk : WL ro P N ops Q rest (cG ρ d (.int .i64 (a / b))) w) :
  WL ro P N ops Q (⟨some d, .binOp .quo t x y u, ty, pos, af, none⟩ :: rest) ρ w := aQ rfl rfl hN (qE hx hy ha hb h2) kk
theorem Ox (hx : ev ρ x = .int .i64 a) (hy : ev ρ y = .int .i64 b) (ha : 0 ≤ a) (hb : 0 < b) (hN : d < N) (kk : WL ro P N ops Q rest (cG ρ d (.int .i64 (a % b))) w) :
  WL ro P N ops Q (⟨some d, .binOp .rem t x y u, ty, pos, af, none⟩ :: rest) ρ w := aQ rfl rfl hN (nW hx hy ha hb) kk
end
theorem QN {t : TypeId} {x : Operand} {b : Bool} (hx : ev ρ x = .bool b) (hN : d < N) (kk : WL ro P N ops Q rest (cG ρ d (.bool !b)) w) :
  WL ro P N ops Q (⟨some d, .unOp .not t x, ty, pos, af, none⟩ :: rest) ρ w := aQ rfl rfl hN (ML hx) kk
section
variable {t u : TypeId} {x y : Operand} {a b : Bool}
end
section
variable {t u : TypeId} {x y : Operand} {a b : ByteArray}
theorem j5 (hx : ev ρ x = .string a) (hy : ev ρ y = .string b) (h : a = b) (hN : d < N) (kk : WL ro P N ops Q rest (cG ρ d (.bool true)) w) :
  WL ro P N ops Q (⟨some d, .binOp .eql t x y u, ty, pos, af, none⟩ :: rest) ρ w := aQ rfl rfl hN (AK hx hy h) kk
theorem kj (hx : ev ρ x = .string a) (hy : ev ρ y = .string b) (h : ¬ a = b) (hN : d < N) (kk : WL ro P N ops Q rest (cG ρ d (.bool false)) w) :
  WL ro P N ops Q (⟨some d, .binOp .eql t x y u, ty, pos, af, none⟩ :: rest) ρ w := aQ rfl rfl hN (zZ hx hy h) kk
theorem kn (hx : ev ρ x = .string a) (hy : ev ρ y = .string b) (h : ¬ a = b) (hN : d < N) (kk : WL ro P N ops Q rest (cG ρ d (.bool true)) w) :
  WL ro P N ops Q (⟨some d, .binOp .neq t x y u, ty, pos, af, none⟩ :: rest) ρ w := aQ rfl rfl hN (zf hx hy h) kk
theorem j7 (hx : ev ρ x = .string a) (hy : ev ρ y = .string b) (h : a = b) (hN : d < N) (kk : WL ro P N ops Q rest (cG ρ d (.bool false)) w) :
  WL ro P N ops Q (⟨some d, .binOp .neq t x y u, ty, pos, af, none⟩ :: rest) ρ w := aQ rfl rfl hN (BE hx hy h) kk
theorem FR (hx : ev ρ x = .string a) (hy : ev ρ y = .string b) (hN : d < N) (kk : WL ro P N ops Q rest (cG ρ d (.bool (Op.bytesLess a.toList b.toList))) w) :
  WL ro P N ops Q (⟨some d, .binOp .lss t x y u, ty, pos, af, none⟩ :: rest) ρ w := aQ rfl rfl hN (F6 hx hy) kk
theorem Gw (hx : ev ρ x = .string a) (hy : ev ρ y = .string b) (hN : d < N) (kk : WL ro P N ops Q rest (cG ρ d (.bool !(Op.bytesLess a.toList b.toList || a.toList == b.toList))) w) :
  WL ro P N ops Q (⟨some d, .binOp .gtr t x y u, ty, pos, af, none⟩ :: rest) ρ w := aQ rfl rfl hN (FO hx hy) kk
theorem wm (hx : ev ρ x = .string a) (hy : ev ρ y = .string b) (hN : d < N) (kk : WL ro P N ops Q rest (cG ρ d (.bool !(Op.bytesLess a.toList b.toList))) w) :
  WL ro P N ops Q (⟨some d, .binOp .geq t x y u, ty, pos, af, none⟩ :: rest) ρ w := aQ rfl rfl hN (GZ hx hy) kk
end
theorem sV {s t : TypeId} {x : Operand} {k k' : IntKind} {a : Int} {sd : TypeDesc} (hs : P.underlying s = some sd) (ht : P.underlying t = some (.int k)) (hx : ev ρ x = .int k' a) (hN : d < N) (kk : WL ro P N ops Q rest (cG ρ d (.int k (k.wrap a))) w) :
  WL ro P N ops Q (⟨some d, .convert s t x, ty, pos, af, none⟩ :: rest) ρ w := aQ rfl rfl hN (lv hs ht hx) kk
theorem B7 {s t : TypeId} {x : Operand} {k' : IntKind} {a : Int} {sd : TypeDesc} (hs : P.underlying s = some sd) (ht : P.underlying t = some (.int .i64)) (hx : ev ρ x = .int k' a) (h1 : -9223372036854775808 ≤ a) (h2 : a ≤ 9223372036854775807) (hN : d < N) (kk : WL ro P N ops Q rest (cG ρ d (.int .i64 a)) w) :
  WL ro P N ops Q (⟨some d, .convert s t x, ty, pos, af, none⟩ :: rest) ρ w := aQ rfl rfl hN (BS hs ht hx h1 h2) kk
theorem Gu {x : Operand} {i : Nat} {vs : List Value} {v : Value} (hx : ev ρ x = .tuple vs.toArray) (hv : vs[i]? = some v) (hN : d < N) (kk : WL ro P N ops Q rest (cG ρ d v) w) :
  WL ro P N ops Q (⟨some d, .extract x i, ty, pos, af, none⟩ :: rest) ρ w := aQ rfl rfl hN (fi hx hv) kk
theorem uQ {fn : Fn} {first captured : Array Operand} {fs cs : List Value} (hf : wN ρ first.toList = fs) (hc : wN ρ captured.toList = cs) (hN : d < N) (kk : WL ro P N ops Q rest (cG ρ d (.func fn fs.toArray cs.toArray)) w) :
  WL ro P N ops Q (⟨some d, .makeFunc fn first captured, ty, pos, af, none⟩ :: rest) ρ w := aQ rfl rfl hN (Cl hf hc) kk
theorem bG {x : Operand} {t : TypeId} {s : ByteArray} (ht : P.underlying t = some .string) (hx : ev ρ x = .string s) (hN : d < N) (kk : WL ro P N ops Q rest (cG ρ d (.int .i64 s.size)) w) :
  WL ro P N ops Q (⟨some d, .call ⟨.builtin .len, #[x], #[t]⟩, ty, pos, af, none⟩ :: rest) ρ w := aQ rfl rfl hN (GP ht hx) kk
theorem HT {x : Operand} {t e : TypeId} {A : Option Addr} {n c : Nat} (ht : P.underlying t = some (.slice e)) (hx : ev ρ x = .slice A n c) (hN : d < N) (kk : WL ro P N ops Q rest (cG ρ d (.int .i64 n)) w) :
  WL ro P N ops Q (⟨some d, .call ⟨.builtin .len, #[x], #[t]⟩, ty, pos, af, none⟩ :: rest) ρ w := aQ rfl rfl hN (Ax ht hx) kk
theorem xc {x y : Operand} {ts : Array TypeId} {k : IntKind} {a b : Int} (hx : ev ρ x = .int k a) (hy : ev ρ y = .int k b) (hN : d < N) (kk : WL ro P N ops Q rest (cG ρ d (.int k (if b < a then b else a))) w) :
  WL ro P N ops Q (⟨some d, .call ⟨.builtin .min, #[x, y], ts⟩, ty, pos, af, none⟩ :: rest) ρ w := aQ rfl rfl hN (Qa hx hy) kk
theorem kK {x y : Operand} {ts : Array TypeId} {k : IntKind} {a b : Int} (hx : ev ρ x = .int k a) (hy : ev ρ y = .int k b) (hN : d < N) (kk : WL ro P N ops Q rest (cG ρ d (.int k (if b > a then b else a))) w) :
  WL ro P N ops Q (⟨some d, .call ⟨.builtin .max, #[x, y], ts⟩, ty, pos, af, none⟩ :: rest) ρ w := aQ rfl rfl hN (MJ hx hy) kk
theorem qX {t : TypeId} {x i : Operand} {s : ByteArray} {n : Int} {k : IntKind} {c : UInt8} (ht : P.underlying t = some .string) (hx : ev ρ x = .string s) (hi : ev ρ i = .int k n)
  (h0 : 0 ≤ n) (hc : s.data.toList[n.toNat]? = some c) (hN : d < N) (kk : WL ro P N ops Q rest (cG ρ d (.int .u8 c.toNat)) w) :
  WL ro P N ops Q (⟨some d, .index t x i, ty, pos, af, none⟩ :: rest) ρ w := aQ rfl rfl hN (rE ht hx hi h0 hc) kk
theorem rK {t : TypeId} {x : Operand} {lo hi : Option Operand} {s : ByteArray} {l h : Nat} (ht : P.underlying t = some .string) (hx : ev ρ x = .string s)
  (hlo : match lo with | none => l = 0 | some o => ∃ (k : IntKind) (n : Int), ev ρ o = .int k n ∧ n = l) (hhi : match hi with | none => h = s.size | some o => ∃ (k : IntKind) (n : Int), ev ρ o = .int k n ∧ n = h)
  (h1 : l ≤ h) (h2 : h ≤ s.size) (hN : d < N) (kk : WL ro P N ops Q rest (cG ρ d (.string (s.extract l h))) w) :
  WL ro P N ops Q (⟨some d, .slice t x lo hi none, ty, pos, af, none⟩ :: rest) ρ w := aQ rfl rfl hN (BB ht hx hlo hhi h1 h2) kk
theorem Ap {t e : TypeId} {x i : Operand} {ad : Addr} {n c sz : Nat} {k : IntKind} {m : Int} (ht : P.underlying t = some (.slice e)) (hsz : (P.info? e).map (·.size) = some sz) (hx : ev ρ x = .slice (some ad) n c) (hi : ev ρ i = .int k m)
  (h0 : 0 ≤ m) (h1 : m < n) (hN : d < N) (kk : WL ro P N ops Q rest (cG ρ d (.pointer (some (ad.add (m.toNat * sz))))) w) :
  WL ro P N ops Q (⟨some d, .indexAddr t x i, ty, pos, af, none⟩ :: rest) ρ w := aQ rfl rfl hN (dy ht hsz hx hi h0 h1) kk
theorem cS {t e : TypeId} {x i : Operand} {b n c sz k : Nat} {kk : IntKind} {m : Int} (ht : P.underlying t = some (.slice e)) (hsz : (P.info? e).map (·.size) = some sz) (hx : ev ρ x = .slice (some ⟨b, 0, none⟩) n c) (hi : ev ρ i = .int kk m)
  (hm : m = (k : Int)) (h1 : k < n) (hN : d < N) (kk : WL ro P N ops Q rest (cG ρ d (.pointer (some ⟨b, k * sz, none⟩))) w) :
  WL ro P N ops Q (⟨some d, .indexAddr t x i, ty, pos, af, none⟩ :: rest) ρ w := aQ rfl rfl hN (oa ht hsz hx hi hm h1) kk
theorem ct {t : TypeId} {x : Operand} {ad : Addr} {n by' : Nat} {zc vs : List Value} (ht : dn P t = some (n, true, by', zc)) (hx : ev ρ x = .pointer (some ad)) (hr : Rd w ad vs) (hl : vs.length = n) (hN : d < N) (kk : WL ro P N ops Q rest (cG ρ d (.agg vs.toArray)) w) :
  WL ro P N ops Q (⟨some d, .load t x, ty, pos, af, none⟩ :: rest) ρ w := aQ rfl rfl hN (CE ht hx hr hl) kk
theorem bT {t : TypeId} {x : Operand} {ad : Addr} {n by' : Nat} {zc : List Value} {v : Value} (ht : dn P t = some (n, false, by', zc)) (hx : ev ρ x = .pointer (some ad)) (hc : w.cell? ad = some v) (hN : d < N) (kk : WL ro P N ops Q rest (cG ρ d v) w) :
  WL ro P N ops Q (⟨some d, .load t x, ty, pos, af, none⟩ :: rest) ρ w := aQ rfl rfl hN (jv ht hx hc) kk
theorem yX {s : TypeId} {x : Operand} {f b o off : Nat} {ft : TypeId} (hf : gE P s f = some (off, ft)) (hx : ev ρ x = .pointer (some ⟨b, o, none⟩)) (hN : d < N) (kk : WL ro P N ops Q rest (cG ρ d (.pointer (some ⟨b, o + off, none⟩))) w) :
  WL ro P N ops Q (⟨some d, .fieldAddr s x f, ty, pos, af, none⟩ :: rest) ρ w := aQ rfl rfl hN (rC hf hx) kk
theorem yg {s : TypeId} {x : Operand} {f off : Nat} {ad : Addr} {ft : TypeId} (hf : gE P s f = some (off, ft)) (hx : ev ρ x = .pointer (some ad)) (hN : d < N) (kk : WL ro P N ops Q rest (cG ρ d (.pointer (some (ad.add off)))) w) :
  WL ro P N ops Q (⟨some d, .fieldAddr s x f, ty, pos, af, none⟩ :: rest) ρ w := aQ rfl rfl hN (pZ hf hx) kk
theorem Mi {s : TypeId} {x : Operand} {f off n by' : Nat} {ft : TypeId} {cs vs : Array Value} {zc : List Value} (hf : gE P s f = some (off, ft)) (ht : dn P ft = some (n, true, by', zc)) (hx : ev ρ x = .agg cs) (hv : cs.extract off (off + n) = vs) (hN : d < N) (kk : WL ro P N ops Q rest (cG ρ d (.agg vs)) w) :
  WL ro P N ops Q (⟨some d, .field s x f, ty, pos, af, none⟩ :: rest) ρ w := aQ rfl rfl hN (LB hf ht hx hv) kk
theorem Mp {t : TypeId} {n by' : Nat} {parts : Array (Nat × Operand)} {ps : List (Nat × Value)} {zc cs : List Value} {pl : List (Nat × Nat)} (hte : dn P t = some (n, true, by', zc))
  (hpl : pI P t = some pl)
  (hp : wI ρ parts.toList = ps) (hf : ke (pl[·]?) zc ps = some cs) (hN : d < N) (kk : WL ro P N ops Q rest (cG ρ d (.agg cs.toArray)) w) :
  WL ro P N ops Q (⟨some d, .build t parts, ty, pos, af, none⟩ :: rest) ρ w := aQ rfl rfl hN (sy hte hpl hp hf) kk
theorem rH {s t e : TypeId} {x : Operand} {A : Option Addr} {n c : Nat} {l : List UInt8} (hs : P.underlying s = some (.slice e)) (he : P.underlying e = some (.int .u8)) (ht : P.underlying t = some .string)
  (hx : ev ρ x = .slice A n c) (h : Sl w A n 1 (nC l)) (hN : d < N) (kk : WL ro P N ops Q rest (cG ρ d (.string ⟨l.toArray⟩)) w) :
  WL ro P N ops Q (⟨some d, .convert s t x, ty, pos, af, none⟩ :: rest) ρ w := aQ rfl rfl hN (kq hs he ht hx h) kk
section
variable {t u : TypeId} {x y : Operand} {k : IntKind} {q M : Nat} {a b : Nat}
theorem ix [UK k q M] (hx : ev ρ x = .int k (a : Int)) (hy : ev ρ y = .int k (b : Int)) (hN : d < N) (kk : WL ro P N ops Q rest (cG ρ d (.int k (((a + b) % M : Nat) : Int))) w) :
  WL ro P N ops Q (⟨some d, .binOp .add t x y u, ty, pos, af, none⟩ :: rest) ρ w := aQ rfl rfl hN (PA hx hy) kk
theorem CZ [UK k q M] (hx : ev ρ x = .int k (a : Int)) (hy : ev ρ y = .int k (b : Int)) (hb : b ≤ M) (hN : d < N) (kk : WL ro P N ops Q rest (cG ρ d (.int k (((a + M - b) % M : Nat) : Int))) w) :
  WL ro P N ops Q (⟨some d, .binOp .sub t x y u, ty, pos, af, none⟩ :: rest) ρ w := aQ rfl rfl hN (Ow hx hy hb) kk
theorem qh [UK k q M] (hx : ev ρ x = .int k (a : Int)) (hy : ev ρ y = .int k (b : Int)) (hN : d < N) (kk : WL ro P N ops Q rest (cG ρ d (.int k (((a * b) % M : Nat) : Int))) w) :
  WL ro P N ops Q (⟨some d, .binOp .mul t x y u, ty, pos, af, none⟩ :: rest) ρ w := aQ rfl rfl hN (Pq hx hy) kk
theorem PO [UK k q M] (hx : ev ρ x = .int k (a : Int)) (hy : ev ρ y = .int k (b : Int)) (hb : 0 < b) (ha : a < M) (hN : d < N) (kk : WL ro P N ops Q rest (cG ρ d (.int k ((a / b : Nat) : Int))) w) :
  WL ro P N ops Q (⟨some d, .binOp .quo t x y u, ty, pos, af, none⟩ :: rest) ρ w := aQ rfl rfl hN (OZ hx hy hb ha) kk
theorem B5 (hx : ev ρ x = .int k (a : Int)) (hy : ev ρ y = .int k (b : Int)) (hb : 0 < b) (hN : d < N) (kk : WL ro P N ops Q rest (cG ρ d (.int k ((a % b : Nat) : Int))) w) :
  WL ro P N ops Q (⟨some d, .binOp .rem t x y u, ty, pos, af, none⟩ :: rest) ρ w := aQ rfl rfl hN (Oj hx hy hb) kk
theorem Qj [h : UK k q M] (hx : ev ρ x = .int k (a : Int)) (hy : ev ρ y = .int k (b : Int)) (ha : a < M) (hb : b < M) (hN : d < N) (kk : WL ro P N ops Q rest (cG ρ d (.int k ((a ||| b : Nat) : Int))) w) :
  WL ro P N ops Q (⟨some d, .binOp .or t x y u, ty, pos, af, none⟩ :: rest) ρ w := aQ rfl rfl hN (QV hx hy ha hb) kk
theorem Ci [h : UK k q M] (hx : ev ρ x = .int k (a : Int)) (hy : ev ρ y = .int k (b : Int)) (ha : a < M) (hb : b < M) (hN : d < N) (kk : WL ro P N ops Q rest (cG ρ d (.int k ((a &&& b : Nat) : Int))) w) :
  WL ro P N ops Q (⟨some d, .binOp .and t x y u, ty, pos, af, none⟩ :: rest) ρ w := aQ rfl rfl hN (Pc hx hy ha hb) kk
theorem CM [h : UK k q M] {k' : IntKind} {s : Int} (hx : ev ρ x = .int k (a : Int)) (hy : ev ρ y = .int k' s) (hs : 0 ≤ s ∧ s ≤ q) (hN : d < N) (kk : WL ro P N ops Q rest (cG ρ d (.int k ((a / 2 ^ s.toNat : Nat) : Int))) w) :
  WL ro P N ops Q (⟨some d, .binOp .shr t x y u, ty, pos, af, none⟩ :: rest) ρ w := aQ rfl rfl hN (BX hx hy hs) kk
theorem lK [UK k q M] {k' : IntKind} {s m : Nat} (hx : ev ρ x = .int k (a : Int)) (hy : ev ρ y = .int k' (s : Int)) (hs : s ≤ q) (hm : 2 ^ s = m) (hN : d < N) (kk : WL ro P N ops Q rest (cG ρ d (.int k ((a / m : Nat) : Int))) w) :
  WL ro P N ops Q (⟨some d, .binOp .shr t x y u, ty, pos, af, none⟩ :: rest) ρ w := aQ rfl rfl hN (KE hx hy hs hm) kk
theorem I9 [h : UK k q M] (hx : ev ρ x = .int k (a : Int)) (ha : a ≤ M) (hN : d < N) (kk : WL ro P N ops Q rest (cG ρ d (.int k (((M - a) % M : Nat) : Int))) w) :
  WL ro P N ops Q (⟨some d, .unOp .neg t x, ty, pos, af, none⟩ :: rest) ρ w := aQ rfl rfl hN (OT hx ha) kk
theorem Lc [UK k q M] {s t : TypeId} {k' : IntKind} {sd : TypeDesc} (hs : P.underlying s = some sd) (ht : P.underlying t = some (.int k)) (hx : ev ρ x = .int k' (a : Int)) (hN : d < N) (kk : WL ro P N ops Q rest (cG ρ d (.int k ((a % M : Nat) : Int))) w) :
  WL ro P N ops Q (⟨some d, .convert s t x, ty, pos, af, none⟩ :: rest) ρ w := aQ rfl rfl hN (Kr hs ht hx) kk
theorem C2 [UK k q M] {s t : TypeId} {k' : IntKind} {sd : TypeDesc} (hs : P.underlying s = some sd) (ht : P.underlying t = some (.int k)) (hx : ev ρ x = .int k' (a : Int)) (ha : a < M) (hN : d < N) (kk : WL ro P N ops Q rest (cG ρ d (.int k (a : Int))) w) :
  WL ro P N ops Q (⟨some d, .convert s t x, ty, pos, af, none⟩ :: rest) ρ w := aQ rfl rfl hN (tV hs ht hx ha) kk
end
section
variable {t u : TypeId} {x y : Operand} {k : IntKind} {a b : Int}
theorem L8 (hx : ev ρ x = .int k a) (hy : ev ρ y = .int k b) (hN : d < N) (kk : WL ro P N ops Q rest (cG ρ d (.bool (decide (a < b)))) w) :
  WL ro P N ops Q (⟨some d, .binOp .lss t x y u, ty, pos, af, none⟩ :: rest) ρ w := aQ rfl rfl hN (KB hx hy) kk
theorem LR (hx : ev ρ x = .int k a) (hy : ev ρ y = .int k b) (hN : d < N) (kk : WL ro P N ops Q rest (cG ρ d (.bool (decide (a ≤ b)))) w) :
  WL ro P N ops Q (⟨some d, .binOp .leq t x y u, ty, pos, af, none⟩ :: rest) ρ w := aQ rfl rfl hN (Lj hx hy) kk
theorem KM (hx : ev ρ x = .int k a) (hy : ev ρ y = .int k b) (hN : d < N) (kk : WL ro P N ops Q rest (cG ρ d (.bool (decide (b < a)))) w) :
  WL ro P N ops Q (⟨some d, .binOp .gtr t x y u, ty, pos, af, none⟩ :: rest) ρ w := aQ rfl rfl hN (Eh hx hy) kk
theorem KK (hx : ev ρ x = .int k a) (hy : ev ρ y = .int k b) (hN : d < N) (kk : WL ro P N ops Q rest (cG ρ d (.bool (decide (b ≤ a)))) w) :
  WL ro P N ops Q (⟨some d, .binOp .geq t x y u, ty, pos, af, none⟩ :: rest) ρ w := aQ rfl rfl hN (LY hx hy) kk
theorem KG (hx : ev ρ x = .int k a) (hy : ev ρ y = .int k b) (hN : d < N) (kk : WL ro P N ops Q rest (cG ρ d (.bool (decide (a ≠ b)))) w) :
  WL ro P N ops Q (⟨some d, .binOp .neq t x y u, ty, pos, af, none⟩ :: rest) ρ w := aQ rfl rfl hN (LK hx hy) kk
end
section
variable {t u : TypeId} {x y : Operand} {a b : Bool}
theorem EK (ht : P.underlying t = some .bool) (hx : ev ρ x = .bool a) (hy : ev ρ y = .bool b) (h : a = b) (hN : d < N) (kk : WL ro P N ops Q rest (cG ρ d (.bool true)) w) :
  WL ro P N ops Q (⟨some d, .binOp .eql t x y u, ty, pos, af, none⟩ :: rest) ρ w := aQ rfl rfl hN (LJ ht hx hy h) kk
theorem LG (ht : P.underlying t = some .bool) (hx : ev ρ x = .bool a) (hy : ev ρ y = .bool b) (h : ¬ a = b) (hN : d < N) (kk : WL ro P N ops Q rest (cG ρ d (.bool false)) w) :
  WL ro P N ops Q (⟨some d, .binOp .eql t x y u, ty, pos, af, none⟩ :: rest) ρ w := aQ rfl rfl hN (Le ht hx hy h) kk
theorem DJ (ht : P.underlying t = some .bool) (hx : ev ρ x = .bool a) (hy : ev ρ y = .bool b) (h : ¬ a = b) (hN : d < N) (kk : WL ro P N ops Q rest (cG ρ d (.bool true)) w) :
  WL ro P N ops Q (⟨some d, .binOp .neq t x y u, ty, pos, af, none⟩ :: rest) ρ w := aQ rfl rfl hN (L9 ht hx hy h) kk
theorem Mn (ht : P.underlying t = some .bool) (hx : ev ρ x = .bool a) (hy : ev ρ y = .bool b) (h : a = b) (hN : d < N) (kk : WL ro P N ops Q rest (cG ρ d (.bool false)) w) :
  WL ro P N ops Q (⟨some d, .binOp .neq t x y u, ty, pos, af, none⟩ :: rest) ρ w := aQ rfl rfl hN (K1 ht hx hy h) kk
end
theorem cZ {t e : TypeId} {x i : Operand} {ad : Addr} {n c sz k : Nat} {kk : IntKind} {m : Int} (ht : P.underlying t = some (.slice e)) (hsz : (P.info? e).map (·.size) = some sz) (hx : ev ρ x = .slice (some ad) n c) (hi : ev ρ i = .int kk m)
  (hm : m = (k : Int)) (h1 : k < n) (hN : d < N) (kk : WL ro P N ops Q rest (cG ρ d (.pointer (some (ad.add (k * sz))))) w) :
  WL ro P N ops Q (⟨some d, .indexAddr t x i, ty, pos, af, none⟩ :: rest) ρ w := aQ rfl rfl hN (g6 ht hsz hx hi hm h1) kk
theorem om {t e : TypeId} {x i : Operand} {b o n c sz k : Nat} {kk : IntKind} {m : Int} (ht : P.underlying t = some (.slice e)) (hsz : (P.info? e).map (·.size) = some sz) (hx : ev ρ x = .slice (some ⟨b, o, none⟩) n c) (hi : ev ρ i = .int kk m)
  (hm : m = (k : Int)) (h1 : k < n) (hN : d < N) (kk : WL ro P N ops Q rest (cG ρ d (.pointer (some ⟨b, o + k * sz, none⟩))) w) :
  WL ro P N ops Q (⟨some d, .indexAddr t x i, ty, pos, af, none⟩ :: rest) ρ w := aQ rfl rfl hN (Cd ht hsz hx hi hm h1) kk
theorem BT {t e : TypeId} {x i : Operand} {ad : Addr} {n sz k : Nat} {kk : IntKind} {m : Int} (ht : P.underlying t = some (.array n e)) (hsz : (P.info? e).map (·.size) = some sz) (hx : ev ρ x = .pointer (some ad)) (hi : ev ρ i = .int kk m)
  (hm : m = (k : Int)) (h1 : k < n) (hN : d < N) (kk : WL ro P N ops Q rest (cG ρ d (.pointer (some (ad.add (k * sz))))) w) :
  WL ro P N ops Q (⟨some d, .indexAddr t x i, ty, pos, af, none⟩ :: rest) ρ w := aQ rfl rfl hN (CO ht hsz hx hi hm h1) kk
theorem pO {t e : TypeId} {x hi : Operand} {A : Option Addr} {n c h sz : Nat} {k : IntKind} {m : Int} (ht : P.underlying t = some (.slice e)) (hsz : (P.info? e).map (·.size) = some sz) (hx : ev ρ x = .slice A n c) (hhi : ev ρ hi = .int k m)
  (hm : m = (h : Int)) (h2 : h ≤ c) (hN : d < N) (kk : WL ro P N ops Q rest (cG ρ d (.slice A h c)) w) :
  WL ro P N ops Q (⟨some d, .slice t x none (some hi) none, ty, pos, af, none⟩ :: rest) ρ w := aQ rfl rfl hN (BD ht hsz hx hhi hm h2) kk
theorem CB {t e : TypeId} {x lo : Operand} {b o n c l sz : Nat} {k : IntKind} {m : Int} (ht : P.underlying t = some (.slice e)) (hsz : (P.info? e).map (·.size) = some sz) (hx : ev ρ x = .slice (some ⟨b, o, none⟩) n c) (hlo : ev ρ lo = .int k m)
  (hm : m = (l : Int)) (h1 : l ≤ n) (h2 : n ≤ c) (h3 : l < c) (hN : d < N) (kk : WL ro P N ops Q rest (cG ρ d (.slice (some ⟨b, o + l * sz, none⟩) (n - l) (c - l))) w) :
  WL ro P N ops Q (⟨some d, .slice t x (some lo) none none, ty, pos, af, none⟩ :: rest) ρ w := aQ rfl rfl hN (Cn ht hsz hx hlo hm h1 h2 h3) kk
theorem A0 {t e : TypeId} {x lo : Operand} {ad : Addr} {n c l sz : Nat} {k : IntKind} {m : Int} (ht : P.underlying t = some (.slice e)) (hsz : (P.info? e).map (·.size) = some sz) (hx : ev ρ x = .slice (some ad) n c) (hlo : ev ρ lo = .int k m)
  (hm : m = (l : Int)) (h1 : l ≤ n) (h2 : n ≤ c) (h3 : l < c) (hN : d < N) (kk : WL ro P N ops Q rest (cG ρ d (.slice (some (ad.add (l * sz))) (n - l) (c - l))) w) :
  WL ro P N ops Q (⟨some d, .slice t x (some lo) none none, ty, pos, af, none⟩ :: rest) ρ w := aQ rfl rfl hN (As ht hsz hx hlo hm h1 h2 h3) kk
theorem aX : wN ρ [] = [] := rfl
theorem aw {x : Operand} {l : List Operand} {v : Value} {r : List Value} (hx : ev ρ x = v) (h : wN ρ l = r) : wN ρ (x :: l) = v :: r := by simp only [wN, hx, h]
theorem bP : wI ρ [] = [] := rfl
theorem aK {i : Nat} {x : Operand} {l : List (Nat × Operand)} {v : Value} {r : List (Nat × Value)} (hx : ev ρ x = v) (h : wI ρ l = r) : wI ρ ((i, x) :: l) = (i, v) :: r := by simp only [wI, hx, h]
def Cu (P : Program) (f : FuncId) : Bool := match P.funcs[f]? with | some fn => !fn.body.isNone && !(fn.name == "runtime.NumGoroutine") | none => false
theorem xa {P : Program} {f : FuncId} (h : Cu P f = true) : ∃ fn, P.funcs[f]? = some fn ∧ fn.body.isNone = false ∧ (fn.name == "runtime.NumGoroutine") = false := by
 unfold Cu at h;split at h
 ·rename_i fn hf;simp only [Bool.and_eq_true, Bool.not_eq_true'] at h;exact ⟨fn, hf, h.1, h.2⟩
 ·cases h
theorem aM {dd : Option Nat} {g : Option (Nat × Bool)} {f : FuncId} {args : Array Operand} {ts : Array TypeId} {vs : List Value} (hf : Cu P f = true) (ha : wN ρ args.toList = vs) :
  (execOp (ev ρ) ⟨dd, .call ⟨.value (.func f), args, ts⟩, ty, pos, af, g⟩).run P w = .ok (.enter f vs.toArray) w := by
 obtain ⟨fn, h1, h2, h3⟩ := xa hf;have := Hk (P := P) (w := w) (d := dd) (ty := ty) (pos := pos) (af := af) (g := g) (ts := ts) h1 h2 h3 (show ev ρ (.func f) = .func (.func f) #[] #[] from rfl) (mZ args ha);simpa using this
theorem F8 {dd : Option Nat} {g : Option (Nat × Bool)} {x : Operand} {f : FuncId} {args : Array Operand} {ts : Array TypeId} {first cap vs : List Value} (hf : Cu P f = true) (hx : ev ρ x = .func (.func f) first.toArray cap.toArray) (ha : first ++ (wN ρ args.toList ++ cap) = vs) :
  (execOp (ev ρ) ⟨dd, .call ⟨.value x, args, ts⟩, ty, pos, af, g⟩).run P w = .ok (.enter f vs.toArray) w := by
 obtain ⟨fn, h1, h2, h3⟩ := xa hf;have := Hk (P := P) (w := w) (d := dd) (ty := ty) (pos := pos) (af := af) (g := g) (ts := ts) h1 h2 h3 hx (mZ args rfl);subst ha;simpa using this
theorem aE {f : FuncId} {args : Array Operand} {ts : Array TypeId} {vs : List Value} {R : Ending → World → Prop} (hc : Calls P f vs.toArray w R) (hf : Cu P f = true) (ha : wN ρ args.toList = vs) (hN : d < N)
  (kk : ∀ e w', R e w' → ∃ v, e = .returned v ∧ WL ro P N ops Q rest (cG ρ d v) w') : WL ro P N ops Q (⟨some d, .call ⟨.value (.func f), args, ts⟩, ty, pos, af, none⟩ :: rest) ρ w :=
 yQ rfl rfl hN (aM hf ha) hc kk
theorem fY {x : Operand} {f : FuncId} {args : Array Operand} {ts : Array TypeId} {first cap vs : List Value} {R : Ending → World → Prop} (hc : Calls P f vs.toArray w R) (hf : Cu P f = true) (hx : ev ρ x = .func (.func f) first.toArray cap.toArray) (ha : first ++ (wN ρ args.toList ++ cap) = vs) (hN : d < N)
  (kk : ∀ e w', R e w' → ∃ v, e = .returned v ∧ WL ro P N ops Q rest (cG ρ d v) w') : WL ro P N ops Q (⟨some d, .call ⟨.value x, args, ts⟩, ty, pos, af, none⟩ :: rest) ρ w :=
 yQ rfl rfl hN (F8 hf hx ha) hc kk
end
end
set_option maxRecDepth 100000
class bg (P : Program) (t : TypeId) (d : outParam TypeDesc) : Prop where out : P.underlying t = some d := by kernel_rfl
class aN (P : Program) (t : TypeId) (n : outParam Nat) (ag : outParam Bool) (b : outParam Nat) (zc : outParam (List Value)) : Prop where out : dn P t = some (n, ag, b, zc) := by kernel_rfl
class eL (P : Program) (s : TypeId) (f : Nat) (off : outParam Nat) (ft : outParam TypeId) : Prop where out : gE P s f = some (off, ft) := by kernel_rfl
class kF (P : Program) (s : TypeId) (pl : outParam (List (Nat × Nat))) : Prop where out : pI P s = some pl := by kernel_rfl
class ak (P : Program) (f : FuncId) : Prop where out : Cu P f = true := by kernel_rfl
theorem aN.size {P : Program} {t : TypeId} {n b : Nat} {ag : Bool} {zc : List Value} [h : aN P t n ag b zc] : (P.info? t).map (·.size) = some n := by
 obtain ⟨i, z, d, hi, hd, hz, hs, _⟩ := eu h.out;rw [hi, Option.map_some, hs]
instance : bg Tryz.prog 2 (.int .i64) := {}
instance : aN Tryz.prog 2 1 false 8 [.int .i64 0] := {}
instance : bg Tryz.prog 3 (.int .i64) := {}
instance : aN Tryz.prog 3 1 false 8 [.int .i64 0] := {}
instance : bg Tryz.prog 4 (.bool) := {}
instance : aN Tryz.prog 4 1 false 1 [.bool false] := {}
instance : bg Tryz.prog 5 (.int .u8) := {}
instance : aN Tryz.prog 5 1 false 1 [.int .u8 0] := {}
instance : bg Tryz.prog 6 (.int .u8) := {}
instance : aN Tryz.prog 6 1 false 1 [.int .u8 0] := {}
instance : aN Tryz.prog 7 4 true 24 [.int .i64 0, .int .i64 0, .bool false, .int .u8 0] := {}
instance : eL Tryz.prog 7 0 0 2 := {}
instance : eL Tryz.prog 7 1 1 3 := {}
instance : eL Tryz.prog 7 2 2 4 := {}
instance : eL Tryz.prog 7 3 3 6 := {}
instance : kF Tryz.prog 7 [(0, 1), (1, 1), (2, 1), (3, 1)] := {}
instance : aN Tryz.prog 8 4 true 24 [.int .i64 0, .int .i64 0, .bool false, .int .u8 0] := {}
instance : eL Tryz.prog 8 0 0 2 := {}
instance : eL Tryz.prog 8 1 1 3 := {}
instance : eL Tryz.prog 8 2 2 4 := {}
instance : eL Tryz.prog 8 3 3 6 := {}
instance : kF Tryz.prog 8 [(0, 1), (1, 1), (2, 1), (3, 1)] := {}
instance : bg Tryz.prog 9 (.string) := {}
instance : aN Tryz.prog 9 1 false 16 [.string { data := #[] }] := {}
instance : bg Tryz.prog 10 (.string) := {}
instance : aN Tryz.prog 10 1 false 16 [.string { data := #[] }] := {}
instance : bg Tryz.prog 11 (.string) := {}
instance : aN Tryz.prog 11 1 false 16 [.string { data := #[] }] := {}
instance : bg Tryz.prog 12 (.int .u64) := {}
instance : aN Tryz.prog 12 1 false 8 [.int .u64 0] := {}
instance : aN Tryz.prog 13 2 true 24 [.string { data := #[] }, .int .u64 0] := {}
instance : eL Tryz.prog 13 0 0 9 := {}
instance : eL Tryz.prog 13 1 1 12 := {}
instance : kF Tryz.prog 13 [(0, 1), (1, 1)] := {}
instance : aN Tryz.prog 14 2 true 24 [.string { data := #[] }, .int .u64 0] := {}
instance : eL Tryz.prog 14 0 0 9 := {}
instance : eL Tryz.prog 14 1 1 12 := {}
instance : kF Tryz.prog 14 [(0, 1), (1, 1)] := {}
instance : bg Tryz.prog 15 (.pointer 278) := {}
instance : aN Tryz.prog 15 1 false 8 [.pointer none] := {}
instance : bg Tryz.prog 16 (.pointer 281) := {}
instance : aN Tryz.prog 16 1 false 8 [.pointer none] := {}
instance : bg Tryz.prog 17 (.pointer 290) := {}
instance : aN Tryz.prog 17 1 false 8 [.pointer none] := {}
instance : aN Tryz.prog 18 1 true 8 [.pointer none] := {}
instance : eL Tryz.prog 18 0 0 17 := {}
instance : kF Tryz.prog 18 [(0, 1)] := {}
instance : aN Tryz.prog 19 1 true 8 [.pointer none] := {}
instance : eL Tryz.prog 19 0 0 17 := {}
instance : kF Tryz.prog 19 [(0, 1)] := {}
instance : bg Tryz.prog 21 (.int .i32) := {}
instance : aN Tryz.prog 21 1 false 4 [.int .i32 0] := {}
instance : bg Tryz.prog 22 (.slice 96) := {}
instance : aN Tryz.prog 22 1 false 24 [.slice none 0 0] := {}
instance : aN Tryz.prog 23 2 true 32 [.int .i64 0, .slice none 0 0] := {}
instance : eL Tryz.prog 23 0 0 3 := {}
instance : eL Tryz.prog 23 1 1 22 := {}
instance : kF Tryz.prog 23 [(0, 1), (1, 1)] := {}
instance : aN Tryz.prog 24 2 true 32 [.int .i64 0, .slice none 0 0] := {}
instance : eL Tryz.prog 24 0 0 3 := {}
instance : eL Tryz.prog 24 1 1 22 := {}
instance : kF Tryz.prog 24 [(0, 1), (1, 1)] := {}
instance : bg Tryz.prog 27 (.int .i64) := {}
instance : aN Tryz.prog 27 1 false 8 [.int .i64 0] := {}
instance : bg Tryz.prog 33 (.slice 81) := {}
instance : aN Tryz.prog 33 1 false 24 [.slice none 0 0] := {}
instance : bg Tryz.prog 34 (.slice 81) := {}
instance : aN Tryz.prog 34 1 false 24 [.slice none 0 0] := {}
instance : bg Tryz.prog 35 (.slice 3) := {}
instance : aN Tryz.prog 35 1 false 24 [.slice none 0 0] := {}
instance : bg Tryz.prog 37 (.slice 65) := {}
instance : aN Tryz.prog 37 1 false 24 [.slice none 0 0] := {}
instance : aN Tryz.prog 38 2 true 48 [.slice none 0 0, .slice none 0 0] := {}
instance : eL Tryz.prog 38 0 0 35 := {}
instance : eL Tryz.prog 38 1 1 37 := {}
instance : kF Tryz.prog 38 [(0, 1), (1, 1)] := {}
instance : aN Tryz.prog 39 2 true 48 [.slice none 0 0, .slice none 0 0] := {}
instance : eL Tryz.prog 39 0 0 35 := {}
instance : eL Tryz.prog 39 1 1 37 := {}
instance : kF Tryz.prog 39 [(0, 1), (1, 1)] := {}
instance : aN Tryz.prog 62 2 true 24 [.bool false, .string { data := #[] }] := {}
instance : eL Tryz.prog 62 0 0 4 := {}
instance : eL Tryz.prog 62 1 1 9 := {}
instance : kF Tryz.prog 62 [(0, 1), (1, 1)] := {}
instance : aN Tryz.prog 63 2 true 24 [.bool false, .string { data := #[] }] := {}
instance : eL Tryz.prog 63 0 0 4 := {}
instance : eL Tryz.prog 63 1 1 9 := {}
instance : kF Tryz.prog 63 [(0, 1), (1, 1)] := {}
instance : aN Tryz.prog 64 3 true 32 [.bool false, .string { data := #[] }, .int .i64 0] := {}
instance : eL Tryz.prog 64 0 0 63 := {}
instance : eL Tryz.prog 64 1 2 3 := {}
instance : kF Tryz.prog 64 [(0, 2), (2, 1)] := {}
instance : aN Tryz.prog 65 3 true 32 [.bool false, .string { data := #[] }, .int .i64 0] := {}
instance : eL Tryz.prog 65 0 0 63 := {}
instance : eL Tryz.prog 65 1 2 3 := {}
instance : kF Tryz.prog 65 [(0, 2), (2, 1)] := {}
instance : aN Tryz.prog 80 6 true 64 [.bool false, .string { data := #[] }, .int .i64 0, .bool false, .string { data := #[] }, .int .i64 0] := {}
instance : eL Tryz.prog 80 0 0 65 := {}
instance : eL Tryz.prog 80 1 3 65 := {}
instance : kF Tryz.prog 80 [(0, 3), (3, 3)] := {}
instance : aN Tryz.prog 81 6 true 64 [.bool false, .string { data := #[] }, .int .i64 0, .bool false, .string { data := #[] }, .int .i64 0] := {}
instance : eL Tryz.prog 81 0 0 65 := {}
instance : eL Tryz.prog 81 1 3 65 := {}
instance : kF Tryz.prog 81 [(0, 3), (3, 3)] := {}
instance : bg Tryz.prog 91 (.slice 65) := {}
instance : aN Tryz.prog 91 1 false 24 [.slice none 0 0] := {}
instance : aN Tryz.prog 95 4 true 48 [.string { data := #[] }, .bool false, .string { data := #[] }, .int .i64 0] := {}
instance : eL Tryz.prog 95 0 0 9 := {}
instance : eL Tryz.prog 95 1 1 65 := {}
instance : kF Tryz.prog 95 [(0, 1), (1, 3)] := {}
instance : aN Tryz.prog 96 4 true 48 [.string { data := #[] }, .bool false, .string { data := #[] }, .int .i64 0] := {}
instance : eL Tryz.prog 96 0 0 9 := {}
instance : eL Tryz.prog 96 1 1 65 := {}
instance : kF Tryz.prog 96 [(0, 1), (1, 3)] := {}
instance : bg Tryz.prog 101 (.slice 5) := {}
instance : aN Tryz.prog 101 1 false 24 [.slice none 0 0] := {}
instance : bg Tryz.prog 104 (.slice 24) := {}
instance : aN Tryz.prog 104 1 false 24 [.slice none 0 0] := {}
instance : aN Tryz.prog 118 2 true 16 [.int .i64 0, .int .i64 0] := {}
instance : eL Tryz.prog 118 0 0 3 := {}
instance : eL Tryz.prog 118 1 1 3 := {}
instance : kF Tryz.prog 118 [(0, 1), (1, 1)] := {}
instance : aN Tryz.prog 119 2 true 16 [.int .i64 0, .int .i64 0] := {}
instance : eL Tryz.prog 119 0 0 3 := {}
instance : eL Tryz.prog 119 1 1 3 := {}
instance : kF Tryz.prog 119 [(0, 1), (1, 1)] := {}
instance : aN Tryz.prog 125 9 true 96 [.bool false, .string { data := #[] }, .int .i64 0, .bool false, .string { data := #[] }, .int .i64 0, .bool false, .string { data := #[] }, .int .i64 0] := {}
instance : eL Tryz.prog 125 0 0 81 := {}
instance : eL Tryz.prog 125 1 6 65 := {}
instance : kF Tryz.prog 125 [(0, 6), (6, 3)] := {}
instance : aN Tryz.prog 126 9 true 96 [.bool false, .string { data := #[] }, .int .i64 0, .bool false, .string { data := #[] }, .int .i64 0, .bool false, .string { data := #[] }, .int .i64 0] := {}
instance : eL Tryz.prog 126 0 0 81 := {}
instance : eL Tryz.prog 126 1 6 65 := {}
instance : kF Tryz.prog 126 [(0, 6), (6, 3)] := {}
instance : bg Tryz.prog 131 (.int .u64) := {}
instance : aN Tryz.prog 131 1 false 8 [.int .u64 0] := {}
instance : bg Tryz.prog 140 (.slice 9) := {}
instance : aN Tryz.prog 140 1 false 24 [.slice none 0 0] := {}
instance : bg Tryz.prog 155 (.int .i64) := {}
instance : aN Tryz.prog 155 1 false 8 [.int .i64 0] := {}
instance : aN Tryz.prog 156 5 true 56 [.int .i64 0, .bool false, .string { data := #[] }, .bool false, .string { data := #[] }] := {}
instance : eL Tryz.prog 156 0 0 155 := {}
instance : eL Tryz.prog 156 1 1 63 := {}
instance : eL Tryz.prog 156 2 3 63 := {}
instance : kF Tryz.prog 156 [(0, 1), (1, 2), (3, 2)] := {}
instance : aN Tryz.prog 157 5 true 56 [.int .i64 0, .bool false, .string { data := #[] }, .bool false, .string { data := #[] }] := {}
instance : eL Tryz.prog 157 0 0 155 := {}
instance : eL Tryz.prog 157 1 1 63 := {}
instance : eL Tryz.prog 157 2 3 63 := {}
instance : kF Tryz.prog 157 [(0, 1), (1, 2), (3, 2)] := {}
instance : bg Tryz.prog 166 (.slice 168) := {}
instance : aN Tryz.prog 166 1 false 24 [.slice none 0 0] := {}
instance : aN Tryz.prog 167 1 true 24 [.slice none 0 0] := {}
instance : eL Tryz.prog 167 0 0 37 := {}
instance : kF Tryz.prog 167 [(0, 1)] := {}
instance : aN Tryz.prog 168 1 true 24 [.slice none 0 0] := {}
instance : eL Tryz.prog 168 0 0 37 := {}
instance : kF Tryz.prog 168 [(0, 1)] := {}
instance : bg Tryz.prog 181 (.slice 2) := {}
instance : aN Tryz.prog 181 1 false 24 [.slice none 0 0] := {}
instance : aN Tryz.prog 182 6 true 64 [.bool false, .string { data := #[] }, .int .i64 0, .bool false, .string { data := #[] }, .int .i64 0] := {}
instance : eL Tryz.prog 182 0 0 65 := {}
instance : eL Tryz.prog 182 1 3 65 := {}
instance : kF Tryz.prog 182 [(0, 3), (3, 3)] := {}
instance : aN Tryz.prog 183 6 true 64 [.bool false, .string { data := #[] }, .int .i64 0, .bool false, .string { data := #[] }, .int .i64 0] := {}
instance : eL Tryz.prog 183 0 0 65 := {}
instance : eL Tryz.prog 183 1 3 65 := {}
instance : kF Tryz.prog 183 [(0, 3), (3, 3)] := {}
instance : bg Tryz.prog 196 (.slice 63) := {}
instance : aN Tryz.prog 196 1 false 24 [.slice none 0 0] := {}
instance : bg Tryz.prog 197 (.string) := {}
instance : aN Tryz.prog 197 1 false 16 [.string { data := #[] }] := {}
instance : aN Tryz.prog 198 2 true 24 [.string { data := #[] }, .bool false] := {}
instance : eL Tryz.prog 198 0 0 197 := {}
instance : eL Tryz.prog 198 1 1 4 := {}
instance : kF Tryz.prog 198 [(0, 1), (1, 1)] := {}
instance : aN Tryz.prog 199 2 true 24 [.string { data := #[] }, .bool false] := {}
instance : eL Tryz.prog 199 0 0 197 := {}
instance : eL Tryz.prog 199 1 1 4 := {}
instance : kF Tryz.prog 199 [(0, 1), (1, 1)] := {}
instance : bg Tryz.prog 204 (.int .u64) := {}
instance : aN Tryz.prog 204 1 false 8 [.int .u64 0] := {}
instance : bg Tryz.prog 205 (.pointer 168) := {}
instance : aN Tryz.prog 205 1 false 8 [.pointer none] := {}
instance : aN Tryz.prog 206 6 true 64 [.bool false, .string { data := #[] }, .int .i64 0, .bool false, .string { data := #[] }, .int .i64 0] := {}
instance : eL Tryz.prog 206 0 0 81 := {}
instance : kF Tryz.prog 206 [(0, 6)] := {}
instance : aN Tryz.prog 207 6 true 64 [.bool false, .string { data := #[] }, .int .i64 0, .bool false, .string { data := #[] }, .int .i64 0] := {}
instance : eL Tryz.prog 207 0 0 81 := {}
instance : kF Tryz.prog 207 [(0, 6)] := {}
instance : bg Tryz.prog 226 (.slice 204) := {}
instance : aN Tryz.prog 226 1 false 24 [.slice none 0 0] := {}
instance : bg Tryz.prog 227 (.slice 204) := {}
instance : aN Tryz.prog 227 1 false 24 [.slice none 0 0] := {}
instance : bg Tryz.prog 244 (.array 64 5) := {}
instance : aN Tryz.prog 244 64 true 64 [.int .u8 0, .int .u8 0, .int .u8 0, .int .u8 0, .int .u8 0, .int .u8 0, .int .u8 0, .int .u8 0, .int .u8 0, .int .u8 0, .int .u8 0, .int .u8 0, .int .u8 0, .int .u8 0, .int .u8 0, .int .u8 0, .int .u8 0, .int .u8 0, .int .u8 0, .int .u8 0, .int .u8 0, .int .u8 0, .int .u8 0, .int .u8 0, .int .u8 0, .int .u8 0, .int .u8 0, .int .u8 0, .int .u8 0, .int .u8 0, .int .u8 0, .int .u8 0, .int .u8 0, .int .u8 0, .int .u8 0, .int .u8 0, .int .u8 0, .int .u8 0, .int .u8 0, .int .u8 0, .int .u8 0, .int .u8 0, .int .u8 0, .int .u8 0, .int .u8 0, .int .u8 0, .int .u8 0, .int .u8 0, .int .u8 0, .int .u8 0, .int .u8 0, .int .u8 0, .int .u8 0, .int .u8 0, .int .u8 0, .int .u8 0, .int .u8 0, .int .u8 0, .int .u8 0, .int .u8 0, .int .u8 0, .int .u8 0, .int .u8 0, .int .u8 0] := {}
instance : bg Tryz.prog 256 (.array 256 4) := {}
instance : bg Tryz.prog 257 (.array 256 4) := {}
instance : bg Tryz.prog 261 (.pointer 257) := {}
instance : aN Tryz.prog 261 1 false 8 [.pointer none] := {}
instance : bg Tryz.prog 270 (.array 256 5) := {}
instance : aN Tryz.prog 271 2 true 2 [.int .u8 0, .int .u8 0] := {}
instance : eL Tryz.prog 271 0 0 5 := {}
instance : eL Tryz.prog 271 1 1 5 := {}
instance : kF Tryz.prog 271 [(0, 1), (1, 1)] := {}
instance : aN Tryz.prog 272 2 true 2 [.int .u8 0, .int .u8 0] := {}
instance : eL Tryz.prog 272 0 0 5 := {}
instance : eL Tryz.prog 272 1 1 5 := {}
instance : kF Tryz.prog 272 [(0, 1), (1, 1)] := {}
instance : bg Tryz.prog 273 (.array 16 272) := {}
instance : aN Tryz.prog 273 32 true 32 [.int .u8 0, .int .u8 0, .int .u8 0, .int .u8 0, .int .u8 0, .int .u8 0, .int .u8 0, .int .u8 0, .int .u8 0, .int .u8 0, .int .u8 0, .int .u8 0, .int .u8 0, .int .u8 0, .int .u8 0, .int .u8 0, .int .u8 0, .int .u8 0, .int .u8 0, .int .u8 0, .int .u8 0, .int .u8 0, .int .u8 0, .int .u8 0, .int .u8 0, .int .u8 0, .int .u8 0, .int .u8 0, .int .u8 0, .int .u8 0, .int .u8 0, .int .u8 0] := {}
instance : aN Tryz.prog 277 4 true 40 [.pointer none, .pointer none, .pointer none, .string { data := #[] }] := {}
instance : eL Tryz.prog 277 0 0 17 := {}
instance : eL Tryz.prog 277 1 1 17 := {}
instance : eL Tryz.prog 277 2 2 17 := {}
instance : eL Tryz.prog 277 3 3 9 := {}
instance : kF Tryz.prog 277 [(0, 1), (1, 1), (2, 1), (3, 1)] := {}
instance : aN Tryz.prog 278 4 true 40 [.pointer none, .pointer none, .pointer none, .string { data := #[] }] := {}
instance : eL Tryz.prog 278 0 0 17 := {}
instance : eL Tryz.prog 278 1 1 17 := {}
instance : eL Tryz.prog 278 2 2 17 := {}
instance : eL Tryz.prog 278 3 3 9 := {}
instance : kF Tryz.prog 278 [(0, 1), (1, 1), (2, 1), (3, 1)] := {}
instance : bg Tryz.prog 279 (.array 0 16) := {}
instance : aN Tryz.prog 279 0 true 0 [] := {}
instance : aN Tryz.prog 280 0 true 0 [] := {}
instance : kF Tryz.prog 280 [(0, 0)] := {}
instance : aN Tryz.prog 281 0 true 0 [] := {}
instance : kF Tryz.prog 281 [(0, 0)] := {}
instance : bg Tryz.prog 282 (.int .u32) := {}
instance : aN Tryz.prog 282 1 false 4 [.int .u32 0] := {}
instance : bg Tryz.prog 283 (.int .u8) := {}
instance : aN Tryz.prog 283 1 false 1 [.int .u8 0] := {}
instance : bg Tryz.prog 284 (.int .u8) := {}
instance : aN Tryz.prog 284 1 false 1 [.int .u8 0] := {}
instance : bg Tryz.prog 286 (.pointer 5) := {}
instance : aN Tryz.prog 286 1 false 8 [.pointer none] := {}
instance : bg Tryz.prog 287 (.int .i32) := {}
instance : aN Tryz.prog 287 1 false 4 [.int .i32 0] := {}
instance : bg Tryz.prog 288 (.int .i32) := {}
instance : aN Tryz.prog 288 1 false 4 [.int .i32 0] := {}
instance : aN Tryz.prog 289 11 true 48 [.int .u64 0, .int .u64 0, .int .u32 0, .int .u8 0, .int .u8 0, .int .u8 0, .int .u8 0, .nilFunc, .pointer none, .int .i32 0, .int .i32 0] := {}
instance : aN Tryz.prog 290 11 true 48 [.int .u64 0, .int .u64 0, .int .u32 0, .int .u8 0, .int .u8 0, .int .u8 0, .int .u8 0, .nilFunc, .pointer none, .int .i32 0, .int .i32 0] := {}
theorem mixed : Tryz.prog.follows .mixedOrders = true := by kernel_rfl
instance : ak Tryz.prog 3 := {}
instance : ak Tryz.prog 4 := {}
instance : ak Tryz.prog 5 := {}
instance : ak Tryz.prog 6 := {}
instance : ak Tryz.prog 7 := {}
instance : ak Tryz.prog 8 := {}
instance : ak Tryz.prog 9 := {}
instance : ak Tryz.prog 10 := {}
instance : ak Tryz.prog 11 := {}
instance : ak Tryz.prog 12 := {}
instance : ak Tryz.prog 13 := {}
instance : ak Tryz.prog 14 := {}
instance : ak Tryz.prog 15 := {}
instance : ak Tryz.prog 16 := {}
instance : ak Tryz.prog 17 := {}
instance : ak Tryz.prog 18 := {}
instance : ak Tryz.prog 19 := {}
instance : ak Tryz.prog 20 := {}
instance : ak Tryz.prog 21 := {}
instance : ak Tryz.prog 22 := {}
instance : ak Tryz.prog 23 := {}
instance : ak Tryz.prog 24 := {}
instance : ak Tryz.prog 25 := {}
instance : ak Tryz.prog 26 := {}
instance : ak Tryz.prog 27 := {}
instance : ak Tryz.prog 28 := {}
instance : ak Tryz.prog 29 := {}
instance : ak Tryz.prog 30 := {}
instance : ak Tryz.prog 31 := {}
instance : ak Tryz.prog 32 := {}
instance : ak Tryz.prog 33 := {}
instance : ak Tryz.prog 34 := {}
instance : ak Tryz.prog 35 := {}
instance : ak Tryz.prog 36 := {}
instance : ak Tryz.prog 37 := {}
instance : ak Tryz.prog 38 := {}
instance : ak Tryz.prog 39 := {}
instance : ak Tryz.prog 40 := {}
instance : ak Tryz.prog 41 := {}
instance : ak Tryz.prog 42 := {}
instance : ak Tryz.prog 43 := {}
instance : ak Tryz.prog 44 := {}
instance : ak Tryz.prog 45 := {}
instance : ak Tryz.prog 46 := {}
instance : ak Tryz.prog 47 := {}
instance : ak Tryz.prog 48 := {}
instance : ak Tryz.prog 49 := {}
instance : ak Tryz.prog 50 := {}
instance : ak Tryz.prog 51 := {}
instance : ak Tryz.prog 52 := {}
instance : ak Tryz.prog 53 := {}
instance : ak Tryz.prog 54 := {}
instance : ak Tryz.prog 55 := {}
instance : ak Tryz.prog 56 := {}
instance : ak Tryz.prog 57 := {}
instance : ak Tryz.prog 58 := {}
instance : ak Tryz.prog 59 := {}
instance : ak Tryz.prog 60 := {}
instance : ak Tryz.prog 61 := {}
instance : ak Tryz.prog 62 := {}
instance : ak Tryz.prog 63 := {}
instance : ak Tryz.prog 64 := {}
instance : ak Tryz.prog 65 := {}
instance : ak Tryz.prog 66 := {}
instance : ak Tryz.prog 67 := {}
instance : ak Tryz.prog 68 := {}
instance : ak Tryz.prog 69 := {}
instance : ak Tryz.prog 70 := {}
instance : ak Tryz.prog 71 := {}
instance : ak Tryz.prog 72 := {}
instance : ak Tryz.prog 73 := {}
instance : ak Tryz.prog 74 := {}
instance : ak Tryz.prog 75 := {}
instance : ak Tryz.prog 76 := {}
instance : ak Tryz.prog 77 := {}
instance : ak Tryz.prog 78 := {}
instance : ak Tryz.prog 79 := {}
instance : ak Tryz.prog 80 := {}
instance : ak Tryz.prog 81 := {}
instance : ak Tryz.prog 82 := {}
instance : ak Tryz.prog 83 := {}
instance : ak Tryz.prog 84 := {}
instance : ak Tryz.prog 85 := {}
instance : ak Tryz.prog 86 := {}
instance : ak Tryz.prog 87 := {}
instance : ak Tryz.prog 88 := {}
instance : ak Tryz.prog 89 := {}
instance : ak Tryz.prog 90 := {}
instance : ak Tryz.prog 91 := {}
instance : ak Tryz.prog 92 := {}
instance : ak Tryz.prog 93 := {}
instance : ak Tryz.prog 94 := {}
instance : ak Tryz.prog 95 := {}
instance : ak Tryz.prog 96 := {}
instance : ak Tryz.prog 97 := {}
instance : ak Tryz.prog 98 := {}
instance : ak Tryz.prog 99 := {}
instance : ak Tryz.prog 100 := {}
instance : ak Tryz.prog 101 := {}
instance : ak Tryz.prog 102 := {}
instance : ak Tryz.prog 103 := {}
instance : ak Tryz.prog 104 := {}
instance : ak Tryz.prog 105 := {}
instance : ak Tryz.prog 106 := {}
instance : ak Tryz.prog 107 := {}
instance : ak Tryz.prog 108 := {}
instance : ak Tryz.prog 109 := {}
instance : ak Tryz.prog 110 := {}
instance : ak Tryz.prog 111 := {}
instance : ak Tryz.prog 112 := {}
instance : ak Tryz.prog 113 := {}
instance : ak Tryz.prog 114 := {}
instance : ak Tryz.prog 115 := {}
instance : ak Tryz.prog 116 := {}
instance : ak Tryz.prog 117 := {}
instance : ak Tryz.prog 118 := {}
instance : ak Tryz.prog 119 := {}
instance : ak Tryz.prog 120 := {}
instance : ak Tryz.prog 121 := {}
instance : ak Tryz.prog 122 := {}
instance : ak Tryz.prog 123 := {}
instance : ak Tryz.prog 124 := {}
instance : ak Tryz.prog 125 := {}
instance : ak Tryz.prog 126 := {}
instance : ak Tryz.prog 127 := {}
instance : ak Tryz.prog 128 := {}
instance : ak Tryz.prog 129 := {}
instance : ak Tryz.prog 130 := {}
instance : ak Tryz.prog 131 := {}
instance : ak Tryz.prog 132 := {}
instance : ak Tryz.prog 133 := {}
instance : ak Tryz.prog 134 := {}
instance : ak Tryz.prog 135 := {}
instance : ak Tryz.prog 136 := {}
instance : ak Tryz.prog 137 := {}
instance : ak Tryz.prog 138 := {}
instance : ak Tryz.prog 139 := {}
instance : ak Tryz.prog 140 := {}
instance : ak Tryz.prog 141 := {}
instance : ak Tryz.prog 142 := {}
instance : ak Tryz.prog 143 := {}
instance : ak Tryz.prog 144 := {}
instance : ak Tryz.prog 145 := {}
instance : ak Tryz.prog 146 := {}
instance : ak Tryz.prog 147 := {}
instance : ak Tryz.prog 148 := {}
instance : ak Tryz.prog 149 := {}
instance : ak Tryz.prog 150 := {}
instance : ak Tryz.prog 151 := {}
instance : ak Tryz.prog 152 := {}
instance : ak Tryz.prog 153 := {}
instance : ak Tryz.prog 154 := {}
instance : ak Tryz.prog 155 := {}
instance : ak Tryz.prog 156 := {}
instance : ak Tryz.prog 157 := {}
instance : ak Tryz.prog 158 := {}
instance : ak Tryz.prog 159 := {}
instance : ak Tryz.prog 160 := {}
instance : ak Tryz.prog 161 := {}
instance : ak Tryz.prog 162 := {}
instance : ak Tryz.prog 163 := {}
instance : ak Tryz.prog 164 := {}
instance : ak Tryz.prog 165 := {}
instance : ak Tryz.prog 166 := {}
instance : ak Tryz.prog 167 := {}
instance : ak Tryz.prog 168 := {}
instance : ak Tryz.prog 169 := {}
instance : ak Tryz.prog 170 := {}
instance : ak Tryz.prog 171 := {}
instance : ak Tryz.prog 172 := {}
instance : ak Tryz.prog 173 := {}
instance : ak Tryz.prog 174 := {}
instance : ak Tryz.prog 175 := {}
instance : ak Tryz.prog 176 := {}
instance : ak Tryz.prog 177 := {}
instance : ak Tryz.prog 178 := {}
instance : ak Tryz.prog 179 := {}
instance : ak Tryz.prog 180 := {}
instance : ak Tryz.prog 181 := {}
instance : ak Tryz.prog 182 := {}
instance : ak Tryz.prog 183 := {}
instance : ak Tryz.prog 184 := {}
instance : ak Tryz.prog 185 := {}
instance : ak Tryz.prog 186 := {}
instance : ak Tryz.prog 187 := {}
instance : ak Tryz.prog 188 := {}
instance : ak Tryz.prog 189 := {}
instance : ak Tryz.prog 190 := {}
instance : ak Tryz.prog 191 := {}
instance : ak Tryz.prog 192 := {}
instance : ak Tryz.prog 193 := {}
instance : ak Tryz.prog 194 := {}
instance : ak Tryz.prog 195 := {}
instance : ak Tryz.prog 196 := {}
instance : ak Tryz.prog 197 := {}
instance : ak Tryz.prog 198 := {}
instance : ak Tryz.prog 199 := {}
instance : ak Tryz.prog 200 := {}
instance : ak Tryz.prog 201 := {}
instance : ak Tryz.prog 202 := {}
instance : ak Tryz.prog 203 := {}
instance : ak Tryz.prog 204 := {}
instance : ak Tryz.prog 205 := {}
instance : ak Tryz.prog 206 := {}
instance : ak Tryz.prog 207 := {}
instance : ak Tryz.prog 208 := {}
instance : ak Tryz.prog 209 := {}
instance : ak Tryz.prog 210 := {}
instance : ak Tryz.prog 211 := {}
instance : ak Tryz.prog 212 := {}
instance : ak Tryz.prog 213 := {}
instance : ak Tryz.prog 214 := {}
instance : ak Tryz.prog 215 := {}
instance : ak Tryz.prog 216 := {}
instance : ak Tryz.prog 217 := {}
instance : ak Tryz.prog 218 := {}
instance : ak Tryz.prog 219 := {}
instance : ak Tryz.prog 220 := {}
instance : ak Tryz.prog 221 := {}
instance : ak Tryz.prog 222 := {}
instance : ak Tryz.prog 223 := {}
instance : ak Tryz.prog 224 := {}
instance : ak Tryz.prog 225 := {}
instance : ak Tryz.prog 226 := {}
instance : ak Tryz.prog 227 := {}
instance : ak Tryz.prog 228 := {}
instance : ak Tryz.prog 229 := {}
instance : ak Tryz.prog 230 := {}
instance : ak Tryz.prog 231 := {}
instance : ak Tryz.prog 232 := {}
instance : ak Tryz.prog 233 := {}
instance : ak Tryz.prog 234 := {}
instance : ak Tryz.prog 235 := {}
instance : ak Tryz.prog 236 := {}
instance : ak Tryz.prog 237 := {}
instance : ak Tryz.prog 238 := {}
instance : ak Tryz.prog 239 := {}
instance : ak Tryz.prog 240 := {}
instance : ak Tryz.prog 241 := {}
instance : ak Tryz.prog 242 := {}
instance : ak Tryz.prog 243 := {}
instance : ak Tryz.prog 244 := {}
instance : ak Tryz.prog 245 := {}
instance : ak Tryz.prog 246 := {}
instance : ak Tryz.prog 247 := {}
instance : ak Tryz.prog 248 := {}
instance : ak Tryz.prog 249 := {}
instance : ak Tryz.prog 250 := {}
instance : ak Tryz.prog 251 := {}
instance : ak Tryz.prog 252 := {}
instance : ak Tryz.prog 253 := {}
instance : ak Tryz.prog 254 := {}
instance : ak Tryz.prog 255 := {}
instance : ak Tryz.prog 256 := {}
instance : ak Tryz.prog 257 := {}
instance : ak Tryz.prog 258 := {}
instance : ak Tryz.prog 259 := {}
instance : ak Tryz.prog 260 := {}
instance : ak Tryz.prog 263 := {}
instance : ak Tryz.prog 264 := {}
instance : ak Tryz.prog 265 := {}
instance : ak Tryz.prog 266 := {}
instance : ak Tryz.prog 267 := {}
instance : ak Tryz.prog 268 := {}
instance : ak Tryz.prog 269 := {}
instance : ak Tryz.prog 270 := {}
instance : ak Tryz.prog 271 := {}
instance : ak Tryz.prog 273 := {}
instance : ak Tryz.prog 274 := {}
instance : ak Tryz.prog 275 := {}
instance : ak Tryz.prog 276 := {}
instance : ak Tryz.prog 277 := {}
instance : ak Tryz.prog 278 := {}
end Go.Proofs.YteeckcbbnegmcaaGreatDoor
