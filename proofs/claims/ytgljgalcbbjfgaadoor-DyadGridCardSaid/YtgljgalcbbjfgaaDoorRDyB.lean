/- The walks through the document's answer for dyadic numbers (ogeeref04): sums, order, products. -/
import Derived.Test.YtgljgalcbbjfgaaDoorRDyA
namespace Go.Proofs.YtgljgalcbbjfgaaDoor
open Go.RowKit
-- umode
theorem plus_up {u v : NR} {k : Nat} (h : u.e = v.e + k) : Dyadic.ofIntWithPrec (u.i * 2 ^ k + v.i) (-v.e) = u.d + v.d := by
  rw [← owp_add]
  congr 1
  have := owp_scale u.i (-u.e) k
  rw [show -u.e + (k : Int) = -v.e by omega] at this
  exact this
theorem sub_sign (x y : Dyadic) : (nR (x - y)).i.sign = cmpD x y := by
  rw [NR.sign, nR_d]
  unfold cmpD
  have e1 : x - y < 0 ↔ x < y := by grind
  have e2 : 0 < x - y ↔ y < x := by grind
  simp only [e1, e2]
end Go.Proofs.YtgljgalcbbjfgaaDoor
