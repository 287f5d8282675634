/- The walks through layer 4's laws (ogeelaw04): the package's own helpers. -/
import Derived.Test.YthmmofllajkejaaDoorRDy
namespace Go.Proofs.YthmmofllajkejaaDoor
open Go.RowKit
-- umode
def D (m e : Int) : Dyadic := Dyadic.ofIntWithPrec m (-e)
theorem D_sz {m e : Int} (hm : m.natAbs < 256) (h1 : -16 ≤ e) (h2 : e ≤ 16) : Sz 24 (D m e) := by
  have := Sz.raw (a := ⟨iN m, iM m, e⟩) (m := 8) (E := 16) (by show 8 * (iM m).size ≤ 8; rw [iM_size]; have : blen m.natAbs ≤ 8 := blen_le hm; omega) h1 h2
  rw [NR.d, NR.i, iv_of] at this
  exact this
def longB (most far : Int) (l : List NR) : Bool := l.any fun a => decide (most < a.mag.size ∨ a.e < -far ∨ far < a.e)
end Go.Proofs.YthmmofllajkejaaDoor
