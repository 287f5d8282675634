/-
  No cell of these rows narrows 'for every input' (looked for: loops, veiled, ifaces, maps, wideKeys, modest, calm, conditions, laid).
  DERIVED. THE GIVEN ROWS OF THIS SEAT. 5 by the template 'for every input the law returns true; each argument reads behind the call as it read before'; 0 by the template 'total and deterministic' (their statements: YtgljgalcbbjfgaaTotals.lean).
  GIVEN WITH THE SEED: the statements are not yours to turn. If you find one false, say at which input.
  Laid BY PROGRAM, IN A SANDBOX (cutbox-rows.mjs): the forced cells as the released guide's own fill.sh prints them over the translation 21da056b038f7c0e… (all of the seat's roots in one cut). By AI agents, Wed Nov 11 2026. No macro, syntax, notation, axiom, sorry.
-/
import Derived.Test.YtgljgalcbbjfgaaChecked
import GoSem.Claim
import GoSem.ClaimJoined
import GoSem.ClaimMapViews
import Derived.JoinedTies
import Derived.KernelRfl
namespace Go.Proofs.Ytgljgalcbbjfgaa
/- THE CELL 'sum', in the pinned program and in every row, IS THE sha256 OF THE DUMP (.gsa) THAT YtgljgalcbbjfgaaProg.lean LOADS. Nothing in Lean hashes anything: it is a label: what it is worth is what the hold of that sum in a sandbox is worth. -/
noncomputable def Try.pinned : Pinned := { name := "ytgljgalcbbjfgaa", sum := "21da056b038f7c0ee866be2579a832fa1e7c89bd3bbce46c2b6211c18a3399e6", checked := Try.checked }
namespace Rows
def none {H : Type} : Left H := { results := [], args := [] }

/-- 'ogeelaw07.MonoOf': WHATEVER THE INPUT: true; the input reads as it did. -/
def monoOfSpec : ChangeSpec := { name := "monoOf", fn := fun _ => fun
  | [d1, d2, d3] => { results := [.lit (.bool true)], args := [d1, d2, d3] }
  | _ => none }
def monoOfRow : OpenClaim := { program := "ytgljgalcbbjfgaa", sum := "21da056b038f7c0ee866be2579a832fa1e7c89bd3bbce46c2b6211c18a3399e6", func := "ogee/ogeelaw07.MonoOf", spec := "monoOf", unfollowed := true, recurses := true, apart := false }
def MonoOfSaid : Prop := monoOfRow.holds Try.pinned (OpenSpec.ofChange monoOfSpec)

/-- ITS FALSE NEIGHBOUR: 'it returns false'. Refute it at one input. -/
def monoOfWrong : ChangeSpec := { name := "monoOf", fn := fun _ => fun
  | [d1, d2, d3] => { results := [.lit (.bool false)], args := [d1, d2, d3] }
  | _ => none }
def MonoOfWrongFalsely : Prop := monoOfRow.holds Try.pinned (OpenSpec.ofChange monoOfWrong)

/-- 'ogeelaw07.MonoMuls': WHATEVER THE INPUT: true; the input reads as it did. -/
def monoMulsSpec : ChangeSpec := { name := "monoMuls", fn := fun _ => fun
  | [d1, d2] => { results := [.lit (.bool true)], args := [d1, d2] }
  | _ => none }
def monoMulsRow : OpenClaim := { program := "ytgljgalcbbjfgaa", sum := "21da056b038f7c0ee866be2579a832fa1e7c89bd3bbce46c2b6211c18a3399e6", func := "ogee/ogeelaw07.MonoMuls", spec := "monoMuls", unfollowed := true, recurses := true, apart := false }
def MonoMulsSaid : Prop := monoMulsRow.holds Try.pinned (OpenSpec.ofChange monoMulsSpec)

/-- ITS FALSE NEIGHBOUR: 'it returns false'. Refute it at one input. -/
def monoMulsWrong : ChangeSpec := { name := "monoMuls", fn := fun _ => fun
  | [d1, d2] => { results := [.lit (.bool false)], args := [d1, d2] }
  | _ => none }
def MonoMulsWrongFalsely : Prop := monoMulsRow.holds Try.pinned (OpenSpec.ofChange monoMulsWrong)

/-- 'ogeelaw07.MonoAll': WHATEVER THE INPUT: true; the input reads as it did. -/
def monoAllSpec : ChangeSpec := { name := "monoAll", fn := fun _ => fun
  | [d] => { results := [.lit (.bool true)], args := [d] }
  | _ => none }
def monoAllRow : OpenClaim := { program := "ytgljgalcbbjfgaa", sum := "21da056b038f7c0ee866be2579a832fa1e7c89bd3bbce46c2b6211c18a3399e6", func := "ogee/ogeelaw07.MonoAll", spec := "monoAll", unfollowed := true, recurses := true, apart := false }
def MonoAllSaid : Prop := monoAllRow.holds Try.pinned (OpenSpec.ofChange monoAllSpec)

/-- ITS FALSE NEIGHBOUR: 'it returns false'. Refute it at one input. -/
def monoAllWrong : ChangeSpec := { name := "monoAll", fn := fun _ => fun
  | [d] => { results := [.lit (.bool false)], args := [d] }
  | _ => none }
def MonoAllWrongFalsely : Prop := monoAllRow.holds Try.pinned (OpenSpec.ofChange monoAllWrong)

/-- 'ogeelaw07.MonoBack': WHATEVER THE INPUT: true; the input reads as it did. -/
def monoBackSpec : ChangeSpec := { name := "monoBack", fn := fun _ => fun
  | [d1, d2, d3] => { results := [.lit (.bool true)], args := [d1, d2, d3] }
  | _ => none }
def monoBackRow : OpenClaim := { program := "ytgljgalcbbjfgaa", sum := "21da056b038f7c0ee866be2579a832fa1e7c89bd3bbce46c2b6211c18a3399e6", func := "ogee/ogeelaw07.MonoBack", spec := "monoBack", unfollowed := true, recurses := true, apart := false }
def MonoBackSaid : Prop := monoBackRow.holds Try.pinned (OpenSpec.ofChange monoBackSpec)

/-- ITS FALSE NEIGHBOUR: 'it returns false'. Refute it at one input. -/
def monoBackWrong : ChangeSpec := { name := "monoBack", fn := fun _ => fun
  | [d1, d2, d3] => { results := [.lit (.bool false)], args := [d1, d2, d3] }
  | _ => none }
def MonoBackWrongFalsely : Prop := monoBackRow.holds Try.pinned (OpenSpec.ofChange monoBackWrong)

/-- 'ogeelaw07.MonoEach': WHATEVER THE INPUT: true; the input reads as it did. -/
def monoEachSpec : ChangeSpec := { name := "monoEach", fn := fun _ => fun
  | [d1, d2] => { results := [.lit (.bool true)], args := [d1, d2] }
  | _ => none }
def monoEachRow : OpenClaim := { program := "ytgljgalcbbjfgaa", sum := "21da056b038f7c0ee866be2579a832fa1e7c89bd3bbce46c2b6211c18a3399e6", func := "ogee/ogeelaw07.MonoEach", spec := "monoEach", unfollowed := true, recurses := true, apart := false }
def MonoEachSaid : Prop := monoEachRow.holds Try.pinned (OpenSpec.ofChange monoEachSpec)

/-- ITS FALSE NEIGHBOUR: 'it returns false'. Refute it at one input. -/
def monoEachWrong : ChangeSpec := { name := "monoEach", fn := fun _ => fun
  | [d1, d2] => { results := [.lit (.bool false)], args := [d1, d2] }
  | _ => none }
def MonoEachWrongFalsely : Prop := monoEachRow.holds Try.pinned (OpenSpec.ofChange monoEachWrong)

/- THE SECOND FORM. 'bulk': how many values and letters a reading holds, each counted each time it is reached (what is shared counts as often as it is met; a slice's spare places count too). A statement '..UptoSaid' is the law's where the arguments, and the package variables that the reading takes, are together of bulk at most 1048576: NARROWER than '..Said'. Prove '..Said' where nothing that the law and all that it calls make is longer than what came in: it says more and counts as full. Else prove '..UptoSaid'. A law counts once. -/
mutual
def uptoBulk {H : Type} : DataW H → Nat
  | .lit (.string bytes) => bytes.length + 1
  | .lit _ => 1
  | .nil => 1
  | .ptr d => uptoBulk d + 1
  | .slice elems spare => uptoBulkAll elems + uptoBulkAll spare + 1
  | .agg parts => uptoBulkAll parts + 1
  | .iface _ d => uptoBulk d + 1
  | .map entries => uptoBulkEntries entries + 1
  | .held _ => 1
def uptoBulkAll {H : Type} : List (DataW H) → Nat
  | [] => 0
  | d :: r => uptoBulk d + uptoBulkAll r
def uptoBulkEntries {H : Type} : List (Lit × DataW H) → Nat
  | [] => 0
  | x :: r => uptoBulkEntry x + uptoBulkEntries r
def uptoBulkEntry {H : Type} : Lit × DataW H → Nat
  | (.string bytes, d) => bytes.length + uptoBulk d + 1
  | (_, d) => uptoBulk d + 1
 end
def uptoSmall : (H : Type) → List (DataW H) → Bool := fun _ ds => decide (uptoBulkAll ds ≤ 1048576)
def OpenSpec.upto (s : _root_.Go.ChangeSpec) : _root_.Go.OpenSpec := { _root_.Go.OpenSpec.ofChange s with cond := some uptoSmall }

/-- 'ogeelaw07.MonoOf', WHERE WHAT IT READS IS OF BULK AT MOST 1048576: true; the input reads as it did. -/
def monoOfUptoRow : OpenClaim := { program := "ytgljgalcbbjfgaa", sum := "21da056b038f7c0ee866be2579a832fa1e7c89bd3bbce46c2b6211c18a3399e6", func := "ogee/ogeelaw07.MonoOf", spec := "monoOf", unfollowed := true, recurses := true, apart := false, narrowed := true }
def MonoOfUptoSaid : Prop := monoOfUptoRow.holds Try.pinned (OpenSpec.upto monoOfSpec)

/-- 'ogeelaw07.MonoMuls', WHERE WHAT IT READS IS OF BULK AT MOST 1048576: true; the input reads as it did. -/
def monoMulsUptoRow : OpenClaim := { program := "ytgljgalcbbjfgaa", sum := "21da056b038f7c0ee866be2579a832fa1e7c89bd3bbce46c2b6211c18a3399e6", func := "ogee/ogeelaw07.MonoMuls", spec := "monoMuls", unfollowed := true, recurses := true, apart := false, narrowed := true }
def MonoMulsUptoSaid : Prop := monoMulsUptoRow.holds Try.pinned (OpenSpec.upto monoMulsSpec)

/-- 'ogeelaw07.MonoAll', WHERE WHAT IT READS IS OF BULK AT MOST 1048576: true; the input reads as it did. -/
def monoAllUptoRow : OpenClaim := { program := "ytgljgalcbbjfgaa", sum := "21da056b038f7c0ee866be2579a832fa1e7c89bd3bbce46c2b6211c18a3399e6", func := "ogee/ogeelaw07.MonoAll", spec := "monoAll", unfollowed := true, recurses := true, apart := false, narrowed := true }
def MonoAllUptoSaid : Prop := monoAllUptoRow.holds Try.pinned (OpenSpec.upto monoAllSpec)

/-- 'ogeelaw07.MonoBack', WHERE WHAT IT READS IS OF BULK AT MOST 1048576: true; the input reads as it did. -/
def monoBackUptoRow : OpenClaim := { program := "ytgljgalcbbjfgaa", sum := "21da056b038f7c0ee866be2579a832fa1e7c89bd3bbce46c2b6211c18a3399e6", func := "ogee/ogeelaw07.MonoBack", spec := "monoBack", unfollowed := true, recurses := true, apart := false, narrowed := true }
def MonoBackUptoSaid : Prop := monoBackUptoRow.holds Try.pinned (OpenSpec.upto monoBackSpec)

/-- 'ogeelaw07.MonoEach', WHERE WHAT IT READS IS OF BULK AT MOST 1048576: true; the input reads as it did. -/
def monoEachUptoRow : OpenClaim := { program := "ytgljgalcbbjfgaa", sum := "21da056b038f7c0ee866be2579a832fa1e7c89bd3bbce46c2b6211c18a3399e6", func := "ogee/ogeelaw07.MonoEach", spec := "monoEach", unfollowed := true, recurses := true, apart := false, narrowed := true }
def MonoEachUptoSaid : Prop := monoEachUptoRow.holds Try.pinned (OpenSpec.upto monoEachSpec)

end Rows
end Go.Proofs.Ytgljgalcbbjfgaa
