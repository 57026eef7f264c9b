/-
  No cell of these rows narrows 'for every input' (looked for: loops, veiled, ifaces, maps, wideKeys, modest, calm, conditions, laid).
  DERIVED. THE GIVEN ROWS OF THIS SEAT. 6 by the template 'for every input the law returns true; each argument reads behind the call as it read before'; 0 by the template 'total and deterministic' (their statements: YtoekbmgcfinfmaaTotals.lean).
  GIVEN WITH THE SEED: the statements are not yours to turn. If you find one false, say at which input.
  Laid BY PROGRAM, IN A SANDBOX (cutbox-rows.mjs): the forced cells as the released guide's own fill.sh prints them over the translation 8cda77081885a059… (all of the seat's roots in one cut). By AI agents, Wed Nov 11 2026. No macro, syntax, notation, axiom, sorry.
-/
import Derived.Test.YtoekbmgcfinfmaaChecked
import GoSem.Claim
import GoSem.ClaimJoined
import GoSem.ClaimMapViews
import Derived.JoinedTies
import Derived.KernelRfl
namespace Go.Proofs.Ytoekbmgcfinfmaa
/- THE CELL 'sum', in the pinned program and in every row, IS THE sha256 OF THE DUMP (.gsa) THAT YtoekbmgcfinfmaaProg.lean LOADS. Nothing in Lean hashes anything: it is a label: what it is worth is what the hold of that sum in a sandbox is worth. -/
noncomputable def Try.pinned : Pinned := { name := "ytoekbmgcfinfmaa", sum := "8cda77081885a05914aaa39afeb91453665ebb418ec7dcde11560673acfffb50", checked := Try.checked }
namespace Rows
def none {H : Type} : Left H := { results := [], args := [] }

/-- 'garmentlaw29.ShadeDistances': WHATEVER THE INPUT: true; the input reads as it did. -/
def shadeDistancesSpec : ChangeSpec := { name := "shadeDistances", fn := fun _ => fun
  | [d1, d2, d3, d4] => { results := [.lit (.bool true)], args := [d1, d2, d3, d4] }
  | _ => none }
def shadeDistancesRow : OpenClaim := { program := "ytoekbmgcfinfmaa", sum := "8cda77081885a05914aaa39afeb91453665ebb418ec7dcde11560673acfffb50", func := "garment/garmentlaw29.ShadeDistances", spec := "shadeDistances", recurses := true, apart := false }
def ShadeDistancesSaid : Prop := shadeDistancesRow.holds Try.pinned (OpenSpec.ofChange shadeDistancesSpec)

/-- ITS FALSE NEIGHBOUR: 'it returns false'. Refute it at one input. -/
def shadeDistancesWrong : ChangeSpec := { name := "shadeDistances", fn := fun _ => fun
  | [d1, d2, d3, d4] => { results := [.lit (.bool false)], args := [d1, d2, d3, d4] }
  | _ => none }
def ShadeDistancesWrongFalsely : Prop := shadeDistancesRow.holds Try.pinned (OpenSpec.ofChange shadeDistancesWrong)

/-- 'garmentlaw29.ShadeLots': WHATEVER THE INPUT: true; the input reads as it did. -/
def shadeLotsSpec : ChangeSpec := { name := "shadeLots", fn := fun _ => fun
  | [d1, d2] => { results := [.lit (.bool true)], args := [d1, d2] }
  | _ => none }
def shadeLotsRow : OpenClaim := { program := "ytoekbmgcfinfmaa", sum := "8cda77081885a05914aaa39afeb91453665ebb418ec7dcde11560673acfffb50", func := "garment/garmentlaw29.ShadeLots", spec := "shadeLots", recurses := true, apart := false }
def ShadeLotsSaid : Prop := shadeLotsRow.holds Try.pinned (OpenSpec.ofChange shadeLotsSpec)

/-- ITS FALSE NEIGHBOUR: 'it returns false'. Refute it at one input. -/
def shadeLotsWrong : ChangeSpec := { name := "shadeLots", fn := fun _ => fun
  | [d1, d2] => { results := [.lit (.bool false)], args := [d1, d2] }
  | _ => none }
def ShadeLotsWrongFalsely : Prop := shadeLotsRow.holds Try.pinned (OpenSpec.ofChange shadeLotsWrong)

/-- 'garmentlaw29.ShadeParts': WHATEVER THE INPUT: true; the input reads as it did. -/
def shadePartsSpec : ChangeSpec := { name := "shadeParts", fn := fun _ => fun
  | [d1, d2] => { results := [.lit (.bool true)], args := [d1, d2] }
  | _ => none }
def shadePartsRow : OpenClaim := { program := "ytoekbmgcfinfmaa", sum := "8cda77081885a05914aaa39afeb91453665ebb418ec7dcde11560673acfffb50", func := "garment/garmentlaw29.ShadeParts", spec := "shadeParts", recurses := true, apart := false }
def ShadePartsSaid : Prop := shadePartsRow.holds Try.pinned (OpenSpec.ofChange shadePartsSpec)

/-- ITS FALSE NEIGHBOUR: 'it returns false'. Refute it at one input. -/
def shadePartsWrong : ChangeSpec := { name := "shadeParts", fn := fun _ => fun
  | [d1, d2] => { results := [.lit (.bool false)], args := [d1, d2] }
  | _ => none }
def ShadePartsWrongFalsely : Prop := shadePartsRow.holds Try.pinned (OpenSpec.ofChange shadePartsWrong)

/-- 'garmentlaw29.ShadeMetric': WHATEVER THE INPUT: true; the input reads as it did. -/
def shadeMetricSpec : ChangeSpec := { name := "shadeMetric", fn := fun _ => fun
  | [d1, d2, d3, d4] => { results := [.lit (.bool true)], args := [d1, d2, d3, d4] }
  | _ => none }
def shadeMetricRow : OpenClaim := { program := "ytoekbmgcfinfmaa", sum := "8cda77081885a05914aaa39afeb91453665ebb418ec7dcde11560673acfffb50", func := "garment/garmentlaw29.ShadeMetric", spec := "shadeMetric", recurses := true, apart := false }
def ShadeMetricSaid : Prop := shadeMetricRow.holds Try.pinned (OpenSpec.ofChange shadeMetricSpec)

/-- ITS FALSE NEIGHBOUR: 'it returns false'. Refute it at one input. -/
def shadeMetricWrong : ChangeSpec := { name := "shadeMetric", fn := fun _ => fun
  | [d1, d2, d3, d4] => { results := [.lit (.bool false)], args := [d1, d2, d3, d4] }
  | _ => none }
def ShadeMetricWrongFalsely : Prop := shadeMetricRow.holds Try.pinned (OpenSpec.ofChange shadeMetricWrong)

/-- 'garmentlaw29.ShadeWider': WHATEVER THE INPUT: true; the input reads as it did. -/
def shadeWiderSpec : ChangeSpec := { name := "shadeWider", fn := fun _ => fun
  | [d1, d2, d3] => { results := [.lit (.bool true)], args := [d1, d2, d3] }
  | _ => none }
def shadeWiderRow : OpenClaim := { program := "ytoekbmgcfinfmaa", sum := "8cda77081885a05914aaa39afeb91453665ebb418ec7dcde11560673acfffb50", func := "garment/garmentlaw29.ShadeWider", spec := "shadeWider", recurses := true, apart := false }
def ShadeWiderSaid : Prop := shadeWiderRow.holds Try.pinned (OpenSpec.ofChange shadeWiderSpec)

/-- ITS FALSE NEIGHBOUR: 'it returns false'. Refute it at one input. -/
def shadeWiderWrong : ChangeSpec := { name := "shadeWider", fn := fun _ => fun
  | [d1, d2, d3] => { results := [.lit (.bool false)], args := [d1, d2, d3] }
  | _ => none }
def ShadeWiderWrongFalsely : Prop := shadeWiderRow.holds Try.pinned (OpenSpec.ofChange shadeWiderWrong)

/-- 'garmentlaw29.ShadeWorst': WHATEVER THE INPUT: true; the input reads as it did. -/
def shadeWorstSpec : ChangeSpec := { name := "shadeWorst", fn := fun _ => fun
  | [d1, d2] => { results := [.lit (.bool true)], args := [d1, d2] }
  | _ => none }
def shadeWorstRow : OpenClaim := { program := "ytoekbmgcfinfmaa", sum := "8cda77081885a05914aaa39afeb91453665ebb418ec7dcde11560673acfffb50", func := "garment/garmentlaw29.ShadeWorst", spec := "shadeWorst", recurses := true, apart := false }
def ShadeWorstSaid : Prop := shadeWorstRow.holds Try.pinned (OpenSpec.ofChange shadeWorstSpec)

/-- ITS FALSE NEIGHBOUR: 'it returns false'. Refute it at one input. -/
def shadeWorstWrong : ChangeSpec := { name := "shadeWorst", fn := fun _ => fun
  | [d1, d2] => { results := [.lit (.bool false)], args := [d1, d2] }
  | _ => none }
def ShadeWorstWrongFalsely : Prop := shadeWorstRow.holds Try.pinned (OpenSpec.ofChange shadeWorstWrong)

/- THE SECOND FORM. 'bulk': how many values and letters a reading holds, each counted each time it is reached (what is shared counts as often as it is met; a slice's spare places count too). A statement '..UptoSaid' is the law's where the arguments, and the package variables that the reading takes, are together of bulk at most 1048576: NARROWER than '..Said'. Prove '..Said' where nothing that the law and all that it calls make is longer than what came in: it says more and counts as full. Else prove '..UptoSaid'. A law counts once. -/
mutual
def uptoBulk {H : Type} : DataW H → Nat
  | .lit (.string bytes) => bytes.length + 1
  | .lit _ => 1
  | .nil => 1
  | .ptr d => uptoBulk d + 1
  | .slice elems spare => uptoBulkAll elems + uptoBulkAll spare + 1
  | .agg parts => uptoBulkAll parts + 1
  | .iface _ d => uptoBulk d + 1
  | .map entries => uptoBulkEntries entries + 1
  | .held _ => 1
def uptoBulkAll {H : Type} : List (DataW H) → Nat
  | [] => 0
  | d :: r => uptoBulk d + uptoBulkAll r
def uptoBulkEntries {H : Type} : List (Lit × DataW H) → Nat
  | [] => 0
  | x :: r => uptoBulkEntry x + uptoBulkEntries r
def uptoBulkEntry {H : Type} : Lit × DataW H → Nat
  | (.string bytes, d) => bytes.length + uptoBulk d + 1
  | (_, d) => uptoBulk d + 1
 end
def uptoSmall : (H : Type) → List (DataW H) → Bool := fun _ ds => decide (uptoBulkAll ds ≤ 1048576)
def OpenSpec.upto (s : _root_.Go.ChangeSpec) : _root_.Go.OpenSpec := { _root_.Go.OpenSpec.ofChange s with cond := some uptoSmall }

/-- 'garmentlaw29.ShadeDistances', WHERE WHAT IT READS IS OF BULK AT MOST 1048576: true; the input reads as it did. -/
def shadeDistancesUptoRow : OpenClaim := { program := "ytoekbmgcfinfmaa", sum := "8cda77081885a05914aaa39afeb91453665ebb418ec7dcde11560673acfffb50", func := "garment/garmentlaw29.ShadeDistances", spec := "shadeDistances", recurses := true, apart := false, narrowed := true }
def ShadeDistancesUptoSaid : Prop := shadeDistancesUptoRow.holds Try.pinned (OpenSpec.upto shadeDistancesSpec)

/-- 'garmentlaw29.ShadeLots', WHERE WHAT IT READS IS OF BULK AT MOST 1048576: true; the input reads as it did. -/
def shadeLotsUptoRow : OpenClaim := { program := "ytoekbmgcfinfmaa", sum := "8cda77081885a05914aaa39afeb91453665ebb418ec7dcde11560673acfffb50", func := "garment/garmentlaw29.ShadeLots", spec := "shadeLots", recurses := true, apart := false, narrowed := true }
def ShadeLotsUptoSaid : Prop := shadeLotsUptoRow.holds Try.pinned (OpenSpec.upto shadeLotsSpec)

/-- 'garmentlaw29.ShadeParts', WHERE WHAT IT READS IS OF BULK AT MOST 1048576: true; the input reads as it did. -/
def shadePartsUptoRow : OpenClaim := { program := "ytoekbmgcfinfmaa", sum := "8cda77081885a05914aaa39afeb91453665ebb418ec7dcde11560673acfffb50", func := "garment/garmentlaw29.ShadeParts", spec := "shadeParts", recurses := true, apart := false, narrowed := true }
def ShadePartsUptoSaid : Prop := shadePartsUptoRow.holds Try.pinned (OpenSpec.upto shadePartsSpec)

/-- 'garmentlaw29.ShadeMetric', WHERE WHAT IT READS IS OF BULK AT MOST 1048576: true; the input reads as it did. -/
def shadeMetricUptoRow : OpenClaim := { program := "ytoekbmgcfinfmaa", sum := "8cda77081885a05914aaa39afeb91453665ebb418ec7dcde11560673acfffb50", func := "garment/garmentlaw29.ShadeMetric", spec := "shadeMetric", recurses := true, apart := false, narrowed := true }
def ShadeMetricUptoSaid : Prop := shadeMetricUptoRow.holds Try.pinned (OpenSpec.upto shadeMetricSpec)

/-- 'garmentlaw29.ShadeWider', WHERE WHAT IT READS IS OF BULK AT MOST 1048576: true; the input reads as it did. -/
def shadeWiderUptoRow : OpenClaim := { program := "ytoekbmgcfinfmaa", sum := "8cda77081885a05914aaa39afeb91453665ebb418ec7dcde11560673acfffb50", func := "garment/garmentlaw29.ShadeWider", spec := "shadeWider", recurses := true, apart := false, narrowed := true }
def ShadeWiderUptoSaid : Prop := shadeWiderUptoRow.holds Try.pinned (OpenSpec.upto shadeWiderSpec)

/-- 'garmentlaw29.ShadeWorst', WHERE WHAT IT READS IS OF BULK AT MOST 1048576: true; the input reads as it did. -/
def shadeWorstUptoRow : OpenClaim := { program := "ytoekbmgcfinfmaa", sum := "8cda77081885a05914aaa39afeb91453665ebb418ec7dcde11560673acfffb50", func := "garment/garmentlaw29.ShadeWorst", spec := "shadeWorst", recurses := true, apart := false, narrowed := true }
def ShadeWorstUptoSaid : Prop := shadeWorstUptoRow.holds Try.pinned (OpenSpec.upto shadeWorstSpec)

end Rows
end Go.Proofs.Ytoekbmgcfinfmaa
