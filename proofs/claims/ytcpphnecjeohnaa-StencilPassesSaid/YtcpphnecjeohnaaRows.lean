/-
  No cell of these rows narrows 'for every input' (looked for: loops, veiled, ifaces, maps, wideKeys, modest, calm, conditions, laid).
  DERIVED. THE GIVEN ROWS OF THIS SEAT. 12 by the template 'for every input the law returns true; each argument reads behind the call as it read before'; 0 by the template 'total and deterministic' (their statements: YtcpphnecjeohnaaTotals.lean).
  GIVEN WITH THE SEED: the statements are not yours to turn. If you find one false, say at which input.
  Laid BY PROGRAM, IN A SANDBOX (cutbox-rows.mjs): the forced cells as the released guide's own fill.sh prints them over the translation 18699373a0a9e7d4… (all of the seat's roots in one cut). By AI agents, Wed Nov 11 2026. No macro, syntax, notation, axiom, sorry.
-/
import Derived.Test.YtcpphnecjeohnaaChecked
import GoSem.Claim
import GoSem.ClaimJoined
import GoSem.ClaimMapViews
import Derived.JoinedTies
import Derived.KernelRfl
namespace Go.Proofs.Ytcpphnecjeohnaa
/- THE CELL 'sum', in the pinned program and in every row, IS THE sha256 OF THE DUMP (.gsa) THAT YtcpphnecjeohnaaProg.lean LOADS. Nothing in Lean hashes anything: it is a label: what it is worth is what the hold of that sum in a sandbox is worth. -/
noncomputable def Try.pinned : Pinned := { name := "ytcpphnecjeohnaa", sum := "18699373a0a9e7d430778d1c5cc454acb6f8bf3a0682a3951b747103b57041ce", checked := Try.checked }
namespace Rows
def none {H : Type} : Left H := { results := [], args := [] }

/-- 'frustumlaw38.DepthFormats': WHATEVER THE INPUT: true; the input reads as it did. -/
def depthFormatsSpec : ChangeSpec := { name := "depthFormats", fn := fun _ => fun
  | [d1, d2, d3] => { results := [.lit (.bool true)], args := [d1, d2, d3] }
  | _ => none }
def depthFormatsRow : OpenClaim := { program := "ytcpphnecjeohnaa", sum := "18699373a0a9e7d430778d1c5cc454acb6f8bf3a0682a3951b747103b57041ce", func := "frustum/frustumlaw38.DepthFormats", spec := "depthFormats", recurses := true, apart := false }
def DepthFormatsSaid : Prop := depthFormatsRow.holds Try.pinned (OpenSpec.ofChange depthFormatsSpec)

/-- ITS FALSE NEIGHBOUR: 'it returns false'. Refute it at one input. -/
def depthFormatsWrong : ChangeSpec := { name := "depthFormats", fn := fun _ => fun
  | [d1, d2, d3] => { results := [.lit (.bool false)], args := [d1, d2, d3] }
  | _ => none }
def DepthFormatsWrongFalsely : Prop := depthFormatsRow.holds Try.pinned (OpenSpec.ofChange depthFormatsWrong)

/-- 'frustumlaw38.DepthTests': WHATEVER THE INPUT: true; the input reads as it did. -/
def depthTestsSpec : ChangeSpec := { name := "depthTests", fn := fun _ => fun
  | [d1, d2, d3, d4] => { results := [.lit (.bool true)], args := [d1, d2, d3, d4] }
  | _ => none }
def depthTestsRow : OpenClaim := { program := "ytcpphnecjeohnaa", sum := "18699373a0a9e7d430778d1c5cc454acb6f8bf3a0682a3951b747103b57041ce", func := "frustum/frustumlaw38.DepthTests", spec := "depthTests", recurses := true, apart := false }
def DepthTestsSaid : Prop := depthTestsRow.holds Try.pinned (OpenSpec.ofChange depthTestsSpec)

/-- ITS FALSE NEIGHBOUR: 'it returns false'. Refute it at one input. -/
def depthTestsWrong : ChangeSpec := { name := "depthTests", fn := fun _ => fun
  | [d1, d2, d3, d4] => { results := [.lit (.bool false)], args := [d1, d2, d3, d4] }
  | _ => none }
def DepthTestsWrongFalsely : Prop := depthTestsRow.holds Try.pinned (OpenSpec.ofChange depthTestsWrong)

/-- 'frustumlaw38.DepthCompare': WHATEVER THE INPUT: true; the input reads as it did. -/
def depthCompareSpec : ChangeSpec := { name := "depthCompare", fn := fun _ => fun
  | [d1, d2] => { results := [.lit (.bool true)], args := [d1, d2] }
  | _ => none }
def depthCompareRow : OpenClaim := { program := "ytcpphnecjeohnaa", sum := "18699373a0a9e7d430778d1c5cc454acb6f8bf3a0682a3951b747103b57041ce", func := "frustum/frustumlaw38.DepthCompare", spec := "depthCompare", recurses := true, apart := false }
def DepthCompareSaid : Prop := depthCompareRow.holds Try.pinned (OpenSpec.ofChange depthCompareSpec)

/-- ITS FALSE NEIGHBOUR: 'it returns false'. Refute it at one input. -/
def depthCompareWrong : ChangeSpec := { name := "depthCompare", fn := fun _ => fun
  | [d1, d2] => { results := [.lit (.bool false)], args := [d1, d2] }
  | _ => none }
def DepthCompareWrongFalsely : Prop := depthCompareRow.holds Try.pinned (OpenSpec.ofChange depthCompareWrong)

/-- 'frustumlaw38.DepthMonotonic': WHATEVER THE INPUT: true; the input reads as it did. -/
def depthMonotonicSpec : ChangeSpec := { name := "depthMonotonic", fn := fun _ => fun
  | [d1, d2, d3] => { results := [.lit (.bool true)], args := [d1, d2, d3] }
  | _ => none }
def depthMonotonicRow : OpenClaim := { program := "ytcpphnecjeohnaa", sum := "18699373a0a9e7d430778d1c5cc454acb6f8bf3a0682a3951b747103b57041ce", func := "frustum/frustumlaw38.DepthMonotonic", spec := "depthMonotonic", recurses := true, apart := false }
def DepthMonotonicSaid : Prop := depthMonotonicRow.holds Try.pinned (OpenSpec.ofChange depthMonotonicSpec)

/-- ITS FALSE NEIGHBOUR: 'it returns false'. Refute it at one input. -/
def depthMonotonicWrong : ChangeSpec := { name := "depthMonotonic", fn := fun _ => fun
  | [d1, d2, d3] => { results := [.lit (.bool false)], args := [d1, d2, d3] }
  | _ => none }
def DepthMonotonicWrongFalsely : Prop := depthMonotonicRow.holds Try.pinned (OpenSpec.ofChange depthMonotonicWrong)

/-- 'frustumlaw38.DepthKeeps': WHATEVER THE INPUT: true; the input reads as it did. -/
def depthKeepsSpec : ChangeSpec := { name := "depthKeeps", fn := fun _ => fun
  | [d1, d2, d3, d4] => { results := [.lit (.bool true)], args := [d1, d2, d3, d4] }
  | _ => none }
def depthKeepsRow : OpenClaim := { program := "ytcpphnecjeohnaa", sum := "18699373a0a9e7d430778d1c5cc454acb6f8bf3a0682a3951b747103b57041ce", func := "frustum/frustumlaw38.DepthKeeps", spec := "depthKeeps", recurses := true, apart := false }
def DepthKeepsSaid : Prop := depthKeepsRow.holds Try.pinned (OpenSpec.ofChange depthKeepsSpec)

/-- ITS FALSE NEIGHBOUR: 'it returns false'. Refute it at one input. -/
def depthKeepsWrong : ChangeSpec := { name := "depthKeeps", fn := fun _ => fun
  | [d1, d2, d3, d4] => { results := [.lit (.bool false)], args := [d1, d2, d3, d4] }
  | _ => none }
def DepthKeepsWrongFalsely : Prop := depthKeepsRow.holds Try.pinned (OpenSpec.ofChange depthKeepsWrong)

/-- 'frustumlaw38.DepthStates': WHATEVER THE INPUT: true; the input reads as it did. -/
def depthStatesSpec : ChangeSpec := { name := "depthStates", fn := fun _ => fun
  | [d1, d2, d3] => { results := [.lit (.bool true)], args := [d1, d2, d3] }
  | _ => none }
def depthStatesRow : OpenClaim := { program := "ytcpphnecjeohnaa", sum := "18699373a0a9e7d430778d1c5cc454acb6f8bf3a0682a3951b747103b57041ce", func := "frustum/frustumlaw38.DepthStates", spec := "depthStates", recurses := true, apart := false }
def DepthStatesSaid : Prop := depthStatesRow.holds Try.pinned (OpenSpec.ofChange depthStatesSpec)

/-- ITS FALSE NEIGHBOUR: 'it returns false'. Refute it at one input. -/
def depthStatesWrong : ChangeSpec := { name := "depthStates", fn := fun _ => fun
  | [d1, d2, d3] => { results := [.lit (.bool false)], args := [d1, d2, d3] }
  | _ => none }
def DepthStatesWrongFalsely : Prop := depthStatesRow.holds Try.pinned (OpenSpec.ofChange depthStatesWrong)

/-- 'frustumlaw39.StencilApply': WHATEVER THE INPUT: true; the input reads as it did. -/
def stencilApplySpec : ChangeSpec := { name := "stencilApply", fn := fun _ => fun
  | [d1, d2, d3] => { results := [.lit (.bool true)], args := [d1, d2, d3] }
  | _ => none }
def stencilApplyRow : OpenClaim := { program := "ytcpphnecjeohnaa", sum := "18699373a0a9e7d430778d1c5cc454acb6f8bf3a0682a3951b747103b57041ce", func := "frustum/frustumlaw39.StencilApply", spec := "stencilApply", apart := false }
def StencilApplySaid : Prop := stencilApplyRow.holds Try.pinned (OpenSpec.ofChange stencilApplySpec)

/-- ITS FALSE NEIGHBOUR: 'it returns false'. Refute it at one input. -/
def stencilApplyWrong : ChangeSpec := { name := "stencilApply", fn := fun _ => fun
  | [d1, d2, d3] => { results := [.lit (.bool false)], args := [d1, d2, d3] }
  | _ => none }
def StencilApplyWrongFalsely : Prop := stencilApplyRow.holds Try.pinned (OpenSpec.ofChange stencilApplyWrong)

/-- 'frustumlaw39.StencilInverse': WHATEVER THE INPUT: true; the input reads as it did. -/
def stencilInverseSpec : ChangeSpec := { name := "stencilInverse", fn := fun _ => fun
  | [d1, d2, d3] => { results := [.lit (.bool true)], args := [d1, d2, d3] }
  | _ => none }
def stencilInverseRow : OpenClaim := { program := "ytcpphnecjeohnaa", sum := "18699373a0a9e7d430778d1c5cc454acb6f8bf3a0682a3951b747103b57041ce", func := "frustum/frustumlaw39.StencilInverse", spec := "stencilInverse", apart := false }
def StencilInverseSaid : Prop := stencilInverseRow.holds Try.pinned (OpenSpec.ofChange stencilInverseSpec)

/-- ITS FALSE NEIGHBOUR: 'it returns false'. Refute it at one input. -/
def stencilInverseWrong : ChangeSpec := { name := "stencilInverse", fn := fun _ => fun
  | [d1, d2, d3] => { results := [.lit (.bool false)], args := [d1, d2, d3] }
  | _ => none }
def StencilInverseWrongFalsely : Prop := stencilInverseRow.holds Try.pinned (OpenSpec.ofChange stencilInverseWrong)

/-- 'frustumlaw39.StencilValid': WHATEVER THE INPUT: true; the input reads as it did. -/
def stencilValidSpec : ChangeSpec := { name := "stencilValid", fn := fun _ => fun
  | [d1, d2] => { results := [.lit (.bool true)], args := [d1, d2] }
  | _ => none }
def stencilValidRow : OpenClaim := { program := "ytcpphnecjeohnaa", sum := "18699373a0a9e7d430778d1c5cc454acb6f8bf3a0682a3951b747103b57041ce", func := "frustum/frustumlaw39.StencilValid", spec := "stencilValid", apart := false }
def StencilValidSaid : Prop := stencilValidRow.holds Try.pinned (OpenSpec.ofChange stencilValidSpec)

/-- ITS FALSE NEIGHBOUR: 'it returns false'. Refute it at one input. -/
def stencilValidWrong : ChangeSpec := { name := "stencilValid", fn := fun _ => fun
  | [d1, d2] => { results := [.lit (.bool false)], args := [d1, d2] }
  | _ => none }
def StencilValidWrongFalsely : Prop := stencilValidRow.holds Try.pinned (OpenSpec.ofChange stencilValidWrong)

/-- 'frustumlaw39.StencilMasks': WHATEVER THE INPUT: true; the input reads as it did. -/
def stencilMasksSpec : ChangeSpec := { name := "stencilMasks", fn := fun _ => fun
  | [d] => { results := [.lit (.bool true)], args := [d] }
  | _ => none }
def stencilMasksRow : OpenClaim := { program := "ytcpphnecjeohnaa", sum := "18699373a0a9e7d430778d1c5cc454acb6f8bf3a0682a3951b747103b57041ce", func := "frustum/frustumlaw39.StencilMasks", spec := "stencilMasks", apart := false }
def StencilMasksSaid : Prop := stencilMasksRow.holds Try.pinned (OpenSpec.ofChange stencilMasksSpec)

/-- ITS FALSE NEIGHBOUR: 'it returns false'. Refute it at one input. -/
def stencilMasksWrong : ChangeSpec := { name := "stencilMasks", fn := fun _ => fun
  | [d] => { results := [.lit (.bool false)], args := [d] }
  | _ => none }
def StencilMasksWrongFalsely : Prop := stencilMasksRow.holds Try.pinned (OpenSpec.ofChange stencilMasksWrong)

/-- 'frustumlaw39.StencilUpdate': WHATEVER THE INPUT: true; the input reads as it did. -/
def stencilUpdateSpec : ChangeSpec := { name := "stencilUpdate", fn := fun _ => fun
  | [d] => { results := [.lit (.bool true)], args := [d] }
  | _ => none }
def stencilUpdateRow : OpenClaim := { program := "ytcpphnecjeohnaa", sum := "18699373a0a9e7d430778d1c5cc454acb6f8bf3a0682a3951b747103b57041ce", func := "frustum/frustumlaw39.StencilUpdate", spec := "stencilUpdate", apart := false }
def StencilUpdateSaid : Prop := stencilUpdateRow.holds Try.pinned (OpenSpec.ofChange stencilUpdateSpec)

/-- ITS FALSE NEIGHBOUR: 'it returns false'. Refute it at one input. -/
def stencilUpdateWrong : ChangeSpec := { name := "stencilUpdate", fn := fun _ => fun
  | [d] => { results := [.lit (.bool false)], args := [d] }
  | _ => none }
def StencilUpdateWrongFalsely : Prop := stencilUpdateRow.holds Try.pinned (OpenSpec.ofChange stencilUpdateWrong)

/-- 'frustumlaw39.StencilPasses': WHATEVER THE INPUT: true; the input reads as it did. -/
def stencilPassesSpec : ChangeSpec := { name := "stencilPasses", fn := fun _ => fun
  | [d] => { results := [.lit (.bool true)], args := [d] }
  | _ => none }
def stencilPassesRow : OpenClaim := { program := "ytcpphnecjeohnaa", sum := "18699373a0a9e7d430778d1c5cc454acb6f8bf3a0682a3951b747103b57041ce", func := "frustum/frustumlaw39.StencilPasses", spec := "stencilPasses", apart := false }
def StencilPassesSaid : Prop := stencilPassesRow.holds Try.pinned (OpenSpec.ofChange stencilPassesSpec)

/-- ITS FALSE NEIGHBOUR: 'it returns false'. Refute it at one input. -/
def stencilPassesWrong : ChangeSpec := { name := "stencilPasses", fn := fun _ => fun
  | [d] => { results := [.lit (.bool false)], args := [d] }
  | _ => none }
def StencilPassesWrongFalsely : Prop := stencilPassesRow.holds Try.pinned (OpenSpec.ofChange stencilPassesWrong)

/- THE SECOND FORM. 'bulk': how many values and letters a reading holds, each counted each time it is reached (what is shared counts as often as it is met; a slice's spare places count too). A statement '..UptoSaid' is the law's where the arguments, and the package variables that the reading takes, are together of bulk at most 1048576: NARROWER than '..Said'. Prove '..Said' where nothing that the law and all that it calls make is longer than what came in: it says more and counts as full. Else prove '..UptoSaid'. A law counts once. -/
mutual
def uptoBulk {H : Type} : DataW H → Nat
  | .lit (.string bytes) => bytes.length + 1
  | .lit _ => 1
  | .nil => 1
  | .ptr d => uptoBulk d + 1
  | .slice elems spare => uptoBulkAll elems + uptoBulkAll spare + 1
  | .agg parts => uptoBulkAll parts + 1
  | .iface _ d => uptoBulk d + 1
  | .map entries => uptoBulkEntries entries + 1
  | .held _ => 1
def uptoBulkAll {H : Type} : List (DataW H) → Nat
  | [] => 0
  | d :: r => uptoBulk d + uptoBulkAll r
def uptoBulkEntries {H : Type} : List (Lit × DataW H) → Nat
  | [] => 0
  | x :: r => uptoBulkEntry x + uptoBulkEntries r
def uptoBulkEntry {H : Type} : Lit × DataW H → Nat
  | (.string bytes, d) => bytes.length + uptoBulk d + 1
  | (_, d) => uptoBulk d + 1
 end
def uptoSmall : (H : Type) → List (DataW H) → Bool := fun _ ds => decide (uptoBulkAll ds ≤ 1048576)
def OpenSpec.upto (s : _root_.Go.ChangeSpec) : _root_.Go.OpenSpec := { _root_.Go.OpenSpec.ofChange s with cond := some uptoSmall }

/-- 'frustumlaw38.DepthFormats', WHERE WHAT IT READS IS OF BULK AT MOST 1048576: true; the input reads as it did. -/
def depthFormatsUptoRow : OpenClaim := { program := "ytcpphnecjeohnaa", sum := "18699373a0a9e7d430778d1c5cc454acb6f8bf3a0682a3951b747103b57041ce", func := "frustum/frustumlaw38.DepthFormats", spec := "depthFormats", recurses := true, apart := false, narrowed := true }
def DepthFormatsUptoSaid : Prop := depthFormatsUptoRow.holds Try.pinned (OpenSpec.upto depthFormatsSpec)

/-- 'frustumlaw38.DepthTests', WHERE WHAT IT READS IS OF BULK AT MOST 1048576: true; the input reads as it did. -/
def depthTestsUptoRow : OpenClaim := { program := "ytcpphnecjeohnaa", sum := "18699373a0a9e7d430778d1c5cc454acb6f8bf3a0682a3951b747103b57041ce", func := "frustum/frustumlaw38.DepthTests", spec := "depthTests", recurses := true, apart := false, narrowed := true }
def DepthTestsUptoSaid : Prop := depthTestsUptoRow.holds Try.pinned (OpenSpec.upto depthTestsSpec)

/-- 'frustumlaw38.DepthCompare', WHERE WHAT IT READS IS OF BULK AT MOST 1048576: true; the input reads as it did. -/
def depthCompareUptoRow : OpenClaim := { program := "ytcpphnecjeohnaa", sum := "18699373a0a9e7d430778d1c5cc454acb6f8bf3a0682a3951b747103b57041ce", func := "frustum/frustumlaw38.DepthCompare", spec := "depthCompare", recurses := true, apart := false, narrowed := true }
def DepthCompareUptoSaid : Prop := depthCompareUptoRow.holds Try.pinned (OpenSpec.upto depthCompareSpec)

/-- 'frustumlaw38.DepthMonotonic', WHERE WHAT IT READS IS OF BULK AT MOST 1048576: true; the input reads as it did. -/
def depthMonotonicUptoRow : OpenClaim := { program := "ytcpphnecjeohnaa", sum := "18699373a0a9e7d430778d1c5cc454acb6f8bf3a0682a3951b747103b57041ce", func := "frustum/frustumlaw38.DepthMonotonic", spec := "depthMonotonic", recurses := true, apart := false, narrowed := true }
def DepthMonotonicUptoSaid : Prop := depthMonotonicUptoRow.holds Try.pinned (OpenSpec.upto depthMonotonicSpec)

/-- 'frustumlaw38.DepthKeeps', WHERE WHAT IT READS IS OF BULK AT MOST 1048576: true; the input reads as it did. -/
def depthKeepsUptoRow : OpenClaim := { program := "ytcpphnecjeohnaa", sum := "18699373a0a9e7d430778d1c5cc454acb6f8bf3a0682a3951b747103b57041ce", func := "frustum/frustumlaw38.DepthKeeps", spec := "depthKeeps", recurses := true, apart := false, narrowed := true }
def DepthKeepsUptoSaid : Prop := depthKeepsUptoRow.holds Try.pinned (OpenSpec.upto depthKeepsSpec)

/-- 'frustumlaw38.DepthStates', WHERE WHAT IT READS IS OF BULK AT MOST 1048576: true; the input reads as it did. -/
def depthStatesUptoRow : OpenClaim := { program := "ytcpphnecjeohnaa", sum := "18699373a0a9e7d430778d1c5cc454acb6f8bf3a0682a3951b747103b57041ce", func := "frustum/frustumlaw38.DepthStates", spec := "depthStates", recurses := true, apart := false, narrowed := true }
def DepthStatesUptoSaid : Prop := depthStatesUptoRow.holds Try.pinned (OpenSpec.upto depthStatesSpec)

/-- 'frustumlaw39.StencilApply', WHERE WHAT IT READS IS OF BULK AT MOST 1048576: true; the input reads as it did. -/
def stencilApplyUptoRow : OpenClaim := { program := "ytcpphnecjeohnaa", sum := "18699373a0a9e7d430778d1c5cc454acb6f8bf3a0682a3951b747103b57041ce", func := "frustum/frustumlaw39.StencilApply", spec := "stencilApply", apart := false, narrowed := true }
def StencilApplyUptoSaid : Prop := stencilApplyUptoRow.holds Try.pinned (OpenSpec.upto stencilApplySpec)

/-- 'frustumlaw39.StencilInverse', WHERE WHAT IT READS IS OF BULK AT MOST 1048576: true; the input reads as it did. -/
def stencilInverseUptoRow : OpenClaim := { program := "ytcpphnecjeohnaa", sum := "18699373a0a9e7d430778d1c5cc454acb6f8bf3a0682a3951b747103b57041ce", func := "frustum/frustumlaw39.StencilInverse", spec := "stencilInverse", apart := false, narrowed := true }
def StencilInverseUptoSaid : Prop := stencilInverseUptoRow.holds Try.pinned (OpenSpec.upto stencilInverseSpec)

/-- 'frustumlaw39.StencilValid', WHERE WHAT IT READS IS OF BULK AT MOST 1048576: true; the input reads as it did. -/
def stencilValidUptoRow : OpenClaim := { program := "ytcpphnecjeohnaa", sum := "18699373a0a9e7d430778d1c5cc454acb6f8bf3a0682a3951b747103b57041ce", func := "frustum/frustumlaw39.StencilValid", spec := "stencilValid", apart := false, narrowed := true }
def StencilValidUptoSaid : Prop := stencilValidUptoRow.holds Try.pinned (OpenSpec.upto stencilValidSpec)

/-- 'frustumlaw39.StencilMasks', WHERE WHAT IT READS IS OF BULK AT MOST 1048576: true; the input reads as it did. -/
def stencilMasksUptoRow : OpenClaim := { program := "ytcpphnecjeohnaa", sum := "18699373a0a9e7d430778d1c5cc454acb6f8bf3a0682a3951b747103b57041ce", func := "frustum/frustumlaw39.StencilMasks", spec := "stencilMasks", apart := false, narrowed := true }
def StencilMasksUptoSaid : Prop := stencilMasksUptoRow.holds Try.pinned (OpenSpec.upto stencilMasksSpec)

/-- 'frustumlaw39.StencilUpdate', WHERE WHAT IT READS IS OF BULK AT MOST 1048576: true; the input reads as it did. -/
def stencilUpdateUptoRow : OpenClaim := { program := "ytcpphnecjeohnaa", sum := "18699373a0a9e7d430778d1c5cc454acb6f8bf3a0682a3951b747103b57041ce", func := "frustum/frustumlaw39.StencilUpdate", spec := "stencilUpdate", apart := false, narrowed := true }
def StencilUpdateUptoSaid : Prop := stencilUpdateUptoRow.holds Try.pinned (OpenSpec.upto stencilUpdateSpec)

/-- 'frustumlaw39.StencilPasses', WHERE WHAT IT READS IS OF BULK AT MOST 1048576: true; the input reads as it did. -/
def stencilPassesUptoRow : OpenClaim := { program := "ytcpphnecjeohnaa", sum := "18699373a0a9e7d430778d1c5cc454acb6f8bf3a0682a3951b747103b57041ce", func := "frustum/frustumlaw39.StencilPasses", spec := "stencilPasses", apart := false, narrowed := true }
def StencilPassesUptoSaid : Prop := stencilPassesUptoRow.holds Try.pinned (OpenSpec.upto stencilPassesSpec)

end Rows
end Go.Proofs.Ytcpphnecjeohnaa
