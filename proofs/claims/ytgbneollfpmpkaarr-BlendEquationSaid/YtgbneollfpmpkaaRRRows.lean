/-
  No cell of these rows narrows 'for every input' (looked for: loops, veiled, ifaces, maps, wideKeys, modest, calm, conditions, laid).
  DERIVED. THE GIVEN ROWS OF THIS SEAT. 4 by the template 'for every input the law returns true; each argument reads behind the call as it read before'; 0 by the template 'total and deterministic' (their statements: YtgbneollfpmpkaaRRTotals.lean).
  GIVEN WITH THE SEED: the statements are not yours to turn. If you find one false, say at which input.
  Laid BY PROGRAM, IN A SANDBOX (cutbox-rows.mjs): the forced cells as the released guide's own fill.sh prints them over the translation dfa85de5723d8780… (all of the seat's roots in one cut). By AI agents, Wed Nov 11 2026. No macro, syntax, notation, axiom, sorry.
-/
import Derived.Test.YtgbneollfpmpkaaRRChecked
import GoSem.Claim
import GoSem.ClaimJoined
import GoSem.ClaimMapViews
import Derived.JoinedTies
import Derived.KernelRfl
namespace Go.Proofs.YtgbneollfpmpkaaRR
/- THE CELL 'sum', in the pinned program and in every row, IS THE sha256 OF THE DUMP (.gsa) THAT YtgbneollfpmpkaaRRProg.lean LOADS. Nothing in Lean hashes anything: it is a label: what it is worth is what the hold of that sum in a sandbox is worth. -/
noncomputable def Try.pinned : Pinned := { name := "ytgbneollfpmpkaarr", sum := "dfa85de5723d8780877eb74d945269f831a3e36b526e1fa79ab317262f46b4b1", checked := Try.checked }
namespace Rows
def none {H : Type} : Left H := { results := [], args := [] }

/-- 'frustumlaw40.BlendEquation': WHATEVER THE INPUT: true; the input reads as it did. -/
def blendEquationSpec : ChangeSpec := { name := "blendEquation", fn := fun _ => fun
  | [d1, d2, d3] => { results := [.lit (.bool true)], args := [d1, d2, d3] }
  | _ => none }
def blendEquationRow : OpenClaim := { program := "ytgbneollfpmpkaarr", sum := "dfa85de5723d8780877eb74d945269f831a3e36b526e1fa79ab317262f46b4b1", func := "frustum/frustumlaw40.BlendEquation", spec := "blendEquation", recurses := true, apart := false }
def BlendEquationSaid : Prop := blendEquationRow.holds Try.pinned (OpenSpec.ofChange blendEquationSpec)

/-- ITS FALSE NEIGHBOUR: 'it returns false'. Refute it at one input. -/
def blendEquationWrong : ChangeSpec := { name := "blendEquation", fn := fun _ => fun
  | [d1, d2, d3] => { results := [.lit (.bool false)], args := [d1, d2, d3] }
  | _ => none }
def BlendEquationWrongFalsely : Prop := blendEquationRow.holds Try.pinned (OpenSpec.ofChange blendEquationWrong)

/-- 'frustumlaw40.BlendCombines': WHATEVER THE INPUT: true; the input reads as it did. -/
def blendCombinesSpec : ChangeSpec := { name := "blendCombines", fn := fun _ => fun
  | [d1, d2, d3] => { results := [.lit (.bool true)], args := [d1, d2, d3] }
  | _ => none }
def blendCombinesRow : OpenClaim := { program := "ytgbneollfpmpkaarr", sum := "dfa85de5723d8780877eb74d945269f831a3e36b526e1fa79ab317262f46b4b1", func := "frustum/frustumlaw40.BlendCombines", spec := "blendCombines", recurses := true, apart := false }
def BlendCombinesSaid : Prop := blendCombinesRow.holds Try.pinned (OpenSpec.ofChange blendCombinesSpec)

/-- ITS FALSE NEIGHBOUR: 'it returns false'. Refute it at one input. -/
def blendCombinesWrong : ChangeSpec := { name := "blendCombines", fn := fun _ => fun
  | [d1, d2, d3] => { results := [.lit (.bool false)], args := [d1, d2, d3] }
  | _ => none }
def BlendCombinesWrongFalsely : Prop := blendCombinesRow.holds Try.pinned (OpenSpec.ofChange blendCombinesWrong)

/-- 'frustumlaw40.BlendReplaces': WHATEVER THE INPUT: true; the input reads as it did. -/
def blendReplacesSpec : ChangeSpec := { name := "blendReplaces", fn := fun _ => fun
  | [d1, d2, d3] => { results := [.lit (.bool true)], args := [d1, d2, d3] }
  | _ => none }
def blendReplacesRow : OpenClaim := { program := "ytgbneollfpmpkaarr", sum := "dfa85de5723d8780877eb74d945269f831a3e36b526e1fa79ab317262f46b4b1", func := "frustum/frustumlaw40.BlendReplaces", spec := "blendReplaces", recurses := true, apart := false }
def BlendReplacesSaid : Prop := blendReplacesRow.holds Try.pinned (OpenSpec.ofChange blendReplacesSpec)

/-- ITS FALSE NEIGHBOUR: 'it returns false'. Refute it at one input. -/
def blendReplacesWrong : ChangeSpec := { name := "blendReplaces", fn := fun _ => fun
  | [d1, d2, d3] => { results := [.lit (.bool false)], args := [d1, d2, d3] }
  | _ => none }
def BlendReplacesWrongFalsely : Prop := blendReplacesRow.holds Try.pinned (OpenSpec.ofChange blendReplacesWrong)

/-- 'frustumlaw40.BlendOver': WHATEVER THE INPUT: true; the input reads as it did. -/
def blendOverSpec : ChangeSpec := { name := "blendOver", fn := fun _ => fun
  | [d1, d2] => { results := [.lit (.bool true)], args := [d1, d2] }
  | _ => none }
def blendOverRow : OpenClaim := { program := "ytgbneollfpmpkaarr", sum := "dfa85de5723d8780877eb74d945269f831a3e36b526e1fa79ab317262f46b4b1", func := "frustum/frustumlaw40.BlendOver", spec := "blendOver", recurses := true, apart := false }
def BlendOverSaid : Prop := blendOverRow.holds Try.pinned (OpenSpec.ofChange blendOverSpec)

/-- ITS FALSE NEIGHBOUR: 'it returns false'. Refute it at one input. -/
def blendOverWrong : ChangeSpec := { name := "blendOver", fn := fun _ => fun
  | [d1, d2] => { results := [.lit (.bool false)], args := [d1, d2] }
  | _ => none }
def BlendOverWrongFalsely : Prop := blendOverRow.holds Try.pinned (OpenSpec.ofChange blendOverWrong)

/- THE SECOND FORM. 'bulk': how many values and letters a reading holds, each counted each time it is reached (what is shared counts as often as it is met; a slice's spare places count too). A statement '..UptoSaid' is the law's where the arguments, and the package variables that the reading takes, are together of bulk at most 1048576: NARROWER than '..Said'. Prove '..Said' where nothing that the law and all that it calls make is longer than what came in: it says more and counts as full. Else prove '..UptoSaid'. A law counts once. -/
mutual
def uptoBulk {H : Type} : DataW H → Nat
  | .lit (.string bytes) => bytes.length + 1
  | .lit _ => 1
  | .nil => 1
  | .ptr d => uptoBulk d + 1
  | .slice elems spare => uptoBulkAll elems + uptoBulkAll spare + 1
  | .agg parts => uptoBulkAll parts + 1
  | .iface _ d => uptoBulk d + 1
  | .map entries => uptoBulkEntries entries + 1
  | .held _ => 1
def uptoBulkAll {H : Type} : List (DataW H) → Nat
  | [] => 0
  | d :: r => uptoBulk d + uptoBulkAll r
def uptoBulkEntries {H : Type} : List (Lit × DataW H) → Nat
  | [] => 0
  | x :: r => uptoBulkEntry x + uptoBulkEntries r
def uptoBulkEntry {H : Type} : Lit × DataW H → Nat
  | (.string bytes, d) => bytes.length + uptoBulk d + 1
  | (_, d) => uptoBulk d + 1
 end
def uptoSmall : (H : Type) → List (DataW H) → Bool := fun _ ds => decide (uptoBulkAll ds ≤ 1048576)
def OpenSpec.upto (s : _root_.Go.ChangeSpec) : _root_.Go.OpenSpec := { _root_.Go.OpenSpec.ofChange s with cond := some uptoSmall }

/-- 'frustumlaw40.BlendEquation', WHERE WHAT IT READS IS OF BULK AT MOST 1048576: true; the input reads as it did. -/
def blendEquationUptoRow : OpenClaim := { program := "ytgbneollfpmpkaarr", sum := "dfa85de5723d8780877eb74d945269f831a3e36b526e1fa79ab317262f46b4b1", func := "frustum/frustumlaw40.BlendEquation", spec := "blendEquation", recurses := true, apart := false, narrowed := true }
def BlendEquationUptoSaid : Prop := blendEquationUptoRow.holds Try.pinned (OpenSpec.upto blendEquationSpec)

/-- 'frustumlaw40.BlendCombines', WHERE WHAT IT READS IS OF BULK AT MOST 1048576: true; the input reads as it did. -/
def blendCombinesUptoRow : OpenClaim := { program := "ytgbneollfpmpkaarr", sum := "dfa85de5723d8780877eb74d945269f831a3e36b526e1fa79ab317262f46b4b1", func := "frustum/frustumlaw40.BlendCombines", spec := "blendCombines", recurses := true, apart := false, narrowed := true }
def BlendCombinesUptoSaid : Prop := blendCombinesUptoRow.holds Try.pinned (OpenSpec.upto blendCombinesSpec)

/-- 'frustumlaw40.BlendReplaces', WHERE WHAT IT READS IS OF BULK AT MOST 1048576: true; the input reads as it did. -/
def blendReplacesUptoRow : OpenClaim := { program := "ytgbneollfpmpkaarr", sum := "dfa85de5723d8780877eb74d945269f831a3e36b526e1fa79ab317262f46b4b1", func := "frustum/frustumlaw40.BlendReplaces", spec := "blendReplaces", recurses := true, apart := false, narrowed := true }
def BlendReplacesUptoSaid : Prop := blendReplacesUptoRow.holds Try.pinned (OpenSpec.upto blendReplacesSpec)

/-- 'frustumlaw40.BlendOver', WHERE WHAT IT READS IS OF BULK AT MOST 1048576: true; the input reads as it did. -/
def blendOverUptoRow : OpenClaim := { program := "ytgbneollfpmpkaarr", sum := "dfa85de5723d8780877eb74d945269f831a3e36b526e1fa79ab317262f46b4b1", func := "frustum/frustumlaw40.BlendOver", spec := "blendOver", recurses := true, apart := false, narrowed := true }
def BlendOverUptoSaid : Prop := blendOverUptoRow.holds Try.pinned (OpenSpec.upto blendOverSpec)

end Rows
end Go.Proofs.YtgbneollfpmpkaaRR
