/-
  No cell of these rows narrows 'for every input' (looked for: loops, veiled, ifaces, maps, wideKeys, modest, calm, conditions, laid).
  DERIVED. THE GIVEN ROWS OF THIS SEAT. 3 by the template 'for every input the law returns true; each argument reads behind the call as it read before'; 0 by the template 'total and deterministic' (their statements: YtmpmennepjkocaaTotals.lean).
  GIVEN WITH THE SEED: the statements are not yours to turn. If you find one false, say at which input.
  Laid BY PROGRAM, IN A SANDBOX (cutbox-rows.mjs): the forced cells as the released guide's own fill.sh prints them over the translation 4a5dc7eb2db749b4… (all of the seat's roots in one cut). By AI agents, Wed Nov 11 2026. No macro, syntax, notation, axiom, sorry.
-/
import Derived.Test.YtmpmennepjkocaaChecked
import GoSem.Claim
import GoSem.ClaimJoined
import GoSem.ClaimMapViews
import Derived.JoinedTies
import Derived.KernelRfl
namespace Go.Proofs.Ytmpmennepjkocaa
/- THE CELL 'sum', in the pinned program and in every row, IS THE sha256 OF THE DUMP (.gsa) THAT YtmpmennepjkocaaProg.lean LOADS. Nothing in Lean hashes anything: it is a label: what it is worth is what the hold of that sum in a sandbox is worth. -/
noncomputable def Try.pinned : Pinned := { name := "ytmpmennepjkocaa", sum := "4a5dc7eb2db749b4e377eca61ba305a633abdc33bde70e82a35336f0b78da278", checked := Try.checked }
namespace Rows
def none {H : Type} : Left H := { results := [], args := [] }

/-- 'frustumlaw42.TargetNew': WHATEVER THE INPUT: true; the input reads as it did. -/
def targetNewSpec : ChangeSpec := { name := "targetNew", fn := fun _ => fun
  | [d1, d2, d3] => { results := [.lit (.bool true)], args := [d1, d2, d3] }
  | _ => none }
def targetNewRow : OpenClaim := { program := "ytmpmennepjkocaa", sum := "4a5dc7eb2db749b4e377eca61ba305a633abdc33bde70e82a35336f0b78da278", func := "frustum/frustumlaw42.TargetNew", spec := "targetNew", apart := false }
def TargetNewSaid : Prop := targetNewRow.holds Try.pinned (OpenSpec.ofChange targetNewSpec)

/-- ITS FALSE NEIGHBOUR: 'it returns false'. Refute it at one input. -/
def targetNewWrong : ChangeSpec := { name := "targetNew", fn := fun _ => fun
  | [d1, d2, d3] => { results := [.lit (.bool false)], args := [d1, d2, d3] }
  | _ => none }
def TargetNewWrongFalsely : Prop := targetNewRow.holds Try.pinned (OpenSpec.ofChange targetNewWrong)

/-- 'frustumlaw42.TargetMerge': WHATEVER THE INPUT: true; the input reads as it did. -/
def targetMergeSpec : ChangeSpec := { name := "targetMerge", fn := fun _ => fun
  | [d1, d2, d3] => { results := [.lit (.bool true)], args := [d1, d2, d3] }
  | _ => none }
def targetMergeRow : OpenClaim := { program := "ytmpmennepjkocaa", sum := "4a5dc7eb2db749b4e377eca61ba305a633abdc33bde70e82a35336f0b78da278", func := "frustum/frustumlaw42.TargetMerge", spec := "targetMerge", apart := false }
def TargetMergeSaid : Prop := targetMergeRow.holds Try.pinned (OpenSpec.ofChange targetMergeSpec)

/-- ITS FALSE NEIGHBOUR: 'it returns false'. Refute it at one input. -/
def targetMergeWrong : ChangeSpec := { name := "targetMerge", fn := fun _ => fun
  | [d1, d2, d3] => { results := [.lit (.bool false)], args := [d1, d2, d3] }
  | _ => none }
def TargetMergeWrongFalsely : Prop := targetMergeRow.holds Try.pinned (OpenSpec.ofChange targetMergeWrong)

/-- 'frustumlaw42.TargetEqual': WHATEVER THE INPUT: true; the input reads as it did. -/
def targetEqualSpec : ChangeSpec := { name := "targetEqual", fn := fun _ => fun
  | [d1, d2] => { results := [.lit (.bool true)], args := [d1, d2] }
  | _ => none }
def targetEqualRow : OpenClaim := { program := "ytmpmennepjkocaa", sum := "4a5dc7eb2db749b4e377eca61ba305a633abdc33bde70e82a35336f0b78da278", func := "frustum/frustumlaw42.TargetEqual", spec := "targetEqual", apart := false }
def TargetEqualSaid : Prop := targetEqualRow.holds Try.pinned (OpenSpec.ofChange targetEqualSpec)

/-- ITS FALSE NEIGHBOUR: 'it returns false'. Refute it at one input. -/
def targetEqualWrong : ChangeSpec := { name := "targetEqual", fn := fun _ => fun
  | [d1, d2] => { results := [.lit (.bool false)], args := [d1, d2] }
  | _ => none }
def TargetEqualWrongFalsely : Prop := targetEqualRow.holds Try.pinned (OpenSpec.ofChange targetEqualWrong)

/- THE SECOND FORM. 'bulk': how many values and letters a reading holds, each counted each time it is reached (what is shared counts as often as it is met; a slice's spare places count too). A statement '..UptoSaid' is the law's where the arguments, and the package variables that the reading takes, are together of bulk at most 1048576: NARROWER than '..Said'. Prove '..Said' where nothing that the law and all that it calls make is longer than what came in: it says more and counts as full. Else prove '..UptoSaid'. A law counts once. -/
mutual
def uptoBulk {H : Type} : DataW H → Nat
  | .lit (.string bytes) => bytes.length + 1
  | .lit _ => 1
  | .nil => 1
  | .ptr d => uptoBulk d + 1
  | .slice elems spare => uptoBulkAll elems + uptoBulkAll spare + 1
  | .agg parts => uptoBulkAll parts + 1
  | .iface _ d => uptoBulk d + 1
  | .map entries => uptoBulkEntries entries + 1
  | .held _ => 1
def uptoBulkAll {H : Type} : List (DataW H) → Nat
  | [] => 0
  | d :: r => uptoBulk d + uptoBulkAll r
def uptoBulkEntries {H : Type} : List (Lit × DataW H) → Nat
  | [] => 0
  | x :: r => uptoBulkEntry x + uptoBulkEntries r
def uptoBulkEntry {H : Type} : Lit × DataW H → Nat
  | (.string bytes, d) => bytes.length + uptoBulk d + 1
  | (_, d) => uptoBulk d + 1
 end
def uptoSmall : (H : Type) → List (DataW H) → Bool := fun _ ds => decide (uptoBulkAll ds ≤ 1048576)
def OpenSpec.upto (s : _root_.Go.ChangeSpec) : _root_.Go.OpenSpec := { _root_.Go.OpenSpec.ofChange s with cond := some uptoSmall }

/-- 'frustumlaw42.TargetNew', WHERE WHAT IT READS IS OF BULK AT MOST 1048576: true; the input reads as it did. -/
def targetNewUptoRow : OpenClaim := { program := "ytmpmennepjkocaa", sum := "4a5dc7eb2db749b4e377eca61ba305a633abdc33bde70e82a35336f0b78da278", func := "frustum/frustumlaw42.TargetNew", spec := "targetNew", apart := false, narrowed := true }
def TargetNewUptoSaid : Prop := targetNewUptoRow.holds Try.pinned (OpenSpec.upto targetNewSpec)

/-- 'frustumlaw42.TargetMerge', WHERE WHAT IT READS IS OF BULK AT MOST 1048576: true; the input reads as it did. -/
def targetMergeUptoRow : OpenClaim := { program := "ytmpmennepjkocaa", sum := "4a5dc7eb2db749b4e377eca61ba305a633abdc33bde70e82a35336f0b78da278", func := "frustum/frustumlaw42.TargetMerge", spec := "targetMerge", apart := false, narrowed := true }
def TargetMergeUptoSaid : Prop := targetMergeUptoRow.holds Try.pinned (OpenSpec.upto targetMergeSpec)

/-- 'frustumlaw42.TargetEqual', WHERE WHAT IT READS IS OF BULK AT MOST 1048576: true; the input reads as it did. -/
def targetEqualUptoRow : OpenClaim := { program := "ytmpmennepjkocaa", sum := "4a5dc7eb2db749b4e377eca61ba305a633abdc33bde70e82a35336f0b78da278", func := "frustum/frustumlaw42.TargetEqual", spec := "targetEqual", apart := false, narrowed := true }
def TargetEqualUptoSaid : Prop := targetEqualUptoRow.holds Try.pinned (OpenSpec.upto targetEqualSpec)

end Rows
end Go.Proofs.Ytmpmennepjkocaa
