/-
  No cell of these rows narrows 'for every input' (looked for: loops, veiled, ifaces, maps, wideKeys, modest, calm, conditions, laid).
  DERIVED. THE GIVEN ROWS OF THIS SEAT. 3 by the template 'for every input the law returns true; each argument reads behind the call as it read before'; 0 by the template 'total and deterministic' (their statements: YtkmjjmojakaaiaaRRRTotals.lean).
  GIVEN WITH THE SEED: the statements are not yours to turn. If you find one false, say at which input.
  Laid BY PROGRAM, IN A SANDBOX (cutbox-rows.mjs): the forced cells as the released guide's own fill.sh prints them over the translation 1cba0f15a1bce971… (all of the seat's roots in one cut). By AI agents, Wed Nov 11 2026. No macro, syntax, notation, axiom, sorry.
-/
import Derived.Test.YtkmjjmojakaaiaaRRRChecked
import GoSem.Claim
import GoSem.ClaimJoined
import GoSem.ClaimMapViews
import Derived.JoinedTies
import Derived.KernelRfl
namespace Go.Proofs.YtkmjjmojakaaiaaRRR
/- THE CELL 'sum', in the pinned program and in every row, IS THE sha256 OF THE DUMP (.gsa) THAT YtkmjjmojakaaiaaRRRProg.lean LOADS. Nothing in Lean hashes anything: it is a label: what it is worth is what the hold of that sum in a sandbox is worth. -/
noncomputable def Try.pinned : Pinned := { name := "ytkmjjmojakaaiaarrr", sum := "1cba0f15a1bce9718308598cc679f0c0534f090bd06e98fce1741de6c50d0db6", checked := Try.checked }
namespace Rows
def none {H : Type} : Left H := { results := [], args := [] }

/-- 'frustumlaw41.ResolveAverages': WHATEVER THE INPUT: true; the input reads as it did. -/
def resolveAveragesSpec : ChangeSpec := { name := "resolveAverages", fn := fun _ => fun
  | [d] => { results := [.lit (.bool true)], args := [d] }
  | _ => none }
def resolveAveragesRow : OpenClaim := { program := "ytkmjjmojakaaiaarrr", sum := "1cba0f15a1bce9718308598cc679f0c0534f090bd06e98fce1741de6c50d0db6", func := "frustum/frustumlaw41.ResolveAverages", spec := "resolveAverages", recurses := true, apart := false }
def ResolveAveragesSaid : Prop := resolveAveragesRow.holds Try.pinned (OpenSpec.ofChange resolveAveragesSpec)

/-- ITS FALSE NEIGHBOUR: 'it returns false'. Refute it at one input. -/
def resolveAveragesWrong : ChangeSpec := { name := "resolveAverages", fn := fun _ => fun
  | [d] => { results := [.lit (.bool false)], args := [d] }
  | _ => none }
def ResolveAveragesWrongFalsely : Prop := resolveAveragesRow.holds Try.pinned (OpenSpec.ofChange resolveAveragesWrong)

/-- 'frustumlaw41.ResolveAverage': WHATEVER THE INPUT: true; the input reads as it did. -/
def resolveAverageSpec : ChangeSpec := { name := "resolveAverage", fn := fun _ => fun
  | [d1, d2, d3] => { results := [.lit (.bool true)], args := [d1, d2, d3] }
  | _ => none }
def resolveAverageRow : OpenClaim := { program := "ytkmjjmojakaaiaarrr", sum := "1cba0f15a1bce9718308598cc679f0c0534f090bd06e98fce1741de6c50d0db6", func := "frustum/frustumlaw41.ResolveAverage", spec := "resolveAverage", recurses := true, apart := false }
def ResolveAverageSaid : Prop := resolveAverageRow.holds Try.pinned (OpenSpec.ofChange resolveAverageSpec)

/-- ITS FALSE NEIGHBOUR: 'it returns false'. Refute it at one input. -/
def resolveAverageWrong : ChangeSpec := { name := "resolveAverage", fn := fun _ => fun
  | [d1, d2, d3] => { results := [.lit (.bool false)], args := [d1, d2, d3] }
  | _ => none }
def ResolveAverageWrongFalsely : Prop := resolveAverageRow.holds Try.pinned (OpenSpec.ofChange resolveAverageWrong)

/-- 'frustumlaw41.ResolveSame': WHATEVER THE INPUT: true; the input reads as it did. -/
def resolveSameSpec : ChangeSpec := { name := "resolveSame", fn := fun _ => fun
  | [d1, d2] => { results := [.lit (.bool true)], args := [d1, d2] }
  | _ => none }
def resolveSameRow : OpenClaim := { program := "ytkmjjmojakaaiaarrr", sum := "1cba0f15a1bce9718308598cc679f0c0534f090bd06e98fce1741de6c50d0db6", func := "frustum/frustumlaw41.ResolveSame", spec := "resolveSame", recurses := true, apart := false }
def ResolveSameSaid : Prop := resolveSameRow.holds Try.pinned (OpenSpec.ofChange resolveSameSpec)

/-- ITS FALSE NEIGHBOUR: 'it returns false'. Refute it at one input. -/
def resolveSameWrong : ChangeSpec := { name := "resolveSame", fn := fun _ => fun
  | [d1, d2] => { results := [.lit (.bool false)], args := [d1, d2] }
  | _ => none }
def ResolveSameWrongFalsely : Prop := resolveSameRow.holds Try.pinned (OpenSpec.ofChange resolveSameWrong)

/- THE SECOND FORM. 'bulk': how many values and letters a reading holds, each counted each time it is reached (what is shared counts as often as it is met; a slice's spare places count too). A statement '..UptoSaid' is the law's where the arguments, and the package variables that the reading takes, are together of bulk at most 1048576: NARROWER than '..Said'. Prove '..Said' where nothing that the law and all that it calls make is longer than what came in: it says more and counts as full. Else prove '..UptoSaid'. A law counts once. -/
mutual
def uptoBulk {H : Type} : DataW H → Nat
  | .lit (.string bytes) => bytes.length + 1
  | .lit _ => 1
  | .nil => 1
  | .ptr d => uptoBulk d + 1
  | .slice elems spare => uptoBulkAll elems + uptoBulkAll spare + 1
  | .agg parts => uptoBulkAll parts + 1
  | .iface _ d => uptoBulk d + 1
  | .map entries => uptoBulkEntries entries + 1
  | .held _ => 1
def uptoBulkAll {H : Type} : List (DataW H) → Nat
  | [] => 0
  | d :: r => uptoBulk d + uptoBulkAll r
def uptoBulkEntries {H : Type} : List (Lit × DataW H) → Nat
  | [] => 0
  | x :: r => uptoBulkEntry x + uptoBulkEntries r
def uptoBulkEntry {H : Type} : Lit × DataW H → Nat
  | (.string bytes, d) => bytes.length + uptoBulk d + 1
  | (_, d) => uptoBulk d + 1
 end
def uptoSmall : (H : Type) → List (DataW H) → Bool := fun _ ds => decide (uptoBulkAll ds ≤ 1048576)
def OpenSpec.upto (s : _root_.Go.ChangeSpec) : _root_.Go.OpenSpec := { _root_.Go.OpenSpec.ofChange s with cond := some uptoSmall }

/-- 'frustumlaw41.ResolveAverages', WHERE WHAT IT READS IS OF BULK AT MOST 1048576: true; the input reads as it did. -/
def resolveAveragesUptoRow : OpenClaim := { program := "ytkmjjmojakaaiaarrr", sum := "1cba0f15a1bce9718308598cc679f0c0534f090bd06e98fce1741de6c50d0db6", func := "frustum/frustumlaw41.ResolveAverages", spec := "resolveAverages", recurses := true, apart := false, narrowed := true }
def ResolveAveragesUptoSaid : Prop := resolveAveragesUptoRow.holds Try.pinned (OpenSpec.upto resolveAveragesSpec)

/-- 'frustumlaw41.ResolveAverage', WHERE WHAT IT READS IS OF BULK AT MOST 1048576: true; the input reads as it did. -/
def resolveAverageUptoRow : OpenClaim := { program := "ytkmjjmojakaaiaarrr", sum := "1cba0f15a1bce9718308598cc679f0c0534f090bd06e98fce1741de6c50d0db6", func := "frustum/frustumlaw41.ResolveAverage", spec := "resolveAverage", recurses := true, apart := false, narrowed := true }
def ResolveAverageUptoSaid : Prop := resolveAverageUptoRow.holds Try.pinned (OpenSpec.upto resolveAverageSpec)

/-- 'frustumlaw41.ResolveSame', WHERE WHAT IT READS IS OF BULK AT MOST 1048576: true; the input reads as it did. -/
def resolveSameUptoRow : OpenClaim := { program := "ytkmjjmojakaaiaarrr", sum := "1cba0f15a1bce9718308598cc679f0c0534f090bd06e98fce1741de6c50d0db6", func := "frustum/frustumlaw41.ResolveSame", spec := "resolveSame", recurses := true, apart := false, narrowed := true }
def ResolveSameUptoSaid : Prop := resolveSameUptoRow.holds Try.pinned (OpenSpec.upto resolveSameSpec)

end Rows
end Go.Proofs.YtkmjjmojakaaiaaRRR
