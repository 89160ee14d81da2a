/-
  No cell of these rows narrows 'for every input' (looked for: loops, veiled, ifaces, maps, wideKeys, modest, calm, conditions, laid).
  DERIVED. THE GIVEN ROWS OF THIS SEAT. 8 by the template 'for every input the law returns true; each argument reads behind the call as it read before'; 0 by the template 'total and deterministic' (their statements: YtgfdfchckpknjaaTotals.lean).
  GIVEN WITH THE SEED: the statements are not yours to turn. If you find one false, say at which input.
  Laid BY PROGRAM, IN A SANDBOX (cutbox-rows.mjs): the forced cells as the released guide's own fill.sh prints them over the translation 8861302b17c5154c… (all of the seat's roots in one cut). By AI agents, Wed Nov 11 2026. No macro, syntax, notation, axiom, sorry.
-/
import Derived.Test.YtgfdfchckpknjaaChecked
import GoSem.Claim
import GoSem.ClaimJoined
import GoSem.ClaimMapViews
import Derived.JoinedTies
import Derived.KernelRfl
namespace Go.Proofs.Ytgfdfchckpknjaa
/- THE CELL 'sum', in the pinned program and in every row, IS THE sha256 OF THE DUMP (.gsa) THAT YtgfdfchckpknjaaProg.lean LOADS. Nothing in Lean hashes anything: it is a label: what it is worth is what the hold of that sum in a sandbox is worth. -/
noncomputable def Try.pinned : Pinned := { name := "ytgfdfchckpknjaa", sum := "8861302b17c5154c34744a492a57fc4c8b3add79c1cf443518648f5d0b8378f8", checked := Try.checked }
namespace Rows
def none {H : Type} : Left H := { results := [], args := [] }

/-- 'frustumlaw05.CodecHashes': WHATEVER THE INPUT: true; the input reads as it did. -/
def codecHashesSpec : ChangeSpec := { name := "codecHashes", fn := fun _ => fun
  | [d] => { results := [.lit (.bool true)], args := [d] }
  | _ => none }
def codecHashesRow : OpenClaim := { program := "ytgfdfchckpknjaa", sum := "8861302b17c5154c34744a492a57fc4c8b3add79c1cf443518648f5d0b8378f8", func := "frustum/frustumlaw05.CodecHashes", spec := "codecHashes", apart := false }
def CodecHashesSaid : Prop := codecHashesRow.holds Try.pinned (OpenSpec.ofChange codecHashesSpec)

/-- ITS FALSE NEIGHBOUR: 'it returns false'. Refute it at one input. -/
def codecHashesWrong : ChangeSpec := { name := "codecHashes", fn := fun _ => fun
  | [d] => { results := [.lit (.bool false)], args := [d] }
  | _ => none }
def CodecHashesWrongFalsely : Prop := codecHashesRow.holds Try.pinned (OpenSpec.ofChange codecHashesWrong)

/-- 'frustumlaw05.CodecLittle': WHATEVER THE INPUT: true; the input reads as it did. -/
def codecLittleSpec : ChangeSpec := { name := "codecLittle", fn := fun _ => fun
  | [d1, d2, d3, d4] => { results := [.lit (.bool true)], args := [d1, d2, d3, d4] }
  | _ => none }
def codecLittleRow : OpenClaim := { program := "ytgfdfchckpknjaa", sum := "8861302b17c5154c34744a492a57fc4c8b3add79c1cf443518648f5d0b8378f8", func := "frustum/frustumlaw05.CodecLittle", spec := "codecLittle", apart := false }
def CodecLittleSaid : Prop := codecLittleRow.holds Try.pinned (OpenSpec.ofChange codecLittleSpec)

/-- ITS FALSE NEIGHBOUR: 'it returns false'. Refute it at one input. -/
def codecLittleWrong : ChangeSpec := { name := "codecLittle", fn := fun _ => fun
  | [d1, d2, d3, d4] => { results := [.lit (.bool false)], args := [d1, d2, d3, d4] }
  | _ => none }
def CodecLittleWrongFalsely : Prop := codecLittleRow.holds Try.pinned (OpenSpec.ofChange codecLittleWrong)

/-- 'frustumlaw05.CodecStores': WHATEVER THE INPUT: true; the input reads as it did. -/
def codecStoresSpec : ChangeSpec := { name := "codecStores", fn := fun _ => fun
  | [d1, d2, d3, d4] => { results := [.lit (.bool true)], args := [d1, d2, d3, d4] }
  | _ => none }
def codecStoresRow : OpenClaim := { program := "ytgfdfchckpknjaa", sum := "8861302b17c5154c34744a492a57fc4c8b3add79c1cf443518648f5d0b8378f8", func := "frustum/frustumlaw05.CodecStores", spec := "codecStores", apart := false }
def CodecStoresSaid : Prop := codecStoresRow.holds Try.pinned (OpenSpec.ofChange codecStoresSpec)

/-- ITS FALSE NEIGHBOUR: 'it returns false'. Refute it at one input. -/
def codecStoresWrong : ChangeSpec := { name := "codecStores", fn := fun _ => fun
  | [d1, d2, d3, d4] => { results := [.lit (.bool false)], args := [d1, d2, d3, d4] }
  | _ => none }
def CodecStoresWrongFalsely : Prop := codecStoresRow.holds Try.pinned (OpenSpec.ofChange codecStoresWrong)

/-- 'frustumlaw05.CodecAppends': WHATEVER THE INPUT: true; the input reads as it did. -/
def codecAppendsSpec : ChangeSpec := { name := "codecAppends", fn := fun _ => fun
  | [d1, d2, d3] => { results := [.lit (.bool true)], args := [d1, d2, d3] }
  | _ => none }
def codecAppendsRow : OpenClaim := { program := "ytgfdfchckpknjaa", sum := "8861302b17c5154c34744a492a57fc4c8b3add79c1cf443518648f5d0b8378f8", func := "frustum/frustumlaw05.CodecAppends", spec := "codecAppends", apart := false }
def CodecAppendsSaid : Prop := codecAppendsRow.holds Try.pinned (OpenSpec.ofChange codecAppendsSpec)

/-- ITS FALSE NEIGHBOUR: 'it returns false'. Refute it at one input. -/
def codecAppendsWrong : ChangeSpec := { name := "codecAppends", fn := fun _ => fun
  | [d1, d2, d3] => { results := [.lit (.bool false)], args := [d1, d2, d3] }
  | _ => none }
def CodecAppendsWrongFalsely : Prop := codecAppendsRow.holds Try.pinned (OpenSpec.ofChange codecAppendsWrong)

/-- 'frustumlaw05.CodecReadsInt': WHATEVER THE INPUT: true; the input reads as it did. -/
def codecReadsIntSpec : ChangeSpec := { name := "codecReadsInt", fn := fun _ => fun
  | [d1, d2] => { results := [.lit (.bool true)], args := [d1, d2] }
  | _ => none }
def codecReadsIntRow : OpenClaim := { program := "ytgfdfchckpknjaa", sum := "8861302b17c5154c34744a492a57fc4c8b3add79c1cf443518648f5d0b8378f8", func := "frustum/frustumlaw05.CodecReadsInt", spec := "codecReadsInt", apart := false }
def CodecReadsIntSaid : Prop := codecReadsIntRow.holds Try.pinned (OpenSpec.ofChange codecReadsIntSpec)

/-- ITS FALSE NEIGHBOUR: 'it returns false'. Refute it at one input. -/
def codecReadsIntWrong : ChangeSpec := { name := "codecReadsInt", fn := fun _ => fun
  | [d1, d2] => { results := [.lit (.bool false)], args := [d1, d2] }
  | _ => none }
def CodecReadsIntWrongFalsely : Prop := codecReadsIntRow.holds Try.pinned (OpenSpec.ofChange codecReadsIntWrong)

/-- 'frustumlaw05.CodecReadsList': WHATEVER THE INPUT: true; the input reads as it did. -/
def codecReadsListSpec : ChangeSpec := { name := "codecReadsList", fn := fun _ => fun
  | [d1, d2, d3] => { results := [.lit (.bool true)], args := [d1, d2, d3] }
  | _ => none }
def codecReadsListRow : OpenClaim := { program := "ytgfdfchckpknjaa", sum := "8861302b17c5154c34744a492a57fc4c8b3add79c1cf443518648f5d0b8378f8", func := "frustum/frustumlaw05.CodecReadsList", spec := "codecReadsList", apart := false }
def CodecReadsListSaid : Prop := codecReadsListRow.holds Try.pinned (OpenSpec.ofChange codecReadsListSpec)

/-- ITS FALSE NEIGHBOUR: 'it returns false'. Refute it at one input. -/
def codecReadsListWrong : ChangeSpec := { name := "codecReadsList", fn := fun _ => fun
  | [d1, d2, d3] => { results := [.lit (.bool false)], args := [d1, d2, d3] }
  | _ => none }
def CodecReadsListWrongFalsely : Prop := codecReadsListRow.holds Try.pinned (OpenSpec.ofChange codecReadsListWrong)

/-- 'frustumlaw05.CodecUnique': WHATEVER THE INPUT: true; the input reads as it did. -/
def codecUniqueSpec : ChangeSpec := { name := "codecUnique", fn := fun _ => fun
  | [d1, d2, d3] => { results := [.lit (.bool true)], args := [d1, d2, d3] }
  | _ => none }
def codecUniqueRow : OpenClaim := { program := "ytgfdfchckpknjaa", sum := "8861302b17c5154c34744a492a57fc4c8b3add79c1cf443518648f5d0b8378f8", func := "frustum/frustumlaw05.CodecUnique", spec := "codecUnique", apart := false }
def CodecUniqueSaid : Prop := codecUniqueRow.holds Try.pinned (OpenSpec.ofChange codecUniqueSpec)

/-- ITS FALSE NEIGHBOUR: 'it returns false'. Refute it at one input. -/
def codecUniqueWrong : ChangeSpec := { name := "codecUnique", fn := fun _ => fun
  | [d1, d2, d3] => { results := [.lit (.bool false)], args := [d1, d2, d3] }
  | _ => none }
def CodecUniqueWrongFalsely : Prop := codecUniqueRow.holds Try.pinned (OpenSpec.ofChange codecUniqueWrong)

/-- 'frustumlaw05.CodecRoundTrip': WHATEVER THE INPUT: true; the input reads as it did. -/
def codecRoundTripSpec : ChangeSpec := { name := "codecRoundTrip", fn := fun _ => fun
  | [d1, d2, d3, d4, d5] => { results := [.lit (.bool true)], args := [d1, d2, d3, d4, d5] }
  | _ => none }
def codecRoundTripRow : OpenClaim := { program := "ytgfdfchckpknjaa", sum := "8861302b17c5154c34744a492a57fc4c8b3add79c1cf443518648f5d0b8378f8", func := "frustum/frustumlaw05.CodecRoundTrip", spec := "codecRoundTrip", apart := false }
def CodecRoundTripSaid : Prop := codecRoundTripRow.holds Try.pinned (OpenSpec.ofChange codecRoundTripSpec)

/-- ITS FALSE NEIGHBOUR: 'it returns false'. Refute it at one input. -/
def codecRoundTripWrong : ChangeSpec := { name := "codecRoundTrip", fn := fun _ => fun
  | [d1, d2, d3, d4, d5] => { results := [.lit (.bool false)], args := [d1, d2, d3, d4, d5] }
  | _ => none }
def CodecRoundTripWrongFalsely : Prop := codecRoundTripRow.holds Try.pinned (OpenSpec.ofChange codecRoundTripWrong)

/- THE SECOND FORM. 'bulk': how many values and letters a reading holds, each counted each time it is reached (what is shared counts as often as it is met; a slice's spare places count too). A statement '..UptoSaid' is the law's where the arguments, and the package variables that the reading takes, are together of bulk at most 1048576: NARROWER than '..Said'. Prove '..Said' where nothing that the law and all that it calls make is longer than what came in: it says more and counts as full. Else prove '..UptoSaid'. A law counts once. -/
mutual
def uptoBulk {H : Type} : DataW H → Nat
  | .lit (.string bytes) => bytes.length + 1
  | .lit _ => 1
  | .nil => 1
  | .ptr d => uptoBulk d + 1
  | .slice elems spare => uptoBulkAll elems + uptoBulkAll spare + 1
  | .agg parts => uptoBulkAll parts + 1
  | .iface _ d => uptoBulk d + 1
  | .map entries => uptoBulkEntries entries + 1
  | .held _ => 1
def uptoBulkAll {H : Type} : List (DataW H) → Nat
  | [] => 0
  | d :: r => uptoBulk d + uptoBulkAll r
def uptoBulkEntries {H : Type} : List (Lit × DataW H) → Nat
  | [] => 0
  | x :: r => uptoBulkEntry x + uptoBulkEntries r
def uptoBulkEntry {H : Type} : Lit × DataW H → Nat
  | (.string bytes, d) => bytes.length + uptoBulk d + 1
  | (_, d) => uptoBulk d + 1
 end
def uptoSmall : (H : Type) → List (DataW H) → Bool := fun _ ds => decide (uptoBulkAll ds ≤ 1048576)
def OpenSpec.upto (s : _root_.Go.ChangeSpec) : _root_.Go.OpenSpec := { _root_.Go.OpenSpec.ofChange s with cond := some uptoSmall }

/-- 'frustumlaw05.CodecHashes', WHERE WHAT IT READS IS OF BULK AT MOST 1048576: true; the input reads as it did. -/
def codecHashesUptoRow : OpenClaim := { program := "ytgfdfchckpknjaa", sum := "8861302b17c5154c34744a492a57fc4c8b3add79c1cf443518648f5d0b8378f8", func := "frustum/frustumlaw05.CodecHashes", spec := "codecHashes", apart := false, narrowed := true }
def CodecHashesUptoSaid : Prop := codecHashesUptoRow.holds Try.pinned (OpenSpec.upto codecHashesSpec)

/-- 'frustumlaw05.CodecLittle', WHERE WHAT IT READS IS OF BULK AT MOST 1048576: true; the input reads as it did. -/
def codecLittleUptoRow : OpenClaim := { program := "ytgfdfchckpknjaa", sum := "8861302b17c5154c34744a492a57fc4c8b3add79c1cf443518648f5d0b8378f8", func := "frustum/frustumlaw05.CodecLittle", spec := "codecLittle", apart := false, narrowed := true }
def CodecLittleUptoSaid : Prop := codecLittleUptoRow.holds Try.pinned (OpenSpec.upto codecLittleSpec)

/-- 'frustumlaw05.CodecStores', WHERE WHAT IT READS IS OF BULK AT MOST 1048576: true; the input reads as it did. -/
def codecStoresUptoRow : OpenClaim := { program := "ytgfdfchckpknjaa", sum := "8861302b17c5154c34744a492a57fc4c8b3add79c1cf443518648f5d0b8378f8", func := "frustum/frustumlaw05.CodecStores", spec := "codecStores", apart := false, narrowed := true }
def CodecStoresUptoSaid : Prop := codecStoresUptoRow.holds Try.pinned (OpenSpec.upto codecStoresSpec)

/-- 'frustumlaw05.CodecAppends', WHERE WHAT IT READS IS OF BULK AT MOST 1048576: true; the input reads as it did. -/
def codecAppendsUptoRow : OpenClaim := { program := "ytgfdfchckpknjaa", sum := "8861302b17c5154c34744a492a57fc4c8b3add79c1cf443518648f5d0b8378f8", func := "frustum/frustumlaw05.CodecAppends", spec := "codecAppends", apart := false, narrowed := true }
def CodecAppendsUptoSaid : Prop := codecAppendsUptoRow.holds Try.pinned (OpenSpec.upto codecAppendsSpec)

/-- 'frustumlaw05.CodecReadsInt', WHERE WHAT IT READS IS OF BULK AT MOST 1048576: true; the input reads as it did. -/
def codecReadsIntUptoRow : OpenClaim := { program := "ytgfdfchckpknjaa", sum := "8861302b17c5154c34744a492a57fc4c8b3add79c1cf443518648f5d0b8378f8", func := "frustum/frustumlaw05.CodecReadsInt", spec := "codecReadsInt", apart := false, narrowed := true }
def CodecReadsIntUptoSaid : Prop := codecReadsIntUptoRow.holds Try.pinned (OpenSpec.upto codecReadsIntSpec)

/-- 'frustumlaw05.CodecReadsList', WHERE WHAT IT READS IS OF BULK AT MOST 1048576: true; the input reads as it did. -/
def codecReadsListUptoRow : OpenClaim := { program := "ytgfdfchckpknjaa", sum := "8861302b17c5154c34744a492a57fc4c8b3add79c1cf443518648f5d0b8378f8", func := "frustum/frustumlaw05.CodecReadsList", spec := "codecReadsList", apart := false, narrowed := true }
def CodecReadsListUptoSaid : Prop := codecReadsListUptoRow.holds Try.pinned (OpenSpec.upto codecReadsListSpec)

/-- 'frustumlaw05.CodecUnique', WHERE WHAT IT READS IS OF BULK AT MOST 1048576: true; the input reads as it did. -/
def codecUniqueUptoRow : OpenClaim := { program := "ytgfdfchckpknjaa", sum := "8861302b17c5154c34744a492a57fc4c8b3add79c1cf443518648f5d0b8378f8", func := "frustum/frustumlaw05.CodecUnique", spec := "codecUnique", apart := false, narrowed := true }
def CodecUniqueUptoSaid : Prop := codecUniqueUptoRow.holds Try.pinned (OpenSpec.upto codecUniqueSpec)

/-- 'frustumlaw05.CodecRoundTrip', WHERE WHAT IT READS IS OF BULK AT MOST 1048576: true; the input reads as it did. -/
def codecRoundTripUptoRow : OpenClaim := { program := "ytgfdfchckpknjaa", sum := "8861302b17c5154c34744a492a57fc4c8b3add79c1cf443518648f5d0b8378f8", func := "frustum/frustumlaw05.CodecRoundTrip", spec := "codecRoundTrip", apart := false, narrowed := true }
def CodecRoundTripUptoSaid : Prop := codecRoundTripUptoRow.holds Try.pinned (OpenSpec.upto codecRoundTripSpec)

end Rows
end Go.Proofs.Ytgfdfchckpknjaa
