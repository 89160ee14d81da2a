/- BlendEquation: walks of functions, by the printed steps made shorter. No condition. -/
import Derived.Test.YtgbneollfpmpkaaRRProg
import Derived.Below
import Derived.Deep.Draws
import Derived.Deep.AppendLies
import Derived.Maps.AppendAt
import Derived.OwnWalk
import Derived.Laws.BytesArg
import Derived.Laws.MakeOwn
import Derived.Laws.OwnMore
import Derived.Deep.OwnRows
import Derived.Tactics
import Derived.Lib.ConvBytes
import Derived.Laws.Slices
import Derived.WalkKit
import Derived.KernelRfl
import Derived.RowKit3
import Derived.Deep.LoopGhost
import Derived.Deep.QuietTactic
import Derived.BigQuiet
import Derived.WideLaws
import Derived.Deep.DeepCutAuto
import Derived.Deep.CutBlock
import Derived.Deep.RegionHeld3
import Derived.Laws.Rows
import Derived.Lib.AppendStr
import Derived.ArgAppend
import Derived.Laws.IdiomCopy
import Derived.OrdersHeld
import Derived.Laws.BitsLemmas
import Derived.RowKit
import Derived.Test.YtgbneollfpmpkaaRRWWords
import Derived.Test.YtgbneollfpmpkaaRRWLast
import Derived.Test.YtgbneollfpmpkaaRRWTab
import Derived.Test.YtgbneollfpmpkaaRRWFour
import Derived.Test.YtgbneollfpmpkaaRRWQPut
import Derived.Test.YtgbneollfpmpkaaRRWApart
import Derived.Test.YtgbneollfpmpkaaRRWArr
import Derived.Test.YtgbneollfpmpkaaRRWZeros
import Derived.Test.YtgbneollfpmpkaaRRWFoot
import Derived.Test.YtgbneollfpmpkaaRRWKept
import Derived.Test.YtgbneollfpmpkaaRRWShare
import Derived.Test.YtgbneollfpmpkaaRRWN
import Derived.Test.YtgbneollfpmpkaaRRWFootNe
import Derived.Test.YtgbneollfpmpkaaRRWAt
import Derived.Test.YtgbneollfpmpkaaRRWEqStruct
import Derived.Test.YtgbneollfpmpkaaRRWRepsOne
import Derived.Test.YtgbneollfpmpkaaRRWInv
import Derived.Test.YtgbneollfpmpkaaRRWInvWords
import Derived.Test.YtgbneollfpmpkaaRRWGuard
import Derived.Test.YtgbneollfpmpkaaRRWNEv
import Derived.Test.YtgbneollfpmpkaaRRWMore
namespace Go.Proofs.YtgbneollfpmpkaaRR.PBlendEquation
open Go.RowKit Go.Proofs.YtgbneollfpmpkaaRRW.PrintWords Go.Proofs.YtgbneollfpmpkaaRRW.PrintLast Go.Proofs.YtgbneollfpmpkaaRRW.PrintMore
attribute [local go_sem] max2_int min2_int max_two min_two max_three min_three max_four min_four   -- for this text's walks alone
set_option linter.unusedVariables false
set_option linter.unusedSimpArgs false



def errW : Option Int → Value
  | none => .nilIface
  | some c => .iface 0 (.int .i64 c)
theorem errW_none : errW none = .nilIface := rfl
theorem errW_some (c : Int) : errW (some c) = .iface 0 (.int .i64 c) := rfl

theorem info3 : (Try.prog.info? 3).map (fun i => (i.zero, i.size, i.bytes)) = some (some (.int .i64 0), 1, 8) := by kernel_rfl
-- the values' own types

/-! short words for the facts on blocks -/
theorem below_setA {w W : World} {g j : Nat} {v : Value} (h : Below w.heap.size w W) (hg : Aside0 (w.heap.size ≤ g)) : Below w.heap.size w (W.setCell ⟨g, j, none⟩ v) := below_set h hg.out
theorem bs {w W W2 W' : World} (h : Aside0 (Below w.heap.size w W)) (hb : Below W2.heap.size W2 W') (e : Below w.heap.size w W → Below w.heap.size w W2 := by first | (with_reducible exact fun h => h) | (intro h; repeat (first | (with_reducible exact h) | (with_reducible apply below_alloc) | (with_reducible apply pw_below_drewN) | (with_reducible apply below_drew1) | (with_reducible refine below_setA ?_ (by assumption))))) : Aside0 (Below w.heap.size w W') := ⟨below_step (e h.out) hb⟩
theorem cf {W : World} {g g' i j : Nat} {v : Value} {u : Option Value} (n : Aside0 (g ≠ g')) (h : W.cell? ⟨g, i, none⟩ = u) : (W.setCell ⟨g', j, none⟩ v).cell? ⟨g, i, none⟩ = u := (cell_far (p := ⟨g', j, none⟩) n.out _).trans h
theorem ub {H : Array Obj} {W W' : World} {g : Nat} {o : Obj} (h : Aside0 (H[g]? = some o)) (hb : Below W.heap.size W W') (e : W.heap[g]? = H[g]? := by rfl) : Aside0 (W'.heap[g]? = some o) := ⟨blk_below (e.trans h.out) hb⟩
theorem nl {W : World} {g g' n : Nat} {o : Obj} (h : Aside0 (W.heap[g]? = some o)) (hg : g' = n) (e : n = W.heap.size := by rfl) : Aside0 (g ≠ g') := ⟨by rw [hg, e]; exact Nat.ne_of_lt (blk_lt h.out)⟩
theorem ng {W : World} {g g' n : Nat} {o : Obj} (h : Aside0 (W.heap[g]? = some o)) (hg : g' = n) (e : n = W.heap.size := by rfl) : Aside0 (g' ≠ g) := ⟨by rw [hg, e]; exact Nat.ne_of_gt (blk_lt h.out)⟩
theorem ws {w W W2 : World} {g : Nat} (h : Aside0 (Below w.heap.size w W)) (hg : g = W2.heap.size) (e : Below w.heap.size w W → Below w.heap.size w W2 := by first | (with_reducible exact fun h => h) | (intro h; repeat (first | (with_reducible exact h) | (with_reducible apply below_alloc) | (with_reducible apply pw_below_drewN) | (with_reducible apply below_drew1) | (with_reducible refine below_setA ?_ (by assumption))))) : Aside0 (w.heap.size ≤ g) := ⟨by rw [hg]; exact below_size (e h.out)⟩
theorem bc {w : World} {g : Nat} {t : TypeId} {cs : Array Value} (h : Aside0 (w.heap[g]? = some (.cells cs t (0, 0)))) (i : Nat) {v : Value} (e : cs[i]? = some v := by rfl) : w.cell? ⟨g, i, none⟩ = some v := (blk_cell h.out i).trans e

end Go.Proofs.YtgbneollfpmpkaaRR.PBlendEquation
