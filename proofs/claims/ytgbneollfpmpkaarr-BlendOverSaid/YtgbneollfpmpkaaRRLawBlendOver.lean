/- BlendOver: the row of the law, over the printed contract of its code and the pure theorem. No condition beside the given statement's own. -/
import Derived.Test.YtgbneollfpmpkaaRRRows
import Derived.Test.YtgbneollfpmpkaaRROpen
import Derived.Test.YtgbneollfpmpkaaRRPureBlendOver
import Derived.ProofKit
import Derived.OpenShut
import Derived.ShutString
import Derived.ChangeOld
import Derived.Carry
import Derived.Below
import Derived.SizedLaws
namespace Go.Proofs.YtgbneollfpmpkaaRR.blendOver
open Go.ChangeShapes Go.WideShapes Go.ChangeAt Go.RowKit Go.Proofs.YtgbneollfpmpkaaRRW.PrintWords Go.Proofs.YtgbneollfpmpkaaRR.Open
set_option linter.unusedVariables false
theorem own : ownKnob Try.prog.godebug = none := by kernel_rfl
theorem laidOut : laidOutB Try.prog = true := by kernel_rfl
abbrev T27 : Type := Int × Int × Int × Int
def kt27 : Kd T27 := Kd.pair (Kd.int .i64) (Kd.pair (Kd.int .i64) (Kd.pair (Kd.int .i64) ((Kd.int .i64))))
def ot27 : T27 → Prop := fun x => (fun a : Int => (Lit.int .i64 a).wf = true) x.1 ∧ (fun x => (fun a : Int => (Lit.int .i64 a).wf = true) x.1 ∧ (fun x => (fun a : Int => (Lit.int .i64 a).wf = true) x.1 ∧ ((fun a : Int => (Lit.int .i64 a).wf = true)) x.2) x.2) x.2
theorem rt27 : Rd Try.prog kt27 ot27 27 := rd_struct Try.underlying27 (by kernel_rfl) (rdl_cons (rd_int (k := .i64) Try.underlying3) (by kernel_rfl) rfl (rdl_cons (rd_int (k := .i64) Try.underlying3) (by kernel_rfl) rfl (rdl_cons (rd_int (k := .i64) Try.underlying3) (by kernel_rfl) rfl (rdl_last (rd_int (k := .i64) Try.underlying3) (by kernel_rfl)))))
set_option maxRecDepth 100000 in
set_option maxHeartbeats 1000000 in
theorem lifted (os : Os) (started : os.Started) (H : Type) (enc : TypeId × Value → H) :
    ReturnsInHanded {} Try.checked os 6 .any (Rows.blendOverSpec.pre6 enc Try.prog Try.f6 Rows.blendOverRow.domain false) (Rows.blendOverSpec.post enc Try.prog Try.f6 false true false false) := by
  refine returnsInHanded_of_change_sized (C := Try.checked) own started (by kernel_rfl) Try.func6
    (ChangeSpec.witness6 (enc := enc) (C := Try.checked) false ⟨#[], #[.agg #[.int .i64 0, .int .i64 0, .int .i64 0, .int .i64 0], .agg #[.int .i64 0, .int .i64 0, .int .i64 0, .int .i64 0]], []⟩ 8 (by kernel_rfl) (by kernel_rfl) (by kernel_rfl) (by kernel_rfl)) ?_
  intro W base args ds gs before hval0 hW hcnd hsz0 _
  have hsz : (DataW.weightsEach Try.prog (Try.f6.params.toList ++ Rows.blendOverSpec.plain.varTypes Try.prog) (ds ++ gs)).all (· ≤ reachBytes) = true := hsz0
  have hval : ∀ (j : Nat) t v, Try.f6.params[j]? = some t → args[j]? = some v → Value.okWide Try.prog W .any base t v := hval0
  have hW' := hW
  obtain ⟨p, q, hA0, hV, rfl, hfz, hnd⟩ := hW
  have hA : DataW.TrodAll enc Try.prog W 0 (fun _ => true) true Try.f6.params.toList args.toList ds p := hA0
  rw [Try.params6] at hA hval hsz
  obtain ⟨v0, vs0, d0, ds0, p0, q0, hargs, rfl, rfl, h0, r0⟩ := trodAll_cons hA
  obtain ⟨v1, vs1, d1, ds1, p1, q1, rfl, rfl, rfl, h1, r1⟩ := trodAll_cons r0
  obtain ⟨rfl, rfl, rfl⟩ := trodAll_nil r1
  obtain rfl : args = #[v0, v1] := by cases args; simp_all
  obtain ⟨rfl, rfl⟩ := trodVars_none hV
  have keep0 := h0
  have lt0 : ∀ x ∈ p0, x.block < W.heap.size := fun x hx => hW'.lt x (by simp [hx])
  obtain ⟨cs0, a0, rfl, ok0, K0⟩ := Open.open_struct Try.underlying27 rt27 (hval 0 27 v0 rfl rfl) h0
  obtain ⟨_, _, E0, rfl, ⟨_, _, rfl, rfl, ⟨_, _, rfl, rfl, rfl⟩⟩⟩ := K0
  obtain rfl : cs0 = #[.int .i64 a0.1, .int .i64 a0.2.1, .int .i64 a0.2.2.1, .int .i64 a0.2.2.2] := Open.arr_of E0
  have keep1 := h1
  have lt1 : ∀ x ∈ p1, x.block < W.heap.size := fun x hx => hW'.lt x (by simp [hx])
  obtain ⟨cs1, a1, rfl, ok1, K1⟩ := Open.open_struct Try.underlying27 rt27 (hval 1 27 v1 rfl rfl) h1
  obtain ⟨_, _, E1, rfl, ⟨_, _, rfl, rfl, ⟨_, _, rfl, rfl, rfl⟩⟩⟩ := K1
  obtain rfl : cs1 = #[.int .i64 a1.1, .int .i64 a1.2.1, .int .i64 a1.2.2.1, .int .i64 a1.2.2.2] := Open.arr_of E1
  clear hA0 hval0 hsz0 hsz
  obtain ⟨k, hp⟩ := Pure.BlendOver a0.1 a0.2.1 a0.2.2.1 a0.2.2.2 a1.1 a1.2.1 a1.2.2.1 a1.2.2.2
  refine (show Calls Try.prog 6 #[.agg #[.int .i64 a0.1, .int .i64 a0.2.1, .int .i64 a0.2.2.1, .int .i64 a0.2.2.2], .agg #[.int .i64 a1.1, .int .i64 a1.2.1, .int .i64 a1.2.2.1, .int .i64 a1.2.2.2]] W _ from PBlendOver.frustumlaw40_BlendOver.calls k a0.1 a0.2.1 a0.2.2.1 a0.2.2.2 a1.1 a1.2.1 a1.2.2.1 a1.2.2.2 true W hp).mono fun e W' ⟨he, bel⟩ => ?_
  subst he
  exact ⟨_, rfl, _, _, _, [], _, [], hW', trodAll_mk1 (shut_bool Try.underlying4 _), (trodAll_cons_mk (Below.trod laidOut (by kernel_rfl) (of_decide_eq_true (by kernel_rfl)) keep0 bel lt0) (trodAll_cons_mk (Below.trod laidOut (by kernel_rfl) (of_decide_eq_true (by kernel_rfl)) keep1 bel lt1) trodAll_mk0)), rfl, bel.frame _, fun h => by cases h⟩
theorem over : Rows.blendOverRow.holds Try.pinned (OpenSpec.ofChange Rows.blendOverSpec) :=
  OpenClaim.holds_of_wide 6 Try.f6 rfl rfl rfl rfl rfl rfl rfl ⟨rfl, rfl, rfl, rfl, rfl⟩ rfl rfl rfl rfl rfl (by kernel_rfl) Try.func6 (by kernel_rfl)
    (of_decide_eq_true (by kernel_rfl)) (by unfold Func.isWrapper; first | (rw [if_pos (by decide +kernel)]; kernel_rfl) | (rw [if_neg (by decide +kernel)]; exact ⟨rfl, rfl⟩))
    (fun os started H enc _ => lifted os started H enc)
end Go.Proofs.YtgbneollfpmpkaaRR.blendOver
namespace Go.Proofs.YtgbneollfpmpkaaRR
theorem blendOver_holds : Rows.BlendOverSaid := blendOver.over
#print axioms blendOver_holds
end Go.Proofs.YtgbneollfpmpkaaRR
