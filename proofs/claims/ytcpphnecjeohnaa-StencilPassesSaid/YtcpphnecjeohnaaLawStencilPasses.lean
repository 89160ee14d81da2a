/- StencilPasses: the row of the law, over the printed contract of its code and the pure theorem. No condition beside the given statement's own. -/
import Derived.Test.YtcpphnecjeohnaaRows
import Derived.Test.YtcpphnecjeohnaaOpen
import Derived.Test.YtcpphnecjeohnaaPureStencilPasses
import Derived.ProofKit
import Derived.OpenShut
import Derived.ShutString
import Derived.ChangeOld
import Derived.Carry
import Derived.Below
import Derived.SizedLaws
namespace Go.Proofs.Ytcpphnecjeohnaa.stencilPasses
open Go.ChangeShapes Go.WideShapes Go.ChangeAt Go.RowKit Go.Proofs.YtcpphnecjeohnaaW.PrintWords Go.Proofs.Ytcpphnecjeohnaa.Open
set_option linter.unusedVariables false
theorem own : ownKnob Try.prog.godebug = none := by kernel_rfl
theorem laidOut : laidOutB Try.prog = true := by kernel_rfl
abbrev T44 : Type := Int × Int × Int × Int
def kt44 : Kd T44 := Kd.pair (Kd.int .i64) (Kd.pair (Kd.int .i64) (Kd.pair (Kd.int .i64) ((Kd.int .i64))))
def ot44 : T44 → Prop := fun x => (fun a : Int => (Lit.int .i64 a).wf = true) x.1 ∧ (fun x => (fun a : Int => (Lit.int .i64 a).wf = true) x.1 ∧ (fun x => (fun a : Int => (Lit.int .i64 a).wf = true) x.1 ∧ ((fun a : Int => (Lit.int .i64 a).wf = true)) x.2) x.2) x.2
theorem rt44 : Rd Try.prog kt44 ot44 44 := rd_struct Try.underlying44 (by kernel_rfl) (rdl_cons (rd_int (k := .i64) Try.underlying28) (by kernel_rfl) rfl (rdl_cons (rd_int (k := .i64) Try.underlying40) (by kernel_rfl) rfl (rdl_cons (rd_int (k := .i64) Try.underlying40) (by kernel_rfl) rfl (rdl_last (rd_int (k := .i64) Try.underlying40) (by kernel_rfl)))))
abbrev T46 : Type := Bool × T44 × T44 × Int × Int × Int
def kt46 : Kd T46 := Kd.pair Kd.bool (Kd.pair kt44 (Kd.pair kt44 (Kd.pair (Kd.int .i64) (Kd.pair (Kd.int .i64) ((Kd.int .i64))))))
def ot46 : T46 → Prop := fun x => (fun _ : Bool => True) x.1 ∧ (fun x => ot44 x.1 ∧ (fun x => ot44 x.1 ∧ (fun x => (fun a : Int => (Lit.int .i64 a).wf = true) x.1 ∧ (fun x => (fun a : Int => (Lit.int .i64 a).wf = true) x.1 ∧ ((fun a : Int => (Lit.int .i64 a).wf = true)) x.2) x.2) x.2) x.2) x.2
theorem rt46 : Rd Try.prog kt46 ot46 46 := rd_struct Try.underlying46 (by kernel_rfl) (rdl_cons (rd_bool Try.underlying4) (by kernel_rfl) rfl (rdl_cons rt44 (by kernel_rfl) rfl (rdl_cons rt44 (by kernel_rfl) rfl (rdl_cons (rd_int (k := .i64) Try.underlying3) (by kernel_rfl) rfl (rdl_cons (rd_int (k := .i64) Try.underlying3) (by kernel_rfl) rfl (rdl_last (rd_int (k := .i64) Try.underlying3) (by kernel_rfl)))))))
abbrev T52 : Type := T46 × Bool × Int × Bool × Bool
def kt52 : Kd T52 := Kd.pair kt46 (Kd.pair Kd.bool (Kd.pair (Kd.int .i64) (Kd.pair Kd.bool (Kd.bool))))
def ot52 : T52 → Prop := fun x => ot46 x.1 ∧ (fun x => (fun _ : Bool => True) x.1 ∧ (fun x => (fun a : Int => (Lit.int .i64 a).wf = true) x.1 ∧ (fun x => (fun _ : Bool => True) x.1 ∧ ((fun _ : Bool => True)) x.2) x.2) x.2) x.2
theorem rt52 : Rd Try.prog kt52 ot52 52 := rd_struct Try.underlying52 (by kernel_rfl) (rdl_cons rt46 (by kernel_rfl) rfl (rdl_cons (rd_bool Try.underlying4) (by kernel_rfl) rfl (rdl_cons (rd_int (k := .i64) Try.underlying3) (by kernel_rfl) rfl (rdl_cons (rd_bool Try.underlying4) (by kernel_rfl) rfl (rdl_last (rd_bool Try.underlying4) (by kernel_rfl))))))
set_option maxRecDepth 100000 in
set_option maxHeartbeats 1000000 in
theorem lifted (os : Os) (started : os.Started) (H : Type) (enc : TypeId × Value → H) :
    ReturnsInHanded {} Try.checked os 14 .any (Rows.stencilPassesSpec.pre6 enc Try.prog Try.f14 Rows.stencilPassesRow.domain false) (Rows.stencilPassesSpec.post enc Try.prog Try.f14 false true false false) := by
  refine returnsInHanded_of_change_sized (C := Try.checked) own started (by kernel_rfl) Try.func14
    (ChangeSpec.witness6 (enc := enc) (C := Try.checked) false ⟨#[], #[.agg #[.bool false, .int .i64 0, .int .i64 0, .int .i64 0, .int .i64 0, .int .i64 0, .int .i64 0, .int .i64 0, .int .i64 0, .int .i64 0, .int .i64 0, .int .i64 0, .bool false, .int .i64 0, .bool false, .bool false]], []⟩ 8 (by kernel_rfl) (by kernel_rfl) (by kernel_rfl) (by kernel_rfl)) ?_
  intro W base args ds gs before hval0 hW hcnd hsz0 _
  have hsz : (DataW.weightsEach Try.prog (Try.f14.params.toList ++ Rows.stencilPassesSpec.plain.varTypes Try.prog) (ds ++ gs)).all (· ≤ reachBytes) = true := hsz0
  have hval : ∀ (j : Nat) t v, Try.f14.params[j]? = some t → args[j]? = some v → Value.okWide Try.prog W .any base t v := hval0
  have hW' := hW
  obtain ⟨p, q, hA0, hV, rfl, hfz, hnd⟩ := hW
  have hA : DataW.TrodAll enc Try.prog W 0 (fun _ => true) true Try.f14.params.toList args.toList ds p := hA0
  rw [Try.params14] at hA hval hsz
  obtain ⟨v0, vs0, d0, ds0, p0, q0, hargs, rfl, rfl, h0, r0⟩ := trodAll_cons hA
  obtain ⟨rfl, rfl, rfl⟩ := trodAll_nil r0
  obtain rfl : args = #[v0] := by cases args; simp_all
  obtain ⟨rfl, rfl⟩ := trodVars_none hV
  have keep0 := h0
  have lt0 : ∀ x ∈ p0, x.block < W.heap.size := fun x hx => hW'.lt x (by simp [hx])
  obtain ⟨cs0, a0, rfl, ok0, K0⟩ := Open.open_struct Try.underlying52 rt52 (hval 0 52 v0 rfl rfl) h0
  obtain ⟨_, _, E0, ⟨_, _, rfl, rfl, ⟨_, _, rfl, ⟨_, _, rfl, rfl, ⟨_, _, rfl, rfl, ⟨_, _, rfl, rfl, rfl⟩⟩⟩, ⟨_, _, rfl, ⟨_, _, rfl, rfl, ⟨_, _, rfl, rfl, ⟨_, _, rfl, rfl, rfl⟩⟩⟩, ⟨_, _, rfl, rfl, ⟨_, _, rfl, rfl, rfl⟩⟩⟩⟩⟩, ⟨_, _, rfl, rfl, ⟨_, _, rfl, rfl, ⟨_, _, rfl, rfl, rfl⟩⟩⟩⟩ := K0
  obtain rfl : cs0 = #[.bool a0.1.1, .int .i64 a0.1.2.1.1, .int .i64 a0.1.2.1.2.1, .int .i64 a0.1.2.1.2.2.1, .int .i64 a0.1.2.1.2.2.2, .int .i64 a0.1.2.2.1.1, .int .i64 a0.1.2.2.1.2.1, .int .i64 a0.1.2.2.1.2.2.1, .int .i64 a0.1.2.2.1.2.2.2, .int .i64 a0.1.2.2.2.1, .int .i64 a0.1.2.2.2.2.1, .int .i64 a0.1.2.2.2.2.2, .bool a0.2.1, .int .i64 a0.2.2.1, .bool a0.2.2.2.1, .bool a0.2.2.2.2] := Open.arr_of E0
  clear hA0 hval0 hsz0 hsz
  skip
  refine (show Calls Try.prog 14 #[.agg #[.bool a0.1.1, .int .i64 a0.1.2.1.1, .int .i64 a0.1.2.1.2.1, .int .i64 a0.1.2.1.2.2.1, .int .i64 a0.1.2.1.2.2.2, .int .i64 a0.1.2.2.1.1, .int .i64 a0.1.2.2.1.2.1, .int .i64 a0.1.2.2.1.2.2.1, .int .i64 a0.1.2.2.1.2.2.2, .int .i64 a0.1.2.2.2.1, .int .i64 a0.1.2.2.2.2.1, .int .i64 a0.1.2.2.2.2.2, .bool a0.2.1, .int .i64 a0.2.2.1, .bool a0.2.2.2.1, .bool a0.2.2.2.2]] W _ from Pure.StencilPasses_calls a0.1.1 a0.1.2.1.1 a0.1.2.1.2.1 a0.1.2.1.2.2.1 a0.1.2.1.2.2.2 a0.1.2.2.1.1 a0.1.2.2.1.2.1 a0.1.2.2.1.2.2.1 a0.1.2.2.1.2.2.2 a0.1.2.2.2.1 a0.1.2.2.2.2.1 a0.1.2.2.2.2.2 a0.2.1 a0.2.2.1 a0.2.2.2.1 a0.2.2.2.2 W).mono fun e W' ⟨he, bel⟩ => ?_
  subst he
  exact ⟨_, rfl, _, _, _, [], _, [], hW', trodAll_mk1 (shut_bool Try.underlying4 _), (trodAll_cons_mk (Below.trod laidOut (by kernel_rfl) (of_decide_eq_true (by kernel_rfl)) keep0 bel lt0) trodAll_mk0), rfl, bel.frame _, fun h => by cases h⟩
theorem over : Rows.stencilPassesRow.holds Try.pinned (OpenSpec.ofChange Rows.stencilPassesSpec) :=
  OpenClaim.holds_of_wide 14 Try.f14 rfl rfl rfl rfl rfl rfl rfl ⟨rfl, rfl, rfl, rfl, rfl⟩ rfl rfl rfl rfl rfl (by kernel_rfl) Try.func14 (by kernel_rfl)
    (of_decide_eq_true (by kernel_rfl)) (by unfold Func.isWrapper; first | (rw [if_pos (by decide +kernel)]; kernel_rfl) | (rw [if_neg (by decide +kernel)]; exact ⟨rfl, rfl⟩))
    (fun os started H enc _ => lifted os started H enc)
end Go.Proofs.Ytcpphnecjeohnaa.stencilPasses
namespace Go.Proofs.Ytcpphnecjeohnaa
theorem stencilPasses_holds : Rows.StencilPassesSaid := stencilPasses.over
#print axioms stencilPasses_holds
end Go.Proofs.Ytcpphnecjeohnaa
