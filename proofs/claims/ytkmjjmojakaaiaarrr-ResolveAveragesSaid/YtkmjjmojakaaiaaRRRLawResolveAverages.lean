/- ResolveAverages: the row of the law, over the printed contract of its code and the pure theorem. No condition beside the given statement's own. -/
import Derived.Test.YtkmjjmojakaaiaaRRRRows
import Derived.Test.YtkmjjmojakaaiaaRRROpen
import Derived.Test.YtkmjjmojakaaiaaRRRPureResolveAverages
import Derived.ProofKit
import Derived.OpenShut
import Derived.ShutString
import Derived.ChangeOld
import Derived.Carry
import Derived.Below
import Derived.SizedLaws
namespace Go.Proofs.YtkmjjmojakaaiaaRRR.resolveAverages
open Go.ChangeShapes Go.WideShapes Go.ChangeAt Go.RowKit Go.Proofs.YtkmjjmojakaaiaaRRRW.PrintWords Go.Proofs.YtkmjjmojakaaiaaRRR.Open
set_option linter.unusedVariables false
theorem own : ownKnob Try.prog.godebug = none := by kernel_rfl
theorem laidOut : laidOutB Try.prog = true := by kernel_rfl
theorem rq24 : Rd Try.prog (Kd.pair (Kd.int .i64) (Kd.pair (Kd.int .i64) (Kd.pair (Kd.int .i64) ((Kd.int .i64))))) (fun x => (fun a : Int => (Lit.int .i64 a).wf = true) x.1 ∧ (fun x => (fun a : Int => (Lit.int .i64 a).wf = true) x.1 ∧ (fun x => (fun a : Int => (Lit.int .i64 a).wf = true) x.1 ∧ ((fun a : Int => (Lit.int .i64 a).wf = true)) x.2) x.2) x.2) 24 := rd_struct Try.underlying24 (by kernel_rfl) (rdl_cons (rd_int (k := .i64) Try.underlying3) (by kernel_rfl) rfl (rdl_cons (rd_int (k := .i64) Try.underlying3) (by kernel_rfl) rfl (rdl_cons (rd_int (k := .i64) Try.underlying3) (by kernel_rfl) rfl (rdl_last (rd_int (k := .i64) Try.underlying3) (by kernel_rfl)))))
def os24 : PResolveAverages.S24 → Prop := fun b => (fun x => (fun a : Int => (Lit.int .i64 a).wf = true) x.1 ∧ (fun x => (fun a : Int => (Lit.int .i64 a).wf = true) x.1 ∧ (fun x => (fun a : Int => (Lit.int .i64 a).wf = true) x.1 ∧ ((fun a : Int => (Lit.int .i64 a).wf = true)) x.2) x.2) x.2) (b.f0, b.f1, b.f2, b.f3)
theorem rs24 : Rd Try.prog PResolveAverages.k24 os24 24 := rd_iso (fun a => ⟨a.1, a.2.1, a.2.2.1, a.2.2.2⟩) (fun _ => rfl) rq24
set_option maxRecDepth 100000 in
set_option maxHeartbeats 1000000 in
theorem lifted (os : Os) (started : os.Started) (H : Type) (enc : TypeId × Value → H) :
    ReturnsInHanded {} Try.checked os 3 .any (Rows.resolveAveragesSpec.pre6 enc Try.prog Try.f3 Rows.resolveAveragesRow.domain false) (Rows.resolveAveragesSpec.post enc Try.prog Try.f3 false true false false) := by
  refine returnsInHanded_of_change_sized (C := Try.checked) own started (by kernel_rfl) Try.func3
    (ChangeSpec.witness6 (enc := enc) (C := Try.checked) false ⟨#[], #[.slice none 0 0], []⟩ 8 (by kernel_rfl) (by kernel_rfl) (by kernel_rfl) (by kernel_rfl)) ?_
  intro W base args ds gs before hval0 hW hcnd hsz0 _
  have hsz : (DataW.weightsEach Try.prog (Try.f3.params.toList ++ Rows.resolveAveragesSpec.plain.varTypes Try.prog) (ds ++ gs)).all (· ≤ reachBytes) = true := hsz0
  have hval : ∀ (j : Nat) t v, Try.f3.params[j]? = some t → args[j]? = some v → Value.okWide Try.prog W .any base t v := hval0
  have hW' := hW
  obtain ⟨p, q, hA0, hV, rfl, hfz, hnd⟩ := hW
  have hA : DataW.TrodAll enc Try.prog W 0 (fun _ => true) true Try.f3.params.toList args.toList ds p := hA0
  rw [Try.params3] at hA hval hsz
  obtain ⟨v0, vs0, d0, ds0, p0, q0, hargs, rfl, rfl, h0, r0⟩ := trodAll_cons hA
  obtain ⟨rfl, rfl, rfl⟩ := trodAll_nil r0
  obtain rfl : args = #[v0] := by cases args; simp_all
  obtain ⟨rfl, rfl⟩ := trodVars_none hV
  have keep0 := h0
  have lt0 : ∀ x ∈ p0, x.block < W.heap.size := fun x hx => hW'.lt x (by simp [hx])
  obtain ⟨A0_, c0_, a0, rfl, hc0_, hm0, ok0, hC0_⟩ := Open.open_slice Try.underlying22 rs24 (by kernel_rfl) (hval 0 22 v0 rfl rfl) h0
  clear hA0 hval0 hsz0 hsz
  obtain ⟨k, hp⟩ := Pure.ResolveAverages a0
  refine (show Calls Try.prog 3 #[.slice A0_ a0.length c0_] W _ from PResolveAverages.frustumlaw41_ResolveAverages.calls k A0_ c0_ a0 true W hC0_ hc0_ hp).mono fun e W' ⟨he, bel⟩ => ?_
  subst he
  exact ⟨_, rfl, _, _, _, [], _, [], hW', trodAll_mk1 (shut_bool Try.underlying4 _), (trodAll_cons_mk (Below.trod laidOut (by kernel_rfl) (of_decide_eq_true (by kernel_rfl)) keep0 bel lt0) trodAll_mk0), rfl, bel.frame _, fun h => by cases h⟩
theorem over : Rows.resolveAveragesRow.holds Try.pinned (OpenSpec.ofChange Rows.resolveAveragesSpec) :=
  OpenClaim.holds_of_wide 3 Try.f3 rfl rfl rfl rfl rfl rfl rfl ⟨rfl, rfl, rfl, rfl, rfl⟩ rfl rfl rfl rfl rfl (by kernel_rfl) Try.func3 (by kernel_rfl)
    (of_decide_eq_true (by kernel_rfl)) (by unfold Func.isWrapper; first | (rw [if_pos (by decide +kernel)]; kernel_rfl) | (rw [if_neg (by decide +kernel)]; exact ⟨rfl, rfl⟩))
    (fun os started H enc _ => lifted os started H enc)
end Go.Proofs.YtkmjjmojakaaiaaRRR.resolveAverages
namespace Go.Proofs.YtkmjjmojakaaiaaRRR
theorem resolveAverages_holds : Rows.ResolveAveragesSaid := resolveAverages.over
#print axioms resolveAverages_holds
end Go.Proofs.YtkmjjmojakaaiaaRRR
