/- ResolveAverage: the row of the law, over the printed contract of its code and the pure theorem. No condition beside the given statement's own. -/
import Derived.Test.YtkmjjmojakaaiaaRRRRows
import Derived.Test.YtkmjjmojakaaiaaRRROpen
import Derived.Test.YtkmjjmojakaaiaaRRRPureResolveAverage
import Derived.ProofKit
import Derived.OpenShut
import Derived.ShutString
import Derived.ChangeOld
import Derived.Carry
import Derived.Below
import Derived.SizedLaws
namespace Go.Proofs.YtkmjjmojakaaiaaRRR.resolveAverage
open Go.ChangeShapes Go.WideShapes Go.ChangeAt Go.RowKit Go.Proofs.YtkmjjmojakaaiaaRRRW.PrintWords Go.Proofs.YtkmjjmojakaaiaaRRR.Open
set_option linter.unusedVariables false
theorem own : ownKnob Try.prog.godebug = none := by kernel_rfl
theorem laidOut : laidOutB Try.prog = true := by kernel_rfl
theorem rq24 : Rd Try.prog (Kd.pair (Kd.int .i64) (Kd.pair (Kd.int .i64) (Kd.pair (Kd.int .i64) ((Kd.int .i64))))) (fun x => (fun a : Int => (Lit.int .i64 a).wf = true) x.1 ∧ (fun x => (fun a : Int => (Lit.int .i64 a).wf = true) x.1 ∧ (fun x => (fun a : Int => (Lit.int .i64 a).wf = true) x.1 ∧ ((fun a : Int => (Lit.int .i64 a).wf = true)) x.2) x.2) x.2) 24 := rd_struct Try.underlying24 (by kernel_rfl) (rdl_cons (rd_int (k := .i64) Try.underlying3) (by kernel_rfl) rfl (rdl_cons (rd_int (k := .i64) Try.underlying3) (by kernel_rfl) rfl (rdl_cons (rd_int (k := .i64) Try.underlying3) (by kernel_rfl) rfl (rdl_last (rd_int (k := .i64) Try.underlying3) (by kernel_rfl)))))
def os24 : PResolveAverage.S24 → Prop := fun b => (fun x => (fun a : Int => (Lit.int .i64 a).wf = true) x.1 ∧ (fun x => (fun a : Int => (Lit.int .i64 a).wf = true) x.1 ∧ (fun x => (fun a : Int => (Lit.int .i64 a).wf = true) x.1 ∧ ((fun a : Int => (Lit.int .i64 a).wf = true)) x.2) x.2) x.2) (b.f0, b.f1, b.f2, b.f3)
theorem rs24 : Rd Try.prog PResolveAverage.k24 os24 24 := rd_iso (fun a => ⟨a.1, a.2.1, a.2.2.1, a.2.2.2⟩) (fun _ => rfl) rq24
set_option maxRecDepth 100000 in
set_option maxHeartbeats 1000000 in
theorem lifted (os : Os) (started : os.Started) (H : Type) (enc : TypeId × Value → H) :
    ReturnsInHanded {} Try.checked os 4 .any (Rows.resolveAverageSpec.pre6 enc Try.prog Try.f4 Rows.resolveAverageRow.domain false) (Rows.resolveAverageSpec.post enc Try.prog Try.f4 false true false false) := by
  refine returnsInHanded_of_change_sized (C := Try.checked) own started (by kernel_rfl) Try.func4
    (ChangeSpec.witness6 (enc := enc) (C := Try.checked) false ⟨#[], #[.slice none 0 0, .int .i64 0, .int .i64 0], []⟩ 8 (by kernel_rfl) (by kernel_rfl) (by kernel_rfl) (by kernel_rfl)) ?_
  intro W base args ds gs before hval0 hW hcnd hsz0 _
  have hsz : (DataW.weightsEach Try.prog (Try.f4.params.toList ++ Rows.resolveAverageSpec.plain.varTypes Try.prog) (ds ++ gs)).all (· ≤ reachBytes) = true := hsz0
  have hval : ∀ (j : Nat) t v, Try.f4.params[j]? = some t → args[j]? = some v → Value.okWide Try.prog W .any base t v := hval0
  have hW' := hW
  obtain ⟨p, q, hA0, hV, rfl, hfz, hnd⟩ := hW
  have hA : DataW.TrodAll enc Try.prog W 0 (fun _ => true) true Try.f4.params.toList args.toList ds p := hA0
  rw [Try.params4] at hA hval hsz
  obtain ⟨v0, vs0, d0, ds0, p0, q0, hargs, rfl, rfl, h0, r0⟩ := trodAll_cons hA
  obtain ⟨v1, vs1, d1, ds1, p1, q1, rfl, rfl, rfl, h1, r1⟩ := trodAll_cons r0
  obtain ⟨v2, vs2, d2, ds2, p2, q2, rfl, rfl, rfl, h2, r2⟩ := trodAll_cons r1
  obtain ⟨rfl, rfl, rfl⟩ := trodAll_nil r2
  obtain rfl : args = #[v0, v1, v2] := by cases args; simp_all
  obtain ⟨rfl, rfl⟩ := trodVars_none hV
  have keep0 := h0
  have lt0 : ∀ x ∈ p0, x.block < W.heap.size := fun x hx => hW'.lt x (by simp [hx])
  obtain ⟨A0_, c0_, a0, rfl, hc0_, hm0, ok0, hC0_⟩ := Open.open_slice Try.underlying22 rs24 (by kernel_rfl) (hval 0 22 v0 rfl rfl) h0
  obtain ⟨a1, rfl, rfl, rfl, w1⟩ := open_int Try.underlying3 (hval 1 3 v1 rfl rfl) h1
  obtain ⟨a2, rfl, rfl, rfl, w2⟩ := open_int Try.underlying3 (hval 2 3 v2 rfl rfl) h2
  clear hA0 hval0 hsz0 hsz
  obtain ⟨k, hp⟩ := Pure.ResolveAverage a0 a1 a2
  refine (show Calls Try.prog 4 #[.slice A0_ a0.length c0_, .int .i64 a1, .int .i64 a2] W _ from PResolveAverage.frustumlaw41_ResolveAverage.calls k A0_ c0_ a0 a1 a2 true W hC0_ hc0_ hp).mono fun e W' ⟨he, bel⟩ => ?_
  subst he
  exact ⟨_, rfl, _, _, _, [], _, [], hW', trodAll_mk1 (shut_bool Try.underlying4 _), (trodAll_cons_mk (Below.trod laidOut (by kernel_rfl) (of_decide_eq_true (by kernel_rfl)) keep0 bel lt0) (trodAll_cons_mk (shut_int Try.underlying3 w1) (trodAll_cons_mk (shut_int Try.underlying3 w2) trodAll_mk0))), rfl, bel.frame _, fun h => by cases h⟩
theorem over : Rows.resolveAverageRow.holds Try.pinned (OpenSpec.ofChange Rows.resolveAverageSpec) :=
  OpenClaim.holds_of_wide 4 Try.f4 rfl rfl rfl rfl rfl rfl rfl ⟨rfl, rfl, rfl, rfl, rfl⟩ rfl rfl rfl rfl rfl (by kernel_rfl) Try.func4 (by kernel_rfl)
    (of_decide_eq_true (by kernel_rfl)) (by unfold Func.isWrapper; first | (rw [if_pos (by decide +kernel)]; kernel_rfl) | (rw [if_neg (by decide +kernel)]; exact ⟨rfl, rfl⟩))
    (fun os started H enc _ => lifted os started H enc)
end Go.Proofs.YtkmjjmojakaaiaaRRR.resolveAverage
namespace Go.Proofs.YtkmjjmojakaaiaaRRR
theorem resolveAverage_holds : Rows.ResolveAverageSaid := resolveAverage.over
#print axioms resolveAverage_holds
end Go.Proofs.YtkmjjmojakaaiaaRRR
