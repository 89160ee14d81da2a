/- ResolveSame: the row of the law, over the printed contract of its code and the pure theorem. No condition beside the given statement's own. -/
import Derived.Test.YtkmjjmojakaaiaaRRRRows
import Derived.Test.YtkmjjmojakaaiaaRRROpen
import Derived.Test.YtkmjjmojakaaiaaRRRPureResolveSame
import Derived.ProofKit
import Derived.OpenShut
import Derived.ShutString
import Derived.ChangeOld
import Derived.Carry
import Derived.Below
import Derived.SizedLaws
namespace Go.Proofs.YtkmjjmojakaaiaaRRR.resolveSame
open Go.ChangeShapes Go.WideShapes Go.ChangeAt Go.RowKit Go.Proofs.YtkmjjmojakaaiaaRRRW.PrintWords Go.Proofs.YtkmjjmojakaaiaaRRR.Open
set_option linter.unusedVariables false
theorem own : ownKnob Try.prog.godebug = none := by kernel_rfl
theorem laidOut : laidOutB Try.prog = true := by kernel_rfl
abbrev T24 : Type := Int × Int × Int × Int
def kt24 : Kd T24 := Kd.pair (Kd.int .i64) (Kd.pair (Kd.int .i64) (Kd.pair (Kd.int .i64) ((Kd.int .i64))))
def ot24 : T24 → Prop := fun x => (fun a : Int => (Lit.int .i64 a).wf = true) x.1 ∧ (fun x => (fun a : Int => (Lit.int .i64 a).wf = true) x.1 ∧ (fun x => (fun a : Int => (Lit.int .i64 a).wf = true) x.1 ∧ ((fun a : Int => (Lit.int .i64 a).wf = true)) x.2) x.2) x.2
theorem rt24 : Rd Try.prog kt24 ot24 24 := rd_struct Try.underlying24 (by kernel_rfl) (rdl_cons (rd_int (k := .i64) Try.underlying3) (by kernel_rfl) rfl (rdl_cons (rd_int (k := .i64) Try.underlying3) (by kernel_rfl) rfl (rdl_cons (rd_int (k := .i64) Try.underlying3) (by kernel_rfl) rfl (rdl_last (rd_int (k := .i64) Try.underlying3) (by kernel_rfl)))))
set_option maxRecDepth 100000 in
set_option maxHeartbeats 1000000 in
theorem lifted (os : Os) (started : os.Started) (H : Type) (enc : TypeId × Value → H) :
    ReturnsInHanded {} Try.checked os 5 .any (Rows.resolveSameSpec.pre6 enc Try.prog Try.f5 Rows.resolveSameRow.domain false) (Rows.resolveSameSpec.post enc Try.prog Try.f5 false true false false) := by
  refine returnsInHanded_of_change_sized (C := Try.checked) own started (by kernel_rfl) Try.func5
    (ChangeSpec.witness6 (enc := enc) (C := Try.checked) false ⟨#[], #[.agg #[.int .i64 0, .int .i64 0, .int .i64 0, .int .i64 0], .int .i64 0], []⟩ 8 (by kernel_rfl) (by kernel_rfl) (by kernel_rfl) (by kernel_rfl)) ?_
  intro W base args ds gs before hval0 hW hcnd hsz0 _
  have hsz : (DataW.weightsEach Try.prog (Try.f5.params.toList ++ Rows.resolveSameSpec.plain.varTypes Try.prog) (ds ++ gs)).all (· ≤ reachBytes) = true := hsz0
  have hval : ∀ (j : Nat) t v, Try.f5.params[j]? = some t → args[j]? = some v → Value.okWide Try.prog W .any base t v := hval0
  have hW' := hW
  obtain ⟨p, q, hA0, hV, rfl, hfz, hnd⟩ := hW
  have hA : DataW.TrodAll enc Try.prog W 0 (fun _ => true) true Try.f5.params.toList args.toList ds p := hA0
  rw [Try.params5] at hA hval hsz
  obtain ⟨v0, vs0, d0, ds0, p0, q0, hargs, rfl, rfl, h0, r0⟩ := trodAll_cons hA
  obtain ⟨v1, vs1, d1, ds1, p1, q1, rfl, rfl, rfl, h1, r1⟩ := trodAll_cons r0
  obtain ⟨rfl, rfl, rfl⟩ := trodAll_nil r1
  obtain rfl : args = #[v0, v1] := by cases args; simp_all
  obtain ⟨rfl, rfl⟩ := trodVars_none hV
  have keep0 := h0
  have lt0 : ∀ x ∈ p0, x.block < W.heap.size := fun x hx => hW'.lt x (by simp [hx])
  obtain ⟨cs0, a0, rfl, ok0, K0⟩ := Open.open_struct Try.underlying24 rt24 (hval 0 24 v0 rfl rfl) h0
  obtain ⟨_, _, E0, rfl, ⟨_, _, rfl, rfl, ⟨_, _, rfl, rfl, rfl⟩⟩⟩ := K0
  obtain rfl : cs0 = #[.int .i64 a0.1, .int .i64 a0.2.1, .int .i64 a0.2.2.1, .int .i64 a0.2.2.2] := Open.arr_of E0
  obtain ⟨a1, rfl, rfl, rfl, w1⟩ := open_int Try.underlying3 (hval 1 3 v1 rfl rfl) h1
  clear hA0 hval0 hsz0 hsz
  obtain ⟨k, hp⟩ := Pure.ResolveSame a0.1 a0.2.1 a0.2.2.1 a0.2.2.2 a1
  refine (show Calls Try.prog 5 #[.agg #[.int .i64 a0.1, .int .i64 a0.2.1, .int .i64 a0.2.2.1, .int .i64 a0.2.2.2], .int .i64 a1] W _ from PResolveSame.frustumlaw41_ResolveSame.calls k a0.1 a0.2.1 a0.2.2.1 a0.2.2.2 a1 true W hp).mono fun e W' ⟨he, bel⟩ => ?_
  subst he
  exact ⟨_, rfl, _, _, _, [], _, [], hW', trodAll_mk1 (shut_bool Try.underlying4 _), (trodAll_cons_mk (Below.trod laidOut (by kernel_rfl) (of_decide_eq_true (by kernel_rfl)) keep0 bel lt0) (trodAll_cons_mk (shut_int Try.underlying3 w1) trodAll_mk0)), rfl, bel.frame _, fun h => by cases h⟩
theorem over : Rows.resolveSameRow.holds Try.pinned (OpenSpec.ofChange Rows.resolveSameSpec) :=
  OpenClaim.holds_of_wide 5 Try.f5 rfl rfl rfl rfl rfl rfl rfl ⟨rfl, rfl, rfl, rfl, rfl⟩ rfl rfl rfl rfl rfl (by kernel_rfl) Try.func5 (by kernel_rfl)
    (of_decide_eq_true (by kernel_rfl)) (by unfold Func.isWrapper; first | (rw [if_pos (by decide +kernel)]; kernel_rfl) | (rw [if_neg (by decide +kernel)]; exact ⟨rfl, rfl⟩))
    (fun os started H enc _ => lifted os started H enc)
end Go.Proofs.YtkmjjmojakaaiaaRRR.resolveSame
namespace Go.Proofs.YtkmjjmojakaaiaaRRR
theorem resolveSame_holds : Rows.ResolveSameSaid := resolveSame.over
#print axioms resolveSame_holds
end Go.Proofs.YtkmjjmojakaaiaaRRR
