/- TargetNew: the row of the law, over the printed contract of its code and the pure theorem. No condition beside the given statement's own. -/
import Derived.Test.YtmpmennepjkocaaRows
import Derived.Test.YtmpmennepjkocaaOpen
import Derived.Test.YtmpmennepjkocaaPureTargetNew
import Derived.ProofKit
import Derived.OpenShut
import Derived.ShutString
import Derived.ChangeOld
import Derived.Carry
import Derived.Below
import Derived.SizedLaws
namespace Go.Proofs.Ytmpmennepjkocaa.targetNew
open Go.ChangeShapes Go.WideShapes Go.ChangeAt Go.RowKit Go.Proofs.YtmpmennepjkocaaW.PrintWords Go.Proofs.Ytmpmennepjkocaa.Open
set_option linter.unusedVariables false
theorem own : ownKnob Try.prog.godebug = none := by kernel_rfl
theorem laidOut : laidOutB Try.prog = true := by kernel_rfl
theorem rq47 : Rd Try.prog (Kd.pair (Kd.int .i64) (Kd.pair (Kd.int .i64) (Kd.pair (Kd.int .i64) ((Kd.slice 5 (Kd.int .u8)))))) (fun x => (fun a : Int => (Lit.int .i64 a).wf = true) x.1 ∧ (fun x => (fun a : Int => (Lit.int .i64 a).wf = true) x.1 ∧ (fun x => (fun a : Int => (Lit.int .i64 a).wf = true) x.1 ∧ ((fun xs => xs.length ≤ maxLen ∧ ∀ a, a ∈ xs → (fun a : Int => (Lit.int .u8 a).wf = true) a)) x.2) x.2) x.2) 47 := rd_struct Try.underlying47 (by kernel_rfl) (rdl_cons (rd_int (k := .i64) Try.underlying34) (by kernel_rfl) rfl (rdl_cons (rd_int (k := .i64) Try.underlying3) (by kernel_rfl) rfl (rdl_cons (rd_int (k := .i64) Try.underlying3) (by kernel_rfl) rfl (rdl_last (rd_slice Try.underlying45 (rd_int (k := .u8) Try.underlying5) (by kernel_rfl)) (by kernel_rfl)))))
def os47 : PTargetNew.S47 → Prop := fun b => (fun x => (fun a : Int => (Lit.int .i64 a).wf = true) x.1 ∧ (fun x => (fun a : Int => (Lit.int .i64 a).wf = true) x.1 ∧ (fun x => (fun a : Int => (Lit.int .i64 a).wf = true) x.1 ∧ ((fun xs => xs.length ≤ maxLen ∧ ∀ a, a ∈ xs → (fun a : Int => (Lit.int .u8 a).wf = true) a)) x.2) x.2) x.2) (b.f0, b.f1, b.f2, b.f3)
theorem rs47 : Rd Try.prog PTargetNew.k47 os47 47 := rd_iso (fun a => ⟨a.1, a.2.1, a.2.2.1, a.2.2.2⟩) (fun _ => rfl) rq47
abbrev T22 : Type := Int × Int × Int
def kt22 : Kd T22 := Kd.pair (Kd.int .i64) (Kd.pair (Kd.int .i64) ((Kd.int .i64)))
def ot22 : T22 → Prop := fun x => (fun a : Int => (Lit.int .i64 a).wf = true) x.1 ∧ (fun x => (fun a : Int => (Lit.int .i64 a).wf = true) x.1 ∧ ((fun a : Int => (Lit.int .i64 a).wf = true)) x.2) x.2
theorem rt22 : Rd Try.prog kt22 ot22 22 := rd_array Try.underlying22 (by kernel_rfl) (rdl_cons (rd_int (k := .i64) Try.underlying3) (by kernel_rfl) rfl (rdl_cons (rd_int (k := .i64) Try.underlying3) (by kernel_rfl) rfl (rdl_last (rd_int (k := .i64) Try.underlying3) (by kernel_rfl))))
abbrev T23 : Type := Int × Int
def kt23 : Kd T23 := Kd.pair (Kd.int .i64) ((Kd.int .i64))
def ot23 : T23 → Prop := fun x => (fun a : Int => (Lit.int .i64 a).wf = true) x.1 ∧ ((fun a : Int => (Lit.int .i64 a).wf = true)) x.2
theorem rt23 : Rd Try.prog kt23 ot23 23 := rd_array Try.underlying23 (by kernel_rfl) (rdl_cons (rd_int (k := .i64) Try.underlying3) (by kernel_rfl) rfl (rdl_last (rd_int (k := .i64) Try.underlying3) (by kernel_rfl)))
abbrev T28 : Type := Int × Int × Int × Int × (List PTargetNew.S47) × (List Int) × (List Int)
def kt28 : Kd T28 := Kd.pair (Kd.int .i64) (Kd.pair (Kd.int .i64) (Kd.pair (Kd.int .i64) (Kd.pair (Kd.int .i64) (Kd.pair (Kd.slice 47 PTargetNew.k47) (Kd.pair (Kd.slice 3 (Kd.int .i64)) ((Kd.slice 3 (Kd.int .i64))))))))
def ot28 : T28 → Prop := fun x => (fun a : Int => (Lit.int .i64 a).wf = true) x.1 ∧ (fun x => (fun a : Int => (Lit.int .i64 a).wf = true) x.1 ∧ (fun x => (fun a : Int => (Lit.int .i64 a).wf = true) x.1 ∧ (fun x => (fun a : Int => (Lit.int .i64 a).wf = true) x.1 ∧ (fun x => (fun xs => xs.length ≤ maxLen ∧ ∀ a, a ∈ xs → os47 a) x.1 ∧ (fun x => (fun xs => xs.length ≤ maxLen ∧ ∀ a, a ∈ xs → (fun a : Int => (Lit.int .i64 a).wf = true) a) x.1 ∧ ((fun xs => xs.length ≤ maxLen ∧ ∀ a, a ∈ xs → (fun a : Int => (Lit.int .i64 a).wf = true) a)) x.2) x.2) x.2) x.2) x.2) x.2
theorem rt28 : Rd Try.prog kt28 ot28 28 := rd_struct Try.underlying28 (by kernel_rfl) (rdl_cons (rd_int (k := .i64) Try.underlying3) (by kernel_rfl) rfl (rdl_cons (rd_int (k := .i64) Try.underlying3) (by kernel_rfl) rfl (rdl_cons (rd_int (k := .i64) Try.underlying3) (by kernel_rfl) rfl (rdl_cons (rd_int (k := .i64) Try.underlying24) (by kernel_rfl) rfl (rdl_cons (rd_slice Try.underlying25 rs47 (by kernel_rfl)) (by kernel_rfl) rfl (rdl_cons (rd_slice Try.underlying26 (rd_int (k := .i64) Try.underlying3) (by kernel_rfl)) (by kernel_rfl) rfl (rdl_last (rd_slice Try.underlying26 (rd_int (k := .i64) Try.underlying3) (by kernel_rfl)) (by kernel_rfl))))))))
set_option maxRecDepth 100000 in
set_option maxHeartbeats 1000000 in
theorem lifted (os : Os) (started : os.Started) (H : Type) (enc : TypeId × Value → H) :
    ReturnsInHanded {} Try.checked os 3 .any (Rows.targetNewSpec.pre6 enc Try.prog Try.f3 Rows.targetNewRow.domain false) (Rows.targetNewSpec.post enc Try.prog Try.f3 false true false false) := by
  refine returnsInHanded_of_change_sized (C := Try.checked) own started (by kernel_rfl) Try.func3
    (ChangeSpec.witness6 (enc := enc) (C := Try.checked) false ⟨#[], #[.agg #[.int .i64 0, .int .i64 0, .int .i64 0], .agg #[.int .i64 0, .int .i64 0], .agg #[.int .i64 0, .int .i64 0, .int .i64 0, .int .i64 0, .slice none 0 0, .slice none 0 0, .slice none 0 0]], []⟩ 8 (by kernel_rfl) (by kernel_rfl) (by kernel_rfl) (by kernel_rfl)) ?_
  intro W base args ds gs before hval0 hW hcnd hsz0 _
  have hsz : (DataW.weightsEach Try.prog (Try.f3.params.toList ++ Rows.targetNewSpec.plain.varTypes Try.prog) (ds ++ gs)).all (· ≤ reachBytes) = true := hsz0
  have hval : ∀ (j : Nat) t v, Try.f3.params[j]? = some t → args[j]? = some v → Value.okWide Try.prog W .any base t v := hval0
  have hW' := hW
  obtain ⟨p, q, hA0, hV, rfl, hfz, hnd⟩ := hW
  have hA : DataW.TrodAll enc Try.prog W 0 (fun _ => true) true Try.f3.params.toList args.toList ds p := hA0
  rw [Try.params3] at hA hval hsz
  obtain ⟨v0, vs0, d0, ds0, p0, q0, hargs, rfl, rfl, h0, r0⟩ := trodAll_cons hA
  obtain ⟨v1, vs1, d1, ds1, p1, q1, rfl, rfl, rfl, h1, r1⟩ := trodAll_cons r0
  obtain ⟨v2, vs2, d2, ds2, p2, q2, rfl, rfl, rfl, h2, r2⟩ := trodAll_cons r1
  obtain ⟨rfl, rfl, rfl⟩ := trodAll_nil r2
  obtain rfl : args = #[v0, v1, v2] := by cases args; simp_all
  obtain ⟨rfl, rfl⟩ := trodVars_none hV
  have keep0 := h0
  have lt0 : ∀ x ∈ p0, x.block < W.heap.size := fun x hx => hW'.lt x (by simp [hx])
  obtain ⟨cs0, a0, rfl, ok0, K0⟩ := Open.open_array Try.underlying22 rt22 (hval 0 22 v0 rfl rfl) h0
  obtain ⟨_, _, E0, rfl, ⟨_, _, rfl, rfl, rfl⟩⟩ := K0
  obtain rfl : cs0 = #[.int .i64 a0.1, .int .i64 a0.2.1, .int .i64 a0.2.2] := Open.arr_of E0
  have keep1 := h1
  have lt1 : ∀ x ∈ p1, x.block < W.heap.size := fun x hx => hW'.lt x (by simp [hx])
  obtain ⟨cs1, a1, rfl, ok1, K1⟩ := Open.open_array Try.underlying23 rt23 (hval 1 23 v1 rfl rfl) h1
  obtain ⟨_, _, E1, rfl, rfl⟩ := K1
  obtain rfl : cs1 = #[.int .i64 a1.1, .int .i64 a1.2] := Open.arr_of E1
  have keep2 := h2
  have lt2 : ∀ x ∈ p2, x.block < W.heap.size := fun x hx => hW'.lt x (by simp [hx])
  obtain ⟨cs2, a2, rfl, ok2, K2⟩ := Open.open_struct Try.underlying28 rt28 (hval 2 28 v2 rfl rfl) h2
  obtain ⟨_, _, E2, rfl, ⟨_, _, rfl, rfl, ⟨_, _, rfl, rfl, ⟨_, _, rfl, rfl, ⟨_, _, rfl, ⟨A1, c1, rfl, hc1, hC1⟩, ⟨_, _, rfl, ⟨A2, c2, rfl, hc2, hC2⟩, ⟨A3, c3, rfl, hc3, hC3⟩⟩⟩⟩⟩⟩⟩ := K2
  obtain rfl : cs2 = #[.int .i64 a2.1, .int .i64 a2.2.1, .int .i64 a2.2.2.1, .int .i64 a2.2.2.2.1, .slice A1 a2.2.2.2.2.1.length c1, .slice A2 a2.2.2.2.2.2.1.length c2, .slice A3 a2.2.2.2.2.2.2.length c3] := Open.arr_of E2
  clear hA0 hval0 hsz0 hsz
  skip
  refine (show Calls Try.prog 3 #[.agg #[.int .i64 a0.1, .int .i64 a0.2.1, .int .i64 a0.2.2], .agg #[.int .i64 a1.1, .int .i64 a1.2], .agg #[.int .i64 a2.1, .int .i64 a2.2.1, .int .i64 a2.2.2.1, .int .i64 a2.2.2.2.1, .slice A1 a2.2.2.2.2.1.length c1, .slice A2 a2.2.2.2.2.2.1.length c2, .slice A3 a2.2.2.2.2.2.2.length c3]] W _ from Pure.TargetNew a0.1 a0.2.1 a0.2.2 a1.1 a1.2 a2.1 a2.2.1 a2.2.2.1 a2.2.2.2.1 A1 c1 a2.2.2.2.2.1 A2 c2 a2.2.2.2.2.2.1 A3 c3 a2.2.2.2.2.2.2 W hC1 hc1 hC2 hc2 hC3 hc3 ok2.2.2.2.2.1.1 ok2.2.2.2.2.2.1.1 ok2.2.2.2.2.2.2.1).mono fun e W' ⟨he, bel⟩ => ?_
  subst he
  exact ⟨_, rfl, _, _, _, [], _, [], hW', trodAll_mk1 (shut_bool Try.underlying4 _), (trodAll_cons_mk (Below.trod laidOut (by kernel_rfl) (of_decide_eq_true (by kernel_rfl)) keep0 bel lt0) (trodAll_cons_mk (Below.trod laidOut (by kernel_rfl) (of_decide_eq_true (by kernel_rfl)) keep1 bel lt1) (trodAll_cons_mk (Below.trod laidOut (by kernel_rfl) (of_decide_eq_true (by kernel_rfl)) keep2 bel lt2) trodAll_mk0))), rfl, bel.frame _, fun h => by cases h⟩
theorem over : Rows.targetNewRow.holds Try.pinned (OpenSpec.ofChange Rows.targetNewSpec) :=
  OpenClaim.holds_of_wide 3 Try.f3 rfl rfl rfl rfl rfl rfl rfl ⟨rfl, rfl, rfl, rfl, rfl⟩ rfl rfl rfl rfl rfl (by kernel_rfl) Try.func3 (by kernel_rfl)
    (of_decide_eq_true (by kernel_rfl)) (by unfold Func.isWrapper; first | (rw [if_pos (by decide +kernel)]; kernel_rfl) | (rw [if_neg (by decide +kernel)]; exact ⟨rfl, rfl⟩))
    (fun os started H enc _ => lifted os started H enc)
end Go.Proofs.Ytmpmennepjkocaa.targetNew
namespace Go.Proofs.Ytmpmennepjkocaa
theorem targetNew_holds : Rows.TargetNewSaid := targetNew.over
#print axioms targetNew_holds
end Go.Proofs.Ytmpmennepjkocaa
