/- StencilValid: for every operation and stencil state, ValidOp and Valid return what the reference returns, and Face returns the state of the front or of the back. No condition. -/
import Derived.Test.YtcpphnecjeohnaaPStencilValidx3
import Derived.Laws.BitsLemmas
namespace Go.Proofs.Ytcpphnecjeohnaa.Pure
set_option linter.unusedVariables false
set_option linter.unusedSimpArgs false
open Go.RowKit Go.Proofs.Ytcpphnecjeohnaa.PStencilValid Go.Proofs.YtcpphnecjeohnaaW.PrintWords Go.Proofs.YtcpphnecjeohnaaW.PrintLast Go.Proofs.YtcpphnecjeohnaaW.PrintMore
theorem frustumlaw39_example_eq : frustumlaw39_example.f = some true := by decide +kernel
theorem vo (a : Int) : stencil_ValidOp.f a = frustumref39_ValidOp.f a := rfl
theorem vf (a b c d : Int) : stencil_validFace.f a b c d = frustumref39_validFace.f a b c d := rfl
theorem va (a0 : Bool) (a1 a2 a3 a4 a5 a6 a7 a8 a9 a10 a11 : Int) : stencil_Valid.f a0 a1 a2 a3 a4 a5 a6 a7 a8 a9 a10 a11 = frustumref39_Valid.f a0 a1 a2 a3 a4 a5 a6 a7 a8 a9 a10 a11 := rfl
theorem vo_some (a : Int) : ∃ r, frustumref39_ValidOp.f a = some r := by unfold frustumref39_ValidOp.f; split <;> exact ⟨_, rfl⟩
theorem vc_some (a : Int) : ∃ r, frustumref38_ValidCompare.f a = some r := by unfold frustumref38_ValidCompare.f; split <;> exact ⟨_, rfl⟩
theorem vb_some (a : Int) : ∃ r, frustumref39_octet.f a = some r := by unfold frustumref39_octet.f; split <;> exact ⟨_, rfl⟩
theorem vf_some (a b c d : Int) : ∃ r, frustumref39_validFace.f a b c d = some r := by
  unfold frustumref39_validFace.f
  obtain ⟨r1, h1⟩ := vc_some a
  obtain ⟨r2, h2⟩ := vo_some b
  obtain ⟨r3, h3⟩ := vo_some c
  obtain ⟨r4, h4⟩ := vo_some d
  simp only [h1, h2, h3, h4, Option.bind_some]
  (repeat' split) <;> exact ⟨_, rfl⟩
theorem va_some (a0 : Bool) (a1 a2 a3 a4 a5 a6 a7 a8 a9 a10 a11 : Int) : ∃ r, frustumref39_Valid.f a0 a1 a2 a3 a4 a5 a6 a7 a8 a9 a10 a11 = some r := by
  unfold frustumref39_Valid.f
  obtain ⟨r1, h1⟩ := vf_some a1 a2 a3 a4
  obtain ⟨r2, h2⟩ := vf_some a5 a6 a7 a8
  obtain ⟨r3, h3⟩ := vb_some a9
  obtain ⟨r4, h4⟩ := vb_some a10
  obtain ⟨r5, h5⟩ := vb_some a11
  simp only [h1, h2, h3, h4, h5, Option.bind_some]
  (repeat' split) <;> exact ⟨_, rfl⟩
theorem StencilValid (a0 : Int) (a1_0 : Bool) (a1_1 a1_2 a1_3 a1_4 a1_5 a1_6 a1_7 a1_8 a1_9 a1_10 a1_11 : Int) : ∃ k, frustumlaw39_StencilValid.f k a0 a1_0 a1_1 a1_2 a1_3 a1_4 a1_5 a1_6 a1_7 a1_8 a1_9 a1_10 a1_11 = some true := by
  refine ⟨10, ?_⟩
  obtain ⟨r1, h1⟩ := vo_some a0
  obtain ⟨r2, h2⟩ := va_some a1_0 a1_1 a1_2 a1_3 a1_4 a1_5 a1_6 a1_7 a1_8 a1_9 a1_10 a1_11
  simp [frustumlaw39_StencilValid.f, frustumlaw39_StencilValid.j0, stencil_Face.f, vo, va, h1, h2, frustumlaw39_example_eq]

end Go.Proofs.Ytcpphnecjeohnaa.Pure
