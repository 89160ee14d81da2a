/- BlendEquation: walks. -/
import Derived.Test.YtgbneollfpmpkaaRRXBlendEquationa
namespace Go.Proofs.YtgbneollfpmpkaaRR.PBlendEquation
open Go.RowKit Go.Proofs.YtgbneollfpmpkaaRRW.PrintWords Go.Proofs.YtgbneollfpmpkaaRRW.PrintLast Go.Proofs.YtgbneollfpmpkaaRRW.PrintMore
attribute [local go_sem] max2_int min2_int max_two min_two max_three min_three max_four min_four
set_option linter.unusedVariables false
set_option linter.unusedSimpArgs false

/-! ### blend_Blend: function 9 -/
def blend_Blend.f (k : Nat) (a0_0 : Bool) (a0_1 : Int) (a0_2 : Int) (a0_3 : Int) (a0_4 : Int) (a0_5 : Int) (a0_6 : Int) (a0_7 : Int) (a1_0 : Int) (a1_1 : Int) (a1_2 : Int) (a1_3 : Int) (a2_0 : Int) (a2_1 : Int) (a2_2 : Int) (a2_3 : Int) : Option (Int × Int × Int × Int) := if a0_0 = true then ((blend_Factor.f a0_1 a1_0 a1_1 a1_2 a1_3 a2_0 a2_1 a2_2 a2_3).bind fun bt252 => ((blend_Factor.f a0_2 a1_0 a1_1 a1_2 a1_3 a2_0 a2_1 a2_2 a2_3).bind fun bt256 => ((blend_Factor.f a0_4 a1_0 a1_1 a1_2 a1_3 a2_0 a2_1 a2_2 a2_3).bind fun bt262 => ((blend_Factor.f a0_5 a1_0 a1_1 a1_2 a1_3 a2_0 a2_1 a2_2 a2_3).bind fun bt266 => ((blend_Combine.f k a0_3 a1_0 bt252.1 a2_0 bt256.1).bind fun t272 => ((blend_Combine.f k a0_3 a1_1 bt252.2.1 a2_1 bt256.2.1).bind fun t273 => ((blend_Combine.f k a0_3 a1_2 bt252.2.2.1 a2_2 bt256.2.2.1).bind fun t274 => ((blend_Combine.f k a0_6 a1_3 bt262.2.2.2 a2_3 bt266.2.2.2).bind fun t275 => (some (t272, t273, t274, t275)))))))))) else ((fixed_Saturate.f a1_0).bind fun t248 => ((fixed_Saturate.f a1_1).bind fun t249 => ((fixed_Saturate.f a1_2).bind fun t250 => ((fixed_Saturate.f a1_3).bind fun t251 => (some (t248, t249, t250, t251))))))
theorem blend_Blend.mono : ∀ a0 a1 a2 a3 a4 a5 a6 a7 a8 a9 a10 a11 a12 a13 a14 a15 k, LeO (blend_Blend.f k a0 a1 a2 a3 a4 a5 a6 a7 a8 a9 a10 a11 a12 a13 a14 a15) (blend_Blend.f (k + 1) a0 a1 a2 a3 a4 a5 a6 a7 a8 a9 a10 a11 a12 a13 a14 a15) := by
 intro a0 a1 a2 a3 a4 a5 a6 a7 a8 a9 a10 a11 a12 a13 a14 a15 k
 unfold blend_Blend.f
 repeat' first
   | (with_reducible exact blend_Combine.mono _ _ _ _ _ _)
   | (with_reducible exact LeO.refl _)
   | (with_reducible exact LeO.none _)
   | (with_reducible refine LeO.ite ?_ ?_)
   | (with_reducible refine LeO.bind ?_ (fun _ => ?_))
   | exact blend_Combine.mono _ _ _ _ _ _
   | exact LeO.none _
   | refine LeO.ite ?_ ?_
   | refine LeO.bind ?_ (fun _ => ?_)
def blend_Blend.T2 : Bool × List (List Nat × List Nat) := (true, [([], []), ([0], [0]), ([1], [1]), ([], []), ([3], [3]), ([4, 2], [4]), ([], []), ([6], [6]), ([7, 5], [7]), ([], []), ([9], [9]), ([10, 8], [10]), ([2, 5, 8, 11], [2, 5, 8, 11]), ([12, 11, 0, 1, 2, 3, 4, 5, 6, 7, 8, 9, 10, 11, 12], [12])])
def blend_Blend.B2 : List Nat := [0, 1, 3, 0, 8, 31, 0, 64, 255, 0, 512, 2047, 4095, 8191]
theorem blend_Blend.tab2 : rtab .any (opsOf Try.f9 2) = blend_Blend.T2 := by kernel_rfl
theorem blend_Blend.bits2 : waitsOk blend_Blend.T2.2 blend_Blend.B2 = true := by kernel_rfl
def blend_Blend.T3 : Bool × List (List Nat × List Nat) := (true, [([], []), ([0], [0]), ([], []), ([], []), ([1, 2, 3], [1, 2, 3]), ([], []), ([5], [5]), ([], []), ([], []), ([6, 7, 8, 4], [6, 7, 8]), ([], []), ([], []), ([10, 4, 9, 0, 1, 2, 3, 4, 10, 11], [4, 10]), ([11, 9, 12, 0, 1, 2, 3, 4, 5, 6, 7, 8, 9, 10, 11, 12], [9, 11])])
def blend_Blend.B3 : List Nat := [0, 1, 0, 0, 15, 0, 32, 0, 0, 511, 0, 0, 4095, 8191]
theorem blend_Blend.tab3 : rtab .any (opsOf Try.f9 3) = blend_Blend.T3 := by kernel_rfl
theorem blend_Blend.bits3 : waitsOk blend_Blend.T3.2 blend_Blend.B3 = true := by kernel_rfl
def blend_Blend.T4 : Bool × List (List Nat × List Nat) := (true, [([], []), ([0], [0]), ([], []), ([], []), ([1, 2, 3], [1, 2, 3]), ([], []), ([5], [5]), ([], []), ([], []), ([6, 7, 8, 4], [6, 7, 8]), ([], []), ([], []), ([10, 4, 9, 0, 1, 2, 3, 4, 10, 11], [4, 10]), ([11, 9, 12, 0, 1, 2, 3, 4, 5, 6, 7, 8, 9, 10, 11, 12], [9, 11])])
def blend_Blend.B4 : List Nat := [0, 1, 0, 0, 15, 0, 32, 0, 0, 511, 0, 0, 4095, 8191]
theorem blend_Blend.tab4 : rtab .any (opsOf Try.f9 4) = blend_Blend.T4 := by kernel_rfl
theorem blend_Blend.bits4 : waitsOk blend_Blend.T4.2 blend_Blend.B4 = true := by kernel_rfl
def blend_Blend.T5 : Bool × List (List Nat × List Nat) := (true, [([], []), ([0], [0]), ([], []), ([2], [2]), ([], []), ([4], [4]), ([], []), ([6], [6]), ([], []), ([8], [8]), ([1, 3, 5, 7, 9], [1, 3, 5, 7, 9]), ([], []), ([11], [11]), ([], []), ([13], [13]), ([], []), ([15], [15]), ([], []), ([17], [17]), ([], []), ([19], [19]), ([12, 14, 16, 18, 20, 10], [12, 14, 16, 18, 20]), ([], []), ([22], [22]), ([], []), ([24], [24]), ([], []), ([26], [26]), ([], []), ([28], [28]), ([], []), ([30], [30]), ([23, 25, 27, 29, 31, 21], [23, 25, 27, 29, 31]), ([], []), ([33], [33]), ([], []), ([35], [35]), ([], []), ([37], [37]), ([], []), ([39], [39]), ([], []), ([41], [41]), ([34, 36, 38, 40, 42, 32], [34, 36, 38, 40, 42]), ([10, 21, 32, 43], [10, 21, 32, 43]), ([44, 43, 0, 1, 2, 3, 4, 5, 6, 7, 8, 9, 10, 11, 12, 13, 14, 15, 16, 17, 18, 19, 20, 21, 22, 23, 24, 25, 26, 27, 28, 29, 30, 31, 32, 33, 34, 35, 36, 37, 38, 39, 40, 41, 42, 43, 44], [44])])
def blend_Blend.B5 : List Nat := [0, 1, 0, 4, 0, 16, 0, 64, 0, 256, 1023, 0, 2048, 0, 8192, 0, 32768, 0, 131072, 0, 524288, 2097151, 0, 4194304, 0, 16777216, 0, 67108864, 0, 268435456, 0, 1073741824, 4294967295, 0, 8589934592, 0, 34359738368, 0, 137438953472, 0, 549755813888, 0, 2199023255552, 8796093022207, 17592186044415, 35184372088831]
theorem blend_Blend.tab5 : rtab .any (opsOf Try.f9 5) = blend_Blend.T5 := by kernel_rfl
theorem blend_Blend.bits5 : waitsOk blend_Blend.T5.2 blend_Blend.B5 = true := by kernel_rfl

end Go.Proofs.YtgbneollfpmpkaaRR.PBlendEquation
