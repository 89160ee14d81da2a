/- StencilInverse: for every operation, value and reference: the wrapping operations invert each other, inverting twice restores a value, the saturating operations differ from the wrapping ones only at the ends, and every result is from 0 to 255. No condition. -/
import Derived.Test.YtcpphnecjeohnaaPStencilInversex1
import Derived.Laws.BitsLemmas
namespace Go.Proofs.Ytcpphnecjeohnaa.Pure
set_option linter.unusedVariables false
set_option linter.unusedSimpArgs false
open Go.RowKit Go.Proofs.Ytcpphnecjeohnaa.PStencilInverse Go.Proofs.YtcpphnecjeohnaaW.PrintWords Go.Proofs.YtcpphnecjeohnaaW.PrintLast Go.Proofs.YtcpphnecjeohnaaW.PrintMore
/-! numbers -/
theorem and_mask (j : Nat) (hj : j ≤ 63) (n : Int) : Go.bits .and .i64 n (2 ^ j - 1) = n % 2 ^ j := by
  have hp : (2 : Nat) ^ j ≤ 2 ^ 63 := Nat.pow_le_pow_right (by decide) hj
  have hpos : 0 < (2 : Nat) ^ j := Nat.two_pow_pos j
  have hm : (BitVec.ofInt 64 ((2 : Int) ^ j - 1)).toNat = 2 ^ j - 1 := by
    have hc : ((2 : Int) ^ j - 1) = ((2 ^ j - 1 : Nat) : Int) := by rw [Int.natCast_sub hpos]; simp
    rw [hc, BitVec.ofInt_natCast, BitVec.toNat_ofNat]
    exact Nat.mod_eq_of_lt (by omega)
  have key : (BitVec.ofInt 64 n &&& BitVec.ofInt 64 ((2 : Int) ^ j - 1)).toNat = (n % ((2 ^ 64 : Nat) : Int)).toNat % 2 ^ j := by
    rw [BitVec.toNat_and, BitVec.toNat_ofInt, hm, Nat.and_two_pow_sub_one_eq_mod]
  show IntKind.i64.wrap ((BitVec.ofInt 64 n &&& BitVec.ofInt 64 ((2 : Int) ^ j - 1)).toNat : Nat) = n % 2 ^ j
  rw [key, Go.IntKind.wrap_i64]
  have hlt := Nat.mod_lt (n % ((2 ^ 64 : Nat) : Int)).toNat hpos
  have h1 : (((n % ((2 ^ 64 : Nat) : Int)).toNat % 2 ^ j : Nat) : Int) = n % 2 ^ j := by
    rw [Int.natCast_emod, Int.toNat_of_nonneg (Int.emod_nonneg _ (by decide))]
    rw [Int.natCast_pow]
    refine Int.emod_emod_of_dvd n ?_
    have : (2 : Int) ^ 64 = 2 ^ j * 2 ^ (64 - j) := by rw [← Int.pow_add]; congr 1; omega
    exact ⟨2 ^ (64 - j), by exact_mod_cast this⟩
  rw [← h1]
  omega
theorem and255 (n : Int) : Go.bits .and .i64 n 255 = n % 256 := and_mask 8 (by decide) n
theorem bits_i64_nat (a b : Nat) (ha : a < 2 ^ 63) (hb : b < 2 ^ 63) : Go.bits .and .i64 a b = ((a &&& b : Nat) : Int) ∧ Go.bits .or .i64 a b = ((a ||| b : Nat) : Int) :=
  Go.bits_nat .i64 63 (by decide) (fun n h0 h1 => by rw [Go.IntKind.wrap_i64]; omega) a b ha hb
/-- only the lowest bits count where the mask is small. -/
theorem and_low (j : Nat) (hj : j ≤ 63) (n m : Int) (h0 : 0 ≤ m) (h1 : m < 2 ^ j) : Go.bits .and .i64 n m = Go.bits .and .i64 (n % 2 ^ j) m := by
  obtain ⟨b, rfl⟩ := Int.eq_ofNat_of_zero_le h0
  have hb : b < 2 ^ j := by exact_mod_cast h1
  have hp : (2 : Nat) ^ j ≤ 2 ^ 63 := Nat.pow_le_pow_right (by decide) hj
  have hpos : 0 < (2 : Nat) ^ j := Nat.two_pow_pos j
  have hmm : ∀ x : Nat, x &&& b = (x % 2 ^ j) &&& b := by
    intro x
    rw [← Nat.and_two_pow_sub_one_eq_mod, Nat.and_assoc]
    congr 1
    rw [Nat.and_comm, Nat.and_two_pow_sub_one_eq_mod, Nat.mod_eq_of_lt hb]
  show IntKind.i64.wrap ((BitVec.ofInt 64 n &&& BitVec.ofInt 64 (b : Int)).toNat : Nat) = IntKind.i64.wrap ((BitVec.ofInt 64 (n % 2 ^ j) &&& BitVec.ofInt 64 (b : Int)).toNat : Nat)
  rw [BitVec.toNat_and, BitVec.toNat_and, BitVec.ofInt_natCast, BitVec.toNat_ofNat, Nat.mod_eq_of_lt (show b < 2 ^ 64 by omega), BitVec.toNat_ofInt, BitVec.toNat_ofInt]
  rw [hmm, hmm ((n % 2 ^ j) % ((2 ^ 64 : Nat) : Int)).toNat]
  congr 3
  have e : ∀ z : Int, ((z % ((2 ^ 64 : Nat) : Int)).toNat % 2 ^ j : Nat) = (z % 2 ^ j).toNat := by
    intro z
    have h1 : (((z % ((2 ^ 64 : Nat) : Int)).toNat % 2 ^ j : Nat) : Int) = z % 2 ^ j := by
      rw [Int.natCast_emod, Int.toNat_of_nonneg (Int.emod_nonneg _ (by decide)), Int.natCast_pow]
      refine Int.emod_emod_of_dvd z ?_
      have : (2 : Int) ^ 64 = 2 ^ j * 2 ^ (64 - j) := by rw [← Int.pow_add]; congr 1; omega
      exact ⟨2 ^ (64 - j), by exact_mod_cast this⟩
    omega
  rw [e, e, Int.emod_emod_of_dvd n (Int.dvd_refl _)]
theorem wrap_in (x : Int) (h0 : -9223372036854775808 ≤ x) (h1 : x ≤ 9223372036854775807) : wrap64 x = x := by unfold wrap64; omega
theorem wf_bounds {a : Int} (h : (Lit.int .i64 a).wf = true) : -9223372036854775808 ≤ a ∧ a ≤ 9223372036854775807 := by
  simpa [Lit.wf, IntKind.min, IntKind.max, IntKind.signed, IntKind.bits] using h
theorem u64_wrap (x : Int) : IntKind.u64.wrap x = x % 18446744073709551616 := by simp [IntKind.wrap, IntKind.bits, IntKind.signed]
def sApply (op v r : Int) : Int :=
  if op = 2 then 0 else if op = 3 then r % 256 else if op = 4 then mn 255 (v % 256 + 1) else if op = 5 then mx 0 (v % 256 - 1) else if op = 6 then 255 - v % 256 else if op = 7 then (v % 256 + 1) % 256 else if op = 8 then (v % 256 - 1) % 256 else v % 256
theorem sApply_range (op v r : Int) : 0 ≤ sApply op v r ∧ sApply op v r ≤ 255 := by unfold sApply mn mx; (repeat' split) <;> omega
theorem wrap_mod (n : Int) : wrap64 (Int.tmod n 256 + 256) = Int.tmod n 256 + 256 := by
  have h := Int.tmod_lt_of_pos n (show (0 : Int) < 256 by decide)
  have h2 : -256 < Int.tmod n 256 := Int.lt_tmod_of_pos n (by decide)
  exact wrap_in _ (by omega) (by omega)
theorem reduced_eq (n : Int) : Int.tmod (wrap64 (Int.tmod n 256 + 256)) 256 = n % 256 := by
  rw [wrap_mod]
  have h2 : -256 < Int.tmod n 256 := Int.lt_tmod_of_pos n (by decide)
  rw [Int.tmod_eq_emod_of_nonneg (a := Int.tmod n 256 + 256) (by omega), Int.add_emod_right]
  rcases Int.le_total 0 n with h | h
  · rw [Int.tmod_eq_emod_of_nonneg h]; omega
  · have := Int.mul_tdiv_add_tmod n 256; omega
theorem stencil_Apply_eq (op v r : Int) : stencil_Apply.f op v r = some (sApply op v r) := by
  unfold stencil_Apply.f sApply
  simp only [and255]
  rw [wrap_in (v % 256 + 1) (by omega) (by omega), wrap_in (v % 256 - 1) (by omega) (by omega), wrap_in (255 - v % 256) (by omega) (by omega)]
  (repeat' split) <;> rfl
theorem frustumlaw39_example_eq : frustumlaw39_example.f = some true := by decide +kernel
theorem StencilInverse : frustumlaw39_StencilInverse.Pure := by
  intro op v r _ _ _
  refine ⟨10, ?_⟩
  have hr := sApply_range op v r
  have hv : sApply 1 v r = v % 256 := rfl
  have e1 : sApply 8 (sApply 7 (v % 256) 0) 0 = v % 256 := by simp [sApply] <;> omega
  have e2 : sApply 7 (sApply 8 (v % 256) 0) 0 = v % 256 := by simp [sApply] <;> omega
  have e3 : sApply 6 (sApply 6 (v % 256) 0) 0 = v % 256 := by simp [sApply] <;> omega
  simp only [frustumlaw39_StencilInverse.f, frustumlaw39_StencilInverse.j0, frustumlaw39_StencilInverse.j1, stencil_Apply_eq, frustumlaw39_example_eq, Option.bind_some, hv, e1, e2, e3, if_true, beq_self_eq_true]
  have h4 : sApply 4 (v % 256) 0 = sApply 7 (v % 256) 0 ∨ v % 256 = 255 ∧ sApply 4 (v % 256) 0 = 255 := by
    simp only [sApply, mn]; simp only [if_true, if_false, Int.reduceEq]; (repeat' split) <;> omega
  have h5 : sApply 5 (v % 256) 0 = sApply 8 (v % 256) 0 ∨ v % 256 = 0 ∧ sApply 5 (v % 256) 0 = 0 := by
    simp only [sApply, mx]; simp only [if_true, if_false, Int.reduceEq]; (repeat' split) <;> omega
  simp only [beq_iff_eq]
  (repeat' split) <;> first | rfl | (exfalso; omega)

end Go.Proofs.Ytcpphnecjeohnaa.Pure
