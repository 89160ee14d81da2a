/- StencilUpdate: for every stencil state, face, value and results of the tests, Update returns what the reference returns. No condition. -/
import Derived.Test.YtcpphnecjeohnaaPStencilUpdatex2
import Derived.Laws.BitsLemmas
namespace Go.Proofs.Ytcpphnecjeohnaa.Pure
set_option linter.unusedVariables false
set_option linter.unusedSimpArgs false
open Go.RowKit Go.Proofs.Ytcpphnecjeohnaa.PStencilUpdate Go.Proofs.YtcpphnecjeohnaaW.PrintWords Go.Proofs.YtcpphnecjeohnaaW.PrintLast Go.Proofs.YtcpphnecjeohnaaW.PrintMore
/-! numbers -/
theorem and_mask (j : Nat) (hj : j ≤ 63) (n : Int) : Go.bits .and .i64 n (2 ^ j - 1) = n % 2 ^ j := by
  have hp : (2 : Nat) ^ j ≤ 2 ^ 63 := Nat.pow_le_pow_right (by decide) hj
  have hpos : 0 < (2 : Nat) ^ j := Nat.two_pow_pos j
  have hm : (BitVec.ofInt 64 ((2 : Int) ^ j - 1)).toNat = 2 ^ j - 1 := by
    have hc : ((2 : Int) ^ j - 1) = ((2 ^ j - 1 : Nat) : Int) := by rw [Int.natCast_sub hpos]; simp
    rw [hc, BitVec.ofInt_natCast, BitVec.toNat_ofNat]
    exact Nat.mod_eq_of_lt (by omega)
  have key : (BitVec.ofInt 64 n &&& BitVec.ofInt 64 ((2 : Int) ^ j - 1)).toNat = (n % ((2 ^ 64 : Nat) : Int)).toNat % 2 ^ j := by
    rw [BitVec.toNat_and, BitVec.toNat_ofInt, hm, Nat.and_two_pow_sub_one_eq_mod]
  show IntKind.i64.wrap ((BitVec.ofInt 64 n &&& BitVec.ofInt 64 ((2 : Int) ^ j - 1)).toNat : Nat) = n % 2 ^ j
  rw [key, Go.IntKind.wrap_i64]
  have hlt := Nat.mod_lt (n % ((2 ^ 64 : Nat) : Int)).toNat hpos
  have h1 : (((n % ((2 ^ 64 : Nat) : Int)).toNat % 2 ^ j : Nat) : Int) = n % 2 ^ j := by
    rw [Int.natCast_emod, Int.toNat_of_nonneg (Int.emod_nonneg _ (by decide))]
    rw [Int.natCast_pow]
    refine Int.emod_emod_of_dvd n ?_
    have : (2 : Int) ^ 64 = 2 ^ j * 2 ^ (64 - j) := by rw [← Int.pow_add]; congr 1; omega
    exact ⟨2 ^ (64 - j), by exact_mod_cast this⟩
  rw [← h1]
  omega
theorem and255 (n : Int) : Go.bits .and .i64 n 255 = n % 256 := and_mask 8 (by decide) n
theorem bits_i64_nat (a b : Nat) (ha : a < 2 ^ 63) (hb : b < 2 ^ 63) : Go.bits .and .i64 a b = ((a &&& b : Nat) : Int) ∧ Go.bits .or .i64 a b = ((a ||| b : Nat) : Int) :=
  Go.bits_nat .i64 63 (by decide) (fun n h0 h1 => by rw [Go.IntKind.wrap_i64]; omega) a b ha hb
/-- only the lowest bits count where the mask is small. -/
theorem and_low (j : Nat) (hj : j ≤ 63) (n m : Int) (h0 : 0 ≤ m) (h1 : m < 2 ^ j) : Go.bits .and .i64 n m = Go.bits .and .i64 (n % 2 ^ j) m := by
  obtain ⟨b, rfl⟩ := Int.eq_ofNat_of_zero_le h0
  have hb : b < 2 ^ j := by exact_mod_cast h1
  have hp : (2 : Nat) ^ j ≤ 2 ^ 63 := Nat.pow_le_pow_right (by decide) hj
  have hpos : 0 < (2 : Nat) ^ j := Nat.two_pow_pos j
  have hmm : ∀ x : Nat, x &&& b = (x % 2 ^ j) &&& b := by
    intro x
    rw [← Nat.and_two_pow_sub_one_eq_mod, Nat.and_assoc]
    congr 1
    rw [Nat.and_comm, Nat.and_two_pow_sub_one_eq_mod, Nat.mod_eq_of_lt hb]
  show IntKind.i64.wrap ((BitVec.ofInt 64 n &&& BitVec.ofInt 64 (b : Int)).toNat : Nat) = IntKind.i64.wrap ((BitVec.ofInt 64 (n % 2 ^ j) &&& BitVec.ofInt 64 (b : Int)).toNat : Nat)
  rw [BitVec.toNat_and, BitVec.toNat_and, BitVec.ofInt_natCast, BitVec.toNat_ofNat, Nat.mod_eq_of_lt (show b < 2 ^ 64 by omega), BitVec.toNat_ofInt, BitVec.toNat_ofInt]
  rw [hmm, hmm ((n % 2 ^ j) % ((2 ^ 64 : Nat) : Int)).toNat]
  congr 3
  have e : ∀ z : Int, ((z % ((2 ^ 64 : Nat) : Int)).toNat % 2 ^ j : Nat) = (z % 2 ^ j).toNat := by
    intro z
    have h1 : (((z % ((2 ^ 64 : Nat) : Int)).toNat % 2 ^ j : Nat) : Int) = z % 2 ^ j := by
      rw [Int.natCast_emod, Int.toNat_of_nonneg (Int.emod_nonneg _ (by decide)), Int.natCast_pow]
      refine Int.emod_emod_of_dvd z ?_
      have : (2 : Int) ^ 64 = 2 ^ j * 2 ^ (64 - j) := by rw [← Int.pow_add]; congr 1; omega
      exact ⟨2 ^ (64 - j), by exact_mod_cast this⟩
    omega
  rw [e, e, Int.emod_emod_of_dvd n (Int.dvd_refl _)]
theorem wrap_in (x : Int) (h0 : -9223372036854775808 ≤ x) (h1 : x ≤ 9223372036854775807) : wrap64 x = x := by unfold wrap64; omega
theorem wf_bounds {a : Int} (h : (Lit.int .i64 a).wf = true) : -9223372036854775808 ≤ a ∧ a ≤ 9223372036854775807 := by
  simpa [Lit.wf, IntKind.min, IntKind.max, IntKind.signed, IntKind.bits] using h
theorem u64_wrap (x : Int) : IntKind.u64.wrap x = x % 18446744073709551616 := by simp [IntKind.wrap, IntKind.bits, IntKind.signed]
def sApply (op v r : Int) : Int :=
  if op = 2 then 0 else if op = 3 then r % 256 else if op = 4 then mn 255 (v % 256 + 1) else if op = 5 then mx 0 (v % 256 - 1) else if op = 6 then 255 - v % 256 else if op = 7 then (v % 256 + 1) % 256 else if op = 8 then (v % 256 - 1) % 256 else v % 256
theorem sApply_range (op v r : Int) : 0 ≤ sApply op v r ∧ sApply op v r ≤ 255 := by unfold sApply mn mx; (repeat' split) <;> omega
theorem wrap_mod (n : Int) : wrap64 (Int.tmod n 256 + 256) = Int.tmod n 256 + 256 := by
  have h := Int.tmod_lt_of_pos n (show (0 : Int) < 256 by decide)
  have h2 : -256 < Int.tmod n 256 := Int.lt_tmod_of_pos n (by decide)
  exact wrap_in _ (by omega) (by omega)
theorem reduced_eq (n : Int) : Int.tmod (wrap64 (Int.tmod n 256 + 256)) 256 = n % 256 := by
  rw [wrap_mod]
  have h2 : -256 < Int.tmod n 256 := Int.lt_tmod_of_pos n (by decide)
  rw [Int.tmod_eq_emod_of_nonneg (a := Int.tmod n 256 + 256) (by omega), Int.add_emod_right]
  rcases Int.le_total 0 n with h | h
  · rw [Int.tmod_eq_emod_of_nonneg h]; omega
  · have := Int.mul_tdiv_add_tmod n 256; omega
theorem stencil_Apply_eq (op v r : Int) : stencil_Apply.f op v r = some (sApply op v r) := by
  unfold stencil_Apply.f sApply
  simp only [and255]
  rw [wrap_in (v % 256 + 1) (by omega) (by omega), wrap_in (v % 256 - 1) (by omega) (by omega), wrap_in (255 - v % 256) (by omega) (by omega)]
  (repeat' split) <;> rfl
theorem frustumref39_reduced_eq (n : Int) : frustumref39_reduced.f n = some (n % 256) := by unfold frustumref39_reduced.f; rw [reduced_eq]
theorem frustumref39_Apply_eq (op v r : Int) : frustumref39_Apply.f op v r = some (sApply op v r) := by
  unfold frustumref39_Apply.f sApply
  simp only [frustumref39_reduced_eq, Option.bind_some]
  rw [wrap_in (v % 256 + 1) (by omega) (by omega), wrap_in (v % 256 - 1) (by omega) (by omega), wrap_in (255 - v % 256) (by omega) (by omega)]
  (repeat' split) <;> rfl
theorem frustumlaw39_example_eq : frustumlaw39_example.f = some true := by decide +kernel
theorem byte_nat {n : Int} (h0 : 0 ≤ n) (h1 : n ≤ 255) : ∃ a : Nat, a < 256 ∧ n = (a : Int) := ⟨n.toNat, by omega, by omega⟩
theorem mix_nat (a v m : Nat) (ha : a < 256) (hv : v < 256) (hm : m < 256) : ((a &&& m) ||| (v &&& (255 - m))) < 256 ∧ ((a &&& m) ||| (v &&& (255 - m))) &&& (255 - m) = v &&& (255 - m) := by
  have h1 : (a &&& m) < 2 ^ 8 := Nat.and_lt_two_pow _ hm
  have h2 : (v &&& (255 - m)) < 2 ^ 8 := Nat.and_lt_two_pow _ (by omega)
  refine ⟨Nat.or_lt_two_pow h1 h2, ?_⟩
  refine Nat.eq_of_testBit_eq fun i => ?_
  have hs : (255 - m).testBit i = (decide (i < 8) && !m.testBit i) := by
    have := Nat.testBit_two_pow_sub_succ (n := 8) (x := m) hm i
    have e : 2 ^ 8 - (m + 1) = 255 - m := by omega
    rwa [e] at this
  simp only [Nat.testBit_and, Nat.testBit_or, hs]
  cases a.testBit i <;> cases v.testBit i <;> cases m.testBit i <;> simp
def sUpd (t : Bool) (op v ref m : Int) : Int := if t = true then Go.bits .or .i64 (Go.bits .and .i64 (sApply op (v % 256) ref) (m % 256)) (Go.bits .and .i64 (v % 256) (255 - m % 256)) else v % 256
def sOp (front sp dp : Bool) (a2 a3 a4 a6 a7 a8 : Int) : Int := if sp = true then (if dp = true then (if front = true then a4 else a8) else (if front = true then a3 else a7)) else (if front = true then a2 else a6)
theorem stencil_Update_eq (a0 : Bool) (a1 a2 a3 a4 a5 a6 a7 a8 a9 a10 a11 : Int) (fr : Bool) (v : Int) (sp dp : Bool) :
    stencil_Update.f a0 a1 a2 a3 a4 a5 a6 a7 a8 a9 a10 a11 fr v sp dp = some (sUpd a0 (sOp fr sp dp a2 a3 a4 a6 a7 a8) v a9 a11) := by
  unfold stencil_Update.f sUpd sOp
  have hw : wrap64 (255 - a11 % 256) = 255 - a11 % 256 := wrap_in _ (by omega) (by omega)
  cases a0
  · simp [and255]
  · cases fr <;> cases sp <;> cases dp <;> simp [stencil_Face.f, stencil_Apply_eq, and255, hw]
theorem sUpd_mask (t : Bool) (op v ref m : Int) : 0 ≤ sUpd t op v ref m ∧ sUpd t op v ref m ≤ 255 ∧ Go.bits .and .i64 (sUpd t op v ref m) (255 - m % 256) = Go.bits .and .i64 (v % 256) (255 - m % 256) := by
  have hr := sApply_range op (v % 256) ref
  obtain ⟨a, ha, ea⟩ := byte_nat hr.1 hr.2
  obtain ⟨b, hb, eb⟩ := byte_nat (show 0 ≤ v % 256 by omega) (by omega)
  obtain ⟨c, hc, ec⟩ := byte_nat (show 0 ≤ m % 256 by omega) (by omega)
  unfold sUpd
  cases t
  · simp only [Bool.false_eq_true, if_false]
    exact ⟨by omega, by omega, trivial⟩
  · simp only [if_true]
    rw [ea, eb, ec]
    have e : (255 : Int) - (c : Int) = ((255 - c : Nat) : Int) := by omega
    have hm := mix_nat a b c ha hb hc
    have n1 : a &&& c < 2 ^ 8 := Nat.and_lt_two_pow _ hc
    have n2 : b &&& (255 - c) < 2 ^ 8 := Nat.and_lt_two_pow _ (by omega)
    rw [e, (bits_i64_nat a c (by omega) (by omega)).1, (bits_i64_nat b (255 - c) (by omega) (by omega)).1, (bits_i64_nat _ _ (by omega) (by omega)).2, (bits_i64_nat _ _ (by omega) (by omega)).1, hm.2]
    exact ⟨Int.natCast_nonneg _, by have := hm.1; omega, rfl⟩
theorem frustumref39_Update_eq (a0 : Bool) (a1 a2 a3 a4 a5 a6 a7 a8 a9 a10 a11 : Int) (fr : Bool) (v : Int) (sp dp : Bool) :
    frustumref39_Update.f a0 a1 a2 a3 a4 a5 a6 a7 a8 a9 a10 a11 fr v sp dp = some (sUpd a0 (sOp fr sp dp a2 a3 a4 a6 a7 a8) v a9 a11) := by
  unfold frustumref39_Update.f sUpd sOp
  have hw : wrap64 (255 - a11 % 256) = 255 - a11 % 256 := wrap_in _ (by omega) (by omega)
  cases a0
  · simp [frustumref39_reduced_eq]
  · cases fr <;> cases sp <;> cases dp <;> simp [frustumref39_Face.f, frustumref39_Apply_eq, frustumref39_reduced_eq, hw]
theorem StencilUpdate (a0_0 : Bool) (a0_1 a0_2 a0_3 a0_4 a0_5 a0_6 a0_7 a0_8 a0_9 a0_10 a0_11 : Int) (a0_12 : Bool) (a0_13 : Int) (a0_14 a0_15 : Bool) : frustumlaw39_StencilUpdate.f a0_0 a0_1 a0_2 a0_3 a0_4 a0_5 a0_6 a0_7 a0_8 a0_9 a0_10 a0_11 a0_12 a0_13 a0_14 a0_15 = some true := by
  simp only [frustumlaw39_StencilUpdate.f, stencil_Update_eq, frustumref39_Update_eq, Option.bind_some, if_true, frustumlaw39_example_eq]

end Go.Proofs.Ytcpphnecjeohnaa.Pure
