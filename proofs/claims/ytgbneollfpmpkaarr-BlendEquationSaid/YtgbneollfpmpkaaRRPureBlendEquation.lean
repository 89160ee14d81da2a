/- BlendEquation: Blend and Factor return the specified colors for all states and all colors. No condition. -/
import Derived.Test.YtgbneollfpmpkaaRRPBlendEquationx6
import Derived.Test.YtgbneollfpmpkaaRRXBlendEquationa
import Derived.Test.YtgbneollfpmpkaaRRXBlendEquationb
import Derived.Test.YtgbneollfpmpkaaRRXBlendEquationc
import Derived.Test.YtgbneollfpmpkaaRRXBlendEquationd
import Derived.Laws.BitsLemmas
namespace Go.Proofs.YtgbneollfpmpkaaRR.Pure
set_option linter.unusedVariables false
set_option linter.unusedSimpArgs false
open Go.RowKit Go.Proofs.YtgbneollfpmpkaaRR.PBlendEquation Go.Proofs.YtgbneollfpmpkaaRRW.PrintWords Go.Proofs.YtgbneollfpmpkaaRRW.PrintLast Go.Proofs.YtgbneollfpmpkaaRRW.PrintMore
/-! numbers -/
theorem and_mask (j : Nat) (hj : j ≤ 63) (n : Int) : Go.bits .and .i64 n (2 ^ j - 1) = n % 2 ^ j := by
  have hp : (2 : Nat) ^ j ≤ 2 ^ 63 := Nat.pow_le_pow_right (by decide) hj
  have hpos : 0 < (2 : Nat) ^ j := Nat.two_pow_pos j
  have hm : (BitVec.ofInt 64 ((2 : Int) ^ j - 1)).toNat = 2 ^ j - 1 := by
    have hc : ((2 : Int) ^ j - 1) = ((2 ^ j - 1 : Nat) : Int) := by rw [Int.natCast_sub hpos]; simp
    rw [hc, BitVec.ofInt_natCast, BitVec.toNat_ofNat]
    exact Nat.mod_eq_of_lt (by omega)
  have key : (BitVec.ofInt 64 n &&& BitVec.ofInt 64 ((2 : Int) ^ j - 1)).toNat = (n % ((2 ^ 64 : Nat) : Int)).toNat % 2 ^ j := by
    rw [BitVec.toNat_and, BitVec.toNat_ofInt, hm, Nat.and_two_pow_sub_one_eq_mod]
  show IntKind.i64.wrap ((BitVec.ofInt 64 n &&& BitVec.ofInt 64 ((2 : Int) ^ j - 1)).toNat : Nat) = n % 2 ^ j
  rw [key, Go.IntKind.wrap_i64]
  have hlt := Nat.mod_lt (n % ((2 ^ 64 : Nat) : Int)).toNat hpos
  have h1 : (((n % ((2 ^ 64 : Nat) : Int)).toNat % 2 ^ j : Nat) : Int) = n % 2 ^ j := by
    rw [Int.natCast_emod, Int.toNat_of_nonneg (Int.emod_nonneg _ (by decide))]
    rw [Int.natCast_pow]
    refine Int.emod_emod_of_dvd n ?_
    have : (2 : Int) ^ 64 = 2 ^ j * 2 ^ (64 - j) := by rw [← Int.pow_add]; congr 1; omega
    exact ⟨2 ^ (64 - j), by exact_mod_cast this⟩
  rw [← h1]
  omega
theorem and255 (n : Int) : Go.bits .and .i64 n 255 = n % 256 := and_mask 8 (by decide) n
theorem bits_i64_nat (a b : Nat) (ha : a < 2 ^ 63) (hb : b < 2 ^ 63) : Go.bits .and .i64 a b = ((a &&& b : Nat) : Int) ∧ Go.bits .or .i64 a b = ((a ||| b : Nat) : Int) :=
  Go.bits_nat .i64 63 (by decide) (fun n h0 h1 => by rw [Go.IntKind.wrap_i64]; omega) a b ha hb
/-- only the lowest bits count where the mask is small. -/
theorem and_low (j : Nat) (hj : j ≤ 63) (n m : Int) (h0 : 0 ≤ m) (h1 : m < 2 ^ j) : Go.bits .and .i64 n m = Go.bits .and .i64 (n % 2 ^ j) m := by
  obtain ⟨b, rfl⟩ := Int.eq_ofNat_of_zero_le h0
  have hb : b < 2 ^ j := by exact_mod_cast h1
  have hp : (2 : Nat) ^ j ≤ 2 ^ 63 := Nat.pow_le_pow_right (by decide) hj
  have hpos : 0 < (2 : Nat) ^ j := Nat.two_pow_pos j
  have hmm : ∀ x : Nat, x &&& b = (x % 2 ^ j) &&& b := by
    intro x
    rw [← Nat.and_two_pow_sub_one_eq_mod, Nat.and_assoc]
    congr 1
    rw [Nat.and_comm, Nat.and_two_pow_sub_one_eq_mod, Nat.mod_eq_of_lt hb]
  show IntKind.i64.wrap ((BitVec.ofInt 64 n &&& BitVec.ofInt 64 (b : Int)).toNat : Nat) = IntKind.i64.wrap ((BitVec.ofInt 64 (n % 2 ^ j) &&& BitVec.ofInt 64 (b : Int)).toNat : Nat)
  rw [BitVec.toNat_and, BitVec.toNat_and, BitVec.ofInt_natCast, BitVec.toNat_ofNat, Nat.mod_eq_of_lt (show b < 2 ^ 64 by omega), BitVec.toNat_ofInt, BitVec.toNat_ofInt]
  rw [hmm, hmm ((n % 2 ^ j) % ((2 ^ 64 : Nat) : Int)).toNat]
  congr 3
  have e : ∀ z : Int, ((z % ((2 ^ 64 : Nat) : Int)).toNat % 2 ^ j : Nat) = (z % 2 ^ j).toNat := by
    intro z
    have h1 : (((z % ((2 ^ 64 : Nat) : Int)).toNat % 2 ^ j : Nat) : Int) = z % 2 ^ j := by
      rw [Int.natCast_emod, Int.toNat_of_nonneg (Int.emod_nonneg _ (by decide)), Int.natCast_pow]
      refine Int.emod_emod_of_dvd z ?_
      have : (2 : Int) ^ 64 = 2 ^ j * 2 ^ (64 - j) := by rw [← Int.pow_add]; congr 1; omega
      exact ⟨2 ^ (64 - j), by exact_mod_cast this⟩
    omega
  rw [e, e, Int.emod_emod_of_dvd n (Int.dvd_refl _)]
theorem wrap_in (x : Int) (h0 : -9223372036854775808 ≤ x) (h1 : x ≤ 9223372036854775807) : wrap64 x = x := by unfold wrap64; omega
theorem wf_bounds {a : Int} (h : (Lit.int .i64 a).wf = true) : -9223372036854775808 ≤ a ∧ a ≤ 9223372036854775807 := by
  simpa [Lit.wf, IntKind.min, IntKind.max, IntKind.signed, IntKind.bits] using h
theorem u64_wrap (x : Int) : IntKind.u64.wrap x = x % 18446744073709551616 := by simp [IntKind.wrap, IntKind.bits, IntKind.signed]
def rdiv0 (n d : Int) : Int := (2 * n + d) / (2 * d)
def rdiv (n d : Int) : Int := if d < 1 ∨ d > 4611686018427387904 ∨ n < -4611686018427387904 ∨ n > 4611686018427387904 then 0 else if n < 0 then -rdiv0 (-n) d else rdiv0 n d
theorem rdiv0_le (n d : Int) (h0 : 0 ≤ n) (hd : 1 ≤ d) : 0 ≤ rdiv0 n d ∧ rdiv0 n d ≤ n + 1 := by
  unfold rdiv0
  refine ⟨Int.ediv_nonneg (by omega) (by omega), ?_⟩
  refine Int.ediv_le_of_le_mul (by omega) ?_
  have : n * 1 ≤ n * d := Int.mul_le_mul_of_nonneg_left hd h0
  have e : (n + 1) * (2 * d) = 2 * (n * d) + 2 * d := by rw [Int.add_mul, Int.mul_left_comm, Int.one_mul]
  omega
theorem rdiv0_alt (n d : Int) (h0 : 0 ≤ n) (hd : 1 ≤ d) : rdiv0 n d = if n % d ≥ d - n % d then n / d + 1 else n / d := by
  unfold rdiv0
  have hr0 := Int.emod_nonneg n (show d ≠ 0 by omega)
  have hr1 := Int.emod_lt_of_pos n (show 0 < d by omega)
  have hq := Int.mul_ediv_add_emod n d
  generalize n % d = r at *
  generalize n / d = q at *
  have e1 : 2 * d * q = 2 * (d * q) := Int.mul_assoc 2 d q
  split
  · have e2 : 2 * d * (q + 1) = 2 * (d * q) + 2 * d := by rw [Int.mul_add, e1]; omega
    have h1 : q + 1 ≤ (2 * n + d) / (2 * d) := Int.le_ediv_of_mul_le (by omega) (by rw [Int.mul_comm, e2]; omega)
    have h2 : (2 * n + d) / (2 * d) < q + 1 + 1 := Int.ediv_lt_of_lt_mul (by omega) (by rw [Int.mul_comm (q + 1 + 1), Int.mul_add, e2]; omega)
    omega
  · have h1 : q ≤ (2 * n + d) / (2 * d) := Int.le_ediv_of_mul_le (by omega) (by rw [Int.mul_comm, e1]; omega)
    have h2 : (2 * n + d) / (2 * d) < q + 1 := Int.ediv_lt_of_lt_mul (by omega) (by rw [Int.mul_comm (q + 1), Int.mul_add, e1]; omega)
    omega
theorem fixed_RoundDiv_pos (k : Nat) (n d : Int) (hk : 2 ≤ k) (h0 : 0 ≤ n) (h1 : n ≤ 4611686018427387904) (hd : 1 ≤ d) (hd1 : d ≤ 4611686018427387904) : fixed_RoundDiv.f k n d = some (rdiv0 n d) := by
  obtain ⟨k, rfl⟩ : ∃ m, k = m + 2 := ⟨k - 2, by omega⟩
  simp only [fixed_RoundDiv.f, fixed_RoundDiv.j0]
  have hb := rdiv0_le n d h0 hd
  rw [if_neg (by omega), if_neg (by omega), if_neg (by omega), decide_eq_false (by omega)]
  rw [if_neg (by decide), if_neg (by omega)]
  have e1 : IntKind.u64.wrap d = d := by rw [u64_wrap]; omega
  have e2 : IntKind.u64.wrap n = n := by rw [u64_wrap]; omega
  rw [e1, e2]
  have e3 : IntKind.u64.wrap (2 * d) = 2 * d := by rw [u64_wrap]; omega
  have e4 : IntKind.u64.wrap (2 * n) = 2 * n := by rw [u64_wrap]; omega
  rw [e3, e4]
  have e5 : IntKind.u64.wrap (2 * n + d) = 2 * n + d := by rw [u64_wrap]; omega
  rw [e5, if_neg (by omega), Int.tdiv_eq_ediv_of_nonneg (by omega)]
  show some (wrap64 (IntKind.u64.wrap (rdiv0 n d))) = some (rdiv0 n d)
  have e6 : IntKind.u64.wrap (rdiv0 n d) = rdiv0 n d := by rw [u64_wrap]; omega
  rw [e6, wrap_in _ (by omega) (by omega)]
theorem fixed_RoundDiv_eq (k : Nat) (n d : Int) (hk : 4 ≤ k) : fixed_RoundDiv.f k n d = some (rdiv n d) := by
  unfold rdiv
  split
  · rename_i h
    obtain ⟨k, rfl⟩ : ∃ m, k = m + 2 := ⟨k - 2, by omega⟩
    simp only [fixed_RoundDiv.f, fixed_RoundDiv.j0]
    by_cases h1 : d < 1
    · rw [if_pos h1, if_pos trivial]
    · rw [if_neg h1]
      by_cases h2 : d > 4611686018427387904
      · rw [if_pos h2, if_pos trivial]
      · rw [if_neg h2]
        by_cases h3 : n < -4611686018427387904
        · rw [if_pos h3, if_pos trivial]
        · rw [if_neg h3, decide_eq_true (by omega), if_pos rfl]
  · rename_i h
    split
    · rename_i hn
      obtain ⟨k, rfl⟩ : ∃ m, k = m + 2 := ⟨k - 2, by omega⟩
      simp only [fixed_RoundDiv.f, fixed_RoundDiv.j0]
      rw [if_neg (by omega), if_neg (by omega), if_neg (by omega), decide_eq_false (by omega), if_neg (by decide), if_pos hn]
      rw [wrap_in _ (by omega) (by omega), fixed_RoundDiv_pos k (-n) d (by omega) (by omega) (by omega) (by omega) (by omega)]
      have hb := rdiv0_le (-n) d (by omega) (by omega)
      simp only [Option.bind_some]
      rw [wrap_in _ (by omega) (by omega)]
    · exact fixed_RoundDiv_pos k n d (by omega) (by omega) (by omega) (by omega) (by omega)
theorem frustumref01_RoundDiv_pos (k : Nat) (n d : Int) (hk : 2 ≤ k) (h0 : 0 ≤ n) (h1 : n ≤ 4611686018427387904) (hd : 1 ≤ d) (hd1 : d ≤ 4611686018427387904) : frustumref01_RoundDiv.f k n d = some (rdiv0 n d) := by
  obtain ⟨k, rfl⟩ : ∃ m, k = m + 2 := ⟨k - 2, by omega⟩
  simp only [frustumref01_RoundDiv.f, frustumref01_RoundDiv.j0]
  have hb := rdiv0_le n d h0 hd
  rw [if_neg (by omega), if_neg (by omega), if_neg (by omega), decide_eq_false (by omega)]
  rw [if_neg (by decide), if_neg (by omega)]
  have hr0 := Int.emod_nonneg n (show d ≠ 0 by omega)
  have hr1 := Int.emod_lt_of_pos n (show 0 < d by omega)
  have hq0 : 0 ≤ n / d := Int.ediv_nonneg h0 (by omega)
  have hq1 : n / d ≤ n := Int.ediv_le_self d h0
  rw [if_neg (by omega), Int.tmod_eq_emod_of_nonneg h0, Int.tdiv_eq_ediv_of_nonneg h0, wrap_in (d - n % d) (by omega) (by omega), wrap_in (n / d) (by omega) (by omega), wrap_in (n / d + 1) (by omega) (by omega), rdiv0_alt n d h0 hd]
  split <;> rfl
theorem frustumref01_RoundDiv_eq (k : Nat) (n d : Int) (hk : 4 ≤ k) : frustumref01_RoundDiv.f k n d = some (rdiv n d) := by
  unfold rdiv
  split
  · rename_i h
    obtain ⟨k, rfl⟩ : ∃ m, k = m + 2 := ⟨k - 2, by omega⟩
    simp only [frustumref01_RoundDiv.f, frustumref01_RoundDiv.j0]
    by_cases h1 : d < 1
    · rw [if_pos h1, if_pos trivial]
    · rw [if_neg h1]
      by_cases h2 : d > 4611686018427387904
      · rw [if_pos h2, if_pos trivial]
      · rw [if_neg h2]
        by_cases h3 : n < -4611686018427387904
        · rw [if_pos h3, if_pos trivial]
        · rw [if_neg h3, decide_eq_true (by omega), if_pos rfl]
  · rename_i h
    split
    · rename_i hn
      obtain ⟨k, rfl⟩ : ∃ m, k = m + 2 := ⟨k - 2, by omega⟩
      simp only [frustumref01_RoundDiv.f, frustumref01_RoundDiv.j0]
      rw [if_neg (by omega), if_neg (by omega), if_neg (by omega), decide_eq_false (by omega), if_neg (by decide), if_pos hn]
      rw [wrap_in _ (by omega) (by omega), frustumref01_RoundDiv_pos k (-n) d (by omega) (by omega) (by omega) (by omega) (by omega)]
      have hb := rdiv0_le (-n) d (by omega) (by omega)
      simp only [Option.bind_some]
      rw [wrap_in _ (by omega) (by omega)]
    · exact frustumref01_RoundDiv_pos k n d (by omega) (by omega) (by omega) (by omega) (by omega)
def clampS (x lo hi : Int) : Int := mx (mn x hi) lo
theorem clampS_le (x lo hi : Int) (h : lo ≤ hi) : lo ≤ clampS x lo hi ∧ clampS x lo hi ≤ hi := by unfold clampS mx mn; (repeat' split) <;> omega
theorem clampS_in (x lo hi : Int) (h0 : lo ≤ x) (h1 : x ≤ hi) : clampS x lo hi = x := by unfold clampS mx mn; (repeat' split) <;> omega
theorem clampS_mono (x y lo hi : Int) (h : x ≤ y) : clampS x lo hi ≤ clampS y lo hi := by unfold clampS mx mn; (repeat' split) <;> omega
theorem frustumref01_Clamp_eq (k : Nat) (x lo hi : Int) (hk : 1 ≤ k) : frustumref01_Clamp.f k x lo hi = some (clampS x lo hi) := by
  obtain ⟨k, rfl⟩ : ∃ m, k = m + 1 := ⟨k - 1, by omega⟩
  simp only [frustumref01_Clamp.f, frustumref01_Clamp.j0, clampS, mx, mn]
  by_cases h1 : lo > hi
  · rw [if_pos h1]; simp only [if_true, Option.some.injEq]; (repeat' split) <;> omega
  · rw [if_neg h1]
    by_cases h2 : x < lo
    · rw [decide_eq_true h2]; simp only [if_true, Option.some.injEq]; (repeat' split) <;> omega
    · rw [decide_eq_false h2, if_neg (by decide)]; (repeat' split) <;> first | rfl | (exfalso; omega) | (simp only [Option.some.injEq]; omega)
def sat (x : Int) : Int := clampS x (-536870911) 536870911
theorem sat_bd (x : Int) : -536870911 ≤ sat x ∧ sat x ≤ 536870911 := clampS_le x _ _ (by decide)
theorem sat_in (x : Int) (h0 : -536870911 ≤ x) (h1 : x ≤ 536870911) : sat x = x := clampS_in x _ _ h0 h1
theorem fixed_Saturate_eq (x : Int) : fixed_Saturate.f x = some (sat x) := rfl
theorem frustumref01_Saturate_eq (k : Nat) (x : Int) (hk : 1 ≤ k) : frustumref01_Saturate.f k x = some (sat x) := by
  simp only [frustumref01_Saturate.f, frustumref01_Clamp_eq k _ _ _ hk, Option.bind_some, sat]
def addS (a b : Int) : Int := sat (sat a + sat b)
def subS (a b : Int) : Int := sat (sat a - sat b)
def mulS (a b : Int) : Int := sat (rdiv (sat a * sat b) 65536)
theorem sat_mul_bd (a b : Int) : -288230375077969921 ≤ sat a * sat b ∧ sat a * sat b ≤ 288230375077969921 := by
  have h1 := sat_bd a
  have h2 := sat_bd b
  have h3 : (sat a * sat b).natAbs ≤ 536870911 * 536870911 := by rw [Int.natAbs_mul]; exact Nat.mul_le_mul (by omega) (by omega)
  omega
theorem fixed_Add_eq (a b : Int) : fixed_Add.f a b = some (addS a b) := by
  have h1 := sat_bd a
  have h2 := sat_bd b
  simp only [fixed_Add.f, fixed_Saturate_eq, Option.bind_some]
  rw [wrap_in _ (by omega) (by omega)]
  rfl
theorem fixed_Sub_eq (a b : Int) : fixed_Sub.f a b = some (subS a b) := by
  have h1 := sat_bd a
  have h2 := sat_bd b
  simp only [fixed_Sub.f, fixed_Saturate_eq, Option.bind_some]
  rw [wrap_in _ (by omega) (by omega)]
  rfl
theorem fixed_Mul_eq (k : Nat) (a b : Int) (hk : 4 ≤ k) : fixed_Mul.f k a b = some (mulS a b) := by
  have h1 := sat_mul_bd a b
  simp only [fixed_Mul.f, fixed_Saturate_eq, Option.bind_some]
  rw [wrap_in _ (by omega) (by omega), fixed_RoundDiv_eq k _ _ hk]
  rfl
abbrev V4 : Type := Int × Int × Int × Int
def allS (x : Int) : V4 := (x, x, x, x)
def minusS (v : V4) : V4 := (subS 65536 v.1, subS 65536 v.2.1, subS 65536 v.2.2.1, subS 65536 v.2.2.2)
def facS (f : Int) (s t : V4) : V4 :=
  if f = 2 then allS 65536 else if f = 3 then s else if f = 4 then minusS s else if f = 5 then allS s.2.2.2 else if f = 6 then minusS (allS s.2.2.2) else if f = 7 then t else if f = 8 then minusS t else if f = 9 then allS t.2.2.2 else if f = 10 then minusS (allS t.2.2.2) else allS 0
def combS (op s sf t tf : Int) : Int :=
  if op = 1 then addS (mulS s sf) (mulS t tf) else if op = 2 then subS (mulS s sf) (mulS t tf) else if op = 3 then subS (mulS t tf) (mulS s sf) else if op = 4 then mn (sat s) (sat t) else if op = 5 then mx (sat s) (sat t) else 0
def blendS (on : Bool) (a1 a2 a3 a4 a5 a6 : Int) (s t : V4) : V4 :=
  if on = true then (combS a3 s.1 (facS a1 s t).1 t.1 (facS a2 s t).1, combS a3 s.2.1 (facS a1 s t).2.1 t.2.1 (facS a2 s t).2.1, combS a3 s.2.2.1 (facS a1 s t).2.2.1 t.2.2.1 (facS a2 s t).2.2.1, combS a6 s.2.2.2 (facS a4 s t).2.2.2 t.2.2.2 (facS a5 s t).2.2.2)
  else (sat s.1, sat s.2.1, sat s.2.2.1, sat s.2.2.2)
theorem blend_minus_eq (a b c d : Int) : blend_minus.f a b c d = some (minusS (a, b, c, d)) := by
  simp only [blend_minus.f, blend_every.f, vec_Sub.f, fixed_Sub_eq, Option.bind_some, minusS]
theorem blend_Factor_eq (f s0 s1 s2 s3 t0 t1 t2 t3 : Int) : blend_Factor.f f s0 s1 s2 s3 t0 t1 t2 t3 = some (facS f (s0, s1, s2, s3) (t0, t1, t2, t3)) := by
  simp only [blend_Factor.f, blend_every.f, blend_minus_eq, Option.bind_some]
  unfold facS
  (repeat' split) <;> first | rfl | omega
theorem blend_Combine_eq (k : Nat) (op s sf t tf : Int) (hk : 4 ≤ k) : blend_Combine.f k op s sf t tf = some (combS op s sf t tf) := by
  simp only [blend_Combine.f, fixed_Mul_eq k _ _ hk, fixed_Add_eq, fixed_Sub_eq, fixed_Saturate_eq, Option.bind_some]
  unfold combS
  (repeat' split) <;> first | rfl | omega
theorem blend_Blend_eq (k : Nat) (on : Bool) (a1 a2 a3 a4 a5 a6 a7 s0 s1 s2 s3 t0 t1 t2 t3 : Int) (hk : 4 ≤ k) : blend_Blend.f k on a1 a2 a3 a4 a5 a6 a7 s0 s1 s2 s3 t0 t1 t2 t3 = some (blendS on a1 a2 a3 a4 a5 a6 (s0, s1, s2, s3) (t0, t1, t2, t3)) := by
  simp only [blend_Blend.f, blend_Factor_eq, blend_Combine_eq k _ _ _ _ _ hk, fixed_Saturate_eq, Option.bind_some]
  unfold blendS
  split <;> rfl
theorem frustumlaw40_example_eq (k : Nat) (hk : 4 ≤ k) : frustumlaw40_example.f k = some true := by
  have e : blendS true 5 6 1 2 1 1 (65536, 0, 0, 32768) (0, 65536, 0, 65536) = (32768, 32768, 0, 32768) := by decide +kernel
  have e2 : blend_Valid.f true 5 6 1 2 1 1 15 = some true := by decide +kernel
  simp only [frustumlaw40_example.f, frustumlaw40_over.f, blend_Blend_eq k _ _ _ _ _ _ _ _ _ _ _ _ _ _ _ _ hk, Option.bind_some, e, e2, if_true]
  rfl
theorem frustumref01_Add_eq (k : Nat) (a b : Int) (hk : 1 ≤ k) : frustumref01_Add.f k a b = some (addS a b) := by
  have h1 := sat_bd a
  have h2 := sat_bd b
  simp only [frustumref01_Add.f, frustumref01_Saturate_eq k _ hk, Option.bind_some]
  rw [wrap_in _ (by omega) (by omega)]
  rfl
theorem frustumref01_Sub_eq (k : Nat) (a b : Int) (hk : 1 ≤ k) : frustumref01_Sub.f k a b = some (subS a b) := by
  have h1 := sat_bd a
  have h2 := sat_bd b
  simp only [frustumref01_Sub.f, frustumref01_Saturate_eq k _ hk, Option.bind_some]
  rw [wrap_in _ (by omega) (by omega)]
  rfl
theorem frustumref01_Mul_eq (k : Nat) (a b : Int) (hk : 4 ≤ k) : frustumref01_Mul.f k a b = some (mulS a b) := by
  have h1 := sat_mul_bd a b
  simp only [frustumref01_Mul.f, frustumref01_Saturate_eq k _ (show 1 ≤ k by omega), Option.bind_some]
  rw [wrap_in _ (by omega) (by omega), frustumref01_RoundDiv_eq k _ _ hk]
  simp only [frustumref01_Saturate_eq k _ (show 1 ≤ k by omega), Option.bind_some]
  rfl
theorem frustumref40_minus_eq (k : Nat) (a b c d : Int) (hk : 1 ≤ k) : frustumref40_minus.f k a b c d = some (minusS (a, b, c, d)) := by
  simp only [frustumref40_minus.f, frustumref40_all.f, frustumref03_Sub.f, frustumref01_Sub_eq k _ _ hk, Option.bind_some, minusS]
theorem frustumref40_Factor_eq (k : Nat) (f s0 s1 s2 s3 t0 t1 t2 t3 : Int) (hk : 1 ≤ k) : frustumref40_Factor.f k f s0 s1 s2 s3 t0 t1 t2 t3 = some (facS f (s0, s1, s2, s3) (t0, t1, t2, t3)) := by
  simp only [frustumref40_Factor.f, frustumref40_all.f, frustumref40_minus_eq k _ _ _ _ hk, Option.bind_some]
  unfold facS
  (repeat' split) <;> first | rfl | omega
theorem frustumref40_Combine_eq (k : Nat) (op s sf t tf : Int) (hk : 4 ≤ k) : frustumref40_Combine.f k op s sf t tf = some (combS op s sf t tf) := by
  simp only [frustumref40_Combine.f, frustumref01_Mul_eq k _ _ hk, frustumref01_Add_eq k _ _ (show 1 ≤ k by omega), frustumref01_Sub_eq k _ _ (show 1 ≤ k by omega), frustumref01_Saturate_eq k _ (show 1 ≤ k by omega), Option.bind_some]
  unfold combS
  (repeat' split) <;> first | rfl | omega
theorem component_0 (a b c d : Int) : frustumref40_component.f a b c d 0 = some a := by simp [frustumref40_component.f, rd]
theorem component_1 (a b c d : Int) : frustumref40_component.f a b c d 1 = some b := by simp [frustumref40_component.f, rd]
theorem component_2 (a b c d : Int) : frustumref40_component.f a b c d 2 = some c := by simp [frustumref40_component.f, rd]
theorem component_3 (a b c d : Int) : frustumref40_component.f a b c d 3 = some d := by simp [frustumref40_component.f, rd]
theorem frustumref03_Of_eq (k : Nat) (a b c d : Int) (hk : 5 ≤ k) : frustumref03_Of.f k [a, b, c, d] = some (a, b, c, d) := by
  obtain ⟨k, rfl⟩ : ∃ m, k = m + 5 := ⟨k - 5, by omega⟩
  have w0 : wrap64 1 = 1 := by decide +kernel
  have w1 : wrap64 2 = 2 := by decide +kernel
  have w2 : wrap64 3 = 3 := by decide +kernel
  have w3 : wrap64 4 = 4 := by decide +kernel
  simp [frustumref03_Of.f, frustumref03_Of.l0, frustumref03_With.f, rd, w0, w1, w2, w3]
section
variable (k : Nat) (on : Bool) (a1 a2 a3 a4 a5 a6 a7 s0 s1 s2 s3 t0 t1 t2 t3 : Int) (l : List Int) (hl : l.length < 17592186044416)
include hl
theorem ref_Blend_step0 : frustumref40_Blend.l0 (k + 6) l 0 on a1 a2 a3 a4 a5 a6 a7 s0 s1 s2 s3 t0 t1 t2 t3 = frustumref40_Blend.l0 (k + 4) (l ++ [if on = true then combS a3 s0 (facS a1 (s0, s1, s2, s3) (t0, t1, t2, t3)).1 t0 (facS a2 (s0, s1, s2, s3) (t0, t1, t2, t3)).1 else sat s0]) 1 on a1 a2 a3 a4 a5 a6 a7 s0 s1 s2 s3 t0 t1 t2 t3 := by
  have hw : wrap64 (0 + 1) = 1 := by decide +kernel
  conv => lhs; unfold frustumref40_Blend.l0
  rw [if_pos (by decide), component_0, Option.bind_some, component_0, Option.bind_some, if_neg (by decide)]
  unfold frustumref40_Blend.j1
  by_cases h : on = true
  · rw [if_pos h, frustumref40_Factor_eq _ _ _ _ _ _ _ _ _ _ (by omega), Option.bind_some, component_0, Option.bind_some, frustumref40_Factor_eq _ _ _ _ _ _ _ _ _ _ (by omega), Option.bind_some, component_0, Option.bind_some, frustumref40_Combine_eq _ _ _ _ _ _ (by omega), Option.bind_some, if_pos hl, if_pos h, hw]
  · rw [if_neg h, frustumref01_Saturate_eq _ _ (by omega), Option.bind_some, if_pos hl, if_neg h, hw]
theorem ref_Blend_step1 : frustumref40_Blend.l0 (k + 6) l 1 on a1 a2 a3 a4 a5 a6 a7 s0 s1 s2 s3 t0 t1 t2 t3 = frustumref40_Blend.l0 (k + 4) (l ++ [if on = true then combS a3 s1 (facS a1 (s0, s1, s2, s3) (t0, t1, t2, t3)).2.1 t1 (facS a2 (s0, s1, s2, s3) (t0, t1, t2, t3)).2.1 else sat s1]) 2 on a1 a2 a3 a4 a5 a6 a7 s0 s1 s2 s3 t0 t1 t2 t3 := by
  have hw : wrap64 (1 + 1) = 2 := by decide +kernel
  conv => lhs; unfold frustumref40_Blend.l0
  rw [if_pos (by decide), component_1, Option.bind_some, component_1, Option.bind_some, if_neg (by decide)]
  unfold frustumref40_Blend.j1
  by_cases h : on = true
  · rw [if_pos h, frustumref40_Factor_eq _ _ _ _ _ _ _ _ _ _ (by omega), Option.bind_some, component_1, Option.bind_some, frustumref40_Factor_eq _ _ _ _ _ _ _ _ _ _ (by omega), Option.bind_some, component_1, Option.bind_some, frustumref40_Combine_eq _ _ _ _ _ _ (by omega), Option.bind_some, if_pos hl, if_pos h, hw]
  · rw [if_neg h, frustumref01_Saturate_eq _ _ (by omega), Option.bind_some, if_pos hl, if_neg h, hw]
theorem ref_Blend_step2 : frustumref40_Blend.l0 (k + 6) l 2 on a1 a2 a3 a4 a5 a6 a7 s0 s1 s2 s3 t0 t1 t2 t3 = frustumref40_Blend.l0 (k + 4) (l ++ [if on = true then combS a3 s2 (facS a1 (s0, s1, s2, s3) (t0, t1, t2, t3)).2.2.1 t2 (facS a2 (s0, s1, s2, s3) (t0, t1, t2, t3)).2.2.1 else sat s2]) 3 on a1 a2 a3 a4 a5 a6 a7 s0 s1 s2 s3 t0 t1 t2 t3 := by
  have hw : wrap64 (2 + 1) = 3 := by decide +kernel
  conv => lhs; unfold frustumref40_Blend.l0
  rw [if_pos (by decide), component_2, Option.bind_some, component_2, Option.bind_some, if_neg (by decide)]
  unfold frustumref40_Blend.j1
  by_cases h : on = true
  · rw [if_pos h, frustumref40_Factor_eq _ _ _ _ _ _ _ _ _ _ (by omega), Option.bind_some, component_2, Option.bind_some, frustumref40_Factor_eq _ _ _ _ _ _ _ _ _ _ (by omega), Option.bind_some, component_2, Option.bind_some, frustumref40_Combine_eq _ _ _ _ _ _ (by omega), Option.bind_some, if_pos hl, if_pos h, hw]
  · rw [if_neg h, frustumref01_Saturate_eq _ _ (by omega), Option.bind_some, if_pos hl, if_neg h, hw]
theorem ref_Blend_step3 : frustumref40_Blend.l0 (k + 6) l 3 on a1 a2 a3 a4 a5 a6 a7 s0 s1 s2 s3 t0 t1 t2 t3 = frustumref40_Blend.l0 (k + 4) (l ++ [if on = true then combS a6 s3 (facS a4 (s0, s1, s2, s3) (t0, t1, t2, t3)).2.2.2 t3 (facS a5 (s0, s1, s2, s3) (t0, t1, t2, t3)).2.2.2 else sat s3]) 4 on a1 a2 a3 a4 a5 a6 a7 s0 s1 s2 s3 t0 t1 t2 t3 := by
  have hw : wrap64 (3 + 1) = 4 := by decide +kernel
  conv => lhs; unfold frustumref40_Blend.l0
  rw [if_pos (by decide), component_3, Option.bind_some, component_3, Option.bind_some, if_pos rfl]
  unfold frustumref40_Blend.j1
  by_cases h : on = true
  · rw [if_pos h, frustumref40_Factor_eq _ _ _ _ _ _ _ _ _ _ (by omega), Option.bind_some, component_3, Option.bind_some, frustumref40_Factor_eq _ _ _ _ _ _ _ _ _ _ (by omega), Option.bind_some, component_3, Option.bind_some, frustumref40_Combine_eq _ _ _ _ _ _ (by omega), Option.bind_some, if_pos hl, if_pos h, hw]
  · rw [if_neg h, frustumref01_Saturate_eq _ _ (by omega), Option.bind_some, if_pos hl, if_neg h, hw]
end
theorem frustumref40_Blend_eq (k : Nat) (on : Bool) (a1 a2 a3 a4 a5 a6 a7 s0 s1 s2 s3 t0 t1 t2 t3 : Int) (hk : 30 ≤ k) : frustumref40_Blend.f k on a1 a2 a3 a4 a5 a6 a7 s0 s1 s2 s3 t0 t1 t2 t3 = some (blendS on a1 a2 a3 a4 a5 a6 (s0, s1, s2, s3) (t0, t1, t2, t3)) := by
  obtain ⟨k, rfl⟩ : ∃ m, k = m + 22 := ⟨k - 22, by omega⟩
  unfold frustumref40_Blend.f
  rw [show k + 22 = (k + 16) + 6 from rfl, ref_Blend_step0 _ _ _ _ _ _ _ _ _ _ _ _ _ _ _ _ _ _ (by simp), show k + 16 + 4 = (k + 14) + 6 from rfl, ref_Blend_step1 _ _ _ _ _ _ _ _ _ _ _ _ _ _ _ _ _ _ (by simp), show k + 14 + 4 = (k + 12) + 6 from rfl, ref_Blend_step2 _ _ _ _ _ _ _ _ _ _ _ _ _ _ _ _ _ _ (by simp), show k + 12 + 4 = (k + 10) + 6 from rfl, ref_Blend_step3 _ _ _ _ _ _ _ _ _ _ _ _ _ _ _ _ _ _ (by simp), show k + 10 + 4 = (k + 13) + 1 from rfl]
  unfold frustumref40_Blend.l0
  rw [if_neg (by decide)]
  simp only [List.nil_append, List.cons_append]
  rw [frustumref03_Of_eq _ _ _ _ _ (by omega), Option.bind_some]
  unfold blendS
  split <;> rfl
theorem v4_refl (v : V4) : (!(v.1 == v.1) || (!(v.2.1 == v.2.1) || (!(v.2.2.1 == v.2.2.1) || (!(v.2.2.2 == v.2.2.2))))) = false ∧ (v.1 == v.1 && (v.2.1 == v.2.1 && (v.2.2.1 == v.2.2.1 && (v.2.2.2 == v.2.2.2)))) = true := by simp
theorem eq_loop (on : Bool) (a1 a2 a3 a4 a5 a6 a7 s0 s1 s2 s3 t0 t1 t2 t3 : Int) : ∀ (d k i : Nat), i + d = 12 → 40 + d ≤ k → frustumlaw40_BlendEquation.l0 k i on a1 a2 a3 a4 a5 a6 a7 s0 s1 s2 s3 t0 t1 t2 t3 = some true := by
  intro d
  induction d with
  | zero =>
    intro k i hi hk
    obtain ⟨k, rfl⟩ : ∃ m, k = m + 1 := ⟨k - 1, by omega⟩
    unfold frustumlaw40_BlendEquation.l0
    rw [if_neg (by omega), blend_Factor_eq, Option.bind_some, frustumref40_Factor_eq _ _ _ _ _ _ _ _ _ _ (by omega), Option.bind_some, if_pos (v4_refl _).2, blend_Blend_eq _ _ _ _ _ _ _ _ _ _ _ _ _ _ _ _ _ (by omega), Option.bind_some, frustumref40_Blend_eq _ _ _ _ _ _ _ _ _ _ _ _ _ _ _ _ _ (by omega), Option.bind_some, if_pos (v4_refl _).2, frustumlaw40_example_eq _ (by omega)]
    rfl
  | succ d ih =>
    intro k i hi hk
    obtain ⟨k, rfl⟩ : ∃ m, k = m + 1 := ⟨k - 1, by omega⟩
    have hw : wrap64 ((i : Int) + 1) = ((i + 1 : Nat) : Int) := by rw [wrap_in _ (by omega) (by omega)]; omega
    unfold frustumlaw40_BlendEquation.l0
    rw [if_pos (by omega), blend_Factor_eq, Option.bind_some, frustumref40_Factor_eq _ _ _ _ _ _ _ _ _ _ (by omega), Option.bind_some, if_neg (by rw [(v4_refl _).1]; decide), hw]
    exact ih k (i + 1) (by omega) (by omega)
theorem BlendEquation (on : Bool) (a1 a2 a3 a4 a5 a6 a7 s0 s1 s2 s3 t0 t1 t2 t3 : Int) : ∃ k, frustumlaw40_BlendEquation.f k on a1 a2 a3 a4 a5 a6 a7 s0 s1 s2 s3 t0 t1 t2 t3 = some true :=
  ⟨100, eq_loop on a1 a2 a3 a4 a5 a6 a7 s0 s1 s2 s3 t0 t1 t2 t3 12 100 0 rfl (by decide)⟩

end Go.Proofs.YtgbneollfpmpkaaRR.Pure
