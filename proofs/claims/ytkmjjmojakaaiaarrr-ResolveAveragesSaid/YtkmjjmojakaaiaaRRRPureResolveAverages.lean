/- ResolveAverages: for every list of colors, Average returns what the reference returns, and the chapter's examples hold. No condition. -/
import Derived.Test.YtkmjjmojakaaiaaRRRPResolveAveragesx6
import Derived.Laws.BitsLemmas
namespace Go.Proofs.YtkmjjmojakaaiaaRRR.Pure
set_option linter.unusedVariables false
set_option linter.unusedSimpArgs false
open Go.RowKit Go.Proofs.YtkmjjmojakaaiaaRRR.PResolveAverages Go.Proofs.YtkmjjmojakaaiaaRRRW.PrintWords Go.Proofs.YtkmjjmojakaaiaaRRRW.PrintLast Go.Proofs.YtkmjjmojakaaiaaRRRW.PrintMore
/-! numbers -/
theorem and_mask (j : Nat) (hj : j ≤ 63) (n : Int) : Go.bits .and .i64 n (2 ^ j - 1) = n % 2 ^ j := by
  have hp : (2 : Nat) ^ j ≤ 2 ^ 63 := Nat.pow_le_pow_right (by decide) hj
  have hpos : 0 < (2 : Nat) ^ j := Nat.two_pow_pos j
  have hm : (BitVec.ofInt 64 ((2 : Int) ^ j - 1)).toNat = 2 ^ j - 1 := by
    have hc : ((2 : Int) ^ j - 1) = ((2 ^ j - 1 : Nat) : Int) := by rw [Int.natCast_sub hpos]; simp
    rw [hc, BitVec.ofInt_natCast, BitVec.toNat_ofNat]
    exact Nat.mod_eq_of_lt (by omega)
  have key : (BitVec.ofInt 64 n &&& BitVec.ofInt 64 ((2 : Int) ^ j - 1)).toNat = (n % ((2 ^ 64 : Nat) : Int)).toNat % 2 ^ j := by
    rw [BitVec.toNat_and, BitVec.toNat_ofInt, hm, Nat.and_two_pow_sub_one_eq_mod]
  show IntKind.i64.wrap ((BitVec.ofInt 64 n &&& BitVec.ofInt 64 ((2 : Int) ^ j - 1)).toNat : Nat) = n % 2 ^ j
  rw [key, Go.IntKind.wrap_i64]
  have hlt := Nat.mod_lt (n % ((2 ^ 64 : Nat) : Int)).toNat hpos
  have h1 : (((n % ((2 ^ 64 : Nat) : Int)).toNat % 2 ^ j : Nat) : Int) = n % 2 ^ j := by
    rw [Int.natCast_emod, Int.toNat_of_nonneg (Int.emod_nonneg _ (by decide))]
    rw [Int.natCast_pow]
    refine Int.emod_emod_of_dvd n ?_
    have : (2 : Int) ^ 64 = 2 ^ j * 2 ^ (64 - j) := by rw [← Int.pow_add]; congr 1; omega
    exact ⟨2 ^ (64 - j), by exact_mod_cast this⟩
  rw [← h1]
  omega
theorem and255 (n : Int) : Go.bits .and .i64 n 255 = n % 256 := and_mask 8 (by decide) n
theorem bits_i64_nat (a b : Nat) (ha : a < 2 ^ 63) (hb : b < 2 ^ 63) : Go.bits .and .i64 a b = ((a &&& b : Nat) : Int) ∧ Go.bits .or .i64 a b = ((a ||| b : Nat) : Int) :=
  Go.bits_nat .i64 63 (by decide) (fun n h0 h1 => by rw [Go.IntKind.wrap_i64]; omega) a b ha hb
/-- only the lowest bits count where the mask is small. -/
theorem and_low (j : Nat) (hj : j ≤ 63) (n m : Int) (h0 : 0 ≤ m) (h1 : m < 2 ^ j) : Go.bits .and .i64 n m = Go.bits .and .i64 (n % 2 ^ j) m := by
  obtain ⟨b, rfl⟩ := Int.eq_ofNat_of_zero_le h0
  have hb : b < 2 ^ j := by exact_mod_cast h1
  have hp : (2 : Nat) ^ j ≤ 2 ^ 63 := Nat.pow_le_pow_right (by decide) hj
  have hpos : 0 < (2 : Nat) ^ j := Nat.two_pow_pos j
  have hmm : ∀ x : Nat, x &&& b = (x % 2 ^ j) &&& b := by
    intro x
    rw [← Nat.and_two_pow_sub_one_eq_mod, Nat.and_assoc]
    congr 1
    rw [Nat.and_comm, Nat.and_two_pow_sub_one_eq_mod, Nat.mod_eq_of_lt hb]
  show IntKind.i64.wrap ((BitVec.ofInt 64 n &&& BitVec.ofInt 64 (b : Int)).toNat : Nat) = IntKind.i64.wrap ((BitVec.ofInt 64 (n % 2 ^ j) &&& BitVec.ofInt 64 (b : Int)).toNat : Nat)
  rw [BitVec.toNat_and, BitVec.toNat_and, BitVec.ofInt_natCast, BitVec.toNat_ofNat, Nat.mod_eq_of_lt (show b < 2 ^ 64 by omega), BitVec.toNat_ofInt, BitVec.toNat_ofInt]
  rw [hmm, hmm ((n % 2 ^ j) % ((2 ^ 64 : Nat) : Int)).toNat]
  congr 3
  have e : ∀ z : Int, ((z % ((2 ^ 64 : Nat) : Int)).toNat % 2 ^ j : Nat) = (z % 2 ^ j).toNat := by
    intro z
    have h1 : (((z % ((2 ^ 64 : Nat) : Int)).toNat % 2 ^ j : Nat) : Int) = z % 2 ^ j := by
      rw [Int.natCast_emod, Int.toNat_of_nonneg (Int.emod_nonneg _ (by decide)), Int.natCast_pow]
      refine Int.emod_emod_of_dvd z ?_
      have : (2 : Int) ^ 64 = 2 ^ j * 2 ^ (64 - j) := by rw [← Int.pow_add]; congr 1; omega
      exact ⟨2 ^ (64 - j), by exact_mod_cast this⟩
    omega
  rw [e, e, Int.emod_emod_of_dvd n (Int.dvd_refl _)]
theorem wrap_in (x : Int) (h0 : -9223372036854775808 ≤ x) (h1 : x ≤ 9223372036854775807) : wrap64 x = x := by unfold wrap64; omega
theorem wf_bounds {a : Int} (h : (Lit.int .i64 a).wf = true) : -9223372036854775808 ≤ a ∧ a ≤ 9223372036854775807 := by
  simpa [Lit.wf, IntKind.min, IntKind.max, IntKind.signed, IntKind.bits] using h
theorem u64_wrap (x : Int) : IntKind.u64.wrap x = x % 18446744073709551616 := by simp [IntKind.wrap, IntKind.bits, IntKind.signed]
def rdiv0 (n d : Int) : Int := (2 * n + d) / (2 * d)
def rdiv (n d : Int) : Int := if d < 1 ∨ d > 4611686018427387904 ∨ n < -4611686018427387904 ∨ n > 4611686018427387904 then 0 else if n < 0 then -rdiv0 (-n) d else rdiv0 n d
theorem rdiv0_le (n d : Int) (h0 : 0 ≤ n) (hd : 1 ≤ d) : 0 ≤ rdiv0 n d ∧ rdiv0 n d ≤ n + 1 := by
  unfold rdiv0
  refine ⟨Int.ediv_nonneg (by omega) (by omega), ?_⟩
  refine Int.ediv_le_of_le_mul (by omega) ?_
  have : n * 1 ≤ n * d := Int.mul_le_mul_of_nonneg_left hd h0
  have e : (n + 1) * (2 * d) = 2 * (n * d) + 2 * d := by rw [Int.add_mul, Int.mul_left_comm, Int.one_mul]
  omega
theorem rdiv0_alt (n d : Int) (h0 : 0 ≤ n) (hd : 1 ≤ d) : rdiv0 n d = if n % d ≥ d - n % d then n / d + 1 else n / d := by
  unfold rdiv0
  have hr0 := Int.emod_nonneg n (show d ≠ 0 by omega)
  have hr1 := Int.emod_lt_of_pos n (show 0 < d by omega)
  have hq := Int.mul_ediv_add_emod n d
  generalize n % d = r at *
  generalize n / d = q at *
  have e1 : 2 * d * q = 2 * (d * q) := Int.mul_assoc 2 d q
  split
  · have e2 : 2 * d * (q + 1) = 2 * (d * q) + 2 * d := by rw [Int.mul_add, e1]; omega
    have h1 : q + 1 ≤ (2 * n + d) / (2 * d) := Int.le_ediv_of_mul_le (by omega) (by rw [Int.mul_comm, e2]; omega)
    have h2 : (2 * n + d) / (2 * d) < q + 1 + 1 := Int.ediv_lt_of_lt_mul (by omega) (by rw [Int.mul_comm (q + 1 + 1), Int.mul_add, e2]; omega)
    omega
  · have h1 : q ≤ (2 * n + d) / (2 * d) := Int.le_ediv_of_mul_le (by omega) (by rw [Int.mul_comm, e1]; omega)
    have h2 : (2 * n + d) / (2 * d) < q + 1 := Int.ediv_lt_of_lt_mul (by omega) (by rw [Int.mul_comm (q + 1), Int.mul_add, e1]; omega)
    omega
theorem fixed_RoundDiv_pos (k : Nat) (n d : Int) (hk : 2 ≤ k) (h0 : 0 ≤ n) (h1 : n ≤ 4611686018427387904) (hd : 1 ≤ d) (hd1 : d ≤ 4611686018427387904) : fixed_RoundDiv.f k n d = some (rdiv0 n d) := by
  obtain ⟨k, rfl⟩ : ∃ m, k = m + 2 := ⟨k - 2, by omega⟩
  simp only [fixed_RoundDiv.f, fixed_RoundDiv.j0]
  have hb := rdiv0_le n d h0 hd
  rw [if_neg (by omega), if_neg (by omega), if_neg (by omega), decide_eq_false (by omega)]
  rw [if_neg (by decide), if_neg (by omega)]
  have e1 : IntKind.u64.wrap d = d := by rw [u64_wrap]; omega
  have e2 : IntKind.u64.wrap n = n := by rw [u64_wrap]; omega
  rw [e1, e2]
  have e3 : IntKind.u64.wrap (2 * d) = 2 * d := by rw [u64_wrap]; omega
  have e4 : IntKind.u64.wrap (2 * n) = 2 * n := by rw [u64_wrap]; omega
  rw [e3, e4]
  have e5 : IntKind.u64.wrap (2 * n + d) = 2 * n + d := by rw [u64_wrap]; omega
  rw [e5, if_neg (by omega), Int.tdiv_eq_ediv_of_nonneg (by omega)]
  show some (wrap64 (IntKind.u64.wrap (rdiv0 n d))) = some (rdiv0 n d)
  have e6 : IntKind.u64.wrap (rdiv0 n d) = rdiv0 n d := by rw [u64_wrap]; omega
  rw [e6, wrap_in _ (by omega) (by omega)]
theorem fixed_RoundDiv_eq (k : Nat) (n d : Int) (hk : 4 ≤ k) : fixed_RoundDiv.f k n d = some (rdiv n d) := by
  unfold rdiv
  split
  · rename_i h
    obtain ⟨k, rfl⟩ : ∃ m, k = m + 2 := ⟨k - 2, by omega⟩
    simp only [fixed_RoundDiv.f, fixed_RoundDiv.j0]
    by_cases h1 : d < 1
    · rw [if_pos h1, if_pos trivial]
    · rw [if_neg h1]
      by_cases h2 : d > 4611686018427387904
      · rw [if_pos h2, if_pos trivial]
      · rw [if_neg h2]
        by_cases h3 : n < -4611686018427387904
        · rw [if_pos h3, if_pos trivial]
        · rw [if_neg h3, decide_eq_true (by omega), if_pos rfl]
  · rename_i h
    split
    · rename_i hn
      obtain ⟨k, rfl⟩ : ∃ m, k = m + 2 := ⟨k - 2, by omega⟩
      simp only [fixed_RoundDiv.f, fixed_RoundDiv.j0]
      rw [if_neg (by omega), if_neg (by omega), if_neg (by omega), decide_eq_false (by omega), if_neg (by decide), if_pos hn]
      rw [wrap_in _ (by omega) (by omega), fixed_RoundDiv_pos k (-n) d (by omega) (by omega) (by omega) (by omega) (by omega)]
      have hb := rdiv0_le (-n) d (by omega) (by omega)
      simp only [Option.bind_some]
      rw [wrap_in _ (by omega) (by omega)]
    · exact fixed_RoundDiv_pos k n d (by omega) (by omega) (by omega) (by omega) (by omega)
theorem frustumref01_RoundDiv_pos (k : Nat) (n d : Int) (hk : 2 ≤ k) (h0 : 0 ≤ n) (h1 : n ≤ 4611686018427387904) (hd : 1 ≤ d) (hd1 : d ≤ 4611686018427387904) : frustumref01_RoundDiv.f k n d = some (rdiv0 n d) := by
  obtain ⟨k, rfl⟩ : ∃ m, k = m + 2 := ⟨k - 2, by omega⟩
  simp only [frustumref01_RoundDiv.f, frustumref01_RoundDiv.j0]
  have hb := rdiv0_le n d h0 hd
  rw [if_neg (by omega), if_neg (by omega), if_neg (by omega), decide_eq_false (by omega)]
  rw [if_neg (by decide), if_neg (by omega)]
  have hr0 := Int.emod_nonneg n (show d ≠ 0 by omega)
  have hr1 := Int.emod_lt_of_pos n (show 0 < d by omega)
  have hq0 : 0 ≤ n / d := Int.ediv_nonneg h0 (by omega)
  have hq1 : n / d ≤ n := Int.ediv_le_self d h0
  rw [if_neg (by omega), Int.tmod_eq_emod_of_nonneg h0, Int.tdiv_eq_ediv_of_nonneg h0, wrap_in (d - n % d) (by omega) (by omega), wrap_in (n / d) (by omega) (by omega), wrap_in (n / d + 1) (by omega) (by omega), rdiv0_alt n d h0 hd]
  split <;> rfl
theorem frustumref01_RoundDiv_eq (k : Nat) (n d : Int) (hk : 4 ≤ k) : frustumref01_RoundDiv.f k n d = some (rdiv n d) := by
  unfold rdiv
  split
  · rename_i h
    obtain ⟨k, rfl⟩ : ∃ m, k = m + 2 := ⟨k - 2, by omega⟩
    simp only [frustumref01_RoundDiv.f, frustumref01_RoundDiv.j0]
    by_cases h1 : d < 1
    · rw [if_pos h1, if_pos trivial]
    · rw [if_neg h1]
      by_cases h2 : d > 4611686018427387904
      · rw [if_pos h2, if_pos trivial]
      · rw [if_neg h2]
        by_cases h3 : n < -4611686018427387904
        · rw [if_pos h3, if_pos trivial]
        · rw [if_neg h3, decide_eq_true (by omega), if_pos rfl]
  · rename_i h
    split
    · rename_i hn
      obtain ⟨k, rfl⟩ : ∃ m, k = m + 2 := ⟨k - 2, by omega⟩
      simp only [frustumref01_RoundDiv.f, frustumref01_RoundDiv.j0]
      rw [if_neg (by omega), if_neg (by omega), if_neg (by omega), decide_eq_false (by omega), if_neg (by decide), if_pos hn]
      rw [wrap_in _ (by omega) (by omega), frustumref01_RoundDiv_pos k (-n) d (by omega) (by omega) (by omega) (by omega) (by omega)]
      have hb := rdiv0_le (-n) d (by omega) (by omega)
      simp only [Option.bind_some]
      rw [wrap_in _ (by omega) (by omega)]
    · exact frustumref01_RoundDiv_pos k n d (by omega) (by omega) (by omega) (by omega) (by omega)
def clampS (x lo hi : Int) : Int := mx (mn x hi) lo
theorem clampS_le (x lo hi : Int) (h : lo ≤ hi) : lo ≤ clampS x lo hi ∧ clampS x lo hi ≤ hi := by unfold clampS mx mn; (repeat' split) <;> omega
theorem clampS_in (x lo hi : Int) (h0 : lo ≤ x) (h1 : x ≤ hi) : clampS x lo hi = x := by unfold clampS mx mn; (repeat' split) <;> omega
theorem clampS_mono (x y lo hi : Int) (h : x ≤ y) : clampS x lo hi ≤ clampS y lo hi := by unfold clampS mx mn; (repeat' split) <;> omega
theorem frustumref01_Clamp_eq (k : Nat) (x lo hi : Int) (hk : 1 ≤ k) : frustumref01_Clamp.f k x lo hi = some (clampS x lo hi) := by
  obtain ⟨k, rfl⟩ : ∃ m, k = m + 1 := ⟨k - 1, by omega⟩
  simp only [frustumref01_Clamp.f, frustumref01_Clamp.j0, clampS, mx, mn]
  by_cases h1 : lo > hi
  · rw [if_pos h1]; simp only [if_true, Option.some.injEq]; (repeat' split) <;> omega
  · rw [if_neg h1]
    by_cases h2 : x < lo
    · rw [decide_eq_true h2]; simp only [if_true, Option.some.injEq]; (repeat' split) <;> omega
    · rw [decide_eq_false h2, if_neg (by decide)]; (repeat' split) <;> first | rfl | (exfalso; omega) | (simp only [Option.some.injEq]; omega)
def sat (x : Int) : Int := clampS x (-536870911) 536870911
theorem sat_bd (x : Int) : -536870911 ≤ sat x ∧ sat x ≤ 536870911 := clampS_le x _ _ (by decide)
theorem sat_in (x : Int) (h0 : -536870911 ≤ x) (h1 : x ≤ 536870911) : sat x = x := clampS_in x _ _ h0 h1
theorem fixed_Saturate_eq (x : Int) : fixed_Saturate.f x = some (sat x) := rfl
theorem frustumref01_Saturate_eq (k : Nat) (x : Int) (hk : 1 ≤ k) : frustumref01_Saturate.f k x = some (sat x) := by
  simp only [frustumref01_Saturate.f, frustumref01_Clamp_eq k _ _ _ hk, Option.bind_some, sat]
def acc (f : S24 → Int) : List S24 → Int → Int
  | [], s => s
  | c :: r, s => acc f r (wrap64 (s + sat (f c)))
def avgS (l : List S24) : Int × Int × Int × Int :=
  if l.length = 0 ∨ 64 < l.length then (0, 0, 0, 0) else (rdiv (acc S24.f0 l 0) l.length, rdiv (acc S24.f1 l 0) l.length, rdiv (acc S24.f2 l 0) l.length, rdiv (acc S24.f3 l 0) l.length)
theorem acc_drop (f : S24 → Int) (l : List S24) (i : Nat) (h : i < l.length) (s : Int) : acc f (l.drop i) s = acc f (l.drop (i + 1)) (wrap64 (s + sat (f (rd_T24 l i)))) := by
  rw [List.drop_eq_getElem_cons h]
  have e : rd_T24 l i = l[i] := by unfold rd_T24; simp [h]
  simp only [acc, e]
theorem resolve_Average_l0 (l : List S24) (hn : l.length ≤ 64) (d : Nat) : ∀ (k i : Nat) (s0 s1 s2 s3 : Int), i ≤ l.length → l.length - i = d → d + 5 ≤ k →
    resolve_Average.l0 k l l (l.length : Int) (i : Int) s0 s1 s2 s3 = some (rdiv (acc S24.f0 (l.drop i) s0) l.length, rdiv (acc S24.f1 (l.drop i) s1) l.length, rdiv (acc S24.f2 (l.drop i) s2) l.length, rdiv (acc S24.f3 (l.drop i) s3) l.length) := by
  induction d with
  | zero =>
    intro k i s0 s1 s2 s3 hi hd hk
    obtain ⟨k, rfl⟩ : ∃ m, k = m + 1 := ⟨k - 1, by omega⟩
    have e : l.drop i = [] := List.drop_eq_nil_of_le (by omega)
    simp only [resolve_Average.l0, e, acc]
    rw [if_neg (by omega)]
    simp only [fixed_RoundDiv_eq k _ _ (show 4 ≤ k by omega), Option.bind_some]
  | succ d ih =>
    intro k i s0 s1 s2 s3 hi hd hk
    obtain ⟨k, rfl⟩ : ∃ m, k = m + 1 := ⟨k - 1, by omega⟩
    simp only [resolve_Average.l0]
    rw [if_pos (by omega), if_pos (by omega), if_pos (by omega)]
    simp only [fixed_Saturate_eq, Option.bind_some]
    have hw : wrap64 ((i : Int) + 1) = ((i + 1 : Nat) : Int) := by rw [wrap_in _ (by omega) (by omega)]; omega
    rw [hw, ih k (i + 1) _ _ _ _ (by omega) (by omega) (by omega)]
    simp only [acc_drop _ l i (by omega)]
theorem resolve_Average_eq (k : Nat) (l : List S24) (hk : 80 ≤ k) : resolve_Average.f k l = some (avgS l) := by
  obtain ⟨k, rfl⟩ : ∃ m, k = m + 1 := ⟨k - 1, by omega⟩
  unfold resolve_Average.f
  by_cases h0 : l.length = 0
  · have e : avgS l = (0, 0, 0, 0) := by unfold avgS; rw [if_pos (Or.inl h0)]
    rw [if_pos (by omega), e]; rfl
  · rw [if_neg (by omega)]
    by_cases h1 : 64 < l.length
    · have e : avgS l = (0, 0, 0, 0) := by unfold avgS; rw [if_pos (Or.inr h1)]
      rw [decide_eq_true (by omega), e]; rfl
    · have e : avgS l = (rdiv (acc S24.f0 l 0) l.length, rdiv (acc S24.f1 l 0) l.length, rdiv (acc S24.f2 l 0) l.length, rdiv (acc S24.f3 l 0) l.length) := by unfold avgS; rw [if_neg (by omega)]
      rw [decide_eq_false (by omega), e]
      have := resolve_Average_l0 l (by omega) l.length k 0 0 0 0 0 (by omega) (by omega) (by omega)
      simp only [resolve_Average.j0]
      rw [if_neg (by decide)]
      simpa using this
theorem frustumref41_Average_l0 (l : List S24) (hn : l.length ≤ 64) (d : Nat) : ∀ (k i : Nat) (s0 s1 s2 s3 : Int), i ≤ l.length → l.length - i = d → d + 5 ≤ k →
    frustumref41_Average.l0 k l (l.length : Int) (i : Int) s0 s1 s2 s3 = some (rdiv (acc S24.f0 (l.drop i) s0) l.length, rdiv (acc S24.f1 (l.drop i) s1) l.length, rdiv (acc S24.f2 (l.drop i) s2) l.length, rdiv (acc S24.f3 (l.drop i) s3) l.length) := by
  induction d with
  | zero =>
    intro k i s0 s1 s2 s3 hi hd hk
    obtain ⟨k, rfl⟩ : ∃ m, k = m + 1 := ⟨k - 1, by omega⟩
    have e : l.drop i = [] := List.drop_eq_nil_of_le (by omega)
    simp only [frustumref41_Average.l0, e, acc]
    rw [if_neg (by omega)]
    simp only [frustumref01_RoundDiv_eq k _ _ (show 4 ≤ k by omega), Option.bind_some]
  | succ d ih =>
    intro k i s0 s1 s2 s3 hi hd hk
    obtain ⟨k, rfl⟩ : ∃ m, k = m + 1 := ⟨k - 1, by omega⟩
    simp only [frustumref41_Average.l0]
    rw [if_pos (by omega), if_pos (by omega), if_pos (by omega)]
    simp only [frustumref01_Saturate_eq k _ (show 1 ≤ k by omega), Option.bind_some]
    have hw : wrap64 ((i : Int) + 1) = ((i + 1 : Nat) : Int) := by rw [wrap_in _ (by omega) (by omega)]; omega
    rw [hw, ih k (i + 1) _ _ _ _ (by omega) (by omega) (by omega)]
    simp only [acc_drop _ l i (by omega)]
theorem frustumref41_Average_eq (k : Nat) (l : List S24) (hk : 80 ≤ k) : frustumref41_Average.f k l = some (avgS l) := by
  obtain ⟨k, rfl⟩ : ∃ m, k = m + 1 := ⟨k - 1, by omega⟩
  unfold frustumref41_Average.f
  by_cases h0 : l.length = 0
  · have e : avgS l = (0, 0, 0, 0) := by unfold avgS; rw [if_pos (Or.inl h0)]
    rw [if_pos (by omega), e]; rfl
  · rw [if_neg (by omega)]
    by_cases h1 : 64 < l.length
    · have e : avgS l = (0, 0, 0, 0) := by unfold avgS; rw [if_pos (Or.inr h1)]
      rw [decide_eq_true (by omega), e]; rfl
    · have e : avgS l = (rdiv (acc S24.f0 l 0) l.length, rdiv (acc S24.f1 l 0) l.length, rdiv (acc S24.f2 l 0) l.length, rdiv (acc S24.f3 l 0) l.length) := by unfold avgS; rw [if_neg (by omega)]
      rw [decide_eq_false (by omega), e]
      have := frustumref41_Average_l0 l (by omega) l.length k 0 0 0 0 0 (by omega) (by omega) (by omega)
      simp only [frustumref41_Average.j0]
      rw [if_neg (by decide)]
      simpa using this
theorem avgS_ex1 : avgS [⟨65536, 0, 0, 0⟩, ⟨0, 0, 0, 65536⟩] = (32768, 0, 0, 32768) := by decide +kernel
theorem avgS_ex2 : avgS [] = (0, 0, 0, 0) := rfl
theorem frustumlaw41_example_eq (k : Nat) (hk : 80 ≤ k) : frustumlaw41_example.f k = some true := by
  simp only [frustumlaw41_example.f, resolve_Average_eq k _ hk, avgS_ex1, avgS_ex2, Option.bind_some]
  decide +kernel
theorem ResolveAverages (l : List S24) : ∃ k, frustumlaw41_ResolveAverages.f k l = some true := by
  refine ⟨100, ?_⟩
  simp only [frustumlaw41_ResolveAverages.f, resolve_Average_eq 100 _ (by decide), frustumref41_Average_eq 100 _ (by decide), frustumlaw41_example_eq 100 (by decide), Option.bind_some, beq_self_eq_true, Bool.and_true, Bool.and_self, if_true]

end Go.Proofs.YtkmjjmojakaaiaaRRR.Pure
