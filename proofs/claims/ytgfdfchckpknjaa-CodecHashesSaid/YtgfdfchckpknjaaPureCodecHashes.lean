/- CodecHashes: Hash returns what the reference returns. No condition. -/
import Derived.Test.YtgfdfchckpknjaaPCodecHashesx1
import Derived.Laws.BitsLemmas
namespace Go.Proofs.Ytgfdfchckpknjaa.Pure
set_option linter.unusedVariables false
set_option linter.unusedSimpArgs false
open Go.RowKit Go.Proofs.Ytgfdfchckpknjaa.PCodecHashes Go.Proofs.YtgfdfchckpknjaaW.PrintWords Go.Proofs.YtgfdfchckpknjaaW.PrintLast Go.Proofs.YtgfdfchckpknjaaW.PrintMore
/-! numbers -/
theorem and_mask (j : Nat) (hj : j ≤ 63) (n : Int) : Go.bits .and .i64 n (2 ^ j - 1) = n % 2 ^ j := by
  have hp : (2 : Nat) ^ j ≤ 2 ^ 63 := Nat.pow_le_pow_right (by decide) hj
  have hpos : 0 < (2 : Nat) ^ j := Nat.two_pow_pos j
  have hm : (BitVec.ofInt 64 ((2 : Int) ^ j - 1)).toNat = 2 ^ j - 1 := by
    have hc : ((2 : Int) ^ j - 1) = ((2 ^ j - 1 : Nat) : Int) := by rw [Int.natCast_sub hpos]; simp
    rw [hc, BitVec.ofInt_natCast, BitVec.toNat_ofNat]
    exact Nat.mod_eq_of_lt (by omega)
  have key : (BitVec.ofInt 64 n &&& BitVec.ofInt 64 ((2 : Int) ^ j - 1)).toNat = (n % ((2 ^ 64 : Nat) : Int)).toNat % 2 ^ j := by
    rw [BitVec.toNat_and, BitVec.toNat_ofInt, hm, Nat.and_two_pow_sub_one_eq_mod]
  show IntKind.i64.wrap ((BitVec.ofInt 64 n &&& BitVec.ofInt 64 ((2 : Int) ^ j - 1)).toNat : Nat) = n % 2 ^ j
  rw [key, Go.IntKind.wrap_i64]
  have hlt := Nat.mod_lt (n % ((2 ^ 64 : Nat) : Int)).toNat hpos
  have h1 : (((n % ((2 ^ 64 : Nat) : Int)).toNat % 2 ^ j : Nat) : Int) = n % 2 ^ j := by
    rw [Int.natCast_emod, Int.toNat_of_nonneg (Int.emod_nonneg _ (by decide))]
    rw [Int.natCast_pow]
    refine Int.emod_emod_of_dvd n ?_
    have : (2 : Int) ^ 64 = 2 ^ j * 2 ^ (64 - j) := by rw [← Int.pow_add]; congr 1; omega
    exact ⟨2 ^ (64 - j), by exact_mod_cast this⟩
  rw [← h1]
  omega
theorem and255 (n : Int) : Go.bits .and .i64 n 255 = n % 256 := and_mask 8 (by decide) n
theorem bits_i64_nat (a b : Nat) (ha : a < 2 ^ 63) (hb : b < 2 ^ 63) : Go.bits .and .i64 a b = ((a &&& b : Nat) : Int) ∧ Go.bits .or .i64 a b = ((a ||| b : Nat) : Int) :=
  Go.bits_nat .i64 63 (by decide) (fun n h0 h1 => by rw [Go.IntKind.wrap_i64]; omega) a b ha hb
/-- only the lowest bits count where the mask is small. -/
theorem and_low (j : Nat) (hj : j ≤ 63) (n m : Int) (h0 : 0 ≤ m) (h1 : m < 2 ^ j) : Go.bits .and .i64 n m = Go.bits .and .i64 (n % 2 ^ j) m := by
  obtain ⟨b, rfl⟩ := Int.eq_ofNat_of_zero_le h0
  have hb : b < 2 ^ j := by exact_mod_cast h1
  have hp : (2 : Nat) ^ j ≤ 2 ^ 63 := Nat.pow_le_pow_right (by decide) hj
  have hpos : 0 < (2 : Nat) ^ j := Nat.two_pow_pos j
  have hmm : ∀ x : Nat, x &&& b = (x % 2 ^ j) &&& b := by
    intro x
    rw [← Nat.and_two_pow_sub_one_eq_mod, Nat.and_assoc]
    congr 1
    rw [Nat.and_comm, Nat.and_two_pow_sub_one_eq_mod, Nat.mod_eq_of_lt hb]
  show IntKind.i64.wrap ((BitVec.ofInt 64 n &&& BitVec.ofInt 64 (b : Int)).toNat : Nat) = IntKind.i64.wrap ((BitVec.ofInt 64 (n % 2 ^ j) &&& BitVec.ofInt 64 (b : Int)).toNat : Nat)
  rw [BitVec.toNat_and, BitVec.toNat_and, BitVec.ofInt_natCast, BitVec.toNat_ofNat, Nat.mod_eq_of_lt (show b < 2 ^ 64 by omega), BitVec.toNat_ofInt, BitVec.toNat_ofInt]
  rw [hmm, hmm ((n % 2 ^ j) % ((2 ^ 64 : Nat) : Int)).toNat]
  congr 3
  have e : ∀ z : Int, ((z % ((2 ^ 64 : Nat) : Int)).toNat % 2 ^ j : Nat) = (z % 2 ^ j).toNat := by
    intro z
    have h1 : (((z % ((2 ^ 64 : Nat) : Int)).toNat % 2 ^ j : Nat) : Int) = z % 2 ^ j := by
      rw [Int.natCast_emod, Int.toNat_of_nonneg (Int.emod_nonneg _ (by decide)), Int.natCast_pow]
      refine Int.emod_emod_of_dvd z ?_
      have : (2 : Int) ^ 64 = 2 ^ j * 2 ^ (64 - j) := by rw [← Int.pow_add]; congr 1; omega
      exact ⟨2 ^ (64 - j), by exact_mod_cast this⟩
    omega
  rw [e, e, Int.emod_emod_of_dvd n (Int.dvd_refl _)]
theorem wrap_in (x : Int) (h0 : -9223372036854775808 ≤ x) (h1 : x ≤ 9223372036854775807) : wrap64 x = x := by unfold wrap64; omega
theorem wf_bounds {a : Int} (h : (Lit.int .i64 a).wf = true) : -9223372036854775808 ≤ a ∧ a ≤ 9223372036854775807 := by
  simpa [Lit.wf, IntKind.min, IntKind.max, IntKind.signed, IntKind.bits] using h
theorem u64_wrap (x : Int) : IntKind.u64.wrap x = x % 18446744073709551616 := by simp [IntKind.wrap, IntKind.bits, IntKind.signed]
theorem rd_nat (l : List Int) (i : Nat) (h : i < l.length) : rd l (i : Int) = l[i] := by unfold rd; simp [h]
theorem wrap_succ (l : List Int) (i : Nat) (hl : l.length ≤ maxLen) (h : i < l.length) : wrap64 ((i : Int) + 1) = ((i + 1 : Nat) : Int) := by
  simp only [maxLen] at hl
  rw [wrap_in _ (by omega) (by omega)]
  omega
def hashS : List Int → Int → Int
  | [], h => h
  | x :: r, h => hashS r (IntKind.u64.wrap ((Go.bits .xor .u64 h (IntKind.u64.wrap x)) * 1099511628211))
theorem codec_Hash_l0 (l : List Int) (hl : l.length ≤ maxLen) : ∀ (d k i : Nat) (h : Int), l.length - i = d → i ≤ l.length → d < k → codec_Hash.l0 k h l (l.length : Int) (i : Int) = some (hashS (l.drop i) h) := by
  intro d
  induction d with
  | zero =>
    intro k i h hd hi hk
    obtain ⟨k, rfl⟩ : ∃ m, k = m + 1 := ⟨k - 1, by omega⟩
    obtain rfl : i = l.length := by omega
    simp only [codec_Hash.l0]
    rw [if_neg (by omega), List.drop_length]
    rfl
  | succ d ih =>
    intro k i h hd hi hk
    obtain ⟨k, rfl⟩ : ∃ m, k = m + 1 := ⟨k - 1, by omega⟩
    simp only [codec_Hash.l0]
    rw [if_pos (by omega), if_pos (by omega), if_pos (by omega), wrap_succ l i hl (by omega), ih k (i + 1) _ (by omega) (by omega) (by omega), List.drop_eq_getElem_cons (show i < l.length by omega), rd_nat l i (by omega)]
    rfl
theorem frustumref05_Hash_l0 (l : List Int) (hl : l.length ≤ maxLen) : ∀ (d k i : Nat) (h : Int), l.length - i = d → i ≤ l.length → d < k → frustumref05_Hash.l0 k l h (i : Int) = some (hashS (l.drop i) h) := by
  intro d
  induction d with
  | zero =>
    intro k i h hd hi hk
    obtain ⟨k, rfl⟩ : ∃ m, k = m + 1 := ⟨k - 1, by omega⟩
    obtain rfl : i = l.length := by omega
    simp only [frustumref05_Hash.l0]
    rw [if_neg (by omega), List.drop_length]
    rfl
  | succ d ih =>
    intro k i h hd hi hk
    obtain ⟨k, rfl⟩ : ∃ m, k = m + 1 := ⟨k - 1, by omega⟩
    simp only [frustumref05_Hash.l0]
    rw [if_pos (by omega), if_pos (by omega), wrap_succ l i hl (by omega), ih k (i + 1) _ (by omega) (by omega) (by omega), List.drop_eq_getElem_cons (show i < l.length by omega), rd_nat l i (by omega)]
    rfl
theorem frustumlaw05_example_eq0 : frustumlaw05_example.f 20 = some true := by decide +kernel
theorem frustumlaw05_example_eq (k : Nat) (hk : 20 ≤ k) : frustumlaw05_example.f k = some true := by
  obtain ⟨d, rfl⟩ : ∃ d, k = 20 + d := ⟨k - 20, by omega⟩
  clear hk
  induction d with
  | zero => exact frustumlaw05_example_eq0
  | succ d ih => exact frustumlaw05_example.mono (20 + d) _ ih
theorem CodecHashes : frustumlaw05_CodecHashes.Pure := by
  intro l hl _ _
  refine ⟨l.length + 21, ?_⟩
  have h1 := codec_Hash_l0 l hl l.length (l.length + 21) 0 14695981039346656037 (by omega) (by omega) (by omega)
  have h2 := frustumref05_Hash_l0 l hl l.length (l.length + 21) 0 14695981039346656037 (by omega) (by omega) (by omega)
  unfold frustumlaw05_CodecHashes.f codec_Hash.f frustumref05_Hash.f
  rw [show ((0 : Int)) = ((0 : Nat) : Int) from rfl, h1, h2, Option.bind_some, Option.bind_some, if_pos rfl, frustumlaw05_example_eq _ (by omega)]
  rfl

end Go.Proofs.Ytgfdfchckpknjaa.Pure
