/- CodecStores: Little reads the lowest bits of a number that PutLittle wrote, and no other byte changes. No condition. -/
import Derived.Test.YtgfdfchckpknjaaPCodecStoresx2
import Derived.Laws.BitsLemmas
namespace Go.Proofs.Ytgfdfchckpknjaa.Pure
set_option linter.unusedVariables false
set_option linter.unusedSimpArgs false
open Go.RowKit Go.Proofs.Ytgfdfchckpknjaa.PCodecStores Go.Proofs.YtgfdfchckpknjaaW.PrintWords Go.Proofs.YtgfdfchckpknjaaW.PrintLast Go.Proofs.YtgfdfchckpknjaaW.PrintMore
/-! numbers -/
theorem and_mask (j : Nat) (hj : j ≤ 63) (n : Int) : Go.bits .and .i64 n (2 ^ j - 1) = n % 2 ^ j := by
  have hp : (2 : Nat) ^ j ≤ 2 ^ 63 := Nat.pow_le_pow_right (by decide) hj
  have hpos : 0 < (2 : Nat) ^ j := Nat.two_pow_pos j
  have hm : (BitVec.ofInt 64 ((2 : Int) ^ j - 1)).toNat = 2 ^ j - 1 := by
    have hc : ((2 : Int) ^ j - 1) = ((2 ^ j - 1 : Nat) : Int) := by rw [Int.natCast_sub hpos]; simp
    rw [hc, BitVec.ofInt_natCast, BitVec.toNat_ofNat]
    exact Nat.mod_eq_of_lt (by omega)
  have key : (BitVec.ofInt 64 n &&& BitVec.ofInt 64 ((2 : Int) ^ j - 1)).toNat = (n % ((2 ^ 64 : Nat) : Int)).toNat % 2 ^ j := by
    rw [BitVec.toNat_and, BitVec.toNat_ofInt, hm, Nat.and_two_pow_sub_one_eq_mod]
  show IntKind.i64.wrap ((BitVec.ofInt 64 n &&& BitVec.ofInt 64 ((2 : Int) ^ j - 1)).toNat : Nat) = n % 2 ^ j
  rw [key, Go.IntKind.wrap_i64]
  have hlt := Nat.mod_lt (n % ((2 ^ 64 : Nat) : Int)).toNat hpos
  have h1 : (((n % ((2 ^ 64 : Nat) : Int)).toNat % 2 ^ j : Nat) : Int) = n % 2 ^ j := by
    rw [Int.natCast_emod, Int.toNat_of_nonneg (Int.emod_nonneg _ (by decide))]
    rw [Int.natCast_pow]
    refine Int.emod_emod_of_dvd n ?_
    have : (2 : Int) ^ 64 = 2 ^ j * 2 ^ (64 - j) := by rw [← Int.pow_add]; congr 1; omega
    exact ⟨2 ^ (64 - j), by exact_mod_cast this⟩
  rw [← h1]
  omega
theorem and255 (n : Int) : Go.bits .and .i64 n 255 = n % 256 := and_mask 8 (by decide) n
theorem bits_i64_nat (a b : Nat) (ha : a < 2 ^ 63) (hb : b < 2 ^ 63) : Go.bits .and .i64 a b = ((a &&& b : Nat) : Int) ∧ Go.bits .or .i64 a b = ((a ||| b : Nat) : Int) :=
  Go.bits_nat .i64 63 (by decide) (fun n h0 h1 => by rw [Go.IntKind.wrap_i64]; omega) a b ha hb
/-- only the lowest bits count where the mask is small. -/
theorem and_low (j : Nat) (hj : j ≤ 63) (n m : Int) (h0 : 0 ≤ m) (h1 : m < 2 ^ j) : Go.bits .and .i64 n m = Go.bits .and .i64 (n % 2 ^ j) m := by
  obtain ⟨b, rfl⟩ := Int.eq_ofNat_of_zero_le h0
  have hb : b < 2 ^ j := by exact_mod_cast h1
  have hp : (2 : Nat) ^ j ≤ 2 ^ 63 := Nat.pow_le_pow_right (by decide) hj
  have hpos : 0 < (2 : Nat) ^ j := Nat.two_pow_pos j
  have hmm : ∀ x : Nat, x &&& b = (x % 2 ^ j) &&& b := by
    intro x
    rw [← Nat.and_two_pow_sub_one_eq_mod, Nat.and_assoc]
    congr 1
    rw [Nat.and_comm, Nat.and_two_pow_sub_one_eq_mod, Nat.mod_eq_of_lt hb]
  show IntKind.i64.wrap ((BitVec.ofInt 64 n &&& BitVec.ofInt 64 (b : Int)).toNat : Nat) = IntKind.i64.wrap ((BitVec.ofInt 64 (n % 2 ^ j) &&& BitVec.ofInt 64 (b : Int)).toNat : Nat)
  rw [BitVec.toNat_and, BitVec.toNat_and, BitVec.ofInt_natCast, BitVec.toNat_ofNat, Nat.mod_eq_of_lt (show b < 2 ^ 64 by omega), BitVec.toNat_ofInt, BitVec.toNat_ofInt]
  rw [hmm, hmm ((n % 2 ^ j) % ((2 ^ 64 : Nat) : Int)).toNat]
  congr 3
  have e : ∀ z : Int, ((z % ((2 ^ 64 : Nat) : Int)).toNat % 2 ^ j : Nat) = (z % 2 ^ j).toNat := by
    intro z
    have h1 : (((z % ((2 ^ 64 : Nat) : Int)).toNat % 2 ^ j : Nat) : Int) = z % 2 ^ j := by
      rw [Int.natCast_emod, Int.toNat_of_nonneg (Int.emod_nonneg _ (by decide)), Int.natCast_pow]
      refine Int.emod_emod_of_dvd z ?_
      have : (2 : Int) ^ 64 = 2 ^ j * 2 ^ (64 - j) := by rw [← Int.pow_add]; congr 1; omega
      exact ⟨2 ^ (64 - j), by exact_mod_cast this⟩
    omega
  rw [e, e, Int.emod_emod_of_dvd n (Int.dvd_refl _)]
theorem wrap_in (x : Int) (h0 : -9223372036854775808 ≤ x) (h1 : x ≤ 9223372036854775807) : wrap64 x = x := by unfold wrap64; omega
theorem wf_bounds {a : Int} (h : (Lit.int .i64 a).wf = true) : -9223372036854775808 ≤ a ∧ a ≤ 9223372036854775807 := by
  simpa [Lit.wf, IntKind.min, IntKind.max, IntKind.signed, IntKind.bits] using h
theorem u64_wrap (x : Int) : IntKind.u64.wrap x = x % 18446744073709551616 := by simp [IntKind.wrap, IntKind.bits, IntKind.signed]
theorem rd_nat (l : List Int) (i : Nat) (h : i < l.length) : rd l (i : Int) = l[i] := by unfold rd; simp [h]
theorem wrap_succ (l : List Int) (i : Nat) (hl : l.length ≤ maxLen) (h : i < l.length) : wrap64 ((i : Int) + 1) = ((i + 1 : Nat) : Int) := by
  simp only [maxLen] at hl
  rw [wrap_in _ (by omega) (by omega)]
  omega
theorem frustumref05_Same_l0 (a b : List Int) (ha : a.length ≤ maxLen) (hb : a.length = b.length) : ∀ (d k i : Nat), a.length - i = d → i ≤ a.length → d < k → frustumref05_Same.l0 k a b (i : Int) = some (decide (a.drop i = b.drop i)) := by
  intro d
  induction d with
  | zero =>
    intro k i hd hi hk
    obtain ⟨k, rfl⟩ : ∃ m, k = m + 1 := ⟨k - 1, by omega⟩
    obtain rfl : i = a.length := by omega
    simp only [frustumref05_Same.l0]
    rw [if_neg (by omega), List.drop_length, hb, List.drop_length]
    rfl
  | succ d ih =>
    intro k i hd hi hk
    obtain ⟨k, rfl⟩ : ∃ m, k = m + 1 := ⟨k - 1, by omega⟩
    simp only [frustumref05_Same.l0]
    rw [if_pos (by omega), if_pos (by omega), if_pos (by omega), wrap_succ a i ha (by omega), rd_nat a i (by omega), rd_nat b i (by omega), List.drop_eq_getElem_cons (show i < a.length by omega), List.drop_eq_getElem_cons (show i < b.length by omega)]
    by_cases e : a[i] = b[i]
    · rw [if_pos e, ih k (i + 1) (by omega) (by omega) (by omega)]
      simp only [List.cons.injEq, e, true_and]
    · rw [if_neg e]
      simp only [List.cons.injEq, e, false_and, decide_false]
theorem frustumref05_Same_eq (a b : List Int) (ha : a.length ≤ maxLen) (k : Nat) (hk : a.length < k) : frustumref05_Same.f k a b = some (decide (a = b)) := by
  unfold frustumref05_Same.f
  by_cases e : a.length = b.length
  · rw [if_pos (by omega)]
    have := frustumref05_Same_l0 a b ha e a.length k 0 (by omega) (by omega) hk
    simpa using this
  · rw [if_neg (by omega)]
    have : a ≠ b := fun h => e (by rw [h])
    simp [this]
theorem frustumlaw05_example_eq0 : frustumlaw05_example.f 20 = some true := by decide +kernel
theorem frustumlaw05_example_eq (k : Nat) (hk : 20 ≤ k) : frustumlaw05_example.f k = some true := by
  obtain ⟨d, rfl⟩ : ∃ d, k = 20 + d := ⟨k - 20, by omega⟩
  clear hk
  induction d with
  | zero => exact frustumlaw05_example_eq0
  | succ d ih => exact frustumlaw05_example.mono (20 + d) _ ih
theorem exist_of (l : List Int) (a s : Int) (hl : l.length ≤ maxLen) : codec_exist.f l a s = some (decide (1 ≤ s ∧ s ≤ 4 ∧ 0 ≤ a ∧ a ≤ (l.length : Int) - s)) := by
  unfold codec_exist.f
  simp only [maxLen] at hl
  by_cases h1 : s ≥ 1
  · rw [if_pos h1]
    by_cases h2 : s ≤ 4
    · rw [if_pos h2]
      by_cases h3 : a ≥ 0
      · rw [if_pos h3, wrap_in _ (by omega) (by omega)]
        exact congrArg some (decide_eq_decide.2 (by omega))
      · rw [if_neg h3, decide_eq_false (by omega)]
    · rw [if_neg h2, decide_eq_false (by omega)]
  · rw [if_neg h1, decide_eq_false (by omega)]
/-- the number in m bytes from place a on, behind what was read before. -/
def littleS (l : List Int) (a : Nat) : Nat → Int → Int
  | 0, n => n
  | m + 1, n => littleS l a m (n * 256 + l.getD (a + m) 0)
theorem or_byte (n b : Int) (hn : 0 ≤ n) (hn1 : n ≤ 1099511627776) (hb : 0 ≤ b) (hb1 : b < 256) : Go.bits .or .i64 (n * 256) b = n * 256 + b := by
  obtain ⟨x, rfl⟩ := Int.eq_ofNat_of_zero_le hn
  obtain ⟨y, rfl⟩ := Int.eq_ofNat_of_zero_le hb
  have h := (bits_i64_nat (x * 256) y (by omega) (by omega)).2
  rw [show ((x : Int) * 256) = ((x * 256 : Nat) : Int) by omega, h]
  have e := Nat.shiftLeft_add_eq_or_of_lt (i := 8) (show y < 2 ^ 8 by omega) x
  rw [Nat.shiftLeft_eq, show (2 : Nat) ^ 8 = 256 from rfl] at e
  omega
theorem byte_of (l : List Int) (hw : ∀ x ∈ l, (Lit.int .u8 x).wf = true) (i : Nat) : 0 ≤ l.getD i 0 ∧ l.getD i 0 < 256 := by
  by_cases h : i < l.length
  · have := hw l[i] (List.getElem_mem h)
    have hh : 0 ≤ l[i] ∧ l[i] ≤ 255 := by simpa [Lit.wf, IntKind.min, IntKind.max, IntKind.signed, IntKind.bits] using this
    simp only [List.getD_eq_getElem?_getD, List.getElem?_eq_getElem h, Option.getD_some]
    omega
  · simp [List.getD_eq_getElem?_getD, List.getElem?_eq_none (Nat.le_of_not_lt h)]
theorem codec_Little_l0 (l : List Int) (hl : l.length ≤ maxLen) (hw : ∀ x ∈ l, (Lit.int .u8 x).wf = true) (a : Nat) : ∀ (m k : Nat) (n : Int), m ≤ 4 → a + m ≤ l.length → m < k → 0 ≤ n → (n + 1) * 256 ^ m ≤ 1099511627776 → codec_Little.l0 k l (a : Int) n ((m : Int) - 1) = some (littleS l a m n) := by
  simp only [maxLen] at hl
  intro m
  induction m with
  | zero =>
    intro k n _ _ hk _ _
    obtain ⟨k, rfl⟩ : ∃ x, k = x + 1 := ⟨k - 1, by omega⟩
    simp only [codec_Little.l0]
    rw [if_neg (by omega)]
    rfl
  | succ m ih =>
    intro k n hm ha hk hn hb
    obtain ⟨k, rfl⟩ : ∃ x, k = x + 1 := ⟨k - 1, by omega⟩
    have hy := byte_of l hw (a + m)
    have hp : (0 : Int) < 256 ^ m := Int.pow_pos (by decide)
    have hb2 : (n * 256 + l.getD (a + m) 0 + 1) * 256 ^ m ≤ 1099511627776 := by
      refine Int.le_trans (Int.mul_le_mul_of_nonneg_right (show n * 256 + l.getD (a + m) 0 + 1 ≤ (n + 1) * 256 by omega) (by omega)) ?_
      rw [Int.mul_assoc, ← Int.pow_succ']
      exact hb
    have hn1 : n ≤ 1099511627776 := by
      have h1 : (n + 1) * 1 ≤ (n + 1) * 256 ^ (m + 1) := Int.mul_le_mul_of_nonneg_left (by have : (0 : Int) < 256 ^ (m + 1) := Int.pow_pos (by decide); omega) (by omega)
      omega
    simp only [codec_Little.l0]
    have e1 : wrap64 ((a : Int) + (((m + 1 : Nat) : Int) - 1)) = ((a + m : Nat) : Int) := by rw [wrap_in _ (by omega) (by omega)]; omega
    have e2 : rd l ((a + m : Nat) : Int) = l.getD (a + m) 0 := by unfold rd; rw [Int.toNat_natCast]
    rw [if_pos (by omega), e1, if_pos (by omega), if_pos (by omega), e2, wrap_in (n * 256) (by omega) (by omega), wrap_in (l.getD (a + m) 0) (by omega) (by omega), or_byte n _ hn hn1 hy.1 hy.2]
    rw [show wrap64 (((m + 1 : Nat) : Int) - 1 - 1) = (m : Int) - 1 by rw [wrap_in _ (by omega) (by omega)]; omega]
    exact ih k _ (by omega) (by omega) (by omega) (by omega) hb2
theorem codec_Little_eq (l : List Int) (hl : l.length ≤ maxLen) (hw : ∀ x ∈ l, (Lit.int .u8 x).wf = true) (a s : Int) (k : Nat) (hk : 6 ≤ k) : codec_Little.f k l a s = some (if 1 ≤ s ∧ s ≤ 4 ∧ 0 ≤ a ∧ a ≤ (l.length : Int) - s then littleS l a.toNat s.toNat 0 else 0) := by
  unfold codec_Little.f
  rw [exist_of l a s hl, Option.bind_some]
  by_cases h : 1 ≤ s ∧ s ≤ 4 ∧ 0 ≤ a ∧ a ≤ (l.length : Int) - s
  · rw [decide_eq_true h, if_pos rfl, if_pos h]
    obtain ⟨h1, h2, h3, h4⟩ := h
    obtain ⟨m, rfl⟩ := Int.eq_ofNat_of_zero_le (show 0 ≤ s by omega)
    obtain ⟨b, rfl⟩ := Int.eq_ofNat_of_zero_le h3
    have hm : m = 1 ∨ m = 2 ∨ m = 3 ∨ m = 4 := by omega
    rw [wrap_in _ (by omega) (by omega)]
    refine codec_Little_l0 l hl hw b m k 0 (by omega) (by omega) (by omega) (by omega) ?_
    rcases hm with rfl | rfl | rfl | rfl <;> decide
  · rw [decide_eq_false h, if_neg (by decide), if_neg h]
/-- d bytes of v from the i-th on, laid from place a + i on. -/
def putS (a : Nat) (v : Int) : Nat → Nat → List Int → List Int
  | 0, _, l => l
  | d + 1, i, l => putS a v d (i + 1) (l.set (a + i) ((v / 2 ^ (8 * i)) % 256))
theorem putS_length (a : Nat) (v : Int) : ∀ (d i : Nat) (l : List Int), (putS a v d i l).length = l.length
  | 0, _, _ => rfl
  | d + 1, i, l => by show (putS a v d (i + 1) _).length = _; rw [putS_length a v d]; simp
theorem codec_PutLittle_l0 (n : Nat) (hl : n ≤ maxLen) (a s : Nat) (v : Int) (hs : s ≤ 4) (ha : a + s ≤ n) : ∀ (d k i : Nat) (l : List Int), i + d = s → l.length = n → d < k → codec_PutLittle.l0 k (a : Int) v l (s : Int) (i : Int) = some (putS a v d i l) := by
  simp only [maxLen] at hl
  intro d
  induction d with
  | zero =>
    intro k i l hi hn hk
    obtain ⟨k, rfl⟩ : ∃ x, k = x + 1 := ⟨k - 1, by omega⟩
    simp only [codec_PutLittle.l0]
    rw [if_neg (by omega)]
    rfl
  | succ d ih =>
    intro k i l hi hn hk
    obtain ⟨k, rfl⟩ : ∃ x, k = x + 1 := ⟨k - 1, by omega⟩
    simp only [codec_PutLittle.l0]
    have e1 : wrap64 ((a : Int) + (i : Int)) = ((a + i : Nat) : Int) := by rw [wrap_in _ (by omega) (by omega)]; omega
    have e2 : wrap64 (8 * (i : Int)) = ((8 * i : Nat) : Int) := by rw [wrap_in _ (by omega) (by omega)]; omega
    have e3 : wrap64 ((i : Int) + 1) = ((i + 1 : Nat) : Int) := by rw [wrap_in _ (by omega) (by omega)]; omega
    have e4 : shr .i64 v ((8 * i : Nat) : Int) = v / 2 ^ (8 * i) := by unfold shr; rw [Int.toNat_natCast, show IntKind.i64.bits = 64 from rfl, Nat.min_eq_left (by omega)]
    rw [if_pos (by omega), e1, e2, e3, e4, if_pos (by omega), if_pos (by omega), if_pos (by omega), Int.toNat_natCast]
    exact ih k (i + 1) _ (by omega) (by simpa using hn) (by omega)
theorem codec_PutLittle_eq (l : List Int) (hl : l.length * 1 ≤ 140737488351232) (a s v : Int) (k : Nat) (hk : 6 ≤ k) : codec_PutLittle.f k l a s v = some (if 1 ≤ s ∧ s ≤ 4 ∧ 0 ≤ a ∧ a ≤ (l.length : Int) - s then putS a.toNat v s.toNat 0 l else l) := by
  have hl2 : l.length ≤ maxLen := by simp only [maxLen]; omega
  unfold codec_PutLittle.f
  simp only [Option.bind_some, List.nil_append, List.length_nil, Nat.zero_add]
  rw [if_pos (by omega), exist_of l a s hl2, Option.bind_some]
  by_cases h : 1 ≤ s ∧ s ≤ 4 ∧ 0 ≤ a ∧ a ≤ (l.length : Int) - s
  · rw [decide_eq_true h, if_pos rfl, if_pos h]
    obtain ⟨h1, h2, h3, h4⟩ := h
    obtain ⟨m, rfl⟩ := Int.eq_ofNat_of_zero_le (show 0 ≤ s by omega)
    obtain ⟨b, rfl⟩ := Int.eq_ofNat_of_zero_le h3
    exact codec_PutLittle_l0 l.length hl2 b m v (by omega) (by omega) m k 0 l (by omega) rfl (by omega)
  · rw [decide_eq_false h, if_neg (by decide), if_neg h]
theorem putS_get (a : Nat) (v : Int) : ∀ (d i : Nat) (l : List Int) (j : Nat), (putS a v d i l).getD j 0 = if a + i ≤ j ∧ j < a + i + d ∧ j < l.length then (v / 2 ^ (8 * (j - a))) % 256 else l.getD j 0
  | 0, i, l, j => by
    rw [if_neg (by omega)]
    rfl
  | d + 1, i, l, j => by
    show (putS a v d (i + 1) (l.set (a + i) ((v / 2 ^ (8 * i)) % 256))).getD j 0 = _
    rw [putS_get a v d (i + 1)]
    simp only [List.length_set]
    by_cases h : a + (i + 1) ≤ j ∧ j < a + (i + 1) + d ∧ j < l.length
    · rw [if_pos h, if_pos (by omega)]
    · rw [if_neg h]
      by_cases e : j = a + i
      · by_cases hl : j < l.length
        · rw [if_pos (by omega)]
          subst e
          rw [show a + i - a = i by omega]
          simp [List.getD_eq_getElem?_getD, List.getElem?_set, hl]
        · rw [if_neg (by omega)]
          simp only [List.getD_eq_getElem?_getD]
          rw [List.getElem?_eq_none (by simp; omega), List.getElem?_eq_none (by omega)]
      · rw [if_neg (by omega)]
        simp only [List.getD_eq_getElem?_getD]
        rw [List.getElem?_set_ne (by omega)]
theorem rd_getD (l : List Int) (i : Nat) : rd l (i : Int) = l.getD i 0 := by unfold rd; rw [Int.toNat_natCast]
theorem stores_loop (l : List Int) (hl : l.length * 1 ≤ 140737488351232) (hw : ∀ x ∈ l, (Lit.int .u8 x).wf = true) (a s : Nat) (v : Int) (h1 : 1 ≤ s) (h4 : s ≤ 4) (ha : a + s ≤ l.length) (x : List Int) (hx : x = putS a v s 0 l) :
    ∀ (d k i : Nat), i + d = l.length → d + 30 ≤ k → frustumlaw05_CodecStores.l0 k l (a : Int) (s : Int) v x (l.length : Int) (i : Int) = some true := by
  have hlen : x.length = l.length := by rw [hx]; exact putS_length _ _ _ _ _
  have hget : ∀ j, x.getD j 0 = if a ≤ j ∧ j < a + s ∧ j < l.length then (v / 2 ^ (8 * (j - a))) % 256 else l.getD j 0 := fun j => by rw [hx, putS_get]; simp
  have hm : l.length ≤ maxLen := by simp only [maxLen]; omega
  have hwx : ∀ y ∈ x, (Lit.int .u8 y).wf = true := by
    intro y hy
    obtain ⟨j, hj, rfl⟩ := List.mem_iff_getElem.1 hy
    have e : x[j] = x.getD j 0 := by simp [List.getD_eq_getElem?_getD, hj]
    rw [e, hget j]
    split
    · simp [Lit.wf, IntKind.min, IntKind.max, IntKind.signed, IntKind.bits]
      omega
    · have hj2 : j < l.length := by omega
      have e2 : l.getD j 0 = l[j] := by simp [List.getD_eq_getElem?_getD, hj2]
      rw [e2]
      exact hw _ (List.getElem_mem hj2)
  intro d
  induction d with
  | zero =>
    intro k i hi hk
    obtain ⟨k, rfl⟩ : ∃ m, k = m + 1 := ⟨k - 1, by omega⟩
    simp only [frustumlaw05_CodecStores.l0]
    rw [if_neg (by omega), codec_Little_eq x (by omega) hwx (a : Int) (s : Int) k (by omega), Option.bind_some, if_pos (show 0 ≤ IntKind.u64.wrap (wrap64 (8 * (s : Int))) by rw [u64_wrap]; exact Int.emod_nonneg _ (by decide)), if_pos (show 1 ≤ (s : Int) ∧ (s : Int) ≤ 4 ∧ 0 ≤ (a : Int) ∧ (a : Int) ≤ (x.length : Int) - (s : Int) by omega), Int.toNat_natCast, Int.toNat_natCast]
    have hs : s = 1 ∨ s = 2 ∨ s = 3 ∨ s = 4 := by omega
    have g0 : x.getD a 0 = v % 256 := by rw [hget a, if_pos (by omega), Nat.sub_self]; simp
    rcases hs with rfl | rfl | rfl | rfl
    · have e : littleS x a 1 0 = v % 2 ^ 8 := by
        show 0 * 256 + x.getD a 0 = _
        rw [g0]; omega
      have em : wrap64 ((shl .i64 1 (IntKind.u64.wrap (wrap64 (8 * ((1 : Nat) : Int))))) - 1) = 2 ^ 8 - 1 := by decide +kernel
      rw [e, em, and_mask 8 (by decide) v, if_pos rfl, frustumlaw05_example_eq k (by omega)]
      rfl
    · have g1 : x.getD (a + 1) 0 = (v / 256) % 256 := by rw [hget (a + 1), if_pos (by omega), show a + 1 - a = 1 by omega]; simp
      have e : littleS x a 2 0 = v % 2 ^ 16 := by
        show ((0 * 256 + x.getD (a + 1) 0) * 256 + x.getD a 0) = _
        rw [g0, g1]; omega
      have em : wrap64 ((shl .i64 1 (IntKind.u64.wrap (wrap64 (8 * ((2 : Nat) : Int))))) - 1) = 2 ^ 16 - 1 := by decide +kernel
      rw [e, em, and_mask 16 (by decide) v, if_pos rfl, frustumlaw05_example_eq k (by omega)]
      rfl
    · have g1 : x.getD (a + 1) 0 = (v / 256) % 256 := by rw [hget (a + 1), if_pos (by omega), show a + 1 - a = 1 by omega]; simp
      have g2 : x.getD (a + 2) 0 = (v / 65536) % 256 := by rw [hget (a + 2), if_pos (by omega), show a + 2 - a = 2 by omega]; simp
      have e : littleS x a 3 0 = v % 2 ^ 24 := by
        show (((0 * 256 + x.getD (a + 2) 0) * 256 + x.getD (a + 1) 0) * 256 + x.getD a 0) = _
        rw [g0, g1, g2]; omega
      have em : wrap64 ((shl .i64 1 (IntKind.u64.wrap (wrap64 (8 * ((3 : Nat) : Int))))) - 1) = 2 ^ 24 - 1 := by decide +kernel
      rw [e, em, and_mask 24 (by decide) v, if_pos rfl, frustumlaw05_example_eq k (by omega)]
      rfl
    · have g1 : x.getD (a + 1) 0 = (v / 256) % 256 := by rw [hget (a + 1), if_pos (by omega), show a + 1 - a = 1 by omega]; simp
      have g2 : x.getD (a + 2) 0 = (v / 65536) % 256 := by rw [hget (a + 2), if_pos (by omega), show a + 2 - a = 2 by omega]; simp
      have g3 : x.getD (a + 3) 0 = (v / 16777216) % 256 := by rw [hget (a + 3), if_pos (by omega), show a + 3 - a = 3 by omega]; simp
      have e : littleS x a 4 0 = v % 2 ^ 32 := by
        show ((((0 * 256 + x.getD (a + 3) 0) * 256 + x.getD (a + 2) 0) * 256 + x.getD (a + 1) 0) * 256 + x.getD a 0) = _
        rw [g0, g1, g2, g3]; omega
      have em : wrap64 ((shl .i64 1 (IntKind.u64.wrap (wrap64 (8 * ((4 : Nat) : Int))))) - 1) = 2 ^ 32 - 1 := by decide +kernel
      rw [e, em, and_mask 32 (by decide) v, if_pos rfl, frustumlaw05_example_eq k (by omega)]
      rfl
  | succ d ih =>
    intro k i hi hk
    obtain ⟨k, rfl⟩ : ∃ m, k = m + 1 := ⟨k - 1, by omega⟩
    have hn := ih k (i + 1) (by omega) (by omega)
    simp only [frustumlaw05_CodecStores.l0]
    rw [if_pos (by omega), wrap_succ l i hm (by omega), wrap_in ((a : Int) + (s : Int)) (by omega) (by omega), hn, rd_getD, rd_getD]
    by_cases c : (i : Int) < (a : Int)
    · have hg : x.getD i 0 = l.getD i 0 := by rw [hget i, if_neg (by omega)]
      rw [hg, if_pos c, if_pos (by omega), if_pos (by omega), if_pos (by omega), if_pos rfl]
    · rw [if_neg c]
      by_cases c2 : (i : Int) ≥ (a : Int) + (s : Int)
      · have hg : x.getD i 0 = l.getD i 0 := by rw [hget i, if_neg (by omega)]
        rw [hg, if_pos c2, if_pos (by omega), if_pos (by omega), if_pos (by omega), if_pos rfl]
      · rw [if_neg c2]
theorem CodecStores : frustumlaw05_CodecStores.Pure := by
  intro l a s v hl hl1 hw _ _ _
  refine ⟨l.length + 40, ?_⟩
  unfold frustumlaw05_CodecStores.f
  rw [codec_PutLittle_eq l hl1 a s v _ (by omega), Option.bind_some]
  by_cases h : 1 ≤ s ∧ s ≤ 4 ∧ 0 ≤ a ∧ a ≤ (l.length : Int) - s
  · rw [if_pos h, if_pos (by rw [putS_length]), if_neg (by omega), if_neg (by omega), if_neg (by omega)]
    obtain ⟨h1, h2, h3, h4⟩ := h
    obtain ⟨m, rfl⟩ := Int.eq_ofNat_of_zero_le (show 0 ≤ s by omega)
    obtain ⟨b, rfl⟩ := Int.eq_ofNat_of_zero_le h3
    rw [wrap_in _ (by omega) (by omega), decide_eq_false (by omega)]
    simp only [frustumlaw05_CodecStores.j0]
    rw [if_neg (by decide), Int.toNat_natCast, Int.toNat_natCast]
    exact stores_loop l hl1 hw b m v (by omega) (by omega) (by omega) _ rfl l.length (l.length + 39) 0 (by omega) (by omega)
  · rw [if_neg h, if_pos rfl]
    have hj : frustumlaw05_CodecStores.j0 (l.length + 40) l a s v l true = some true := by
      simp only [frustumlaw05_CodecStores.j0]
      rw [if_pos trivial, frustumref05_Same_eq l l hl _ (by omega), Option.bind_some, decide_eq_true rfl, if_pos rfl, codec_Little_eq l hl hw a s _ (by omega), if_neg h, Option.bind_some, if_pos rfl, frustumlaw05_example_eq _ (by omega)]
      rfl
    by_cases p1 : s < 1
    · rw [if_pos p1, hj]
    · rw [if_neg p1]
      by_cases p2 : s > 4
      · rw [if_pos p2, hj]
      · rw [if_neg p2]
        by_cases p3 : a < 0
        · rw [if_pos p3, hj]
        · rw [if_neg p3, wrap_in _ (by omega) (by omega), decide_eq_true (by omega), hj]

end Go.Proofs.Ytgfdfchckpknjaa.Pure
