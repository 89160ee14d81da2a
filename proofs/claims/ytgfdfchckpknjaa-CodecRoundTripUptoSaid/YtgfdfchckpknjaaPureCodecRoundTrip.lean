/- CodecRoundTrip: ints, lists, strings and bools that were appended are read again. Condition: at most 1048576 bytes, ints and letters each. -/
import Derived.Test.YtgfdfchckpknjaaPCodecRoundTripx3
import Derived.Laws.BitsLemmas
namespace Go.Proofs.Ytgfdfchckpknjaa.Pure
set_option linter.unusedVariables false
set_option linter.unusedSimpArgs false
open Go.RowKit Go.Proofs.Ytgfdfchckpknjaa.PCodecRoundTrip Go.Proofs.YtgfdfchckpknjaaW.PrintWords Go.Proofs.YtgfdfchckpknjaaW.PrintLast Go.Proofs.YtgfdfchckpknjaaW.PrintMore
/-! numbers -/
theorem and_mask (j : Nat) (hj : j ≤ 63) (n : Int) : Go.bits .and .i64 n (2 ^ j - 1) = n % 2 ^ j := by
  have hp : (2 : Nat) ^ j ≤ 2 ^ 63 := Nat.pow_le_pow_right (by decide) hj
  have hpos : 0 < (2 : Nat) ^ j := Nat.two_pow_pos j
  have hm : (BitVec.ofInt 64 ((2 : Int) ^ j - 1)).toNat = 2 ^ j - 1 := by
    have hc : ((2 : Int) ^ j - 1) = ((2 ^ j - 1 : Nat) : Int) := by rw [Int.natCast_sub hpos]; simp
    rw [hc, BitVec.ofInt_natCast, BitVec.toNat_ofNat]
    exact Nat.mod_eq_of_lt (by omega)
  have key : (BitVec.ofInt 64 n &&& BitVec.ofInt 64 ((2 : Int) ^ j - 1)).toNat = (n % ((2 ^ 64 : Nat) : Int)).toNat % 2 ^ j := by
    rw [BitVec.toNat_and, BitVec.toNat_ofInt, hm, Nat.and_two_pow_sub_one_eq_mod]
  show IntKind.i64.wrap ((BitVec.ofInt 64 n &&& BitVec.ofInt 64 ((2 : Int) ^ j - 1)).toNat : Nat) = n % 2 ^ j
  rw [key, Go.IntKind.wrap_i64]
  have hlt := Nat.mod_lt (n % ((2 ^ 64 : Nat) : Int)).toNat hpos
  have h1 : (((n % ((2 ^ 64 : Nat) : Int)).toNat % 2 ^ j : Nat) : Int) = n % 2 ^ j := by
    rw [Int.natCast_emod, Int.toNat_of_nonneg (Int.emod_nonneg _ (by decide))]
    rw [Int.natCast_pow]
    refine Int.emod_emod_of_dvd n ?_
    have : (2 : Int) ^ 64 = 2 ^ j * 2 ^ (64 - j) := by rw [← Int.pow_add]; congr 1; omega
    exact ⟨2 ^ (64 - j), by exact_mod_cast this⟩
  rw [← h1]
  omega
theorem and255 (n : Int) : Go.bits .and .i64 n 255 = n % 256 := and_mask 8 (by decide) n
theorem bits_i64_nat (a b : Nat) (ha : a < 2 ^ 63) (hb : b < 2 ^ 63) : Go.bits .and .i64 a b = ((a &&& b : Nat) : Int) ∧ Go.bits .or .i64 a b = ((a ||| b : Nat) : Int) :=
  Go.bits_nat .i64 63 (by decide) (fun n h0 h1 => by rw [Go.IntKind.wrap_i64]; omega) a b ha hb
/-- only the lowest bits count where the mask is small. -/
theorem and_low (j : Nat) (hj : j ≤ 63) (n m : Int) (h0 : 0 ≤ m) (h1 : m < 2 ^ j) : Go.bits .and .i64 n m = Go.bits .and .i64 (n % 2 ^ j) m := by
  obtain ⟨b, rfl⟩ := Int.eq_ofNat_of_zero_le h0
  have hb : b < 2 ^ j := by exact_mod_cast h1
  have hp : (2 : Nat) ^ j ≤ 2 ^ 63 := Nat.pow_le_pow_right (by decide) hj
  have hpos : 0 < (2 : Nat) ^ j := Nat.two_pow_pos j
  have hmm : ∀ x : Nat, x &&& b = (x % 2 ^ j) &&& b := by
    intro x
    rw [← Nat.and_two_pow_sub_one_eq_mod, Nat.and_assoc]
    congr 1
    rw [Nat.and_comm, Nat.and_two_pow_sub_one_eq_mod, Nat.mod_eq_of_lt hb]
  show IntKind.i64.wrap ((BitVec.ofInt 64 n &&& BitVec.ofInt 64 (b : Int)).toNat : Nat) = IntKind.i64.wrap ((BitVec.ofInt 64 (n % 2 ^ j) &&& BitVec.ofInt 64 (b : Int)).toNat : Nat)
  rw [BitVec.toNat_and, BitVec.toNat_and, BitVec.ofInt_natCast, BitVec.toNat_ofNat, Nat.mod_eq_of_lt (show b < 2 ^ 64 by omega), BitVec.toNat_ofInt, BitVec.toNat_ofInt]
  rw [hmm, hmm ((n % 2 ^ j) % ((2 ^ 64 : Nat) : Int)).toNat]
  congr 3
  have e : ∀ z : Int, ((z % ((2 ^ 64 : Nat) : Int)).toNat % 2 ^ j : Nat) = (z % 2 ^ j).toNat := by
    intro z
    have h1 : (((z % ((2 ^ 64 : Nat) : Int)).toNat % 2 ^ j : Nat) : Int) = z % 2 ^ j := by
      rw [Int.natCast_emod, Int.toNat_of_nonneg (Int.emod_nonneg _ (by decide)), Int.natCast_pow]
      refine Int.emod_emod_of_dvd z ?_
      have : (2 : Int) ^ 64 = 2 ^ j * 2 ^ (64 - j) := by rw [← Int.pow_add]; congr 1; omega
      exact ⟨2 ^ (64 - j), by exact_mod_cast this⟩
    omega
  rw [e, e, Int.emod_emod_of_dvd n (Int.dvd_refl _)]
theorem wrap_in (x : Int) (h0 : -9223372036854775808 ≤ x) (h1 : x ≤ 9223372036854775807) : wrap64 x = x := by unfold wrap64; omega
theorem wf_bounds {a : Int} (h : (Lit.int .i64 a).wf = true) : -9223372036854775808 ≤ a ∧ a ≤ 9223372036854775807 := by
  simpa [Lit.wf, IntKind.min, IntKind.max, IntKind.signed, IntKind.bits] using h
theorem u64_wrap (x : Int) : IntKind.u64.wrap x = x % 18446744073709551616 := by simp [IntKind.wrap, IntKind.bits, IntKind.signed]
theorem rd_nat (l : List Int) (i : Nat) (h : i < l.length) : rd l (i : Int) = l[i] := by unfold rd; simp [h]
theorem wrap_succ (l : List Int) (i : Nat) (hl : l.length ≤ maxLen) (h : i < l.length) : wrap64 ((i : Int) + 1) = ((i + 1 : Nat) : Int) := by
  simp only [maxLen] at hl
  rw [wrap_in _ (by omega) (by omega)]
  omega
theorem frustumref05_Same_l0 (a b : List Int) (ha : a.length ≤ maxLen) (hb : a.length = b.length) : ∀ (d k i : Nat), a.length - i = d → i ≤ a.length → d < k → frustumref05_Same.l0 k a b (i : Int) = some (decide (a.drop i = b.drop i)) := by
  intro d
  induction d with
  | zero =>
    intro k i hd hi hk
    obtain ⟨k, rfl⟩ : ∃ m, k = m + 1 := ⟨k - 1, by omega⟩
    obtain rfl : i = a.length := by omega
    simp only [frustumref05_Same.l0]
    rw [if_neg (by omega), List.drop_length, hb, List.drop_length]
    rfl
  | succ d ih =>
    intro k i hd hi hk
    obtain ⟨k, rfl⟩ : ∃ m, k = m + 1 := ⟨k - 1, by omega⟩
    simp only [frustumref05_Same.l0]
    rw [if_pos (by omega), if_pos (by omega), if_pos (by omega), wrap_succ a i ha (by omega), rd_nat a i (by omega), rd_nat b i (by omega), List.drop_eq_getElem_cons (show i < a.length by omega), List.drop_eq_getElem_cons (show i < b.length by omega)]
    by_cases e : a[i] = b[i]
    · rw [if_pos e, ih k (i + 1) (by omega) (by omega) (by omega)]
      simp only [List.cons.injEq, e, true_and]
    · rw [if_neg e]
      simp only [List.cons.injEq, e, false_and, decide_false]
theorem frustumref05_Same_eq (a b : List Int) (ha : a.length ≤ maxLen) (k : Nat) (hk : a.length < k) : frustumref05_Same.f k a b = some (decide (a = b)) := by
  unfold frustumref05_Same.f
  by_cases e : a.length = b.length
  · rw [if_pos (by omega)]
    have := frustumref05_Same_l0 a b ha e a.length k 0 (by omega) (by omega) hk
    simpa using this
  · rw [if_neg (by omega)]
    have : a ≠ b := fun h => e (by rw [h])
    simp [this]
theorem frustumlaw05_example_eq0 : frustumlaw05_example.f 20 = some true := by decide +kernel
theorem frustumlaw05_example_eq (k : Nat) (hk : 20 ≤ k) : frustumlaw05_example.f k = some true := by
  obtain ⟨d, rfl⟩ : ∃ d, k = 20 + d := ⟨k - 20, by omega⟩
  clear hk
  induction d with
  | zero => exact frustumlaw05_example_eq0
  | succ d ih => exact frustumlaw05_example.mono (20 + d) _ ih
theorem not64 (a : Int) (h0 : -9223372036854775808 ≤ a) (h1 : a ≤ 9223372036854775807) : Go.bits .xor .i64 (-1) a = -1 - a := by
  show IntKind.i64.wrap (((BitVec.ofInt 64 (-1) ^^^ BitVec.ofInt 64 a).toNat : Nat) : Int) = -1 - a
  have e : BitVec.ofInt 64 (-1) ^^^ BitVec.ofInt 64 a = ~~~ (BitVec.ofInt 64 a) := by
    rw [show BitVec.ofInt 64 (-1) = BitVec.allOnes 64 by decide, BitVec.allOnes_xor]
  rw [e, BitVec.toNat_not, BitVec.toNat_ofInt, Go.IntKind.wrap_i64]
  omega
theorem or_shl (u x : Int) (m : Nat) (hm : m ≤ 9) (hu : 0 ≤ u) (hu1 : u < 2 ^ (7 * m)) (hx : 0 ≤ x) (hx1 : x * 2 ^ (7 * m) < 2 ^ 64) : Go.bits .or .u64 u (x * 2 ^ (7 * m)) = u + x * 2 ^ (7 * m) := by
  obtain ⟨a, rfl⟩ := Int.eq_ofNat_of_zero_le hu
  obtain ⟨b, rfl⟩ := Int.eq_ofNat_of_zero_le hx
  have hx2 : b * 2 ^ (7 * m) < 2 ^ 64 := by exact_mod_cast hx1
  have hu2 : a < 2 ^ (7 * m) := by exact_mod_cast hu1
  have hp : (2 : Nat) ^ (7 * m) ≤ 2 ^ 64 := Nat.pow_le_pow_right (by decide) (by omega)
  have := (Go.bits_nat .u64 64 (by decide) (fun n h0 h1 => by rw [u64_wrap]; omega) a (b * 2 ^ (7 * m)) (by omega) hx2).2
  rw [Int.natCast_mul, Int.natCast_pow] at this
  rw [show ((2 : Nat) : Int) = 2 from rfl] at this
  refine this.trans ?_
  rw [Nat.or_comm, Nat.mul_comm, ← Nat.two_pow_add_eq_or_of_lt hu2 b]
  simp only [Int.natCast_add, Int.natCast_mul, Int.natCast_pow]
  rw [Int.mul_comm, Int.add_comm]
  rfl
/-- The int whose bytes begin at place p; m bytes with the number u lie before. -/
def decS : List Int → Int → Nat → Int → Int × Int × Int
  | [], _, _, _ => (0, 0, 4)
  | x :: r, p, m, u =>
    if m = 9 ∧ 1 < x then (0, 0, 3) else
    if 128 ≤ x then decS r (p + 1) (m + 1) (u + (x % 128) * 2 ^ (7 * m)) else
    if x = 0 ∧ 0 < m then (0, 0, 3) else
    if (u + (x % 128) * 2 ^ (7 * m)) % 2 = 1 then (-1 - (u + (x % 128) * 2 ^ (7 * m)) / 2, p + 1, 0) else ((u + (x % 128) * 2 ^ (7 * m)) / 2, p + 1, 0)
theorem dec_room {m : Nat} {u x : Int} (hm : m ≤ 9) (hu0 : 0 ≤ u) (hu : u < 2 ^ (7 * m)) (hx0 : 0 ≤ x) (hx : x ≤ 255) (h9 : ¬(m = 9 ∧ 1 < x)) :
    (x % 128) * 2 ^ (7 * m) < 2 ^ 64 ∧ 0 ≤ (x % 128) * 2 ^ (7 * m) ∧ u + (x % 128) * 2 ^ (7 * m) < 2 ^ 64 ∧ u + (x % 128) * 2 ^ (7 * m) < 2 ^ (7 * (m + 1)) := by
  by_cases h : m = 9
  · have hx1 : x ≤ 1 := by omega
    clear h9
    subst h
    simp only [Nat.reduceMul, Nat.reduceAdd, Int.reducePow] at *
    omega
  clear h9
  obtain rfl | rfl | rfl | rfl | rfl | rfl | rfl | rfl | rfl : m = 0 ∨ m = 1 ∨ m = 2 ∨ m = 3 ∨ m = 4 ∨ m = 5 ∨ m = 6 ∨ m = 7 ∨ m = 8 := by omega
  all_goals (simp only [Nat.reduceMul, Nat.reduceAdd, Int.reducePow] at *; omega)
theorem shl_dec {m : Nat} {x : Int} (hm : m ≤ 9) (hx0 : 0 ≤ x % 128) (hx : (x % 128) * 2 ^ (7 * m) < 2 ^ 64) : shl .u64 (x % 128) (7 * (m : Int)) = (x % 128) * 2 ^ (7 * m) := by
  unfold shl
  rw [show (7 * (m : Int)).toNat = 7 * m by omega, show IntKind.u64.bits = 64 from rfl, Nat.min_eq_left (by omega), u64_wrap]
  have : 0 ≤ (x % 128) * 2 ^ (7 * m) := Int.mul_nonneg hx0 (by exact_mod_cast Nat.zero_le _)
  exact Int.emod_eq_of_lt this (by simpa using hx)
theorem u8_and127 (x : Int) (h0 : 0 ≤ x) (h1 : x ≤ 255) : Go.bits .and .u8 x 127 = x % 128 := Go.bits_mask .u8 8 (by decide) Go.wraps_u8 7 (by decide) x h0 (by omega)
theorem u64_and1 (x : Int) (h0 : 0 ≤ x) (h1 : x < 2 ^ 64) : Go.bits .and .u64 x 1 = x % 2 := Go.bits_mask .u64 64 (by decide) (fun n h0 h1 => by rw [u64_wrap]; omega) 1 (by decide) x h0 h1
theorem byte_wf {l : List Int} (hw : ∀ x ∈ l, (Lit.int .u8 x).wf = true) {x : Int} (h : x ∈ l) : 0 ≤ x ∧ x ≤ 255 := by
  simpa [Lit.wf, IntKind.min, IntKind.max, IntKind.signed, IntKind.bits] using hw x h
theorem ri_from_eq (l : List Int) (a : Nat) (hl : l.length ≤ 140737488351232) (hw : ∀ x ∈ l, (Lit.int .u8 x).wf = true) : ∀ (d m : Nat) (u : Int), 10 - m = d → m ≤ 9 → 0 ≤ u → u < 2 ^ (7 * m) → a + m ≤ l.length →
    ri_from l a d m u = some (decS (l.drop (a + m)) ((a + m : Nat) : Int) m u) := by
  intro d
  induction d with
  | zero => intro m u hd hm; omega
  | succ d ih =>
    intro m u hd hm hu0 hu hlen
    have ep : wrap64 ((a : Int) + (m : Int)) = ((a + m : Nat) : Int) := by rw [wrap_in _ (by omega) (by omega)]; omega
    rw [ri_from, ep]
    by_cases he : a + m = l.length
    · rw [if_pos (by omega), he, List.drop_length, decS]
    · have hlt : a + m < l.length := by omega
      rw [if_neg (by omega), if_neg (by omega), rd_nat l _ hlt, List.drop_eq_getElem_cons hlt, decS]
      generalize hx : l[a + m] = x
      obtain ⟨hx0, hx1⟩ : 0 ≤ x ∧ x ≤ 255 := byte_wf hw (hx ▸ List.getElem_mem hlt)
      by_cases h9 : m = 9 ∧ 1 < x
      · rw [if_pos h9, if_pos h9]
      · obtain ⟨h1, h2, h3, h4⟩ := dec_room hm hu0 hu hx0 hx1 h9
        have e7 : wrap64 (7 * (m : Int)) = 7 * (m : Int) := wrap_in _ (by omega) (by omega)
        have e8 : IntKind.u64.wrap (x % 128) = x % 128 := by rw [u64_wrap]; omega
        rw [if_neg h9, if_neg h9, u8_and127 x hx0 hx1, e8, e7, shl_dec hm (by omega) h1, or_shl u (x % 128) m hm hu0 hu (by omega) h1]
        generalize hU : u + x % 128 * 2 ^ (7 * m) = U at *
        by_cases h8 : 128 ≤ x
        · rw [if_pos h8, if_pos h8]
          have hm8 : m ≠ 9 := fun h => h9 ⟨h, by omega⟩
          have := ih (m + 1) U (by omega) (by omega) (by omega) h4 (by omega)
          rw [this]
          rfl
        · rw [if_neg h8, if_neg h8]
          have hU1 : U < 18446744073709551616 := h3
          have hU0 : 0 ≤ U := by omega
          by_cases h0 : x = 0 ∧ 0 < m
          · rw [if_pos ⟨h0.1, by omega⟩, if_pos h0]
          · rw [if_neg (fun h => h0 ⟨h.1, by omega⟩), if_neg h0, u64_and1 U hU0 h3, wrap_in (U / 2) (by omega) (by omega), not64 _ (by omega) (by omega), wrap_in (a + (m + 1)) (by omega) (by omega), show ((a : Int) + (m + 1)) = ((a + m : Nat) : Int) + 1 by omega]
            by_cases hc : U % 2 = 1
            · rw [if_pos hc, if_pos hc]
            · rw [if_neg hc, if_neg hc]
/-- What ReadInt answers. -/
def readS (l : List Int) (a : Int) : Int × Int × Int := if a < 0 ∨ (l.length : Int) < a then (0, 0, 2) else decS (l.drop a.toNat) a 0 0
theorem codec_ReadInt_eq (l : List Int) (hl : l.length ≤ 140737488351232) (hw : ∀ x ∈ l, (Lit.int .u8 x).wf = true) (a : Int) (k : Nat) : codec_ReadInt.f k l a = some (readS l a) := by
  unfold codec_ReadInt.f readS
  by_cases h : a < 0 ∨ (l.length : Int) < a
  · rw [if_pos h, if_pos h]
  · rw [if_neg h, if_neg h]
    obtain ⟨n, rfl⟩ := Int.eq_ofNat_of_zero_le (show 0 ≤ a by omega)
    have := ri_from_eq l n hl hw 10 0 0 (by omega) (by omega) (by omega) (by simp) (by omega)
    simpa using this
/-- What ReadBool answers. -/
def boolS (l : List Int) (a : Int) : Bool × Int × Int := if a < 0 ∨ (l.length : Int) < a then (false, 0, 2) else if a = l.length then (false, 0, 4) else if 1 < rd l a then (false, 0, 3) else (rd l a == 1, a + 1, 0)
theorem codec_ReadBool_eq (l : List Int) (hl : l.length ≤ 140737488351232) (a : Int) (k : Nat) (hk : 1 ≤ k) : codec_ReadBool.f k l a = some (boolS l a) := by
  obtain ⟨k, rfl⟩ : ∃ j, k = j + 1 := ⟨k - 1, by omega⟩
  unfold codec_ReadBool.f boolS
  by_cases h : a < 0
  · rw [if_pos h, if_pos (.inl h), codec_ReadBool.j0, if_pos rfl]
  · rw [if_neg h, codec_ReadBool.j0]
    by_cases h1 : (l.length : Int) < a
    · rw [if_pos (decide_eq_true h1), if_pos (.inr h1)]
    · rw [if_neg (by simpa using h1), if_neg (show ¬(a < 0 ∨ (l.length : Int) < a) by omega)]
      by_cases h2 : a = l.length
      · rw [if_pos h2, if_pos h2]
      · rw [if_neg h2, if_neg h2, if_pos (by omega), if_pos (by omega)]
        by_cases h3 : 1 < rd l a
        · rw [if_pos h3, if_pos h3]
        · rw [if_neg h3, if_neg h3, wrap_in _ (by omega) (by omega)]
theorem decS_next : ∀ (r : List Int) (p : Int) (m : Nat) (u : Int), (decS r p m u).2.2 = 0 → p < (decS r p m u).2.1 ∧ (decS r p m u).2.1 ≤ p + r.length := by
  intro r
  induction r with
  | nil => intro p m u h; simp [decS] at h
  | cons x r ih =>
    intro p m u h
    rw [decS] at h ⊢
    by_cases h9 : m = 9 ∧ 1 < x
    · rw [if_pos h9] at h
      simp at h
    · rw [if_neg h9] at h ⊢
      by_cases h8 : 128 ≤ x
      · rw [if_pos h8] at h ⊢
        have := ih _ _ _ h
        simp only [List.length_cons]
        omega
      · rw [if_neg h8] at h ⊢
        by_cases h0 : x = 0 ∧ 0 < m
        · rw [if_pos h0] at h
          simp at h
        · rw [if_neg h0]
          simp only [List.length_cons]
          split <;> (simp only []; omega)
theorem decS_wf : ∀ (r : List Int) (p : Int) (m : Nat) (u : Int), m ≤ 9 → (∀ x ∈ r, (Lit.int .u8 x).wf = true) → 0 ≤ u → u < 2 ^ (7 * m) → -9223372036854775808 ≤ (decS r p m u).1 ∧ (decS r p m u).1 ≤ 9223372036854775807 := by
  intro r
  induction r with
  | nil => intro p m u _ _ _ _; simp [decS]
  | cons x r ih =>
    intro p m u hm hw hu0 hu
    obtain ⟨hx0, hx1⟩ := byte_wf hw (List.mem_cons_self (a := x) (l := r))
    rw [decS]
    by_cases h9 : m = 9 ∧ 1 < x
    · rw [if_pos h9]
      decide
    · rw [if_neg h9]
      obtain ⟨h1, h2, h3, h4⟩ := dec_room hm hu0 hu hx0 hx1 h9
      generalize hU : u + x % 128 * 2 ^ (7 * m) = U at *
      by_cases h8 : 128 ≤ x
      · rw [if_pos h8]
        exact ih _ _ _ (by omega) (fun y hy => hw y (List.mem_cons_of_mem _ hy)) (by omega) h4
      · rw [if_neg h8]
        by_cases h0 : x = 0 ∧ 0 < m
        · rw [if_pos h0]
          decide
        · rw [if_neg h0]
          have hU0 : 0 ≤ U := by omega
          have hU1 : U < 18446744073709551616 := h3
          clear hu hu0 h1 h2 h3 h4 hU ih hw
          split
          · simp only []
            omega
          · simp only []
            omega
theorem readS_next (l : List Int) (a : Int) (h : (readS l a).2.2 = 0) : 0 ≤ a ∧ a < (readS l a).2.1 ∧ (readS l a).2.1 ≤ l.length := by
  unfold readS at *
  by_cases hc : a < 0 ∨ (l.length : Int) < a
  · rw [if_pos hc] at h
    simp at h
  · rw [if_neg hc] at h ⊢
    have := decS_next _ _ _ _ h
    simp only [List.length_drop] at this
    omega
theorem readS_wf (l : List Int) (hw : ∀ x ∈ l, (Lit.int .u8 x).wf = true) (a : Int) : -9223372036854775808 ≤ (readS l a).1 ∧ (readS l a).1 ≤ 9223372036854775807 := by
  unfold readS
  by_cases hc : a < 0 ∨ (l.length : Int) < a
  · rw [if_pos hc]
    decide
  · rw [if_neg hc]
    exact decS_wf _ _ _ _ (by omega) (fun y hy => hw y (List.mem_of_mem_drop hy)) (by omega) (by simp)
/-- What the reading of a length answers. -/
def lenS (l : List Int) (a lim : Int) : Int × Int × Int :=
  if lim < 0 then (0, 0, 2) else if (readS l a).2.2 = 0 then (if (readS l a).1 < 0 then (0, 0, 3) else if (readS l a).1 > lim then (0, 0, 5) else ((readS l a).1, (readS l a).2.1, 0)) else (0, 0, (readS l a).2.2)
theorem codec_length_eq (l : List Int) (hl : l.length ≤ 140737488351232) (hw : ∀ x ∈ l, (Lit.int .u8 x).wf = true) (a lim : Int) (k : Nat) : codec_length.f k l a lim = some (lenS l a lim) := by
  unfold codec_length.f lenS
  rw [codec_ReadInt_eq l hl hw a k, Option.bind_some]
  split
  · rfl
  · split
    · split
      · rfl
      · split <;> rfl
    · rfl
theorem lenS_ok (l : List Int) (hw : ∀ x ∈ l, (Lit.int .u8 x).wf = true) (a lim : Int) (h : (lenS l a lim).2.2 = 0) : readS l a = lenS l a lim ∧ 0 ≤ (lenS l a lim).1 ∧ (lenS l a lim).1 ≤ lim ∧ (lenS l a lim).1 ≤ 9223372036854775807 ∧ 0 ≤ a ∧ a < (lenS l a lim).2.1 ∧ (lenS l a lim).2.1 ≤ l.length := by
  have hwf := readS_wf l hw a
  unfold lenS at *
  by_cases h1 : lim < 0
  · rw [if_pos h1] at h
    simp at h
  · rw [if_neg h1] at h ⊢
    by_cases h2 : (readS l a).2.2 = 0
    · rw [if_pos h2] at h ⊢
      have h5 := readS_next l a h2
      by_cases h3 : (readS l a).1 < 0
      · rw [if_pos h3] at h
        simp at h
      · rw [if_neg h3] at h ⊢
        by_cases h4 : (readS l a).1 > lim
        · rw [if_pos h4] at h
          simp at h
        · rw [if_neg h4]
          refine ⟨?_, by omega, by omega, by omega, h5⟩
          rw [← h2]
    · rw [if_neg h2] at h
      exact absurd h h2
/-- What the reading of n ints answers. -/
def intsS (l : List Int) : Nat → Int → List Int → List Int × Int × Int
  | 0, a, acc => (acc, a, 0)
  | n + 1, a, acc => if (readS l a).2.2 = 0 then intsS l n (readS l a).2.1 (acc ++ [(readS l a).1]) else ([], 0, (readS l a).2.2)
def readIntsS (l : List Int) (a lim : Int) : List Int × Int × Int := if (lenS l a lim).2.2 = 0 then intsS l (lenS l a lim).1.toNat (lenS l a lim).2.1 [] else ([], 0, (lenS l a lim).2.2)
theorem codec_ReadInts_l0 (l : List Int) (hl : l.length ≤ 1073741824) (hw : ∀ x ∈ l, (Lit.int .u8 x).wf = true) : ∀ (d : Nat) (k : Nat) (a : Int) (acc : List Int) (n i : Int), (l.length - a).toNat = d → 0 ≤ a → a ≤ l.length → 0 ≤ i → i ≤ n → n ≤ 9223372036854775807 → acc.length + (l.length - a) ≤ 1073741824 → d + 2 ≤ k →
    codec_ReadInts.l0 k l a acc n i = some (intsS l (n - i).toNat a acc) := by
  intro d
  induction d using Nat.strongRecOn with
  | _ d ih =>
    intro k a acc n i hd ha0 ha hi0 hi hn hacc hk
    obtain ⟨k, rfl⟩ : ∃ j, k = j + 1 := ⟨k - 1, by omega⟩
    rw [codec_ReadInts.l0]
    by_cases hlt : i < n
    · obtain ⟨q, hq⟩ : ∃ q, (n - i).toNat = q + 1 := ⟨(n - i).toNat - 1, by omega⟩
      rw [if_pos hlt, codec_ReadInt_eq l (by omega) hw a k, Option.bind_some, hq, intsS]
      by_cases he : (readS l a).2.2 = 0
      · obtain ⟨_, h1, h2⟩ := readS_next l a he
        rw [if_pos he, if_pos he, if_pos (by omega), wrap_in (i + 1) (by omega) (by omega)]
        have := ih ((l.length - (readS l a).2.1).toNat) (by omega) k (readS l a).2.1 (acc ++ [(readS l a).1]) n (i + 1) rfl (by omega) h2 (by omega) (by omega) hn (by simp only [List.length_append, List.length_cons, List.length_nil]; omega) (by omega)
        rw [this, show (n - (i + 1)).toNat = q by omega]
      · rw [if_neg he, if_neg he]
    · rw [if_neg hlt, show (n - i).toNat = 0 by omega, intsS]
theorem codec_ReadInts_eq (l : List Int) (hl : l.length ≤ 1073741824) (hw : ∀ x ∈ l, (Lit.int .u8 x).wf = true) (a lim : Int) (k : Nat) (hk : l.length + 2 ≤ k) : codec_ReadInts.f k l a lim = some (readIntsS l a lim) := by
  unfold codec_ReadInts.f readIntsS
  rw [codec_length_eq l (by omega) hw, Option.bind_some]
  by_cases he : (lenS l a lim).2.2 = 0
  · rw [if_pos he, if_pos he]
    obtain ⟨_, h1, h2, h3, h4, h5, h6⟩ := lenS_ok l hw a lim he
    have := codec_ReadInts_l0 l hl hw _ k (lenS l a lim).2.1 [] (lenS l a lim).1 0 rfl (by omega) h6 (by omega) (by omega) h3 (by simp only [List.length_nil]; omega) (by omega)
    rw [this, Int.sub_zero]
  · rw [if_neg he, if_neg he]
theorem intsS_len (l : List Int) (hl : l.length ≤ 1073741824) : ∀ (n : Nat) (a : Int) (acc : List Int), 0 ≤ a → a ≤ l.length → acc.length + (l.length - a) ≤ 1073741824 → (intsS l n a acc).1.length ≤ 1073741824 := by
  intro n
  induction n with
  | zero => intro a acc h0 h1 h2; rw [intsS]; show acc.length ≤ _; omega
  | succ n ih =>
    intro a acc h0 h1 h2
    rw [intsS]
    by_cases he : (readS l a).2.2 = 0
    · obtain ⟨_, h3, h4⟩ := readS_next l a he
      rw [if_pos he]
      exact ih _ _ (by omega) h4 (by simp only [List.length_append, List.length_cons, List.length_nil]; omega)
    · rw [if_neg he]
      exact Nat.zero_le _
theorem readIntsS_len (l : List Int) (hl : l.length ≤ 1073741824) (hw : ∀ x ∈ l, (Lit.int .u8 x).wf = true) (a lim : Int) : (readIntsS l a lim).1.length ≤ 1073741824 := by
  unfold readIntsS
  by_cases he : (lenS l a lim).2.2 = 0
  · rw [if_pos he]
    obtain ⟨_, h1, h2, h3, h4, h5, h6⟩ := lenS_ok l hw a lim he
    exact intsS_len l hl _ _ _ (by omega) h6 (by simp only [List.length_nil]; omega)
  · rw [if_neg he]
    exact Nat.zero_le _
theorem frustumref05_SameInts_l0 (a b : List Int) (ha : a.length ≤ maxLen) (hb : a.length = b.length) : ∀ (d k i : Nat), a.length - i = d → i ≤ a.length → d < k → frustumref05_SameInts.l0 k a b (i : Int) = some (decide (a.drop i = b.drop i)) := by
  intro d
  induction d with
  | zero =>
    intro k i hd hi hk
    obtain ⟨k, rfl⟩ : ∃ m, k = m + 1 := ⟨k - 1, by omega⟩
    obtain rfl : i = a.length := by omega
    simp only [frustumref05_SameInts.l0]
    rw [if_neg (by omega), List.drop_length, hb, List.drop_length]
    rfl
  | succ d ih =>
    intro k i hd hi hk
    obtain ⟨k, rfl⟩ : ∃ m, k = m + 1 := ⟨k - 1, by omega⟩
    simp only [frustumref05_SameInts.l0]
    rw [if_pos (by omega), if_pos (by omega), if_pos (by omega), wrap_succ a i ha (by omega), rd_nat a i (by omega), rd_nat b i (by omega), List.drop_eq_getElem_cons (show i < a.length by omega), List.drop_eq_getElem_cons (show i < b.length by omega)]
    by_cases e : a[i] = b[i]
    · rw [if_pos e, ih k (i + 1) (by omega) (by omega) (by omega)]
      simp only [List.cons.injEq, e, true_and]
    · rw [if_neg e]
      simp only [List.cons.injEq, e, false_and, decide_false]
theorem frustumref05_SameInts_eq (a b : List Int) (ha : a.length ≤ maxLen) (k : Nat) (hk : a.length < k) : frustumref05_SameInts.f k a b = some (decide (a = b)) := by
  unfold frustumref05_SameInts.f
  by_cases e : a.length = b.length
  · rw [if_pos (by omega)]
    have := frustumref05_SameInts_l0 a b ha e a.length k 0 (by omega) (by omega) hk
    simpa using this
  · rw [if_neg (by omega)]
    have : a ≠ b := fun h => e (by rw [h])
    simp [this]
/-- What the reading of a string answers. -/
def readStrS (l : List Int) (a lim : Int) : ByteArray × Int × Int :=
  if (lenS l a lim).2.2 = 0 then (if (lenS l a lim).1 > (l.length : Int) - (lenS l a lim).2.1 then ((⟨#[]⟩ : ByteArray), 0, 4) else (strOfNums ((l.take ((lenS l a lim).2.1 + (lenS l a lim).1).toNat).drop (lenS l a lim).2.1.toNat), (lenS l a lim).2.1 + (lenS l a lim).1, 0)) else ((⟨#[]⟩ : ByteArray), 0, (lenS l a lim).2.2)
theorem codec_ReadString_eq (l : List Int) (hl : l.length ≤ 140737488351232) (hw : ∀ x ∈ l, (Lit.int .u8 x).wf = true) (a lim : Int) (k : Nat) : codec_ReadString.f k l a lim = some (readStrS l a lim) := by
  unfold codec_ReadString.f readStrS
  rw [codec_length_eq l hl hw, Option.bind_some]
  by_cases he : (lenS l a lim).2.2 = 0
  · rw [if_pos he, if_pos he]
    obtain ⟨_, h1, h2, h3, h4, h5, h6⟩ := lenS_ok l hw a lim he
    rw [wrap_in ((l.length : Int) - (lenS l a lim).2.1) (by omega) (by omega)]
    by_cases hc : (lenS l a lim).1 > (l.length : Int) - (lenS l a lim).2.1
    · rw [if_pos hc, if_pos hc]
    · rw [if_neg hc, if_neg hc, wrap_in ((lenS l a lim).2.1 + (lenS l a lim).1) (by omega) (by omega), if_pos (by omega), if_pos (by omega), if_pos (by omega)]
  · rw [if_neg he, if_neg he]
/-- The bytes of an unsigned number. -/
def encU : Nat → Int → List Int
  | 0, _ => []
  | d + 1, u => if 128 ≤ u then (u % 128 + 128) :: encU d (u / 128) else [u]
/-- The unsigned number of an int. -/
def zig (n : Int) : Int := if n < 0 then -2 * n - 1 else 2 * n
/-- The bytes of an int. -/
def encI (n : Int) : List Int := encU 10 (zig n)
theorem zig_range (n : Int) (h0 : -9223372036854775808 ≤ n) (h1 : n ≤ 9223372036854775807) : 0 ≤ zig n ∧ zig n < 18446744073709551616 := by
  unfold zig
  split <;> omega
theorem encU_len : ∀ (d : Nat) (u : Int), (encU d u).length ≤ d := by
  intro d
  induction d with
  | zero => intro u; simp [encU]
  | succ d ih =>
    intro u
    rw [encU]
    split
    · simp only [List.length_cons]
      have := ih (u / 128)
      omega
    · simp
theorem encU_pos (d : Nat) (u : Int) : 0 < (encU (d + 1) u).length := by
  rw [encU]
  split <;> simp
theorem encI_len (n : Int) : 0 < (encI n).length ∧ (encI n).length ≤ 10 := ⟨encU_pos 9 _, encU_len 10 _⟩
theorem or128 (u : Int) (h : 0 ≤ u) : Go.bits .or .u8 (u % 256) 128 = u % 128 + 128 := by
  have key : ∀ a : Fin 256, (a.val ||| 128) = a.val % 128 + 128 := by decide +kernel
  obtain ⟨b, hb⟩ := Int.eq_ofNat_of_zero_le (show 0 ≤ u % 256 by omega)
  have hb1 : b < 256 := by omega
  have := (Go.bits_nat .u8 8 (by decide) Go.wraps_u8 b 128 hb1 (by decide)).2
  have k2 := key ⟨b, hb1⟩
  rw [hb]
  refine this.trans ?_
  simp only at k2
  rw [k2]
  omega
theorem or1 (y : Int) (h0 : 0 ≤ y) (h1 : y * 2 < 18446744073709551616) : Go.bits .or .u64 (y * 2) 1 = y * 2 + 1 :=
  Go.bits_join .u64 64 (by decide) (fun n h0 h1 => by rw [u64_wrap]; omega) 1 (y * 2) 1 (by omega) (by omega) (by omega) (by omega) (by omega) (by omega)
theorem codec_AppendInt_l0 : ∀ (d k : Nat) (u : Int) (acc : List Int), 0 < d → d ≤ k → 0 ≤ u → u < 128 ^ d → acc.length + d ≤ 140737488355328 → codec_AppendInt.l0 k u acc = some (acc ++ encU d u) := by
  intro d
  induction d with
  | zero => intro k u acc h; omega
  | succ d ih =>
    intro k u acc _ hk hu0 hu hl
    obtain ⟨k, rfl⟩ : ∃ j, k = j + 1 := ⟨k - 1, by omega⟩
    rw [codec_AppendInt.l0, encU]
    by_cases h : 128 ≤ u
    · rw [if_pos h, if_pos h, if_pos (by omega), or128 u hu0]
      have hd : 0 < d := by
        by_cases hd : d = 0
        · subst hd; simp at hu; omega
        · omega
      have hu2 : u / 128 < 128 ^ d := by
        rw [Int.pow_succ] at hu
        omega
      rw [ih k (u / 128) (acc ++ [u % 128 + 128]) hd (by omega) (by omega) hu2 (by simp only [List.length_append, List.length_cons, List.length_nil]; omega), List.append_assoc, List.singleton_append]
    · rw [if_neg (by omega), if_neg h, if_pos (by omega), show u % 256 = u by omega]
theorem enc_start {l : List Int} {k : Nat} {u : Int} (hl : l.length ≤ 140737488355000) (hk : 11 ≤ k) (h0 : 0 ≤ u) (h1 : u < 18446744073709551616) : codec_AppendInt.j0 k l u = some (l ++ encU 10 u) := by
  obtain ⟨k, rfl⟩ : ∃ j, k = j + 1 := ⟨k - 1, by omega⟩
  rw [codec_AppendInt.j0, codec_tail.f, Option.bind_some, List.nil_append, if_pos (by simp only [List.length_nil]; omega), Option.bind_some]
  exact codec_AppendInt_l0 10 k u l (by decide) (by omega) h0 (Int.lt_of_lt_of_le h1 (by decide)) (by omega)
theorem zig_neg {n : Int} (h0 : -9223372036854775808 ≤ n) (hn : n < 0) : Go.bits .or .u64 (IntKind.u64.wrap ((IntKind.u64.wrap (Go.bits .xor .i64 (-1) n)) * 2)) 1 = zig n := by
  rw [not64 n h0 (by omega), u64_wrap (-1 - n), Int.emod_eq_of_lt (by omega) (by omega), u64_wrap, Int.emod_eq_of_lt (by omega) (by omega), or1 _ (by omega) (by omega)]
  unfold zig
  rw [if_pos hn]
  omega
theorem zig_pos {n : Int} (h1 : n ≤ 9223372036854775807) (hn : ¬ n < 0) : IntKind.u64.wrap ((IntKind.u64.wrap n) * 2) = zig n := by
  rw [u64_wrap n, Int.emod_eq_of_lt (by omega) (by omega), u64_wrap, Int.emod_eq_of_lt (by omega) (by omega)]
  unfold zig
  rw [if_neg hn]
  omega
theorem codec_AppendInt_eq (l : List Int) (hl : l.length ≤ 140737488355000) (n : Int) (h0 : -9223372036854775808 ≤ n) (h1 : n ≤ 9223372036854775807) (k : Nat) (hk : 11 ≤ k) : codec_AppendInt.f k l n = some (l ++ encI n) := by
  obtain ⟨z0, z1⟩ := zig_range n h0 h1
  unfold codec_AppendInt.f encI
  by_cases hn : n < 0
  · rw [if_pos hn, zig_neg h0 hn]
    exact enc_start hl hk z0 z1
  · rw [if_neg hn, zig_pos h1 hn]
    exact enc_start hl hk z0 z1
theorem int_wf {l : List Int} (hw : ∀ x ∈ l, (Lit.int .i64 x).wf = true) {x : Int} (h : x ∈ l) : -9223372036854775808 ≤ x ∧ x ≤ 9223372036854775807 := wf_bounds (hw x h)
theorem flat_len (l : List Int) : (l.flatMap encI).length ≤ 10 * l.length := by
  induction l with
  | nil => simp
  | cons x r ih =>
    simp only [List.flatMap_cons, List.length_append, List.length_cons]
    have := (encI_len x).2
    omega
theorem codec_AppendInts_l0 (v : List Int) (hv : v.length ≤ 1073741824) (hw : ∀ x ∈ v, (Lit.int .i64 x).wf = true) : ∀ (d k i : Nat) (acc : List Int), v.length - i = d → i ≤ v.length → d + 12 ≤ k → acc.length + 10 * d ≤ 140737488355000 →
    codec_AppendInts.l0 k acc v (v.length : Int) (i : Int) = some (acc ++ (v.drop i).flatMap encI) := by
  intro d
  induction d with
  | zero =>
    intro k i acc hd hi hk hl
    obtain ⟨k, rfl⟩ : ∃ m, k = m + 1 := ⟨k - 1, by omega⟩
    obtain rfl : i = v.length := by omega
    rw [codec_AppendInts.l0, if_neg (by omega), List.drop_length, List.flatMap_nil, List.append_nil]
  | succ d ih =>
    intro k i acc hd hi hk hl
    obtain ⟨k, rfl⟩ : ∃ m, k = m + 1 := ⟨k - 1, by omega⟩
    have hlt : i < v.length := by omega
    obtain ⟨h0, h1⟩ := int_wf hw (List.getElem_mem hlt)
    rw [codec_AppendInts.l0, if_pos (by omega), if_pos (by omega), if_pos (by omega), rd_nat v i hlt, codec_AppendInt_eq acc (by omega) _ h0 h1 k (by omega), Option.bind_some, wrap_succ v i (by simp only [maxLen]; omega) hlt]
    have := (encI_len v[i]).2
    rw [ih k (i + 1) (acc ++ encI v[i]) (by omega) (by omega) (by omega) (by simp only [List.length_append]; omega), List.drop_eq_getElem_cons hlt, List.flatMap_cons, List.append_assoc]
/-- The bytes of a list. -/
def encL (v : List Int) : List Int := encI v.length ++ v.flatMap encI
theorem codec_AppendInts_eq (l v : List Int) (hl : l.length ≤ 1073741824) (hv : v.length ≤ 1073741824) (hw : ∀ x ∈ v, (Lit.int .i64 x).wf = true) (k : Nat) (hk : v.length + 12 ≤ k) : codec_AppendInts.f k l v = some (l ++ encL v) := by
  unfold codec_AppendInts.f encL
  rw [codec_AppendInt_eq l (by omega) _ (by omega) (by omega) k (by omega), Option.bind_some]
  have h := (encI_len v.length).2
  have := codec_AppendInts_l0 v hv hw v.length k 0 (l ++ encI v.length) (by omega) (by omega) hk (by simp only [List.length_append]; omega)
  rw [List.drop_zero] at this
  rw [← List.append_assoc]
  exact this
theorem codec_AppendString_eq (l : List Int) (s : ByteArray) (hl : l.length ≤ 34359738368) (hs : s.size ≤ 1073741824) (k : Nat) (hk : 11 ≤ k) : codec_AppendString.f k l s = some (l ++ (encI s.size ++ bytesOf s)) := by
  unfold codec_AppendString.f
  have h := (encI_len s.size).2
  rw [codec_AppendInt_eq l (by omega) _ (by omega) (by omega) k hk, Option.bind_some, if_pos (by simp only [List.length_append]; omega), List.append_assoc]
theorem codec_AppendBool_eq (l : List Int) (hl : l.length ≤ 140737488355000) (b : Bool) : codec_AppendBool.f l b = some (l ++ [if b = true then 1 else 0]) := by
  unfold codec_AppendBool.f
  rw [codec_tail.f, Option.bind_some, List.nil_append, if_pos (by simp only [List.length_nil]; omega), Option.bind_some]
  have h : l.length < 140737488355328 := by omega
  cases b <;> simp [h]
/-- The int of an unsigned number. -/
def dez (v : Int) : Int := if v % 2 = 1 then -1 - v / 2 else v / 2
theorem dez_zig (n : Int) : dez (zig n) = n := by
  unfold dez zig
  by_cases h : n < 0
  · rw [if_pos h, if_pos (by omega)]
    omega
  · rw [if_neg h, if_neg (by omega)]
    omega
theorem zig_dez (v : Int) (h : 0 ≤ v) : zig (dez v) = v := by
  unfold dez zig
  by_cases h1 : v % 2 = 1
  · rw [if_pos h1, if_pos (by omega)]
    omega
  · rw [if_neg h1, if_neg (by omega)]
    omega
theorem pow_next (m : Nat) : (2 : Int) ^ (7 * (m + 1)) = 128 * 2 ^ (7 * m) := by
  rw [show 7 * (m + 1) = 7 * m + 7 by omega, Int.pow_add, Int.mul_comm]
  rfl
theorem pow_sum (u P : Int) : u % 128 * P + u / 128 * (128 * P) = u * P := by
  have h := Int.emod_add_mul_ediv u 128
  calc u % 128 * P + u / 128 * (128 * P) = (u % 128 + 128 * (u / 128)) * P := by rw [Int.add_mul, ← Int.mul_assoc, Int.mul_comm (u / 128) 128]
    _ = u * P := by rw [h]
theorem encU_small (d : Nat) (u : Int) (h : ¬128 ≤ u) : encU (d + 1) u = [u] := by rw [encU, if_neg h]
theorem encU_big (d : Nat) (u : Int) (h : 128 ≤ u) : encU (d + 1) u = (u % 128 + 128) :: encU d (u / 128) := by rw [encU, if_pos h]
theorem decS_enc (r : List Int) : ∀ (d m : Nat) (u v p : Int), 0 < d → m + d = 10 → 0 ≤ u → 0 ≤ v → v + u * 2 ^ (7 * m) < 18446744073709551616 → (u ≠ 0 ∨ m = 0) →
    decS (encU d u ++ r) p m v = (dez (v + u * 2 ^ (7 * m)), p + (encU d u).length, 0) := by
  intro d
  induction d with
  | zero => intro m u v p h; omega
  | succ d ih =>
    intro m u v p _ hmd hu0 hv0 hb hne
    have h9 : m = 9 → u ≤ 1 := by
      rintro rfl
      simp only [Nat.reduceMul, Int.reducePow] at hb
      omega
    by_cases h : 128 ≤ u
    · have hm9 : m ≠ 9 := fun h1 => by have := h9 h1; omega
      rw [encU_big d u h, List.cons_append, decS, if_neg (fun hh => hm9 hh.1), if_pos (by omega), show (u % 128 + 128) % 128 = u % 128 by omega]
      have hs : v + u % 128 * 2 ^ (7 * m) + u / 128 * 2 ^ (7 * (m + 1)) = v + u * 2 ^ (7 * m) := by
        rw [pow_next, Int.add_assoc, pow_sum]
      have hp : 0 ≤ u % 128 * 2 ^ (7 * m) := Int.mul_nonneg (by omega) (by exact_mod_cast Nat.zero_le _)
      rw [ih (m + 1) (u / 128) (v + u % 128 * 2 ^ (7 * m)) (p + 1) (by omega) (by omega) (by omega) (by omega) (by rw [hs]; exact hb) (Or.inl (by omega)), hs, List.length_cons]
      simp only [Prod.mk.injEq, true_and, and_true]
      omega
    · rw [encU_small d u h, List.singleton_append, decS, if_neg (fun hh => by have := h9 hh.1; omega), if_neg h, if_neg (fun hh => by omega), show u % 128 = u by omega]
      unfold dez
      split <;> rfl
theorem readS_enc (l r : List Int) (a : Nat) (n : Int) (h0 : -9223372036854775808 ≤ n) (h1 : n ≤ 9223372036854775807) (ha : a ≤ l.length) (h : l.drop a = encI n ++ r) : readS l (a : Int) = (n, ((a + (encI n).length : Nat) : Int), 0) := by
  obtain ⟨z0, z1⟩ := zig_range n h0 h1
  unfold readS
  rw [if_neg (by omega), Int.toNat_natCast, h]
  unfold encI
  rw [decS_enc r 10 0 (zig n) 0 (a : Int) (by decide) rfl z0 (by decide) (by simpa using z1) (Or.inr rfl)]
  simp only [Nat.mul_zero, Int.pow_zero, Int.mul_one, Int.zero_add, dez_zig, Int.natCast_add]
theorem drop_step {l x y : List Int} {a : Nat} (ha : a ≤ l.length) (h : l.drop a = x ++ y) : a + x.length ≤ l.length ∧ l.drop (a + x.length) = y := by
  have h1 : (l.drop a).length = (x ++ y).length := by rw [h]
  simp only [List.length_drop, List.length_append] at h1
  refine ⟨by omega, ?_⟩
  rw [← List.drop_drop, h, List.drop_left]
theorem intsS_enc (l r : List Int) : ∀ (v acc : List Int) (a : Nat), (∀ x ∈ v, (Lit.int .i64 x).wf = true) → a ≤ l.length → l.drop a = v.flatMap encI ++ r → intsS l v.length (a : Int) acc = (acc ++ v, ((a + (v.flatMap encI).length : Nat) : Int), 0) := by
  intro v
  induction v with
  | nil => intro acc a _ _ _; simp [intsS]
  | cons x v ih =>
    intro acc a hw ha h
    obtain ⟨h0, h1⟩ := int_wf hw (List.mem_cons_self (a := x) (l := v))
    rw [List.flatMap_cons, List.append_assoc] at h
    obtain ⟨hb, h2⟩ := drop_step ha h
    rw [List.length_cons, intsS, readS_enc l _ a x h0 h1 ha h, if_pos rfl]
    simp only []
    rw [ih (acc ++ [x]) (a + (encI x).length) (fun y hy => hw y (List.mem_cons_of_mem _ hy)) hb h2, List.flatMap_cons, List.length_append, List.append_assoc, List.singleton_append, Nat.add_assoc]
theorem lenS_enc (l r : List Int) (a n : Nat) (lim : Int) (hn : (n : Int) ≤ 9223372036854775807) (hlim : (n : Int) ≤ lim) (ha : a ≤ l.length) (h : l.drop a = encI n ++ r) : lenS l (a : Int) lim = ((n : Int), ((a + (encI n).length : Nat) : Int), 0) := by
  unfold lenS
  rw [if_neg (by omega), readS_enc l r a n (by omega) hn ha h, if_pos rfl, if_neg (show ¬(n : Int) < 0 by omega), if_neg (show ¬(n : Int) > lim by omega)]
theorem readIntsS_enc (l r v : List Int) (a : Nat) (hw : ∀ x ∈ v, (Lit.int .i64 x).wf = true) (hv : (v.length : Int) ≤ 9223372036854775807) (ha : a ≤ l.length) (h : l.drop a = encL v ++ r) : readIntsS l (a : Int) (v.length : Int) = (v, ((a + (encL v).length : Nat) : Int), 0) := by
  unfold encL at h ⊢
  rw [List.append_assoc] at h
  obtain ⟨hb, h2⟩ := drop_step ha h
  unfold readIntsS
  rw [lenS_enc l _ a v.length _ hv (Int.le_refl _) ha h, if_pos rfl]
  simp only [Int.toNat_natCast]
  rw [intsS_enc l r v [] (a + (encI v.length).length) hw hb h2, List.nil_append, List.length_append, Nat.add_assoc]
theorem strOf_bytes (s : ByteArray) : strOfNums (bytesOf s) = s := by
  unfold strOfNums bytesOf
  have e : List.map (fun n : Int => UInt8.ofNat n.toNat) (List.map (fun b : UInt8 => (b.toNat : Int)) s.data.toList) = s.data.toList := by
    rw [List.map_map]
    conv => rhs; rw [← List.map_id s.data.toList]
    refine List.map_congr_left fun b _ => ?_
    simp
  rw [e]
theorem readStrS_enc (l r : List Int) (s : ByteArray) (a : Nat) (hs : (s.size : Int) ≤ 9223372036854775807) (ha : a ≤ l.length) (h : l.drop a = encI s.size ++ (bytesOf s ++ r)) : readStrS l (a : Int) (s.size : Int) = (s, ((a + (encI s.size ++ bytesOf s).length : Nat) : Int), 0) := by
  obtain ⟨hb, h2⟩ := drop_step ha h
  obtain ⟨hc, h3⟩ := drop_step hb h2
  have hlen := bytesOf_length s
  unfold readStrS
  rw [lenS_enc l _ a s.size _ hs (Int.le_refl _) ha h, if_pos rfl, if_neg (by simp only []; omega)]
  simp only []
  rw [show (((a + (encI s.size).length : Nat) : Int) + (s.size : Int)).toNat = (a + (encI s.size).length) + (bytesOf s).length by omega, Int.toNat_natCast, List.drop_take, h2, show (a + (encI s.size).length) + (bytesOf s).length - (a + (encI s.size).length) = (bytesOf s).length by omega, List.take_left, strOf_bytes]
  simp only [List.length_append, Prod.mk.injEq, true_and, and_true]
  omega
theorem wf_byte {x : Int} (h0 : 0 ≤ x) (h1 : x ≤ 255) : (Lit.int .u8 x).wf = true := by
  simp [Lit.wf, IntKind.min, IntKind.max, IntKind.signed, IntKind.bits]
  omega
theorem encU_wf : ∀ (d : Nat) (u : Int), 0 ≤ u → ∀ x ∈ encU d u, (Lit.int .u8 x).wf = true := by
  intro d
  induction d with
  | zero => intro u _ x hx; simp [encU] at hx
  | succ d ih =>
    intro u hu x hx
    by_cases h : 128 ≤ u
    · rw [encU_big d u h] at hx
      rcases List.mem_cons.1 hx with rfl | hx
      · exact wf_byte (by omega) (by omega)
      · exact ih (u / 128) (by omega) x hx
    · rw [encU_small d u h] at hx
      obtain rfl := List.mem_singleton.1 hx
      exact wf_byte hu (by omega)
theorem encI_wf (n : Int) (h0 : -9223372036854775808 ≤ n) (h1 : n ≤ 9223372036854775807) : ∀ x ∈ encI n, (Lit.int .u8 x).wf = true := encU_wf 10 _ (zig_range n h0 h1).1
theorem bytesOf_wf (s : ByteArray) : ∀ x ∈ bytesOf s, (Lit.int .u8 x).wf = true := by
  intro x hx
  unfold bytesOf at hx
  obtain ⟨b, _, rfl⟩ := List.mem_map.1 hx
  have := b.toNat_lt
  exact wf_byte (by omega) (by omega)
theorem encL_wf (v : List Int) (hv : (v.length : Int) ≤ 9223372036854775807) (hw : ∀ x ∈ v, (Lit.int .i64 x).wf = true) : ∀ x ∈ encL v, (Lit.int .u8 x).wf = true := by
  intro x hx
  unfold encL at hx
  rcases List.mem_append.1 hx with hx | hx
  · exact encI_wf _ (by omega) hv x hx
  · obtain ⟨n, hn, hx⟩ := List.mem_flatMap.1 hx
    obtain ⟨h0, h1⟩ := int_wf hw hn
    exact encI_wf n h0 h1 x hx
theorem CodecRoundTrip : frustumlaw05_CodecRoundTrip.Pure := by
  intro l v s b r _ hl hwl _ hv hwv hs _ hr hwr
  have g1 := (encI_len v.length).2
  have g2 := flat_len v
  have g3 := (encI_len s.size).2
  have g4 := bytesOf_length s
  have g5 : (encL v).length ≤ 10485770 := by unfold encL; simp only [List.length_append]; omega
  refine ⟨2147483648, ?_⟩
  unfold frustumlaw05_CodecRoundTrip.f
  rw [codec_AppendInts_eq l v (by omega) (by omega) hwv _ (by omega), Option.bind_some, codec_AppendString_eq _ s (by simp only [List.length_append]; omega) (by omega) _ (by omega), Option.bind_some, codec_AppendBool_eq _ (by simp only [List.length_append]; omega), Option.bind_some]
  generalize hB : (if b = true then (1 : Int) else 0) = B
  have hc : l ++ encL v ++ (encI s.size ++ bytesOf s) ++ [B] = l ++ (encL v ++ (encI s.size ++ (bytesOf s ++ [B]))) := by simp only [List.append_assoc]
  rw [hc]
  generalize hC : l ++ (encL v ++ (encI s.size ++ (bytesOf s ++ [B]))) = c
  have hclen : c.length = l.length + ((encL v).length + ((encI s.size).length + (s.size + 1))) := by rw [← hC]; simp only [List.length_append, List.length_cons, List.length_nil]; omega
  have htake : c.take l.length = l := by rw [← hC, List.take_left]
  rw [if_neg (by omega), if_pos (by omega), if_pos (by omega), Int.toNat_natCast, htake, frustumref05_Same_eq l l (by simp only [maxLen]; omega) _ (by omega), Option.bind_some, decide_eq_true rfl]
  rw [frustumlaw05_CodecRoundTrip.j0, if_neg (by decide), Option.bind_some, List.nil_append, if_pos (by simp only [List.length_nil]; omega), Option.bind_some, if_pos (by omega), Option.bind_some]
  generalize hD : c ++ r = d
  have hdlen : d.length = c.length + r.length := by rw [← hD, List.length_append]
  have d0 : d.drop l.length = encL v ++ (encI s.size ++ (bytesOf s ++ ([B] ++ r))) := by
    rw [← hD, ← hC]
    simp only [List.append_assoc, List.drop_left]
  have hwd : ∀ x ∈ d, (Lit.int .u8 x).wf = true := by
    intro x hx
    rw [← hD, ← hC] at hx
    rcases List.mem_append.1 hx with hx | hx
    · rcases List.mem_append.1 hx with hx | hx
      · exact hwl x hx
      · rcases List.mem_append.1 hx with hx | hx
        · exact encL_wf v (by omega) hwv x hx
        · rcases List.mem_append.1 hx with hx | hx
          · exact encI_wf _ (by omega) (by omega) x hx
          · rcases List.mem_append.1 hx with hx | hx
            · exact bytesOf_wf s x hx
            · obtain rfl := List.mem_singleton.1 hx
              rw [← hB]
              cases b <;> exact wf_byte (by decide) (by decide)
    · exact hwr x hx
  obtain ⟨b1, d1⟩ := drop_step (show l.length ≤ d.length by omega) d0
  obtain ⟨b2, d2⟩ := drop_step b1 (show d.drop (l.length + (encL v).length) = (encI s.size ++ bytesOf s) ++ ([B] ++ r) by rw [d1]; simp only [List.append_assoc])
  obtain ⟨b3, _⟩ := drop_step b2 d2
  rw [codec_ReadInts_eq d (by omega) hwd _ _ _ (by omega), Option.bind_some, readIntsS_enc d _ v l.length hwv (by omega) (by omega) d0, if_pos rfl]
  simp only []
  rw [frustumref05_SameInts_eq v v (by simp only [maxLen]; omega) _ (by omega), Option.bind_some, decide_eq_true rfl]
  rw [frustumlaw05_CodecRoundTrip.j1, if_neg (by decide), codec_ReadString_eq d (by omega) hwd, Option.bind_some, readStrS_enc d _ s _ (by omega) b1 d1, if_pos rfl]
  simp only [bne_self_eq_false]
  rw [frustumlaw05_CodecRoundTrip.j2, if_neg (by decide), codec_ReadBool_eq d (by omega) _ _ (by omega), Option.bind_some]
  have hrd : rd d ((l.length + (encL v).length + (encI s.size ++ bytesOf s).length : Nat) : Int) = B := by
    have hlt : l.length + (encL v).length + (encI s.size ++ bytesOf s).length < d.length := by simp only [List.length_append]; omega
    rw [rd_nat d _ hlt]
    rw [List.drop_eq_getElem_cons hlt] at d2
    simpa using (List.cons.inj d2).1
  have hbs : boolS d ((l.length + (encL v).length + (encI s.size ++ bytesOf s).length : Nat) : Int) = (b, (c.length : Int), 0) := by
    unfold boolS
    rw [if_neg (by simp only [List.length_append]; omega), if_neg (by simp only [List.length_append]; omega), hrd, if_neg (by rw [← hB]; cases b <;> decide)]
    refine Prod.ext ?_ (Prod.ext ?_ rfl)
    · show (B == 1) = b
      rw [← hB]; cases b <;> rfl
    · simp only [List.length_append]; omega
  rw [hbs, if_pos rfl]
  simp only [beq_self_eq_true, if_true]
  rw [frustumlaw05_example_eq _ (by omega)]
  rfl

end Go.Proofs.Ytgfdfchckpknjaa.Pure
