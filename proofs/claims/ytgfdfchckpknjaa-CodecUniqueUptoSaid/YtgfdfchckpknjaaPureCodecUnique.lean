/- CodecUnique: bytes that are read as a value are the only encoding of it. Condition: at most 1048576 bytes. -/
import Derived.Test.YtgfdfchckpknjaaPCodecUniquex3
import Derived.Laws.BitsLemmas
namespace Go.Proofs.Ytgfdfchckpknjaa.Pure
set_option linter.unusedVariables false
set_option linter.unusedSimpArgs false
open Go.RowKit Go.Proofs.Ytgfdfchckpknjaa.PCodecUnique Go.Proofs.YtgfdfchckpknjaaW.PrintWords Go.Proofs.YtgfdfchckpknjaaW.PrintLast Go.Proofs.YtgfdfchckpknjaaW.PrintMore
/-! numbers -/
theorem and_mask (j : Nat) (hj : j ≤ 63) (n : Int) : Go.bits .and .i64 n (2 ^ j - 1) = n % 2 ^ j := by
  have hp : (2 : Nat) ^ j ≤ 2 ^ 63 := Nat.pow_le_pow_right (by decide) hj
  have hpos : 0 < (2 : Nat) ^ j := Nat.two_pow_pos j
  have hm : (BitVec.ofInt 64 ((2 : Int) ^ j - 1)).toNat = 2 ^ j - 1 := by
    have hc : ((2 : Int) ^ j - 1) = ((2 ^ j - 1 : Nat) : Int) := by rw [Int.natCast_sub hpos]; simp
    rw [hc, BitVec.ofInt_natCast, BitVec.toNat_ofNat]
    exact Nat.mod_eq_of_lt (by omega)
  have key : (BitVec.ofInt 64 n &&& BitVec.ofInt 64 ((2 : Int) ^ j - 1)).toNat = (n % ((2 ^ 64 : Nat) : Int)).toNat % 2 ^ j := by
    rw [BitVec.toNat_and, BitVec.toNat_ofInt, hm, Nat.and_two_pow_sub_one_eq_mod]
  show IntKind.i64.wrap ((BitVec.ofInt 64 n &&& BitVec.ofInt 64 ((2 : Int) ^ j - 1)).toNat : Nat) = n % 2 ^ j
  rw [key, Go.IntKind.wrap_i64]
  have hlt := Nat.mod_lt (n % ((2 ^ 64 : Nat) : Int)).toNat hpos
  have h1 : (((n % ((2 ^ 64 : Nat) : Int)).toNat % 2 ^ j : Nat) : Int) = n % 2 ^ j := by
    rw [Int.natCast_emod, Int.toNat_of_nonneg (Int.emod_nonneg _ (by decide))]
    rw [Int.natCast_pow]
    refine Int.emod_emod_of_dvd n ?_
    have : (2 : Int) ^ 64 = 2 ^ j * 2 ^ (64 - j) := by rw [← Int.pow_add]; congr 1; omega
    exact ⟨2 ^ (64 - j), by exact_mod_cast this⟩
  rw [← h1]
  omega
theorem and255 (n : Int) : Go.bits .and .i64 n 255 = n % 256 := and_mask 8 (by decide) n
theorem bits_i64_nat (a b : Nat) (ha : a < 2 ^ 63) (hb : b < 2 ^ 63) : Go.bits .and .i64 a b = ((a &&& b : Nat) : Int) ∧ Go.bits .or .i64 a b = ((a ||| b : Nat) : Int) :=
  Go.bits_nat .i64 63 (by decide) (fun n h0 h1 => by rw [Go.IntKind.wrap_i64]; omega) a b ha hb
/-- only the lowest bits count where the mask is small. -/
theorem and_low (j : Nat) (hj : j ≤ 63) (n m : Int) (h0 : 0 ≤ m) (h1 : m < 2 ^ j) : Go.bits .and .i64 n m = Go.bits .and .i64 (n % 2 ^ j) m := by
  obtain ⟨b, rfl⟩ := Int.eq_ofNat_of_zero_le h0
  have hb : b < 2 ^ j := by exact_mod_cast h1
  have hp : (2 : Nat) ^ j ≤ 2 ^ 63 := Nat.pow_le_pow_right (by decide) hj
  have hpos : 0 < (2 : Nat) ^ j := Nat.two_pow_pos j
  have hmm : ∀ x : Nat, x &&& b = (x % 2 ^ j) &&& b := by
    intro x
    rw [← Nat.and_two_pow_sub_one_eq_mod, Nat.and_assoc]
    congr 1
    rw [Nat.and_comm, Nat.and_two_pow_sub_one_eq_mod, Nat.mod_eq_of_lt hb]
  show IntKind.i64.wrap ((BitVec.ofInt 64 n &&& BitVec.ofInt 64 (b : Int)).toNat : Nat) = IntKind.i64.wrap ((BitVec.ofInt 64 (n % 2 ^ j) &&& BitVec.ofInt 64 (b : Int)).toNat : Nat)
  rw [BitVec.toNat_and, BitVec.toNat_and, BitVec.ofInt_natCast, BitVec.toNat_ofNat, Nat.mod_eq_of_lt (show b < 2 ^ 64 by omega), BitVec.toNat_ofInt, BitVec.toNat_ofInt]
  rw [hmm, hmm ((n % 2 ^ j) % ((2 ^ 64 : Nat) : Int)).toNat]
  congr 3
  have e : ∀ z : Int, ((z % ((2 ^ 64 : Nat) : Int)).toNat % 2 ^ j : Nat) = (z % 2 ^ j).toNat := by
    intro z
    have h1 : (((z % ((2 ^ 64 : Nat) : Int)).toNat % 2 ^ j : Nat) : Int) = z % 2 ^ j := by
      rw [Int.natCast_emod, Int.toNat_of_nonneg (Int.emod_nonneg _ (by decide)), Int.natCast_pow]
      refine Int.emod_emod_of_dvd z ?_
      have : (2 : Int) ^ 64 = 2 ^ j * 2 ^ (64 - j) := by rw [← Int.pow_add]; congr 1; omega
      exact ⟨2 ^ (64 - j), by exact_mod_cast this⟩
    omega
  rw [e, e, Int.emod_emod_of_dvd n (Int.dvd_refl _)]
theorem wrap_in (x : Int) (h0 : -9223372036854775808 ≤ x) (h1 : x ≤ 9223372036854775807) : wrap64 x = x := by unfold wrap64; omega
theorem wf_bounds {a : Int} (h : (Lit.int .i64 a).wf = true) : -9223372036854775808 ≤ a ∧ a ≤ 9223372036854775807 := by
  simpa [Lit.wf, IntKind.min, IntKind.max, IntKind.signed, IntKind.bits] using h
theorem u64_wrap (x : Int) : IntKind.u64.wrap x = x % 18446744073709551616 := by simp [IntKind.wrap, IntKind.bits, IntKind.signed]
theorem rd_nat (l : List Int) (i : Nat) (h : i < l.length) : rd l (i : Int) = l[i] := by unfold rd; simp [h]
theorem wrap_succ (l : List Int) (i : Nat) (hl : l.length ≤ maxLen) (h : i < l.length) : wrap64 ((i : Int) + 1) = ((i + 1 : Nat) : Int) := by
  simp only [maxLen] at hl
  rw [wrap_in _ (by omega) (by omega)]
  omega
theorem frustumref05_Same_l0 (a b : List Int) (ha : a.length ≤ maxLen) (hb : a.length = b.length) : ∀ (d k i : Nat), a.length - i = d → i ≤ a.length → d < k → frustumref05_Same.l0 k a b (i : Int) = some (decide (a.drop i = b.drop i)) := by
  intro d
  induction d with
  | zero =>
    intro k i hd hi hk
    obtain ⟨k, rfl⟩ : ∃ m, k = m + 1 := ⟨k - 1, by omega⟩
    obtain rfl : i = a.length := by omega
    simp only [frustumref05_Same.l0]
    rw [if_neg (by omega), List.drop_length, hb, List.drop_length]
    rfl
  | succ d ih =>
    intro k i hd hi hk
    obtain ⟨k, rfl⟩ : ∃ m, k = m + 1 := ⟨k - 1, by omega⟩
    simp only [frustumref05_Same.l0]
    rw [if_pos (by omega), if_pos (by omega), if_pos (by omega), wrap_succ a i ha (by omega), rd_nat a i (by omega), rd_nat b i (by omega), List.drop_eq_getElem_cons (show i < a.length by omega), List.drop_eq_getElem_cons (show i < b.length by omega)]
    by_cases e : a[i] = b[i]
    · rw [if_pos e, ih k (i + 1) (by omega) (by omega) (by omega)]
      simp only [List.cons.injEq, e, true_and]
    · rw [if_neg e]
      simp only [List.cons.injEq, e, false_and, decide_false]
theorem frustumref05_Same_eq (a b : List Int) (ha : a.length ≤ maxLen) (k : Nat) (hk : a.length < k) : frustumref05_Same.f k a b = some (decide (a = b)) := by
  unfold frustumref05_Same.f
  by_cases e : a.length = b.length
  · rw [if_pos (by omega)]
    have := frustumref05_Same_l0 a b ha e a.length k 0 (by omega) (by omega) hk
    simpa using this
  · rw [if_neg (by omega)]
    have : a ≠ b := fun h => e (by rw [h])
    simp [this]
theorem frustumlaw05_example_eq0 : frustumlaw05_example.f 20 = some true := by decide +kernel
theorem frustumlaw05_example_eq (k : Nat) (hk : 20 ≤ k) : frustumlaw05_example.f k = some true := by
  obtain ⟨d, rfl⟩ : ∃ d, k = 20 + d := ⟨k - 20, by omega⟩
  clear hk
  induction d with
  | zero => exact frustumlaw05_example_eq0
  | succ d ih => exact frustumlaw05_example.mono (20 + d) _ ih
theorem not64 (a : Int) (h0 : -9223372036854775808 ≤ a) (h1 : a ≤ 9223372036854775807) : Go.bits .xor .i64 (-1) a = -1 - a := by
  show IntKind.i64.wrap (((BitVec.ofInt 64 (-1) ^^^ BitVec.ofInt 64 a).toNat : Nat) : Int) = -1 - a
  have e : BitVec.ofInt 64 (-1) ^^^ BitVec.ofInt 64 a = ~~~ (BitVec.ofInt 64 a) := by
    rw [show BitVec.ofInt 64 (-1) = BitVec.allOnes 64 by decide, BitVec.allOnes_xor]
  rw [e, BitVec.toNat_not, BitVec.toNat_ofInt, Go.IntKind.wrap_i64]
  omega
theorem or_shl (u x : Int) (m : Nat) (hm : m ≤ 9) (hu : 0 ≤ u) (hu1 : u < 2 ^ (7 * m)) (hx : 0 ≤ x) (hx1 : x * 2 ^ (7 * m) < 2 ^ 64) : Go.bits .or .u64 u (x * 2 ^ (7 * m)) = u + x * 2 ^ (7 * m) := by
  obtain ⟨a, rfl⟩ := Int.eq_ofNat_of_zero_le hu
  obtain ⟨b, rfl⟩ := Int.eq_ofNat_of_zero_le hx
  have hx2 : b * 2 ^ (7 * m) < 2 ^ 64 := by exact_mod_cast hx1
  have hu2 : a < 2 ^ (7 * m) := by exact_mod_cast hu1
  have hp : (2 : Nat) ^ (7 * m) ≤ 2 ^ 64 := Nat.pow_le_pow_right (by decide) (by omega)
  have := (Go.bits_nat .u64 64 (by decide) (fun n h0 h1 => by rw [u64_wrap]; omega) a (b * 2 ^ (7 * m)) (by omega) hx2).2
  rw [Int.natCast_mul, Int.natCast_pow] at this
  rw [show ((2 : Nat) : Int) = 2 from rfl] at this
  refine this.trans ?_
  rw [Nat.or_comm, Nat.mul_comm, ← Nat.two_pow_add_eq_or_of_lt hu2 b]
  simp only [Int.natCast_add, Int.natCast_mul, Int.natCast_pow]
  rw [Int.mul_comm, Int.add_comm]
  rfl
/-- The int whose bytes begin at place p; m bytes with the number u lie before. -/
def decS : List Int → Int → Nat → Int → Int × Int × Int
  | [], _, _, _ => (0, 0, 4)
  | x :: r, p, m, u =>
    if m = 9 ∧ 1 < x then (0, 0, 3) else
    if 128 ≤ x then decS r (p + 1) (m + 1) (u + (x % 128) * 2 ^ (7 * m)) else
    if x = 0 ∧ 0 < m then (0, 0, 3) else
    if (u + (x % 128) * 2 ^ (7 * m)) % 2 = 1 then (-1 - (u + (x % 128) * 2 ^ (7 * m)) / 2, p + 1, 0) else ((u + (x % 128) * 2 ^ (7 * m)) / 2, p + 1, 0)
theorem dec_room {m : Nat} {u x : Int} (hm : m ≤ 9) (hu0 : 0 ≤ u) (hu : u < 2 ^ (7 * m)) (hx0 : 0 ≤ x) (hx : x ≤ 255) (h9 : ¬(m = 9 ∧ 1 < x)) :
    (x % 128) * 2 ^ (7 * m) < 2 ^ 64 ∧ 0 ≤ (x % 128) * 2 ^ (7 * m) ∧ u + (x % 128) * 2 ^ (7 * m) < 2 ^ 64 ∧ u + (x % 128) * 2 ^ (7 * m) < 2 ^ (7 * (m + 1)) := by
  by_cases h : m = 9
  · have hx1 : x ≤ 1 := by omega
    clear h9
    subst h
    simp only [Nat.reduceMul, Nat.reduceAdd, Int.reducePow] at *
    omega
  clear h9
  obtain rfl | rfl | rfl | rfl | rfl | rfl | rfl | rfl | rfl : m = 0 ∨ m = 1 ∨ m = 2 ∨ m = 3 ∨ m = 4 ∨ m = 5 ∨ m = 6 ∨ m = 7 ∨ m = 8 := by omega
  all_goals (simp only [Nat.reduceMul, Nat.reduceAdd, Int.reducePow] at *; omega)
theorem shl_dec {m : Nat} {x : Int} (hm : m ≤ 9) (hx0 : 0 ≤ x % 128) (hx : (x % 128) * 2 ^ (7 * m) < 2 ^ 64) : shl .u64 (x % 128) (7 * (m : Int)) = (x % 128) * 2 ^ (7 * m) := by
  unfold shl
  rw [show (7 * (m : Int)).toNat = 7 * m by omega, show IntKind.u64.bits = 64 from rfl, Nat.min_eq_left (by omega), u64_wrap]
  have : 0 ≤ (x % 128) * 2 ^ (7 * m) := Int.mul_nonneg hx0 (by exact_mod_cast Nat.zero_le _)
  exact Int.emod_eq_of_lt this (by simpa using hx)
theorem u8_and127 (x : Int) (h0 : 0 ≤ x) (h1 : x ≤ 255) : Go.bits .and .u8 x 127 = x % 128 := Go.bits_mask .u8 8 (by decide) Go.wraps_u8 7 (by decide) x h0 (by omega)
theorem u64_and1 (x : Int) (h0 : 0 ≤ x) (h1 : x < 2 ^ 64) : Go.bits .and .u64 x 1 = x % 2 := Go.bits_mask .u64 64 (by decide) (fun n h0 h1 => by rw [u64_wrap]; omega) 1 (by decide) x h0 h1
theorem byte_wf {l : List Int} (hw : ∀ x ∈ l, (Lit.int .u8 x).wf = true) {x : Int} (h : x ∈ l) : 0 ≤ x ∧ x ≤ 255 := by
  simpa [Lit.wf, IntKind.min, IntKind.max, IntKind.signed, IntKind.bits] using hw x h
theorem ri_from_eq (l : List Int) (a : Nat) (hl : l.length ≤ 140737488351232) (hw : ∀ x ∈ l, (Lit.int .u8 x).wf = true) : ∀ (d m : Nat) (u : Int), 10 - m = d → m ≤ 9 → 0 ≤ u → u < 2 ^ (7 * m) → a + m ≤ l.length →
    ri_from l a d m u = some (decS (l.drop (a + m)) ((a + m : Nat) : Int) m u) := by
  intro d
  induction d with
  | zero => intro m u hd hm; omega
  | succ d ih =>
    intro m u hd hm hu0 hu hlen
    have ep : wrap64 ((a : Int) + (m : Int)) = ((a + m : Nat) : Int) := by rw [wrap_in _ (by omega) (by omega)]; omega
    rw [ri_from, ep]
    by_cases he : a + m = l.length
    · rw [if_pos (by omega), he, List.drop_length, decS]
    · have hlt : a + m < l.length := by omega
      rw [if_neg (by omega), if_neg (by omega), rd_nat l _ hlt, List.drop_eq_getElem_cons hlt, decS]
      generalize hx : l[a + m] = x
      obtain ⟨hx0, hx1⟩ : 0 ≤ x ∧ x ≤ 255 := byte_wf hw (hx ▸ List.getElem_mem hlt)
      by_cases h9 : m = 9 ∧ 1 < x
      · rw [if_pos h9, if_pos h9]
      · obtain ⟨h1, h2, h3, h4⟩ := dec_room hm hu0 hu hx0 hx1 h9
        have e7 : wrap64 (7 * (m : Int)) = 7 * (m : Int) := wrap_in _ (by omega) (by omega)
        have e8 : IntKind.u64.wrap (x % 128) = x % 128 := by rw [u64_wrap]; omega
        rw [if_neg h9, if_neg h9, u8_and127 x hx0 hx1, e8, e7, shl_dec hm (by omega) h1, or_shl u (x % 128) m hm hu0 hu (by omega) h1]
        generalize hU : u + x % 128 * 2 ^ (7 * m) = U at *
        by_cases h8 : 128 ≤ x
        · rw [if_pos h8, if_pos h8]
          have hm8 : m ≠ 9 := fun h => h9 ⟨h, by omega⟩
          have := ih (m + 1) U (by omega) (by omega) (by omega) h4 (by omega)
          rw [this]
          rfl
        · rw [if_neg h8, if_neg h8]
          have hU1 : U < 18446744073709551616 := h3
          have hU0 : 0 ≤ U := by omega
          by_cases h0 : x = 0 ∧ 0 < m
          · rw [if_pos ⟨h0.1, by omega⟩, if_pos h0]
          · rw [if_neg (fun h => h0 ⟨h.1, by omega⟩), if_neg h0, u64_and1 U hU0 h3, wrap_in (U / 2) (by omega) (by omega), not64 _ (by omega) (by omega), wrap_in (a + (m + 1)) (by omega) (by omega), show ((a : Int) + (m + 1)) = ((a + m : Nat) : Int) + 1 by omega]
            by_cases hc : U % 2 = 1
            · rw [if_pos hc, if_pos hc]
            · rw [if_neg hc, if_neg hc]
/-- What ReadInt answers. -/
def readS (l : List Int) (a : Int) : Int × Int × Int := if a < 0 ∨ (l.length : Int) < a then (0, 0, 2) else decS (l.drop a.toNat) a 0 0
theorem codec_ReadInt_eq (l : List Int) (hl : l.length ≤ 140737488351232) (hw : ∀ x ∈ l, (Lit.int .u8 x).wf = true) (a : Int) (k : Nat) : codec_ReadInt.f k l a = some (readS l a) := by
  unfold codec_ReadInt.f readS
  by_cases h : a < 0 ∨ (l.length : Int) < a
  · rw [if_pos h, if_pos h]
  · rw [if_neg h, if_neg h]
    obtain ⟨n, rfl⟩ := Int.eq_ofNat_of_zero_le (show 0 ≤ a by omega)
    have := ri_from_eq l n hl hw 10 0 0 (by omega) (by omega) (by omega) (by simp) (by omega)
    simpa using this
theorem decS_next : ∀ (r : List Int) (p : Int) (m : Nat) (u : Int), (decS r p m u).2.2 = 0 → p < (decS r p m u).2.1 ∧ (decS r p m u).2.1 ≤ p + r.length := by
  intro r
  induction r with
  | nil => intro p m u h; simp [decS] at h
  | cons x r ih =>
    intro p m u h
    rw [decS] at h ⊢
    by_cases h9 : m = 9 ∧ 1 < x
    · rw [if_pos h9] at h
      simp at h
    · rw [if_neg h9] at h ⊢
      by_cases h8 : 128 ≤ x
      · rw [if_pos h8] at h ⊢
        have := ih _ _ _ h
        simp only [List.length_cons]
        omega
      · rw [if_neg h8] at h ⊢
        by_cases h0 : x = 0 ∧ 0 < m
        · rw [if_pos h0] at h
          simp at h
        · rw [if_neg h0]
          simp only [List.length_cons]
          split <;> (simp only []; omega)
theorem decS_wf : ∀ (r : List Int) (p : Int) (m : Nat) (u : Int), m ≤ 9 → (∀ x ∈ r, (Lit.int .u8 x).wf = true) → 0 ≤ u → u < 2 ^ (7 * m) → -9223372036854775808 ≤ (decS r p m u).1 ∧ (decS r p m u).1 ≤ 9223372036854775807 := by
  intro r
  induction r with
  | nil => intro p m u _ _ _ _; simp [decS]
  | cons x r ih =>
    intro p m u hm hw hu0 hu
    obtain ⟨hx0, hx1⟩ := byte_wf hw (List.mem_cons_self (a := x) (l := r))
    rw [decS]
    by_cases h9 : m = 9 ∧ 1 < x
    · rw [if_pos h9]
      decide
    · rw [if_neg h9]
      obtain ⟨h1, h2, h3, h4⟩ := dec_room hm hu0 hu hx0 hx1 h9
      generalize hU : u + x % 128 * 2 ^ (7 * m) = U at *
      by_cases h8 : 128 ≤ x
      · rw [if_pos h8]
        exact ih _ _ _ (by omega) (fun y hy => hw y (List.mem_cons_of_mem _ hy)) (by omega) h4
      · rw [if_neg h8]
        by_cases h0 : x = 0 ∧ 0 < m
        · rw [if_pos h0]
          decide
        · rw [if_neg h0]
          have hU0 : 0 ≤ U := by omega
          have hU1 : U < 18446744073709551616 := h3
          clear hu hu0 h1 h2 h3 h4 hU ih hw
          split
          · simp only []
            omega
          · simp only []
            omega
theorem readS_next (l : List Int) (a : Int) (h : (readS l a).2.2 = 0) : 0 ≤ a ∧ a < (readS l a).2.1 ∧ (readS l a).2.1 ≤ l.length := by
  unfold readS at *
  by_cases hc : a < 0 ∨ (l.length : Int) < a
  · rw [if_pos hc] at h
    simp at h
  · rw [if_neg hc] at h ⊢
    have := decS_next _ _ _ _ h
    simp only [List.length_drop] at this
    omega
theorem readS_wf (l : List Int) (hw : ∀ x ∈ l, (Lit.int .u8 x).wf = true) (a : Int) : -9223372036854775808 ≤ (readS l a).1 ∧ (readS l a).1 ≤ 9223372036854775807 := by
  unfold readS
  by_cases hc : a < 0 ∨ (l.length : Int) < a
  · rw [if_pos hc]
    decide
  · rw [if_neg hc]
    exact decS_wf _ _ _ _ (by omega) (fun y hy => hw y (List.mem_of_mem_drop hy)) (by omega) (by simp)
/-- What the reading of a length answers. -/
def lenS (l : List Int) (a lim : Int) : Int × Int × Int :=
  if lim < 0 then (0, 0, 2) else if (readS l a).2.2 = 0 then (if (readS l a).1 < 0 then (0, 0, 3) else if (readS l a).1 > lim then (0, 0, 5) else ((readS l a).1, (readS l a).2.1, 0)) else (0, 0, (readS l a).2.2)
theorem codec_length_eq (l : List Int) (hl : l.length ≤ 140737488351232) (hw : ∀ x ∈ l, (Lit.int .u8 x).wf = true) (a lim : Int) (k : Nat) : codec_length.f k l a lim = some (lenS l a lim) := by
  unfold codec_length.f lenS
  rw [codec_ReadInt_eq l hl hw a k, Option.bind_some]
  split
  · rfl
  · split
    · split
      · rfl
      · split <;> rfl
    · rfl
theorem lenS_ok (l : List Int) (hw : ∀ x ∈ l, (Lit.int .u8 x).wf = true) (a lim : Int) (h : (lenS l a lim).2.2 = 0) : readS l a = lenS l a lim ∧ 0 ≤ (lenS l a lim).1 ∧ (lenS l a lim).1 ≤ lim ∧ (lenS l a lim).1 ≤ 9223372036854775807 ∧ 0 ≤ a ∧ a < (lenS l a lim).2.1 ∧ (lenS l a lim).2.1 ≤ l.length := by
  have hwf := readS_wf l hw a
  unfold lenS at *
  by_cases h1 : lim < 0
  · rw [if_pos h1] at h
    simp at h
  · rw [if_neg h1] at h ⊢
    by_cases h2 : (readS l a).2.2 = 0
    · rw [if_pos h2] at h ⊢
      have h5 := readS_next l a h2
      by_cases h3 : (readS l a).1 < 0
      · rw [if_pos h3] at h
        simp at h
      · rw [if_neg h3] at h ⊢
        by_cases h4 : (readS l a).1 > lim
        · rw [if_pos h4] at h
          simp at h
        · rw [if_neg h4]
          refine ⟨?_, by omega, by omega, by omega, h5⟩
          rw [← h2]
    · rw [if_neg h2] at h
      exact absurd h h2
/-- What the reading of n ints answers. -/
def intsS (l : List Int) : Nat → Int → List Int → List Int × Int × Int
  | 0, a, acc => (acc, a, 0)
  | n + 1, a, acc => if (readS l a).2.2 = 0 then intsS l n (readS l a).2.1 (acc ++ [(readS l a).1]) else ([], 0, (readS l a).2.2)
def readIntsS (l : List Int) (a lim : Int) : List Int × Int × Int := if (lenS l a lim).2.2 = 0 then intsS l (lenS l a lim).1.toNat (lenS l a lim).2.1 [] else ([], 0, (lenS l a lim).2.2)
theorem codec_ReadInts_l0 (l : List Int) (hl : l.length ≤ 1073741824) (hw : ∀ x ∈ l, (Lit.int .u8 x).wf = true) : ∀ (d : Nat) (k : Nat) (a : Int) (acc : List Int) (n i : Int), (l.length - a).toNat = d → 0 ≤ a → a ≤ l.length → 0 ≤ i → i ≤ n → n ≤ 9223372036854775807 → acc.length + (l.length - a) ≤ 1073741824 → d + 2 ≤ k →
    codec_ReadInts.l0 k l a acc n i = some (intsS l (n - i).toNat a acc) := by
  intro d
  induction d using Nat.strongRecOn with
  | _ d ih =>
    intro k a acc n i hd ha0 ha hi0 hi hn hacc hk
    obtain ⟨k, rfl⟩ : ∃ j, k = j + 1 := ⟨k - 1, by omega⟩
    rw [codec_ReadInts.l0]
    by_cases hlt : i < n
    · obtain ⟨q, hq⟩ : ∃ q, (n - i).toNat = q + 1 := ⟨(n - i).toNat - 1, by omega⟩
      rw [if_pos hlt, codec_ReadInt_eq l (by omega) hw a k, Option.bind_some, hq, intsS]
      by_cases he : (readS l a).2.2 = 0
      · obtain ⟨_, h1, h2⟩ := readS_next l a he
        rw [if_pos he, if_pos he, if_pos (by omega), wrap_in (i + 1) (by omega) (by omega)]
        have := ih ((l.length - (readS l a).2.1).toNat) (by omega) k (readS l a).2.1 (acc ++ [(readS l a).1]) n (i + 1) rfl (by omega) h2 (by omega) (by omega) hn (by simp only [List.length_append, List.length_cons, List.length_nil]; omega) (by omega)
        rw [this, show (n - (i + 1)).toNat = q by omega]
      · rw [if_neg he, if_neg he]
    · rw [if_neg hlt, show (n - i).toNat = 0 by omega, intsS]
theorem codec_ReadInts_eq (l : List Int) (hl : l.length ≤ 1073741824) (hw : ∀ x ∈ l, (Lit.int .u8 x).wf = true) (a lim : Int) (k : Nat) (hk : l.length + 2 ≤ k) : codec_ReadInts.f k l a lim = some (readIntsS l a lim) := by
  unfold codec_ReadInts.f readIntsS
  rw [codec_length_eq l (by omega) hw, Option.bind_some]
  by_cases he : (lenS l a lim).2.2 = 0
  · rw [if_pos he, if_pos he]
    obtain ⟨_, h1, h2, h3, h4, h5, h6⟩ := lenS_ok l hw a lim he
    have := codec_ReadInts_l0 l hl hw _ k (lenS l a lim).2.1 [] (lenS l a lim).1 0 rfl (by omega) h6 (by omega) (by omega) h3 (by simp only [List.length_nil]; omega) (by omega)
    rw [this, Int.sub_zero]
  · rw [if_neg he, if_neg he]
theorem intsS_len (l : List Int) (hl : l.length ≤ 1073741824) : ∀ (n : Nat) (a : Int) (acc : List Int), 0 ≤ a → a ≤ l.length → acc.length + (l.length - a) ≤ 1073741824 → (intsS l n a acc).1.length ≤ 1073741824 := by
  intro n
  induction n with
  | zero => intro a acc h0 h1 h2; rw [intsS]; show acc.length ≤ _; omega
  | succ n ih =>
    intro a acc h0 h1 h2
    rw [intsS]
    by_cases he : (readS l a).2.2 = 0
    · obtain ⟨_, h3, h4⟩ := readS_next l a he
      rw [if_pos he]
      exact ih _ _ (by omega) h4 (by simp only [List.length_append, List.length_cons, List.length_nil]; omega)
    · rw [if_neg he]
      exact Nat.zero_le _
theorem readIntsS_len (l : List Int) (hl : l.length ≤ 1073741824) (hw : ∀ x ∈ l, (Lit.int .u8 x).wf = true) (a lim : Int) : (readIntsS l a lim).1.length ≤ 1073741824 := by
  unfold readIntsS
  by_cases he : (lenS l a lim).2.2 = 0
  · rw [if_pos he]
    obtain ⟨_, h1, h2, h3, h4, h5, h6⟩ := lenS_ok l hw a lim he
    exact intsS_len l hl _ _ _ (by omega) h6 (by simp only [List.length_nil]; omega)
  · rw [if_neg he]
    exact Nat.zero_le _
/-- What the reading of a string answers. -/
def readStrS (l : List Int) (a lim : Int) : ByteArray × Int × Int :=
  if (lenS l a lim).2.2 = 0 then (if (lenS l a lim).1 > (l.length : Int) - (lenS l a lim).2.1 then ((⟨#[]⟩ : ByteArray), 0, 4) else (strOfNums ((l.take ((lenS l a lim).2.1 + (lenS l a lim).1).toNat).drop (lenS l a lim).2.1.toNat), (lenS l a lim).2.1 + (lenS l a lim).1, 0)) else ((⟨#[]⟩ : ByteArray), 0, (lenS l a lim).2.2)
theorem codec_ReadString_eq (l : List Int) (hl : l.length ≤ 140737488351232) (hw : ∀ x ∈ l, (Lit.int .u8 x).wf = true) (a lim : Int) (k : Nat) : codec_ReadString.f k l a lim = some (readStrS l a lim) := by
  unfold codec_ReadString.f readStrS
  rw [codec_length_eq l hl hw, Option.bind_some]
  by_cases he : (lenS l a lim).2.2 = 0
  · rw [if_pos he, if_pos he]
    obtain ⟨_, h1, h2, h3, h4, h5, h6⟩ := lenS_ok l hw a lim he
    rw [wrap_in ((l.length : Int) - (lenS l a lim).2.1) (by omega) (by omega)]
    by_cases hc : (lenS l a lim).1 > (l.length : Int) - (lenS l a lim).2.1
    · rw [if_pos hc, if_pos hc]
    · rw [if_neg hc, if_neg hc, wrap_in ((lenS l a lim).2.1 + (lenS l a lim).1) (by omega) (by omega), if_pos (by omega), if_pos (by omega), if_pos (by omega)]
  · rw [if_neg he, if_neg he]
/-- The bytes of an unsigned number. -/
def encU : Nat → Int → List Int
  | 0, _ => []
  | d + 1, u => if 128 ≤ u then (u % 128 + 128) :: encU d (u / 128) else [u]
/-- The unsigned number of an int. -/
def zig (n : Int) : Int := if n < 0 then -2 * n - 1 else 2 * n
/-- The bytes of an int. -/
def encI (n : Int) : List Int := encU 10 (zig n)
theorem zig_range (n : Int) (h0 : -9223372036854775808 ≤ n) (h1 : n ≤ 9223372036854775807) : 0 ≤ zig n ∧ zig n < 18446744073709551616 := by
  unfold zig
  split <;> omega
theorem encU_len : ∀ (d : Nat) (u : Int), (encU d u).length ≤ d := by
  intro d
  induction d with
  | zero => intro u; simp [encU]
  | succ d ih =>
    intro u
    rw [encU]
    split
    · simp only [List.length_cons]
      have := ih (u / 128)
      omega
    · simp
theorem encU_pos (d : Nat) (u : Int) : 0 < (encU (d + 1) u).length := by
  rw [encU]
  split <;> simp
theorem encI_len (n : Int) : 0 < (encI n).length ∧ (encI n).length ≤ 10 := ⟨encU_pos 9 _, encU_len 10 _⟩
theorem or128 (u : Int) (h : 0 ≤ u) : Go.bits .or .u8 (u % 256) 128 = u % 128 + 128 := by
  have key : ∀ a : Fin 256, (a.val ||| 128) = a.val % 128 + 128 := by decide +kernel
  obtain ⟨b, hb⟩ := Int.eq_ofNat_of_zero_le (show 0 ≤ u % 256 by omega)
  have hb1 : b < 256 := by omega
  have := (Go.bits_nat .u8 8 (by decide) Go.wraps_u8 b 128 hb1 (by decide)).2
  have k2 := key ⟨b, hb1⟩
  rw [hb]
  refine this.trans ?_
  simp only at k2
  rw [k2]
  omega
theorem or1 (y : Int) (h0 : 0 ≤ y) (h1 : y * 2 < 18446744073709551616) : Go.bits .or .u64 (y * 2) 1 = y * 2 + 1 :=
  Go.bits_join .u64 64 (by decide) (fun n h0 h1 => by rw [u64_wrap]; omega) 1 (y * 2) 1 (by omega) (by omega) (by omega) (by omega) (by omega) (by omega)
theorem codec_AppendInt_l0 : ∀ (d k : Nat) (u : Int) (acc : List Int), 0 < d → d ≤ k → 0 ≤ u → u < 128 ^ d → acc.length + d ≤ 140737488355328 → codec_AppendInt.l0 k u acc = some (acc ++ encU d u) := by
  intro d
  induction d with
  | zero => intro k u acc h; omega
  | succ d ih =>
    intro k u acc _ hk hu0 hu hl
    obtain ⟨k, rfl⟩ : ∃ j, k = j + 1 := ⟨k - 1, by omega⟩
    rw [codec_AppendInt.l0, encU]
    by_cases h : 128 ≤ u
    · rw [if_pos h, if_pos h, if_pos (by omega), or128 u hu0]
      have hd : 0 < d := by
        by_cases hd : d = 0
        · subst hd; simp at hu; omega
        · omega
      have hu2 : u / 128 < 128 ^ d := by
        rw [Int.pow_succ] at hu
        omega
      rw [ih k (u / 128) (acc ++ [u % 128 + 128]) hd (by omega) (by omega) hu2 (by simp only [List.length_append, List.length_cons, List.length_nil]; omega), List.append_assoc, List.singleton_append]
    · rw [if_neg (by omega), if_neg h, if_pos (by omega), show u % 256 = u by omega]
theorem enc_start {l : List Int} {k : Nat} {u : Int} (hl : l.length ≤ 140737488355000) (hk : 11 ≤ k) (h0 : 0 ≤ u) (h1 : u < 18446744073709551616) : codec_AppendInt.j0 k l u = some (l ++ encU 10 u) := by
  obtain ⟨k, rfl⟩ : ∃ j, k = j + 1 := ⟨k - 1, by omega⟩
  rw [codec_AppendInt.j0, codec_tail.f, Option.bind_some, List.nil_append, if_pos (by simp only [List.length_nil]; omega), Option.bind_some]
  exact codec_AppendInt_l0 10 k u l (by decide) (by omega) h0 (Int.lt_of_lt_of_le h1 (by decide)) (by omega)
theorem zig_neg {n : Int} (h0 : -9223372036854775808 ≤ n) (hn : n < 0) : Go.bits .or .u64 (IntKind.u64.wrap ((IntKind.u64.wrap (Go.bits .xor .i64 (-1) n)) * 2)) 1 = zig n := by
  rw [not64 n h0 (by omega), u64_wrap (-1 - n), Int.emod_eq_of_lt (by omega) (by omega), u64_wrap, Int.emod_eq_of_lt (by omega) (by omega), or1 _ (by omega) (by omega)]
  unfold zig
  rw [if_pos hn]
  omega
theorem zig_pos {n : Int} (h1 : n ≤ 9223372036854775807) (hn : ¬ n < 0) : IntKind.u64.wrap ((IntKind.u64.wrap n) * 2) = zig n := by
  rw [u64_wrap n, Int.emod_eq_of_lt (by omega) (by omega), u64_wrap, Int.emod_eq_of_lt (by omega) (by omega)]
  unfold zig
  rw [if_neg hn]
  omega
theorem codec_AppendInt_eq (l : List Int) (hl : l.length ≤ 140737488355000) (n : Int) (h0 : -9223372036854775808 ≤ n) (h1 : n ≤ 9223372036854775807) (k : Nat) (hk : 11 ≤ k) : codec_AppendInt.f k l n = some (l ++ encI n) := by
  obtain ⟨z0, z1⟩ := zig_range n h0 h1
  unfold codec_AppendInt.f encI
  by_cases hn : n < 0
  · rw [if_pos hn, zig_neg h0 hn]
    exact enc_start hl hk z0 z1
  · rw [if_neg hn, zig_pos h1 hn]
    exact enc_start hl hk z0 z1
theorem int_wf {l : List Int} (hw : ∀ x ∈ l, (Lit.int .i64 x).wf = true) {x : Int} (h : x ∈ l) : -9223372036854775808 ≤ x ∧ x ≤ 9223372036854775807 := wf_bounds (hw x h)
theorem flat_len (l : List Int) : (l.flatMap encI).length ≤ 10 * l.length := by
  induction l with
  | nil => simp
  | cons x r ih =>
    simp only [List.flatMap_cons, List.length_append, List.length_cons]
    have := (encI_len x).2
    omega
theorem codec_AppendInts_l0 (v : List Int) (hv : v.length ≤ 1073741824) (hw : ∀ x ∈ v, (Lit.int .i64 x).wf = true) : ∀ (d k i : Nat) (acc : List Int), v.length - i = d → i ≤ v.length → d + 12 ≤ k → acc.length + 10 * d ≤ 140737488355000 →
    codec_AppendInts.l0 k acc v (v.length : Int) (i : Int) = some (acc ++ (v.drop i).flatMap encI) := by
  intro d
  induction d with
  | zero =>
    intro k i acc hd hi hk hl
    obtain ⟨k, rfl⟩ : ∃ m, k = m + 1 := ⟨k - 1, by omega⟩
    obtain rfl : i = v.length := by omega
    rw [codec_AppendInts.l0, if_neg (by omega), List.drop_length, List.flatMap_nil, List.append_nil]
  | succ d ih =>
    intro k i acc hd hi hk hl
    obtain ⟨k, rfl⟩ : ∃ m, k = m + 1 := ⟨k - 1, by omega⟩
    have hlt : i < v.length := by omega
    obtain ⟨h0, h1⟩ := int_wf hw (List.getElem_mem hlt)
    rw [codec_AppendInts.l0, if_pos (by omega), if_pos (by omega), if_pos (by omega), rd_nat v i hlt, codec_AppendInt_eq acc (by omega) _ h0 h1 k (by omega), Option.bind_some, wrap_succ v i (by simp only [maxLen]; omega) hlt]
    have := (encI_len v[i]).2
    rw [ih k (i + 1) (acc ++ encI v[i]) (by omega) (by omega) (by omega) (by simp only [List.length_append]; omega), List.drop_eq_getElem_cons hlt, List.flatMap_cons, List.append_assoc]
/-- The bytes of a list. -/
def encL (v : List Int) : List Int := encI v.length ++ v.flatMap encI
theorem codec_AppendInts_eq (l v : List Int) (hl : l.length ≤ 1073741824) (hv : v.length ≤ 1073741824) (hw : ∀ x ∈ v, (Lit.int .i64 x).wf = true) (k : Nat) (hk : v.length + 12 ≤ k) : codec_AppendInts.f k l v = some (l ++ encL v) := by
  unfold codec_AppendInts.f encL
  rw [codec_AppendInt_eq l (by omega) _ (by omega) (by omega) k (by omega), Option.bind_some]
  have h := (encI_len v.length).2
  have := codec_AppendInts_l0 v hv hw v.length k 0 (l ++ encI v.length) (by omega) (by omega) hk (by simp only [List.length_append]; omega)
  rw [List.drop_zero] at this
  rw [← List.append_assoc]
  exact this
theorem codec_AppendString_eq (l : List Int) (s : ByteArray) (hl : l.length ≤ 34359738368) (hs : s.size ≤ 1073741824) (k : Nat) (hk : 11 ≤ k) : codec_AppendString.f k l s = some (l ++ (encI s.size ++ bytesOf s)) := by
  unfold codec_AppendString.f
  have h := (encI_len s.size).2
  rw [codec_AppendInt_eq l (by omega) _ (by omega) (by omega) k hk, Option.bind_some, if_pos (by simp only [List.length_append]; omega), List.append_assoc]
/-- The int of an unsigned number. -/
def dez (v : Int) : Int := if v % 2 = 1 then -1 - v / 2 else v / 2
theorem dez_zig (n : Int) : dez (zig n) = n := by
  unfold dez zig
  by_cases h : n < 0
  · rw [if_pos h, if_pos (by omega)]
    omega
  · rw [if_neg h, if_neg (by omega)]
    omega
theorem zig_dez (v : Int) (h : 0 ≤ v) : zig (dez v) = v := by
  unfold dez zig
  by_cases h1 : v % 2 = 1
  · rw [if_pos h1, if_pos (by omega)]
    omega
  · rw [if_neg h1, if_neg (by omega)]
    omega
theorem pow_next (m : Nat) : (2 : Int) ^ (7 * (m + 1)) = 128 * 2 ^ (7 * m) := by
  rw [show 7 * (m + 1) = 7 * m + 7 by omega, Int.pow_add, Int.mul_comm]
  rfl
theorem pow_sum (u P : Int) : u % 128 * P + u / 128 * (128 * P) = u * P := by
  have h := Int.emod_add_mul_ediv u 128
  calc u % 128 * P + u / 128 * (128 * P) = (u % 128 + 128 * (u / 128)) * P := by rw [Int.add_mul, ← Int.mul_assoc, Int.mul_comm (u / 128) 128]
    _ = u * P := by rw [h]
theorem encU_small (d : Nat) (u : Int) (h : ¬128 ≤ u) : encU (d + 1) u = [u] := by rw [encU, if_neg h]
theorem encU_big (d : Nat) (u : Int) (h : 128 ≤ u) : encU (d + 1) u = (u % 128 + 128) :: encU d (u / 128) := by rw [encU, if_pos h]
theorem decS_uniq : ∀ (r : List Int) (p : Int) (m : Nat) (v : Int), m ≤ 9 → (∀ x ∈ r, (Lit.int .u8 x).wf = true) → 0 ≤ v → v < 2 ^ (7 * m) → (decS r p m v).2.2 = 0 →
    ∃ u, 0 ≤ u ∧ v + u * 2 ^ (7 * m) < 18446744073709551616 ∧ (decS r p m v).1 = dez (v + u * 2 ^ (7 * m)) ∧ r.take ((decS r p m v).2.1 - p).toNat = encU (10 - m) u ∧ (u ≠ 0 ∨ m = 0) := by
  intro r
  induction r with
  | nil => intro p m v _ _ _ _ h; simp [decS] at h
  | cons x r ih =>
    intro p m v hm hw hv0 hv h
    obtain ⟨hx0, hx1⟩ := byte_wf hw (List.mem_cons_self (a := x) (l := r))
    rw [decS] at h ⊢
    by_cases h9 : m = 9 ∧ 1 < x
    · rw [if_pos h9] at h
      simp at h
    · rw [if_neg h9] at h ⊢
      obtain ⟨r1, r2, r3, r4⟩ := dec_room hm hv0 hv hx0 hx1 h9
      obtain ⟨d, hd⟩ : ∃ d, 10 - m = d + 1 := ⟨9 - m, by omega⟩
      by_cases h8 : 128 ≤ x
      · rw [if_pos h8] at h ⊢
        have hm9 : m ≠ 9 := fun h1 => h9 ⟨h1, by omega⟩
        obtain ⟨u, hu0, hu1, hu2, hu3, hu4⟩ := ih (p + 1) (m + 1) (v + x % 128 * 2 ^ (7 * m)) (by omega) (fun y hy => hw y (List.mem_cons_of_mem _ hy)) (by omega) r4 h
        have hn := decS_next _ _ _ _ h
        have hu5 : u ≠ 0 := by rcases hu4 with h | h <;> omega
        have e1 : (x % 128 + 128 * u) % 128 = x % 128 := by omega
        have e2 : (x % 128 + 128 * u) / 128 = u := by omega
        have hs : v + x % 128 * 2 ^ (7 * m) + u * 2 ^ (7 * (m + 1)) = v + (x % 128 + 128 * u) * 2 ^ (7 * m) := by
          have := pow_sum (x % 128 + 128 * u) (2 ^ (7 * m))
          rw [e1, e2] at this
          rw [← this, pow_next, Int.add_assoc]
        rw [hs] at hu1 hu2
        refine ⟨x % 128 + 128 * u, by omega, hu1, hu2, ?_, Or.inl (by omega)⟩
        rw [hd, encU_big d _ (by omega), e1, e2]
        generalize decS r (p + 1) (m + 1) (v + x % 128 * 2 ^ (7 * m)) = D at *
        rw [show (D.2.1 - p).toNat = (D.2.1 - (p + 1)).toNat + 1 by omega, List.take_succ_cons, hu3, show 10 - (m + 1) = d by omega, show x % 128 + 128 = x by omega]
      · rw [if_neg h8] at h ⊢
        by_cases h0 : x = 0 ∧ 0 < m
        · rw [if_pos h0] at h
          simp at h
        · rw [if_neg h0]
          rw [show x % 128 = x by omega] at r3 ⊢
          refine ⟨x, hx0, r3, ?_, ?_, by omega⟩
          · unfold dez
            split <;> rfl
          · rw [hd, encU_small d x h8]
            have : (if (v + x * 2 ^ (7 * m)) % 2 = 1 then (-1 - (v + x * 2 ^ (7 * m)) / 2, p + 1, (0 : Int)) else ((v + x * 2 ^ (7 * m)) / 2, p + 1, 0)).2.1 = p + 1 := by split <;> rfl
            rw [this, show (p + 1 - p).toNat = 1 by omega]
            rfl
/-- The bytes from a place on and ahead of another. -/
def part (l : List Int) (a b : Int) : List Int := (l.take b.toNat).drop a.toNat
theorem part_app (l : List Int) (a b c : Int) (h0 : 0 ≤ a) (h1 : a ≤ b) (h2 : b ≤ c) : part l a c = part l a b ++ part l b c := by
  unfold part
  rw [List.drop_take, List.drop_take, List.drop_take, show c.toNat - a.toNat = (b.toNat - a.toNat) + (c.toNat - b.toNat) by omega, List.take_add, List.drop_drop, show a.toNat + (b.toNat - a.toNat) = b.toNat by omega]
theorem readS_uniq (l : List Int) (hw : ∀ x ∈ l, (Lit.int .u8 x).wf = true) (a : Int) (h : (readS l a).2.2 = 0) : part l a (readS l a).2.1 = encI (readS l a).1 := by
  obtain ⟨ha, hb, hc⟩ := readS_next l a h
  have e : readS l a = decS (l.drop a.toNat) a 0 0 := by unfold readS; rw [if_neg (by omega)]
  rw [e] at h hb hc ⊢
  obtain ⟨u, hu0, hu1, hu2, hu3, _⟩ := decS_uniq _ a 0 0 (by omega) (fun y hy => hw y (List.mem_of_mem_drop hy)) (by omega) (by simp) h
  unfold part encI
  rw [hu2, List.drop_take, show ((decS (l.drop a.toNat) a 0 0).2.1).toNat - a.toNat = ((decS (l.drop a.toNat) a 0 0).2.1 - a).toNat by omega, hu3]
  simp only [Nat.mul_zero, Int.pow_zero, Int.mul_one, Int.zero_add, Nat.sub_zero] at *
  rw [zig_dez u hu0]
theorem intsS_uniq (l : List Int) (hw : ∀ x ∈ l, (Lit.int .u8 x).wf = true) : ∀ (n : Nat) (a : Int) (acc : List Int), 0 ≤ a → a ≤ l.length → (intsS l n a acc).2.2 = 0 →
    ∃ v, v.length = n ∧ (intsS l n a acc).1 = acc ++ v ∧ a ≤ (intsS l n a acc).2.1 ∧ (intsS l n a acc).2.1 ≤ l.length ∧ part l a (intsS l n a acc).2.1 = v.flatMap encI ∧ ∀ x ∈ v, (Lit.int .i64 x).wf = true := by
  intro n
  induction n with
  | zero =>
    intro a acc h0 h1 _
    refine ⟨[], rfl, by rw [intsS, List.append_nil], by rw [intsS]; exact Int.le_refl _, by rw [intsS]; exact h1, ?_, fun x hx => by simp at hx⟩
    rw [intsS]
    unfold part
    rw [List.drop_take, Nat.sub_self]
    rfl
  | succ n ih =>
    intro a acc h0 h1 h
    rw [intsS] at h ⊢
    by_cases he : (readS l a).2.2 = 0
    · rw [if_pos he] at h ⊢
      obtain ⟨_, h2, h3⟩ := readS_next l a he
      obtain ⟨v, hv1, hv2, hv3, hv4, hv5, hv6⟩ := ih (readS l a).2.1 (acc ++ [(readS l a).1]) (by omega) h3 h
      have hwf := readS_wf l hw a
      refine ⟨(readS l a).1 :: v, by rw [List.length_cons, hv1], by rw [hv2, List.append_assoc, List.singleton_append], by omega, hv4, ?_, ?_⟩
      · rw [part_app l a (readS l a).2.1 _ h0 (by omega) hv3, readS_uniq l hw a he, hv5, List.flatMap_cons]
      · intro x hx
        rcases List.mem_cons.1 hx with rfl | hx
        · simp [Lit.wf, IntKind.min, IntKind.max, IntKind.signed, IntKind.bits]
          omega
        · exact hv6 x hx
    · rw [if_neg he] at h
      exact absurd h he
theorem readIntsS_uniq (l : List Int) (hw : ∀ x ∈ l, (Lit.int .u8 x).wf = true) (a lim : Int) (h : (readIntsS l a lim).2.2 = 0) :
    0 ≤ a ∧ a < (readIntsS l a lim).2.1 ∧ (readIntsS l a lim).2.1 ≤ l.length ∧ part l a (readIntsS l a lim).2.1 = encL (readIntsS l a lim).1 ∧ ∀ x ∈ (readIntsS l a lim).1, (Lit.int .i64 x).wf = true := by
  unfold readIntsS at *
  by_cases he : (lenS l a lim).2.2 = 0
  · rw [if_pos he] at h ⊢
    obtain ⟨e, h1, h2, h3, h4, h5, h6⟩ := lenS_ok l hw a lim he
    obtain ⟨v, hv1, hv2, hv3, hv4, hv5, hv6⟩ := intsS_uniq l hw _ (lenS l a lim).2.1 [] (by omega) h6 h
    refine ⟨h4, by omega, hv4, ?_, ?_⟩
    · have hr := readS_uniq l hw a (by rw [e]; exact he)
      rw [e] at hr
      rw [part_app l a (lenS l a lim).2.1 _ h4 (by omega) hv3, hr, hv5, hv2, List.nil_append]
      unfold encL
      rw [hv1, Int.toNat_of_nonneg h1]
    · rw [hv2, List.nil_append]
      exact hv6
  · rw [if_neg he] at h
    exact absurd h he
theorem bytes_strOf (xs : List Int) (hw : ∀ x ∈ xs, (Lit.int .u8 x).wf = true) : bytesOf (strOfNums xs) = xs := by
  unfold strOfNums bytesOf
  rw [List.map_map]
  conv => rhs; rw [← List.map_id xs]
  refine List.map_congr_left fun x hx => ?_
  obtain ⟨h0, h1⟩ := byte_wf hw hx
  simp
  omega
theorem readStrS_uniq (l : List Int) (hw : ∀ x ∈ l, (Lit.int .u8 x).wf = true) (a lim : Int) (h : (readStrS l a lim).2.2 = 0) :
    0 ≤ a ∧ a < (readStrS l a lim).2.1 ∧ (readStrS l a lim).2.1 ≤ l.length ∧ part l a (readStrS l a lim).2.1 = encI (readStrS l a lim).1.size ++ bytesOf (readStrS l a lim).1 ∧ (readStrS l a lim).1.size ≤ l.length := by
  unfold readStrS at *
  by_cases he : (lenS l a lim).2.2 = 0
  · rw [if_pos he] at h ⊢
    obtain ⟨e, h1, h2, h3, h4, h5, h6⟩ := lenS_ok l hw a lim he
    by_cases hc : (lenS l a lim).1 > (l.length : Int) - (lenS l a lim).2.1
    · rw [if_pos hc] at h
      simp at h
    · rw [if_neg hc] at h ⊢
      have hr := readS_uniq l hw a (by rw [e]; exact he)
      rw [e] at hr
      have hx : bytesOf (strOfNums (part l (lenS l a lim).2.1 ((lenS l a lim).2.1 + (lenS l a lim).1))) = part l (lenS l a lim).2.1 ((lenS l a lim).2.1 + (lenS l a lim).1) :=
        bytes_strOf _ (fun y hy => hw y (List.mem_of_mem_take (List.mem_of_mem_drop hy)))
      have hy := bytesOf_length (strOfNums (part l (lenS l a lim).2.1 ((lenS l a lim).2.1 + (lenS l a lim).1)))
      rw [hx] at hy
      have hz : (part l (lenS l a lim).2.1 ((lenS l a lim).2.1 + (lenS l a lim).1)).length = (lenS l a lim).1.toNat := by
        unfold part
        simp only [List.length_drop, List.length_take]
        omega
      have hq : ((lenS l a lim).1.toNat : Int) = (lenS l a lim).1 := Int.toNat_of_nonneg h1
      have e2 : ((l.take ((lenS l a lim).2.1 + (lenS l a lim).1).toNat).drop (lenS l a lim).2.1.toNat) = part l (lenS l a lim).2.1 ((lenS l a lim).2.1 + (lenS l a lim).1) := rfl
      rw [e2]
      simp only []
      refine ⟨h4, by omega, by omega, ?_, by omega⟩
      rw [part_app l a (lenS l a lim).2.1 _ h4 (by omega) (by omega), hr, hx, ← hy, hz, hq]
  · rw [if_neg he] at h
    exact absurd h he
theorem part_same (l : List Int) (hl : l.length ≤ 1048576) (a b : Int) (k : Nat) (hk : 1048577 ≤ k) : frustumref05_Same.f k (part l a b) ((l.take b.toNat).drop a.toNat) = some true := by
  have h : (part l a b).length ≤ 1048576 := by
    unfold part
    simp only [List.length_drop, List.length_take]
    omega
  rw [show (l.take b.toNat).drop a.toNat = part l a b from rfl, frustumref05_Same_eq _ _ (by simp only [maxLen]; omega) k (by omega), decide_eq_true rfl]
theorem unique_j2 (l : List Int) (hl : l.length ≤ 1048576) (hw : ∀ x ∈ l, (Lit.int .u8 x).wf = true) (a lim : Int) (k : Nat) (hk : 1073741924 ≤ k) : frustumlaw05_CodecUnique.j2 (k + 1) l a lim false = some true := by
  rw [frustumlaw05_CodecUnique.j2, if_neg (by decide), codec_ReadString_eq l (by omega) hw, Option.bind_some]
  by_cases he : (readStrS l a lim).2.2 = 0
  · obtain ⟨h0, h1, h2, h3, h4⟩ := readStrS_uniq l hw a lim he
    rw [if_pos he, if_neg (by omega), if_neg (by omega), codec_AppendString_eq [] _ (by simp) (by omega) k (by omega), Option.bind_some, List.nil_append, if_pos h0, if_pos (by omega), if_pos h2, ← h3, part_same l hl a _ k (by omega), Option.bind_some, if_pos rfl, frustumlaw05_example_eq k (by omega)]
    rfl
  · rw [if_neg he, frustumlaw05_example_eq k (by omega)]
    rfl
theorem unique_j1 (l : List Int) (hl : l.length ≤ 1048576) (hw : ∀ x ∈ l, (Lit.int .u8 x).wf = true) (a lim : Int) (k : Nat) (hk : 1073741924 ≤ k) : frustumlaw05_CodecUnique.j1 (k + 2) l a lim false = some true := by
  rw [frustumlaw05_CodecUnique.j1, if_neg (by decide), codec_ReadInts_eq l (by omega) hw _ _ _ (by omega), Option.bind_some]
  by_cases he : (readIntsS l a lim).2.2 = 0
  · obtain ⟨h0, h1, h2, h3, h4⟩ := readIntsS_uniq l hw a lim he
    have h5 := readIntsS_len l (by omega) hw a lim
    rw [if_pos he, if_neg (by omega), if_neg (by omega), codec_AppendInts_eq [] _ (by simp) h5 h4 (k + 1) (by omega), Option.bind_some, List.nil_append, if_pos h0, if_pos (by omega), if_pos h2, ← h3, part_same l hl a _ (k + 1) (by omega), Option.bind_some]
    exact unique_j2 l hl hw a lim k hk
  · rw [if_neg he]
    exact unique_j2 l hl hw a lim k hk
theorem CodecUnique : frustumlaw05_CodecUnique.Pure := by
  intro l a lim _ hl hw _ _
  refine ⟨1073741927, ?_⟩
  have key : frustumlaw05_CodecUnique.f 1073741927 l a lim = frustumlaw05_CodecUnique.j0 (1073741926 + 1) l a lim (decide (a < 0 ∨ (l.length : Int) < a)) := by
    unfold frustumlaw05_CodecUnique.f
    by_cases h1 : a < 0
    · rw [if_pos h1, decide_eq_true (.inl h1)]
    · rw [if_neg h1]
      congr 1
      by_cases h2 : (l.length : Int) < a <;> simp [h1, h2]
  rw [key, frustumlaw05_CodecUnique.j0]
  by_cases hc : a < 0 ∨ (l.length : Int) < a
  · rw [if_pos (decide_eq_true hc), frustumlaw05_example_eq _ (by omega)]
    rfl
  · rw [if_neg (by simpa using hc), codec_ReadInt_eq l (by omega) hw, Option.bind_some]
    by_cases he : (readS l a).2.2 = 0
    · obtain ⟨h0, h1, h2⟩ := readS_next l a he
      obtain ⟨h3, h4⟩ := readS_wf l hw a
      have h5 := readS_uniq l hw a he
      rw [if_pos he, if_neg (by omega), if_neg (by omega), codec_AppendInt_eq [] (by simp) _ h3 h4 _ (by omega), Option.bind_some, List.nil_append, if_pos h0, if_pos (by omega), if_pos h2, ← h5, part_same l hl a _ _ (by omega), Option.bind_some]
      exact unique_j1 l hl hw a lim 1073741924 (by omega)
    · rw [if_neg he]
      exact unique_j1 l hl hw a lim 1073741924 (by omega)

end Go.Proofs.Ytgfdfchckpknjaa.Pure
