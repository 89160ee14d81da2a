/- CodecReadsList: ReadInts and ReadString return what the reference returns. Condition: at most 1048576 bytes. -/
import Derived.Test.YtgfdfchckpknjaaPCodecReadsListx4
import Derived.Laws.BitsLemmas
namespace Go.Proofs.Ytgfdfchckpknjaa.Pure
set_option linter.unusedVariables false
set_option linter.unusedSimpArgs false
open Go.RowKit Go.Proofs.Ytgfdfchckpknjaa.PCodecReadsList Go.Proofs.YtgfdfchckpknjaaW.PrintWords Go.Proofs.YtgfdfchckpknjaaW.PrintLast Go.Proofs.YtgfdfchckpknjaaW.PrintMore
/-! numbers -/
theorem and_mask (j : Nat) (hj : j ≤ 63) (n : Int) : Go.bits .and .i64 n (2 ^ j - 1) = n % 2 ^ j := by
  have hp : (2 : Nat) ^ j ≤ 2 ^ 63 := Nat.pow_le_pow_right (by decide) hj
  have hpos : 0 < (2 : Nat) ^ j := Nat.two_pow_pos j
  have hm : (BitVec.ofInt 64 ((2 : Int) ^ j - 1)).toNat = 2 ^ j - 1 := by
    have hc : ((2 : Int) ^ j - 1) = ((2 ^ j - 1 : Nat) : Int) := by rw [Int.natCast_sub hpos]; simp
    rw [hc, BitVec.ofInt_natCast, BitVec.toNat_ofNat]
    exact Nat.mod_eq_of_lt (by omega)
  have key : (BitVec.ofInt 64 n &&& BitVec.ofInt 64 ((2 : Int) ^ j - 1)).toNat = (n % ((2 ^ 64 : Nat) : Int)).toNat % 2 ^ j := by
    rw [BitVec.toNat_and, BitVec.toNat_ofInt, hm, Nat.and_two_pow_sub_one_eq_mod]
  show IntKind.i64.wrap ((BitVec.ofInt 64 n &&& BitVec.ofInt 64 ((2 : Int) ^ j - 1)).toNat : Nat) = n % 2 ^ j
  rw [key, Go.IntKind.wrap_i64]
  have hlt := Nat.mod_lt (n % ((2 ^ 64 : Nat) : Int)).toNat hpos
  have h1 : (((n % ((2 ^ 64 : Nat) : Int)).toNat % 2 ^ j : Nat) : Int) = n % 2 ^ j := by
    rw [Int.natCast_emod, Int.toNat_of_nonneg (Int.emod_nonneg _ (by decide))]
    rw [Int.natCast_pow]
    refine Int.emod_emod_of_dvd n ?_
    have : (2 : Int) ^ 64 = 2 ^ j * 2 ^ (64 - j) := by rw [← Int.pow_add]; congr 1; omega
    exact ⟨2 ^ (64 - j), by exact_mod_cast this⟩
  rw [← h1]
  omega
theorem and255 (n : Int) : Go.bits .and .i64 n 255 = n % 256 := and_mask 8 (by decide) n
theorem bits_i64_nat (a b : Nat) (ha : a < 2 ^ 63) (hb : b < 2 ^ 63) : Go.bits .and .i64 a b = ((a &&& b : Nat) : Int) ∧ Go.bits .or .i64 a b = ((a ||| b : Nat) : Int) :=
  Go.bits_nat .i64 63 (by decide) (fun n h0 h1 => by rw [Go.IntKind.wrap_i64]; omega) a b ha hb
/-- only the lowest bits count where the mask is small. -/
theorem and_low (j : Nat) (hj : j ≤ 63) (n m : Int) (h0 : 0 ≤ m) (h1 : m < 2 ^ j) : Go.bits .and .i64 n m = Go.bits .and .i64 (n % 2 ^ j) m := by
  obtain ⟨b, rfl⟩ := Int.eq_ofNat_of_zero_le h0
  have hb : b < 2 ^ j := by exact_mod_cast h1
  have hp : (2 : Nat) ^ j ≤ 2 ^ 63 := Nat.pow_le_pow_right (by decide) hj
  have hpos : 0 < (2 : Nat) ^ j := Nat.two_pow_pos j
  have hmm : ∀ x : Nat, x &&& b = (x % 2 ^ j) &&& b := by
    intro x
    rw [← Nat.and_two_pow_sub_one_eq_mod, Nat.and_assoc]
    congr 1
    rw [Nat.and_comm, Nat.and_two_pow_sub_one_eq_mod, Nat.mod_eq_of_lt hb]
  show IntKind.i64.wrap ((BitVec.ofInt 64 n &&& BitVec.ofInt 64 (b : Int)).toNat : Nat) = IntKind.i64.wrap ((BitVec.ofInt 64 (n % 2 ^ j) &&& BitVec.ofInt 64 (b : Int)).toNat : Nat)
  rw [BitVec.toNat_and, BitVec.toNat_and, BitVec.ofInt_natCast, BitVec.toNat_ofNat, Nat.mod_eq_of_lt (show b < 2 ^ 64 by omega), BitVec.toNat_ofInt, BitVec.toNat_ofInt]
  rw [hmm, hmm ((n % 2 ^ j) % ((2 ^ 64 : Nat) : Int)).toNat]
  congr 3
  have e : ∀ z : Int, ((z % ((2 ^ 64 : Nat) : Int)).toNat % 2 ^ j : Nat) = (z % 2 ^ j).toNat := by
    intro z
    have h1 : (((z % ((2 ^ 64 : Nat) : Int)).toNat % 2 ^ j : Nat) : Int) = z % 2 ^ j := by
      rw [Int.natCast_emod, Int.toNat_of_nonneg (Int.emod_nonneg _ (by decide)), Int.natCast_pow]
      refine Int.emod_emod_of_dvd z ?_
      have : (2 : Int) ^ 64 = 2 ^ j * 2 ^ (64 - j) := by rw [← Int.pow_add]; congr 1; omega
      exact ⟨2 ^ (64 - j), by exact_mod_cast this⟩
    omega
  rw [e, e, Int.emod_emod_of_dvd n (Int.dvd_refl _)]
theorem wrap_in (x : Int) (h0 : -9223372036854775808 ≤ x) (h1 : x ≤ 9223372036854775807) : wrap64 x = x := by unfold wrap64; omega
theorem wf_bounds {a : Int} (h : (Lit.int .i64 a).wf = true) : -9223372036854775808 ≤ a ∧ a ≤ 9223372036854775807 := by
  simpa [Lit.wf, IntKind.min, IntKind.max, IntKind.signed, IntKind.bits] using h
theorem u64_wrap (x : Int) : IntKind.u64.wrap x = x % 18446744073709551616 := by simp [IntKind.wrap, IntKind.bits, IntKind.signed]
theorem rd_nat (l : List Int) (i : Nat) (h : i < l.length) : rd l (i : Int) = l[i] := by unfold rd; simp [h]
theorem wrap_succ (l : List Int) (i : Nat) (hl : l.length ≤ maxLen) (h : i < l.length) : wrap64 ((i : Int) + 1) = ((i + 1 : Nat) : Int) := by
  simp only [maxLen] at hl
  rw [wrap_in _ (by omega) (by omega)]
  omega
theorem frustumlaw05_example_eq0 : frustumlaw05_example.f 20 = some true := by decide +kernel
theorem frustumlaw05_example_eq (k : Nat) (hk : 20 ≤ k) : frustumlaw05_example.f k = some true := by
  obtain ⟨d, rfl⟩ : ∃ d, k = 20 + d := ⟨k - 20, by omega⟩
  clear hk
  induction d with
  | zero => exact frustumlaw05_example_eq0
  | succ d ih => exact frustumlaw05_example.mono (20 + d) _ ih
theorem not64 (a : Int) (h0 : -9223372036854775808 ≤ a) (h1 : a ≤ 9223372036854775807) : Go.bits .xor .i64 (-1) a = -1 - a := by
  show IntKind.i64.wrap (((BitVec.ofInt 64 (-1) ^^^ BitVec.ofInt 64 a).toNat : Nat) : Int) = -1 - a
  have e : BitVec.ofInt 64 (-1) ^^^ BitVec.ofInt 64 a = ~~~ (BitVec.ofInt 64 a) := by
    rw [show BitVec.ofInt 64 (-1) = BitVec.allOnes 64 by decide, BitVec.allOnes_xor]
  rw [e, BitVec.toNat_not, BitVec.toNat_ofInt, Go.IntKind.wrap_i64]
  omega
theorem or_shl (u x : Int) (m : Nat) (hm : m ≤ 9) (hu : 0 ≤ u) (hu1 : u < 2 ^ (7 * m)) (hx : 0 ≤ x) (hx1 : x * 2 ^ (7 * m) < 2 ^ 64) : Go.bits .or .u64 u (x * 2 ^ (7 * m)) = u + x * 2 ^ (7 * m) := by
  obtain ⟨a, rfl⟩ := Int.eq_ofNat_of_zero_le hu
  obtain ⟨b, rfl⟩ := Int.eq_ofNat_of_zero_le hx
  have hx2 : b * 2 ^ (7 * m) < 2 ^ 64 := by exact_mod_cast hx1
  have hu2 : a < 2 ^ (7 * m) := by exact_mod_cast hu1
  have hp : (2 : Nat) ^ (7 * m) ≤ 2 ^ 64 := Nat.pow_le_pow_right (by decide) (by omega)
  have := (Go.bits_nat .u64 64 (by decide) (fun n h0 h1 => by rw [u64_wrap]; omega) a (b * 2 ^ (7 * m)) (by omega) hx2).2
  rw [Int.natCast_mul, Int.natCast_pow] at this
  rw [show ((2 : Nat) : Int) = 2 from rfl] at this
  refine this.trans ?_
  rw [Nat.or_comm, Nat.mul_comm, ← Nat.two_pow_add_eq_or_of_lt hu2 b]
  simp only [Int.natCast_add, Int.natCast_mul, Int.natCast_pow]
  rw [Int.mul_comm, Int.add_comm]
  rfl
/-- The int whose bytes begin at place p; m bytes with the number u lie before. -/
def decS : List Int → Int → Nat → Int → Int × Int × Int
  | [], _, _, _ => (0, 0, 4)
  | x :: r, p, m, u =>
    if m = 9 ∧ 1 < x then (0, 0, 3) else
    if 128 ≤ x then decS r (p + 1) (m + 1) (u + (x % 128) * 2 ^ (7 * m)) else
    if x = 0 ∧ 0 < m then (0, 0, 3) else
    if (u + (x % 128) * 2 ^ (7 * m)) % 2 = 1 then (-1 - (u + (x % 128) * 2 ^ (7 * m)) / 2, p + 1, 0) else ((u + (x % 128) * 2 ^ (7 * m)) / 2, p + 1, 0)
theorem dec_room {m : Nat} {u x : Int} (hm : m ≤ 9) (hu0 : 0 ≤ u) (hu : u < 2 ^ (7 * m)) (hx0 : 0 ≤ x) (hx : x ≤ 255) (h9 : ¬(m = 9 ∧ 1 < x)) :
    (x % 128) * 2 ^ (7 * m) < 2 ^ 64 ∧ 0 ≤ (x % 128) * 2 ^ (7 * m) ∧ u + (x % 128) * 2 ^ (7 * m) < 2 ^ 64 ∧ u + (x % 128) * 2 ^ (7 * m) < 2 ^ (7 * (m + 1)) := by
  by_cases h : m = 9
  · have hx1 : x ≤ 1 := by omega
    clear h9
    subst h
    simp only [Nat.reduceMul, Nat.reduceAdd, Int.reducePow] at *
    omega
  clear h9
  obtain rfl | rfl | rfl | rfl | rfl | rfl | rfl | rfl | rfl : m = 0 ∨ m = 1 ∨ m = 2 ∨ m = 3 ∨ m = 4 ∨ m = 5 ∨ m = 6 ∨ m = 7 ∨ m = 8 := by omega
  all_goals (simp only [Nat.reduceMul, Nat.reduceAdd, Int.reducePow] at *; omega)
theorem shl_dec {m : Nat} {x : Int} (hm : m ≤ 9) (hx0 : 0 ≤ x % 128) (hx : (x % 128) * 2 ^ (7 * m) < 2 ^ 64) : shl .u64 (x % 128) (7 * (m : Int)) = (x % 128) * 2 ^ (7 * m) := by
  unfold shl
  rw [show (7 * (m : Int)).toNat = 7 * m by omega, show IntKind.u64.bits = 64 from rfl, Nat.min_eq_left (by omega), u64_wrap]
  have : 0 ≤ (x % 128) * 2 ^ (7 * m) := Int.mul_nonneg hx0 (by exact_mod_cast Nat.zero_le _)
  exact Int.emod_eq_of_lt this (by simpa using hx)
theorem u8_and127 (x : Int) (h0 : 0 ≤ x) (h1 : x ≤ 255) : Go.bits .and .u8 x 127 = x % 128 := Go.bits_mask .u8 8 (by decide) Go.wraps_u8 7 (by decide) x h0 (by omega)
theorem u64_and1 (x : Int) (h0 : 0 ≤ x) (h1 : x < 2 ^ 64) : Go.bits .and .u64 x 1 = x % 2 := Go.bits_mask .u64 64 (by decide) (fun n h0 h1 => by rw [u64_wrap]; omega) 1 (by decide) x h0 h1
theorem byte_wf {l : List Int} (hw : ∀ x ∈ l, (Lit.int .u8 x).wf = true) {x : Int} (h : x ∈ l) : 0 ≤ x ∧ x ≤ 255 := by
  simpa [Lit.wf, IntKind.min, IntKind.max, IntKind.signed, IntKind.bits] using hw x h
theorem ri_from_eq (l : List Int) (a : Nat) (hl : l.length ≤ 140737488351232) (hw : ∀ x ∈ l, (Lit.int .u8 x).wf = true) : ∀ (d m : Nat) (u : Int), 10 - m = d → m ≤ 9 → 0 ≤ u → u < 2 ^ (7 * m) → a + m ≤ l.length →
    ri_from l a d m u = some (decS (l.drop (a + m)) ((a + m : Nat) : Int) m u) := by
  intro d
  induction d with
  | zero => intro m u hd hm; omega
  | succ d ih =>
    intro m u hd hm hu0 hu hlen
    have ep : wrap64 ((a : Int) + (m : Int)) = ((a + m : Nat) : Int) := by rw [wrap_in _ (by omega) (by omega)]; omega
    rw [ri_from, ep]
    by_cases he : a + m = l.length
    · rw [if_pos (by omega), he, List.drop_length, decS]
    · have hlt : a + m < l.length := by omega
      rw [if_neg (by omega), if_neg (by omega), rd_nat l _ hlt, List.drop_eq_getElem_cons hlt, decS]
      generalize hx : l[a + m] = x
      obtain ⟨hx0, hx1⟩ : 0 ≤ x ∧ x ≤ 255 := byte_wf hw (hx ▸ List.getElem_mem hlt)
      by_cases h9 : m = 9 ∧ 1 < x
      · rw [if_pos h9, if_pos h9]
      · obtain ⟨h1, h2, h3, h4⟩ := dec_room hm hu0 hu hx0 hx1 h9
        have e7 : wrap64 (7 * (m : Int)) = 7 * (m : Int) := wrap_in _ (by omega) (by omega)
        have e8 : IntKind.u64.wrap (x % 128) = x % 128 := by rw [u64_wrap]; omega
        rw [if_neg h9, if_neg h9, u8_and127 x hx0 hx1, e8, e7, shl_dec hm (by omega) h1, or_shl u (x % 128) m hm hu0 hu (by omega) h1]
        generalize hU : u + x % 128 * 2 ^ (7 * m) = U at *
        by_cases h8 : 128 ≤ x
        · rw [if_pos h8, if_pos h8]
          have hm8 : m ≠ 9 := fun h => h9 ⟨h, by omega⟩
          have := ih (m + 1) U (by omega) (by omega) (by omega) h4 (by omega)
          rw [this]
          rfl
        · rw [if_neg h8, if_neg h8]
          have hU1 : U < 18446744073709551616 := h3
          have hU0 : 0 ≤ U := by omega
          by_cases h0 : x = 0 ∧ 0 < m
          · rw [if_pos ⟨h0.1, by omega⟩, if_pos h0]
          · rw [if_neg (fun h => h0 ⟨h.1, by omega⟩), if_neg h0, u64_and1 U hU0 h3, wrap_in (U / 2) (by omega) (by omega), not64 _ (by omega) (by omega), wrap_in (a + (m + 1)) (by omega) (by omega), show ((a : Int) + (m + 1)) = ((a + m : Nat) : Int) + 1 by omega]
            by_cases hc : U % 2 = 1
            · rw [if_pos hc, if_pos hc]
            · rw [if_neg hc, if_neg hc]
/-- What ReadInt answers. -/
def readS (l : List Int) (a : Int) : Int × Int × Int := if a < 0 ∨ (l.length : Int) < a then (0, 0, 2) else decS (l.drop a.toNat) a 0 0
theorem codec_ReadInt_eq (l : List Int) (hl : l.length ≤ 140737488351232) (hw : ∀ x ∈ l, (Lit.int .u8 x).wf = true) (a : Int) (k : Nat) : codec_ReadInt.f k l a = some (readS l a) := by
  unfold codec_ReadInt.f readS
  by_cases h : a < 0 ∨ (l.length : Int) < a
  · rw [if_pos h, if_pos h]
  · rw [if_neg h, if_neg h]
    obtain ⟨n, rfl⟩ := Int.eq_ofNat_of_zero_le (show 0 ≤ a by omega)
    have := ri_from_eq l n hl hw 10 0 0 (by omega) (by omega) (by omega) (by simp) (by omega)
    simpa using this
theorem dec_arith {U : Int} (h0 : 0 ≤ U) (h1 : U < 18446744073709551616) : IntKind.u64.wrap U = U ∧ Int.tmod U 2 = U % 2 ∧ Int.tdiv U 2 = U / 2 ∧ IntKind.u64.wrap (U / 2) = U / 2 ∧ wrap64 (U / 2) = U / 2 ∧ wrap64 (-(U / 2)) = -(U / 2) ∧ wrap64 (-(U / 2) - 1) = -1 - U / 2 := by
  have ha : 0 ≤ U / 2 := by omega
  have hb : U / 2 ≤ 9223372036854775807 := by omega
  refine ⟨?_, Int.tmod_eq_emod_of_nonneg h0, Int.tdiv_eq_ediv_of_nonneg h0, ?_, wrap_in _ (by omega) hb, wrap_in _ (by omega) (by omega), ?_⟩
  · rw [u64_wrap]
    exact Int.emod_eq_of_lt h0 h1
  · rw [u64_wrap]
    exact Int.emod_eq_of_lt ha (by omega)
  · generalize U / 2 = V at *
    rw [wrap_in _ (by omega) (by omega)]
    omega
theorem frustumref05_ReadInt_l0 (l : List Int) (a : Nat) (hl : l.length ≤ 140737488351232) (hw : ∀ x ∈ l, (Lit.int .u8 x).wf = true) : ∀ (d m k : Nat) (u : Int), 10 - m = d → m ≤ 9 → 0 ≤ u → u < 2 ^ (7 * m) → a + m ≤ l.length → 2 * d ≤ k →
    frustumref05_ReadInt.l0 k l (a : Int) u (m : Int) = some (decS (l.drop (a + m)) ((a + m : Nat) : Int) m u) := by
  intro d
  induction d with
  | zero => intro m k u hd hm; omega
  | succ d ih =>
    intro m k u hd hm hu0 hu hlen hk
    obtain ⟨k, rfl⟩ : ∃ j, k = j + 2 := ⟨k - 2, by omega⟩
    have ep : Aside0 (wrap64 ((a : Int) + (m : Int)) = ((a + m : Nat) : Int)) := ⟨by rw [wrap_in _ (by omega) (by omega)]; omega⟩
    have eB : Aside0 (wrap64 (((a + m : Nat) : Int) + 1) = ((a + m : Nat) : Int) + 1) := ⟨wrap_in _ (by omega) (by omega)⟩
    have eC : Aside0 (wrap64 ((m : Int) + 1) = ((m + 1 : Nat) : Int)) := ⟨by rw [wrap_in _ (by omega) (by omega)]; omega⟩
    rw [frustumref05_ReadInt.l0, ep.out, if_pos (by omega)]
    by_cases he : a + m = l.length
    · rw [if_pos (by omega), he, List.drop_length, decS]
    · have hlt : a + m < l.length := by omega
      rw [if_neg (by omega), if_pos (by omega), if_pos (by omega), rd_nat l _ hlt, List.drop_eq_getElem_cons hlt, decS]
      generalize hx : l[a + m] = x
      obtain ⟨hx0, hx1⟩ : 0 ≤ x ∧ x ≤ 255 := byte_wf hw (hx ▸ List.getElem_mem hlt)
      have ex : Aside0 (IntKind.u64.wrap x = x) := ⟨by rw [u64_wrap]; omega⟩
      rw [ex.out]
      clear ex
      by_cases h9 : m = 9 ∧ 1 < x
      · rw [if_pos h9, if_pos (by omega), if_pos (by omega), frustumref05_ReadInt.j2, if_pos rfl]
      · obtain ⟨h1, h2, h3, h4⟩ := dec_room hm hu0 hu hx0 hx1 h9
        have e7 : Aside0 (wrap64 (7 * (m : Int)) = 7 * (m : Int)) := ⟨wrap_in _ (by omega) (by omega)⟩
        have e8 : Aside0 (IntKind.u64.wrap (7 * (m : Int)) = 7 * (m : Int)) := ⟨by rw [u64_wrap]; omega⟩
        have e9 : Aside0 (Int.tmod x 128 = x % 128) := ⟨Int.tmod_eq_emod_of_nonneg hx0⟩
        have es := Aside0.mk (shl_dec (m := m) (x := x) hm (by omega) h1)
        rw [if_neg h9]
        have key : (if (m : Int) = 9 then if x > 1 then frustumref05_ReadInt.j2 (k + 1) l (a : Int) u m x true else if (m : Int) > 0 then frustumref05_ReadInt.j2 (k + 1) l (a : Int) u m x (x == 0) else frustumref05_ReadInt.j2 (k + 1) l (a : Int) u m x false else if (m : Int) > 0 then frustumref05_ReadInt.j2 (k + 1) l (a : Int) u m x (x == 0) else frustumref05_ReadInt.j2 (k + 1) l (a : Int) u m x false) = frustumref05_ReadInt.j2 (k + 1) l (a : Int) u m x (decide (x = 0 ∧ 0 < m)) := by
          by_cases c9 : m = 9
          · rw [if_pos (by omega), if_neg (by omega), if_pos (by omega)]
            congr 1
            rw [c9]
            by_cases c0 : x = 0 <;> simp [c0]
          · rw [if_neg (by omega)]
            by_cases c1 : 0 < m
            · rw [if_pos (by omega)]
              congr 1
              by_cases c0 : x = 0 <;> simp [c0, c1]
            · rw [if_neg (by omega)]
              congr 1
              simp [c1]
        refine key.trans ?_
        rw [frustumref05_ReadInt.j2, e7.out, e8.out, e9.out, es.out]
        have hU0 : 0 ≤ u + x % 128 * 2 ^ (7 * m) := by omega
        generalize hU : u + x % 128 * 2 ^ (7 * m) = U at *
        have hU1 : U < 18446744073709551616 := h3
        have eD := Aside0.mk (dec_arith hU0 hU1)
        clear h1 h2 h3 es hU hu0 hu
        rw [eD.out.1, eD.out.2.1, eD.out.2.2.1, eD.out.2.2.2.1, eD.out.2.2.2.2.1, eD.out.2.2.2.2.2.1, eD.out.2.2.2.2.2.2, ep.out, eB.out, eC.out]
        by_cases h0 : x = 0 ∧ 0 < m
        · rw [if_pos (decide_eq_true h0), if_neg (by omega), if_pos h0]
        · rw [if_neg (by simpa using h0), if_pos (by omega)]
          by_cases h8 : 128 ≤ x
          · rw [if_neg (by omega), if_pos h8]
            have hm8 : m ≠ 9 := fun h => h9 ⟨h, by omega⟩
            rw [ih (m + 1) k U (by omega) (by omega) (by omega) h4 (by omega) (by omega)]
            rfl
          · rw [if_pos (by omega), if_neg h8, if_neg h0]
            by_cases hc : U % 2 = 1
            · rw [if_pos hc, if_pos hc]
            · rw [if_neg hc, if_neg hc]
theorem frustumref05_ReadInt_eq (l : List Int) (hl : l.length ≤ 140737488351232) (hw : ∀ x ∈ l, (Lit.int .u8 x).wf = true) (a : Int) (k : Nat) (hk : 21 ≤ k) : frustumref05_ReadInt.f k l a = some (readS l a) := by
  obtain ⟨k, rfl⟩ : ∃ j, k = j + 1 := ⟨k - 1, by omega⟩
  unfold frustumref05_ReadInt.f readS
  by_cases h : a < 0
  · rw [if_pos h, if_pos (.inl h), frustumref05_ReadInt.j0, if_pos rfl]
  · rw [if_neg h, frustumref05_ReadInt.j0]
    by_cases h1 : (l.length : Int) < a
    · rw [if_pos (decide_eq_true h1), if_pos (.inr h1)]
    · rw [if_neg (by simpa using h1), if_neg (by omega)]
      obtain ⟨n, rfl⟩ := Int.eq_ofNat_of_zero_le (show 0 ≤ a by omega)
      have := frustumref05_ReadInt_l0 l n hl hw 10 0 k 0 (by omega) (by omega) (by omega) (by simp) (by omega) (by omega)
      simpa using this
theorem decS_next : ∀ (r : List Int) (p : Int) (m : Nat) (u : Int), (decS r p m u).2.2 = 0 → p < (decS r p m u).2.1 ∧ (decS r p m u).2.1 ≤ p + r.length := by
  intro r
  induction r with
  | nil => intro p m u h; simp [decS] at h
  | cons x r ih =>
    intro p m u h
    rw [decS] at h ⊢
    by_cases h9 : m = 9 ∧ 1 < x
    · rw [if_pos h9] at h
      simp at h
    · rw [if_neg h9] at h ⊢
      by_cases h8 : 128 ≤ x
      · rw [if_pos h8] at h ⊢
        have := ih _ _ _ h
        simp only [List.length_cons]
        omega
      · rw [if_neg h8] at h ⊢
        by_cases h0 : x = 0 ∧ 0 < m
        · rw [if_pos h0] at h
          simp at h
        · rw [if_neg h0]
          simp only [List.length_cons]
          split <;> (simp only []; omega)
theorem decS_wf : ∀ (r : List Int) (p : Int) (m : Nat) (u : Int), m ≤ 9 → (∀ x ∈ r, (Lit.int .u8 x).wf = true) → 0 ≤ u → u < 2 ^ (7 * m) → -9223372036854775808 ≤ (decS r p m u).1 ∧ (decS r p m u).1 ≤ 9223372036854775807 := by
  intro r
  induction r with
  | nil => intro p m u _ _ _ _; simp [decS]
  | cons x r ih =>
    intro p m u hm hw hu0 hu
    obtain ⟨hx0, hx1⟩ := byte_wf hw (List.mem_cons_self (a := x) (l := r))
    rw [decS]
    by_cases h9 : m = 9 ∧ 1 < x
    · rw [if_pos h9]
      decide
    · rw [if_neg h9]
      obtain ⟨h1, h2, h3, h4⟩ := dec_room hm hu0 hu hx0 hx1 h9
      generalize hU : u + x % 128 * 2 ^ (7 * m) = U at *
      by_cases h8 : 128 ≤ x
      · rw [if_pos h8]
        exact ih _ _ _ (by omega) (fun y hy => hw y (List.mem_cons_of_mem _ hy)) (by omega) h4
      · rw [if_neg h8]
        by_cases h0 : x = 0 ∧ 0 < m
        · rw [if_pos h0]
          decide
        · rw [if_neg h0]
          have hU0 : 0 ≤ U := by omega
          have hU1 : U < 18446744073709551616 := h3
          clear hu hu0 h1 h2 h3 h4 hU ih hw
          split
          · simp only []
            omega
          · simp only []
            omega
theorem readS_next (l : List Int) (a : Int) (h : (readS l a).2.2 = 0) : 0 ≤ a ∧ a < (readS l a).2.1 ∧ (readS l a).2.1 ≤ l.length := by
  unfold readS at *
  by_cases hc : a < 0 ∨ (l.length : Int) < a
  · rw [if_pos hc] at h
    simp at h
  · rw [if_neg hc] at h ⊢
    have := decS_next _ _ _ _ h
    simp only [List.length_drop] at this
    omega
theorem readS_wf (l : List Int) (hw : ∀ x ∈ l, (Lit.int .u8 x).wf = true) (a : Int) : -9223372036854775808 ≤ (readS l a).1 ∧ (readS l a).1 ≤ 9223372036854775807 := by
  unfold readS
  by_cases hc : a < 0 ∨ (l.length : Int) < a
  · rw [if_pos hc]
    decide
  · rw [if_neg hc]
    exact decS_wf _ _ _ _ (by omega) (fun y hy => hw y (List.mem_of_mem_drop hy)) (by omega) (by simp)
/-- What the reading of a length answers. -/
def lenS (l : List Int) (a lim : Int) : Int × Int × Int :=
  if lim < 0 then (0, 0, 2) else if (readS l a).2.2 = 0 then (if (readS l a).1 < 0 then (0, 0, 3) else if (readS l a).1 > lim then (0, 0, 5) else ((readS l a).1, (readS l a).2.1, 0)) else (0, 0, (readS l a).2.2)
theorem codec_length_eq (l : List Int) (hl : l.length ≤ 140737488351232) (hw : ∀ x ∈ l, (Lit.int .u8 x).wf = true) (a lim : Int) (k : Nat) : codec_length.f k l a lim = some (lenS l a lim) := by
  unfold codec_length.f lenS
  rw [codec_ReadInt_eq l hl hw a k, Option.bind_some]
  split
  · rfl
  · split
    · split
      · rfl
      · split <;> rfl
    · rfl
theorem lenS_ok (l : List Int) (hw : ∀ x ∈ l, (Lit.int .u8 x).wf = true) (a lim : Int) (h : (lenS l a lim).2.2 = 0) : readS l a = lenS l a lim ∧ 0 ≤ (lenS l a lim).1 ∧ (lenS l a lim).1 ≤ lim ∧ (lenS l a lim).1 ≤ 9223372036854775807 ∧ 0 ≤ a ∧ a < (lenS l a lim).2.1 ∧ (lenS l a lim).2.1 ≤ l.length := by
  have hwf := readS_wf l hw a
  unfold lenS at *
  by_cases h1 : lim < 0
  · rw [if_pos h1] at h
    simp at h
  · rw [if_neg h1] at h ⊢
    by_cases h2 : (readS l a).2.2 = 0
    · rw [if_pos h2] at h ⊢
      have h5 := readS_next l a h2
      by_cases h3 : (readS l a).1 < 0
      · rw [if_pos h3] at h
        simp at h
      · rw [if_neg h3] at h ⊢
        by_cases h4 : (readS l a).1 > lim
        · rw [if_pos h4] at h
          simp at h
        · rw [if_neg h4]
          refine ⟨?_, by omega, by omega, by omega, h5⟩
          rw [← h2]
    · rw [if_neg h2] at h
      exact absurd h h2
theorem frustumref05_length_eq (l : List Int) (hl : l.length ≤ 140737488351232) (hw : ∀ x ∈ l, (Lit.int .u8 x).wf = true) (a lim : Int) (k : Nat) (hk : 22 ≤ k) : frustumref05_length.f k l a lim = some (lenS l a lim) := by
  obtain ⟨k, rfl⟩ : ∃ j, k = j + 1 := ⟨k - 1, by omega⟩
  have key : frustumref05_length.f (k + 1) l a lim = frustumref05_length.j0 (k + 1) l a lim (decide (a < 0 ∨ (l.length : Int) < a ∨ lim < 0)) := by
    unfold frustumref05_length.f
    by_cases h1 : a < 0
    · rw [if_pos h1, decide_eq_true (.inl h1)]
    · rw [if_neg h1]
      by_cases h2 : (l.length : Int) < a
      · rw [if_pos h2, decide_eq_true (.inr (.inl h2))]
      · rw [if_neg h2]
        congr 1
        by_cases h3 : lim < 0 <;> simp [h1, h2, h3]
  rw [key, frustumref05_length.j0, frustumref05_ReadInt_eq l hl hw a k (by omega), Option.bind_some]
  unfold lenS
  by_cases h3 : lim < 0
  · rw [if_pos (decide_eq_true (.inr (.inr h3))), if_pos h3]
  · rw [if_neg h3]
    by_cases h4 : a < 0 ∨ (l.length : Int) < a
    · rw [if_pos (decide_eq_true (by omega))]
      have : readS l a = (0, 0, 2) := by unfold readS; rw [if_pos h4]
      rw [this]
      rfl
    · rw [if_neg (by simp; omega)]
      split
      · split
        · rfl
        · split <;> rfl
      · rfl
/-- What the reading of n ints answers. -/
def intsS (l : List Int) : Nat → Int → List Int → List Int × Int × Int
  | 0, a, acc => (acc, a, 0)
  | n + 1, a, acc => if (readS l a).2.2 = 0 then intsS l n (readS l a).2.1 (acc ++ [(readS l a).1]) else ([], 0, (readS l a).2.2)
def readIntsS (l : List Int) (a lim : Int) : List Int × Int × Int := if (lenS l a lim).2.2 = 0 then intsS l (lenS l a lim).1.toNat (lenS l a lim).2.1 [] else ([], 0, (lenS l a lim).2.2)
theorem codec_ReadInts_l0 (l : List Int) (hl : l.length ≤ 1073741824) (hw : ∀ x ∈ l, (Lit.int .u8 x).wf = true) : ∀ (d : Nat) (k : Nat) (a : Int) (acc : List Int) (n i : Int), (l.length - a).toNat = d → 0 ≤ a → a ≤ l.length → 0 ≤ i → i ≤ n → n ≤ 9223372036854775807 → acc.length + (l.length - a) ≤ 1073741824 → d + 2 ≤ k →
    codec_ReadInts.l0 k l a acc n i = some (intsS l (n - i).toNat a acc) := by
  intro d
  induction d using Nat.strongRecOn with
  | _ d ih =>
    intro k a acc n i hd ha0 ha hi0 hi hn hacc hk
    obtain ⟨k, rfl⟩ : ∃ j, k = j + 1 := ⟨k - 1, by omega⟩
    rw [codec_ReadInts.l0]
    by_cases hlt : i < n
    · obtain ⟨q, hq⟩ : ∃ q, (n - i).toNat = q + 1 := ⟨(n - i).toNat - 1, by omega⟩
      rw [if_pos hlt, codec_ReadInt_eq l (by omega) hw a k, Option.bind_some, hq, intsS]
      by_cases he : (readS l a).2.2 = 0
      · obtain ⟨_, h1, h2⟩ := readS_next l a he
        rw [if_pos he, if_pos he, if_pos (by omega), wrap_in (i + 1) (by omega) (by omega)]
        have := ih ((l.length - (readS l a).2.1).toNat) (by omega) k (readS l a).2.1 (acc ++ [(readS l a).1]) n (i + 1) rfl (by omega) h2 (by omega) (by omega) hn (by simp only [List.length_append, List.length_cons, List.length_nil]; omega) (by omega)
        rw [this, show (n - (i + 1)).toNat = q by omega]
      · rw [if_neg he, if_neg he]
    · rw [if_neg hlt, show (n - i).toNat = 0 by omega, intsS]
theorem codec_ReadInts_eq (l : List Int) (hl : l.length ≤ 1073741824) (hw : ∀ x ∈ l, (Lit.int .u8 x).wf = true) (a lim : Int) (k : Nat) (hk : l.length + 2 ≤ k) : codec_ReadInts.f k l a lim = some (readIntsS l a lim) := by
  unfold codec_ReadInts.f readIntsS
  rw [codec_length_eq l (by omega) hw, Option.bind_some]
  by_cases he : (lenS l a lim).2.2 = 0
  · rw [if_pos he, if_pos he]
    obtain ⟨_, h1, h2, h3, h4, h5, h6⟩ := lenS_ok l hw a lim he
    have := codec_ReadInts_l0 l hl hw _ k (lenS l a lim).2.1 [] (lenS l a lim).1 0 rfl (by omega) h6 (by omega) (by omega) h3 (by simp only [List.length_nil]; omega) (by omega)
    rw [this, Int.sub_zero]
  · rw [if_neg he, if_neg he]
theorem intsS_len (l : List Int) (hl : l.length ≤ 1073741824) : ∀ (n : Nat) (a : Int) (acc : List Int), 0 ≤ a → a ≤ l.length → acc.length + (l.length - a) ≤ 1073741824 → (intsS l n a acc).1.length ≤ 1073741824 := by
  intro n
  induction n with
  | zero => intro a acc h0 h1 h2; rw [intsS]; show acc.length ≤ _; omega
  | succ n ih =>
    intro a acc h0 h1 h2
    rw [intsS]
    by_cases he : (readS l a).2.2 = 0
    · obtain ⟨_, h3, h4⟩ := readS_next l a he
      rw [if_pos he]
      exact ih _ _ (by omega) h4 (by simp only [List.length_append, List.length_cons, List.length_nil]; omega)
    · rw [if_neg he]
      exact Nat.zero_le _
theorem readIntsS_len (l : List Int) (hl : l.length ≤ 1073741824) (hw : ∀ x ∈ l, (Lit.int .u8 x).wf = true) (a lim : Int) : (readIntsS l a lim).1.length ≤ 1073741824 := by
  unfold readIntsS
  by_cases he : (lenS l a lim).2.2 = 0
  · rw [if_pos he]
    obtain ⟨_, h1, h2, h3, h4, h5, h6⟩ := lenS_ok l hw a lim he
    exact intsS_len l hl _ _ _ (by omega) h6 (by simp only [List.length_nil]; omega)
  · rw [if_neg he]
    exact Nat.zero_le _
theorem frustumref05_ReadInts_l0 (l : List Int) (hl : l.length ≤ 1073741824) (hw : ∀ x ∈ l, (Lit.int .u8 x).wf = true) : ∀ (d : Nat) (k : Nat) (a : Int) (acc : List Int) (n i : Int), (l.length - a).toNat = d → 0 ≤ a → a ≤ l.length → 0 ≤ i → i ≤ n → n ≤ 9223372036854775807 → acc.length + (l.length - a) ≤ 1073741824 → d + 30 ≤ k →
    frustumref05_ReadInts.l0 k l n a acc i = some (intsS l (n - i).toNat a acc) := by
  intro d
  induction d using Nat.strongRecOn with
  | _ d ih =>
    intro k a acc n i hd ha0 ha hi0 hi hn hacc hk
    obtain ⟨k, rfl⟩ : ∃ j, k = j + 1 := ⟨k - 1, by omega⟩
    rw [frustumref05_ReadInts.l0]
    by_cases hlt : i < n
    · obtain ⟨q, hq⟩ : ∃ q, (n - i).toNat = q + 1 := ⟨(n - i).toNat - 1, by omega⟩
      rw [if_pos hlt, frustumref05_ReadInt_eq l (by omega) hw a k (by omega), Option.bind_some, hq, intsS]
      by_cases he : (readS l a).2.2 = 0
      · obtain ⟨_, h1, h2⟩ := readS_next l a he
        rw [if_pos he, if_pos he, if_pos (by omega), wrap_in (i + 1) (by omega) (by omega)]
        have := ih ((l.length - (readS l a).2.1).toNat) (by omega) k (readS l a).2.1 (acc ++ [(readS l a).1]) n (i + 1) rfl (by omega) h2 (by omega) (by omega) hn (by simp only [List.length_append, List.length_cons, List.length_nil]; omega) (by omega)
        rw [this, show (n - (i + 1)).toNat = q by omega]
      · rw [if_neg he, if_neg he]
    · rw [if_neg hlt, show (n - i).toNat = 0 by omega, intsS]
theorem frustumref05_ReadInts_eq (l : List Int) (hl : l.length ≤ 1073741824) (hw : ∀ x ∈ l, (Lit.int .u8 x).wf = true) (a lim : Int) (k : Nat) (hk : l.length + 30 ≤ k) : frustumref05_ReadInts.f k l a lim = some (readIntsS l a lim) := by
  unfold frustumref05_ReadInts.f readIntsS
  rw [frustumref05_length_eq l (by omega) hw a lim k (by omega), Option.bind_some]
  by_cases he : (lenS l a lim).2.2 = 0
  · rw [if_pos he, if_pos he]
    obtain ⟨_, h1, h2, h3, h4, h5, h6⟩ := lenS_ok l hw a lim he
    have := frustumref05_ReadInts_l0 l hl hw _ k (lenS l a lim).2.1 [] (lenS l a lim).1 0 rfl (by omega) h6 (by omega) (by omega) h3 (by simp only [List.length_nil]; omega) (by omega)
    rw [this, Int.sub_zero]
  · rw [if_neg he, if_neg he]
theorem frustumref05_SameInts_l0 (a b : List Int) (ha : a.length ≤ maxLen) (hb : a.length = b.length) : ∀ (d k i : Nat), a.length - i = d → i ≤ a.length → d < k → frustumref05_SameInts.l0 k a b (i : Int) = some (decide (a.drop i = b.drop i)) := by
  intro d
  induction d with
  | zero =>
    intro k i hd hi hk
    obtain ⟨k, rfl⟩ : ∃ m, k = m + 1 := ⟨k - 1, by omega⟩
    obtain rfl : i = a.length := by omega
    simp only [frustumref05_SameInts.l0]
    rw [if_neg (by omega), List.drop_length, hb, List.drop_length]
    rfl
  | succ d ih =>
    intro k i hd hi hk
    obtain ⟨k, rfl⟩ : ∃ m, k = m + 1 := ⟨k - 1, by omega⟩
    simp only [frustumref05_SameInts.l0]
    rw [if_pos (by omega), if_pos (by omega), if_pos (by omega), wrap_succ a i ha (by omega), rd_nat a i (by omega), rd_nat b i (by omega), List.drop_eq_getElem_cons (show i < a.length by omega), List.drop_eq_getElem_cons (show i < b.length by omega)]
    by_cases e : a[i] = b[i]
    · rw [if_pos e, ih k (i + 1) (by omega) (by omega) (by omega)]
      simp only [List.cons.injEq, e, true_and]
    · rw [if_neg e]
      simp only [List.cons.injEq, e, false_and, decide_false]
theorem frustumref05_SameInts_eq (a b : List Int) (ha : a.length ≤ maxLen) (k : Nat) (hk : a.length < k) : frustumref05_SameInts.f k a b = some (decide (a = b)) := by
  unfold frustumref05_SameInts.f
  by_cases e : a.length = b.length
  · rw [if_pos (by omega)]
    have := frustumref05_SameInts_l0 a b ha e a.length k 0 (by omega) (by omega) hk
    simpa using this
  · rw [if_neg (by omega)]
    have : a ≠ b := fun h => e (by rw [h])
    simp [this]
/-- What the reading of a string answers. -/
def readStrS (l : List Int) (a lim : Int) : ByteArray × Int × Int :=
  if (lenS l a lim).2.2 = 0 then (if (lenS l a lim).1 > (l.length : Int) - (lenS l a lim).2.1 then ((⟨#[]⟩ : ByteArray), 0, 4) else (strOfNums ((l.take ((lenS l a lim).2.1 + (lenS l a lim).1).toNat).drop (lenS l a lim).2.1.toNat), (lenS l a lim).2.1 + (lenS l a lim).1, 0)) else ((⟨#[]⟩ : ByteArray), 0, (lenS l a lim).2.2)
theorem codec_ReadString_eq (l : List Int) (hl : l.length ≤ 140737488351232) (hw : ∀ x ∈ l, (Lit.int .u8 x).wf = true) (a lim : Int) (k : Nat) : codec_ReadString.f k l a lim = some (readStrS l a lim) := by
  unfold codec_ReadString.f readStrS
  rw [codec_length_eq l hl hw, Option.bind_some]
  by_cases he : (lenS l a lim).2.2 = 0
  · rw [if_pos he, if_pos he]
    obtain ⟨_, h1, h2, h3, h4, h5, h6⟩ := lenS_ok l hw a lim he
    rw [wrap_in ((l.length : Int) - (lenS l a lim).2.1) (by omega) (by omega)]
    by_cases hc : (lenS l a lim).1 > (l.length : Int) - (lenS l a lim).2.1
    · rw [if_pos hc, if_pos hc]
    · rw [if_neg hc, if_neg hc, wrap_in ((lenS l a lim).2.1 + (lenS l a lim).1) (by omega) (by omega), if_pos (by omega), if_pos (by omega), if_pos (by omega)]
  · rw [if_neg he, if_neg he]
theorem frustumref05_ReadString_eq (l : List Int) (hl : l.length ≤ 140737488351232) (hw : ∀ x ∈ l, (Lit.int .u8 x).wf = true) (a lim : Int) (k : Nat) (hk : 22 ≤ k) : frustumref05_ReadString.f k l a lim = some (readStrS l a lim) := by
  unfold frustumref05_ReadString.f readStrS
  rw [frustumref05_length_eq l hl hw a lim k hk, Option.bind_some]
  by_cases he : (lenS l a lim).2.2 = 0
  · rw [if_pos he, if_pos he]
    obtain ⟨_, h1, h2, h3, h4, h5, h6⟩ := lenS_ok l hw a lim he
    rw [wrap_in ((l.length : Int) - (lenS l a lim).2.1) (by omega) (by omega)]
    by_cases hc : (lenS l a lim).1 > (l.length : Int) - (lenS l a lim).2.1
    · rw [if_pos hc, if_pos hc]
    · rw [if_neg hc, if_neg hc, wrap_in ((lenS l a lim).2.1 + (lenS l a lim).1) (by omega) (by omega), if_pos (by omega), if_pos (by omega), if_pos (by omega)]
  · rw [if_neg he, if_neg he]
theorem CodecReadsList : frustumlaw05_CodecReadsList.Pure := by
  intro l a lim hl hl1 hw _ _
  have hlen : (readIntsS l a lim).1.length ≤ 1073741824 := readIntsS_len l (by omega) hw a lim
  refine ⟨1073741824 + 100, ?_⟩
  unfold frustumlaw05_CodecReadsList.f
  rw [codec_ReadInts_eq l (by omega) hw a lim _ (by omega), frustumref05_ReadInts_eq l (by omega) hw a lim _ (by omega)]
  simp only [Option.bind_some]
  rw [frustumref05_SameInts_eq _ _ (by simp only [maxLen]; omega) _ (by omega), Option.bind_some, decide_eq_true rfl, if_pos rfl, if_pos trivial, bne_self_eq_false, frustumlaw05_CodecReadsList.j0, if_neg (by decide), codec_ReadString_eq l (by omega) hw, frustumref05_ReadString_eq l (by omega) hw a lim _ (by omega)]
  simp only [Option.bind_some]
  rw [if_pos trivial, if_pos trivial, if_pos trivial, frustumlaw05_example_eq _ (by omega)]
  rfl

end Go.Proofs.Ytgfdfchckpknjaa.Pure
