/- CodecAppends: the Append functions return what the reference returns. Condition: at most 1048576 bytes, ints and letters each. -/
import Derived.Test.YtgfdfchckpknjaaPCodecAppendsx3
import Derived.Laws.BitsLemmas
namespace Go.Proofs.Ytgfdfchckpknjaa.Pure
set_option linter.unusedVariables false
set_option linter.unusedSimpArgs false
open Go.RowKit Go.Proofs.Ytgfdfchckpknjaa.PCodecAppends Go.Proofs.YtgfdfchckpknjaaW.PrintWords Go.Proofs.YtgfdfchckpknjaaW.PrintLast Go.Proofs.YtgfdfchckpknjaaW.PrintMore
/-! numbers -/
theorem and_mask (j : Nat) (hj : j ≤ 63) (n : Int) : Go.bits .and .i64 n (2 ^ j - 1) = n % 2 ^ j := by
  have hp : (2 : Nat) ^ j ≤ 2 ^ 63 := Nat.pow_le_pow_right (by decide) hj
  have hpos : 0 < (2 : Nat) ^ j := Nat.two_pow_pos j
  have hm : (BitVec.ofInt 64 ((2 : Int) ^ j - 1)).toNat = 2 ^ j - 1 := by
    have hc : ((2 : Int) ^ j - 1) = ((2 ^ j - 1 : Nat) : Int) := by rw [Int.natCast_sub hpos]; simp
    rw [hc, BitVec.ofInt_natCast, BitVec.toNat_ofNat]
    exact Nat.mod_eq_of_lt (by omega)
  have key : (BitVec.ofInt 64 n &&& BitVec.ofInt 64 ((2 : Int) ^ j - 1)).toNat = (n % ((2 ^ 64 : Nat) : Int)).toNat % 2 ^ j := by
    rw [BitVec.toNat_and, BitVec.toNat_ofInt, hm, Nat.and_two_pow_sub_one_eq_mod]
  show IntKind.i64.wrap ((BitVec.ofInt 64 n &&& BitVec.ofInt 64 ((2 : Int) ^ j - 1)).toNat : Nat) = n % 2 ^ j
  rw [key, Go.IntKind.wrap_i64]
  have hlt := Nat.mod_lt (n % ((2 ^ 64 : Nat) : Int)).toNat hpos
  have h1 : (((n % ((2 ^ 64 : Nat) : Int)).toNat % 2 ^ j : Nat) : Int) = n % 2 ^ j := by
    rw [Int.natCast_emod, Int.toNat_of_nonneg (Int.emod_nonneg _ (by decide))]
    rw [Int.natCast_pow]
    refine Int.emod_emod_of_dvd n ?_
    have : (2 : Int) ^ 64 = 2 ^ j * 2 ^ (64 - j) := by rw [← Int.pow_add]; congr 1; omega
    exact ⟨2 ^ (64 - j), by exact_mod_cast this⟩
  rw [← h1]
  omega
theorem and255 (n : Int) : Go.bits .and .i64 n 255 = n % 256 := and_mask 8 (by decide) n
theorem bits_i64_nat (a b : Nat) (ha : a < 2 ^ 63) (hb : b < 2 ^ 63) : Go.bits .and .i64 a b = ((a &&& b : Nat) : Int) ∧ Go.bits .or .i64 a b = ((a ||| b : Nat) : Int) :=
  Go.bits_nat .i64 63 (by decide) (fun n h0 h1 => by rw [Go.IntKind.wrap_i64]; omega) a b ha hb
/-- only the lowest bits count where the mask is small. -/
theorem and_low (j : Nat) (hj : j ≤ 63) (n m : Int) (h0 : 0 ≤ m) (h1 : m < 2 ^ j) : Go.bits .and .i64 n m = Go.bits .and .i64 (n % 2 ^ j) m := by
  obtain ⟨b, rfl⟩ := Int.eq_ofNat_of_zero_le h0
  have hb : b < 2 ^ j := by exact_mod_cast h1
  have hp : (2 : Nat) ^ j ≤ 2 ^ 63 := Nat.pow_le_pow_right (by decide) hj
  have hpos : 0 < (2 : Nat) ^ j := Nat.two_pow_pos j
  have hmm : ∀ x : Nat, x &&& b = (x % 2 ^ j) &&& b := by
    intro x
    rw [← Nat.and_two_pow_sub_one_eq_mod, Nat.and_assoc]
    congr 1
    rw [Nat.and_comm, Nat.and_two_pow_sub_one_eq_mod, Nat.mod_eq_of_lt hb]
  show IntKind.i64.wrap ((BitVec.ofInt 64 n &&& BitVec.ofInt 64 (b : Int)).toNat : Nat) = IntKind.i64.wrap ((BitVec.ofInt 64 (n % 2 ^ j) &&& BitVec.ofInt 64 (b : Int)).toNat : Nat)
  rw [BitVec.toNat_and, BitVec.toNat_and, BitVec.ofInt_natCast, BitVec.toNat_ofNat, Nat.mod_eq_of_lt (show b < 2 ^ 64 by omega), BitVec.toNat_ofInt, BitVec.toNat_ofInt]
  rw [hmm, hmm ((n % 2 ^ j) % ((2 ^ 64 : Nat) : Int)).toNat]
  congr 3
  have e : ∀ z : Int, ((z % ((2 ^ 64 : Nat) : Int)).toNat % 2 ^ j : Nat) = (z % 2 ^ j).toNat := by
    intro z
    have h1 : (((z % ((2 ^ 64 : Nat) : Int)).toNat % 2 ^ j : Nat) : Int) = z % 2 ^ j := by
      rw [Int.natCast_emod, Int.toNat_of_nonneg (Int.emod_nonneg _ (by decide)), Int.natCast_pow]
      refine Int.emod_emod_of_dvd z ?_
      have : (2 : Int) ^ 64 = 2 ^ j * 2 ^ (64 - j) := by rw [← Int.pow_add]; congr 1; omega
      exact ⟨2 ^ (64 - j), by exact_mod_cast this⟩
    omega
  rw [e, e, Int.emod_emod_of_dvd n (Int.dvd_refl _)]
theorem wrap_in (x : Int) (h0 : -9223372036854775808 ≤ x) (h1 : x ≤ 9223372036854775807) : wrap64 x = x := by unfold wrap64; omega
theorem wf_bounds {a : Int} (h : (Lit.int .i64 a).wf = true) : -9223372036854775808 ≤ a ∧ a ≤ 9223372036854775807 := by
  simpa [Lit.wf, IntKind.min, IntKind.max, IntKind.signed, IntKind.bits] using h
theorem u64_wrap (x : Int) : IntKind.u64.wrap x = x % 18446744073709551616 := by simp [IntKind.wrap, IntKind.bits, IntKind.signed]
theorem rd_nat (l : List Int) (i : Nat) (h : i < l.length) : rd l (i : Int) = l[i] := by unfold rd; simp [h]
theorem wrap_succ (l : List Int) (i : Nat) (hl : l.length ≤ maxLen) (h : i < l.length) : wrap64 ((i : Int) + 1) = ((i + 1 : Nat) : Int) := by
  simp only [maxLen] at hl
  rw [wrap_in _ (by omega) (by omega)]
  omega
theorem frustumref05_Same_l0 (a b : List Int) (ha : a.length ≤ maxLen) (hb : a.length = b.length) : ∀ (d k i : Nat), a.length - i = d → i ≤ a.length → d < k → frustumref05_Same.l0 k a b (i : Int) = some (decide (a.drop i = b.drop i)) := by
  intro d
  induction d with
  | zero =>
    intro k i hd hi hk
    obtain ⟨k, rfl⟩ : ∃ m, k = m + 1 := ⟨k - 1, by omega⟩
    obtain rfl : i = a.length := by omega
    simp only [frustumref05_Same.l0]
    rw [if_neg (by omega), List.drop_length, hb, List.drop_length]
    rfl
  | succ d ih =>
    intro k i hd hi hk
    obtain ⟨k, rfl⟩ : ∃ m, k = m + 1 := ⟨k - 1, by omega⟩
    simp only [frustumref05_Same.l0]
    rw [if_pos (by omega), if_pos (by omega), if_pos (by omega), wrap_succ a i ha (by omega), rd_nat a i (by omega), rd_nat b i (by omega), List.drop_eq_getElem_cons (show i < a.length by omega), List.drop_eq_getElem_cons (show i < b.length by omega)]
    by_cases e : a[i] = b[i]
    · rw [if_pos e, ih k (i + 1) (by omega) (by omega) (by omega)]
      simp only [List.cons.injEq, e, true_and]
    · rw [if_neg e]
      simp only [List.cons.injEq, e, false_and, decide_false]
theorem frustumref05_Same_eq (a b : List Int) (ha : a.length ≤ maxLen) (k : Nat) (hk : a.length < k) : frustumref05_Same.f k a b = some (decide (a = b)) := by
  unfold frustumref05_Same.f
  by_cases e : a.length = b.length
  · rw [if_pos (by omega)]
    have := frustumref05_Same_l0 a b ha e a.length k 0 (by omega) (by omega) hk
    simpa using this
  · rw [if_neg (by omega)]
    have : a ≠ b := fun h => e (by rw [h])
    simp [this]
theorem frustumlaw05_example_eq0 : frustumlaw05_example.f 20 = some true := by decide +kernel
theorem frustumlaw05_example_eq (k : Nat) (hk : 20 ≤ k) : frustumlaw05_example.f k = some true := by
  obtain ⟨d, rfl⟩ : ∃ d, k = 20 + d := ⟨k - 20, by omega⟩
  clear hk
  induction d with
  | zero => exact frustumlaw05_example_eq0
  | succ d ih => exact frustumlaw05_example.mono (20 + d) _ ih
theorem not64 (a : Int) (h0 : -9223372036854775808 ≤ a) (h1 : a ≤ 9223372036854775807) : Go.bits .xor .i64 (-1) a = -1 - a := by
  show IntKind.i64.wrap (((BitVec.ofInt 64 (-1) ^^^ BitVec.ofInt 64 a).toNat : Nat) : Int) = -1 - a
  have e : BitVec.ofInt 64 (-1) ^^^ BitVec.ofInt 64 a = ~~~ (BitVec.ofInt 64 a) := by
    rw [show BitVec.ofInt 64 (-1) = BitVec.allOnes 64 by decide, BitVec.allOnes_xor]
  rw [e, BitVec.toNat_not, BitVec.toNat_ofInt, Go.IntKind.wrap_i64]
  omega
/-- The bytes of an unsigned number. -/
def encU : Nat → Int → List Int
  | 0, _ => []
  | d + 1, u => if 128 ≤ u then (u % 128 + 128) :: encU d (u / 128) else [u]
/-- The unsigned number of an int. -/
def zig (n : Int) : Int := if n < 0 then -2 * n - 1 else 2 * n
/-- The bytes of an int. -/
def encI (n : Int) : List Int := encU 10 (zig n)
theorem zig_range (n : Int) (h0 : -9223372036854775808 ≤ n) (h1 : n ≤ 9223372036854775807) : 0 ≤ zig n ∧ zig n < 18446744073709551616 := by
  unfold zig
  split <;> omega
theorem encU_len : ∀ (d : Nat) (u : Int), (encU d u).length ≤ d := by
  intro d
  induction d with
  | zero => intro u; simp [encU]
  | succ d ih =>
    intro u
    rw [encU]
    split
    · simp only [List.length_cons]
      have := ih (u / 128)
      omega
    · simp
theorem encU_pos (d : Nat) (u : Int) : 0 < (encU (d + 1) u).length := by
  rw [encU]
  split <;> simp
theorem encI_len (n : Int) : 0 < (encI n).length ∧ (encI n).length ≤ 10 := ⟨encU_pos 9 _, encU_len 10 _⟩
theorem or128 (u : Int) (h : 0 ≤ u) : Go.bits .or .u8 (u % 256) 128 = u % 128 + 128 := by
  have key : ∀ a : Fin 256, (a.val ||| 128) = a.val % 128 + 128 := by decide +kernel
  obtain ⟨b, hb⟩ := Int.eq_ofNat_of_zero_le (show 0 ≤ u % 256 by omega)
  have hb1 : b < 256 := by omega
  have := (Go.bits_nat .u8 8 (by decide) Go.wraps_u8 b 128 hb1 (by decide)).2
  have k2 := key ⟨b, hb1⟩
  rw [hb]
  refine this.trans ?_
  simp only at k2
  rw [k2]
  omega
theorem or1 (y : Int) (h0 : 0 ≤ y) (h1 : y * 2 < 18446744073709551616) : Go.bits .or .u64 (y * 2) 1 = y * 2 + 1 :=
  Go.bits_join .u64 64 (by decide) (fun n h0 h1 => by rw [u64_wrap]; omega) 1 (y * 2) 1 (by omega) (by omega) (by omega) (by omega) (by omega) (by omega)
theorem codec_AppendInt_l0 : ∀ (d k : Nat) (u : Int) (acc : List Int), 0 < d → d ≤ k → 0 ≤ u → u < 128 ^ d → acc.length + d ≤ 140737488355328 → codec_AppendInt.l0 k u acc = some (acc ++ encU d u) := by
  intro d
  induction d with
  | zero => intro k u acc h; omega
  | succ d ih =>
    intro k u acc _ hk hu0 hu hl
    obtain ⟨k, rfl⟩ : ∃ j, k = j + 1 := ⟨k - 1, by omega⟩
    rw [codec_AppendInt.l0, encU]
    by_cases h : 128 ≤ u
    · rw [if_pos h, if_pos h, if_pos (by omega), or128 u hu0]
      have hd : 0 < d := by
        by_cases hd : d = 0
        · subst hd; simp at hu; omega
        · omega
      have hu2 : u / 128 < 128 ^ d := by
        rw [Int.pow_succ] at hu
        omega
      rw [ih k (u / 128) (acc ++ [u % 128 + 128]) hd (by omega) (by omega) hu2 (by simp only [List.length_append, List.length_cons, List.length_nil]; omega), List.append_assoc, List.singleton_append]
    · rw [if_neg (by omega), if_neg h, if_pos (by omega), show u % 256 = u by omega]
theorem enc_start {l : List Int} {k : Nat} {u : Int} (hl : l.length ≤ 140737488355000) (hk : 11 ≤ k) (h0 : 0 ≤ u) (h1 : u < 18446744073709551616) : codec_AppendInt.j0 k l u = some (l ++ encU 10 u) := by
  obtain ⟨k, rfl⟩ : ∃ j, k = j + 1 := ⟨k - 1, by omega⟩
  rw [codec_AppendInt.j0, codec_tail.f, Option.bind_some, List.nil_append, if_pos (by simp only [List.length_nil]; omega), Option.bind_some]
  exact codec_AppendInt_l0 10 k u l (by decide) (by omega) h0 (Int.lt_of_lt_of_le h1 (by decide)) (by omega)
theorem zig_neg {n : Int} (h0 : -9223372036854775808 ≤ n) (hn : n < 0) : Go.bits .or .u64 (IntKind.u64.wrap ((IntKind.u64.wrap (Go.bits .xor .i64 (-1) n)) * 2)) 1 = zig n := by
  rw [not64 n h0 (by omega), u64_wrap (-1 - n), Int.emod_eq_of_lt (by omega) (by omega), u64_wrap, Int.emod_eq_of_lt (by omega) (by omega), or1 _ (by omega) (by omega)]
  unfold zig
  rw [if_pos hn]
  omega
theorem zig_pos {n : Int} (h1 : n ≤ 9223372036854775807) (hn : ¬ n < 0) : IntKind.u64.wrap ((IntKind.u64.wrap n) * 2) = zig n := by
  rw [u64_wrap n, Int.emod_eq_of_lt (by omega) (by omega), u64_wrap, Int.emod_eq_of_lt (by omega) (by omega)]
  unfold zig
  rw [if_neg hn]
  omega
theorem codec_AppendInt_eq (l : List Int) (hl : l.length ≤ 140737488355000) (n : Int) (h0 : -9223372036854775808 ≤ n) (h1 : n ≤ 9223372036854775807) (k : Nat) (hk : 11 ≤ k) : codec_AppendInt.f k l n = some (l ++ encI n) := by
  obtain ⟨z0, z1⟩ := zig_range n h0 h1
  unfold codec_AppendInt.f encI
  by_cases hn : n < 0
  · rw [if_pos hn, zig_neg h0 hn]
    exact enc_start hl hk z0 z1
  · rw [if_neg hn, zig_pos h1 hn]
    exact enc_start hl hk z0 z1
theorem frustumref05_AppendInt_l0 : ∀ (d k : Nat) (u : Int) (acc : List Int), 0 < d → d ≤ k → 0 ≤ u → u < 128 ^ d → u < 18446744073709551616 → acc.length + d ≤ 140737488355328 → frustumref05_AppendInt.l0 k u acc = some (acc ++ encU d u) := by
  intro d
  induction d with
  | zero => intro k u acc h; omega
  | succ d ih =>
    intro k u acc _ hk hu0 hu hu64 hl
    obtain ⟨k, rfl⟩ : ∃ j, k = j + 1 := ⟨k - 1, by omega⟩
    rw [frustumref05_AppendInt.l0, encU]
    by_cases h : 128 ≤ u
    · have e : IntKind.u64.wrap (Int.tmod u 128 + 128) % 256 = u % 128 + 128 := by
        rw [Int.tmod_eq_emod_of_nonneg hu0, u64_wrap]
        omega
      have e1 : IntKind.u64.wrap (Int.tdiv u 128) = u / 128 := by
        rw [Int.tdiv_eq_ediv_of_nonneg hu0, u64_wrap]
        omega
      rw [if_pos h, if_pos h, if_pos (by omega), e, e1]
      clear e e1
      have hd : 0 < d := by
        by_cases hd : d = 0
        · subst hd; simp at hu; omega
        · omega
      have hu2 : u / 128 < 128 ^ d := by
        rw [Int.pow_succ] at hu
        omega
      rw [ih k (u / 128) (acc ++ [u % 128 + 128]) hd (by omega) (by omega) hu2 (by omega) (by simp only [List.length_append, List.length_cons, List.length_nil]; omega), List.append_assoc, List.singleton_append]
    · rw [if_neg (by omega), if_neg h, if_pos (by omega), show u % 256 = u by omega]
theorem renc_start {l : List Int} {k : Nat} {u : Int} (hl : l.length ≤ 140737488355000) (hk : 11 ≤ k) (h0 : 0 ≤ u) (h1 : u < 18446744073709551616) : frustumref05_AppendInt.j0 k l u = some (l ++ encU 10 u) := by
  obtain ⟨k, rfl⟩ : ∃ j, k = j + 1 := ⟨k - 1, by omega⟩
  rw [frustumref05_AppendInt.j0, Option.bind_some, List.nil_append, if_pos (by simp only [List.length_nil]; omega)]
  exact frustumref05_AppendInt_l0 10 k u l (by decide) (by omega) h0 (Int.lt_of_lt_of_le h1 (by decide)) h1 (by omega)
theorem rzig_neg {n : Int} (h0 : -9223372036854775808 ≤ n) (hn : n < 0) : IntKind.u64.wrap ((IntKind.u64.wrap ((IntKind.u64.wrap (wrap64 (-(wrap64 (n + 1))))) * 2)) + 1) = zig n := by
  rw [wrap_in (n + 1) (by omega) (by omega), wrap_in (-(n + 1)) (by omega) (by omega), u64_wrap (-(n + 1)), Int.emod_eq_of_lt (by omega) (by omega), u64_wrap (-(n + 1) * 2), Int.emod_eq_of_lt (by omega) (by omega), u64_wrap, Int.emod_eq_of_lt (by omega) (by omega)]
  unfold zig
  rw [if_pos hn]
  omega
theorem frustumref05_AppendInt_eq (l : List Int) (hl : l.length ≤ 140737488355000) (n : Int) (h0 : -9223372036854775808 ≤ n) (h1 : n ≤ 9223372036854775807) (k : Nat) (hk : 11 ≤ k) : frustumref05_AppendInt.f k l n = some (l ++ encI n) := by
  obtain ⟨z0, z1⟩ := zig_range n h0 h1
  unfold frustumref05_AppendInt.f encI
  by_cases hn : n < 0
  · rw [if_pos hn, rzig_neg h0 hn]
    exact renc_start hl hk z0 z1
  · rw [if_neg hn, zig_pos h1 hn]
    exact renc_start hl hk z0 z1
theorem int_wf {l : List Int} (hw : ∀ x ∈ l, (Lit.int .i64 x).wf = true) {x : Int} (h : x ∈ l) : -9223372036854775808 ≤ x ∧ x ≤ 9223372036854775807 := wf_bounds (hw x h)
theorem flat_len (l : List Int) : (l.flatMap encI).length ≤ 10 * l.length := by
  induction l with
  | nil => simp
  | cons x r ih =>
    simp only [List.flatMap_cons, List.length_append, List.length_cons]
    have := (encI_len x).2
    omega
theorem codec_AppendInts_l0 (v : List Int) (hv : v.length ≤ 1073741824) (hw : ∀ x ∈ v, (Lit.int .i64 x).wf = true) : ∀ (d k i : Nat) (acc : List Int), v.length - i = d → i ≤ v.length → d + 12 ≤ k → acc.length + 10 * d ≤ 140737488355000 →
    codec_AppendInts.l0 k acc v (v.length : Int) (i : Int) = some (acc ++ (v.drop i).flatMap encI) := by
  intro d
  induction d with
  | zero =>
    intro k i acc hd hi hk hl
    obtain ⟨k, rfl⟩ : ∃ m, k = m + 1 := ⟨k - 1, by omega⟩
    obtain rfl : i = v.length := by omega
    rw [codec_AppendInts.l0, if_neg (by omega), List.drop_length, List.flatMap_nil, List.append_nil]
  | succ d ih =>
    intro k i acc hd hi hk hl
    obtain ⟨k, rfl⟩ : ∃ m, k = m + 1 := ⟨k - 1, by omega⟩
    have hlt : i < v.length := by omega
    obtain ⟨h0, h1⟩ := int_wf hw (List.getElem_mem hlt)
    rw [codec_AppendInts.l0, if_pos (by omega), if_pos (by omega), if_pos (by omega), rd_nat v i hlt, codec_AppendInt_eq acc (by omega) _ h0 h1 k (by omega), Option.bind_some, wrap_succ v i (by simp only [maxLen]; omega) hlt]
    have := (encI_len v[i]).2
    rw [ih k (i + 1) (acc ++ encI v[i]) (by omega) (by omega) (by omega) (by simp only [List.length_append]; omega), List.drop_eq_getElem_cons hlt, List.flatMap_cons, List.append_assoc]
/-- The bytes of a list. -/
def encL (v : List Int) : List Int := encI v.length ++ v.flatMap encI
theorem codec_AppendInts_eq (l v : List Int) (hl : l.length ≤ 1073741824) (hv : v.length ≤ 1073741824) (hw : ∀ x ∈ v, (Lit.int .i64 x).wf = true) (k : Nat) (hk : v.length + 12 ≤ k) : codec_AppendInts.f k l v = some (l ++ encL v) := by
  unfold codec_AppendInts.f encL
  rw [codec_AppendInt_eq l (by omega) _ (by omega) (by omega) k (by omega), Option.bind_some]
  have h := (encI_len v.length).2
  have := codec_AppendInts_l0 v hv hw v.length k 0 (l ++ encI v.length) (by omega) (by omega) hk (by simp only [List.length_append]; omega)
  rw [List.drop_zero] at this
  rw [← List.append_assoc]
  exact this
theorem codec_AppendString_eq (l : List Int) (s : ByteArray) (hl : l.length ≤ 34359738368) (hs : s.size ≤ 1073741824) (k : Nat) (hk : 11 ≤ k) : codec_AppendString.f k l s = some (l ++ (encI s.size ++ bytesOf s)) := by
  unfold codec_AppendString.f
  have h := (encI_len s.size).2
  rw [codec_AppendInt_eq l (by omega) _ (by omega) (by omega) k hk, Option.bind_some, if_pos (by simp only [List.length_append]; omega), List.append_assoc]
theorem codec_AppendBool_eq (l : List Int) (hl : l.length ≤ 140737488355000) (b : Bool) : codec_AppendBool.f l b = some (l ++ [if b = true then 1 else 0]) := by
  unfold codec_AppendBool.f
  rw [codec_tail.f, Option.bind_some, List.nil_append, if_pos (by simp only [List.length_nil]; omega), Option.bind_some]
  have h : l.length < 140737488355328 := by omega
  cases b <;> simp [h]
theorem frustumref05_AppendInts_l0 (v : List Int) (hv : v.length ≤ 1073741824) (hw : ∀ x ∈ v, (Lit.int .i64 x).wf = true) : ∀ (d k i : Nat) (acc : List Int), v.length - i = d → i ≤ v.length → d + 12 ≤ k → acc.length + 10 * d ≤ 140737488355000 →
    frustumref05_AppendInts.l0 k v acc (i : Int) = some (acc ++ (v.drop i).flatMap encI) := by
  intro d
  induction d with
  | zero =>
    intro k i acc hd hi hk hl
    obtain ⟨k, rfl⟩ : ∃ m, k = m + 1 := ⟨k - 1, by omega⟩
    obtain rfl : i = v.length := by omega
    rw [frustumref05_AppendInts.l0, if_neg (by omega), List.drop_length, List.flatMap_nil, List.append_nil]
  | succ d ih =>
    intro k i acc hd hi hk hl
    obtain ⟨k, rfl⟩ : ∃ m, k = m + 1 := ⟨k - 1, by omega⟩
    have hlt : i < v.length := by omega
    obtain ⟨h0, h1⟩ := int_wf hw (List.getElem_mem hlt)
    rw [frustumref05_AppendInts.l0, if_pos (by omega), if_pos (by omega), rd_nat v i hlt, frustumref05_AppendInt_eq acc (by omega) _ h0 h1 k (by omega), Option.bind_some, wrap_succ v i (by simp only [maxLen]; omega) hlt]
    have := (encI_len v[i]).2
    rw [ih k (i + 1) (acc ++ encI v[i]) (by omega) (by omega) (by omega) (by simp only [List.length_append]; omega), List.drop_eq_getElem_cons hlt, List.flatMap_cons, List.append_assoc]
theorem frustumref05_AppendInts_eq (l v : List Int) (hl : l.length ≤ 1073741824) (hv : v.length ≤ 1073741824) (hw : ∀ x ∈ v, (Lit.int .i64 x).wf = true) (k : Nat) (hk : v.length + 12 ≤ k) : frustumref05_AppendInts.f k l v = some (l ++ encL v) := by
  unfold frustumref05_AppendInts.f encL
  rw [frustumref05_AppendInt_eq l (by omega) _ (by omega) (by omega) k (by omega), Option.bind_some]
  have h := (encI_len v.length).2
  have := frustumref05_AppendInts_l0 v hv hw v.length k 0 (l ++ encI v.length) (by omega) (by omega) hk (by simp only [List.length_append]; omega)
  rw [List.drop_zero] at this
  rw [← List.append_assoc]
  exact this
theorem frustumref05_AppendString_l0 (s : ByteArray) (hs : s.size ≤ 1073741824) : ∀ (d k i : Nat) (acc : List Int), s.size - i = d → i ≤ s.size → d < k → acc.length + d ≤ 140737488355000 →
    frustumref05_AppendString.l0 k s acc (i : Int) = some (acc ++ (bytesOf s).drop i) := by
  have hb := bytesOf_length s
  intro d
  induction d with
  | zero =>
    intro k i acc hd hi hk hl
    obtain ⟨k, rfl⟩ : ∃ m, k = m + 1 := ⟨k - 1, by omega⟩
    obtain rfl : i = s.size := by omega
    rw [frustumref05_AppendString.l0, if_neg (by omega), List.drop_of_length_le (by omega), List.append_nil]
  | succ d ih =>
    intro k i acc hd hi hk hl
    obtain ⟨k, rfl⟩ : ∃ m, k = m + 1 := ⟨k - 1, by omega⟩
    have hlt : i < (bytesOf s).length := by omega
    rw [frustumref05_AppendString.l0, if_pos (by omega), if_pos (by omega), if_pos (by omega), ← rd_bytesOf, rd_nat _ i hlt, wrap_succ (bytesOf s) i (by simp only [maxLen]; omega) hlt]
    rw [ih k (i + 1) (acc ++ [(bytesOf s)[i]]) (by omega) (by omega) (by omega) (by simp only [List.length_append, List.length_cons, List.length_nil]; omega), List.drop_eq_getElem_cons hlt, List.append_assoc, List.singleton_append]
theorem frustumref05_AppendString_eq (l : List Int) (s : ByteArray) (hl : l.length ≤ 34359738368) (hs : s.size ≤ 1073741824) (k : Nat) (hk : s.size + 11 ≤ k) : frustumref05_AppendString.f k l s = some (l ++ (encI s.size ++ bytesOf s)) := by
  unfold frustumref05_AppendString.f
  have h := (encI_len s.size).2
  rw [frustumref05_AppendInt_eq l (by omega) _ (by omega) (by omega) k (by omega), Option.bind_some]
  have := frustumref05_AppendString_l0 s hs s.size k 0 (l ++ encI s.size) (by omega) (by omega) (by omega) (by simp only [List.length_append]; omega)
  rw [List.drop_zero] at this
  rw [← List.append_assoc]
  exact this
theorem frustumref05_AppendBool_eq (l : List Int) (hl : l.length ≤ 140737488355000) (b : Bool) : frustumref05_AppendBool.f l b = some (l ++ [if b = true then 1 else 0]) := by
  unfold frustumref05_AppendBool.f
  rw [Option.bind_some, if_pos (by simp only [List.length_nil]; omega), Option.bind_some, List.nil_append]
  have h : l.length < 140737488355328 := by omega
  cases b <;> simp [h]
theorem append_same (l e : List Int) (hl : l.length ≤ 1048576) (he : e.length ≤ 1073741824) (k : Nat) (hk : 2147483648 ≤ k) : frustumref05_Same.f k (l ++ e) (l ++ e) = some true := by
  rw [frustumref05_Same_eq _ _ (by simp only [maxLen, List.length_append]; omega) k (by simp only [List.length_append]; omega), decide_eq_true rfl]
theorem appends_l0 (l v : List Int) (s : ByteArray) (hl : l.length ≤ 1048576) (hv : v.length ≤ 1048576) (hw : ∀ x ∈ v, (Lit.int .i64 x).wf = true) (hs : s.size ≤ 1048576) : ∀ (d k i : Nat), v.length - i = d → i ≤ v.length → d + 3221225472 ≤ k →
    frustumlaw05_CodecAppends.l0 k l v s (v.length : Int) (i : Int) = some true := by
  intro d
  induction d with
  | zero =>
    intro k i hd hi hk
    obtain ⟨k, rfl⟩ : ∃ m, k = m + 1 := ⟨k - 1, by omega⟩
    have h1 := (encI_len v.length).2
    have h2 := flat_len v
    have h3 := (encI_len s.size).2
    have h4 := bytesOf_length s
    rw [frustumlaw05_CodecAppends.l0, if_neg (by omega), codec_AppendInts_eq l v (by omega) (by omega) hw k (by omega), Option.bind_some, frustumref05_AppendInts_eq l v (by omega) (by omega) hw k (by omega), Option.bind_some, append_same l _ hl (by unfold encL; simp only [List.length_append]; omega) k (by omega), Option.bind_some, if_pos rfl,
      codec_AppendString_eq l s (by omega) (by omega) k (by omega), Option.bind_some, frustumref05_AppendString_eq l s (by omega) (by omega) k (by omega), Option.bind_some, append_same l _ hl (by simp only [List.length_append]; omega) k (by omega), Option.bind_some, if_pos rfl,
      codec_AppendBool_eq l (by omega), Option.bind_some, frustumref05_AppendBool_eq l (by omega), Option.bind_some, append_same l _ hl (by simp) k (by omega), Option.bind_some, if_pos rfl,
      codec_AppendBool_eq l (by omega), Option.bind_some, frustumref05_AppendBool_eq l (by omega), Option.bind_some, append_same l _ hl (by simp) k (by omega), Option.bind_some, if_pos rfl, frustumlaw05_example_eq k (by omega)]
    rfl
  | succ d ih =>
    intro k i hd hi hk
    obtain ⟨k, rfl⟩ : ∃ m, k = m + 1 := ⟨k - 1, by omega⟩
    have hlt : i < v.length := by omega
    obtain ⟨h0, h1⟩ := int_wf hw (List.getElem_mem hlt)
    have h2 := (encI_len v[i]).2
    rw [frustumlaw05_CodecAppends.l0, if_pos (by omega), if_pos (by omega), if_pos (by omega), rd_nat v i hlt, codec_AppendInt_eq l (by omega) _ h0 h1 k (by omega), Option.bind_some, frustumref05_AppendInt_eq l (by omega) _ h0 h1 k (by omega), Option.bind_some, append_same l _ hl (by omega) k (by omega), Option.bind_some, if_pos rfl, wrap_succ v i (by simp only [maxLen]; omega) hlt]
    exact ih k (i + 1) (by omega) (by omega) (by omega)
theorem CodecAppends : frustumlaw05_CodecAppends.Pure := by
  intro l v s _ hl _ _ hv hw hs
  exact ⟨v.length + 3221225472, appends_l0 l v s hl hv hw hs v.length _ 0 (by omega) (by omega) (Nat.le_refl _)⟩

end Go.Proofs.Ytgfdfchckpknjaa.Pure
