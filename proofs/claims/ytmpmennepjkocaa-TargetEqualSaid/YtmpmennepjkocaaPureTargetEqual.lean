/- TargetEqual: Equal, Hash and Clone return what the reference returns. No condition. -/
import Derived.Test.YtmpmennepjkocaaPTargetEqualx13
import Derived.Test.YtmpmennepjkocaaPTargetEqualx2
import Derived.Test.YtmpmennepjkocaaPTargetEqualx3
import Derived.Test.YtmpmennepjkocaaPTargetEqualx4
import Derived.Test.YtmpmennepjkocaaPTargetEqualx5
import Derived.Test.YtmpmennepjkocaaPTargetEqualx6
import Derived.Test.YtmpmennepjkocaaPTargetEqualx8
import Derived.Test.YtmpmennepjkocaaPTargetEqualx9
import Derived.Test.YtmpmennepjkocaaPTargetEqualx11
import Derived.Test.YtmpmennepjkocaaPTargetEqualx12
import Derived.Test.YtmpmennepjkocaaOwn
import Derived.Laws.BitsLemmas
namespace Go.Proofs.Ytmpmennepjkocaa.Pure
set_option linter.unusedVariables false
set_option linter.unusedSimpArgs false
open Go.RowKit Go.Proofs.Ytmpmennepjkocaa.Own Go.Proofs.Ytmpmennepjkocaa.PTargetEqual Go.Proofs.YtmpmennepjkocaaW.PrintWords Go.Proofs.YtmpmennepjkocaaW.PrintLast Go.Proofs.YtmpmennepjkocaaW.PrintMore
/-! numbers -/
theorem and_mask (j : Nat) (hj : j ≤ 63) (n : Int) : Go.bits .and .i64 n (2 ^ j - 1) = n % 2 ^ j := by
  have hp : (2 : Nat) ^ j ≤ 2 ^ 63 := Nat.pow_le_pow_right (by decide) hj
  have hpos : 0 < (2 : Nat) ^ j := Nat.two_pow_pos j
  have hm : (BitVec.ofInt 64 ((2 : Int) ^ j - 1)).toNat = 2 ^ j - 1 := by
    have hc : ((2 : Int) ^ j - 1) = ((2 ^ j - 1 : Nat) : Int) := by rw [Int.natCast_sub hpos]; simp
    rw [hc, BitVec.ofInt_natCast, BitVec.toNat_ofNat]
    exact Nat.mod_eq_of_lt (by omega)
  have key : (BitVec.ofInt 64 n &&& BitVec.ofInt 64 ((2 : Int) ^ j - 1)).toNat = (n % ((2 ^ 64 : Nat) : Int)).toNat % 2 ^ j := by
    rw [BitVec.toNat_and, BitVec.toNat_ofInt, hm, Nat.and_two_pow_sub_one_eq_mod]
  show IntKind.i64.wrap ((BitVec.ofInt 64 n &&& BitVec.ofInt 64 ((2 : Int) ^ j - 1)).toNat : Nat) = n % 2 ^ j
  rw [key, Go.IntKind.wrap_i64]
  have hlt := Nat.mod_lt (n % ((2 ^ 64 : Nat) : Int)).toNat hpos
  have h1 : (((n % ((2 ^ 64 : Nat) : Int)).toNat % 2 ^ j : Nat) : Int) = n % 2 ^ j := by
    rw [Int.natCast_emod, Int.toNat_of_nonneg (Int.emod_nonneg _ (by decide))]
    rw [Int.natCast_pow]
    refine Int.emod_emod_of_dvd n ?_
    have : (2 : Int) ^ 64 = 2 ^ j * 2 ^ (64 - j) := by rw [← Int.pow_add]; congr 1; omega
    exact ⟨2 ^ (64 - j), by exact_mod_cast this⟩
  rw [← h1]
  omega
theorem and255 (n : Int) : Go.bits .and .i64 n 255 = n % 256 := and_mask 8 (by decide) n
theorem bits_i64_nat (a b : Nat) (ha : a < 2 ^ 63) (hb : b < 2 ^ 63) : Go.bits .and .i64 a b = ((a &&& b : Nat) : Int) ∧ Go.bits .or .i64 a b = ((a ||| b : Nat) : Int) :=
  Go.bits_nat .i64 63 (by decide) (fun n h0 h1 => by rw [Go.IntKind.wrap_i64]; omega) a b ha hb
/-- only the lowest bits count where the mask is small. -/
theorem and_low (j : Nat) (hj : j ≤ 63) (n m : Int) (h0 : 0 ≤ m) (h1 : m < 2 ^ j) : Go.bits .and .i64 n m = Go.bits .and .i64 (n % 2 ^ j) m := by
  obtain ⟨b, rfl⟩ := Int.eq_ofNat_of_zero_le h0
  have hb : b < 2 ^ j := by exact_mod_cast h1
  have hp : (2 : Nat) ^ j ≤ 2 ^ 63 := Nat.pow_le_pow_right (by decide) hj
  have hpos : 0 < (2 : Nat) ^ j := Nat.two_pow_pos j
  have hmm : ∀ x : Nat, x &&& b = (x % 2 ^ j) &&& b := by
    intro x
    rw [← Nat.and_two_pow_sub_one_eq_mod, Nat.and_assoc]
    congr 1
    rw [Nat.and_comm, Nat.and_two_pow_sub_one_eq_mod, Nat.mod_eq_of_lt hb]
  show IntKind.i64.wrap ((BitVec.ofInt 64 n &&& BitVec.ofInt 64 (b : Int)).toNat : Nat) = IntKind.i64.wrap ((BitVec.ofInt 64 (n % 2 ^ j) &&& BitVec.ofInt 64 (b : Int)).toNat : Nat)
  rw [BitVec.toNat_and, BitVec.toNat_and, BitVec.ofInt_natCast, BitVec.toNat_ofNat, Nat.mod_eq_of_lt (show b < 2 ^ 64 by omega), BitVec.toNat_ofInt, BitVec.toNat_ofInt]
  rw [hmm, hmm ((n % 2 ^ j) % ((2 ^ 64 : Nat) : Int)).toNat]
  congr 3
  have e : ∀ z : Int, ((z % ((2 ^ 64 : Nat) : Int)).toNat % 2 ^ j : Nat) = (z % 2 ^ j).toNat := by
    intro z
    have h1 : (((z % ((2 ^ 64 : Nat) : Int)).toNat % 2 ^ j : Nat) : Int) = z % 2 ^ j := by
      rw [Int.natCast_emod, Int.toNat_of_nonneg (Int.emod_nonneg _ (by decide)), Int.natCast_pow]
      refine Int.emod_emod_of_dvd z ?_
      have : (2 : Int) ^ 64 = 2 ^ j * 2 ^ (64 - j) := by rw [← Int.pow_add]; congr 1; omega
      exact ⟨2 ^ (64 - j), by exact_mod_cast this⟩
    omega
  rw [e, e, Int.emod_emod_of_dvd n (Int.dvd_refl _)]
theorem wrap_in (x : Int) (h0 : -9223372036854775808 ≤ x) (h1 : x ≤ 9223372036854775807) : wrap64 x = x := by unfold wrap64; omega
theorem wf_bounds {a : Int} (h : (Lit.int .i64 a).wf = true) : -9223372036854775808 ≤ a ∧ a ≤ 9223372036854775807 := by
  simpa [Lit.wf, IntKind.min, IntKind.max, IntKind.signed, IntKind.bits] using h
theorem u64_wrap (x : Int) : IntKind.u64.wrap x = x % 18446744073709551616 := by simp [IntKind.wrap, IntKind.bits, IntKind.signed]
theorem rd_nat (l : List Int) (i : Nat) (h : i < l.length) : rd l (i : Int) = l[i] := by unfold rd; simp [h]
theorem wrap_succ (l : List Int) (i : Nat) (hl : l.length ≤ maxLen) (h : i < l.length) : wrap64 ((i : Int) + 1) = ((i + 1 : Nat) : Int) := by
  simp only [maxLen] at hl
  rw [wrap_in _ (by omega) (by omega)]
  omega
def hashS : List Int → Int → Int
  | [], h => h
  | x :: r, h => hashS r (IntKind.u64.wrap ((Go.bits .xor .u64 h (IntKind.u64.wrap x)) * 1099511628211))
theorem codec_Hash_l0 (l : List Int) (hl : l.length ≤ maxLen) : ∀ (d k i : Nat) (h : Int), l.length - i = d → i ≤ l.length → d < k → codec_Hash.l0 k h l (l.length : Int) (i : Int) = some (hashS (l.drop i) h) := by
  intro d
  induction d with
  | zero =>
    intro k i h hd hi hk
    obtain ⟨k, rfl⟩ : ∃ m, k = m + 1 := ⟨k - 1, by omega⟩
    obtain rfl : i = l.length := by omega
    simp only [codec_Hash.l0]
    rw [if_neg (by omega), List.drop_length]
    rfl
  | succ d ih =>
    intro k i h hd hi hk
    obtain ⟨k, rfl⟩ : ∃ m, k = m + 1 := ⟨k - 1, by omega⟩
    simp only [codec_Hash.l0]
    rw [if_pos (by omega), if_pos (by omega), if_pos (by omega), wrap_succ l i hl (by omega), ih k (i + 1) _ (by omega) (by omega) (by omega), List.drop_eq_getElem_cons (show i < l.length by omega), rd_nat l i (by omega)]
    rfl
theorem frustumref05_Hash_l0 (l : List Int) (hl : l.length ≤ maxLen) : ∀ (d k i : Nat) (h : Int), l.length - i = d → i ≤ l.length → d < k → frustumref05_Hash.l0 k l h (i : Int) = some (hashS (l.drop i) h) := by
  intro d
  induction d with
  | zero =>
    intro k i h hd hi hk
    obtain ⟨k, rfl⟩ : ∃ m, k = m + 1 := ⟨k - 1, by omega⟩
    obtain rfl : i = l.length := by omega
    simp only [frustumref05_Hash.l0]
    rw [if_neg (by omega), List.drop_length]
    rfl
  | succ d ih =>
    intro k i h hd hi hk
    obtain ⟨k, rfl⟩ : ∃ m, k = m + 1 := ⟨k - 1, by omega⟩
    simp only [frustumref05_Hash.l0]
    rw [if_pos (by omega), if_pos (by omega), wrap_succ l i hl (by omega), ih k (i + 1) _ (by omega) (by omega) (by omega), List.drop_eq_getElem_cons (show i < l.length by omega), rd_nat l i (by omega)]
    rfl
theorem not64 (a : Int) (h0 : -9223372036854775808 ≤ a) (h1 : a ≤ 9223372036854775807) : Go.bits .xor .i64 (-1) a = -1 - a := by
  show IntKind.i64.wrap (((BitVec.ofInt 64 (-1) ^^^ BitVec.ofInt 64 a).toNat : Nat) : Int) = -1 - a
  have e : BitVec.ofInt 64 (-1) ^^^ BitVec.ofInt 64 a = ~~~ (BitVec.ofInt 64 a) := by
    rw [show BitVec.ofInt 64 (-1) = BitVec.allOnes 64 by decide, BitVec.allOnes_xor]
  rw [e, BitVec.toNat_not, BitVec.toNat_ofInt, Go.IntKind.wrap_i64]
  omega
/-- The bytes of an unsigned number. -/
def encU : Nat → Int → List Int
  | 0, _ => []
  | d + 1, u => if 128 ≤ u then (u % 128 + 128) :: encU d (u / 128) else [u]
/-- The unsigned number of an int. -/
def zig (n : Int) : Int := if n < 0 then -2 * n - 1 else 2 * n
/-- The bytes of an int. -/
def encI (n : Int) : List Int := encU 10 (zig n)
theorem zig_range (n : Int) (h0 : -9223372036854775808 ≤ n) (h1 : n ≤ 9223372036854775807) : 0 ≤ zig n ∧ zig n < 18446744073709551616 := by
  unfold zig
  split <;> omega
theorem encU_len : ∀ (d : Nat) (u : Int), (encU d u).length ≤ d := by
  intro d
  induction d with
  | zero => intro u; simp [encU]
  | succ d ih =>
    intro u
    rw [encU]
    split
    · simp only [List.length_cons]
      have := ih (u / 128)
      omega
    · simp
theorem encU_pos (d : Nat) (u : Int) : 0 < (encU (d + 1) u).length := by
  rw [encU]
  split <;> simp
theorem encI_len (n : Int) : 0 < (encI n).length ∧ (encI n).length ≤ 10 := ⟨encU_pos 9 _, encU_len 10 _⟩
theorem or128 (u : Int) (h : 0 ≤ u) : Go.bits .or .u8 (u % 256) 128 = u % 128 + 128 := by
  have key : ∀ a : Fin 256, (a.val ||| 128) = a.val % 128 + 128 := by decide +kernel
  obtain ⟨b, hb⟩ := Int.eq_ofNat_of_zero_le (show 0 ≤ u % 256 by omega)
  have hb1 : b < 256 := by omega
  have := (Go.bits_nat .u8 8 (by decide) Go.wraps_u8 b 128 hb1 (by decide)).2
  have k2 := key ⟨b, hb1⟩
  rw [hb]
  refine this.trans ?_
  simp only at k2
  rw [k2]
  omega
theorem or1 (y : Int) (h0 : 0 ≤ y) (h1 : y * 2 < 18446744073709551616) : Go.bits .or .u64 (y * 2) 1 = y * 2 + 1 :=
  Go.bits_join .u64 64 (by decide) (fun n h0 h1 => by rw [u64_wrap]; omega) 1 (y * 2) 1 (by omega) (by omega) (by omega) (by omega) (by omega) (by omega)
theorem codec_AppendInt_l0 : ∀ (d k : Nat) (u : Int) (acc : List Int), 0 < d → d ≤ k → 0 ≤ u → u < 128 ^ d → acc.length + d ≤ 140737488355328 → codec_AppendInt.l0 k u acc = some (acc ++ encU d u) := by
  intro d
  induction d with
  | zero => intro k u acc h; omega
  | succ d ih =>
    intro k u acc _ hk hu0 hu hl
    obtain ⟨k, rfl⟩ : ∃ j, k = j + 1 := ⟨k - 1, by omega⟩
    rw [codec_AppendInt.l0, encU]
    by_cases h : 128 ≤ u
    · rw [if_pos h, if_pos h, if_pos (by omega), or128 u hu0]
      have hd : 0 < d := by
        by_cases hd : d = 0
        · subst hd; simp at hu; omega
        · omega
      have hu2 : u / 128 < 128 ^ d := by
        rw [Int.pow_succ] at hu
        omega
      rw [ih k (u / 128) (acc ++ [u % 128 + 128]) hd (by omega) (by omega) hu2 (by simp only [List.length_append, List.length_cons, List.length_nil]; omega), List.append_assoc, List.singleton_append]
    · rw [if_neg (by omega), if_neg h, if_pos (by omega), show u % 256 = u by omega]
theorem enc_start {l : List Int} {k : Nat} {u : Int} (hl : l.length ≤ 140737488355000) (hk : 11 ≤ k) (h0 : 0 ≤ u) (h1 : u < 18446744073709551616) : codec_AppendInt.j0 k l u = some (l ++ encU 10 u) := by
  obtain ⟨k, rfl⟩ : ∃ j, k = j + 1 := ⟨k - 1, by omega⟩
  rw [codec_AppendInt.j0, codec_tail.f, Option.bind_some, List.nil_append, if_pos (by simp only [List.length_nil]; omega), Option.bind_some]
  exact codec_AppendInt_l0 10 k u l (by decide) (by omega) h0 (Int.lt_of_lt_of_le h1 (by decide)) (by omega)
theorem zig_neg {n : Int} (h0 : -9223372036854775808 ≤ n) (hn : n < 0) : Go.bits .or .u64 (IntKind.u64.wrap ((IntKind.u64.wrap (Go.bits .xor .i64 (-1) n)) * 2)) 1 = zig n := by
  rw [not64 n h0 (by omega), u64_wrap (-1 - n), Int.emod_eq_of_lt (by omega) (by omega), u64_wrap, Int.emod_eq_of_lt (by omega) (by omega), or1 _ (by omega) (by omega)]
  unfold zig
  rw [if_pos hn]
  omega
theorem zig_pos {n : Int} (h1 : n ≤ 9223372036854775807) (hn : ¬ n < 0) : IntKind.u64.wrap ((IntKind.u64.wrap n) * 2) = zig n := by
  rw [u64_wrap n, Int.emod_eq_of_lt (by omega) (by omega), u64_wrap, Int.emod_eq_of_lt (by omega) (by omega)]
  unfold zig
  rw [if_neg hn]
  omega
theorem codec_AppendInt_eq (l : List Int) (hl : l.length ≤ 140737488355000) (n : Int) (h0 : -9223372036854775808 ≤ n) (h1 : n ≤ 9223372036854775807) (k : Nat) (hk : 11 ≤ k) : codec_AppendInt.f k l n = some (l ++ encI n) := by
  obtain ⟨z0, z1⟩ := zig_range n h0 h1
  unfold codec_AppendInt.f encI
  by_cases hn : n < 0
  · rw [if_pos hn, zig_neg h0 hn]
    exact enc_start hl hk z0 z1
  · rw [if_neg hn, zig_pos h1 hn]
    exact enc_start hl hk z0 z1
theorem frustumref05_AppendInt_l0 : ∀ (d k : Nat) (u : Int) (acc : List Int), 0 < d → d ≤ k → 0 ≤ u → u < 128 ^ d → u < 18446744073709551616 → acc.length + d ≤ 140737488355328 → frustumref05_AppendInt.l0 k u acc = some (acc ++ encU d u) := by
  intro d
  induction d with
  | zero => intro k u acc h; omega
  | succ d ih =>
    intro k u acc _ hk hu0 hu hu64 hl
    obtain ⟨k, rfl⟩ : ∃ j, k = j + 1 := ⟨k - 1, by omega⟩
    rw [frustumref05_AppendInt.l0, encU]
    by_cases h : 128 ≤ u
    · have e : IntKind.u64.wrap (Int.tmod u 128 + 128) % 256 = u % 128 + 128 := by
        rw [Int.tmod_eq_emod_of_nonneg hu0, u64_wrap]
        omega
      have e1 : IntKind.u64.wrap (Int.tdiv u 128) = u / 128 := by
        rw [Int.tdiv_eq_ediv_of_nonneg hu0, u64_wrap]
        omega
      rw [if_pos h, if_pos h, if_pos (by omega), e, e1]
      clear e e1
      have hd : 0 < d := by
        by_cases hd : d = 0
        · subst hd; simp at hu; omega
        · omega
      have hu2 : u / 128 < 128 ^ d := by
        rw [Int.pow_succ] at hu
        omega
      rw [ih k (u / 128) (acc ++ [u % 128 + 128]) hd (by omega) (by omega) hu2 (by omega) (by simp only [List.length_append, List.length_cons, List.length_nil]; omega), List.append_assoc, List.singleton_append]
    · rw [if_neg (by omega), if_neg h, if_pos (by omega), show u % 256 = u by omega]
theorem renc_start {l : List Int} {k : Nat} {u : Int} (hl : l.length ≤ 140737488355000) (hk : 11 ≤ k) (h0 : 0 ≤ u) (h1 : u < 18446744073709551616) : frustumref05_AppendInt.j0 k l u = some (l ++ encU 10 u) := by
  obtain ⟨k, rfl⟩ : ∃ j, k = j + 1 := ⟨k - 1, by omega⟩
  rw [frustumref05_AppendInt.j0, Option.bind_some, List.nil_append, if_pos (by simp only [List.length_nil]; omega)]
  exact frustumref05_AppendInt_l0 10 k u l (by decide) (by omega) h0 (Int.lt_of_lt_of_le h1 (by decide)) h1 (by omega)
theorem rzig_neg {n : Int} (h0 : -9223372036854775808 ≤ n) (hn : n < 0) : IntKind.u64.wrap ((IntKind.u64.wrap ((IntKind.u64.wrap (wrap64 (-(wrap64 (n + 1))))) * 2)) + 1) = zig n := by
  rw [wrap_in (n + 1) (by omega) (by omega), wrap_in (-(n + 1)) (by omega) (by omega), u64_wrap (-(n + 1)), Int.emod_eq_of_lt (by omega) (by omega), u64_wrap (-(n + 1) * 2), Int.emod_eq_of_lt (by omega) (by omega), u64_wrap, Int.emod_eq_of_lt (by omega) (by omega)]
  unfold zig
  rw [if_pos hn]
  omega
theorem frustumref05_AppendInt_eq (l : List Int) (hl : l.length ≤ 140737488355000) (n : Int) (h0 : -9223372036854775808 ≤ n) (h1 : n ≤ 9223372036854775807) (k : Nat) (hk : 11 ≤ k) : frustumref05_AppendInt.f k l n = some (l ++ encI n) := by
  obtain ⟨z0, z1⟩ := zig_range n h0 h1
  unfold frustumref05_AppendInt.f encI
  by_cases hn : n < 0
  · rw [if_pos hn, rzig_neg h0 hn]
    exact renc_start hl hk z0 z1
  · rw [if_neg hn, zig_pos h1 hn]
    exact renc_start hl hk z0 z1
theorem int_wf {l : List Int} (hw : ∀ x ∈ l, (Lit.int .i64 x).wf = true) {x : Int} (h : x ∈ l) : -9223372036854775808 ≤ x ∧ x ≤ 9223372036854775807 := wf_bounds (hw x h)
theorem flat_len (l : List Int) : (l.flatMap encI).length ≤ 10 * l.length := by
  induction l with
  | nil => simp
  | cons x r ih =>
    simp only [List.flatMap_cons, List.length_append, List.length_cons]
    have := (encI_len x).2
    omega
theorem codec_AppendInts_l0 (v : List Int) (hv : v.length ≤ 1073741824) (hw : ∀ x ∈ v, (Lit.int .i64 x).wf = true) : ∀ (d k i : Nat) (acc : List Int), v.length - i = d → i ≤ v.length → d + 12 ≤ k → acc.length + 10 * d ≤ 140737488355000 →
    codec_AppendInts.l0 k acc v (v.length : Int) (i : Int) = some (acc ++ (v.drop i).flatMap encI) := by
  intro d
  induction d with
  | zero =>
    intro k i acc hd hi hk hl
    obtain ⟨k, rfl⟩ : ∃ m, k = m + 1 := ⟨k - 1, by omega⟩
    obtain rfl : i = v.length := by omega
    rw [codec_AppendInts.l0, if_neg (by omega), List.drop_length, List.flatMap_nil, List.append_nil]
  | succ d ih =>
    intro k i acc hd hi hk hl
    obtain ⟨k, rfl⟩ : ∃ m, k = m + 1 := ⟨k - 1, by omega⟩
    have hlt : i < v.length := by omega
    obtain ⟨h0, h1⟩ := int_wf hw (List.getElem_mem hlt)
    rw [codec_AppendInts.l0, if_pos (by omega), if_pos (by omega), if_pos (by omega), rd_nat v i hlt, codec_AppendInt_eq acc (by omega) _ h0 h1 k (by omega), Option.bind_some, wrap_succ v i (by simp only [maxLen]; omega) hlt]
    have := (encI_len v[i]).2
    rw [ih k (i + 1) (acc ++ encI v[i]) (by omega) (by omega) (by omega) (by simp only [List.length_append]; omega), List.drop_eq_getElem_cons hlt, List.flatMap_cons, List.append_assoc]
/-- The bytes of a list. -/
def encL (v : List Int) : List Int := encI v.length ++ v.flatMap encI
theorem codec_AppendInts_eq (l v : List Int) (hl : l.length ≤ 1073741824) (hv : v.length ≤ 1073741824) (hw : ∀ x ∈ v, (Lit.int .i64 x).wf = true) (k : Nat) (hk : v.length + 12 ≤ k) : codec_AppendInts.f k l v = some (l ++ encL v) := by
  unfold codec_AppendInts.f encL
  rw [codec_AppendInt_eq l (by omega) _ (by omega) (by omega) k (by omega), Option.bind_some]
  have h := (encI_len v.length).2
  have := codec_AppendInts_l0 v hv hw v.length k 0 (l ++ encI v.length) (by omega) (by omega) hk (by simp only [List.length_append]; omega)
  rw [List.drop_zero] at this
  rw [← List.append_assoc]
  exact this
theorem frustumref05_AppendInts_l0 (v : List Int) (hv : v.length ≤ 1073741824) (hw : ∀ x ∈ v, (Lit.int .i64 x).wf = true) : ∀ (d k i : Nat) (acc : List Int), v.length - i = d → i ≤ v.length → d + 12 ≤ k → acc.length + 10 * d ≤ 140737488355000 →
    frustumref05_AppendInts.l0 k v acc (i : Int) = some (acc ++ (v.drop i).flatMap encI) := by
  intro d
  induction d with
  | zero =>
    intro k i acc hd hi hk hl
    obtain ⟨k, rfl⟩ : ∃ m, k = m + 1 := ⟨k - 1, by omega⟩
    obtain rfl : i = v.length := by omega
    rw [frustumref05_AppendInts.l0, if_neg (by omega), List.drop_length, List.flatMap_nil, List.append_nil]
  | succ d ih =>
    intro k i acc hd hi hk hl
    obtain ⟨k, rfl⟩ : ∃ m, k = m + 1 := ⟨k - 1, by omega⟩
    have hlt : i < v.length := by omega
    obtain ⟨h0, h1⟩ := int_wf hw (List.getElem_mem hlt)
    rw [frustumref05_AppendInts.l0, if_pos (by omega), if_pos (by omega), rd_nat v i hlt, frustumref05_AppendInt_eq acc (by omega) _ h0 h1 k (by omega), Option.bind_some, wrap_succ v i (by simp only [maxLen]; omega) hlt]
    have := (encI_len v[i]).2
    rw [ih k (i + 1) (acc ++ encI v[i]) (by omega) (by omega) (by omega) (by simp only [List.length_append]; omega), List.drop_eq_getElem_cons hlt, List.flatMap_cons, List.append_assoc]
theorem frustumref05_AppendInts_eq (l v : List Int) (hl : l.length ≤ 1073741824) (hv : v.length ≤ 1073741824) (hw : ∀ x ∈ v, (Lit.int .i64 x).wf = true) (k : Nat) (hk : v.length + 12 ≤ k) : frustumref05_AppendInts.f k l v = some (l ++ encL v) := by
  unfold frustumref05_AppendInts.f encL
  rw [frustumref05_AppendInt_eq l (by omega) _ (by omega) (by omega) k (by omega), Option.bind_some]
  have h := (encI_len v.length).2
  have := frustumref05_AppendInts_l0 v hv hw v.length k 0 (l ++ encI v.length) (by omega) (by omega) hk (by simp only [List.length_append]; omega)
  rw [List.drop_zero] at this
  rw [← List.append_assoc]
  exact this
theorem rd47_nat (l : List S47) (i : Nat) (h : i < l.length) : rd_T47 l (i : Int) = l[i] := by unfold rd_T47; simp [h]
/-- The bytes of a texel. -/
def sizeS (f : Int) : Int := if f = 1 then 1 else if f = 2 then 4 else if f = 3 then 2 else if f = 4 then 4 else if f = 5 then 2 else if f = 6 then 8 else 0
theorem sizeS_range (f : Int) : 0 ≤ sizeS f ∧ sizeS f ≤ 8 := by unfold sizeS; (repeat' split) <;> omega
theorem texel_Size_eq (f : Int) (k : Nat) (hk : 2 ≤ k) : texel_Size.f k f = some (sizeS f) := by
  obtain ⟨k, rfl⟩ : ∃ j, k = j + 2 := ⟨k - 2, by omega⟩
  unfold texel_Size.f sizeS
  simp only [texel_Size.j0, texel_Size.j1]
  by_cases h1 : f = 1
  · simp [h1]
  · by_cases h2 : f = 2
    · simp [h2]
    · by_cases h3 : f = 3
      · simp [h3]
      · by_cases h4 : f = 4
        · simp [h4]
        · by_cases h5 : f = 5
          · simp [h5]
          · simp [h1, h2, h3, h4, h5]
            split <;> rfl
theorem frustumref09_Size_eq (f : Int) (k : Nat) (hk : 2 ≤ k) : frustumref09_Size.f k f = some (sizeS f) := by
  obtain ⟨k, rfl⟩ : ∃ j, k = j + 2 := ⟨k - 2, by omega⟩
  unfold frustumref09_Size.f sizeS
  simp only [frustumref09_Size.j0, frustumref09_Size.j1]
  by_cases h1 : f = 1
  · simp [h1]
  · by_cases h2 : f = 2
    · simp [h2]
    · by_cases h3 : f = 3
      · simp [h3]
      · by_cases h4 : f = 4
        · simp [h4]
        · by_cases h5 : f = 5
          · simp [h5]
          · simp [h1, h2, h3, h4, h5]
            split <;> rfl
theorem texel_Valid_eq (f : Int) (k : Nat) (hk : 2 ≤ k) : texel_Valid.f k f = some (sizeS f != 0) := by unfold texel_Valid.f; rw [texel_Size_eq f k hk, Option.bind_some]
theorem frustumref09_Valid_eq (f : Int) (k : Nat) (hk : 2 ≤ k) : frustumref09_Valid.f k f = some (sizeS f != 0) := by unfold frustumref09_Valid.f; rw [frustumref09_Size_eq f k hk, Option.bind_some]
/-- A size from 1 to 64. -/
def sizedB (a : Int) : Bool := decide (1 ≤ a ∧ a ≤ 64)
theorem image_sized_eq (a : Int) : image_sized.f a = some (sizedB a) := by
  unfold image_sized.f sizedB
  by_cases h : a ≥ 1
  · rw [if_pos h]; congr 1; simp; omega
  · rw [if_neg h]; congr 1; simp; omega
theorem frustumref10_sized_eq (a : Int) : frustumref10_sized.f a = some (sizedB a) := by
  unfold frustumref10_sized.f sizedB
  by_cases h : a ≥ 1
  · rw [if_pos h]; congr 1; simp; omega
  · rw [if_neg h]; congr 1; simp; omega
def bitsS (d : Int) : Int := if d = 1 then 0 else if d = 2 then 16 else if d = 3 then 24 else -1
theorem depth_Bits_eq42 (d : Int) : depth_Bits.f d = some (bitsS d) := by unfold depth_Bits.f bitsS; (repeat' split) <;> rfl
theorem frustumref38_Bits_eq42 (d : Int) : frustumref38_Bits.f d = some (bitsS d) := by unfold frustumref38_Bits.f bitsS; (repeat' split) <;> rfl
def okB (s : Int) : Bool := s == 1 || s == 2 || s == 4 || s == 8
theorem ValidSamples_eq (s : Int) : coverage_ValidSamples.f s = some (okB s) := by
  unfold coverage_ValidSamples.f okB
  by_cases h1 : s = 1
  · simp [h1]
  · by_cases h2 : s = 2
    · simp [h2]
    · by_cases h4 : s = 4
      · simp [h4]
      · simp [h1, h2, h4]
theorem rValidSamples_eq (s : Int) : frustumref35_ValidSamples.f s = some (okB s) := by
  unfold frustumref35_ValidSamples.f okB
  by_cases h1 : s = 1
  · simp [h1]
  · by_cases h2 : s = 2
    · simp [h2]
    · by_cases h4 : s = 4
      · simp [h4]
      · simp [h1, h2, h4]
theorem okB_range {s : Int} (h : okB s = true) : 1 ≤ s ∧ s ≤ 8 := by
  unfold okB at h
  simp at h
  omega
theorem sizedB_range {a : Int} (h : sizedB a = true) : 1 ≤ a ∧ a ≤ 64 := by unfold sizedB at h; simpa using h
theorem area_bd {w h : Int} (hw : sizedB w = true) (hh : sizedB h = true) : 1 ≤ w * h ∧ w * h ≤ 4096 := by
  obtain ⟨a, b⟩ := sizedB_range hw
  obtain ⟨c, d⟩ := sizedB_range hh
  have h1 : 1 * 1 ≤ w * h := Int.mul_le_mul a c (by decide) (by omega)
  have h2 : w * h ≤ 64 * 64 := Int.mul_le_mul b d (by omega) (by decide)
  omega
theorem vol_bd {w h s : Int} (hw : sizedB w = true) (hh : sizedB h = true) (hs0 : 0 ≤ s) (hs : s ≤ 8) : 0 ≤ w * h * s ∧ w * h * s ≤ 32768 := by
  obtain ⟨a, b⟩ := area_bd hw hh
  have h1 : 0 ≤ w * h * s := Int.mul_nonneg (by omega) hs0
  have h2 : w * h * s ≤ 4096 * 8 := Int.mul_le_mul b hs hs0 (by decide)
  omega
theorem vol_wrap {w h s : Int} (hw : sizedB w = true) (hh : sizedB h = true) (hs0 : 0 ≤ s) (hs : s ≤ 8) : wrap64 ((wrap64 (w * h)) * s) = w * h * s := by
  obtain ⟨a, b⟩ := area_bd hw hh
  obtain ⟨c, d⟩ := vol_bd hw hh hs0 hs
  rw [wrap_in (w * h) (by omega) (by omega), wrap_in _ (by omega) (by omega)]
def imgS (f w h : Int) : S47 := ⟨f, w, h, List.replicate (w * h * sizeS f).toNat 0⟩
def imgNewS (f w h : Int) : Int × Int × Int × List Int × Int :=
  if sizeS f = 0 then (0, 0, 0, [], 14) else if sizedB w = true ∧ sizedB h = true then (f, w, h, List.replicate (w * h * sizeS f).toNat 0, 0) else (0, 0, 0, [], 15)
theorem image_New_eq (f w h : Int) (k : Nat) (hk : 2 ≤ k) : image_New.f k f w h = some (imgNewS f w h) := by
  obtain ⟨s0, s1⟩ := sizeS_range f
  unfold image_New.f imgNewS
  rw [texel_Valid_eq f k hk, Option.bind_some]
  by_cases h0 : sizeS f = 0
  · rw [if_neg (by simp [h0]), if_pos h0]
  · rw [if_pos (by simp [h0]), if_neg h0, image_sized_eq, Option.bind_some]
    by_cases hw : sizedB w = true
    · rw [if_pos hw, image_sized_eq, Option.bind_some]
      by_cases hh : sizedB h = true
      · obtain ⟨c, d⟩ := vol_bd hw hh s0 s1
        rw [if_pos hh, texel_Size_eq f k hk, Option.bind_some, vol_wrap hw hh s0 s1, if_pos c, if_pos (by omega), if_pos ⟨hw, hh⟩]
      · rw [if_neg hh, if_neg (fun x => hh x.2)]
    · rw [if_neg hw, if_neg (fun x => hw x.1)]
abbrev TS : Type := Int × Int × Int × Int × List S47 × List Int × List Int × Int
def newS (w h s f d : Int) : TS :=
  if sizeS f = 0 ∨ bitsS d < 0 then (0, 0, 0, 0, [], [], [], 14) else if sizedB w = true ∧ sizedB h = true then (if okB s = true then (w, h, s, d, List.replicate s.toNat (imgS f w h), List.replicate (w * h * s).toNat 0, List.replicate (w * h * s).toNat 0, 0) else (0, 0, 0, 0, [], [], [], 11)) else (0, 0, 0, 0, [], [], [], 15)
theorem target_New_l0 (w h s d f : Int) (D : List Int) (P Z : List Int) (hD : D.length ≤ 1000000) (hs : s ≤ 8) : ∀ (e k : Nat) (acc : List S47) (i : Int), (s - i).toNat = e → 0 ≤ i → e < k → (acc.length : Int) ≤ i → target_New.l0 k s i f w h D w h s d acc P Z = some (w, h, s, d, acc ++ List.replicate e ⟨f, w, h, D⟩, P, Z, 0) := by
  intro e
  induction e with
  | zero =>
    intro k acc i he hi hk _
    obtain ⟨k, rfl⟩ : ∃ j, k = j + 1 := ⟨k - 1, by omega⟩
    rw [target_New.l0, if_neg (by omega), List.replicate_zero, List.append_nil]
  | succ e ih =>
    intro k acc i he hi hk hl
    obtain ⟨k, rfl⟩ : ∃ j, k = j + 1 := ⟨k - 1, by omega⟩
    rw [target_New.l0, if_pos (by omega)]
    unfold image_Clone.f
    rw [Option.bind_some, List.nil_append, if_pos (by simp only [List.length_nil]; omega), Option.bind_some, if_pos (by omega), wrap_in _ (by omega) (by omega)]
    simp only []
    rw [ih k (acc ++ [(⟨f, w, h, D⟩ : S47)]) (i + 1) (by omega) (by omega) (by omega) (by simp only [List.length_append, List.length_cons, List.length_nil]; omega), List.append_assoc, List.replicate_succ, List.singleton_append]
theorem newS_14 {w h s f d : Int} (h0 : sizeS f = 0 ∨ bitsS d < 0) : newS w h s f d = (0, 0, 0, 0, [], [], [], 14) := by unfold newS; rw [if_pos h0]
theorem newS_15 {w h s f d : Int} (h0 : ¬(sizeS f = 0 ∨ bitsS d < 0)) (hwh : ¬(sizedB w = true ∧ sizedB h = true)) : newS w h s f d = (0, 0, 0, 0, [], [], [], 15) := by unfold newS; rw [if_neg h0, if_neg hwh]
theorem newS_11 {w h s f d : Int} (h0 : ¬(sizeS f = 0 ∨ bitsS d < 0)) (hwh : sizedB w = true ∧ sizedB h = true) (ho : ¬okB s = true) : newS w h s f d = (0, 0, 0, 0, [], [], [], 11) := by unfold newS; rw [if_neg h0, if_pos hwh, if_neg ho]
theorem newS_0 {w h s f d : Int} (h0 : ¬(sizeS f = 0 ∨ bitsS d < 0)) (hwh : sizedB w = true ∧ sizedB h = true) (ho : okB s = true) : newS w h s f d = (w, h, s, d, List.replicate s.toNat (imgS f w h), List.replicate (w * h * s).toNat 0, List.replicate (w * h * s).toNat 0, 0) := by unfold newS; rw [if_neg h0, if_pos hwh, if_pos ho]
theorem target_New_eq (w h s f d : Int) (k : Nat) (hk : 20 ≤ k) : target_New.f k w h s f d = some (newS w h s f d) := by
  obtain ⟨k, rfl⟩ : ∃ j, k = j + 1 := ⟨k - 1, by omega⟩
  unfold target_New.f
  rw [image_New_eq f w h _ (by omega), Option.bind_some]
  unfold imgNewS
  obtain ⟨s0, s1⟩ := sizeS_range f
  by_cases h0 : sizeS f = 0
  · rw [newS_14 (.inl h0), if_pos h0]
    simp only []
    rw [if_pos trivial, target_New.j0, if_pos rfl]
  · rw [if_neg h0]
    by_cases hb : bitsS d < 0
    · rw [newS_14 (.inr hb)]
      by_cases hwh : sizedB w = true ∧ sizedB h = true
      · rw [if_pos hwh]
        simp only []
        rw [if_neg (by decide), depth_Bits_eq42, Option.bind_some, target_New.j0, if_pos (decide_eq_true hb)]
      · rw [if_neg hwh]
        simp only []
        rw [if_neg (by decide), depth_Bits_eq42, Option.bind_some, target_New.j0, if_pos (decide_eq_true hb)]
    · have hn : ¬(sizeS f = 0 ∨ bitsS d < 0) := fun x => x.elim h0 hb
      by_cases hwh : sizedB w = true ∧ sizedB h = true
      · rw [if_pos hwh]
        simp only []
        rw [if_neg (by decide), depth_Bits_eq42, Option.bind_some, target_New.j0, if_neg (by simpa using hb), if_pos rfl, ValidSamples_eq, Option.bind_some]
        by_cases ho : okB s = true
        · obtain ⟨o0, o1⟩ := okB_range ho
          obtain ⟨c, e⟩ := vol_bd hwh.1 hwh.2 (show 0 ≤ s by omega) o1
          obtain ⟨c2, e2⟩ := vol_bd hwh.1 hwh.2 s0 s1
          rw [newS_0 hn hwh ho, if_pos ho, vol_wrap hwh.1 hwh.2 (by omega) o1, if_pos c, if_pos (by omega)]
          rw [target_New_l0 w h s d f _ _ _ (by rw [List.length_replicate]; omega) o1 s.toNat k [] 0 (by omega) (by omega) (by omega) (by simp), List.nil_append]
          rfl
        · rw [newS_11 hn hwh ho, if_neg ho]
      · rw [newS_15 hn hwh, if_neg hwh]
        simp only []
        rw [if_neg (by decide), depth_Bits_eq42, Option.bind_some, target_New.j0, if_neg (by simpa using hb), if_neg (by decide)]
theorem example42_eq (k : Nat) (hk : 50 ≤ k) : frustumlaw42_example.f k = some true := by
  unfold frustumlaw42_example.f
  rw [target_New_eq 20 9 4 2 2 k (by omega), Option.bind_some, newS_0 (by decide) (by decide) (by decide)]
  simp only [List.length_replicate]
  decide
theorem image_Valid_eq (a b c : Int) (D : List Int) (k : Nat) (hk : 2 ≤ k) : image_Valid.f k a b c D = frustumref10_Valid.f k a b c D ∧ ∃ r, image_Valid.f k a b c D = some r ∧ ∀ k', 2 ≤ k' → image_Valid.f k' a b c D = some r := by
  have h1 : ∀ k, 2 ≤ k → image_Valid.f k a b c D = some (sizeS a != 0 && (sizedB b && (sizedB c && ((D.length : Int) == wrap64 (wrap64 (b * c) * sizeS a))))) := by
    intro k hk
    unfold image_Valid.f
    rw [texel_Valid_eq a k hk, Option.bind_some]
    cases h0 : (sizeS a != 0)
    · rfl
    · rw [if_pos rfl, image_sized_eq, Option.bind_some]
      cases hb : sizedB b
      · rfl
      · rw [if_pos rfl, image_sized_eq, Option.bind_some]
        cases hc : sizedB c
        · rfl
        · rw [if_pos rfl, texel_Size_eq a k hk, Option.bind_some]
          rfl
  refine ⟨?_, _, h1 k hk, h1⟩
  rw [h1 k hk]
  unfold frustumref10_Valid.f
  rw [frustumref09_Valid_eq a k hk, Option.bind_some]
  cases h0 : (sizeS a != 0)
  · rfl
  · rw [if_pos rfl, frustumref10_sized_eq, Option.bind_some]
    cases hb : sizedB b
    · rfl
    · rw [if_pos rfl, frustumref10_sized_eq, Option.bind_some]
      cases hc : sizedB c
      · rfl
      · rw [if_pos rfl, frustumref09_Size_eq a k hk, Option.bind_some]
        rfl
/-- Is an image good in itself? -/
def imgB (m : S47) : Bool := sizeS m.f0 != 0 && (sizedB m.f1 && (sizedB m.f2 && ((m.f3.length : Int) == wrap64 (wrap64 (m.f1 * m.f2) * sizeS m.f0))))
theorem image_Valid_is (m : S47) (k : Nat) (hk : 2 ≤ k) : image_Valid.f k m.f0 m.f1 m.f2 m.f3 = some (imgB m) ∧ frustumref10_Valid.f k m.f0 m.f1 m.f2 m.f3 = some (imgB m) := by
  have h1 : image_Valid.f k m.f0 m.f1 m.f2 m.f3 = some (imgB m) := by
    unfold image_Valid.f imgB
    rw [texel_Valid_eq _ k hk, Option.bind_some]
    cases h0 : (sizeS m.f0 != 0)
    · rfl
    · rw [if_pos rfl, image_sized_eq, Option.bind_some]
      cases hb : sizedB m.f1
      · rfl
      · rw [if_pos rfl, image_sized_eq, Option.bind_some]
        cases hc : sizedB m.f2
        · rfl
        · rw [if_pos rfl, texel_Size_eq _ k hk, Option.bind_some]
          rfl
  exact ⟨h1, by rw [← (image_Valid_eq m.f0 m.f1 m.f2 m.f3 k hk).1]; exact h1⟩
def goodB (w h f : Int) (m : S47) : Bool := imgB m && (m.f1 == w && (m.f2 == h && m.f0 == f))
/-- the values that a depth format stores -/
def maxS (d : Int) : Int := if d = 1 then 0 else if d = 2 then 65535 else 16777215
def mostS (d : Int) : Int := if d = 3 then 255 else 0
def limB (M x : Int) : Bool := decide (0 ≤ x ∧ x ≤ M)
theorem depth_Max_is (d : Int) (hd : 0 ≤ bitsS d) : depth_Max.f d = some (maxS d) := by
  have : d = 1 ∨ d = 2 ∨ d = 3 := by unfold bitsS at hd; (repeat' split at hd) <;> omega
  rcases this with rfl | rfl | rfl <;> decide +kernel
theorem rMax_l0 (d b : Int) (hb : bitsS d = b) : ∀ (e k : Nat) (n : Nat), (b - n).toNat = e → (n : Int) ≤ b → b ≤ 30 → e < k → frustumref38_Max.l0 k d (2 ^ n - 1) n = some (2 ^ b.toNat - 1) := by
  intro e
  induction e with
  | zero =>
    intro k n he hn hb1 hk
    obtain ⟨k, rfl⟩ : ∃ m, k = m + 1 := ⟨k - 1, by omega⟩
    rw [frustumref38_Max.l0, frustumref38_Bits_eq42, hb, Option.bind_some, if_neg (by omega), show b.toNat = n by omega]
  | succ e ih =>
    intro k n he hn hb1 hk
    obtain ⟨k, rfl⟩ : ∃ m, k = m + 1 := ⟨k - 1, by omega⟩
    have hp : (2 : Int) ^ n ≤ 2 ^ 30 := by exact_mod_cast Nat.pow_le_pow_right (by decide) (by omega)
    have hp1 : (1 : Int) ≤ 2 ^ n := by exact_mod_cast Nat.one_le_two_pow
    have hp2 : (2 : Int) ^ (n + 1) = 2 * 2 ^ n := by rw [Int.pow_succ, Int.mul_comm]
    rw [frustumref38_Max.l0, frustumref38_Bits_eq42, hb, Option.bind_some, if_pos (by omega)]
    generalize hP : (2 : Int) ^ n = P at *
    rw [show (2 : Int) ^ 30 = 1073741824 from rfl] at hp
    rw [wrap_in (2 * (P - 1)) (by omega) (by omega), wrap_in (2 * (P - 1) + 1) (by omega) (by omega), wrap_in ((n : Int) + 1) (by omega) (by omega), show 2 * (P - 1) + 1 = 2 ^ (n + 1) - 1 by omega]
    exact ih k (n + 1) (by omega) (by omega) hb1 (by omega)
theorem rMax_is (d : Int) (hd : 0 ≤ bitsS d) (k : Nat) (hk : 40 ≤ k) : frustumref38_Max.f k d = some (maxS d) := by
  unfold frustumref38_Max.f
  have h3 : d = 1 ∨ d = 2 ∨ d = 3 := by unfold bitsS at hd; (repeat' split at hd) <;> omega
  have hb : bitsS d ≤ 24 := by unfold bitsS; (repeat' split) <;> omega
  have := rMax_l0 d (bitsS d) rfl (bitsS d).toNat k 0 (by omega) (by omega) (by omega) (by omega)
  have e : frustumref38_Max.l0 k d 0 0 = some (2 ^ (bitsS d).toNat - 1) := this
  rw [e]
  clear this e hb hd
  rcases h3 with rfl | rfl | rfl <;> decide
theorem limited_is (l : List Int) (hl : l.length ≤ maxLen) (M : Int) : ∀ (e k i : Nat), l.length - i = e → i ≤ l.length → e < k → frustumref42_limited.l0 k l M (i : Int) = some ((l.drop i).all (limB M)) := by
  intro e
  induction e with
  | zero =>
    intro k i he hi hk
    obtain ⟨k, rfl⟩ : ∃ m, k = m + 1 := ⟨k - 1, by omega⟩
    rw [frustumref42_limited.l0, if_neg (by omega), show i = l.length by omega, List.drop_length]
    rfl
  | succ e ih =>
    intro k i he hi hk
    obtain ⟨k, rfl⟩ : ∃ m, k = m + 1 := ⟨k - 1, by omega⟩
    rw [frustumref42_limited.l0, if_pos (by omega), if_pos (by omega), rd_nat l i (by omega), List.drop_eq_getElem_cons (show i < l.length by omega), List.all_cons]
    by_cases h1 : l[i] < 0
    · rw [if_pos h1, show limB M l[i] = false by unfold limB; simp; omega]
      rfl
    · rw [if_neg h1]
      by_cases h2 : l[i] > M
      · rw [if_pos h2, show limB M l[i] = false by unfold limB; simp; omega]
        rfl
      · rw [if_neg h2, show limB M l[i] = true by unfold limB; simp; omega, wrap_succ l i hl (by omega), ih k (i + 1) (by omega) (by omega) (by omega)]
        rfl
theorem valid_l1 (w h s d : Int) (c : List S47) (p z : List Int) (hd : 0 ≤ bitsS d) (hp : p.length ≤ maxLen) (hz : z.length = p.length) : ∀ (e k i : Nat), p.length - i = e → i ≤ p.length → e < k →
    target_Valid.l1 k (p.length : Int) (i : Int) w h s d c p z = some ((p.drop i).all (limB (maxS d)) && (z.drop i).all (limB (mostS d))) := by
  intro e
  induction e with
  | zero =>
    intro k i he hi hk
    obtain ⟨k, rfl⟩ : ∃ m, k = m + 1 := ⟨k - 1, by omega⟩
    rw [target_Valid.l1, if_neg (by omega), List.drop_of_length_le (show p.length ≤ i by omega), List.drop_of_length_le (show z.length ≤ i by omega)]
    rfl
  | succ e ih =>
    intro k i he hi hk
    obtain ⟨k, rfl⟩ : ∃ m, k = m + 1 := ⟨k - 1, by omega⟩
    have hs : target_mostStencil.f w h s d c p z = some (mostS d) := by unfold target_mostStencil.f mostS; split <;> rfl
    rw [target_Valid.l1, if_pos (by omega), if_pos (by omega), if_pos (by omega), rd_nat p i (by omega), List.drop_eq_getElem_cons (show i < p.length by omega), List.drop_eq_getElem_cons (show i < z.length by omega), List.all_cons, List.all_cons, depth_Max_is d hd, Option.bind_some]
    by_cases h1 : p[i] < 0
    · rw [if_pos h1, show limB (maxS d) p[i] = false by unfold limB; simp; omega]
      rfl
    · rw [if_neg h1]
      by_cases h2 : p[i] > maxS d
      · rw [if_pos h2, show limB (maxS d) p[i] = false by unfold limB; simp; omega]
        rfl
      · rw [if_neg h2, show limB (maxS d) p[i] = true by unfold limB; simp; omega, if_pos (by omega), rd_nat z i (by omega)]
        by_cases h3 : z[i] < 0
        · rw [if_pos h3, show limB (mostS d) z[i] = false by unfold limB; simp; omega]
          simp
        · rw [if_neg h3, hs, Option.bind_some]
          by_cases h4 : z[i] > mostS d
          · rw [if_pos h4, show limB (mostS d) z[i] = false by unfold limB; simp; omega]
            simp
          · rw [if_neg h4, show limB (mostS d) z[i] = true by unfold limB; simp; omega, wrap_succ p i hp (by omega), ih k (i + 1) (by omega) (by omega) (by omega)]
            simp
def endS (n d : Int) (p z : List Int) : Bool := decide ((p.length : Int) = n) && (decide ((z.length : Int) = n) && (p.all (limB (maxS d)) && z.all (limB (mostS d))))
theorem valid_j2 (w h s d : Int) (c : List S47) (p z : List Int) (hd : 0 ≤ bitsS d) (hp : p.length ≤ maxLen) (n : Int) (k : Nat) (hk : p.length + 2 ≤ k) :
    (if (p.length : Int) = n then target_Valid.j2 k n ((z.length : Int) != n) w h s d c p z else target_Valid.j2 k n true w h s d c p z) = some (endS n d p z) := by
  obtain ⟨k, rfl⟩ : ∃ m, k = m + 1 := ⟨k - 1, by omega⟩
  unfold endS
  by_cases h1 : (p.length : Int) = n
  · rw [if_pos h1, target_Valid.j2, decide_eq_true h1]
    by_cases h2 : (z.length : Int) = n
    · rw [if_neg (by simp [h2]), decide_eq_true h2, ← h1]
      have := valid_l1 w h s d c p z hd hp (by omega) p.length k 0 (by omega) (by omega) (by omega)
      simpa using this
    · rw [if_pos (by simpa using h2), decide_eq_false h2]
      rfl
  · rw [if_neg h1, target_Valid.j2, if_pos rfl, decide_eq_false h1]
    rfl
theorem rvalid_end (d : Int) (p z : List Int) (hd : 0 ≤ bitsS d) (hp : p.length ≤ maxLen) (hz : z.length ≤ maxLen) (n : Int) (k : Nat) (hk : p.length + z.length + 50 ≤ k) :
    (if (p.length : Int) = n then (if (z.length : Int) = n then ((frustumref38_Max.f k d).bind fun t242 => ((frustumref42_limited.f k p t242).bind fun t243 => (if t243 = true then ((frustumref42_most.f d).bind fun t244 => ((frustumref42_limited.f k z t244).bind fun t245 => (some t245))) else (some false)))) else (some false)) else (some false)) = some (endS n d p z) := by
  unfold endS
  by_cases h1 : (p.length : Int) = n
  · rw [if_pos h1, decide_eq_true h1]
    by_cases h2 : (z.length : Int) = n
    · have hs : frustumref42_most.f d = some (mostS d) := by unfold frustumref42_most.f mostS; split <;> rfl
      have q1 : frustumref42_limited.f k p (maxS d) = some (p.all (limB (maxS d))) := by
        have := limited_is p hp (maxS d) p.length k 0 (by omega) (by omega) (by omega)
        simpa [frustumref42_limited.f] using this
      have q2 : frustumref42_limited.f k z (mostS d) = some (z.all (limB (mostS d))) := by
        have := limited_is z hz (mostS d) z.length k 0 (by omega) (by omega) (by omega)
        simpa [frustumref42_limited.f] using this
      rw [if_pos h2, decide_eq_true h2, rMax_is d hd k (by omega), Option.bind_some, q1, Option.bind_some]
      cases hq : p.all (limB (maxS d))
      · rfl
      · rw [if_pos rfl, hs, Option.bind_some, q2, Option.bind_some]
        rfl
    · rw [if_neg h2, decide_eq_false h2]
      rfl
  · rw [if_neg h1, decide_eq_false h1]
    rfl
theorem valid_l0 (w h s d : Int) (c : List S47) (p z : List Int) (hd : 0 ≤ bitsS d) (hc : c.length ≤ maxLen) (hp : p.length ≤ maxLen) : ∀ (e k i : Nat), c.length - i = e → i ≤ c.length → e + p.length + 10 ≤ k →
    target_Valid.l0 k c (c.length : Int) (i : Int) w h s d c p z = some ((c.drop i).all (goodB w h (rd_T47 c 0).f0) && endS (wrap64 ((wrap64 (w * h)) * s)) d p z) := by
  intro e
  induction e with
  | zero =>
    intro k i he hi hk
    obtain ⟨k, rfl⟩ : ∃ m, k = m + 1 := ⟨k - 1, by omega⟩
    rw [target_Valid.l0, if_neg (by omega), valid_j2 w h s d c p z hd hp _ k (by omega), show i = c.length by omega, List.drop_length]
    rfl
  | succ e ih =>
    intro k i he hi hk
    obtain ⟨k, rfl⟩ : ∃ m, k = m + 1 := ⟨k - 1, by omega⟩
    have hlt : i < c.length := by omega
    rw [target_Valid.l0, if_pos (by omega), if_pos (by omega), if_pos (by omega), rd47_nat c i hlt, (image_Valid_is c[i] k (by omega)).1, Option.bind_some, List.drop_eq_getElem_cons hlt, List.all_cons]
    have hw : wrap64 ((i : Int) + 1) = ((i + 1 : Nat) : Int) := by
      simp only [maxLen] at hc
      rw [wrap_in _ (by omega) (by omega)]
      omega
    rw [hw, ih k (i + 1) (by omega) (by omega) (by omega)]
    generalize (c.drop (i + 1)).all (goodB w h (rd_T47 c 0).f0) = A
    generalize endS (wrap64 ((wrap64 (w * h)) * s)) d p z = E
    unfold goodB
    cases h1 : imgB c[i]
    · rfl
    · rw [if_pos rfl]
      by_cases h2 : c[i].f1 = w
      · rw [if_pos h2]
        by_cases h3 : c[i].f2 = h
        · rw [if_pos h3, if_pos (by omega)]
          by_cases h4 : c[i].f0 = (rd_T47 c 0).f0
          · rw [if_pos h4]; simp [h2, h3, h4]
          · rw [if_neg h4]; simp [h4]
        · rw [if_neg h3]; simp [h3]
      · rw [if_neg h2]; simp [h2]
theorem rvalid_l0 (w h s d : Int) (c : List S47) (p z : List Int) (hd : 0 ≤ bitsS d) (hc : c.length ≤ maxLen) (hp : p.length ≤ maxLen) (hz : z.length ≤ maxLen) : ∀ (e k i : Nat), c.length - i = e → i ≤ c.length → e + p.length + z.length + 60 ≤ k →
    frustumref42_Valid.l0 k (i : Int) w h s d c p z = some ((c.drop i).all (goodB w h (rd_T47 c 0).f0) && endS (wrap64 ((wrap64 (w * h)) * s)) d p z) := by
  intro e
  induction e with
  | zero =>
    intro k i he hi hk
    obtain ⟨k, rfl⟩ : ∃ m, k = m + 1 := ⟨k - 1, by omega⟩
    rw [frustumref42_Valid.l0, if_neg (by omega), rvalid_end d p z hd hp hz _ k (by omega), show i = c.length by omega, List.drop_length]
    rfl
  | succ e ih =>
    intro k i he hi hk
    obtain ⟨k, rfl⟩ : ∃ m, k = m + 1 := ⟨k - 1, by omega⟩
    have hlt : i < c.length := by omega
    rw [frustumref42_Valid.l0, if_pos (by omega), if_pos (by omega), rd47_nat c i hlt, (image_Valid_is c[i] k (by omega)).2, Option.bind_some, List.drop_eq_getElem_cons hlt, List.all_cons]
    have hw : wrap64 ((i : Int) + 1) = ((i + 1 : Nat) : Int) := by
      simp only [maxLen] at hc
      rw [wrap_in _ (by omega) (by omega)]
      omega
    rw [hw, ih k (i + 1) (by omega) (by omega) (by omega)]
    generalize (c.drop (i + 1)).all (goodB w h (rd_T47 c 0).f0) = A
    generalize endS (wrap64 ((wrap64 (w * h)) * s)) d p z = E
    unfold goodB
    cases h1 : imgB c[i]
    · rfl
    · rw [if_pos rfl, if_pos (by omega)]
      by_cases h4 : c[i].f0 = (rd_T47 c 0).f0
      · rw [if_pos h4]
        by_cases h2 : c[i].f1 = w
        · rw [if_pos h2]
          by_cases h3 : c[i].f2 = h
          · rw [if_pos h3]; simp [h2, h3, h4]
          · rw [if_neg h3]; simp [h3]
        · rw [if_neg h2]; simp [h2]
      · rw [if_neg h4]; simp [h4]
def validS (w h s d : Int) (c : List S47) (p z : List Int) : Bool := sizedB w && (sizedB h && (okB s && (decide (0 ≤ bitsS d) && (decide ((c.length : Int) = s) && (c.all (goodB w h (rd_T47 c 0).f0) && endS (wrap64 ((wrap64 (w * h)) * s)) d p z)))))
theorem target_Valid_eq (w h s d : Int) (c : List S47) (p z : List Int) (hc : c.length ≤ maxLen) (hp : p.length ≤ maxLen) (k : Nat) (hk : c.length + p.length + 20 ≤ k) : target_Valid.f k w h s d c p z = some (validS w h s d c p z) := by
  obtain ⟨k, rfl⟩ : ∃ m, k = m + 1 := ⟨k - 1, by omega⟩
  have hj : target_Valid.j0 (k + 1) true w h s d c p z = some false := by rw [target_Valid.j0, if_pos rfl]
  unfold target_Valid.f validS
  rw [hj]
  by_cases h1 : w < 1
  · rw [if_pos h1, show sizedB w = false by unfold sizedB; simp; omega]; rfl
  rw [if_neg h1]
  by_cases h2 : w > 64
  · rw [if_pos h2, show sizedB w = false by unfold sizedB; simp; omega]; rfl
  rw [if_neg h2, show sizedB w = true by unfold sizedB; simp; omega]
  by_cases h3 : h < 1
  · rw [if_pos h3, show sizedB h = false by unfold sizedB; simp; omega]; rfl
  rw [if_neg h3]
  by_cases h4 : h > 64
  · rw [if_pos h4, show sizedB h = false by unfold sizedB; simp; omega]; rfl
  rw [if_neg h4, show sizedB h = true by unfold sizedB; simp; omega, ValidSamples_eq, Option.bind_some]
  cases h5 : okB s
  · rfl
  rw [if_pos rfl, depth_Bits_eq42, Option.bind_some]
  by_cases h6 : bitsS d < 0
  · rw [if_pos h6, decide_eq_false (by omega)]; rfl
  rw [if_neg h6, decide_eq_true (show 0 ≤ bitsS d by omega), target_Valid.j0]
  by_cases h7 : (c.length : Int) = s
  · rw [if_neg (by simp [h7]), decide_eq_true h7]
    have := valid_l0 w h s d c p z (by omega) hc hp c.length k 0 (by omega) (by omega) (by omega)
    simpa using this
  · rw [if_pos (by simpa using h7), decide_eq_false h7]; rfl
theorem frustumref42_Valid_eq (w h s d : Int) (c : List S47) (p z : List Int) (hc : c.length ≤ maxLen) (hp : p.length ≤ maxLen) (hz : z.length ≤ maxLen) (k : Nat) (hk : c.length + p.length + z.length + 100 ≤ k) : frustumref42_Valid.f k w h s d c p z = some (validS w h s d c p z) := by
  obtain ⟨k, rfl⟩ : ∃ m, k = m + 1 := ⟨k - 1, by omega⟩
  have hj : frustumref42_Valid.j0 (k + 1) true w h s d c p z = some false := by rw [frustumref42_Valid.j0, if_pos rfl]
  unfold frustumref42_Valid.f validS
  rw [hj]
  by_cases h1 : w < 1
  · rw [if_pos h1, show sizedB w = false by unfold sizedB; simp; omega]; rfl
  rw [if_neg h1]
  by_cases h2 : w > 64
  · rw [if_pos h2, show sizedB w = false by unfold sizedB; simp; omega]; rfl
  rw [if_neg h2, show sizedB w = true by unfold sizedB; simp; omega]
  by_cases h3 : h < 1
  · rw [if_pos h3, show sizedB h = false by unfold sizedB; simp; omega]; rfl
  rw [if_neg h3]
  by_cases h4 : h > 64
  · rw [if_pos h4, show sizedB h = false by unfold sizedB; simp; omega]; rfl
  rw [if_neg h4, show sizedB h = true by unfold sizedB; simp; omega, rValidSamples_eq, Option.bind_some]
  cases h5 : okB s
  · rfl
  rw [if_pos rfl, frustumref38_Bits_eq42, Option.bind_some]
  by_cases h6 : bitsS d < 0
  · rw [if_pos h6, decide_eq_false (by omega)]; rfl
  rw [if_neg h6, decide_eq_true (show 0 ≤ bitsS d by omega), frustumref42_Valid.j0]
  by_cases h7 : (c.length : Int) = s
  · rw [if_neg (by simp [h7]), decide_eq_true h7]
    have := rvalid_l0 w h s d c p z (by omega) hc hp hz c.length k 0 (by omega) (by omega) (by omega)
    simpa using this
  · rw [if_pos (by simpa using h7), decide_eq_false h7]; rfl
theorem small_l0 (w h s d : Int) (c : List S47) (p z : List Int) (hc : c.length ≤ maxLen) : ∀ (e i : Nat) (n : Int), c.length - i = e → i ≤ c.length → ∃ r, ∀ k, e < k → frustumlaw42_small.l0 k n (i : Int) w h s d c p z = some r := by
  intro e
  induction e with
  | zero =>
    intro i n he hi
    refine ⟨decide (n ≤ 40000), fun k hk => ?_⟩
    obtain ⟨k, rfl⟩ : ∃ m, k = m + 1 := ⟨k - 1, by omega⟩
    rw [frustumlaw42_small.l0, if_neg (by omega)]
  | succ e ih =>
    intro i n he hi
    obtain ⟨r, hr⟩ := ih (i + 1) (wrap64 (n + (((rd_T47 c i).f3).length : Int))) (by omega) (by omega)
    refine ⟨if (wrap64 (n + (((rd_T47 c i).f3).length : Int))) > 40000 then false else if (i : Int) > 20 then false else r, fun k hk => ?_⟩
    obtain ⟨k, rfl⟩ : ∃ m, k = m + 1 := ⟨k - 1, by omega⟩
    have hw : wrap64 ((i : Int) + 1) = ((i + 1 : Nat) : Int) := by
      simp only [maxLen] at hc
      rw [wrap_in _ (by omega) (by omega)]
      omega
    rw [frustumlaw42_small.l0, if_pos (by omega), if_pos (by omega), hw, hr k (by omega)]
    split
    · rfl
    · split <;> rfl
theorem small_eq (w h s d : Int) (c : List S47) (p z : List Int) (hc : c.length ≤ maxLen) : ∃ r, ∀ k, c.length < k → frustumlaw42_small.f k w h s d c p z = some r := by
  obtain ⟨r, hr⟩ := small_l0 w h s d c p z hc c.length 0 (wrap64 ((p.length : Int) + (z.length : Int))) (by omega) (by omega)
  exact ⟨r, fun k hk => hr k hk⟩
theorem clone_l0 (w h s d : Int) (c : List S47) (p z : List Int) (hc : c.length ≤ 1000) (hcl : ∀ m ∈ c, m.f3.length ≤ 100000) (hp : p.length ≤ 100000) (hz : z.length ≤ 100000) : ∀ (e k i : Nat), c.length - i = e → i ≤ c.length → e < k →
    target_Clone.l0 k c (c.length : Int) (i : Int) w h s d (c.take i) p z = some (w, h, s, d, c, p, z) := by
  intro e
  induction e with
  | zero =>
    intro k i he hi hk
    obtain ⟨k, rfl⟩ : ∃ m, k = m + 1 := ⟨k - 1, by omega⟩
    rw [target_Clone.l0, if_neg (by omega), Option.bind_some, List.nil_append, if_pos (by simp only [List.length_nil]; omega), Option.bind_some, List.nil_append, if_pos (by simp only [List.length_nil]; omega), show i = c.length by omega, List.take_length]
  | succ e ih =>
    intro k i he hi hk
    obtain ⟨k, rfl⟩ : ∃ m, k = m + 1 := ⟨k - 1, by omega⟩
    have hlt : i < c.length := by omega
    have hm := hcl c[i] (List.getElem_mem hlt)
    rw [target_Clone.l0, if_pos (by omega), if_pos (by omega), if_pos (by omega), rd47_nat c i hlt]
    unfold image_Clone.f
    rw [Option.bind_some, List.nil_append, if_pos (by simp only [List.length_nil]; omega), Option.bind_some, if_pos (by rw [List.length_take]; omega), wrap_in _ (by omega) (by omega)]
    simp only []
    have e1 : c.take i ++ [(⟨c[i].f0, c[i].f1, c[i].f2, c[i].f3⟩ : S47)] = c.take (i + 1) := by rw [List.take_succ_eq_append_getElem hlt]
    rw [e1]
    exact ih k (i + 1) (by omega) (by omega) (by omega)
theorem target_Clone_eq (w h s d : Int) (c : List S47) (p z : List Int) (hc : c.length ≤ 1000) (hcl : ∀ m ∈ c, m.f3.length ≤ 100000) (hp : p.length ≤ 100000) (hz : z.length ≤ 100000) (k : Nat) (hk : 1001 ≤ k) : target_Clone.f k w h s d c p z = some (w, h, s, d, c, p, z) := by
  unfold target_Clone.f
  exact clone_l0 w h s d c p z hc hcl hp hz c.length k 0 (by omega) (by omega) (by omega)
theorem sameInts_l0 (a b : List Int) (ha : a.length ≤ maxLen) (hb : a.length = b.length) : ∀ (d k i : Nat), a.length - i = d → i ≤ a.length → d < k → target_sameInts.l0 k a b (a.length : Int) (i : Int) = some (decide (a.drop i = b.drop i)) := by
  intro d
  induction d with
  | zero =>
    intro k i hd hi hk
    obtain ⟨k, rfl⟩ : ∃ m, k = m + 1 := ⟨k - 1, by omega⟩
    obtain rfl : i = a.length := by omega
    simp only [target_sameInts.l0]
    rw [if_neg (by omega), List.drop_length, hb, List.drop_length]
    rfl
  | succ d ih =>
    intro k i hd hi hk
    obtain ⟨k, rfl⟩ : ∃ m, k = m + 1 := ⟨k - 1, by omega⟩
    simp only [target_sameInts.l0]
    rw [if_pos (by omega), if_pos (by omega), if_pos (by omega), if_pos (by omega), wrap_succ a i ha (by omega), rd_nat a i (by omega), rd_nat b i (by omega), List.drop_eq_getElem_cons (show i < a.length by omega), List.drop_eq_getElem_cons (show i < b.length by omega)]
    by_cases e : a[i] = b[i]
    · rw [if_pos e, ih k (i + 1) (by omega) (by omega) (by omega)]
      simp only [List.cons.injEq, e, true_and]
    · rw [if_neg e]
      simp only [List.cons.injEq, e, false_and, decide_false]
theorem sameInts_eq (a b : List Int) (ha : a.length ≤ maxLen) (k : Nat) (hk : a.length < k) : target_sameInts.f k a b = some (decide (a = b)) := by
  unfold target_sameInts.f
  by_cases e : a.length = b.length
  · rw [if_pos (by omega)]
    have := sameInts_l0 a b ha e a.length k 0 (by omega) (by omega) hk
    simpa using this
  · rw [if_neg (by omega)]
    have : a ≠ b := fun h => e (by rw [h])
    simp [this]
theorem rsame_l0 (a b : List Int) (ha : a.length ≤ maxLen) (hb : a.length = b.length) : ∀ (d k i : Nat), a.length - i = d → i ≤ a.length → d < k → frustumref42_same.l0 k a b (i : Int) = some (decide (a.drop i = b.drop i)) := by
  intro d
  induction d with
  | zero =>
    intro k i hd hi hk
    obtain ⟨k, rfl⟩ : ∃ m, k = m + 1 := ⟨k - 1, by omega⟩
    obtain rfl : i = a.length := by omega
    simp only [frustumref42_same.l0]
    rw [if_neg (by omega), List.drop_length, hb, List.drop_length]
    rfl
  | succ d ih =>
    intro k i hd hi hk
    obtain ⟨k, rfl⟩ : ∃ m, k = m + 1 := ⟨k - 1, by omega⟩
    simp only [frustumref42_same.l0]
    rw [if_pos (by omega), if_pos (by omega), if_pos (by omega), wrap_succ a i ha (by omega), rd_nat a i (by omega), rd_nat b i (by omega), List.drop_eq_getElem_cons (show i < a.length by omega), List.drop_eq_getElem_cons (show i < b.length by omega)]
    by_cases e : a[i] = b[i]
    · rw [if_pos e, ih k (i + 1) (by omega) (by omega) (by omega)]
      simp only [List.cons.injEq, e, true_and]
    · rw [if_neg e]
      simp only [List.cons.injEq, e, false_and, decide_false]
theorem rsame_eq (a b : List Int) (ha : a.length ≤ maxLen) (k : Nat) (hk : a.length < k) : frustumref42_same.f k a b = some (decide (a = b)) := by
  unfold frustumref42_same.f
  by_cases e : a.length = b.length
  · rw [if_pos (by omega)]
    have := rsame_l0 a b ha e a.length k 0 (by omega) (by omega) hk
    simpa using this
  · rw [if_neg (by omega)]
    have : a ≠ b := fun h => e (by rw [h])
    simp [this]
/-- Two images are told equal. -/
def imgEqB (m n : S47) : Bool := m.f0 == n.f0 && (m.f1 == n.f1 && (m.f2 == n.f2 && ((strOfNums m.f3).toList == (strOfNums n.f3).toList)))
theorem imgEqB_refl (m : S47) : imgEqB m m = true := by unfold imgEqB; simp
theorem image_Equal_is (m n : S47) : image_Equal.f m.f0 m.f1 m.f2 m.f3 n.f0 n.f1 n.f2 n.f3 = some (imgEqB m n) ∧ frustumref10_Equal.f m.f0 m.f1 m.f2 m.f3 n.f0 n.f1 n.f2 n.f3 = some (imgEqB m n) := by
  unfold image_Equal.f frustumref10_Equal.f imgEqB
  by_cases h0 : m.f0 = n.f0
  · by_cases h1 : m.f1 = n.f1
    · by_cases h2 : m.f2 = n.f2
      · simp [h0, h1, h2]
      · simp [h0, h1, h2]
    · simp [h0, h1]
  · simp [h0]
def imgsB : List S47 → List S47 → Bool
  | m :: r, n :: q => imgEqB m n && imgsB r q
  | _, _ => true
theorem imgsB_refl (c : List S47) : imgsB c c = true := by
  induction c with
  | nil => rfl
  | cons m r ih => rw [imgsB, imgEqB_refl, ih]; rfl
theorem equal_l0 (w h s d w2 h2 s2 d2 : Int) (c c2 : List S47) (p z p2 z2 : List Int) (hc : c.length ≤ maxLen) (hcc : c.length = c2.length) (hp : p.length ≤ maxLen) (hz : z.length ≤ maxLen) : ∀ (e k i : Nat), c.length - i = e → i ≤ c.length → e + p.length + z.length + 2 ≤ k →
    target_Equal.l0 k (c.length : Int) (i : Int) w h s d c p z w2 h2 s2 d2 c2 p2 z2 = some (imgsB (c.drop i) (c2.drop i) && (decide (p = p2) && decide (z = z2))) ∧ frustumref42_Equal.l0 k (i : Int) w h s d c p z w2 h2 s2 d2 c2 p2 z2 = some (imgsB (c.drop i) (c2.drop i) && (decide (p = p2) && decide (z = z2))) := by
  intro e
  induction e with
  | zero =>
    intro k i he hi hk
    obtain ⟨k, rfl⟩ : ∃ m, k = m + 1 := ⟨k - 1, by omega⟩
    rw [target_Equal.l0, frustumref42_Equal.l0, if_neg (by omega), if_neg (by omega), sameInts_eq p p2 hp k (by omega), rsame_eq p p2 hp k (by omega), Option.bind_some, Option.bind_some, show c.drop i = [] from List.drop_of_length_le (by omega)]
    by_cases h1 : p = p2
    · rw [decide_eq_true h1, if_pos rfl, if_pos rfl, sameInts_eq z z2 hz k (by omega), rsame_eq z z2 hz k (by omega), Option.bind_some]
      exact ⟨by simp [imgsB], by simp [imgsB]⟩
    · rw [decide_eq_false h1]
      exact ⟨by simp, by simp⟩
  | succ e ih =>
    intro k i he hi hk
    obtain ⟨k, rfl⟩ : ∃ m, k = m + 1 := ⟨k - 1, by omega⟩
    have hlt : i < c.length := by omega
    have hlt2 : i < c2.length := by omega
    have hw : wrap64 ((i : Int) + 1) = ((i + 1 : Nat) : Int) := by
      simp only [maxLen] at hc
      rw [wrap_in _ (by omega) (by omega)]
      omega
    obtain ⟨i1, i2⟩ := ih k (i + 1) (by omega) (by omega) (by omega)
    rw [target_Equal.l0, frustumref42_Equal.l0, if_pos (by omega), if_pos (by omega), if_pos (by omega), if_pos (by omega), if_pos (by omega), if_pos (by omega), if_pos (by omega), rd47_nat c i hlt, rd47_nat c2 i hlt2, (image_Equal_is c[i] c2[i]).1, (image_Equal_is c[i] c2[i]).2, Option.bind_some, Option.bind_some, hw, i1, i2, List.drop_eq_getElem_cons hlt, List.drop_eq_getElem_cons hlt2, imgsB]
    cases imgEqB c[i] c2[i]
    · exact ⟨rfl, rfl⟩
    · exact ⟨rfl, rfl⟩
def eqB (w h s d : Int) (c : List S47) (p z : List Int) (w2 h2 s2 d2 : Int) (c2 : List S47) (p2 z2 : List Int) : Bool := w == w2 && (h == h2 && (s == s2 && (d == d2 && (decide (c.length = c2.length) && (imgsB c c2 && (decide (p = p2) && decide (z = z2)))))))
theorem eqB_refl (w h s d : Int) (c : List S47) (p z : List Int) : eqB w h s d c p z w h s d c p z = true := by unfold eqB; rw [imgsB_refl]; simp
theorem Equal_eq (w h s d w2 h2 s2 d2 : Int) (c c2 : List S47) (p z p2 z2 : List Int) (hc : c.length ≤ maxLen) (hp : p.length ≤ maxLen) (hz : z.length ≤ maxLen) (k : Nat) (hk : c.length + p.length + z.length + 10 ≤ k) :
    target_Equal.f k w h s d c p z w2 h2 s2 d2 c2 p2 z2 = some (eqB w h s d c p z w2 h2 s2 d2 c2 p2 z2) ∧ frustumref42_Equal.f k w h s d c p z w2 h2 s2 d2 c2 p2 z2 = some (eqB w h s d c p z w2 h2 s2 d2 c2 p2 z2) := by
  obtain ⟨k, rfl⟩ : ∃ m, k = m + 1 := ⟨k - 1, by omega⟩
  have j1 : target_Equal.j0 (k + 1) true w h s d c p z w2 h2 s2 d2 c2 p2 z2 = some false := by rw [target_Equal.j0, if_pos rfl]
  have j2 : frustumref42_Equal.j0 (k + 1) true w h s d c p z w2 h2 s2 d2 c2 p2 z2 = some false := by rw [frustumref42_Equal.j0, if_pos rfl]
  unfold target_Equal.f frustumref42_Equal.f eqB
  rw [j1, j2]
  by_cases h1 : w = w2
  · by_cases h3 : h = h2
    · by_cases h4 : s = s2
      · by_cases h5 : d = d2
        · rw [if_pos h1, if_pos h3, if_pos h4, if_pos h5, if_pos h1, if_pos h3, if_pos h4, if_pos h5, target_Equal.j0, frustumref42_Equal.j0]
          by_cases h6 : c.length = c2.length
          · obtain ⟨q1, q2⟩ := equal_l0 w h s d w2 h2 s2 d2 c c2 p z p2 z2 hc h6 hp hz c.length k 0 (by omega) (by omega) (by omega)
            rw [if_neg (by simp [h6]), if_neg (by simp [h6])]
            simp only [Int.natCast_zero, List.drop_zero] at q1 q2
            constructor
            · refine q1.trans ?_; simp [h1, h3, h4, h5, h6]
            · refine q2.trans ?_; simp [h1, h3, h4, h5, h6]
          · rw [if_pos (by simp; omega), if_pos (by simp; omega)]
            simp [h6]
        · simp [h1, h3, h4, h5]
      · simp [h1, h3, h4]
    · simp [h1, h3]
  · simp [h1]
theorem codec_Hash_eq42 (l : List Int) (hl : l.length ≤ maxLen) (k : Nat) (hk : l.length < k) : codec_Hash.f k l = some (hashS l 14695981039346656037) := by
  unfold codec_Hash.f
  have := codec_Hash_l0 l hl l.length k 0 14695981039346656037 (by omega) (by omega) hk
  simpa using this
theorem rHash_eq42 (l : List Int) (hl : l.length ≤ maxLen) (k : Nat) (hk : l.length < k) : frustumref05_Hash.f k l = some (hashS l 14695981039346656037) := by
  unfold frustumref05_Hash.f
  have := frustumref05_Hash_l0 l hl l.length k 0 14695981039346656037 (by omega) (by omega) hk
  simpa using this
/-- The bytes of a target's hash. -/
def dataS (c : List S47) : List Int := c.flatMap (fun m => m.f3)
theorem data_len (c : List S47) (hcl : ∀ m ∈ c, m.f3.length ≤ 100000) : (dataS c).length ≤ 100000 * c.length := by
  induction c with
  | nil => simp [dataS]
  | cons m r ih =>
    have h1 := hcl m List.mem_cons_self
    have h2 := ih (fun n hn => hcl n (List.mem_cons_of_mem _ hn))
    unfold dataS at *
    simp only [List.flatMap_cons, List.length_append, List.length_cons]
    omega
theorem encL_len (v : List Int) : (encL v).length ≤ 10 + 10 * v.length := by
  unfold encL
  have h1 := (encI_len v.length).2
  have h2 := flat_len v
  simp only [List.length_append]
  omega
theorem hash_end (acc p z : List Int) (ha : acc.length ≤ 200000000) (hp : p.length ≤ 100000) (hz : z.length ≤ 100000) (wp : ∀ x ∈ p, (Lit.int .i64 x).wf = true) (wz : ∀ x ∈ z, (Lit.int .i64 x).wf = true) (k : Nat) (hk : 300000000 ≤ k) :
    ((codec_AppendInts.f k acc p).bind fun t266 => ((codec_AppendInts.f k t266 z).bind fun t269 => ((codec_Hash.f k t269).bind fun t272 => (some t272)))) = some (hashS (acc ++ encL p ++ encL z) 14695981039346656037) ∧
    ((frustumref05_AppendInts.f k acc p).bind fun t331 => ((frustumref05_AppendInts.f k t331 z).bind fun t334 => ((frustumref05_Hash.f k t334).bind fun t337 => (some t337)))) = some (hashS (acc ++ encL p ++ encL z) 14695981039346656037) := by
  have h1 := encL_len p
  have h2 := encL_len z
  have h3 : (acc ++ encL p).length ≤ 1073741824 := by simp only [List.length_append]; omega
  have h4 : (acc ++ encL p ++ encL z).length ≤ 299999990 := by simp only [List.length_append]; omega
  rw [codec_AppendInts_eq acc p (by omega) (by omega) wp k (by omega), frustumref05_AppendInts_eq acc p (by omega) (by omega) wp k (by omega), Option.bind_some, Option.bind_some, codec_AppendInts_eq _ z h3 (by omega) wz k (by omega), frustumref05_AppendInts_eq _ z h3 (by omega) wz k (by omega), Option.bind_some, Option.bind_some, codec_Hash_eq42 _ (by simp only [maxLen]; omega) k (by omega), rHash_eq42 _ (by simp only [maxLen]; omega) k (by omega), Option.bind_some]
  exact ⟨rfl, rfl⟩
theorem hash_l1 (w h s d : Int) (c : List S47) (p z : List Int) (hc : c.length ≤ 1000) (hcl : ∀ m ∈ c, m.f3.length ≤ 100000) (hp : p.length ≤ 100000) (hz : z.length ≤ 100000) (wp : ∀ x ∈ p, (Lit.int .i64 x).wf = true) (wz : ∀ x ∈ z, (Lit.int .i64 x).wf = true) : ∀ (e k i : Nat) (acc : List Int), c.length - i = e → i ≤ c.length → acc.length ≤ 1000 + 100000 * i → e + 300000001 ≤ k →
    target_Hash.l1 k acc c (c.length : Int) (i : Int) w h s d c p z = some (hashS (acc ++ dataS (c.drop i) ++ encL p ++ encL z) 14695981039346656037) ∧ frustumref42_Hash.l0 k acc (i : Int) w h s d c p z = some (hashS (acc ++ dataS (c.drop i) ++ encL p ++ encL z) 14695981039346656037) := by
  intro e
  induction e with
  | zero =>
    intro k i acc he hi ha hk
    obtain ⟨k, rfl⟩ : ∃ m, k = m + 1 := ⟨k - 1, by omega⟩
    obtain ⟨q1, q2⟩ := hash_end acc p z (by omega) hp hz wp wz k (by omega)
    rw [target_Hash.l1, frustumref42_Hash.l0, if_neg (by omega), if_neg (by omega), q1, q2, show c.drop i = [] from List.drop_of_length_le (by omega)]
    simp only [dataS, List.flatMap_nil, List.append_nil, and_self]
  | succ e ih =>
    intro k i acc he hi ha hk
    obtain ⟨k, rfl⟩ : ∃ m, k = m + 1 := ⟨k - 1, by omega⟩
    have hlt : i < c.length := by omega
    have hm := hcl c[i] (List.getElem_mem hlt)
    have hw : wrap64 ((i : Int) + 1) = ((i + 1 : Nat) : Int) := by
      rw [wrap_in _ (by omega) (by omega)]
      omega
    obtain ⟨q1, q2⟩ := ih k (i + 1) (acc ++ c[i].f3) (by omega) (by omega) (by simp only [List.length_append]; omega) (by omega)
    rw [target_Hash.l1, frustumref42_Hash.l0, rd47_nat c i hlt, hw, if_pos (by omega), if_pos (by omega), if_pos (by omega), if_pos (by omega), if_pos (by omega), if_pos (by omega), if_pos (by omega), q1, q2, List.drop_eq_getElem_cons hlt]
    simp only [dataS, List.flatMap_cons, List.append_assoc, and_self]
def hash42 (w h s d : Int) (c : List S47) (p z : List Int) : Int := if validS w h s d c p z = true then hashS (encI w ++ encI h ++ encI s ++ encI d ++ dataS c ++ encL p ++ encL z) 14695981039346656037 else 0
theorem Hash_eq (w h s d : Int) (c : List S47) (p z : List Int) (hc : c.length ≤ 1000) (hcl : ∀ m ∈ c, m.f3.length ≤ 100000) (hp : p.length ≤ 100000) (hz : z.length ≤ 100000) (wp : ∀ x ∈ p, (Lit.int .i64 x).wf = true) (wz : ∀ x ∈ z, (Lit.int .i64 x).wf = true)
    (ww : (Lit.int .i64 w).wf = true) (wh : (Lit.int .i64 h).wf = true) (ws : (Lit.int .i64 s).wf = true) (wd : (Lit.int .i64 d).wf = true) (k : Nat) (hk : 300010000 ≤ k) :
    target_Hash.f k w h s d c p z = some (hash42 w h s d c p z) ∧ frustumref42_Hash.f k w h s d c p z = some (hash42 w h s d c p z) := by
  obtain ⟨a0, a1⟩ := wf_bounds ww
  obtain ⟨b0, b1⟩ := wf_bounds wh
  obtain ⟨c0, c1⟩ := wf_bounds ws
  obtain ⟨d0, d1⟩ := wf_bounds wd
  have l1 := (encI_len w).2
  have l2 := (encI_len h).2
  have l3 := (encI_len s).2
  have l4 := (encI_len d).2
  obtain ⟨k, rfl⟩ : ∃ m, k = m + 5 := ⟨k - 5, by omega⟩
  unfold target_Hash.f frustumref42_Hash.f hash42
  rw [target_Valid_eq w h s d c p z (by simp only [maxLen]; omega) (by simp only [maxLen]; omega) _ (by omega), frustumref42_Valid_eq w h s d c p z (by simp only [maxLen]; omega) (by simp only [maxLen]; omega) (by simp only [maxLen]; omega) _ (by omega), Option.bind_some, Option.bind_some, Option.bind_some]
  cases hv : validS w h s d c p z
  · exact ⟨rfl, rfl⟩
  · rw [if_pos rfl, if_pos rfl, if_pos rfl]
    constructor
    · obtain ⟨q1, _⟩ := hash_l1 w h s d c p z hc hcl hp hz wp wz c.length k 0 (encI w ++ encI h ++ encI s ++ encI d) (by omega) (by omega) (by simp only [List.length_append]; omega) (by omega)
      rw [List.drop_zero] at q1
      rw [target_Hash.l0, if_pos (by simp), if_pos (by decide), if_pos (by simp), show rd [w, h, s, d] 0 = w from rfl, codec_AppendInt_eq [] (by simp) w a0 a1 _ (by omega), Option.bind_some, show wrap64 (0 + 1) = 1 by decide +kernel,
        target_Hash.l0, if_pos (by simp), if_pos (by decide), if_pos (by simp), show rd [w, h, s, d] 1 = h from rfl, codec_AppendInt_eq _ (by simp only [List.nil_append]; omega) h b0 b1 _ (by omega), Option.bind_some, show wrap64 (1 + 1) = 2 by decide +kernel,
        target_Hash.l0, if_pos (by simp), if_pos (by decide), if_pos (by simp), show rd [w, h, s, d] 2 = s from rfl, codec_AppendInt_eq _ (by simp only [List.nil_append, List.length_append]; omega) s c0 c1 _ (by omega), Option.bind_some, show wrap64 (2 + 1) = 3 by decide +kernel,
        target_Hash.l0, if_pos (by simp), if_pos (by decide), if_pos (by simp), show rd [w, h, s, d] 3 = d from rfl, codec_AppendInt_eq _ (by simp only [List.nil_append, List.length_append]; omega) d d0 d1 _ (by omega), Option.bind_some, show wrap64 (3 + 1) = 4 by decide +kernel,
        target_Hash.l0, if_neg (by simp), List.nil_append]
      exact q1
    · obtain ⟨_, q2⟩ := hash_l1 w h s d c p z hc hcl hp hz wp wz c.length (k + 5) 0 (encI w ++ encI h ++ encI s ++ encI d) (by omega) (by omega) (by simp only [List.length_append]; omega) (by omega)
      rw [List.drop_zero] at q2
      rw [frustumref05_AppendInt_eq [] (by simp) w a0 a1 _ (by omega), Option.bind_some, frustumref05_AppendInt_eq _ (by simp only [List.nil_append]; omega) h b0 b1 _ (by omega), Option.bind_some, frustumref05_AppendInt_eq _ (by simp only [List.nil_append, List.length_append]; omega) s c0 c1 _ (by omega), Option.bind_some, frustumref05_AppendInt_eq _ (by simp only [List.nil_append, List.length_append]; omega) d d0 d1 _ (by omega), Option.bind_some, List.nil_append]
      exact q2
theorem small_true (w h s d : Int) (c : List S47) (p z : List Int) (hc : c.length ≤ 140737488351232) (hcl : ∀ m ∈ c, m.f3.length ≤ 140737488351232) : ∀ (e k i : Nat) (n : Int), c.length - i = e → i ≤ c.length → 0 ≤ n → n ≤ 9000000000000000000 → frustumlaw42_small.l0 k n (i : Int) w h s d c p z = some true →
    n ≤ 40000 ∧ (i < c.length → c.length ≤ 21) ∧ ∀ m ∈ c.drop i, m.f3.length ≤ 40000 := by
  intro e
  induction e with
  | zero =>
    intro k i n he hi hn0 hn h
    cases k with
    | zero => simp [frustumlaw42_small.l0] at h
    | succ k =>
      rw [frustumlaw42_small.l0, if_neg (by omega)] at h
      have h1 : n ≤ 40000 := by simpa using h
      refine ⟨h1, fun hh => by omega, ?_⟩
      rw [List.drop_of_length_le (by omega)]
      intro m hm
      simp at hm
  | succ e ih =>
    intro k i n he hi hn0 hn h
    cases k with
    | zero => simp [frustumlaw42_small.l0] at h
    | succ k =>
      have hlt : i < c.length := by omega
      have hm := hcl c[i] (List.getElem_mem hlt)
      have hw : Aside0 (wrap64 ((i : Int) + 1) = ((i + 1 : Nat) : Int)) := ⟨by
        rw [wrap_in _ (by omega) (by omega)]
        omega⟩
      rw [frustumlaw42_small.l0, if_pos (by omega), if_pos (by omega), rd47_nat c i hlt, hw.out, wrap_in (n + (c[i].f3.length : Int)) (by omega) (by omega)] at h
      by_cases h1 : n + (c[i].f3.length : Int) > 40000
      · rw [if_pos h1] at h; simp at h
      · rw [if_neg h1] at h
        by_cases h2 : (i : Int) > 20
        · rw [if_pos h2] at h; simp at h
        · rw [if_neg h2] at h
          clear hw
          obtain ⟨g1, g2, g3⟩ := ih k (i + 1) _ (by omega) (by omega) (by omega) (by omega) h
          refine ⟨by omega, fun _ => ?_, ?_⟩
          · by_cases h3 : i + 1 < c.length
            · exact g2 h3
            · omega
          · rw [List.drop_eq_getElem_cons hlt]
            intro m hm
            rcases List.mem_cons.1 hm with rfl | hm
            · omega
            · exact g3 m hm
theorem small_bounds (w h s d : Int) (c : List S47) (p z : List Int) (hc : c.length ≤ 140737488351232) (hcl : ∀ m ∈ c, m.f3.length ≤ 140737488351232) (hp : p.length ≤ 140737488351232) (hz : z.length ≤ 140737488351232) (k : Nat) (hs : frustumlaw42_small.f k w h s d c p z = some true) : c.length ≤ 1000 ∧ (∀ m ∈ c, m.f3.length ≤ 100000) ∧ p.length ≤ 100000 ∧ z.length ≤ 100000 := by
  unfold frustumlaw42_small.f at hs
  have e : wrap64 ((p.length : Int) + (z.length : Int)) = (p.length : Int) + (z.length : Int) := by
    exact wrap_in _ (by omega) (by omega)
  rw [e] at hs
  clear e
  obtain ⟨g1, g2, g3⟩ := small_true w h s d c p z hc hcl c.length k 0 _ (by omega) (by omega) (by omega) (by omega) hs
  rw [List.drop_zero] at g3
  refine ⟨?_, fun m hm => by have := g3 m hm; omega, by omega, by omega⟩
  by_cases h0 : 0 < c.length
  · have := g2 h0; omega
  · omega
set_option maxHeartbeats 8000000 in
set_option maxRecDepth 100000 in
theorem TargetEqual (t0 t1 t2 t3 : Int) (A4 : Option Addr) (c4 : Nat) (l4 : List S47) (A5 : Option Addr) (c5 : Nat) (l5 : List Int) (A6 : Option Addr) (c6 : Nat) (l6 : List Int) (u0 u1 u2 u3 : Int) (B4 : Option Addr) (d4 : Nat) (m4 : List S47) (B5 : Option Addr) (d5 : Nat) (m5 : List Int) (B6 : Option Addr) (d6 : Nat) (m6 : List Int) (w : World)
    (hr4 : Kd.C k47 w A4 l4.length l4) (hc4 : l4.length ≤ c4) (hr5 : Kd.C (Kd.int .i64) w A5 l5.length l5) (hc5 : l5.length ≤ c5) (hr6 : Kd.C (Kd.int .i64) w A6 l6.length l6) (hc6 : l6.length ≤ c6)
    (hu4 : Kd.C k47 w B4 m4.length m4) (hd4 : m4.length ≤ d4) (hu5 : Kd.C (Kd.int .i64) w B5 m5.length m5) (hd5 : m5.length ≤ d5) (hu6 : Kd.C (Kd.int .i64) w B6 m6.length m6) (hd6 : m6.length ≤ d6)
    (hm4 : l4.length ≤ 140737488351232) (hm : ∀ x ∈ l4, x.f3.length ≤ 140737488351232) (hm5 : l5.length ≤ 140737488351232) (hm6 : l6.length ≤ 140737488351232) (hn4 : m4.length ≤ maxLen)
    (wf0 : (Lit.int .i64 t0).wf = true) (wf1 : (Lit.int .i64 t1).wf = true) (wf2 : (Lit.int .i64 t2).wf = true) (wf3 : (Lit.int .i64 t3).wf = true) (wf5 : ∀ x ∈ l5, (Lit.int .i64 x).wf = true) (wf6 : ∀ x ∈ l6, (Lit.int .i64 x).wf = true) :
    Calls Try.prog 5 #[.agg #[.int .i64 t0, .int .i64 t1, .int .i64 t2, .int .i64 t3, .slice A4 l4.length c4, .slice A5 l5.length c5, .slice A6 l6.length c6], .agg #[.int .i64 u0, .int .i64 u1, .int .i64 u2, .int .i64 u3, .slice B4 m4.length d4, .slice B5 m5.length d5, .slice B6 m6.length d6]] w fun e w' => e = .returned (.bool true) ∧ Below w.heap.size w w' := by
  have hx4 : l4.length ≤ maxLen := by simp only [maxLen]; omega
  have hx5 : l5.length ≤ maxLen := by simp only [maxLen]; omega
  have hx6 : l6.length ≤ maxLen := by simp only [maxLen]; omega
  obtain ⟨s1, hs1⟩ := small_eq t0 t1 t2 t3 l4 l5 l6 hx4
  obtain ⟨s2, hs2⟩ := small_eq u0 u1 u2 u3 m4 m5 m6 hn4
  obtain ⟨K, hK⟩ : ∃ K, K = l4.length + l5.length + l6.length + m4.length + 400000000 := ⟨_, rfl⟩
  have SM1 := Aside0.mk (hs1 K (by omega))
  have SM2 := Aside0.mk (hs2 K (by omega))
  have EX := Aside0.mk (example42_eq K (by omega))
  have bounds : s1 = true → l4.length ≤ 1000 ∧ (∀ m ∈ l4, m.f3.length ≤ 100000) ∧ l5.length ≤ 100000 ∧ l6.length ≤ 100000 := by
    rintro rfl
    exact small_bounds t0 t1 t2 t3 l4 l5 l6 hm4 hm hm5 hm6 K SM1.out
  have HR4 := Aside0.mk hr4
  have HR5 := Aside0.mk hr5
  have HR6 := Aside0.mk hr6
  have HC4 := Aside0.mk hc4
  have HC5 := Aside0.mk hc5
  have HC6 := Aside0.mk hc6
  have HU4 := Aside0.mk hu4
  have HU5 := Aside0.mk hu5
  have HU6 := Aside0.mk hu6
  have HD4 := Aside0.mk hd4
  have HD5 := Aside0.mk hd5
  have HD6 := Aside0.mk hd6
  clear hr4 hr5 hr6 hc4 hc5 hc6 hu4 hu5 hu6 hd4 hd5 hd6 hs1 hs2
  have hu28 := Try.underlying28
  cases s1 with
  | false =>
    clear bounds hK hx4 hx5 hx6 hm4 hm5 hm6 hn4 hm wf0 wf1 wf2 wf3 wf5 wf6
    go_enter Try.func5, Try.ntmps5
    go_upto_region 1 with (fail)
    have HL : Aside0 (Owns w [(w.heap.size + 1, #[.int .i64 u0, .int .i64 u1, .int .i64 u2, .int .i64 u3, .slice B4 m4.length d4, .slice B5 m5.length d5, .slice B6 m6.length d6], 28), (w.heap.size, #[.int .i64 t0, .int .i64 t1, .int .i64 t2, .int .i64 t3, .slice A4 l4.length c4, .slice A5 l5.length c5, .slice A6 l6.length c6], 28)] ((w.alloc (Obj.cells #[.int .i64 t0, .int .i64 t1, .int .i64 t2, .int .i64 t3, .slice A4 l4.length c4, .slice A5 l5.length c5, .slice A6 l6.length c6] 28)).alloc (Obj.cells #[.int .i64 u0, .int .i64 u1, .int .i64 u2, .int .i64 u3, .slice B4 m4.length d4, .slice B5 m5.length d5, .slice B6 m6.length d6] 28))) := ⟨by simpa using ((Owns.start w).alloc _ _).alloc _ _⟩
    generalize ((w.alloc (Obj.cells #[.int .i64 t0, .int .i64 t1, .int .i64 t2, .int .i64 t3, .slice A4 l4.length c4, .slice A5 l5.length c5, .slice A6 l6.length c6] 28)).alloc (Obj.cells #[.int .i64 u0, .int .i64 u1, .int .i64 u2, .int .i64 u3, .slice B4 m4.length d4, .slice B5 m5.length d5, .slice B6 m6.length d6] 28)) = wa at HL ⊢
    have p0 := Owns.cell HL.out 1 _ _ 28 rfl 0 _ rfl
    have p1 := Owns.cell HL.out 1 _ _ 28 rfl 1 _ rfl
    have p2 := Owns.cell HL.out 1 _ _ 28 rfl 2 _ rfl
    have p3 := Owns.cell HL.out 1 _ _ 28 rfl 3 _ rfl
    have p4 := Owns.cell HL.out 1 _ _ 28 rfl 4 _ rfl
    have p5 := Owns.cell HL.out 1 _ _ 28 rfl 5 _ rfl
    have p6 := Owns.cell HL.out 1 _ _ 28 rfl 6 _ rfl
    go_wp2_with (first | (go_at_call 6; (with_reducible refine (frustumlaw42_small.calls K t0 t1 t2 t3 A4 c4 l4 A5 c5 l5 A6 c6 l6 false _ ?s4 HC4.out ?s5 HC5.out ?s6 HC6.out SM1.out).mono ?_); (case s4 => exact Kd.C_below HR4.out (by repeat (first | exact HL.out.bel | apply below_alloc | apply pw_below_drewN | apply below_drew1))); (case s5 => exact Kd.C_below HR5.out (by repeat (first | exact HL.out.bel | apply below_alloc | apply pw_below_drewN | apply below_drew1))); (case s6 => exact Kd.C_below HR6.out (by repeat (first | exact HL.out.bel | apply below_alloc | apply pw_below_drewN | apply below_drew1))); rintro e w1 ⟨rfl, hb⟩; have HT := Aside0.mk (Owns.step (by repeat (first | exact HL.out | (with_reducible apply Owns.drewN) | (with_reducible apply Owns.drew))) hb); clear HL hb; have HL := HT; clear HT) | (go_at_call 7; (with_reducible refine (frustumlaw42_example.calls K true _ EX.out).mono ?_); rintro e w9 ⟨rfl, hb⟩; have HT := Aside0.mk (Owns.step (by repeat (first | exact HL.out | (with_reducible apply Owns.drewN) | (with_reducible apply Owns.drew))) hb); clear HL hb; have HL := HT; clear HT))
    go_ret
    exact ⟨rfl, HL.out.bel⟩
  | true =>
    cases s2 with
    | false =>
      clear bounds hK hx4 hx5 hx6 hm4 hm5 hm6 hn4 hm wf0 wf1 wf2 wf3 wf5 wf6
      go_enter Try.func5, Try.ntmps5
      go_upto_region 1 with (fail)
      have HL : Aside0 (Owns w [(w.heap.size + 1, #[.int .i64 u0, .int .i64 u1, .int .i64 u2, .int .i64 u3, .slice B4 m4.length d4, .slice B5 m5.length d5, .slice B6 m6.length d6], 28), (w.heap.size, #[.int .i64 t0, .int .i64 t1, .int .i64 t2, .int .i64 t3, .slice A4 l4.length c4, .slice A5 l5.length c5, .slice A6 l6.length c6], 28)] ((w.alloc (Obj.cells #[.int .i64 t0, .int .i64 t1, .int .i64 t2, .int .i64 t3, .slice A4 l4.length c4, .slice A5 l5.length c5, .slice A6 l6.length c6] 28)).alloc (Obj.cells #[.int .i64 u0, .int .i64 u1, .int .i64 u2, .int .i64 u3, .slice B4 m4.length d4, .slice B5 m5.length d5, .slice B6 m6.length d6] 28))) := ⟨by simpa using ((Owns.start w).alloc _ _).alloc _ _⟩
      generalize ((w.alloc (Obj.cells #[.int .i64 t0, .int .i64 t1, .int .i64 t2, .int .i64 t3, .slice A4 l4.length c4, .slice A5 l5.length c5, .slice A6 l6.length c6] 28)).alloc (Obj.cells #[.int .i64 u0, .int .i64 u1, .int .i64 u2, .int .i64 u3, .slice B4 m4.length d4, .slice B5 m5.length d5, .slice B6 m6.length d6] 28)) = wa at HL ⊢
      have p0 := Owns.cell HL.out 1 _ _ 28 rfl 0 _ rfl
      have p1 := Owns.cell HL.out 1 _ _ 28 rfl 1 _ rfl
      have p2 := Owns.cell HL.out 1 _ _ 28 rfl 2 _ rfl
      have p3 := Owns.cell HL.out 1 _ _ 28 rfl 3 _ rfl
      have p4 := Owns.cell HL.out 1 _ _ 28 rfl 4 _ rfl
      have p5 := Owns.cell HL.out 1 _ _ 28 rfl 5 _ rfl
      have p6 := Owns.cell HL.out 1 _ _ 28 rfl 6 _ rfl
      go_wp2_with (first | (go_at_call 6; (with_reducible refine (frustumlaw42_small.calls K t0 t1 t2 t3 A4 c4 l4 A5 c5 l5 A6 c6 l6 true _ ?s4 HC4.out ?s5 HC5.out ?s6 HC6.out SM1.out).mono ?_); (case s4 => exact Kd.C_below HR4.out (by repeat (first | exact HL.out.bel | apply below_alloc | apply pw_below_drewN | apply below_drew1))); (case s5 => exact Kd.C_below HR5.out (by repeat (first | exact HL.out.bel | apply below_alloc | apply pw_below_drewN | apply below_drew1))); (case s6 => exact Kd.C_below HR6.out (by repeat (first | exact HL.out.bel | apply below_alloc | apply pw_below_drewN | apply below_drew1))); rintro e w1 ⟨rfl, hb⟩; have HT := Aside0.mk (Owns.step (by repeat (first | exact HL.out | (with_reducible apply Owns.drewN) | (with_reducible apply Owns.drew))) hb); clear HL hb; have HL := HT; clear HT; have q0 := Owns.cell HL.out 0 _ _ 28 rfl 0 _ rfl; have q1 := Owns.cell HL.out 0 _ _ 28 rfl 1 _ rfl; have q2 := Owns.cell HL.out 0 _ _ 28 rfl 2 _ rfl; have q3 := Owns.cell HL.out 0 _ _ 28 rfl 3 _ rfl; have q4 := Owns.cell HL.out 0 _ _ 28 rfl 4 _ rfl; have q5 := Owns.cell HL.out 0 _ _ 28 rfl 5 _ rfl; have q6 := Owns.cell HL.out 0 _ _ 28 rfl 6 _ rfl) | (go_at_call 6; (with_reducible refine (frustumlaw42_small.calls K u0 u1 u2 u3 B4 d4 m4 B5 d5 m5 B6 d6 m6 false _ ?z4 HD4.out ?z5 HD5.out ?z6 HD6.out SM2.out).mono ?_); (case z4 => exact Kd.C_below HU4.out (by repeat (first | exact HL.out.bel | apply below_alloc | apply pw_below_drewN | apply below_drew1))); (case z5 => exact Kd.C_below HU5.out (by repeat (first | exact HL.out.bel | apply below_alloc | apply pw_below_drewN | apply below_drew1))); (case z6 => exact Kd.C_below HU6.out (by repeat (first | exact HL.out.bel | apply below_alloc | apply pw_below_drewN | apply below_drew1))); rintro e w2 ⟨rfl, hb⟩; have HT := Aside0.mk (Owns.step (by repeat (first | exact HL.out | (with_reducible apply Owns.drewN) | (with_reducible apply Owns.drew))) hb); clear HL hb; have HL := HT; clear HT) | (go_at_call 7; (with_reducible refine (frustumlaw42_example.calls K true _ EX.out).mono ?_); rintro e w9 ⟨rfl, hb⟩; have HT := Aside0.mk (Owns.step (by repeat (first | exact HL.out | (with_reducible apply Owns.drewN) | (with_reducible apply Owns.drew))) hb); clear HL hb; have HL := HT; clear HT))
      go_ret
      exact ⟨rfl, HL.out.bel⟩
    | true =>
      obtain ⟨g1, g2, g3, g4⟩ := bounds rfl
      have CL := Aside0.mk (target_Clone_eq t0 t1 t2 t3 l4 l5 l6 g1 g2 g3 g4 K (by omega))
      obtain ⟨e1, e2⟩ := Equal_eq t0 t1 t2 t3 u0 u1 u2 u3 l4 m4 l5 l6 m5 m6 hx4 hx5 hx6 K (by omega)
      obtain ⟨e3, e4⟩ := Equal_eq t0 t1 t2 t3 t0 t1 t2 t3 l4 l4 l5 l6 l5 l6 hx4 hx5 hx6 K (by omega)
      obtain ⟨h1, h2⟩ := Hash_eq t0 t1 t2 t3 l4 l5 l6 g1 g2 g3 g4 wf5 wf6 wf0 wf1 wf2 wf3 K (by omega)
      rw [eqB_refl] at e3 e4
      generalize eqB t0 t1 t2 t3 l4 l5 l6 u0 u1 u2 u3 m4 m5 m6 = b at e1 e2
      generalize hash42 t0 t1 t2 t3 l4 l5 l6 = g at h1 h2
      have E1 := Aside0.mk e1
      have E2 := Aside0.mk e2
      have E3 := Aside0.mk e3
      have E4 := Aside0.mk e4
      have H1 := Aside0.mk h1
      have H2 := Aside0.mk h2
      clear e1 e2 e3 e4 h1 h2 g1 g2 g3 g4 bounds hK hx4 hx5 hx6 hm4 hm5 hm6 hn4 hm wf0 wf1 wf2 wf3 wf5 wf6
      go_enter Try.func5, Try.ntmps5
      go_upto_region 1 with (fail)
      have HL : Aside0 (Owns w [(w.heap.size + 1, #[.int .i64 u0, .int .i64 u1, .int .i64 u2, .int .i64 u3, .slice B4 m4.length d4, .slice B5 m5.length d5, .slice B6 m6.length d6], 28), (w.heap.size, #[.int .i64 t0, .int .i64 t1, .int .i64 t2, .int .i64 t3, .slice A4 l4.length c4, .slice A5 l5.length c5, .slice A6 l6.length c6], 28)] ((w.alloc (Obj.cells #[.int .i64 t0, .int .i64 t1, .int .i64 t2, .int .i64 t3, .slice A4 l4.length c4, .slice A5 l5.length c5, .slice A6 l6.length c6] 28)).alloc (Obj.cells #[.int .i64 u0, .int .i64 u1, .int .i64 u2, .int .i64 u3, .slice B4 m4.length d4, .slice B5 m5.length d5, .slice B6 m6.length d6] 28))) := ⟨by simpa using ((Owns.start w).alloc _ _).alloc _ _⟩
      generalize ((w.alloc (Obj.cells #[.int .i64 t0, .int .i64 t1, .int .i64 t2, .int .i64 t3, .slice A4 l4.length c4, .slice A5 l5.length c5, .slice A6 l6.length c6] 28)).alloc (Obj.cells #[.int .i64 u0, .int .i64 u1, .int .i64 u2, .int .i64 u3, .slice B4 m4.length d4, .slice B5 m5.length d5, .slice B6 m6.length d6] 28)) = wa at HL ⊢
      have p0 := Owns.cell HL.out 1 _ _ 28 rfl 0 _ rfl
      have p1 := Owns.cell HL.out 1 _ _ 28 rfl 1 _ rfl
      have p2 := Owns.cell HL.out 1 _ _ 28 rfl 2 _ rfl
      have p3 := Owns.cell HL.out 1 _ _ 28 rfl 3 _ rfl
      have p4 := Owns.cell HL.out 1 _ _ 28 rfl 4 _ rfl
      have p5 := Owns.cell HL.out 1 _ _ 28 rfl 5 _ rfl
      have p6 := Owns.cell HL.out 1 _ _ 28 rfl 6 _ rfl
      go_upto_region 3 with (first | (go_at_call 6; (with_reducible refine (frustumlaw42_small.calls K t0 t1 t2 t3 A4 c4 l4 A5 c5 l5 A6 c6 l6 true _ ?s4 HC4.out ?s5 HC5.out ?s6 HC6.out SM1.out).mono ?_); (case s4 => exact Kd.C_below HR4.out (by repeat (first | exact HL.out.bel | apply below_alloc | apply pw_below_drewN | apply below_drew1))); (case s5 => exact Kd.C_below HR5.out (by repeat (first | exact HL.out.bel | apply below_alloc | apply pw_below_drewN | apply below_drew1))); (case s6 => exact Kd.C_below HR6.out (by repeat (first | exact HL.out.bel | apply below_alloc | apply pw_below_drewN | apply below_drew1))); rintro e w1 ⟨rfl, hb⟩; have HT := Aside0.mk (Owns.step (by repeat (first | exact HL.out | (with_reducible apply Owns.drewN) | (with_reducible apply Owns.drew))) hb); clear HL hb; have HL := HT; clear HT; have q0 := Owns.cell HL.out 0 _ _ 28 rfl 0 _ rfl; have q1 := Owns.cell HL.out 0 _ _ 28 rfl 1 _ rfl; have q2 := Owns.cell HL.out 0 _ _ 28 rfl 2 _ rfl; have q3 := Owns.cell HL.out 0 _ _ 28 rfl 3 _ rfl; have q4 := Owns.cell HL.out 0 _ _ 28 rfl 4 _ rfl; have q5 := Owns.cell HL.out 0 _ _ 28 rfl 5 _ rfl; have q6 := Owns.cell HL.out 0 _ _ 28 rfl 6 _ rfl) | (go_at_call 6; (with_reducible refine (frustumlaw42_small.calls K u0 u1 u2 u3 B4 d4 m4 B5 d5 m5 B6 d6 m6 true _ ?z4 HD4.out ?z5 HD5.out ?z6 HD6.out SM2.out).mono ?_); (case z4 => exact Kd.C_below HU4.out (by repeat (first | exact HL.out.bel | apply below_alloc | apply pw_below_drewN | apply below_drew1))); (case z5 => exact Kd.C_below HU5.out (by repeat (first | exact HL.out.bel | apply below_alloc | apply pw_below_drewN | apply below_drew1))); (case z6 => exact Kd.C_below HU6.out (by repeat (first | exact HL.out.bel | apply below_alloc | apply pw_below_drewN | apply below_drew1))); rintro e w2 ⟨rfl, hb⟩; have HT := Aside0.mk (Owns.step (by repeat (first | exact HL.out | (with_reducible apply Owns.drewN) | (with_reducible apply Owns.drew))) hb); clear HL hb; have HL := HT; clear HT; have r0 := Owns.cell HL.out 1 _ _ 28 rfl 0 _ rfl; have r1 := Owns.cell HL.out 1 _ _ 28 rfl 1 _ rfl; have r2 := Owns.cell HL.out 1 _ _ 28 rfl 2 _ rfl; have r3 := Owns.cell HL.out 1 _ _ 28 rfl 3 _ rfl; have r4 := Owns.cell HL.out 1 _ _ 28 rfl 4 _ rfl; have r5 := Owns.cell HL.out 1 _ _ 28 rfl 5 _ rfl; have r6 := Owns.cell HL.out 1 _ _ 28 rfl 6 _ rfl))
      go_upto_region 4 with (go_at_call 15; (with_reducible refine (target_Clone.calls K t0 t1 t2 t3 A4 c4 l4 A5 c5 l5 A6 c6 l6 t0 t1 t2 t3 l4 l5 l6 _ ?s4 HC4.out ?s5 HC5.out ?s6 HC6.out CL.out).mono ?_); (case s4 => exact Kd.C_below HR4.out (by repeat (first | exact HL.out.bel | apply below_alloc | apply pw_below_drewN | apply below_drew1))); (case s5 => exact Kd.C_below HR5.out (by repeat (first | exact HL.out.bel | apply below_alloc | apply pw_below_drewN | apply below_drew1))); (case s6 => exact Kd.C_below HR6.out (by repeat (first | exact HL.out.bel | apply below_alloc | apply pw_below_drewN | apply below_drew1))); rintro e w3 ⟨v4, v5, v6, rfl, ho4, ho5, ho6, hb⟩; obtain ⟨a4, ac4, rfl, al4, ah4⟩ := Kd.S_reads ho4; obtain ⟨a5, ac5, rfl, al5, ah5⟩ := Kd.R_reads ho5; obtain ⟨a6, ac6, rfl, al6, ah6⟩ := Kd.R_reads ho6; have aH4 := Aside0.mk ah4; have aH5 := Aside0.mk ah5; have aH6 := Aside0.mk ah6; have aL4 := Aside0.mk al4; have aL5 := Aside0.mk al5; have aL6 := Aside0.mk al6; clear ho4 ho5 ho6 ah4 ah5 ah6 al4 al5 al6; have HT := Aside0.mk (Owns.step (by repeat (first | exact HL.out | (with_reducible apply Owns.drewN) | (with_reducible apply Owns.drew))) hb); clear HL hb; have HL := HT; clear HT; have aD := Aside0.mk (Below.refl w3.heap.size w3))
      have HT : Aside0 (Owns w [(w3.heap.size, #[.int .i64 t0, .int .i64 t1, .int .i64 t2, .int .i64 t3, .slice a4 l4.length ac4, .slice a5 l5.length ac5, .slice a6 l6.length ac6], 28), (w.heap.size + 1, #[.int .i64 u0, .int .i64 u1, .int .i64 u2, .int .i64 u3, .slice B4 m4.length d4, .slice B5 m5.length d5, .slice B6 m6.length d6], 28), (w.heap.size, #[.int .i64 t0, .int .i64 t1, .int .i64 t2, .int .i64 t3, .slice A4 l4.length c4, .slice A5 l5.length c5, .slice A6 l6.length c6], 28)] (w3.alloc (Obj.cells #[.int .i64 t0, .int .i64 t1, .int .i64 t2, .int .i64 t3, .slice a4 l4.length ac4, .slice a5 l5.length ac5, .slice a6 l6.length ac6] 28))) := ⟨by simpa using HL.out.alloc _ _⟩
      have aT : Aside0 (Below w3.heap.size w3 (w3.alloc (Obj.cells #[.int .i64 t0, .int .i64 t1, .int .i64 t2, .int .i64 t3, .slice a4 l4.length ac4, .slice a5 l5.length ac5, .slice a6 l6.length ac6] 28))) := ⟨(by repeat (first | exact aD.out | apply below_alloc | apply pw_below_drewN | apply below_drew1))⟩
      clear HL aD
      have HL := HT
      have aD := aT
      clear HT aT
      generalize (w3.alloc (Obj.cells #[.int .i64 t0, .int .i64 t1, .int .i64 t2, .int .i64 t3, .slice a4 l4.length ac4, .slice a5 l5.length ac5, .slice a6 l6.length ac6] 28)) = w13 at HL aD ⊢
      have hv : (b == b) = true := beq_self_eq_true b
      have hg : (g == g) = true := beq_self_eq_true g
      first | go_region_held3 (fun w' => w'.cell? ⟨w3.heap.size, 0, none⟩ = some (.int .i64 t0) ∧ w'.cell? ⟨w3.heap.size, 1, none⟩ = some (.int .i64 t1) ∧ w'.cell? ⟨w3.heap.size, 2, none⟩ = some (.int .i64 t2) ∧ w'.cell? ⟨w3.heap.size, 3, none⟩ = some (.int .i64 t3) ∧ w'.cell? ⟨w3.heap.size, 4, none⟩ = some (.slice a4 l4.length ac4) ∧ w'.cell? ⟨w3.heap.size, 5, none⟩ = some (.slice a5 l5.length ac5) ∧ w'.cell? ⟨w3.heap.size, 6, none⟩ = some (.slice a6 l6.length ac6) ∧ w'.cell? ⟨w.heap.size + 1, 0, none⟩ = some (.int .i64 u0) ∧ w'.cell? ⟨w.heap.size + 1, 1, none⟩ = some (.int .i64 u1) ∧ w'.cell? ⟨w.heap.size + 1, 2, none⟩ = some (.int .i64 u2) ∧ w'.cell? ⟨w.heap.size + 1, 3, none⟩ = some (.int .i64 u3) ∧ w'.cell? ⟨w.heap.size + 1, 4, none⟩ = some (.slice B4 m4.length d4) ∧ w'.cell? ⟨w.heap.size + 1, 5, none⟩ = some (.slice B5 m5.length d5) ∧ w'.cell? ⟨w.heap.size + 1, 6, none⟩ = some (.slice B6 m6.length d6) ∧ w'.cell? ⟨w.heap.size, 0, none⟩ = some (.int .i64 t0) ∧ w'.cell? ⟨w.heap.size, 1, none⟩ = some (.int .i64 t1) ∧ w'.cell? ⟨w.heap.size, 2, none⟩ = some (.int .i64 t2) ∧ w'.cell? ⟨w.heap.size, 3, none⟩ = some (.int .i64 t3) ∧ w'.cell? ⟨w.heap.size, 4, none⟩ = some (.slice A4 l4.length c4) ∧ w'.cell? ⟨w.heap.size, 5, none⟩ = some (.slice A5 l5.length c5) ∧ w'.cell? ⟨w.heap.size, 6, none⟩ = some (.slice A6 l6.length c6)) (first | exact ⟨Owns.cell HL.out 0 _ _ 28 rfl 0 _ rfl, Owns.cell HL.out 0 _ _ 28 rfl 1 _ rfl, Owns.cell HL.out 0 _ _ 28 rfl 2 _ rfl, Owns.cell HL.out 0 _ _ 28 rfl 3 _ rfl, Owns.cell HL.out 0 _ _ 28 rfl 4 _ rfl, Owns.cell HL.out 0 _ _ 28 rfl 5 _ rfl, Owns.cell HL.out 0 _ _ 28 rfl 6 _ rfl, Owns.cell HL.out 1 _ _ 28 rfl 0 _ rfl, Owns.cell HL.out 1 _ _ 28 rfl 1 _ rfl, Owns.cell HL.out 1 _ _ 28 rfl 2 _ rfl, Owns.cell HL.out 1 _ _ 28 rfl 3 _ rfl, Owns.cell HL.out 1 _ _ 28 rfl 4 _ rfl, Owns.cell HL.out 1 _ _ 28 rfl 5 _ rfl, Owns.cell HL.out 1 _ _ 28 rfl 6 _ rfl, Owns.cell HL.out 2 _ _ 28 rfl 0 _ rfl, Owns.cell HL.out 2 _ _ 28 rfl 1 _ rfl, Owns.cell HL.out 2 _ _ 28 rfl 2 _ rfl, Owns.cell HL.out 2 _ _ 28 rfl 3 _ rfl, Owns.cell HL.out 2 _ _ 28 rfl 4 _ rfl, Owns.cell HL.out 2 _ _ 28 rfl 5 _ rfl, Owns.cell HL.out 2 _ _ 28 rfl 6 _ rfl⟩ | go_keep) (first | (go_at_call 16; (with_reducible refine (target_Equal.calls K t0 t1 t2 t3 A4 c4 l4 A5 c5 l5 A6 c6 l6 u0 u1 u2 u3 B4 d4 m4 B5 d5 m5 B6 d6 m6 b _ ?x4 HC4.out ?x5 HC5.out ?x6 HC6.out ?y4 HD4.out ?y5 HD5.out ?y6 HD6.out E1.out).mono ?_); (case x4 => exact Kd.C_below HR4.out (by repeat (first | exact HL.out.bel | apply below_alloc | apply pw_below_drewN | apply below_drew1))); (case x5 => exact Kd.C_below HR5.out (by repeat (first | exact HL.out.bel | apply below_alloc | apply pw_below_drewN | apply below_drew1))); (case x6 => exact Kd.C_below HR6.out (by repeat (first | exact HL.out.bel | apply below_alloc | apply pw_below_drewN | apply below_drew1))); (case y4 => exact Kd.C_below HU4.out (by repeat (first | exact HL.out.bel | apply below_alloc | apply pw_below_drewN | apply below_drew1))); (case y5 => exact Kd.C_below HU5.out (by repeat (first | exact HL.out.bel | apply below_alloc | apply pw_below_drewN | apply below_drew1))); (case y6 => exact Kd.C_below HU6.out (by repeat (first | exact HL.out.bel | apply below_alloc | apply pw_below_drewN | apply below_drew1))); rintro e w4 ⟨rfl, hb⟩; have aDT := Aside0.mk (below_step (by repeat (first | exact aD.out | apply below_alloc | apply pw_below_drewN | apply below_drew1)) hb); clear aD; have aD := aDT; clear aDT; have HT := Aside0.mk (Owns.step (by repeat (first | exact HL.out | (with_reducible apply Owns.drewN) | (with_reducible apply Owns.drew))) hb); clear HL hb; have HL := HT; clear HT) | (go_at_call 10; (with_reducible refine (frustumref42_Equal.calls K t0 t1 t2 t3 A4 c4 l4 A5 c5 l5 A6 c6 l6 u0 u1 u2 u3 B4 d4 m4 B5 d5 m5 B6 d6 m6 b _ ?x4 HC4.out ?x5 HC5.out ?x6 HC6.out ?y4 HD4.out ?y5 HD5.out ?y6 HD6.out E2.out).mono ?_); (case x4 => exact Kd.C_below HR4.out (by repeat (first | exact HL.out.bel | apply below_alloc | apply pw_below_drewN | apply below_drew1))); (case x5 => exact Kd.C_below HR5.out (by repeat (first | exact HL.out.bel | apply below_alloc | apply pw_below_drewN | apply below_drew1))); (case x6 => exact Kd.C_below HR6.out (by repeat (first | exact HL.out.bel | apply below_alloc | apply pw_below_drewN | apply below_drew1))); (case y4 => exact Kd.C_below HU4.out (by repeat (first | exact HL.out.bel | apply below_alloc | apply pw_below_drewN | apply below_drew1))); (case y5 => exact Kd.C_below HU5.out (by repeat (first | exact HL.out.bel | apply below_alloc | apply pw_below_drewN | apply below_drew1))); (case y6 => exact Kd.C_below HU6.out (by repeat (first | exact HL.out.bel | apply below_alloc | apply pw_below_drewN | apply below_drew1))); rintro e w5 ⟨rfl, hb⟩; have aDT := Aside0.mk (below_step (by repeat (first | exact aD.out | apply below_alloc | apply pw_below_drewN | apply below_drew1)) hb); clear aD; have aD := aDT; clear aDT; have HT := Aside0.mk (Owns.step (by repeat (first | exact HL.out | (with_reducible apply Owns.drewN) | (with_reducible apply Owns.drew))) hb); clear HL hb; have HL := HT; clear HT) | (go_at_call 16; (with_reducible refine (target_Equal.calls K t0 t1 t2 t3 A4 c4 l4 A5 c5 l5 A6 c6 l6 t0 t1 t2 t3 a4 ac4 l4 a5 ac5 l5 a6 ac6 l6 true _ ?x4 HC4.out ?x5 HC5.out ?x6 HC6.out ?y4 aL4.out ?y5 aL5.out ?y6 aL6.out E3.out).mono ?_); (case x4 => exact Kd.C_below HR4.out (by repeat (first | exact HL.out.bel | apply below_alloc | apply pw_below_drewN | apply below_drew1))); (case x5 => exact Kd.C_below HR5.out (by repeat (first | exact HL.out.bel | apply below_alloc | apply pw_below_drewN | apply below_drew1))); (case x6 => exact Kd.C_below HR6.out (by repeat (first | exact HL.out.bel | apply below_alloc | apply pw_below_drewN | apply below_drew1))); (case y4 => exact Kd.C_below aH4.out (by repeat (first | exact aD.out | apply below_alloc | apply pw_below_drewN | apply below_drew1))); (case y5 => exact Kd.C_below aH5.out (by repeat (first | exact aD.out | apply below_alloc | apply pw_below_drewN | apply below_drew1))); (case y6 => exact Kd.C_below aH6.out (by repeat (first | exact aD.out | apply below_alloc | apply pw_below_drewN | apply below_drew1))); rintro e w6 ⟨rfl, hb⟩; have aDT := Aside0.mk (below_step (by repeat (first | exact aD.out | apply below_alloc | apply pw_below_drewN | apply below_drew1)) hb); clear aD; have aD := aDT; clear aDT; have HT := Aside0.mk (Owns.step (by repeat (first | exact HL.out | (with_reducible apply Owns.drewN) | (with_reducible apply Owns.drew))) hb); clear HL hb; have HL := HT; clear HT) | (go_at_call 10; (with_reducible refine (frustumref42_Equal.calls K t0 t1 t2 t3 A4 c4 l4 A5 c5 l5 A6 c6 l6 t0 t1 t2 t3 a4 ac4 l4 a5 ac5 l5 a6 ac6 l6 true _ ?x4 HC4.out ?x5 HC5.out ?x6 HC6.out ?y4 aL4.out ?y5 aL5.out ?y6 aL6.out E4.out).mono ?_); (case x4 => exact Kd.C_below HR4.out (by repeat (first | exact HL.out.bel | apply below_alloc | apply pw_below_drewN | apply below_drew1))); (case x5 => exact Kd.C_below HR5.out (by repeat (first | exact HL.out.bel | apply below_alloc | apply pw_below_drewN | apply below_drew1))); (case x6 => exact Kd.C_below HR6.out (by repeat (first | exact HL.out.bel | apply below_alloc | apply pw_below_drewN | apply below_drew1))); (case y4 => exact Kd.C_below aH4.out (by repeat (first | exact aD.out | apply below_alloc | apply pw_below_drewN | apply below_drew1))); (case y5 => exact Kd.C_below aH5.out (by repeat (first | exact aD.out | apply below_alloc | apply pw_below_drewN | apply below_drew1))); (case y6 => exact Kd.C_below aH6.out (by repeat (first | exact aD.out | apply below_alloc | apply pw_below_drewN | apply below_drew1))); rintro e w7 ⟨rfl, hb⟩; have aDT := Aside0.mk (below_step (by repeat (first | exact aD.out | apply below_alloc | apply pw_below_drewN | apply below_drew1)) hb); clear aD; have aD := aDT; clear aDT; have HT := Aside0.mk (Owns.step (by repeat (first | exact HL.out | (with_reducible apply Owns.drewN) | (with_reducible apply Owns.drew))) hb); clear HL hb; have HL := HT; clear HT) | (go_at_call 17; (with_reducible refine (target_Hash.calls K t0 t1 t2 t3 A4 c4 l4 A5 c5 l5 A6 c6 l6 g _ ?s4 HC4.out ?s5 HC5.out ?s6 HC6.out H1.out).mono ?_); (case s4 => exact Kd.C_below HR4.out (by repeat (first | exact HL.out.bel | apply below_alloc | apply pw_below_drewN | apply below_drew1))); (case s5 => exact Kd.C_below HR5.out (by repeat (first | exact HL.out.bel | apply below_alloc | apply pw_below_drewN | apply below_drew1))); (case s6 => exact Kd.C_below HR6.out (by repeat (first | exact HL.out.bel | apply below_alloc | apply pw_below_drewN | apply below_drew1))); rintro e w8 ⟨rfl, hb⟩; have aDT := Aside0.mk (below_step (by repeat (first | exact aD.out | apply below_alloc | apply pw_below_drewN | apply below_drew1)) hb); clear aD; have aD := aDT; clear aDT; have HT := Aside0.mk (Owns.step (by repeat (first | exact HL.out | (with_reducible apply Owns.drewN) | (with_reducible apply Owns.drew))) hb); clear HL hb; have HL := HT; clear HT) | (go_at_call 18; (with_reducible refine (frustumref42_Hash.calls K t0 t1 t2 t3 A4 c4 l4 A5 c5 l5 A6 c6 l6 g _ ?s4 HC4.out ?s5 HC5.out ?s6 HC6.out H2.out).mono ?_); (case s4 => exact Kd.C_below HR4.out (by repeat (first | exact HL.out.bel | apply below_alloc | apply pw_below_drewN | apply below_drew1))); (case s5 => exact Kd.C_below HR5.out (by repeat (first | exact HL.out.bel | apply below_alloc | apply pw_below_drewN | apply below_drew1))); (case s6 => exact Kd.C_below HR6.out (by repeat (first | exact HL.out.bel | apply below_alloc | apply pw_below_drewN | apply below_drew1))); rintro e w10 ⟨rfl, hb⟩; have aDT := Aside0.mk (below_step (by repeat (first | exact aD.out | apply below_alloc | apply pw_below_drewN | apply below_drew1)) hb); clear aD; have aD := aDT; clear aDT; have HT := Aside0.mk (Owns.step (by repeat (first | exact HL.out | (with_reducible apply Owns.drewN) | (with_reducible apply Owns.drew))) hb); clear HL hb; have HL := HT; clear HT) | (go_at_call 17; (with_reducible refine (target_Hash.calls K t0 t1 t2 t3 a4 ac4 l4 a5 ac5 l5 a6 ac6 l6 g _ ?s4 aL4.out ?s5 aL5.out ?s6 aL6.out H1.out).mono ?_); (case s4 => exact Kd.C_below aH4.out (by repeat (first | exact aD.out | apply below_alloc | apply pw_below_drewN | apply below_drew1))); (case s5 => exact Kd.C_below aH5.out (by repeat (first | exact aD.out | apply below_alloc | apply pw_below_drewN | apply below_drew1))); (case s6 => exact Kd.C_below aH6.out (by repeat (first | exact aD.out | apply below_alloc | apply pw_below_drewN | apply below_drew1))); rintro e w11 ⟨rfl, hb⟩; have aDT := Aside0.mk (below_step (by repeat (first | exact aD.out | apply below_alloc | apply pw_below_drewN | apply below_drew1)) hb); clear aD; have aD := aDT; clear aDT; have HT := Aside0.mk (Owns.step (by repeat (first | exact HL.out | (with_reducible apply Owns.drewN) | (with_reducible apply Owns.drew))) hb); clear HL hb; have HL := HT; clear HT) | (go_at_call 7; (with_reducible refine (frustumlaw42_example.calls K true _ EX.out).mono ?_); rintro e w12 ⟨rfl, hb⟩; have aDT := Aside0.mk (below_step (by repeat (first | exact aD.out | apply below_alloc | apply pw_below_drewN | apply below_drew1)) hb); clear aD; have aD := aDT; clear aDT; have HT := Aside0.mk (Owns.step (by repeat (first | exact HL.out | (with_reducible apply Owns.drewN) | (with_reducible apply Owns.drew))) hb); clear HL hb; have HL := HT; clear HT)) | fail
      go_wp2
      go_ret
      exact ⟨rfl, HL.out.bel⟩

end Go.Proofs.Ytmpmennepjkocaa.Pure
