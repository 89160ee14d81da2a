/- DepthMonotonic: for every format and all numbers, Quantize is monotonic, and its results lie between 0 and Max. No condition. -/
import Derived.Test.YtcpphnecjeohnaaPDepthMonotonicx1
import Derived.Laws.BitsLemmas
namespace Go.Proofs.Ytcpphnecjeohnaa.Pure
set_option linter.unusedVariables false
set_option linter.unusedSimpArgs false
open Go.RowKit Go.Proofs.Ytcpphnecjeohnaa.PDepthMonotonic Go.Proofs.YtcpphnecjeohnaaW.PrintWords Go.Proofs.YtcpphnecjeohnaaW.PrintLast Go.Proofs.YtcpphnecjeohnaaW.PrintMore
/-! numbers -/
theorem and_mask (j : Nat) (hj : j ≤ 63) (n : Int) : Go.bits .and .i64 n (2 ^ j - 1) = n % 2 ^ j := by
  have hp : (2 : Nat) ^ j ≤ 2 ^ 63 := Nat.pow_le_pow_right (by decide) hj
  have hpos : 0 < (2 : Nat) ^ j := Nat.two_pow_pos j
  have hm : (BitVec.ofInt 64 ((2 : Int) ^ j - 1)).toNat = 2 ^ j - 1 := by
    have hc : ((2 : Int) ^ j - 1) = ((2 ^ j - 1 : Nat) : Int) := by rw [Int.natCast_sub hpos]; simp
    rw [hc, BitVec.ofInt_natCast, BitVec.toNat_ofNat]
    exact Nat.mod_eq_of_lt (by omega)
  have key : (BitVec.ofInt 64 n &&& BitVec.ofInt 64 ((2 : Int) ^ j - 1)).toNat = (n % ((2 ^ 64 : Nat) : Int)).toNat % 2 ^ j := by
    rw [BitVec.toNat_and, BitVec.toNat_ofInt, hm, Nat.and_two_pow_sub_one_eq_mod]
  show IntKind.i64.wrap ((BitVec.ofInt 64 n &&& BitVec.ofInt 64 ((2 : Int) ^ j - 1)).toNat : Nat) = n % 2 ^ j
  rw [key, Go.IntKind.wrap_i64]
  have hlt := Nat.mod_lt (n % ((2 ^ 64 : Nat) : Int)).toNat hpos
  have h1 : (((n % ((2 ^ 64 : Nat) : Int)).toNat % 2 ^ j : Nat) : Int) = n % 2 ^ j := by
    rw [Int.natCast_emod, Int.toNat_of_nonneg (Int.emod_nonneg _ (by decide))]
    rw [Int.natCast_pow]
    refine Int.emod_emod_of_dvd n ?_
    have : (2 : Int) ^ 64 = 2 ^ j * 2 ^ (64 - j) := by rw [← Int.pow_add]; congr 1; omega
    exact ⟨2 ^ (64 - j), by exact_mod_cast this⟩
  rw [← h1]
  omega
theorem and255 (n : Int) : Go.bits .and .i64 n 255 = n % 256 := and_mask 8 (by decide) n
theorem bits_i64_nat (a b : Nat) (ha : a < 2 ^ 63) (hb : b < 2 ^ 63) : Go.bits .and .i64 a b = ((a &&& b : Nat) : Int) ∧ Go.bits .or .i64 a b = ((a ||| b : Nat) : Int) :=
  Go.bits_nat .i64 63 (by decide) (fun n h0 h1 => by rw [Go.IntKind.wrap_i64]; omega) a b ha hb
/-- only the lowest bits count where the mask is small. -/
theorem and_low (j : Nat) (hj : j ≤ 63) (n m : Int) (h0 : 0 ≤ m) (h1 : m < 2 ^ j) : Go.bits .and .i64 n m = Go.bits .and .i64 (n % 2 ^ j) m := by
  obtain ⟨b, rfl⟩ := Int.eq_ofNat_of_zero_le h0
  have hb : b < 2 ^ j := by exact_mod_cast h1
  have hp : (2 : Nat) ^ j ≤ 2 ^ 63 := Nat.pow_le_pow_right (by decide) hj
  have hpos : 0 < (2 : Nat) ^ j := Nat.two_pow_pos j
  have hmm : ∀ x : Nat, x &&& b = (x % 2 ^ j) &&& b := by
    intro x
    rw [← Nat.and_two_pow_sub_one_eq_mod, Nat.and_assoc]
    congr 1
    rw [Nat.and_comm, Nat.and_two_pow_sub_one_eq_mod, Nat.mod_eq_of_lt hb]
  show IntKind.i64.wrap ((BitVec.ofInt 64 n &&& BitVec.ofInt 64 (b : Int)).toNat : Nat) = IntKind.i64.wrap ((BitVec.ofInt 64 (n % 2 ^ j) &&& BitVec.ofInt 64 (b : Int)).toNat : Nat)
  rw [BitVec.toNat_and, BitVec.toNat_and, BitVec.ofInt_natCast, BitVec.toNat_ofNat, Nat.mod_eq_of_lt (show b < 2 ^ 64 by omega), BitVec.toNat_ofInt, BitVec.toNat_ofInt]
  rw [hmm, hmm ((n % 2 ^ j) % ((2 ^ 64 : Nat) : Int)).toNat]
  congr 3
  have e : ∀ z : Int, ((z % ((2 ^ 64 : Nat) : Int)).toNat % 2 ^ j : Nat) = (z % 2 ^ j).toNat := by
    intro z
    have h1 : (((z % ((2 ^ 64 : Nat) : Int)).toNat % 2 ^ j : Nat) : Int) = z % 2 ^ j := by
      rw [Int.natCast_emod, Int.toNat_of_nonneg (Int.emod_nonneg _ (by decide)), Int.natCast_pow]
      refine Int.emod_emod_of_dvd z ?_
      have : (2 : Int) ^ 64 = 2 ^ j * 2 ^ (64 - j) := by rw [← Int.pow_add]; congr 1; omega
      exact ⟨2 ^ (64 - j), by exact_mod_cast this⟩
    omega
  rw [e, e, Int.emod_emod_of_dvd n (Int.dvd_refl _)]
theorem wrap_in (x : Int) (h0 : -9223372036854775808 ≤ x) (h1 : x ≤ 9223372036854775807) : wrap64 x = x := by unfold wrap64; omega
theorem wf_bounds {a : Int} (h : (Lit.int .i64 a).wf = true) : -9223372036854775808 ≤ a ∧ a ≤ 9223372036854775807 := by
  simpa [Lit.wf, IntKind.min, IntKind.max, IntKind.signed, IntKind.bits] using h
theorem u64_wrap (x : Int) : IntKind.u64.wrap x = x % 18446744073709551616 := by simp [IntKind.wrap, IntKind.bits, IntKind.signed]
def rdiv0 (n d : Int) : Int := (2 * n + d) / (2 * d)
def rdiv (n d : Int) : Int := if d < 1 ∨ d > 4611686018427387904 ∨ n < -4611686018427387904 ∨ n > 4611686018427387904 then 0 else if n < 0 then -rdiv0 (-n) d else rdiv0 n d
theorem rdiv0_le (n d : Int) (h0 : 0 ≤ n) (hd : 1 ≤ d) : 0 ≤ rdiv0 n d ∧ rdiv0 n d ≤ n + 1 := by
  unfold rdiv0
  refine ⟨Int.ediv_nonneg (by omega) (by omega), ?_⟩
  refine Int.ediv_le_of_le_mul (by omega) ?_
  have : n * 1 ≤ n * d := Int.mul_le_mul_of_nonneg_left hd h0
  have e : (n + 1) * (2 * d) = 2 * (n * d) + 2 * d := by rw [Int.add_mul, Int.mul_left_comm, Int.one_mul]
  omega
theorem rdiv0_alt (n d : Int) (h0 : 0 ≤ n) (hd : 1 ≤ d) : rdiv0 n d = if n % d ≥ d - n % d then n / d + 1 else n / d := by
  unfold rdiv0
  have hr0 := Int.emod_nonneg n (show d ≠ 0 by omega)
  have hr1 := Int.emod_lt_of_pos n (show 0 < d by omega)
  have hq := Int.mul_ediv_add_emod n d
  generalize n % d = r at *
  generalize n / d = q at *
  have e1 : 2 * d * q = 2 * (d * q) := Int.mul_assoc 2 d q
  split
  · have e2 : 2 * d * (q + 1) = 2 * (d * q) + 2 * d := by rw [Int.mul_add, e1]; omega
    have h1 : q + 1 ≤ (2 * n + d) / (2 * d) := Int.le_ediv_of_mul_le (by omega) (by rw [Int.mul_comm, e2]; omega)
    have h2 : (2 * n + d) / (2 * d) < q + 1 + 1 := Int.ediv_lt_of_lt_mul (by omega) (by rw [Int.mul_comm (q + 1 + 1), Int.mul_add, e2]; omega)
    omega
  · have h1 : q ≤ (2 * n + d) / (2 * d) := Int.le_ediv_of_mul_le (by omega) (by rw [Int.mul_comm, e1]; omega)
    have h2 : (2 * n + d) / (2 * d) < q + 1 := Int.ediv_lt_of_lt_mul (by omega) (by rw [Int.mul_comm (q + 1), Int.mul_add, e1]; omega)
    omega
theorem fixed_RoundDiv_pos (k : Nat) (n d : Int) (hk : 2 ≤ k) (h0 : 0 ≤ n) (h1 : n ≤ 4611686018427387904) (hd : 1 ≤ d) (hd1 : d ≤ 4611686018427387904) : fixed_RoundDiv.f k n d = some (rdiv0 n d) := by
  obtain ⟨k, rfl⟩ : ∃ m, k = m + 2 := ⟨k - 2, by omega⟩
  simp only [fixed_RoundDiv.f, fixed_RoundDiv.j0]
  have hb := rdiv0_le n d h0 hd
  rw [if_neg (by omega), if_neg (by omega), if_neg (by omega), decide_eq_false (by omega)]
  rw [if_neg (by decide), if_neg (by omega)]
  have e1 : IntKind.u64.wrap d = d := by rw [u64_wrap]; omega
  have e2 : IntKind.u64.wrap n = n := by rw [u64_wrap]; omega
  rw [e1, e2]
  have e3 : IntKind.u64.wrap (2 * d) = 2 * d := by rw [u64_wrap]; omega
  have e4 : IntKind.u64.wrap (2 * n) = 2 * n := by rw [u64_wrap]; omega
  rw [e3, e4]
  have e5 : IntKind.u64.wrap (2 * n + d) = 2 * n + d := by rw [u64_wrap]; omega
  rw [e5, if_neg (by omega), Int.tdiv_eq_ediv_of_nonneg (by omega)]
  show some (wrap64 (IntKind.u64.wrap (rdiv0 n d))) = some (rdiv0 n d)
  have e6 : IntKind.u64.wrap (rdiv0 n d) = rdiv0 n d := by rw [u64_wrap]; omega
  rw [e6, wrap_in _ (by omega) (by omega)]
theorem fixed_RoundDiv_eq (k : Nat) (n d : Int) (hk : 4 ≤ k) : fixed_RoundDiv.f k n d = some (rdiv n d) := by
  unfold rdiv
  split
  · rename_i h
    obtain ⟨k, rfl⟩ : ∃ m, k = m + 2 := ⟨k - 2, by omega⟩
    simp only [fixed_RoundDiv.f, fixed_RoundDiv.j0]
    by_cases h1 : d < 1
    · rw [if_pos h1, if_pos trivial]
    · rw [if_neg h1]
      by_cases h2 : d > 4611686018427387904
      · rw [if_pos h2, if_pos trivial]
      · rw [if_neg h2]
        by_cases h3 : n < -4611686018427387904
        · rw [if_pos h3, if_pos trivial]
        · rw [if_neg h3, decide_eq_true (by omega), if_pos rfl]
  · rename_i h
    split
    · rename_i hn
      obtain ⟨k, rfl⟩ : ∃ m, k = m + 2 := ⟨k - 2, by omega⟩
      simp only [fixed_RoundDiv.f, fixed_RoundDiv.j0]
      rw [if_neg (by omega), if_neg (by omega), if_neg (by omega), decide_eq_false (by omega), if_neg (by decide), if_pos hn]
      rw [wrap_in _ (by omega) (by omega), fixed_RoundDiv_pos k (-n) d (by omega) (by omega) (by omega) (by omega) (by omega)]
      have hb := rdiv0_le (-n) d (by omega) (by omega)
      simp only [Option.bind_some]
      rw [wrap_in _ (by omega) (by omega)]
    · exact fixed_RoundDiv_pos k n d (by omega) (by omega) (by omega) (by omega) (by omega)
def clampS (x lo hi : Int) : Int := mx (mn x hi) lo
theorem clampS_le (x lo hi : Int) (h : lo ≤ hi) : lo ≤ clampS x lo hi ∧ clampS x lo hi ≤ hi := by unfold clampS mx mn; (repeat' split) <;> omega
theorem clampS_in (x lo hi : Int) (h0 : lo ≤ x) (h1 : x ≤ hi) : clampS x lo hi = x := by unfold clampS mx mn; (repeat' split) <;> omega
theorem clampS_mono (x y lo hi : Int) (h : x ≤ y) : clampS x lo hi ≤ clampS y lo hi := by unfold clampS mx mn; (repeat' split) <;> omega
theorem fixed_Clamp_eq (x lo hi : Int) : fixed_Clamp.f x lo hi = some (clampS x lo hi) := rfl
def dBits (f : Int) : Int := if f = 1 then 0 else if f = 2 then 16 else if f = 3 then 24 else -1
def dMax (f : Int) : Int := if f = 2 then 65535 else if f = 3 then 16777215 else 0
def dQ (f z : Int) : Int := rdiv (wrap64 (clampS z 0 65536 * dMax f)) 65536
def dBias (z b : Int) : Int := clampS (wrap64 (clampS z (-131072) 131072 + clampS b (-65536) 65536)) 0 65536
def dCmp (c a b : Int) : Bool := if c = 2 then decide (a < b) else if c = 3 then a == b else if c = 4 then decide (a ≤ b) else if c = 5 then decide (a > b) else if c = 6 then a != b else if c = 7 then decide (a ≥ b) else c == 8
def dTest (t wr : Bool) (c bias f z old : Int) : Bool × Int :=
  if t = true ∧ ¬ dBits f < 1 then (if dCmp c (dQ f (dBias z bias)) old = true ∧ wr = true then (true, dQ f (dBias z bias)) else (dCmp c (dQ f (dBias z bias)) old, old)) else (true, old)
theorem depth_Bits_eq (f : Int) : depth_Bits.f f = some (dBits f) := by unfold depth_Bits.f dBits; (repeat' split) <;> rfl
theorem depth_Max_eq (f : Int) : depth_Max.f f = some (dMax f) := by
  unfold depth_Max.f
  rw [depth_Bits_eq]
  unfold dBits dMax
  by_cases h1 : f = 1
  · subst h1; decide +kernel
  · by_cases h2 : f = 2
    · subst h2; decide +kernel
    · by_cases h3 : f = 3
      · subst h3; decide +kernel
      · simp only [h1, h2, h3, if_false]; decide +kernel
theorem depth_Quantize_eq (k : Nat) (f z : Int) (hk : 4 ≤ k) : depth_Quantize.f k f z = some (dQ f z) := by
  simp only [depth_Quantize.f, fixed_Clamp_eq, Option.bind_some, depth_Max_eq, fixed_RoundDiv_eq _ _ _ hk, dQ]
theorem depth_Bias_eq (z b : Int) : depth_Bias.f z b = some (dBias z b) := by
  simp only [depth_Bias.f, fixed_Clamp_eq, Option.bind_some, dBias]
theorem depth_Compare_eq (c a b : Int) : depth_Compare.f c a b = some (dCmp c a b) := by unfold depth_Compare.f dCmp; (repeat' split) <;> rfl
theorem depth_Test_eq (k : Nat) (t wr : Bool) (c bias f z old : Int) (hk : 5 ≤ k) : depth_Test.f k t wr c bias f z old = some (dTest t wr c bias f z old) := by
  obtain ⟨k, rfl⟩ : ∃ m, k = m + 1 := ⟨k - 1, by omega⟩
  simp only [depth_Test.f, depth_Test.j0, depth_Bits_eq, depth_Bias_eq, depth_Compare_eq, depth_Quantize_eq k _ _ (by omega), Option.bind_some, dTest]
  cases t
  · simp
  · simp only [if_true, true_and]
    by_cases hb : dBits f < 1
    · simp [hb]
    · simp only [hb, decide_false, not_false_eq_true, if_true]
      cases dCmp c (dQ f (dBias z bias)) old <;> cases wr <;> simp
theorem dMax_bd (f : Int) : 0 ≤ dMax f ∧ dMax f ≤ 16777215 := by unfold dMax; (repeat' split) <;> omega
theorem rdiv0_mono (a b d : Int) (h : a ≤ b) (hd : 1 ≤ d) : rdiv0 a d ≤ rdiv0 b d := Int.ediv_le_ediv (by omega) (by omega)
theorem dQ_form (f z : Int) : dQ f z = rdiv0 (clampS z 0 65536 * dMax f) 65536 ∧ 0 ≤ clampS z 0 65536 * dMax f ∧ clampS z 0 65536 * dMax f ≤ 65536 * dMax f := by
  have h := dMax_bd f
  have c := clampS_le z 0 65536 (by decide)
  have h0 : 0 ≤ clampS z 0 65536 * dMax f := Int.mul_nonneg c.1 h.1
  have h1 : clampS z 0 65536 * dMax f ≤ 65536 * dMax f := Int.mul_le_mul_of_nonneg_right c.2 h.1
  refine ⟨?_, h0, h1⟩
  unfold dQ rdiv
  rw [wrap_in _ (by omega) (by omega), if_neg (by omega), if_neg (by omega)]
theorem dQ_range (f z : Int) : 0 ≤ dQ f z ∧ dQ f z ≤ dMax f := by
  obtain ⟨e, h0, h1⟩ := dQ_form f z
  have h := dMax_bd f
  rw [e]
  generalize clampS z 0 65536 * dMax f = n at *
  unfold rdiv0
  omega
theorem dQ_mono (f a b : Int) (h : a ≤ b) : dQ f a ≤ dQ f b := by
  rw [(dQ_form f a).1, (dQ_form f b).1]
  exact rdiv0_mono _ _ _ (Int.mul_le_mul_of_nonneg_right (clampS_mono a b 0 65536 h) (dMax_bd f).1) (by decide)
theorem dQ_low (f a : Int) (h : a ≤ 0) : dQ f a = 0 := by
  have c : clampS a 0 65536 = 0 := by unfold clampS mx mn; (repeat' split) <;> omega
  rw [(dQ_form f a).1, c, Int.zero_mul]; decide
theorem dQ_high (f a : Int) (h : 65536 ≤ a) : dQ f a = dMax f := by
  have c : clampS a 0 65536 = 65536 := by unfold clampS mx mn; (repeat' split) <;> omega
  have hm := dMax_bd f
  rw [(dQ_form f a).1, c]
  generalize dMax f = m at *
  unfold rdiv0
  omega
theorem dTest_ex : dTest true true 2 0 2 0 1 = (true, 0) := by decide +kernel
theorem dQ_ex : dQ 2 65536 = 65535 := by decide +kernel
theorem frustumlaw38_example_eq (k : Nat) (hk : 5 ≤ k) : frustumlaw38_example.f k = some true := by
  simp only [frustumlaw38_example.f, depth_Test_eq k _ _ _ _ _ _ _ hk, depth_Quantize_eq k _ _ (show 4 ≤ k by omega), Option.bind_some, dTest_ex, dQ_ex]
  decide +kernel
set_option maxHeartbeats 2000000 in
set_option maxRecDepth 100000 in
theorem DepthMonotonic_calls (a0 a1 a2 : Int) (w : World) : Calls Try.prog 6 #[.int .i64 a0, .int .i64 a1, .int .i64 a2] w fun e w' => e = .returned (.bool true) ∧ Below w.heap.size w w' := by
  have hex := frustumlaw38_example_eq 100 (by decide)
  obtain ⟨x, hx⟩ : ∃ x, dQ a0 a1 = x := ⟨_, rfl⟩
  obtain ⟨y, hy⟩ : ∃ y, dQ a0 a2 = y := ⟨_, rfl⟩
  obtain ⟨m, hm⟩ : ∃ m, dMax a0 = m := ⟨_, rfl⟩
  have h1 := depth_Quantize_eq 100 a0 a1 (by decide)
  have h2 := depth_Quantize_eq 100 a0 a2 (by decide)
  have h3 := depth_Max_eq a0
  have hr := dQ_range a0 a1
  have hs := dQ_range a0 a2
  have hmo := dQ_mono a0 a1 a2
  have hl := dQ_low a0 a1
  have hh := dQ_high a0 a2
  rw [hx] at h1 hr hmo hl
  rw [hy] at h2 hs hmo hh
  rw [hm] at h3 hr hs hh
  clear hx hy hm
  have C0 := Aside0.mk hex
  have C1 := Aside0.mk h1
  have C2 := Aside0.mk h2
  have C3 := Aside0.mk h3
  clear hex h1 h2 h3
  have HB := Aside0.mk (Below.refl w.heap.size w)
  by_cases h : a2 < a1
  · clear hr hs hmo hl hh
    go_enter Try.func6, Try.ntmps6
    go_wp2_with (first | (go_at_call 19; (with_reducible refine (depth_Quantize.calls 100 a0 a1 x _ C1.out).mono ?_); rintro e w' ⟨rfl, hb⟩; have n0 := Aside0.mk (below_step HB.out hb); clear HB hb; have HB := n0; clear n0) | (go_at_call 19; (with_reducible refine (depth_Quantize.calls 100 a0 a2 y _ C2.out).mono ?_); rintro e w' ⟨rfl, hb⟩; have n0 := Aside0.mk (below_step HB.out hb); clear HB hb; have HB := n0; clear n0) | (go_at_call 17; (with_reducible refine (depth_Max.calls a0 m _ C3.out).mono ?_); rintro e w' ⟨rfl, hb⟩; have n0 := Aside0.mk (below_step HB.out hb); clear HB hb; have HB := n0; clear n0) | (go_at_call 23; (with_reducible refine (frustumlaw38_example.calls 100 true _ C0.out).mono ?_); rintro e w' ⟨rfl, hb⟩; have n0 := Aside0.mk (below_step HB.out hb); clear HB hb; have HB := n0; clear n0))
    go_ret
    exact ⟨rfl, HB.out⟩
  · have hmo' := hmo (by omega)
    obtain ⟨hr0, hr1⟩ := hr
    obtain ⟨hs0, hs1⟩ := hs
    have k1 : decide (x ≤ y) = true := decide_eq_true hmo'
    have k2 : decide (0 ≤ x) = true := decide_eq_true hr0
    have k3 : decide (y ≤ m) = true := decide_eq_true hs1
    clear hmo hmo' hr0 hr1 hs0 hs1
    by_cases p : 0 < a1
    · clear hl
      by_cases q : a2 < 65536
      · clear hh
        go_enter Try.func6, Try.ntmps6
        go_wp2_with (first | (go_at_call 19; (with_reducible refine (depth_Quantize.calls 100 a0 a1 x _ C1.out).mono ?_); rintro e w' ⟨rfl, hb⟩; have n0 := Aside0.mk (below_step HB.out hb); clear HB hb; have HB := n0; clear n0) | (go_at_call 19; (with_reducible refine (depth_Quantize.calls 100 a0 a2 y _ C2.out).mono ?_); rintro e w' ⟨rfl, hb⟩; have n0 := Aside0.mk (below_step HB.out hb); clear HB hb; have HB := n0; clear n0) | (go_at_call 17; (with_reducible refine (depth_Max.calls a0 m _ C3.out).mono ?_); rintro e w' ⟨rfl, hb⟩; have n0 := Aside0.mk (below_step HB.out hb); clear HB hb; have HB := n0; clear n0) | (go_at_call 23; (with_reducible refine (frustumlaw38_example.calls 100 true _ C0.out).mono ?_); rintro e w' ⟨rfl, hb⟩; have n0 := Aside0.mk (below_step HB.out hb); clear HB hb; have HB := n0; clear n0))
        go_ret
        exact ⟨rfl, HB.out⟩
      · have k4 : (y == m) = true := beq_iff_eq.2 (hh (by omega))
        clear hh
        go_enter Try.func6, Try.ntmps6
        go_wp2_with (first | (go_at_call 19; (with_reducible refine (depth_Quantize.calls 100 a0 a1 x _ C1.out).mono ?_); rintro e w' ⟨rfl, hb⟩; have n0 := Aside0.mk (below_step HB.out hb); clear HB hb; have HB := n0; clear n0) | (go_at_call 19; (with_reducible refine (depth_Quantize.calls 100 a0 a2 y _ C2.out).mono ?_); rintro e w' ⟨rfl, hb⟩; have n0 := Aside0.mk (below_step HB.out hb); clear HB hb; have HB := n0; clear n0) | (go_at_call 17; (with_reducible refine (depth_Max.calls a0 m _ C3.out).mono ?_); rintro e w' ⟨rfl, hb⟩; have n0 := Aside0.mk (below_step HB.out hb); clear HB hb; have HB := n0; clear n0) | (go_at_call 23; (with_reducible refine (frustumlaw38_example.calls 100 true _ C0.out).mono ?_); rintro e w' ⟨rfl, hb⟩; have n0 := Aside0.mk (below_step HB.out hb); clear HB hb; have HB := n0; clear n0))
        go_ret
        exact ⟨rfl, HB.out⟩
    · have k5 : (x == 0) = true := beq_iff_eq.2 (hl (by omega))
      clear hl
      by_cases q : a2 < 65536
      · clear hh
        go_enter Try.func6, Try.ntmps6
        go_wp2_with (first | (go_at_call 19; (with_reducible refine (depth_Quantize.calls 100 a0 a1 x _ C1.out).mono ?_); rintro e w' ⟨rfl, hb⟩; have n0 := Aside0.mk (below_step HB.out hb); clear HB hb; have HB := n0; clear n0) | (go_at_call 19; (with_reducible refine (depth_Quantize.calls 100 a0 a2 y _ C2.out).mono ?_); rintro e w' ⟨rfl, hb⟩; have n0 := Aside0.mk (below_step HB.out hb); clear HB hb; have HB := n0; clear n0) | (go_at_call 17; (with_reducible refine (depth_Max.calls a0 m _ C3.out).mono ?_); rintro e w' ⟨rfl, hb⟩; have n0 := Aside0.mk (below_step HB.out hb); clear HB hb; have HB := n0; clear n0) | (go_at_call 23; (with_reducible refine (frustumlaw38_example.calls 100 true _ C0.out).mono ?_); rintro e w' ⟨rfl, hb⟩; have n0 := Aside0.mk (below_step HB.out hb); clear HB hb; have HB := n0; clear n0))
        go_ret
        exact ⟨rfl, HB.out⟩
      · have k4 : (y == m) = true := beq_iff_eq.2 (hh (by omega))
        clear hh
        go_enter Try.func6, Try.ntmps6
        go_wp2_with (first | (go_at_call 19; (with_reducible refine (depth_Quantize.calls 100 a0 a1 x _ C1.out).mono ?_); rintro e w' ⟨rfl, hb⟩; have n0 := Aside0.mk (below_step HB.out hb); clear HB hb; have HB := n0; clear n0) | (go_at_call 19; (with_reducible refine (depth_Quantize.calls 100 a0 a2 y _ C2.out).mono ?_); rintro e w' ⟨rfl, hb⟩; have n0 := Aside0.mk (below_step HB.out hb); clear HB hb; have HB := n0; clear n0) | (go_at_call 17; (with_reducible refine (depth_Max.calls a0 m _ C3.out).mono ?_); rintro e w' ⟨rfl, hb⟩; have n0 := Aside0.mk (below_step HB.out hb); clear HB hb; have HB := n0; clear n0) | (go_at_call 23; (with_reducible refine (frustumlaw38_example.calls 100 true _ C0.out).mono ?_); rintro e w' ⟨rfl, hb⟩; have n0 := Aside0.mk (below_step HB.out hb); clear HB hb; have HB := n0; clear n0))
        go_ret
        exact ⟨rfl, HB.out⟩

end Go.Proofs.Ytcpphnecjeohnaa.Pure
