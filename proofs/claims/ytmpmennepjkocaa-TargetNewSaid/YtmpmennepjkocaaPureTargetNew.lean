/- TargetNew: New returns the reference's target or error, and Valid reports the valid targets. No condition. -/
import Derived.Test.YtmpmennepjkocaaPTargetNewx9
import Derived.Test.YtmpmennepjkocaaPTargetNewx5
import Derived.Test.YtmpmennepjkocaaPTargetNewx7
import Derived.Test.YtmpmennepjkocaaPTargetNewx9
import Derived.Test.YtmpmennepjkocaaOwn
import Derived.Laws.BitsLemmas
namespace Go.Proofs.Ytmpmennepjkocaa.Pure
set_option linter.unusedVariables false
set_option linter.unusedSimpArgs false
open Go.RowKit Go.Proofs.Ytmpmennepjkocaa.Own Go.Proofs.Ytmpmennepjkocaa.PTargetNew Go.Proofs.YtmpmennepjkocaaW.PrintWords Go.Proofs.YtmpmennepjkocaaW.PrintLast Go.Proofs.YtmpmennepjkocaaW.PrintMore
/-! numbers -/
theorem and_mask (j : Nat) (hj : j ≤ 63) (n : Int) : Go.bits .and .i64 n (2 ^ j - 1) = n % 2 ^ j := by
  have hp : (2 : Nat) ^ j ≤ 2 ^ 63 := Nat.pow_le_pow_right (by decide) hj
  have hpos : 0 < (2 : Nat) ^ j := Nat.two_pow_pos j
  have hm : (BitVec.ofInt 64 ((2 : Int) ^ j - 1)).toNat = 2 ^ j - 1 := by
    have hc : ((2 : Int) ^ j - 1) = ((2 ^ j - 1 : Nat) : Int) := by rw [Int.natCast_sub hpos]; simp
    rw [hc, BitVec.ofInt_natCast, BitVec.toNat_ofNat]
    exact Nat.mod_eq_of_lt (by omega)
  have key : (BitVec.ofInt 64 n &&& BitVec.ofInt 64 ((2 : Int) ^ j - 1)).toNat = (n % ((2 ^ 64 : Nat) : Int)).toNat % 2 ^ j := by
    rw [BitVec.toNat_and, BitVec.toNat_ofInt, hm, Nat.and_two_pow_sub_one_eq_mod]
  show IntKind.i64.wrap ((BitVec.ofInt 64 n &&& BitVec.ofInt 64 ((2 : Int) ^ j - 1)).toNat : Nat) = n % 2 ^ j
  rw [key, Go.IntKind.wrap_i64]
  have hlt := Nat.mod_lt (n % ((2 ^ 64 : Nat) : Int)).toNat hpos
  have h1 : (((n % ((2 ^ 64 : Nat) : Int)).toNat % 2 ^ j : Nat) : Int) = n % 2 ^ j := by
    rw [Int.natCast_emod, Int.toNat_of_nonneg (Int.emod_nonneg _ (by decide))]
    rw [Int.natCast_pow]
    refine Int.emod_emod_of_dvd n ?_
    have : (2 : Int) ^ 64 = 2 ^ j * 2 ^ (64 - j) := by rw [← Int.pow_add]; congr 1; omega
    exact ⟨2 ^ (64 - j), by exact_mod_cast this⟩
  rw [← h1]
  omega
theorem and255 (n : Int) : Go.bits .and .i64 n 255 = n % 256 := and_mask 8 (by decide) n
theorem bits_i64_nat (a b : Nat) (ha : a < 2 ^ 63) (hb : b < 2 ^ 63) : Go.bits .and .i64 a b = ((a &&& b : Nat) : Int) ∧ Go.bits .or .i64 a b = ((a ||| b : Nat) : Int) :=
  Go.bits_nat .i64 63 (by decide) (fun n h0 h1 => by rw [Go.IntKind.wrap_i64]; omega) a b ha hb
/-- only the lowest bits count where the mask is small. -/
theorem and_low (j : Nat) (hj : j ≤ 63) (n m : Int) (h0 : 0 ≤ m) (h1 : m < 2 ^ j) : Go.bits .and .i64 n m = Go.bits .and .i64 (n % 2 ^ j) m := by
  obtain ⟨b, rfl⟩ := Int.eq_ofNat_of_zero_le h0
  have hb : b < 2 ^ j := by exact_mod_cast h1
  have hp : (2 : Nat) ^ j ≤ 2 ^ 63 := Nat.pow_le_pow_right (by decide) hj
  have hpos : 0 < (2 : Nat) ^ j := Nat.two_pow_pos j
  have hmm : ∀ x : Nat, x &&& b = (x % 2 ^ j) &&& b := by
    intro x
    rw [← Nat.and_two_pow_sub_one_eq_mod, Nat.and_assoc]
    congr 1
    rw [Nat.and_comm, Nat.and_two_pow_sub_one_eq_mod, Nat.mod_eq_of_lt hb]
  show IntKind.i64.wrap ((BitVec.ofInt 64 n &&& BitVec.ofInt 64 (b : Int)).toNat : Nat) = IntKind.i64.wrap ((BitVec.ofInt 64 (n % 2 ^ j) &&& BitVec.ofInt 64 (b : Int)).toNat : Nat)
  rw [BitVec.toNat_and, BitVec.toNat_and, BitVec.ofInt_natCast, BitVec.toNat_ofNat, Nat.mod_eq_of_lt (show b < 2 ^ 64 by omega), BitVec.toNat_ofInt, BitVec.toNat_ofInt]
  rw [hmm, hmm ((n % 2 ^ j) % ((2 ^ 64 : Nat) : Int)).toNat]
  congr 3
  have e : ∀ z : Int, ((z % ((2 ^ 64 : Nat) : Int)).toNat % 2 ^ j : Nat) = (z % 2 ^ j).toNat := by
    intro z
    have h1 : (((z % ((2 ^ 64 : Nat) : Int)).toNat % 2 ^ j : Nat) : Int) = z % 2 ^ j := by
      rw [Int.natCast_emod, Int.toNat_of_nonneg (Int.emod_nonneg _ (by decide)), Int.natCast_pow]
      refine Int.emod_emod_of_dvd z ?_
      have : (2 : Int) ^ 64 = 2 ^ j * 2 ^ (64 - j) := by rw [← Int.pow_add]; congr 1; omega
      exact ⟨2 ^ (64 - j), by exact_mod_cast this⟩
    omega
  rw [e, e, Int.emod_emod_of_dvd n (Int.dvd_refl _)]
theorem wrap_in (x : Int) (h0 : -9223372036854775808 ≤ x) (h1 : x ≤ 9223372036854775807) : wrap64 x = x := by unfold wrap64; omega
theorem wf_bounds {a : Int} (h : (Lit.int .i64 a).wf = true) : -9223372036854775808 ≤ a ∧ a ≤ 9223372036854775807 := by
  simpa [Lit.wf, IntKind.min, IntKind.max, IntKind.signed, IntKind.bits] using h
theorem u64_wrap (x : Int) : IntKind.u64.wrap x = x % 18446744073709551616 := by simp [IntKind.wrap, IntKind.bits, IntKind.signed]
theorem rd_nat (l : List Int) (i : Nat) (h : i < l.length) : rd l (i : Int) = l[i] := by unfold rd; simp [h]
theorem wrap_succ (l : List Int) (i : Nat) (hl : l.length ≤ maxLen) (h : i < l.length) : wrap64 ((i : Int) + 1) = ((i + 1 : Nat) : Int) := by
  simp only [maxLen] at hl
  rw [wrap_in _ (by omega) (by omega)]
  omega
/-- The bytes of a texel. -/
def sizeS (f : Int) : Int := if f = 1 then 1 else if f = 2 then 4 else if f = 3 then 2 else if f = 4 then 4 else if f = 5 then 2 else if f = 6 then 8 else 0
theorem sizeS_range (f : Int) : 0 ≤ sizeS f ∧ sizeS f ≤ 8 := by unfold sizeS; (repeat' split) <;> omega
theorem texel_Size_eq (f : Int) (k : Nat) (hk : 2 ≤ k) : texel_Size.f k f = some (sizeS f) := by
  obtain ⟨k, rfl⟩ : ∃ j, k = j + 2 := ⟨k - 2, by omega⟩
  unfold texel_Size.f sizeS
  simp only [texel_Size.j0, texel_Size.j1]
  by_cases h1 : f = 1
  · simp [h1]
  · by_cases h2 : f = 2
    · simp [h2]
    · by_cases h3 : f = 3
      · simp [h3]
      · by_cases h4 : f = 4
        · simp [h4]
        · by_cases h5 : f = 5
          · simp [h5]
          · simp [h1, h2, h3, h4, h5]
            split <;> rfl
theorem frustumref09_Size_eq (f : Int) (k : Nat) (hk : 2 ≤ k) : frustumref09_Size.f k f = some (sizeS f) := by
  obtain ⟨k, rfl⟩ : ∃ j, k = j + 2 := ⟨k - 2, by omega⟩
  unfold frustumref09_Size.f sizeS
  simp only [frustumref09_Size.j0, frustumref09_Size.j1]
  by_cases h1 : f = 1
  · simp [h1]
  · by_cases h2 : f = 2
    · simp [h2]
    · by_cases h3 : f = 3
      · simp [h3]
      · by_cases h4 : f = 4
        · simp [h4]
        · by_cases h5 : f = 5
          · simp [h5]
          · simp [h1, h2, h3, h4, h5]
            split <;> rfl
theorem texel_Valid_eq (f : Int) (k : Nat) (hk : 2 ≤ k) : texel_Valid.f k f = some (sizeS f != 0) := by unfold texel_Valid.f; rw [texel_Size_eq f k hk, Option.bind_some]
theorem frustumref09_Valid_eq (f : Int) (k : Nat) (hk : 2 ≤ k) : frustumref09_Valid.f k f = some (sizeS f != 0) := by unfold frustumref09_Valid.f; rw [frustumref09_Size_eq f k hk, Option.bind_some]
/-- A size from 1 to 64. -/
def sizedB (a : Int) : Bool := decide (1 ≤ a ∧ a ≤ 64)
theorem image_sized_eq (a : Int) : image_sized.f a = some (sizedB a) := by
  unfold image_sized.f sizedB
  by_cases h : a ≥ 1
  · rw [if_pos h]; congr 1; simp; omega
  · rw [if_neg h]; congr 1; simp; omega
theorem frustumref10_sized_eq (a : Int) : frustumref10_sized.f a = some (sizedB a) := by
  unfold frustumref10_sized.f sizedB
  by_cases h : a ≥ 1
  · rw [if_pos h]; congr 1; simp; omega
  · rw [if_neg h]; congr 1; simp; omega
def bitsS (d : Int) : Int := if d = 1 then 0 else if d = 2 then 16 else if d = 3 then 24 else -1
theorem depth_Bits_eq42 (d : Int) : depth_Bits.f d = some (bitsS d) := by unfold depth_Bits.f bitsS; (repeat' split) <;> rfl
theorem frustumref38_Bits_eq42 (d : Int) : frustumref38_Bits.f d = some (bitsS d) := by unfold frustumref38_Bits.f bitsS; (repeat' split) <;> rfl
def okB (s : Int) : Bool := s == 1 || s == 2 || s == 4 || s == 8
theorem ValidSamples_eq (s : Int) : coverage_ValidSamples.f s = some (okB s) := by
  unfold coverage_ValidSamples.f okB
  by_cases h1 : s = 1
  · simp [h1]
  · by_cases h2 : s = 2
    · simp [h2]
    · by_cases h4 : s = 4
      · simp [h4]
      · simp [h1, h2, h4]
theorem rValidSamples_eq (s : Int) : frustumref35_ValidSamples.f s = some (okB s) := by
  unfold frustumref35_ValidSamples.f okB
  by_cases h1 : s = 1
  · simp [h1]
  · by_cases h2 : s = 2
    · simp [h2]
    · by_cases h4 : s = 4
      · simp [h4]
      · simp [h1, h2, h4]
theorem okB_range {s : Int} (h : okB s = true) : 1 ≤ s ∧ s ≤ 8 := by
  unfold okB at h
  simp at h
  omega
theorem sizedB_range {a : Int} (h : sizedB a = true) : 1 ≤ a ∧ a ≤ 64 := by unfold sizedB at h; simpa using h
theorem area_bd {w h : Int} (hw : sizedB w = true) (hh : sizedB h = true) : 1 ≤ w * h ∧ w * h ≤ 4096 := by
  obtain ⟨a, b⟩ := sizedB_range hw
  obtain ⟨c, d⟩ := sizedB_range hh
  have h1 : 1 * 1 ≤ w * h := Int.mul_le_mul a c (by decide) (by omega)
  have h2 : w * h ≤ 64 * 64 := Int.mul_le_mul b d (by omega) (by decide)
  omega
theorem vol_bd {w h s : Int} (hw : sizedB w = true) (hh : sizedB h = true) (hs0 : 0 ≤ s) (hs : s ≤ 8) : 0 ≤ w * h * s ∧ w * h * s ≤ 32768 := by
  obtain ⟨a, b⟩ := area_bd hw hh
  have h1 : 0 ≤ w * h * s := Int.mul_nonneg (by omega) hs0
  have h2 : w * h * s ≤ 4096 * 8 := Int.mul_le_mul b hs hs0 (by decide)
  omega
theorem vol_wrap {w h s : Int} (hw : sizedB w = true) (hh : sizedB h = true) (hs0 : 0 ≤ s) (hs : s ≤ 8) : wrap64 ((wrap64 (w * h)) * s) = w * h * s := by
  obtain ⟨a, b⟩ := area_bd hw hh
  obtain ⟨c, d⟩ := vol_bd hw hh hs0 hs
  rw [wrap_in (w * h) (by omega) (by omega), wrap_in _ (by omega) (by omega)]
def imgS (f w h : Int) : S47 := ⟨f, w, h, List.replicate (w * h * sizeS f).toNat 0⟩
def imgNewS (f w h : Int) : Int × Int × Int × List Int × Int :=
  if sizeS f = 0 then (0, 0, 0, [], 14) else if sizedB w = true ∧ sizedB h = true then (f, w, h, List.replicate (w * h * sizeS f).toNat 0, 0) else (0, 0, 0, [], 15)
theorem image_New_eq (f w h : Int) (k : Nat) (hk : 2 ≤ k) : image_New.f k f w h = some (imgNewS f w h) := by
  obtain ⟨s0, s1⟩ := sizeS_range f
  unfold image_New.f imgNewS
  rw [texel_Valid_eq f k hk, Option.bind_some]
  by_cases h0 : sizeS f = 0
  · rw [if_neg (by simp [h0]), if_pos h0]
  · rw [if_pos (by simp [h0]), if_neg h0, image_sized_eq, Option.bind_some]
    by_cases hw : sizedB w = true
    · rw [if_pos hw, image_sized_eq, Option.bind_some]
      by_cases hh : sizedB h = true
      · obtain ⟨c, d⟩ := vol_bd hw hh s0 s1
        rw [if_pos hh, texel_Size_eq f k hk, Option.bind_some, vol_wrap hw hh s0 s1, if_pos c, if_pos (by omega), if_pos ⟨hw, hh⟩]
      · rw [if_neg hh, if_neg (fun x => hh x.2)]
    · rw [if_neg hw, if_neg (fun x => hw x.1)]
theorem zeros_l0 (n : Int) (hn : n ≤ 1000000) : ∀ (d k : Nat) (acc : List Int) (i : Int), (n - i).toNat = d → 0 ≤ i → d < k → (acc.length : Int) ≤ 1000000 + i → frustumref10_zeros.l0 k n acc i = some (acc ++ List.replicate d 0) := by
  intro d
  induction d with
  | zero =>
    intro k acc i hd hi hk _
    obtain ⟨k, rfl⟩ : ∃ j, k = j + 1 := ⟨k - 1, by omega⟩
    rw [frustumref10_zeros.l0, if_neg (by omega), List.replicate_zero, List.append_nil]
  | succ d ih =>
    intro k acc i hd hi hk hl
    obtain ⟨k, rfl⟩ : ∃ j, k = j + 1 := ⟨k - 1, by omega⟩
    rw [frustumref10_zeros.l0, if_pos (by omega), if_pos (by omega), wrap_in _ (by omega) (by omega), ih k (acc ++ [0]) (i + 1) (by omega) (by omega) (by omega) (by simp only [List.length_append, List.length_cons, List.length_nil]; omega), List.append_assoc, List.replicate_succ, List.singleton_append]
theorem frustumref10_New_eq (f w h : Int) (k : Nat) (hk : 40000 ≤ k) : frustumref10_New.f k f w h = some (imgNewS f w h) := by
  obtain ⟨s0, s1⟩ := sizeS_range f
  obtain ⟨k, rfl⟩ : ∃ j, k = j + 1 := ⟨k - 1, by omega⟩
  unfold frustumref10_New.f imgNewS
  rw [frustumref09_Valid_eq f _ (by omega), Option.bind_some]
  by_cases h0 : sizeS f = 0
  · rw [if_neg (by simp [h0]), if_pos h0]
  · rw [if_pos (by simp [h0]), if_neg h0, frustumref10_sized_eq, Option.bind_some]
    by_cases hw : sizedB w = true
    · rw [if_pos hw, frustumref10_sized_eq, Option.bind_some, frustumref10_New.j0]
      by_cases hh : sizedB h = true
      · obtain ⟨c, d⟩ := vol_bd hw hh s0 s1
        rw [if_neg (by simp [hh]), frustumref09_Size_eq f _ (by omega), Option.bind_some, vol_wrap hw hh s0 s1, if_pos ⟨hw, hh⟩]
        unfold frustumref10_zeros.f
        rw [zeros_l0 _ (by omega) (w * h * sizeS f).toNat k [] 0 (by omega) (by omega) (by omega) (by simp), Option.bind_some, List.nil_append]
      · rw [if_pos (by simp [hh]), if_neg (fun x => hh x.2)]
    · rw [if_neg hw, frustumref10_New.j0, if_pos rfl, if_neg (fun x => hw x.1)]
abbrev TS : Type := Int × Int × Int × Int × List S47 × List Int × List Int × Int
def newS (w h s f d : Int) : TS :=
  if sizeS f = 0 ∨ bitsS d < 0 then (0, 0, 0, 0, [], [], [], 14) else if sizedB w = true ∧ sizedB h = true then (if okB s = true then (w, h, s, d, List.replicate s.toNat (imgS f w h), List.replicate (w * h * s).toNat 0, List.replicate (w * h * s).toNat 0, 0) else (0, 0, 0, 0, [], [], [], 11)) else (0, 0, 0, 0, [], [], [], 15)
theorem target_New_l0 (w h s d f : Int) (D : List Int) (P Z : List Int) (hD : D.length ≤ 1000000) (hs : s ≤ 8) : ∀ (e k : Nat) (acc : List S47) (i : Int), (s - i).toNat = e → 0 ≤ i → e < k → (acc.length : Int) ≤ i → target_New.l0 k s i f w h D w h s d acc P Z = some (w, h, s, d, acc ++ List.replicate e ⟨f, w, h, D⟩, P, Z, 0) := by
  intro e
  induction e with
  | zero =>
    intro k acc i he hi hk _
    obtain ⟨k, rfl⟩ : ∃ j, k = j + 1 := ⟨k - 1, by omega⟩
    rw [target_New.l0, if_neg (by omega), List.replicate_zero, List.append_nil]
  | succ e ih =>
    intro k acc i he hi hk hl
    obtain ⟨k, rfl⟩ : ∃ j, k = j + 1 := ⟨k - 1, by omega⟩
    rw [target_New.l0, if_pos (by omega)]
    unfold image_Clone.f
    rw [Option.bind_some, List.nil_append, if_pos (by simp only [List.length_nil]; omega), Option.bind_some, if_pos (by omega), wrap_in _ (by omega) (by omega)]
    simp only []
    rw [ih k (acc ++ [(⟨f, w, h, D⟩ : S47)]) (i + 1) (by omega) (by omega) (by omega) (by simp only [List.length_append, List.length_cons, List.length_nil]; omega), List.append_assoc, List.replicate_succ, List.singleton_append]
theorem newS_14 {w h s f d : Int} (h0 : sizeS f = 0 ∨ bitsS d < 0) : newS w h s f d = (0, 0, 0, 0, [], [], [], 14) := by unfold newS; rw [if_pos h0]
theorem newS_15 {w h s f d : Int} (h0 : ¬(sizeS f = 0 ∨ bitsS d < 0)) (hwh : ¬(sizedB w = true ∧ sizedB h = true)) : newS w h s f d = (0, 0, 0, 0, [], [], [], 15) := by unfold newS; rw [if_neg h0, if_neg hwh]
theorem newS_11 {w h s f d : Int} (h0 : ¬(sizeS f = 0 ∨ bitsS d < 0)) (hwh : sizedB w = true ∧ sizedB h = true) (ho : ¬okB s = true) : newS w h s f d = (0, 0, 0, 0, [], [], [], 11) := by unfold newS; rw [if_neg h0, if_pos hwh, if_neg ho]
theorem newS_0 {w h s f d : Int} (h0 : ¬(sizeS f = 0 ∨ bitsS d < 0)) (hwh : sizedB w = true ∧ sizedB h = true) (ho : okB s = true) : newS w h s f d = (w, h, s, d, List.replicate s.toNat (imgS f w h), List.replicate (w * h * s).toNat 0, List.replicate (w * h * s).toNat 0, 0) := by unfold newS; rw [if_neg h0, if_pos hwh, if_pos ho]
theorem target_New_eq (w h s f d : Int) (k : Nat) (hk : 20 ≤ k) : target_New.f k w h s f d = some (newS w h s f d) := by
  obtain ⟨k, rfl⟩ : ∃ j, k = j + 1 := ⟨k - 1, by omega⟩
  unfold target_New.f
  rw [image_New_eq f w h _ (by omega), Option.bind_some]
  unfold imgNewS
  obtain ⟨s0, s1⟩ := sizeS_range f
  by_cases h0 : sizeS f = 0
  · rw [newS_14 (.inl h0), if_pos h0]
    simp only []
    rw [if_pos trivial, target_New.j0, if_pos rfl]
  · rw [if_neg h0]
    by_cases hb : bitsS d < 0
    · rw [newS_14 (.inr hb)]
      by_cases hwh : sizedB w = true ∧ sizedB h = true
      · rw [if_pos hwh]
        simp only []
        rw [if_neg (by decide), depth_Bits_eq42, Option.bind_some, target_New.j0, if_pos (decide_eq_true hb)]
      · rw [if_neg hwh]
        simp only []
        rw [if_neg (by decide), depth_Bits_eq42, Option.bind_some, target_New.j0, if_pos (decide_eq_true hb)]
    · have hn : ¬(sizeS f = 0 ∨ bitsS d < 0) := fun x => x.elim h0 hb
      by_cases hwh : sizedB w = true ∧ sizedB h = true
      · rw [if_pos hwh]
        simp only []
        rw [if_neg (by decide), depth_Bits_eq42, Option.bind_some, target_New.j0, if_neg (by simpa using hb), if_pos rfl, ValidSamples_eq, Option.bind_some]
        by_cases ho : okB s = true
        · obtain ⟨o0, o1⟩ := okB_range ho
          obtain ⟨c, e⟩ := vol_bd hwh.1 hwh.2 (show 0 ≤ s by omega) o1
          obtain ⟨c2, e2⟩ := vol_bd hwh.1 hwh.2 s0 s1
          rw [newS_0 hn hwh ho, if_pos ho, vol_wrap hwh.1 hwh.2 (by omega) o1, if_pos c, if_pos (by omega)]
          rw [target_New_l0 w h s d f _ _ _ (by rw [List.length_replicate]; omega) o1 s.toNat k [] 0 (by omega) (by omega) (by omega) (by simp), List.nil_append]
          rfl
        · rw [newS_11 hn hwh ho, if_neg ho]
      · rw [newS_15 hn hwh, if_neg hwh]
        simp only []
        rw [if_neg (by decide), depth_Bits_eq42, Option.bind_some, target_New.j0, if_neg (by simpa using hb), if_neg (by decide)]
theorem frustumref42_New_l0 (w h s d f : Int) (hw : sizedB w = true) (hh : sizedB h = true) (hf : sizeS f ≠ 0) (hs0 : 0 ≤ s) (hs : s ≤ 8) : ∀ (e k : Nat) (acc : List S47) (i : Int), (s - i).toNat = e → 0 ≤ i → e + 40001 ≤ k → (acc.length : Int) ≤ i → frustumref42_New.l0 k w h s f i w h s d acc = some (w, h, s, d, acc ++ List.replicate e (imgS f w h), List.replicate (w * h * s).toNat 0, List.replicate (w * h * s).toNat 0, 0) := by
  obtain ⟨c, c1⟩ := vol_bd hw hh hs0 hs
  intro e
  induction e with
  | zero =>
    intro k acc i he hi hk _
    obtain ⟨k, rfl⟩ : ∃ j, k = j + 1 := ⟨k - 1, by omega⟩
    rw [frustumref42_New.l0, if_neg (by omega), vol_wrap hw hh hs0 hs, if_pos c, if_pos (by omega), List.replicate_zero, List.append_nil]
  | succ e ih =>
    intro k acc i he hi hk hl
    obtain ⟨k, rfl⟩ : ∃ j, k = j + 1 := ⟨k - 1, by omega⟩
    rw [frustumref42_New.l0, if_pos (by omega), frustumref10_New_eq f w h k (by omega), Option.bind_some, if_pos (by omega), wrap_in (i + 1) (by omega) (by omega)]
    unfold imgNewS
    rw [if_neg hf, if_pos ⟨hw, hh⟩]
    simp only []
    rw [ih k _ (i + 1) (by omega) (by omega) (by omega) (by simp only [List.length_append, List.length_cons, List.length_nil]; omega), List.append_assoc, List.replicate_succ, List.singleton_append]
    rfl
theorem frustumref42_New_eq (w h s f d : Int) (k : Nat) (hk : 50000 ≤ k) : frustumref42_New.f k w h s f d = some (newS w h s f d) := by
  obtain ⟨k, rfl⟩ : ∃ j, k = j + 2 := ⟨k - 2, by omega⟩
  unfold frustumref42_New.f
  rw [frustumref09_Valid_eq f _ (by omega), Option.bind_some]
  by_cases h0 : sizeS f = 0
  · rw [newS_14 (.inl h0), if_neg (by simp [h0]), frustumref42_New.j0, if_pos rfl]
  · rw [if_pos (by simp [h0]), frustumref38_Bits_eq42, Option.bind_some, frustumref42_New.j0]
    by_cases hb : bitsS d < 0
    · rw [newS_14 (.inr hb), if_pos (decide_eq_true hb)]
    · have hn : ¬(sizeS f = 0 ∨ bitsS d < 0) := fun x => x.elim h0 hb
      rw [if_neg (by simpa using hb)]
      have key : (if w < 1 then frustumref42_New.j1 (k + 1) w h s f d true else if w > 64 then frustumref42_New.j1 (k + 1) w h s f d true else if h < 1 then frustumref42_New.j1 (k + 1) w h s f d true else frustumref42_New.j1 (k + 1) w h s f d (decide (h > 64))) = frustumref42_New.j1 (k + 1) w h s f d (!(sizedB w && sizedB h)) := by
        unfold sizedB
        by_cases h1 : w < 1
        · rw [if_pos h1]; congr 1; simp; omega
        · rw [if_neg h1]
          by_cases h2 : w > 64
          · rw [if_pos h2]; congr 1; simp; omega
          · rw [if_neg h2]
            by_cases h3 : h < 1
            · rw [if_pos h3]; congr 1; simp; omega
            · rw [if_neg h3]
              congr 1
              by_cases h4 : h > 64
              · rw [decide_eq_true h4]; symm; simp; omega
              · rw [decide_eq_false h4]; symm; simp; omega
      refine key.trans ?_
      rw [frustumref42_New.j1]
      by_cases hwh : sizedB w = true ∧ sizedB h = true
      · rw [if_neg (by simp [hwh.1, hwh.2]), rValidSamples_eq, Option.bind_some]
        by_cases ho : okB s = true
        · obtain ⟨o0, o1⟩ := okB_range ho
          rw [newS_0 hn hwh ho, if_pos ho, frustumref42_New_l0 w h s d f hwh.1 hwh.2 h0 (by omega) o1 s.toNat k [] 0 (by omega) (by omega) (by omega) (by simp), List.nil_append]
        · rw [newS_11 hn hwh ho, if_neg ho]
      · rw [newS_15 hn hwh, if_pos (by cases h1 : sizedB w <;> cases h2 : sizedB h <;> simp_all)]
theorem same42_l0 (a : List Int) (ha : a.length ≤ 1000000) : ∀ (d k i : Nat), a.length - i = d → i ≤ a.length → d < k → frustumref42_same.l0 k a a (i : Int) = some true := by
  intro d
  induction d with
  | zero =>
    intro k i hd hi hk
    obtain ⟨k, rfl⟩ : ∃ m, k = m + 1 := ⟨k - 1, by omega⟩
    rw [frustumref42_same.l0, if_neg (by omega)]
  | succ d ih =>
    intro k i hd hi hk
    obtain ⟨k, rfl⟩ : ∃ m, k = m + 1 := ⟨k - 1, by omega⟩
    rw [frustumref42_same.l0, if_pos (by omega), if_pos (by omega), if_pos (by omega), if_pos rfl, wrap_succ a i (by simp only [maxLen]; omega) (by omega)]
    exact ih k (i + 1) (by omega) (by omega) (by omega)
theorem same42_eq (a : List Int) (ha : a.length ≤ 1000000) (k : Nat) (hk : 1000001 ≤ k) : frustumref42_same.f k a a = some true := by
  unfold frustumref42_same.f
  rw [if_pos rfl]
  exact same42_l0 a ha a.length k 0 (by omega) (by omega) (by omega)
theorem equal42_l0 (w h s d : Int) (c : List S47) (p z : List Int) (hc : c.length ≤ 1000) (hp : p.length ≤ 1000000) (hz : z.length ≤ 1000000) : ∀ (e k i : Nat), c.length - i = e → i ≤ c.length → e + 1000002 ≤ k →
    frustumref42_Equal.l0 k (i : Int) w h s d c p z w h s d c p z = some true := by
  intro e
  induction e with
  | zero =>
    intro k i he hi hk
    obtain ⟨k, rfl⟩ : ∃ m, k = m + 1 := ⟨k - 1, by omega⟩
    rw [frustumref42_Equal.l0, if_neg (by omega), same42_eq p hp k (by omega), Option.bind_some, if_pos rfl, same42_eq z hz k (by omega), Option.bind_some]
  | succ e ih =>
    intro k i he hi hk
    obtain ⟨k, rfl⟩ : ∃ m, k = m + 1 := ⟨k - 1, by omega⟩
    rw [frustumref42_Equal.l0, if_pos (by omega), if_pos (by omega), if_pos (by omega)]
    unfold frustumref10_Equal.f
    rw [if_pos rfl, if_pos rfl, if_pos rfl, Option.bind_some, beq_self_eq_true, if_pos rfl, wrap_in _ (by omega) (by omega)]
    exact ih k (i + 1) (by omega) (by omega) (by omega)
theorem frustumref42_Equal_eq (w h s d : Int) (c : List S47) (p z : List Int) (hc : c.length ≤ 1000) (hp : p.length ≤ 1000000) (hz : z.length ≤ 1000000) (k : Nat) (hk : 1010000 ≤ k) : frustumref42_Equal.f k w h s d c p z w h s d c p z = some true := by
  obtain ⟨k, rfl⟩ : ∃ m, k = m + 1 := ⟨k - 1, by omega⟩
  unfold frustumref42_Equal.f
  rw [if_pos rfl, if_pos rfl, if_pos rfl, if_pos rfl, bne_self_eq_false, frustumref42_Equal.j0, if_neg (by decide)]
  exact equal42_l0 w h s d c p z hc hp hz c.length k 0 (by omega) (by omega) (by omega)
theorem newS_len (w h s f d : Int) : (newS w h s f d).2.2.2.2.1.length ≤ 1000 ∧ (newS w h s f d).2.2.2.2.2.1.length ≤ 1000000 ∧ (newS w h s f d).2.2.2.2.2.2.1.length ≤ 1000000 := by
  by_cases hn : sizeS f = 0 ∨ bitsS d < 0
  · rw [newS_14 hn]; simp
  · by_cases hwh : sizedB w = true ∧ sizedB h = true
    · by_cases ho : okB s = true
      · obtain ⟨o0, o1⟩ := okB_range ho
        obtain ⟨c, e⟩ := vol_bd hwh.1 hwh.2 (show 0 ≤ s by omega) o1
        rw [newS_0 hn hwh ho]
        simp only [List.length_replicate]
        omega
      · rw [newS_11 hn hwh ho]; simp
    · rw [newS_15 hn hwh]; simp
theorem example42_eq (k : Nat) (hk : 50 ≤ k) : frustumlaw42_example.f k = some true := by
  unfold frustumlaw42_example.f
  rw [target_New_eq 20 9 4 2 2 k (by omega), Option.bind_some, newS_0 (by decide) (by decide) (by decide)]
  simp only [List.length_replicate]
  decide
theorem image_Valid_eq (a b c : Int) (D : List Int) (k : Nat) (hk : 2 ≤ k) : image_Valid.f k a b c D = frustumref10_Valid.f k a b c D ∧ ∃ r, image_Valid.f k a b c D = some r ∧ ∀ k', 2 ≤ k' → image_Valid.f k' a b c D = some r := by
  have h1 : ∀ k, 2 ≤ k → image_Valid.f k a b c D = some (sizeS a != 0 && (sizedB b && (sizedB c && ((D.length : Int) == wrap64 (wrap64 (b * c) * sizeS a))))) := by
    intro k hk
    unfold image_Valid.f
    rw [texel_Valid_eq a k hk, Option.bind_some]
    cases h0 : (sizeS a != 0)
    · rfl
    · rw [if_pos rfl, image_sized_eq, Option.bind_some]
      cases hb : sizedB b
      · rfl
      · rw [if_pos rfl, image_sized_eq, Option.bind_some]
        cases hc : sizedB c
        · rfl
        · rw [if_pos rfl, texel_Size_eq a k hk, Option.bind_some]
          rfl
  refine ⟨?_, _, h1 k hk, h1⟩
  rw [h1 k hk]
  unfold frustumref10_Valid.f
  rw [frustumref09_Valid_eq a k hk, Option.bind_some]
  cases h0 : (sizeS a != 0)
  · rfl
  · rw [if_pos rfl, frustumref10_sized_eq, Option.bind_some]
    cases hb : sizedB b
    · rfl
    · rw [if_pos rfl, frustumref10_sized_eq, Option.bind_some]
      cases hc : sizedB c
      · rfl
      · rw [if_pos rfl, frustumref09_Size_eq a k hk, Option.bind_some]
        rfl
/-- Is an image good in itself? -/
def imgB (m : S47) : Bool := sizeS m.f0 != 0 && (sizedB m.f1 && (sizedB m.f2 && ((m.f3.length : Int) == wrap64 (wrap64 (m.f1 * m.f2) * sizeS m.f0))))
theorem image_Valid_is (m : S47) (k : Nat) (hk : 2 ≤ k) : image_Valid.f k m.f0 m.f1 m.f2 m.f3 = some (imgB m) ∧ frustumref10_Valid.f k m.f0 m.f1 m.f2 m.f3 = some (imgB m) := by
  have h1 : image_Valid.f k m.f0 m.f1 m.f2 m.f3 = some (imgB m) := by
    unfold image_Valid.f imgB
    rw [texel_Valid_eq _ k hk, Option.bind_some]
    cases h0 : (sizeS m.f0 != 0)
    · rfl
    · rw [if_pos rfl, image_sized_eq, Option.bind_some]
      cases hb : sizedB m.f1
      · rfl
      · rw [if_pos rfl, image_sized_eq, Option.bind_some]
        cases hc : sizedB m.f2
        · rfl
        · rw [if_pos rfl, texel_Size_eq _ k hk, Option.bind_some]
          rfl
  exact ⟨h1, by rw [← (image_Valid_eq m.f0 m.f1 m.f2 m.f3 k hk).1]; exact h1⟩
def goodB (w h f : Int) (m : S47) : Bool := imgB m && (m.f1 == w && (m.f2 == h && m.f0 == f))
/-- the values that a depth format stores -/
def maxS (d : Int) : Int := if d = 1 then 0 else if d = 2 then 65535 else 16777215
def mostS (d : Int) : Int := if d = 3 then 255 else 0
def limB (M x : Int) : Bool := decide (0 ≤ x ∧ x ≤ M)
theorem depth_Max_is (d : Int) (hd : 0 ≤ bitsS d) : depth_Max.f d = some (maxS d) := by
  have : d = 1 ∨ d = 2 ∨ d = 3 := by unfold bitsS at hd; (repeat' split at hd) <;> omega
  rcases this with rfl | rfl | rfl <;> decide +kernel
theorem rMax_l0 (d b : Int) (hb : bitsS d = b) : ∀ (e k : Nat) (n : Nat), (b - n).toNat = e → (n : Int) ≤ b → b ≤ 30 → e < k → frustumref38_Max.l0 k d (2 ^ n - 1) n = some (2 ^ b.toNat - 1) := by
  intro e
  induction e with
  | zero =>
    intro k n he hn hb1 hk
    obtain ⟨k, rfl⟩ : ∃ m, k = m + 1 := ⟨k - 1, by omega⟩
    rw [frustumref38_Max.l0, frustumref38_Bits_eq42, hb, Option.bind_some, if_neg (by omega), show b.toNat = n by omega]
  | succ e ih =>
    intro k n he hn hb1 hk
    obtain ⟨k, rfl⟩ : ∃ m, k = m + 1 := ⟨k - 1, by omega⟩
    have hp : (2 : Int) ^ n ≤ 2 ^ 30 := by exact_mod_cast Nat.pow_le_pow_right (by decide) (by omega)
    have hp1 : (1 : Int) ≤ 2 ^ n := by exact_mod_cast Nat.one_le_two_pow
    have hp2 : (2 : Int) ^ (n + 1) = 2 * 2 ^ n := by rw [Int.pow_succ, Int.mul_comm]
    rw [frustumref38_Max.l0, frustumref38_Bits_eq42, hb, Option.bind_some, if_pos (by omega)]
    generalize hP : (2 : Int) ^ n = P at *
    rw [show (2 : Int) ^ 30 = 1073741824 from rfl] at hp
    rw [wrap_in (2 * (P - 1)) (by omega) (by omega), wrap_in (2 * (P - 1) + 1) (by omega) (by omega), wrap_in ((n : Int) + 1) (by omega) (by omega), show 2 * (P - 1) + 1 = 2 ^ (n + 1) - 1 by omega]
    exact ih k (n + 1) (by omega) (by omega) hb1 (by omega)
theorem rMax_is (d : Int) (hd : 0 ≤ bitsS d) (k : Nat) (hk : 40 ≤ k) : frustumref38_Max.f k d = some (maxS d) := by
  unfold frustumref38_Max.f
  have h3 : d = 1 ∨ d = 2 ∨ d = 3 := by unfold bitsS at hd; (repeat' split at hd) <;> omega
  have hb : bitsS d ≤ 24 := by unfold bitsS; (repeat' split) <;> omega
  have := rMax_l0 d (bitsS d) rfl (bitsS d).toNat k 0 (by omega) (by omega) (by omega) (by omega)
  have e : frustumref38_Max.l0 k d 0 0 = some (2 ^ (bitsS d).toNat - 1) := this
  rw [e]
  clear this e hb hd
  rcases h3 with rfl | rfl | rfl <;> decide
theorem rd47_nat (l : List S47) (i : Nat) (h : i < l.length) : rd_T47 l (i : Int) = l[i] := by unfold rd_T47; simp [h]
theorem limited_is (l : List Int) (hl : l.length ≤ maxLen) (M : Int) : ∀ (e k i : Nat), l.length - i = e → i ≤ l.length → e < k → frustumref42_limited.l0 k l M (i : Int) = some ((l.drop i).all (limB M)) := by
  intro e
  induction e with
  | zero =>
    intro k i he hi hk
    obtain ⟨k, rfl⟩ : ∃ m, k = m + 1 := ⟨k - 1, by omega⟩
    rw [frustumref42_limited.l0, if_neg (by omega), show i = l.length by omega, List.drop_length]
    rfl
  | succ e ih =>
    intro k i he hi hk
    obtain ⟨k, rfl⟩ : ∃ m, k = m + 1 := ⟨k - 1, by omega⟩
    rw [frustumref42_limited.l0, if_pos (by omega), if_pos (by omega), rd_nat l i (by omega), List.drop_eq_getElem_cons (show i < l.length by omega), List.all_cons]
    by_cases h1 : l[i] < 0
    · rw [if_pos h1, show limB M l[i] = false by unfold limB; simp; omega]
      rfl
    · rw [if_neg h1]
      by_cases h2 : l[i] > M
      · rw [if_pos h2, show limB M l[i] = false by unfold limB; simp; omega]
        rfl
      · rw [if_neg h2, show limB M l[i] = true by unfold limB; simp; omega, wrap_succ l i hl (by omega), ih k (i + 1) (by omega) (by omega) (by omega)]
        rfl
theorem valid_l1 (w h s d : Int) (c : List S47) (p z : List Int) (hd : 0 ≤ bitsS d) (hp : p.length ≤ maxLen) (hz : z.length = p.length) : ∀ (e k i : Nat), p.length - i = e → i ≤ p.length → e < k →
    target_Valid.l1 k (p.length : Int) (i : Int) w h s d c p z = some ((p.drop i).all (limB (maxS d)) && (z.drop i).all (limB (mostS d))) := by
  intro e
  induction e with
  | zero =>
    intro k i he hi hk
    obtain ⟨k, rfl⟩ : ∃ m, k = m + 1 := ⟨k - 1, by omega⟩
    rw [target_Valid.l1, if_neg (by omega), List.drop_of_length_le (show p.length ≤ i by omega), List.drop_of_length_le (show z.length ≤ i by omega)]
    rfl
  | succ e ih =>
    intro k i he hi hk
    obtain ⟨k, rfl⟩ : ∃ m, k = m + 1 := ⟨k - 1, by omega⟩
    have hs : target_mostStencil.f w h s d c p z = some (mostS d) := by unfold target_mostStencil.f mostS; split <;> rfl
    rw [target_Valid.l1, if_pos (by omega), if_pos (by omega), if_pos (by omega), rd_nat p i (by omega), List.drop_eq_getElem_cons (show i < p.length by omega), List.drop_eq_getElem_cons (show i < z.length by omega), List.all_cons, List.all_cons, depth_Max_is d hd, Option.bind_some]
    by_cases h1 : p[i] < 0
    · rw [if_pos h1, show limB (maxS d) p[i] = false by unfold limB; simp; omega]
      rfl
    · rw [if_neg h1]
      by_cases h2 : p[i] > maxS d
      · rw [if_pos h2, show limB (maxS d) p[i] = false by unfold limB; simp; omega]
        rfl
      · rw [if_neg h2, show limB (maxS d) p[i] = true by unfold limB; simp; omega, if_pos (by omega), rd_nat z i (by omega)]
        by_cases h3 : z[i] < 0
        · rw [if_pos h3, show limB (mostS d) z[i] = false by unfold limB; simp; omega]
          simp
        · rw [if_neg h3, hs, Option.bind_some]
          by_cases h4 : z[i] > mostS d
          · rw [if_pos h4, show limB (mostS d) z[i] = false by unfold limB; simp; omega]
            simp
          · rw [if_neg h4, show limB (mostS d) z[i] = true by unfold limB; simp; omega, wrap_succ p i hp (by omega), ih k (i + 1) (by omega) (by omega) (by omega)]
            simp
def endS (n d : Int) (p z : List Int) : Bool := decide ((p.length : Int) = n) && (decide ((z.length : Int) = n) && (p.all (limB (maxS d)) && z.all (limB (mostS d))))
theorem valid_j2 (w h s d : Int) (c : List S47) (p z : List Int) (hd : 0 ≤ bitsS d) (hp : p.length ≤ maxLen) (n : Int) (k : Nat) (hk : p.length + 2 ≤ k) :
    (if (p.length : Int) = n then target_Valid.j2 k n ((z.length : Int) != n) w h s d c p z else target_Valid.j2 k n true w h s d c p z) = some (endS n d p z) := by
  obtain ⟨k, rfl⟩ : ∃ m, k = m + 1 := ⟨k - 1, by omega⟩
  unfold endS
  by_cases h1 : (p.length : Int) = n
  · rw [if_pos h1, target_Valid.j2, decide_eq_true h1]
    by_cases h2 : (z.length : Int) = n
    · rw [if_neg (by simp [h2]), decide_eq_true h2, ← h1]
      have := valid_l1 w h s d c p z hd hp (by omega) p.length k 0 (by omega) (by omega) (by omega)
      simpa using this
    · rw [if_pos (by simpa using h2), decide_eq_false h2]
      rfl
  · rw [if_neg h1, target_Valid.j2, if_pos rfl, decide_eq_false h1]
    rfl
theorem rvalid_end (d : Int) (p z : List Int) (hd : 0 ≤ bitsS d) (hp : p.length ≤ maxLen) (hz : z.length ≤ maxLen) (n : Int) (k : Nat) (hk : p.length + z.length + 50 ≤ k) :
    (if (p.length : Int) = n then (if (z.length : Int) = n then ((frustumref38_Max.f k d).bind fun t242 => ((frustumref42_limited.f k p t242).bind fun t243 => (if t243 = true then ((frustumref42_most.f d).bind fun t244 => ((frustumref42_limited.f k z t244).bind fun t245 => (some t245))) else (some false)))) else (some false)) else (some false)) = some (endS n d p z) := by
  unfold endS
  by_cases h1 : (p.length : Int) = n
  · rw [if_pos h1, decide_eq_true h1]
    by_cases h2 : (z.length : Int) = n
    · have hs : frustumref42_most.f d = some (mostS d) := by unfold frustumref42_most.f mostS; split <;> rfl
      have q1 : frustumref42_limited.f k p (maxS d) = some (p.all (limB (maxS d))) := by
        have := limited_is p hp (maxS d) p.length k 0 (by omega) (by omega) (by omega)
        simpa [frustumref42_limited.f] using this
      have q2 : frustumref42_limited.f k z (mostS d) = some (z.all (limB (mostS d))) := by
        have := limited_is z hz (mostS d) z.length k 0 (by omega) (by omega) (by omega)
        simpa [frustumref42_limited.f] using this
      rw [if_pos h2, decide_eq_true h2, rMax_is d hd k (by omega), Option.bind_some, q1, Option.bind_some]
      cases hq : p.all (limB (maxS d))
      · rfl
      · rw [if_pos rfl, hs, Option.bind_some, q2, Option.bind_some]
        rfl
    · rw [if_neg h2, decide_eq_false h2]
      rfl
  · rw [if_neg h1, decide_eq_false h1]
    rfl
theorem valid_l0 (w h s d : Int) (c : List S47) (p z : List Int) (hd : 0 ≤ bitsS d) (hc : c.length ≤ maxLen) (hp : p.length ≤ maxLen) : ∀ (e k i : Nat), c.length - i = e → i ≤ c.length → e + p.length + 10 ≤ k →
    target_Valid.l0 k c (c.length : Int) (i : Int) w h s d c p z = some ((c.drop i).all (goodB w h (rd_T47 c 0).f0) && endS (wrap64 ((wrap64 (w * h)) * s)) d p z) := by
  intro e
  induction e with
  | zero =>
    intro k i he hi hk
    obtain ⟨k, rfl⟩ : ∃ m, k = m + 1 := ⟨k - 1, by omega⟩
    rw [target_Valid.l0, if_neg (by omega), valid_j2 w h s d c p z hd hp _ k (by omega), show i = c.length by omega, List.drop_length]
    rfl
  | succ e ih =>
    intro k i he hi hk
    obtain ⟨k, rfl⟩ : ∃ m, k = m + 1 := ⟨k - 1, by omega⟩
    have hlt : i < c.length := by omega
    rw [target_Valid.l0, if_pos (by omega), if_pos (by omega), if_pos (by omega), rd47_nat c i hlt, (image_Valid_is c[i] k (by omega)).1, Option.bind_some, List.drop_eq_getElem_cons hlt, List.all_cons]
    have hw : wrap64 ((i : Int) + 1) = ((i + 1 : Nat) : Int) := by
      simp only [maxLen] at hc
      rw [wrap_in _ (by omega) (by omega)]
      omega
    rw [hw, ih k (i + 1) (by omega) (by omega) (by omega)]
    generalize (c.drop (i + 1)).all (goodB w h (rd_T47 c 0).f0) = A
    generalize endS (wrap64 ((wrap64 (w * h)) * s)) d p z = E
    unfold goodB
    cases h1 : imgB c[i]
    · rfl
    · rw [if_pos rfl]
      by_cases h2 : c[i].f1 = w
      · rw [if_pos h2]
        by_cases h3 : c[i].f2 = h
        · rw [if_pos h3, if_pos (by omega)]
          by_cases h4 : c[i].f0 = (rd_T47 c 0).f0
          · rw [if_pos h4]; simp [h2, h3, h4]
          · rw [if_neg h4]; simp [h4]
        · rw [if_neg h3]; simp [h3]
      · rw [if_neg h2]; simp [h2]
theorem rvalid_l0 (w h s d : Int) (c : List S47) (p z : List Int) (hd : 0 ≤ bitsS d) (hc : c.length ≤ maxLen) (hp : p.length ≤ maxLen) (hz : z.length ≤ maxLen) : ∀ (e k i : Nat), c.length - i = e → i ≤ c.length → e + p.length + z.length + 60 ≤ k →
    frustumref42_Valid.l0 k (i : Int) w h s d c p z = some ((c.drop i).all (goodB w h (rd_T47 c 0).f0) && endS (wrap64 ((wrap64 (w * h)) * s)) d p z) := by
  intro e
  induction e with
  | zero =>
    intro k i he hi hk
    obtain ⟨k, rfl⟩ : ∃ m, k = m + 1 := ⟨k - 1, by omega⟩
    rw [frustumref42_Valid.l0, if_neg (by omega), rvalid_end d p z hd hp hz _ k (by omega), show i = c.length by omega, List.drop_length]
    rfl
  | succ e ih =>
    intro k i he hi hk
    obtain ⟨k, rfl⟩ : ∃ m, k = m + 1 := ⟨k - 1, by omega⟩
    have hlt : i < c.length := by omega
    rw [frustumref42_Valid.l0, if_pos (by omega), if_pos (by omega), rd47_nat c i hlt, (image_Valid_is c[i] k (by omega)).2, Option.bind_some, List.drop_eq_getElem_cons hlt, List.all_cons]
    have hw : wrap64 ((i : Int) + 1) = ((i + 1 : Nat) : Int) := by
      simp only [maxLen] at hc
      rw [wrap_in _ (by omega) (by omega)]
      omega
    rw [hw, ih k (i + 1) (by omega) (by omega) (by omega)]
    generalize (c.drop (i + 1)).all (goodB w h (rd_T47 c 0).f0) = A
    generalize endS (wrap64 ((wrap64 (w * h)) * s)) d p z = E
    unfold goodB
    cases h1 : imgB c[i]
    · rfl
    · rw [if_pos rfl, if_pos (by omega)]
      by_cases h4 : c[i].f0 = (rd_T47 c 0).f0
      · rw [if_pos h4]
        by_cases h2 : c[i].f1 = w
        · rw [if_pos h2]
          by_cases h3 : c[i].f2 = h
          · rw [if_pos h3]; simp [h2, h3, h4]
          · rw [if_neg h3]; simp [h3]
        · rw [if_neg h2]; simp [h2]
      · rw [if_neg h4]; simp [h4]
def validS (w h s d : Int) (c : List S47) (p z : List Int) : Bool := sizedB w && (sizedB h && (okB s && (decide (0 ≤ bitsS d) && (decide ((c.length : Int) = s) && (c.all (goodB w h (rd_T47 c 0).f0) && endS (wrap64 ((wrap64 (w * h)) * s)) d p z)))))
theorem target_Valid_eq (w h s d : Int) (c : List S47) (p z : List Int) (hc : c.length ≤ maxLen) (hp : p.length ≤ maxLen) (k : Nat) (hk : c.length + p.length + 20 ≤ k) : target_Valid.f k w h s d c p z = some (validS w h s d c p z) := by
  obtain ⟨k, rfl⟩ : ∃ m, k = m + 1 := ⟨k - 1, by omega⟩
  have hj : target_Valid.j0 (k + 1) true w h s d c p z = some false := by rw [target_Valid.j0, if_pos rfl]
  unfold target_Valid.f validS
  rw [hj]
  by_cases h1 : w < 1
  · rw [if_pos h1, show sizedB w = false by unfold sizedB; simp; omega]; rfl
  rw [if_neg h1]
  by_cases h2 : w > 64
  · rw [if_pos h2, show sizedB w = false by unfold sizedB; simp; omega]; rfl
  rw [if_neg h2, show sizedB w = true by unfold sizedB; simp; omega]
  by_cases h3 : h < 1
  · rw [if_pos h3, show sizedB h = false by unfold sizedB; simp; omega]; rfl
  rw [if_neg h3]
  by_cases h4 : h > 64
  · rw [if_pos h4, show sizedB h = false by unfold sizedB; simp; omega]; rfl
  rw [if_neg h4, show sizedB h = true by unfold sizedB; simp; omega, ValidSamples_eq, Option.bind_some]
  cases h5 : okB s
  · rfl
  rw [if_pos rfl, depth_Bits_eq42, Option.bind_some]
  by_cases h6 : bitsS d < 0
  · rw [if_pos h6, decide_eq_false (by omega)]; rfl
  rw [if_neg h6, decide_eq_true (show 0 ≤ bitsS d by omega), target_Valid.j0]
  by_cases h7 : (c.length : Int) = s
  · rw [if_neg (by simp [h7]), decide_eq_true h7]
    have := valid_l0 w h s d c p z (by omega) hc hp c.length k 0 (by omega) (by omega) (by omega)
    simpa using this
  · rw [if_pos (by simpa using h7), decide_eq_false h7]; rfl
theorem frustumref42_Valid_eq (w h s d : Int) (c : List S47) (p z : List Int) (hc : c.length ≤ maxLen) (hp : p.length ≤ maxLen) (hz : z.length ≤ maxLen) (k : Nat) (hk : c.length + p.length + z.length + 100 ≤ k) : frustumref42_Valid.f k w h s d c p z = some (validS w h s d c p z) := by
  obtain ⟨k, rfl⟩ : ∃ m, k = m + 1 := ⟨k - 1, by omega⟩
  have hj : frustumref42_Valid.j0 (k + 1) true w h s d c p z = some false := by rw [frustumref42_Valid.j0, if_pos rfl]
  unfold frustumref42_Valid.f validS
  rw [hj]
  by_cases h1 : w < 1
  · rw [if_pos h1, show sizedB w = false by unfold sizedB; simp; omega]; rfl
  rw [if_neg h1]
  by_cases h2 : w > 64
  · rw [if_pos h2, show sizedB w = false by unfold sizedB; simp; omega]; rfl
  rw [if_neg h2, show sizedB w = true by unfold sizedB; simp; omega]
  by_cases h3 : h < 1
  · rw [if_pos h3, show sizedB h = false by unfold sizedB; simp; omega]; rfl
  rw [if_neg h3]
  by_cases h4 : h > 64
  · rw [if_pos h4, show sizedB h = false by unfold sizedB; simp; omega]; rfl
  rw [if_neg h4, show sizedB h = true by unfold sizedB; simp; omega, rValidSamples_eq, Option.bind_some]
  cases h5 : okB s
  · rfl
  rw [if_pos rfl, frustumref38_Bits_eq42, Option.bind_some]
  by_cases h6 : bitsS d < 0
  · rw [if_pos h6, decide_eq_false (by omega)]; rfl
  rw [if_neg h6, decide_eq_true (show 0 ≤ bitsS d by omega), frustumref42_Valid.j0]
  by_cases h7 : (c.length : Int) = s
  · rw [if_neg (by simp [h7]), decide_eq_true h7]
    have := rvalid_l0 w h s d c p z (by omega) hc hp hz c.length k 0 (by omega) (by omega) (by omega)
    simpa using this
  · rw [if_pos (by simpa using h7), decide_eq_false h7]; rfl
theorem small_l0 (w h s d : Int) (c : List S47) (p z : List Int) (hc : c.length ≤ maxLen) : ∀ (e i : Nat) (n : Int), c.length - i = e → i ≤ c.length → ∃ r, ∀ k, e < k → frustumlaw42_small.l0 k n (i : Int) w h s d c p z = some r := by
  intro e
  induction e with
  | zero =>
    intro i n he hi
    refine ⟨decide (n ≤ 40000), fun k hk => ?_⟩
    obtain ⟨k, rfl⟩ : ∃ m, k = m + 1 := ⟨k - 1, by omega⟩
    rw [frustumlaw42_small.l0, if_neg (by omega)]
  | succ e ih =>
    intro i n he hi
    obtain ⟨r, hr⟩ := ih (i + 1) (wrap64 (n + (((rd_T47 c i).f3).length : Int))) (by omega) (by omega)
    refine ⟨if (wrap64 (n + (((rd_T47 c i).f3).length : Int))) > 40000 then false else if (i : Int) > 20 then false else r, fun k hk => ?_⟩
    obtain ⟨k, rfl⟩ : ∃ m, k = m + 1 := ⟨k - 1, by omega⟩
    have hw : wrap64 ((i : Int) + 1) = ((i + 1 : Nat) : Int) := by
      simp only [maxLen] at hc
      rw [wrap_in _ (by omega) (by omega)]
      omega
    rw [frustumlaw42_small.l0, if_pos (by omega), if_pos (by omega), hw, hr k (by omega)]
    split
    · rfl
    · split <;> rfl
theorem small_eq (w h s d : Int) (c : List S47) (p z : List Int) (hc : c.length ≤ maxLen) : ∃ r, ∀ k, c.length < k → frustumlaw42_small.f k w h s d c p z = some r := by
  obtain ⟨r, hr⟩ := small_l0 w h s d c p z hc c.length 0 (wrap64 ((p.length : Int) + (z.length : Int))) (by omega) (by omega)
  exact ⟨r, fun k hk => hr k hk⟩
theorem mx47 {w : World} {A : Option Addr} {n : Nat} {xs : List S47} (h : Kd.C k47 w A n xs) : n ≤ 9223372036854775807 := Kd.C_max h
set_option maxHeartbeats 8000000 in
set_option maxRecDepth 100000 in
theorem TargetNew (x0 x1 x2 y0 y1 t0 t1 t2 t3 : Int) (A4 : Option Addr) (c4 : Nat) (l4 : List S47) (A5 : Option Addr) (c5 : Nat) (l5 : List Int) (A6 : Option Addr) (c6 : Nat) (l6 : List Int) (w : World) (hr4 : Kd.C k47 w A4 l4.length l4) (hc4 : l4.length ≤ c4) (hr5 : Kd.C (Kd.int .i64) w A5 l5.length l5) (hc5 : l5.length ≤ c5) (hr6 : Kd.C (Kd.int .i64) w A6 l6.length l6) (hc6 : l6.length ≤ c6)
    (hm4 : l4.length ≤ maxLen) (hm5 : l5.length ≤ maxLen) (hm6 : l6.length ≤ maxLen) :
    Calls Try.prog 3 #[.agg #[.int .i64 x0, .int .i64 x1, .int .i64 x2], .agg #[.int .i64 y0, .int .i64 y1], .agg #[.int .i64 t0, .int .i64 t1, .int .i64 t2, .int .i64 t3, .slice A4 l4.length c4, .slice A5 l5.length c5, .slice A6 l6.length c6]] w fun e w' => e = .returned (.bool true) ∧ Below w.heap.size w w' := by
  obtain ⟨s, hs0⟩ := small_eq t0 t1 t2 t3 l4 l5 l6 hm4
  obtain ⟨K, hK⟩ : ∃ K, K = l4.length + l5.length + l6.length + 2000000 := ⟨_, rfl⟩
  have SM := Aside0.mk (hs0 K (by omega))
  have EX := Aside0.mk (example42_eq K (by omega))
  have V1 := Aside0.mk (target_Valid_eq t0 t1 t2 t3 l4 l5 l6 hm4 hm5 K (by omega))
  have V2 := Aside0.mk (frustumref42_Valid_eq t0 t1 t2 t3 l4 l5 l6 hm4 hm5 hm6 K (by omega))
  have N1 := target_New_eq x0 x1 x2 y0 y1 K (by omega)
  have N2 := frustumref42_New_eq x0 x1 x2 y0 y1 K (by omega)
  obtain ⟨g1, g2, g3⟩ := newS_len x0 x1 x2 y0 y1
  obtain ⟨⟨r1, r2, r3, r4, r5, r6, r7, r8⟩, hR⟩ : ∃ R, newS x0 x1 x2 y0 y1 = R := ⟨_, rfl⟩
  rw [hR] at N1 N2 g1 g2 g3
  have EQ := Aside0.mk (frustumref42_Equal_eq r1 r2 r3 r4 r5 r6 r7 g1 g2 g3 K (by omega))
  have N1 := Aside0.mk N1
  have N2 := Aside0.mk N2
  generalize validS t0 t1 t2 t3 l4 l5 l6 = v at V1 V2
  clear hs0 hK hR g1 g2 g3 hm4 hm5 hm6
  have HR4 := Aside0.mk hr4
  have HR5 := Aside0.mk hr5
  have HR6 := Aside0.mk hr6
  have HC4 := Aside0.mk hc4
  have HC5 := Aside0.mk hc5
  have HC6 := Aside0.mk hc6
  clear hr4 hr5 hr6 hc4 hc5 hc6
  have hu28 := Try.underlying28
  have hu22 := Try.underlying22
  have hu23 := Try.underlying23
  go_enter Try.func3, Try.ntmps3
  go_upto_region 1 with (fail)
  have HL : Aside0 (Owns w [(w.heap.size + 1 + 1, #[.int .i64 t0, .int .i64 t1, .int .i64 t2, .int .i64 t3, .slice A4 l4.length c4, .slice A5 l5.length c5, .slice A6 l6.length c6], 28), (w.heap.size + 1, #[.int .i64 y0, .int .i64 y1], 23), (w.heap.size, #[.int .i64 x0, .int .i64 x1, .int .i64 x2], 22)] (((w.alloc (Obj.cells #[.int .i64 x0, .int .i64 x1, .int .i64 x2] 22)).alloc (Obj.cells #[.int .i64 y0, .int .i64 y1] 23)).alloc (Obj.cells #[.int .i64 t0, .int .i64 t1, .int .i64 t2, .int .i64 t3, .slice A4 l4.length c4, .slice A5 l5.length c5, .slice A6 l6.length c6] 28))) := ⟨by simpa using (((Owns.start w).alloc _ _).alloc _ _).alloc _ _⟩
  generalize (((w.alloc (Obj.cells #[.int .i64 x0, .int .i64 x1, .int .i64 x2] 22)).alloc (Obj.cells #[.int .i64 y0, .int .i64 y1] 23)).alloc (Obj.cells #[.int .i64 t0, .int .i64 t1, .int .i64 t2, .int .i64 t3, .slice A4 l4.length c4, .slice A5 l5.length c5, .slice A6 l6.length c6] 28)) = wa at HL ⊢
  go_cut [33] (fun v33 wc => ∃ b : Bool, v33 = .bool b ∧ Aside0 (Owns w [(w.heap.size + 1 + 1, #[.int .i64 t0, .int .i64 t1, .int .i64 t2, .int .i64 t3, .slice A4 l4.length c4, .slice A5 l5.length c5, .slice A6 l6.length c6], 28), (w.heap.size + 1, #[.int .i64 y0, .int .i64 y1], 23), (w.heap.size, #[.int .i64 x0, .int .i64 x1, .int .i64 x2], 22)] wc))
  case first =>
    have p0 := Owns.cell HL.out 0 _ _ 28 rfl 0 _ rfl
    have p1 := Owns.cell HL.out 0 _ _ 28 rfl 1 _ rfl
    have p2 := Owns.cell HL.out 0 _ _ 28 rfl 2 _ rfl
    have p3 := Owns.cell HL.out 0 _ _ 28 rfl 3 _ rfl
    have p4 := Owns.cell HL.out 0 _ _ 28 rfl 4 _ rfl
    have p5 := Owns.cell HL.out 0 _ _ 28 rfl 5 _ rfl
    have p6 := Owns.cell HL.out 0 _ _ 28 rfl 6 _ rfl
    cases s with
    | false =>
      go_wp2_with (go_at_call 6; (with_reducible refine (frustumlaw42_small.calls K t0 t1 t2 t3 A4 c4 l4 A5 c5 l5 A6 c6 l6 false _ ?s4 HC4.out ?s5 HC5.out ?s6 HC6.out SM.out).mono ?_); (case s4 => exact Kd.C_below HR4.out (by repeat (first | exact HL.out.bel | apply below_alloc | apply pw_below_drewN | apply below_drew1))); (case s5 => exact Kd.C_below HR5.out (by repeat (first | exact HL.out.bel | apply below_alloc | apply pw_below_drewN | apply below_drew1))); (case s6 => exact Kd.C_below HR6.out (by repeat (first | exact HL.out.bel | apply below_alloc | apply pw_below_drewN | apply below_drew1))); rintro e w1 ⟨rfl, hb⟩; have HT := Aside0.mk (Owns.step (by repeat (first | exact HL.out | (with_reducible apply Owns.drewN) | (with_reducible apply Owns.drew))) hb); clear HL hb; have HL := HT; clear HT; have q2_0 := Owns.cell HL.out 2 _ _ 22 rfl 0 _ rfl; have q2_1 := Owns.cell HL.out 2 _ _ 22 rfl 1 _ rfl; have q2_2 := Owns.cell HL.out 2 _ _ 22 rfl 2 _ rfl)
      go_meet
      case rel => exact ⟨_, rfl, HL⟩
    | true =>
      by_cases c1 : 20 < x0
      · have b1 := decide_eq_true c1
        clear c1
        by_cases c2 : x0 ≤ 64
        · have b2 := decide_eq_true c2
          clear c2
          go_wp2_with (go_at_call 6; (with_reducible refine (frustumlaw42_small.calls K t0 t1 t2 t3 A4 c4 l4 A5 c5 l5 A6 c6 l6 true _ ?s4 HC4.out ?s5 HC5.out ?s6 HC6.out SM.out).mono ?_); (case s4 => exact Kd.C_below HR4.out (by repeat (first | exact HL.out.bel | apply below_alloc | apply pw_below_drewN | apply below_drew1))); (case s5 => exact Kd.C_below HR5.out (by repeat (first | exact HL.out.bel | apply below_alloc | apply pw_below_drewN | apply below_drew1))); (case s6 => exact Kd.C_below HR6.out (by repeat (first | exact HL.out.bel | apply below_alloc | apply pw_below_drewN | apply below_drew1))); rintro e w1 ⟨rfl, hb⟩; have HT := Aside0.mk (Owns.step (by repeat (first | exact HL.out | (with_reducible apply Owns.drewN) | (with_reducible apply Owns.drew))) hb); clear HL hb; have HL := HT; clear HT; have q2_0 := Owns.cell HL.out 2 _ _ 22 rfl 0 _ rfl; have q2_1 := Owns.cell HL.out 2 _ _ 22 rfl 1 _ rfl; have q2_2 := Owns.cell HL.out 2 _ _ 22 rfl 2 _ rfl)
          go_meet
          case rel => exact ⟨_, rfl, HL⟩
        · have b2 := decide_eq_false c2
          clear c2
          by_cases c3 : 20 < x1
          · have b3 := decide_eq_true c3
            clear c3
            by_cases c4 : x1 ≤ 64
            · have b4 := decide_eq_true c4
              clear c4
              go_wp2_with (go_at_call 6; (with_reducible refine (frustumlaw42_small.calls K t0 t1 t2 t3 A4 c4 l4 A5 c5 l5 A6 c6 l6 true _ ?s4 HC4.out ?s5 HC5.out ?s6 HC6.out SM.out).mono ?_); (case s4 => exact Kd.C_below HR4.out (by repeat (first | exact HL.out.bel | apply below_alloc | apply pw_below_drewN | apply below_drew1))); (case s5 => exact Kd.C_below HR5.out (by repeat (first | exact HL.out.bel | apply below_alloc | apply pw_below_drewN | apply below_drew1))); (case s6 => exact Kd.C_below HR6.out (by repeat (first | exact HL.out.bel | apply below_alloc | apply pw_below_drewN | apply below_drew1))); rintro e w1 ⟨rfl, hb⟩; have HT := Aside0.mk (Owns.step (by repeat (first | exact HL.out | (with_reducible apply Owns.drewN) | (with_reducible apply Owns.drew))) hb); clear HL hb; have HL := HT; clear HT; have q2_0 := Owns.cell HL.out 2 _ _ 22 rfl 0 _ rfl; have q2_1 := Owns.cell HL.out 2 _ _ 22 rfl 1 _ rfl; have q2_2 := Owns.cell HL.out 2 _ _ 22 rfl 2 _ rfl)
              go_meet
              case rel => exact ⟨_, rfl, HL⟩
            · have b4 := decide_eq_false c4
              clear c4
              go_wp2_with (go_at_call 6; (with_reducible refine (frustumlaw42_small.calls K t0 t1 t2 t3 A4 c4 l4 A5 c5 l5 A6 c6 l6 true _ ?s4 HC4.out ?s5 HC5.out ?s6 HC6.out SM.out).mono ?_); (case s4 => exact Kd.C_below HR4.out (by repeat (first | exact HL.out.bel | apply below_alloc | apply pw_below_drewN | apply below_drew1))); (case s5 => exact Kd.C_below HR5.out (by repeat (first | exact HL.out.bel | apply below_alloc | apply pw_below_drewN | apply below_drew1))); (case s6 => exact Kd.C_below HR6.out (by repeat (first | exact HL.out.bel | apply below_alloc | apply pw_below_drewN | apply below_drew1))); rintro e w1 ⟨rfl, hb⟩; have HT := Aside0.mk (Owns.step (by repeat (first | exact HL.out | (with_reducible apply Owns.drewN) | (with_reducible apply Owns.drew))) hb); clear HL hb; have HL := HT; clear HT; have q2_0 := Owns.cell HL.out 2 _ _ 22 rfl 0 _ rfl; have q2_1 := Owns.cell HL.out 2 _ _ 22 rfl 1 _ rfl; have q2_2 := Owns.cell HL.out 2 _ _ 22 rfl 2 _ rfl)
              go_meet
              case rel => exact ⟨_, rfl, HL⟩
          · have b3 := decide_eq_false c3
            clear c3
            go_wp2_with (go_at_call 6; (with_reducible refine (frustumlaw42_small.calls K t0 t1 t2 t3 A4 c4 l4 A5 c5 l5 A6 c6 l6 true _ ?s4 HC4.out ?s5 HC5.out ?s6 HC6.out SM.out).mono ?_); (case s4 => exact Kd.C_below HR4.out (by repeat (first | exact HL.out.bel | apply below_alloc | apply pw_below_drewN | apply below_drew1))); (case s5 => exact Kd.C_below HR5.out (by repeat (first | exact HL.out.bel | apply below_alloc | apply pw_below_drewN | apply below_drew1))); (case s6 => exact Kd.C_below HR6.out (by repeat (first | exact HL.out.bel | apply below_alloc | apply pw_below_drewN | apply below_drew1))); rintro e w1 ⟨rfl, hb⟩; have HT := Aside0.mk (Owns.step (by repeat (first | exact HL.out | (with_reducible apply Owns.drewN) | (with_reducible apply Owns.drew))) hb); clear HL hb; have HL := HT; clear HT; have q2_0 := Owns.cell HL.out 2 _ _ 22 rfl 0 _ rfl; have q2_1 := Owns.cell HL.out 2 _ _ 22 rfl 1 _ rfl; have q2_2 := Owns.cell HL.out 2 _ _ 22 rfl 2 _ rfl)
            go_meet
            case rel => exact ⟨_, rfl, HL⟩
      · have b1 := decide_eq_false c1
        clear c1
        by_cases c3 : 20 < x1
        · have b3 := decide_eq_true c3
          clear c3
          by_cases c4 : x1 ≤ 64
          · have b4 := decide_eq_true c4
            clear c4
            go_wp2_with (go_at_call 6; (with_reducible refine (frustumlaw42_small.calls K t0 t1 t2 t3 A4 c4 l4 A5 c5 l5 A6 c6 l6 true _ ?s4 HC4.out ?s5 HC5.out ?s6 HC6.out SM.out).mono ?_); (case s4 => exact Kd.C_below HR4.out (by repeat (first | exact HL.out.bel | apply below_alloc | apply pw_below_drewN | apply below_drew1))); (case s5 => exact Kd.C_below HR5.out (by repeat (first | exact HL.out.bel | apply below_alloc | apply pw_below_drewN | apply below_drew1))); (case s6 => exact Kd.C_below HR6.out (by repeat (first | exact HL.out.bel | apply below_alloc | apply pw_below_drewN | apply below_drew1))); rintro e w1 ⟨rfl, hb⟩; have HT := Aside0.mk (Owns.step (by repeat (first | exact HL.out | (with_reducible apply Owns.drewN) | (with_reducible apply Owns.drew))) hb); clear HL hb; have HL := HT; clear HT; have q2_0 := Owns.cell HL.out 2 _ _ 22 rfl 0 _ rfl; have q2_1 := Owns.cell HL.out 2 _ _ 22 rfl 1 _ rfl; have q2_2 := Owns.cell HL.out 2 _ _ 22 rfl 2 _ rfl)
            go_meet
            case rel => exact ⟨_, rfl, HL⟩
          · have b4 := decide_eq_false c4
            clear c4
            go_wp2_with (go_at_call 6; (with_reducible refine (frustumlaw42_small.calls K t0 t1 t2 t3 A4 c4 l4 A5 c5 l5 A6 c6 l6 true _ ?s4 HC4.out ?s5 HC5.out ?s6 HC6.out SM.out).mono ?_); (case s4 => exact Kd.C_below HR4.out (by repeat (first | exact HL.out.bel | apply below_alloc | apply pw_below_drewN | apply below_drew1))); (case s5 => exact Kd.C_below HR5.out (by repeat (first | exact HL.out.bel | apply below_alloc | apply pw_below_drewN | apply below_drew1))); (case s6 => exact Kd.C_below HR6.out (by repeat (first | exact HL.out.bel | apply below_alloc | apply pw_below_drewN | apply below_drew1))); rintro e w1 ⟨rfl, hb⟩; have HT := Aside0.mk (Owns.step (by repeat (first | exact HL.out | (with_reducible apply Owns.drewN) | (with_reducible apply Owns.drew))) hb); clear HL hb; have HL := HT; clear HT; have q2_0 := Owns.cell HL.out 2 _ _ 22 rfl 0 _ rfl; have q2_1 := Owns.cell HL.out 2 _ _ 22 rfl 1 _ rfl; have q2_2 := Owns.cell HL.out 2 _ _ 22 rfl 2 _ rfl)
            go_meet
            case rel => exact ⟨_, rfl, HL⟩
        · have b3 := decide_eq_false c3
          clear c3
          go_wp2_with (go_at_call 6; (with_reducible refine (frustumlaw42_small.calls K t0 t1 t2 t3 A4 c4 l4 A5 c5 l5 A6 c6 l6 true _ ?s4 HC4.out ?s5 HC5.out ?s6 HC6.out SM.out).mono ?_); (case s4 => exact Kd.C_below HR4.out (by repeat (first | exact HL.out.bel | apply below_alloc | apply pw_below_drewN | apply below_drew1))); (case s5 => exact Kd.C_below HR5.out (by repeat (first | exact HL.out.bel | apply below_alloc | apply pw_below_drewN | apply below_drew1))); (case s6 => exact Kd.C_below HR6.out (by repeat (first | exact HL.out.bel | apply below_alloc | apply pw_below_drewN | apply below_drew1))); rintro e w1 ⟨rfl, hb⟩; have HT := Aside0.mk (Owns.step (by repeat (first | exact HL.out | (with_reducible apply Owns.drewN) | (with_reducible apply Owns.drew))) hb); clear HL hb; have HL := HT; clear HT; have q2_0 := Owns.cell HL.out 2 _ _ 22 rfl 0 _ rfl; have q2_1 := Owns.cell HL.out 2 _ _ 22 rfl 1 _ rfl; have q2_2 := Owns.cell HL.out 2 _ _ 22 rfl 2 _ rfl)
          go_meet
          case rel => exact ⟨_, rfl, HL⟩
  case rest =>
    obtain ⟨b, rfl, HL⟩ := hcut
    cases b with
    | true =>
      go_wp2_with (go_at_call 7; (with_reducible refine (frustumlaw42_example.calls K true _ EX.out).mono ?_); rintro e w2 ⟨rfl, hb⟩; have HT := Aside0.mk (Owns.step (by repeat (first | exact HL.out | (with_reducible apply Owns.drewN) | (with_reducible apply Owns.drew))) hb); clear HL hb; have HL := HT; clear HT)
      go_ret
      exact ⟨rfl, HL.out.bel⟩
    | false =>
      have q0 := Owns.cell HL.out 2 _ _ 22 rfl 0 _ rfl
      have q1 := Owns.cell HL.out 2 _ _ 22 rfl 1 _ rfl
      have q2 := Owns.cell HL.out 2 _ _ 22 rfl 2 _ rfl
      have z0 := Owns.cell HL.out 1 _ _ 23 rfl 0 _ rfl
      have z1 := Owns.cell HL.out 1 _ _ 23 rfl 1 _ rfl
      go_upto_region 4 with (go_at_call 8; (with_reducible refine (target_New.calls K x0 x1 x2 y0 y1 r1 r2 r3 r4 r5 r6 r7 r8 _ N1.out).mono ?_); rintro e w3 ⟨v4, v5, v6, rfl, ho4, ho5, ho6, hb⟩; obtain ⟨a4, ac4, rfl, al4, ah4⟩ := Kd.S_reads ho4; obtain ⟨a5, ac5, rfl, al5, ah5⟩ := Kd.R_reads ho5; obtain ⟨a6, ac6, rfl, al6, ah6⟩ := Kd.R_reads ho6; have aH4 := Aside0.mk ah4; have aH5 := Aside0.mk ah5; have aH6 := Aside0.mk ah6; have aL4 := Aside0.mk al4; have aL5 := Aside0.mk al5; have aL6 := Aside0.mk al6; clear ho4 ho5 ho6 ah4 ah5 ah6 al4 al5 al6; have HT := Aside0.mk (Owns.step (by repeat (first | exact HL.out | (with_reducible apply Owns.drewN) | (with_reducible apply Owns.drew))) hb); clear HL hb; have HL := HT; clear HT; have aD := Aside0.mk (Below.refl w3.heap.size w3))
      clear q0 q1 q2 z0 z1
      have HT : Aside0 (Owns w [(w3.heap.size, #[.int .i64 r1, .int .i64 r2, .int .i64 r3, .int .i64 r4, .slice a4 r5.length ac4, .slice a5 r6.length ac5, .slice a6 r7.length ac6], 28), (w.heap.size + 1 + 1, #[.int .i64 t0, .int .i64 t1, .int .i64 t2, .int .i64 t3, .slice A4 l4.length c4, .slice A5 l5.length c5, .slice A6 l6.length c6], 28), (w.heap.size + 1, #[.int .i64 y0, .int .i64 y1], 23), (w.heap.size, #[.int .i64 x0, .int .i64 x1, .int .i64 x2], 22)] (w3.alloc (Obj.cells #[.int .i64 r1, .int .i64 r2, .int .i64 r3, .int .i64 r4, .slice a4 r5.length ac4, .slice a5 r6.length ac5, .slice a6 r7.length ac6] 28))) := ⟨by simpa using HL.out.alloc _ _⟩
      have aT : Aside0 (Below w3.heap.size w3 (w3.alloc (Obj.cells #[.int .i64 r1, .int .i64 r2, .int .i64 r3, .int .i64 r4, .slice a4 r5.length ac4, .slice a5 r6.length ac5, .slice a6 r7.length ac6] 28))) := ⟨(by repeat (first | exact aD.out | apply below_alloc | apply pw_below_drewN | apply below_drew1))⟩
      clear HL aD
      have HL := HT
      have aD := aT
      clear HT aT
      generalize (w3.alloc (Obj.cells #[.int .i64 r1, .int .i64 r2, .int .i64 r3, .int .i64 r4, .slice a4 r5.length ac4, .slice a5 r6.length ac5, .slice a6 r7.length ac6] 28)) = w4 at HL aD ⊢
      have q0 := Owns.cell HL.out 3 _ _ 22 rfl 0 _ rfl
      have q1 := Owns.cell HL.out 3 _ _ 22 rfl 1 _ rfl
      have q2 := Owns.cell HL.out 3 _ _ 22 rfl 2 _ rfl
      have z0 := Owns.cell HL.out 2 _ _ 23 rfl 0 _ rfl
      have z1 := Owns.cell HL.out 2 _ _ 23 rfl 1 _ rfl
      go_upto_region 5 with (go_at_call 9; (with_reducible refine (frustumref42_New.calls K x0 x1 x2 y0 y1 r1 r2 r3 r4 r5 r6 r7 r8 _ N2.out).mono ?_); rintro e w5 ⟨v4, v5, v6, rfl, ho4, ho5, ho6, hb⟩; obtain ⟨b4, bc4, rfl, bl4, bh4⟩ := Kd.S_reads ho4; obtain ⟨b5, bc5, rfl, bl5, bh5⟩ := Kd.R_reads ho5; obtain ⟨b6, bc6, rfl, bl6, bh6⟩ := Kd.R_reads ho6; have bH4 := Aside0.mk bh4; have bH5 := Aside0.mk bh5; have bH6 := Aside0.mk bh6; have bL4 := Aside0.mk bl4; have bL5 := Aside0.mk bl5; have bL6 := Aside0.mk bl6; clear ho4 ho5 ho6 bh4 bh5 bh6 bl4 bl5 bl6; have aDT := Aside0.mk (below_step (by repeat (first | exact aD.out | apply below_alloc | apply pw_below_drewN | apply below_drew1)) hb); clear aD; have aD := aDT; clear aDT; have HT := Aside0.mk (Owns.step (by repeat (first | exact HL.out | (with_reducible apply Owns.drewN) | (with_reducible apply Owns.drew))) hb); clear HL hb; have HL := HT; clear HT; have bD := Aside0.mk (Below.refl w5.heap.size w5))
      clear q0 q1 q2 z0 z1
      have HT : Aside0 (Owns w [(w5.heap.size, #[.int .i64 r1, .int .i64 r2, .int .i64 r3, .int .i64 r4, .slice b4 r5.length bc4, .slice b5 r6.length bc5, .slice b6 r7.length bc6], 28), (w3.heap.size, #[.int .i64 r1, .int .i64 r2, .int .i64 r3, .int .i64 r4, .slice a4 r5.length ac4, .slice a5 r6.length ac5, .slice a6 r7.length ac6], 28), (w.heap.size + 1 + 1, #[.int .i64 t0, .int .i64 t1, .int .i64 t2, .int .i64 t3, .slice A4 l4.length c4, .slice A5 l5.length c5, .slice A6 l6.length c6], 28), (w.heap.size + 1, #[.int .i64 y0, .int .i64 y1], 23), (w.heap.size, #[.int .i64 x0, .int .i64 x1, .int .i64 x2], 22)] (w5.alloc (Obj.cells #[.int .i64 r1, .int .i64 r2, .int .i64 r3, .int .i64 r4, .slice b4 r5.length bc4, .slice b5 r6.length bc5, .slice b6 r7.length bc6] 28))) := ⟨by simpa using HL.out.alloc _ _⟩
      have aT : Aside0 (Below w3.heap.size w3 (w5.alloc (Obj.cells #[.int .i64 r1, .int .i64 r2, .int .i64 r3, .int .i64 r4, .slice b4 r5.length bc4, .slice b5 r6.length bc5, .slice b6 r7.length bc6] 28))) := ⟨(by repeat (first | exact aD.out | apply below_alloc | apply pw_below_drewN | apply below_drew1))⟩
      have bT : Aside0 (Below w5.heap.size w5 (w5.alloc (Obj.cells #[.int .i64 r1, .int .i64 r2, .int .i64 r3, .int .i64 r4, .slice b4 r5.length bc4, .slice b5 r6.length bc5, .slice b6 r7.length bc6] 28))) := ⟨(by repeat (first | exact bD.out | apply below_alloc | apply pw_below_drewN | apply below_drew1))⟩
      clear HL aD bD
      have HL := HT
      have aD := aT
      have bD := bT
      clear HT aT bT
      generalize (w5.alloc (Obj.cells #[.int .i64 r1, .int .i64 r2, .int .i64 r3, .int .i64 r4, .slice b4 r5.length bc4, .slice b5 r6.length bc5, .slice b6 r7.length bc6] 28)) = w6 at HL aD bD ⊢
      have hv : (v == v) = true := beq_self_eq_true v
      have h8 : (r8 == r8) = true := beq_self_eq_true r8
      first | go_region_held3 (fun w' => w'.cell? ⟨w5.heap.size, 0, none⟩ = some (.int .i64 r1) ∧ w'.cell? ⟨w5.heap.size, 1, none⟩ = some (.int .i64 r2) ∧ w'.cell? ⟨w5.heap.size, 2, none⟩ = some (.int .i64 r3) ∧ w'.cell? ⟨w5.heap.size, 3, none⟩ = some (.int .i64 r4) ∧ w'.cell? ⟨w5.heap.size, 4, none⟩ = some (.slice b4 r5.length bc4) ∧ w'.cell? ⟨w5.heap.size, 5, none⟩ = some (.slice b5 r6.length bc5) ∧ w'.cell? ⟨w5.heap.size, 6, none⟩ = some (.slice b6 r7.length bc6) ∧ w'.cell? ⟨w3.heap.size, 0, none⟩ = some (.int .i64 r1) ∧ w'.cell? ⟨w3.heap.size, 1, none⟩ = some (.int .i64 r2) ∧ w'.cell? ⟨w3.heap.size, 2, none⟩ = some (.int .i64 r3) ∧ w'.cell? ⟨w3.heap.size, 3, none⟩ = some (.int .i64 r4) ∧ w'.cell? ⟨w3.heap.size, 4, none⟩ = some (.slice a4 r5.length ac4) ∧ w'.cell? ⟨w3.heap.size, 5, none⟩ = some (.slice a5 r6.length ac5) ∧ w'.cell? ⟨w3.heap.size, 6, none⟩ = some (.slice a6 r7.length ac6) ∧ w'.cell? ⟨w.heap.size + 1 + 1, 0, none⟩ = some (.int .i64 t0) ∧ w'.cell? ⟨w.heap.size + 1 + 1, 1, none⟩ = some (.int .i64 t1) ∧ w'.cell? ⟨w.heap.size + 1 + 1, 2, none⟩ = some (.int .i64 t2) ∧ w'.cell? ⟨w.heap.size + 1 + 1, 3, none⟩ = some (.int .i64 t3) ∧ w'.cell? ⟨w.heap.size + 1 + 1, 4, none⟩ = some (.slice A4 l4.length c4) ∧ w'.cell? ⟨w.heap.size + 1 + 1, 5, none⟩ = some (.slice A5 l5.length c5) ∧ w'.cell? ⟨w.heap.size + 1 + 1, 6, none⟩ = some (.slice A6 l6.length c6)) (first | exact ⟨Owns.cell HL.out 0 _ _ 28 rfl 0 _ rfl, Owns.cell HL.out 0 _ _ 28 rfl 1 _ rfl, Owns.cell HL.out 0 _ _ 28 rfl 2 _ rfl, Owns.cell HL.out 0 _ _ 28 rfl 3 _ rfl, Owns.cell HL.out 0 _ _ 28 rfl 4 _ rfl, Owns.cell HL.out 0 _ _ 28 rfl 5 _ rfl, Owns.cell HL.out 0 _ _ 28 rfl 6 _ rfl, Owns.cell HL.out 1 _ _ 28 rfl 0 _ rfl, Owns.cell HL.out 1 _ _ 28 rfl 1 _ rfl, Owns.cell HL.out 1 _ _ 28 rfl 2 _ rfl, Owns.cell HL.out 1 _ _ 28 rfl 3 _ rfl, Owns.cell HL.out 1 _ _ 28 rfl 4 _ rfl, Owns.cell HL.out 1 _ _ 28 rfl 5 _ rfl, Owns.cell HL.out 1 _ _ 28 rfl 6 _ rfl, Owns.cell HL.out 2 _ _ 28 rfl 0 _ rfl, Owns.cell HL.out 2 _ _ 28 rfl 1 _ rfl, Owns.cell HL.out 2 _ _ 28 rfl 2 _ rfl, Owns.cell HL.out 2 _ _ 28 rfl 3 _ rfl, Owns.cell HL.out 2 _ _ 28 rfl 4 _ rfl, Owns.cell HL.out 2 _ _ 28 rfl 5 _ rfl, Owns.cell HL.out 2 _ _ 28 rfl 6 _ rfl⟩ | go_keep) (first | (go_at_call 10; (with_reducible refine (frustumref42_Equal.calls K r1 r2 r3 r4 a4 ac4 r5 a5 ac5 r6 a6 ac6 r7 r1 r2 r3 r4 b4 bc4 r5 b5 bc5 r6 b6 bc6 r7 true _ ?e1 aL4.out ?e2 aL5.out ?e3 aL6.out ?e4 bL4.out ?e5 bL5.out ?e6 bL6.out EQ.out).mono ?_); (case e1 => exact Kd.C_below aH4.out (by repeat (first | exact aD.out | apply below_alloc | apply pw_below_drewN | apply below_drew1))); (case e2 => exact Kd.C_below aH5.out (by repeat (first | exact aD.out | apply below_alloc | apply pw_below_drewN | apply below_drew1))); (case e3 => exact Kd.C_below aH6.out (by repeat (first | exact aD.out | apply below_alloc | apply pw_below_drewN | apply below_drew1))); (case e4 => exact Kd.C_below bH4.out (by repeat (first | exact bD.out | apply below_alloc | apply pw_below_drewN | apply below_drew1))); (case e5 => exact Kd.C_below bH5.out (by repeat (first | exact bD.out | apply below_alloc | apply pw_below_drewN | apply below_drew1))); (case e6 => exact Kd.C_below bH6.out (by repeat (first | exact bD.out | apply below_alloc | apply pw_below_drewN | apply below_drew1))); rintro e w7 ⟨rfl, hb⟩; have aDT := Aside0.mk (below_step (by repeat (first | exact aD.out | apply below_alloc | apply pw_below_drewN | apply below_drew1)) hb); clear aD; have aD := aDT; clear aDT; have bDT := Aside0.mk (below_step (by repeat (first | exact bD.out | apply below_alloc | apply pw_below_drewN | apply below_drew1)) hb); clear bD; have bD := bDT; clear bDT; have HT := Aside0.mk (Owns.step (by repeat (first | exact HL.out | (with_reducible apply Owns.drewN) | (with_reducible apply Owns.drew))) hb); clear HL hb; have HL := HT; clear HT) | (go_at_call 11; (with_reducible refine (target_Valid.calls K t0 t1 t2 t3 A4 c4 l4 A5 c5 l5 A6 c6 l6 v _ ?s4 HC4.out ?s5 HC5.out ?s6 HC6.out V1.out).mono ?_); (case s4 => exact Kd.C_below HR4.out (by repeat (first | exact HL.out.bel | apply below_alloc | apply pw_below_drewN | apply below_drew1))); (case s5 => exact Kd.C_below HR5.out (by repeat (first | exact HL.out.bel | apply below_alloc | apply pw_below_drewN | apply below_drew1))); (case s6 => exact Kd.C_below HR6.out (by repeat (first | exact HL.out.bel | apply below_alloc | apply pw_below_drewN | apply below_drew1))); rintro e w8 ⟨rfl, hb⟩; have aDT := Aside0.mk (below_step (by repeat (first | exact aD.out | apply below_alloc | apply pw_below_drewN | apply below_drew1)) hb); clear aD; have aD := aDT; clear aDT; have bDT := Aside0.mk (below_step (by repeat (first | exact bD.out | apply below_alloc | apply pw_below_drewN | apply below_drew1)) hb); clear bD; have bD := bDT; clear bDT; have HT := Aside0.mk (Owns.step (by repeat (first | exact HL.out | (with_reducible apply Owns.drewN) | (with_reducible apply Owns.drew))) hb); clear HL hb; have HL := HT; clear HT) | (go_at_call 12; (with_reducible refine (frustumref42_Valid.calls K t0 t1 t2 t3 A4 c4 l4 A5 c5 l5 A6 c6 l6 v _ ?s4 HC4.out ?s5 HC5.out ?s6 HC6.out V2.out).mono ?_); (case s4 => exact Kd.C_below HR4.out (by repeat (first | exact HL.out.bel | apply below_alloc | apply pw_below_drewN | apply below_drew1))); (case s5 => exact Kd.C_below HR5.out (by repeat (first | exact HL.out.bel | apply below_alloc | apply pw_below_drewN | apply below_drew1))); (case s6 => exact Kd.C_below HR6.out (by repeat (first | exact HL.out.bel | apply below_alloc | apply pw_below_drewN | apply below_drew1))); rintro e w9 ⟨rfl, hb⟩; have aDT := Aside0.mk (below_step (by repeat (first | exact aD.out | apply below_alloc | apply pw_below_drewN | apply below_drew1)) hb); clear aD; have aD := aDT; clear aDT; have bDT := Aside0.mk (below_step (by repeat (first | exact bD.out | apply below_alloc | apply pw_below_drewN | apply below_drew1)) hb); clear bD; have bD := bDT; clear bDT; have HT := Aside0.mk (Owns.step (by repeat (first | exact HL.out | (with_reducible apply Owns.drewN) | (with_reducible apply Owns.drew))) hb); clear HL hb; have HL := HT; clear HT) | (go_at_call 7; (with_reducible refine (frustumlaw42_example.calls K true _ EX.out).mono ?_); rintro e w10 ⟨rfl, hb⟩; have aDT := Aside0.mk (below_step (by repeat (first | exact aD.out | apply below_alloc | apply pw_below_drewN | apply below_drew1)) hb); clear aD; have aD := aDT; clear aDT; have bDT := Aside0.mk (below_step (by repeat (first | exact bD.out | apply below_alloc | apply pw_below_drewN | apply below_drew1)) hb); clear bD; have bD := bDT; clear bDT; have HT := Aside0.mk (Owns.step (by repeat (first | exact HL.out | (with_reducible apply Owns.drewN) | (with_reducible apply Owns.drew))) hb); clear HL hb; have HL := HT; clear HT)) | fail
      go_wp2
      go_ret
      exact ⟨by first | rfl | simp, HL.out.bel⟩

end Go.Proofs.Ytmpmennepjkocaa.Pure
