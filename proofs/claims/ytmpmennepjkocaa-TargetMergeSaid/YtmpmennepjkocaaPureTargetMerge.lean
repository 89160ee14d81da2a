/- TargetMerge: Merge returns what the reference returns. No condition. -/
import Derived.Test.YtmpmennepjkocaaPTargetMergex13
import Derived.Test.YtmpmennepjkocaaPTargetMergex2
import Derived.Test.YtmpmennepjkocaaPTargetMergex3
import Derived.Test.YtmpmennepjkocaaPTargetMergex4
import Derived.Test.YtmpmennepjkocaaPTargetMergex5
import Derived.Test.YtmpmennepjkocaaPTargetMergex6
import Derived.Test.YtmpmennepjkocaaPTargetMergex7
import Derived.Test.YtmpmennepjkocaaPTargetMergex8
import Derived.Test.YtmpmennepjkocaaPTargetMergex11
import Derived.Test.YtmpmennepjkocaaPTargetMergex12
import Derived.Test.YtmpmennepjkocaaOwn
import Derived.Test.YtmpmennepjkocaaTMerge
import Derived.Test.YtmpmennepjkocaaTMergeN
import Derived.Test.YtmpmennepjkocaaRMerge
import Derived.Test.YtmpmennepjkocaaRMergeN
import Derived.Laws.BitsLemmas
namespace Go.Proofs.Ytmpmennepjkocaa.Pure
set_option linter.unusedVariables false
set_option linter.unusedSimpArgs false
open Go.RowKit Go.Proofs.Ytmpmennepjkocaa.Own Go.Proofs.Ytmpmennepjkocaa.PTargetMerge Go.Proofs.YtmpmennepjkocaaW.PrintWords Go.Proofs.YtmpmennepjkocaaW.PrintLast Go.Proofs.YtmpmennepjkocaaW.PrintMore
/-! numbers -/
theorem and_mask (j : Nat) (hj : j ≤ 63) (n : Int) : Go.bits .and .i64 n (2 ^ j - 1) = n % 2 ^ j := by
  have hp : (2 : Nat) ^ j ≤ 2 ^ 63 := Nat.pow_le_pow_right (by decide) hj
  have hpos : 0 < (2 : Nat) ^ j := Nat.two_pow_pos j
  have hm : (BitVec.ofInt 64 ((2 : Int) ^ j - 1)).toNat = 2 ^ j - 1 := by
    have hc : ((2 : Int) ^ j - 1) = ((2 ^ j - 1 : Nat) : Int) := by rw [Int.natCast_sub hpos]; simp
    rw [hc, BitVec.ofInt_natCast, BitVec.toNat_ofNat]
    exact Nat.mod_eq_of_lt (by omega)
  have key : (BitVec.ofInt 64 n &&& BitVec.ofInt 64 ((2 : Int) ^ j - 1)).toNat = (n % ((2 ^ 64 : Nat) : Int)).toNat % 2 ^ j := by
    rw [BitVec.toNat_and, BitVec.toNat_ofInt, hm, Nat.and_two_pow_sub_one_eq_mod]
  show IntKind.i64.wrap ((BitVec.ofInt 64 n &&& BitVec.ofInt 64 ((2 : Int) ^ j - 1)).toNat : Nat) = n % 2 ^ j
  rw [key, Go.IntKind.wrap_i64]
  have hlt := Nat.mod_lt (n % ((2 ^ 64 : Nat) : Int)).toNat hpos
  have h1 : (((n % ((2 ^ 64 : Nat) : Int)).toNat % 2 ^ j : Nat) : Int) = n % 2 ^ j := by
    rw [Int.natCast_emod, Int.toNat_of_nonneg (Int.emod_nonneg _ (by decide))]
    rw [Int.natCast_pow]
    refine Int.emod_emod_of_dvd n ?_
    have : (2 : Int) ^ 64 = 2 ^ j * 2 ^ (64 - j) := by rw [← Int.pow_add]; congr 1; omega
    exact ⟨2 ^ (64 - j), by exact_mod_cast this⟩
  rw [← h1]
  omega
theorem and255 (n : Int) : Go.bits .and .i64 n 255 = n % 256 := and_mask 8 (by decide) n
theorem bits_i64_nat (a b : Nat) (ha : a < 2 ^ 63) (hb : b < 2 ^ 63) : Go.bits .and .i64 a b = ((a &&& b : Nat) : Int) ∧ Go.bits .or .i64 a b = ((a ||| b : Nat) : Int) :=
  Go.bits_nat .i64 63 (by decide) (fun n h0 h1 => by rw [Go.IntKind.wrap_i64]; omega) a b ha hb
/-- only the lowest bits count where the mask is small. -/
theorem and_low (j : Nat) (hj : j ≤ 63) (n m : Int) (h0 : 0 ≤ m) (h1 : m < 2 ^ j) : Go.bits .and .i64 n m = Go.bits .and .i64 (n % 2 ^ j) m := by
  obtain ⟨b, rfl⟩ := Int.eq_ofNat_of_zero_le h0
  have hb : b < 2 ^ j := by exact_mod_cast h1
  have hp : (2 : Nat) ^ j ≤ 2 ^ 63 := Nat.pow_le_pow_right (by decide) hj
  have hpos : 0 < (2 : Nat) ^ j := Nat.two_pow_pos j
  have hmm : ∀ x : Nat, x &&& b = (x % 2 ^ j) &&& b := by
    intro x
    rw [← Nat.and_two_pow_sub_one_eq_mod, Nat.and_assoc]
    congr 1
    rw [Nat.and_comm, Nat.and_two_pow_sub_one_eq_mod, Nat.mod_eq_of_lt hb]
  show IntKind.i64.wrap ((BitVec.ofInt 64 n &&& BitVec.ofInt 64 (b : Int)).toNat : Nat) = IntKind.i64.wrap ((BitVec.ofInt 64 (n % 2 ^ j) &&& BitVec.ofInt 64 (b : Int)).toNat : Nat)
  rw [BitVec.toNat_and, BitVec.toNat_and, BitVec.ofInt_natCast, BitVec.toNat_ofNat, Nat.mod_eq_of_lt (show b < 2 ^ 64 by omega), BitVec.toNat_ofInt, BitVec.toNat_ofInt]
  rw [hmm, hmm ((n % 2 ^ j) % ((2 ^ 64 : Nat) : Int)).toNat]
  congr 3
  have e : ∀ z : Int, ((z % ((2 ^ 64 : Nat) : Int)).toNat % 2 ^ j : Nat) = (z % 2 ^ j).toNat := by
    intro z
    have h1 : (((z % ((2 ^ 64 : Nat) : Int)).toNat % 2 ^ j : Nat) : Int) = z % 2 ^ j := by
      rw [Int.natCast_emod, Int.toNat_of_nonneg (Int.emod_nonneg _ (by decide)), Int.natCast_pow]
      refine Int.emod_emod_of_dvd z ?_
      have : (2 : Int) ^ 64 = 2 ^ j * 2 ^ (64 - j) := by rw [← Int.pow_add]; congr 1; omega
      exact ⟨2 ^ (64 - j), by exact_mod_cast this⟩
    omega
  rw [e, e, Int.emod_emod_of_dvd n (Int.dvd_refl _)]
theorem wrap_in (x : Int) (h0 : -9223372036854775808 ≤ x) (h1 : x ≤ 9223372036854775807) : wrap64 x = x := by unfold wrap64; omega
theorem wf_bounds {a : Int} (h : (Lit.int .i64 a).wf = true) : -9223372036854775808 ≤ a ∧ a ≤ 9223372036854775807 := by
  simpa [Lit.wf, IntKind.min, IntKind.max, IntKind.signed, IntKind.bits] using h
theorem u64_wrap (x : Int) : IntKind.u64.wrap x = x % 18446744073709551616 := by simp [IntKind.wrap, IntKind.bits, IntKind.signed]
theorem rd_nat (l : List Int) (i : Nat) (h : i < l.length) : rd l (i : Int) = l[i] := by unfold rd; simp [h]
theorem wrap_succ (l : List Int) (i : Nat) (hl : l.length ≤ maxLen) (h : i < l.length) : wrap64 ((i : Int) + 1) = ((i + 1 : Nat) : Int) := by
  simp only [maxLen] at hl
  rw [wrap_in _ (by omega) (by omega)]
  omega
theorem rd47_nat (l : List S47) (i : Nat) (h : i < l.length) : rd_T47 l (i : Int) = l[i] := by unfold rd_T47; simp [h]
/-- The bytes of a texel. -/
def sizeS (f : Int) : Int := if f = 1 then 1 else if f = 2 then 4 else if f = 3 then 2 else if f = 4 then 4 else if f = 5 then 2 else if f = 6 then 8 else 0
theorem sizeS_range (f : Int) : 0 ≤ sizeS f ∧ sizeS f ≤ 8 := by unfold sizeS; (repeat' split) <;> omega
theorem texel_Size_eq (f : Int) (k : Nat) (hk : 2 ≤ k) : texel_Size.f k f = some (sizeS f) := by
  obtain ⟨k, rfl⟩ : ∃ j, k = j + 2 := ⟨k - 2, by omega⟩
  unfold texel_Size.f sizeS
  simp only [texel_Size.j0, texel_Size.j1]
  by_cases h1 : f = 1
  · simp [h1]
  · by_cases h2 : f = 2
    · simp [h2]
    · by_cases h3 : f = 3
      · simp [h3]
      · by_cases h4 : f = 4
        · simp [h4]
        · by_cases h5 : f = 5
          · simp [h5]
          · simp [h1, h2, h3, h4, h5]
            split <;> rfl
theorem frustumref09_Size_eq (f : Int) (k : Nat) (hk : 2 ≤ k) : frustumref09_Size.f k f = some (sizeS f) := by
  obtain ⟨k, rfl⟩ : ∃ j, k = j + 2 := ⟨k - 2, by omega⟩
  unfold frustumref09_Size.f sizeS
  simp only [frustumref09_Size.j0, frustumref09_Size.j1]
  by_cases h1 : f = 1
  · simp [h1]
  · by_cases h2 : f = 2
    · simp [h2]
    · by_cases h3 : f = 3
      · simp [h3]
      · by_cases h4 : f = 4
        · simp [h4]
        · by_cases h5 : f = 5
          · simp [h5]
          · simp [h1, h2, h3, h4, h5]
            split <;> rfl
theorem texel_Valid_eq (f : Int) (k : Nat) (hk : 2 ≤ k) : texel_Valid.f k f = some (sizeS f != 0) := by unfold texel_Valid.f; rw [texel_Size_eq f k hk, Option.bind_some]
theorem frustumref09_Valid_eq (f : Int) (k : Nat) (hk : 2 ≤ k) : frustumref09_Valid.f k f = some (sizeS f != 0) := by unfold frustumref09_Valid.f; rw [frustumref09_Size_eq f k hk, Option.bind_some]
/-- A size from 1 to 64. -/
def sizedB (a : Int) : Bool := decide (1 ≤ a ∧ a ≤ 64)
theorem image_sized_eq (a : Int) : image_sized.f a = some (sizedB a) := by
  unfold image_sized.f sizedB
  by_cases h : a ≥ 1
  · rw [if_pos h]; congr 1; simp; omega
  · rw [if_neg h]; congr 1; simp; omega
theorem frustumref10_sized_eq (a : Int) : frustumref10_sized.f a = some (sizedB a) := by
  unfold frustumref10_sized.f sizedB
  by_cases h : a ≥ 1
  · rw [if_pos h]; congr 1; simp; omega
  · rw [if_neg h]; congr 1; simp; omega
def bitsS (d : Int) : Int := if d = 1 then 0 else if d = 2 then 16 else if d = 3 then 24 else -1
theorem depth_Bits_eq42 (d : Int) : depth_Bits.f d = some (bitsS d) := by unfold depth_Bits.f bitsS; (repeat' split) <;> rfl
theorem frustumref38_Bits_eq42 (d : Int) : frustumref38_Bits.f d = some (bitsS d) := by unfold frustumref38_Bits.f bitsS; (repeat' split) <;> rfl
def okB (s : Int) : Bool := s == 1 || s == 2 || s == 4 || s == 8
theorem ValidSamples_eq (s : Int) : coverage_ValidSamples.f s = some (okB s) := by
  unfold coverage_ValidSamples.f okB
  by_cases h1 : s = 1
  · simp [h1]
  · by_cases h2 : s = 2
    · simp [h2]
    · by_cases h4 : s = 4
      · simp [h4]
      · simp [h1, h2, h4]
theorem rValidSamples_eq (s : Int) : frustumref35_ValidSamples.f s = some (okB s) := by
  unfold frustumref35_ValidSamples.f okB
  by_cases h1 : s = 1
  · simp [h1]
  · by_cases h2 : s = 2
    · simp [h2]
    · by_cases h4 : s = 4
      · simp [h4]
      · simp [h1, h2, h4]
theorem okB_range {s : Int} (h : okB s = true) : 1 ≤ s ∧ s ≤ 8 := by
  unfold okB at h
  simp at h
  omega
theorem sizedB_range {a : Int} (h : sizedB a = true) : 1 ≤ a ∧ a ≤ 64 := by unfold sizedB at h; simpa using h
theorem area_bd {w h : Int} (hw : sizedB w = true) (hh : sizedB h = true) : 1 ≤ w * h ∧ w * h ≤ 4096 := by
  obtain ⟨a, b⟩ := sizedB_range hw
  obtain ⟨c, d⟩ := sizedB_range hh
  have h1 : 1 * 1 ≤ w * h := Int.mul_le_mul a c (by decide) (by omega)
  have h2 : w * h ≤ 64 * 64 := Int.mul_le_mul b d (by omega) (by decide)
  omega
theorem vol_bd {w h s : Int} (hw : sizedB w = true) (hh : sizedB h = true) (hs0 : 0 ≤ s) (hs : s ≤ 8) : 0 ≤ w * h * s ∧ w * h * s ≤ 32768 := by
  obtain ⟨a, b⟩ := area_bd hw hh
  have h1 : 0 ≤ w * h * s := Int.mul_nonneg (by omega) hs0
  have h2 : w * h * s ≤ 4096 * 8 := Int.mul_le_mul b hs hs0 (by decide)
  omega
theorem vol_wrap {w h s : Int} (hw : sizedB w = true) (hh : sizedB h = true) (hs0 : 0 ≤ s) (hs : s ≤ 8) : wrap64 ((wrap64 (w * h)) * s) = w * h * s := by
  obtain ⟨a, b⟩ := area_bd hw hh
  obtain ⟨c, d⟩ := vol_bd hw hh hs0 hs
  rw [wrap_in (w * h) (by omega) (by omega), wrap_in _ (by omega) (by omega)]
def imgS (f w h : Int) : S47 := ⟨f, w, h, List.replicate (w * h * sizeS f).toNat 0⟩
def imgNewS (f w h : Int) : Int × Int × Int × List Int × Int :=
  if sizeS f = 0 then (0, 0, 0, [], 14) else if sizedB w = true ∧ sizedB h = true then (f, w, h, List.replicate (w * h * sizeS f).toNat 0, 0) else (0, 0, 0, [], 15)
theorem image_New_eq (f w h : Int) (k : Nat) (hk : 2 ≤ k) : image_New.f k f w h = some (imgNewS f w h) := by
  obtain ⟨s0, s1⟩ := sizeS_range f
  unfold image_New.f imgNewS
  rw [texel_Valid_eq f k hk, Option.bind_some]
  by_cases h0 : sizeS f = 0
  · rw [if_neg (by simp [h0]), if_pos h0]
  · rw [if_pos (by simp [h0]), if_neg h0, image_sized_eq, Option.bind_some]
    by_cases hw : sizedB w = true
    · rw [if_pos hw, image_sized_eq, Option.bind_some]
      by_cases hh : sizedB h = true
      · obtain ⟨c, d⟩ := vol_bd hw hh s0 s1
        rw [if_pos hh, texel_Size_eq f k hk, Option.bind_some, vol_wrap hw hh s0 s1, if_pos c, if_pos (by omega), if_pos ⟨hw, hh⟩]
      · rw [if_neg hh, if_neg (fun x => hh x.2)]
    · rw [if_neg hw, if_neg (fun x => hw x.1)]
abbrev TS : Type := Int × Int × Int × Int × List S47 × List Int × List Int × Int
def newS (w h s f d : Int) : TS :=
  if sizeS f = 0 ∨ bitsS d < 0 then (0, 0, 0, 0, [], [], [], 14) else if sizedB w = true ∧ sizedB h = true then (if okB s = true then (w, h, s, d, List.replicate s.toNat (imgS f w h), List.replicate (w * h * s).toNat 0, List.replicate (w * h * s).toNat 0, 0) else (0, 0, 0, 0, [], [], [], 11)) else (0, 0, 0, 0, [], [], [], 15)
theorem target_New_l0 (w h s d f : Int) (D : List Int) (P Z : List Int) (hD : D.length ≤ 1000000) (hs : s ≤ 8) : ∀ (e k : Nat) (acc : List S47) (i : Int), (s - i).toNat = e → 0 ≤ i → e < k → (acc.length : Int) ≤ i → target_New.l0 k s i f w h D w h s d acc P Z = some (w, h, s, d, acc ++ List.replicate e ⟨f, w, h, D⟩, P, Z, 0) := by
  intro e
  induction e with
  | zero =>
    intro k acc i he hi hk _
    obtain ⟨k, rfl⟩ : ∃ j, k = j + 1 := ⟨k - 1, by omega⟩
    rw [target_New.l0, if_neg (by omega), List.replicate_zero, List.append_nil]
  | succ e ih =>
    intro k acc i he hi hk hl
    obtain ⟨k, rfl⟩ : ∃ j, k = j + 1 := ⟨k - 1, by omega⟩
    rw [target_New.l0, if_pos (by omega)]
    unfold image_Clone.f
    rw [Option.bind_some, List.nil_append, if_pos (by simp only [List.length_nil]; omega), Option.bind_some, if_pos (by omega), wrap_in _ (by omega) (by omega)]
    simp only []
    rw [ih k (acc ++ [(⟨f, w, h, D⟩ : S47)]) (i + 1) (by omega) (by omega) (by omega) (by simp only [List.length_append, List.length_cons, List.length_nil]; omega), List.append_assoc, List.replicate_succ, List.singleton_append]
theorem newS_14 {w h s f d : Int} (h0 : sizeS f = 0 ∨ bitsS d < 0) : newS w h s f d = (0, 0, 0, 0, [], [], [], 14) := by unfold newS; rw [if_pos h0]
theorem newS_15 {w h s f d : Int} (h0 : ¬(sizeS f = 0 ∨ bitsS d < 0)) (hwh : ¬(sizedB w = true ∧ sizedB h = true)) : newS w h s f d = (0, 0, 0, 0, [], [], [], 15) := by unfold newS; rw [if_neg h0, if_neg hwh]
theorem newS_11 {w h s f d : Int} (h0 : ¬(sizeS f = 0 ∨ bitsS d < 0)) (hwh : sizedB w = true ∧ sizedB h = true) (ho : ¬okB s = true) : newS w h s f d = (0, 0, 0, 0, [], [], [], 11) := by unfold newS; rw [if_neg h0, if_pos hwh, if_neg ho]
theorem newS_0 {w h s f d : Int} (h0 : ¬(sizeS f = 0 ∨ bitsS d < 0)) (hwh : sizedB w = true ∧ sizedB h = true) (ho : okB s = true) : newS w h s f d = (w, h, s, d, List.replicate s.toNat (imgS f w h), List.replicate (w * h * s).toNat 0, List.replicate (w * h * s).toNat 0, 0) := by unfold newS; rw [if_neg h0, if_pos hwh, if_pos ho]
theorem target_New_eq (w h s f d : Int) (k : Nat) (hk : 20 ≤ k) : target_New.f k w h s f d = some (newS w h s f d) := by
  obtain ⟨k, rfl⟩ : ∃ j, k = j + 1 := ⟨k - 1, by omega⟩
  unfold target_New.f
  rw [image_New_eq f w h _ (by omega), Option.bind_some]
  unfold imgNewS
  obtain ⟨s0, s1⟩ := sizeS_range f
  by_cases h0 : sizeS f = 0
  · rw [newS_14 (.inl h0), if_pos h0]
    simp only []
    rw [if_pos trivial, target_New.j0, if_pos rfl]
  · rw [if_neg h0]
    by_cases hb : bitsS d < 0
    · rw [newS_14 (.inr hb)]
      by_cases hwh : sizedB w = true ∧ sizedB h = true
      · rw [if_pos hwh]
        simp only []
        rw [if_neg (by decide), depth_Bits_eq42, Option.bind_some, target_New.j0, if_pos (decide_eq_true hb)]
      · rw [if_neg hwh]
        simp only []
        rw [if_neg (by decide), depth_Bits_eq42, Option.bind_some, target_New.j0, if_pos (decide_eq_true hb)]
    · have hn : ¬(sizeS f = 0 ∨ bitsS d < 0) := fun x => x.elim h0 hb
      by_cases hwh : sizedB w = true ∧ sizedB h = true
      · rw [if_pos hwh]
        simp only []
        rw [if_neg (by decide), depth_Bits_eq42, Option.bind_some, target_New.j0, if_neg (by simpa using hb), if_pos rfl, ValidSamples_eq, Option.bind_some]
        by_cases ho : okB s = true
        · obtain ⟨o0, o1⟩ := okB_range ho
          obtain ⟨c, e⟩ := vol_bd hwh.1 hwh.2 (show 0 ≤ s by omega) o1
          obtain ⟨c2, e2⟩ := vol_bd hwh.1 hwh.2 s0 s1
          rw [newS_0 hn hwh ho, if_pos ho, vol_wrap hwh.1 hwh.2 (by omega) o1, if_pos c, if_pos (by omega)]
          rw [target_New_l0 w h s d f _ _ _ (by rw [List.length_replicate]; omega) o1 s.toNat k [] 0 (by omega) (by omega) (by omega) (by simp), List.nil_append]
          rfl
        · rw [newS_11 hn hwh ho, if_neg ho]
      · rw [newS_15 hn hwh, if_neg hwh]
        simp only []
        rw [if_neg (by decide), depth_Bits_eq42, Option.bind_some, target_New.j0, if_neg (by simpa using hb), if_neg (by decide)]
theorem example42_eq (k : Nat) (hk : 50 ≤ k) : frustumlaw42_example.f k = some true := by
  unfold frustumlaw42_example.f
  rw [target_New_eq 20 9 4 2 2 k (by omega), Option.bind_some, newS_0 (by decide) (by decide) (by decide)]
  simp only [List.length_replicate]
  decide
theorem image_Valid_eq (a b c : Int) (D : List Int) (k : Nat) (hk : 2 ≤ k) : image_Valid.f k a b c D = frustumref10_Valid.f k a b c D ∧ ∃ r, image_Valid.f k a b c D = some r ∧ ∀ k', 2 ≤ k' → image_Valid.f k' a b c D = some r := by
  have h1 : ∀ k, 2 ≤ k → image_Valid.f k a b c D = some (sizeS a != 0 && (sizedB b && (sizedB c && ((D.length : Int) == wrap64 (wrap64 (b * c) * sizeS a))))) := by
    intro k hk
    unfold image_Valid.f
    rw [texel_Valid_eq a k hk, Option.bind_some]
    cases h0 : (sizeS a != 0)
    · rfl
    · rw [if_pos rfl, image_sized_eq, Option.bind_some]
      cases hb : sizedB b
      · rfl
      · rw [if_pos rfl, image_sized_eq, Option.bind_some]
        cases hc : sizedB c
        · rfl
        · rw [if_pos rfl, texel_Size_eq a k hk, Option.bind_some]
          rfl
  refine ⟨?_, _, h1 k hk, h1⟩
  rw [h1 k hk]
  unfold frustumref10_Valid.f
  rw [frustumref09_Valid_eq a k hk, Option.bind_some]
  cases h0 : (sizeS a != 0)
  · rfl
  · rw [if_pos rfl, frustumref10_sized_eq, Option.bind_some]
    cases hb : sizedB b
    · rfl
    · rw [if_pos rfl, frustumref10_sized_eq, Option.bind_some]
      cases hc : sizedB c
      · rfl
      · rw [if_pos rfl, frustumref09_Size_eq a k hk, Option.bind_some]
        rfl
/-- Is an image good in itself? -/
def imgB (m : S47) : Bool := sizeS m.f0 != 0 && (sizedB m.f1 && (sizedB m.f2 && ((m.f3.length : Int) == wrap64 (wrap64 (m.f1 * m.f2) * sizeS m.f0))))
theorem image_Valid_is (m : S47) (k : Nat) (hk : 2 ≤ k) : image_Valid.f k m.f0 m.f1 m.f2 m.f3 = some (imgB m) ∧ frustumref10_Valid.f k m.f0 m.f1 m.f2 m.f3 = some (imgB m) := by
  have h1 : image_Valid.f k m.f0 m.f1 m.f2 m.f3 = some (imgB m) := by
    unfold image_Valid.f imgB
    rw [texel_Valid_eq _ k hk, Option.bind_some]
    cases h0 : (sizeS m.f0 != 0)
    · rfl
    · rw [if_pos rfl, image_sized_eq, Option.bind_some]
      cases hb : sizedB m.f1
      · rfl
      · rw [if_pos rfl, image_sized_eq, Option.bind_some]
        cases hc : sizedB m.f2
        · rfl
        · rw [if_pos rfl, texel_Size_eq _ k hk, Option.bind_some]
          rfl
  exact ⟨h1, by rw [← (image_Valid_eq m.f0 m.f1 m.f2 m.f3 k hk).1]; exact h1⟩
def goodB (w h f : Int) (m : S47) : Bool := imgB m && (m.f1 == w && (m.f2 == h && m.f0 == f))
/-- the values that a depth format stores -/
def maxS (d : Int) : Int := if d = 1 then 0 else if d = 2 then 65535 else 16777215
def mostS (d : Int) : Int := if d = 3 then 255 else 0
def limB (M x : Int) : Bool := decide (0 ≤ x ∧ x ≤ M)
theorem depth_Max_is (d : Int) (hd : 0 ≤ bitsS d) : depth_Max.f d = some (maxS d) := by
  have : d = 1 ∨ d = 2 ∨ d = 3 := by unfold bitsS at hd; (repeat' split at hd) <;> omega
  rcases this with rfl | rfl | rfl <;> decide +kernel
theorem rMax_l0 (d b : Int) (hb : bitsS d = b) : ∀ (e k : Nat) (n : Nat), (b - n).toNat = e → (n : Int) ≤ b → b ≤ 30 → e < k → frustumref38_Max.l0 k d (2 ^ n - 1) n = some (2 ^ b.toNat - 1) := by
  intro e
  induction e with
  | zero =>
    intro k n he hn hb1 hk
    obtain ⟨k, rfl⟩ : ∃ m, k = m + 1 := ⟨k - 1, by omega⟩
    rw [frustumref38_Max.l0, frustumref38_Bits_eq42, hb, Option.bind_some, if_neg (by omega), show b.toNat = n by omega]
  | succ e ih =>
    intro k n he hn hb1 hk
    obtain ⟨k, rfl⟩ : ∃ m, k = m + 1 := ⟨k - 1, by omega⟩
    have hp : (2 : Int) ^ n ≤ 2 ^ 30 := by exact_mod_cast Nat.pow_le_pow_right (by decide) (by omega)
    have hp1 : (1 : Int) ≤ 2 ^ n := by exact_mod_cast Nat.one_le_two_pow
    have hp2 : (2 : Int) ^ (n + 1) = 2 * 2 ^ n := by rw [Int.pow_succ, Int.mul_comm]
    rw [frustumref38_Max.l0, frustumref38_Bits_eq42, hb, Option.bind_some, if_pos (by omega)]
    generalize hP : (2 : Int) ^ n = P at *
    rw [show (2 : Int) ^ 30 = 1073741824 from rfl] at hp
    rw [wrap_in (2 * (P - 1)) (by omega) (by omega), wrap_in (2 * (P - 1) + 1) (by omega) (by omega), wrap_in ((n : Int) + 1) (by omega) (by omega), show 2 * (P - 1) + 1 = 2 ^ (n + 1) - 1 by omega]
    exact ih k (n + 1) (by omega) (by omega) hb1 (by omega)
theorem rMax_is (d : Int) (hd : 0 ≤ bitsS d) (k : Nat) (hk : 40 ≤ k) : frustumref38_Max.f k d = some (maxS d) := by
  unfold frustumref38_Max.f
  have h3 : d = 1 ∨ d = 2 ∨ d = 3 := by unfold bitsS at hd; (repeat' split at hd) <;> omega
  have hb : bitsS d ≤ 24 := by unfold bitsS; (repeat' split) <;> omega
  have := rMax_l0 d (bitsS d) rfl (bitsS d).toNat k 0 (by omega) (by omega) (by omega) (by omega)
  have e : frustumref38_Max.l0 k d 0 0 = some (2 ^ (bitsS d).toNat - 1) := this
  rw [e]
  clear this e hb hd
  rcases h3 with rfl | rfl | rfl <;> decide
theorem limited_is (l : List Int) (hl : l.length ≤ maxLen) (M : Int) : ∀ (e k i : Nat), l.length - i = e → i ≤ l.length → e < k → frustumref42_limited.l0 k l M (i : Int) = some ((l.drop i).all (limB M)) := by
  intro e
  induction e with
  | zero =>
    intro k i he hi hk
    obtain ⟨k, rfl⟩ : ∃ m, k = m + 1 := ⟨k - 1, by omega⟩
    rw [frustumref42_limited.l0, if_neg (by omega), show i = l.length by omega, List.drop_length]
    rfl
  | succ e ih =>
    intro k i he hi hk
    obtain ⟨k, rfl⟩ : ∃ m, k = m + 1 := ⟨k - 1, by omega⟩
    rw [frustumref42_limited.l0, if_pos (by omega), if_pos (by omega), rd_nat l i (by omega), List.drop_eq_getElem_cons (show i < l.length by omega), List.all_cons]
    by_cases h1 : l[i] < 0
    · rw [if_pos h1, show limB M l[i] = false by unfold limB; simp; omega]
      rfl
    · rw [if_neg h1]
      by_cases h2 : l[i] > M
      · rw [if_pos h2, show limB M l[i] = false by unfold limB; simp; omega]
        rfl
      · rw [if_neg h2, show limB M l[i] = true by unfold limB; simp; omega, wrap_succ l i hl (by omega), ih k (i + 1) (by omega) (by omega) (by omega)]
        rfl
theorem valid_l1 (w h s d : Int) (c : List S47) (p z : List Int) (hd : 0 ≤ bitsS d) (hp : p.length ≤ maxLen) (hz : z.length = p.length) : ∀ (e k i : Nat), p.length - i = e → i ≤ p.length → e < k →
    target_Valid.l1 k (p.length : Int) (i : Int) w h s d c p z = some ((p.drop i).all (limB (maxS d)) && (z.drop i).all (limB (mostS d))) := by
  intro e
  induction e with
  | zero =>
    intro k i he hi hk
    obtain ⟨k, rfl⟩ : ∃ m, k = m + 1 := ⟨k - 1, by omega⟩
    rw [target_Valid.l1, if_neg (by omega), List.drop_of_length_le (show p.length ≤ i by omega), List.drop_of_length_le (show z.length ≤ i by omega)]
    rfl
  | succ e ih =>
    intro k i he hi hk
    obtain ⟨k, rfl⟩ : ∃ m, k = m + 1 := ⟨k - 1, by omega⟩
    have hs : target_mostStencil.f w h s d c p z = some (mostS d) := by unfold target_mostStencil.f mostS; split <;> rfl
    rw [target_Valid.l1, if_pos (by omega), if_pos (by omega), if_pos (by omega), rd_nat p i (by omega), List.drop_eq_getElem_cons (show i < p.length by omega), List.drop_eq_getElem_cons (show i < z.length by omega), List.all_cons, List.all_cons, depth_Max_is d hd, Option.bind_some]
    by_cases h1 : p[i] < 0
    · rw [if_pos h1, show limB (maxS d) p[i] = false by unfold limB; simp; omega]
      rfl
    · rw [if_neg h1]
      by_cases h2 : p[i] > maxS d
      · rw [if_pos h2, show limB (maxS d) p[i] = false by unfold limB; simp; omega]
        rfl
      · rw [if_neg h2, show limB (maxS d) p[i] = true by unfold limB; simp; omega, if_pos (by omega), rd_nat z i (by omega)]
        by_cases h3 : z[i] < 0
        · rw [if_pos h3, show limB (mostS d) z[i] = false by unfold limB; simp; omega]
          simp
        · rw [if_neg h3, hs, Option.bind_some]
          by_cases h4 : z[i] > mostS d
          · rw [if_pos h4, show limB (mostS d) z[i] = false by unfold limB; simp; omega]
            simp
          · rw [if_neg h4, show limB (mostS d) z[i] = true by unfold limB; simp; omega, wrap_succ p i hp (by omega), ih k (i + 1) (by omega) (by omega) (by omega)]
            simp
def endS (n d : Int) (p z : List Int) : Bool := decide ((p.length : Int) = n) && (decide ((z.length : Int) = n) && (p.all (limB (maxS d)) && z.all (limB (mostS d))))
theorem valid_j2 (w h s d : Int) (c : List S47) (p z : List Int) (hd : 0 ≤ bitsS d) (hp : p.length ≤ maxLen) (n : Int) (k : Nat) (hk : p.length + 2 ≤ k) :
    (if (p.length : Int) = n then target_Valid.j2 k n ((z.length : Int) != n) w h s d c p z else target_Valid.j2 k n true w h s d c p z) = some (endS n d p z) := by
  obtain ⟨k, rfl⟩ : ∃ m, k = m + 1 := ⟨k - 1, by omega⟩
  unfold endS
  by_cases h1 : (p.length : Int) = n
  · rw [if_pos h1, target_Valid.j2, decide_eq_true h1]
    by_cases h2 : (z.length : Int) = n
    · rw [if_neg (by simp [h2]), decide_eq_true h2, ← h1]
      have := valid_l1 w h s d c p z hd hp (by omega) p.length k 0 (by omega) (by omega) (by omega)
      simpa using this
    · rw [if_pos (by simpa using h2), decide_eq_false h2]
      rfl
  · rw [if_neg h1, target_Valid.j2, if_pos rfl, decide_eq_false h1]
    rfl
theorem rvalid_end (d : Int) (p z : List Int) (hd : 0 ≤ bitsS d) (hp : p.length ≤ maxLen) (hz : z.length ≤ maxLen) (n : Int) (k : Nat) (hk : p.length + z.length + 50 ≤ k) :
    (if (p.length : Int) = n then (if (z.length : Int) = n then ((frustumref38_Max.f k d).bind fun t242 => ((frustumref42_limited.f k p t242).bind fun t243 => (if t243 = true then ((frustumref42_most.f d).bind fun t244 => ((frustumref42_limited.f k z t244).bind fun t245 => (some t245))) else (some false)))) else (some false)) else (some false)) = some (endS n d p z) := by
  unfold endS
  by_cases h1 : (p.length : Int) = n
  · rw [if_pos h1, decide_eq_true h1]
    by_cases h2 : (z.length : Int) = n
    · have hs : frustumref42_most.f d = some (mostS d) := by unfold frustumref42_most.f mostS; split <;> rfl
      have q1 : frustumref42_limited.f k p (maxS d) = some (p.all (limB (maxS d))) := by
        have := limited_is p hp (maxS d) p.length k 0 (by omega) (by omega) (by omega)
        simpa [frustumref42_limited.f] using this
      have q2 : frustumref42_limited.f k z (mostS d) = some (z.all (limB (mostS d))) := by
        have := limited_is z hz (mostS d) z.length k 0 (by omega) (by omega) (by omega)
        simpa [frustumref42_limited.f] using this
      rw [if_pos h2, decide_eq_true h2, rMax_is d hd k (by omega), Option.bind_some, q1, Option.bind_some]
      cases hq : p.all (limB (maxS d))
      · rfl
      · rw [if_pos rfl, hs, Option.bind_some, q2, Option.bind_some]
        rfl
    · rw [if_neg h2, decide_eq_false h2]
      rfl
  · rw [if_neg h1, decide_eq_false h1]
    rfl
theorem valid_l0 (w h s d : Int) (c : List S47) (p z : List Int) (hd : 0 ≤ bitsS d) (hc : c.length ≤ maxLen) (hp : p.length ≤ maxLen) : ∀ (e k i : Nat), c.length - i = e → i ≤ c.length → e + p.length + 10 ≤ k →
    target_Valid.l0 k c (c.length : Int) (i : Int) w h s d c p z = some ((c.drop i).all (goodB w h (rd_T47 c 0).f0) && endS (wrap64 ((wrap64 (w * h)) * s)) d p z) := by
  intro e
  induction e with
  | zero =>
    intro k i he hi hk
    obtain ⟨k, rfl⟩ : ∃ m, k = m + 1 := ⟨k - 1, by omega⟩
    rw [target_Valid.l0, if_neg (by omega), valid_j2 w h s d c p z hd hp _ k (by omega), show i = c.length by omega, List.drop_length]
    rfl
  | succ e ih =>
    intro k i he hi hk
    obtain ⟨k, rfl⟩ : ∃ m, k = m + 1 := ⟨k - 1, by omega⟩
    have hlt : i < c.length := by omega
    rw [target_Valid.l0, if_pos (by omega), if_pos (by omega), if_pos (by omega), rd47_nat c i hlt, (image_Valid_is c[i] k (by omega)).1, Option.bind_some, List.drop_eq_getElem_cons hlt, List.all_cons]
    have hw : wrap64 ((i : Int) + 1) = ((i + 1 : Nat) : Int) := by
      simp only [maxLen] at hc
      rw [wrap_in _ (by omega) (by omega)]
      omega
    rw [hw, ih k (i + 1) (by omega) (by omega) (by omega)]
    generalize (c.drop (i + 1)).all (goodB w h (rd_T47 c 0).f0) = A
    generalize endS (wrap64 ((wrap64 (w * h)) * s)) d p z = E
    unfold goodB
    cases h1 : imgB c[i]
    · rfl
    · rw [if_pos rfl]
      by_cases h2 : c[i].f1 = w
      · rw [if_pos h2]
        by_cases h3 : c[i].f2 = h
        · rw [if_pos h3, if_pos (by omega)]
          by_cases h4 : c[i].f0 = (rd_T47 c 0).f0
          · rw [if_pos h4]; simp [h2, h3, h4]
          · rw [if_neg h4]; simp [h4]
        · rw [if_neg h3]; simp [h3]
      · rw [if_neg h2]; simp [h2]
theorem rvalid_l0 (w h s d : Int) (c : List S47) (p z : List Int) (hd : 0 ≤ bitsS d) (hc : c.length ≤ maxLen) (hp : p.length ≤ maxLen) (hz : z.length ≤ maxLen) : ∀ (e k i : Nat), c.length - i = e → i ≤ c.length → e + p.length + z.length + 60 ≤ k →
    frustumref42_Valid.l0 k (i : Int) w h s d c p z = some ((c.drop i).all (goodB w h (rd_T47 c 0).f0) && endS (wrap64 ((wrap64 (w * h)) * s)) d p z) := by
  intro e
  induction e with
  | zero =>
    intro k i he hi hk
    obtain ⟨k, rfl⟩ : ∃ m, k = m + 1 := ⟨k - 1, by omega⟩
    rw [frustumref42_Valid.l0, if_neg (by omega), rvalid_end d p z hd hp hz _ k (by omega), show i = c.length by omega, List.drop_length]
    rfl
  | succ e ih =>
    intro k i he hi hk
    obtain ⟨k, rfl⟩ : ∃ m, k = m + 1 := ⟨k - 1, by omega⟩
    have hlt : i < c.length := by omega
    rw [frustumref42_Valid.l0, if_pos (by omega), if_pos (by omega), rd47_nat c i hlt, (image_Valid_is c[i] k (by omega)).2, Option.bind_some, List.drop_eq_getElem_cons hlt, List.all_cons]
    have hw : wrap64 ((i : Int) + 1) = ((i + 1 : Nat) : Int) := by
      simp only [maxLen] at hc
      rw [wrap_in _ (by omega) (by omega)]
      omega
    rw [hw, ih k (i + 1) (by omega) (by omega) (by omega)]
    generalize (c.drop (i + 1)).all (goodB w h (rd_T47 c 0).f0) = A
    generalize endS (wrap64 ((wrap64 (w * h)) * s)) d p z = E
    unfold goodB
    cases h1 : imgB c[i]
    · rfl
    · rw [if_pos rfl, if_pos (by omega)]
      by_cases h4 : c[i].f0 = (rd_T47 c 0).f0
      · rw [if_pos h4]
        by_cases h2 : c[i].f1 = w
        · rw [if_pos h2]
          by_cases h3 : c[i].f2 = h
          · rw [if_pos h3]; simp [h2, h3, h4]
          · rw [if_neg h3]; simp [h3]
        · rw [if_neg h2]; simp [h2]
      · rw [if_neg h4]; simp [h4]
def validS (w h s d : Int) (c : List S47) (p z : List Int) : Bool := sizedB w && (sizedB h && (okB s && (decide (0 ≤ bitsS d) && (decide ((c.length : Int) = s) && (c.all (goodB w h (rd_T47 c 0).f0) && endS (wrap64 ((wrap64 (w * h)) * s)) d p z)))))
theorem target_Valid_eq (w h s d : Int) (c : List S47) (p z : List Int) (hc : c.length ≤ maxLen) (hp : p.length ≤ maxLen) (k : Nat) (hk : c.length + p.length + 20 ≤ k) : target_Valid.f k w h s d c p z = some (validS w h s d c p z) := by
  obtain ⟨k, rfl⟩ : ∃ m, k = m + 1 := ⟨k - 1, by omega⟩
  have hj : target_Valid.j0 (k + 1) true w h s d c p z = some false := by rw [target_Valid.j0, if_pos rfl]
  unfold target_Valid.f validS
  rw [hj]
  by_cases h1 : w < 1
  · rw [if_pos h1, show sizedB w = false by unfold sizedB; simp; omega]; rfl
  rw [if_neg h1]
  by_cases h2 : w > 64
  · rw [if_pos h2, show sizedB w = false by unfold sizedB; simp; omega]; rfl
  rw [if_neg h2, show sizedB w = true by unfold sizedB; simp; omega]
  by_cases h3 : h < 1
  · rw [if_pos h3, show sizedB h = false by unfold sizedB; simp; omega]; rfl
  rw [if_neg h3]
  by_cases h4 : h > 64
  · rw [if_pos h4, show sizedB h = false by unfold sizedB; simp; omega]; rfl
  rw [if_neg h4, show sizedB h = true by unfold sizedB; simp; omega, ValidSamples_eq, Option.bind_some]
  cases h5 : okB s
  · rfl
  rw [if_pos rfl, depth_Bits_eq42, Option.bind_some]
  by_cases h6 : bitsS d < 0
  · rw [if_pos h6, decide_eq_false (by omega)]; rfl
  rw [if_neg h6, decide_eq_true (show 0 ≤ bitsS d by omega), target_Valid.j0]
  by_cases h7 : (c.length : Int) = s
  · rw [if_neg (by simp [h7]), decide_eq_true h7]
    have := valid_l0 w h s d c p z (by omega) hc hp c.length k 0 (by omega) (by omega) (by omega)
    simpa using this
  · rw [if_pos (by simpa using h7), decide_eq_false h7]; rfl
theorem frustumref42_Valid_eq (w h s d : Int) (c : List S47) (p z : List Int) (hc : c.length ≤ maxLen) (hp : p.length ≤ maxLen) (hz : z.length ≤ maxLen) (k : Nat) (hk : c.length + p.length + z.length + 100 ≤ k) : frustumref42_Valid.f k w h s d c p z = some (validS w h s d c p z) := by
  obtain ⟨k, rfl⟩ : ∃ m, k = m + 1 := ⟨k - 1, by omega⟩
  have hj : frustumref42_Valid.j0 (k + 1) true w h s d c p z = some false := by rw [frustumref42_Valid.j0, if_pos rfl]
  unfold frustumref42_Valid.f validS
  rw [hj]
  by_cases h1 : w < 1
  · rw [if_pos h1, show sizedB w = false by unfold sizedB; simp; omega]; rfl
  rw [if_neg h1]
  by_cases h2 : w > 64
  · rw [if_pos h2, show sizedB w = false by unfold sizedB; simp; omega]; rfl
  rw [if_neg h2, show sizedB w = true by unfold sizedB; simp; omega]
  by_cases h3 : h < 1
  · rw [if_pos h3, show sizedB h = false by unfold sizedB; simp; omega]; rfl
  rw [if_neg h3]
  by_cases h4 : h > 64
  · rw [if_pos h4, show sizedB h = false by unfold sizedB; simp; omega]; rfl
  rw [if_neg h4, show sizedB h = true by unfold sizedB; simp; omega, rValidSamples_eq, Option.bind_some]
  cases h5 : okB s
  · rfl
  rw [if_pos rfl, frustumref38_Bits_eq42, Option.bind_some]
  by_cases h6 : bitsS d < 0
  · rw [if_pos h6, decide_eq_false (by omega)]; rfl
  rw [if_neg h6, decide_eq_true (show 0 ≤ bitsS d by omega), frustumref42_Valid.j0]
  by_cases h7 : (c.length : Int) = s
  · rw [if_neg (by simp [h7]), decide_eq_true h7]
    have := rvalid_l0 w h s d c p z (by omega) hc hp hz c.length k 0 (by omega) (by omega) (by omega)
    simpa using this
  · rw [if_pos (by simpa using h7), decide_eq_false h7]; rfl
theorem small_l0 (w h s d : Int) (c : List S47) (p z : List Int) (hc : c.length ≤ maxLen) : ∀ (e i : Nat) (n : Int), c.length - i = e → i ≤ c.length → ∃ r, ∀ k, e < k → frustumlaw42_small.l0 k n (i : Int) w h s d c p z = some r := by
  intro e
  induction e with
  | zero =>
    intro i n he hi
    refine ⟨decide (n ≤ 40000), fun k hk => ?_⟩
    obtain ⟨k, rfl⟩ : ∃ m, k = m + 1 := ⟨k - 1, by omega⟩
    rw [frustumlaw42_small.l0, if_neg (by omega)]
  | succ e ih =>
    intro i n he hi
    obtain ⟨r, hr⟩ := ih (i + 1) (wrap64 (n + (((rd_T47 c i).f3).length : Int))) (by omega) (by omega)
    refine ⟨if (wrap64 (n + (((rd_T47 c i).f3).length : Int))) > 40000 then false else if (i : Int) > 20 then false else r, fun k hk => ?_⟩
    obtain ⟨k, rfl⟩ : ∃ m, k = m + 1 := ⟨k - 1, by omega⟩
    have hw : wrap64 ((i : Int) + 1) = ((i + 1 : Nat) : Int) := by
      simp only [maxLen] at hc
      rw [wrap_in _ (by omega) (by omega)]
      omega
    rw [frustumlaw42_small.l0, if_pos (by omega), if_pos (by omega), hw, hr k (by omega)]
    split
    · rfl
    · split <;> rfl
theorem small_eq (w h s d : Int) (c : List S47) (p z : List Int) (hc : c.length ≤ maxLen) : ∃ r, ∀ k, c.length < k → frustumlaw42_small.f k w h s d c p z = some r := by
  obtain ⟨r, hr⟩ := small_l0 w h s d c p z hc c.length 0 (wrap64 ((p.length : Int) + (z.length : Int))) (by omega) (by omega)
  exact ⟨r, fun k hk => hr k hk⟩
theorem clone_l0 (w h s d : Int) (c : List S47) (p z : List Int) (hc : c.length ≤ 1000) (hcl : ∀ m ∈ c, m.f3.length ≤ 100000) (hp : p.length ≤ 100000) (hz : z.length ≤ 100000) : ∀ (e k i : Nat), c.length - i = e → i ≤ c.length → e < k →
    target_Clone.l0 k c (c.length : Int) (i : Int) w h s d (c.take i) p z = some (w, h, s, d, c, p, z) := by
  intro e
  induction e with
  | zero =>
    intro k i he hi hk
    obtain ⟨k, rfl⟩ : ∃ m, k = m + 1 := ⟨k - 1, by omega⟩
    rw [target_Clone.l0, if_neg (by omega), Option.bind_some, List.nil_append, if_pos (by simp only [List.length_nil]; omega), Option.bind_some, List.nil_append, if_pos (by simp only [List.length_nil]; omega), show i = c.length by omega, List.take_length]
  | succ e ih =>
    intro k i he hi hk
    obtain ⟨k, rfl⟩ : ∃ m, k = m + 1 := ⟨k - 1, by omega⟩
    have hlt : i < c.length := by omega
    have hm := hcl c[i] (List.getElem_mem hlt)
    rw [target_Clone.l0, if_pos (by omega), if_pos (by omega), if_pos (by omega), rd47_nat c i hlt]
    unfold image_Clone.f
    rw [Option.bind_some, List.nil_append, if_pos (by simp only [List.length_nil]; omega), Option.bind_some, if_pos (by rw [List.length_take]; omega), wrap_in _ (by omega) (by omega)]
    simp only []
    have e1 : c.take i ++ [(⟨c[i].f0, c[i].f1, c[i].f2, c[i].f3⟩ : S47)] = c.take (i + 1) := by rw [List.take_succ_eq_append_getElem hlt]
    rw [e1]
    exact ih k (i + 1) (by omega) (by omega) (by omega)
theorem target_Clone_eq (w h s d : Int) (c : List S47) (p z : List Int) (hc : c.length ≤ 1000) (hcl : ∀ m ∈ c, m.f3.length ≤ 100000) (hp : p.length ≤ 100000) (hz : z.length ≤ 100000) (k : Nat) (hk : 1001 ≤ k) : target_Clone.f k w h s d c p z = some (w, h, s, d, c, p, z) := by
  unfold target_Clone.f
  exact clone_l0 w h s d c p z hc hcl hp hz c.length k 0 (by omega) (by omega) (by omega)
theorem small_true (w h s d : Int) (c : List S47) (p z : List Int) (hc : c.length ≤ 140737488351232) (hcl : ∀ m ∈ c, m.f3.length ≤ 140737488351232) : ∀ (e k i : Nat) (n : Int), c.length - i = e → i ≤ c.length → 0 ≤ n → n ≤ 9000000000000000000 → frustumlaw42_small.l0 k n (i : Int) w h s d c p z = some true →
    n ≤ 40000 ∧ (i < c.length → c.length ≤ 21) ∧ ∀ m ∈ c.drop i, m.f3.length ≤ 40000 := by
  intro e
  induction e with
  | zero =>
    intro k i n he hi hn0 hn h
    cases k with
    | zero => simp [frustumlaw42_small.l0] at h
    | succ k =>
      rw [frustumlaw42_small.l0, if_neg (by omega)] at h
      have h1 : n ≤ 40000 := by simpa using h
      refine ⟨h1, fun hh => by omega, ?_⟩
      rw [List.drop_of_length_le (by omega)]
      intro m hm
      simp at hm
  | succ e ih =>
    intro k i n he hi hn0 hn h
    cases k with
    | zero => simp [frustumlaw42_small.l0] at h
    | succ k =>
      have hlt : i < c.length := by omega
      have hm := hcl c[i] (List.getElem_mem hlt)
      have hw : Aside0 (wrap64 ((i : Int) + 1) = ((i + 1 : Nat) : Int)) := ⟨by
        rw [wrap_in _ (by omega) (by omega)]
        omega⟩
      rw [frustumlaw42_small.l0, if_pos (by omega), if_pos (by omega), rd47_nat c i hlt, hw.out, wrap_in (n + (c[i].f3.length : Int)) (by omega) (by omega)] at h
      by_cases h1 : n + (c[i].f3.length : Int) > 40000
      · rw [if_pos h1] at h; simp at h
      · rw [if_neg h1] at h
        by_cases h2 : (i : Int) > 20
        · rw [if_pos h2] at h; simp at h
        · rw [if_neg h2] at h
          clear hw
          obtain ⟨g1, g2, g3⟩ := ih k (i + 1) _ (by omega) (by omega) (by omega) (by omega) h
          refine ⟨by omega, fun _ => ?_, ?_⟩
          · by_cases h3 : i + 1 < c.length
            · exact g2 h3
            · omega
          · rw [List.drop_eq_getElem_cons hlt]
            intro m hm
            rcases List.mem_cons.1 hm with rfl | hm
            · omega
            · exact g3 m hm
theorem small_bounds (w h s d : Int) (c : List S47) (p z : List Int) (hc : c.length ≤ 140737488351232) (hcl : ∀ m ∈ c, m.f3.length ≤ 140737488351232) (hp : p.length ≤ 140737488351232) (hz : z.length ≤ 140737488351232) (k : Nat) (hs : frustumlaw42_small.f k w h s d c p z = some true) : c.length ≤ 1000 ∧ (∀ m ∈ c, m.f3.length ≤ 100000) ∧ p.length ≤ 100000 ∧ z.length ≤ 100000 := by
  unfold frustumlaw42_small.f at hs
  have e : wrap64 ((p.length : Int) + (z.length : Int)) = (p.length : Int) + (z.length : Int) := by
    exact wrap_in _ (by omega) (by omega)
  rw [e] at hs
  clear e
  obtain ⟨g1, g2, g3⟩ := small_true w h s d c p z hc hcl c.length k 0 _ (by omega) (by omega) (by omega) (by omega) hs
  rw [List.drop_zero] at g3
  refine ⟨?_, fun m hm => by have := g3 m hm; omega, by omega, by omega⟩
  by_cases h0 : 0 < c.length
  · have := g2 h0; omega
  · omega
theorem same42_l0 (a : List Int) (ha : a.length ≤ 1000000) : ∀ (d k i : Nat), a.length - i = d → i ≤ a.length → d < k → frustumref42_same.l0 k a a (i : Int) = some true := by
  intro d
  induction d with
  | zero =>
    intro k i hd hi hk
    obtain ⟨k, rfl⟩ : ∃ m, k = m + 1 := ⟨k - 1, by omega⟩
    rw [frustumref42_same.l0, if_neg (by omega)]
  | succ d ih =>
    intro k i hd hi hk
    obtain ⟨k, rfl⟩ : ∃ m, k = m + 1 := ⟨k - 1, by omega⟩
    rw [frustumref42_same.l0, if_pos (by omega), if_pos (by omega), if_pos (by omega), if_pos rfl, wrap_succ a i (by simp only [maxLen]; omega) (by omega)]
    exact ih k (i + 1) (by omega) (by omega) (by omega)
theorem same42_eq (a : List Int) (ha : a.length ≤ 1000000) (k : Nat) (hk : 1000001 ≤ k) : frustumref42_same.f k a a = some true := by
  unfold frustumref42_same.f
  rw [if_pos rfl]
  exact same42_l0 a ha a.length k 0 (by omega) (by omega) (by omega)
theorem equal42_l0 (w h s d : Int) (c : List S47) (p z : List Int) (hc : c.length ≤ 1000) (hp : p.length ≤ 1000000) (hz : z.length ≤ 1000000) : ∀ (e k i : Nat), c.length - i = e → i ≤ c.length → e + 1000002 ≤ k →
    frustumref42_Equal.l0 k (i : Int) w h s d c p z w h s d c p z = some true := by
  intro e
  induction e with
  | zero =>
    intro k i he hi hk
    obtain ⟨k, rfl⟩ : ∃ m, k = m + 1 := ⟨k - 1, by omega⟩
    rw [frustumref42_Equal.l0, if_neg (by omega), same42_eq p hp k (by omega), Option.bind_some, if_pos rfl, same42_eq z hz k (by omega), Option.bind_some]
  | succ e ih =>
    intro k i he hi hk
    obtain ⟨k, rfl⟩ : ∃ m, k = m + 1 := ⟨k - 1, by omega⟩
    rw [frustumref42_Equal.l0, if_pos (by omega), if_pos (by omega), if_pos (by omega)]
    unfold frustumref10_Equal.f
    rw [if_pos rfl, if_pos rfl, if_pos rfl, Option.bind_some, beq_self_eq_true, if_pos rfl, wrap_in _ (by omega) (by omega)]
    exact ih k (i + 1) (by omega) (by omega) (by omega)
theorem frustumref42_Equal_eq (w h s d : Int) (c : List S47) (p z : List Int) (hc : c.length ≤ 1000) (hp : p.length ≤ 1000000) (hz : z.length ≤ 1000000) (k : Nat) (hk : 1010000 ≤ k) : frustumref42_Equal.f k w h s d c p z w h s d c p z = some true := by
  obtain ⟨k, rfl⟩ : ∃ m, k = m + 1 := ⟨k - 1, by omega⟩
  unfold frustumref42_Equal.f
  rw [if_pos rfl, if_pos rfl, if_pos rfl, if_pos rfl, bne_self_eq_false, frustumref42_Equal.j0, if_neg (by decide)]
  exact equal42_l0 w h s d c p z hc hp hz c.length k 0 (by omega) (by omega) (by omega)
open Go.Proofs.Ytmpmennepjkocaa.Mix Go.Proofs.Ytmpmennepjkocaa.ICopy
theorem rclone_l0 (w h s d : Int) (c : List S47) (p z : List Int) (hc : c.length ≤ 1000) (hcl : ∀ m ∈ c, m.f3.length ≤ 100000) (hp : p.length ≤ 100000) (hz : z.length ≤ 100000) : ∀ (e k i : Nat), c.length - i = e → i ≤ c.length → e < k →
    frustumref42_Clone.l0 k (c.take i) (i : Int) w h s d c p z = some (w, h, s, d, c, p, z) := by
  intro e
  induction e with
  | zero =>
    intro k i he hi hk
    obtain ⟨k, rfl⟩ : ∃ m, k = m + 1 := ⟨k - 1, by omega⟩
    rw [frustumref42_Clone.l0, if_neg (by omega), Option.bind_some, List.nil_append, if_pos (by simp only [List.length_nil]; omega), Option.bind_some, List.nil_append, if_pos (by simp only [List.length_nil]; omega), show i = c.length by omega, List.take_length]
  | succ e ih =>
    intro k i he hi hk
    obtain ⟨k, rfl⟩ : ∃ m, k = m + 1 := ⟨k - 1, by omega⟩
    have hlt : i < c.length := by omega
    have hm := hcl c[i] (List.getElem_mem hlt)
    rw [frustumref42_Clone.l0, if_pos (by omega), if_pos (by omega), rd47_nat c i hlt]
    unfold frustumref10_Clone.f
    rw [Option.bind_some, List.nil_append, if_pos (by simp only [List.length_nil]; omega), Option.bind_some, if_pos (by rw [List.length_take]; omega), wrap_in _ (by omega) (by omega)]
    simp only []
    have e1 : c.take i ++ [(⟨c[i].f0, c[i].f1, c[i].f2, c[i].f3⟩ : S47)] = c.take (i + 1) := by rw [List.take_succ_eq_append_getElem hlt]
    rw [e1]
    exact ih k (i + 1) (by omega) (by omega) (by omega)
theorem frustumref42_Clone_eq (w h s d : Int) (c : List S47) (p z : List Int) (hc : c.length ≤ 1000) (hcl : ∀ m ∈ c, m.f3.length ≤ 100000) (hp : p.length ≤ 100000) (hz : z.length ≤ 100000) (k : Nat) (hk : 1001 ≤ k) : frustumref42_Clone.f k w h s d c p z = some (w, h, s, d, c, p, z) := by
  unfold frustumref42_Clone.f
  exact rclone_l0 w h s d c p z hc hcl hp hz c.length k 0 (by omega) (by omega) (by omega)
/-- what a valid target is made of -/
theorem fit_of {t0 t1 t2 t3 : Int} {l4 : List S47} {l5 l6 : List Int} (h : validS t0 t1 t2 t3 l4 l5 l6 = true) :
    ∃ W H S z : Nat, t0 = W ∧ t1 = H ∧ t2 = S ∧ sizeS (rd_T47 l4 0).f0 = z ∧ Fit W H S z (rd_T47 l4 0).f0 l4 l5 l6 := by
  unfold validS at h
  simp only [Bool.and_eq_true, decide_eq_true_eq] at h
  obtain ⟨hw, hh, hs, _, hc, ha, he⟩ := h
  obtain ⟨w0, w1⟩ := sizedB_range hw
  obtain ⟨h0, h1⟩ := sizedB_range hh
  obtain ⟨s0, s1⟩ := okB_range hs
  obtain ⟨z0, z1⟩ := sizeS_range (rd_T47 l4 0).f0
  unfold endS at he
  simp only [Bool.and_eq_true, decide_eq_true_eq] at he
  obtain ⟨e5, e6, _⟩ := he
  rw [vol_wrap hw hh (by omega) s1] at e5 e6
  obtain ⟨W, rfl⟩ := Int.eq_ofNat_of_zero_le (show 0 ≤ t0 by omega)
  obtain ⟨H, rfl⟩ := Int.eq_ofNat_of_zero_le (show 0 ≤ t1 by omega)
  obtain ⟨S, rfl⟩ := Int.eq_ofNat_of_zero_le (show 0 ≤ t2 by omega)
  obtain ⟨z, hz⟩ := Int.eq_ofNat_of_zero_le z0
  have key : ∀ i : Nat, i < S → goodB W H (rd_T47 l4 0).f0 (rd_T47 l4 i) = true := by
    intro i hi
    have hl : i < l4.length := by omega
    rw [rd47_nat l4 i hl]
    exact List.all_eq_true.1 ha _ (List.getElem_mem hl)
  have hzz : 1 ≤ z := by
    have h := key 0 (by omega)
    unfold goodB imgB at h
    simp only [Bool.and_eq_true, bne_iff_ne, ne_eq, beq_iff_eq] at h
    have h2 := h.1.1
    rw [h.2.2.2, hz] at h2
    omega
  refine ⟨W, H, S, z, rfl, rfl, rfl, hz, ⟨by omega, by omega, by omega, by omega, by omega, fun i hi => ?_, ?_, ?_⟩⟩
  · have h := key i hi
    unfold goodB imgB at h
    simp only [Bool.and_eq_true, bne_iff_ne, ne_eq, beq_iff_eq] at h
    obtain ⟨⟨_, _, _, g4⟩, g5, g6, g7⟩ := h
    refine ⟨g7, g5, g6, ?_⟩
    rw [g5, g6, g7, hz, vol_wrap hw hh (by omega) (by omega)] at g4
    exact_mod_cast g4
  · exact_mod_cast e5
  · exact_mod_cast e6
def simS (t0 t1 t2 t3 : Int) (l4 : List S47) (l5 l6 : List Int) (u0 u1 u2 u3 : Int) (m4 : List S47) (m5 m6 : List Int) : Bool :=
  validS t0 t1 t2 t3 l4 l5 l6 && (validS u0 u1 u2 u3 m4 m5 m6 && (t0 == u0 && (t1 == u1 && (t2 == u2 && (t3 == u3 && ((rd_T47 l4 0).f0 == (rd_T47 m4 0).f0))))))
theorem pos_of {t0 t1 t2 t3 : Int} {l4 : List S47} {l5 l6 : List Int} (h : validS t0 t1 t2 t3 l4 l5 l6 = true) : 0 < l4.length := by
  obtain ⟨W, H, S, z, _, _, _, _, G⟩ := fit_of h
  have := G.n4
  have := G.hs
  omega
theorem similar_eq (t0 t1 t2 t3 u0 u1 u2 u3 : Int) (l4 m4 : List S47) (l5 l6 m5 m6 : List Int) (hc : l4.length ≤ maxLen) (hp : l5.length ≤ maxLen) (hc' : m4.length ≤ maxLen) (hp' : m5.length ≤ maxLen) (k : Nat) (hk : l4.length + l5.length + m4.length + m5.length + 20 ≤ k) :
    target_similar.f k t0 t1 t2 t3 l4 l5 l6 u0 u1 u2 u3 m4 m5 m6 = some (simS t0 t1 t2 t3 l4 l5 l6 u0 u1 u2 u3 m4 m5 m6) := by
  unfold target_similar.f simS
  rw [target_Valid_eq t0 t1 t2 t3 l4 l5 l6 hc hp k (by omega), Option.bind_some]
  cases h1 : validS t0 t1 t2 t3 l4 l5 l6
  · rfl
  · rw [if_pos rfl, target_Valid_eq u0 u1 u2 u3 m4 m5 m6 hc' hp' k (by omega), Option.bind_some]
    cases h2 : validS u0 u1 u2 u3 m4 m5 m6
    · rfl
    · have q1 := pos_of h1
      have q2 := pos_of h2
      rw [if_pos rfl]
      by_cases e0 : t0 = u0
      · rw [if_pos e0]
        by_cases e1 : t1 = u1
        · rw [if_pos e1]
          by_cases e2 : t2 = u2
          · rw [if_pos e2]
            by_cases e3 : t3 = u3
            · rw [if_pos e3, if_pos (by omega), if_pos (by omega)]
              simp [e0, e1, e2, e3]
            · rw [if_neg e3]; simp [e3]
          · rw [if_neg e2]; simp [e2]
        · rw [if_neg e1]; simp [e1]
      · rw [if_neg e0]; simp [e0]
/-- where the run of n from x lies in [0, size) -/
theorem span_eq (x n : Int) (hx0 : -9223372036854775808 ≤ x) (hx1 : x ≤ 9223372036854775807) (hn1 : n ≤ 9223372036854775807) (size : Nat) (hs : 1 ≤ size ∧ size ≤ 64) (k : Nat) (hk : 3 ≤ k) :
    ∃ lo hi : Nat, target_span.f k x n size = some ((lo : Int), (hi : Int)) ∧ hi ≤ size ∧ ∀ p : Nat, p < size → ((lo ≤ p ∧ p < hi) ↔ insB p x n = true) := by
  obtain ⟨k, rfl⟩ : ∃ m, k = m + 2 := ⟨k - 2, by omega⟩
  have hi : ∀ p : Nat, p < size → 0 < n → (insB p x n = true ↔ x ≤ p ∧ (p : Int) - n < x) := by
    intro p hp h0
    unfold insB
    rw [wrap_in _ (by omega) (by omega)]
    simp only [Bool.and_eq_true, decide_eq_true_eq]
    omega
  have hno : ∀ p : Nat, ¬ 0 < n → ¬ insB p x n = true := by
    intro p h0 h
    unfold insB at h
    simp only [Bool.and_eq_true, decide_eq_true_eq] at h
    omega
  unfold target_span.f
  by_cases h0 : n ≤ 0
  · rw [if_pos h0, target_span.j0, if_pos rfl]
    exact ⟨0, 0, rfl, by omega, fun p hp => ⟨fun h => by omega, fun h => absurd h (hno p (by omega))⟩⟩
  · rw [if_neg h0, target_span.j0]
    by_cases h1 : x ≥ (size : Int)
    · rw [if_pos (decide_eq_true h1)]
      exact ⟨0, 0, rfl, by omega, fun p hp => ⟨fun h => by omega, fun h => by rw [hi p hp (by omega)] at h; omega⟩⟩
    · rw [if_neg (by simpa using h1)]
      by_cases h2 : x < 0
      · rw [if_pos h2, target_span.j1, wrap_in (n + x) (by omega) (by omega)]
        by_cases h3 : n + x ≤ 0
        · rw [if_pos h3]
          exact ⟨0, 0, rfl, by omega, fun p hp => ⟨fun h => by omega, fun h => by rw [hi p hp (by omega)] at h; omega⟩⟩
        · rw [if_neg h3, wrap_in ((size : Int) - 0) (by omega) (by omega)]
          by_cases h4 : n + x > (size : Int) - 0
          · rw [if_pos h4, wrap_in (0 + ((size : Int) - 0)) (by omega) (by omega)]
            exact ⟨0, size, by simp, by omega, fun p hp => by rw [hi p hp (by omega)]; omega⟩
          · rw [if_neg h4, wrap_in (0 + (n + x)) (by omega) (by omega)]
            refine ⟨0, (n + x).toNat, by simp; omega, by omega, fun p hp => by rw [hi p hp (by omega)]; omega⟩
      · rw [if_neg h2, target_span.j1, if_neg h0, wrap_in ((size : Int) - x) (by omega) (by omega)]
        by_cases h4 : n > (size : Int) - x
        · rw [if_pos h4, wrap_in (x + ((size : Int) - x)) (by omega) (by omega)]
          exact ⟨x.toNat, size, by simp; omega, by omega, fun p hp => by rw [hi p hp (by omega)]; omega⟩
        · rw [if_neg h4, wrap_in (x + n) (by omega) (by omega)]
          exact ⟨x.toNat, (x + n).toNat, by simp; omega, by omega, fun p hp => by rw [hi p hp (by omega)]; omega⟩
theorem offset_eq {W H S z : Nat} {f : Int} {l4 : List S47} {l5 l6 : List Int} (G : Fit W H S z f l4 l5 l6) (hz : sizeS f = z) (k : Nat) (hk : 2 ≤ k) (s px py : Nat) (hs : s < S) (hx : px < W) (hy : py < H) :
    frustumref10_Offset.f k (rd_T47 l4 s).f0 (rd_T47 l4 s).f1 (rd_T47 l4 s).f2 (rd_T47 l4 s).f3 px py = some (((py * W + px) * z : Nat) : Int) := by
  obtain ⟨g0, g1, g2, g3⟩ := G.img s hs
  have hw := G.hw
  have hh := G.hh
  have hzz := G.hz
  have q1 : py * W ≤ 64 * 64 := Nat.mul_le_mul (by omega) hw.2
  have q2 : (py * W + px) * z ≤ (64 * 64 + 64) * 16 := Nat.mul_le_mul (by omega) hzz.2
  have hv : imgB (rd_T47 l4 s) = true := by
    unfold imgB sizedB
    rw [g0, g1, g2, g3, hz, vol_wrap (by unfold sizedB; simp; omega) (by unfold sizedB; simp; omega) (by omega) (by have := (sizeS_range f).2; omega)]
    simp only [Bool.and_eq_true, bne_iff_ne, ne_eq, decide_eq_true_eq, beq_iff_eq]
    refine ⟨by omega, by omega, by omega, ?_⟩
    push_cast
    rfl
  unfold frustumref10_Offset.f
  rw [(image_Valid_is _ k hk).2, hv, Option.bind_some, if_pos rfl, g0, g1, g2, if_neg (by omega), if_neg (by omega), if_neg (by omega), if_neg (by omega), frustumref09_Size_eq f k hk, hz, Option.bind_some]
  have e1 : ((py * W + px) * z : Nat) = ((py : Int) * W + px) * z := by push_cast; rfl
  have e2 : ((py * W : Nat) : Int) = (py : Int) * W := by push_cast; rfl
  rw [← e2] at e1
  rw [← e2, wrap_in ((py * W : Nat) : Int) (by omega) (by omega), wrap_in (((py * W : Nat) : Int) + (px : Int)) (by omega) (by omega), ← e1, wrap_in _ (by omega) (by omega)]
theorem valid_img {W H z : Nat} {f : Int} (hw : 1 ≤ W ∧ W ≤ 64) (hh : 1 ≤ H ∧ H ≤ 64) (hzz : 1 ≤ z) (hz : sizeS f = z) (D : List Int) (hD : D.length = W * H * z) (k : Nat) (hk : 2 ≤ k) : image_Valid.f k f W H D = some true := by
  have h := (image_Valid_is ⟨f, W, H, D⟩ k hk).1
  have hv : imgB ⟨f, W, H, D⟩ = true := by
    unfold imgB sizedB
    simp only
    rw [hD, hz, vol_wrap (by unfold sizedB; simp; omega) (by unfold sizedB; simp; omega) (by omega) (by have := (sizeS_range f).2; omega)]
    simp only [Bool.and_eq_true, bne_iff_ne, ne_eq, decide_eq_true_eq, beq_iff_eq]
    refine ⟨by omega, by omega, by omega, ?_⟩
    push_cast
    rfl
  rw [hv] at h
  exact h
/-- what both merges hand back, in a world W' -/
def Hands (t0 t1 t2 t3 : Int) (X4 : List S47) (X5 X6 : List Int) (W' : World) (e : Ending) (w' : World) : Prop :=
  ∃ v4 v5 v6 : Value, e = .returned (.agg #[.int .i64 t0, .int .i64 t1, .int .i64 t2, .int .i64 t3, v4, v5, v6]) ∧ Kd.S k47 47 w' W'.heap.size (fun _ => True) v4 X4 ∧ Kd.R (Kd.int .i64) 3 w' W'.heap.size (fun k => some k ≠ v6.ownBlock) v5 X5 ∧ Kd.R (Kd.int .i64) 3 w' W'.heap.size (fun k => some k ≠ v5.ownBlock) v6 X6 ∧ Below W'.heap.size W' w'
theorem inC_inR {W H lx rx ly ry : Nat} {x y rw rh : Int} (hx : lx < rx) (hy : ly < ry) (h1 : ∀ p : Nat, p < W → ((lx ≤ p ∧ p < rx) ↔ insB p x rw = true)) (h2 : ∀ p : Nat, p < H → ((ly ≤ p ∧ p < ry) ↔ insB p y rh = true)) (hW : 0 < W) (q : Nat) (hq : q < W * H) : inR W x y rw rh q ↔ inC W lx ly (rx - lx) (ry - ly) q := by
  have a := h1 (q % W) (Nat.mod_lt _ hW)
  have b := h2 (q / W) (Nat.div_lt_of_lt_mul hq)
  unfold inR inC
  rw [← a, ← b]
  omega
theorem merge_key (K : Nat) (x y rw rh : Int) (t0 t1 t2 t3 : Int) (A4 : Option Addr) (c4 : Nat) (l4 : List S47) (A5 : Option Addr) (c5 : Nat) (l5 : List Int) (A6 : Option Addr) (c6 : Nat) (l6 : List Int) (u0 u1 u2 u3 : Int) (B4 : Option Addr) (d4 : Nat) (m4 : List S47) (B5 : Option Addr) (d5 : Nat) (m5 : List Int) (B6 : Option Addr) (d6 : Nat) (m6 : List Int) (w : World)
    (hr4 : Kd.C k47 w A4 l4.length l4) (hc4 : l4.length ≤ c4) (hr5 : Kd.C (Kd.int .i64) w A5 l5.length l5) (hc5 : l5.length ≤ c5) (hr6 : Kd.C (Kd.int .i64) w A6 l6.length l6) (hc6 : l6.length ≤ c6)
    (hu4 : Kd.C k47 w B4 m4.length m4) (hd4 : m4.length ≤ d4) (hu5 : Kd.C (Kd.int .i64) w B5 m5.length m5) (hd5 : m5.length ≤ d5) (hu6 : Kd.C (Kd.int .i64) w B6 m6.length m6) (hd6 : m6.length ≤ d6)
    (g1 : l4.length ≤ 1000) (g2 : ∀ m ∈ l4, m.f3.length ≤ 100000) (g3 : l5.length ≤ 100000) (g4 : l6.length ≤ 100000) (e1 : m4.length ≤ 1000) (e3 : m5.length ≤ 100000) (e4 : m6.length ≤ 100000)
    (hx0 : -9223372036854775808 ≤ x) (hx1 : x ≤ 9223372036854775807) (hw1 : rw ≤ 9223372036854775807) (hy0 : -9223372036854775808 ≤ y) (hy1 : y ≤ 9223372036854775807) (hh1 : rh ≤ 9223372036854775807) (hK : 1000000 ≤ K) :
    ∃ (X4 : List S47) (X5 X6 : List Int), (X4.length ≤ 1000 ∧ X5.length ≤ 1000000 ∧ X6.length ≤ 1000000) ∧
      (∀ W', Below w.heap.size w W' → Calls Try.prog 13 #[.agg #[.int .i64 t0, .int .i64 t1, .int .i64 t2, .int .i64 t3, .slice A4 l4.length c4, .slice A5 l5.length c5, .slice A6 l6.length c6], .agg #[.int .i64 u0, .int .i64 u1, .int .i64 u2, .int .i64 u3, .slice B4 m4.length d4, .slice B5 m5.length d5, .slice B6 m6.length d6], .int .i64 x, .int .i64 y, .int .i64 rw, .int .i64 rh] W' (Hands t0 t1 t2 t3 X4 X5 X6 W')) ∧
      (∀ W', Below w.heap.size w W' → Calls Try.prog 14 #[.agg #[.int .i64 t0, .int .i64 t1, .int .i64 t2, .int .i64 t3, .slice A4 l4.length c4, .slice A5 l5.length c5, .slice A6 l6.length c6], .agg #[.int .i64 u0, .int .i64 u1, .int .i64 u2, .int .i64 u3, .slice B4 m4.length d4, .slice B5 m5.length d5, .slice B6 m6.length d6], .int .i64 x, .int .i64 y, .int .i64 rw, .int .i64 rh] W' (Hands t0 t1 t2 t3 X4 X5 X6 W')) := by
  have hl4 : l4.length ≤ maxLen := by simp only [maxLen]; omega
  have hl5 : l5.length ≤ maxLen := by simp only [maxLen]; omega
  have hl6 : l6.length ≤ maxLen := by simp only [maxLen]; omega
  have hm4 : m4.length ≤ maxLen := by simp only [maxLen]; omega
  have hm5 : m5.length ≤ maxLen := by simp only [maxLen]; omega
  have hm6 : m6.length ≤ maxLen := by simp only [maxLen]; omega
  have CL := Aside0.mk (target_Clone_eq t0 t1 t2 t3 l4 l5 l6 g1 g2 g3 g4 K (by omega))
  have CL2 := Aside0.mk (frustumref42_Clone_eq t0 t1 t2 t3 l4 l5 l6 g1 g2 g3 g4 K (by omega))
  have SM := Aside0.mk (similar_eq t0 t1 t2 t3 u0 u1 u2 u3 l4 m4 l5 l6 m5 m6 hl4 hl5 hm4 hm5 K (by omega))
  have V1 := Aside0.mk (frustumref42_Valid_eq t0 t1 t2 t3 l4 l5 l6 hl4 hl5 hl6 K (by omega))
  have V2 := Aside0.mk (frustumref42_Valid_eq u0 u1 u2 u3 m4 m5 m6 hm4 hm5 hm6 K (by omega))
  cases hs : simS t0 t1 t2 t3 l4 l5 l6 u0 u1 u2 u3 m4 m5 m6 with
  | false =>
    rw [hs] at SM
    refine ⟨l4, l5, l6, ⟨by omega, by omega, by omega⟩, fun W' hb => ?_, fun W' hb => ?_⟩
    · exact TMerge.no K x y rw rh t0 t1 t2 t3 u0 u1 u2 u3 false 0 0 0 0 A4 c4 l4 A5 c5 l5 A6 c6 l6 B4 d4 m4 B5 d5 m5 B6 d6 m6 W' (Kd.C_below hr4 hb) hc4 (Kd.C_below hr5 hb) hc5 (Kd.C_below hr6 hb) hc6 (Kd.C_below hu4 hb) hd4 (Kd.C_below hu5 hb) hd5 (Kd.C_below hu6 hb) hd6 CL SM ⟨fun h => absurd h (by decide)⟩ ⟨fun h => absurd h (by decide)⟩ (Or.inl rfl)
    · refine RMerge.no K x y rw rh t0 t1 t2 t3 u0 u1 u2 u3 _ _ A4 c4 l4 A5 c5 l5 A6 c6 l6 B4 d4 m4 B5 d5 m5 B6 d6 m6 W' (Kd.C_below hr4 hb) hc4 (Kd.C_below hr5 hb) hc5 (Kd.C_below hr6 hb) hc6 (Kd.C_below hu4 hb) hd4 (Kd.C_below hu5 hb) hd5 (Kd.C_below hu6 hb) hd6 CL2 V1 V2 ?_
      unfold simS at hs
      cases h1 : validS t0 t1 t2 t3 l4 l5 l6
      · exact Or.inl rfl
      · refine Or.inr ⟨rfl, ?_⟩
        cases h2 : validS u0 u1 u2 u3 m4 m5 m6
        · exact Or.inl rfl
        · refine Or.inr ⟨rfl, ?_⟩
          rw [h1, h2] at hs
          by_cases e0 : t0 = u0
          · refine Or.inr ⟨e0, ?_⟩
            by_cases e1 : t1 = u1
            · refine Or.inr ⟨e1, ?_⟩
              by_cases e2 : t2 = u2
              · refine Or.inr ⟨e2, ?_⟩
                by_cases e3 : t3 = u3
                · refine Or.inr ⟨e3, pos_of h1, pos_of h2, ?_⟩
                  simpa [e0, e1, e2, e3] using hs
                · exact Or.inl e3
              · exact Or.inl e2
            · exact Or.inl e1
          · exact Or.inl e0
  | true =>
    rw [hs] at SM
    unfold simS at hs
    simp only [Bool.and_eq_true, beq_iff_eq] at hs
    obtain ⟨h1, h2, rfl, rfl, rfl, rfl, hf⟩ := hs
    rw [h1] at V1
    rw [h2] at V2
    obtain ⟨W, H, S, z, rfl, rfl, rfl, hz, G⟩ := fit_of h1
    obtain ⟨W2, H2, S2, z2, q0, q1, q2, hz2, G2⟩ := fit_of h2
    obtain rfl : W2 = W := by omega
    obtain rfl : H2 = H := by omega
    obtain rfl : S2 = S := by omega
    rw [← hf] at hz2 G2
    obtain rfl : z2 = z := by omega
    have SZ := Aside0.mk ((texel_Size_eq (rd_T47 l4 0).f0 K (by omega)).trans (congrArg some hz))
    have SZ2 := Aside0.mk ((frustumref09_Size_eq (rd_T47 l4 0).f0 K (by omega)).trans (congrArg some hz))
    have OF := Aside0.mk (fun s px py hs hx hy => offset_eq G hz K (by omega) s px py hs hx hy)
    have IV := Aside0.mk (fun D hD => valid_img G.hw G.hh G.hz.1 hz D hD K (by omega))
    obtain ⟨lx, rx, P1, hrx, hpx⟩ := span_eq x rw hx0 hx1 hw1 W2 G.hw K (by omega)
    obtain ⟨ly, ry, P2, hry, hpy⟩ := span_eq y rh hy0 hy1 hh1 H2 G.hh K (by omega)
    have ref : ∀ W', Below w.heap.size w W' → _ := fun W' hb => RMerge.yes W2 H2 S2 z2 K (rd_T47 l4 0).f0 t3 x y rw rh A4 c4 l4 A5 c5 l5 A6 c6 l6 B4 d4 m4 B5 d5 m5 B6 d6 m6 W' (Kd.C_below hr4 hb) hc4 (Kd.C_below hr5 hb) hc5 (Kd.C_below hr6 hb) hc6 (Kd.C_below hu4 hb) hd4 (Kd.C_below hu5 hb) hd5 (Kd.C_below hu6 hb) hd6 G G2 CL2 V1 V2 SZ2 OF
    by_cases hne : lx < rx ∧ ly < ry
    · obtain ⟨C, D, E, hM⟩ := Made.some (R := inC W2 lx ly (rx - lx) (ry - ly)) G G2
      refine ⟨C, D, E, ⟨by rw [hM.hc.len]; omega, by rw [hM.hd.len]; omega, by rw [hM.he.len]; omega⟩, fun W' hb => ?_, fun W' hb => ?_⟩
      · refine (TMerge.yes W2 H2 S2 z2 K lx rx ly ry (rd_T47 l4 0).f0 t3 x y rw rh A4 c4 l4 A5 c5 l5 A6 c6 l6 B4 d4 m4 B5 d5 m5 B6 d6 m6 W' (Kd.C_below hr4 hb) hc4 (Kd.C_below hr5 hb) hc5 (Kd.C_below hr6 hb) hc6 (Kd.C_below hu4 hb) hd4 (Kd.C_below hu5 hb) hd5 (Kd.C_below hu6 hb) hd6 G G2 CL SM ⟨P1⟩ ⟨P2⟩ ⟨hne.1, hrx⟩ ⟨hne.2, hry⟩ SZ IV).mono ?_
        rintro e w' ⟨v4, v5, v6, C', D', E', he, hM', a, b, c, d⟩
        obtain ⟨rfl, rfl, rfl⟩ := hM.uniq hM'
        exact ⟨v4, v5, v6, he, a, b, c, d⟩
      · refine (ref W' hb).mono ?_
        rintro e w' ⟨v4, v5, v6, C', D', E', he, hM', a, b, c, d⟩
        obtain ⟨rfl, rfl, rfl⟩ := hM.uniq (hM'.ext G (fun q hq => inC_inR hne.1 hne.2 hpx hpy G.hw.1 q hq))
        exact ⟨v4, v5, v6, he, a, b, c, d⟩
    · have hM := Made.none (R := inR W2 x y rw rh) (m4 := m4) (m5 := m5) (m6 := m6) G (fun q hq h => hne ⟨by
        have := (hpx (q % W2) (Nat.mod_lt _ G.hw.1)).2 h.1
        omega, by
        have := (hpy (q / W2) (Nat.div_lt_of_lt_mul hq)).2 h.2
        omega⟩)
      refine ⟨l4, l5, l6, ⟨by omega, by omega, by omega⟩, fun W' hb => ?_, fun W' hb => ?_⟩
      · exact TMerge.no K x y rw rh W2 H2 S2 t3 W2 H2 S2 t3 true lx rx ly ry A4 c4 l4 A5 c5 l5 A6 c6 l6 B4 d4 m4 B5 d5 m5 B6 d6 m6 W' (Kd.C_below hr4 hb) hc4 (Kd.C_below hr5 hb) hc5 (Kd.C_below hr6 hb) hc6 (Kd.C_below hu4 hb) hd4 (Kd.C_below hu5 hb) hd5 (Kd.C_below hu6 hb) hd6 CL SM ⟨fun _ => P1⟩ ⟨fun _ => P2⟩ (Or.inr ⟨rfl, by omega⟩)
      · refine (ref W' hb).mono ?_
        rintro e w' ⟨v4, v5, v6, C', D', E', he, hM', a, b, c, d⟩
        obtain ⟨rfl, rfl, rfl⟩ := hM.uniq hM'
        exact ⟨v4, v5, v6, he, a, b, c, d⟩
set_option maxHeartbeats 8000000 in
set_option maxRecDepth 100000 in
theorem TargetMerge (t0 t1 t2 t3 : Int) (A4 : Option Addr) (c4 : Nat) (l4 : List S47) (A5 : Option Addr) (c5 : Nat) (l5 : List Int) (A6 : Option Addr) (c6 : Nat) (l6 : List Int) (u0 u1 u2 u3 : Int) (B4 : Option Addr) (d4 : Nat) (m4 : List S47) (B5 : Option Addr) (d5 : Nat) (m5 : List Int) (B6 : Option Addr) (d6 : Nat) (m6 : List Int) (x0 x1 x2 x3 : Int) (w : World)
    (hr4 : Kd.C k47 w A4 l4.length l4) (hc4 : l4.length ≤ c4) (hr5 : Kd.C (Kd.int .i64) w A5 l5.length l5) (hc5 : l5.length ≤ c5) (hr6 : Kd.C (Kd.int .i64) w A6 l6.length l6) (hc6 : l6.length ≤ c6)
    (hu4 : Kd.C k47 w B4 m4.length m4) (hd4 : m4.length ≤ d4) (hu5 : Kd.C (Kd.int .i64) w B5 m5.length m5) (hd5 : m5.length ≤ d5) (hu6 : Kd.C (Kd.int .i64) w B6 m6.length m6) (hd6 : m6.length ≤ d6)
    (hm4 : l4.length ≤ 140737488351232) (hm : ∀ x ∈ l4, x.f3.length ≤ 140737488351232) (hm5 : l5.length ≤ 140737488351232) (hm6 : l6.length ≤ 140737488351232)
    (hn4 : m4.length ≤ 140737488351232) (hn : ∀ x ∈ m4, x.f3.length ≤ 140737488351232) (hn5 : m5.length ≤ 140737488351232) (hn6 : m6.length ≤ 140737488351232)
    (wf0 : (Lit.int .i64 x0).wf = true) (wf1 : (Lit.int .i64 x1).wf = true) (wf2 : (Lit.int .i64 x2).wf = true) (wf3 : (Lit.int .i64 x3).wf = true) :
    Calls Try.prog 4 #[.agg #[.int .i64 t0, .int .i64 t1, .int .i64 t2, .int .i64 t3, .slice A4 l4.length c4, .slice A5 l5.length c5, .slice A6 l6.length c6], .agg #[.int .i64 u0, .int .i64 u1, .int .i64 u2, .int .i64 u3, .slice B4 m4.length d4, .slice B5 m5.length d5, .slice B6 m6.length d6], .agg #[.int .i64 x0, .int .i64 x1, .int .i64 x2, .int .i64 x3]] w fun e w' => e = .returned (.bool true) ∧ Below w.heap.size w w' := by
  have hx4 : l4.length ≤ maxLen := by simp only [maxLen]; omega
  have hy4 : m4.length ≤ maxLen := by simp only [maxLen]; omega
  obtain ⟨s1, hs1⟩ := small_eq t0 t1 t2 t3 l4 l5 l6 hx4
  obtain ⟨s2, hs2⟩ := small_eq u0 u1 u2 u3 m4 m5 m6 hy4
  obtain ⟨K, hK⟩ : ∃ K, K = l4.length + m4.length + 400000000 := ⟨_, rfl⟩
  have SM1 := Aside0.mk (hs1 K (by omega))
  have SM2 := Aside0.mk (hs2 K (by omega))
  have EX := Aside0.mk (example42_eq K (by omega))
  have bounds : s1 = true → s2 = true → _ := fun q1 q2 => merge_key K x0 x1 x2 x3 t0 t1 t2 t3 A4 c4 l4 A5 c5 l5 A6 c6 l6 u0 u1 u2 u3 B4 d4 m4 B5 d5 m5 B6 d6 m6 w hr4 hc4 hr5 hc5 hr6 hc6 hu4 hd4 hu5 hd5 hu6 hd6
    (small_bounds t0 t1 t2 t3 l4 l5 l6 hm4 hm hm5 hm6 K (q1 ▸ SM1.out)).1 (small_bounds t0 t1 t2 t3 l4 l5 l6 hm4 hm hm5 hm6 K (q1 ▸ SM1.out)).2.1 (small_bounds t0 t1 t2 t3 l4 l5 l6 hm4 hm hm5 hm6 K (q1 ▸ SM1.out)).2.2.1 (small_bounds t0 t1 t2 t3 l4 l5 l6 hm4 hm hm5 hm6 K (q1 ▸ SM1.out)).2.2.2
    (small_bounds u0 u1 u2 u3 m4 m5 m6 hn4 hn hn5 hn6 K (q2 ▸ SM2.out)).1 (small_bounds u0 u1 u2 u3 m4 m5 m6 hn4 hn hn5 hn6 K (q2 ▸ SM2.out)).2.2.1 (small_bounds u0 u1 u2 u3 m4 m5 m6 hn4 hn hn5 hn6 K (q2 ▸ SM2.out)).2.2.2
    (wf_bounds wf0).1 (wf_bounds wf0).2 (wf_bounds wf2).2 (wf_bounds wf1).1 (wf_bounds wf1).2 (wf_bounds wf3).2 (by omega)
  have HR4 := Aside0.mk hr4
  have HR5 := Aside0.mk hr5
  have HR6 := Aside0.mk hr6
  have HC4 := Aside0.mk hc4
  have HC5 := Aside0.mk hc5
  have HC6 := Aside0.mk hc6
  have HU4 := Aside0.mk hu4
  have HU5 := Aside0.mk hu5
  have HU6 := Aside0.mk hu6
  have HD4 := Aside0.mk hd4
  have HD5 := Aside0.mk hd5
  have HD6 := Aside0.mk hd6
  have hu28 := Try.underlying28
  cases s1 with
  | false =>
    clear bounds hK hx4 hy4 hm4 hm5 hm6 hn4 hn5 hn6 hm hn wf0 wf1 wf2 wf3 hs1 hs2 hr4 hc4 hr5 hc5 hr6 hc6 hu4 hd4 hu5 hd5 hu6 hd6
    go_enter Try.func4, Try.ntmps4
    go_upto_region 1 with (fail)
    have HL : Aside0 (Owns w [(w.heap.size + 1 + 1, #[.int .i64 x0, .int .i64 x1, .int .i64 x2, .int .i64 x3], 39), (w.heap.size + 1, #[.int .i64 u0, .int .i64 u1, .int .i64 u2, .int .i64 u3, .slice B4 m4.length d4, .slice B5 m5.length d5, .slice B6 m6.length d6], 28), (w.heap.size, #[.int .i64 t0, .int .i64 t1, .int .i64 t2, .int .i64 t3, .slice A4 l4.length c4, .slice A5 l5.length c5, .slice A6 l6.length c6], 28)] (((w.alloc (Obj.cells #[.int .i64 t0, .int .i64 t1, .int .i64 t2, .int .i64 t3, .slice A4 l4.length c4, .slice A5 l5.length c5, .slice A6 l6.length c6] 28)).alloc (Obj.cells #[.int .i64 u0, .int .i64 u1, .int .i64 u2, .int .i64 u3, .slice B4 m4.length d4, .slice B5 m5.length d5, .slice B6 m6.length d6] 28)).alloc (Obj.cells #[.int .i64 x0, .int .i64 x1, .int .i64 x2, .int .i64 x3] 39))) := ⟨by simpa using (((Owns.start w).alloc _ _).alloc _ _).alloc _ _⟩
    generalize ((w.alloc (Obj.cells #[.int .i64 t0, .int .i64 t1, .int .i64 t2, .int .i64 t3, .slice A4 l4.length c4, .slice A5 l5.length c5, .slice A6 l6.length c6] 28)).alloc (Obj.cells #[.int .i64 u0, .int .i64 u1, .int .i64 u2, .int .i64 u3, .slice B4 m4.length d4, .slice B5 m5.length d5, .slice B6 m6.length d6] 28)).alloc (Obj.cells #[.int .i64 x0, .int .i64 x1, .int .i64 x2, .int .i64 x3] 39) = wa at HL ⊢
    have p0 := Owns.cell HL.out 2 _ _ 28 rfl 0 _ rfl
    have p1 := Owns.cell HL.out 2 _ _ 28 rfl 1 _ rfl
    have p2 := Owns.cell HL.out 2 _ _ 28 rfl 2 _ rfl
    have p3 := Owns.cell HL.out 2 _ _ 28 rfl 3 _ rfl
    have p4 := Owns.cell HL.out 2 _ _ 28 rfl 4 _ rfl
    have p5 := Owns.cell HL.out 2 _ _ 28 rfl 5 _ rfl
    have p6 := Owns.cell HL.out 2 _ _ 28 rfl 6 _ rfl
    go_wp2_with (first | (go_at_call 6; (with_reducible refine (frustumlaw42_small.calls K t0 t1 t2 t3 A4 c4 l4 A5 c5 l5 A6 c6 l6 false _ ?s4 HC4.out ?s5 HC5.out ?s6 HC6.out SM1.out).mono ?_); (case s4 => exact Kd.C_below HR4.out (by repeat (first | exact HL.out.bel | apply below_alloc | apply pw_below_drewN | apply below_drew1))); (case s5 => exact Kd.C_below HR5.out (by repeat (first | exact HL.out.bel | apply below_alloc | apply pw_below_drewN | apply below_drew1))); (case s6 => exact Kd.C_below HR6.out (by repeat (first | exact HL.out.bel | apply below_alloc | apply pw_below_drewN | apply below_drew1))); rintro e w1 ⟨rfl, hb⟩; have HT := Aside0.mk (Owns.step (by repeat (first | exact HL.out | (with_reducible apply Owns.drewN) | (with_reducible apply Owns.drew))) hb); clear HL hb; have HL := HT; clear HT) | (go_at_call 7; (with_reducible refine (frustumlaw42_example.calls K true _ EX.out).mono ?_); rintro e w9 ⟨rfl, hb⟩; have HT := Aside0.mk (Owns.step (by repeat (first | exact HL.out | (with_reducible apply Owns.drewN) | (with_reducible apply Owns.drew))) hb); clear HL hb; have HL := HT; clear HT))
    go_ret
    exact ⟨rfl, HL.out.bel⟩
  | true =>
    cases s2 with
    | false =>
      clear bounds hK hx4 hy4 hm4 hm5 hm6 hn4 hn5 hn6 hm hn wf0 wf1 wf2 wf3 hs1 hs2 hr4 hc4 hr5 hc5 hr6 hc6 hu4 hd4 hu5 hd5 hu6 hd6
      go_enter Try.func4, Try.ntmps4
      go_upto_region 1 with (fail)
      have HL : Aside0 (Owns w [(w.heap.size + 1 + 1, #[.int .i64 x0, .int .i64 x1, .int .i64 x2, .int .i64 x3], 39), (w.heap.size + 1, #[.int .i64 u0, .int .i64 u1, .int .i64 u2, .int .i64 u3, .slice B4 m4.length d4, .slice B5 m5.length d5, .slice B6 m6.length d6], 28), (w.heap.size, #[.int .i64 t0, .int .i64 t1, .int .i64 t2, .int .i64 t3, .slice A4 l4.length c4, .slice A5 l5.length c5, .slice A6 l6.length c6], 28)] (((w.alloc (Obj.cells #[.int .i64 t0, .int .i64 t1, .int .i64 t2, .int .i64 t3, .slice A4 l4.length c4, .slice A5 l5.length c5, .slice A6 l6.length c6] 28)).alloc (Obj.cells #[.int .i64 u0, .int .i64 u1, .int .i64 u2, .int .i64 u3, .slice B4 m4.length d4, .slice B5 m5.length d5, .slice B6 m6.length d6] 28)).alloc (Obj.cells #[.int .i64 x0, .int .i64 x1, .int .i64 x2, .int .i64 x3] 39))) := ⟨by simpa using (((Owns.start w).alloc _ _).alloc _ _).alloc _ _⟩
      generalize ((w.alloc (Obj.cells #[.int .i64 t0, .int .i64 t1, .int .i64 t2, .int .i64 t3, .slice A4 l4.length c4, .slice A5 l5.length c5, .slice A6 l6.length c6] 28)).alloc (Obj.cells #[.int .i64 u0, .int .i64 u1, .int .i64 u2, .int .i64 u3, .slice B4 m4.length d4, .slice B5 m5.length d5, .slice B6 m6.length d6] 28)).alloc (Obj.cells #[.int .i64 x0, .int .i64 x1, .int .i64 x2, .int .i64 x3] 39) = wa at HL ⊢
      have p0 := Owns.cell HL.out 2 _ _ 28 rfl 0 _ rfl
      have p1 := Owns.cell HL.out 2 _ _ 28 rfl 1 _ rfl
      have p2 := Owns.cell HL.out 2 _ _ 28 rfl 2 _ rfl
      have p3 := Owns.cell HL.out 2 _ _ 28 rfl 3 _ rfl
      have p4 := Owns.cell HL.out 2 _ _ 28 rfl 4 _ rfl
      have p5 := Owns.cell HL.out 2 _ _ 28 rfl 5 _ rfl
      have p6 := Owns.cell HL.out 2 _ _ 28 rfl 6 _ rfl
      go_wp2_with (first | (go_at_call 6; (with_reducible refine (frustumlaw42_small.calls K t0 t1 t2 t3 A4 c4 l4 A5 c5 l5 A6 c6 l6 true _ ?s4 HC4.out ?s5 HC5.out ?s6 HC6.out SM1.out).mono ?_); (case s4 => exact Kd.C_below HR4.out (by repeat (first | exact HL.out.bel | apply below_alloc | apply pw_below_drewN | apply below_drew1))); (case s5 => exact Kd.C_below HR5.out (by repeat (first | exact HL.out.bel | apply below_alloc | apply pw_below_drewN | apply below_drew1))); (case s6 => exact Kd.C_below HR6.out (by repeat (first | exact HL.out.bel | apply below_alloc | apply pw_below_drewN | apply below_drew1))); rintro e w1 ⟨rfl, hb⟩; have HT := Aside0.mk (Owns.step (by repeat (first | exact HL.out | (with_reducible apply Owns.drewN) | (with_reducible apply Owns.drew))) hb); clear HL hb; have HL := HT; clear HT; have q0 := Owns.cell HL.out 1 _ _ 28 rfl 0 _ rfl; have q1 := Owns.cell HL.out 1 _ _ 28 rfl 1 _ rfl; have q2 := Owns.cell HL.out 1 _ _ 28 rfl 2 _ rfl; have q3 := Owns.cell HL.out 1 _ _ 28 rfl 3 _ rfl; have q4 := Owns.cell HL.out 1 _ _ 28 rfl 4 _ rfl; have q5 := Owns.cell HL.out 1 _ _ 28 rfl 5 _ rfl; have q6 := Owns.cell HL.out 1 _ _ 28 rfl 6 _ rfl) | (go_at_call 6; (with_reducible refine (frustumlaw42_small.calls K u0 u1 u2 u3 B4 d4 m4 B5 d5 m5 B6 d6 m6 false _ ?z4 HD4.out ?z5 HD5.out ?z6 HD6.out SM2.out).mono ?_); (case z4 => exact Kd.C_below HU4.out (by repeat (first | exact HL.out.bel | apply below_alloc | apply pw_below_drewN | apply below_drew1))); (case z5 => exact Kd.C_below HU5.out (by repeat (first | exact HL.out.bel | apply below_alloc | apply pw_below_drewN | apply below_drew1))); (case z6 => exact Kd.C_below HU6.out (by repeat (first | exact HL.out.bel | apply below_alloc | apply pw_below_drewN | apply below_drew1))); rintro e w2 ⟨rfl, hb⟩; have HT := Aside0.mk (Owns.step (by repeat (first | exact HL.out | (with_reducible apply Owns.drewN) | (with_reducible apply Owns.drew))) hb); clear HL hb; have HL := HT; clear HT) | (go_at_call 7; (with_reducible refine (frustumlaw42_example.calls K true _ EX.out).mono ?_); rintro e w9 ⟨rfl, hb⟩; have HT := Aside0.mk (Owns.step (by repeat (first | exact HL.out | (with_reducible apply Owns.drewN) | (with_reducible apply Owns.drew))) hb); clear HL hb; have HL := HT; clear HT))
      go_ret
      exact ⟨rfl, HL.out.bel⟩
    | true =>
      obtain ⟨X4, X5, X6, ⟨k4, k5, k6⟩, m13, m14⟩ := bounds rfl rfl
      have M13 := Aside0.mk m13
      have M14 := Aside0.mk m14
      have EQ := Aside0.mk (frustumref42_Equal_eq t0 t1 t2 t3 X4 X5 X6 k4 k5 k6 K (by omega))
      clear m13 m14 k4 k5 k6 bounds hK hx4 hy4 hm4 hm5 hm6 hn4 hn5 hn6 hm hn wf0 wf1 wf2 wf3 hs1 hs2 hr4 hc4 hr5 hc5 hr6 hc6 hu4 hd4 hu5 hd5 hu6 hd6
      go_enter Try.func4, Try.ntmps4
      go_upto_region 1 with (fail)
      have HL : Aside0 (Owns w [(w.heap.size + 1 + 1, #[.int .i64 x0, .int .i64 x1, .int .i64 x2, .int .i64 x3], 39), (w.heap.size + 1, #[.int .i64 u0, .int .i64 u1, .int .i64 u2, .int .i64 u3, .slice B4 m4.length d4, .slice B5 m5.length d5, .slice B6 m6.length d6], 28), (w.heap.size, #[.int .i64 t0, .int .i64 t1, .int .i64 t2, .int .i64 t3, .slice A4 l4.length c4, .slice A5 l5.length c5, .slice A6 l6.length c6], 28)] (((w.alloc (Obj.cells #[.int .i64 t0, .int .i64 t1, .int .i64 t2, .int .i64 t3, .slice A4 l4.length c4, .slice A5 l5.length c5, .slice A6 l6.length c6] 28)).alloc (Obj.cells #[.int .i64 u0, .int .i64 u1, .int .i64 u2, .int .i64 u3, .slice B4 m4.length d4, .slice B5 m5.length d5, .slice B6 m6.length d6] 28)).alloc (Obj.cells #[.int .i64 x0, .int .i64 x1, .int .i64 x2, .int .i64 x3] 39))) := ⟨by simpa using (((Owns.start w).alloc _ _).alloc _ _).alloc _ _⟩
      generalize ((w.alloc (Obj.cells #[.int .i64 t0, .int .i64 t1, .int .i64 t2, .int .i64 t3, .slice A4 l4.length c4, .slice A5 l5.length c5, .slice A6 l6.length c6] 28)).alloc (Obj.cells #[.int .i64 u0, .int .i64 u1, .int .i64 u2, .int .i64 u3, .slice B4 m4.length d4, .slice B5 m5.length d5, .slice B6 m6.length d6] 28)).alloc (Obj.cells #[.int .i64 x0, .int .i64 x1, .int .i64 x2, .int .i64 x3] 39) = wa at HL ⊢
      have p0 := Owns.cell HL.out 2 _ _ 28 rfl 0 _ rfl
      have p1 := Owns.cell HL.out 2 _ _ 28 rfl 1 _ rfl
      have p2 := Owns.cell HL.out 2 _ _ 28 rfl 2 _ rfl
      have p3 := Owns.cell HL.out 2 _ _ 28 rfl 3 _ rfl
      have p4 := Owns.cell HL.out 2 _ _ 28 rfl 4 _ rfl
      have p5 := Owns.cell HL.out 2 _ _ 28 rfl 5 _ rfl
      have p6 := Owns.cell HL.out 2 _ _ 28 rfl 6 _ rfl
      go_upto_region 3 with (first | (go_at_call 6; (with_reducible refine (frustumlaw42_small.calls K t0 t1 t2 t3 A4 c4 l4 A5 c5 l5 A6 c6 l6 true _ ?s4 HC4.out ?s5 HC5.out ?s6 HC6.out SM1.out).mono ?_); (case s4 => exact Kd.C_below HR4.out (by repeat (first | exact HL.out.bel | apply below_alloc | apply pw_below_drewN | apply below_drew1))); (case s5 => exact Kd.C_below HR5.out (by repeat (first | exact HL.out.bel | apply below_alloc | apply pw_below_drewN | apply below_drew1))); (case s6 => exact Kd.C_below HR6.out (by repeat (first | exact HL.out.bel | apply below_alloc | apply pw_below_drewN | apply below_drew1))); rintro e w1 ⟨rfl, hb⟩; have HT := Aside0.mk (Owns.step (by repeat (first | exact HL.out | (with_reducible apply Owns.drewN) | (with_reducible apply Owns.drew))) hb); clear HL hb; have HL := HT; clear HT; have q0 := Owns.cell HL.out 1 _ _ 28 rfl 0 _ rfl; have q1 := Owns.cell HL.out 1 _ _ 28 rfl 1 _ rfl; have q2 := Owns.cell HL.out 1 _ _ 28 rfl 2 _ rfl; have q3 := Owns.cell HL.out 1 _ _ 28 rfl 3 _ rfl; have q4 := Owns.cell HL.out 1 _ _ 28 rfl 4 _ rfl; have q5 := Owns.cell HL.out 1 _ _ 28 rfl 5 _ rfl; have q6 := Owns.cell HL.out 1 _ _ 28 rfl 6 _ rfl) | (go_at_call 6; (with_reducible refine (frustumlaw42_small.calls K u0 u1 u2 u3 B4 d4 m4 B5 d5 m5 B6 d6 m6 true _ ?z4 HD4.out ?z5 HD5.out ?z6 HD6.out SM2.out).mono ?_); (case z4 => exact Kd.C_below HU4.out (by repeat (first | exact HL.out.bel | apply below_alloc | apply pw_below_drewN | apply below_drew1))); (case z5 => exact Kd.C_below HU5.out (by repeat (first | exact HL.out.bel | apply below_alloc | apply pw_below_drewN | apply below_drew1))); (case z6 => exact Kd.C_below HU6.out (by repeat (first | exact HL.out.bel | apply below_alloc | apply pw_below_drewN | apply below_drew1))); rintro e w2 ⟨rfl, hb⟩; have HT := Aside0.mk (Owns.step (by repeat (first | exact HL.out | (with_reducible apply Owns.drewN) | (with_reducible apply Owns.drew))) hb); clear HL hb; have HL := HT; clear HT))
      first | go_region_held3 (fun w' => w'.cell? ⟨w.heap.size + 1 + 1, 0, none⟩ = some (.int .i64 x0) ∧ w'.cell? ⟨w.heap.size + 1 + 1, 1, none⟩ = some (.int .i64 x1) ∧ w'.cell? ⟨w.heap.size + 1 + 1, 2, none⟩ = some (.int .i64 x2) ∧ w'.cell? ⟨w.heap.size + 1 + 1, 3, none⟩ = some (.int .i64 x3) ∧ w'.cell? ⟨w.heap.size + 1, 0, none⟩ = some (.int .i64 u0) ∧ w'.cell? ⟨w.heap.size + 1, 1, none⟩ = some (.int .i64 u1) ∧ w'.cell? ⟨w.heap.size + 1, 2, none⟩ = some (.int .i64 u2) ∧ w'.cell? ⟨w.heap.size + 1, 3, none⟩ = some (.int .i64 u3) ∧ w'.cell? ⟨w.heap.size + 1, 4, none⟩ = some (.slice B4 m4.length d4) ∧ w'.cell? ⟨w.heap.size + 1, 5, none⟩ = some (.slice B5 m5.length d5) ∧ w'.cell? ⟨w.heap.size + 1, 6, none⟩ = some (.slice B6 m6.length d6) ∧ w'.cell? ⟨w.heap.size, 0, none⟩ = some (.int .i64 t0) ∧ w'.cell? ⟨w.heap.size, 1, none⟩ = some (.int .i64 t1) ∧ w'.cell? ⟨w.heap.size, 2, none⟩ = some (.int .i64 t2) ∧ w'.cell? ⟨w.heap.size, 3, none⟩ = some (.int .i64 t3) ∧ w'.cell? ⟨w.heap.size, 4, none⟩ = some (.slice A4 l4.length c4) ∧ w'.cell? ⟨w.heap.size, 5, none⟩ = some (.slice A5 l5.length c5) ∧ w'.cell? ⟨w.heap.size, 6, none⟩ = some (.slice A6 l6.length c6)) (first | exact ⟨Owns.cell HL.out 0 _ _ 39 rfl 0 _ rfl, Owns.cell HL.out 0 _ _ 39 rfl 1 _ rfl, Owns.cell HL.out 0 _ _ 39 rfl 2 _ rfl, Owns.cell HL.out 0 _ _ 39 rfl 3 _ rfl, Owns.cell HL.out 1 _ _ 28 rfl 0 _ rfl, Owns.cell HL.out 1 _ _ 28 rfl 1 _ rfl, Owns.cell HL.out 1 _ _ 28 rfl 2 _ rfl, Owns.cell HL.out 1 _ _ 28 rfl 3 _ rfl, Owns.cell HL.out 1 _ _ 28 rfl 4 _ rfl, Owns.cell HL.out 1 _ _ 28 rfl 5 _ rfl, Owns.cell HL.out 1 _ _ 28 rfl 6 _ rfl, Owns.cell HL.out 2 _ _ 28 rfl 0 _ rfl, Owns.cell HL.out 2 _ _ 28 rfl 1 _ rfl, Owns.cell HL.out 2 _ _ 28 rfl 2 _ rfl, Owns.cell HL.out 2 _ _ 28 rfl 3 _ rfl, Owns.cell HL.out 2 _ _ 28 rfl 4 _ rfl, Owns.cell HL.out 2 _ _ 28 rfl 5 _ rfl, Owns.cell HL.out 2 _ _ 28 rfl 6 _ rfl⟩ | go_keep) (first | (go_at_call 13; (with_reducible refine (M13.out _ (by repeat (first | exact HL.out.bel | apply below_alloc | apply pw_below_drewN | apply below_drew1))).mono ?_); rintro e w3 ⟨v4, v5, v6, rfl, ho4, ho5, ho6, hb⟩; obtain ⟨a4, ac4, rfl, al4, ah4⟩ := Kd.S_reads ho4; obtain ⟨a5, ac5, rfl, al5, ah5⟩ := Kd.R_reads ho5; obtain ⟨a6, ac6, rfl, al6, ah6⟩ := Kd.R_reads ho6; have aH4 := Aside0.mk ah4; have aL4 := Aside0.mk al4; have aH5 := Aside0.mk ah5; have aL5 := Aside0.mk al5; have aH6 := Aside0.mk ah6; have aL6 := Aside0.mk al6; clear ho4 ho5 ho6 ah4 al4 ah5 al5 ah6 al6; have HT := Aside0.mk (Owns.step (by repeat (first | exact HL.out | (with_reducible apply Owns.drewN) | (with_reducible apply Owns.drew))) hb); clear HL hb; have HL := HT; clear HT; have aD := Aside0.mk (Below.refl w3.heap.size w3)) | (go_at_call 14; (with_reducible refine (M14.out _ (by repeat (first | exact HL.out.bel | apply below_alloc | apply pw_below_drewN | apply below_drew1))).mono ?_); rintro e w5 ⟨v4, v5, v6, rfl, ho4, ho5, ho6, hb⟩; obtain ⟨b4, bc4, rfl, bl4, bh4⟩ := Kd.S_reads ho4; obtain ⟨b5, bc5, rfl, bl5, bh5⟩ := Kd.R_reads ho5; obtain ⟨b6, bc6, rfl, bl6, bh6⟩ := Kd.R_reads ho6; have bH4 := Aside0.mk bh4; have bL4 := Aside0.mk bl4; have bH5 := Aside0.mk bh5; have bL5 := Aside0.mk bl5; have bH6 := Aside0.mk bh6; have bL6 := Aside0.mk bl6; clear ho4 ho5 ho6 bh4 bl4 bh5 bl5 bh6 bl6; have aDT := Aside0.mk (below_step (by repeat (first | exact aD.out | apply below_alloc | apply pw_below_drewN | apply below_drew1)) hb); clear aD; have aD := aDT; clear aDT; have HT := Aside0.mk (Owns.step (by repeat (first | exact HL.out | (with_reducible apply Owns.drewN) | (with_reducible apply Owns.drew))) hb); clear HL hb; have HL := HT; clear HT; have bD := Aside0.mk (Below.refl w5.heap.size w5)) | (go_at_call 10; (with_reducible refine (frustumref42_Equal.calls K t0 t1 t2 t3 a4 ac4 X4 a5 ac5 X5 a6 ac6 X6 t0 t1 t2 t3 b4 bc4 X4 b5 bc5 X5 b6 bc6 X6 true _ ?e1 aL4.out ?e2 aL5.out ?e3 aL6.out ?e4 bL4.out ?e5 bL5.out ?e6 bL6.out EQ.out).mono ?_); (case e1 => exact Kd.C_below aH4.out (by repeat (first | exact aD.out | apply below_alloc | apply pw_below_drewN | apply below_drew1))); (case e2 => exact Kd.C_below aH5.out (by repeat (first | exact aD.out | apply below_alloc | apply pw_below_drewN | apply below_drew1))); (case e3 => exact Kd.C_below aH6.out (by repeat (first | exact aD.out | apply below_alloc | apply pw_below_drewN | apply below_drew1))); (case e4 => exact Kd.C_below bH4.out (by repeat (first | exact bD.out | apply below_alloc | apply pw_below_drewN | apply below_drew1))); (case e5 => exact Kd.C_below bH5.out (by repeat (first | exact bD.out | apply below_alloc | apply pw_below_drewN | apply below_drew1))); (case e6 => exact Kd.C_below bH6.out (by repeat (first | exact bD.out | apply below_alloc | apply pw_below_drewN | apply below_drew1))); rintro e w7 ⟨rfl, hb⟩; have HT := Aside0.mk (Owns.step (by repeat (first | exact HL.out | (with_reducible apply Owns.drewN) | (with_reducible apply Owns.drew))) hb); clear HL hb; have HL := HT; clear HT) | (go_at_call 7; (with_reducible refine (frustumlaw42_example.calls K true _ EX.out).mono ?_); rintro e w10 ⟨rfl, hb⟩; have HT := Aside0.mk (Owns.step (by repeat (first | exact HL.out | (with_reducible apply Owns.drewN) | (with_reducible apply Owns.drew))) hb); clear HL hb; have HL := HT; clear HT)) | fail
      go_wp2
      go_ret
      exact ⟨rfl, HL.out.bel⟩

end Go.Proofs.Ytmpmennepjkocaa.Pure
