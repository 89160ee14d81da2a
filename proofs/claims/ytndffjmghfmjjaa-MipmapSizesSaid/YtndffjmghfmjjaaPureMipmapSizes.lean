/- MipmapSizes: for all sizes and levels, Levels and LevelSize of package mipmap return what the reference returns. No condition. -/
import Derived.Test.YtndffjmghfmjjaaPMipmapSizesx1
import Derived.Laws.BitsLemmas
namespace Go.Proofs.Ytndffjmghfmjjaa.Pure
set_option linter.unusedVariables false
set_option linter.unusedSimpArgs false
open Go.RowKit Go.Proofs.Ytndffjmghfmjjaa.PMipmapSizes Go.Proofs.YtndffjmghfmjjaaW.PrintWords Go.Proofs.YtndffjmghfmjjaaW.PrintLast Go.Proofs.YtndffjmghfmjjaaW.PrintMore
theorem l0_same : ∀ (k : Nat) (a b : Int), mipmap_Levels.l0 k a b = frustumref12_Levels.l0 k a b := by
  intro k
  induction k with
  | zero => intro a b; rfl
  | succ k ih => intro a b; simp only [mipmap_Levels.l0, frustumref12_Levels.l0, ih]
def lv (s : Int) : Int := if s ≤ 1 then 1 else if s ≤ 3 then 2 else if s ≤ 7 then 3 else if s ≤ 15 then 4 else if s ≤ 31 then 5 else if s ≤ 63 then 6 else 7
theorem lv_all : ∀ s ∈ List.range 65, frustumref12_Levels.l0 10 1 (s : Int) = some (lv s) := by decide +kernel
theorem half_all : ∀ w ∈ List.range 65, ∀ l ∈ List.range 7, w = 0 ∨ frustumref12_halved.l0 10 (w : Int) (l : Int) 0 = some (mx 1 (shr .i64 w l)) := by decide +kernel
theorem lv_eq (k : Nat) (s : Int) (h0 : 1 ≤ s) (h1 : s ≤ 64) (hk : 10 ≤ k) : frustumref12_Levels.l0 k 1 s = some (lv s) := by
  obtain ⟨n, rfl⟩ : ∃ n : Nat, s = (n : Int) := ⟨s.toNat, by omega⟩
  exact at_rounds (g := fun k => frustumref12_Levels.l0 k 1 (n : Int)) (fun k => (frustumref12_Levels.mono_l k) _ _) hk (lv_all n (by simp; omega))
theorem half_eq (k : Nat) (w l : Int) (h0 : 1 ≤ w) (h1 : w ≤ 64) (h2 : 0 ≤ l) (h3 : l ≤ 6) (hk : 10 ≤ k) : frustumref12_halved.f k w l = some (mx 1 (shr .i64 w l)) := by
  obtain ⟨n, rfl⟩ : ∃ n : Nat, w = (n : Int) := ⟨w.toNat, by omega⟩
  obtain ⟨m, rfl⟩ : ∃ m : Nat, l = (m : Int) := ⟨l.toNat, by omega⟩
  refine at_rounds (g := fun k => frustumref12_halved.f k (n : Int) (m : Int)) (frustumref12_halved.mono _ _) hk ?_
  rcases half_all n (by simp; omega) m (by simp; omega) with h | h
  · omega
  · exact h
def sz (a b : Int) : Bool := decide (1 ≤ a ∧ a ≤ 64 ∧ 1 ≤ b ∧ b ≤ 64)
def lvs (a b : Int) : Int := if sz a b = true then lv (mx a b) else 0
theorem mx_range (a b : Int) (h : sz a b = true) : 1 ≤ mx a b ∧ mx a b ≤ 64 := by
  unfold sz at h; have := of_decide_eq_true h; unfold mx; split <;> omega
theorem sized_eq (a : Int) : mipmap_sized.f a = some (decide (1 ≤ a ∧ a ≤ 64)) := by
  unfold mipmap_sized.f
  by_cases h : 1 ≤ a
  · simp [h]
  · simp [h]
theorem Levels_eq (k : Nat) (a b : Int) (hk : 20 ≤ k) : mipmap_Levels.f k a b = some (lvs a b) := by
  obtain ⟨k, rfl⟩ : ∃ m, k = m + 1 := ⟨k - 1, by omega⟩
  unfold mipmap_Levels.f lvs
  simp only [sized_eq, Option.bind_some, mipmap_Levels.j0, l0_same]
  by_cases ha : 1 ≤ a ∧ a ≤ 64
  · by_cases hb : 1 ≤ b ∧ b ≤ 64
    · have hs : sz a b = true := decide_eq_true ⟨ha.1, ha.2, hb.1, hb.2⟩
      have hr := mx_range a b hs
      simp [ha, hb, hs, lv_eq k (mx a b) hr.1 hr.2 (by omega)]
    · have hs : sz a b = false := decide_eq_false (fun h => hb ⟨h.2.2.1, h.2.2.2⟩)
      rw [decide_eq_true ha, decide_eq_false hb, hs]; rfl
  · have hs : sz a b = false := decide_eq_false (fun h => ha ⟨h.1, h.2.1⟩)
    rw [decide_eq_false ha, hs]; rfl
theorem refLevels_eq (k : Nat) (a b : Int) (hk : 20 ≤ k) : frustumref12_Levels.f k a b = some (lvs a b) := by
  unfold frustumref12_Levels.f lvs
  have hz : frustumref12_sized.f a b = some (sz a b) := by
    unfold frustumref12_sized.f sz
    (repeat' split) <;> simp_all <;> omega
  rw [hz]
  simp only [Option.bind_some]
  cases hs : sz a b
  · rfl
  · have hr := mx_range a b hs
    simp [lv_eq k (mx a b) hr.1 hr.2 (by omega)]
def lsz (a b l : Int) : Int × Int := if l < 0 ∨ lvs a b ≤ l then (0, 0) else (mx 1 (shr .i64 a l), mx 1 (shr .i64 b l))
theorem LevelSize_eq (k : Nat) (a b l : Int) (hk : 20 ≤ k) : mipmap_LevelSize.f k a b l = some (lsz a b l) := by
  unfold mipmap_LevelSize.f lsz
  rw [Levels_eq k a b hk]
  simp only [Option.bind_some]
  by_cases h1 : l < 0
  · rw [if_pos h1, if_pos (Or.inl h1)]
  · rw [if_neg h1]
    by_cases h2 : l ≥ lvs a b
    · rw [if_pos h2, if_pos (Or.inr h2)]
    · rw [if_neg h2, if_pos (by omega), if_neg (by omega)]
theorem lv_bd (s : Int) : 1 ≤ lv s ∧ lv s ≤ 7 := by unfold lv; (repeat' split) <;> omega
theorem refLevelSize_eq (k : Nat) (a b l : Int) (hk : 30 ≤ k) : frustumref12_LevelSize.f k a b l = some (lsz a b l) := by
  obtain ⟨k, rfl⟩ : ∃ m, k = m + 1 := ⟨k - 1, by omega⟩
  unfold frustumref12_LevelSize.f lsz
  rw [refLevels_eq (k + 1) a b (by omega)]
  simp only [Option.bind_some, frustumref12_LevelSize.j0]
  by_cases h1 : l < 0
  · rw [if_pos h1, if_pos (Or.inl h1)]; rfl
  · rw [if_neg h1]
    by_cases h2 : l ≥ lvs a b
    · rw [decide_eq_true h2, if_pos (Or.inr h2)]; rfl
    · have hs : sz a b = true := by
        cases h : sz a b
        · exfalso; unfold lvs at h2; rw [h] at h2; simp at h2; omega
        · rfl
      have hr : 1 ≤ a ∧ a ≤ 64 ∧ 1 ≤ b ∧ b ≤ 64 := of_decide_eq_true hs
      have hl : l ≤ 6 := by
        have := lv_bd (mx a b)
        unfold lvs at h2; rw [hs] at h2; simp at h2; omega
      rw [decide_eq_false h2, if_neg (by decide), if_neg (by omega), half_eq k a l hr.1 hr.2.1 (by omega) hl (by omega), half_eq k b l hr.2.2.1 hr.2.2.2 (by omega) hl (by omega)]
      rfl
theorem ex : frustumlaw12_example.f 100 = some true := by decide +kernel
theorem MipmapSizes : frustumlaw12_MipmapSizes.Pure := by
  intro a b l _ _ _
  refine ⟨100, ?_⟩
  simp only [frustumlaw12_MipmapSizes.f, LevelSize_eq 100 _ _ _ (by decide), refLevelSize_eq 100 _ _ _ (by decide), Levels_eq 100 _ _ (by decide), refLevels_eq 100 _ _ (by decide), ex, Option.bind_some, if_true]

end Go.Proofs.Ytndffjmghfmjjaa.Pure
