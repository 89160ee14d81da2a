/- TargetMerge: walks of functions, by the printed steps made shorter. No condition. -/
/- Walks of functions, by printed steps, in short words. No condition. -/
import Derived.Test.YtmpmennepjkocaaStep
import Derived.Test.YtmpmennepjkocaaPTargetMergex0
import Derived.Test.YtmpmennepjkocaaPTargetMergex1
import Derived.Test.YtmpmennepjkocaaPTargetMergex5
namespace Go.Proofs.Ytmpmennepjkocaa.PTargetMerge
open Go.RowKit Go.Proofs.YtmpmennepjkocaaW.PrintWords Go.Proofs.YtmpmennepjkocaaW.PrintLast Go.Proofs.YtmpmennepjkocaaW.PrintMore Go.Proofs.Ytmpmennepjkocaa.Step
attribute [local go_sem] max2_int min2_int max_two min_two max_three min_three max_four min_four   -- for this text's walks alone
set_option linter.unusedVariables false
set_option linter.unusedSimpArgs false

/-! ### target_Valid: function 11 -/
mutual
def target_Valid.j0 : Nat → Bool → Int → Int → Int → Int → List (S47) → List Int → List Int → Option (Bool)
 | 0, _, _, _, _, _, _, _, _ => none
 | k + 1, x44, x206000, x206001, x206002, x206003, x206004, x206005, x206006 => if x44 = true then (some false) else (target_Valid.l0 k x206004 (x206004.length : Int) 0 x206000 x206001 x206002 x206003 x206004 x206005 x206006)
def target_Valid.l0 : Nat → List (S47) → Int → Int → Int → Int → Int → Int → List (S47) → List Int → List Int → Option (Bool)
 | 0, _, _, _, _, _, _, _, _, _, _ => none
 | k + 1, x46, x47, x48, x206000, x206001, x206002, x206003, x206004, x206005, x206006 => if x48 < x47 then (if 0 ≤ x48 then (if x48 < (x46.length : Int) then ((image_Valid.f k ((rd_T47 x46 x48).f0) ((rd_T47 x46 x48).f1) ((rd_T47 x46 x48).f2) ((rd_T47 x46 x48).f3)).bind fun t210 => (if t210 = true then (if ((rd_T47 x46 x48).f1) = x206000 then (if ((rd_T47 x46 x48).f2) = x206001 then (if 0 < (x206004.length : Int) then (if ((rd_T47 x46 x48).f0) = ((rd_T47 x206004 0).f0) then (target_Valid.l0 k x46 x47 (wrap64 (x48 + 1)) x206000 x206001 x206002 x206003 x206004 x206005 x206006) else (some false)) else (none)) else (some false)) else (some false)) else (some false))) else (none)) else (none)) else (if (x206005.length : Int) = (wrap64 ((wrap64 (x206000 * x206001)) * x206002)) then (target_Valid.j2 k (wrap64 ((wrap64 (x206000 * x206001)) * x206002)) ((x206006.length : Int) != (wrap64 ((wrap64 (x206000 * x206001)) * x206002))) x206000 x206001 x206002 x206003 x206004 x206005 x206006) else (target_Valid.j2 k (wrap64 ((wrap64 (x206000 * x206001)) * x206002)) true x206000 x206001 x206002 x206003 x206004 x206005 x206006))
def target_Valid.j2 : Nat → Int → Bool → Int → Int → Int → Int → List (S47) → List Int → List Int → Option (Bool)
 | 0, _, _, _, _, _, _, _, _, _ => none
 | k + 1, x5, x99, x206000, x206001, x206002, x206003, x206004, x206005, x206006 => if x99 = true then (some false) else (target_Valid.l1 k x5 0 x206000 x206001 x206002 x206003 x206004 x206005 x206006)
def target_Valid.l1 : Nat → Int → Int → Int → Int → Int → Int → List (S47) → List Int → List Int → Option (Bool)
 | 0, _, _, _, _, _, _, _, _, _ => none
 | k + 1, x100, x101, x206000, x206001, x206002, x206003, x206004, x206005, x206006 => if x101 < x100 then (if 0 ≤ x101 then (if x101 < (x206005.length : Int) then (if (rd x206005 x101) < 0 then (some false) else ((depth_Max.f x206003).bind fun t214 => (if (rd x206005 x101) > t214 then (some false) else (if x101 < (x206006.length : Int) then (if (rd x206006 x101) < 0 then (some false) else ((target_mostStencil.f x206000 x206001 x206002 x206003 x206004 x206005 x206006).bind fun t217 => (if (rd x206006 x101) > t217 then (some false) else (target_Valid.l1 k x100 (wrap64 (x101 + 1)) x206000 x206001 x206002 x206003 x206004 x206005 x206006)))) else (none))))) else (none)) else (none)) else (some true)
end
def target_Valid.f (k : Nat) (a0_0 : Int) (a0_1 : Int) (a0_2 : Int) (a0_3 : Int) (l0_4 : List (S47)) (l0_5 : List Int) (l0_6 : List Int) : Option (Bool) := if a0_0 < 1 then (target_Valid.j0 k true a0_0 a0_1 a0_2 a0_3 l0_4 l0_5 l0_6) else (if a0_0 > 64 then (target_Valid.j0 k true a0_0 a0_1 a0_2 a0_3 l0_4 l0_5 l0_6) else (if a0_1 < 1 then (target_Valid.j0 k true a0_0 a0_1 a0_2 a0_3 l0_4 l0_5 l0_6) else (if a0_1 > 64 then (target_Valid.j0 k true a0_0 a0_1 a0_2 a0_3 l0_4 l0_5 l0_6) else ((coverage_ValidSamples.f a0_2).bind fun t206 => (if t206 = true then ((depth_Bits.f a0_3).bind fun t207 => (if t207 < 0 then (target_Valid.j0 k true a0_0 a0_1 a0_2 a0_3 l0_4 l0_5 l0_6) else (target_Valid.j0 k ((l0_4.length : Int) != a0_2) a0_0 a0_1 a0_2 a0_3 l0_4 l0_5 l0_6))) else (target_Valid.j0 k true a0_0 a0_1 a0_2 a0_3 l0_4 l0_5 l0_6))))))
def target_Valid.T6 : Bool × List (List Nat × List Nat) := (true, [([], []), ([0], [0]), ([1], [1]), ([2, 1], [2]), ([3], [3]), ([4, 3], [3, 4]), ([3], [3]), ([6, 3], [3, 6]), ([5, 7, 3], [3, 5, 7]), ([3, 8], [3, 8]), ([9, 3], [9]), ([10], [10]), ([11, 10], [10, 11]), ([10], [10]), ([13, 10], [10, 13]), ([12, 14, 10], [10, 12, 14]), ([10, 15], [10, 15]), ([16, 10], [16]), ([17], [17]), ([18, 17], [17, 18]), ([17], [17]), ([20, 17], [17, 20]), ([21, 17], [17, 21]), ([22, 17], [17, 22]), ([23, 17], [17, 23]), ([19, 24, 17], [17, 19, 24]), ([17, 25], [17, 25])])
def target_Valid.B6 : List Nat := [0, 1, 3, 7, 15, 31, 15, 79, 255, 511, 1023, 2047, 4095, 2047, 10239, 32767, 65535, 131071, 262143, 524287, 262143, 1310719, 3407871, 7602175, 15990783, 33554431, 67108863]
theorem target_Valid.tab6 : rtab .any (opsOf Try.f11 6) = target_Valid.T6 := by kernel_rfl
theorem target_Valid.bits6 : waitsOk target_Valid.T6.2 target_Valid.B6 = true := by kernel_rfl
def target_Valid.T15 : Bool × List (List Nat × List Nat) := (true, [([], []), ([0], [0]), ([], []), ([1, 2], [1, 2]), ([3], [3]), ([4], [4]), ([5], [5]), ([6], [6]), ([7, 6], [6, 7]), ([6], [6]), ([8, 9, 6], [6, 8, 9]), ([10, 6], [6, 10]), ([6], [6]), ([12, 6], [6, 12]), ([13, 6, 6], [6, 13]), ([11, 14, 6], [6, 11, 14]), ([6, 15], [6, 15]), ([16, 14], [16]), ([17], [17]), ([18, 17], [17, 18]), ([17], [17]), ([19, 20, 17], [17, 19, 20]), ([21, 17], [17, 21]), ([22, 17], [17, 22]), ([17, 23], [17, 23]), ([24, 17], [24]), ([25], [25]), ([26, 25], [25, 26]), ([25], [25]), ([27, 28, 25], [25, 27, 28]), ([29, 25], [25, 29]), ([25], [25]), ([31, 25, 25], [25, 31]), ([30, 32, 25], [25, 30, 32]), ([25, 33], [25, 33])])
def target_Valid.B15 : List Nat := [0, 1, 0, 7, 15, 31, 63, 127, 255, 127, 1023, 2047, 127, 4223, 12415, 32767, 65535, 131071, 262143, 524287, 262143, 2097151, 4194303, 8388607, 16777215, 33554431, 67108863, 134217727, 67108863, 536870911, 1073741823, 67108863, 2214592511, 8589934591, 17179869183]
theorem target_Valid.tab15 : rtab .any (opsOf Try.f11 15) = target_Valid.T15 := by kernel_rfl
theorem target_Valid.bits15 : waitsOk target_Valid.T15.2 target_Valid.B15 = true := by kernel_rfl
set_option maxHeartbeats 8000000 in
set_option maxRecDepth 100000 in
theorem target_Valid.calls (k : Nat) (a0_0 : Int) (a0_1 : Int) (a0_2 : Int) (a0_3 : Int) (A0_4 : Option Addr) (c0_4 : Nat) (l0_4 : List (S47)) (A0_5 : Option Addr) (c0_5 : Nat) (l0_5 : List Int) (A0_6 : Option Addr) (c0_6 : Nat) (l0_6 : List Int) (r : Bool) (w : World) (hr0_4 : Kd.C k47 w A0_4 l0_4.length l0_4) (hc0_4 : l0_4.length ≤ c0_4) (hr0_5 : Kd.C (Kd.int .i64) w A0_5 l0_5.length l0_5) (hc0_5 : l0_5.length ≤ c0_5) (hr0_6 : Kd.C (Kd.int .i64) w A0_6 l0_6.length l0_6) (hc0_6 : l0_6.length ≤ c0_6) (h : target_Valid.f k a0_0 a0_1 a0_2 a0_3 l0_4 l0_5 l0_6 = some r) :
  Calls Try.prog 11 #[.agg #[.int .i64 a0_0, .int .i64 a0_1, .int .i64 a0_2, .int .i64 a0_3, .slice A0_4 l0_4.length c0_4, .slice A0_5 l0_5.length c0_5, .slice A0_6 l0_6.length c0_6]] w fun e w' => e = .returned (.bool r) ∧ Below w.heap.size w w' := by
 have hu28 := Try.underlying28; have hu47 := Try.underlying47; have HR0_4 := Aside0.mk hr0_4; have HC0_4 := Aside0.mk hc0_4; clear hr0_4 hc0_4; have HR0_5 := Aside0.mk hr0_5; have HC0_5 := Aside0.mk hc0_5; clear hr0_5 hc0_5; have HR0_6 := Aside0.mk hr0_6; have HC0_6 := Aside0.mk hc0_6; clear hr0_6 hc0_6; have HB := Aside0.mk (Below.refl w.heap.size w)
 have H : (if a0_0 < 1 then (target_Valid.j0 k true a0_0 a0_1 a0_2 a0_3 l0_4 l0_5 l0_6) else (if a0_0 > 64 then (target_Valid.j0 k true a0_0 a0_1 a0_2 a0_3 l0_4 l0_5 l0_6) else (if a0_1 < 1 then (target_Valid.j0 k true a0_0 a0_1 a0_2 a0_3 l0_4 l0_5 l0_6) else (if a0_1 > 64 then (target_Valid.j0 k true a0_0 a0_1 a0_2 a0_3 l0_4 l0_5 l0_6) else ((coverage_ValidSamples.f a0_2).bind fun t206 => (if t206 = true then ((depth_Bits.f a0_3).bind fun t207 => (if t207 < 0 then (target_Valid.j0 k true a0_0 a0_1 a0_2 a0_3 l0_4 l0_5 l0_6) else (target_Valid.j0 k ((l0_4.length : Int) != a0_2) a0_0 a0_1 a0_2 a0_3 l0_4 l0_5 l0_6))) else (target_Valid.j0 k true a0_0 a0_1 a0_2 a0_3 l0_4 l0_5 l0_6))))))) = some r := h
 clear h; have HC2 := Aside0.mk H; clear H
 go_enter Try.func11, Try.ntmps11
 go_upto_region 1 with (first | ((with_reducible refine gate_dst (N := 1) rfl ?_); (try (refine gate_guard (by rfl) ?_; dsimp only)); refine box_event ?hg (N := 1) ?hd (cs := #[.int .i64 a0_0, .int .i64 a0_1, .int .i64 a0_2, .int .i64 a0_3, .slice A0_4 l0_4.length c0_4, .slice A0_5 l0_5.length c0_5, .slice A0_6 l0_6.length c0_6]) (t := 28) ?hr ?_; (case hd => rfl); (case hg => rfl); (case hr => first | (go_simp; done) | (go_simp; rfl)); intro gb205 hg w3 hbox hb; have BK205 := Aside0.mk (hbox); have GW205 := ws HB hg; have GE205 := ws HB hg; replace HB := bs HB hb; clear hb hbox hg))
 (try simp only [Act.put, List.setIfInBounds_toArray, List.set_cons_zero, List.set_cons_succ])
 go_cut [44] (fun v44 wc => ∃ (kq : Nat) (x44_1 : Bool), v44 = .bool x44_1 ∧ Aside0 (target_Valid.j0 kq x44_1 a0_0 a0_1 a0_2 a0_3 l0_4 l0_5 l0_6 = some r) ∧ Aside0 (kq ≤ k) ∧ Aside0 (wc.heap[gb205]? = some (.cells #[.int .i64 a0_0, .int .i64 a0_1, .int .i64 a0_2, .int .i64 a0_3, (.slice A0_4 l0_4.length c0_4), (.slice A0_5 l0_5.length c0_5), (.slice A0_6 l0_6.length c0_6)] 28 (0, 0))) ∧ Aside0 (Below w.heap.size w wc))
 case first =>
  have H := HC2.out; clear HC2
  by_cases c4 : a0_0 < 1
  ·rw [if_pos c4] at H
   have c4b0 : decide (a0_0 < 1) = true := decide_eq_true c4
   clear c4
   (first | rw [c4b0] | (simp only [i64_w, i32_w]; rw [c4b0]) | skip)
   have H' := Aside0.mk H
   clear H
   have hcz5_0 : w3.cell? ⟨gb205, 0, none⟩ = some (.int .i64 a0_0) := bc BK205 0
   have hcz5_1 : w3.cell? ⟨gb205, 1, none⟩ = some (.int .i64 a0_1) := bc BK205 1
   have hcz5_2 : w3.cell? ⟨gb205, 2, none⟩ = some (.int .i64 a0_2) := bc BK205 2
   have hcz5_3 : w3.cell? ⟨gb205, 3, none⟩ = some (.int .i64 a0_3) := bc BK205 3
   have hcz5_4 : w3.cell? ⟨gb205, 4, none⟩ = some (.slice A0_4 l0_4.length c0_4) := bc BK205 4
   have hcz5_5 : w3.cell? ⟨gb205, 5, none⟩ = some (.slice A0_5 l0_5.length c0_5) := bc BK205 5
   have hcz5_6 : w3.cell? ⟨gb205, 6, none⟩ = some (.slice A0_6 l0_6.length c0_6) := bc BK205 6
   have hfz5_0 := blk_frozen BK205.out 0; have hfz5_1 := blk_frozen BK205.out 1; have hfz5_2 := blk_frozen BK205.out 2; have hfz5_3 := blk_frozen BK205.out 3; have hfz5_4 := blk_frozen BK205.out 4; have hfz5_5 := blk_frozen BK205.out 5; have hfz5_6 := blk_frozen BK205.out 6
   go_wp2
   go_meet
   case rel => exact ⟨_, (true), (by first | rfl | (simp; done) | (simp [*]; done)), H', ⟨by first | omega | exact Nat.le_refl _⟩, ⟨by (with_reducible repeat (first | refine blk_drewN ?_ _ | refine blk_drew ?_ | refine blk_alloc ?_ _)); exact BK205.out⟩, ⟨by repeat (first | (with_reducible first | exact HB.out | apply below_alloc | apply pw_below_drewN | apply below_drew1 | refine below_set ?_ GE205.out) | exact HB.out)⟩⟩
  ·rw [if_neg c4] at H
   have c4b0 : decide (a0_0 < 1) = false := decide_eq_false c4
   clear c4
   (first | rw [c4b0] | (simp only [i64_w, i32_w]; rw [c4b0]) | skip)
   by_cases c6 : a0_0 > 64
   ·rw [if_pos c6] at H
    have c6b0 : decide (64 < a0_0) = true := decide_eq_true c6
    clear c6
    have H' := Aside0.mk H
    clear H
    have hcz7_0 : w3.cell? ⟨gb205, 0, none⟩ = some (.int .i64 a0_0) := bc BK205 0
    have hcz7_1 : w3.cell? ⟨gb205, 1, none⟩ = some (.int .i64 a0_1) := bc BK205 1
    have hcz7_2 : w3.cell? ⟨gb205, 2, none⟩ = some (.int .i64 a0_2) := bc BK205 2
    have hcz7_3 : w3.cell? ⟨gb205, 3, none⟩ = some (.int .i64 a0_3) := bc BK205 3
    have hcz7_4 : w3.cell? ⟨gb205, 4, none⟩ = some (.slice A0_4 l0_4.length c0_4) := bc BK205 4
    have hcz7_5 : w3.cell? ⟨gb205, 5, none⟩ = some (.slice A0_5 l0_5.length c0_5) := bc BK205 5
    have hcz7_6 : w3.cell? ⟨gb205, 6, none⟩ = some (.slice A0_6 l0_6.length c0_6) := bc BK205 6
    have hfz7_0 := blk_frozen BK205.out 0; have hfz7_1 := blk_frozen BK205.out 1; have hfz7_2 := blk_frozen BK205.out 2; have hfz7_3 := blk_frozen BK205.out 3; have hfz7_4 := blk_frozen BK205.out 4; have hfz7_5 := blk_frozen BK205.out 5; have hfz7_6 := blk_frozen BK205.out 6
    go_wp2
    go_meet
    case rel => exact ⟨_, (true), (by first | rfl | (simp; done) | (simp [*]; done)), H', ⟨by first | omega | exact Nat.le_refl _⟩, ⟨by (with_reducible repeat (first | refine blk_drewN ?_ _ | refine blk_drew ?_ | refine blk_alloc ?_ _)); exact BK205.out⟩, ⟨by repeat (first | (with_reducible first | exact HB.out | apply below_alloc | apply pw_below_drewN | apply below_drew1 | refine below_set ?_ GE205.out) | exact HB.out)⟩⟩
   ·rw [if_neg c6] at H
    have c6b0 : decide (64 < a0_0) = false := decide_eq_false c6
    clear c6
    by_cases c8 : a0_1 < 1
    ·rw [if_pos c8] at H
     have c8b0 : decide (a0_1 < 1) = true := decide_eq_true c8
     clear c8
     have H' := Aside0.mk H
     clear H
     have hcz9_0 : w3.cell? ⟨gb205, 0, none⟩ = some (.int .i64 a0_0) := bc BK205 0
     have hcz9_1 : w3.cell? ⟨gb205, 1, none⟩ = some (.int .i64 a0_1) := bc BK205 1
     have hcz9_2 : w3.cell? ⟨gb205, 2, none⟩ = some (.int .i64 a0_2) := bc BK205 2
     have hcz9_3 : w3.cell? ⟨gb205, 3, none⟩ = some (.int .i64 a0_3) := bc BK205 3
     have hcz9_4 : w3.cell? ⟨gb205, 4, none⟩ = some (.slice A0_4 l0_4.length c0_4) := bc BK205 4
     have hcz9_5 : w3.cell? ⟨gb205, 5, none⟩ = some (.slice A0_5 l0_5.length c0_5) := bc BK205 5
     have hcz9_6 : w3.cell? ⟨gb205, 6, none⟩ = some (.slice A0_6 l0_6.length c0_6) := bc BK205 6
     have hfz9_0 := blk_frozen BK205.out 0; have hfz9_1 := blk_frozen BK205.out 1; have hfz9_2 := blk_frozen BK205.out 2; have hfz9_3 := blk_frozen BK205.out 3; have hfz9_4 := blk_frozen BK205.out 4; have hfz9_5 := blk_frozen BK205.out 5; have hfz9_6 := blk_frozen BK205.out 6
     go_wp2
     go_meet
     case rel => exact ⟨_, (true), (by first | rfl | (simp; done) | (simp [*]; done)), H', ⟨by first | omega | exact Nat.le_refl _⟩, ⟨by (with_reducible repeat (first | refine blk_drewN ?_ _ | refine blk_drew ?_ | refine blk_alloc ?_ _)); exact BK205.out⟩, ⟨by repeat (first | (with_reducible first | exact HB.out | apply below_alloc | apply pw_below_drewN | apply below_drew1 | refine below_set ?_ GE205.out) | exact HB.out)⟩⟩
    ·rw [if_neg c8] at H
     have c8b0 : decide (a0_1 < 1) = false := decide_eq_false c8
     clear c8
     by_cases c10 : a0_1 > 64
     ·rw [if_pos c10] at H
      have c10b0 : decide (64 < a0_1) = true := decide_eq_true c10
      clear c10
      have H' := Aside0.mk H
      clear H
      have hcz11_0 : w3.cell? ⟨gb205, 0, none⟩ = some (.int .i64 a0_0) := bc BK205 0
      have hcz11_1 : w3.cell? ⟨gb205, 1, none⟩ = some (.int .i64 a0_1) := bc BK205 1
      have hcz11_2 : w3.cell? ⟨gb205, 2, none⟩ = some (.int .i64 a0_2) := bc BK205 2
      have hcz11_3 : w3.cell? ⟨gb205, 3, none⟩ = some (.int .i64 a0_3) := bc BK205 3
      have hcz11_4 : w3.cell? ⟨gb205, 4, none⟩ = some (.slice A0_4 l0_4.length c0_4) := bc BK205 4
      have hcz11_5 : w3.cell? ⟨gb205, 5, none⟩ = some (.slice A0_5 l0_5.length c0_5) := bc BK205 5
      have hcz11_6 : w3.cell? ⟨gb205, 6, none⟩ = some (.slice A0_6 l0_6.length c0_6) := bc BK205 6
      have hfz11_0 := blk_frozen BK205.out 0; have hfz11_1 := blk_frozen BK205.out 1; have hfz11_2 := blk_frozen BK205.out 2; have hfz11_3 := blk_frozen BK205.out 3; have hfz11_4 := blk_frozen BK205.out 4; have hfz11_5 := blk_frozen BK205.out 5; have hfz11_6 := blk_frozen BK205.out 6
      go_wp2
      go_meet
      case rel => exact ⟨_, (true), (by first | rfl | (simp; done) | (simp [*]; done)), H', ⟨by first | omega | exact Nat.le_refl _⟩, ⟨by (with_reducible repeat (first | refine blk_drewN ?_ _ | refine blk_drew ?_ | refine blk_alloc ?_ _)); exact BK205.out⟩, ⟨by repeat (first | (with_reducible first | exact HB.out | apply below_alloc | apply pw_below_drewN | apply below_drew1 | refine below_set ?_ GE205.out) | exact HB.out)⟩⟩
     ·rw [if_neg c10] at H
      have c10b0 : decide (64 < a0_1) = false := decide_eq_false c10
      clear c10
      replace H := Option.bind_eq_some_iff.mp H
      obtain ⟨t206, A120, H⟩ := H
      replace H : (if t206 = true then ((depth_Bits.f a0_3).bind fun t207 => (if t207 < 0 then (target_Valid.j0 k true a0_0 a0_1 a0_2 a0_3 l0_4 l0_5 l0_6) else (target_Valid.j0 k ((l0_4.length : Int) != a0_2) a0_0 a0_1 a0_2 a0_3 l0_4 l0_5 l0_6))) else (target_Valid.j0 k true a0_0 a0_1 a0_2 a0_3 l0_4 l0_5 l0_6)) = some r := H
      have A12 := Aside0.mk A120; clear A120
      by_cases c13 : t206 = true
      ·subst c13
       have H1 : ((depth_Bits.f a0_3).bind fun t207 => (if t207 < 0 then (target_Valid.j0 k true a0_0 a0_1 a0_2 a0_3 l0_4 l0_5 l0_6) else (target_Valid.j0 k ((l0_4.length : Int) != a0_2) a0_0 a0_1 a0_2 a0_3 l0_4 l0_5 l0_6))) = some r := by rw [if_pos rfl] at H; exact H
       clear H; have H := H1; clear H1
       replace H := Option.bind_eq_some_iff.mp H
       obtain ⟨t207, A140, H⟩ := H
       replace H : (if t207 < 0 then (target_Valid.j0 k true a0_0 a0_1 a0_2 a0_3 l0_4 l0_5 l0_6) else (target_Valid.j0 k ((l0_4.length : Int) != a0_2) a0_0 a0_1 a0_2 a0_3 l0_4 l0_5 l0_6)) = some r := H
       have A14 := Aside0.mk A140; clear A140
       by_cases c15 : t207 < 0
       ·rw [if_pos c15] at H
        have c15b0 : decide (t207 < 0) = true := decide_eq_true c15
        clear c15
        have H' := Aside0.mk H
        clear H
        have hcz16_0 : w3.cell? ⟨gb205, 0, none⟩ = some (.int .i64 a0_0) := bc BK205 0
        have hcz16_1 : w3.cell? ⟨gb205, 1, none⟩ = some (.int .i64 a0_1) := bc BK205 1
        have hcz16_2 : w3.cell? ⟨gb205, 2, none⟩ = some (.int .i64 a0_2) := bc BK205 2
        have hcz16_3 : w3.cell? ⟨gb205, 3, none⟩ = some (.int .i64 a0_3) := bc BK205 3
        have hcz16_4 : w3.cell? ⟨gb205, 4, none⟩ = some (.slice A0_4 l0_4.length c0_4) := bc BK205 4
        have hcz16_5 : w3.cell? ⟨gb205, 5, none⟩ = some (.slice A0_5 l0_5.length c0_5) := bc BK205 5
        have hcz16_6 : w3.cell? ⟨gb205, 6, none⟩ = some (.slice A0_6 l0_6.length c0_6) := bc BK205 6
        have hfz16_0 := blk_frozen BK205.out 0; have hfz16_1 := blk_frozen BK205.out 1; have hfz16_2 := blk_frozen BK205.out 2; have hfz16_3 := blk_frozen BK205.out 3; have hfz16_4 := blk_frozen BK205.out 4; have hfz16_5 := blk_frozen BK205.out 5; have hfz16_6 := blk_frozen BK205.out 6
        go_wp2_with (first | (go_at_call 21; (with_reducible refine (coverage_ValidSamples.calls a0_2 true _ A12.out).mono ?_); rintro e w' ⟨rfl, ⟨nd, rfl⟩⟩) | (go_at_call 20; (with_reducible refine (depth_Bits.calls a0_3 t207 _ A14.out).mono ?_); rintro e w' ⟨rfl, ⟨nd, rfl⟩⟩))
        go_meet
        case rel => exact ⟨_, (true), (by first | rfl | (simp; done) | (simp [*]; done)), H', ⟨by first | omega | exact Nat.le_refl _⟩, ⟨by (with_reducible repeat (first | refine blk_drewN ?_ _ | refine blk_drew ?_ | refine blk_alloc ?_ _)); exact BK205.out⟩, ⟨by repeat (first | (with_reducible first | exact HB.out | apply below_alloc | apply pw_below_drewN | apply below_drew1 | refine below_set ?_ GE205.out) | exact HB.out)⟩⟩
       ·rw [if_neg c15] at H
        have c15b0 : decide (t207 < 0) = false := decide_eq_false c15
        clear c15
        have H' := Aside0.mk H
        clear H
        have hcz17_0 : w3.cell? ⟨gb205, 0, none⟩ = some (.int .i64 a0_0) := bc BK205 0
        have hcz17_1 : w3.cell? ⟨gb205, 1, none⟩ = some (.int .i64 a0_1) := bc BK205 1
        have hcz17_2 : w3.cell? ⟨gb205, 2, none⟩ = some (.int .i64 a0_2) := bc BK205 2
        have hcz17_3 : w3.cell? ⟨gb205, 3, none⟩ = some (.int .i64 a0_3) := bc BK205 3
        have hcz17_4 : w3.cell? ⟨gb205, 4, none⟩ = some (.slice A0_4 l0_4.length c0_4) := bc BK205 4
        have hcz17_5 : w3.cell? ⟨gb205, 5, none⟩ = some (.slice A0_5 l0_5.length c0_5) := bc BK205 5
        have hcz17_6 : w3.cell? ⟨gb205, 6, none⟩ = some (.slice A0_6 l0_6.length c0_6) := bc BK205 6
        have hfz17_0 := blk_frozen BK205.out 0; have hfz17_1 := blk_frozen BK205.out 1; have hfz17_2 := blk_frozen BK205.out 2; have hfz17_3 := blk_frozen BK205.out 3; have hfz17_4 := blk_frozen BK205.out 4; have hfz17_5 := blk_frozen BK205.out 5; have hfz17_6 := blk_frozen BK205.out 6
        go_wp2_with (first | (go_at_call 21; (with_reducible refine (coverage_ValidSamples.calls a0_2 true _ A12.out).mono ?_); rintro e w' ⟨rfl, ⟨nd, rfl⟩⟩) | (go_at_call 20; (with_reducible refine (depth_Bits.calls a0_3 t207 _ A14.out).mono ?_); rintro e w' ⟨rfl, ⟨nd, rfl⟩⟩))
        go_meet
        case rel => exact ⟨_, (((l0_4.length : Int) != a0_2)), (by first | rfl | (simp; done) | (simp [*]; done)), H', ⟨by first | omega | exact Nat.le_refl _⟩, ⟨by (with_reducible repeat (first | refine blk_drewN ?_ _ | refine blk_drew ?_ | refine blk_alloc ?_ _)); exact BK205.out⟩, ⟨by repeat (first | (with_reducible first | exact HB.out | apply below_alloc | apply pw_below_drewN | apply below_drew1 | refine below_set ?_ GE205.out) | exact HB.out)⟩⟩
      ·replace c13 := Bool.eq_false_iff.mpr c13
       subst c13
       have H1 : (target_Valid.j0 k true a0_0 a0_1 a0_2 a0_3 l0_4 l0_5 l0_6) = some r := by rw [if_neg (show ¬ (false = true) by decide)] at H; exact H
       clear H; have H := H1; clear H1
       have H' := Aside0.mk H
       clear H
       have hcz18_0 : w3.cell? ⟨gb205, 0, none⟩ = some (.int .i64 a0_0) := bc BK205 0
       have hcz18_1 : w3.cell? ⟨gb205, 1, none⟩ = some (.int .i64 a0_1) := bc BK205 1
       have hcz18_2 : w3.cell? ⟨gb205, 2, none⟩ = some (.int .i64 a0_2) := bc BK205 2
       have hcz18_3 : w3.cell? ⟨gb205, 3, none⟩ = some (.int .i64 a0_3) := bc BK205 3
       have hcz18_4 : w3.cell? ⟨gb205, 4, none⟩ = some (.slice A0_4 l0_4.length c0_4) := bc BK205 4
       have hcz18_5 : w3.cell? ⟨gb205, 5, none⟩ = some (.slice A0_5 l0_5.length c0_5) := bc BK205 5
       have hcz18_6 : w3.cell? ⟨gb205, 6, none⟩ = some (.slice A0_6 l0_6.length c0_6) := bc BK205 6
       have hfz18_0 := blk_frozen BK205.out 0; have hfz18_1 := blk_frozen BK205.out 1; have hfz18_2 := blk_frozen BK205.out 2; have hfz18_3 := blk_frozen BK205.out 3; have hfz18_4 := blk_frozen BK205.out 4; have hfz18_5 := blk_frozen BK205.out 5; have hfz18_6 := blk_frozen BK205.out 6
       go_wp2_with (first | (go_at_call 21; (with_reducible refine (coverage_ValidSamples.calls a0_2 false _ A12.out).mono ?_); rintro e w' ⟨rfl, ⟨nd, rfl⟩⟩))
       go_meet
       case rel => exact ⟨_, (true), (by first | rfl | (simp; done) | (simp [*]; done)), H', ⟨by first | omega | exact Nat.le_refl _⟩, ⟨by (with_reducible repeat (first | refine blk_drewN ?_ _ | refine blk_drew ?_ | refine blk_alloc ?_ _)); exact BK205.out⟩, ⟨by repeat (first | (with_reducible first | exact HB.out | apply below_alloc | apply pw_below_drewN | apply below_drew1 | refine below_set ?_ GE205.out) | exact HB.out)⟩⟩
 case rest =>
  clear HC2
  try clear c1
  try clear p2
  try clear c4
  try clear c4b0
  try clear c6
  try clear c6b0
  try clear c8
  try clear c8b0
  try clear c10
  try clear c10b0
  try clear c11
  try clear c13
  try clear c15
  try clear c15b0
  try clear hcz11_0
  try clear hcz11_1
  try clear hcz11_2
  try clear hcz11_3
  try clear hcz11_4
  try clear hcz11_5
  try clear hcz11_6
  try clear hcz16_0
  try clear hcz16_1
  try clear hcz16_2
  try clear hcz16_3
  try clear hcz16_4
  try clear hcz16_5
  try clear hcz16_6
  try clear hcz17_0
  try clear hcz17_1
  try clear hcz17_2
  try clear hcz17_3
  try clear hcz17_4
  try clear hcz17_5
  try clear hcz17_6
  try clear hcz18_0
  try clear hcz18_1
  try clear hcz18_2
  try clear hcz18_3
  try clear hcz18_4
  try clear hcz18_5
  try clear hcz18_6
  try clear hcz5_0
  try clear hcz5_1
  try clear hcz5_2
  try clear hcz5_3
  try clear hcz5_4
  try clear hcz5_5
  try clear hcz5_6
  try clear hcz7_0
  try clear hcz7_1
  try clear hcz7_2
  try clear hcz7_3
  try clear hcz7_4
  try clear hcz7_5
  try clear hcz7_6
  try clear hcz9_0
  try clear hcz9_1
  try clear hcz9_2
  try clear hcz9_3
  try clear hcz9_4
  try clear hcz9_5
  try clear hcz9_6
  try clear hfz11_0
  try clear hfz11_1
  try clear hfz11_2
  try clear hfz11_3
  try clear hfz11_4
  try clear hfz11_5
  try clear hfz11_6
  try clear hfz16_0
  try clear hfz16_1
  try clear hfz16_2
  try clear hfz16_3
  try clear hfz16_4
  try clear hfz16_5
  try clear hfz16_6
  try clear hfz17_0
  try clear hfz17_1
  try clear hfz17_2
  try clear hfz17_3
  try clear hfz17_4
  try clear hfz17_5
  try clear hfz17_6
  try clear hfz18_0
  try clear hfz18_1
  try clear hfz18_2
  try clear hfz18_3
  try clear hfz18_4
  try clear hfz18_5
  try clear hfz18_6
  try clear hfz5_0
  try clear hfz5_1
  try clear hfz5_2
  try clear hfz5_3
  try clear hfz5_4
  try clear hfz5_5
  try clear hfz5_6
  try clear hfz7_0
  try clear hfz7_1
  try clear hfz7_2
  try clear hfz7_3
  try clear hfz7_4
  try clear hfz7_5
  try clear hfz7_6
  try clear hfz9_0
  try clear hfz9_1
  try clear hfz9_2
  try clear hfz9_3
  try clear hfz9_4
  try clear hfz9_5
  try clear hfz9_6
  obtain ⟨kq, x44_1, rfl, HA, HJ1, BK205, HB⟩ := hcut
  cases kq with
  | zero => exact absurd HA.out (by simp [target_Valid.j0])
  | succ kj1 =>
   have H := HA.out; clear HA
   simp only [target_Valid.j0] at H
   by_cases c19 : x44_1 = true
   ·subst c19
    have H1 : (some false) = some r := by rw [if_pos rfl] at H; exact H
    clear H; have H := H1; clear H1
    obtain rfl := Option.some.inj H
    go_wp2
    go_ret
    exact ⟨by first | rfl | (simp [errW_none, errW_some] <;> rfl) | (simp [*, errW_none, errW_some] <;> rfl), by repeat (first | (with_reducible first | exact HB.out | apply below_alloc | apply pw_below_drewN | apply below_drew1 | refine below_set ?_ GE205.out) | exact HB.out)⟩
   ·replace c19 := Bool.eq_false_iff.mpr c19
    subst c19
    have H1 : (target_Valid.l0 kj1 l0_4 (l0_4.length : Int) 0 a0_0 a0_1 a0_2 a0_3 l0_4 l0_5 l0_6) = some r := by rw [if_neg (show ¬ (false = true) by decide)] at H; exact H
    clear H; have H := H1; clear H1
    have H' := Aside0.mk H
    clear H
    have hcz20_0 : wc.cell? ⟨gb205, 0, none⟩ = some (.int .i64 a0_0) := bc BK205 0
    have hcz20_1 : wc.cell? ⟨gb205, 1, none⟩ = some (.int .i64 a0_1) := bc BK205 1
    have hcz20_2 : wc.cell? ⟨gb205, 2, none⟩ = some (.int .i64 a0_2) := bc BK205 2
    have hcz20_3 : wc.cell? ⟨gb205, 3, none⟩ = some (.int .i64 a0_3) := bc BK205 3
    have hcz20_4 : wc.cell? ⟨gb205, 4, none⟩ = some (.slice A0_4 l0_4.length c0_4) := bc BK205 4
    have hcz20_5 : wc.cell? ⟨gb205, 5, none⟩ = some (.slice A0_5 l0_5.length c0_5) := bc BK205 5
    have hcz20_6 : wc.cell? ⟨gb205, 6, none⟩ = some (.slice A0_6 l0_6.length c0_6) := bc BK205 6
    have hfz20_0 := blk_frozen BK205.out 0; have hfz20_1 := blk_frozen BK205.out 1; have hfz20_2 := blk_frozen BK205.out 2; have hfz20_3 := blk_frozen BK205.out 3; have hfz20_4 := blk_frozen BK205.out 4; have hfz20_5 := blk_frozen BK205.out 5; have hfz20_6 := blk_frozen BK205.out 6
    go_wp2
    go_loopg [48] kj1 (fun kq v48 w' => ∃ (x48_2 : Int), v48 = .int .i64 x48_2 ∧ Aside0 (target_Valid.l0 kq l0_4 (l0_4.length : Int) x48_2 a0_0 a0_1 a0_2 a0_3 l0_4 l0_5 l0_6 = some r) ∧ Aside0 (kq ≤ kj1) ∧ Aside0 (w'.heap[gb205]? = some (.cells #[.int .i64 a0_0, .int .i64 a0_1, .int .i64 a0_2, .int .i64 a0_3, (.slice A0_4 l0_4.length c0_4), (.slice A0_5 l0_5.length c0_5), (.slice A0_6 l0_6.length c0_6)] 28 (0, 0))) ∧ Aside0 (Below w.heap.size w w'))
    case atStart => exact ⟨(0), (by first | rfl | (simp; done) | (simp [*]; done)), H', ⟨Nat.le_refl _⟩, ⟨by (with_reducible repeat (first | refine blk_drewN ?_ _ | refine blk_drew ?_ | refine blk_alloc ?_ _)); exact BK205.out⟩, ⟨by repeat (first | (with_reducible first | exact HB.out | apply below_alloc | apply pw_below_drewN | apply below_drew1 | refine below_set ?_ GE205.out) | exact HB.out)⟩⟩
    case round =>
     clear H'
     try clear c1
     try clear p2
     try clear c4
     try clear c4b0
     try clear c6
     try clear c6b0
     try clear c8
     try clear c8b0
     try clear c10
     try clear c10b0
     try clear c11
     try clear c13
     try clear c15
     try clear c15b0
     try clear c19
     try clear hcz11_0
     try clear hcz11_1
     try clear hcz11_2
     try clear hcz11_3
     try clear hcz11_4
     try clear hcz11_5
     try clear hcz11_6
     try clear hcz16_0
     try clear hcz16_1
     try clear hcz16_2
     try clear hcz16_3
     try clear hcz16_4
     try clear hcz16_5
     try clear hcz16_6
     try clear hcz17_0
     try clear hcz17_1
     try clear hcz17_2
     try clear hcz17_3
     try clear hcz17_4
     try clear hcz17_5
     try clear hcz17_6
     try clear hcz18_0
     try clear hcz18_1
     try clear hcz18_2
     try clear hcz18_3
     try clear hcz18_4
     try clear hcz18_5
     try clear hcz18_6
     try clear hcz20_0
     try clear hcz20_1
     try clear hcz20_2
     try clear hcz20_3
     try clear hcz20_4
     try clear hcz20_5
     try clear hcz20_6
     try clear hcz5_0
     try clear hcz5_1
     try clear hcz5_2
     try clear hcz5_3
     try clear hcz5_4
     try clear hcz5_5
     try clear hcz5_6
     try clear hcz7_0
     try clear hcz7_1
     try clear hcz7_2
     try clear hcz7_3
     try clear hcz7_4
     try clear hcz7_5
     try clear hcz7_6
     try clear hcz9_0
     try clear hcz9_1
     try clear hcz9_2
     try clear hcz9_3
     try clear hcz9_4
     try clear hcz9_5
     try clear hcz9_6
     try clear hfz11_0
     try clear hfz11_1
     try clear hfz11_2
     try clear hfz11_3
     try clear hfz11_4
     try clear hfz11_5
     try clear hfz11_6
     try clear hfz16_0
     try clear hfz16_1
     try clear hfz16_2
     try clear hfz16_3
     try clear hfz16_4
     try clear hfz16_5
     try clear hfz16_6
     try clear hfz17_0
     try clear hfz17_1
     try clear hfz17_2
     try clear hfz17_3
     try clear hfz17_4
     try clear hfz17_5
     try clear hfz17_6
     try clear hfz18_0
     try clear hfz18_1
     try clear hfz18_2
     try clear hfz18_3
     try clear hfz18_4
     try clear hfz18_5
     try clear hfz18_6
     try clear hfz20_0
     try clear hfz20_1
     try clear hfz20_2
     try clear hfz20_3
     try clear hfz20_4
     try clear hfz20_5
     try clear hfz20_6
     try clear hfz5_0
     try clear hfz5_1
     try clear hfz5_2
     try clear hfz5_3
     try clear hfz5_4
     try clear hfz5_5
     try clear hfz5_6
     try clear hfz7_0
     try clear hfz7_1
     try clear hfz7_2
     try clear hfz7_3
     try clear hfz7_4
     try clear hfz7_5
     try clear hfz7_6
     try clear hfz9_0
     try clear hfz9_1
     try clear hfz9_2
     try clear hfz9_3
     try clear hfz9_4
     try clear hfz9_5
     try clear hfz9_6
     try clear p2
     obtain ⟨x48_2, rfl, HA, HK2, BK205, HB⟩ := hrel
     cases gk with
     | zero => exact absurd HA.out (by simp [target_Valid.l0])
     | succ k2 =>
      have H := HA.out; clear HA
      simp only [target_Valid.l0] at H
      by_cases c21 : x48_2 < (l0_4.length : Int)
      ·rw [if_pos c21] at H
       have c21b0 : decide (x48_2 < (l0_4.length : Int)) = true := decide_eq_true c21
       clear c21
       by_cases c22 : 0 ≤ x48_2
       ·rw [if_pos c22] at H
        have c22b0 : decide (0 ≤ x48_2) = true := decide_eq_true c22
        clear c22
        by_cases c23 : x48_2 < (l0_4.length : Int)
        ·rw [if_pos c23] at H
         have c23b0 : decide (x48_2 < (l0_4.length : Int)) = true := decide_eq_true c23
         clear c23
         replace H := Option.bind_eq_some_iff.mp H
         obtain ⟨t210, A240, H⟩ := H
         replace H : (if t210 = true then (if ((rd_T47 l0_4 x48_2).f1) = a0_0 then (if ((rd_T47 l0_4 x48_2).f2) = a0_1 then (if 0 < (l0_4.length : Int) then (if ((rd_T47 l0_4 x48_2).f0) = ((rd_T47 l0_4 0).f0) then (target_Valid.l0 k2 l0_4 (l0_4.length : Int) (wrap64 (x48_2 + 1)) a0_0 a0_1 a0_2 a0_3 l0_4 l0_5 l0_6) else (some false)) else (none)) else (some false)) else (some false)) else (some false)) = some r := H
         have A24 := Aside0.mk A240; clear A240
         by_cases c25 : t210 = true
         ·subst c25
          have H1 : (if ((rd_T47 l0_4 x48_2).f1) = a0_0 then (if ((rd_T47 l0_4 x48_2).f2) = a0_1 then (if 0 < (l0_4.length : Int) then (if ((rd_T47 l0_4 x48_2).f0) = ((rd_T47 l0_4 0).f0) then (target_Valid.l0 k2 l0_4 (l0_4.length : Int) (wrap64 (x48_2 + 1)) a0_0 a0_1 a0_2 a0_3 l0_4 l0_5 l0_6) else (some false)) else (none)) else (some false)) else (some false)) = some r := by rw [if_pos rfl] at H; exact H
          clear H; have H := H1; clear H1
          by_cases c26 : ((rd_T47 l0_4 x48_2).f1) = a0_0
          ·rw [if_pos c26] at H
           have c26b0 : (((rd_T47 l0_4 x48_2).f1) == a0_0) = true := beq_iff_eq.mpr c26
           have c26b1 : (((rd_T47 l0_4 x48_2).f1) != a0_0) = false := bne_eq_false_iff_eq.mpr c26
           clear c26
           by_cases c27 : ((rd_T47 l0_4 x48_2).f2) = a0_1
           ·rw [if_pos c27] at H
            have c27b0 : (((rd_T47 l0_4 x48_2).f2) == a0_1) = true := beq_iff_eq.mpr c27
            have c27b1 : (((rd_T47 l0_4 x48_2).f2) != a0_1) = false := bne_eq_false_iff_eq.mpr c27
            clear c27
            by_cases c28 : 0 < (l0_4.length : Int)
            ·rw [if_pos c28] at H
             have c28b0 : decide (0 < (l0_4.length : Int)) = true := decide_eq_true c28
             have c28b1 : decide (0 < l0_4.length) = true := decide_eq_true (by omega)
             clear c28
             by_cases c29 : ((rd_T47 l0_4 x48_2).f0) = ((rd_T47 l0_4 0).f0)
             ·rw [if_pos c29] at H
              have c29b0 : (((rd_T47 l0_4 x48_2).f0) == ((rd_T47 l0_4 0).f0)) = true := beq_iff_eq.mpr c29
              have c29b1 : (((rd_T47 l0_4 x48_2).f0) != ((rd_T47 l0_4 0).f0)) = false := bne_eq_false_iff_eq.mpr c29
              clear c29
              have H' := Aside0.mk H
              clear H
              have p208 : 0 ≤ (x48_2 : Int) := of_decide_eq_true (by first | (with_reducible assumption) | assumption)
              have q208 : x48_2 < (l0_4.length : Int) := of_decide_eq_true (by first | (with_reducible assumption) | assumption)
              obtain ⟨ad208, A208_3, c208_3, e208, hx208_0, hx208_1, hx208_2, hx208_3, hl208_3, hi208_3⟩ := at_T47 HR0_4.out x48_2 p208 q208
              cases e208
              replace hx208_0 := (HB.out.cell (World.block_lt_of_cell? w _ hx208_0)).trans hx208_0
              replace hx208_1 := (HB.out.cell (World.block_lt_of_cell? w _ hx208_1)).trans hx208_1
              replace hx208_2 := (HB.out.cell (World.block_lt_of_cell? w _ hx208_2)).trans hx208_2
              replace hx208_3 := (HB.out.cell (World.block_lt_of_cell? w _ hx208_3)).trans hx208_3
              have HR208_3 := Aside0.mk hi208_3; have HC208_3 := Aside0.mk hl208_3; clear hi208_3 hl208_3
              replace p208 := eq_true p208
              replace q208 := eq_true q208
              try go_wp2_with (first | ((with_reducible refine gate_dst (N := 4) rfl ?_); (try (refine gate_guard (by rfl) ?_; dsimp only)); refine box_event ?hg (N := 4) ?hd (cs := #[.int .i64 0, .int .i64 0, .int .i64 0, .slice none 0 0]) (t := 47) ?hr ?_; (case hd => rfl); (case hg => rfl); (case hr => first | (go_simp; done) | (go_simp; rfl)); intro gb209 hg w30 hbox hb; have BK209 := Aside0.mk (hbox); have GW209 := ws HB hg; have GE209 := ws HB hg; have NB205_209 := nl BK205 hg; have NB209_205 := ng BK205 hg; replace BK205 := ub BK205 hb; replace HB := bs HB hb; clear hb hbox hg; have hnb31 := NB209_205.out; have hnc31 := NB205_209.out; have hcz32_0 : w30.cell? ⟨gb209, 0, none⟩ = some (.int .i64 0) := bc BK209 0; have hcz32_1 : w30.cell? ⟨gb209, 1, none⟩ = some (.int .i64 0) := bc BK209 1; have hcz32_2 : w30.cell? ⟨gb209, 2, none⟩ = some (.int .i64 0) := bc BK209 2; have hcz32_3 : w30.cell? ⟨gb209, 3, none⟩ = some (.slice none 0 0) := bc BK209 3; have hfz32_0 := blk_frozen BK209.out 0; have hfz32_1 := blk_frozen BK209.out 1; have hfz32_2 := blk_frozen BK209.out 2; have hfz32_3 := blk_frozen BK209.out 3))
              have n0_ : Aside0 (((((w30.setCell ⟨gb209, 0, none⟩ (.int .i64 ((rd_T47 l0_4 x48_2).f0))).setCell ⟨gb209, 1, none⟩ (.int .i64 ((rd_T47 l0_4 x48_2).f1))).setCell ⟨gb209, 2, none⟩ (.int .i64 ((rd_T47 l0_4 x48_2).f2))).setCell ⟨gb209, 3, none⟩ (.slice A208_3 ((rd_T47 l0_4 x48_2).f3).length c208_3)).heap[gb205]? = some (.cells #[.int .i64 a0_0, .int .i64 a0_1, .int .i64 a0_2, .int .i64 a0_3, .slice (some ad208) l0_4.length c0_4, .slice A0_5 l0_5.length c0_5, .slice A0_6 l0_6.length c0_6] 28 (0, 0))) := ⟨by (with_reducible repeat (first | refine blk_drewN ?_ _ | refine blk_drew ?_ | refine blk_alloc ?_ _)); refine blk_far ?_ NB205_209.out _; (with_reducible repeat (first | refine blk_drewN ?_ _ | refine blk_drew ?_ | refine blk_alloc ?_ _)); refine blk_far ?_ NB205_209.out _; (with_reducible repeat (first | refine blk_drewN ?_ _ | refine blk_drew ?_ | refine blk_alloc ?_ _)); refine blk_far ?_ NB205_209.out _; (with_reducible repeat (first | refine blk_drewN ?_ _ | refine blk_drew ?_ | refine blk_alloc ?_ _)); refine blk_far ?_ NB205_209.out _; (with_reducible repeat (first | refine blk_drewN ?_ _ | refine blk_drew ?_ | refine blk_alloc ?_ _)); exact BK205.out⟩
              have n1_ : Aside0 (((((w30.setCell ⟨gb209, 0, none⟩ (.int .i64 ((rd_T47 l0_4 x48_2).f0))).setCell ⟨gb209, 1, none⟩ (.int .i64 ((rd_T47 l0_4 x48_2).f1))).setCell ⟨gb209, 2, none⟩ (.int .i64 ((rd_T47 l0_4 x48_2).f2))).setCell ⟨gb209, 3, none⟩ (.slice A208_3 ((rd_T47 l0_4 x48_2).f3).length c208_3)).heap[gb209]? = some (.cells #[.int .i64 ((rd_T47 l0_4 x48_2).f0), .int .i64 ((rd_T47 l0_4 x48_2).f1), .int .i64 ((rd_T47 l0_4 x48_2).f2), .slice A208_3 ((rd_T47 l0_4 x48_2).f3).length c208_3] 47 (0, 0))) := ⟨by (with_reducible repeat (first | refine blk_drewN ?_ _ | refine blk_drew ?_ | refine blk_alloc ?_ _)); refine blk_put (cs := #[.int .i64 ((rd_T47 l0_4 x48_2).f0), .int .i64 ((rd_T47 l0_4 x48_2).f1), .int .i64 ((rd_T47 l0_4 x48_2).f2), .slice none 0 0]) ?_ 3 _ rfl; (with_reducible repeat (first | refine blk_drewN ?_ _ | refine blk_drew ?_ | refine blk_alloc ?_ _)); refine blk_put (cs := #[.int .i64 ((rd_T47 l0_4 x48_2).f0), .int .i64 ((rd_T47 l0_4 x48_2).f1), .int .i64 0, .slice none 0 0]) ?_ 2 _ rfl; (with_reducible repeat (first | refine blk_drewN ?_ _ | refine blk_drew ?_ | refine blk_alloc ?_ _)); refine blk_put (cs := #[.int .i64 ((rd_T47 l0_4 x48_2).f0), .int .i64 0, .int .i64 0, .slice none 0 0]) ?_ 1 _ rfl; (with_reducible repeat (first | refine blk_drewN ?_ _ | refine blk_drew ?_ | refine blk_alloc ?_ _)); refine blk_put (cs := #[.int .i64 0, .int .i64 0, .int .i64 0, .slice none 0 0]) ?_ 0 _ rfl; (with_reducible repeat (first | refine blk_drewN ?_ _ | refine blk_drew ?_ | refine blk_alloc ?_ _)); exact BK209.out⟩
              have n2_ : Aside0 (Below w.heap.size w ((((w30.setCell ⟨gb209, 0, none⟩ (.int .i64 ((rd_T47 l0_4 x48_2).f0))).setCell ⟨gb209, 1, none⟩ (.int .i64 ((rd_T47 l0_4 x48_2).f1))).setCell ⟨gb209, 2, none⟩ (.int .i64 ((rd_T47 l0_4 x48_2).f2))).setCell ⟨gb209, 3, none⟩ (.slice A208_3 ((rd_T47 l0_4 x48_2).f3).length c208_3))) := ⟨by repeat (first | (with_reducible first | exact HB.out | apply below_alloc | apply pw_below_drewN | apply below_drew1 | refine below_set ?_ GE205.out | refine below_set ?_ GE209.out) | exact HB.out)⟩
              (try clear BK205); (try clear BK209); (try clear HB)
              generalize ((((w30.setCell ⟨gb209, 0, none⟩ (.int .i64 ((rd_T47 l0_4 x48_2).f0))).setCell ⟨gb209, 1, none⟩ (.int .i64 ((rd_T47 l0_4 x48_2).f1))).setCell ⟨gb209, 2, none⟩ (.int .i64 ((rd_T47 l0_4 x48_2).f2))).setCell ⟨gb209, 3, none⟩ (.slice A208_3 ((rd_T47 l0_4 x48_2).f3).length c208_3)) = w33 at n0_ n1_ n2_ ⊢
              have BK205 := n0_; have BK209 := n1_; have HB := n2_; clear n0_ n1_ n2_; replace BK205 := Aside0.mk (blk_drew BK205.out); replace BK209 := Aside0.mk (blk_drew BK209.out); replace HB := Aside0.mk (below_drew1 HB.out)
              have p211 : 0 ≤ (0 : Int) := (by omega)
              have q211 : 0 < (l0_4.length : Int) := of_decide_eq_true (by first | (with_reducible assumption) | assumption)
              obtain ⟨ad211, A211_3, c211_3, e211, hx211_0, hx211_1, hx211_2, hx211_3, hl211_3, hi211_3⟩ := at_T47 HR0_4.out 0 p211 q211
              have hw211_3 := hx211_3
              (try rw [show ((0 : Int)).toNat = 0 from rfl] at hw211_3)
              (try rw [show 0 * 4 = 0 from rfl] at hw211_3)
              (try rw [Addr.add_zero'] at hw211_3)
              have hw211_2 := hx211_2
              (try rw [show ((0 : Int)).toNat = 0 from rfl] at hw211_2)
              (try rw [show 0 * 4 = 0 from rfl] at hw211_2)
              (try rw [Addr.add_zero'] at hw211_2)
              have hw211_1 := hx211_1
              (try rw [show ((0 : Int)).toNat = 0 from rfl] at hw211_1)
              (try rw [show 0 * 4 = 0 from rfl] at hw211_1)
              (try rw [Addr.add_zero'] at hw211_1)
              have hw211_0 := hx211_0
              (try rw [show ((0 : Int)).toNat = 0 from rfl] at hw211_0)
              (try rw [show 0 * 4 = 0 from rfl] at hw211_0)
              (try rw [Addr.add_zero'] at hw211_0)
              obtain rfl : ad208 = ad211 := (by injection e211)
              have qi211 : (0 < l0_4.length) = True := eq_true (by omega)
              (try rw [show ((0 : Int)).toNat = 0 from rfl] at hx211_0)
              (try rw [show 0 * 4 = 0 from rfl] at hx211_0)
              (try rw [Addr.add_zero'] at hx211_0)
              (try rw [show ((0 : Int)).toNat = 0 from rfl] at hx211_1)
              (try rw [show 0 * 4 = 0 from rfl] at hx211_1)
              (try rw [Addr.add_zero'] at hx211_1)
              (try rw [show ((0 : Int)).toNat = 0 from rfl] at hx211_2)
              (try rw [show 0 * 4 = 0 from rfl] at hx211_2)
              (try rw [Addr.add_zero'] at hx211_2)
              (try rw [show ((0 : Int)).toNat = 0 from rfl] at hx211_3)
              (try rw [show 0 * 4 = 0 from rfl] at hx211_3)
              (try rw [Addr.add_zero'] at hx211_3)
              replace hx211_0 := (HB.out.cell (World.block_lt_of_cell? w _ hx211_0)).trans hx211_0
              replace hx211_1 := (HB.out.cell (World.block_lt_of_cell? w _ hx211_1)).trans hx211_1
              replace hx211_2 := (HB.out.cell (World.block_lt_of_cell? w _ hx211_2)).trans hx211_2
              replace hx211_3 := (HB.out.cell (World.block_lt_of_cell? w _ hx211_3)).trans hx211_3
              have HR211_3 := Aside0.mk hi211_3; have HC211_3 := Aside0.mk hl211_3; clear hi211_3 hl211_3
              replace p211 := eq_true p211
              replace q211 := eq_true q211
              refine start_ (n := 27) (S := fun w' => w'.cell? ⟨gb209, 0, none⟩ = some (.int .i64 ((rd_T47 l0_4 x48_2).f0)) ∧ w'.cell? ⟨gb209, 1, none⟩ = some (.int .i64 ((rd_T47 l0_4 x48_2).f1)) ∧ w'.cell? ⟨gb209, 2, none⟩ = some (.int .i64 ((rd_T47 l0_4 x48_2).f2)) ∧ w'.cell? ⟨gb209, 3, none⟩ = some (.slice A208_3 ((rd_T47 l0_4 x48_2).f3).length c208_3) ∧ w'.cell? ⟨gb205, 0, none⟩ = some (.int .i64 a0_0) ∧ w'.cell? ⟨gb205, 1, none⟩ = some (.int .i64 a0_1) ∧ w'.cell? ⟨gb205, 2, none⟩ = some (.int .i64 a0_2) ∧ w'.cell? ⟨gb205, 3, none⟩ = some (.int .i64 a0_3) ∧ w'.cell? ⟨gb205, 4, none⟩ = some (.slice (some ad208) l0_4.length c0_4) ∧ w'.cell? ⟨gb205, 5, none⟩ = some (.slice A0_5 l0_5.length c0_5) ∧ w'.cell? ⟨gb205, 6, none⟩ = some (.slice A0_6 l0_6.length c0_6) ∧ w'.cell? ad208 = some (.int .i64 ((rd_T47 l0_4 0).f0)) ∧ w'.cell? ⟨ad208.block, ad208.off + 1, none⟩ = some (.int .i64 ((rd_T47 l0_4 0).f1)) ∧ w'.cell? ⟨ad208.block, ad208.off + 2, none⟩ = some (.int .i64 ((rd_T47 l0_4 0).f2)) ∧ w'.cell? ⟨ad208.block, ad208.off + 3, none⟩ = some (.slice A211_3 ((rd_T47 l0_4 0).f3).length c211_3)) (ds := []) #[false, false, false, false, false, false, false, false, false, false, false, false, false, false, false, false, false, false, false, false, false, false, false, false, false, false, false] (by kernel_rfl) rfl rfl ⟨bc BK209 0, bc BK209 1, bc BK209 2, bc BK209 3, bc BK205 0, bc BK205 1, bc BK205 2, bc BK205 3, bc BK205 4, bc BK205 5, bc BK205 6, ((HB.out.cell (World.block_lt_of_cell? w _ hw211_0)).trans hw211_0), ((HB.out.cell (World.block_lt_of_cell? w _ hw211_1)).trans hw211_1), ((HB.out.cell (World.block_lt_of_cell? w _ hw211_2)).trans hw211_2), ((HB.out.cell (World.block_lt_of_cell? w _ hw211_3)).trans hw211_3)⟩ (fun hHeld => ?_); refine with_tabW target_Valid.tab6 target_Valid.bits6 (fun HT_ HW_ => ?_)
              generalize w33.drew = w34 at BK205 BK209 HB HR211_3 hx211_0 hx211_1 hx211_2 hx211_3 hHeld ⊢
              refine tk HT_ HW_ hHeld 0 (some 52) rfl (by rintro w' ⟨s0, s1, s2, s3, s4, s5, s6, s7, s8, s9, s10, s11, s12, s13, s14⟩; go_simp; with_reducible rfl) ?_
              refine one_ (i := 1) (N := some 53) #[true, true, false, false, false, false, false, false, false, false, false, false, false, false, false, false, false, false, false, false, false, false, false, false, false, false, false] rfl rfl (one_of HT_.out (by kernel_rfl)) (by decide) (fun K hK => ?_)
              refine goes_ Try.func29 (by kernel_rfl) rfl #[.agg #[.int .i64 ((rd_T47 l0_4 x48_2).f0), .int .i64 ((rd_T47 l0_4 x48_2).f1), .int .i64 ((rd_T47 l0_4 x48_2).f2), .slice A208_3 ((rd_T47 l0_4 x48_2).f3).length c208_3]] (by rfl) rfl rfl (by (try simp only [List.map_toArray, List.map_cons, List.map_nil]); first | done | rfl | (simp only [List.length_drop, List.length_take]; rfl)) ?_
              with_reducible refine (image_Valid.calls k2 ((rd_T47 l0_4 x48_2).f0) ((rd_T47 l0_4 x48_2).f1) ((rd_T47 l0_4 x48_2).f2) _ _ ((rd_T47 l0_4 x48_2).f3) true _ ?side1 ?side2 A24.out).mono ?_
              (case side1 => repeat (first | exact (Kd.C_below HR208_3.out HB.out) | (with_reducible refine Kd.C_alloc ?_ _) | (with_reducible refine Kd.C_drewN ?_ _) | (with_reducible refine Kd.C_drew ?_)))
              (case side2 => exact HC208_3.out)
              rintro e w35 ⟨rfl, hb⟩; refine ⟨_, rfl, ?_⟩; replace BK205 := ub BK205 hb; replace BK209 := ub BK209 hb; replace HB := bs HB hb; (try clear hb); (try clear hb2); (try clear hk); (try clear hi)
              refine hK.out _ _ ⟨bc BK209 0, bc BK209 1, bc BK209 2, bc BK209 3, bc BK205 0, bc BK205 1, bc BK205 2, bc BK205 3, bc BK205 4, bc BK205 5, bc BK205 6, ((HB.out.cell (World.block_lt_of_cell? w _ hw211_0)).trans hw211_0), ((HB.out.cell (World.block_lt_of_cell? w _ hw211_1)).trans hw211_1), ((HB.out.cell (World.block_lt_of_cell? w _ hw211_2)).trans hw211_2), ((HB.out.cell (World.block_lt_of_cell? w _ hw211_3)).trans hw211_3)⟩ (fun hHeld => ?_)
              clear hK K
              refine norm_ (a' := ?_) ?_ ?_
              rotate_left
              ·show Act.put _ (some 53) _ = _
               simp only [Act.put, List.setIfInBounds_toArray, List.set_cons_zero, List.set_cons_succ, i64_w, i32_w]
               rfl
              refine on HT_ 2 (some 54) ?_
              refine on HT_ 3 (some 55) ?_
              refine on HT_ 4 (some 56) ?_
              refine on HT_ 6 (some 58) ?_
              refine tk HT_ HW_ hHeld 5 (some 57) rfl (by rintro w' ⟨s0, s1, s2, s3, s4, s5, s6, s7, s8, s9, s10, s11, s12, s13, s14⟩; go_simp; with_reducible rfl) ?_
              refine tk HT_ HW_ hHeld 7 (some 59) rfl (by rintro w' ⟨s0, s1, s2, s3, s4, s5, s6, s7, s8, s9, s10, s11, s12, s13, s14⟩; go_simp; with_reducible rfl) ?_
              refine on HT_ 8 (some 60) ?_
              refine on HT_ 9 (some 61) ?_
              refine on HT_ 10 (some 62) ?_
              refine on HT_ 11 (some 63) ?_
              refine on HT_ 13 (some 65) ?_
              refine tk HT_ HW_ hHeld 12 (some 64) rfl (by rintro w' ⟨s0, s1, s2, s3, s4, s5, s6, s7, s8, s9, s10, s11, s12, s13, s14⟩; go_simp; with_reducible rfl) ?_
              refine tk HT_ HW_ hHeld 14 (some 66) rfl (by rintro w' ⟨s0, s1, s2, s3, s4, s5, s6, s7, s8, s9, s10, s11, s12, s13, s14⟩; go_simp; with_reducible rfl) ?_
              refine on HT_ 15 (some 67) ?_
              refine on HT_ 16 (some 68) ?_
              refine on HT_ 17 (some 69) ?_
              refine on HT_ 18 (some 70) ?_
              refine on HT_ 20 (some 72) ?_
              refine tk HT_ HW_ hHeld 19 (some 71) rfl (by rintro w' ⟨s0, s1, s2, s3, s4, s5, s6, s7, s8, s9, s10, s11, s12, s13, s14⟩; go_simp; with_reducible rfl) ?_
              refine tk HT_ HW_ hHeld 21 (some 73) rfl (by rintro w' ⟨s0, s1, s2, s3, s4, s5, s6, s7, s8, s9, s10, s11, s12, s13, s14⟩; go_simp; with_reducible rfl) ?_
              refine on HT_ 22 (some 74) ?_
              refine on HT_ 23 (some 75) ?_
              refine tk HT_ HW_ hHeld 24 (some 76) rfl (by rintro w' ⟨s0, s1, s2, s3, s4, s5, s6, s7, s8, s9, s10, s11, s12, s13, s14⟩; go_simp; with_reducible rfl) ?_
              refine on HT_ 25 (some 77) ?_
              refine on HT_ 26 (some 78) ?_
              refine done_ (done_of HT_.out (by kernel_rfl)) ?_
              try go_wp2
              go_roundg k2
              case measure => have := HJ1.out; have := HK2.out; omega
              case rel => exact ⟨(wrap64 (x48_2 + 1)), (by first | rfl | (simp; done) | (simp [*]; done)), H', ⟨by have := HJ1.out; have := HK2.out; omega⟩, ⟨by (with_reducible repeat (first | refine blk_drewN ?_ _ | refine blk_drew ?_ | refine blk_alloc ?_ _)); exact BK205.out⟩, ⟨by repeat (first | (with_reducible first | exact HB.out | apply below_alloc | apply pw_below_drewN | apply below_drew1 | refine below_set ?_ GE205.out | refine below_set ?_ GE209.out) | exact HB.out)⟩⟩
             ·rw [if_neg c29] at H
              have c29b0 : (((rd_T47 l0_4 x48_2).f0) == ((rd_T47 l0_4 0).f0)) = false := beq_eq_false_iff_ne.mpr c29
              have c29b1 : (((rd_T47 l0_4 x48_2).f0) != ((rd_T47 l0_4 0).f0)) = true := bne_iff_ne.mpr c29
              obtain rfl := Option.some.inj H
              have p208 : 0 ≤ (x48_2 : Int) := of_decide_eq_true (by first | (with_reducible assumption) | assumption)
              have q208 : x48_2 < (l0_4.length : Int) := of_decide_eq_true (by first | (with_reducible assumption) | assumption)
              obtain ⟨ad208, A208_3, c208_3, e208, hx208_0, hx208_1, hx208_2, hx208_3, hl208_3, hi208_3⟩ := at_T47 HR0_4.out x48_2 p208 q208
              cases e208
              replace hx208_0 := (HB.out.cell (World.block_lt_of_cell? w _ hx208_0)).trans hx208_0
              replace hx208_1 := (HB.out.cell (World.block_lt_of_cell? w _ hx208_1)).trans hx208_1
              replace hx208_2 := (HB.out.cell (World.block_lt_of_cell? w _ hx208_2)).trans hx208_2
              replace hx208_3 := (HB.out.cell (World.block_lt_of_cell? w _ hx208_3)).trans hx208_3
              have HR208_3 := Aside0.mk hi208_3; have HC208_3 := Aside0.mk hl208_3; clear hi208_3 hl208_3
              replace p208 := eq_true p208
              replace q208 := eq_true q208
              try go_wp2_with (first | ((with_reducible refine gate_dst (N := 4) rfl ?_); (try (refine gate_guard (by rfl) ?_; dsimp only)); refine box_event ?hg (N := 4) ?hd (cs := #[.int .i64 0, .int .i64 0, .int .i64 0, .slice none 0 0]) (t := 47) ?hr ?_; (case hd => rfl); (case hg => rfl); (case hr => first | (go_simp; done) | (go_simp; rfl)); intro gb209 hg w36 hbox hb; have BK209 := Aside0.mk (hbox); have GW209 := ws HB hg; have GE209 := ws HB hg; have NB205_209 := nl BK205 hg; have NB209_205 := ng BK205 hg; replace BK205 := ub BK205 hb; replace HB := bs HB hb; clear hb hbox hg; have hnb37 := NB209_205.out; have hnc37 := NB205_209.out; have hcz38_0 : w36.cell? ⟨gb209, 0, none⟩ = some (.int .i64 0) := bc BK209 0; have hcz38_1 : w36.cell? ⟨gb209, 1, none⟩ = some (.int .i64 0) := bc BK209 1; have hcz38_2 : w36.cell? ⟨gb209, 2, none⟩ = some (.int .i64 0) := bc BK209 2; have hcz38_3 : w36.cell? ⟨gb209, 3, none⟩ = some (.slice none 0 0) := bc BK209 3; have hfz38_0 := blk_frozen BK209.out 0; have hfz38_1 := blk_frozen BK209.out 1; have hfz38_2 := blk_frozen BK209.out 2; have hfz38_3 := blk_frozen BK209.out 3))
              have n0_ : Aside0 (((((w36.setCell ⟨gb209, 0, none⟩ (.int .i64 ((rd_T47 l0_4 x48_2).f0))).setCell ⟨gb209, 1, none⟩ (.int .i64 ((rd_T47 l0_4 x48_2).f1))).setCell ⟨gb209, 2, none⟩ (.int .i64 ((rd_T47 l0_4 x48_2).f2))).setCell ⟨gb209, 3, none⟩ (.slice A208_3 ((rd_T47 l0_4 x48_2).f3).length c208_3)).heap[gb205]? = some (.cells #[.int .i64 a0_0, .int .i64 a0_1, .int .i64 a0_2, .int .i64 a0_3, .slice (some ad208) l0_4.length c0_4, .slice A0_5 l0_5.length c0_5, .slice A0_6 l0_6.length c0_6] 28 (0, 0))) := ⟨by (with_reducible repeat (first | refine blk_drewN ?_ _ | refine blk_drew ?_ | refine blk_alloc ?_ _)); refine blk_far ?_ NB205_209.out _; (with_reducible repeat (first | refine blk_drewN ?_ _ | refine blk_drew ?_ | refine blk_alloc ?_ _)); refine blk_far ?_ NB205_209.out _; (with_reducible repeat (first | refine blk_drewN ?_ _ | refine blk_drew ?_ | refine blk_alloc ?_ _)); refine blk_far ?_ NB205_209.out _; (with_reducible repeat (first | refine blk_drewN ?_ _ | refine blk_drew ?_ | refine blk_alloc ?_ _)); refine blk_far ?_ NB205_209.out _; (with_reducible repeat (first | refine blk_drewN ?_ _ | refine blk_drew ?_ | refine blk_alloc ?_ _)); exact BK205.out⟩
              have n1_ : Aside0 (((((w36.setCell ⟨gb209, 0, none⟩ (.int .i64 ((rd_T47 l0_4 x48_2).f0))).setCell ⟨gb209, 1, none⟩ (.int .i64 ((rd_T47 l0_4 x48_2).f1))).setCell ⟨gb209, 2, none⟩ (.int .i64 ((rd_T47 l0_4 x48_2).f2))).setCell ⟨gb209, 3, none⟩ (.slice A208_3 ((rd_T47 l0_4 x48_2).f3).length c208_3)).heap[gb209]? = some (.cells #[.int .i64 ((rd_T47 l0_4 x48_2).f0), .int .i64 ((rd_T47 l0_4 x48_2).f1), .int .i64 ((rd_T47 l0_4 x48_2).f2), .slice A208_3 ((rd_T47 l0_4 x48_2).f3).length c208_3] 47 (0, 0))) := ⟨by (with_reducible repeat (first | refine blk_drewN ?_ _ | refine blk_drew ?_ | refine blk_alloc ?_ _)); refine blk_put (cs := #[.int .i64 ((rd_T47 l0_4 x48_2).f0), .int .i64 ((rd_T47 l0_4 x48_2).f1), .int .i64 ((rd_T47 l0_4 x48_2).f2), .slice none 0 0]) ?_ 3 _ rfl; (with_reducible repeat (first | refine blk_drewN ?_ _ | refine blk_drew ?_ | refine blk_alloc ?_ _)); refine blk_put (cs := #[.int .i64 ((rd_T47 l0_4 x48_2).f0), .int .i64 ((rd_T47 l0_4 x48_2).f1), .int .i64 0, .slice none 0 0]) ?_ 2 _ rfl; (with_reducible repeat (first | refine blk_drewN ?_ _ | refine blk_drew ?_ | refine blk_alloc ?_ _)); refine blk_put (cs := #[.int .i64 ((rd_T47 l0_4 x48_2).f0), .int .i64 0, .int .i64 0, .slice none 0 0]) ?_ 1 _ rfl; (with_reducible repeat (first | refine blk_drewN ?_ _ | refine blk_drew ?_ | refine blk_alloc ?_ _)); refine blk_put (cs := #[.int .i64 0, .int .i64 0, .int .i64 0, .slice none 0 0]) ?_ 0 _ rfl; (with_reducible repeat (first | refine blk_drewN ?_ _ | refine blk_drew ?_ | refine blk_alloc ?_ _)); exact BK209.out⟩
              have n2_ : Aside0 (Below w.heap.size w ((((w36.setCell ⟨gb209, 0, none⟩ (.int .i64 ((rd_T47 l0_4 x48_2).f0))).setCell ⟨gb209, 1, none⟩ (.int .i64 ((rd_T47 l0_4 x48_2).f1))).setCell ⟨gb209, 2, none⟩ (.int .i64 ((rd_T47 l0_4 x48_2).f2))).setCell ⟨gb209, 3, none⟩ (.slice A208_3 ((rd_T47 l0_4 x48_2).f3).length c208_3))) := ⟨by repeat (first | (with_reducible first | exact HB.out | apply below_alloc | apply pw_below_drewN | apply below_drew1 | refine below_set ?_ GE205.out | refine below_set ?_ GE209.out) | exact HB.out)⟩
              (try clear BK205); (try clear BK209); (try clear HB)
              generalize ((((w36.setCell ⟨gb209, 0, none⟩ (.int .i64 ((rd_T47 l0_4 x48_2).f0))).setCell ⟨gb209, 1, none⟩ (.int .i64 ((rd_T47 l0_4 x48_2).f1))).setCell ⟨gb209, 2, none⟩ (.int .i64 ((rd_T47 l0_4 x48_2).f2))).setCell ⟨gb209, 3, none⟩ (.slice A208_3 ((rd_T47 l0_4 x48_2).f3).length c208_3)) = w39 at n0_ n1_ n2_ ⊢
              have BK205 := n0_; have BK209 := n1_; have HB := n2_; clear n0_ n1_ n2_; replace BK205 := Aside0.mk (blk_drew BK205.out); replace BK209 := Aside0.mk (blk_drew BK209.out); replace HB := Aside0.mk (below_drew1 HB.out)
              have p211 : 0 ≤ (0 : Int) := (by omega)
              have q211 : 0 < (l0_4.length : Int) := of_decide_eq_true (by first | (with_reducible assumption) | assumption)
              obtain ⟨ad211, A211_3, c211_3, e211, hx211_0, hx211_1, hx211_2, hx211_3, hl211_3, hi211_3⟩ := at_T47 HR0_4.out 0 p211 q211
              have hw211_3 := hx211_3
              (try rw [show ((0 : Int)).toNat = 0 from rfl] at hw211_3)
              (try rw [show 0 * 4 = 0 from rfl] at hw211_3)
              (try rw [Addr.add_zero'] at hw211_3)
              have hw211_2 := hx211_2
              (try rw [show ((0 : Int)).toNat = 0 from rfl] at hw211_2)
              (try rw [show 0 * 4 = 0 from rfl] at hw211_2)
              (try rw [Addr.add_zero'] at hw211_2)
              have hw211_1 := hx211_1
              (try rw [show ((0 : Int)).toNat = 0 from rfl] at hw211_1)
              (try rw [show 0 * 4 = 0 from rfl] at hw211_1)
              (try rw [Addr.add_zero'] at hw211_1)
              have hw211_0 := hx211_0
              (try rw [show ((0 : Int)).toNat = 0 from rfl] at hw211_0)
              (try rw [show 0 * 4 = 0 from rfl] at hw211_0)
              (try rw [Addr.add_zero'] at hw211_0)
              obtain rfl : ad208 = ad211 := (by injection e211)
              have qi211 : (0 < l0_4.length) = True := eq_true (by omega)
              (try rw [show ((0 : Int)).toNat = 0 from rfl] at hx211_0)
              (try rw [show 0 * 4 = 0 from rfl] at hx211_0)
              (try rw [Addr.add_zero'] at hx211_0)
              (try rw [show ((0 : Int)).toNat = 0 from rfl] at hx211_1)
              (try rw [show 0 * 4 = 0 from rfl] at hx211_1)
              (try rw [Addr.add_zero'] at hx211_1)
              (try rw [show ((0 : Int)).toNat = 0 from rfl] at hx211_2)
              (try rw [show 0 * 4 = 0 from rfl] at hx211_2)
              (try rw [Addr.add_zero'] at hx211_2)
              (try rw [show ((0 : Int)).toNat = 0 from rfl] at hx211_3)
              (try rw [show 0 * 4 = 0 from rfl] at hx211_3)
              (try rw [Addr.add_zero'] at hx211_3)
              replace hx211_0 := (HB.out.cell (World.block_lt_of_cell? w _ hx211_0)).trans hx211_0
              replace hx211_1 := (HB.out.cell (World.block_lt_of_cell? w _ hx211_1)).trans hx211_1
              replace hx211_2 := (HB.out.cell (World.block_lt_of_cell? w _ hx211_2)).trans hx211_2
              replace hx211_3 := (HB.out.cell (World.block_lt_of_cell? w _ hx211_3)).trans hx211_3
              have HR211_3 := Aside0.mk hi211_3; have HC211_3 := Aside0.mk hl211_3; clear hi211_3 hl211_3
              replace p211 := eq_true p211
              replace q211 := eq_true q211
              refine start_ (n := 27) (S := fun w' => w'.cell? ⟨gb209, 0, none⟩ = some (.int .i64 ((rd_T47 l0_4 x48_2).f0)) ∧ w'.cell? ⟨gb209, 1, none⟩ = some (.int .i64 ((rd_T47 l0_4 x48_2).f1)) ∧ w'.cell? ⟨gb209, 2, none⟩ = some (.int .i64 ((rd_T47 l0_4 x48_2).f2)) ∧ w'.cell? ⟨gb209, 3, none⟩ = some (.slice A208_3 ((rd_T47 l0_4 x48_2).f3).length c208_3) ∧ w'.cell? ⟨gb205, 0, none⟩ = some (.int .i64 a0_0) ∧ w'.cell? ⟨gb205, 1, none⟩ = some (.int .i64 a0_1) ∧ w'.cell? ⟨gb205, 2, none⟩ = some (.int .i64 a0_2) ∧ w'.cell? ⟨gb205, 3, none⟩ = some (.int .i64 a0_3) ∧ w'.cell? ⟨gb205, 4, none⟩ = some (.slice (some ad208) l0_4.length c0_4) ∧ w'.cell? ⟨gb205, 5, none⟩ = some (.slice A0_5 l0_5.length c0_5) ∧ w'.cell? ⟨gb205, 6, none⟩ = some (.slice A0_6 l0_6.length c0_6) ∧ w'.cell? ad208 = some (.int .i64 ((rd_T47 l0_4 0).f0)) ∧ w'.cell? ⟨ad208.block, ad208.off + 1, none⟩ = some (.int .i64 ((rd_T47 l0_4 0).f1)) ∧ w'.cell? ⟨ad208.block, ad208.off + 2, none⟩ = some (.int .i64 ((rd_T47 l0_4 0).f2)) ∧ w'.cell? ⟨ad208.block, ad208.off + 3, none⟩ = some (.slice A211_3 ((rd_T47 l0_4 0).f3).length c211_3)) (ds := []) #[false, false, false, false, false, false, false, false, false, false, false, false, false, false, false, false, false, false, false, false, false, false, false, false, false, false, false] (by kernel_rfl) rfl rfl ⟨bc BK209 0, bc BK209 1, bc BK209 2, bc BK209 3, bc BK205 0, bc BK205 1, bc BK205 2, bc BK205 3, bc BK205 4, bc BK205 5, bc BK205 6, ((HB.out.cell (World.block_lt_of_cell? w _ hw211_0)).trans hw211_0), ((HB.out.cell (World.block_lt_of_cell? w _ hw211_1)).trans hw211_1), ((HB.out.cell (World.block_lt_of_cell? w _ hw211_2)).trans hw211_2), ((HB.out.cell (World.block_lt_of_cell? w _ hw211_3)).trans hw211_3)⟩ (fun hHeld => ?_); refine with_tabW target_Valid.tab6 target_Valid.bits6 (fun HT_ HW_ => ?_)
              generalize w39.drew = w40 at BK205 BK209 HB HR211_3 hx211_0 hx211_1 hx211_2 hx211_3 hHeld ⊢
              refine tk HT_ HW_ hHeld 0 (some 52) rfl (by rintro w' ⟨s0, s1, s2, s3, s4, s5, s6, s7, s8, s9, s10, s11, s12, s13, s14⟩; go_simp; with_reducible rfl) ?_
              refine one_ (i := 1) (N := some 53) #[true, true, false, false, false, false, false, false, false, false, false, false, false, false, false, false, false, false, false, false, false, false, false, false, false, false, false] rfl rfl (one_of HT_.out (by kernel_rfl)) (by decide) (fun K hK => ?_)
              refine goes_ Try.func29 (by kernel_rfl) rfl #[.agg #[.int .i64 ((rd_T47 l0_4 x48_2).f0), .int .i64 ((rd_T47 l0_4 x48_2).f1), .int .i64 ((rd_T47 l0_4 x48_2).f2), .slice A208_3 ((rd_T47 l0_4 x48_2).f3).length c208_3]] (by rfl) rfl rfl (by (try simp only [List.map_toArray, List.map_cons, List.map_nil]); first | done | rfl | (simp only [List.length_drop, List.length_take]; rfl)) ?_
              with_reducible refine (image_Valid.calls k2 ((rd_T47 l0_4 x48_2).f0) ((rd_T47 l0_4 x48_2).f1) ((rd_T47 l0_4 x48_2).f2) _ _ ((rd_T47 l0_4 x48_2).f3) true _ ?side1 ?side2 A24.out).mono ?_
              (case side1 => repeat (first | exact (Kd.C_below HR208_3.out HB.out) | (with_reducible refine Kd.C_alloc ?_ _) | (with_reducible refine Kd.C_drewN ?_ _) | (with_reducible refine Kd.C_drew ?_)))
              (case side2 => exact HC208_3.out)
              rintro e w41 ⟨rfl, hb⟩; refine ⟨_, rfl, ?_⟩; replace BK205 := ub BK205 hb; replace BK209 := ub BK209 hb; replace HB := bs HB hb; (try clear hb); (try clear hb2); (try clear hk); (try clear hi)
              refine hK.out _ _ ⟨bc BK209 0, bc BK209 1, bc BK209 2, bc BK209 3, bc BK205 0, bc BK205 1, bc BK205 2, bc BK205 3, bc BK205 4, bc BK205 5, bc BK205 6, ((HB.out.cell (World.block_lt_of_cell? w _ hw211_0)).trans hw211_0), ((HB.out.cell (World.block_lt_of_cell? w _ hw211_1)).trans hw211_1), ((HB.out.cell (World.block_lt_of_cell? w _ hw211_2)).trans hw211_2), ((HB.out.cell (World.block_lt_of_cell? w _ hw211_3)).trans hw211_3)⟩ (fun hHeld => ?_)
              clear hK K
              refine norm_ (a' := ?_) ?_ ?_
              rotate_left
              ·show Act.put _ (some 53) _ = _
               simp only [Act.put, List.setIfInBounds_toArray, List.set_cons_zero, List.set_cons_succ, i64_w, i32_w]
               rfl
              refine on HT_ 2 (some 54) ?_
              refine on HT_ 3 (some 55) ?_
              refine on HT_ 4 (some 56) ?_
              refine on HT_ 6 (some 58) ?_
              refine tk HT_ HW_ hHeld 5 (some 57) rfl (by rintro w' ⟨s0, s1, s2, s3, s4, s5, s6, s7, s8, s9, s10, s11, s12, s13, s14⟩; go_simp; with_reducible rfl) ?_
              refine tk HT_ HW_ hHeld 7 (some 59) rfl (by rintro w' ⟨s0, s1, s2, s3, s4, s5, s6, s7, s8, s9, s10, s11, s12, s13, s14⟩; go_simp; with_reducible rfl) ?_
              refine on HT_ 8 (some 60) ?_
              refine on HT_ 9 (some 61) ?_
              refine on HT_ 10 (some 62) ?_
              refine on HT_ 11 (some 63) ?_
              refine on HT_ 13 (some 65) ?_
              refine tk HT_ HW_ hHeld 12 (some 64) rfl (by rintro w' ⟨s0, s1, s2, s3, s4, s5, s6, s7, s8, s9, s10, s11, s12, s13, s14⟩; go_simp; with_reducible rfl) ?_
              refine tk HT_ HW_ hHeld 14 (some 66) rfl (by rintro w' ⟨s0, s1, s2, s3, s4, s5, s6, s7, s8, s9, s10, s11, s12, s13, s14⟩; go_simp; with_reducible rfl) ?_
              refine on HT_ 15 (some 67) ?_
              refine on HT_ 16 (some 68) ?_
              refine on HT_ 17 (some 69) ?_
              refine on HT_ 18 (some 70) ?_
              refine on HT_ 20 (some 72) ?_
              refine tk HT_ HW_ hHeld 19 (some 71) rfl (by rintro w' ⟨s0, s1, s2, s3, s4, s5, s6, s7, s8, s9, s10, s11, s12, s13, s14⟩; go_simp; with_reducible rfl) ?_
              refine tk HT_ HW_ hHeld 21 (some 73) rfl (by rintro w' ⟨s0, s1, s2, s3, s4, s5, s6, s7, s8, s9, s10, s11, s12, s13, s14⟩; go_simp; with_reducible rfl) ?_
              refine on HT_ 22 (some 74) ?_
              refine on HT_ 23 (some 75) ?_
              refine tk HT_ HW_ hHeld 24 (some 76) rfl (by rintro w' ⟨s0, s1, s2, s3, s4, s5, s6, s7, s8, s9, s10, s11, s12, s13, s14⟩; go_simp; with_reducible rfl) ?_
              refine on HT_ 25 (some 77) ?_
              refine on HT_ 26 (some 78) ?_
              refine done_ (done_of HT_.out (by kernel_rfl)) ?_
              try go_wp2
              go_ret
              exact ⟨by first | rfl | (simp [errW_none, errW_some] <;> rfl) | (simp [*, errW_none, errW_some] <;> rfl), by repeat (first | (with_reducible first | exact HB.out | apply below_alloc | apply pw_below_drewN | apply below_drew1 | refine below_set ?_ GE205.out | refine below_set ?_ GE209.out) | exact HB.out)⟩
            ·rw [if_neg c28] at H
             exact absurd H (by simp)
           ·rw [if_neg c27] at H
            have c27b0 : (((rd_T47 l0_4 x48_2).f2) == a0_1) = false := beq_eq_false_iff_ne.mpr c27
            have c27b1 : (((rd_T47 l0_4 x48_2).f2) != a0_1) = true := bne_iff_ne.mpr c27
            obtain rfl := Option.some.inj H
            have p208 : 0 ≤ (x48_2 : Int) := of_decide_eq_true (by first | (with_reducible assumption) | assumption)
            have q208 : x48_2 < (l0_4.length : Int) := of_decide_eq_true (by first | (with_reducible assumption) | assumption)
            obtain ⟨ad208, A208_3, c208_3, e208, hx208_0, hx208_1, hx208_2, hx208_3, hl208_3, hi208_3⟩ := at_T47 HR0_4.out x48_2 p208 q208
            cases e208
            replace hx208_0 := (HB.out.cell (World.block_lt_of_cell? w _ hx208_0)).trans hx208_0
            replace hx208_1 := (HB.out.cell (World.block_lt_of_cell? w _ hx208_1)).trans hx208_1
            replace hx208_2 := (HB.out.cell (World.block_lt_of_cell? w _ hx208_2)).trans hx208_2
            replace hx208_3 := (HB.out.cell (World.block_lt_of_cell? w _ hx208_3)).trans hx208_3
            have HR208_3 := Aside0.mk hi208_3; have HC208_3 := Aside0.mk hl208_3; clear hi208_3 hl208_3
            replace p208 := eq_true p208
            replace q208 := eq_true q208
            try go_wp2_with (first | ((with_reducible refine gate_dst (N := 4) rfl ?_); (try (refine gate_guard (by rfl) ?_; dsimp only)); refine box_event ?hg (N := 4) ?hd (cs := #[.int .i64 0, .int .i64 0, .int .i64 0, .slice none 0 0]) (t := 47) ?hr ?_; (case hd => rfl); (case hg => rfl); (case hr => first | (go_simp; done) | (go_simp; rfl)); intro gb209 hg w42 hbox hb; have BK209 := Aside0.mk (hbox); have GW209 := ws HB hg; have GE209 := ws HB hg; have NB205_209 := nl BK205 hg; have NB209_205 := ng BK205 hg; replace BK205 := ub BK205 hb; replace HB := bs HB hb; clear hb hbox hg; have hnb43 := NB209_205.out; have hnc43 := NB205_209.out; have hcz44_0 : w42.cell? ⟨gb209, 0, none⟩ = some (.int .i64 0) := bc BK209 0; have hcz44_1 : w42.cell? ⟨gb209, 1, none⟩ = some (.int .i64 0) := bc BK209 1; have hcz44_2 : w42.cell? ⟨gb209, 2, none⟩ = some (.int .i64 0) := bc BK209 2; have hcz44_3 : w42.cell? ⟨gb209, 3, none⟩ = some (.slice none 0 0) := bc BK209 3; have hfz44_0 := blk_frozen BK209.out 0; have hfz44_1 := blk_frozen BK209.out 1; have hfz44_2 := blk_frozen BK209.out 2; have hfz44_3 := blk_frozen BK209.out 3))
            have n0_ : Aside0 (((((w42.setCell ⟨gb209, 0, none⟩ (.int .i64 ((rd_T47 l0_4 x48_2).f0))).setCell ⟨gb209, 1, none⟩ (.int .i64 ((rd_T47 l0_4 x48_2).f1))).setCell ⟨gb209, 2, none⟩ (.int .i64 ((rd_T47 l0_4 x48_2).f2))).setCell ⟨gb209, 3, none⟩ (.slice A208_3 ((rd_T47 l0_4 x48_2).f3).length c208_3)).heap[gb205]? = some (.cells #[.int .i64 a0_0, .int .i64 a0_1, .int .i64 a0_2, .int .i64 a0_3, .slice (some ad208) l0_4.length c0_4, .slice A0_5 l0_5.length c0_5, .slice A0_6 l0_6.length c0_6] 28 (0, 0))) := ⟨by (with_reducible repeat (first | refine blk_drewN ?_ _ | refine blk_drew ?_ | refine blk_alloc ?_ _)); refine blk_far ?_ NB205_209.out _; (with_reducible repeat (first | refine blk_drewN ?_ _ | refine blk_drew ?_ | refine blk_alloc ?_ _)); refine blk_far ?_ NB205_209.out _; (with_reducible repeat (first | refine blk_drewN ?_ _ | refine blk_drew ?_ | refine blk_alloc ?_ _)); refine blk_far ?_ NB205_209.out _; (with_reducible repeat (first | refine blk_drewN ?_ _ | refine blk_drew ?_ | refine blk_alloc ?_ _)); refine blk_far ?_ NB205_209.out _; (with_reducible repeat (first | refine blk_drewN ?_ _ | refine blk_drew ?_ | refine blk_alloc ?_ _)); exact BK205.out⟩
            have n1_ : Aside0 (((((w42.setCell ⟨gb209, 0, none⟩ (.int .i64 ((rd_T47 l0_4 x48_2).f0))).setCell ⟨gb209, 1, none⟩ (.int .i64 ((rd_T47 l0_4 x48_2).f1))).setCell ⟨gb209, 2, none⟩ (.int .i64 ((rd_T47 l0_4 x48_2).f2))).setCell ⟨gb209, 3, none⟩ (.slice A208_3 ((rd_T47 l0_4 x48_2).f3).length c208_3)).heap[gb209]? = some (.cells #[.int .i64 ((rd_T47 l0_4 x48_2).f0), .int .i64 ((rd_T47 l0_4 x48_2).f1), .int .i64 ((rd_T47 l0_4 x48_2).f2), .slice A208_3 ((rd_T47 l0_4 x48_2).f3).length c208_3] 47 (0, 0))) := ⟨by (with_reducible repeat (first | refine blk_drewN ?_ _ | refine blk_drew ?_ | refine blk_alloc ?_ _)); refine blk_put (cs := #[.int .i64 ((rd_T47 l0_4 x48_2).f0), .int .i64 ((rd_T47 l0_4 x48_2).f1), .int .i64 ((rd_T47 l0_4 x48_2).f2), .slice none 0 0]) ?_ 3 _ rfl; (with_reducible repeat (first | refine blk_drewN ?_ _ | refine blk_drew ?_ | refine blk_alloc ?_ _)); refine blk_put (cs := #[.int .i64 ((rd_T47 l0_4 x48_2).f0), .int .i64 ((rd_T47 l0_4 x48_2).f1), .int .i64 0, .slice none 0 0]) ?_ 2 _ rfl; (with_reducible repeat (first | refine blk_drewN ?_ _ | refine blk_drew ?_ | refine blk_alloc ?_ _)); refine blk_put (cs := #[.int .i64 ((rd_T47 l0_4 x48_2).f0), .int .i64 0, .int .i64 0, .slice none 0 0]) ?_ 1 _ rfl; (with_reducible repeat (first | refine blk_drewN ?_ _ | refine blk_drew ?_ | refine blk_alloc ?_ _)); refine blk_put (cs := #[.int .i64 0, .int .i64 0, .int .i64 0, .slice none 0 0]) ?_ 0 _ rfl; (with_reducible repeat (first | refine blk_drewN ?_ _ | refine blk_drew ?_ | refine blk_alloc ?_ _)); exact BK209.out⟩
            have n2_ : Aside0 (Below w.heap.size w ((((w42.setCell ⟨gb209, 0, none⟩ (.int .i64 ((rd_T47 l0_4 x48_2).f0))).setCell ⟨gb209, 1, none⟩ (.int .i64 ((rd_T47 l0_4 x48_2).f1))).setCell ⟨gb209, 2, none⟩ (.int .i64 ((rd_T47 l0_4 x48_2).f2))).setCell ⟨gb209, 3, none⟩ (.slice A208_3 ((rd_T47 l0_4 x48_2).f3).length c208_3))) := ⟨by repeat (first | (with_reducible first | exact HB.out | apply below_alloc | apply pw_below_drewN | apply below_drew1 | refine below_set ?_ GE205.out | refine below_set ?_ GE209.out) | exact HB.out)⟩
            (try clear BK205); (try clear BK209); (try clear HB)
            generalize ((((w42.setCell ⟨gb209, 0, none⟩ (.int .i64 ((rd_T47 l0_4 x48_2).f0))).setCell ⟨gb209, 1, none⟩ (.int .i64 ((rd_T47 l0_4 x48_2).f1))).setCell ⟨gb209, 2, none⟩ (.int .i64 ((rd_T47 l0_4 x48_2).f2))).setCell ⟨gb209, 3, none⟩ (.slice A208_3 ((rd_T47 l0_4 x48_2).f3).length c208_3)) = w45 at n0_ n1_ n2_ ⊢
            have BK205 := n0_; have BK209 := n1_; have HB := n2_; clear n0_ n1_ n2_; replace BK205 := Aside0.mk (blk_drew BK205.out); replace BK209 := Aside0.mk (blk_drew BK209.out); replace HB := Aside0.mk (below_drew1 HB.out)
            refine start_ (n := 27) (S := fun w' => w'.cell? ⟨gb209, 0, none⟩ = some (.int .i64 ((rd_T47 l0_4 x48_2).f0)) ∧ w'.cell? ⟨gb209, 1, none⟩ = some (.int .i64 ((rd_T47 l0_4 x48_2).f1)) ∧ w'.cell? ⟨gb209, 2, none⟩ = some (.int .i64 ((rd_T47 l0_4 x48_2).f2)) ∧ w'.cell? ⟨gb209, 3, none⟩ = some (.slice A208_3 ((rd_T47 l0_4 x48_2).f3).length c208_3) ∧ w'.cell? ⟨gb205, 0, none⟩ = some (.int .i64 a0_0) ∧ w'.cell? ⟨gb205, 1, none⟩ = some (.int .i64 a0_1) ∧ w'.cell? ⟨gb205, 2, none⟩ = some (.int .i64 a0_2) ∧ w'.cell? ⟨gb205, 3, none⟩ = some (.int .i64 a0_3) ∧ w'.cell? ⟨gb205, 4, none⟩ = some (.slice (some ad208) l0_4.length c0_4) ∧ w'.cell? ⟨gb205, 5, none⟩ = some (.slice A0_5 l0_5.length c0_5) ∧ w'.cell? ⟨gb205, 6, none⟩ = some (.slice A0_6 l0_6.length c0_6)) (ds := []) #[false, false, false, false, false, false, false, false, false, false, false, false, false, false, false, false, false, false, false, false, false, false, false, false, false, false, false] (by kernel_rfl) rfl rfl ⟨bc BK209 0, bc BK209 1, bc BK209 2, bc BK209 3, bc BK205 0, bc BK205 1, bc BK205 2, bc BK205 3, bc BK205 4, bc BK205 5, bc BK205 6⟩ (fun hHeld => ?_); refine with_tabW target_Valid.tab6 target_Valid.bits6 (fun HT_ HW_ => ?_)
            generalize w45.drew = w46 at BK205 BK209 HB hHeld ⊢
            refine tk HT_ HW_ hHeld 0 (some 52) rfl (by rintro w' ⟨s0, s1, s2, s3, s4, s5, s6, s7, s8, s9, s10⟩; go_simp; with_reducible rfl) ?_
            refine one_ (i := 1) (N := some 53) #[true, true, false, false, false, false, false, false, false, false, false, false, false, false, false, false, false, false, false, false, false, false, false, false, false, false, false] rfl rfl (one_of HT_.out (by kernel_rfl)) (by decide) (fun K hK => ?_)
            refine goes_ Try.func29 (by kernel_rfl) rfl #[.agg #[.int .i64 ((rd_T47 l0_4 x48_2).f0), .int .i64 ((rd_T47 l0_4 x48_2).f1), .int .i64 ((rd_T47 l0_4 x48_2).f2), .slice A208_3 ((rd_T47 l0_4 x48_2).f3).length c208_3]] (by rfl) rfl rfl (by (try simp only [List.map_toArray, List.map_cons, List.map_nil]); first | done | rfl | (simp only [List.length_drop, List.length_take]; rfl)) ?_
            with_reducible refine (image_Valid.calls k2 ((rd_T47 l0_4 x48_2).f0) ((rd_T47 l0_4 x48_2).f1) ((rd_T47 l0_4 x48_2).f2) _ _ ((rd_T47 l0_4 x48_2).f3) true _ ?side1 ?side2 A24.out).mono ?_
            (case side1 => repeat (first | exact (Kd.C_below HR208_3.out HB.out) | (with_reducible refine Kd.C_alloc ?_ _) | (with_reducible refine Kd.C_drewN ?_ _) | (with_reducible refine Kd.C_drew ?_)))
            (case side2 => exact HC208_3.out)
            rintro e w47 ⟨rfl, hb⟩; refine ⟨_, rfl, ?_⟩; replace BK205 := ub BK205 hb; replace BK209 := ub BK209 hb; replace HB := bs HB hb; (try clear hb); (try clear hb2); (try clear hk); (try clear hi)
            refine hK.out _ _ ⟨bc BK209 0, bc BK209 1, bc BK209 2, bc BK209 3, bc BK205 0, bc BK205 1, bc BK205 2, bc BK205 3, bc BK205 4, bc BK205 5, bc BK205 6⟩ (fun hHeld => ?_)
            clear hK K
            refine norm_ (a' := ?_) ?_ ?_
            rotate_left
            ·show Act.put _ (some 53) _ = _
             simp only [Act.put, List.setIfInBounds_toArray, List.set_cons_zero, List.set_cons_succ, i64_w, i32_w]
             rfl
            refine on HT_ 2 (some 54) ?_
            refine on HT_ 3 (some 55) ?_
            refine on HT_ 4 (some 56) ?_
            refine on HT_ 6 (some 58) ?_
            refine tk HT_ HW_ hHeld 5 (some 57) rfl (by rintro w' ⟨s0, s1, s2, s3, s4, s5, s6, s7, s8, s9, s10⟩; go_simp; with_reducible rfl) ?_
            refine tk HT_ HW_ hHeld 7 (some 59) rfl (by rintro w' ⟨s0, s1, s2, s3, s4, s5, s6, s7, s8, s9, s10⟩; go_simp; with_reducible rfl) ?_
            refine on HT_ 8 (some 60) ?_
            refine on HT_ 9 (some 61) ?_
            refine on HT_ 10 (some 62) ?_
            refine on HT_ 11 (some 63) ?_
            refine on HT_ 13 (some 65) ?_
            refine tk HT_ HW_ hHeld 12 (some 64) rfl (by rintro w' ⟨s0, s1, s2, s3, s4, s5, s6, s7, s8, s9, s10⟩; go_simp; with_reducible rfl) ?_
            refine tk HT_ HW_ hHeld 14 (some 66) rfl (by rintro w' ⟨s0, s1, s2, s3, s4, s5, s6, s7, s8, s9, s10⟩; go_simp; with_reducible rfl) ?_
            refine on HT_ 15 (some 67) ?_
            refine on HT_ 16 (some 68) ?_
            refine on HT_ 17 (some 69) ?_
            refine off HT_ 18 (some 70) ?_
            refine off HT_ 19 (some 71) ?_
            refine off HT_ 20 (some 72) ?_
            refine off HT_ 21 (some 73) ?_
            refine off HT_ 22 (some 74) ?_
            refine off HT_ 23 (some 75) ?_
            refine off HT_ 24 (some 76) ?_
            refine off HT_ 25 (some 77) ?_
            refine on HT_ 26 (some 78) ?_
            refine done_ (done_of HT_.out (by kernel_rfl)) ?_
            try go_wp2
            go_ret
            exact ⟨by first | rfl | (simp [errW_none, errW_some] <;> rfl) | (simp [*, errW_none, errW_some] <;> rfl), by repeat (first | (with_reducible first | exact HB.out | apply below_alloc | apply pw_below_drewN | apply below_drew1 | refine below_set ?_ GE205.out | refine below_set ?_ GE209.out) | exact HB.out)⟩
          ·rw [if_neg c26] at H
           have c26b0 : (((rd_T47 l0_4 x48_2).f1) == a0_0) = false := beq_eq_false_iff_ne.mpr c26
           have c26b1 : (((rd_T47 l0_4 x48_2).f1) != a0_0) = true := bne_iff_ne.mpr c26
           obtain rfl := Option.some.inj H
           have p208 : 0 ≤ (x48_2 : Int) := of_decide_eq_true (by first | (with_reducible assumption) | assumption)
           have q208 : x48_2 < (l0_4.length : Int) := of_decide_eq_true (by first | (with_reducible assumption) | assumption)
           obtain ⟨ad208, A208_3, c208_3, e208, hx208_0, hx208_1, hx208_2, hx208_3, hl208_3, hi208_3⟩ := at_T47 HR0_4.out x48_2 p208 q208
           cases e208
           replace hx208_0 := (HB.out.cell (World.block_lt_of_cell? w _ hx208_0)).trans hx208_0
           replace hx208_1 := (HB.out.cell (World.block_lt_of_cell? w _ hx208_1)).trans hx208_1
           replace hx208_2 := (HB.out.cell (World.block_lt_of_cell? w _ hx208_2)).trans hx208_2
           replace hx208_3 := (HB.out.cell (World.block_lt_of_cell? w _ hx208_3)).trans hx208_3
           have HR208_3 := Aside0.mk hi208_3; have HC208_3 := Aside0.mk hl208_3; clear hi208_3 hl208_3
           replace p208 := eq_true p208
           replace q208 := eq_true q208
           try go_wp2_with (first | ((with_reducible refine gate_dst (N := 4) rfl ?_); (try (refine gate_guard (by rfl) ?_; dsimp only)); refine box_event ?hg (N := 4) ?hd (cs := #[.int .i64 0, .int .i64 0, .int .i64 0, .slice none 0 0]) (t := 47) ?hr ?_; (case hd => rfl); (case hg => rfl); (case hr => first | (go_simp; done) | (go_simp; rfl)); intro gb209 hg w48 hbox hb; have BK209 := Aside0.mk (hbox); have GW209 := ws HB hg; have GE209 := ws HB hg; have NB205_209 := nl BK205 hg; have NB209_205 := ng BK205 hg; replace BK205 := ub BK205 hb; replace HB := bs HB hb; clear hb hbox hg; have hnb49 := NB209_205.out; have hnc49 := NB205_209.out; have hcz50_0 : w48.cell? ⟨gb209, 0, none⟩ = some (.int .i64 0) := bc BK209 0; have hcz50_1 : w48.cell? ⟨gb209, 1, none⟩ = some (.int .i64 0) := bc BK209 1; have hcz50_2 : w48.cell? ⟨gb209, 2, none⟩ = some (.int .i64 0) := bc BK209 2; have hcz50_3 : w48.cell? ⟨gb209, 3, none⟩ = some (.slice none 0 0) := bc BK209 3; have hfz50_0 := blk_frozen BK209.out 0; have hfz50_1 := blk_frozen BK209.out 1; have hfz50_2 := blk_frozen BK209.out 2; have hfz50_3 := blk_frozen BK209.out 3))
           have n0_ : Aside0 (((((w48.setCell ⟨gb209, 0, none⟩ (.int .i64 ((rd_T47 l0_4 x48_2).f0))).setCell ⟨gb209, 1, none⟩ (.int .i64 ((rd_T47 l0_4 x48_2).f1))).setCell ⟨gb209, 2, none⟩ (.int .i64 ((rd_T47 l0_4 x48_2).f2))).setCell ⟨gb209, 3, none⟩ (.slice A208_3 ((rd_T47 l0_4 x48_2).f3).length c208_3)).heap[gb205]? = some (.cells #[.int .i64 a0_0, .int .i64 a0_1, .int .i64 a0_2, .int .i64 a0_3, .slice (some ad208) l0_4.length c0_4, .slice A0_5 l0_5.length c0_5, .slice A0_6 l0_6.length c0_6] 28 (0, 0))) := ⟨by (with_reducible repeat (first | refine blk_drewN ?_ _ | refine blk_drew ?_ | refine blk_alloc ?_ _)); refine blk_far ?_ NB205_209.out _; (with_reducible repeat (first | refine blk_drewN ?_ _ | refine blk_drew ?_ | refine blk_alloc ?_ _)); refine blk_far ?_ NB205_209.out _; (with_reducible repeat (first | refine blk_drewN ?_ _ | refine blk_drew ?_ | refine blk_alloc ?_ _)); refine blk_far ?_ NB205_209.out _; (with_reducible repeat (first | refine blk_drewN ?_ _ | refine blk_drew ?_ | refine blk_alloc ?_ _)); refine blk_far ?_ NB205_209.out _; (with_reducible repeat (first | refine blk_drewN ?_ _ | refine blk_drew ?_ | refine blk_alloc ?_ _)); exact BK205.out⟩
           have n1_ : Aside0 (((((w48.setCell ⟨gb209, 0, none⟩ (.int .i64 ((rd_T47 l0_4 x48_2).f0))).setCell ⟨gb209, 1, none⟩ (.int .i64 ((rd_T47 l0_4 x48_2).f1))).setCell ⟨gb209, 2, none⟩ (.int .i64 ((rd_T47 l0_4 x48_2).f2))).setCell ⟨gb209, 3, none⟩ (.slice A208_3 ((rd_T47 l0_4 x48_2).f3).length c208_3)).heap[gb209]? = some (.cells #[.int .i64 ((rd_T47 l0_4 x48_2).f0), .int .i64 ((rd_T47 l0_4 x48_2).f1), .int .i64 ((rd_T47 l0_4 x48_2).f2), .slice A208_3 ((rd_T47 l0_4 x48_2).f3).length c208_3] 47 (0, 0))) := ⟨by (with_reducible repeat (first | refine blk_drewN ?_ _ | refine blk_drew ?_ | refine blk_alloc ?_ _)); refine blk_put (cs := #[.int .i64 ((rd_T47 l0_4 x48_2).f0), .int .i64 ((rd_T47 l0_4 x48_2).f1), .int .i64 ((rd_T47 l0_4 x48_2).f2), .slice none 0 0]) ?_ 3 _ rfl; (with_reducible repeat (first | refine blk_drewN ?_ _ | refine blk_drew ?_ | refine blk_alloc ?_ _)); refine blk_put (cs := #[.int .i64 ((rd_T47 l0_4 x48_2).f0), .int .i64 ((rd_T47 l0_4 x48_2).f1), .int .i64 0, .slice none 0 0]) ?_ 2 _ rfl; (with_reducible repeat (first | refine blk_drewN ?_ _ | refine blk_drew ?_ | refine blk_alloc ?_ _)); refine blk_put (cs := #[.int .i64 ((rd_T47 l0_4 x48_2).f0), .int .i64 0, .int .i64 0, .slice none 0 0]) ?_ 1 _ rfl; (with_reducible repeat (first | refine blk_drewN ?_ _ | refine blk_drew ?_ | refine blk_alloc ?_ _)); refine blk_put (cs := #[.int .i64 0, .int .i64 0, .int .i64 0, .slice none 0 0]) ?_ 0 _ rfl; (with_reducible repeat (first | refine blk_drewN ?_ _ | refine blk_drew ?_ | refine blk_alloc ?_ _)); exact BK209.out⟩
           have n2_ : Aside0 (Below w.heap.size w ((((w48.setCell ⟨gb209, 0, none⟩ (.int .i64 ((rd_T47 l0_4 x48_2).f0))).setCell ⟨gb209, 1, none⟩ (.int .i64 ((rd_T47 l0_4 x48_2).f1))).setCell ⟨gb209, 2, none⟩ (.int .i64 ((rd_T47 l0_4 x48_2).f2))).setCell ⟨gb209, 3, none⟩ (.slice A208_3 ((rd_T47 l0_4 x48_2).f3).length c208_3))) := ⟨by repeat (first | (with_reducible first | exact HB.out | apply below_alloc | apply pw_below_drewN | apply below_drew1 | refine below_set ?_ GE205.out | refine below_set ?_ GE209.out) | exact HB.out)⟩
           (try clear BK205); (try clear BK209); (try clear HB)
           generalize ((((w48.setCell ⟨gb209, 0, none⟩ (.int .i64 ((rd_T47 l0_4 x48_2).f0))).setCell ⟨gb209, 1, none⟩ (.int .i64 ((rd_T47 l0_4 x48_2).f1))).setCell ⟨gb209, 2, none⟩ (.int .i64 ((rd_T47 l0_4 x48_2).f2))).setCell ⟨gb209, 3, none⟩ (.slice A208_3 ((rd_T47 l0_4 x48_2).f3).length c208_3)) = w51 at n0_ n1_ n2_ ⊢
           have BK205 := n0_; have BK209 := n1_; have HB := n2_; clear n0_ n1_ n2_; replace BK205 := Aside0.mk (blk_drew BK205.out); replace BK209 := Aside0.mk (blk_drew BK209.out); replace HB := Aside0.mk (below_drew1 HB.out)
           refine start_ (n := 27) (S := fun w' => w'.cell? ⟨gb209, 0, none⟩ = some (.int .i64 ((rd_T47 l0_4 x48_2).f0)) ∧ w'.cell? ⟨gb209, 1, none⟩ = some (.int .i64 ((rd_T47 l0_4 x48_2).f1)) ∧ w'.cell? ⟨gb209, 2, none⟩ = some (.int .i64 ((rd_T47 l0_4 x48_2).f2)) ∧ w'.cell? ⟨gb209, 3, none⟩ = some (.slice A208_3 ((rd_T47 l0_4 x48_2).f3).length c208_3) ∧ w'.cell? ⟨gb205, 0, none⟩ = some (.int .i64 a0_0) ∧ w'.cell? ⟨gb205, 1, none⟩ = some (.int .i64 a0_1) ∧ w'.cell? ⟨gb205, 2, none⟩ = some (.int .i64 a0_2) ∧ w'.cell? ⟨gb205, 3, none⟩ = some (.int .i64 a0_3) ∧ w'.cell? ⟨gb205, 4, none⟩ = some (.slice (some ad208) l0_4.length c0_4) ∧ w'.cell? ⟨gb205, 5, none⟩ = some (.slice A0_5 l0_5.length c0_5) ∧ w'.cell? ⟨gb205, 6, none⟩ = some (.slice A0_6 l0_6.length c0_6)) (ds := []) #[false, false, false, false, false, false, false, false, false, false, false, false, false, false, false, false, false, false, false, false, false, false, false, false, false, false, false] (by kernel_rfl) rfl rfl ⟨bc BK209 0, bc BK209 1, bc BK209 2, bc BK209 3, bc BK205 0, bc BK205 1, bc BK205 2, bc BK205 3, bc BK205 4, bc BK205 5, bc BK205 6⟩ (fun hHeld => ?_); refine with_tabW target_Valid.tab6 target_Valid.bits6 (fun HT_ HW_ => ?_)
           generalize w51.drew = w52 at BK205 BK209 HB hHeld ⊢
           refine tk HT_ HW_ hHeld 0 (some 52) rfl (by rintro w' ⟨s0, s1, s2, s3, s4, s5, s6, s7, s8, s9, s10⟩; go_simp; with_reducible rfl) ?_
           refine one_ (i := 1) (N := some 53) #[true, true, false, false, false, false, false, false, false, false, false, false, false, false, false, false, false, false, false, false, false, false, false, false, false, false, false] rfl rfl (one_of HT_.out (by kernel_rfl)) (by decide) (fun K hK => ?_)
           refine goes_ Try.func29 (by kernel_rfl) rfl #[.agg #[.int .i64 ((rd_T47 l0_4 x48_2).f0), .int .i64 ((rd_T47 l0_4 x48_2).f1), .int .i64 ((rd_T47 l0_4 x48_2).f2), .slice A208_3 ((rd_T47 l0_4 x48_2).f3).length c208_3]] (by rfl) rfl rfl (by (try simp only [List.map_toArray, List.map_cons, List.map_nil]); first | done | rfl | (simp only [List.length_drop, List.length_take]; rfl)) ?_
           with_reducible refine (image_Valid.calls k2 ((rd_T47 l0_4 x48_2).f0) ((rd_T47 l0_4 x48_2).f1) ((rd_T47 l0_4 x48_2).f2) _ _ ((rd_T47 l0_4 x48_2).f3) true _ ?side1 ?side2 A24.out).mono ?_
           (case side1 => repeat (first | exact (Kd.C_below HR208_3.out HB.out) | (with_reducible refine Kd.C_alloc ?_ _) | (with_reducible refine Kd.C_drewN ?_ _) | (with_reducible refine Kd.C_drew ?_)))
           (case side2 => exact HC208_3.out)
           rintro e w53 ⟨rfl, hb⟩; refine ⟨_, rfl, ?_⟩; replace BK205 := ub BK205 hb; replace BK209 := ub BK209 hb; replace HB := bs HB hb; (try clear hb); (try clear hb2); (try clear hk); (try clear hi)
           refine hK.out _ _ ⟨bc BK209 0, bc BK209 1, bc BK209 2, bc BK209 3, bc BK205 0, bc BK205 1, bc BK205 2, bc BK205 3, bc BK205 4, bc BK205 5, bc BK205 6⟩ (fun hHeld => ?_)
           clear hK K
           refine norm_ (a' := ?_) ?_ ?_
           rotate_left
           ·show Act.put _ (some 53) _ = _
            simp only [Act.put, List.setIfInBounds_toArray, List.set_cons_zero, List.set_cons_succ, i64_w, i32_w]
            rfl
           refine on HT_ 2 (some 54) ?_
           refine on HT_ 3 (some 55) ?_
           refine on HT_ 4 (some 56) ?_
           refine on HT_ 6 (some 58) ?_
           refine tk HT_ HW_ hHeld 5 (some 57) rfl (by rintro w' ⟨s0, s1, s2, s3, s4, s5, s6, s7, s8, s9, s10⟩; go_simp; with_reducible rfl) ?_
           refine tk HT_ HW_ hHeld 7 (some 59) rfl (by rintro w' ⟨s0, s1, s2, s3, s4, s5, s6, s7, s8, s9, s10⟩; go_simp; with_reducible rfl) ?_
           refine on HT_ 8 (some 60) ?_
           refine on HT_ 9 (some 61) ?_
           refine on HT_ 10 (some 62) ?_
           refine off HT_ 11 (some 63) ?_
           refine off HT_ 12 (some 64) ?_
           refine off HT_ 13 (some 65) ?_
           refine off HT_ 14 (some 66) ?_
           refine off HT_ 15 (some 67) ?_
           refine on HT_ 16 (some 68) ?_
           refine on HT_ 17 (some 69) ?_
           refine off HT_ 18 (some 70) ?_
           refine off HT_ 19 (some 71) ?_
           refine off HT_ 20 (some 72) ?_
           refine off HT_ 21 (some 73) ?_
           refine off HT_ 22 (some 74) ?_
           refine off HT_ 23 (some 75) ?_
           refine off HT_ 24 (some 76) ?_
           refine off HT_ 25 (some 77) ?_
           refine on HT_ 26 (some 78) ?_
           refine done_ (done_of HT_.out (by kernel_rfl)) ?_
           try go_wp2
           go_ret
           exact ⟨by first | rfl | (simp [errW_none, errW_some] <;> rfl) | (simp [*, errW_none, errW_some] <;> rfl), by repeat (first | (with_reducible first | exact HB.out | apply below_alloc | apply pw_below_drewN | apply below_drew1 | refine below_set ?_ GE205.out | refine below_set ?_ GE209.out) | exact HB.out)⟩
         ·replace c25 := Bool.eq_false_iff.mpr c25
          subst c25
          have H1 : (some false) = some r := by rw [if_neg (show ¬ (false = true) by decide)] at H; exact H
          clear H; have H := H1; clear H1
          obtain rfl := Option.some.inj H
          have p208 : 0 ≤ (x48_2 : Int) := of_decide_eq_true (by first | (with_reducible assumption) | assumption)
          have q208 : x48_2 < (l0_4.length : Int) := of_decide_eq_true (by first | (with_reducible assumption) | assumption)
          obtain ⟨ad208, A208_3, c208_3, e208, hx208_0, hx208_1, hx208_2, hx208_3, hl208_3, hi208_3⟩ := at_T47 HR0_4.out x48_2 p208 q208
          cases e208
          replace hx208_0 := (HB.out.cell (World.block_lt_of_cell? w _ hx208_0)).trans hx208_0
          replace hx208_1 := (HB.out.cell (World.block_lt_of_cell? w _ hx208_1)).trans hx208_1
          replace hx208_2 := (HB.out.cell (World.block_lt_of_cell? w _ hx208_2)).trans hx208_2
          replace hx208_3 := (HB.out.cell (World.block_lt_of_cell? w _ hx208_3)).trans hx208_3
          have HR208_3 := Aside0.mk hi208_3; have HC208_3 := Aside0.mk hl208_3; clear hi208_3 hl208_3
          replace p208 := eq_true p208
          replace q208 := eq_true q208
          try go_wp2_with (first | ((with_reducible refine gate_dst (N := 4) rfl ?_); (try (refine gate_guard (by rfl) ?_; dsimp only)); refine box_event ?hg (N := 4) ?hd (cs := #[.int .i64 0, .int .i64 0, .int .i64 0, .slice none 0 0]) (t := 47) ?hr ?_; (case hd => rfl); (case hg => rfl); (case hr => first | (go_simp; done) | (go_simp; rfl)); intro gb209 hg w54 hbox hb; have BK209 := Aside0.mk (hbox); have GW209 := ws HB hg; have GE209 := ws HB hg; have NB205_209 := nl BK205 hg; have NB209_205 := ng BK205 hg; replace BK205 := ub BK205 hb; replace HB := bs HB hb; clear hb hbox hg; have hnb55 := NB209_205.out; have hnc55 := NB205_209.out; have hcz56_0 : w54.cell? ⟨gb209, 0, none⟩ = some (.int .i64 0) := bc BK209 0; have hcz56_1 : w54.cell? ⟨gb209, 1, none⟩ = some (.int .i64 0) := bc BK209 1; have hcz56_2 : w54.cell? ⟨gb209, 2, none⟩ = some (.int .i64 0) := bc BK209 2; have hcz56_3 : w54.cell? ⟨gb209, 3, none⟩ = some (.slice none 0 0) := bc BK209 3; have hfz56_0 := blk_frozen BK209.out 0; have hfz56_1 := blk_frozen BK209.out 1; have hfz56_2 := blk_frozen BK209.out 2; have hfz56_3 := blk_frozen BK209.out 3))
          have n0_ : Aside0 (((((w54.setCell ⟨gb209, 0, none⟩ (.int .i64 ((rd_T47 l0_4 x48_2).f0))).setCell ⟨gb209, 1, none⟩ (.int .i64 ((rd_T47 l0_4 x48_2).f1))).setCell ⟨gb209, 2, none⟩ (.int .i64 ((rd_T47 l0_4 x48_2).f2))).setCell ⟨gb209, 3, none⟩ (.slice A208_3 ((rd_T47 l0_4 x48_2).f3).length c208_3)).heap[gb205]? = some (.cells #[.int .i64 a0_0, .int .i64 a0_1, .int .i64 a0_2, .int .i64 a0_3, .slice (some ad208) l0_4.length c0_4, .slice A0_5 l0_5.length c0_5, .slice A0_6 l0_6.length c0_6] 28 (0, 0))) := ⟨by (with_reducible repeat (first | refine blk_drewN ?_ _ | refine blk_drew ?_ | refine blk_alloc ?_ _)); refine blk_far ?_ NB205_209.out _; (with_reducible repeat (first | refine blk_drewN ?_ _ | refine blk_drew ?_ | refine blk_alloc ?_ _)); refine blk_far ?_ NB205_209.out _; (with_reducible repeat (first | refine blk_drewN ?_ _ | refine blk_drew ?_ | refine blk_alloc ?_ _)); refine blk_far ?_ NB205_209.out _; (with_reducible repeat (first | refine blk_drewN ?_ _ | refine blk_drew ?_ | refine blk_alloc ?_ _)); refine blk_far ?_ NB205_209.out _; (with_reducible repeat (first | refine blk_drewN ?_ _ | refine blk_drew ?_ | refine blk_alloc ?_ _)); exact BK205.out⟩
          have n1_ : Aside0 (((((w54.setCell ⟨gb209, 0, none⟩ (.int .i64 ((rd_T47 l0_4 x48_2).f0))).setCell ⟨gb209, 1, none⟩ (.int .i64 ((rd_T47 l0_4 x48_2).f1))).setCell ⟨gb209, 2, none⟩ (.int .i64 ((rd_T47 l0_4 x48_2).f2))).setCell ⟨gb209, 3, none⟩ (.slice A208_3 ((rd_T47 l0_4 x48_2).f3).length c208_3)).heap[gb209]? = some (.cells #[.int .i64 ((rd_T47 l0_4 x48_2).f0), .int .i64 ((rd_T47 l0_4 x48_2).f1), .int .i64 ((rd_T47 l0_4 x48_2).f2), .slice A208_3 ((rd_T47 l0_4 x48_2).f3).length c208_3] 47 (0, 0))) := ⟨by (with_reducible repeat (first | refine blk_drewN ?_ _ | refine blk_drew ?_ | refine blk_alloc ?_ _)); refine blk_put (cs := #[.int .i64 ((rd_T47 l0_4 x48_2).f0), .int .i64 ((rd_T47 l0_4 x48_2).f1), .int .i64 ((rd_T47 l0_4 x48_2).f2), .slice none 0 0]) ?_ 3 _ rfl; (with_reducible repeat (first | refine blk_drewN ?_ _ | refine blk_drew ?_ | refine blk_alloc ?_ _)); refine blk_put (cs := #[.int .i64 ((rd_T47 l0_4 x48_2).f0), .int .i64 ((rd_T47 l0_4 x48_2).f1), .int .i64 0, .slice none 0 0]) ?_ 2 _ rfl; (with_reducible repeat (first | refine blk_drewN ?_ _ | refine blk_drew ?_ | refine blk_alloc ?_ _)); refine blk_put (cs := #[.int .i64 ((rd_T47 l0_4 x48_2).f0), .int .i64 0, .int .i64 0, .slice none 0 0]) ?_ 1 _ rfl; (with_reducible repeat (first | refine blk_drewN ?_ _ | refine blk_drew ?_ | refine blk_alloc ?_ _)); refine blk_put (cs := #[.int .i64 0, .int .i64 0, .int .i64 0, .slice none 0 0]) ?_ 0 _ rfl; (with_reducible repeat (first | refine blk_drewN ?_ _ | refine blk_drew ?_ | refine blk_alloc ?_ _)); exact BK209.out⟩
          have n2_ : Aside0 (Below w.heap.size w ((((w54.setCell ⟨gb209, 0, none⟩ (.int .i64 ((rd_T47 l0_4 x48_2).f0))).setCell ⟨gb209, 1, none⟩ (.int .i64 ((rd_T47 l0_4 x48_2).f1))).setCell ⟨gb209, 2, none⟩ (.int .i64 ((rd_T47 l0_4 x48_2).f2))).setCell ⟨gb209, 3, none⟩ (.slice A208_3 ((rd_T47 l0_4 x48_2).f3).length c208_3))) := ⟨by repeat (first | (with_reducible first | exact HB.out | apply below_alloc | apply pw_below_drewN | apply below_drew1 | refine below_set ?_ GE205.out | refine below_set ?_ GE209.out) | exact HB.out)⟩
          (try clear BK205); (try clear BK209); (try clear HB)
          generalize ((((w54.setCell ⟨gb209, 0, none⟩ (.int .i64 ((rd_T47 l0_4 x48_2).f0))).setCell ⟨gb209, 1, none⟩ (.int .i64 ((rd_T47 l0_4 x48_2).f1))).setCell ⟨gb209, 2, none⟩ (.int .i64 ((rd_T47 l0_4 x48_2).f2))).setCell ⟨gb209, 3, none⟩ (.slice A208_3 ((rd_T47 l0_4 x48_2).f3).length c208_3)) = w57 at n0_ n1_ n2_ ⊢
          have BK205 := n0_; have BK209 := n1_; have HB := n2_; clear n0_ n1_ n2_; replace BK205 := Aside0.mk (blk_drew BK205.out); replace BK209 := Aside0.mk (blk_drew BK209.out); replace HB := Aside0.mk (below_drew1 HB.out)
          refine start_ (n := 27) (S := fun w' => w'.cell? ⟨gb209, 0, none⟩ = some (.int .i64 ((rd_T47 l0_4 x48_2).f0)) ∧ w'.cell? ⟨gb209, 1, none⟩ = some (.int .i64 ((rd_T47 l0_4 x48_2).f1)) ∧ w'.cell? ⟨gb209, 2, none⟩ = some (.int .i64 ((rd_T47 l0_4 x48_2).f2)) ∧ w'.cell? ⟨gb209, 3, none⟩ = some (.slice A208_3 ((rd_T47 l0_4 x48_2).f3).length c208_3)) (ds := []) #[false, false, false, false, false, false, false, false, false, false, false, false, false, false, false, false, false, false, false, false, false, false, false, false, false, false, false] (by kernel_rfl) rfl rfl ⟨bc BK209 0, bc BK209 1, bc BK209 2, bc BK209 3⟩ (fun hHeld => ?_); refine with_tabW target_Valid.tab6 target_Valid.bits6 (fun HT_ HW_ => ?_)
          generalize w57.drew = w58 at BK205 BK209 HB hHeld ⊢
          refine tk HT_ HW_ hHeld 0 (some 52) rfl (by rintro w' ⟨s0, s1, s2, s3⟩; go_simp; with_reducible rfl) ?_
          refine one_ (i := 1) (N := some 53) #[true, true, false, false, false, false, false, false, false, false, false, false, false, false, false, false, false, false, false, false, false, false, false, false, false, false, false] rfl rfl (one_of HT_.out (by kernel_rfl)) (by decide) (fun K hK => ?_)
          refine goes_ Try.func29 (by kernel_rfl) rfl #[.agg #[.int .i64 ((rd_T47 l0_4 x48_2).f0), .int .i64 ((rd_T47 l0_4 x48_2).f1), .int .i64 ((rd_T47 l0_4 x48_2).f2), .slice A208_3 ((rd_T47 l0_4 x48_2).f3).length c208_3]] (by rfl) rfl rfl (by (try simp only [List.map_toArray, List.map_cons, List.map_nil]); first | done | rfl | (simp only [List.length_drop, List.length_take]; rfl)) ?_
          with_reducible refine (image_Valid.calls k2 ((rd_T47 l0_4 x48_2).f0) ((rd_T47 l0_4 x48_2).f1) ((rd_T47 l0_4 x48_2).f2) _ _ ((rd_T47 l0_4 x48_2).f3) false _ ?side1 ?side2 A24.out).mono ?_
          (case side1 => repeat (first | exact (Kd.C_below HR208_3.out HB.out) | (with_reducible refine Kd.C_alloc ?_ _) | (with_reducible refine Kd.C_drewN ?_ _) | (with_reducible refine Kd.C_drew ?_)))
          (case side2 => exact HC208_3.out)
          rintro e w59 ⟨rfl, hb⟩; refine ⟨_, rfl, ?_⟩; replace BK205 := ub BK205 hb; replace BK209 := ub BK209 hb; replace HB := bs HB hb; (try clear hb); (try clear hb2); (try clear hk); (try clear hi)
          refine hK.out _ _ ⟨bc BK209 0, bc BK209 1, bc BK209 2, bc BK209 3⟩ (fun hHeld => ?_)
          clear hK K
          refine norm_ (a' := ?_) ?_ ?_
          rotate_left
          ·show Act.put _ (some 53) _ = _
           simp only [Act.put, List.setIfInBounds_toArray, List.set_cons_zero, List.set_cons_succ, i64_w, i32_w]
           rfl
          refine on HT_ 2 (some 54) ?_
          refine on HT_ 3 (some 55) ?_
          refine off HT_ 4 (some 56) ?_
          refine off HT_ 5 (some 57) ?_
          refine off HT_ 6 (some 58) ?_
          refine off HT_ 7 (some 59) ?_
          refine off HT_ 8 (some 60) ?_
          refine on HT_ 9 (some 61) ?_
          refine on HT_ 10 (some 62) ?_
          refine off HT_ 11 (some 63) ?_
          refine off HT_ 12 (some 64) ?_
          refine off HT_ 13 (some 65) ?_
          refine off HT_ 14 (some 66) ?_
          refine off HT_ 15 (some 67) ?_
          refine on HT_ 16 (some 68) ?_
          refine on HT_ 17 (some 69) ?_
          refine off HT_ 18 (some 70) ?_
          refine off HT_ 19 (some 71) ?_
          refine off HT_ 20 (some 72) ?_
          refine off HT_ 21 (some 73) ?_
          refine off HT_ 22 (some 74) ?_
          refine off HT_ 23 (some 75) ?_
          refine off HT_ 24 (some 76) ?_
          refine off HT_ 25 (some 77) ?_
          refine on HT_ 26 (some 78) ?_
          refine done_ (done_of HT_.out (by kernel_rfl)) ?_
          try go_wp2
          go_ret
          exact ⟨by first | rfl | (simp [errW_none, errW_some] <;> rfl) | (simp [*, errW_none, errW_some] <;> rfl), by repeat (first | (with_reducible first | exact HB.out | apply below_alloc | apply pw_below_drewN | apply below_drew1 | refine below_set ?_ GE205.out | refine below_set ?_ GE209.out) | exact HB.out)⟩
        ·rw [if_neg c23] at H
         exact absurd H (by simp)
       ·rw [if_neg c22] at H
        exact absurd H (by simp)
      ·rw [if_neg c21] at H
       have c21b0 : decide (x48_2 < (l0_4.length : Int)) = false := decide_eq_false c21
       clear c21; have HC60 := Aside0.mk H; clear H
       have hcz61_0 : wr.cell? ⟨gb205, 0, none⟩ = some (.int .i64 a0_0) := bc BK205 0
       have hcz61_1 : wr.cell? ⟨gb205, 1, none⟩ = some (.int .i64 a0_1) := bc BK205 1
       have hcz61_2 : wr.cell? ⟨gb205, 2, none⟩ = some (.int .i64 a0_2) := bc BK205 2
       have hcz61_3 : wr.cell? ⟨gb205, 3, none⟩ = some (.int .i64 a0_3) := bc BK205 3
       have hcz61_4 : wr.cell? ⟨gb205, 4, none⟩ = some (.slice A0_4 l0_4.length c0_4) := bc BK205 4
       have hcz61_5 : wr.cell? ⟨gb205, 5, none⟩ = some (.slice A0_5 l0_5.length c0_5) := bc BK205 5
       have hcz61_6 : wr.cell? ⟨gb205, 6, none⟩ = some (.slice A0_6 l0_6.length c0_6) := bc BK205 6
       have hfz61_0 := blk_frozen BK205.out 0; have hfz61_1 := blk_frozen BK205.out 1; have hfz61_2 := blk_frozen BK205.out 2; have hfz61_3 := blk_frozen BK205.out 3; have hfz61_4 := blk_frozen BK205.out 4; have hfz61_5 := blk_frozen BK205.out 5; have hfz61_6 := blk_frozen BK205.out 6
       go_upto_region 10 with (fail)
       go_cut [99] (fun v99 wc => ∃ (kq : Nat) (x99_59 : Bool), v99 = .bool x99_59 ∧ Aside0 (target_Valid.j2 kq (wrap64 ((wrap64 (a0_0 * a0_1)) * a0_2)) x99_59 a0_0 a0_1 a0_2 a0_3 l0_4 l0_5 l0_6 = some r) ∧ Aside0 (kq ≤ k2) ∧ Aside0 (wc.heap[gb205]? = some (.cells #[.int .i64 a0_0, .int .i64 a0_1, .int .i64 a0_2, .int .i64 a0_3, (.slice A0_4 l0_4.length c0_4), (.slice A0_5 l0_5.length c0_5), (.slice A0_6 l0_6.length c0_6)] 28 (0, 0))) ∧ Aside0 (Below w.heap.size w wc))
       case first =>
        have H := HC60.out; clear HC60
        by_cases c62 : (l0_5.length : Int) = (wrap64 ((wrap64 (a0_0 * a0_1)) * a0_2))
        ·rw [if_pos c62] at H
         have c62b0 : ((l0_5.length : Int) == (wrap64 ((wrap64 (a0_0 * a0_1)) * a0_2))) = true := beq_iff_eq.mpr c62
         have c62b1 : ((l0_5.length : Int) != (wrap64 ((wrap64 (a0_0 * a0_1)) * a0_2))) = false := bne_eq_false_iff_eq.mpr c62
         clear c62
         (first | rw [c62b0] | (simp only [i64_w, i32_w]; rw [c62b0]) | skip)
         have H' := Aside0.mk H
         clear H
         have hcz63_0 : wr.cell? ⟨gb205, 0, none⟩ = some (.int .i64 a0_0) := bc BK205 0
         have hcz63_1 : wr.cell? ⟨gb205, 1, none⟩ = some (.int .i64 a0_1) := bc BK205 1
         have hcz63_2 : wr.cell? ⟨gb205, 2, none⟩ = some (.int .i64 a0_2) := bc BK205 2
         have hcz63_3 : wr.cell? ⟨gb205, 3, none⟩ = some (.int .i64 a0_3) := bc BK205 3
         have hcz63_4 : wr.cell? ⟨gb205, 4, none⟩ = some (.slice A0_4 l0_4.length c0_4) := bc BK205 4
         have hcz63_5 : wr.cell? ⟨gb205, 5, none⟩ = some (.slice A0_5 l0_5.length c0_5) := bc BK205 5
         have hcz63_6 : wr.cell? ⟨gb205, 6, none⟩ = some (.slice A0_6 l0_6.length c0_6) := bc BK205 6
         have hfz63_0 := blk_frozen BK205.out 0; have hfz63_1 := blk_frozen BK205.out 1; have hfz63_2 := blk_frozen BK205.out 2; have hfz63_3 := blk_frozen BK205.out 3; have hfz63_4 := blk_frozen BK205.out 4; have hfz63_5 := blk_frozen BK205.out 5; have hfz63_6 := blk_frozen BK205.out 6
         go_wp2
         go_meet
         case rel => exact ⟨_, (((l0_6.length : Int) != (wrap64 ((wrap64 (a0_0 * a0_1)) * a0_2)))), (by first | rfl | (simp; done) | (simp [*]; done)), H', ⟨by have := HJ1.out; have := HK2.out; first | omega | exact Nat.le_refl _⟩, ⟨by (with_reducible repeat (first | refine blk_drewN ?_ _ | refine blk_drew ?_ | refine blk_alloc ?_ _)); exact BK205.out⟩, ⟨by repeat (first | (with_reducible first | exact HB.out | apply below_alloc | apply pw_below_drewN | apply below_drew1 | refine below_set ?_ GE205.out) | exact HB.out)⟩⟩
        ·rw [if_neg c62] at H
         have c62b0 : ((l0_5.length : Int) == (wrap64 ((wrap64 (a0_0 * a0_1)) * a0_2))) = false := beq_eq_false_iff_ne.mpr c62
         have c62b1 : ((l0_5.length : Int) != (wrap64 ((wrap64 (a0_0 * a0_1)) * a0_2))) = true := bne_iff_ne.mpr c62
         (first | rw [c62b0] | (simp only [i64_w, i32_w]; rw [c62b0]) | skip)
         have H' := Aside0.mk H
         clear H
         have hcz64_0 : wr.cell? ⟨gb205, 0, none⟩ = some (.int .i64 a0_0) := bc BK205 0
         have hcz64_1 : wr.cell? ⟨gb205, 1, none⟩ = some (.int .i64 a0_1) := bc BK205 1
         have hcz64_2 : wr.cell? ⟨gb205, 2, none⟩ = some (.int .i64 a0_2) := bc BK205 2
         have hcz64_3 : wr.cell? ⟨gb205, 3, none⟩ = some (.int .i64 a0_3) := bc BK205 3
         have hcz64_4 : wr.cell? ⟨gb205, 4, none⟩ = some (.slice A0_4 l0_4.length c0_4) := bc BK205 4
         have hcz64_5 : wr.cell? ⟨gb205, 5, none⟩ = some (.slice A0_5 l0_5.length c0_5) := bc BK205 5
         have hcz64_6 : wr.cell? ⟨gb205, 6, none⟩ = some (.slice A0_6 l0_6.length c0_6) := bc BK205 6
         have hfz64_0 := blk_frozen BK205.out 0; have hfz64_1 := blk_frozen BK205.out 1; have hfz64_2 := blk_frozen BK205.out 2; have hfz64_3 := blk_frozen BK205.out 3; have hfz64_4 := blk_frozen BK205.out 4; have hfz64_5 := blk_frozen BK205.out 5; have hfz64_6 := blk_frozen BK205.out 6
         go_wp2
         go_meet
         case rel => exact ⟨_, (true), (by first | rfl | (simp; done) | (simp [*]; done)), H', ⟨by have := HJ1.out; have := HK2.out; first | omega | exact Nat.le_refl _⟩, ⟨by (with_reducible repeat (first | refine blk_drewN ?_ _ | refine blk_drew ?_ | refine blk_alloc ?_ _)); exact BK205.out⟩, ⟨by repeat (first | (with_reducible first | exact HB.out | apply below_alloc | apply pw_below_drewN | apply below_drew1 | refine below_set ?_ GE205.out) | exact HB.out)⟩⟩
       case rest =>
        clear HC60
        try clear c2
        try clear p2
        try clear q2
        try clear hx2
        try clear c4
        try clear c5
        try clear c6
        try clear p6
        try clear c20
        try clear p20
        try clear q20
        try clear hx20
        try clear c21
        try clear c21b0
        try clear c22
        try clear c23
        try clear c25
        try clear c26
        try clear c26b0
        try clear c26b1
        try clear c29
        try clear c49
        try clear c55
        try clear c62
        try clear c62b0
        try clear c62b1
        try clear p64
        try clear hcz50_0
        try clear hcz50_1
        try clear hcz50_2
        try clear hcz50_3
        try clear hcz56_0
        try clear hcz56_1
        try clear hcz56_2
        try clear hcz56_3
        try clear hcz61_0
        try clear hcz61_1
        try clear hcz61_2
        try clear hcz61_3
        try clear hcz61_4
        try clear hcz61_5
        try clear hcz61_6
        try clear hcz63_0
        try clear hcz63_1
        try clear hcz63_2
        try clear hcz63_3
        try clear hcz63_4
        try clear hcz63_5
        try clear hcz63_6
        try clear hcz64_0
        try clear hcz64_1
        try clear hcz64_2
        try clear hcz64_3
        try clear hcz64_4
        try clear hcz64_5
        try clear hcz64_6
        try clear hfz50_0
        try clear hfz50_1
        try clear hfz50_2
        try clear hfz50_3
        try clear hfz56_0
        try clear hfz56_1
        try clear hfz56_2
        try clear hfz56_3
        try clear hfz61_0
        try clear hfz61_1
        try clear hfz61_2
        try clear hfz61_3
        try clear hfz61_4
        try clear hfz61_5
        try clear hfz61_6
        try clear hfz63_0
        try clear hfz63_1
        try clear hfz63_2
        try clear hfz63_3
        try clear hfz63_4
        try clear hfz63_5
        try clear hfz63_6
        try clear hfz64_0
        try clear hfz64_1
        try clear hfz64_2
        try clear hfz64_3
        try clear hfz64_4
        try clear hfz64_5
        try clear hfz64_6
        try clear hx208_0
        try clear hx208_1
        try clear hx208_2
        try clear hx208_3
        try clear p208
        try clear q208
        obtain ⟨kq, x99_59, rfl, HA, HJ59, BK205, HB⟩ := hcut
        cases kq with
        | zero => exact absurd HA.out (by simp [target_Valid.j2])
        | succ kj59 =>
         have H := HA.out; clear HA
         simp only [target_Valid.j2] at H
         by_cases c65 : x99_59 = true
         ·subst c65
          have H1 : (some false) = some r := by rw [if_pos rfl] at H; exact H
          clear H; have H := H1; clear H1
          obtain rfl := Option.some.inj H
          go_wp2
          go_ret
          exact ⟨by first | rfl | (simp [errW_none, errW_some] <;> rfl) | (simp [*, errW_none, errW_some] <;> rfl), by repeat (first | (with_reducible first | exact HB.out | apply below_alloc | apply pw_below_drewN | apply below_drew1 | refine below_set ?_ GE205.out) | exact HB.out)⟩
         ·replace c65 := Bool.eq_false_iff.mpr c65
          subst c65
          have H1 : (target_Valid.l1 kj59 (wrap64 ((wrap64 (a0_0 * a0_1)) * a0_2)) 0 a0_0 a0_1 a0_2 a0_3 l0_4 l0_5 l0_6) = some r := by rw [if_neg (show ¬ (false = true) by decide)] at H; exact H
          clear H; have H := H1; clear H1
          have H' := Aside0.mk H
          clear H
          go_wp2
          go_loopg [101] kj59 (fun kq v101 w' => ∃ (x101_4 : Int), v101 = .int .i64 x101_4 ∧ Aside0 (target_Valid.l1 kq (wrap64 ((wrap64 (a0_0 * a0_1)) * a0_2)) x101_4 a0_0 a0_1 a0_2 a0_3 l0_4 l0_5 l0_6 = some r) ∧ Aside0 (kq ≤ kj59) ∧ Aside0 (w'.heap[gb205]? = some (.cells #[.int .i64 a0_0, .int .i64 a0_1, .int .i64 a0_2, .int .i64 a0_3, (.slice A0_4 l0_4.length c0_4), (.slice A0_5 l0_5.length c0_5), (.slice A0_6 l0_6.length c0_6)] 28 (0, 0))) ∧ Aside0 (Below w.heap.size w w'))
          case atStart => exact ⟨(0), (by first | rfl | (simp; done) | (simp [*]; done)), H', ⟨Nat.le_refl _⟩, ⟨by (with_reducible repeat (first | refine blk_drewN ?_ _ | refine blk_drew ?_ | refine blk_alloc ?_ _)); exact BK205.out⟩, ⟨by repeat (first | (with_reducible first | exact HB.out | apply below_alloc | apply pw_below_drewN | apply below_drew1 | refine below_set ?_ GE205.out) | exact HB.out)⟩⟩
          case round =>
           clear H'
           try clear c2
           try clear p2
           try clear q2
           try clear hx2
           try clear c4
           try clear c5
           try clear c6
           try clear p6
           try clear c20
           try clear p20
           try clear q20
           try clear hx20
           try clear c21
           try clear c21b0
           try clear c22
           try clear c23
           try clear c25
           try clear c26
           try clear c26b0
           try clear c26b1
           try clear c29
           try clear c49
           try clear c55
           try clear c62
           try clear c62b0
           try clear c62b1
           try clear p64
           try clear c65
           try clear hcz50_0
           try clear hcz50_1
           try clear hcz50_2
           try clear hcz50_3
           try clear hcz56_0
           try clear hcz56_1
           try clear hcz56_2
           try clear hcz56_3
           try clear hcz61_0
           try clear hcz61_1
           try clear hcz61_2
           try clear hcz61_3
           try clear hcz61_4
           try clear hcz61_5
           try clear hcz61_6
           try clear hcz63_0
           try clear hcz63_1
           try clear hcz63_2
           try clear hcz63_3
           try clear hcz63_4
           try clear hcz63_5
           try clear hcz63_6
           try clear hcz64_0
           try clear hcz64_1
           try clear hcz64_2
           try clear hcz64_3
           try clear hcz64_4
           try clear hcz64_5
           try clear hcz64_6
           try clear hfz50_0
           try clear hfz50_1
           try clear hfz50_2
           try clear hfz50_3
           try clear hfz56_0
           try clear hfz56_1
           try clear hfz56_2
           try clear hfz56_3
           try clear hfz61_0
           try clear hfz61_1
           try clear hfz61_2
           try clear hfz61_3
           try clear hfz61_4
           try clear hfz61_5
           try clear hfz61_6
           try clear hfz63_0
           try clear hfz63_1
           try clear hfz63_2
           try clear hfz63_3
           try clear hfz63_4
           try clear hfz63_5
           try clear hfz63_6
           try clear hfz64_0
           try clear hfz64_1
           try clear hfz64_2
           try clear hfz64_3
           try clear hfz64_4
           try clear hfz64_5
           try clear hfz64_6
           try clear hx208_0
           try clear hx208_1
           try clear hx208_2
           try clear hx208_3
           try clear p2
           try clear p20
           try clear p208
           try clear p6
           try clear p64
           try clear q2
           try clear q20
           try clear q208
           obtain ⟨x101_4, rfl, HA, HK4, BK205, HB⟩ := hrel
           cases gk with
           | zero => exact absurd HA.out (by simp [target_Valid.l1])
           | succ k4 =>
            have H := HA.out; clear HA
            simp only [target_Valid.l1] at H
            by_cases c66 : x101_4 < (wrap64 ((wrap64 (a0_0 * a0_1)) * a0_2))
            ·rw [if_pos c66] at H
             have c66b0 : decide (x101_4 < (wrap64 ((wrap64 (a0_0 * a0_1)) * a0_2))) = true := decide_eq_true c66
             clear c66
             by_cases c67 : 0 ≤ x101_4
             ·rw [if_pos c67] at H
              have c67b0 : decide (0 ≤ x101_4) = true := decide_eq_true c67
              clear c67
              by_cases c68 : x101_4 < (l0_5.length : Int)
              ·rw [if_pos c68] at H
               have c68b0 : decide (x101_4 < (l0_5.length : Int)) = true := decide_eq_true c68
               clear c68
               by_cases c69 : (rd l0_5 x101_4) < 0
               ·rw [if_pos c69] at H
                have c69b0 : decide ((rd l0_5 x101_4) < 0) = true := decide_eq_true c69
                clear c69
                obtain rfl := Option.some.inj H
                try go_wp2
                replace BK205 := Aside0.mk (blk_drew BK205.out); replace HB := Aside0.mk (below_drew1 HB.out)
                have p212 : 0 ≤ (x101_4 : Int) := of_decide_eq_true (by first | (with_reducible assumption) | assumption)
                have q212 : x101_4 < (l0_5.length : Int) := of_decide_eq_true (by first | (with_reducible assumption) | assumption)
                obtain ⟨ad212, e212, hx212_0⟩ := Kd.at_int HR0_5.out x101_4 p212 q212
                have hw212_0 := hx212_0
                cases e212
                replace hx212_0 := (HB.out.cell (World.block_lt_of_cell? w _ hx212_0)).trans hx212_0
                replace p212 := eq_true p212
                replace q212 := eq_true q212
                refine start_ (n := 35) (S := fun w' => w'.cell? ⟨gb205, 0, none⟩ = some (.int .i64 a0_0) ∧ w'.cell? ⟨gb205, 1, none⟩ = some (.int .i64 a0_1) ∧ w'.cell? ⟨gb205, 2, none⟩ = some (.int .i64 a0_2) ∧ w'.cell? ⟨gb205, 3, none⟩ = some (.int .i64 a0_3) ∧ w'.cell? ⟨gb205, 4, none⟩ = some (.slice A0_4 l0_4.length c0_4) ∧ w'.cell? ⟨gb205, 5, none⟩ = some (.slice (some ad212) l0_5.length c0_5) ∧ w'.cell? ⟨gb205, 6, none⟩ = some (.slice A0_6 l0_6.length c0_6) ∧ w'.cell? (ad212.add (x101_4).toNat) = some (.int .i64 (rd l0_5 x101_4))) (ds := []) #[false, false, false, false, false, false, false, false, false, false, false, false, false, false, false, false, false, false, false, false, false, false, false, false, false, false, false, false, false, false, false, false, false, false, false] (by kernel_rfl) rfl rfl ⟨bc BK205 0, bc BK205 1, bc BK205 2, bc BK205 3, bc BK205 4, bc BK205 5, bc BK205 6, ((HB.out.cell (World.block_lt_of_cell? w _ hw212_0)).trans hw212_0)⟩ (fun hHeld => ?_); refine with_tabW target_Valid.tab15 target_Valid.bits15 (fun HT_ HW_ => ?_)
                generalize wr.drew = w70 at BK205 HB hx212_0 hHeld ⊢
                refine on HT_ 0 (some 104) ?_
                refine on HT_ 2 (some 106) ?_
                refine tk HT_ HW_ hHeld 1 (some 105) rfl (by rintro w' ⟨s0, s1, s2, s3, s4, s5, s6, s7⟩; go_simp; with_reducible rfl) ?_
                refine on HT_ 3 (some 107) ?_
                refine tk HT_ HW_ hHeld 4 (some 108) rfl (by rintro w' ⟨s0, s1, s2, s3, s4, s5, s6, s7⟩; go_simp; with_reducible rfl) ?_
                refine on HT_ 5 (some 109) ?_
                refine on HT_ 6 (some 110) ?_
                refine off HT_ 7 (some 111) ?_
                refine off HT_ 8 (some 112) ?_
                refine off HT_ 9 (some 113) ?_
                refine off HT_ 10 (some 114) ?_
                refine off HT_ 11 (some 115) ?_
                refine off HT_ 12 (some 116) ?_
                refine off HT_ 13 (some 117) ?_
                refine off HT_ 14 (some 118) ?_
                refine off HT_ 15 (some 119) ?_
                refine on HT_ 16 (some 120) ?_
                refine on HT_ 17 (some 121) ?_
                refine off HT_ 18 (some 122) ?_
                refine off HT_ 19 (some 123) ?_
                refine off HT_ 20 (some 124) ?_
                refine off HT_ 21 (some 125) ?_
                refine off HT_ 22 (some 126) ?_
                refine off HT_ 23 (some 127) ?_
                refine on HT_ 24 (some 128) ?_
                refine on HT_ 25 (some 129) ?_
                refine off HT_ 26 (some 130) ?_
                refine off HT_ 27 (some 131) ?_
                refine off HT_ 28 (some 132) ?_
                refine off HT_ 29 (some 133) ?_
                refine off HT_ 30 (some 134) ?_
                refine off HT_ 31 (some 135) ?_
                refine off HT_ 32 (some 136) ?_
                refine off HT_ 33 (some 137) ?_
                refine on HT_ 34 (some 138) ?_
                refine done_ (done_of HT_.out (by kernel_rfl)) ?_
                try go_wp2
                go_ret
                exact ⟨by first | rfl | (simp [errW_none, errW_some] <;> rfl) | (simp [*, errW_none, errW_some] <;> rfl), by repeat (first | (with_reducible first | exact HB.out | apply below_alloc | apply pw_below_drewN | apply below_drew1 | refine below_set ?_ GE205.out) | exact HB.out)⟩
               ·rw [if_neg c69] at H
                have c69b0 : decide ((rd l0_5 x101_4) < 0) = false := decide_eq_false c69
                clear c69
                replace H := Option.bind_eq_some_iff.mp H
                obtain ⟨t214, A710, H⟩ := H
                replace H : (if (rd l0_5 x101_4) > t214 then (some false) else (if x101_4 < (l0_6.length : Int) then (if (rd l0_6 x101_4) < 0 then (some false) else ((target_mostStencil.f a0_0 a0_1 a0_2 a0_3 l0_4 l0_5 l0_6).bind fun t217 => (if (rd l0_6 x101_4) > t217 then (some false) else (target_Valid.l1 k4 (wrap64 ((wrap64 (a0_0 * a0_1)) * a0_2)) (wrap64 (x101_4 + 1)) a0_0 a0_1 a0_2 a0_3 l0_4 l0_5 l0_6)))) else (none))) = some r := H
                have A71 := Aside0.mk A710; clear A710
                by_cases c72 : (rd l0_5 x101_4) > t214
                ·rw [if_pos c72] at H
                 have c72b0 : decide (t214 < (rd l0_5 x101_4)) = true := decide_eq_true c72
                 clear c72
                 obtain rfl := Option.some.inj H
                 try go_wp2
                 replace BK205 := Aside0.mk (blk_drew BK205.out); replace HB := Aside0.mk (below_drew1 HB.out)
                 have p212 : 0 ≤ (x101_4 : Int) := of_decide_eq_true (by first | (with_reducible assumption) | assumption)
                 have q212 : x101_4 < (l0_5.length : Int) := of_decide_eq_true (by first | (with_reducible assumption) | assumption)
                 obtain ⟨ad212, e212, hx212_0⟩ := Kd.at_int HR0_5.out x101_4 p212 q212
                 have hw212_0 := hx212_0
                 cases e212
                 replace hx212_0 := (HB.out.cell (World.block_lt_of_cell? w _ hx212_0)).trans hx212_0
                 replace p212 := eq_true p212
                 replace q212 := eq_true q212
                 have p213 : 0 ≤ (x101_4 : Int) := of_decide_eq_true (by first | (with_reducible assumption) | assumption)
                 have q213 : x101_4 < (l0_5.length : Int) := of_decide_eq_true (by first | (with_reducible assumption) | assumption)
                 obtain ⟨ad213, e213, hx213_0⟩ := Kd.at_int HR0_5.out x101_4 p213 q213
                 have hw213_0 := hx213_0
                 obtain rfl : ad212 = ad213 := (by injection e213)
                 replace hx213_0 := (HB.out.cell (World.block_lt_of_cell? w _ hx213_0)).trans hx213_0
                 replace p213 := eq_true p213
                 replace q213 := eq_true q213
                 refine start_ (n := 35) (S := fun w' => w'.cell? ⟨gb205, 0, none⟩ = some (.int .i64 a0_0) ∧ w'.cell? ⟨gb205, 1, none⟩ = some (.int .i64 a0_1) ∧ w'.cell? ⟨gb205, 2, none⟩ = some (.int .i64 a0_2) ∧ w'.cell? ⟨gb205, 3, none⟩ = some (.int .i64 a0_3) ∧ w'.cell? ⟨gb205, 4, none⟩ = some (.slice A0_4 l0_4.length c0_4) ∧ w'.cell? ⟨gb205, 5, none⟩ = some (.slice (some ad212) l0_5.length c0_5) ∧ w'.cell? ⟨gb205, 6, none⟩ = some (.slice A0_6 l0_6.length c0_6) ∧ w'.cell? (ad212.add (x101_4).toNat) = some (.int .i64 (rd l0_5 x101_4)) ∧ w'.cell? (ad212.add (x101_4).toNat) = some (.int .i64 (rd l0_5 x101_4))) (ds := []) #[false, false, false, false, false, false, false, false, false, false, false, false, false, false, false, false, false, false, false, false, false, false, false, false, false, false, false, false, false, false, false, false, false, false, false] (by kernel_rfl) rfl rfl ⟨bc BK205 0, bc BK205 1, bc BK205 2, bc BK205 3, bc BK205 4, bc BK205 5, bc BK205 6, ((HB.out.cell (World.block_lt_of_cell? w _ hw212_0)).trans hw212_0), ((HB.out.cell (World.block_lt_of_cell? w _ hw213_0)).trans hw213_0)⟩ (fun hHeld => ?_); refine with_tabW target_Valid.tab15 target_Valid.bits15 (fun HT_ HW_ => ?_)
                 generalize wr.drew = w73 at BK205 HB hx212_0 hx213_0 hHeld ⊢
                 refine on HT_ 0 (some 104) ?_
                 refine on HT_ 2 (some 106) ?_
                 refine tk HT_ HW_ hHeld 1 (some 105) rfl (by rintro w' ⟨s0, s1, s2, s3, s4, s5, s6, s7, s8⟩; go_simp; with_reducible rfl) ?_
                 refine on HT_ 3 (some 107) ?_
                 refine tk HT_ HW_ hHeld 4 (some 108) rfl (by rintro w' ⟨s0, s1, s2, s3, s4, s5, s6, s7, s8⟩; go_simp; with_reducible rfl) ?_
                 refine on HT_ 5 (some 109) ?_
                 refine on HT_ 6 (some 110) ?_
                 refine on HT_ 7 (some 111) ?_
                 refine on HT_ 9 (some 113) ?_
                 refine on HT_ 12 (some 116) ?_
                 refine tk HT_ HW_ hHeld 8 (some 112) rfl (by rintro w' ⟨s0, s1, s2, s3, s4, s5, s6, s7, s8⟩; go_simp; with_reducible rfl) ?_
                 refine on HT_ 10 (some 114) ?_
                 refine tk HT_ HW_ hHeld 11 (some 115) rfl (by rintro w' ⟨s0, s1, s2, s3, s4, s5, s6, s7, s8⟩; go_simp; with_reducible rfl) ?_
                 refine tk HT_ HW_ hHeld 13 (some 117) rfl (by rintro w' ⟨s0, s1, s2, s3, s4, s5, s6, s7, s8⟩; go_simp; with_reducible rfl) ?_
                 refine one_ (i := 14) (N := some 118) #[true, true, true, true, true, true, true, true, true, true, true, true, true, true, true, false, false, false, false, false, false, false, false, false, false, false, false, false, false, false, false, false, false, false, false] rfl rfl (one_of HT_.out (by kernel_rfl)) (by decide) (fun K hK => ?_)
                 refine goes_ Try.func30 (by kernel_rfl) rfl #[.int .i64 a0_3] (by rfl) rfl rfl (by (try simp only [List.map_toArray, List.map_cons, List.map_nil]); first | done | rfl | (simp only [List.length_drop, List.length_take]; rfl)) ?_
                 with_reducible refine (depth_Max.calls a0_3 t214 _ A71.out).mono ?_; rintro e w74 ⟨rfl, hb⟩; refine ⟨_, rfl, ?_⟩; replace BK205 := ub BK205 hb; replace HB := bs HB hb; (try clear hb); (try clear hb2); (try clear hk); (try clear hi)
                 refine hK.out _ _ ⟨bc BK205 0, bc BK205 1, bc BK205 2, bc BK205 3, bc BK205 4, bc BK205 5, bc BK205 6, ((HB.out.cell (World.block_lt_of_cell? w _ hw212_0)).trans hw212_0), ((HB.out.cell (World.block_lt_of_cell? w _ hw213_0)).trans hw213_0)⟩ (fun hHeld => ?_)
                 clear hK K
                 refine norm_ (a' := ?_) ?_ ?_
                 rotate_left
                 ·show Act.put _ (some 118) _ = _
                  simp only [Act.put, List.setIfInBounds_toArray, List.set_cons_zero, List.set_cons_succ, i64_w, i32_w]
                  rfl
                 refine on HT_ 15 (some 119) ?_
                 refine on HT_ 16 (some 120) ?_
                 refine on HT_ 17 (some 121) ?_
                 refine off HT_ 18 (some 122) ?_
                 refine off HT_ 19 (some 123) ?_
                 refine off HT_ 20 (some 124) ?_
                 refine off HT_ 21 (some 125) ?_
                 refine off HT_ 22 (some 126) ?_
                 refine off HT_ 23 (some 127) ?_
                 refine on HT_ 24 (some 128) ?_
                 refine on HT_ 25 (some 129) ?_
                 refine off HT_ 26 (some 130) ?_
                 refine off HT_ 27 (some 131) ?_
                 refine off HT_ 28 (some 132) ?_
                 refine off HT_ 29 (some 133) ?_
                 refine off HT_ 30 (some 134) ?_
                 refine off HT_ 31 (some 135) ?_
                 refine off HT_ 32 (some 136) ?_
                 refine off HT_ 33 (some 137) ?_
                 refine on HT_ 34 (some 138) ?_
                 refine done_ (done_of HT_.out (by kernel_rfl)) ?_
                 try go_wp2
                 go_ret
                 exact ⟨by first | rfl | (simp [errW_none, errW_some] <;> rfl) | (simp [*, errW_none, errW_some] <;> rfl), by repeat (first | (with_reducible first | exact HB.out | apply below_alloc | apply pw_below_drewN | apply below_drew1 | refine below_set ?_ GE205.out) | exact HB.out)⟩
                ·rw [if_neg c72] at H
                 have c72b0 : decide (t214 < (rd l0_5 x101_4)) = false := decide_eq_false c72
                 clear c72
                 by_cases c75 : x101_4 < (l0_6.length : Int)
                 ·rw [if_pos c75] at H
                  have c75b0 : decide (x101_4 < (l0_6.length : Int)) = true := decide_eq_true c75
                  clear c75
                  by_cases c76 : (rd l0_6 x101_4) < 0
                  ·rw [if_pos c76] at H
                   have c76b0 : decide ((rd l0_6 x101_4) < 0) = true := decide_eq_true c76
                   clear c76
                   obtain rfl := Option.some.inj H
                   try go_wp2
                   replace BK205 := Aside0.mk (blk_drew BK205.out); replace HB := Aside0.mk (below_drew1 HB.out)
                   have p212 : 0 ≤ (x101_4 : Int) := of_decide_eq_true (by first | (with_reducible assumption) | assumption)
                   have q212 : x101_4 < (l0_5.length : Int) := of_decide_eq_true (by first | (with_reducible assumption) | assumption)
                   obtain ⟨ad212, e212, hx212_0⟩ := Kd.at_int HR0_5.out x101_4 p212 q212
                   have hw212_0 := hx212_0
                   cases e212
                   replace hx212_0 := (HB.out.cell (World.block_lt_of_cell? w _ hx212_0)).trans hx212_0
                   replace p212 := eq_true p212
                   replace q212 := eq_true q212
                   have p213 : 0 ≤ (x101_4 : Int) := of_decide_eq_true (by first | (with_reducible assumption) | assumption)
                   have q213 : x101_4 < (l0_5.length : Int) := of_decide_eq_true (by first | (with_reducible assumption) | assumption)
                   obtain ⟨ad213, e213, hx213_0⟩ := Kd.at_int HR0_5.out x101_4 p213 q213
                   have hw213_0 := hx213_0
                   obtain rfl : ad212 = ad213 := (by injection e213)
                   replace hx213_0 := (HB.out.cell (World.block_lt_of_cell? w _ hx213_0)).trans hx213_0
                   replace p213 := eq_true p213
                   replace q213 := eq_true q213
                   have p215 : 0 ≤ (x101_4 : Int) := of_decide_eq_true (by first | (with_reducible assumption) | assumption)
                   have q215 : x101_4 < (l0_6.length : Int) := of_decide_eq_true (by first | (with_reducible assumption) | assumption)
                   obtain ⟨ad215, e215, hx215_0⟩ := Kd.at_int HR0_6.out x101_4 p215 q215
                   have hw215_0 := hx215_0
                   cases e215
                   replace hx215_0 := (HB.out.cell (World.block_lt_of_cell? w _ hx215_0)).trans hx215_0
                   replace p215 := eq_true p215
                   replace q215 := eq_true q215
                   refine start_ (n := 35) (S := fun w' => w'.cell? ⟨gb205, 0, none⟩ = some (.int .i64 a0_0) ∧ w'.cell? ⟨gb205, 1, none⟩ = some (.int .i64 a0_1) ∧ w'.cell? ⟨gb205, 2, none⟩ = some (.int .i64 a0_2) ∧ w'.cell? ⟨gb205, 3, none⟩ = some (.int .i64 a0_3) ∧ w'.cell? ⟨gb205, 4, none⟩ = some (.slice A0_4 l0_4.length c0_4) ∧ w'.cell? ⟨gb205, 5, none⟩ = some (.slice (some ad212) l0_5.length c0_5) ∧ w'.cell? ⟨gb205, 6, none⟩ = some (.slice (some ad215) l0_6.length c0_6) ∧ w'.cell? (ad212.add (x101_4).toNat) = some (.int .i64 (rd l0_5 x101_4)) ∧ w'.cell? (ad212.add (x101_4).toNat) = some (.int .i64 (rd l0_5 x101_4)) ∧ w'.cell? (ad215.add (x101_4).toNat) = some (.int .i64 (rd l0_6 x101_4))) (ds := []) #[false, false, false, false, false, false, false, false, false, false, false, false, false, false, false, false, false, false, false, false, false, false, false, false, false, false, false, false, false, false, false, false, false, false, false] (by kernel_rfl) rfl rfl ⟨bc BK205 0, bc BK205 1, bc BK205 2, bc BK205 3, bc BK205 4, bc BK205 5, bc BK205 6, ((HB.out.cell (World.block_lt_of_cell? w _ hw212_0)).trans hw212_0), ((HB.out.cell (World.block_lt_of_cell? w _ hw213_0)).trans hw213_0), ((HB.out.cell (World.block_lt_of_cell? w _ hw215_0)).trans hw215_0)⟩ (fun hHeld => ?_); refine with_tabW target_Valid.tab15 target_Valid.bits15 (fun HT_ HW_ => ?_)
                   generalize wr.drew = w77 at BK205 HB hx212_0 hx213_0 hx215_0 hHeld ⊢
                   refine on HT_ 0 (some 104) ?_
                   refine on HT_ 2 (some 106) ?_
                   refine tk HT_ HW_ hHeld 1 (some 105) rfl (by rintro w' ⟨s0, s1, s2, s3, s4, s5, s6, s7, s8, s9⟩; go_simp; with_reducible rfl) ?_
                   refine on HT_ 3 (some 107) ?_
                   refine tk HT_ HW_ hHeld 4 (some 108) rfl (by rintro w' ⟨s0, s1, s2, s3, s4, s5, s6, s7, s8, s9⟩; go_simp; with_reducible rfl) ?_
                   refine on HT_ 5 (some 109) ?_
                   refine on HT_ 6 (some 110) ?_
                   refine on HT_ 7 (some 111) ?_
                   refine on HT_ 9 (some 113) ?_
                   refine on HT_ 12 (some 116) ?_
                   refine tk HT_ HW_ hHeld 8 (some 112) rfl (by rintro w' ⟨s0, s1, s2, s3, s4, s5, s6, s7, s8, s9⟩; go_simp; with_reducible rfl) ?_
                   refine on HT_ 10 (some 114) ?_
                   refine tk HT_ HW_ hHeld 11 (some 115) rfl (by rintro w' ⟨s0, s1, s2, s3, s4, s5, s6, s7, s8, s9⟩; go_simp; with_reducible rfl) ?_
                   refine tk HT_ HW_ hHeld 13 (some 117) rfl (by rintro w' ⟨s0, s1, s2, s3, s4, s5, s6, s7, s8, s9⟩; go_simp; with_reducible rfl) ?_
                   refine one_ (i := 14) (N := some 118) #[true, true, true, true, true, true, true, true, true, true, true, true, true, true, true, false, false, false, false, false, false, false, false, false, false, false, false, false, false, false, false, false, false, false, false] rfl rfl (one_of HT_.out (by kernel_rfl)) (by decide) (fun K hK => ?_)
                   refine goes_ Try.func30 (by kernel_rfl) rfl #[.int .i64 a0_3] (by rfl) rfl rfl (by (try simp only [List.map_toArray, List.map_cons, List.map_nil]); first | done | rfl | (simp only [List.length_drop, List.length_take]; rfl)) ?_
                   with_reducible refine (depth_Max.calls a0_3 t214 _ A71.out).mono ?_; rintro e w78 ⟨rfl, hb⟩; refine ⟨_, rfl, ?_⟩; replace BK205 := ub BK205 hb; replace HB := bs HB hb; (try clear hb); (try clear hb2); (try clear hk); (try clear hi)
                   refine hK.out _ _ ⟨bc BK205 0, bc BK205 1, bc BK205 2, bc BK205 3, bc BK205 4, bc BK205 5, bc BK205 6, ((HB.out.cell (World.block_lt_of_cell? w _ hw212_0)).trans hw212_0), ((HB.out.cell (World.block_lt_of_cell? w _ hw213_0)).trans hw213_0), ((HB.out.cell (World.block_lt_of_cell? w _ hw215_0)).trans hw215_0)⟩ (fun hHeld => ?_)
                   clear hK K
                   refine norm_ (a' := ?_) ?_ ?_
                   rotate_left
                   ·show Act.put _ (some 118) _ = _
                    simp only [Act.put, List.setIfInBounds_toArray, List.set_cons_zero, List.set_cons_succ, i64_w, i32_w]
                    rfl
                   refine on HT_ 15 (some 119) ?_
                   refine on HT_ 16 (some 120) ?_
                   refine on HT_ 17 (some 121) ?_
                   refine on HT_ 18 (some 122) ?_
                   refine on HT_ 20 (some 124) ?_
                   refine tk HT_ HW_ hHeld 19 (some 123) rfl (by rintro w' ⟨s0, s1, s2, s3, s4, s5, s6, s7, s8, s9⟩; go_simp; with_reducible rfl) ?_
                   refine on HT_ 21 (some 125) ?_
                   refine tk HT_ HW_ hHeld 22 (some 126) rfl (by rintro w' ⟨s0, s1, s2, s3, s4, s5, s6, s7, s8, s9⟩; go_simp; with_reducible rfl) ?_
                   refine on HT_ 23 (some 127) ?_
                   refine on HT_ 24 (some 128) ?_
                   refine on HT_ 25 (some 129) ?_
                   refine off HT_ 26 (some 130) ?_
                   refine off HT_ 27 (some 131) ?_
                   refine off HT_ 28 (some 132) ?_
                   refine off HT_ 29 (some 133) ?_
                   refine off HT_ 30 (some 134) ?_
                   refine off HT_ 31 (some 135) ?_
                   refine off HT_ 32 (some 136) ?_
                   refine off HT_ 33 (some 137) ?_
                   refine on HT_ 34 (some 138) ?_
                   refine done_ (done_of HT_.out (by kernel_rfl)) ?_
                   try go_wp2
                   go_ret
                   exact ⟨by first | rfl | (simp [errW_none, errW_some] <;> rfl) | (simp [*, errW_none, errW_some] <;> rfl), by repeat (first | (with_reducible first | exact HB.out | apply below_alloc | apply pw_below_drewN | apply below_drew1 | refine below_set ?_ GE205.out) | exact HB.out)⟩
                  ·rw [if_neg c76] at H
                   have c76b0 : decide ((rd l0_6 x101_4) < 0) = false := decide_eq_false c76
                   clear c76
                   replace H := Option.bind_eq_some_iff.mp H
                   obtain ⟨t217, A790, H⟩ := H
                   replace H : (if (rd l0_6 x101_4) > t217 then (some false) else (target_Valid.l1 k4 (wrap64 ((wrap64 (a0_0 * a0_1)) * a0_2)) (wrap64 (x101_4 + 1)) a0_0 a0_1 a0_2 a0_3 l0_4 l0_5 l0_6)) = some r := H
                   have A79 := Aside0.mk A790; clear A790
                   by_cases c80 : (rd l0_6 x101_4) > t217
                   ·rw [if_pos c80] at H
                    have c80b0 : decide (t217 < (rd l0_6 x101_4)) = true := decide_eq_true c80
                    clear c80
                    obtain rfl := Option.some.inj H
                    try go_wp2
                    replace BK205 := Aside0.mk (blk_drew BK205.out); replace HB := Aside0.mk (below_drew1 HB.out)
                    have p212 : 0 ≤ (x101_4 : Int) := of_decide_eq_true (by first | (with_reducible assumption) | assumption)
                    have q212 : x101_4 < (l0_5.length : Int) := of_decide_eq_true (by first | (with_reducible assumption) | assumption)
                    obtain ⟨ad212, e212, hx212_0⟩ := Kd.at_int HR0_5.out x101_4 p212 q212
                    have hw212_0 := hx212_0
                    cases e212
                    replace hx212_0 := (HB.out.cell (World.block_lt_of_cell? w _ hx212_0)).trans hx212_0
                    replace p212 := eq_true p212
                    replace q212 := eq_true q212
                    have p213 : 0 ≤ (x101_4 : Int) := of_decide_eq_true (by first | (with_reducible assumption) | assumption)
                    have q213 : x101_4 < (l0_5.length : Int) := of_decide_eq_true (by first | (with_reducible assumption) | assumption)
                    obtain ⟨ad213, e213, hx213_0⟩ := Kd.at_int HR0_5.out x101_4 p213 q213
                    have hw213_0 := hx213_0
                    obtain rfl : ad212 = ad213 := (by injection e213)
                    replace hx213_0 := (HB.out.cell (World.block_lt_of_cell? w _ hx213_0)).trans hx213_0
                    replace p213 := eq_true p213
                    replace q213 := eq_true q213
                    have p215 : 0 ≤ (x101_4 : Int) := of_decide_eq_true (by first | (with_reducible assumption) | assumption)
                    have q215 : x101_4 < (l0_6.length : Int) := of_decide_eq_true (by first | (with_reducible assumption) | assumption)
                    obtain ⟨ad215, e215, hx215_0⟩ := Kd.at_int HR0_6.out x101_4 p215 q215
                    have hw215_0 := hx215_0
                    cases e215
                    replace hx215_0 := (HB.out.cell (World.block_lt_of_cell? w _ hx215_0)).trans hx215_0
                    replace p215 := eq_true p215
                    replace q215 := eq_true q215
                    have p216 : 0 ≤ (x101_4 : Int) := of_decide_eq_true (by first | (with_reducible assumption) | assumption)
                    have q216 : x101_4 < (l0_6.length : Int) := of_decide_eq_true (by first | (with_reducible assumption) | assumption)
                    obtain ⟨ad216, e216, hx216_0⟩ := Kd.at_int HR0_6.out x101_4 p216 q216
                    have hw216_0 := hx216_0
                    obtain rfl : ad215 = ad216 := (by injection e216)
                    replace hx216_0 := (HB.out.cell (World.block_lt_of_cell? w _ hx216_0)).trans hx216_0
                    replace p216 := eq_true p216
                    replace q216 := eq_true q216
                    refine start_ (n := 35) (S := fun w' => w'.cell? ⟨gb205, 0, none⟩ = some (.int .i64 a0_0) ∧ w'.cell? ⟨gb205, 1, none⟩ = some (.int .i64 a0_1) ∧ w'.cell? ⟨gb205, 2, none⟩ = some (.int .i64 a0_2) ∧ w'.cell? ⟨gb205, 3, none⟩ = some (.int .i64 a0_3) ∧ w'.cell? ⟨gb205, 4, none⟩ = some (.slice A0_4 l0_4.length c0_4) ∧ w'.cell? ⟨gb205, 5, none⟩ = some (.slice (some ad212) l0_5.length c0_5) ∧ w'.cell? ⟨gb205, 6, none⟩ = some (.slice (some ad215) l0_6.length c0_6) ∧ w'.cell? (ad212.add (x101_4).toNat) = some (.int .i64 (rd l0_5 x101_4)) ∧ w'.cell? (ad212.add (x101_4).toNat) = some (.int .i64 (rd l0_5 x101_4)) ∧ w'.cell? (ad215.add (x101_4).toNat) = some (.int .i64 (rd l0_6 x101_4)) ∧ w'.cell? (ad215.add (x101_4).toNat) = some (.int .i64 (rd l0_6 x101_4))) (ds := []) #[false, false, false, false, false, false, false, false, false, false, false, false, false, false, false, false, false, false, false, false, false, false, false, false, false, false, false, false, false, false, false, false, false, false, false] (by kernel_rfl) rfl rfl ⟨bc BK205 0, bc BK205 1, bc BK205 2, bc BK205 3, bc BK205 4, bc BK205 5, bc BK205 6, ((HB.out.cell (World.block_lt_of_cell? w _ hw212_0)).trans hw212_0), ((HB.out.cell (World.block_lt_of_cell? w _ hw213_0)).trans hw213_0), ((HB.out.cell (World.block_lt_of_cell? w _ hw215_0)).trans hw215_0), ((HB.out.cell (World.block_lt_of_cell? w _ hw216_0)).trans hw216_0)⟩ (fun hHeld => ?_); refine with_tabW target_Valid.tab15 target_Valid.bits15 (fun HT_ HW_ => ?_)
                    generalize wr.drew = w81 at BK205 HB hx212_0 hx213_0 hx215_0 hx216_0 hHeld ⊢
                    refine on HT_ 0 (some 104) ?_
                    refine on HT_ 2 (some 106) ?_
                    refine tk HT_ HW_ hHeld 1 (some 105) rfl (by rintro w' ⟨s0, s1, s2, s3, s4, s5, s6, s7, s8, s9, s10⟩; go_simp; with_reducible rfl) ?_
                    refine on HT_ 3 (some 107) ?_
                    refine tk HT_ HW_ hHeld 4 (some 108) rfl (by rintro w' ⟨s0, s1, s2, s3, s4, s5, s6, s7, s8, s9, s10⟩; go_simp; with_reducible rfl) ?_
                    refine on HT_ 5 (some 109) ?_
                    refine on HT_ 6 (some 110) ?_
                    refine on HT_ 7 (some 111) ?_
                    refine on HT_ 9 (some 113) ?_
                    refine on HT_ 12 (some 116) ?_
                    refine tk HT_ HW_ hHeld 8 (some 112) rfl (by rintro w' ⟨s0, s1, s2, s3, s4, s5, s6, s7, s8, s9, s10⟩; go_simp; with_reducible rfl) ?_
                    refine on HT_ 10 (some 114) ?_
                    refine tk HT_ HW_ hHeld 11 (some 115) rfl (by rintro w' ⟨s0, s1, s2, s3, s4, s5, s6, s7, s8, s9, s10⟩; go_simp; with_reducible rfl) ?_
                    refine tk HT_ HW_ hHeld 13 (some 117) rfl (by rintro w' ⟨s0, s1, s2, s3, s4, s5, s6, s7, s8, s9, s10⟩; go_simp; with_reducible rfl) ?_
                    refine one_ (i := 14) (N := some 118) #[true, true, true, true, true, true, true, true, true, true, true, true, true, true, true, false, false, false, false, false, false, false, false, false, false, false, false, false, false, false, false, false, false, false, false] rfl rfl (one_of HT_.out (by kernel_rfl)) (by decide) (fun K hK => ?_)
                    refine goes_ Try.func30 (by kernel_rfl) rfl #[.int .i64 a0_3] (by rfl) rfl rfl (by (try simp only [List.map_toArray, List.map_cons, List.map_nil]); first | done | rfl | (simp only [List.length_drop, List.length_take]; rfl)) ?_
                    with_reducible refine (depth_Max.calls a0_3 t214 _ A71.out).mono ?_; rintro e w82 ⟨rfl, hb⟩; refine ⟨_, rfl, ?_⟩; replace BK205 := ub BK205 hb; replace HB := bs HB hb; (try clear hb); (try clear hb2); (try clear hk); (try clear hi)
                    refine hK.out _ _ ⟨bc BK205 0, bc BK205 1, bc BK205 2, bc BK205 3, bc BK205 4, bc BK205 5, bc BK205 6, ((HB.out.cell (World.block_lt_of_cell? w _ hw212_0)).trans hw212_0), ((HB.out.cell (World.block_lt_of_cell? w _ hw213_0)).trans hw213_0), ((HB.out.cell (World.block_lt_of_cell? w _ hw215_0)).trans hw215_0), ((HB.out.cell (World.block_lt_of_cell? w _ hw216_0)).trans hw216_0)⟩ (fun hHeld => ?_)
                    clear hK K
                    refine norm_ (a' := ?_) ?_ ?_
                    rotate_left
                    ·show Act.put _ (some 118) _ = _
                     simp only [Act.put, List.setIfInBounds_toArray, List.set_cons_zero, List.set_cons_succ, i64_w, i32_w]
                     rfl
                    refine on HT_ 15 (some 119) ?_
                    refine on HT_ 16 (some 120) ?_
                    refine on HT_ 17 (some 121) ?_
                    refine on HT_ 18 (some 122) ?_
                    refine on HT_ 20 (some 124) ?_
                    refine tk HT_ HW_ hHeld 19 (some 123) rfl (by rintro w' ⟨s0, s1, s2, s3, s4, s5, s6, s7, s8, s9, s10⟩; go_simp; with_reducible rfl) ?_
                    refine on HT_ 21 (some 125) ?_
                    refine tk HT_ HW_ hHeld 22 (some 126) rfl (by rintro w' ⟨s0, s1, s2, s3, s4, s5, s6, s7, s8, s9, s10⟩; go_simp; with_reducible rfl) ?_
                    refine on HT_ 23 (some 127) ?_
                    refine on HT_ 24 (some 128) ?_
                    refine on HT_ 25 (some 129) ?_
                    refine on HT_ 26 (some 130) ?_
                    refine on HT_ 28 (some 132) ?_
                    refine tk HT_ HW_ hHeld 27 (some 131) rfl (by rintro w' ⟨s0, s1, s2, s3, s4, s5, s6, s7, s8, s9, s10⟩; go_simp; with_reducible rfl) ?_
                    refine on HT_ 29 (some 133) ?_
                    refine tk HT_ HW_ hHeld 30 (some 134) rfl (by rintro w' ⟨s0, s1, s2, s3, s4, s5, s6, s7, s8, s9, s10⟩; go_simp; with_reducible rfl) ?_
                    refine tk HT_ HW_ hHeld 31 (some 135) rfl (by rintro w' ⟨s0, s1, s2, s3, s4, s5, s6, s7, s8, s9, s10⟩; go_simp; with_reducible rfl) ?_
                    refine one_ (i := 32) (N := some 136) #[true, true, true, true, true, true, true, true, true, true, true, true, true, true, true, true, true, true, true, true, true, true, true, true, true, true, true, true, true, true, true, true, true, false, false] rfl rfl (one_of HT_.out (by kernel_rfl)) (by decide) (fun K hK => ?_)
                    refine goes_ Try.func31 (by kernel_rfl) rfl #[.agg #[.int .i64 a0_0, .int .i64 a0_1, .int .i64 a0_2, .int .i64 a0_3, .slice A0_4 l0_4.length c0_4, .slice (some ad212) l0_5.length c0_5, .slice (some ad215) l0_6.length c0_6]] (by rfl) rfl rfl (by (try simp only [List.map_toArray, List.map_cons, List.map_nil]); first | done | rfl | (simp only [List.length_drop, List.length_take]; rfl)) ?_
                    with_reducible refine (target_mostStencil.calls a0_0 a0_1 a0_2 a0_3 _ _ l0_4 _ _ l0_5 _ _ l0_6 t217 _ ?side1 ?side2 ?side3 ?side4 ?side5 ?side6 A79.out).mono ?_
                    (case side1 => repeat (first | exact (Kd.C_below HR0_4.out HB.out) | (with_reducible refine Kd.C_alloc ?_ _) | (with_reducible refine Kd.C_drewN ?_ _) | (with_reducible refine Kd.C_drew ?_)))
                    (case side2 => exact HC0_4.out)
                    (case side3 => repeat (first | exact (Kd.C_below HR0_5.out HB.out) | (with_reducible refine Kd.C_alloc ?_ _) | (with_reducible refine Kd.C_drewN ?_ _) | (with_reducible refine Kd.C_drew ?_)))
                    (case side4 => exact HC0_5.out)
                    (case side5 => repeat (first | exact (Kd.C_below HR0_6.out HB.out) | (with_reducible refine Kd.C_alloc ?_ _) | (with_reducible refine Kd.C_drewN ?_ _) | (with_reducible refine Kd.C_drew ?_)))
                    (case side6 => exact HC0_6.out)
                    rintro e w83 ⟨rfl, hb⟩; refine ⟨_, rfl, ?_⟩; replace BK205 := ub BK205 hb; replace HB := bs HB hb; (try clear hb); (try clear hb2); (try clear hk); (try clear hi)
                    refine hK.out _ _ ⟨bc BK205 0, bc BK205 1, bc BK205 2, bc BK205 3, bc BK205 4, bc BK205 5, bc BK205 6, ((HB.out.cell (World.block_lt_of_cell? w _ hw212_0)).trans hw212_0), ((HB.out.cell (World.block_lt_of_cell? w _ hw213_0)).trans hw213_0), ((HB.out.cell (World.block_lt_of_cell? w _ hw215_0)).trans hw215_0), ((HB.out.cell (World.block_lt_of_cell? w _ hw216_0)).trans hw216_0)⟩ (fun hHeld => ?_)
                    clear hK K
                    refine norm_ (a' := ?_) ?_ ?_
                    rotate_left
                    ·show Act.put _ (some 136) _ = _
                     simp only [Act.put, List.setIfInBounds_toArray, List.set_cons_zero, List.set_cons_succ, i64_w, i32_w]
                     rfl
                    refine on HT_ 33 (some 137) ?_
                    refine on HT_ 34 (some 138) ?_
                    refine done_ (done_of HT_.out (by kernel_rfl)) ?_
                    try go_wp2
                    go_ret
                    exact ⟨by first | rfl | (simp [errW_none, errW_some] <;> rfl) | (simp [*, errW_none, errW_some] <;> rfl), by repeat (first | (with_reducible first | exact HB.out | apply below_alloc | apply pw_below_drewN | apply below_drew1 | refine below_set ?_ GE205.out) | exact HB.out)⟩
                   ·rw [if_neg c80] at H
                    have c80b0 : decide (t217 < (rd l0_6 x101_4)) = false := decide_eq_false c80
                    clear c80
                    have H' := Aside0.mk H
                    clear H
                    try go_wp2
                    replace BK205 := Aside0.mk (blk_drew BK205.out); replace HB := Aside0.mk (below_drew1 HB.out)
                    have p212 : 0 ≤ (x101_4 : Int) := of_decide_eq_true (by first | (with_reducible assumption) | assumption)
                    have q212 : x101_4 < (l0_5.length : Int) := of_decide_eq_true (by first | (with_reducible assumption) | assumption)
                    obtain ⟨ad212, e212, hx212_0⟩ := Kd.at_int HR0_5.out x101_4 p212 q212
                    have hw212_0 := hx212_0
                    cases e212
                    replace hx212_0 := (HB.out.cell (World.block_lt_of_cell? w _ hx212_0)).trans hx212_0
                    replace p212 := eq_true p212
                    replace q212 := eq_true q212
                    have p213 : 0 ≤ (x101_4 : Int) := of_decide_eq_true (by first | (with_reducible assumption) | assumption)
                    have q213 : x101_4 < (l0_5.length : Int) := of_decide_eq_true (by first | (with_reducible assumption) | assumption)
                    obtain ⟨ad213, e213, hx213_0⟩ := Kd.at_int HR0_5.out x101_4 p213 q213
                    have hw213_0 := hx213_0
                    obtain rfl : ad212 = ad213 := (by injection e213)
                    replace hx213_0 := (HB.out.cell (World.block_lt_of_cell? w _ hx213_0)).trans hx213_0
                    replace p213 := eq_true p213
                    replace q213 := eq_true q213
                    have p215 : 0 ≤ (x101_4 : Int) := of_decide_eq_true (by first | (with_reducible assumption) | assumption)
                    have q215 : x101_4 < (l0_6.length : Int) := of_decide_eq_true (by first | (with_reducible assumption) | assumption)
                    obtain ⟨ad215, e215, hx215_0⟩ := Kd.at_int HR0_6.out x101_4 p215 q215
                    have hw215_0 := hx215_0
                    cases e215
                    replace hx215_0 := (HB.out.cell (World.block_lt_of_cell? w _ hx215_0)).trans hx215_0
                    replace p215 := eq_true p215
                    replace q215 := eq_true q215
                    have p216 : 0 ≤ (x101_4 : Int) := of_decide_eq_true (by first | (with_reducible assumption) | assumption)
                    have q216 : x101_4 < (l0_6.length : Int) := of_decide_eq_true (by first | (with_reducible assumption) | assumption)
                    obtain ⟨ad216, e216, hx216_0⟩ := Kd.at_int HR0_6.out x101_4 p216 q216
                    have hw216_0 := hx216_0
                    obtain rfl : ad215 = ad216 := (by injection e216)
                    replace hx216_0 := (HB.out.cell (World.block_lt_of_cell? w _ hx216_0)).trans hx216_0
                    replace p216 := eq_true p216
                    replace q216 := eq_true q216
                    refine start_ (n := 35) (S := fun w' => w'.cell? ⟨gb205, 0, none⟩ = some (.int .i64 a0_0) ∧ w'.cell? ⟨gb205, 1, none⟩ = some (.int .i64 a0_1) ∧ w'.cell? ⟨gb205, 2, none⟩ = some (.int .i64 a0_2) ∧ w'.cell? ⟨gb205, 3, none⟩ = some (.int .i64 a0_3) ∧ w'.cell? ⟨gb205, 4, none⟩ = some (.slice A0_4 l0_4.length c0_4) ∧ w'.cell? ⟨gb205, 5, none⟩ = some (.slice (some ad212) l0_5.length c0_5) ∧ w'.cell? ⟨gb205, 6, none⟩ = some (.slice (some ad215) l0_6.length c0_6) ∧ w'.cell? (ad212.add (x101_4).toNat) = some (.int .i64 (rd l0_5 x101_4)) ∧ w'.cell? (ad212.add (x101_4).toNat) = some (.int .i64 (rd l0_5 x101_4)) ∧ w'.cell? (ad215.add (x101_4).toNat) = some (.int .i64 (rd l0_6 x101_4)) ∧ w'.cell? (ad215.add (x101_4).toNat) = some (.int .i64 (rd l0_6 x101_4))) (ds := []) #[false, false, false, false, false, false, false, false, false, false, false, false, false, false, false, false, false, false, false, false, false, false, false, false, false, false, false, false, false, false, false, false, false, false, false] (by kernel_rfl) rfl rfl ⟨bc BK205 0, bc BK205 1, bc BK205 2, bc BK205 3, bc BK205 4, bc BK205 5, bc BK205 6, ((HB.out.cell (World.block_lt_of_cell? w _ hw212_0)).trans hw212_0), ((HB.out.cell (World.block_lt_of_cell? w _ hw213_0)).trans hw213_0), ((HB.out.cell (World.block_lt_of_cell? w _ hw215_0)).trans hw215_0), ((HB.out.cell (World.block_lt_of_cell? w _ hw216_0)).trans hw216_0)⟩ (fun hHeld => ?_); refine with_tabW target_Valid.tab15 target_Valid.bits15 (fun HT_ HW_ => ?_)
                    generalize wr.drew = w84 at BK205 HB hx212_0 hx213_0 hx215_0 hx216_0 hHeld ⊢
                    refine on HT_ 0 (some 104) ?_
                    refine on HT_ 2 (some 106) ?_
                    refine tk HT_ HW_ hHeld 1 (some 105) rfl (by rintro w' ⟨s0, s1, s2, s3, s4, s5, s6, s7, s8, s9, s10⟩; go_simp; with_reducible rfl) ?_
                    refine on HT_ 3 (some 107) ?_
                    refine tk HT_ HW_ hHeld 4 (some 108) rfl (by rintro w' ⟨s0, s1, s2, s3, s4, s5, s6, s7, s8, s9, s10⟩; go_simp; with_reducible rfl) ?_
                    refine on HT_ 5 (some 109) ?_
                    refine on HT_ 6 (some 110) ?_
                    refine on HT_ 7 (some 111) ?_
                    refine on HT_ 9 (some 113) ?_
                    refine on HT_ 12 (some 116) ?_
                    refine tk HT_ HW_ hHeld 8 (some 112) rfl (by rintro w' ⟨s0, s1, s2, s3, s4, s5, s6, s7, s8, s9, s10⟩; go_simp; with_reducible rfl) ?_
                    refine on HT_ 10 (some 114) ?_
                    refine tk HT_ HW_ hHeld 11 (some 115) rfl (by rintro w' ⟨s0, s1, s2, s3, s4, s5, s6, s7, s8, s9, s10⟩; go_simp; with_reducible rfl) ?_
                    refine tk HT_ HW_ hHeld 13 (some 117) rfl (by rintro w' ⟨s0, s1, s2, s3, s4, s5, s6, s7, s8, s9, s10⟩; go_simp; with_reducible rfl) ?_
                    refine one_ (i := 14) (N := some 118) #[true, true, true, true, true, true, true, true, true, true, true, true, true, true, true, false, false, false, false, false, false, false, false, false, false, false, false, false, false, false, false, false, false, false, false] rfl rfl (one_of HT_.out (by kernel_rfl)) (by decide) (fun K hK => ?_)
                    refine goes_ Try.func30 (by kernel_rfl) rfl #[.int .i64 a0_3] (by rfl) rfl rfl (by (try simp only [List.map_toArray, List.map_cons, List.map_nil]); first | done | rfl | (simp only [List.length_drop, List.length_take]; rfl)) ?_
                    with_reducible refine (depth_Max.calls a0_3 t214 _ A71.out).mono ?_; rintro e w85 ⟨rfl, hb⟩; refine ⟨_, rfl, ?_⟩; replace BK205 := ub BK205 hb; replace HB := bs HB hb; (try clear hb); (try clear hb2); (try clear hk); (try clear hi)
                    refine hK.out _ _ ⟨bc BK205 0, bc BK205 1, bc BK205 2, bc BK205 3, bc BK205 4, bc BK205 5, bc BK205 6, ((HB.out.cell (World.block_lt_of_cell? w _ hw212_0)).trans hw212_0), ((HB.out.cell (World.block_lt_of_cell? w _ hw213_0)).trans hw213_0), ((HB.out.cell (World.block_lt_of_cell? w _ hw215_0)).trans hw215_0), ((HB.out.cell (World.block_lt_of_cell? w _ hw216_0)).trans hw216_0)⟩ (fun hHeld => ?_)
                    clear hK K
                    refine norm_ (a' := ?_) ?_ ?_
                    rotate_left
                    ·show Act.put _ (some 118) _ = _
                     simp only [Act.put, List.setIfInBounds_toArray, List.set_cons_zero, List.set_cons_succ, i64_w, i32_w]
                     rfl
                    refine on HT_ 15 (some 119) ?_
                    refine on HT_ 16 (some 120) ?_
                    refine on HT_ 17 (some 121) ?_
                    refine on HT_ 18 (some 122) ?_
                    refine on HT_ 20 (some 124) ?_
                    refine tk HT_ HW_ hHeld 19 (some 123) rfl (by rintro w' ⟨s0, s1, s2, s3, s4, s5, s6, s7, s8, s9, s10⟩; go_simp; with_reducible rfl) ?_
                    refine on HT_ 21 (some 125) ?_
                    refine tk HT_ HW_ hHeld 22 (some 126) rfl (by rintro w' ⟨s0, s1, s2, s3, s4, s5, s6, s7, s8, s9, s10⟩; go_simp; with_reducible rfl) ?_
                    refine on HT_ 23 (some 127) ?_
                    refine on HT_ 24 (some 128) ?_
                    refine on HT_ 25 (some 129) ?_
                    refine on HT_ 26 (some 130) ?_
                    refine on HT_ 28 (some 132) ?_
                    refine tk HT_ HW_ hHeld 27 (some 131) rfl (by rintro w' ⟨s0, s1, s2, s3, s4, s5, s6, s7, s8, s9, s10⟩; go_simp; with_reducible rfl) ?_
                    refine on HT_ 29 (some 133) ?_
                    refine tk HT_ HW_ hHeld 30 (some 134) rfl (by rintro w' ⟨s0, s1, s2, s3, s4, s5, s6, s7, s8, s9, s10⟩; go_simp; with_reducible rfl) ?_
                    refine tk HT_ HW_ hHeld 31 (some 135) rfl (by rintro w' ⟨s0, s1, s2, s3, s4, s5, s6, s7, s8, s9, s10⟩; go_simp; with_reducible rfl) ?_
                    refine one_ (i := 32) (N := some 136) #[true, true, true, true, true, true, true, true, true, true, true, true, true, true, true, true, true, true, true, true, true, true, true, true, true, true, true, true, true, true, true, true, true, false, false] rfl rfl (one_of HT_.out (by kernel_rfl)) (by decide) (fun K hK => ?_)
                    refine goes_ Try.func31 (by kernel_rfl) rfl #[.agg #[.int .i64 a0_0, .int .i64 a0_1, .int .i64 a0_2, .int .i64 a0_3, .slice A0_4 l0_4.length c0_4, .slice (some ad212) l0_5.length c0_5, .slice (some ad215) l0_6.length c0_6]] (by rfl) rfl rfl (by (try simp only [List.map_toArray, List.map_cons, List.map_nil]); first | done | rfl | (simp only [List.length_drop, List.length_take]; rfl)) ?_
                    with_reducible refine (target_mostStencil.calls a0_0 a0_1 a0_2 a0_3 _ _ l0_4 _ _ l0_5 _ _ l0_6 t217 _ ?side1 ?side2 ?side3 ?side4 ?side5 ?side6 A79.out).mono ?_
                    (case side1 => repeat (first | exact (Kd.C_below HR0_4.out HB.out) | (with_reducible refine Kd.C_alloc ?_ _) | (with_reducible refine Kd.C_drewN ?_ _) | (with_reducible refine Kd.C_drew ?_)))
                    (case side2 => exact HC0_4.out)
                    (case side3 => repeat (first | exact (Kd.C_below HR0_5.out HB.out) | (with_reducible refine Kd.C_alloc ?_ _) | (with_reducible refine Kd.C_drewN ?_ _) | (with_reducible refine Kd.C_drew ?_)))
                    (case side4 => exact HC0_5.out)
                    (case side5 => repeat (first | exact (Kd.C_below HR0_6.out HB.out) | (with_reducible refine Kd.C_alloc ?_ _) | (with_reducible refine Kd.C_drewN ?_ _) | (with_reducible refine Kd.C_drew ?_)))
                    (case side6 => exact HC0_6.out)
                    rintro e w86 ⟨rfl, hb⟩; refine ⟨_, rfl, ?_⟩; replace BK205 := ub BK205 hb; replace HB := bs HB hb; (try clear hb); (try clear hb2); (try clear hk); (try clear hi)
                    refine hK.out _ _ ⟨bc BK205 0, bc BK205 1, bc BK205 2, bc BK205 3, bc BK205 4, bc BK205 5, bc BK205 6, ((HB.out.cell (World.block_lt_of_cell? w _ hw212_0)).trans hw212_0), ((HB.out.cell (World.block_lt_of_cell? w _ hw213_0)).trans hw213_0), ((HB.out.cell (World.block_lt_of_cell? w _ hw215_0)).trans hw215_0), ((HB.out.cell (World.block_lt_of_cell? w _ hw216_0)).trans hw216_0)⟩ (fun hHeld => ?_)
                    clear hK K
                    refine norm_ (a' := ?_) ?_ ?_
                    rotate_left
                    ·show Act.put _ (some 136) _ = _
                     simp only [Act.put, List.setIfInBounds_toArray, List.set_cons_zero, List.set_cons_succ, i64_w, i32_w]
                     rfl
                    refine on HT_ 33 (some 137) ?_
                    refine on HT_ 34 (some 138) ?_
                    refine done_ (done_of HT_.out (by kernel_rfl)) ?_
                    try go_wp2
                    go_roundg k4
                    case measure => have := HJ1.out; have := HK2.out; have := HJ59.out; have := HK4.out; omega
                    case rel => exact ⟨(wrap64 (x101_4 + 1)), (by first | rfl | (simp; done) | (simp [*]; done)), H', ⟨by have := HJ1.out; have := HK2.out; have := HJ59.out; have := HK4.out; omega⟩, ⟨by (with_reducible repeat (first | refine blk_drewN ?_ _ | refine blk_drew ?_ | refine blk_alloc ?_ _)); exact BK205.out⟩, ⟨by repeat (first | (with_reducible first | exact HB.out | apply below_alloc | apply pw_below_drewN | apply below_drew1 | refine below_set ?_ GE205.out) | exact HB.out)⟩⟩
                 ·rw [if_neg c75] at H
                  exact absurd H (by simp)
              ·rw [if_neg c68] at H
               exact absurd H (by simp)
             ·rw [if_neg c67] at H
              exact absurd H (by simp)
            ·rw [if_neg c66] at H
             have c66b0 : decide (x101_4 < (wrap64 ((wrap64 (a0_0 * a0_1)) * a0_2))) = false := decide_eq_false c66
             clear c66
             obtain rfl := Option.some.inj H
             go_wp2
             go_ret
             exact ⟨by first | rfl | (simp [errW_none, errW_some] <;> rfl) | (simp [*, errW_none, errW_some] <;> rfl), by repeat (first | (with_reducible first | exact HB.out | apply below_alloc | apply pw_below_drewN | apply below_drew1 | refine below_set ?_ GE205.out) | exact HB.out)⟩

end Go.Proofs.Ytmpmennepjkocaa.PTargetMerge
