/- TargetMerge: walks of functions, by the printed steps made shorter. No condition. -/
/- Walks of functions, by printed steps, in short words. No condition. -/
import Derived.Test.YtmpmennepjkocaaStep
import Derived.Test.YtmpmennepjkocaaPTargetMergex0
import Derived.Test.YtmpmennepjkocaaPTargetMergex11
namespace Go.Proofs.Ytmpmennepjkocaa.PTargetMerge
open Go.RowKit Go.Proofs.YtmpmennepjkocaaW.PrintWords Go.Proofs.YtmpmennepjkocaaW.PrintLast Go.Proofs.YtmpmennepjkocaaW.PrintMore Go.Proofs.Ytmpmennepjkocaa.Step
attribute [local go_sem] max2_int min2_int max_two min_two max_three min_three max_four min_four   -- for this text's walks alone
set_option linter.unusedVariables false
set_option linter.unusedSimpArgs false

/-! ### frustumref42_Valid: function 12 -/
mutual
def frustumref42_Valid.j0 : Nat → Bool → Int → Int → Int → Int → List (S47) → List Int → List Int → Option (Bool)
 | 0, _, _, _, _, _, _, _, _ => none
 | k + 1, x43, x289000, x289001, x289002, x289003, x289004, x289005, x289006 => if x43 = true then (some false) else (frustumref42_Valid.l0 k 0 x289000 x289001 x289002 x289003 x289004 x289005 x289006)
def frustumref42_Valid.l0 : Nat → Int → Int → Int → Int → Int → List (S47) → List Int → List Int → Option (Bool)
 | 0, _, _, _, _, _, _, _, _ => none
 | k + 1, x3, x289000, x289001, x289002, x289003, x289004, x289005, x289006 => if x3 < (x289004.length : Int) then (if 0 ≤ x3 then ((frustumref10_Valid.f k ((rd_T47 x289004 x3).f0) ((rd_T47 x289004 x3).f1) ((rd_T47 x289004 x3).f2) ((rd_T47 x289004 x3).f3)).bind fun t293 => (if t293 = true then (if 0 < (x289004.length : Int) then (if ((rd_T47 x289004 x3).f0) = ((rd_T47 x289004 0).f0) then (if ((rd_T47 x289004 x3).f1) = x289000 then (if ((rd_T47 x289004 x3).f2) = x289001 then (frustumref42_Valid.l0 k (wrap64 (x3 + 1)) x289000 x289001 x289002 x289003 x289004 x289005 x289006) else (some false)) else (some false)) else (some false)) else (none)) else (some false))) else (none)) else (if (x289005.length : Int) = (wrap64 ((wrap64 (x289000 * x289001)) * x289002)) then (if (x289006.length : Int) = (wrap64 ((wrap64 (x289000 * x289001)) * x289002)) then ((frustumref38_Max.f k x289003).bind fun t295 => ((frustumref42_limited.f k x289005 t295).bind fun t296 => (if t296 = true then ((frustumref42_most.f x289003).bind fun t297 => ((frustumref42_limited.f k x289006 t297).bind fun t298 => (some t298))) else (some false)))) else (some false)) else (some false))
end
def frustumref42_Valid.f (k : Nat) (a0_0 : Int) (a0_1 : Int) (a0_2 : Int) (a0_3 : Int) (l0_4 : List (S47)) (l0_5 : List Int) (l0_6 : List Int) : Option (Bool) := if a0_0 < 1 then (frustumref42_Valid.j0 k true a0_0 a0_1 a0_2 a0_3 l0_4 l0_5 l0_6) else (if a0_0 > 64 then (frustumref42_Valid.j0 k true a0_0 a0_1 a0_2 a0_3 l0_4 l0_5 l0_6) else (if a0_1 < 1 then (frustumref42_Valid.j0 k true a0_0 a0_1 a0_2 a0_3 l0_4 l0_5 l0_6) else (if a0_1 > 64 then (frustumref42_Valid.j0 k true a0_0 a0_1 a0_2 a0_3 l0_4 l0_5 l0_6) else ((frustumref35_ValidSamples.f a0_2).bind fun t289 => (if t289 = true then ((frustumref38_Bits.f a0_3).bind fun t290 => (if t290 < 0 then (frustumref42_Valid.j0 k true a0_0 a0_1 a0_2 a0_3 l0_4 l0_5 l0_6) else (frustumref42_Valid.j0 k ((l0_4.length : Int) != a0_2) a0_0 a0_1 a0_2 a0_3 l0_4 l0_5 l0_6))) else (frustumref42_Valid.j0 k true a0_0 a0_1 a0_2 a0_3 l0_4 l0_5 l0_6))))))
def frustumref42_Valid.T7 : Bool × List (List Nat × List Nat) := (true, [([], []), ([0], [0]), ([1], [1]), ([2, 1], [2]), ([3], [3]), ([4, 3], [3, 4]), ([3], [3]), ([6, 3], [3, 6]), ([7, 3], [3, 7]), ([8, 3], [3, 8]), ([9, 3], [3, 9]), ([5, 10, 3], [3, 5, 10]), ([3, 11], [3, 11]), ([12, 3], [12]), ([13], [13]), ([14, 13], [13, 14]), ([13], [13]), ([16, 13], [13, 16]), ([15, 17, 13], [13, 15, 17]), ([13, 18], [13, 18]), ([19, 13], [19]), ([20], [20]), ([21, 20], [20, 21]), ([20], [20]), ([23, 20], [20, 23]), ([22, 24, 20], [20, 22, 24]), ([20, 25], [20, 25])])
def frustumref42_Valid.B7 : List Nat := [0, 1, 3, 7, 15, 31, 15, 79, 207, 463, 975, 2047, 4095, 8191, 16383, 32767, 16383, 81919, 262143, 524287, 1048575, 2097151, 4194303, 2097151, 10485759, 33554431, 67108863]
theorem frustumref42_Valid.tab7 : rtab .any (opsOf Try.f12 7) = frustumref42_Valid.T7 := by kernel_rfl
theorem frustumref42_Valid.bits7 : waitsOk frustumref42_Valid.T7.2 frustumref42_Valid.B7 = true := by kernel_rfl
def frustumref42_Valid.T10 : Bool × List (List Nat × List Nat) := (true, [([], []), ([0], [0]), ([1], [1]), ([], []), ([2, 3], [2, 3]), ([4], [4]), ([5], [5]), ([6, 5], [5, 6]), ([7, 5], [5, 7]), ([5], [5]), ([8, 9, 5], [5, 8, 9]), ([5, 10], [5, 10]), ([11, 5], [11]), ([12], [12]), ([13, 12], [12, 13]), ([12], [12]), ([15, 12], [12, 15]), ([16, 12, 12], [12, 16]), ([14, 17, 17, 12], [12, 14, 17]), ([12, 18], [12, 18]), ([19, 18], [19]), ([20], [20]), ([21, 20], [20, 21]), ([20], [20]), ([23, 20], [20, 23]), ([24, 20, 20], [20, 24]), ([22, 25, 25, 20], [20, 22, 25]), ([20, 26], [20, 26]), ([27, 26, 0, 1, 2, 3, 4, 5, 6, 7, 8, 9, 10, 11, 12, 13, 14, 15, 16, 17, 18, 19, 20, 21, 22, 23, 24, 25, 26, 27], [27])])
def frustumref42_Valid.B10 : List Nat := [0, 1, 3, 0, 15, 31, 63, 127, 255, 63, 1023, 2047, 4095, 8191, 16383, 8191, 40959, 106495, 262143, 524287, 1048575, 2097151, 4194303, 2097151, 10485759, 27262975, 67108863, 134217727, 268435455]
theorem frustumref42_Valid.tab10 : rtab .any (opsOf Try.f12 10) = frustumref42_Valid.T10 := by kernel_rfl
theorem frustumref42_Valid.bits10 : waitsOk frustumref42_Valid.T10.2 frustumref42_Valid.B10 = true := by kernel_rfl
set_option maxHeartbeats 8000000 in
set_option maxRecDepth 100000 in
theorem frustumref42_Valid.calls (k : Nat) (a0_0 : Int) (a0_1 : Int) (a0_2 : Int) (a0_3 : Int) (A0_4 : Option Addr) (c0_4 : Nat) (l0_4 : List (S47)) (A0_5 : Option Addr) (c0_5 : Nat) (l0_5 : List Int) (A0_6 : Option Addr) (c0_6 : Nat) (l0_6 : List Int) (r : Bool) (w : World) (hr0_4 : Kd.C k47 w A0_4 l0_4.length l0_4) (hc0_4 : l0_4.length ≤ c0_4) (hr0_5 : Kd.C (Kd.int .i64) w A0_5 l0_5.length l0_5) (hc0_5 : l0_5.length ≤ c0_5) (hr0_6 : Kd.C (Kd.int .i64) w A0_6 l0_6.length l0_6) (hc0_6 : l0_6.length ≤ c0_6) (h : frustumref42_Valid.f k a0_0 a0_1 a0_2 a0_3 l0_4 l0_5 l0_6 = some r) :
  Calls Try.prog 12 #[.agg #[.int .i64 a0_0, .int .i64 a0_1, .int .i64 a0_2, .int .i64 a0_3, .slice A0_4 l0_4.length c0_4, .slice A0_5 l0_5.length c0_5, .slice A0_6 l0_6.length c0_6]] w fun e w' => e = .returned (.bool r) ∧ Below w.heap.size w w' := by
 have hu28 := Try.underlying28; have hu47 := Try.underlying47; have HR0_4 := Aside0.mk hr0_4; have HC0_4 := Aside0.mk hc0_4; clear hr0_4 hc0_4; have HR0_5 := Aside0.mk hr0_5; have HC0_5 := Aside0.mk hc0_5; clear hr0_5 hc0_5; have HR0_6 := Aside0.mk hr0_6; have HC0_6 := Aside0.mk hc0_6; clear hr0_6 hc0_6; have HB := Aside0.mk (Below.refl w.heap.size w)
 have H : (if a0_0 < 1 then (frustumref42_Valid.j0 k true a0_0 a0_1 a0_2 a0_3 l0_4 l0_5 l0_6) else (if a0_0 > 64 then (frustumref42_Valid.j0 k true a0_0 a0_1 a0_2 a0_3 l0_4 l0_5 l0_6) else (if a0_1 < 1 then (frustumref42_Valid.j0 k true a0_0 a0_1 a0_2 a0_3 l0_4 l0_5 l0_6) else (if a0_1 > 64 then (frustumref42_Valid.j0 k true a0_0 a0_1 a0_2 a0_3 l0_4 l0_5 l0_6) else ((frustumref35_ValidSamples.f a0_2).bind fun t289 => (if t289 = true then ((frustumref38_Bits.f a0_3).bind fun t290 => (if t290 < 0 then (frustumref42_Valid.j0 k true a0_0 a0_1 a0_2 a0_3 l0_4 l0_5 l0_6) else (frustumref42_Valid.j0 k ((l0_4.length : Int) != a0_2) a0_0 a0_1 a0_2 a0_3 l0_4 l0_5 l0_6))) else (frustumref42_Valid.j0 k true a0_0 a0_1 a0_2 a0_3 l0_4 l0_5 l0_6))))))) = some r := h
 clear h; have HC2 := Aside0.mk H; clear H
 go_enter Try.func12, Try.ntmps12
 go_upto_region 1 with (first | ((with_reducible refine gate_dst (N := 1) rfl ?_); (try (refine gate_guard (by rfl) ?_; dsimp only)); refine box_event ?hg (N := 1) ?hd (cs := #[.int .i64 a0_0, .int .i64 a0_1, .int .i64 a0_2, .int .i64 a0_3, .slice A0_4 l0_4.length c0_4, .slice A0_5 l0_5.length c0_5, .slice A0_6 l0_6.length c0_6]) (t := 28) ?hr ?_; (case hd => rfl); (case hg => rfl); (case hr => first | (go_simp; done) | (go_simp; rfl)); intro gb288 hg w3 hbox hb; have BK288 := Aside0.mk (hbox); have GW288 := ws HB hg; have GE288 := ws HB hg; replace HB := bs HB hb; clear hb hbox hg))
 (try simp only [Act.put, List.setIfInBounds_toArray, List.set_cons_zero, List.set_cons_succ])
 go_cut [43] (fun v43 wc => ∃ (kq : Nat) (x43_1 : Bool), v43 = .bool x43_1 ∧ Aside0 (frustumref42_Valid.j0 kq x43_1 a0_0 a0_1 a0_2 a0_3 l0_4 l0_5 l0_6 = some r) ∧ Aside0 (kq ≤ k) ∧ Aside0 (wc.heap[gb288]? = some (.cells #[.int .i64 a0_0, .int .i64 a0_1, .int .i64 a0_2, .int .i64 a0_3, (.slice A0_4 l0_4.length c0_4), (.slice A0_5 l0_5.length c0_5), (.slice A0_6 l0_6.length c0_6)] 28 (0, 0))) ∧ Aside0 (Below w.heap.size w wc))
 case first =>
  have H := HC2.out; clear HC2
  by_cases c4 : a0_0 < 1
  ·rw [if_pos c4] at H
   have c4b0 : decide (a0_0 < 1) = true := decide_eq_true c4
   clear c4
   (first | rw [c4b0] | (simp only [i64_w, i32_w]; rw [c4b0]) | skip)
   have H' := Aside0.mk H
   clear H
   have hcz5_0 : w3.cell? ⟨gb288, 0, none⟩ = some (.int .i64 a0_0) := bc BK288 0
   have hcz5_1 : w3.cell? ⟨gb288, 1, none⟩ = some (.int .i64 a0_1) := bc BK288 1
   have hcz5_2 : w3.cell? ⟨gb288, 2, none⟩ = some (.int .i64 a0_2) := bc BK288 2
   have hcz5_3 : w3.cell? ⟨gb288, 3, none⟩ = some (.int .i64 a0_3) := bc BK288 3
   have hcz5_4 : w3.cell? ⟨gb288, 4, none⟩ = some (.slice A0_4 l0_4.length c0_4) := bc BK288 4
   have hcz5_5 : w3.cell? ⟨gb288, 5, none⟩ = some (.slice A0_5 l0_5.length c0_5) := bc BK288 5
   have hcz5_6 : w3.cell? ⟨gb288, 6, none⟩ = some (.slice A0_6 l0_6.length c0_6) := bc BK288 6
   have hfz5_0 := blk_frozen BK288.out 0; have hfz5_1 := blk_frozen BK288.out 1; have hfz5_2 := blk_frozen BK288.out 2; have hfz5_3 := blk_frozen BK288.out 3; have hfz5_4 := blk_frozen BK288.out 4; have hfz5_5 := blk_frozen BK288.out 5; have hfz5_6 := blk_frozen BK288.out 6
   go_wp2
   go_meet
   case rel => exact ⟨_, (true), (by first | rfl | (simp; done) | (simp [*]; done)), H', ⟨by first | omega | exact Nat.le_refl _⟩, ⟨by (with_reducible repeat (first | refine blk_drewN ?_ _ | refine blk_drew ?_ | refine blk_alloc ?_ _)); exact BK288.out⟩, ⟨by repeat (first | (with_reducible first | exact HB.out | apply below_alloc | apply pw_below_drewN | apply below_drew1 | refine below_set ?_ GE288.out) | exact HB.out)⟩⟩
  ·rw [if_neg c4] at H
   have c4b0 : decide (a0_0 < 1) = false := decide_eq_false c4
   clear c4
   (first | rw [c4b0] | (simp only [i64_w, i32_w]; rw [c4b0]) | skip)
   by_cases c6 : a0_0 > 64
   ·rw [if_pos c6] at H
    have c6b0 : decide (64 < a0_0) = true := decide_eq_true c6
    clear c6
    have H' := Aside0.mk H
    clear H
    have hcz7_0 : w3.cell? ⟨gb288, 0, none⟩ = some (.int .i64 a0_0) := bc BK288 0
    have hcz7_1 : w3.cell? ⟨gb288, 1, none⟩ = some (.int .i64 a0_1) := bc BK288 1
    have hcz7_2 : w3.cell? ⟨gb288, 2, none⟩ = some (.int .i64 a0_2) := bc BK288 2
    have hcz7_3 : w3.cell? ⟨gb288, 3, none⟩ = some (.int .i64 a0_3) := bc BK288 3
    have hcz7_4 : w3.cell? ⟨gb288, 4, none⟩ = some (.slice A0_4 l0_4.length c0_4) := bc BK288 4
    have hcz7_5 : w3.cell? ⟨gb288, 5, none⟩ = some (.slice A0_5 l0_5.length c0_5) := bc BK288 5
    have hcz7_6 : w3.cell? ⟨gb288, 6, none⟩ = some (.slice A0_6 l0_6.length c0_6) := bc BK288 6
    have hfz7_0 := blk_frozen BK288.out 0; have hfz7_1 := blk_frozen BK288.out 1; have hfz7_2 := blk_frozen BK288.out 2; have hfz7_3 := blk_frozen BK288.out 3; have hfz7_4 := blk_frozen BK288.out 4; have hfz7_5 := blk_frozen BK288.out 5; have hfz7_6 := blk_frozen BK288.out 6
    go_wp2
    go_meet
    case rel => exact ⟨_, (true), (by first | rfl | (simp; done) | (simp [*]; done)), H', ⟨by first | omega | exact Nat.le_refl _⟩, ⟨by (with_reducible repeat (first | refine blk_drewN ?_ _ | refine blk_drew ?_ | refine blk_alloc ?_ _)); exact BK288.out⟩, ⟨by repeat (first | (with_reducible first | exact HB.out | apply below_alloc | apply pw_below_drewN | apply below_drew1 | refine below_set ?_ GE288.out) | exact HB.out)⟩⟩
   ·rw [if_neg c6] at H
    have c6b0 : decide (64 < a0_0) = false := decide_eq_false c6
    clear c6
    by_cases c8 : a0_1 < 1
    ·rw [if_pos c8] at H
     have c8b0 : decide (a0_1 < 1) = true := decide_eq_true c8
     clear c8
     have H' := Aside0.mk H
     clear H
     have hcz9_0 : w3.cell? ⟨gb288, 0, none⟩ = some (.int .i64 a0_0) := bc BK288 0
     have hcz9_1 : w3.cell? ⟨gb288, 1, none⟩ = some (.int .i64 a0_1) := bc BK288 1
     have hcz9_2 : w3.cell? ⟨gb288, 2, none⟩ = some (.int .i64 a0_2) := bc BK288 2
     have hcz9_3 : w3.cell? ⟨gb288, 3, none⟩ = some (.int .i64 a0_3) := bc BK288 3
     have hcz9_4 : w3.cell? ⟨gb288, 4, none⟩ = some (.slice A0_4 l0_4.length c0_4) := bc BK288 4
     have hcz9_5 : w3.cell? ⟨gb288, 5, none⟩ = some (.slice A0_5 l0_5.length c0_5) := bc BK288 5
     have hcz9_6 : w3.cell? ⟨gb288, 6, none⟩ = some (.slice A0_6 l0_6.length c0_6) := bc BK288 6
     have hfz9_0 := blk_frozen BK288.out 0; have hfz9_1 := blk_frozen BK288.out 1; have hfz9_2 := blk_frozen BK288.out 2; have hfz9_3 := blk_frozen BK288.out 3; have hfz9_4 := blk_frozen BK288.out 4; have hfz9_5 := blk_frozen BK288.out 5; have hfz9_6 := blk_frozen BK288.out 6
     go_wp2
     go_meet
     case rel => exact ⟨_, (true), (by first | rfl | (simp; done) | (simp [*]; done)), H', ⟨by first | omega | exact Nat.le_refl _⟩, ⟨by (with_reducible repeat (first | refine blk_drewN ?_ _ | refine blk_drew ?_ | refine blk_alloc ?_ _)); exact BK288.out⟩, ⟨by repeat (first | (with_reducible first | exact HB.out | apply below_alloc | apply pw_below_drewN | apply below_drew1 | refine below_set ?_ GE288.out) | exact HB.out)⟩⟩
    ·rw [if_neg c8] at H
     have c8b0 : decide (a0_1 < 1) = false := decide_eq_false c8
     clear c8
     by_cases c10 : a0_1 > 64
     ·rw [if_pos c10] at H
      have c10b0 : decide (64 < a0_1) = true := decide_eq_true c10
      clear c10
      have H' := Aside0.mk H
      clear H
      have hcz11_0 : w3.cell? ⟨gb288, 0, none⟩ = some (.int .i64 a0_0) := bc BK288 0
      have hcz11_1 : w3.cell? ⟨gb288, 1, none⟩ = some (.int .i64 a0_1) := bc BK288 1
      have hcz11_2 : w3.cell? ⟨gb288, 2, none⟩ = some (.int .i64 a0_2) := bc BK288 2
      have hcz11_3 : w3.cell? ⟨gb288, 3, none⟩ = some (.int .i64 a0_3) := bc BK288 3
      have hcz11_4 : w3.cell? ⟨gb288, 4, none⟩ = some (.slice A0_4 l0_4.length c0_4) := bc BK288 4
      have hcz11_5 : w3.cell? ⟨gb288, 5, none⟩ = some (.slice A0_5 l0_5.length c0_5) := bc BK288 5
      have hcz11_6 : w3.cell? ⟨gb288, 6, none⟩ = some (.slice A0_6 l0_6.length c0_6) := bc BK288 6
      have hfz11_0 := blk_frozen BK288.out 0; have hfz11_1 := blk_frozen BK288.out 1; have hfz11_2 := blk_frozen BK288.out 2; have hfz11_3 := blk_frozen BK288.out 3; have hfz11_4 := blk_frozen BK288.out 4; have hfz11_5 := blk_frozen BK288.out 5; have hfz11_6 := blk_frozen BK288.out 6
      go_wp2
      go_meet
      case rel => exact ⟨_, (true), (by first | rfl | (simp; done) | (simp [*]; done)), H', ⟨by first | omega | exact Nat.le_refl _⟩, ⟨by (with_reducible repeat (first | refine blk_drewN ?_ _ | refine blk_drew ?_ | refine blk_alloc ?_ _)); exact BK288.out⟩, ⟨by repeat (first | (with_reducible first | exact HB.out | apply below_alloc | apply pw_below_drewN | apply below_drew1 | refine below_set ?_ GE288.out) | exact HB.out)⟩⟩
     ·rw [if_neg c10] at H
      have c10b0 : decide (64 < a0_1) = false := decide_eq_false c10
      clear c10
      replace H := Option.bind_eq_some_iff.mp H
      obtain ⟨t289, A120, H⟩ := H
      replace H : (if t289 = true then ((frustumref38_Bits.f a0_3).bind fun t290 => (if t290 < 0 then (frustumref42_Valid.j0 k true a0_0 a0_1 a0_2 a0_3 l0_4 l0_5 l0_6) else (frustumref42_Valid.j0 k ((l0_4.length : Int) != a0_2) a0_0 a0_1 a0_2 a0_3 l0_4 l0_5 l0_6))) else (frustumref42_Valid.j0 k true a0_0 a0_1 a0_2 a0_3 l0_4 l0_5 l0_6)) = some r := H
      have A12 := Aside0.mk A120; clear A120
      by_cases c13 : t289 = true
      ·subst c13
       have H1 : ((frustumref38_Bits.f a0_3).bind fun t290 => (if t290 < 0 then (frustumref42_Valid.j0 k true a0_0 a0_1 a0_2 a0_3 l0_4 l0_5 l0_6) else (frustumref42_Valid.j0 k ((l0_4.length : Int) != a0_2) a0_0 a0_1 a0_2 a0_3 l0_4 l0_5 l0_6))) = some r := by rw [if_pos rfl] at H; exact H
       clear H; have H := H1; clear H1
       replace H := Option.bind_eq_some_iff.mp H
       obtain ⟨t290, A140, H⟩ := H
       replace H : (if t290 < 0 then (frustumref42_Valid.j0 k true a0_0 a0_1 a0_2 a0_3 l0_4 l0_5 l0_6) else (frustumref42_Valid.j0 k ((l0_4.length : Int) != a0_2) a0_0 a0_1 a0_2 a0_3 l0_4 l0_5 l0_6)) = some r := H
       have A14 := Aside0.mk A140; clear A140
       by_cases c15 : t290 < 0
       ·rw [if_pos c15] at H
        have c15b0 : decide (t290 < 0) = true := decide_eq_true c15
        clear c15
        have H' := Aside0.mk H
        clear H
        have hcz16_0 : w3.cell? ⟨gb288, 0, none⟩ = some (.int .i64 a0_0) := bc BK288 0
        have hcz16_1 : w3.cell? ⟨gb288, 1, none⟩ = some (.int .i64 a0_1) := bc BK288 1
        have hcz16_2 : w3.cell? ⟨gb288, 2, none⟩ = some (.int .i64 a0_2) := bc BK288 2
        have hcz16_3 : w3.cell? ⟨gb288, 3, none⟩ = some (.int .i64 a0_3) := bc BK288 3
        have hcz16_4 : w3.cell? ⟨gb288, 4, none⟩ = some (.slice A0_4 l0_4.length c0_4) := bc BK288 4
        have hcz16_5 : w3.cell? ⟨gb288, 5, none⟩ = some (.slice A0_5 l0_5.length c0_5) := bc BK288 5
        have hcz16_6 : w3.cell? ⟨gb288, 6, none⟩ = some (.slice A0_6 l0_6.length c0_6) := bc BK288 6
        have hfz16_0 := blk_frozen BK288.out 0; have hfz16_1 := blk_frozen BK288.out 1; have hfz16_2 := blk_frozen BK288.out 2; have hfz16_3 := blk_frozen BK288.out 3; have hfz16_4 := blk_frozen BK288.out 4; have hfz16_5 := blk_frozen BK288.out 5; have hfz16_6 := blk_frozen BK288.out 6
        go_wp2_with (first | (go_at_call 25; (with_reducible refine (frustumref35_ValidSamples.calls a0_2 true _ A12.out).mono ?_); rintro e w' ⟨rfl, ⟨nd, rfl⟩⟩) | (go_at_call 24; (with_reducible refine (frustumref38_Bits.calls a0_3 t290 _ A14.out).mono ?_); rintro e w' ⟨rfl, ⟨nd, rfl⟩⟩))
        go_meet
        case rel => exact ⟨_, (true), (by first | rfl | (simp; done) | (simp [*]; done)), H', ⟨by first | omega | exact Nat.le_refl _⟩, ⟨by (with_reducible repeat (first | refine blk_drewN ?_ _ | refine blk_drew ?_ | refine blk_alloc ?_ _)); exact BK288.out⟩, ⟨by repeat (first | (with_reducible first | exact HB.out | apply below_alloc | apply pw_below_drewN | apply below_drew1 | refine below_set ?_ GE288.out) | exact HB.out)⟩⟩
       ·rw [if_neg c15] at H
        have c15b0 : decide (t290 < 0) = false := decide_eq_false c15
        clear c15
        have H' := Aside0.mk H
        clear H
        have hcz17_0 : w3.cell? ⟨gb288, 0, none⟩ = some (.int .i64 a0_0) := bc BK288 0
        have hcz17_1 : w3.cell? ⟨gb288, 1, none⟩ = some (.int .i64 a0_1) := bc BK288 1
        have hcz17_2 : w3.cell? ⟨gb288, 2, none⟩ = some (.int .i64 a0_2) := bc BK288 2
        have hcz17_3 : w3.cell? ⟨gb288, 3, none⟩ = some (.int .i64 a0_3) := bc BK288 3
        have hcz17_4 : w3.cell? ⟨gb288, 4, none⟩ = some (.slice A0_4 l0_4.length c0_4) := bc BK288 4
        have hcz17_5 : w3.cell? ⟨gb288, 5, none⟩ = some (.slice A0_5 l0_5.length c0_5) := bc BK288 5
        have hcz17_6 : w3.cell? ⟨gb288, 6, none⟩ = some (.slice A0_6 l0_6.length c0_6) := bc BK288 6
        have hfz17_0 := blk_frozen BK288.out 0; have hfz17_1 := blk_frozen BK288.out 1; have hfz17_2 := blk_frozen BK288.out 2; have hfz17_3 := blk_frozen BK288.out 3; have hfz17_4 := blk_frozen BK288.out 4; have hfz17_5 := blk_frozen BK288.out 5; have hfz17_6 := blk_frozen BK288.out 6
        go_wp2_with (first | (go_at_call 25; (with_reducible refine (frustumref35_ValidSamples.calls a0_2 true _ A12.out).mono ?_); rintro e w' ⟨rfl, ⟨nd, rfl⟩⟩) | (go_at_call 24; (with_reducible refine (frustumref38_Bits.calls a0_3 t290 _ A14.out).mono ?_); rintro e w' ⟨rfl, ⟨nd, rfl⟩⟩))
        go_meet
        case rel => exact ⟨_, (((l0_4.length : Int) != a0_2)), (by first | rfl | (simp; done) | (simp [*]; done)), H', ⟨by first | omega | exact Nat.le_refl _⟩, ⟨by (with_reducible repeat (first | refine blk_drewN ?_ _ | refine blk_drew ?_ | refine blk_alloc ?_ _)); exact BK288.out⟩, ⟨by repeat (first | (with_reducible first | exact HB.out | apply below_alloc | apply pw_below_drewN | apply below_drew1 | refine below_set ?_ GE288.out) | exact HB.out)⟩⟩
      ·replace c13 := Bool.eq_false_iff.mpr c13
       subst c13
       have H1 : (frustumref42_Valid.j0 k true a0_0 a0_1 a0_2 a0_3 l0_4 l0_5 l0_6) = some r := by rw [if_neg (show ¬ (false = true) by decide)] at H; exact H
       clear H; have H := H1; clear H1
       have H' := Aside0.mk H
       clear H
       have hcz18_0 : w3.cell? ⟨gb288, 0, none⟩ = some (.int .i64 a0_0) := bc BK288 0
       have hcz18_1 : w3.cell? ⟨gb288, 1, none⟩ = some (.int .i64 a0_1) := bc BK288 1
       have hcz18_2 : w3.cell? ⟨gb288, 2, none⟩ = some (.int .i64 a0_2) := bc BK288 2
       have hcz18_3 : w3.cell? ⟨gb288, 3, none⟩ = some (.int .i64 a0_3) := bc BK288 3
       have hcz18_4 : w3.cell? ⟨gb288, 4, none⟩ = some (.slice A0_4 l0_4.length c0_4) := bc BK288 4
       have hcz18_5 : w3.cell? ⟨gb288, 5, none⟩ = some (.slice A0_5 l0_5.length c0_5) := bc BK288 5
       have hcz18_6 : w3.cell? ⟨gb288, 6, none⟩ = some (.slice A0_6 l0_6.length c0_6) := bc BK288 6
       have hfz18_0 := blk_frozen BK288.out 0; have hfz18_1 := blk_frozen BK288.out 1; have hfz18_2 := blk_frozen BK288.out 2; have hfz18_3 := blk_frozen BK288.out 3; have hfz18_4 := blk_frozen BK288.out 4; have hfz18_5 := blk_frozen BK288.out 5; have hfz18_6 := blk_frozen BK288.out 6
       go_wp2_with (first | (go_at_call 25; (with_reducible refine (frustumref35_ValidSamples.calls a0_2 false _ A12.out).mono ?_); rintro e w' ⟨rfl, ⟨nd, rfl⟩⟩))
       go_meet
       case rel => exact ⟨_, (true), (by first | rfl | (simp; done) | (simp [*]; done)), H', ⟨by first | omega | exact Nat.le_refl _⟩, ⟨by (with_reducible repeat (first | refine blk_drewN ?_ _ | refine blk_drew ?_ | refine blk_alloc ?_ _)); exact BK288.out⟩, ⟨by repeat (first | (with_reducible first | exact HB.out | apply below_alloc | apply pw_below_drewN | apply below_drew1 | refine below_set ?_ GE288.out) | exact HB.out)⟩⟩
 case rest =>
  clear HC2
  try clear c1
  try clear p2
  try clear c4
  try clear c4b0
  try clear c6
  try clear c6b0
  try clear c8
  try clear c8b0
  try clear c10
  try clear c10b0
  try clear c12
  try clear c13
  try clear c15
  try clear c15b0
  try clear hcz11_0
  try clear hcz11_1
  try clear hcz11_2
  try clear hcz11_3
  try clear hcz11_4
  try clear hcz11_5
  try clear hcz11_6
  try clear hcz16_0
  try clear hcz16_1
  try clear hcz16_2
  try clear hcz16_3
  try clear hcz16_4
  try clear hcz16_5
  try clear hcz16_6
  try clear hcz17_0
  try clear hcz17_1
  try clear hcz17_2
  try clear hcz17_3
  try clear hcz17_4
  try clear hcz17_5
  try clear hcz17_6
  try clear hcz18_0
  try clear hcz18_1
  try clear hcz18_2
  try clear hcz18_3
  try clear hcz18_4
  try clear hcz18_5
  try clear hcz18_6
  try clear hcz5_0
  try clear hcz5_1
  try clear hcz5_2
  try clear hcz5_3
  try clear hcz5_4
  try clear hcz5_5
  try clear hcz5_6
  try clear hcz7_0
  try clear hcz7_1
  try clear hcz7_2
  try clear hcz7_3
  try clear hcz7_4
  try clear hcz7_5
  try clear hcz7_6
  try clear hcz9_0
  try clear hcz9_1
  try clear hcz9_2
  try clear hcz9_3
  try clear hcz9_4
  try clear hcz9_5
  try clear hcz9_6
  try clear hfz11_0
  try clear hfz11_1
  try clear hfz11_2
  try clear hfz11_3
  try clear hfz11_4
  try clear hfz11_5
  try clear hfz11_6
  try clear hfz16_0
  try clear hfz16_1
  try clear hfz16_2
  try clear hfz16_3
  try clear hfz16_4
  try clear hfz16_5
  try clear hfz16_6
  try clear hfz17_0
  try clear hfz17_1
  try clear hfz17_2
  try clear hfz17_3
  try clear hfz17_4
  try clear hfz17_5
  try clear hfz17_6
  try clear hfz18_0
  try clear hfz18_1
  try clear hfz18_2
  try clear hfz18_3
  try clear hfz18_4
  try clear hfz18_5
  try clear hfz18_6
  try clear hfz5_0
  try clear hfz5_1
  try clear hfz5_2
  try clear hfz5_3
  try clear hfz5_4
  try clear hfz5_5
  try clear hfz5_6
  try clear hfz7_0
  try clear hfz7_1
  try clear hfz7_2
  try clear hfz7_3
  try clear hfz7_4
  try clear hfz7_5
  try clear hfz7_6
  try clear hfz9_0
  try clear hfz9_1
  try clear hfz9_2
  try clear hfz9_3
  try clear hfz9_4
  try clear hfz9_5
  try clear hfz9_6
  obtain ⟨kq, x43_1, rfl, HA, HJ1, BK288, HB⟩ := hcut
  cases kq with
  | zero => exact absurd HA.out (by simp [frustumref42_Valid.j0])
  | succ kj1 =>
   have H := HA.out; clear HA
   simp only [frustumref42_Valid.j0] at H
   by_cases c19 : x43_1 = true
   ·subst c19
    have H1 : (some false) = some r := by rw [if_pos rfl] at H; exact H
    clear H; have H := H1; clear H1
    obtain rfl := Option.some.inj H
    go_wp2
    go_ret
    exact ⟨by first | rfl | (simp [errW_none, errW_some] <;> rfl) | (simp [*, errW_none, errW_some] <;> rfl), by repeat (first | (with_reducible first | exact HB.out | apply below_alloc | apply pw_below_drewN | apply below_drew1 | refine below_set ?_ GE288.out) | exact HB.out)⟩
   ·replace c19 := Bool.eq_false_iff.mpr c19
    subst c19
    have H1 : (frustumref42_Valid.l0 kj1 0 a0_0 a0_1 a0_2 a0_3 l0_4 l0_5 l0_6) = some r := by rw [if_neg (show ¬ (false = true) by decide)] at H; exact H
    clear H; have H := H1; clear H1
    have H' := Aside0.mk H
    clear H
    go_wp2
    go_loopg [3] kj1 (fun kq v3 w' => ∃ (x3_2 : Int), v3 = .int .i64 x3_2 ∧ Aside0 (frustumref42_Valid.l0 kq x3_2 a0_0 a0_1 a0_2 a0_3 l0_4 l0_5 l0_6 = some r) ∧ Aside0 (kq ≤ kj1) ∧ Aside0 (w'.heap[gb288]? = some (.cells #[.int .i64 a0_0, .int .i64 a0_1, .int .i64 a0_2, .int .i64 a0_3, (.slice A0_4 l0_4.length c0_4), (.slice A0_5 l0_5.length c0_5), (.slice A0_6 l0_6.length c0_6)] 28 (0, 0))) ∧ Aside0 (Below w.heap.size w w'))
    case atStart => exact ⟨(0), (by first | rfl | (simp; done) | (simp [*]; done)), H', ⟨Nat.le_refl _⟩, ⟨by (with_reducible repeat (first | refine blk_drewN ?_ _ | refine blk_drew ?_ | refine blk_alloc ?_ _)); exact BK288.out⟩, ⟨by repeat (first | (with_reducible first | exact HB.out | apply below_alloc | apply pw_below_drewN | apply below_drew1 | refine below_set ?_ GE288.out) | exact HB.out)⟩⟩
    case round =>
     clear H'
     try clear c1
     try clear p2
     try clear c4
     try clear c4b0
     try clear c6
     try clear c6b0
     try clear c8
     try clear c8b0
     try clear c10
     try clear c10b0
     try clear c12
     try clear c13
     try clear c15
     try clear c15b0
     try clear c19
     try clear hcz11_0
     try clear hcz11_1
     try clear hcz11_2
     try clear hcz11_3
     try clear hcz11_4
     try clear hcz11_5
     try clear hcz11_6
     try clear hcz16_0
     try clear hcz16_1
     try clear hcz16_2
     try clear hcz16_3
     try clear hcz16_4
     try clear hcz16_5
     try clear hcz16_6
     try clear hcz17_0
     try clear hcz17_1
     try clear hcz17_2
     try clear hcz17_3
     try clear hcz17_4
     try clear hcz17_5
     try clear hcz17_6
     try clear hcz18_0
     try clear hcz18_1
     try clear hcz18_2
     try clear hcz18_3
     try clear hcz18_4
     try clear hcz18_5
     try clear hcz18_6
     try clear hcz5_0
     try clear hcz5_1
     try clear hcz5_2
     try clear hcz5_3
     try clear hcz5_4
     try clear hcz5_5
     try clear hcz5_6
     try clear hcz7_0
     try clear hcz7_1
     try clear hcz7_2
     try clear hcz7_3
     try clear hcz7_4
     try clear hcz7_5
     try clear hcz7_6
     try clear hcz9_0
     try clear hcz9_1
     try clear hcz9_2
     try clear hcz9_3
     try clear hcz9_4
     try clear hcz9_5
     try clear hcz9_6
     try clear hfz11_0
     try clear hfz11_1
     try clear hfz11_2
     try clear hfz11_3
     try clear hfz11_4
     try clear hfz11_5
     try clear hfz11_6
     try clear hfz16_0
     try clear hfz16_1
     try clear hfz16_2
     try clear hfz16_3
     try clear hfz16_4
     try clear hfz16_5
     try clear hfz16_6
     try clear hfz17_0
     try clear hfz17_1
     try clear hfz17_2
     try clear hfz17_3
     try clear hfz17_4
     try clear hfz17_5
     try clear hfz17_6
     try clear hfz18_0
     try clear hfz18_1
     try clear hfz18_2
     try clear hfz18_3
     try clear hfz18_4
     try clear hfz18_5
     try clear hfz18_6
     try clear hfz5_0
     try clear hfz5_1
     try clear hfz5_2
     try clear hfz5_3
     try clear hfz5_4
     try clear hfz5_5
     try clear hfz5_6
     try clear hfz7_0
     try clear hfz7_1
     try clear hfz7_2
     try clear hfz7_3
     try clear hfz7_4
     try clear hfz7_5
     try clear hfz7_6
     try clear hfz9_0
     try clear hfz9_1
     try clear hfz9_2
     try clear hfz9_3
     try clear hfz9_4
     try clear hfz9_5
     try clear hfz9_6
     try clear p2
     obtain ⟨x3_2, rfl, HA, HK2, BK288, HB⟩ := hrel
     cases gk with
     | zero => exact absurd HA.out (by simp [frustumref42_Valid.l0])
     | succ k2 =>
      have H := HA.out; clear HA
      simp only [frustumref42_Valid.l0] at H
      by_cases c20 : x3_2 < (l0_4.length : Int)
      ·rw [if_pos c20] at H
       have c20b0 : decide (x3_2 < (l0_4.length : Int)) = true := decide_eq_true c20
       clear c20
       by_cases c21 : 0 ≤ x3_2
       ·rw [if_pos c21] at H
        have c21b0 : decide (0 ≤ x3_2) = true := decide_eq_true c21
        clear c21
        replace H := Option.bind_eq_some_iff.mp H
        obtain ⟨t293, A220, H⟩ := H
        replace H : (if t293 = true then (if 0 < (l0_4.length : Int) then (if ((rd_T47 l0_4 x3_2).f0) = ((rd_T47 l0_4 0).f0) then (if ((rd_T47 l0_4 x3_2).f1) = a0_0 then (if ((rd_T47 l0_4 x3_2).f2) = a0_1 then (frustumref42_Valid.l0 k2 (wrap64 (x3_2 + 1)) a0_0 a0_1 a0_2 a0_3 l0_4 l0_5 l0_6) else (some false)) else (some false)) else (some false)) else (none)) else (some false)) = some r := H
        have A22 := Aside0.mk A220; clear A220
        by_cases c23 : t293 = true
        ·subst c23
         have H1 : (if 0 < (l0_4.length : Int) then (if ((rd_T47 l0_4 x3_2).f0) = ((rd_T47 l0_4 0).f0) then (if ((rd_T47 l0_4 x3_2).f1) = a0_0 then (if ((rd_T47 l0_4 x3_2).f2) = a0_1 then (frustumref42_Valid.l0 k2 (wrap64 (x3_2 + 1)) a0_0 a0_1 a0_2 a0_3 l0_4 l0_5 l0_6) else (some false)) else (some false)) else (some false)) else (none)) = some r := by rw [if_pos rfl] at H; exact H
         clear H; have H := H1; clear H1
         by_cases c24 : 0 < (l0_4.length : Int)
         ·rw [if_pos c24] at H
          have c24b0 : decide (0 < (l0_4.length : Int)) = true := decide_eq_true c24
          have c24b1 : decide (0 < l0_4.length) = true := decide_eq_true (by omega)
          clear c24
          by_cases c25 : ((rd_T47 l0_4 x3_2).f0) = ((rd_T47 l0_4 0).f0)
          ·rw [if_pos c25] at H
           have c25b0 : (((rd_T47 l0_4 x3_2).f0) == ((rd_T47 l0_4 0).f0)) = true := beq_iff_eq.mpr c25
           have c25b1 : (((rd_T47 l0_4 x3_2).f0) != ((rd_T47 l0_4 0).f0)) = false := bne_eq_false_iff_eq.mpr c25
           clear c25
           by_cases c26 : ((rd_T47 l0_4 x3_2).f1) = a0_0
           ·rw [if_pos c26] at H
            have c26b0 : (((rd_T47 l0_4 x3_2).f1) == a0_0) = true := beq_iff_eq.mpr c26
            have c26b1 : (((rd_T47 l0_4 x3_2).f1) != a0_0) = false := bne_eq_false_iff_eq.mpr c26
            clear c26
            by_cases c27 : ((rd_T47 l0_4 x3_2).f2) = a0_1
            ·rw [if_pos c27] at H
             have c27b0 : (((rd_T47 l0_4 x3_2).f2) == a0_1) = true := beq_iff_eq.mpr c27
             have c27b1 : (((rd_T47 l0_4 x3_2).f2) != a0_1) = false := bne_eq_false_iff_eq.mpr c27
             clear c27
             have H' := Aside0.mk H
             clear H
             have hcz28_0 : wr.cell? ⟨gb288, 0, none⟩ = some (.int .i64 a0_0) := bc BK288 0
             have hcz28_1 : wr.cell? ⟨gb288, 1, none⟩ = some (.int .i64 a0_1) := bc BK288 1
             have hcz28_2 : wr.cell? ⟨gb288, 2, none⟩ = some (.int .i64 a0_2) := bc BK288 2
             have hcz28_3 : wr.cell? ⟨gb288, 3, none⟩ = some (.int .i64 a0_3) := bc BK288 3
             have hcz28_4 : wr.cell? ⟨gb288, 4, none⟩ = some (.slice A0_4 l0_4.length c0_4) := bc BK288 4
             have hcz28_5 : wr.cell? ⟨gb288, 5, none⟩ = some (.slice A0_5 l0_5.length c0_5) := bc BK288 5
             have hcz28_6 : wr.cell? ⟨gb288, 6, none⟩ = some (.slice A0_6 l0_6.length c0_6) := bc BK288 6
             have hfz28_0 := blk_frozen BK288.out 0; have hfz28_1 := blk_frozen BK288.out 1; have hfz28_2 := blk_frozen BK288.out 2; have hfz28_3 := blk_frozen BK288.out 3; have hfz28_4 := blk_frozen BK288.out 4; have hfz28_5 := blk_frozen BK288.out 5; have hfz28_6 := blk_frozen BK288.out 6
             have p291 : 0 ≤ (x3_2 : Int) := of_decide_eq_true (by first | (with_reducible assumption) | assumption)
             have q291 : x3_2 < (l0_4.length : Int) := of_decide_eq_true (by first | (with_reducible assumption) | assumption)
             obtain ⟨ad291, A291_3, c291_3, e291, hx291_0, hx291_1, hx291_2, hx291_3, hl291_3, hi291_3⟩ := at_T47 HR0_4.out x3_2 p291 q291
             cases e291
             replace hx291_0 := (HB.out.cell (World.block_lt_of_cell? w _ hx291_0)).trans hx291_0
             replace hx291_1 := (HB.out.cell (World.block_lt_of_cell? w _ hx291_1)).trans hx291_1
             replace hx291_2 := (HB.out.cell (World.block_lt_of_cell? w _ hx291_2)).trans hx291_2
             replace hx291_3 := (HB.out.cell (World.block_lt_of_cell? w _ hx291_3)).trans hx291_3
             have HR291_3 := Aside0.mk hi291_3; have HC291_3 := Aside0.mk hl291_3; clear hi291_3 hl291_3
             replace p291 := eq_true p291
             replace q291 := eq_true q291
             try go_wp2_with (first | ((with_reducible refine gate_dst (N := 4) rfl ?_); (try (refine gate_guard (by rfl) ?_; dsimp only)); refine box_event ?hg (N := 4) ?hd (cs := #[.int .i64 0, .int .i64 0, .int .i64 0, .slice none 0 0]) (t := 47) ?hr ?_; (case hd => rfl); (case hg => rfl); (case hr => first | (go_simp; done) | (go_simp; rfl)); intro gb292 hg w29 hbox hb; have BK292 := Aside0.mk (hbox); have GW292 := ws HB hg; have GE292 := ws HB hg; have NB288_292 := nl BK288 hg; have NB292_288 := ng BK288 hg; replace BK288 := ub BK288 hb; replace HB := bs HB hb; clear hb hbox hg; have hnb30 := NB292_288.out; have hnc30 := NB288_292.out; have hcz31_0 : w29.cell? ⟨gb292, 0, none⟩ = some (.int .i64 0) := bc BK292 0; have hcz31_1 : w29.cell? ⟨gb292, 1, none⟩ = some (.int .i64 0) := bc BK292 1; have hcz31_2 : w29.cell? ⟨gb292, 2, none⟩ = some (.int .i64 0) := bc BK292 2; have hcz31_3 : w29.cell? ⟨gb292, 3, none⟩ = some (.slice none 0 0) := bc BK292 3; have hfz31_0 := blk_frozen BK292.out 0; have hfz31_1 := blk_frozen BK292.out 1; have hfz31_2 := blk_frozen BK292.out 2; have hfz31_3 := blk_frozen BK292.out 3))
             have n0_ : Aside0 (((((w29.setCell ⟨gb292, 0, none⟩ (.int .i64 ((rd_T47 l0_4 x3_2).f0))).setCell ⟨gb292, 1, none⟩ (.int .i64 ((rd_T47 l0_4 x3_2).f1))).setCell ⟨gb292, 2, none⟩ (.int .i64 ((rd_T47 l0_4 x3_2).f2))).setCell ⟨gb292, 3, none⟩ (.slice A291_3 ((rd_T47 l0_4 x3_2).f3).length c291_3)).heap[gb288]? = some (.cells #[.int .i64 a0_0, .int .i64 a0_1, .int .i64 a0_2, .int .i64 a0_3, .slice (some ad291) l0_4.length c0_4, .slice A0_5 l0_5.length c0_5, .slice A0_6 l0_6.length c0_6] 28 (0, 0))) := ⟨by (with_reducible repeat (first | refine blk_drewN ?_ _ | refine blk_drew ?_ | refine blk_alloc ?_ _)); refine blk_far ?_ NB288_292.out _; (with_reducible repeat (first | refine blk_drewN ?_ _ | refine blk_drew ?_ | refine blk_alloc ?_ _)); refine blk_far ?_ NB288_292.out _; (with_reducible repeat (first | refine blk_drewN ?_ _ | refine blk_drew ?_ | refine blk_alloc ?_ _)); refine blk_far ?_ NB288_292.out _; (with_reducible repeat (first | refine blk_drewN ?_ _ | refine blk_drew ?_ | refine blk_alloc ?_ _)); refine blk_far ?_ NB288_292.out _; (with_reducible repeat (first | refine blk_drewN ?_ _ | refine blk_drew ?_ | refine blk_alloc ?_ _)); exact BK288.out⟩
             have n1_ : Aside0 (((((w29.setCell ⟨gb292, 0, none⟩ (.int .i64 ((rd_T47 l0_4 x3_2).f0))).setCell ⟨gb292, 1, none⟩ (.int .i64 ((rd_T47 l0_4 x3_2).f1))).setCell ⟨gb292, 2, none⟩ (.int .i64 ((rd_T47 l0_4 x3_2).f2))).setCell ⟨gb292, 3, none⟩ (.slice A291_3 ((rd_T47 l0_4 x3_2).f3).length c291_3)).heap[gb292]? = some (.cells #[.int .i64 ((rd_T47 l0_4 x3_2).f0), .int .i64 ((rd_T47 l0_4 x3_2).f1), .int .i64 ((rd_T47 l0_4 x3_2).f2), .slice A291_3 ((rd_T47 l0_4 x3_2).f3).length c291_3] 47 (0, 0))) := ⟨by (with_reducible repeat (first | refine blk_drewN ?_ _ | refine blk_drew ?_ | refine blk_alloc ?_ _)); refine blk_put (cs := #[.int .i64 ((rd_T47 l0_4 x3_2).f0), .int .i64 ((rd_T47 l0_4 x3_2).f1), .int .i64 ((rd_T47 l0_4 x3_2).f2), .slice none 0 0]) ?_ 3 _ rfl; (with_reducible repeat (first | refine blk_drewN ?_ _ | refine blk_drew ?_ | refine blk_alloc ?_ _)); refine blk_put (cs := #[.int .i64 ((rd_T47 l0_4 x3_2).f0), .int .i64 ((rd_T47 l0_4 x3_2).f1), .int .i64 0, .slice none 0 0]) ?_ 2 _ rfl; (with_reducible repeat (first | refine blk_drewN ?_ _ | refine blk_drew ?_ | refine blk_alloc ?_ _)); refine blk_put (cs := #[.int .i64 ((rd_T47 l0_4 x3_2).f0), .int .i64 0, .int .i64 0, .slice none 0 0]) ?_ 1 _ rfl; (with_reducible repeat (first | refine blk_drewN ?_ _ | refine blk_drew ?_ | refine blk_alloc ?_ _)); refine blk_put (cs := #[.int .i64 0, .int .i64 0, .int .i64 0, .slice none 0 0]) ?_ 0 _ rfl; (with_reducible repeat (first | refine blk_drewN ?_ _ | refine blk_drew ?_ | refine blk_alloc ?_ _)); exact BK292.out⟩
             have n2_ : Aside0 (Below w.heap.size w ((((w29.setCell ⟨gb292, 0, none⟩ (.int .i64 ((rd_T47 l0_4 x3_2).f0))).setCell ⟨gb292, 1, none⟩ (.int .i64 ((rd_T47 l0_4 x3_2).f1))).setCell ⟨gb292, 2, none⟩ (.int .i64 ((rd_T47 l0_4 x3_2).f2))).setCell ⟨gb292, 3, none⟩ (.slice A291_3 ((rd_T47 l0_4 x3_2).f3).length c291_3))) := ⟨by repeat (first | (with_reducible first | exact HB.out | apply below_alloc | apply pw_below_drewN | apply below_drew1 | refine below_set ?_ GE288.out | refine below_set ?_ GE292.out) | exact HB.out)⟩
             (try clear BK288); (try clear BK292); (try clear HB)
             generalize ((((w29.setCell ⟨gb292, 0, none⟩ (.int .i64 ((rd_T47 l0_4 x3_2).f0))).setCell ⟨gb292, 1, none⟩ (.int .i64 ((rd_T47 l0_4 x3_2).f1))).setCell ⟨gb292, 2, none⟩ (.int .i64 ((rd_T47 l0_4 x3_2).f2))).setCell ⟨gb292, 3, none⟩ (.slice A291_3 ((rd_T47 l0_4 x3_2).f3).length c291_3)) = w32 at n0_ n1_ n2_ ⊢
             have BK288 := n0_; have BK292 := n1_; have HB := n2_; clear n0_ n1_ n2_; replace BK288 := Aside0.mk (blk_drew BK288.out); replace BK292 := Aside0.mk (blk_drew BK292.out); replace HB := Aside0.mk (below_drew1 HB.out)
             have p294 : 0 ≤ (0 : Int) := (by omega)
             have q294 : 0 < (l0_4.length : Int) := of_decide_eq_true (by first | (with_reducible assumption) | assumption)
             obtain ⟨ad294, A294_3, c294_3, e294, hx294_0, hx294_1, hx294_2, hx294_3, hl294_3, hi294_3⟩ := at_T47 HR0_4.out 0 p294 q294
             have hw294_3 := hx294_3
             (try rw [show ((0 : Int)).toNat = 0 from rfl] at hw294_3)
             (try rw [show 0 * 4 = 0 from rfl] at hw294_3)
             (try rw [Addr.add_zero'] at hw294_3)
             have hw294_2 := hx294_2
             (try rw [show ((0 : Int)).toNat = 0 from rfl] at hw294_2)
             (try rw [show 0 * 4 = 0 from rfl] at hw294_2)
             (try rw [Addr.add_zero'] at hw294_2)
             have hw294_1 := hx294_1
             (try rw [show ((0 : Int)).toNat = 0 from rfl] at hw294_1)
             (try rw [show 0 * 4 = 0 from rfl] at hw294_1)
             (try rw [Addr.add_zero'] at hw294_1)
             have hw294_0 := hx294_0
             (try rw [show ((0 : Int)).toNat = 0 from rfl] at hw294_0)
             (try rw [show 0 * 4 = 0 from rfl] at hw294_0)
             (try rw [Addr.add_zero'] at hw294_0)
             obtain rfl : ad291 = ad294 := (by injection e294)
             have qi294 : (0 < l0_4.length) = True := eq_true (by omega)
             (try rw [show ((0 : Int)).toNat = 0 from rfl] at hx294_0)
             (try rw [show 0 * 4 = 0 from rfl] at hx294_0)
             (try rw [Addr.add_zero'] at hx294_0)
             (try rw [show ((0 : Int)).toNat = 0 from rfl] at hx294_1)
             (try rw [show 0 * 4 = 0 from rfl] at hx294_1)
             (try rw [Addr.add_zero'] at hx294_1)
             (try rw [show ((0 : Int)).toNat = 0 from rfl] at hx294_2)
             (try rw [show 0 * 4 = 0 from rfl] at hx294_2)
             (try rw [Addr.add_zero'] at hx294_2)
             (try rw [show ((0 : Int)).toNat = 0 from rfl] at hx294_3)
             (try rw [show 0 * 4 = 0 from rfl] at hx294_3)
             (try rw [Addr.add_zero'] at hx294_3)
             replace hx294_0 := (HB.out.cell (World.block_lt_of_cell? w _ hx294_0)).trans hx294_0
             replace hx294_1 := (HB.out.cell (World.block_lt_of_cell? w _ hx294_1)).trans hx294_1
             replace hx294_2 := (HB.out.cell (World.block_lt_of_cell? w _ hx294_2)).trans hx294_2
             replace hx294_3 := (HB.out.cell (World.block_lt_of_cell? w _ hx294_3)).trans hx294_3
             have HR294_3 := Aside0.mk hi294_3; have HC294_3 := Aside0.mk hl294_3; clear hi294_3 hl294_3
             replace p294 := eq_true p294
             replace q294 := eq_true q294
             refine start_ (n := 27) (S := fun w' => w'.cell? ⟨gb292, 0, none⟩ = some (.int .i64 ((rd_T47 l0_4 x3_2).f0)) ∧ w'.cell? ⟨gb292, 1, none⟩ = some (.int .i64 ((rd_T47 l0_4 x3_2).f1)) ∧ w'.cell? ⟨gb292, 2, none⟩ = some (.int .i64 ((rd_T47 l0_4 x3_2).f2)) ∧ w'.cell? ⟨gb292, 3, none⟩ = some (.slice A291_3 ((rd_T47 l0_4 x3_2).f3).length c291_3) ∧ w'.cell? ⟨gb288, 0, none⟩ = some (.int .i64 a0_0) ∧ w'.cell? ⟨gb288, 1, none⟩ = some (.int .i64 a0_1) ∧ w'.cell? ⟨gb288, 2, none⟩ = some (.int .i64 a0_2) ∧ w'.cell? ⟨gb288, 3, none⟩ = some (.int .i64 a0_3) ∧ w'.cell? ⟨gb288, 4, none⟩ = some (.slice (some ad291) l0_4.length c0_4) ∧ w'.cell? ⟨gb288, 5, none⟩ = some (.slice A0_5 l0_5.length c0_5) ∧ w'.cell? ⟨gb288, 6, none⟩ = some (.slice A0_6 l0_6.length c0_6) ∧ w'.cell? ad291 = some (.int .i64 ((rd_T47 l0_4 0).f0)) ∧ w'.cell? ⟨ad291.block, ad291.off + 1, none⟩ = some (.int .i64 ((rd_T47 l0_4 0).f1)) ∧ w'.cell? ⟨ad291.block, ad291.off + 2, none⟩ = some (.int .i64 ((rd_T47 l0_4 0).f2)) ∧ w'.cell? ⟨ad291.block, ad291.off + 3, none⟩ = some (.slice A294_3 ((rd_T47 l0_4 0).f3).length c294_3)) (ds := []) #[false, false, false, false, false, false, false, false, false, false, false, false, false, false, false, false, false, false, false, false, false, false, false, false, false, false, false] (by kernel_rfl) rfl rfl ⟨bc BK292 0, bc BK292 1, bc BK292 2, bc BK292 3, bc BK288 0, bc BK288 1, bc BK288 2, bc BK288 3, bc BK288 4, bc BK288 5, bc BK288 6, ((HB.out.cell (World.block_lt_of_cell? w _ hw294_0)).trans hw294_0), ((HB.out.cell (World.block_lt_of_cell? w _ hw294_1)).trans hw294_1), ((HB.out.cell (World.block_lt_of_cell? w _ hw294_2)).trans hw294_2), ((HB.out.cell (World.block_lt_of_cell? w _ hw294_3)).trans hw294_3)⟩ (fun hHeld => ?_); refine with_tabW frustumref42_Valid.tab7 frustumref42_Valid.bits7 (fun HT_ HW_ => ?_)
             generalize w32.drew = w33 at BK288 BK292 HB HR294_3 hx294_0 hx294_1 hx294_2 hx294_3 hHeld ⊢
             refine tk HT_ HW_ hHeld 0 (some 56) rfl (by rintro w' ⟨s0, s1, s2, s3, s4, s5, s6, s7, s8, s9, s10, s11, s12, s13, s14⟩; go_simp; with_reducible rfl) ?_
             refine one_ (i := 1) (N := some 57) #[true, true, false, false, false, false, false, false, false, false, false, false, false, false, false, false, false, false, false, false, false, false, false, false, false, false, false] rfl rfl (one_of HT_.out (by kernel_rfl)) (by decide) (fun K hK => ?_)
             refine goes_ Try.func32 (by kernel_rfl) rfl #[.agg #[.int .i64 ((rd_T47 l0_4 x3_2).f0), .int .i64 ((rd_T47 l0_4 x3_2).f1), .int .i64 ((rd_T47 l0_4 x3_2).f2), .slice A291_3 ((rd_T47 l0_4 x3_2).f3).length c291_3]] (by rfl) rfl rfl (by (try simp only [List.map_toArray, List.map_cons, List.map_nil]); first | done | rfl | (simp only [List.length_drop, List.length_take]; rfl)) ?_
             with_reducible refine (frustumref10_Valid.calls k2 ((rd_T47 l0_4 x3_2).f0) ((rd_T47 l0_4 x3_2).f1) ((rd_T47 l0_4 x3_2).f2) _ _ ((rd_T47 l0_4 x3_2).f3) true _ ?side1 ?side2 A22.out).mono ?_
             (case side1 => repeat (first | exact (Kd.C_below HR291_3.out HB.out) | (with_reducible refine Kd.C_alloc ?_ _) | (with_reducible refine Kd.C_drewN ?_ _) | (with_reducible refine Kd.C_drew ?_)))
             (case side2 => exact HC291_3.out)
             rintro e w34 ⟨rfl, hb⟩; refine ⟨_, rfl, ?_⟩; replace BK288 := ub BK288 hb; replace BK292 := ub BK292 hb; replace HB := bs HB hb; (try clear hb); (try clear hb2); (try clear hk); (try clear hi)
             refine hK.out _ _ ⟨bc BK292 0, bc BK292 1, bc BK292 2, bc BK292 3, bc BK288 0, bc BK288 1, bc BK288 2, bc BK288 3, bc BK288 4, bc BK288 5, bc BK288 6, ((HB.out.cell (World.block_lt_of_cell? w _ hw294_0)).trans hw294_0), ((HB.out.cell (World.block_lt_of_cell? w _ hw294_1)).trans hw294_1), ((HB.out.cell (World.block_lt_of_cell? w _ hw294_2)).trans hw294_2), ((HB.out.cell (World.block_lt_of_cell? w _ hw294_3)).trans hw294_3)⟩ (fun hHeld => ?_)
             clear hK K
             refine norm_ (a' := ?_) ?_ ?_
             rotate_left
             ·show Act.put _ (some 57) _ = _
              simp only [Act.put, List.setIfInBounds_toArray, List.set_cons_zero, List.set_cons_succ, i64_w, i32_w]
              rfl
             refine on HT_ 2 (some 58) ?_
             refine on HT_ 3 (some 59) ?_
             refine on HT_ 4 (some 60) ?_
             refine on HT_ 6 (some 62) ?_
             refine tk HT_ HW_ hHeld 5 (some 61) rfl (by rintro w' ⟨s0, s1, s2, s3, s4, s5, s6, s7, s8, s9, s10, s11, s12, s13, s14⟩; go_simp; with_reducible rfl) ?_
             refine tk HT_ HW_ hHeld 7 (some 63) rfl (by rintro w' ⟨s0, s1, s2, s3, s4, s5, s6, s7, s8, s9, s10, s11, s12, s13, s14⟩; go_simp; with_reducible rfl) ?_
             refine on HT_ 8 (some 64) ?_
             refine on HT_ 9 (some 65) ?_
             refine tk HT_ HW_ hHeld 10 (some 66) rfl (by rintro w' ⟨s0, s1, s2, s3, s4, s5, s6, s7, s8, s9, s10, s11, s12, s13, s14⟩; go_simp; with_reducible rfl) ?_
             refine on HT_ 11 (some 67) ?_
             refine on HT_ 12 (some 68) ?_
             refine on HT_ 13 (some 69) ?_
             refine on HT_ 14 (some 70) ?_
             refine on HT_ 16 (some 72) ?_
             refine tk HT_ HW_ hHeld 15 (some 71) rfl (by rintro w' ⟨s0, s1, s2, s3, s4, s5, s6, s7, s8, s9, s10, s11, s12, s13, s14⟩; go_simp; with_reducible rfl) ?_
             refine tk HT_ HW_ hHeld 17 (some 73) rfl (by rintro w' ⟨s0, s1, s2, s3, s4, s5, s6, s7, s8, s9, s10, s11, s12, s13, s14⟩; go_simp; with_reducible rfl) ?_
             refine on HT_ 18 (some 74) ?_
             refine on HT_ 19 (some 75) ?_
             refine on HT_ 20 (some 76) ?_
             refine on HT_ 21 (some 77) ?_
             refine on HT_ 23 (some 79) ?_
             refine tk HT_ HW_ hHeld 22 (some 78) rfl (by rintro w' ⟨s0, s1, s2, s3, s4, s5, s6, s7, s8, s9, s10, s11, s12, s13, s14⟩; go_simp; with_reducible rfl) ?_
             refine tk HT_ HW_ hHeld 24 (some 80) rfl (by rintro w' ⟨s0, s1, s2, s3, s4, s5, s6, s7, s8, s9, s10, s11, s12, s13, s14⟩; go_simp; with_reducible rfl) ?_
             refine on HT_ 25 (some 81) ?_
             refine on HT_ 26 (some 82) ?_
             refine done_ (done_of HT_.out (by kernel_rfl)) ?_
             try go_wp2
             go_roundg k2
             case measure => have := HJ1.out; have := HK2.out; omega
             case rel => exact ⟨(wrap64 (x3_2 + 1)), (by first | rfl | (simp; done) | (simp [*]; done)), H', ⟨by have := HJ1.out; have := HK2.out; omega⟩, ⟨by (with_reducible repeat (first | refine blk_drewN ?_ _ | refine blk_drew ?_ | refine blk_alloc ?_ _)); exact BK288.out⟩, ⟨by repeat (first | (with_reducible first | exact HB.out | apply below_alloc | apply pw_below_drewN | apply below_drew1 | refine below_set ?_ GE288.out | refine below_set ?_ GE292.out) | exact HB.out)⟩⟩
            ·rw [if_neg c27] at H
             have c27b0 : (((rd_T47 l0_4 x3_2).f2) == a0_1) = false := beq_eq_false_iff_ne.mpr c27
             have c27b1 : (((rd_T47 l0_4 x3_2).f2) != a0_1) = true := bne_iff_ne.mpr c27
             obtain rfl := Option.some.inj H
             have hcz35_0 : wr.cell? ⟨gb288, 0, none⟩ = some (.int .i64 a0_0) := bc BK288 0
             have hcz35_1 : wr.cell? ⟨gb288, 1, none⟩ = some (.int .i64 a0_1) := bc BK288 1
             have hcz35_2 : wr.cell? ⟨gb288, 2, none⟩ = some (.int .i64 a0_2) := bc BK288 2
             have hcz35_3 : wr.cell? ⟨gb288, 3, none⟩ = some (.int .i64 a0_3) := bc BK288 3
             have hcz35_4 : wr.cell? ⟨gb288, 4, none⟩ = some (.slice A0_4 l0_4.length c0_4) := bc BK288 4
             have hcz35_5 : wr.cell? ⟨gb288, 5, none⟩ = some (.slice A0_5 l0_5.length c0_5) := bc BK288 5
             have hcz35_6 : wr.cell? ⟨gb288, 6, none⟩ = some (.slice A0_6 l0_6.length c0_6) := bc BK288 6
             have hfz35_0 := blk_frozen BK288.out 0; have hfz35_1 := blk_frozen BK288.out 1; have hfz35_2 := blk_frozen BK288.out 2; have hfz35_3 := blk_frozen BK288.out 3; have hfz35_4 := blk_frozen BK288.out 4; have hfz35_5 := blk_frozen BK288.out 5; have hfz35_6 := blk_frozen BK288.out 6
             have p291 : 0 ≤ (x3_2 : Int) := of_decide_eq_true (by first | (with_reducible assumption) | assumption)
             have q291 : x3_2 < (l0_4.length : Int) := of_decide_eq_true (by first | (with_reducible assumption) | assumption)
             obtain ⟨ad291, A291_3, c291_3, e291, hx291_0, hx291_1, hx291_2, hx291_3, hl291_3, hi291_3⟩ := at_T47 HR0_4.out x3_2 p291 q291
             cases e291
             replace hx291_0 := (HB.out.cell (World.block_lt_of_cell? w _ hx291_0)).trans hx291_0
             replace hx291_1 := (HB.out.cell (World.block_lt_of_cell? w _ hx291_1)).trans hx291_1
             replace hx291_2 := (HB.out.cell (World.block_lt_of_cell? w _ hx291_2)).trans hx291_2
             replace hx291_3 := (HB.out.cell (World.block_lt_of_cell? w _ hx291_3)).trans hx291_3
             have HR291_3 := Aside0.mk hi291_3; have HC291_3 := Aside0.mk hl291_3; clear hi291_3 hl291_3
             replace p291 := eq_true p291
             replace q291 := eq_true q291
             try go_wp2_with (first | ((with_reducible refine gate_dst (N := 4) rfl ?_); (try (refine gate_guard (by rfl) ?_; dsimp only)); refine box_event ?hg (N := 4) ?hd (cs := #[.int .i64 0, .int .i64 0, .int .i64 0, .slice none 0 0]) (t := 47) ?hr ?_; (case hd => rfl); (case hg => rfl); (case hr => first | (go_simp; done) | (go_simp; rfl)); intro gb292 hg w36 hbox hb; have BK292 := Aside0.mk (hbox); have GW292 := ws HB hg; have GE292 := ws HB hg; have NB288_292 := nl BK288 hg; have NB292_288 := ng BK288 hg; replace BK288 := ub BK288 hb; replace HB := bs HB hb; clear hb hbox hg; have hnb37 := NB292_288.out; have hnc37 := NB288_292.out; have hcz38_0 : w36.cell? ⟨gb292, 0, none⟩ = some (.int .i64 0) := bc BK292 0; have hcz38_1 : w36.cell? ⟨gb292, 1, none⟩ = some (.int .i64 0) := bc BK292 1; have hcz38_2 : w36.cell? ⟨gb292, 2, none⟩ = some (.int .i64 0) := bc BK292 2; have hcz38_3 : w36.cell? ⟨gb292, 3, none⟩ = some (.slice none 0 0) := bc BK292 3; have hfz38_0 := blk_frozen BK292.out 0; have hfz38_1 := blk_frozen BK292.out 1; have hfz38_2 := blk_frozen BK292.out 2; have hfz38_3 := blk_frozen BK292.out 3))
             have n0_ : Aside0 (((((w36.setCell ⟨gb292, 0, none⟩ (.int .i64 ((rd_T47 l0_4 x3_2).f0))).setCell ⟨gb292, 1, none⟩ (.int .i64 ((rd_T47 l0_4 x3_2).f1))).setCell ⟨gb292, 2, none⟩ (.int .i64 ((rd_T47 l0_4 x3_2).f2))).setCell ⟨gb292, 3, none⟩ (.slice A291_3 ((rd_T47 l0_4 x3_2).f3).length c291_3)).heap[gb288]? = some (.cells #[.int .i64 a0_0, .int .i64 a0_1, .int .i64 a0_2, .int .i64 a0_3, .slice (some ad291) l0_4.length c0_4, .slice A0_5 l0_5.length c0_5, .slice A0_6 l0_6.length c0_6] 28 (0, 0))) := ⟨by (with_reducible repeat (first | refine blk_drewN ?_ _ | refine blk_drew ?_ | refine blk_alloc ?_ _)); refine blk_far ?_ NB288_292.out _; (with_reducible repeat (first | refine blk_drewN ?_ _ | refine blk_drew ?_ | refine blk_alloc ?_ _)); refine blk_far ?_ NB288_292.out _; (with_reducible repeat (first | refine blk_drewN ?_ _ | refine blk_drew ?_ | refine blk_alloc ?_ _)); refine blk_far ?_ NB288_292.out _; (with_reducible repeat (first | refine blk_drewN ?_ _ | refine blk_drew ?_ | refine blk_alloc ?_ _)); refine blk_far ?_ NB288_292.out _; (with_reducible repeat (first | refine blk_drewN ?_ _ | refine blk_drew ?_ | refine blk_alloc ?_ _)); exact BK288.out⟩
             have n1_ : Aside0 (((((w36.setCell ⟨gb292, 0, none⟩ (.int .i64 ((rd_T47 l0_4 x3_2).f0))).setCell ⟨gb292, 1, none⟩ (.int .i64 ((rd_T47 l0_4 x3_2).f1))).setCell ⟨gb292, 2, none⟩ (.int .i64 ((rd_T47 l0_4 x3_2).f2))).setCell ⟨gb292, 3, none⟩ (.slice A291_3 ((rd_T47 l0_4 x3_2).f3).length c291_3)).heap[gb292]? = some (.cells #[.int .i64 ((rd_T47 l0_4 x3_2).f0), .int .i64 ((rd_T47 l0_4 x3_2).f1), .int .i64 ((rd_T47 l0_4 x3_2).f2), .slice A291_3 ((rd_T47 l0_4 x3_2).f3).length c291_3] 47 (0, 0))) := ⟨by (with_reducible repeat (first | refine blk_drewN ?_ _ | refine blk_drew ?_ | refine blk_alloc ?_ _)); refine blk_put (cs := #[.int .i64 ((rd_T47 l0_4 x3_2).f0), .int .i64 ((rd_T47 l0_4 x3_2).f1), .int .i64 ((rd_T47 l0_4 x3_2).f2), .slice none 0 0]) ?_ 3 _ rfl; (with_reducible repeat (first | refine blk_drewN ?_ _ | refine blk_drew ?_ | refine blk_alloc ?_ _)); refine blk_put (cs := #[.int .i64 ((rd_T47 l0_4 x3_2).f0), .int .i64 ((rd_T47 l0_4 x3_2).f1), .int .i64 0, .slice none 0 0]) ?_ 2 _ rfl; (with_reducible repeat (first | refine blk_drewN ?_ _ | refine blk_drew ?_ | refine blk_alloc ?_ _)); refine blk_put (cs := #[.int .i64 ((rd_T47 l0_4 x3_2).f0), .int .i64 0, .int .i64 0, .slice none 0 0]) ?_ 1 _ rfl; (with_reducible repeat (first | refine blk_drewN ?_ _ | refine blk_drew ?_ | refine blk_alloc ?_ _)); refine blk_put (cs := #[.int .i64 0, .int .i64 0, .int .i64 0, .slice none 0 0]) ?_ 0 _ rfl; (with_reducible repeat (first | refine blk_drewN ?_ _ | refine blk_drew ?_ | refine blk_alloc ?_ _)); exact BK292.out⟩
             have n2_ : Aside0 (Below w.heap.size w ((((w36.setCell ⟨gb292, 0, none⟩ (.int .i64 ((rd_T47 l0_4 x3_2).f0))).setCell ⟨gb292, 1, none⟩ (.int .i64 ((rd_T47 l0_4 x3_2).f1))).setCell ⟨gb292, 2, none⟩ (.int .i64 ((rd_T47 l0_4 x3_2).f2))).setCell ⟨gb292, 3, none⟩ (.slice A291_3 ((rd_T47 l0_4 x3_2).f3).length c291_3))) := ⟨by repeat (first | (with_reducible first | exact HB.out | apply below_alloc | apply pw_below_drewN | apply below_drew1 | refine below_set ?_ GE288.out | refine below_set ?_ GE292.out) | exact HB.out)⟩
             (try clear BK288); (try clear BK292); (try clear HB)
             generalize ((((w36.setCell ⟨gb292, 0, none⟩ (.int .i64 ((rd_T47 l0_4 x3_2).f0))).setCell ⟨gb292, 1, none⟩ (.int .i64 ((rd_T47 l0_4 x3_2).f1))).setCell ⟨gb292, 2, none⟩ (.int .i64 ((rd_T47 l0_4 x3_2).f2))).setCell ⟨gb292, 3, none⟩ (.slice A291_3 ((rd_T47 l0_4 x3_2).f3).length c291_3)) = w39 at n0_ n1_ n2_ ⊢
             have BK288 := n0_; have BK292 := n1_; have HB := n2_; clear n0_ n1_ n2_; replace BK288 := Aside0.mk (blk_drew BK288.out); replace BK292 := Aside0.mk (blk_drew BK292.out); replace HB := Aside0.mk (below_drew1 HB.out)
             have p294 : 0 ≤ (0 : Int) := (by omega)
             have q294 : 0 < (l0_4.length : Int) := of_decide_eq_true (by first | (with_reducible assumption) | assumption)
             obtain ⟨ad294, A294_3, c294_3, e294, hx294_0, hx294_1, hx294_2, hx294_3, hl294_3, hi294_3⟩ := at_T47 HR0_4.out 0 p294 q294
             have hw294_3 := hx294_3
             (try rw [show ((0 : Int)).toNat = 0 from rfl] at hw294_3)
             (try rw [show 0 * 4 = 0 from rfl] at hw294_3)
             (try rw [Addr.add_zero'] at hw294_3)
             have hw294_2 := hx294_2
             (try rw [show ((0 : Int)).toNat = 0 from rfl] at hw294_2)
             (try rw [show 0 * 4 = 0 from rfl] at hw294_2)
             (try rw [Addr.add_zero'] at hw294_2)
             have hw294_1 := hx294_1
             (try rw [show ((0 : Int)).toNat = 0 from rfl] at hw294_1)
             (try rw [show 0 * 4 = 0 from rfl] at hw294_1)
             (try rw [Addr.add_zero'] at hw294_1)
             have hw294_0 := hx294_0
             (try rw [show ((0 : Int)).toNat = 0 from rfl] at hw294_0)
             (try rw [show 0 * 4 = 0 from rfl] at hw294_0)
             (try rw [Addr.add_zero'] at hw294_0)
             obtain rfl : ad291 = ad294 := (by injection e294)
             have qi294 : (0 < l0_4.length) = True := eq_true (by omega)
             (try rw [show ((0 : Int)).toNat = 0 from rfl] at hx294_0)
             (try rw [show 0 * 4 = 0 from rfl] at hx294_0)
             (try rw [Addr.add_zero'] at hx294_0)
             (try rw [show ((0 : Int)).toNat = 0 from rfl] at hx294_1)
             (try rw [show 0 * 4 = 0 from rfl] at hx294_1)
             (try rw [Addr.add_zero'] at hx294_1)
             (try rw [show ((0 : Int)).toNat = 0 from rfl] at hx294_2)
             (try rw [show 0 * 4 = 0 from rfl] at hx294_2)
             (try rw [Addr.add_zero'] at hx294_2)
             (try rw [show ((0 : Int)).toNat = 0 from rfl] at hx294_3)
             (try rw [show 0 * 4 = 0 from rfl] at hx294_3)
             (try rw [Addr.add_zero'] at hx294_3)
             replace hx294_0 := (HB.out.cell (World.block_lt_of_cell? w _ hx294_0)).trans hx294_0
             replace hx294_1 := (HB.out.cell (World.block_lt_of_cell? w _ hx294_1)).trans hx294_1
             replace hx294_2 := (HB.out.cell (World.block_lt_of_cell? w _ hx294_2)).trans hx294_2
             replace hx294_3 := (HB.out.cell (World.block_lt_of_cell? w _ hx294_3)).trans hx294_3
             have HR294_3 := Aside0.mk hi294_3; have HC294_3 := Aside0.mk hl294_3; clear hi294_3 hl294_3
             replace p294 := eq_true p294
             replace q294 := eq_true q294
             refine start_ (n := 27) (S := fun w' => w'.cell? ⟨gb292, 0, none⟩ = some (.int .i64 ((rd_T47 l0_4 x3_2).f0)) ∧ w'.cell? ⟨gb292, 1, none⟩ = some (.int .i64 ((rd_T47 l0_4 x3_2).f1)) ∧ w'.cell? ⟨gb292, 2, none⟩ = some (.int .i64 ((rd_T47 l0_4 x3_2).f2)) ∧ w'.cell? ⟨gb292, 3, none⟩ = some (.slice A291_3 ((rd_T47 l0_4 x3_2).f3).length c291_3) ∧ w'.cell? ⟨gb288, 0, none⟩ = some (.int .i64 a0_0) ∧ w'.cell? ⟨gb288, 1, none⟩ = some (.int .i64 a0_1) ∧ w'.cell? ⟨gb288, 2, none⟩ = some (.int .i64 a0_2) ∧ w'.cell? ⟨gb288, 3, none⟩ = some (.int .i64 a0_3) ∧ w'.cell? ⟨gb288, 4, none⟩ = some (.slice (some ad291) l0_4.length c0_4) ∧ w'.cell? ⟨gb288, 5, none⟩ = some (.slice A0_5 l0_5.length c0_5) ∧ w'.cell? ⟨gb288, 6, none⟩ = some (.slice A0_6 l0_6.length c0_6) ∧ w'.cell? ad291 = some (.int .i64 ((rd_T47 l0_4 0).f0)) ∧ w'.cell? ⟨ad291.block, ad291.off + 1, none⟩ = some (.int .i64 ((rd_T47 l0_4 0).f1)) ∧ w'.cell? ⟨ad291.block, ad291.off + 2, none⟩ = some (.int .i64 ((rd_T47 l0_4 0).f2)) ∧ w'.cell? ⟨ad291.block, ad291.off + 3, none⟩ = some (.slice A294_3 ((rd_T47 l0_4 0).f3).length c294_3)) (ds := []) #[false, false, false, false, false, false, false, false, false, false, false, false, false, false, false, false, false, false, false, false, false, false, false, false, false, false, false] (by kernel_rfl) rfl rfl ⟨bc BK292 0, bc BK292 1, bc BK292 2, bc BK292 3, bc BK288 0, bc BK288 1, bc BK288 2, bc BK288 3, bc BK288 4, bc BK288 5, bc BK288 6, ((HB.out.cell (World.block_lt_of_cell? w _ hw294_0)).trans hw294_0), ((HB.out.cell (World.block_lt_of_cell? w _ hw294_1)).trans hw294_1), ((HB.out.cell (World.block_lt_of_cell? w _ hw294_2)).trans hw294_2), ((HB.out.cell (World.block_lt_of_cell? w _ hw294_3)).trans hw294_3)⟩ (fun hHeld => ?_); refine with_tabW frustumref42_Valid.tab7 frustumref42_Valid.bits7 (fun HT_ HW_ => ?_)
             generalize w39.drew = w40 at BK288 BK292 HB HR294_3 hx294_0 hx294_1 hx294_2 hx294_3 hHeld ⊢
             refine tk HT_ HW_ hHeld 0 (some 56) rfl (by rintro w' ⟨s0, s1, s2, s3, s4, s5, s6, s7, s8, s9, s10, s11, s12, s13, s14⟩; go_simp; with_reducible rfl) ?_
             refine one_ (i := 1) (N := some 57) #[true, true, false, false, false, false, false, false, false, false, false, false, false, false, false, false, false, false, false, false, false, false, false, false, false, false, false] rfl rfl (one_of HT_.out (by kernel_rfl)) (by decide) (fun K hK => ?_)
             refine goes_ Try.func32 (by kernel_rfl) rfl #[.agg #[.int .i64 ((rd_T47 l0_4 x3_2).f0), .int .i64 ((rd_T47 l0_4 x3_2).f1), .int .i64 ((rd_T47 l0_4 x3_2).f2), .slice A291_3 ((rd_T47 l0_4 x3_2).f3).length c291_3]] (by rfl) rfl rfl (by (try simp only [List.map_toArray, List.map_cons, List.map_nil]); first | done | rfl | (simp only [List.length_drop, List.length_take]; rfl)) ?_
             with_reducible refine (frustumref10_Valid.calls k2 ((rd_T47 l0_4 x3_2).f0) ((rd_T47 l0_4 x3_2).f1) ((rd_T47 l0_4 x3_2).f2) _ _ ((rd_T47 l0_4 x3_2).f3) true _ ?side1 ?side2 A22.out).mono ?_
             (case side1 => repeat (first | exact (Kd.C_below HR291_3.out HB.out) | (with_reducible refine Kd.C_alloc ?_ _) | (with_reducible refine Kd.C_drewN ?_ _) | (with_reducible refine Kd.C_drew ?_)))
             (case side2 => exact HC291_3.out)
             rintro e w41 ⟨rfl, hb⟩; refine ⟨_, rfl, ?_⟩; replace BK288 := ub BK288 hb; replace BK292 := ub BK292 hb; replace HB := bs HB hb; (try clear hb); (try clear hb2); (try clear hk); (try clear hi)
             refine hK.out _ _ ⟨bc BK292 0, bc BK292 1, bc BK292 2, bc BK292 3, bc BK288 0, bc BK288 1, bc BK288 2, bc BK288 3, bc BK288 4, bc BK288 5, bc BK288 6, ((HB.out.cell (World.block_lt_of_cell? w _ hw294_0)).trans hw294_0), ((HB.out.cell (World.block_lt_of_cell? w _ hw294_1)).trans hw294_1), ((HB.out.cell (World.block_lt_of_cell? w _ hw294_2)).trans hw294_2), ((HB.out.cell (World.block_lt_of_cell? w _ hw294_3)).trans hw294_3)⟩ (fun hHeld => ?_)
             clear hK K
             refine norm_ (a' := ?_) ?_ ?_
             rotate_left
             ·show Act.put _ (some 57) _ = _
              simp only [Act.put, List.setIfInBounds_toArray, List.set_cons_zero, List.set_cons_succ, i64_w, i32_w]
              rfl
             refine on HT_ 2 (some 58) ?_
             refine on HT_ 3 (some 59) ?_
             refine on HT_ 4 (some 60) ?_
             refine on HT_ 6 (some 62) ?_
             refine tk HT_ HW_ hHeld 5 (some 61) rfl (by rintro w' ⟨s0, s1, s2, s3, s4, s5, s6, s7, s8, s9, s10, s11, s12, s13, s14⟩; go_simp; with_reducible rfl) ?_
             refine tk HT_ HW_ hHeld 7 (some 63) rfl (by rintro w' ⟨s0, s1, s2, s3, s4, s5, s6, s7, s8, s9, s10, s11, s12, s13, s14⟩; go_simp; with_reducible rfl) ?_
             refine on HT_ 8 (some 64) ?_
             refine on HT_ 9 (some 65) ?_
             refine tk HT_ HW_ hHeld 10 (some 66) rfl (by rintro w' ⟨s0, s1, s2, s3, s4, s5, s6, s7, s8, s9, s10, s11, s12, s13, s14⟩; go_simp; with_reducible rfl) ?_
             refine on HT_ 11 (some 67) ?_
             refine on HT_ 12 (some 68) ?_
             refine on HT_ 13 (some 69) ?_
             refine on HT_ 14 (some 70) ?_
             refine on HT_ 16 (some 72) ?_
             refine tk HT_ HW_ hHeld 15 (some 71) rfl (by rintro w' ⟨s0, s1, s2, s3, s4, s5, s6, s7, s8, s9, s10, s11, s12, s13, s14⟩; go_simp; with_reducible rfl) ?_
             refine tk HT_ HW_ hHeld 17 (some 73) rfl (by rintro w' ⟨s0, s1, s2, s3, s4, s5, s6, s7, s8, s9, s10, s11, s12, s13, s14⟩; go_simp; with_reducible rfl) ?_
             refine on HT_ 18 (some 74) ?_
             refine on HT_ 19 (some 75) ?_
             refine on HT_ 20 (some 76) ?_
             refine on HT_ 21 (some 77) ?_
             refine on HT_ 23 (some 79) ?_
             refine tk HT_ HW_ hHeld 22 (some 78) rfl (by rintro w' ⟨s0, s1, s2, s3, s4, s5, s6, s7, s8, s9, s10, s11, s12, s13, s14⟩; go_simp; with_reducible rfl) ?_
             refine tk HT_ HW_ hHeld 24 (some 80) rfl (by rintro w' ⟨s0, s1, s2, s3, s4, s5, s6, s7, s8, s9, s10, s11, s12, s13, s14⟩; go_simp; with_reducible rfl) ?_
             refine on HT_ 25 (some 81) ?_
             refine on HT_ 26 (some 82) ?_
             refine done_ (done_of HT_.out (by kernel_rfl)) ?_
             try go_wp2
             go_ret
             exact ⟨by first | rfl | (simp [errW_none, errW_some] <;> rfl) | (simp [*, errW_none, errW_some] <;> rfl), by repeat (first | (with_reducible first | exact HB.out | apply below_alloc | apply pw_below_drewN | apply below_drew1 | refine below_set ?_ GE288.out | refine below_set ?_ GE292.out) | exact HB.out)⟩
           ·rw [if_neg c26] at H
            have c26b0 : (((rd_T47 l0_4 x3_2).f1) == a0_0) = false := beq_eq_false_iff_ne.mpr c26
            have c26b1 : (((rd_T47 l0_4 x3_2).f1) != a0_0) = true := bne_iff_ne.mpr c26
            obtain rfl := Option.some.inj H
            have hcz42_0 : wr.cell? ⟨gb288, 0, none⟩ = some (.int .i64 a0_0) := bc BK288 0
            have hcz42_1 : wr.cell? ⟨gb288, 1, none⟩ = some (.int .i64 a0_1) := bc BK288 1
            have hcz42_2 : wr.cell? ⟨gb288, 2, none⟩ = some (.int .i64 a0_2) := bc BK288 2
            have hcz42_3 : wr.cell? ⟨gb288, 3, none⟩ = some (.int .i64 a0_3) := bc BK288 3
            have hcz42_4 : wr.cell? ⟨gb288, 4, none⟩ = some (.slice A0_4 l0_4.length c0_4) := bc BK288 4
            have hcz42_5 : wr.cell? ⟨gb288, 5, none⟩ = some (.slice A0_5 l0_5.length c0_5) := bc BK288 5
            have hcz42_6 : wr.cell? ⟨gb288, 6, none⟩ = some (.slice A0_6 l0_6.length c0_6) := bc BK288 6
            have hfz42_0 := blk_frozen BK288.out 0; have hfz42_1 := blk_frozen BK288.out 1; have hfz42_2 := blk_frozen BK288.out 2; have hfz42_3 := blk_frozen BK288.out 3; have hfz42_4 := blk_frozen BK288.out 4; have hfz42_5 := blk_frozen BK288.out 5; have hfz42_6 := blk_frozen BK288.out 6
            have p291 : 0 ≤ (x3_2 : Int) := of_decide_eq_true (by first | (with_reducible assumption) | assumption)
            have q291 : x3_2 < (l0_4.length : Int) := of_decide_eq_true (by first | (with_reducible assumption) | assumption)
            obtain ⟨ad291, A291_3, c291_3, e291, hx291_0, hx291_1, hx291_2, hx291_3, hl291_3, hi291_3⟩ := at_T47 HR0_4.out x3_2 p291 q291
            cases e291
            replace hx291_0 := (HB.out.cell (World.block_lt_of_cell? w _ hx291_0)).trans hx291_0
            replace hx291_1 := (HB.out.cell (World.block_lt_of_cell? w _ hx291_1)).trans hx291_1
            replace hx291_2 := (HB.out.cell (World.block_lt_of_cell? w _ hx291_2)).trans hx291_2
            replace hx291_3 := (HB.out.cell (World.block_lt_of_cell? w _ hx291_3)).trans hx291_3
            have HR291_3 := Aside0.mk hi291_3; have HC291_3 := Aside0.mk hl291_3; clear hi291_3 hl291_3
            replace p291 := eq_true p291
            replace q291 := eq_true q291
            try go_wp2_with (first | ((with_reducible refine gate_dst (N := 4) rfl ?_); (try (refine gate_guard (by rfl) ?_; dsimp only)); refine box_event ?hg (N := 4) ?hd (cs := #[.int .i64 0, .int .i64 0, .int .i64 0, .slice none 0 0]) (t := 47) ?hr ?_; (case hd => rfl); (case hg => rfl); (case hr => first | (go_simp; done) | (go_simp; rfl)); intro gb292 hg w43 hbox hb; have BK292 := Aside0.mk (hbox); have GW292 := ws HB hg; have GE292 := ws HB hg; have NB288_292 := nl BK288 hg; have NB292_288 := ng BK288 hg; replace BK288 := ub BK288 hb; replace HB := bs HB hb; clear hb hbox hg; have hnb44 := NB292_288.out; have hnc44 := NB288_292.out; have hcz45_0 : w43.cell? ⟨gb292, 0, none⟩ = some (.int .i64 0) := bc BK292 0; have hcz45_1 : w43.cell? ⟨gb292, 1, none⟩ = some (.int .i64 0) := bc BK292 1; have hcz45_2 : w43.cell? ⟨gb292, 2, none⟩ = some (.int .i64 0) := bc BK292 2; have hcz45_3 : w43.cell? ⟨gb292, 3, none⟩ = some (.slice none 0 0) := bc BK292 3; have hfz45_0 := blk_frozen BK292.out 0; have hfz45_1 := blk_frozen BK292.out 1; have hfz45_2 := blk_frozen BK292.out 2; have hfz45_3 := blk_frozen BK292.out 3))
            have n0_ : Aside0 (((((w43.setCell ⟨gb292, 0, none⟩ (.int .i64 ((rd_T47 l0_4 x3_2).f0))).setCell ⟨gb292, 1, none⟩ (.int .i64 ((rd_T47 l0_4 x3_2).f1))).setCell ⟨gb292, 2, none⟩ (.int .i64 ((rd_T47 l0_4 x3_2).f2))).setCell ⟨gb292, 3, none⟩ (.slice A291_3 ((rd_T47 l0_4 x3_2).f3).length c291_3)).heap[gb288]? = some (.cells #[.int .i64 a0_0, .int .i64 a0_1, .int .i64 a0_2, .int .i64 a0_3, .slice (some ad291) l0_4.length c0_4, .slice A0_5 l0_5.length c0_5, .slice A0_6 l0_6.length c0_6] 28 (0, 0))) := ⟨by (with_reducible repeat (first | refine blk_drewN ?_ _ | refine blk_drew ?_ | refine blk_alloc ?_ _)); refine blk_far ?_ NB288_292.out _; (with_reducible repeat (first | refine blk_drewN ?_ _ | refine blk_drew ?_ | refine blk_alloc ?_ _)); refine blk_far ?_ NB288_292.out _; (with_reducible repeat (first | refine blk_drewN ?_ _ | refine blk_drew ?_ | refine blk_alloc ?_ _)); refine blk_far ?_ NB288_292.out _; (with_reducible repeat (first | refine blk_drewN ?_ _ | refine blk_drew ?_ | refine blk_alloc ?_ _)); refine blk_far ?_ NB288_292.out _; (with_reducible repeat (first | refine blk_drewN ?_ _ | refine blk_drew ?_ | refine blk_alloc ?_ _)); exact BK288.out⟩
            have n1_ : Aside0 (((((w43.setCell ⟨gb292, 0, none⟩ (.int .i64 ((rd_T47 l0_4 x3_2).f0))).setCell ⟨gb292, 1, none⟩ (.int .i64 ((rd_T47 l0_4 x3_2).f1))).setCell ⟨gb292, 2, none⟩ (.int .i64 ((rd_T47 l0_4 x3_2).f2))).setCell ⟨gb292, 3, none⟩ (.slice A291_3 ((rd_T47 l0_4 x3_2).f3).length c291_3)).heap[gb292]? = some (.cells #[.int .i64 ((rd_T47 l0_4 x3_2).f0), .int .i64 ((rd_T47 l0_4 x3_2).f1), .int .i64 ((rd_T47 l0_4 x3_2).f2), .slice A291_3 ((rd_T47 l0_4 x3_2).f3).length c291_3] 47 (0, 0))) := ⟨by (with_reducible repeat (first | refine blk_drewN ?_ _ | refine blk_drew ?_ | refine blk_alloc ?_ _)); refine blk_put (cs := #[.int .i64 ((rd_T47 l0_4 x3_2).f0), .int .i64 ((rd_T47 l0_4 x3_2).f1), .int .i64 ((rd_T47 l0_4 x3_2).f2), .slice none 0 0]) ?_ 3 _ rfl; (with_reducible repeat (first | refine blk_drewN ?_ _ | refine blk_drew ?_ | refine blk_alloc ?_ _)); refine blk_put (cs := #[.int .i64 ((rd_T47 l0_4 x3_2).f0), .int .i64 ((rd_T47 l0_4 x3_2).f1), .int .i64 0, .slice none 0 0]) ?_ 2 _ rfl; (with_reducible repeat (first | refine blk_drewN ?_ _ | refine blk_drew ?_ | refine blk_alloc ?_ _)); refine blk_put (cs := #[.int .i64 ((rd_T47 l0_4 x3_2).f0), .int .i64 0, .int .i64 0, .slice none 0 0]) ?_ 1 _ rfl; (with_reducible repeat (first | refine blk_drewN ?_ _ | refine blk_drew ?_ | refine blk_alloc ?_ _)); refine blk_put (cs := #[.int .i64 0, .int .i64 0, .int .i64 0, .slice none 0 0]) ?_ 0 _ rfl; (with_reducible repeat (first | refine blk_drewN ?_ _ | refine blk_drew ?_ | refine blk_alloc ?_ _)); exact BK292.out⟩
            have n2_ : Aside0 (Below w.heap.size w ((((w43.setCell ⟨gb292, 0, none⟩ (.int .i64 ((rd_T47 l0_4 x3_2).f0))).setCell ⟨gb292, 1, none⟩ (.int .i64 ((rd_T47 l0_4 x3_2).f1))).setCell ⟨gb292, 2, none⟩ (.int .i64 ((rd_T47 l0_4 x3_2).f2))).setCell ⟨gb292, 3, none⟩ (.slice A291_3 ((rd_T47 l0_4 x3_2).f3).length c291_3))) := ⟨by repeat (first | (with_reducible first | exact HB.out | apply below_alloc | apply pw_below_drewN | apply below_drew1 | refine below_set ?_ GE288.out | refine below_set ?_ GE292.out) | exact HB.out)⟩
            (try clear BK288); (try clear BK292); (try clear HB)
            generalize ((((w43.setCell ⟨gb292, 0, none⟩ (.int .i64 ((rd_T47 l0_4 x3_2).f0))).setCell ⟨gb292, 1, none⟩ (.int .i64 ((rd_T47 l0_4 x3_2).f1))).setCell ⟨gb292, 2, none⟩ (.int .i64 ((rd_T47 l0_4 x3_2).f2))).setCell ⟨gb292, 3, none⟩ (.slice A291_3 ((rd_T47 l0_4 x3_2).f3).length c291_3)) = w46 at n0_ n1_ n2_ ⊢
            have BK288 := n0_; have BK292 := n1_; have HB := n2_; clear n0_ n1_ n2_; replace BK288 := Aside0.mk (blk_drew BK288.out); replace BK292 := Aside0.mk (blk_drew BK292.out); replace HB := Aside0.mk (below_drew1 HB.out)
            have p294 : 0 ≤ (0 : Int) := (by omega)
            have q294 : 0 < (l0_4.length : Int) := of_decide_eq_true (by first | (with_reducible assumption) | assumption)
            obtain ⟨ad294, A294_3, c294_3, e294, hx294_0, hx294_1, hx294_2, hx294_3, hl294_3, hi294_3⟩ := at_T47 HR0_4.out 0 p294 q294
            have hw294_3 := hx294_3
            (try rw [show ((0 : Int)).toNat = 0 from rfl] at hw294_3)
            (try rw [show 0 * 4 = 0 from rfl] at hw294_3)
            (try rw [Addr.add_zero'] at hw294_3)
            have hw294_2 := hx294_2
            (try rw [show ((0 : Int)).toNat = 0 from rfl] at hw294_2)
            (try rw [show 0 * 4 = 0 from rfl] at hw294_2)
            (try rw [Addr.add_zero'] at hw294_2)
            have hw294_1 := hx294_1
            (try rw [show ((0 : Int)).toNat = 0 from rfl] at hw294_1)
            (try rw [show 0 * 4 = 0 from rfl] at hw294_1)
            (try rw [Addr.add_zero'] at hw294_1)
            have hw294_0 := hx294_0
            (try rw [show ((0 : Int)).toNat = 0 from rfl] at hw294_0)
            (try rw [show 0 * 4 = 0 from rfl] at hw294_0)
            (try rw [Addr.add_zero'] at hw294_0)
            obtain rfl : ad291 = ad294 := (by injection e294)
            have qi294 : (0 < l0_4.length) = True := eq_true (by omega)
            (try rw [show ((0 : Int)).toNat = 0 from rfl] at hx294_0)
            (try rw [show 0 * 4 = 0 from rfl] at hx294_0)
            (try rw [Addr.add_zero'] at hx294_0)
            (try rw [show ((0 : Int)).toNat = 0 from rfl] at hx294_1)
            (try rw [show 0 * 4 = 0 from rfl] at hx294_1)
            (try rw [Addr.add_zero'] at hx294_1)
            (try rw [show ((0 : Int)).toNat = 0 from rfl] at hx294_2)
            (try rw [show 0 * 4 = 0 from rfl] at hx294_2)
            (try rw [Addr.add_zero'] at hx294_2)
            (try rw [show ((0 : Int)).toNat = 0 from rfl] at hx294_3)
            (try rw [show 0 * 4 = 0 from rfl] at hx294_3)
            (try rw [Addr.add_zero'] at hx294_3)
            replace hx294_0 := (HB.out.cell (World.block_lt_of_cell? w _ hx294_0)).trans hx294_0
            replace hx294_1 := (HB.out.cell (World.block_lt_of_cell? w _ hx294_1)).trans hx294_1
            replace hx294_2 := (HB.out.cell (World.block_lt_of_cell? w _ hx294_2)).trans hx294_2
            replace hx294_3 := (HB.out.cell (World.block_lt_of_cell? w _ hx294_3)).trans hx294_3
            have HR294_3 := Aside0.mk hi294_3; have HC294_3 := Aside0.mk hl294_3; clear hi294_3 hl294_3
            replace p294 := eq_true p294
            replace q294 := eq_true q294
            refine start_ (n := 27) (S := fun w' => w'.cell? ⟨gb292, 0, none⟩ = some (.int .i64 ((rd_T47 l0_4 x3_2).f0)) ∧ w'.cell? ⟨gb292, 1, none⟩ = some (.int .i64 ((rd_T47 l0_4 x3_2).f1)) ∧ w'.cell? ⟨gb292, 2, none⟩ = some (.int .i64 ((rd_T47 l0_4 x3_2).f2)) ∧ w'.cell? ⟨gb292, 3, none⟩ = some (.slice A291_3 ((rd_T47 l0_4 x3_2).f3).length c291_3) ∧ w'.cell? ⟨gb288, 0, none⟩ = some (.int .i64 a0_0) ∧ w'.cell? ⟨gb288, 1, none⟩ = some (.int .i64 a0_1) ∧ w'.cell? ⟨gb288, 2, none⟩ = some (.int .i64 a0_2) ∧ w'.cell? ⟨gb288, 3, none⟩ = some (.int .i64 a0_3) ∧ w'.cell? ⟨gb288, 4, none⟩ = some (.slice (some ad291) l0_4.length c0_4) ∧ w'.cell? ⟨gb288, 5, none⟩ = some (.slice A0_5 l0_5.length c0_5) ∧ w'.cell? ⟨gb288, 6, none⟩ = some (.slice A0_6 l0_6.length c0_6) ∧ w'.cell? ad291 = some (.int .i64 ((rd_T47 l0_4 0).f0)) ∧ w'.cell? ⟨ad291.block, ad291.off + 1, none⟩ = some (.int .i64 ((rd_T47 l0_4 0).f1)) ∧ w'.cell? ⟨ad291.block, ad291.off + 2, none⟩ = some (.int .i64 ((rd_T47 l0_4 0).f2)) ∧ w'.cell? ⟨ad291.block, ad291.off + 3, none⟩ = some (.slice A294_3 ((rd_T47 l0_4 0).f3).length c294_3)) (ds := []) #[false, false, false, false, false, false, false, false, false, false, false, false, false, false, false, false, false, false, false, false, false, false, false, false, false, false, false] (by kernel_rfl) rfl rfl ⟨bc BK292 0, bc BK292 1, bc BK292 2, bc BK292 3, bc BK288 0, bc BK288 1, bc BK288 2, bc BK288 3, bc BK288 4, bc BK288 5, bc BK288 6, ((HB.out.cell (World.block_lt_of_cell? w _ hw294_0)).trans hw294_0), ((HB.out.cell (World.block_lt_of_cell? w _ hw294_1)).trans hw294_1), ((HB.out.cell (World.block_lt_of_cell? w _ hw294_2)).trans hw294_2), ((HB.out.cell (World.block_lt_of_cell? w _ hw294_3)).trans hw294_3)⟩ (fun hHeld => ?_); refine with_tabW frustumref42_Valid.tab7 frustumref42_Valid.bits7 (fun HT_ HW_ => ?_)
            generalize w46.drew = w47 at BK288 BK292 HB HR294_3 hx294_0 hx294_1 hx294_2 hx294_3 hHeld ⊢
            refine tk HT_ HW_ hHeld 0 (some 56) rfl (by rintro w' ⟨s0, s1, s2, s3, s4, s5, s6, s7, s8, s9, s10, s11, s12, s13, s14⟩; go_simp; with_reducible rfl) ?_
            refine one_ (i := 1) (N := some 57) #[true, true, false, false, false, false, false, false, false, false, false, false, false, false, false, false, false, false, false, false, false, false, false, false, false, false, false] rfl rfl (one_of HT_.out (by kernel_rfl)) (by decide) (fun K hK => ?_)
            refine goes_ Try.func32 (by kernel_rfl) rfl #[.agg #[.int .i64 ((rd_T47 l0_4 x3_2).f0), .int .i64 ((rd_T47 l0_4 x3_2).f1), .int .i64 ((rd_T47 l0_4 x3_2).f2), .slice A291_3 ((rd_T47 l0_4 x3_2).f3).length c291_3]] (by rfl) rfl rfl (by (try simp only [List.map_toArray, List.map_cons, List.map_nil]); first | done | rfl | (simp only [List.length_drop, List.length_take]; rfl)) ?_
            with_reducible refine (frustumref10_Valid.calls k2 ((rd_T47 l0_4 x3_2).f0) ((rd_T47 l0_4 x3_2).f1) ((rd_T47 l0_4 x3_2).f2) _ _ ((rd_T47 l0_4 x3_2).f3) true _ ?side1 ?side2 A22.out).mono ?_
            (case side1 => repeat (first | exact (Kd.C_below HR291_3.out HB.out) | (with_reducible refine Kd.C_alloc ?_ _) | (with_reducible refine Kd.C_drewN ?_ _) | (with_reducible refine Kd.C_drew ?_)))
            (case side2 => exact HC291_3.out)
            rintro e w48 ⟨rfl, hb⟩; refine ⟨_, rfl, ?_⟩; replace BK288 := ub BK288 hb; replace BK292 := ub BK292 hb; replace HB := bs HB hb; (try clear hb); (try clear hb2); (try clear hk); (try clear hi)
            refine hK.out _ _ ⟨bc BK292 0, bc BK292 1, bc BK292 2, bc BK292 3, bc BK288 0, bc BK288 1, bc BK288 2, bc BK288 3, bc BK288 4, bc BK288 5, bc BK288 6, ((HB.out.cell (World.block_lt_of_cell? w _ hw294_0)).trans hw294_0), ((HB.out.cell (World.block_lt_of_cell? w _ hw294_1)).trans hw294_1), ((HB.out.cell (World.block_lt_of_cell? w _ hw294_2)).trans hw294_2), ((HB.out.cell (World.block_lt_of_cell? w _ hw294_3)).trans hw294_3)⟩ (fun hHeld => ?_)
            clear hK K
            refine norm_ (a' := ?_) ?_ ?_
            rotate_left
            ·show Act.put _ (some 57) _ = _
             simp only [Act.put, List.setIfInBounds_toArray, List.set_cons_zero, List.set_cons_succ, i64_w, i32_w]
             rfl
            refine on HT_ 2 (some 58) ?_
            refine on HT_ 3 (some 59) ?_
            refine on HT_ 4 (some 60) ?_
            refine on HT_ 6 (some 62) ?_
            refine tk HT_ HW_ hHeld 5 (some 61) rfl (by rintro w' ⟨s0, s1, s2, s3, s4, s5, s6, s7, s8, s9, s10, s11, s12, s13, s14⟩; go_simp; with_reducible rfl) ?_
            refine tk HT_ HW_ hHeld 7 (some 63) rfl (by rintro w' ⟨s0, s1, s2, s3, s4, s5, s6, s7, s8, s9, s10, s11, s12, s13, s14⟩; go_simp; with_reducible rfl) ?_
            refine on HT_ 8 (some 64) ?_
            refine on HT_ 9 (some 65) ?_
            refine tk HT_ HW_ hHeld 10 (some 66) rfl (by rintro w' ⟨s0, s1, s2, s3, s4, s5, s6, s7, s8, s9, s10, s11, s12, s13, s14⟩; go_simp; with_reducible rfl) ?_
            refine on HT_ 11 (some 67) ?_
            refine on HT_ 12 (some 68) ?_
            refine on HT_ 13 (some 69) ?_
            refine on HT_ 14 (some 70) ?_
            refine on HT_ 16 (some 72) ?_
            refine tk HT_ HW_ hHeld 15 (some 71) rfl (by rintro w' ⟨s0, s1, s2, s3, s4, s5, s6, s7, s8, s9, s10, s11, s12, s13, s14⟩; go_simp; with_reducible rfl) ?_
            refine tk HT_ HW_ hHeld 17 (some 73) rfl (by rintro w' ⟨s0, s1, s2, s3, s4, s5, s6, s7, s8, s9, s10, s11, s12, s13, s14⟩; go_simp; with_reducible rfl) ?_
            refine on HT_ 18 (some 74) ?_
            refine on HT_ 19 (some 75) ?_
            refine on HT_ 20 (some 76) ?_
            refine off HT_ 21 (some 77) ?_
            refine off HT_ 22 (some 78) ?_
            refine off HT_ 23 (some 79) ?_
            refine off HT_ 24 (some 80) ?_
            refine off HT_ 25 (some 81) ?_
            refine on HT_ 26 (some 82) ?_
            refine done_ (done_of HT_.out (by kernel_rfl)) ?_
            try go_wp2
            go_ret
            exact ⟨by first | rfl | (simp [errW_none, errW_some] <;> rfl) | (simp [*, errW_none, errW_some] <;> rfl), by repeat (first | (with_reducible first | exact HB.out | apply below_alloc | apply pw_below_drewN | apply below_drew1 | refine below_set ?_ GE288.out | refine below_set ?_ GE292.out) | exact HB.out)⟩
          ·rw [if_neg c25] at H
           have c25b0 : (((rd_T47 l0_4 x3_2).f0) == ((rd_T47 l0_4 0).f0)) = false := beq_eq_false_iff_ne.mpr c25
           have c25b1 : (((rd_T47 l0_4 x3_2).f0) != ((rd_T47 l0_4 0).f0)) = true := bne_iff_ne.mpr c25
           obtain rfl := Option.some.inj H
           have hcz49_0 : wr.cell? ⟨gb288, 0, none⟩ = some (.int .i64 a0_0) := bc BK288 0
           have hcz49_1 : wr.cell? ⟨gb288, 1, none⟩ = some (.int .i64 a0_1) := bc BK288 1
           have hcz49_2 : wr.cell? ⟨gb288, 2, none⟩ = some (.int .i64 a0_2) := bc BK288 2
           have hcz49_3 : wr.cell? ⟨gb288, 3, none⟩ = some (.int .i64 a0_3) := bc BK288 3
           have hcz49_4 : wr.cell? ⟨gb288, 4, none⟩ = some (.slice A0_4 l0_4.length c0_4) := bc BK288 4
           have hcz49_5 : wr.cell? ⟨gb288, 5, none⟩ = some (.slice A0_5 l0_5.length c0_5) := bc BK288 5
           have hcz49_6 : wr.cell? ⟨gb288, 6, none⟩ = some (.slice A0_6 l0_6.length c0_6) := bc BK288 6
           have hfz49_0 := blk_frozen BK288.out 0; have hfz49_1 := blk_frozen BK288.out 1; have hfz49_2 := blk_frozen BK288.out 2; have hfz49_3 := blk_frozen BK288.out 3; have hfz49_4 := blk_frozen BK288.out 4; have hfz49_5 := blk_frozen BK288.out 5; have hfz49_6 := blk_frozen BK288.out 6
           have p291 : 0 ≤ (x3_2 : Int) := of_decide_eq_true (by first | (with_reducible assumption) | assumption)
           have q291 : x3_2 < (l0_4.length : Int) := of_decide_eq_true (by first | (with_reducible assumption) | assumption)
           obtain ⟨ad291, A291_3, c291_3, e291, hx291_0, hx291_1, hx291_2, hx291_3, hl291_3, hi291_3⟩ := at_T47 HR0_4.out x3_2 p291 q291
           cases e291
           replace hx291_0 := (HB.out.cell (World.block_lt_of_cell? w _ hx291_0)).trans hx291_0
           replace hx291_1 := (HB.out.cell (World.block_lt_of_cell? w _ hx291_1)).trans hx291_1
           replace hx291_2 := (HB.out.cell (World.block_lt_of_cell? w _ hx291_2)).trans hx291_2
           replace hx291_3 := (HB.out.cell (World.block_lt_of_cell? w _ hx291_3)).trans hx291_3
           have HR291_3 := Aside0.mk hi291_3; have HC291_3 := Aside0.mk hl291_3; clear hi291_3 hl291_3
           replace p291 := eq_true p291
           replace q291 := eq_true q291
           try go_wp2_with (first | ((with_reducible refine gate_dst (N := 4) rfl ?_); (try (refine gate_guard (by rfl) ?_; dsimp only)); refine box_event ?hg (N := 4) ?hd (cs := #[.int .i64 0, .int .i64 0, .int .i64 0, .slice none 0 0]) (t := 47) ?hr ?_; (case hd => rfl); (case hg => rfl); (case hr => first | (go_simp; done) | (go_simp; rfl)); intro gb292 hg w50 hbox hb; have BK292 := Aside0.mk (hbox); have GW292 := ws HB hg; have GE292 := ws HB hg; have NB288_292 := nl BK288 hg; have NB292_288 := ng BK288 hg; replace BK288 := ub BK288 hb; replace HB := bs HB hb; clear hb hbox hg; have hnb51 := NB292_288.out; have hnc51 := NB288_292.out; have hcz52_0 : w50.cell? ⟨gb292, 0, none⟩ = some (.int .i64 0) := bc BK292 0; have hcz52_1 : w50.cell? ⟨gb292, 1, none⟩ = some (.int .i64 0) := bc BK292 1; have hcz52_2 : w50.cell? ⟨gb292, 2, none⟩ = some (.int .i64 0) := bc BK292 2; have hcz52_3 : w50.cell? ⟨gb292, 3, none⟩ = some (.slice none 0 0) := bc BK292 3; have hfz52_0 := blk_frozen BK292.out 0; have hfz52_1 := blk_frozen BK292.out 1; have hfz52_2 := blk_frozen BK292.out 2; have hfz52_3 := blk_frozen BK292.out 3))
           have n0_ : Aside0 (((((w50.setCell ⟨gb292, 0, none⟩ (.int .i64 ((rd_T47 l0_4 x3_2).f0))).setCell ⟨gb292, 1, none⟩ (.int .i64 ((rd_T47 l0_4 x3_2).f1))).setCell ⟨gb292, 2, none⟩ (.int .i64 ((rd_T47 l0_4 x3_2).f2))).setCell ⟨gb292, 3, none⟩ (.slice A291_3 ((rd_T47 l0_4 x3_2).f3).length c291_3)).heap[gb288]? = some (.cells #[.int .i64 a0_0, .int .i64 a0_1, .int .i64 a0_2, .int .i64 a0_3, .slice (some ad291) l0_4.length c0_4, .slice A0_5 l0_5.length c0_5, .slice A0_6 l0_6.length c0_6] 28 (0, 0))) := ⟨by (with_reducible repeat (first | refine blk_drewN ?_ _ | refine blk_drew ?_ | refine blk_alloc ?_ _)); refine blk_far ?_ NB288_292.out _; (with_reducible repeat (first | refine blk_drewN ?_ _ | refine blk_drew ?_ | refine blk_alloc ?_ _)); refine blk_far ?_ NB288_292.out _; (with_reducible repeat (first | refine blk_drewN ?_ _ | refine blk_drew ?_ | refine blk_alloc ?_ _)); refine blk_far ?_ NB288_292.out _; (with_reducible repeat (first | refine blk_drewN ?_ _ | refine blk_drew ?_ | refine blk_alloc ?_ _)); refine blk_far ?_ NB288_292.out _; (with_reducible repeat (first | refine blk_drewN ?_ _ | refine blk_drew ?_ | refine blk_alloc ?_ _)); exact BK288.out⟩
           have n1_ : Aside0 (((((w50.setCell ⟨gb292, 0, none⟩ (.int .i64 ((rd_T47 l0_4 x3_2).f0))).setCell ⟨gb292, 1, none⟩ (.int .i64 ((rd_T47 l0_4 x3_2).f1))).setCell ⟨gb292, 2, none⟩ (.int .i64 ((rd_T47 l0_4 x3_2).f2))).setCell ⟨gb292, 3, none⟩ (.slice A291_3 ((rd_T47 l0_4 x3_2).f3).length c291_3)).heap[gb292]? = some (.cells #[.int .i64 ((rd_T47 l0_4 x3_2).f0), .int .i64 ((rd_T47 l0_4 x3_2).f1), .int .i64 ((rd_T47 l0_4 x3_2).f2), .slice A291_3 ((rd_T47 l0_4 x3_2).f3).length c291_3] 47 (0, 0))) := ⟨by (with_reducible repeat (first | refine blk_drewN ?_ _ | refine blk_drew ?_ | refine blk_alloc ?_ _)); refine blk_put (cs := #[.int .i64 ((rd_T47 l0_4 x3_2).f0), .int .i64 ((rd_T47 l0_4 x3_2).f1), .int .i64 ((rd_T47 l0_4 x3_2).f2), .slice none 0 0]) ?_ 3 _ rfl; (with_reducible repeat (first | refine blk_drewN ?_ _ | refine blk_drew ?_ | refine blk_alloc ?_ _)); refine blk_put (cs := #[.int .i64 ((rd_T47 l0_4 x3_2).f0), .int .i64 ((rd_T47 l0_4 x3_2).f1), .int .i64 0, .slice none 0 0]) ?_ 2 _ rfl; (with_reducible repeat (first | refine blk_drewN ?_ _ | refine blk_drew ?_ | refine blk_alloc ?_ _)); refine blk_put (cs := #[.int .i64 ((rd_T47 l0_4 x3_2).f0), .int .i64 0, .int .i64 0, .slice none 0 0]) ?_ 1 _ rfl; (with_reducible repeat (first | refine blk_drewN ?_ _ | refine blk_drew ?_ | refine blk_alloc ?_ _)); refine blk_put (cs := #[.int .i64 0, .int .i64 0, .int .i64 0, .slice none 0 0]) ?_ 0 _ rfl; (with_reducible repeat (first | refine blk_drewN ?_ _ | refine blk_drew ?_ | refine blk_alloc ?_ _)); exact BK292.out⟩
           have n2_ : Aside0 (Below w.heap.size w ((((w50.setCell ⟨gb292, 0, none⟩ (.int .i64 ((rd_T47 l0_4 x3_2).f0))).setCell ⟨gb292, 1, none⟩ (.int .i64 ((rd_T47 l0_4 x3_2).f1))).setCell ⟨gb292, 2, none⟩ (.int .i64 ((rd_T47 l0_4 x3_2).f2))).setCell ⟨gb292, 3, none⟩ (.slice A291_3 ((rd_T47 l0_4 x3_2).f3).length c291_3))) := ⟨by repeat (first | (with_reducible first | exact HB.out | apply below_alloc | apply pw_below_drewN | apply below_drew1 | refine below_set ?_ GE288.out | refine below_set ?_ GE292.out) | exact HB.out)⟩
           (try clear BK288); (try clear BK292); (try clear HB)
           generalize ((((w50.setCell ⟨gb292, 0, none⟩ (.int .i64 ((rd_T47 l0_4 x3_2).f0))).setCell ⟨gb292, 1, none⟩ (.int .i64 ((rd_T47 l0_4 x3_2).f1))).setCell ⟨gb292, 2, none⟩ (.int .i64 ((rd_T47 l0_4 x3_2).f2))).setCell ⟨gb292, 3, none⟩ (.slice A291_3 ((rd_T47 l0_4 x3_2).f3).length c291_3)) = w53 at n0_ n1_ n2_ ⊢
           have BK288 := n0_; have BK292 := n1_; have HB := n2_; clear n0_ n1_ n2_; replace BK288 := Aside0.mk (blk_drew BK288.out); replace BK292 := Aside0.mk (blk_drew BK292.out); replace HB := Aside0.mk (below_drew1 HB.out)
           have p294 : 0 ≤ (0 : Int) := (by omega)
           have q294 : 0 < (l0_4.length : Int) := of_decide_eq_true (by first | (with_reducible assumption) | assumption)
           obtain ⟨ad294, A294_3, c294_3, e294, hx294_0, hx294_1, hx294_2, hx294_3, hl294_3, hi294_3⟩ := at_T47 HR0_4.out 0 p294 q294
           have hw294_3 := hx294_3
           (try rw [show ((0 : Int)).toNat = 0 from rfl] at hw294_3)
           (try rw [show 0 * 4 = 0 from rfl] at hw294_3)
           (try rw [Addr.add_zero'] at hw294_3)
           have hw294_2 := hx294_2
           (try rw [show ((0 : Int)).toNat = 0 from rfl] at hw294_2)
           (try rw [show 0 * 4 = 0 from rfl] at hw294_2)
           (try rw [Addr.add_zero'] at hw294_2)
           have hw294_1 := hx294_1
           (try rw [show ((0 : Int)).toNat = 0 from rfl] at hw294_1)
           (try rw [show 0 * 4 = 0 from rfl] at hw294_1)
           (try rw [Addr.add_zero'] at hw294_1)
           have hw294_0 := hx294_0
           (try rw [show ((0 : Int)).toNat = 0 from rfl] at hw294_0)
           (try rw [show 0 * 4 = 0 from rfl] at hw294_0)
           (try rw [Addr.add_zero'] at hw294_0)
           obtain rfl : ad291 = ad294 := (by injection e294)
           have qi294 : (0 < l0_4.length) = True := eq_true (by omega)
           (try rw [show ((0 : Int)).toNat = 0 from rfl] at hx294_0)
           (try rw [show 0 * 4 = 0 from rfl] at hx294_0)
           (try rw [Addr.add_zero'] at hx294_0)
           (try rw [show ((0 : Int)).toNat = 0 from rfl] at hx294_1)
           (try rw [show 0 * 4 = 0 from rfl] at hx294_1)
           (try rw [Addr.add_zero'] at hx294_1)
           (try rw [show ((0 : Int)).toNat = 0 from rfl] at hx294_2)
           (try rw [show 0 * 4 = 0 from rfl] at hx294_2)
           (try rw [Addr.add_zero'] at hx294_2)
           (try rw [show ((0 : Int)).toNat = 0 from rfl] at hx294_3)
           (try rw [show 0 * 4 = 0 from rfl] at hx294_3)
           (try rw [Addr.add_zero'] at hx294_3)
           replace hx294_0 := (HB.out.cell (World.block_lt_of_cell? w _ hx294_0)).trans hx294_0
           replace hx294_1 := (HB.out.cell (World.block_lt_of_cell? w _ hx294_1)).trans hx294_1
           replace hx294_2 := (HB.out.cell (World.block_lt_of_cell? w _ hx294_2)).trans hx294_2
           replace hx294_3 := (HB.out.cell (World.block_lt_of_cell? w _ hx294_3)).trans hx294_3
           have HR294_3 := Aside0.mk hi294_3; have HC294_3 := Aside0.mk hl294_3; clear hi294_3 hl294_3
           replace p294 := eq_true p294
           replace q294 := eq_true q294
           refine start_ (n := 27) (S := fun w' => w'.cell? ⟨gb292, 0, none⟩ = some (.int .i64 ((rd_T47 l0_4 x3_2).f0)) ∧ w'.cell? ⟨gb292, 1, none⟩ = some (.int .i64 ((rd_T47 l0_4 x3_2).f1)) ∧ w'.cell? ⟨gb292, 2, none⟩ = some (.int .i64 ((rd_T47 l0_4 x3_2).f2)) ∧ w'.cell? ⟨gb292, 3, none⟩ = some (.slice A291_3 ((rd_T47 l0_4 x3_2).f3).length c291_3) ∧ w'.cell? ⟨gb288, 0, none⟩ = some (.int .i64 a0_0) ∧ w'.cell? ⟨gb288, 1, none⟩ = some (.int .i64 a0_1) ∧ w'.cell? ⟨gb288, 2, none⟩ = some (.int .i64 a0_2) ∧ w'.cell? ⟨gb288, 3, none⟩ = some (.int .i64 a0_3) ∧ w'.cell? ⟨gb288, 4, none⟩ = some (.slice (some ad291) l0_4.length c0_4) ∧ w'.cell? ⟨gb288, 5, none⟩ = some (.slice A0_5 l0_5.length c0_5) ∧ w'.cell? ⟨gb288, 6, none⟩ = some (.slice A0_6 l0_6.length c0_6) ∧ w'.cell? ad291 = some (.int .i64 ((rd_T47 l0_4 0).f0)) ∧ w'.cell? ⟨ad291.block, ad291.off + 1, none⟩ = some (.int .i64 ((rd_T47 l0_4 0).f1)) ∧ w'.cell? ⟨ad291.block, ad291.off + 2, none⟩ = some (.int .i64 ((rd_T47 l0_4 0).f2)) ∧ w'.cell? ⟨ad291.block, ad291.off + 3, none⟩ = some (.slice A294_3 ((rd_T47 l0_4 0).f3).length c294_3)) (ds := []) #[false, false, false, false, false, false, false, false, false, false, false, false, false, false, false, false, false, false, false, false, false, false, false, false, false, false, false] (by kernel_rfl) rfl rfl ⟨bc BK292 0, bc BK292 1, bc BK292 2, bc BK292 3, bc BK288 0, bc BK288 1, bc BK288 2, bc BK288 3, bc BK288 4, bc BK288 5, bc BK288 6, ((HB.out.cell (World.block_lt_of_cell? w _ hw294_0)).trans hw294_0), ((HB.out.cell (World.block_lt_of_cell? w _ hw294_1)).trans hw294_1), ((HB.out.cell (World.block_lt_of_cell? w _ hw294_2)).trans hw294_2), ((HB.out.cell (World.block_lt_of_cell? w _ hw294_3)).trans hw294_3)⟩ (fun hHeld => ?_); refine with_tabW frustumref42_Valid.tab7 frustumref42_Valid.bits7 (fun HT_ HW_ => ?_)
           generalize w53.drew = w54 at BK288 BK292 HB HR294_3 hx294_0 hx294_1 hx294_2 hx294_3 hHeld ⊢
           refine tk HT_ HW_ hHeld 0 (some 56) rfl (by rintro w' ⟨s0, s1, s2, s3, s4, s5, s6, s7, s8, s9, s10, s11, s12, s13, s14⟩; go_simp; with_reducible rfl) ?_
           refine one_ (i := 1) (N := some 57) #[true, true, false, false, false, false, false, false, false, false, false, false, false, false, false, false, false, false, false, false, false, false, false, false, false, false, false] rfl rfl (one_of HT_.out (by kernel_rfl)) (by decide) (fun K hK => ?_)
           refine goes_ Try.func32 (by kernel_rfl) rfl #[.agg #[.int .i64 ((rd_T47 l0_4 x3_2).f0), .int .i64 ((rd_T47 l0_4 x3_2).f1), .int .i64 ((rd_T47 l0_4 x3_2).f2), .slice A291_3 ((rd_T47 l0_4 x3_2).f3).length c291_3]] (by rfl) rfl rfl (by (try simp only [List.map_toArray, List.map_cons, List.map_nil]); first | done | rfl | (simp only [List.length_drop, List.length_take]; rfl)) ?_
           with_reducible refine (frustumref10_Valid.calls k2 ((rd_T47 l0_4 x3_2).f0) ((rd_T47 l0_4 x3_2).f1) ((rd_T47 l0_4 x3_2).f2) _ _ ((rd_T47 l0_4 x3_2).f3) true _ ?side1 ?side2 A22.out).mono ?_
           (case side1 => repeat (first | exact (Kd.C_below HR291_3.out HB.out) | (with_reducible refine Kd.C_alloc ?_ _) | (with_reducible refine Kd.C_drewN ?_ _) | (with_reducible refine Kd.C_drew ?_)))
           (case side2 => exact HC291_3.out)
           rintro e w55 ⟨rfl, hb⟩; refine ⟨_, rfl, ?_⟩; replace BK288 := ub BK288 hb; replace BK292 := ub BK292 hb; replace HB := bs HB hb; (try clear hb); (try clear hb2); (try clear hk); (try clear hi)
           refine hK.out _ _ ⟨bc BK292 0, bc BK292 1, bc BK292 2, bc BK292 3, bc BK288 0, bc BK288 1, bc BK288 2, bc BK288 3, bc BK288 4, bc BK288 5, bc BK288 6, ((HB.out.cell (World.block_lt_of_cell? w _ hw294_0)).trans hw294_0), ((HB.out.cell (World.block_lt_of_cell? w _ hw294_1)).trans hw294_1), ((HB.out.cell (World.block_lt_of_cell? w _ hw294_2)).trans hw294_2), ((HB.out.cell (World.block_lt_of_cell? w _ hw294_3)).trans hw294_3)⟩ (fun hHeld => ?_)
           clear hK K
           refine norm_ (a' := ?_) ?_ ?_
           rotate_left
           ·show Act.put _ (some 57) _ = _
            simp only [Act.put, List.setIfInBounds_toArray, List.set_cons_zero, List.set_cons_succ, i64_w, i32_w]
            rfl
           refine on HT_ 2 (some 58) ?_
           refine on HT_ 3 (some 59) ?_
           refine on HT_ 4 (some 60) ?_
           refine on HT_ 6 (some 62) ?_
           refine tk HT_ HW_ hHeld 5 (some 61) rfl (by rintro w' ⟨s0, s1, s2, s3, s4, s5, s6, s7, s8, s9, s10, s11, s12, s13, s14⟩; go_simp; with_reducible rfl) ?_
           refine tk HT_ HW_ hHeld 7 (some 63) rfl (by rintro w' ⟨s0, s1, s2, s3, s4, s5, s6, s7, s8, s9, s10, s11, s12, s13, s14⟩; go_simp; with_reducible rfl) ?_
           refine on HT_ 8 (some 64) ?_
           refine on HT_ 9 (some 65) ?_
           refine tk HT_ HW_ hHeld 10 (some 66) rfl (by rintro w' ⟨s0, s1, s2, s3, s4, s5, s6, s7, s8, s9, s10, s11, s12, s13, s14⟩; go_simp; with_reducible rfl) ?_
           refine on HT_ 11 (some 67) ?_
           refine on HT_ 12 (some 68) ?_
           refine on HT_ 13 (some 69) ?_
           refine off HT_ 14 (some 70) ?_
           refine off HT_ 15 (some 71) ?_
           refine off HT_ 16 (some 72) ?_
           refine off HT_ 17 (some 73) ?_
           refine off HT_ 18 (some 74) ?_
           refine on HT_ 19 (some 75) ?_
           refine on HT_ 20 (some 76) ?_
           refine off HT_ 21 (some 77) ?_
           refine off HT_ 22 (some 78) ?_
           refine off HT_ 23 (some 79) ?_
           refine off HT_ 24 (some 80) ?_
           refine off HT_ 25 (some 81) ?_
           refine on HT_ 26 (some 82) ?_
           refine done_ (done_of HT_.out (by kernel_rfl)) ?_
           try go_wp2
           go_ret
           exact ⟨by first | rfl | (simp [errW_none, errW_some] <;> rfl) | (simp [*, errW_none, errW_some] <;> rfl), by repeat (first | (with_reducible first | exact HB.out | apply below_alloc | apply pw_below_drewN | apply below_drew1 | refine below_set ?_ GE288.out | refine below_set ?_ GE292.out) | exact HB.out)⟩
         ·rw [if_neg c24] at H
          exact absurd H (by simp)
        ·replace c23 := Bool.eq_false_iff.mpr c23
         subst c23
         have H1 : (some false) = some r := by rw [if_neg (show ¬ (false = true) by decide)] at H; exact H
         clear H; have H := H1; clear H1
         obtain rfl := Option.some.inj H
         have hcz56_0 : wr.cell? ⟨gb288, 0, none⟩ = some (.int .i64 a0_0) := bc BK288 0
         have hcz56_1 : wr.cell? ⟨gb288, 1, none⟩ = some (.int .i64 a0_1) := bc BK288 1
         have hcz56_2 : wr.cell? ⟨gb288, 2, none⟩ = some (.int .i64 a0_2) := bc BK288 2
         have hcz56_3 : wr.cell? ⟨gb288, 3, none⟩ = some (.int .i64 a0_3) := bc BK288 3
         have hcz56_4 : wr.cell? ⟨gb288, 4, none⟩ = some (.slice A0_4 l0_4.length c0_4) := bc BK288 4
         have hcz56_5 : wr.cell? ⟨gb288, 5, none⟩ = some (.slice A0_5 l0_5.length c0_5) := bc BK288 5
         have hcz56_6 : wr.cell? ⟨gb288, 6, none⟩ = some (.slice A0_6 l0_6.length c0_6) := bc BK288 6
         have hfz56_0 := blk_frozen BK288.out 0; have hfz56_1 := blk_frozen BK288.out 1; have hfz56_2 := blk_frozen BK288.out 2; have hfz56_3 := blk_frozen BK288.out 3; have hfz56_4 := blk_frozen BK288.out 4; have hfz56_5 := blk_frozen BK288.out 5; have hfz56_6 := blk_frozen BK288.out 6
         have p291 : 0 ≤ (x3_2 : Int) := of_decide_eq_true (by first | (with_reducible assumption) | assumption)
         have q291 : x3_2 < (l0_4.length : Int) := of_decide_eq_true (by first | (with_reducible assumption) | assumption)
         obtain ⟨ad291, A291_3, c291_3, e291, hx291_0, hx291_1, hx291_2, hx291_3, hl291_3, hi291_3⟩ := at_T47 HR0_4.out x3_2 p291 q291
         cases e291
         replace hx291_0 := (HB.out.cell (World.block_lt_of_cell? w _ hx291_0)).trans hx291_0
         replace hx291_1 := (HB.out.cell (World.block_lt_of_cell? w _ hx291_1)).trans hx291_1
         replace hx291_2 := (HB.out.cell (World.block_lt_of_cell? w _ hx291_2)).trans hx291_2
         replace hx291_3 := (HB.out.cell (World.block_lt_of_cell? w _ hx291_3)).trans hx291_3
         have HR291_3 := Aside0.mk hi291_3; have HC291_3 := Aside0.mk hl291_3; clear hi291_3 hl291_3
         replace p291 := eq_true p291
         replace q291 := eq_true q291
         try go_wp2_with (first | ((with_reducible refine gate_dst (N := 4) rfl ?_); (try (refine gate_guard (by rfl) ?_; dsimp only)); refine box_event ?hg (N := 4) ?hd (cs := #[.int .i64 0, .int .i64 0, .int .i64 0, .slice none 0 0]) (t := 47) ?hr ?_; (case hd => rfl); (case hg => rfl); (case hr => first | (go_simp; done) | (go_simp; rfl)); intro gb292 hg w57 hbox hb; have BK292 := Aside0.mk (hbox); have GW292 := ws HB hg; have GE292 := ws HB hg; have NB288_292 := nl BK288 hg; have NB292_288 := ng BK288 hg; replace BK288 := ub BK288 hb; replace HB := bs HB hb; clear hb hbox hg; have hnb58 := NB292_288.out; have hnc58 := NB288_292.out; have hcz59_0 : w57.cell? ⟨gb292, 0, none⟩ = some (.int .i64 0) := bc BK292 0; have hcz59_1 : w57.cell? ⟨gb292, 1, none⟩ = some (.int .i64 0) := bc BK292 1; have hcz59_2 : w57.cell? ⟨gb292, 2, none⟩ = some (.int .i64 0) := bc BK292 2; have hcz59_3 : w57.cell? ⟨gb292, 3, none⟩ = some (.slice none 0 0) := bc BK292 3; have hfz59_0 := blk_frozen BK292.out 0; have hfz59_1 := blk_frozen BK292.out 1; have hfz59_2 := blk_frozen BK292.out 2; have hfz59_3 := blk_frozen BK292.out 3))
         have n0_ : Aside0 (((((w57.setCell ⟨gb292, 0, none⟩ (.int .i64 ((rd_T47 l0_4 x3_2).f0))).setCell ⟨gb292, 1, none⟩ (.int .i64 ((rd_T47 l0_4 x3_2).f1))).setCell ⟨gb292, 2, none⟩ (.int .i64 ((rd_T47 l0_4 x3_2).f2))).setCell ⟨gb292, 3, none⟩ (.slice A291_3 ((rd_T47 l0_4 x3_2).f3).length c291_3)).heap[gb288]? = some (.cells #[.int .i64 a0_0, .int .i64 a0_1, .int .i64 a0_2, .int .i64 a0_3, .slice (some ad291) l0_4.length c0_4, .slice A0_5 l0_5.length c0_5, .slice A0_6 l0_6.length c0_6] 28 (0, 0))) := ⟨by (with_reducible repeat (first | refine blk_drewN ?_ _ | refine blk_drew ?_ | refine blk_alloc ?_ _)); refine blk_far ?_ NB288_292.out _; (with_reducible repeat (first | refine blk_drewN ?_ _ | refine blk_drew ?_ | refine blk_alloc ?_ _)); refine blk_far ?_ NB288_292.out _; (with_reducible repeat (first | refine blk_drewN ?_ _ | refine blk_drew ?_ | refine blk_alloc ?_ _)); refine blk_far ?_ NB288_292.out _; (with_reducible repeat (first | refine blk_drewN ?_ _ | refine blk_drew ?_ | refine blk_alloc ?_ _)); refine blk_far ?_ NB288_292.out _; (with_reducible repeat (first | refine blk_drewN ?_ _ | refine blk_drew ?_ | refine blk_alloc ?_ _)); exact BK288.out⟩
         have n1_ : Aside0 (((((w57.setCell ⟨gb292, 0, none⟩ (.int .i64 ((rd_T47 l0_4 x3_2).f0))).setCell ⟨gb292, 1, none⟩ (.int .i64 ((rd_T47 l0_4 x3_2).f1))).setCell ⟨gb292, 2, none⟩ (.int .i64 ((rd_T47 l0_4 x3_2).f2))).setCell ⟨gb292, 3, none⟩ (.slice A291_3 ((rd_T47 l0_4 x3_2).f3).length c291_3)).heap[gb292]? = some (.cells #[.int .i64 ((rd_T47 l0_4 x3_2).f0), .int .i64 ((rd_T47 l0_4 x3_2).f1), .int .i64 ((rd_T47 l0_4 x3_2).f2), .slice A291_3 ((rd_T47 l0_4 x3_2).f3).length c291_3] 47 (0, 0))) := ⟨by (with_reducible repeat (first | refine blk_drewN ?_ _ | refine blk_drew ?_ | refine blk_alloc ?_ _)); refine blk_put (cs := #[.int .i64 ((rd_T47 l0_4 x3_2).f0), .int .i64 ((rd_T47 l0_4 x3_2).f1), .int .i64 ((rd_T47 l0_4 x3_2).f2), .slice none 0 0]) ?_ 3 _ rfl; (with_reducible repeat (first | refine blk_drewN ?_ _ | refine blk_drew ?_ | refine blk_alloc ?_ _)); refine blk_put (cs := #[.int .i64 ((rd_T47 l0_4 x3_2).f0), .int .i64 ((rd_T47 l0_4 x3_2).f1), .int .i64 0, .slice none 0 0]) ?_ 2 _ rfl; (with_reducible repeat (first | refine blk_drewN ?_ _ | refine blk_drew ?_ | refine blk_alloc ?_ _)); refine blk_put (cs := #[.int .i64 ((rd_T47 l0_4 x3_2).f0), .int .i64 0, .int .i64 0, .slice none 0 0]) ?_ 1 _ rfl; (with_reducible repeat (first | refine blk_drewN ?_ _ | refine blk_drew ?_ | refine blk_alloc ?_ _)); refine blk_put (cs := #[.int .i64 0, .int .i64 0, .int .i64 0, .slice none 0 0]) ?_ 0 _ rfl; (with_reducible repeat (first | refine blk_drewN ?_ _ | refine blk_drew ?_ | refine blk_alloc ?_ _)); exact BK292.out⟩
         have n2_ : Aside0 (Below w.heap.size w ((((w57.setCell ⟨gb292, 0, none⟩ (.int .i64 ((rd_T47 l0_4 x3_2).f0))).setCell ⟨gb292, 1, none⟩ (.int .i64 ((rd_T47 l0_4 x3_2).f1))).setCell ⟨gb292, 2, none⟩ (.int .i64 ((rd_T47 l0_4 x3_2).f2))).setCell ⟨gb292, 3, none⟩ (.slice A291_3 ((rd_T47 l0_4 x3_2).f3).length c291_3))) := ⟨by repeat (first | (with_reducible first | exact HB.out | apply below_alloc | apply pw_below_drewN | apply below_drew1 | refine below_set ?_ GE288.out | refine below_set ?_ GE292.out) | exact HB.out)⟩
         (try clear BK288); (try clear BK292); (try clear HB)
         generalize ((((w57.setCell ⟨gb292, 0, none⟩ (.int .i64 ((rd_T47 l0_4 x3_2).f0))).setCell ⟨gb292, 1, none⟩ (.int .i64 ((rd_T47 l0_4 x3_2).f1))).setCell ⟨gb292, 2, none⟩ (.int .i64 ((rd_T47 l0_4 x3_2).f2))).setCell ⟨gb292, 3, none⟩ (.slice A291_3 ((rd_T47 l0_4 x3_2).f3).length c291_3)) = w60 at n0_ n1_ n2_ ⊢
         have BK288 := n0_; have BK292 := n1_; have HB := n2_; clear n0_ n1_ n2_; replace BK288 := Aside0.mk (blk_drew BK288.out); replace BK292 := Aside0.mk (blk_drew BK292.out); replace HB := Aside0.mk (below_drew1 HB.out)
         refine start_ (n := 27) (S := fun w' => w'.cell? ⟨gb292, 0, none⟩ = some (.int .i64 ((rd_T47 l0_4 x3_2).f0)) ∧ w'.cell? ⟨gb292, 1, none⟩ = some (.int .i64 ((rd_T47 l0_4 x3_2).f1)) ∧ w'.cell? ⟨gb292, 2, none⟩ = some (.int .i64 ((rd_T47 l0_4 x3_2).f2)) ∧ w'.cell? ⟨gb292, 3, none⟩ = some (.slice A291_3 ((rd_T47 l0_4 x3_2).f3).length c291_3)) (ds := []) #[false, false, false, false, false, false, false, false, false, false, false, false, false, false, false, false, false, false, false, false, false, false, false, false, false, false, false] (by kernel_rfl) rfl rfl ⟨bc BK292 0, bc BK292 1, bc BK292 2, bc BK292 3⟩ (fun hHeld => ?_); refine with_tabW frustumref42_Valid.tab7 frustumref42_Valid.bits7 (fun HT_ HW_ => ?_)
         generalize w60.drew = w61 at BK288 BK292 HB hHeld ⊢
         refine tk HT_ HW_ hHeld 0 (some 56) rfl (by rintro w' ⟨s0, s1, s2, s3⟩; go_simp; with_reducible rfl) ?_
         refine one_ (i := 1) (N := some 57) #[true, true, false, false, false, false, false, false, false, false, false, false, false, false, false, false, false, false, false, false, false, false, false, false, false, false, false] rfl rfl (one_of HT_.out (by kernel_rfl)) (by decide) (fun K hK => ?_)
         refine goes_ Try.func32 (by kernel_rfl) rfl #[.agg #[.int .i64 ((rd_T47 l0_4 x3_2).f0), .int .i64 ((rd_T47 l0_4 x3_2).f1), .int .i64 ((rd_T47 l0_4 x3_2).f2), .slice A291_3 ((rd_T47 l0_4 x3_2).f3).length c291_3]] (by rfl) rfl rfl (by (try simp only [List.map_toArray, List.map_cons, List.map_nil]); first | done | rfl | (simp only [List.length_drop, List.length_take]; rfl)) ?_
         with_reducible refine (frustumref10_Valid.calls k2 ((rd_T47 l0_4 x3_2).f0) ((rd_T47 l0_4 x3_2).f1) ((rd_T47 l0_4 x3_2).f2) _ _ ((rd_T47 l0_4 x3_2).f3) false _ ?side1 ?side2 A22.out).mono ?_
         (case side1 => repeat (first | exact (Kd.C_below HR291_3.out HB.out) | (with_reducible refine Kd.C_alloc ?_ _) | (with_reducible refine Kd.C_drewN ?_ _) | (with_reducible refine Kd.C_drew ?_)))
         (case side2 => exact HC291_3.out)
         rintro e w62 ⟨rfl, hb⟩; refine ⟨_, rfl, ?_⟩; replace BK288 := ub BK288 hb; replace BK292 := ub BK292 hb; replace HB := bs HB hb; (try clear hb); (try clear hb2); (try clear hk); (try clear hi)
         refine hK.out _ _ ⟨bc BK292 0, bc BK292 1, bc BK292 2, bc BK292 3⟩ (fun hHeld => ?_)
         clear hK K
         refine norm_ (a' := ?_) ?_ ?_
         rotate_left
         ·show Act.put _ (some 57) _ = _
          simp only [Act.put, List.setIfInBounds_toArray, List.set_cons_zero, List.set_cons_succ, i64_w, i32_w]
          rfl
         refine on HT_ 2 (some 58) ?_
         refine on HT_ 3 (some 59) ?_
         refine off HT_ 4 (some 60) ?_
         refine off HT_ 5 (some 61) ?_
         refine off HT_ 6 (some 62) ?_
         refine off HT_ 7 (some 63) ?_
         refine off HT_ 8 (some 64) ?_
         refine off HT_ 9 (some 65) ?_
         refine off HT_ 10 (some 66) ?_
         refine off HT_ 11 (some 67) ?_
         refine on HT_ 12 (some 68) ?_
         refine on HT_ 13 (some 69) ?_
         refine off HT_ 14 (some 70) ?_
         refine off HT_ 15 (some 71) ?_
         refine off HT_ 16 (some 72) ?_
         refine off HT_ 17 (some 73) ?_
         refine off HT_ 18 (some 74) ?_
         refine on HT_ 19 (some 75) ?_
         refine on HT_ 20 (some 76) ?_
         refine off HT_ 21 (some 77) ?_
         refine off HT_ 22 (some 78) ?_
         refine off HT_ 23 (some 79) ?_
         refine off HT_ 24 (some 80) ?_
         refine off HT_ 25 (some 81) ?_
         refine on HT_ 26 (some 82) ?_
         refine done_ (done_of HT_.out (by kernel_rfl)) ?_
         try go_wp2
         go_ret
         exact ⟨by first | rfl | (simp [errW_none, errW_some] <;> rfl) | (simp [*, errW_none, errW_some] <;> rfl), by repeat (first | (with_reducible first | exact HB.out | apply below_alloc | apply pw_below_drewN | apply below_drew1 | refine below_set ?_ GE288.out | refine below_set ?_ GE292.out) | exact HB.out)⟩
       ·rw [if_neg c21] at H
        exact absurd H (by simp)
      ·rw [if_neg c20] at H
       have c20b0 : decide (x3_2 < (l0_4.length : Int)) = false := decide_eq_false c20
       clear c20
       by_cases c63 : (l0_5.length : Int) = (wrap64 ((wrap64 (a0_0 * a0_1)) * a0_2))
       ·rw [if_pos c63] at H
        have c63b0 : ((l0_5.length : Int) == (wrap64 ((wrap64 (a0_0 * a0_1)) * a0_2))) = true := beq_iff_eq.mpr c63
        have c63b1 : ((l0_5.length : Int) != (wrap64 ((wrap64 (a0_0 * a0_1)) * a0_2))) = false := bne_eq_false_iff_eq.mpr c63
        clear c63
        by_cases c64 : (l0_6.length : Int) = (wrap64 ((wrap64 (a0_0 * a0_1)) * a0_2))
        ·rw [if_pos c64] at H
         have c64b0 : ((l0_6.length : Int) == (wrap64 ((wrap64 (a0_0 * a0_1)) * a0_2))) = true := beq_iff_eq.mpr c64
         have c64b1 : ((l0_6.length : Int) != (wrap64 ((wrap64 (a0_0 * a0_1)) * a0_2))) = false := bne_eq_false_iff_eq.mpr c64
         clear c64
         replace H := Option.bind_eq_some_iff.mp H
         obtain ⟨t295, A650, H⟩ := H
         replace H : ((frustumref42_limited.f k2 l0_5 t295).bind fun t296 => (if t296 = true then ((frustumref42_most.f a0_3).bind fun t297 => ((frustumref42_limited.f k2 l0_6 t297).bind fun t298 => (some t298))) else (some false))) = some r := H
         have A65 := Aside0.mk A650; clear A650
         replace H := Option.bind_eq_some_iff.mp H
         obtain ⟨t296, A660, H⟩ := H
         replace H : (if t296 = true then ((frustumref42_most.f a0_3).bind fun t297 => ((frustumref42_limited.f k2 l0_6 t297).bind fun t298 => (some t298))) else (some false)) = some r := H
         have A66 := Aside0.mk A660; clear A660
         by_cases c67 : t296 = true
         ·subst c67
          have H1 : ((frustumref42_most.f a0_3).bind fun t297 => ((frustumref42_limited.f k2 l0_6 t297).bind fun t298 => (some t298))) = some r := by rw [if_pos rfl] at H; exact H
          clear H; have H := H1; clear H1
          replace H := Option.bind_eq_some_iff.mp H
          obtain ⟨t297, A680, H⟩ := H
          replace H : ((frustumref42_limited.f k2 l0_6 t297).bind fun t298 => (some t298)) = some r := H
          have A68 := Aside0.mk A680; clear A680
          replace H := Option.bind_eq_some_iff.mp H
          obtain ⟨t298, A690, H⟩ := H
          replace H : (some t298) = some r := H
          have A69 := Aside0.mk A690; clear A690
          obtain rfl := Option.some.inj H
          have hcz70_0 : wr.cell? ⟨gb288, 0, none⟩ = some (.int .i64 a0_0) := bc BK288 0
          have hcz70_1 : wr.cell? ⟨gb288, 1, none⟩ = some (.int .i64 a0_1) := bc BK288 1
          have hcz70_2 : wr.cell? ⟨gb288, 2, none⟩ = some (.int .i64 a0_2) := bc BK288 2
          have hcz70_3 : wr.cell? ⟨gb288, 3, none⟩ = some (.int .i64 a0_3) := bc BK288 3
          have hcz70_4 : wr.cell? ⟨gb288, 4, none⟩ = some (.slice A0_4 l0_4.length c0_4) := bc BK288 4
          have hcz70_5 : wr.cell? ⟨gb288, 5, none⟩ = some (.slice A0_5 l0_5.length c0_5) := bc BK288 5
          have hcz70_6 : wr.cell? ⟨gb288, 6, none⟩ = some (.slice A0_6 l0_6.length c0_6) := bc BK288 6
          have hfz70_0 := blk_frozen BK288.out 0; have hfz70_1 := blk_frozen BK288.out 1; have hfz70_2 := blk_frozen BK288.out 2; have hfz70_3 := blk_frozen BK288.out 3; have hfz70_4 := blk_frozen BK288.out 4; have hfz70_5 := blk_frozen BK288.out 5; have hfz70_6 := blk_frozen BK288.out 6
          try go_wp2
          replace BK288 := Aside0.mk (blk_drew BK288.out); replace HB := Aside0.mk (below_drew1 HB.out)
          refine start_ (n := 29) (S := fun w' => w'.cell? ⟨gb288, 0, none⟩ = some (.int .i64 a0_0) ∧ w'.cell? ⟨gb288, 1, none⟩ = some (.int .i64 a0_1) ∧ w'.cell? ⟨gb288, 2, none⟩ = some (.int .i64 a0_2) ∧ w'.cell? ⟨gb288, 3, none⟩ = some (.int .i64 a0_3) ∧ w'.cell? ⟨gb288, 4, none⟩ = some (.slice A0_4 l0_4.length c0_4) ∧ w'.cell? ⟨gb288, 5, none⟩ = some (.slice A0_5 l0_5.length c0_5) ∧ w'.cell? ⟨gb288, 6, none⟩ = some (.slice A0_6 l0_6.length c0_6)) (ds := []) #[false, false, false, false, false, false, false, false, false, false, false, false, false, false, false, false, false, false, false, false, false, false, false, false, false, false, false, false, false] (by kernel_rfl) rfl rfl ⟨bc BK288 0, bc BK288 1, bc BK288 2, bc BK288 3, bc BK288 4, bc BK288 5, bc BK288 6⟩ (fun hHeld => ?_); refine with_tabW frustumref42_Valid.tab10 frustumref42_Valid.bits10 (fun HT_ HW_ => ?_)
          generalize wr.drew = w71 at BK288 HB hHeld ⊢
          refine on HT_ 0 (some 91) ?_
          refine on HT_ 3 (some 94) ?_
          refine tk HT_ HW_ hHeld 1 (some 92) rfl (by rintro w' ⟨s0, s1, s2, s3, s4, s5, s6⟩; go_simp; with_reducible rfl) ?_
          refine on HT_ 2 (some 93) ?_
          refine on HT_ 4 (some 95) ?_
          refine on HT_ 5 (some 96) ?_
          refine on HT_ 6 (some 97) ?_
          refine on HT_ 9 (some 100) ?_
          refine tk HT_ HW_ hHeld 7 (some 98) rfl (by rintro w' ⟨s0, s1, s2, s3, s4, s5, s6⟩; go_simp; with_reducible rfl) ?_
          refine on HT_ 8 (some 99) ?_
          refine on HT_ 10 (some 101) ?_
          refine on HT_ 11 (some 102) ?_
          refine on HT_ 12 (some 103) ?_
          refine on HT_ 13 (some 104) ?_
          refine on HT_ 15 (some 106) ?_
          refine tk HT_ HW_ hHeld 14 (some 105) rfl (by rintro w' ⟨s0, s1, s2, s3, s4, s5, s6⟩; go_simp; with_reducible rfl) ?_
          refine tk HT_ HW_ hHeld 16 (some 107) rfl (by rintro w' ⟨s0, s1, s2, s3, s4, s5, s6⟩; go_simp; with_reducible rfl) ?_
          refine one_ (i := 17) (N := some 108) #[true, true, true, true, true, true, true, true, true, true, true, true, true, true, true, true, true, true, false, false, false, false, false, false, false, false, false, false, false] rfl rfl (one_of HT_.out (by kernel_rfl)) (by decide) (fun K hK => ?_)
          refine goes_ Try.func34 (by kernel_rfl) rfl #[.int .i64 a0_3] (by rfl) rfl rfl (by (try simp only [List.map_toArray, List.map_cons, List.map_nil]); first | done | rfl | (simp only [List.length_drop, List.length_take]; rfl)) ?_
          with_reducible refine (frustumref38_Max.calls k2 a0_3 t295 _ A65.out).mono ?_; rintro e w' ⟨rfl, ⟨nd, rfl⟩⟩; refine ⟨_, rfl, ?_⟩
          refine hK.out _ _ ⟨bc BK288 0, bc BK288 1, bc BK288 2, bc BK288 3, bc BK288 4, bc BK288 5, bc BK288 6⟩ (fun hHeld => ?_)
          clear hK K
          refine norm_ (a' := ?_) ?_ ?_
          rotate_left
          ·show Act.put _ (some 108) _ = _
           simp only [Act.put, List.setIfInBounds_toArray, List.set_cons_zero, List.set_cons_succ, i64_w, i32_w]
           rfl
          refine one_ (i := 18) (N := some 109) #[true, true, true, true, true, true, true, true, true, true, true, true, true, true, true, true, true, true, true, false, false, false, false, false, false, false, false, false, false] rfl rfl (one_of HT_.out (by kernel_rfl)) (by decide) (fun K hK => ?_)
          refine goes_ Try.func33 (by kernel_rfl) rfl #[.slice A0_5 l0_5.length c0_5, .int .i64 t295] (by rfl) rfl rfl (by (try simp only [List.map_toArray, List.map_cons, List.map_nil]); first | done | rfl | (simp only [List.length_drop, List.length_take]; rfl)) ?_
          with_reducible refine (frustumref42_limited.calls k2 _ _ l0_5 t295 true _ ?side1 ?side2 A66.out).mono ?_
          (case side1 => repeat (first | exact (Kd.C_below HR0_5.out (by repeat (first | (with_reducible first | exact HB.out | apply below_alloc | apply pw_below_drewN | apply below_drew1 | refine below_setA ?_ (by assumption)) | exact HB.out))) | (with_reducible refine Kd.C_alloc ?_ _) | (with_reducible refine Kd.C_drewN ?_ _) | (with_reducible refine Kd.C_drew ?_)))
          (case side2 => exact HC0_5.out)
          rintro e w' ⟨rfl, ⟨nd, rfl⟩⟩; refine ⟨_, rfl, ?_⟩
          refine hK.out _ _ ⟨bc BK288 0, bc BK288 1, bc BK288 2, bc BK288 3, bc BK288 4, bc BK288 5, bc BK288 6⟩ (fun hHeld => ?_)
          clear hK K
          refine norm_ (a' := ?_) ?_ ?_
          rotate_left
          ·show Act.put _ (some 109) _ = _
           simp only [Act.put, List.setIfInBounds_toArray, List.set_cons_zero, List.set_cons_succ, i64_w, i32_w]
           rfl
          refine on HT_ 19 (some 110) ?_
          refine on HT_ 20 (some 111) ?_
          refine on HT_ 21 (some 112) ?_
          refine on HT_ 23 (some 114) ?_
          refine tk HT_ HW_ hHeld 22 (some 113) rfl (by rintro w' ⟨s0, s1, s2, s3, s4, s5, s6⟩; go_simp; with_reducible rfl) ?_
          refine tk HT_ HW_ hHeld 24 (some 115) rfl (by rintro w' ⟨s0, s1, s2, s3, s4, s5, s6⟩; go_simp; with_reducible rfl) ?_
          refine one_ (i := 25) (N := some 116) #[true, true, true, true, true, true, true, true, true, true, true, true, true, true, true, true, true, true, true, true, true, true, true, true, true, true, false, false, false] rfl rfl (one_of HT_.out (by kernel_rfl)) (by decide) (fun K hK => ?_)
          refine goes_ Try.func35 (by kernel_rfl) rfl #[.int .i64 a0_3] (by rfl) rfl rfl (by (try simp only [List.map_toArray, List.map_cons, List.map_nil]); first | done | rfl | (simp only [List.length_drop, List.length_take]; rfl)) ?_
          with_reducible refine (frustumref42_most.calls a0_3 t297 _ A68.out).mono ?_; rintro e w' ⟨rfl, ⟨nd, rfl⟩⟩; refine ⟨_, rfl, ?_⟩
          refine hK.out _ _ ⟨bc BK288 0, bc BK288 1, bc BK288 2, bc BK288 3, bc BK288 4, bc BK288 5, bc BK288 6⟩ (fun hHeld => ?_)
          clear hK K
          refine norm_ (a' := ?_) ?_ ?_
          rotate_left
          ·show Act.put _ (some 116) _ = _
           simp only [Act.put, List.setIfInBounds_toArray, List.set_cons_zero, List.set_cons_succ, i64_w, i32_w]
           rfl
          refine one_ (i := 26) (N := some 117) #[true, true, true, true, true, true, true, true, true, true, true, true, true, true, true, true, true, true, true, true, true, true, true, true, true, true, true, false, false] rfl rfl (one_of HT_.out (by kernel_rfl)) (by decide) (fun K hK => ?_)
          refine goes_ Try.func33 (by kernel_rfl) rfl #[.slice A0_6 l0_6.length c0_6, .int .i64 t297] (by rfl) rfl rfl (by (try simp only [List.map_toArray, List.map_cons, List.map_nil]); first | done | rfl | (simp only [List.length_drop, List.length_take]; rfl)) ?_
          with_reducible refine (frustumref42_limited.calls k2 _ _ l0_6 t297 t298 _ ?side1 ?side2 A69.out).mono ?_
          (case side1 => repeat (first | exact (Kd.C_below HR0_6.out (by repeat (first | (with_reducible first | exact HB.out | apply below_alloc | apply pw_below_drewN | apply below_drew1 | refine below_setA ?_ (by assumption)) | exact HB.out))) | (with_reducible refine Kd.C_alloc ?_ _) | (with_reducible refine Kd.C_drewN ?_ _) | (with_reducible refine Kd.C_drew ?_)))
          (case side2 => exact HC0_6.out)
          rintro e w' ⟨rfl, ⟨nd, rfl⟩⟩; refine ⟨_, rfl, ?_⟩
          refine hK.out _ _ ⟨bc BK288 0, bc BK288 1, bc BK288 2, bc BK288 3, bc BK288 4, bc BK288 5, bc BK288 6⟩ (fun hHeld => ?_)
          clear hK K
          refine norm_ (a' := ?_) ?_ ?_
          rotate_left
          ·show Act.put _ (some 117) _ = _
           simp only [Act.put, List.setIfInBounds_toArray, List.set_cons_zero, List.set_cons_succ, i64_w, i32_w]
           rfl
          refine on HT_ 27 (some 118) ?_
          refine on HT_ 28 (some 2) ?_
          refine done_ (done_of HT_.out (by kernel_rfl)) ?_
          try go_wp2
          go_ret
          exact ⟨by first | rfl | (simp [errW_none, errW_some] <;> rfl) | (simp [*, errW_none, errW_some] <;> rfl), by repeat (first | (with_reducible first | exact HB.out | apply below_alloc | apply pw_below_drewN | apply below_drew1 | refine below_set ?_ GE288.out) | exact HB.out)⟩
         ·replace c67 := Bool.eq_false_iff.mpr c67
          subst c67
          have H1 : (some false) = some r := by rw [if_neg (show ¬ (false = true) by decide)] at H; exact H
          clear H; have H := H1; clear H1
          obtain rfl := Option.some.inj H
          have hcz72_0 : wr.cell? ⟨gb288, 0, none⟩ = some (.int .i64 a0_0) := bc BK288 0
          have hcz72_1 : wr.cell? ⟨gb288, 1, none⟩ = some (.int .i64 a0_1) := bc BK288 1
          have hcz72_2 : wr.cell? ⟨gb288, 2, none⟩ = some (.int .i64 a0_2) := bc BK288 2
          have hcz72_3 : wr.cell? ⟨gb288, 3, none⟩ = some (.int .i64 a0_3) := bc BK288 3
          have hcz72_4 : wr.cell? ⟨gb288, 4, none⟩ = some (.slice A0_4 l0_4.length c0_4) := bc BK288 4
          have hcz72_5 : wr.cell? ⟨gb288, 5, none⟩ = some (.slice A0_5 l0_5.length c0_5) := bc BK288 5
          have hcz72_6 : wr.cell? ⟨gb288, 6, none⟩ = some (.slice A0_6 l0_6.length c0_6) := bc BK288 6
          have hfz72_0 := blk_frozen BK288.out 0; have hfz72_1 := blk_frozen BK288.out 1; have hfz72_2 := blk_frozen BK288.out 2; have hfz72_3 := blk_frozen BK288.out 3; have hfz72_4 := blk_frozen BK288.out 4; have hfz72_5 := blk_frozen BK288.out 5; have hfz72_6 := blk_frozen BK288.out 6
          try go_wp2
          replace BK288 := Aside0.mk (blk_drew BK288.out); replace HB := Aside0.mk (below_drew1 HB.out)
          refine start_ (n := 29) (S := fun w' => w'.cell? ⟨gb288, 0, none⟩ = some (.int .i64 a0_0) ∧ w'.cell? ⟨gb288, 1, none⟩ = some (.int .i64 a0_1) ∧ w'.cell? ⟨gb288, 2, none⟩ = some (.int .i64 a0_2) ∧ w'.cell? ⟨gb288, 3, none⟩ = some (.int .i64 a0_3) ∧ w'.cell? ⟨gb288, 4, none⟩ = some (.slice A0_4 l0_4.length c0_4) ∧ w'.cell? ⟨gb288, 5, none⟩ = some (.slice A0_5 l0_5.length c0_5) ∧ w'.cell? ⟨gb288, 6, none⟩ = some (.slice A0_6 l0_6.length c0_6)) (ds := []) #[false, false, false, false, false, false, false, false, false, false, false, false, false, false, false, false, false, false, false, false, false, false, false, false, false, false, false, false, false] (by kernel_rfl) rfl rfl ⟨bc BK288 0, bc BK288 1, bc BK288 2, bc BK288 3, bc BK288 4, bc BK288 5, bc BK288 6⟩ (fun hHeld => ?_); refine with_tabW frustumref42_Valid.tab10 frustumref42_Valid.bits10 (fun HT_ HW_ => ?_)
          generalize wr.drew = w73 at BK288 HB hHeld ⊢
          refine on HT_ 0 (some 91) ?_
          refine on HT_ 3 (some 94) ?_
          refine tk HT_ HW_ hHeld 1 (some 92) rfl (by rintro w' ⟨s0, s1, s2, s3, s4, s5, s6⟩; go_simp; with_reducible rfl) ?_
          refine on HT_ 2 (some 93) ?_
          refine on HT_ 4 (some 95) ?_
          refine on HT_ 5 (some 96) ?_
          refine on HT_ 6 (some 97) ?_
          refine on HT_ 9 (some 100) ?_
          refine tk HT_ HW_ hHeld 7 (some 98) rfl (by rintro w' ⟨s0, s1, s2, s3, s4, s5, s6⟩; go_simp; with_reducible rfl) ?_
          refine on HT_ 8 (some 99) ?_
          refine on HT_ 10 (some 101) ?_
          refine on HT_ 11 (some 102) ?_
          refine on HT_ 12 (some 103) ?_
          refine on HT_ 13 (some 104) ?_
          refine on HT_ 15 (some 106) ?_
          refine tk HT_ HW_ hHeld 14 (some 105) rfl (by rintro w' ⟨s0, s1, s2, s3, s4, s5, s6⟩; go_simp; with_reducible rfl) ?_
          refine tk HT_ HW_ hHeld 16 (some 107) rfl (by rintro w' ⟨s0, s1, s2, s3, s4, s5, s6⟩; go_simp; with_reducible rfl) ?_
          refine one_ (i := 17) (N := some 108) #[true, true, true, true, true, true, true, true, true, true, true, true, true, true, true, true, true, true, false, false, false, false, false, false, false, false, false, false, false] rfl rfl (one_of HT_.out (by kernel_rfl)) (by decide) (fun K hK => ?_)
          refine goes_ Try.func34 (by kernel_rfl) rfl #[.int .i64 a0_3] (by rfl) rfl rfl (by (try simp only [List.map_toArray, List.map_cons, List.map_nil]); first | done | rfl | (simp only [List.length_drop, List.length_take]; rfl)) ?_
          with_reducible refine (frustumref38_Max.calls k2 a0_3 t295 _ A65.out).mono ?_; rintro e w' ⟨rfl, ⟨nd, rfl⟩⟩; refine ⟨_, rfl, ?_⟩
          refine hK.out _ _ ⟨bc BK288 0, bc BK288 1, bc BK288 2, bc BK288 3, bc BK288 4, bc BK288 5, bc BK288 6⟩ (fun hHeld => ?_)
          clear hK K
          refine norm_ (a' := ?_) ?_ ?_
          rotate_left
          ·show Act.put _ (some 108) _ = _
           simp only [Act.put, List.setIfInBounds_toArray, List.set_cons_zero, List.set_cons_succ, i64_w, i32_w]
           rfl
          refine one_ (i := 18) (N := some 109) #[true, true, true, true, true, true, true, true, true, true, true, true, true, true, true, true, true, true, true, false, false, false, false, false, false, false, false, false, false] rfl rfl (one_of HT_.out (by kernel_rfl)) (by decide) (fun K hK => ?_)
          refine goes_ Try.func33 (by kernel_rfl) rfl #[.slice A0_5 l0_5.length c0_5, .int .i64 t295] (by rfl) rfl rfl (by (try simp only [List.map_toArray, List.map_cons, List.map_nil]); first | done | rfl | (simp only [List.length_drop, List.length_take]; rfl)) ?_
          with_reducible refine (frustumref42_limited.calls k2 _ _ l0_5 t295 false _ ?side1 ?side2 A66.out).mono ?_
          (case side1 => repeat (first | exact (Kd.C_below HR0_5.out (by repeat (first | (with_reducible first | exact HB.out | apply below_alloc | apply pw_below_drewN | apply below_drew1 | refine below_setA ?_ (by assumption)) | exact HB.out))) | (with_reducible refine Kd.C_alloc ?_ _) | (with_reducible refine Kd.C_drewN ?_ _) | (with_reducible refine Kd.C_drew ?_)))
          (case side2 => exact HC0_5.out)
          rintro e w' ⟨rfl, ⟨nd, rfl⟩⟩; refine ⟨_, rfl, ?_⟩
          refine hK.out _ _ ⟨bc BK288 0, bc BK288 1, bc BK288 2, bc BK288 3, bc BK288 4, bc BK288 5, bc BK288 6⟩ (fun hHeld => ?_)
          clear hK K
          refine norm_ (a' := ?_) ?_ ?_
          rotate_left
          ·show Act.put _ (some 109) _ = _
           simp only [Act.put, List.setIfInBounds_toArray, List.set_cons_zero, List.set_cons_succ, i64_w, i32_w]
           rfl
          refine on HT_ 19 (some 110) ?_
          refine on HT_ 20 (some 111) ?_
          refine off HT_ 21 (some 112) ?_
          refine off HT_ 22 (some 113) ?_
          refine off HT_ 23 (some 114) ?_
          refine off HT_ 24 (some 115) ?_
          refine off HT_ 25 (some 116) ?_
          refine off HT_ 26 (some 117) ?_
          refine on HT_ 27 (some 118) ?_
          refine on HT_ 28 (some 2) ?_
          refine done_ (done_of HT_.out (by kernel_rfl)) ?_
          try go_wp2
          go_ret
          exact ⟨by first | rfl | (simp [errW_none, errW_some] <;> rfl) | (simp [*, errW_none, errW_some] <;> rfl), by repeat (first | (with_reducible first | exact HB.out | apply below_alloc | apply pw_below_drewN | apply below_drew1 | refine below_set ?_ GE288.out) | exact HB.out)⟩
        ·rw [if_neg c64] at H
         have c64b0 : ((l0_6.length : Int) == (wrap64 ((wrap64 (a0_0 * a0_1)) * a0_2))) = false := beq_eq_false_iff_ne.mpr c64
         have c64b1 : ((l0_6.length : Int) != (wrap64 ((wrap64 (a0_0 * a0_1)) * a0_2))) = true := bne_iff_ne.mpr c64
         obtain rfl := Option.some.inj H
         have hcz74_0 : wr.cell? ⟨gb288, 0, none⟩ = some (.int .i64 a0_0) := bc BK288 0
         have hcz74_1 : wr.cell? ⟨gb288, 1, none⟩ = some (.int .i64 a0_1) := bc BK288 1
         have hcz74_2 : wr.cell? ⟨gb288, 2, none⟩ = some (.int .i64 a0_2) := bc BK288 2
         have hcz74_3 : wr.cell? ⟨gb288, 3, none⟩ = some (.int .i64 a0_3) := bc BK288 3
         have hcz74_4 : wr.cell? ⟨gb288, 4, none⟩ = some (.slice A0_4 l0_4.length c0_4) := bc BK288 4
         have hcz74_5 : wr.cell? ⟨gb288, 5, none⟩ = some (.slice A0_5 l0_5.length c0_5) := bc BK288 5
         have hcz74_6 : wr.cell? ⟨gb288, 6, none⟩ = some (.slice A0_6 l0_6.length c0_6) := bc BK288 6
         have hfz74_0 := blk_frozen BK288.out 0; have hfz74_1 := blk_frozen BK288.out 1; have hfz74_2 := blk_frozen BK288.out 2; have hfz74_3 := blk_frozen BK288.out 3; have hfz74_4 := blk_frozen BK288.out 4; have hfz74_5 := blk_frozen BK288.out 5; have hfz74_6 := blk_frozen BK288.out 6
         try go_wp2
         replace BK288 := Aside0.mk (blk_drew BK288.out); replace HB := Aside0.mk (below_drew1 HB.out)
         refine start_ (n := 29) (S := fun w' => w'.cell? ⟨gb288, 0, none⟩ = some (.int .i64 a0_0) ∧ w'.cell? ⟨gb288, 1, none⟩ = some (.int .i64 a0_1) ∧ w'.cell? ⟨gb288, 2, none⟩ = some (.int .i64 a0_2) ∧ w'.cell? ⟨gb288, 3, none⟩ = some (.int .i64 a0_3) ∧ w'.cell? ⟨gb288, 4, none⟩ = some (.slice A0_4 l0_4.length c0_4) ∧ w'.cell? ⟨gb288, 5, none⟩ = some (.slice A0_5 l0_5.length c0_5) ∧ w'.cell? ⟨gb288, 6, none⟩ = some (.slice A0_6 l0_6.length c0_6)) (ds := []) #[false, false, false, false, false, false, false, false, false, false, false, false, false, false, false, false, false, false, false, false, false, false, false, false, false, false, false, false, false] (by kernel_rfl) rfl rfl ⟨bc BK288 0, bc BK288 1, bc BK288 2, bc BK288 3, bc BK288 4, bc BK288 5, bc BK288 6⟩ (fun hHeld => ?_); refine with_tabW frustumref42_Valid.tab10 frustumref42_Valid.bits10 (fun HT_ HW_ => ?_)
         generalize wr.drew = w75 at BK288 HB hHeld ⊢
         refine on HT_ 0 (some 91) ?_
         refine on HT_ 3 (some 94) ?_
         refine tk HT_ HW_ hHeld 1 (some 92) rfl (by rintro w' ⟨s0, s1, s2, s3, s4, s5, s6⟩; go_simp; with_reducible rfl) ?_
         refine on HT_ 2 (some 93) ?_
         refine on HT_ 4 (some 95) ?_
         refine on HT_ 5 (some 96) ?_
         refine on HT_ 6 (some 97) ?_
         refine on HT_ 9 (some 100) ?_
         refine tk HT_ HW_ hHeld 7 (some 98) rfl (by rintro w' ⟨s0, s1, s2, s3, s4, s5, s6⟩; go_simp; with_reducible rfl) ?_
         refine on HT_ 8 (some 99) ?_
         refine on HT_ 10 (some 101) ?_
         refine on HT_ 11 (some 102) ?_
         refine on HT_ 12 (some 103) ?_
         refine off HT_ 13 (some 104) ?_
         refine off HT_ 14 (some 105) ?_
         refine off HT_ 15 (some 106) ?_
         refine off HT_ 16 (some 107) ?_
         refine off HT_ 17 (some 108) ?_
         refine off HT_ 18 (some 109) ?_
         refine on HT_ 19 (some 110) ?_
         refine on HT_ 20 (some 111) ?_
         refine off HT_ 21 (some 112) ?_
         refine off HT_ 22 (some 113) ?_
         refine off HT_ 23 (some 114) ?_
         refine off HT_ 24 (some 115) ?_
         refine off HT_ 25 (some 116) ?_
         refine off HT_ 26 (some 117) ?_
         refine on HT_ 27 (some 118) ?_
         refine on HT_ 28 (some 2) ?_
         refine done_ (done_of HT_.out (by kernel_rfl)) ?_
         try go_wp2
         go_ret
         exact ⟨by first | rfl | (simp [errW_none, errW_some] <;> rfl) | (simp [*, errW_none, errW_some] <;> rfl), by repeat (first | (with_reducible first | exact HB.out | apply below_alloc | apply pw_below_drewN | apply below_drew1 | refine below_set ?_ GE288.out) | exact HB.out)⟩
       ·rw [if_neg c63] at H
        have c63b0 : ((l0_5.length : Int) == (wrap64 ((wrap64 (a0_0 * a0_1)) * a0_2))) = false := beq_eq_false_iff_ne.mpr c63
        have c63b1 : ((l0_5.length : Int) != (wrap64 ((wrap64 (a0_0 * a0_1)) * a0_2))) = true := bne_iff_ne.mpr c63
        obtain rfl := Option.some.inj H
        have hcz76_0 : wr.cell? ⟨gb288, 0, none⟩ = some (.int .i64 a0_0) := bc BK288 0
        have hcz76_1 : wr.cell? ⟨gb288, 1, none⟩ = some (.int .i64 a0_1) := bc BK288 1
        have hcz76_2 : wr.cell? ⟨gb288, 2, none⟩ = some (.int .i64 a0_2) := bc BK288 2
        have hcz76_3 : wr.cell? ⟨gb288, 3, none⟩ = some (.int .i64 a0_3) := bc BK288 3
        have hcz76_4 : wr.cell? ⟨gb288, 4, none⟩ = some (.slice A0_4 l0_4.length c0_4) := bc BK288 4
        have hcz76_5 : wr.cell? ⟨gb288, 5, none⟩ = some (.slice A0_5 l0_5.length c0_5) := bc BK288 5
        have hcz76_6 : wr.cell? ⟨gb288, 6, none⟩ = some (.slice A0_6 l0_6.length c0_6) := bc BK288 6
        have hfz76_0 := blk_frozen BK288.out 0; have hfz76_1 := blk_frozen BK288.out 1; have hfz76_2 := blk_frozen BK288.out 2; have hfz76_3 := blk_frozen BK288.out 3; have hfz76_4 := blk_frozen BK288.out 4; have hfz76_5 := blk_frozen BK288.out 5; have hfz76_6 := blk_frozen BK288.out 6
        try go_wp2
        replace BK288 := Aside0.mk (blk_drew BK288.out); replace HB := Aside0.mk (below_drew1 HB.out)
        refine start_ (n := 29) (S := fun w' => w'.cell? ⟨gb288, 0, none⟩ = some (.int .i64 a0_0) ∧ w'.cell? ⟨gb288, 1, none⟩ = some (.int .i64 a0_1) ∧ w'.cell? ⟨gb288, 2, none⟩ = some (.int .i64 a0_2) ∧ w'.cell? ⟨gb288, 3, none⟩ = some (.int .i64 a0_3) ∧ w'.cell? ⟨gb288, 4, none⟩ = some (.slice A0_4 l0_4.length c0_4) ∧ w'.cell? ⟨gb288, 5, none⟩ = some (.slice A0_5 l0_5.length c0_5) ∧ w'.cell? ⟨gb288, 6, none⟩ = some (.slice A0_6 l0_6.length c0_6)) (ds := []) #[false, false, false, false, false, false, false, false, false, false, false, false, false, false, false, false, false, false, false, false, false, false, false, false, false, false, false, false, false] (by kernel_rfl) rfl rfl ⟨bc BK288 0, bc BK288 1, bc BK288 2, bc BK288 3, bc BK288 4, bc BK288 5, bc BK288 6⟩ (fun hHeld => ?_); refine with_tabW frustumref42_Valid.tab10 frustumref42_Valid.bits10 (fun HT_ HW_ => ?_)
        generalize wr.drew = w77 at BK288 HB hHeld ⊢
        refine on HT_ 0 (some 91) ?_
        refine on HT_ 3 (some 94) ?_
        refine tk HT_ HW_ hHeld 1 (some 92) rfl (by rintro w' ⟨s0, s1, s2, s3, s4, s5, s6⟩; go_simp; with_reducible rfl) ?_
        refine on HT_ 2 (some 93) ?_
        refine on HT_ 4 (some 95) ?_
        refine on HT_ 5 (some 96) ?_
        refine off HT_ 6 (some 97) ?_
        refine off HT_ 7 (some 98) ?_
        refine off HT_ 8 (some 99) ?_
        refine off HT_ 9 (some 100) ?_
        refine off HT_ 10 (some 101) ?_
        refine on HT_ 11 (some 102) ?_
        refine on HT_ 12 (some 103) ?_
        refine off HT_ 13 (some 104) ?_
        refine off HT_ 14 (some 105) ?_
        refine off HT_ 15 (some 106) ?_
        refine off HT_ 16 (some 107) ?_
        refine off HT_ 17 (some 108) ?_
        refine off HT_ 18 (some 109) ?_
        refine on HT_ 19 (some 110) ?_
        refine on HT_ 20 (some 111) ?_
        refine off HT_ 21 (some 112) ?_
        refine off HT_ 22 (some 113) ?_
        refine off HT_ 23 (some 114) ?_
        refine off HT_ 24 (some 115) ?_
        refine off HT_ 25 (some 116) ?_
        refine off HT_ 26 (some 117) ?_
        refine on HT_ 27 (some 118) ?_
        refine on HT_ 28 (some 2) ?_
        refine done_ (done_of HT_.out (by kernel_rfl)) ?_
        try go_wp2
        go_ret
        exact ⟨by first | rfl | (simp [errW_none, errW_some] <;> rfl) | (simp [*, errW_none, errW_some] <;> rfl), by repeat (first | (with_reducible first | exact HB.out | apply below_alloc | apply pw_below_drewN | apply below_drew1 | refine below_set ?_ GE288.out) | exact HB.out)⟩

end Go.Proofs.Ytmpmennepjkocaa.PTargetMerge
