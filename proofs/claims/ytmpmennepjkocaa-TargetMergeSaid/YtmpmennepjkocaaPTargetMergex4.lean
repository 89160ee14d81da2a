/- TargetMerge: walks of functions, by the printed steps made shorter. No condition. -/
/- Walks of functions, by printed steps, in short words. No condition. -/
import Derived.Test.YtmpmennepjkocaaStep
import Derived.Test.YtmpmennepjkocaaPTargetMergex0
import Derived.Test.YtmpmennepjkocaaPTargetMergex3
namespace Go.Proofs.Ytmpmennepjkocaa.PTargetMerge
open Go.RowKit Go.Proofs.YtmpmennepjkocaaW.PrintWords Go.Proofs.YtmpmennepjkocaaW.PrintLast Go.Proofs.YtmpmennepjkocaaW.PrintMore Go.Proofs.Ytmpmennepjkocaa.Step
attribute [local go_sem] max2_int min2_int max_two min_two max_three min_three max_four min_four   -- for this text's walks alone
set_option linter.unusedVariables false
set_option linter.unusedSimpArgs false

/-! ### frustumref42_Equal: function 10 -/
mutual
def frustumref42_Equal.j0 : Nat → Bool → Int → Int → Int → Int → List (S47) → List Int → List Int → Int → Int → Int → Int → List (S47) → List Int → List Int → Option (Bool)
 | 0, _, _, _, _, _, _, _, _, _, _, _, _, _, _, _ => none
 | k + 1, x40, x167000, x167001, x167002, x167003, x167004, x167005, x167006, x168000, x168001, x168002, x168003, x168004, x168005, x168006 => if x40 = true then (some false) else (frustumref42_Equal.l0 k 0 x167000 x167001 x167002 x167003 x167004 x167005 x167006 x168000 x168001 x168002 x168003 x168004 x168005 x168006)
def frustumref42_Equal.l0 : Nat → Int → Int → Int → Int → Int → List (S47) → List Int → List Int → Int → Int → Int → Int → List (S47) → List Int → List Int → Option (Bool)
 | 0, _, _, _, _, _, _, _, _, _, _, _, _, _, _, _ => none
 | k + 1, x5, x167000, x167001, x167002, x167003, x167004, x167005, x167006, x168000, x168001, x168002, x168003, x168004, x168005, x168006 => if x5 < (x167004.length : Int) then (if 0 ≤ x5 then (if x5 < (x168004.length : Int) then ((frustumref10_Equal.f ((rd_T47 x167004 x5).f0) ((rd_T47 x167004 x5).f1) ((rd_T47 x167004 x5).f2) ((rd_T47 x167004 x5).f3) ((rd_T47 x168004 x5).f0) ((rd_T47 x168004 x5).f1) ((rd_T47 x168004 x5).f2) ((rd_T47 x168004 x5).f3)).bind fun t170 => (if t170 = true then (frustumref42_Equal.l0 k (wrap64 (x5 + 1)) x167000 x167001 x167002 x167003 x167004 x167005 x167006 x168000 x168001 x168002 x168003 x168004 x168005 x168006) else (some false))) else (none)) else (none)) else ((frustumref42_same.f k x167005 x168005).bind fun t171 => (if t171 = true then ((frustumref42_same.f k x167006 x168006).bind fun t172 => (some t172)) else (some false)))
end
def frustumref42_Equal.f (k : Nat) (a0_0 : Int) (a0_1 : Int) (a0_2 : Int) (a0_3 : Int) (l0_4 : List (S47)) (l0_5 : List Int) (l0_6 : List Int) (a1_0 : Int) (a1_1 : Int) (a1_2 : Int) (a1_3 : Int) (l1_4 : List (S47)) (l1_5 : List Int) (l1_6 : List Int) : Option (Bool) := if a0_0 = a1_0 then (if a0_1 = a1_1 then (if a0_2 = a1_2 then (if a0_3 = a1_3 then (frustumref42_Equal.j0 k ((l0_4.length : Int) != (l1_4.length : Int)) a0_0 a0_1 a0_2 a0_3 l0_4 l0_5 l0_6 a1_0 a1_1 a1_2 a1_3 l1_4 l1_5 l1_6) else (frustumref42_Equal.j0 k true a0_0 a0_1 a0_2 a0_3 l0_4 l0_5 l0_6 a1_0 a1_1 a1_2 a1_3 l1_4 l1_5 l1_6)) else (frustumref42_Equal.j0 k true a0_0 a0_1 a0_2 a0_3 l0_4 l0_5 l0_6 a1_0 a1_1 a1_2 a1_3 l1_4 l1_5 l1_6)) else (frustumref42_Equal.j0 k true a0_0 a0_1 a0_2 a0_3 l0_4 l0_5 l0_6 a1_0 a1_1 a1_2 a1_3 l1_4 l1_5 l1_6)) else (frustumref42_Equal.j0 k true a0_0 a0_1 a0_2 a0_3 l0_4 l0_5 l0_6 a1_0 a1_1 a1_2 a1_3 l1_4 l1_5 l1_6)
def frustumref42_Equal.T6 : Bool × List (List Nat × List Nat) := (true, [([], []), ([0], [0]), ([], []), ([1, 2], [1, 2]), ([3], [3]), ([], []), ([5], [5]), ([], []), ([6, 7], [6, 7]), ([8], [8]), ([4, 9], [4, 9]), ([10], [10])])
def frustumref42_Equal.B6 : List Nat := [0, 1, 0, 7, 15, 0, 32, 0, 224, 480, 1023, 2047]
theorem frustumref42_Equal.tab6 : rtab .any (opsOf Try.f10 6) = frustumref42_Equal.T6 := by kernel_rfl
theorem frustumref42_Equal.bits6 : waitsOk frustumref42_Equal.T6.2 frustumref42_Equal.B6 = true := by kernel_rfl
set_option maxHeartbeats 8000000 in
set_option maxRecDepth 100000 in
theorem frustumref42_Equal.calls (k : Nat) (a0_0 : Int) (a0_1 : Int) (a0_2 : Int) (a0_3 : Int) (A0_4 : Option Addr) (c0_4 : Nat) (l0_4 : List (S47)) (A0_5 : Option Addr) (c0_5 : Nat) (l0_5 : List Int) (A0_6 : Option Addr) (c0_6 : Nat) (l0_6 : List Int) (a1_0 : Int) (a1_1 : Int) (a1_2 : Int) (a1_3 : Int) (A1_4 : Option Addr) (c1_4 : Nat) (l1_4 : List (S47)) (A1_5 : Option Addr) (c1_5 : Nat) (l1_5 : List Int) (A1_6 : Option Addr) (c1_6 : Nat) (l1_6 : List Int) (r : Bool) (w : World) (hr0_4 : Kd.C k47 w A0_4 l0_4.length l0_4) (hc0_4 : l0_4.length ≤ c0_4) (hr0_5 : Kd.C (Kd.int .i64) w A0_5 l0_5.length l0_5) (hc0_5 : l0_5.length ≤ c0_5) (hr0_6 : Kd.C (Kd.int .i64) w A0_6 l0_6.length l0_6) (hc0_6 : l0_6.length ≤ c0_6) (hr1_4 : Kd.C k47 w A1_4 l1_4.length l1_4) (hc1_4 : l1_4.length ≤ c1_4) (hr1_5 : Kd.C (Kd.int .i64) w A1_5 l1_5.length l1_5) (hc1_5 : l1_5.length ≤ c1_5) (hr1_6 : Kd.C (Kd.int .i64) w A1_6 l1_6.length l1_6) (hc1_6 : l1_6.length ≤ c1_6) (h : frustumref42_Equal.f k a0_0 a0_1 a0_2 a0_3 l0_4 l0_5 l0_6 a1_0 a1_1 a1_2 a1_3 l1_4 l1_5 l1_6 = some r) :
  Calls Try.prog 10 #[.agg #[.int .i64 a0_0, .int .i64 a0_1, .int .i64 a0_2, .int .i64 a0_3, .slice A0_4 l0_4.length c0_4, .slice A0_5 l0_5.length c0_5, .slice A0_6 l0_6.length c0_6], .agg #[.int .i64 a1_0, .int .i64 a1_1, .int .i64 a1_2, .int .i64 a1_3, .slice A1_4 l1_4.length c1_4, .slice A1_5 l1_5.length c1_5, .slice A1_6 l1_6.length c1_6]] w fun e w' => e = .returned (.bool r) ∧ Below w.heap.size w w' := by
 have hu28 := Try.underlying28; have hu47 := Try.underlying47; have HR0_4 := Aside0.mk hr0_4; have HC0_4 := Aside0.mk hc0_4; clear hr0_4 hc0_4; have HR0_5 := Aside0.mk hr0_5; have HC0_5 := Aside0.mk hc0_5; clear hr0_5 hc0_5; have HR0_6 := Aside0.mk hr0_6; have HC0_6 := Aside0.mk hc0_6; clear hr0_6 hc0_6; have HR1_4 := Aside0.mk hr1_4; have HC1_4 := Aside0.mk hc1_4; clear hr1_4 hc1_4; have HR1_5 := Aside0.mk hr1_5; have HC1_5 := Aside0.mk hc1_5; clear hr1_5 hc1_5; have HR1_6 := Aside0.mk hr1_6; have HC1_6 := Aside0.mk hc1_6; clear hr1_6 hc1_6; have HB := Aside0.mk (Below.refl w.heap.size w)
 have H : (if a0_0 = a1_0 then (if a0_1 = a1_1 then (if a0_2 = a1_2 then (if a0_3 = a1_3 then (frustumref42_Equal.j0 k ((l0_4.length : Int) != (l1_4.length : Int)) a0_0 a0_1 a0_2 a0_3 l0_4 l0_5 l0_6 a1_0 a1_1 a1_2 a1_3 l1_4 l1_5 l1_6) else (frustumref42_Equal.j0 k true a0_0 a0_1 a0_2 a0_3 l0_4 l0_5 l0_6 a1_0 a1_1 a1_2 a1_3 l1_4 l1_5 l1_6)) else (frustumref42_Equal.j0 k true a0_0 a0_1 a0_2 a0_3 l0_4 l0_5 l0_6 a1_0 a1_1 a1_2 a1_3 l1_4 l1_5 l1_6)) else (frustumref42_Equal.j0 k true a0_0 a0_1 a0_2 a0_3 l0_4 l0_5 l0_6 a1_0 a1_1 a1_2 a1_3 l1_4 l1_5 l1_6)) else (frustumref42_Equal.j0 k true a0_0 a0_1 a0_2 a0_3 l0_4 l0_5 l0_6 a1_0 a1_1 a1_2 a1_3 l1_4 l1_5 l1_6)) = some r := h
 clear h; have HC3 := Aside0.mk H; clear H
 go_enter Try.func10, Try.ntmps10
 go_upto_region 1 with (first | ((with_reducible refine gate_dst (N := 2) rfl ?_); (try (refine gate_guard (by rfl) ?_; dsimp only)); refine box_event ?hg (N := 2) ?hd (cs := #[.int .i64 a0_0, .int .i64 a0_1, .int .i64 a0_2, .int .i64 a0_3, .slice A0_4 l0_4.length c0_4, .slice A0_5 l0_5.length c0_5, .slice A0_6 l0_6.length c0_6]) (t := 28) ?hr ?_; (case hd => rfl); (case hg => rfl); (case hr => first | (go_simp; done) | (go_simp; rfl)); intro gb166 hg w4 hbox hb; have BK166 := Aside0.mk (hbox); have GW166 := ws HB hg; have GE166 := ws HB hg; replace HB := bs HB hb; clear hb hbox hg) | ((with_reducible refine gate_dst (N := 3) rfl ?_); (try (refine gate_guard (by rfl) ?_; dsimp only)); refine box_event ?hg (N := 3) ?hd (cs := #[.int .i64 a1_0, .int .i64 a1_1, .int .i64 a1_2, .int .i64 a1_3, .slice A1_4 l1_4.length c1_4, .slice A1_5 l1_5.length c1_5, .slice A1_6 l1_6.length c1_6]) (t := 28) ?hr ?_; (case hd => rfl); (case hg => rfl); (case hr => first | (go_simp; done) | (go_simp; rfl)); intro gb167 hg w5 hbox hb; have BK167 := Aside0.mk (hbox); have GW167 := ws HB hg; have GE167 := ws HB hg; have NB166_167 := nl BK166 hg; have NB167_166 := ng BK166 hg; replace BK166 := ub BK166 hb; replace HB := bs HB hb; clear hb hbox hg))
 (try simp only [Act.put, List.setIfInBounds_toArray, List.set_cons_zero, List.set_cons_succ])
 go_cut [40] (fun v40 wc => ∃ (kq : Nat) (x40_2 : Bool), v40 = .bool x40_2 ∧ Aside0 (frustumref42_Equal.j0 kq x40_2 a0_0 a0_1 a0_2 a0_3 l0_4 l0_5 l0_6 a1_0 a1_1 a1_2 a1_3 l1_4 l1_5 l1_6 = some r) ∧ Aside0 (kq ≤ k) ∧ Aside0 (wc.heap[gb166]? = some (.cells #[.int .i64 a0_0, .int .i64 a0_1, .int .i64 a0_2, .int .i64 a0_3, (.slice A0_4 l0_4.length c0_4), (.slice A0_5 l0_5.length c0_5), (.slice A0_6 l0_6.length c0_6)] 28 (0, 0))) ∧ Aside0 (wc.heap[gb167]? = some (.cells #[.int .i64 a1_0, .int .i64 a1_1, .int .i64 a1_2, .int .i64 a1_3, (.slice A1_4 l1_4.length c1_4), (.slice A1_5 l1_5.length c1_5), (.slice A1_6 l1_6.length c1_6)] 28 (0, 0))) ∧ Aside0 (Below w.heap.size w wc))
 case first =>
  have H := HC3.out; clear HC3
  by_cases c6 : a0_0 = a1_0
  ·rw [if_pos c6] at H
   have c6b0 : (a0_0 == a1_0) = true := beq_iff_eq.mpr c6
   have c6b1 : (a0_0 != a1_0) = false := bne_eq_false_iff_eq.mpr c6
   clear c6
   (first | rw [c6b0] | (simp only [i64_w, i32_w]; rw [c6b0]) | skip)
   by_cases c7 : a0_1 = a1_1
   ·rw [if_pos c7] at H
    have c7b0 : (a0_1 == a1_1) = true := beq_iff_eq.mpr c7
    have c7b1 : (a0_1 != a1_1) = false := bne_eq_false_iff_eq.mpr c7
    clear c7
    by_cases c8 : a0_2 = a1_2
    ·rw [if_pos c8] at H
     have c8b0 : (a0_2 == a1_2) = true := beq_iff_eq.mpr c8
     have c8b1 : (a0_2 != a1_2) = false := bne_eq_false_iff_eq.mpr c8
     clear c8
     by_cases c9 : a0_3 = a1_3
     ·rw [if_pos c9] at H
      have c9b0 : (a0_3 == a1_3) = true := beq_iff_eq.mpr c9
      have c9b1 : (a0_3 != a1_3) = false := bne_eq_false_iff_eq.mpr c9
      clear c9
      have H' := Aside0.mk H
      clear H; have hnb10 := NB166_167.out; have hnc10 := NB167_166.out
      have hcz11_0 : w5.cell? ⟨gb166, 0, none⟩ = some (.int .i64 a0_0) := bc BK166 0
      have hcz11_1 : w5.cell? ⟨gb166, 1, none⟩ = some (.int .i64 a0_1) := bc BK166 1
      have hcz11_2 : w5.cell? ⟨gb166, 2, none⟩ = some (.int .i64 a0_2) := bc BK166 2
      have hcz11_3 : w5.cell? ⟨gb166, 3, none⟩ = some (.int .i64 a0_3) := bc BK166 3
      have hcz11_4 : w5.cell? ⟨gb166, 4, none⟩ = some (.slice A0_4 l0_4.length c0_4) := bc BK166 4
      have hcz11_5 : w5.cell? ⟨gb166, 5, none⟩ = some (.slice A0_5 l0_5.length c0_5) := bc BK166 5
      have hcz11_6 : w5.cell? ⟨gb166, 6, none⟩ = some (.slice A0_6 l0_6.length c0_6) := bc BK166 6
      have hfz11_0 := blk_frozen BK166.out 0; have hfz11_1 := blk_frozen BK166.out 1; have hfz11_2 := blk_frozen BK166.out 2; have hfz11_3 := blk_frozen BK166.out 3; have hfz11_4 := blk_frozen BK166.out 4; have hfz11_5 := blk_frozen BK166.out 5; have hfz11_6 := blk_frozen BK166.out 6
      have hcz12_0 : w5.cell? ⟨gb167, 0, none⟩ = some (.int .i64 a1_0) := bc BK167 0
      have hcz12_1 : w5.cell? ⟨gb167, 1, none⟩ = some (.int .i64 a1_1) := bc BK167 1
      have hcz12_2 : w5.cell? ⟨gb167, 2, none⟩ = some (.int .i64 a1_2) := bc BK167 2
      have hcz12_3 : w5.cell? ⟨gb167, 3, none⟩ = some (.int .i64 a1_3) := bc BK167 3
      have hcz12_4 : w5.cell? ⟨gb167, 4, none⟩ = some (.slice A1_4 l1_4.length c1_4) := bc BK167 4
      have hcz12_5 : w5.cell? ⟨gb167, 5, none⟩ = some (.slice A1_5 l1_5.length c1_5) := bc BK167 5
      have hcz12_6 : w5.cell? ⟨gb167, 6, none⟩ = some (.slice A1_6 l1_6.length c1_6) := bc BK167 6
      have hfz12_0 := blk_frozen BK167.out 0; have hfz12_1 := blk_frozen BK167.out 1; have hfz12_2 := blk_frozen BK167.out 2; have hfz12_3 := blk_frozen BK167.out 3; have hfz12_4 := blk_frozen BK167.out 4; have hfz12_5 := blk_frozen BK167.out 5; have hfz12_6 := blk_frozen BK167.out 6
      go_wp2
      go_meet
      case rel => exact ⟨_, (((l0_4.length : Int) != (l1_4.length : Int))), (by first | rfl | (simp; done) | (simp [*]; done)), H', ⟨by first | omega | exact Nat.le_refl _⟩, ⟨by (with_reducible repeat (first | refine blk_drewN ?_ _ | refine blk_drew ?_ | refine blk_alloc ?_ _)); exact BK166.out⟩, ⟨by (with_reducible repeat (first | refine blk_drewN ?_ _ | refine blk_drew ?_ | refine blk_alloc ?_ _)); exact BK167.out⟩, ⟨by repeat (first | (with_reducible first | exact HB.out | apply below_alloc | apply pw_below_drewN | apply below_drew1 | refine below_set ?_ GE166.out | refine below_set ?_ GE167.out) | exact HB.out)⟩⟩
     ·rw [if_neg c9] at H
      have c9b0 : (a0_3 == a1_3) = false := beq_eq_false_iff_ne.mpr c9
      have c9b1 : (a0_3 != a1_3) = true := bne_iff_ne.mpr c9
      have H' := Aside0.mk H
      clear H; have hnb13 := NB166_167.out; have hnc13 := NB167_166.out
      have hcz14_0 : w5.cell? ⟨gb166, 0, none⟩ = some (.int .i64 a0_0) := bc BK166 0
      have hcz14_1 : w5.cell? ⟨gb166, 1, none⟩ = some (.int .i64 a0_1) := bc BK166 1
      have hcz14_2 : w5.cell? ⟨gb166, 2, none⟩ = some (.int .i64 a0_2) := bc BK166 2
      have hcz14_3 : w5.cell? ⟨gb166, 3, none⟩ = some (.int .i64 a0_3) := bc BK166 3
      have hcz14_4 : w5.cell? ⟨gb166, 4, none⟩ = some (.slice A0_4 l0_4.length c0_4) := bc BK166 4
      have hcz14_5 : w5.cell? ⟨gb166, 5, none⟩ = some (.slice A0_5 l0_5.length c0_5) := bc BK166 5
      have hcz14_6 : w5.cell? ⟨gb166, 6, none⟩ = some (.slice A0_6 l0_6.length c0_6) := bc BK166 6
      have hfz14_0 := blk_frozen BK166.out 0; have hfz14_1 := blk_frozen BK166.out 1; have hfz14_2 := blk_frozen BK166.out 2; have hfz14_3 := blk_frozen BK166.out 3; have hfz14_4 := blk_frozen BK166.out 4; have hfz14_5 := blk_frozen BK166.out 5; have hfz14_6 := blk_frozen BK166.out 6
      have hcz15_0 : w5.cell? ⟨gb167, 0, none⟩ = some (.int .i64 a1_0) := bc BK167 0
      have hcz15_1 : w5.cell? ⟨gb167, 1, none⟩ = some (.int .i64 a1_1) := bc BK167 1
      have hcz15_2 : w5.cell? ⟨gb167, 2, none⟩ = some (.int .i64 a1_2) := bc BK167 2
      have hcz15_3 : w5.cell? ⟨gb167, 3, none⟩ = some (.int .i64 a1_3) := bc BK167 3
      have hcz15_4 : w5.cell? ⟨gb167, 4, none⟩ = some (.slice A1_4 l1_4.length c1_4) := bc BK167 4
      have hcz15_5 : w5.cell? ⟨gb167, 5, none⟩ = some (.slice A1_5 l1_5.length c1_5) := bc BK167 5
      have hcz15_6 : w5.cell? ⟨gb167, 6, none⟩ = some (.slice A1_6 l1_6.length c1_6) := bc BK167 6
      have hfz15_0 := blk_frozen BK167.out 0; have hfz15_1 := blk_frozen BK167.out 1; have hfz15_2 := blk_frozen BK167.out 2; have hfz15_3 := blk_frozen BK167.out 3; have hfz15_4 := blk_frozen BK167.out 4; have hfz15_5 := blk_frozen BK167.out 5; have hfz15_6 := blk_frozen BK167.out 6
      go_wp2
      go_meet
      case rel => exact ⟨_, (true), (by first | rfl | (simp; done) | (simp [*]; done)), H', ⟨by first | omega | exact Nat.le_refl _⟩, ⟨by (with_reducible repeat (first | refine blk_drewN ?_ _ | refine blk_drew ?_ | refine blk_alloc ?_ _)); exact BK166.out⟩, ⟨by (with_reducible repeat (first | refine blk_drewN ?_ _ | refine blk_drew ?_ | refine blk_alloc ?_ _)); exact BK167.out⟩, ⟨by repeat (first | (with_reducible first | exact HB.out | apply below_alloc | apply pw_below_drewN | apply below_drew1 | refine below_set ?_ GE166.out | refine below_set ?_ GE167.out) | exact HB.out)⟩⟩
    ·rw [if_neg c8] at H
     have c8b0 : (a0_2 == a1_2) = false := beq_eq_false_iff_ne.mpr c8
     have c8b1 : (a0_2 != a1_2) = true := bne_iff_ne.mpr c8
     have H' := Aside0.mk H
     clear H; have hnb16 := NB166_167.out; have hnc16 := NB167_166.out
     have hcz17_0 : w5.cell? ⟨gb166, 0, none⟩ = some (.int .i64 a0_0) := bc BK166 0
     have hcz17_1 : w5.cell? ⟨gb166, 1, none⟩ = some (.int .i64 a0_1) := bc BK166 1
     have hcz17_2 : w5.cell? ⟨gb166, 2, none⟩ = some (.int .i64 a0_2) := bc BK166 2
     have hcz17_3 : w5.cell? ⟨gb166, 3, none⟩ = some (.int .i64 a0_3) := bc BK166 3
     have hcz17_4 : w5.cell? ⟨gb166, 4, none⟩ = some (.slice A0_4 l0_4.length c0_4) := bc BK166 4
     have hcz17_5 : w5.cell? ⟨gb166, 5, none⟩ = some (.slice A0_5 l0_5.length c0_5) := bc BK166 5
     have hcz17_6 : w5.cell? ⟨gb166, 6, none⟩ = some (.slice A0_6 l0_6.length c0_6) := bc BK166 6
     have hfz17_0 := blk_frozen BK166.out 0; have hfz17_1 := blk_frozen BK166.out 1; have hfz17_2 := blk_frozen BK166.out 2; have hfz17_3 := blk_frozen BK166.out 3; have hfz17_4 := blk_frozen BK166.out 4; have hfz17_5 := blk_frozen BK166.out 5; have hfz17_6 := blk_frozen BK166.out 6
     have hcz18_0 : w5.cell? ⟨gb167, 0, none⟩ = some (.int .i64 a1_0) := bc BK167 0
     have hcz18_1 : w5.cell? ⟨gb167, 1, none⟩ = some (.int .i64 a1_1) := bc BK167 1
     have hcz18_2 : w5.cell? ⟨gb167, 2, none⟩ = some (.int .i64 a1_2) := bc BK167 2
     have hcz18_3 : w5.cell? ⟨gb167, 3, none⟩ = some (.int .i64 a1_3) := bc BK167 3
     have hcz18_4 : w5.cell? ⟨gb167, 4, none⟩ = some (.slice A1_4 l1_4.length c1_4) := bc BK167 4
     have hcz18_5 : w5.cell? ⟨gb167, 5, none⟩ = some (.slice A1_5 l1_5.length c1_5) := bc BK167 5
     have hcz18_6 : w5.cell? ⟨gb167, 6, none⟩ = some (.slice A1_6 l1_6.length c1_6) := bc BK167 6
     have hfz18_0 := blk_frozen BK167.out 0; have hfz18_1 := blk_frozen BK167.out 1; have hfz18_2 := blk_frozen BK167.out 2; have hfz18_3 := blk_frozen BK167.out 3; have hfz18_4 := blk_frozen BK167.out 4; have hfz18_5 := blk_frozen BK167.out 5; have hfz18_6 := blk_frozen BK167.out 6
     go_wp2
     go_meet
     case rel => exact ⟨_, (true), (by first | rfl | (simp; done) | (simp [*]; done)), H', ⟨by first | omega | exact Nat.le_refl _⟩, ⟨by (with_reducible repeat (first | refine blk_drewN ?_ _ | refine blk_drew ?_ | refine blk_alloc ?_ _)); exact BK166.out⟩, ⟨by (with_reducible repeat (first | refine blk_drewN ?_ _ | refine blk_drew ?_ | refine blk_alloc ?_ _)); exact BK167.out⟩, ⟨by repeat (first | (with_reducible first | exact HB.out | apply below_alloc | apply pw_below_drewN | apply below_drew1 | refine below_set ?_ GE166.out | refine below_set ?_ GE167.out) | exact HB.out)⟩⟩
   ·rw [if_neg c7] at H
    have c7b0 : (a0_1 == a1_1) = false := beq_eq_false_iff_ne.mpr c7
    have c7b1 : (a0_1 != a1_1) = true := bne_iff_ne.mpr c7
    have H' := Aside0.mk H
    clear H; have hnb19 := NB166_167.out; have hnc19 := NB167_166.out
    have hcz20_0 : w5.cell? ⟨gb166, 0, none⟩ = some (.int .i64 a0_0) := bc BK166 0
    have hcz20_1 : w5.cell? ⟨gb166, 1, none⟩ = some (.int .i64 a0_1) := bc BK166 1
    have hcz20_2 : w5.cell? ⟨gb166, 2, none⟩ = some (.int .i64 a0_2) := bc BK166 2
    have hcz20_3 : w5.cell? ⟨gb166, 3, none⟩ = some (.int .i64 a0_3) := bc BK166 3
    have hcz20_4 : w5.cell? ⟨gb166, 4, none⟩ = some (.slice A0_4 l0_4.length c0_4) := bc BK166 4
    have hcz20_5 : w5.cell? ⟨gb166, 5, none⟩ = some (.slice A0_5 l0_5.length c0_5) := bc BK166 5
    have hcz20_6 : w5.cell? ⟨gb166, 6, none⟩ = some (.slice A0_6 l0_6.length c0_6) := bc BK166 6
    have hfz20_0 := blk_frozen BK166.out 0; have hfz20_1 := blk_frozen BK166.out 1; have hfz20_2 := blk_frozen BK166.out 2; have hfz20_3 := blk_frozen BK166.out 3; have hfz20_4 := blk_frozen BK166.out 4; have hfz20_5 := blk_frozen BK166.out 5; have hfz20_6 := blk_frozen BK166.out 6
    have hcz21_0 : w5.cell? ⟨gb167, 0, none⟩ = some (.int .i64 a1_0) := bc BK167 0
    have hcz21_1 : w5.cell? ⟨gb167, 1, none⟩ = some (.int .i64 a1_1) := bc BK167 1
    have hcz21_2 : w5.cell? ⟨gb167, 2, none⟩ = some (.int .i64 a1_2) := bc BK167 2
    have hcz21_3 : w5.cell? ⟨gb167, 3, none⟩ = some (.int .i64 a1_3) := bc BK167 3
    have hcz21_4 : w5.cell? ⟨gb167, 4, none⟩ = some (.slice A1_4 l1_4.length c1_4) := bc BK167 4
    have hcz21_5 : w5.cell? ⟨gb167, 5, none⟩ = some (.slice A1_5 l1_5.length c1_5) := bc BK167 5
    have hcz21_6 : w5.cell? ⟨gb167, 6, none⟩ = some (.slice A1_6 l1_6.length c1_6) := bc BK167 6
    have hfz21_0 := blk_frozen BK167.out 0; have hfz21_1 := blk_frozen BK167.out 1; have hfz21_2 := blk_frozen BK167.out 2; have hfz21_3 := blk_frozen BK167.out 3; have hfz21_4 := blk_frozen BK167.out 4; have hfz21_5 := blk_frozen BK167.out 5; have hfz21_6 := blk_frozen BK167.out 6
    go_wp2
    go_meet
    case rel => exact ⟨_, (true), (by first | rfl | (simp; done) | (simp [*]; done)), H', ⟨by first | omega | exact Nat.le_refl _⟩, ⟨by (with_reducible repeat (first | refine blk_drewN ?_ _ | refine blk_drew ?_ | refine blk_alloc ?_ _)); exact BK166.out⟩, ⟨by (with_reducible repeat (first | refine blk_drewN ?_ _ | refine blk_drew ?_ | refine blk_alloc ?_ _)); exact BK167.out⟩, ⟨by repeat (first | (with_reducible first | exact HB.out | apply below_alloc | apply pw_below_drewN | apply below_drew1 | refine below_set ?_ GE166.out | refine below_set ?_ GE167.out) | exact HB.out)⟩⟩
  ·rw [if_neg c6] at H
   have c6b0 : (a0_0 == a1_0) = false := beq_eq_false_iff_ne.mpr c6
   have c6b1 : (a0_0 != a1_0) = true := bne_iff_ne.mpr c6
   (first | rw [c6b0] | (simp only [i64_w, i32_w]; rw [c6b0]) | skip)
   have H' := Aside0.mk H
   clear H; have hnb22 := NB166_167.out; have hnc22 := NB167_166.out
   have hcz23_0 : w5.cell? ⟨gb166, 0, none⟩ = some (.int .i64 a0_0) := bc BK166 0
   have hcz23_1 : w5.cell? ⟨gb166, 1, none⟩ = some (.int .i64 a0_1) := bc BK166 1
   have hcz23_2 : w5.cell? ⟨gb166, 2, none⟩ = some (.int .i64 a0_2) := bc BK166 2
   have hcz23_3 : w5.cell? ⟨gb166, 3, none⟩ = some (.int .i64 a0_3) := bc BK166 3
   have hcz23_4 : w5.cell? ⟨gb166, 4, none⟩ = some (.slice A0_4 l0_4.length c0_4) := bc BK166 4
   have hcz23_5 : w5.cell? ⟨gb166, 5, none⟩ = some (.slice A0_5 l0_5.length c0_5) := bc BK166 5
   have hcz23_6 : w5.cell? ⟨gb166, 6, none⟩ = some (.slice A0_6 l0_6.length c0_6) := bc BK166 6
   have hfz23_0 := blk_frozen BK166.out 0; have hfz23_1 := blk_frozen BK166.out 1; have hfz23_2 := blk_frozen BK166.out 2; have hfz23_3 := blk_frozen BK166.out 3; have hfz23_4 := blk_frozen BK166.out 4; have hfz23_5 := blk_frozen BK166.out 5; have hfz23_6 := blk_frozen BK166.out 6
   have hcz24_0 : w5.cell? ⟨gb167, 0, none⟩ = some (.int .i64 a1_0) := bc BK167 0
   have hcz24_1 : w5.cell? ⟨gb167, 1, none⟩ = some (.int .i64 a1_1) := bc BK167 1
   have hcz24_2 : w5.cell? ⟨gb167, 2, none⟩ = some (.int .i64 a1_2) := bc BK167 2
   have hcz24_3 : w5.cell? ⟨gb167, 3, none⟩ = some (.int .i64 a1_3) := bc BK167 3
   have hcz24_4 : w5.cell? ⟨gb167, 4, none⟩ = some (.slice A1_4 l1_4.length c1_4) := bc BK167 4
   have hcz24_5 : w5.cell? ⟨gb167, 5, none⟩ = some (.slice A1_5 l1_5.length c1_5) := bc BK167 5
   have hcz24_6 : w5.cell? ⟨gb167, 6, none⟩ = some (.slice A1_6 l1_6.length c1_6) := bc BK167 6
   have hfz24_0 := blk_frozen BK167.out 0; have hfz24_1 := blk_frozen BK167.out 1; have hfz24_2 := blk_frozen BK167.out 2; have hfz24_3 := blk_frozen BK167.out 3; have hfz24_4 := blk_frozen BK167.out 4; have hfz24_5 := blk_frozen BK167.out 5; have hfz24_6 := blk_frozen BK167.out 6
   go_wp2
   go_meet
   case rel => exact ⟨_, (true), (by first | rfl | (simp; done) | (simp [*]; done)), H', ⟨by first | omega | exact Nat.le_refl _⟩, ⟨by (with_reducible repeat (first | refine blk_drewN ?_ _ | refine blk_drew ?_ | refine blk_alloc ?_ _)); exact BK166.out⟩, ⟨by (with_reducible repeat (first | refine blk_drewN ?_ _ | refine blk_drew ?_ | refine blk_alloc ?_ _)); exact BK167.out⟩, ⟨by repeat (first | (with_reducible first | exact HB.out | apply below_alloc | apply pw_below_drewN | apply below_drew1 | refine below_set ?_ GE166.out | refine below_set ?_ GE167.out) | exact HB.out)⟩⟩
 case rest =>
  clear HC3
  try clear c1
  try clear c2
  try clear p2
  try clear c6
  try clear c6b0
  try clear c6b1
  try clear c7
  try clear c7b0
  try clear c7b1
  try clear c8
  try clear c8b0
  try clear c8b1
  try clear c9
  try clear c9b0
  try clear c9b1
  try clear c10
  try clear c13
  try clear c16
  try clear c19
  try clear c22
  try clear hcz11_0
  try clear hcz11_1
  try clear hcz11_2
  try clear hcz11_3
  try clear hcz11_4
  try clear hcz11_5
  try clear hcz11_6
  try clear hcz12_0
  try clear hcz12_1
  try clear hcz12_2
  try clear hcz12_3
  try clear hcz12_4
  try clear hcz12_5
  try clear hcz12_6
  try clear hcz14_0
  try clear hcz14_1
  try clear hcz14_2
  try clear hcz14_3
  try clear hcz14_4
  try clear hcz14_5
  try clear hcz14_6
  try clear hcz15_0
  try clear hcz15_1
  try clear hcz15_2
  try clear hcz15_3
  try clear hcz15_4
  try clear hcz15_5
  try clear hcz15_6
  try clear hcz17_0
  try clear hcz17_1
  try clear hcz17_2
  try clear hcz17_3
  try clear hcz17_4
  try clear hcz17_5
  try clear hcz17_6
  try clear hcz18_0
  try clear hcz18_1
  try clear hcz18_2
  try clear hcz18_3
  try clear hcz18_4
  try clear hcz18_5
  try clear hcz18_6
  try clear hcz20_0
  try clear hcz20_1
  try clear hcz20_2
  try clear hcz20_3
  try clear hcz20_4
  try clear hcz20_5
  try clear hcz20_6
  try clear hcz21_0
  try clear hcz21_1
  try clear hcz21_2
  try clear hcz21_3
  try clear hcz21_4
  try clear hcz21_5
  try clear hcz21_6
  try clear hcz23_0
  try clear hcz23_1
  try clear hcz23_2
  try clear hcz23_3
  try clear hcz23_4
  try clear hcz23_5
  try clear hcz23_6
  try clear hcz24_0
  try clear hcz24_1
  try clear hcz24_2
  try clear hcz24_3
  try clear hcz24_4
  try clear hcz24_5
  try clear hcz24_6
  try clear hfz11_0
  try clear hfz11_1
  try clear hfz11_2
  try clear hfz11_3
  try clear hfz11_4
  try clear hfz11_5
  try clear hfz11_6
  try clear hfz12_0
  try clear hfz12_1
  try clear hfz12_2
  try clear hfz12_3
  try clear hfz12_4
  try clear hfz12_5
  try clear hfz12_6
  try clear hfz14_0
  try clear hfz14_1
  try clear hfz14_2
  try clear hfz14_3
  try clear hfz14_4
  try clear hfz14_5
  try clear hfz14_6
  try clear hfz15_0
  try clear hfz15_1
  try clear hfz15_2
  try clear hfz15_3
  try clear hfz15_4
  try clear hfz15_5
  try clear hfz15_6
  try clear hfz17_0
  try clear hfz17_1
  try clear hfz17_2
  try clear hfz17_3
  try clear hfz17_4
  try clear hfz17_5
  try clear hfz17_6
  try clear hfz18_0
  try clear hfz18_1
  try clear hfz18_2
  try clear hfz18_3
  try clear hfz18_4
  try clear hfz18_5
  try clear hfz18_6
  try clear hfz20_0
  try clear hfz20_1
  try clear hfz20_2
  try clear hfz20_3
  try clear hfz20_4
  try clear hfz20_5
  try clear hfz20_6
  try clear hfz21_0
  try clear hfz21_1
  try clear hfz21_2
  try clear hfz21_3
  try clear hfz21_4
  try clear hfz21_5
  try clear hfz21_6
  try clear hfz23_0
  try clear hfz23_1
  try clear hfz23_2
  try clear hfz23_3
  try clear hfz23_4
  try clear hfz23_5
  try clear hfz23_6
  try clear hfz24_0
  try clear hfz24_1
  try clear hfz24_2
  try clear hfz24_3
  try clear hfz24_4
  try clear hfz24_5
  try clear hfz24_6
  obtain ⟨kq, x40_2, rfl, HA, HJ2, BK166, BK167, HB⟩ := hcut
  cases kq with
  | zero => exact absurd HA.out (by simp [frustumref42_Equal.j0])
  | succ kj2 =>
   have H := HA.out; clear HA
   simp only [frustumref42_Equal.j0] at H
   by_cases c25 : x40_2 = true
   ·subst c25
    have H1 : (some false) = some r := by rw [if_pos rfl] at H; exact H
    clear H; have H := H1; clear H1
    obtain rfl := Option.some.inj H
    go_wp2
    go_ret
    exact ⟨by first | rfl | (simp [errW_none, errW_some] <;> rfl) | (simp [*, errW_none, errW_some] <;> rfl), by repeat (first | (with_reducible first | exact HB.out | apply below_alloc | apply pw_below_drewN | apply below_drew1 | refine below_set ?_ GE166.out | refine below_set ?_ GE167.out) | exact HB.out)⟩
   ·replace c25 := Bool.eq_false_iff.mpr c25
    subst c25
    have H1 : (frustumref42_Equal.l0 kj2 0 a0_0 a0_1 a0_2 a0_3 l0_4 l0_5 l0_6 a1_0 a1_1 a1_2 a1_3 l1_4 l1_5 l1_6) = some r := by rw [if_neg (show ¬ (false = true) by decide)] at H; exact H
    clear H; have H := H1; clear H1
    have H' := Aside0.mk H
    clear H
    go_wp2
    go_loopg [5] kj2 (fun kq v5 w' => ∃ (x5_2 : Int), v5 = .int .i64 x5_2 ∧ Aside0 (frustumref42_Equal.l0 kq x5_2 a0_0 a0_1 a0_2 a0_3 l0_4 l0_5 l0_6 a1_0 a1_1 a1_2 a1_3 l1_4 l1_5 l1_6 = some r) ∧ Aside0 (kq ≤ kj2) ∧ Aside0 (w'.heap[gb166]? = some (.cells #[.int .i64 a0_0, .int .i64 a0_1, .int .i64 a0_2, .int .i64 a0_3, (.slice A0_4 l0_4.length c0_4), (.slice A0_5 l0_5.length c0_5), (.slice A0_6 l0_6.length c0_6)] 28 (0, 0))) ∧ Aside0 (w'.heap[gb167]? = some (.cells #[.int .i64 a1_0, .int .i64 a1_1, .int .i64 a1_2, .int .i64 a1_3, (.slice A1_4 l1_4.length c1_4), (.slice A1_5 l1_5.length c1_5), (.slice A1_6 l1_6.length c1_6)] 28 (0, 0))) ∧ Aside0 (Below w.heap.size w w'))
    case atStart => exact ⟨(0), (by first | rfl | (simp; done) | (simp [*]; done)), H', ⟨Nat.le_refl _⟩, ⟨by (with_reducible repeat (first | refine blk_drewN ?_ _ | refine blk_drew ?_ | refine blk_alloc ?_ _)); exact BK166.out⟩, ⟨by (with_reducible repeat (first | refine blk_drewN ?_ _ | refine blk_drew ?_ | refine blk_alloc ?_ _)); exact BK167.out⟩, ⟨by repeat (first | (with_reducible first | exact HB.out | apply below_alloc | apply pw_below_drewN | apply below_drew1 | refine below_set ?_ GE166.out | refine below_set ?_ GE167.out) | exact HB.out)⟩⟩
    case round =>
     clear H'
     try clear c1
     try clear c2
     try clear p2
     try clear c6
     try clear c6b0
     try clear c6b1
     try clear c7
     try clear c7b0
     try clear c7b1
     try clear c8
     try clear c8b0
     try clear c8b1
     try clear c9
     try clear c9b0
     try clear c9b1
     try clear c10
     try clear c13
     try clear c16
     try clear c19
     try clear c22
     try clear c25
     try clear hcz11_0
     try clear hcz11_1
     try clear hcz11_2
     try clear hcz11_3
     try clear hcz11_4
     try clear hcz11_5
     try clear hcz11_6
     try clear hcz12_0
     try clear hcz12_1
     try clear hcz12_2
     try clear hcz12_3
     try clear hcz12_4
     try clear hcz12_5
     try clear hcz12_6
     try clear hcz14_0
     try clear hcz14_1
     try clear hcz14_2
     try clear hcz14_3
     try clear hcz14_4
     try clear hcz14_5
     try clear hcz14_6
     try clear hcz15_0
     try clear hcz15_1
     try clear hcz15_2
     try clear hcz15_3
     try clear hcz15_4
     try clear hcz15_5
     try clear hcz15_6
     try clear hcz17_0
     try clear hcz17_1
     try clear hcz17_2
     try clear hcz17_3
     try clear hcz17_4
     try clear hcz17_5
     try clear hcz17_6
     try clear hcz18_0
     try clear hcz18_1
     try clear hcz18_2
     try clear hcz18_3
     try clear hcz18_4
     try clear hcz18_5
     try clear hcz18_6
     try clear hcz20_0
     try clear hcz20_1
     try clear hcz20_2
     try clear hcz20_3
     try clear hcz20_4
     try clear hcz20_5
     try clear hcz20_6
     try clear hcz21_0
     try clear hcz21_1
     try clear hcz21_2
     try clear hcz21_3
     try clear hcz21_4
     try clear hcz21_5
     try clear hcz21_6
     try clear hcz23_0
     try clear hcz23_1
     try clear hcz23_2
     try clear hcz23_3
     try clear hcz23_4
     try clear hcz23_5
     try clear hcz23_6
     try clear hcz24_0
     try clear hcz24_1
     try clear hcz24_2
     try clear hcz24_3
     try clear hcz24_4
     try clear hcz24_5
     try clear hcz24_6
     try clear hfz11_0
     try clear hfz11_1
     try clear hfz11_2
     try clear hfz11_3
     try clear hfz11_4
     try clear hfz11_5
     try clear hfz11_6
     try clear hfz12_0
     try clear hfz12_1
     try clear hfz12_2
     try clear hfz12_3
     try clear hfz12_4
     try clear hfz12_5
     try clear hfz12_6
     try clear hfz14_0
     try clear hfz14_1
     try clear hfz14_2
     try clear hfz14_3
     try clear hfz14_4
     try clear hfz14_5
     try clear hfz14_6
     try clear hfz15_0
     try clear hfz15_1
     try clear hfz15_2
     try clear hfz15_3
     try clear hfz15_4
     try clear hfz15_5
     try clear hfz15_6
     try clear hfz17_0
     try clear hfz17_1
     try clear hfz17_2
     try clear hfz17_3
     try clear hfz17_4
     try clear hfz17_5
     try clear hfz17_6
     try clear hfz18_0
     try clear hfz18_1
     try clear hfz18_2
     try clear hfz18_3
     try clear hfz18_4
     try clear hfz18_5
     try clear hfz18_6
     try clear hfz20_0
     try clear hfz20_1
     try clear hfz20_2
     try clear hfz20_3
     try clear hfz20_4
     try clear hfz20_5
     try clear hfz20_6
     try clear hfz21_0
     try clear hfz21_1
     try clear hfz21_2
     try clear hfz21_3
     try clear hfz21_4
     try clear hfz21_5
     try clear hfz21_6
     try clear hfz23_0
     try clear hfz23_1
     try clear hfz23_2
     try clear hfz23_3
     try clear hfz23_4
     try clear hfz23_5
     try clear hfz23_6
     try clear hfz24_0
     try clear hfz24_1
     try clear hfz24_2
     try clear hfz24_3
     try clear hfz24_4
     try clear hfz24_5
     try clear hfz24_6
     try clear p2
     obtain ⟨x5_2, rfl, HA, HK2, BK166, BK167, HB⟩ := hrel
     cases gk with
     | zero => exact absurd HA.out (by simp [frustumref42_Equal.l0])
     | succ k2 =>
      have H := HA.out; clear HA
      simp only [frustumref42_Equal.l0] at H
      by_cases c26 : x5_2 < (l0_4.length : Int)
      ·rw [if_pos c26] at H
       have c26b0 : decide (x5_2 < (l0_4.length : Int)) = true := decide_eq_true c26
       clear c26
       by_cases c27 : 0 ≤ x5_2
       ·rw [if_pos c27] at H
        have c27b0 : decide (0 ≤ x5_2) = true := decide_eq_true c27
        clear c27
        by_cases c28 : x5_2 < (l1_4.length : Int)
        ·rw [if_pos c28] at H
         have c28b0 : decide (x5_2 < (l1_4.length : Int)) = true := decide_eq_true c28
         clear c28
         replace H := Option.bind_eq_some_iff.mp H
         obtain ⟨t170, A290, H⟩ := H
         replace H : (if t170 = true then (frustumref42_Equal.l0 k2 (wrap64 (x5_2 + 1)) a0_0 a0_1 a0_2 a0_3 l0_4 l0_5 l0_6 a1_0 a1_1 a1_2 a1_3 l1_4 l1_5 l1_6) else (some false)) = some r := H
         have A29 := Aside0.mk A290; clear A290
         by_cases c30 : t170 = true
         ·subst c30
          have H1 : (frustumref42_Equal.l0 k2 (wrap64 (x5_2 + 1)) a0_0 a0_1 a0_2 a0_3 l0_4 l0_5 l0_6 a1_0 a1_1 a1_2 a1_3 l1_4 l1_5 l1_6) = some r := by rw [if_pos rfl] at H; exact H
          clear H; have H := H1; clear H1
          have H' := Aside0.mk H
          clear H; have hnb31 := NB166_167.out; have hnc31 := NB167_166.out
          have hcz32_0 : wr.cell? ⟨gb166, 0, none⟩ = some (.int .i64 a0_0) := bc BK166 0
          have hcz32_1 : wr.cell? ⟨gb166, 1, none⟩ = some (.int .i64 a0_1) := bc BK166 1
          have hcz32_2 : wr.cell? ⟨gb166, 2, none⟩ = some (.int .i64 a0_2) := bc BK166 2
          have hcz32_3 : wr.cell? ⟨gb166, 3, none⟩ = some (.int .i64 a0_3) := bc BK166 3
          have hcz32_4 : wr.cell? ⟨gb166, 4, none⟩ = some (.slice A0_4 l0_4.length c0_4) := bc BK166 4
          have hcz32_5 : wr.cell? ⟨gb166, 5, none⟩ = some (.slice A0_5 l0_5.length c0_5) := bc BK166 5
          have hcz32_6 : wr.cell? ⟨gb166, 6, none⟩ = some (.slice A0_6 l0_6.length c0_6) := bc BK166 6
          have hfz32_0 := blk_frozen BK166.out 0; have hfz32_1 := blk_frozen BK166.out 1; have hfz32_2 := blk_frozen BK166.out 2; have hfz32_3 := blk_frozen BK166.out 3; have hfz32_4 := blk_frozen BK166.out 4; have hfz32_5 := blk_frozen BK166.out 5; have hfz32_6 := blk_frozen BK166.out 6
          try go_wp2
          replace BK166 := Aside0.mk (blk_drew BK166.out); replace BK167 := Aside0.mk (blk_drew BK167.out); replace HB := Aside0.mk (below_drew1 HB.out)
          have p168 : 0 ≤ (x5_2 : Int) := of_decide_eq_true (by first | (with_reducible assumption) | assumption)
          have q168 : x5_2 < (l0_4.length : Int) := of_decide_eq_true (by first | (with_reducible assumption) | assumption)
          obtain ⟨ad168, A168_3, c168_3, e168, hx168_0, hx168_1, hx168_2, hx168_3, hl168_3, hi168_3⟩ := at_T47 HR0_4.out x5_2 p168 q168
          have hw168_3 := hx168_3; have hw168_2 := hx168_2; have hw168_1 := hx168_1; have hw168_0 := hx168_0
          cases e168
          replace hx168_0 := (HB.out.cell (World.block_lt_of_cell? w _ hx168_0)).trans hx168_0
          replace hx168_1 := (HB.out.cell (World.block_lt_of_cell? w _ hx168_1)).trans hx168_1
          replace hx168_2 := (HB.out.cell (World.block_lt_of_cell? w _ hx168_2)).trans hx168_2
          replace hx168_3 := (HB.out.cell (World.block_lt_of_cell? w _ hx168_3)).trans hx168_3
          have HR168_3 := Aside0.mk hi168_3; have HC168_3 := Aside0.mk hl168_3; clear hi168_3 hl168_3
          replace p168 := eq_true p168
          replace q168 := eq_true q168
          have p169 : 0 ≤ (x5_2 : Int) := of_decide_eq_true (by first | (with_reducible assumption) | assumption)
          have q169 : x5_2 < (l1_4.length : Int) := of_decide_eq_true (by first | (with_reducible assumption) | assumption)
          obtain ⟨ad169, A169_3, c169_3, e169, hx169_0, hx169_1, hx169_2, hx169_3, hl169_3, hi169_3⟩ := at_T47 HR1_4.out x5_2 p169 q169
          have hw169_3 := hx169_3; have hw169_2 := hx169_2; have hw169_1 := hx169_1; have hw169_0 := hx169_0
          cases e169
          replace hx169_0 := (HB.out.cell (World.block_lt_of_cell? w _ hx169_0)).trans hx169_0
          replace hx169_1 := (HB.out.cell (World.block_lt_of_cell? w _ hx169_1)).trans hx169_1
          replace hx169_2 := (HB.out.cell (World.block_lt_of_cell? w _ hx169_2)).trans hx169_2
          replace hx169_3 := (HB.out.cell (World.block_lt_of_cell? w _ hx169_3)).trans hx169_3
          have HR169_3 := Aside0.mk hi169_3; have HC169_3 := Aside0.mk hl169_3; clear hi169_3 hl169_3
          replace p169 := eq_true p169
          replace q169 := eq_true q169
          refine start_ (n := 12) (S := fun w' => w'.cell? ⟨gb166, 0, none⟩ = some (.int .i64 a0_0) ∧ w'.cell? ⟨gb166, 1, none⟩ = some (.int .i64 a0_1) ∧ w'.cell? ⟨gb166, 2, none⟩ = some (.int .i64 a0_2) ∧ w'.cell? ⟨gb166, 3, none⟩ = some (.int .i64 a0_3) ∧ w'.cell? ⟨gb166, 4, none⟩ = some (.slice (some ad168) l0_4.length c0_4) ∧ w'.cell? ⟨gb166, 5, none⟩ = some (.slice A0_5 l0_5.length c0_5) ∧ w'.cell? ⟨gb166, 6, none⟩ = some (.slice A0_6 l0_6.length c0_6) ∧ w'.cell? ⟨gb167, 0, none⟩ = some (.int .i64 a1_0) ∧ w'.cell? ⟨gb167, 1, none⟩ = some (.int .i64 a1_1) ∧ w'.cell? ⟨gb167, 2, none⟩ = some (.int .i64 a1_2) ∧ w'.cell? ⟨gb167, 3, none⟩ = some (.int .i64 a1_3) ∧ w'.cell? ⟨gb167, 4, none⟩ = some (.slice (some ad169) l1_4.length c1_4) ∧ w'.cell? ⟨gb167, 5, none⟩ = some (.slice A1_5 l1_5.length c1_5) ∧ w'.cell? ⟨gb167, 6, none⟩ = some (.slice A1_6 l1_6.length c1_6) ∧ w'.cell? (ad168.add ((x5_2).toNat * 4)) = some (.int .i64 ((rd_T47 l0_4 x5_2).f0)) ∧ w'.cell? ⟨(ad168.add ((x5_2).toNat * 4)).block, (ad168.add ((x5_2).toNat * 4)).off + 1, none⟩ = some (.int .i64 ((rd_T47 l0_4 x5_2).f1)) ∧ w'.cell? ⟨(ad168.add ((x5_2).toNat * 4)).block, (ad168.add ((x5_2).toNat * 4)).off + 2, none⟩ = some (.int .i64 ((rd_T47 l0_4 x5_2).f2)) ∧ w'.cell? ⟨(ad168.add ((x5_2).toNat * 4)).block, (ad168.add ((x5_2).toNat * 4)).off + 3, none⟩ = some (.slice A168_3 ((rd_T47 l0_4 x5_2).f3).length c168_3) ∧ w'.cell? (ad169.add ((x5_2).toNat * 4)) = some (.int .i64 ((rd_T47 l1_4 x5_2).f0)) ∧ w'.cell? ⟨(ad169.add ((x5_2).toNat * 4)).block, (ad169.add ((x5_2).toNat * 4)).off + 1, none⟩ = some (.int .i64 ((rd_T47 l1_4 x5_2).f1)) ∧ w'.cell? ⟨(ad169.add ((x5_2).toNat * 4)).block, (ad169.add ((x5_2).toNat * 4)).off + 2, none⟩ = some (.int .i64 ((rd_T47 l1_4 x5_2).f2)) ∧ w'.cell? ⟨(ad169.add ((x5_2).toNat * 4)).block, (ad169.add ((x5_2).toNat * 4)).off + 3, none⟩ = some (.slice A169_3 ((rd_T47 l1_4 x5_2).f3).length c169_3)) (ds := []) #[false, false, false, false, false, false, false, false, false, false, false, false] (by kernel_rfl) rfl rfl ⟨bc BK166 0, bc BK166 1, bc BK166 2, bc BK166 3, bc BK166 4, bc BK166 5, bc BK166 6, bc BK167 0, bc BK167 1, bc BK167 2, bc BK167 3, bc BK167 4, bc BK167 5, bc BK167 6, ((HB.out.cell (World.block_lt_of_cell? w _ hw168_0)).trans hw168_0), ((HB.out.cell (World.block_lt_of_cell? w _ hw168_1)).trans hw168_1), ((HB.out.cell (World.block_lt_of_cell? w _ hw168_2)).trans hw168_2), ((HB.out.cell (World.block_lt_of_cell? w _ hw168_3)).trans hw168_3), ((HB.out.cell (World.block_lt_of_cell? w _ hw169_0)).trans hw169_0), ((HB.out.cell (World.block_lt_of_cell? w _ hw169_1)).trans hw169_1), ((HB.out.cell (World.block_lt_of_cell? w _ hw169_2)).trans hw169_2), ((HB.out.cell (World.block_lt_of_cell? w _ hw169_3)).trans hw169_3)⟩ (fun hHeld => ?_); refine with_tabW frustumref42_Equal.tab6 frustumref42_Equal.bits6 (fun HT_ HW_ => ?_)
          generalize wr.drew = w33 at BK166 BK167 HB HR168_3 HR169_3 hx168_0 hx168_1 hx168_2 hx168_3 hx169_0 hx169_1 hx169_2 hx169_3 hHeld ⊢
          refine on HT_ 0 (some 48) ?_
          refine on HT_ 2 (some 50) ?_
          refine on HT_ 5 (some 53) ?_
          refine on HT_ 7 (some 55) ?_
          refine tk HT_ HW_ hHeld 1 (some 49) rfl (by rintro w' ⟨s0, s1, s2, s3, s4, s5, s6, s7, s8, s9, s10, s11, s12, s13, s14, s15, s16, s17, s18, s19, s20, s21⟩; go_simp; with_reducible rfl) ?_
          refine on HT_ 3 (some 51) ?_
          refine tk HT_ HW_ hHeld 4 (some 52) rfl (by rintro w' ⟨s0, s1, s2, s3, s4, s5, s6, s7, s8, s9, s10, s11, s12, s13, s14, s15, s16, s17, s18, s19, s20, s21⟩; go_simp; with_reducible rfl) ?_
          refine tk HT_ HW_ hHeld 6 (some 54) rfl (by rintro w' ⟨s0, s1, s2, s3, s4, s5, s6, s7, s8, s9, s10, s11, s12, s13, s14, s15, s16, s17, s18, s19, s20, s21⟩; go_simp; with_reducible rfl) ?_
          refine on HT_ 8 (some 56) ?_
          refine tk HT_ HW_ hHeld 9 (some 57) rfl (by rintro w' ⟨s0, s1, s2, s3, s4, s5, s6, s7, s8, s9, s10, s11, s12, s13, s14, s15, s16, s17, s18, s19, s20, s21⟩; go_simp; with_reducible rfl) ?_
          refine one_ (i := 10) (N := some 58) #[true, true, true, true, true, true, true, true, true, true, true, false] rfl rfl (one_of HT_.out (by kernel_rfl)) (by decide) (fun K hK => ?_)
          refine goes_ Try.func27 (by kernel_rfl) rfl #[.agg #[.int .i64 ((rd_T47 l0_4 x5_2).f0), .int .i64 ((rd_T47 l0_4 x5_2).f1), .int .i64 ((rd_T47 l0_4 x5_2).f2), .slice A168_3 ((rd_T47 l0_4 x5_2).f3).length c168_3], .agg #[.int .i64 ((rd_T47 l1_4 x5_2).f0), .int .i64 ((rd_T47 l1_4 x5_2).f1), .int .i64 ((rd_T47 l1_4 x5_2).f2), .slice A169_3 ((rd_T47 l1_4 x5_2).f3).length c169_3]] (by rfl) rfl rfl (by (try simp only [List.map_toArray, List.map_cons, List.map_nil]); first | done | rfl | (simp only [List.length_drop, List.length_take]; rfl)) ?_
          with_reducible refine (frustumref10_Equal.calls ((rd_T47 l0_4 x5_2).f0) ((rd_T47 l0_4 x5_2).f1) ((rd_T47 l0_4 x5_2).f2) _ _ ((rd_T47 l0_4 x5_2).f3) ((rd_T47 l1_4 x5_2).f0) ((rd_T47 l1_4 x5_2).f1) ((rd_T47 l1_4 x5_2).f2) _ _ ((rd_T47 l1_4 x5_2).f3) true _ ?side1 ?side2 ?side3 ?side4 A29.out).mono ?_
          (case side1 => repeat (first | exact (Kd.C_below HR168_3.out HB.out) | (with_reducible refine Kd.C_alloc ?_ _) | (with_reducible refine Kd.C_drewN ?_ _) | (with_reducible refine Kd.C_drew ?_)))
          (case side2 => exact HC168_3.out)
          (case side3 => repeat (first | exact (Kd.C_below HR169_3.out HB.out) | (with_reducible refine Kd.C_alloc ?_ _) | (with_reducible refine Kd.C_drewN ?_ _) | (with_reducible refine Kd.C_drew ?_)))
          (case side4 => exact HC169_3.out)
          rintro e w34 ⟨rfl, hb⟩; refine ⟨_, rfl, ?_⟩; replace BK166 := ub BK166 hb; replace BK167 := ub BK167 hb; replace HB := bs HB hb; (try clear hb); (try clear hb2); (try clear hk); (try clear hi)
          refine hK.out _ _ ⟨bc BK166 0, bc BK166 1, bc BK166 2, bc BK166 3, bc BK166 4, bc BK166 5, bc BK166 6, bc BK167 0, bc BK167 1, bc BK167 2, bc BK167 3, bc BK167 4, bc BK167 5, bc BK167 6, ((HB.out.cell (World.block_lt_of_cell? w _ hw168_0)).trans hw168_0), ((HB.out.cell (World.block_lt_of_cell? w _ hw168_1)).trans hw168_1), ((HB.out.cell (World.block_lt_of_cell? w _ hw168_2)).trans hw168_2), ((HB.out.cell (World.block_lt_of_cell? w _ hw168_3)).trans hw168_3), ((HB.out.cell (World.block_lt_of_cell? w _ hw169_0)).trans hw169_0), ((HB.out.cell (World.block_lt_of_cell? w _ hw169_1)).trans hw169_1), ((HB.out.cell (World.block_lt_of_cell? w _ hw169_2)).trans hw169_2), ((HB.out.cell (World.block_lt_of_cell? w _ hw169_3)).trans hw169_3)⟩ (fun hHeld => ?_)
          clear hK K
          refine norm_ (a' := ?_) ?_ ?_
          rotate_left
          ·show Act.put _ (some 58) _ = _
           simp only [Act.put, List.setIfInBounds_toArray, List.set_cons_zero, List.set_cons_succ, i64_w, i32_w]
           rfl
          refine on HT_ 11 (some 59) ?_
          refine done_ (done_of HT_.out (by kernel_rfl)) ?_
          try go_wp2
          go_roundg k2
          case measure => have := HJ2.out; have := HK2.out; omega
          case rel => exact ⟨(wrap64 (x5_2 + 1)), (by first | rfl | (simp; done) | (simp [*]; done)), H', ⟨by have := HJ2.out; have := HK2.out; omega⟩, ⟨by (with_reducible repeat (first | refine blk_drewN ?_ _ | refine blk_drew ?_ | refine blk_alloc ?_ _)); exact BK166.out⟩, ⟨by (with_reducible repeat (first | refine blk_drewN ?_ _ | refine blk_drew ?_ | refine blk_alloc ?_ _)); exact BK167.out⟩, ⟨by repeat (first | (with_reducible first | exact HB.out | apply below_alloc | apply pw_below_drewN | apply below_drew1 | refine below_set ?_ GE166.out | refine below_set ?_ GE167.out) | exact HB.out)⟩⟩
         ·replace c30 := Bool.eq_false_iff.mpr c30
          subst c30
          have H1 : (some false) = some r := by rw [if_neg (show ¬ (false = true) by decide)] at H; exact H
          clear H; have H := H1; clear H1
          obtain rfl := Option.some.inj H
          have hnb35 := NB166_167.out; have hnc35 := NB167_166.out
          have hcz36_0 : wr.cell? ⟨gb166, 0, none⟩ = some (.int .i64 a0_0) := bc BK166 0
          have hcz36_1 : wr.cell? ⟨gb166, 1, none⟩ = some (.int .i64 a0_1) := bc BK166 1
          have hcz36_2 : wr.cell? ⟨gb166, 2, none⟩ = some (.int .i64 a0_2) := bc BK166 2
          have hcz36_3 : wr.cell? ⟨gb166, 3, none⟩ = some (.int .i64 a0_3) := bc BK166 3
          have hcz36_4 : wr.cell? ⟨gb166, 4, none⟩ = some (.slice A0_4 l0_4.length c0_4) := bc BK166 4
          have hcz36_5 : wr.cell? ⟨gb166, 5, none⟩ = some (.slice A0_5 l0_5.length c0_5) := bc BK166 5
          have hcz36_6 : wr.cell? ⟨gb166, 6, none⟩ = some (.slice A0_6 l0_6.length c0_6) := bc BK166 6
          have hfz36_0 := blk_frozen BK166.out 0; have hfz36_1 := blk_frozen BK166.out 1; have hfz36_2 := blk_frozen BK166.out 2; have hfz36_3 := blk_frozen BK166.out 3; have hfz36_4 := blk_frozen BK166.out 4; have hfz36_5 := blk_frozen BK166.out 5; have hfz36_6 := blk_frozen BK166.out 6
          try go_wp2
          replace BK166 := Aside0.mk (blk_drew BK166.out); replace BK167 := Aside0.mk (blk_drew BK167.out); replace HB := Aside0.mk (below_drew1 HB.out)
          have p168 : 0 ≤ (x5_2 : Int) := of_decide_eq_true (by first | (with_reducible assumption) | assumption)
          have q168 : x5_2 < (l0_4.length : Int) := of_decide_eq_true (by first | (with_reducible assumption) | assumption)
          obtain ⟨ad168, A168_3, c168_3, e168, hx168_0, hx168_1, hx168_2, hx168_3, hl168_3, hi168_3⟩ := at_T47 HR0_4.out x5_2 p168 q168
          have hw168_3 := hx168_3; have hw168_2 := hx168_2; have hw168_1 := hx168_1; have hw168_0 := hx168_0
          cases e168
          replace hx168_0 := (HB.out.cell (World.block_lt_of_cell? w _ hx168_0)).trans hx168_0
          replace hx168_1 := (HB.out.cell (World.block_lt_of_cell? w _ hx168_1)).trans hx168_1
          replace hx168_2 := (HB.out.cell (World.block_lt_of_cell? w _ hx168_2)).trans hx168_2
          replace hx168_3 := (HB.out.cell (World.block_lt_of_cell? w _ hx168_3)).trans hx168_3
          have HR168_3 := Aside0.mk hi168_3; have HC168_3 := Aside0.mk hl168_3; clear hi168_3 hl168_3
          replace p168 := eq_true p168
          replace q168 := eq_true q168
          have p169 : 0 ≤ (x5_2 : Int) := of_decide_eq_true (by first | (with_reducible assumption) | assumption)
          have q169 : x5_2 < (l1_4.length : Int) := of_decide_eq_true (by first | (with_reducible assumption) | assumption)
          obtain ⟨ad169, A169_3, c169_3, e169, hx169_0, hx169_1, hx169_2, hx169_3, hl169_3, hi169_3⟩ := at_T47 HR1_4.out x5_2 p169 q169
          have hw169_3 := hx169_3; have hw169_2 := hx169_2; have hw169_1 := hx169_1; have hw169_0 := hx169_0
          cases e169
          replace hx169_0 := (HB.out.cell (World.block_lt_of_cell? w _ hx169_0)).trans hx169_0
          replace hx169_1 := (HB.out.cell (World.block_lt_of_cell? w _ hx169_1)).trans hx169_1
          replace hx169_2 := (HB.out.cell (World.block_lt_of_cell? w _ hx169_2)).trans hx169_2
          replace hx169_3 := (HB.out.cell (World.block_lt_of_cell? w _ hx169_3)).trans hx169_3
          have HR169_3 := Aside0.mk hi169_3; have HC169_3 := Aside0.mk hl169_3; clear hi169_3 hl169_3
          replace p169 := eq_true p169
          replace q169 := eq_true q169
          refine start_ (n := 12) (S := fun w' => w'.cell? ⟨gb166, 0, none⟩ = some (.int .i64 a0_0) ∧ w'.cell? ⟨gb166, 1, none⟩ = some (.int .i64 a0_1) ∧ w'.cell? ⟨gb166, 2, none⟩ = some (.int .i64 a0_2) ∧ w'.cell? ⟨gb166, 3, none⟩ = some (.int .i64 a0_3) ∧ w'.cell? ⟨gb166, 4, none⟩ = some (.slice (some ad168) l0_4.length c0_4) ∧ w'.cell? ⟨gb166, 5, none⟩ = some (.slice A0_5 l0_5.length c0_5) ∧ w'.cell? ⟨gb166, 6, none⟩ = some (.slice A0_6 l0_6.length c0_6) ∧ w'.cell? ⟨gb167, 0, none⟩ = some (.int .i64 a1_0) ∧ w'.cell? ⟨gb167, 1, none⟩ = some (.int .i64 a1_1) ∧ w'.cell? ⟨gb167, 2, none⟩ = some (.int .i64 a1_2) ∧ w'.cell? ⟨gb167, 3, none⟩ = some (.int .i64 a1_3) ∧ w'.cell? ⟨gb167, 4, none⟩ = some (.slice (some ad169) l1_4.length c1_4) ∧ w'.cell? ⟨gb167, 5, none⟩ = some (.slice A1_5 l1_5.length c1_5) ∧ w'.cell? ⟨gb167, 6, none⟩ = some (.slice A1_6 l1_6.length c1_6) ∧ w'.cell? (ad168.add ((x5_2).toNat * 4)) = some (.int .i64 ((rd_T47 l0_4 x5_2).f0)) ∧ w'.cell? ⟨(ad168.add ((x5_2).toNat * 4)).block, (ad168.add ((x5_2).toNat * 4)).off + 1, none⟩ = some (.int .i64 ((rd_T47 l0_4 x5_2).f1)) ∧ w'.cell? ⟨(ad168.add ((x5_2).toNat * 4)).block, (ad168.add ((x5_2).toNat * 4)).off + 2, none⟩ = some (.int .i64 ((rd_T47 l0_4 x5_2).f2)) ∧ w'.cell? ⟨(ad168.add ((x5_2).toNat * 4)).block, (ad168.add ((x5_2).toNat * 4)).off + 3, none⟩ = some (.slice A168_3 ((rd_T47 l0_4 x5_2).f3).length c168_3) ∧ w'.cell? (ad169.add ((x5_2).toNat * 4)) = some (.int .i64 ((rd_T47 l1_4 x5_2).f0)) ∧ w'.cell? ⟨(ad169.add ((x5_2).toNat * 4)).block, (ad169.add ((x5_2).toNat * 4)).off + 1, none⟩ = some (.int .i64 ((rd_T47 l1_4 x5_2).f1)) ∧ w'.cell? ⟨(ad169.add ((x5_2).toNat * 4)).block, (ad169.add ((x5_2).toNat * 4)).off + 2, none⟩ = some (.int .i64 ((rd_T47 l1_4 x5_2).f2)) ∧ w'.cell? ⟨(ad169.add ((x5_2).toNat * 4)).block, (ad169.add ((x5_2).toNat * 4)).off + 3, none⟩ = some (.slice A169_3 ((rd_T47 l1_4 x5_2).f3).length c169_3)) (ds := []) #[false, false, false, false, false, false, false, false, false, false, false, false] (by kernel_rfl) rfl rfl ⟨bc BK166 0, bc BK166 1, bc BK166 2, bc BK166 3, bc BK166 4, bc BK166 5, bc BK166 6, bc BK167 0, bc BK167 1, bc BK167 2, bc BK167 3, bc BK167 4, bc BK167 5, bc BK167 6, ((HB.out.cell (World.block_lt_of_cell? w _ hw168_0)).trans hw168_0), ((HB.out.cell (World.block_lt_of_cell? w _ hw168_1)).trans hw168_1), ((HB.out.cell (World.block_lt_of_cell? w _ hw168_2)).trans hw168_2), ((HB.out.cell (World.block_lt_of_cell? w _ hw168_3)).trans hw168_3), ((HB.out.cell (World.block_lt_of_cell? w _ hw169_0)).trans hw169_0), ((HB.out.cell (World.block_lt_of_cell? w _ hw169_1)).trans hw169_1), ((HB.out.cell (World.block_lt_of_cell? w _ hw169_2)).trans hw169_2), ((HB.out.cell (World.block_lt_of_cell? w _ hw169_3)).trans hw169_3)⟩ (fun hHeld => ?_); refine with_tabW frustumref42_Equal.tab6 frustumref42_Equal.bits6 (fun HT_ HW_ => ?_)
          generalize wr.drew = w37 at BK166 BK167 HB HR168_3 HR169_3 hx168_0 hx168_1 hx168_2 hx168_3 hx169_0 hx169_1 hx169_2 hx169_3 hHeld ⊢
          refine on HT_ 0 (some 48) ?_
          refine on HT_ 2 (some 50) ?_
          refine on HT_ 5 (some 53) ?_
          refine on HT_ 7 (some 55) ?_
          refine tk HT_ HW_ hHeld 1 (some 49) rfl (by rintro w' ⟨s0, s1, s2, s3, s4, s5, s6, s7, s8, s9, s10, s11, s12, s13, s14, s15, s16, s17, s18, s19, s20, s21⟩; go_simp; with_reducible rfl) ?_
          refine on HT_ 3 (some 51) ?_
          refine tk HT_ HW_ hHeld 4 (some 52) rfl (by rintro w' ⟨s0, s1, s2, s3, s4, s5, s6, s7, s8, s9, s10, s11, s12, s13, s14, s15, s16, s17, s18, s19, s20, s21⟩; go_simp; with_reducible rfl) ?_
          refine tk HT_ HW_ hHeld 6 (some 54) rfl (by rintro w' ⟨s0, s1, s2, s3, s4, s5, s6, s7, s8, s9, s10, s11, s12, s13, s14, s15, s16, s17, s18, s19, s20, s21⟩; go_simp; with_reducible rfl) ?_
          refine on HT_ 8 (some 56) ?_
          refine tk HT_ HW_ hHeld 9 (some 57) rfl (by rintro w' ⟨s0, s1, s2, s3, s4, s5, s6, s7, s8, s9, s10, s11, s12, s13, s14, s15, s16, s17, s18, s19, s20, s21⟩; go_simp; with_reducible rfl) ?_
          refine one_ (i := 10) (N := some 58) #[true, true, true, true, true, true, true, true, true, true, true, false] rfl rfl (one_of HT_.out (by kernel_rfl)) (by decide) (fun K hK => ?_)
          refine goes_ Try.func27 (by kernel_rfl) rfl #[.agg #[.int .i64 ((rd_T47 l0_4 x5_2).f0), .int .i64 ((rd_T47 l0_4 x5_2).f1), .int .i64 ((rd_T47 l0_4 x5_2).f2), .slice A168_3 ((rd_T47 l0_4 x5_2).f3).length c168_3], .agg #[.int .i64 ((rd_T47 l1_4 x5_2).f0), .int .i64 ((rd_T47 l1_4 x5_2).f1), .int .i64 ((rd_T47 l1_4 x5_2).f2), .slice A169_3 ((rd_T47 l1_4 x5_2).f3).length c169_3]] (by rfl) rfl rfl (by (try simp only [List.map_toArray, List.map_cons, List.map_nil]); first | done | rfl | (simp only [List.length_drop, List.length_take]; rfl)) ?_
          with_reducible refine (frustumref10_Equal.calls ((rd_T47 l0_4 x5_2).f0) ((rd_T47 l0_4 x5_2).f1) ((rd_T47 l0_4 x5_2).f2) _ _ ((rd_T47 l0_4 x5_2).f3) ((rd_T47 l1_4 x5_2).f0) ((rd_T47 l1_4 x5_2).f1) ((rd_T47 l1_4 x5_2).f2) _ _ ((rd_T47 l1_4 x5_2).f3) false _ ?side1 ?side2 ?side3 ?side4 A29.out).mono ?_
          (case side1 => repeat (first | exact (Kd.C_below HR168_3.out HB.out) | (with_reducible refine Kd.C_alloc ?_ _) | (with_reducible refine Kd.C_drewN ?_ _) | (with_reducible refine Kd.C_drew ?_)))
          (case side2 => exact HC168_3.out)
          (case side3 => repeat (first | exact (Kd.C_below HR169_3.out HB.out) | (with_reducible refine Kd.C_alloc ?_ _) | (with_reducible refine Kd.C_drewN ?_ _) | (with_reducible refine Kd.C_drew ?_)))
          (case side4 => exact HC169_3.out)
          rintro e w38 ⟨rfl, hb⟩; refine ⟨_, rfl, ?_⟩; replace BK166 := ub BK166 hb; replace BK167 := ub BK167 hb; replace HB := bs HB hb; (try clear hb); (try clear hb2); (try clear hk); (try clear hi)
          refine hK.out _ _ ⟨bc BK166 0, bc BK166 1, bc BK166 2, bc BK166 3, bc BK166 4, bc BK166 5, bc BK166 6, bc BK167 0, bc BK167 1, bc BK167 2, bc BK167 3, bc BK167 4, bc BK167 5, bc BK167 6, ((HB.out.cell (World.block_lt_of_cell? w _ hw168_0)).trans hw168_0), ((HB.out.cell (World.block_lt_of_cell? w _ hw168_1)).trans hw168_1), ((HB.out.cell (World.block_lt_of_cell? w _ hw168_2)).trans hw168_2), ((HB.out.cell (World.block_lt_of_cell? w _ hw168_3)).trans hw168_3), ((HB.out.cell (World.block_lt_of_cell? w _ hw169_0)).trans hw169_0), ((HB.out.cell (World.block_lt_of_cell? w _ hw169_1)).trans hw169_1), ((HB.out.cell (World.block_lt_of_cell? w _ hw169_2)).trans hw169_2), ((HB.out.cell (World.block_lt_of_cell? w _ hw169_3)).trans hw169_3)⟩ (fun hHeld => ?_)
          clear hK K
          refine norm_ (a' := ?_) ?_ ?_
          rotate_left
          ·show Act.put _ (some 58) _ = _
           simp only [Act.put, List.setIfInBounds_toArray, List.set_cons_zero, List.set_cons_succ, i64_w, i32_w]
           rfl
          refine on HT_ 11 (some 59) ?_
          refine done_ (done_of HT_.out (by kernel_rfl)) ?_
          try go_wp2
          go_ret
          exact ⟨by first | rfl | (simp [errW_none, errW_some] <;> rfl) | (simp [*, errW_none, errW_some] <;> rfl), by repeat (first | (with_reducible first | exact HB.out | apply below_alloc | apply pw_below_drewN | apply below_drew1 | refine below_set ?_ GE166.out | refine below_set ?_ GE167.out) | exact HB.out)⟩
        ·rw [if_neg c28] at H
         exact absurd H (by simp)
       ·rw [if_neg c27] at H
        exact absurd H (by simp)
      ·rw [if_neg c26] at H
       have c26b0 : decide (x5_2 < (l0_4.length : Int)) = false := decide_eq_false c26
       clear c26
       replace H := Option.bind_eq_some_iff.mp H
       obtain ⟨t171, A390, H⟩ := H
       replace H : (if t171 = true then ((frustumref42_same.f k2 l0_6 l1_6).bind fun t172 => (some t172)) else (some false)) = some r := H
       have A39 := Aside0.mk A390; clear A390
       by_cases c40 : t171 = true
       ·subst c40
        have H1 : ((frustumref42_same.f k2 l0_6 l1_6).bind fun t172 => (some t172)) = some r := by rw [if_pos rfl] at H; exact H
        clear H; have H := H1; clear H1
        replace H := Option.bind_eq_some_iff.mp H
        obtain ⟨t172, A410, H⟩ := H
        replace H : (some t172) = some r := H
        have A41 := Aside0.mk A410; clear A410
        obtain rfl := Option.some.inj H
        have hnb42 := NB166_167.out; have hnc42 := NB167_166.out
        have hcz43_0 : wr.cell? ⟨gb166, 0, none⟩ = some (.int .i64 a0_0) := bc BK166 0
        have hcz43_1 : wr.cell? ⟨gb166, 1, none⟩ = some (.int .i64 a0_1) := bc BK166 1
        have hcz43_2 : wr.cell? ⟨gb166, 2, none⟩ = some (.int .i64 a0_2) := bc BK166 2
        have hcz43_3 : wr.cell? ⟨gb166, 3, none⟩ = some (.int .i64 a0_3) := bc BK166 3
        have hcz43_4 : wr.cell? ⟨gb166, 4, none⟩ = some (.slice A0_4 l0_4.length c0_4) := bc BK166 4
        have hcz43_5 : wr.cell? ⟨gb166, 5, none⟩ = some (.slice A0_5 l0_5.length c0_5) := bc BK166 5
        have hcz43_6 : wr.cell? ⟨gb166, 6, none⟩ = some (.slice A0_6 l0_6.length c0_6) := bc BK166 6
        have hfz43_0 := blk_frozen BK166.out 0; have hfz43_1 := blk_frozen BK166.out 1; have hfz43_2 := blk_frozen BK166.out 2; have hfz43_3 := blk_frozen BK166.out 3; have hfz43_4 := blk_frozen BK166.out 4; have hfz43_5 := blk_frozen BK166.out 5; have hfz43_6 := blk_frozen BK166.out 6
        have hcz44_0 : wr.cell? ⟨gb167, 0, none⟩ = some (.int .i64 a1_0) := bc BK167 0
        have hcz44_1 : wr.cell? ⟨gb167, 1, none⟩ = some (.int .i64 a1_1) := bc BK167 1
        have hcz44_2 : wr.cell? ⟨gb167, 2, none⟩ = some (.int .i64 a1_2) := bc BK167 2
        have hcz44_3 : wr.cell? ⟨gb167, 3, none⟩ = some (.int .i64 a1_3) := bc BK167 3
        have hcz44_4 : wr.cell? ⟨gb167, 4, none⟩ = some (.slice A1_4 l1_4.length c1_4) := bc BK167 4
        have hcz44_5 : wr.cell? ⟨gb167, 5, none⟩ = some (.slice A1_5 l1_5.length c1_5) := bc BK167 5
        have hcz44_6 : wr.cell? ⟨gb167, 6, none⟩ = some (.slice A1_6 l1_6.length c1_6) := bc BK167 6
        have hfz44_0 := blk_frozen BK167.out 0; have hfz44_1 := blk_frozen BK167.out 1; have hfz44_2 := blk_frozen BK167.out 2; have hfz44_3 := blk_frozen BK167.out 3; have hfz44_4 := blk_frozen BK167.out 4; have hfz44_5 := blk_frozen BK167.out 5; have hfz44_6 := blk_frozen BK167.out 6
        go_wp2_with (first | ((with_reducible refine gate_callee (f := 28) rfl ?_); refine goesL_ (some 64) rfl rfl Try.func28 (by kernel_rfl) rfl #[.slice A0_5 l0_5.length c0_5, .slice A1_5 l1_5.length c1_5] rfl (by (try simp only [List.map_toArray, List.map_cons, List.map_nil]); first | done | rfl | (simp only [List.length_drop, List.length_take]; rfl)) ?_; (with_reducible refine (frustumref42_same.calls k2 _ _ l0_5 _ _ l1_5 true _ ?side1 ?side2 ?side3 ?side4 A39.out).mono ?_); (case side1 => repeat (first | exact (Kd.C_below HR0_5.out HB.out) | (with_reducible refine Kd.C_alloc ?_ _) | (with_reducible refine Kd.C_drewN ?_ _) | (with_reducible refine Kd.C_drew ?_))); (case side2 => exact HC0_5.out); (case side3 => repeat (first | exact (Kd.C_below HR1_5.out HB.out) | (with_reducible refine Kd.C_alloc ?_ _) | (with_reducible refine Kd.C_drewN ?_ _) | (with_reducible refine Kd.C_drew ?_))); (case side4 => exact HC1_5.out); rintro e w' ⟨rfl, ⟨nd, rfl⟩⟩; refine ⟨_, rfl, ?_⟩) | (go_at_call 28; (with_reducible refine (frustumref42_same.calls k2 _ _ l0_6 _ _ l1_6 t172 _ ?side1 ?side2 ?side3 ?side4 A41.out).mono ?_); (case side1 => repeat (first | exact (Kd.C_below HR0_6.out (by repeat (first | (with_reducible first | exact HB.out | apply below_alloc | apply pw_below_drewN | apply below_drew1 | refine below_setA ?_ (by assumption)) | exact HB.out))) | (with_reducible refine Kd.C_alloc ?_ _) | (with_reducible refine Kd.C_drewN ?_ _) | (with_reducible refine Kd.C_drew ?_))); (case side2 => exact HC0_6.out); (case side3 => repeat (first | exact (Kd.C_below HR1_6.out (by repeat (first | (with_reducible first | exact HB.out | apply below_alloc | apply pw_below_drewN | apply below_drew1 | refine below_setA ?_ (by assumption)) | exact HB.out))) | (with_reducible refine Kd.C_alloc ?_ _) | (with_reducible refine Kd.C_drewN ?_ _) | (with_reducible refine Kd.C_drew ?_))); (case side4 => exact HC1_6.out); rintro e w' ⟨rfl, ⟨nd, rfl⟩⟩))
        go_ret
        exact ⟨by first | rfl | (simp [errW_none, errW_some] <;> rfl) | (simp [*, errW_none, errW_some] <;> rfl), by repeat (first | (with_reducible first | exact HB.out | apply below_alloc | apply pw_below_drewN | apply below_drew1 | refine below_set ?_ GE166.out | refine below_set ?_ GE167.out) | exact HB.out)⟩
       ·replace c40 := Bool.eq_false_iff.mpr c40
        subst c40
        have H1 : (some false) = some r := by rw [if_neg (show ¬ (false = true) by decide)] at H; exact H
        clear H; have H := H1; clear H1
        obtain rfl := Option.some.inj H
        have hnb45 := NB166_167.out; have hnc45 := NB167_166.out
        have hcz46_0 : wr.cell? ⟨gb166, 0, none⟩ = some (.int .i64 a0_0) := bc BK166 0
        have hcz46_1 : wr.cell? ⟨gb166, 1, none⟩ = some (.int .i64 a0_1) := bc BK166 1
        have hcz46_2 : wr.cell? ⟨gb166, 2, none⟩ = some (.int .i64 a0_2) := bc BK166 2
        have hcz46_3 : wr.cell? ⟨gb166, 3, none⟩ = some (.int .i64 a0_3) := bc BK166 3
        have hcz46_4 : wr.cell? ⟨gb166, 4, none⟩ = some (.slice A0_4 l0_4.length c0_4) := bc BK166 4
        have hcz46_5 : wr.cell? ⟨gb166, 5, none⟩ = some (.slice A0_5 l0_5.length c0_5) := bc BK166 5
        have hcz46_6 : wr.cell? ⟨gb166, 6, none⟩ = some (.slice A0_6 l0_6.length c0_6) := bc BK166 6
        have hfz46_0 := blk_frozen BK166.out 0; have hfz46_1 := blk_frozen BK166.out 1; have hfz46_2 := blk_frozen BK166.out 2; have hfz46_3 := blk_frozen BK166.out 3; have hfz46_4 := blk_frozen BK166.out 4; have hfz46_5 := blk_frozen BK166.out 5; have hfz46_6 := blk_frozen BK166.out 6
        have hcz47_0 : wr.cell? ⟨gb167, 0, none⟩ = some (.int .i64 a1_0) := bc BK167 0
        have hcz47_1 : wr.cell? ⟨gb167, 1, none⟩ = some (.int .i64 a1_1) := bc BK167 1
        have hcz47_2 : wr.cell? ⟨gb167, 2, none⟩ = some (.int .i64 a1_2) := bc BK167 2
        have hcz47_3 : wr.cell? ⟨gb167, 3, none⟩ = some (.int .i64 a1_3) := bc BK167 3
        have hcz47_4 : wr.cell? ⟨gb167, 4, none⟩ = some (.slice A1_4 l1_4.length c1_4) := bc BK167 4
        have hcz47_5 : wr.cell? ⟨gb167, 5, none⟩ = some (.slice A1_5 l1_5.length c1_5) := bc BK167 5
        have hcz47_6 : wr.cell? ⟨gb167, 6, none⟩ = some (.slice A1_6 l1_6.length c1_6) := bc BK167 6
        have hfz47_0 := blk_frozen BK167.out 0; have hfz47_1 := blk_frozen BK167.out 1; have hfz47_2 := blk_frozen BK167.out 2; have hfz47_3 := blk_frozen BK167.out 3; have hfz47_4 := blk_frozen BK167.out 4; have hfz47_5 := blk_frozen BK167.out 5; have hfz47_6 := blk_frozen BK167.out 6
        go_wp2_with (first | ((with_reducible refine gate_callee (f := 28) rfl ?_); refine goesL_ (some 64) rfl rfl Try.func28 (by kernel_rfl) rfl #[.slice A0_5 l0_5.length c0_5, .slice A1_5 l1_5.length c1_5] rfl (by (try simp only [List.map_toArray, List.map_cons, List.map_nil]); first | done | rfl | (simp only [List.length_drop, List.length_take]; rfl)) ?_; (with_reducible refine (frustumref42_same.calls k2 _ _ l0_5 _ _ l1_5 false _ ?side1 ?side2 ?side3 ?side4 A39.out).mono ?_); (case side1 => repeat (first | exact (Kd.C_below HR0_5.out HB.out) | (with_reducible refine Kd.C_alloc ?_ _) | (with_reducible refine Kd.C_drewN ?_ _) | (with_reducible refine Kd.C_drew ?_))); (case side2 => exact HC0_5.out); (case side3 => repeat (first | exact (Kd.C_below HR1_5.out HB.out) | (with_reducible refine Kd.C_alloc ?_ _) | (with_reducible refine Kd.C_drewN ?_ _) | (with_reducible refine Kd.C_drew ?_))); (case side4 => exact HC1_5.out); rintro e w' ⟨rfl, ⟨nd, rfl⟩⟩; refine ⟨_, rfl, ?_⟩))
        go_ret
        exact ⟨by first | rfl | (simp [errW_none, errW_some] <;> rfl) | (simp [*, errW_none, errW_some] <;> rfl), by repeat (first | (with_reducible first | exact HB.out | apply below_alloc | apply pw_below_drewN | apply below_drew1 | refine below_set ?_ GE166.out | refine below_set ?_ GE167.out) | exact HB.out)⟩

end Go.Proofs.Ytmpmennepjkocaa.PTargetMerge
