/- TargetEqual: walks of functions, by the printed steps made shorter. No condition. -/
/- Walks of functions, by printed steps, in short words. No condition. -/
import Derived.Test.YtmpmennepjkocaaStep
import Derived.Test.YtmpmennepjkocaaPTargetEqualx0
import Derived.Test.YtmpmennepjkocaaPTargetEqualx1
namespace Go.Proofs.Ytmpmennepjkocaa.PTargetEqual
open Go.RowKit Go.Proofs.YtmpmennepjkocaaW.PrintWords Go.Proofs.YtmpmennepjkocaaW.PrintLast Go.Proofs.YtmpmennepjkocaaW.PrintMore Go.Proofs.Ytmpmennepjkocaa.Step
attribute [local go_sem] max2_int min2_int max_two min_two max_three min_three max_four min_four   -- for this text's walks alone
set_option linter.unusedVariables false
set_option linter.unusedSimpArgs false

/-! ### target_Clone: function 15 -/
def target_Clone.l0 : Nat → List (S47) → Int → Int → Int → Int → Int → Int → List (S47) → List Int → List Int → Option (Int × Int × Int × Int × (List (S47)) × List Int × List Int)
 | 0, _, _, _, _, _, _, _, _, _, _ => none
 | k + 1, x9, x10, x11, x174000, x174001, x174002, x174003, x174004, x174005, x174006 => if x11 < x10 then (if 0 ≤ x11 then (if x11 < (x9.length : Int) then ((image_Clone.f ((rd_T47 x9 x11).f0) ((rd_T47 x9 x11).f1) ((rd_T47 x9 x11).f2) ((rd_T47 x9 x11).f3)).bind fun bt177 => (if x174004.length < 2932031007402 then (target_Clone.l0 k x9 x10 (wrap64 (x11 + 1)) x174000 x174001 x174002 x174003 (x174004 ++ [(⟨bt177.1, bt177.2.1, bt177.2.2.1, bt177.2.2.2⟩ : S47)]) x174005 x174006) else (none))) else (none)) else (none)) else ((some (([] : List Int) : List Int)).bind fun y186 => (if y186.length + x174005.length < 17592186044416 then ((some (([] : List Int) : List Int)).bind fun y192 => (if y192.length + x174006.length < 17592186044416 then (some (x174000, x174001, x174002, x174003, x174004, (y186 ++ x174005), (y192 ++ x174006))) else (none))) else (none)))
def target_Clone.f (k : Nat) (a0_0 : Int) (a0_1 : Int) (a0_2 : Int) (a0_3 : Int) (l0_4 : List (S47)) (l0_5 : List Int) (l0_6 : List Int) : Option (Int × Int × Int × Int × (List (S47)) × List Int × List Int) := target_Clone.l0 k l0_4 (l0_4.length : Int) 0 a0_0 a0_1 a0_2 a0_3 ([] : List (S47)) l0_5 l0_6
theorem target_Clone.mono_l : ∀ k, (∀ y0 y1 y2 y3 y4 y5 y6 y7 y8 y9, LeO (target_Clone.l0 k y0 y1 y2 y3 y4 y5 y6 y7 y8 y9) (target_Clone.l0 (k + 1) y0 y1 y2 y3 y4 y5 y6 y7 y8 y9))
 | 0 => fun _ _ _ _ _ _ _ _ _ _ r h => by simp [target_Clone.l0] at h
 | k + 1 => by
  have ih0 := target_Clone.mono_l k
  ·intro y0 y1 y2 y3 y4 y5 y6 y7 y8 y9
   unfold target_Clone.l0
   repeat' first
   | (with_reducible exact ih0 _ _ _ _ _ _ _ _ _ _)
   | (with_reducible exact LeO.refl _)
   | (with_reducible exact LeO.none _)
   | (with_reducible refine LeO.ite ?_ ?_)
   | (with_reducible refine LeO.bind ?_ (fun _ => ?_))
   | exact ih0 _ _ _ _ _ _ _ _ _ _
   | exact LeO.none _
   | refine LeO.ite ?_ ?_
   | refine LeO.bind ?_ (fun _ => ?_)
theorem target_Clone.mono : ∀ a0 a1 a2 a3 a4 a5 a6 k, LeO (target_Clone.f k a0 a1 a2 a3 a4 a5 a6) (target_Clone.f (k + 1) a0 a1 a2 a3 a4 a5 a6) := by
 intro a0 a1 a2 a3 a4 a5 a6 k
 have ih0 := target_Clone.mono_l k
 unfold target_Clone.f
 repeat' first
   | (with_reducible exact ih0 _ _ _ _ _ _ _ _ _ _)
   | (with_reducible exact LeO.refl _)
   | (with_reducible exact LeO.none _)
   | (with_reducible refine LeO.ite ?_ ?_)
   | (with_reducible refine LeO.bind ?_ (fun _ => ?_))
   | exact ih0 _ _ _ _ _ _ _ _ _ _
   | exact LeO.none _
   | refine LeO.ite ?_ ?_
   | refine LeO.bind ?_ (fun _ => ?_)
def target_Clone.T6 : Bool × List (List Nat × List Nat) := (true, [([], []), ([0], [0]), ([], []), ([2], [2]), ([3], [3]), ([1, 4, 3], [1, 4]), ([0, 1, 2, 3, 4, 5], []), ([6, 5, 5, 0, 1, 2, 3, 4, 5], [5, 6])])
def target_Clone.B6 : List Nat := [0, 1, 0, 4, 12, 31, 63, 127]
theorem target_Clone.tab6 : rtab .any (opsOf Try.f15 6) = target_Clone.T6 := by kernel_rfl
theorem target_Clone.bits6 : waitsOk target_Clone.T6.2 target_Clone.B6 = true := by kernel_rfl
set_option maxHeartbeats 8000000 in
set_option maxRecDepth 100000 in
theorem target_Clone.calls (k : Nat) (a0_0 : Int) (a0_1 : Int) (a0_2 : Int) (a0_3 : Int) (A0_4 : Option Addr) (c0_4 : Nat) (l0_4 : List (S47)) (A0_5 : Option Addr) (c0_5 : Nat) (l0_5 : List Int) (A0_6 : Option Addr) (c0_6 : Nat) (l0_6 : List Int) (r1 : Int) (r2 : Int) (r3 : Int) (r4 : Int) (r5 : List (S47)) (r6 : List Int) (r7 : List Int) (w : World) (hr0_4 : Kd.C k47 w A0_4 l0_4.length l0_4) (hc0_4 : l0_4.length ≤ c0_4) (hr0_5 : Kd.C (Kd.int .i64) w A0_5 l0_5.length l0_5) (hc0_5 : l0_5.length ≤ c0_5) (hr0_6 : Kd.C (Kd.int .i64) w A0_6 l0_6.length l0_6) (hc0_6 : l0_6.length ≤ c0_6) (h : target_Clone.f k a0_0 a0_1 a0_2 a0_3 l0_4 l0_5 l0_6 = some (r1, r2, r3, r4, r5, r6, r7)) :
  Calls Try.prog 15 #[.agg #[.int .i64 a0_0, .int .i64 a0_1, .int .i64 a0_2, .int .i64 a0_3, .slice A0_4 l0_4.length c0_4, .slice A0_5 l0_5.length c0_5, .slice A0_6 l0_6.length c0_6]] w fun e w' => ∃ v4_ v5_ v6_ : Value, e = .returned (.agg #[.int .i64 r1, .int .i64 r2, .int .i64 r3, .int .i64 r4, v4_, v5_, v6_]) ∧ Kd.S k47 47 w' w.heap.size (fun _ => True) v4_ r5 ∧ Kd.R (Kd.int .i64) 3 w' w.heap.size (fun k_ => some k_ ≠ (v6_ : Value).ownBlock) v5_ r6 ∧ Kd.R (Kd.int .i64) 3 w' w.heap.size (fun k_ => some k_ ≠ (v5_ : Value).ownBlock) v6_ r7 ∧ Below w.heap.size w w' := by
 have hu28 := Try.underlying28; have hu47 := Try.underlying47; have HR0_4 := Aside0.mk hr0_4; have HC0_4 := Aside0.mk hc0_4; clear hr0_4 hc0_4; have HR0_5 := Aside0.mk hr0_5; have HC0_5 := Aside0.mk hc0_5; clear hr0_5 hc0_5; have HR0_6 := Aside0.mk hr0_6; have HC0_6 := Aside0.mk hc0_6; clear hr0_6 hc0_6; have HB := Aside0.mk (Below.refl w.heap.size w)
 have H : (target_Clone.l0 k l0_4 (l0_4.length : Int) 0 a0_0 a0_1 a0_2 a0_3 ([] : List (S47)) l0_5 l0_6) = some (r1, r2, r3, r4, r5, r6, r7) := h
 clear h
 have H' := Aside0.mk H
 clear H
 go_enter Try.func15, Try.ntmps15
 go_wp2_with (first | ((with_reducible refine gate_dst (N := 1) rfl ?_); refine box_event ?hg (N := 1) ?hd (cs := #[.int .i64 a0_0, .int .i64 a0_1, .int .i64 a0_2, .int .i64 a0_3, .slice A0_4 l0_4.length c0_4, .slice A0_5 l0_5.length c0_5, .slice A0_6 l0_6.length c0_6]) (t := 28) ?hr ?_; (case hd => rfl); (case hg => rfl); (case hr => first | (go_simp; done) | (go_simp; rfl)); intro gb173 hg w2 hbox hb; have BK173 := Aside0.mk (hbox); have GW173 := ws HB hg; have GE173 := ws HB hg; replace HB := bs HB hb; clear hb hbox hg) | ((with_reducible refine gate_dst (N := 2) rfl ?_); refine box_event ?hg (N := 2) ?hd (cs := #[.int .i64 0, .int .i64 0, .int .i64 0, .int .i64 0, .slice none 0 0, .slice none 0 0, .slice none 0 0]) (t := 28) ?hr ?_; (case hd => rfl); (case hg => rfl); (case hr => first | (go_simp; done) | (go_simp; rfl)); intro gb174 hg w3 hbox hb; have BK174 := Aside0.mk (hbox); have GW174 := ws HB hg; have GE174 := ws HB hg; have NB173_174 := nl BK173 hg; have NB174_173 := ng BK173 hg; replace BK173 := ub BK173 hb; replace HB := bs HB hb; clear hb hbox hg; have hnb4 := NB173_174.out; have hnc4 := NB174_173.out; have hcz5_0 : w3.cell? ⟨gb173, 0, none⟩ = some (.int .i64 a0_0) := bc BK173 0; have hcz5_1 : w3.cell? ⟨gb173, 1, none⟩ = some (.int .i64 a0_1) := bc BK173 1; have hcz5_2 : w3.cell? ⟨gb173, 2, none⟩ = some (.int .i64 a0_2) := bc BK173 2; have hcz5_3 : w3.cell? ⟨gb173, 3, none⟩ = some (.int .i64 a0_3) := bc BK173 3; have hcz5_4 : w3.cell? ⟨gb173, 4, none⟩ = some (.slice A0_4 l0_4.length c0_4) := bc BK173 4; have hcz5_5 : w3.cell? ⟨gb173, 5, none⟩ = some (.slice A0_5 l0_5.length c0_5) := bc BK173 5; have hcz5_6 : w3.cell? ⟨gb173, 6, none⟩ = some (.slice A0_6 l0_6.length c0_6) := bc BK173 6; have hfz5_0 := blk_frozen BK173.out 0; have hfz5_1 := blk_frozen BK173.out 1; have hfz5_2 := blk_frozen BK173.out 2; have hfz5_3 := blk_frozen BK173.out 3; have hfz5_4 := blk_frozen BK173.out 4; have hfz5_5 := blk_frozen BK173.out 5; have hfz5_6 := blk_frozen BK173.out 6))
 go_loopg [11] k (fun kq v11 w' => ∃ (x11_1 : Int) (x174004_1 : List (S47)) (u174004 : Value), v11 = .int .i64 x11_1 ∧ Aside0 (target_Clone.l0 kq l0_4 (l0_4.length : Int) x11_1 a0_0 a0_1 a0_2 a0_3 x174004_1 l0_5 l0_6 = some (r1, r2, r3, r4, r5, r6, r7)) ∧ Aside0 (kq ≤ k) ∧ Aside0 (Kd.S k47 47 w' w.heap.size (fun _ => True) u174004 x174004_1) ∧ Aside0 (w'.heap[gb173]? = some (.cells #[.int .i64 a0_0, .int .i64 a0_1, .int .i64 a0_2, .int .i64 a0_3, u174004, (.slice A0_5 l0_5.length c0_5), (.slice A0_6 l0_6.length c0_6)] 28 (0, 0))) ∧ Aside0 (w'.heap[gb174]? = some (.cells #[.int .i64 0, .int .i64 0, .int .i64 0, .int .i64 0, (.slice none 0 0), (.slice none 0 0), (.slice none 0 0)] 28 (0, 0))) ∧ Aside0 (Below w.heap.size w w'))
 case atStart => exact ⟨(0), (([] : List (S47))), (.slice none 0 0), (by first | rfl | (simp; done) | (simp [*]; done)), H', ⟨Nat.le_refl _⟩, ⟨by first | exact Kd.S_nil _ _ _ _ _ | exact Kd.N_nil _ _ _ _ _ | exact Kd.V_nil _ _ _ _ _ | exact Kd.Q_nil _ _ _ _ _ | exact Kd.R_nil _ _ _ _ _⟩, ⟨by (with_reducible repeat (first | refine blk_drewN ?_ _ | refine blk_drew ?_ | refine blk_alloc ?_ _)); refine blk_put (cs := #[.int .i64 a0_0, .int .i64 a0_1, .int .i64 a0_2, .int .i64 a0_3, .slice A0_4 l0_4.length c0_4, .slice A0_5 l0_5.length c0_5, .slice A0_6 l0_6.length c0_6]) ?_ 4 _ rfl; (with_reducible repeat (first | refine blk_drewN ?_ _ | refine blk_drew ?_ | refine blk_alloc ?_ _)); exact BK173.out⟩, ⟨by (with_reducible repeat (first | refine blk_drewN ?_ _ | refine blk_drew ?_ | refine blk_alloc ?_ _)); refine blk_far ?_ NB174_173.out _; (with_reducible repeat (first | refine blk_drewN ?_ _ | refine blk_drew ?_ | refine blk_alloc ?_ _)); exact BK174.out⟩, ⟨by repeat (first | (with_reducible first | exact HB.out | apply below_alloc | apply pw_below_drewN | apply below_drew1 | refine below_set ?_ GE173.out | refine below_set ?_ GE174.out) | exact HB.out)⟩⟩
 case round =>
  try clear BK173
  try clear BK174
  try clear HB
  clear H'
  try clear c1
  try clear p2
  try clear c4
  try clear hcz5_0
  try clear hcz5_1
  try clear hcz5_2
  try clear hcz5_3
  try clear hcz5_4
  try clear hcz5_5
  try clear hcz5_6
  try clear hfz5_0
  try clear hfz5_1
  try clear hfz5_2
  try clear hfz5_3
  try clear hfz5_4
  try clear hfz5_5
  try clear hfz5_6
  obtain ⟨x11_1, x174004_1, u174004, rfl, HA, HK1, HO_174004, BK173, BK174, HB⟩ := hrel
  cases gk with
  | zero => exact absurd HA.out (by simp [target_Clone.l0])
  | succ k1 =>
   have H := HA.out; clear HA
   simp only [target_Clone.l0] at H
   by_cases c6 : x11_1 < (l0_4.length : Int)
   ·rw [if_pos c6] at H
    have c6b0 : decide (x11_1 < (l0_4.length : Int)) = true := decide_eq_true c6
    clear c6
    by_cases c7 : 0 ≤ x11_1
    ·rw [if_pos c7] at H
     have c7b0 : decide (0 ≤ x11_1) = true := decide_eq_true c7
     clear c7
     by_cases c8 : x11_1 < (l0_4.length : Int)
     ·rw [if_pos c8] at H
      have c8b0 : decide (x11_1 < (l0_4.length : Int)) = true := decide_eq_true c8
      clear c8
      replace H := Option.bind_eq_some_iff.mp H
      obtain ⟨⟨t177, t178, t179, t180⟩, A90, H⟩ := H
      replace H : (if x174004_1.length < 2932031007402 then (target_Clone.l0 k1 l0_4 (l0_4.length : Int) (wrap64 (x11_1 + 1)) a0_0 a0_1 a0_2 a0_3 (x174004_1 ++ [(⟨t177, t178, t179, t180⟩ : S47)]) l0_5 l0_6) else (none)) = some (r1, r2, r3, r4, r5, r6, r7) := H
      have A9 := Aside0.mk A90; clear A90
      by_cases c10 : x174004_1.length < 2932031007402
      ·rw [if_pos c10] at H
       have LMc10 := Aside0.mk c10; clear c10
       obtain ⟨y183, hy183⟩ : ∃ y_ : List (S47), y_ = (x174004_1 ++ [(⟨t177, t178, t179, t180⟩ : S47)]) := ⟨_, rfl⟩
       replace H : (target_Clone.l0 k1 l0_4 (l0_4.length : Int) (wrap64 (x11_1 + 1)) a0_0 a0_1 a0_2 a0_3 y183 l0_5 l0_6) = some (r1, r2, r3, r4, r5, r6, r7) := by first | (rw [hy183]; with_reducible exact H) | (have H2_ := (Option.bind_some _ _).symm.trans H; rw [hy183]; with_reducible exact H2_) | (have H2_ := (Option.bind_some _ _).symm.trans H; with_reducible exact H2_) | with_reducible exact H | (rw [hy183]; exact H) | exact H
       have Ny183 := Aside0.mk hy183; clear hy183
       have H' := Aside0.mk H
       clear H
       have p175 : 0 ≤ (x11_1 : Int) := of_decide_eq_true (by first | (with_reducible assumption) | assumption)
       have q175 : x11_1 < (l0_4.length : Int) := of_decide_eq_true (by first | (with_reducible assumption) | assumption)
       obtain ⟨ad175, A175_3, c175_3, e175, hx175_0, hx175_1, hx175_2, hx175_3, hl175_3, hi175_3⟩ := at_T47 HR0_4.out x11_1 p175 q175
       cases e175
       replace hx175_0 := (HB.out.cell (World.block_lt_of_cell? w _ hx175_0)).trans hx175_0
       replace hx175_1 := (HB.out.cell (World.block_lt_of_cell? w _ hx175_1)).trans hx175_1
       replace hx175_2 := (HB.out.cell (World.block_lt_of_cell? w _ hx175_2)).trans hx175_2
       replace hx175_3 := (HB.out.cell (World.block_lt_of_cell? w _ hx175_3)).trans hx175_3
       have HR175_3 := Aside0.mk hi175_3; have HC175_3 := Aside0.mk hl175_3; clear hi175_3 hl175_3
       replace p175 := eq_true p175
       replace q175 := eq_true q175
       try go_wp2_with (first | ((with_reducible refine gate_dst (N := 5) rfl ?_); refine box_event ?hg (N := 5) ?hd (cs := #[.int .i64 0, .int .i64 0, .int .i64 0, .slice none 0 0]) (t := 47) ?hr ?_; (case hd => rfl); (case hg => rfl); (case hr => first | (go_simp; done) | (go_simp; rfl)); intro gb176 hg w11 hbox hb; have BK176 := Aside0.mk (hbox); have GW176 := ws HB hg; have GE176 := ws HB hg; have NB173_176 := nl BK173 hg; have NB176_173 := ng BK173 hg; have NB174_176 := nl BK174 hg; have NB176_174 := ng BK174 hg; replace HO_174004 := Aside0.mk (Kd.S_below (Kd.S_elderB (by (with_reducible repeat (first | apply Kd.S_alloc | apply Kd.S_drewN | apply Kd.S_drew)); exact HO_174004.out) gb176 (Nat.le_of_eq hg.symm)) hb); replace BK173 := ub BK173 hb; replace BK174 := ub BK174 hb; replace HB := bs HB hb; clear hb hbox hg; have hnb12 := NB176_173.out; have hnc12 := NB173_176.out; have hnb13 := NB176_174.out; have hnc13 := NB174_176.out; have hcz14_0 : w11.cell? ⟨gb176, 0, none⟩ = some (.int .i64 0) := bc BK176 0; have hcz14_1 : w11.cell? ⟨gb176, 1, none⟩ = some (.int .i64 0) := bc BK176 1; have hcz14_2 : w11.cell? ⟨gb176, 2, none⟩ = some (.int .i64 0) := bc BK176 2; have hcz14_3 : w11.cell? ⟨gb176, 3, none⟩ = some (.slice none 0 0) := bc BK176 3; have hfz14_0 := blk_frozen BK176.out 0; have hfz14_1 := blk_frozen BK176.out 1; have hfz14_2 := blk_frozen BK176.out 2; have hfz14_3 := blk_frozen BK176.out 3))
       have n0_ : Aside0 (Kd.S k47 47 ((((w11.setCell ⟨gb176, 0, none⟩ (.int .i64 ((rd_T47 l0_4 x11_1).f0))).setCell ⟨gb176, 1, none⟩ (.int .i64 ((rd_T47 l0_4 x11_1).f1))).setCell ⟨gb176, 2, none⟩ (.int .i64 ((rd_T47 l0_4 x11_1).f2))).setCell ⟨gb176, 3, none⟩ (.slice A175_3 ((rd_T47 l0_4 x11_1).f3).length c175_3)) w.heap.size (fun k_ => k_ ≠ gb176) u174004 x174004_1) := ⟨by (with_reducible repeat (first | apply Kd.S_alloc | apply Kd.S_drewN | apply Kd.S_drew)); exact Kd.S_mono (Kd.S_far (p := ⟨gb176, 3, none⟩) (Kd.S_far (p := ⟨gb176, 2, none⟩) (Kd.S_far (p := ⟨gb176, 1, none⟩) (Kd.S_far (p := ⟨gb176, 0, none⟩) (Kd.S_mono HO_174004.out (fun k_ hk => (⟨hk, hk.2⟩ : _ ∧ k_ ≠ gb176))) (fun _ hk => hk.2) (.int .i64 ((rd_T47 l0_4 x11_1).f0))) (fun _ hk => hk.2) (.int .i64 ((rd_T47 l0_4 x11_1).f1))) (fun _ hk => hk.2) (.int .i64 ((rd_T47 l0_4 x11_1).f2))) (fun _ hk => hk.2) (.slice A175_3 ((rd_T47 l0_4 x11_1).f3).length c175_3)) (fun _ hk => hk.1.2)⟩
       have n1_ : Aside0 (((((w11.setCell ⟨gb176, 0, none⟩ (.int .i64 ((rd_T47 l0_4 x11_1).f0))).setCell ⟨gb176, 1, none⟩ (.int .i64 ((rd_T47 l0_4 x11_1).f1))).setCell ⟨gb176, 2, none⟩ (.int .i64 ((rd_T47 l0_4 x11_1).f2))).setCell ⟨gb176, 3, none⟩ (.slice A175_3 ((rd_T47 l0_4 x11_1).f3).length c175_3)).heap[gb173]? = some (.cells #[.int .i64 a0_0, .int .i64 a0_1, .int .i64 a0_2, .int .i64 a0_3, u174004, .slice A0_5 l0_5.length c0_5, .slice A0_6 l0_6.length c0_6] 28 (0, 0))) := ⟨by (with_reducible repeat (first | refine blk_drewN ?_ _ | refine blk_drew ?_ | refine blk_alloc ?_ _)); refine blk_far ?_ NB173_176.out _; (with_reducible repeat (first | refine blk_drewN ?_ _ | refine blk_drew ?_ | refine blk_alloc ?_ _)); refine blk_far ?_ NB173_176.out _; (with_reducible repeat (first | refine blk_drewN ?_ _ | refine blk_drew ?_ | refine blk_alloc ?_ _)); refine blk_far ?_ NB173_176.out _; (with_reducible repeat (first | refine blk_drewN ?_ _ | refine blk_drew ?_ | refine blk_alloc ?_ _)); refine blk_far ?_ NB173_176.out _; (with_reducible repeat (first | refine blk_drewN ?_ _ | refine blk_drew ?_ | refine blk_alloc ?_ _)); exact BK173.out⟩
       have n2_ : Aside0 (((((w11.setCell ⟨gb176, 0, none⟩ (.int .i64 ((rd_T47 l0_4 x11_1).f0))).setCell ⟨gb176, 1, none⟩ (.int .i64 ((rd_T47 l0_4 x11_1).f1))).setCell ⟨gb176, 2, none⟩ (.int .i64 ((rd_T47 l0_4 x11_1).f2))).setCell ⟨gb176, 3, none⟩ (.slice A175_3 ((rd_T47 l0_4 x11_1).f3).length c175_3)).heap[gb174]? = some (.cells #[.int .i64 0, .int .i64 0, .int .i64 0, .int .i64 0, .slice none 0 0, .slice none 0 0, .slice none 0 0] 28 (0, 0))) := ⟨by (with_reducible repeat (first | refine blk_drewN ?_ _ | refine blk_drew ?_ | refine blk_alloc ?_ _)); refine blk_far ?_ NB174_176.out _; (with_reducible repeat (first | refine blk_drewN ?_ _ | refine blk_drew ?_ | refine blk_alloc ?_ _)); refine blk_far ?_ NB174_176.out _; (with_reducible repeat (first | refine blk_drewN ?_ _ | refine blk_drew ?_ | refine blk_alloc ?_ _)); refine blk_far ?_ NB174_176.out _; (with_reducible repeat (first | refine blk_drewN ?_ _ | refine blk_drew ?_ | refine blk_alloc ?_ _)); refine blk_far ?_ NB174_176.out _; (with_reducible repeat (first | refine blk_drewN ?_ _ | refine blk_drew ?_ | refine blk_alloc ?_ _)); exact BK174.out⟩
       have n3_ : Aside0 (((((w11.setCell ⟨gb176, 0, none⟩ (.int .i64 ((rd_T47 l0_4 x11_1).f0))).setCell ⟨gb176, 1, none⟩ (.int .i64 ((rd_T47 l0_4 x11_1).f1))).setCell ⟨gb176, 2, none⟩ (.int .i64 ((rd_T47 l0_4 x11_1).f2))).setCell ⟨gb176, 3, none⟩ (.slice A175_3 ((rd_T47 l0_4 x11_1).f3).length c175_3)).heap[gb176]? = some (.cells #[.int .i64 ((rd_T47 l0_4 x11_1).f0), .int .i64 ((rd_T47 l0_4 x11_1).f1), .int .i64 ((rd_T47 l0_4 x11_1).f2), .slice A175_3 ((rd_T47 l0_4 x11_1).f3).length c175_3] 47 (0, 0))) := ⟨by (with_reducible repeat (first | refine blk_drewN ?_ _ | refine blk_drew ?_ | refine blk_alloc ?_ _)); refine blk_put (cs := #[.int .i64 ((rd_T47 l0_4 x11_1).f0), .int .i64 ((rd_T47 l0_4 x11_1).f1), .int .i64 ((rd_T47 l0_4 x11_1).f2), .slice none 0 0]) ?_ 3 _ rfl; (with_reducible repeat (first | refine blk_drewN ?_ _ | refine blk_drew ?_ | refine blk_alloc ?_ _)); refine blk_put (cs := #[.int .i64 ((rd_T47 l0_4 x11_1).f0), .int .i64 ((rd_T47 l0_4 x11_1).f1), .int .i64 0, .slice none 0 0]) ?_ 2 _ rfl; (with_reducible repeat (first | refine blk_drewN ?_ _ | refine blk_drew ?_ | refine blk_alloc ?_ _)); refine blk_put (cs := #[.int .i64 ((rd_T47 l0_4 x11_1).f0), .int .i64 0, .int .i64 0, .slice none 0 0]) ?_ 1 _ rfl; (with_reducible repeat (first | refine blk_drewN ?_ _ | refine blk_drew ?_ | refine blk_alloc ?_ _)); refine blk_put (cs := #[.int .i64 0, .int .i64 0, .int .i64 0, .slice none 0 0]) ?_ 0 _ rfl; (with_reducible repeat (first | refine blk_drewN ?_ _ | refine blk_drew ?_ | refine blk_alloc ?_ _)); exact BK176.out⟩
       have n4_ : Aside0 (Below w.heap.size w ((((w11.setCell ⟨gb176, 0, none⟩ (.int .i64 ((rd_T47 l0_4 x11_1).f0))).setCell ⟨gb176, 1, none⟩ (.int .i64 ((rd_T47 l0_4 x11_1).f1))).setCell ⟨gb176, 2, none⟩ (.int .i64 ((rd_T47 l0_4 x11_1).f2))).setCell ⟨gb176, 3, none⟩ (.slice A175_3 ((rd_T47 l0_4 x11_1).f3).length c175_3))) := ⟨by repeat (first | (with_reducible first | exact HB.out | apply below_alloc | apply pw_below_drewN | apply below_drew1 | refine below_set ?_ GE173.out | refine below_set ?_ GE174.out | refine below_set ?_ GE176.out) | exact HB.out)⟩
       (try clear HO_174004); (try clear BK173); (try clear BK174); (try clear BK176); (try clear HB)
       generalize ((((w11.setCell ⟨gb176, 0, none⟩ (.int .i64 ((rd_T47 l0_4 x11_1).f0))).setCell ⟨gb176, 1, none⟩ (.int .i64 ((rd_T47 l0_4 x11_1).f1))).setCell ⟨gb176, 2, none⟩ (.int .i64 ((rd_T47 l0_4 x11_1).f2))).setCell ⟨gb176, 3, none⟩ (.slice A175_3 ((rd_T47 l0_4 x11_1).f3).length c175_3)) = w15 at n0_ n1_ n2_ n3_ n4_ ⊢
       have HO_174004 := n0_; have BK173 := n1_; have BK174 := n2_; have BK176 := n3_; have HB := n4_; clear n0_ n1_ n2_ n3_ n4_; replace HO_174004 := Aside0.mk (Kd.S_drew HO_174004.out); replace BK173 := Aside0.mk (blk_drew BK173.out); replace BK174 := Aside0.mk (blk_drew BK174.out); replace BK176 := Aside0.mk (blk_drew BK176.out); replace HB := Aside0.mk (below_drew1 HB.out)
       refine start_ (n := 8) (S := fun w' => w'.cell? ⟨gb173, 0, none⟩ = some (.int .i64 a0_0) ∧ w'.cell? ⟨gb173, 1, none⟩ = some (.int .i64 a0_1) ∧ w'.cell? ⟨gb173, 2, none⟩ = some (.int .i64 a0_2) ∧ w'.cell? ⟨gb173, 3, none⟩ = some (.int .i64 a0_3) ∧ w'.cell? ⟨gb173, 4, none⟩ = some (u174004) ∧ w'.cell? ⟨gb173, 5, none⟩ = some (.slice A0_5 l0_5.length c0_5) ∧ w'.cell? ⟨gb173, 6, none⟩ = some (.slice A0_6 l0_6.length c0_6) ∧ w'.cell? ⟨gb176, 0, none⟩ = some (.int .i64 ((rd_T47 l0_4 x11_1).f0)) ∧ w'.cell? ⟨gb176, 1, none⟩ = some (.int .i64 ((rd_T47 l0_4 x11_1).f1)) ∧ w'.cell? ⟨gb176, 2, none⟩ = some (.int .i64 ((rd_T47 l0_4 x11_1).f2)) ∧ w'.cell? ⟨gb176, 3, none⟩ = some (.slice A175_3 ((rd_T47 l0_4 x11_1).f3).length c175_3)) (ds := [7]) #[false, false, false, false, false, false, false, false] (by kernel_rfl) rfl rfl ⟨bc BK173 0, bc BK173 1, bc BK173 2, bc BK173 3, bc BK173 4, bc BK173 5, bc BK173 6, bc BK176 0, bc BK176 1, bc BK176 2, bc BK176 3⟩ (fun hHeld => ?_); refine with_tabW target_Clone.tab6 target_Clone.bits6 (fun HT_ HW_ => ?_)
       generalize w15.drew = w16 at HO_174004 BK173 BK174 BK176 HB hHeld ⊢
       refine on HT_ 0 (some 15) ?_
       refine tk HT_ HW_ hHeld 1 (some 16) rfl (by rintro w' ⟨s0, s1, s2, s3, s4, s5, s6, s7, s8, s9, s10⟩; go_simp; with_reducible rfl) ?_
       refine tk HT_ HW_ hHeld 2 (some 17) rfl (by rintro w' ⟨s0, s1, s2, s3, s4, s5, s6, s7, s8, s9, s10⟩; go_simp; with_reducible rfl) ?_
       refine one_ (i := 3) (N := some 18) #[true, true, true, true, false, false, false, false] rfl rfl (one_of HT_.out (by kernel_rfl)) (by decide) (fun K hK => ?_)
       refine goes_ Try.func22 (by kernel_rfl) rfl #[.agg #[.int .i64 ((rd_T47 l0_4 x11_1).f0), .int .i64 ((rd_T47 l0_4 x11_1).f1), .int .i64 ((rd_T47 l0_4 x11_1).f2), .slice A175_3 ((rd_T47 l0_4 x11_1).f3).length c175_3]] (by rfl) rfl rfl (by (try simp only [List.map_toArray, List.map_cons, List.map_nil]); first | done | rfl | (simp only [List.length_drop, List.length_take]; rfl)) ?_
       with_reducible refine (image_Clone.calls ((rd_T47 l0_4 x11_1).f0) ((rd_T47 l0_4 x11_1).f1) ((rd_T47 l0_4 x11_1).f2) _ _ ((rd_T47 l0_4 x11_1).f3) t177 t178 t179 t180 _ ?side1 ?side2 A9.out).mono ?_
       (case side1 => repeat (first | exact (Kd.C_below HR175_3.out HB.out) | (with_reducible refine Kd.C_alloc ?_ _) | (with_reducible refine Kd.C_drewN ?_ _) | (with_reducible refine Kd.C_drew ?_)))
       (case side2 => exact HC175_3.out)
       rintro e w17 ⟨v181, rfl, ho0, hb⟩; refine ⟨_, rfl, ?_⟩; have HO182 := Aside0.mk (Kd.R_lower ho0 (below_size (by repeat (first | (with_reducible first | exact HB.out | apply below_alloc | apply pw_below_drewN | apply below_drew1 | refine below_setA ?_ (by assumption)) | exact HB.out)))); replace HO_174004 := Aside0.mk (Kd.S_elder' (by (with_reducible repeat (first | apply Kd.S_alloc | apply Kd.S_drewN | apply Kd.S_drew)); exact HO_174004.out) (Kd.R_base ho0) hb); replace BK173 := ub BK173 hb; replace BK174 := ub BK174 hb; replace BK176 := ub BK176 hb; replace HB := bs HB hb; (try clear hb); (try clear hb2); (try clear hk); (try clear hi); (try clear ho0)
       obtain ⟨Ao19, co19, eo19⟩ := Kd.R_slice HO182.out
       (first | subst eo19 | (injection eo19 with f1_ f2_ f3_; have f4_ := f1_.symm; have f5_ := f3_.symm; clear f1_ f2_ f3_; subst f4_; subst f5_))
       refine hK.out _ _ ⟨bc BK173 0, bc BK173 1, bc BK173 2, bc BK173 3, bc BK173 4, bc BK173 5, bc BK173 6, bc BK176 0, bc BK176 1, bc BK176 2, bc BK176 3⟩ (fun hHeld => ?_)
       clear hK K
       refine norm_ (a' := ?_) ?_ ?_
       rotate_left
       ·show Act.put _ (some 18) _ = _
        simp only [Act.put, List.setIfInBounds_toArray, List.set_cons_zero, List.set_cons_succ, i64_w, i32_w]
        rfl
       refine one_ (i := 4) (N := some 19) #[true, true, true, true, true, false, false, false] rfl rfl (one_of HT_.out (by kernel_rfl)) (by decide) (fun K hK => ?_)
       refine value_ (w1 := ?_) (v := ?_) (by rfl) rfl ?_ ?_
       rotate_left 2
       ·go_simp
        constructor
        ·rfl
        ·rfl
       refine hK.out _ _ ⟨(blk_cell (blk_alloc BK173.out _) 0).trans rfl, (blk_cell (blk_alloc BK173.out _) 1).trans rfl, (blk_cell (blk_alloc BK173.out _) 2).trans rfl, (blk_cell (blk_alloc BK173.out _) 3).trans rfl, (blk_cell (blk_alloc BK173.out _) 4).trans rfl, (blk_cell (blk_alloc BK173.out _) 5).trans rfl, (blk_cell (blk_alloc BK173.out _) 6).trans rfl, (blk_cell (blk_alloc BK176.out _) 0).trans rfl, (blk_cell (blk_alloc BK176.out _) 1).trans rfl, (blk_cell (blk_alloc BK176.out _) 2).trans rfl, (blk_cell (blk_alloc BK176.out _) 3).trans rfl⟩ (fun hHeld => ?_)
       clear hK K
       refine norm_ (a' := ?_) ?_ ?_
       rotate_left
       ·show Act.put _ (some 19) _ = _
        simp only [Act.put, List.setIfInBounds_toArray, List.set_cons_zero, List.set_cons_succ, i64_w, i32_w]
        rfl
       refine one_ (i := 5) (N := some 20) #[true, true, true, true, true, true, false, false] rfl rfl (one_of HT_.out (by kernel_rfl)) (by decide) (fun K hK => ?_)
       refine Kd.S_append_step k47 (w0 := w) w.heap.size (by rfl) (.tmp 16) (.tmp 19) 25 47 (.agg #[(.int .i64 0), (.int .i64 0), (.int .i64 0), (.slice none 0 0)]) 48 rfl Try.underlying25 info47 rfl (by decide) (by omega) u174004 x174004_1 (⟨t177, t178, t179, t180⟩ : S47) [.int .i64 t177, .int .i64 t178, .int .i64 t179, .slice Ao19 t180.length co19] (fun k_ => k_ ≠ gb176) (fun k_ => some k_ = (.slice Ao19 t180.length co19 : Value).ownBlock) rfl rfl ?aP (fun k_ hk_ => ((Kd.R_mono (ok' := fun k_ => ((fun k_ => k_ ≠ gb176)) k_ ∧ some k_ ≠ (u174004 : Value).ownBlock) (Kd.R_types (Kd.R_apart' (HO182.out) (Kd.S_typed HO_174004.out) (by decide)) BK176.out (by decide)) (fun k_ hk => ⟨hk.2, hk.1.2⟩))).1 k_ hk_.symm) ?aF ?aO ?aB ?aS ?aL ?_
       (case aP => exact k47_mkM _ _ _ (⟨t177, t178, t179, t180⟩ : S47) (Kd.R_mono (Kd.R_tight rfl (Kd.R_mono (ok' := fun k_ => ((fun k_ => k_ ≠ gb176)) k_ ∧ some k_ ≠ (u174004 : Value).ownBlock) (Kd.R_types (Kd.R_apart' (HO182.out) (Kd.S_typed HO_174004.out) (by decide)) BK176.out (by decide)) (fun k_ hk => ⟨hk.2, hk.1.2⟩))) (fun _ h_ => h_)))
       (case aB => exact (by repeat (first | (with_reducible first | exact HB.out | apply below_alloc | apply pw_below_drewN | apply below_drew1 | refine below_setA ?_ (by assumption)) | exact HB.out)))
       (case aF => exact (fun k_ hk => Kd.freshB (g := gb176) (o := .cells #[.int .i64 ((rd_T47 l0_4 x11_1).f0), .int .i64 ((rd_T47 l0_4 x11_1).f1), .int .i64 ((rd_T47 l0_4 x11_1).f2), .slice A175_3 ((rd_T47 l0_4 x11_1).f3).length c175_3] 47 (0, 0)) BK176.out k_ hk))
       (case aO => exact (by (with_reducible repeat (first | apply Kd.S_alloc | apply Kd.S_drewN | apply Kd.S_drew)); exact Kd.S_mono HO_174004.out (fun k_ hk => ⟨hk.1, fun e_ => hk.2 e_⟩)))
       (case aS => exact (below_size (by repeat (first | (with_reducible first | exact HB.out | apply below_alloc | apply pw_below_drewN | apply below_drew1 | refine below_setA ?_ (by assumption)) | exact HB.out))))
       (case aL => have := LMc10.out; omega)
       intro v184 w18 ho hb hg hat
       rw [← Ny183.out] at ho
       have HO185 := Aside0.mk (ho); replace BK173 := Aside0.mk (blk_grown (g := gb173) (o := .cells #[.int .i64 a0_0, .int .i64 a0_1, .int .i64 a0_2, .int .i64 a0_3, u174004, .slice A0_5 l0_5.length c0_5, .slice A0_6 l0_6.length c0_6] 28 (0, 0)) BK173.out hg (Kd.S_ne HO_174004.out BK173.out (by decide))); replace BK174 := Aside0.mk (blk_grown (g := gb174) (o := .cells #[.int .i64 0, .int .i64 0, .int .i64 0, .int .i64 0, .slice none 0 0, .slice none 0 0, .slice none 0 0] 28 (0, 0)) BK174.out hg (Kd.S_ne HO_174004.out BK174.out (by decide))); replace BK176 := Aside0.mk (blk_grown (g := gb176) (o := .cells #[.int .i64 ((rd_T47 l0_4 x11_1).f0), .int .i64 ((rd_T47 l0_4 x11_1).f1), .int .i64 ((rd_T47 l0_4 x11_1).f2), .slice A175_3 ((rd_T47 l0_4 x11_1).f3).length c175_3] 47 (0, 0)) BK176.out hg (Kd.S_away HO_174004.out (fun _ hk => hk.1))); replace HB := Aside0.mk (hb); clear HO_174004 HO182; clear ho hb hg hat
       obtain ⟨Ao20, co20, eo20⟩ := Kd.S_slice HO185.out
       (first | subst eo20 | (injection eo20 with f1_ f2_ f3_; have f4_ := f1_.symm; have f5_ := f3_.symm; clear f1_ f2_ f3_; subst f4_; subst f5_))
       refine hK.out _ _ ⟨bc BK173 0, bc BK173 1, bc BK173 2, bc BK173 3, bc BK173 4, bc BK173 5, bc BK173 6, bc BK176 0, bc BK176 1, bc BK176 2, bc BK176 3⟩ (fun hHeld => ?_)
       clear hK K
       refine norm_ (a' := ?_) ?_ ?_
       rotate_left
       ·show Act.put _ (some 20) _ = _
        simp only [Act.put, List.setIfInBounds_toArray, List.set_cons_zero, List.set_cons_succ, i64_w, i32_w]
        rfl
       refine on HT_ 6 (some 21) ?_
       refine last_ (i := 7) (N := none) #[true, true, true, true, true, true, true, true] rfl rfl (one_of HT_.out (by kernel_rfl)) (by decide) (fun K hK => ?_)
       have hs21 : w18.cell? ⟨gb173, 4, none⟩ = some (u174004) := bc BK173 4
       have hfs21 := blk_frozen BK173.out 4; have hns21_1 := NB174_173.out; have hns21_2 := NB176_173.out; have hms21_1 := NB173_174.out; have hms21_2 := NB173_176.out
       refine skip_ (w1 := ?_) (by rfl) rfl ?_ ?_
       rotate_left
       ·go_simp
        rfl
       refine hK.out _ _ ?_
       clear hK K
       refine done_ (done_of HT_.out (by kernel_rfl)) ?_
       try go_wp2
       go_roundg k1
       case measure => have := HK1.out; omega
       case rel => exact ⟨(wrap64 (x11_1 + 1)), (y183), (.slice Ao20 y183.length co20), (by first | rfl | (simp; done) | (simp [*]; done)), H', ⟨by have := HK1.out; omega⟩, ⟨by (with_reducible repeat (first | apply Kd.S_alloc | apply Kd.S_drewN | apply Kd.S_drew)); exact Kd.S_mono (Kd.S_far (p := ⟨gb173, 4, none⟩) (Kd.S_types HO185.out BK173.out (by decide)) (fun _ hk => hk.2) (.slice Ao20 y183.length co20)) (fun _ hk => trivial)⟩, ⟨by (with_reducible repeat (first | refine blk_drewN ?_ _ | refine blk_drew ?_ | refine blk_alloc ?_ _)); refine blk_put (cs := #[.int .i64 a0_0, .int .i64 a0_1, .int .i64 a0_2, .int .i64 a0_3, u174004, .slice A0_5 l0_5.length c0_5, .slice A0_6 l0_6.length c0_6]) ?_ 4 _ rfl; (with_reducible repeat (first | refine blk_drewN ?_ _ | refine blk_drew ?_ | refine blk_alloc ?_ _)); exact BK173.out⟩, ⟨by (with_reducible repeat (first | refine blk_drewN ?_ _ | refine blk_drew ?_ | refine blk_alloc ?_ _)); refine blk_far ?_ NB174_173.out _; (with_reducible repeat (first | refine blk_drewN ?_ _ | refine blk_drew ?_ | refine blk_alloc ?_ _)); exact BK174.out⟩, ⟨by repeat (first | (with_reducible first | exact HB.out | apply below_alloc | apply pw_below_drewN | apply below_drew1 | refine below_set ?_ GE173.out | refine below_set ?_ GE174.out | refine below_set ?_ GE176.out) | exact HB.out)⟩⟩
      ·rw [if_neg c10] at H
       exact absurd H (by simp)
     ·rw [if_neg c8] at H
      exact absurd H (by simp)
    ·rw [if_neg c7] at H
     exact absurd H (by simp)
   ·rw [if_neg c6] at H
    have c6b0 : decide (x11_1 < (l0_4.length : Int)) = false := decide_eq_false c6
    clear c6
    obtain ⟨y186, hy186⟩ : ∃ y_ : List Int, y_ = (([] : List Int)) := ⟨_, rfl⟩
    replace H : (if y186.length + l0_5.length < 17592186044416 then ((some (([] : List Int) : List Int)).bind fun y192 => (if y192.length + l0_6.length < 17592186044416 then (some (a0_0, a0_1, a0_2, a0_3, x174004_1, (y186 ++ l0_5), (y192 ++ l0_6))) else (none))) else (none)) = some (r1, r2, r3, r4, r5, r6, r7) := by first | (rw [hy186]; with_reducible exact H) | (have H2_ := (Option.bind_some _ _).symm.trans H; rw [hy186]; with_reducible exact H2_) | (have H2_ := (Option.bind_some _ _).symm.trans H; with_reducible exact H2_) | with_reducible exact H | (rw [hy186]; exact H) | exact H
    have Ny186 := Aside0.mk hy186; clear hy186
    by_cases c22 : y186.length + l0_5.length < 17592186044416
    ·rw [if_pos c22] at H
     have LMc22 := Aside0.mk c22; clear c22
     obtain ⟨y189, hy189⟩ : ∃ y_ : List Int, y_ = (y186 ++ l0_5) := ⟨_, rfl⟩
     replace H : ((some (([] : List Int) : List Int)).bind fun y192 => (if y192.length + l0_6.length < 17592186044416 then (some (a0_0, a0_1, a0_2, a0_3, x174004_1, y189, (y192 ++ l0_6))) else (none))) = some (r1, r2, r3, r4, r5, r6, r7) := by first | (rw [hy189]; with_reducible exact H) | (have H2_ := (Option.bind_some _ _).symm.trans H; rw [hy189]; with_reducible exact H2_) | (have H2_ := (Option.bind_some _ _).symm.trans H; with_reducible exact H2_) | with_reducible exact H | (rw [hy189]; exact H) | exact H
     have Ny189 := Aside0.mk hy189; clear hy189
     obtain ⟨y192, hy192⟩ : ∃ y_ : List Int, y_ = (([] : List Int)) := ⟨_, rfl⟩
     replace H : (if y192.length + l0_6.length < 17592186044416 then (some (a0_0, a0_1, a0_2, a0_3, x174004_1, y189, (y192 ++ l0_6))) else (none)) = some (r1, r2, r3, r4, r5, r6, r7) := by first | (rw [hy192]; with_reducible exact H) | (have H2_ := (Option.bind_some _ _).symm.trans H; rw [hy192]; with_reducible exact H2_) | (have H2_ := (Option.bind_some _ _).symm.trans H; with_reducible exact H2_) | with_reducible exact H | (rw [hy192]; exact H) | exact H
     have Ny192 := Aside0.mk hy192; clear hy192
     by_cases c23 : y192.length + l0_6.length < 17592186044416
     ·rw [if_pos c23] at H
      have LMc23 := Aside0.mk c23; clear c23
      obtain ⟨y195, hy195⟩ : ∃ y_ : List Int, y_ = (y192 ++ l0_6) := ⟨_, rfl⟩
      replace H : (some (a0_0, a0_1, a0_2, a0_3, x174004_1, y189, y195)) = some (r1, r2, r3, r4, r5, r6, r7) := by first | (rw [hy195]; with_reducible exact H) | (have H2_ := (Option.bind_some _ _).symm.trans H; rw [hy195]; with_reducible exact H2_) | (have H2_ := (Option.bind_some _ _).symm.trans H; with_reducible exact H2_) | with_reducible exact H | (rw [hy195]; exact H) | exact H
      have Ny195 := Aside0.mk hy195; clear hy195
      simp only [Option.some.injEq, Prod.mk.injEq] at H
      obtain ⟨rfl, rfl, rfl, rfl, rfl, rfl, rfl⟩ := H
      have HO188 : ∀ W_ : World, Aside0 (Kd.R (Kd.int .i64) 3 W_ w.heap.size (fun _ => True) (.slice none 0 0) y186) := fun W_ => ⟨by rw [Ny186.out]; exact Kd.R_nil _ _ _ _ _⟩
      have HO194 : ∀ (W_ : World) (ok_ : Nat → Prop), Aside0 (Kd.R (Kd.int .i64) 3 W_ w.heap.size ok_ (.slice none 0 0) y192) := fun W_ ok_ => ⟨by rw [Ny192.out]; exact Kd.R_nil _ _ _ _ _⟩
      have hnb26 := NB173_174.out; have hnc26 := NB174_173.out; have hcz27_0 := (blk_cell BK173.out 0).trans (rfl : (_ : Option Value) = some (.int .i64 a0_0)); have hcz27_1 := (blk_cell BK173.out 1).trans (rfl : (_ : Option Value) = some (.int .i64 a0_1)); have hcz27_2 := (blk_cell BK173.out 2).trans (rfl : (_ : Option Value) = some (.int .i64 a0_2)); have hcz27_3 := (blk_cell BK173.out 3).trans (rfl : (_ : Option Value) = some (.int .i64 a0_3)); have hcz27_4 := (blk_cell BK173.out 4).trans (rfl : (_ : Option Value) = some (u174004)); have hcz27_5 := (blk_cell BK173.out 5).trans (rfl : (_ : Option Value) = some (.slice A0_5 l0_5.length c0_5)); have hcz27_6 := (blk_cell BK173.out 6).trans (rfl : (_ : Option Value) = some (.slice A0_6 l0_6.length c0_6)); have hfz27_0 := blk_frozen BK173.out 0; have hfz27_1 := blk_frozen BK173.out 1; have hfz27_2 := blk_frozen BK173.out 2; have hfz27_3 := blk_frozen BK173.out 3; have hfz27_4 := blk_frozen BK173.out 4; have hfz27_5 := blk_frozen BK173.out 5; have hfz27_6 := blk_frozen BK173.out 6
      go_upto_region 9 with ((with_reducible refine gate_builtin (b := .append) (xs := #[.const (.slice none 0 0), .tmp 24]) rfl ?_); at_builtin; refine Kd.R_append_rows (Kd.int .i64) (w0 := w) w.heap.size rfl (.const (.slice none 0 0)) (.tmp 24) 26 3 (.int .i64 0) 8 rfl Try.underlying26 info3 rfl (by decide) (by omega) (.slice none 0 0) y186 l0_5 _ _ _ (fun _ => True) (fun _ => False) rfl rfl ?aO ?aR (fun _ _ h => h) (fun _ h => h.elim) ?aF ?aB ?aS ?aL ?_; (case aR => repeat (first | exact (Kd.C_below HR0_5.out HB.out) | (with_reducible refine Kd.C_alloc ?_ _) | (with_reducible refine Kd.C_drewN ?_ _) | (with_reducible refine Kd.C_drew ?_))); (case aB => exact (by repeat (first | (with_reducible first | exact HB.out | apply below_alloc | apply pw_below_drewN | apply below_drew1 | refine below_setA ?_ (by assumption)) | exact HB.out))); (case aF => exact (fun _ _ => trivial)); (case aO => exact (by (with_reducible repeat (first | apply Kd.R_alloc | apply Kd.R_drewN | apply Kd.R_drew)); exact (HO188 _).out)); (case aS => exact (below_size (by repeat (first | (with_reducible first | exact HB.out | apply below_alloc | apply pw_below_drewN | apply below_drew1 | refine below_setA ?_ (by assumption)) | exact HB.out)))); (case aL => have := LMc22.out; omega); intro v190 w28 ho hb hg hat; rw [← Ny189.out] at ho; have HO191 := Aside0.mk (ho); replace HO_174004 := Aside0.mk (Kd.S_over' (by (with_reducible repeat (first | apply Kd.S_alloc | apply Kd.S_drewN | apply Kd.S_drew)); exact HO_174004.out) (Kd.R_typed (by (with_reducible repeat (first | apply Kd.R_alloc | apply Kd.R_drewN | apply Kd.R_drew)); exact (HO188 _).out)) (by decide) hg); replace BK173 := Aside0.mk (blk_grown (g := gb173) (o := .cells #[.int .i64 a0_0, .int .i64 a0_1, .int .i64 a0_2, .int .i64 a0_3, u174004, .slice A0_5 l0_5.length c0_5, .slice A0_6 l0_6.length c0_6] 28 (0, 0)) BK173.out hg (Kd.R_ne (HO188 _).out BK173.out (by decide))); replace BK174 := Aside0.mk (blk_grown (g := gb174) (o := .cells #[.int .i64 0, .int .i64 0, .int .i64 0, .int .i64 0, .slice none 0 0, .slice none 0 0, .slice none 0 0] 28 (0, 0)) BK174.out hg (Kd.R_ne (HO188 _).out BK174.out (by decide))); replace HB := Aside0.mk (hb); clear ho hb hg hat; obtain ⟨Ao29, co29, eo29⟩ := Kd.R_slice HO191.out; subst eo29; have hcz30_0 : w28.cell? ⟨gb173, 0, none⟩ = some (.int .i64 a0_0) := bc BK173 0; have hcz30_1 : w28.cell? ⟨gb173, 1, none⟩ = some (.int .i64 a0_1) := bc BK173 1; have hcz30_2 : w28.cell? ⟨gb173, 2, none⟩ = some (.int .i64 a0_2) := bc BK173 2; have hcz30_3 : w28.cell? ⟨gb173, 3, none⟩ = some (.int .i64 a0_3) := bc BK173 3; have hcz30_4 : w28.cell? ⟨gb173, 4, none⟩ = some (u174004) := bc BK173 4; have hcz30_5 : w28.cell? ⟨gb173, 5, none⟩ = some (.slice A0_5 l0_5.length c0_5) := bc BK173 5; have hcz30_6 : w28.cell? ⟨gb173, 6, none⟩ = some (.slice A0_6 l0_6.length c0_6) := bc BK173 6; have hfz30_0 := blk_frozen BK173.out 0; have hfz30_1 := blk_frozen BK173.out 1; have hfz30_2 := blk_frozen BK173.out 2; have hfz30_3 := blk_frozen BK173.out 3; have hfz30_4 := blk_frozen BK173.out 4; have hfz30_5 := blk_frozen BK173.out 5; have hfz30_6 := blk_frozen BK173.out 6)
      (try simp only [Act.put, List.setIfInBounds_toArray, List.set_cons_zero, List.set_cons_succ])
      have n0_ := Aside0.mk (Kd.S_mono (Kd.S_far (p := ⟨gb173, 5, none⟩) (Kd.S_types HO_174004.out BK173.out (by decide)) (fun _ hk => hk.2) (.slice Ao29 y189.length co29)) (fun _ h_ => h_.1)); have n1_ := Aside0.mk (Kd.R_apart_nil (Kd.R_mono (Kd.R_far (p := ⟨gb173, 5, none⟩) (Kd.R_types HO191.out BK173.out (by decide)) (fun _ hk => hk.2) (.slice Ao29 y189.length co29)) (fun _ h_ => h_.1)))
      have n3_ : Aside0 ((w28.setCell ⟨gb173, 5, none⟩ (.slice Ao29 y189.length co29)).heap[gb173]? = some (.cells #[.int .i64 a0_0, .int .i64 a0_1, .int .i64 a0_2, .int .i64 a0_3, u174004, .slice Ao29 y189.length co29, .slice A0_6 l0_6.length c0_6] 28 (0, 0))) := ⟨by (with_reducible repeat (first | refine blk_drewN ?_ _ | refine blk_drew ?_ | refine blk_alloc ?_ _)); refine blk_put (cs := #[.int .i64 a0_0, .int .i64 a0_1, .int .i64 a0_2, .int .i64 a0_3, u174004, .slice A0_5 l0_5.length c0_5, .slice A0_6 l0_6.length c0_6]) ?_ 5 _ rfl; (with_reducible repeat (first | refine blk_drewN ?_ _ | refine blk_drew ?_ | refine blk_alloc ?_ _)); exact BK173.out⟩
      have n4_ : Aside0 ((w28.setCell ⟨gb173, 5, none⟩ (.slice Ao29 y189.length co29)).heap[gb174]? = some (.cells #[.int .i64 0, .int .i64 0, .int .i64 0, .int .i64 0, .slice none 0 0, .slice none 0 0, .slice none 0 0] 28 (0, 0))) := ⟨by (with_reducible repeat (first | refine blk_drewN ?_ _ | refine blk_drew ?_ | refine blk_alloc ?_ _)); refine blk_far ?_ NB174_173.out _; (with_reducible repeat (first | refine blk_drewN ?_ _ | refine blk_drew ?_ | refine blk_alloc ?_ _)); exact BK174.out⟩
      have n5_ : Aside0 (Below w.heap.size w (w28.setCell ⟨gb173, 5, none⟩ (.slice Ao29 y189.length co29))) := ⟨by repeat (first | (with_reducible first | exact HB.out | apply below_alloc | apply pw_below_drewN | apply below_drew1 | refine below_set ?_ GE173.out | refine below_set ?_ GE174.out) | exact HB.out)⟩
      clear HO_174004 HO191 BK173 BK174 HB; have HO_174004 := n0_; have HO191 := n1_; have BK173 := n3_; have BK174 := n4_; have HB := n5_; clear n0_ n1_ n3_ n4_ n5_
      generalize (w28.setCell ⟨gb173, 5, none⟩ (.slice Ao29 y189.length co29)) = w31 at HO_174004 HO191 BK173 BK174 HB ⊢
      have hcz33_0 : w31.cell? ⟨gb173, 0, none⟩ = some (.int .i64 a0_0) := bc BK173 0
      have hcz33_1 : w31.cell? ⟨gb173, 1, none⟩ = some (.int .i64 a0_1) := bc BK173 1
      have hcz33_2 : w31.cell? ⟨gb173, 2, none⟩ = some (.int .i64 a0_2) := bc BK173 2
      have hcz33_3 : w31.cell? ⟨gb173, 3, none⟩ = some (.int .i64 a0_3) := bc BK173 3
      have hcz33_4 : w31.cell? ⟨gb173, 4, none⟩ = some (u174004) := bc BK173 4
      have hcz33_5 : w31.cell? ⟨gb173, 5, none⟩ = some (.slice Ao29 y189.length co29) := bc BK173 5
      have hcz33_6 : w31.cell? ⟨gb173, 6, none⟩ = some (.slice A0_6 l0_6.length c0_6) := bc BK173 6
      have hfz33_0 := blk_frozen BK173.out 0; have hfz33_1 := blk_frozen BK173.out 1; have hfz33_2 := blk_frozen BK173.out 2; have hfz33_3 := blk_frozen BK173.out 3; have hfz33_4 := blk_frozen BK173.out 4; have hfz33_5 := blk_frozen BK173.out 5; have hfz33_6 := blk_frozen BK173.out 6
      go_wp2_with ((with_reducible refine gate_builtin (b := .append) (xs := #[.const (.slice none 0 0), .tmp 28]) rfl ?_); at_builtin; refine Kd.R_append_rows (Kd.int .i64) (w0 := w) w.heap.size rfl (.const (.slice none 0 0)) (.tmp 28) 26 3 (.int .i64 0) 8 rfl Try.underlying26 info3 rfl (by decide) (by omega) (.slice none 0 0) y192 l0_6 _ _ _ (fun k_ => some k_ ≠ (.slice Ao29 y189.length co29 : Value).ownBlock) (fun _ => False) rfl rfl ?aO ?aR (fun _ _ h => h) (fun _ h => h.elim) ?aF ?aB ?aS ?aL ?_; (case aR => repeat (first | exact (Kd.C_below HR0_6.out HB.out) | (with_reducible refine Kd.C_alloc ?_ _) | (with_reducible refine Kd.C_drewN ?_ _) | (with_reducible refine Kd.C_drew ?_))); (case aB => exact (by repeat (first | (with_reducible first | exact HB.out | apply below_alloc | apply pw_below_drewN | apply below_drew1 | refine below_setA ?_ (by assumption)) | exact HB.out))); (case aF => exact (fun k_ hk => Kd.fresh' (Kd.R_lt (by (with_reducible repeat (first | apply Kd.R_alloc | apply Kd.R_drewN | apply Kd.R_drew)); exact HO191.out)) k_ hk)); (case aO => exact (by (with_reducible repeat (first | apply Kd.R_alloc | apply Kd.R_drewN | apply Kd.R_drew)); exact (HO194 _ _).out)); (case aS => exact (below_size (by repeat (first | (with_reducible first | exact HB.out | apply below_alloc | apply pw_below_drewN | apply below_drew1 | refine below_setA ?_ (by assumption)) | exact HB.out)))); (case aL => have := LMc23.out; omega); intro v196 w34 ho hb hg hat; rw [← Ny195.out] at ho; have HO197 := Aside0.mk (ho); replace HO_174004 := Aside0.mk (Kd.S_over' (by (with_reducible repeat (first | apply Kd.S_alloc | apply Kd.S_drewN | apply Kd.S_drew)); exact HO_174004.out) (Kd.R_typed (by (with_reducible repeat (first | apply Kd.R_alloc | apply Kd.R_drewN | apply Kd.R_drew)); exact (HO194 _ (fun _ => True)).out)) (by decide) hg); replace BK173 := Aside0.mk (blk_grown (g := gb173) (o := .cells #[.int .i64 a0_0, .int .i64 a0_1, .int .i64 a0_2, .int .i64 a0_3, u174004, .slice Ao29 y189.length co29, .slice A0_6 l0_6.length c0_6] 28 (0, 0)) BK173.out hg (Kd.R_ne (HO194 _ (fun _ => True)).out BK173.out (by decide))); replace BK174 := Aside0.mk (blk_grown (g := gb174) (o := .cells #[.int .i64 0, .int .i64 0, .int .i64 0, .int .i64 0, .slice none 0 0, .slice none 0 0, .slice none 0 0] 28 (0, 0)) BK174.out hg (Kd.R_ne (HO194 _ (fun _ => True)).out BK174.out (by decide))); replace HO191 := Aside0.mk (Kd.R_after (ok := (fun _ => True)) (by (with_reducible repeat (first | apply Kd.R_alloc | apply Kd.R_drewN | apply Kd.R_drew)); exact HO191.out) hg hat); replace HB := Aside0.mk (hb); clear ho hb hg hat; obtain ⟨Ao35, co35, eo35⟩ := Kd.R_slice HO197.out; subst eo35; have hcz36_0 : w34.cell? ⟨gb173, 0, none⟩ = some (.int .i64 a0_0) := bc BK173 0; have hcz36_1 : w34.cell? ⟨gb173, 1, none⟩ = some (.int .i64 a0_1) := bc BK173 1; have hcz36_2 : w34.cell? ⟨gb173, 2, none⟩ = some (.int .i64 a0_2) := bc BK173 2; have hcz36_3 : w34.cell? ⟨gb173, 3, none⟩ = some (.int .i64 a0_3) := bc BK173 3; have hcz36_4 : w34.cell? ⟨gb173, 4, none⟩ = some (u174004) := bc BK173 4; have hcz36_5 : w34.cell? ⟨gb173, 5, none⟩ = some (.slice Ao29 y189.length co29) := bc BK173 5; have hcz36_6 : w34.cell? ⟨gb173, 6, none⟩ = some (.slice A0_6 l0_6.length c0_6) := bc BK173 6; have hfz36_0 := blk_frozen BK173.out 0; have hfz36_1 := blk_frozen BK173.out 1; have hfz36_2 := blk_frozen BK173.out 2; have hfz36_3 := blk_frozen BK173.out 3; have hfz36_4 := blk_frozen BK173.out 4; have hfz36_5 := blk_frozen BK173.out 5; have hfz36_6 := blk_frozen BK173.out 6; have hcz37_0 : w34.cell? ⟨gb174, 0, none⟩ = some (.int .i64 0) := bc BK174 0; have hcz37_1 : w34.cell? ⟨gb174, 1, none⟩ = some (.int .i64 0) := bc BK174 1; have hcz37_2 : w34.cell? ⟨gb174, 2, none⟩ = some (.int .i64 0) := bc BK174 2; have hcz37_3 : w34.cell? ⟨gb174, 3, none⟩ = some (.int .i64 0) := bc BK174 3; have hcz37_4 : w34.cell? ⟨gb174, 4, none⟩ = some (.slice none 0 0) := bc BK174 4; have hcz37_5 : w34.cell? ⟨gb174, 5, none⟩ = some (.slice none 0 0) := bc BK174 5; have hcz37_6 : w34.cell? ⟨gb174, 6, none⟩ = some (.slice none 0 0) := bc BK174 6; have hfz37_0 := blk_frozen BK174.out 0; have hfz37_1 := blk_frozen BK174.out 1; have hfz37_2 := blk_frozen BK174.out 2; have hfz37_3 := blk_frozen BK174.out 3; have hfz37_4 := blk_frozen BK174.out 4; have hfz37_5 := blk_frozen BK174.out 5; have hfz37_6 := blk_frozen BK174.out 6; obtain ⟨Ao38, co38, eo38⟩ := Kd.S_slice HO_174004.out; subst eo38)
      refine bodyPost_ret (results_cell_row rfl _ _ gb174 28 #[.int .i64 a0_0, .int .i64 a0_1, .int .i64 a0_2, .int .i64 a0_3, .slice Ao38 x174004_1.length co38, .slice Ao29 y189.length co29, .slice Ao35 y195.length co35] (0, 0) _ rfl (by (with_reducible repeat (first | refine blk_drewN ?_ _ | refine blk_drew ?_ | refine blk_alloc ?_ _)); refine blk_put (cs := #[.int .i64 a0_0, .int .i64 a0_1, .int .i64 a0_2, .int .i64 a0_3, .slice Ao38 x174004_1.length co38, .slice Ao29 y189.length co29, .slice none 0 0]) ?_ 6 _ rfl; (with_reducible repeat (first | refine blk_drewN ?_ _ | refine blk_drew ?_ | refine blk_alloc ?_ _)); refine blk_put (cs := #[.int .i64 a0_0, .int .i64 a0_1, .int .i64 a0_2, .int .i64 a0_3, .slice Ao38 x174004_1.length co38, .slice none 0 0, .slice none 0 0]) ?_ 5 _ rfl; (with_reducible repeat (first | refine blk_drewN ?_ _ | refine blk_drew ?_ | refine blk_alloc ?_ _)); refine blk_put (cs := #[.int .i64 a0_0, .int .i64 a0_1, .int .i64 a0_2, .int .i64 a0_3, .slice none 0 0, .slice none 0 0, .slice none 0 0]) ?_ 4 _ rfl; (with_reducible repeat (first | refine blk_drewN ?_ _ | refine blk_drew ?_ | refine blk_alloc ?_ _)); refine blk_put (cs := #[.int .i64 a0_0, .int .i64 a0_1, .int .i64 a0_2, .int .i64 0, .slice none 0 0, .slice none 0 0, .slice none 0 0]) ?_ 3 _ rfl; (with_reducible repeat (first | refine blk_drewN ?_ _ | refine blk_drew ?_ | refine blk_alloc ?_ _)); refine blk_put (cs := #[.int .i64 a0_0, .int .i64 a0_1, .int .i64 0, .int .i64 0, .slice none 0 0, .slice none 0 0, .slice none 0 0]) ?_ 2 _ rfl; (with_reducible repeat (first | refine blk_drewN ?_ _ | refine blk_drew ?_ | refine blk_alloc ?_ _)); refine blk_put (cs := #[.int .i64 a0_0, .int .i64 0, .int .i64 0, .int .i64 0, .slice none 0 0, .slice none 0 0, .slice none 0 0]) ?_ 1 _ rfl; (with_reducible repeat (first | refine blk_drewN ?_ _ | refine blk_drew ?_ | refine blk_alloc ?_ _)); refine blk_put (cs := #[.int .i64 0, .int .i64 0, .int .i64 0, .int .i64 0, .slice none 0 0, .slice none 0 0, .slice none 0 0]) ?_ 0 _ rfl; (with_reducible repeat (first | refine blk_drewN ?_ _ | refine blk_drew ?_ | refine blk_alloc ?_ _)); refine blk_far ?_ NB174_173.out _; (with_reducible repeat (first | refine blk_drewN ?_ _ | refine blk_drew ?_ | refine blk_alloc ?_ _)); exact BK174.out) Try.underlying28 rfl (by kernel_rfl)) rfl ?_
      exact ⟨_, _, _, by first | rfl | (simp [errW_none, errW_some] <;> rfl) | (simp [*, errW_none, errW_some] <;> rfl), by (with_reducible repeat (first | apply Kd.S_alloc | apply Kd.S_drewN | apply Kd.S_drew)); exact Kd.S_mono (Kd.S_far (p := ⟨gb174, 6, none⟩) (Kd.S_far (p := ⟨gb174, 5, none⟩) (Kd.S_far (p := ⟨gb174, 4, none⟩) (Kd.S_far (p := ⟨gb174, 3, none⟩) (Kd.S_far (p := ⟨gb174, 2, none⟩) (Kd.S_far (p := ⟨gb174, 1, none⟩) (Kd.S_far (p := ⟨gb174, 0, none⟩) (Kd.S_far (p := ⟨gb173, 6, none⟩) (Kd.S_types (Kd.S_types HO_174004.out BK173.out (by decide)) BK174.out (by decide)) (fun _ hk => hk.1.2) (.slice Ao35 y195.length co35)) (fun _ hk => hk.2) (.int .i64 a0_0)) (fun _ hk => hk.2) (.int .i64 a0_1)) (fun _ hk => hk.2) (.int .i64 a0_2)) (fun _ hk => hk.2) (.int .i64 a0_3)) (fun _ hk => hk.2) (.slice Ao38 x174004_1.length co38)) (fun _ hk => hk.2) (.slice Ao29 y189.length co29)) (fun _ hk => hk.2) (.slice Ao35 y195.length co35)) (fun _ hk => trivial), by (with_reducible repeat (first | apply Kd.R_alloc | apply Kd.R_drewN | apply Kd.R_drew)); exact Kd.R_mono (Kd.R_far (p := ⟨gb174, 6, none⟩) (Kd.R_far (p := ⟨gb174, 5, none⟩) (Kd.R_far (p := ⟨gb174, 4, none⟩) (Kd.R_far (p := ⟨gb174, 3, none⟩) (Kd.R_far (p := ⟨gb174, 2, none⟩) (Kd.R_far (p := ⟨gb174, 1, none⟩) (Kd.R_far (p := ⟨gb174, 0, none⟩) (Kd.R_far (p := ⟨gb173, 6, none⟩) (Kd.R_types (Kd.R_types HO191.out BK173.out (by decide)) BK174.out (by decide)) (fun _ hk => hk.1.2) (.slice Ao35 y195.length co35)) (fun _ hk => hk.2) (.int .i64 a0_0)) (fun _ hk => hk.2) (.int .i64 a0_1)) (fun _ hk => hk.2) (.int .i64 a0_2)) (fun _ hk => hk.2) (.int .i64 a0_3)) (fun _ hk => hk.2) (.slice Ao38 x174004_1.length co38)) (fun _ hk => hk.2) (.slice Ao29 y189.length co29)) (fun _ hk => hk.2) (.slice Ao35 y195.length co35)) (fun _ hk => hk.1.1.2), by (with_reducible repeat (first | apply Kd.R_alloc | apply Kd.R_drewN | apply Kd.R_drew)); exact Kd.R_mono (Kd.R_far (p := ⟨gb174, 6, none⟩) (Kd.R_far (p := ⟨gb174, 5, none⟩) (Kd.R_far (p := ⟨gb174, 4, none⟩) (Kd.R_far (p := ⟨gb174, 3, none⟩) (Kd.R_far (p := ⟨gb174, 2, none⟩) (Kd.R_far (p := ⟨gb174, 1, none⟩) (Kd.R_far (p := ⟨gb174, 0, none⟩) (Kd.R_far (p := ⟨gb173, 6, none⟩) (Kd.R_types (Kd.R_types HO197.out BK173.out (by decide)) BK174.out (by decide)) (fun _ hk => hk.1.2) (.slice Ao35 y195.length co35)) (fun _ hk => hk.2) (.int .i64 a0_0)) (fun _ hk => hk.2) (.int .i64 a0_1)) (fun _ hk => hk.2) (.int .i64 a0_2)) (fun _ hk => hk.2) (.int .i64 a0_3)) (fun _ hk => hk.2) (.slice Ao38 x174004_1.length co38)) (fun _ hk => hk.2) (.slice Ao29 y189.length co29)) (fun _ hk => hk.2) (.slice Ao35 y195.length co35)) (fun _ hk => hk.1.1), by repeat (first | (with_reducible first | exact HB.out | apply below_alloc | apply pw_below_drewN | apply below_drew1 | refine below_set ?_ GE173.out | refine below_set ?_ GE174.out) | exact HB.out)⟩
     ·rw [if_neg c23] at H
      exact absurd H (by simp)
    ·rw [if_neg c22] at H
     exact absurd H (by simp)

/-! ### image_Equal: function 43 -/
def image_Equal.f (a0_0 : Int) (a0_1 : Int) (a0_2 : Int) (l0_3 : List Int) (a1_0 : Int) (a1_1 : Int) (a1_2 : Int) (l1_3 : List Int) : Option (Bool) := if a0_0 = a1_0 then (if a0_1 = a1_1 then (if a0_2 = a1_2 then (some ((strOfNums l0_3).toList == (strOfNums l1_3).toList)) else (some false)) else (some false)) else (some false)
set_option maxHeartbeats 8000000 in
set_option maxRecDepth 100000 in
theorem image_Equal.calls (a0_0 : Int) (a0_1 : Int) (a0_2 : Int) (A0_3 : Option Addr) (c0_3 : Nat) (l0_3 : List Int) (a1_0 : Int) (a1_1 : Int) (a1_2 : Int) (A1_3 : Option Addr) (c1_3 : Nat) (l1_3 : List Int) (r : Bool) (w : World) (hr0_3 : Kd.C (Kd.int .u8) w A0_3 l0_3.length l0_3) (hc0_3 : l0_3.length ≤ c0_3) (hr1_3 : Kd.C (Kd.int .u8) w A1_3 l1_3.length l1_3) (hc1_3 : l1_3.length ≤ c1_3) (h : image_Equal.f a0_0 a0_1 a0_2 l0_3 a1_0 a1_1 a1_2 l1_3 = some r) :
  Calls Try.prog 43 #[.agg #[.int .i64 a0_0, .int .i64 a0_1, .int .i64 a0_2, .slice A0_3 l0_3.length c0_3], .agg #[.int .i64 a1_0, .int .i64 a1_1, .int .i64 a1_2, .slice A1_3 l1_3.length c1_3]] w fun e w' => e = .returned (.bool r) ∧ Below w.heap.size w w' := by
 have hu47 := Try.underlying47; have HR0_3 := Aside0.mk hr0_3; have HC0_3 := Aside0.mk hc0_3; clear hr0_3 hc0_3; have HR1_3 := Aside0.mk hr1_3; have HC1_3 := Aside0.mk hc1_3; clear hr1_3 hc1_3; have HB := Aside0.mk (Below.refl w.heap.size w)
 have H : (if a0_0 = a1_0 then (if a0_1 = a1_1 then (if a0_2 = a1_2 then (some ((strOfNums l0_3).toList == (strOfNums l1_3).toList)) else (some false)) else (some false)) else (some false)) = some r := h
 clear h
 by_cases c3 : a0_0 = a1_0
 ·rw [if_pos c3] at H
  have c3b0 : (a0_0 == a1_0) = true := beq_iff_eq.mpr c3
  have c3b1 : (a0_0 != a1_0) = false := bne_eq_false_iff_eq.mpr c3
  clear c3
  by_cases c4 : a0_1 = a1_1
  ·rw [if_pos c4] at H
   have c4b0 : (a0_1 == a1_1) = true := beq_iff_eq.mpr c4
   have c4b1 : (a0_1 != a1_1) = false := bne_eq_false_iff_eq.mpr c4
   clear c4
   by_cases c5 : a0_2 = a1_2
   ·rw [if_pos c5] at H
    have c5b0 : (a0_2 == a1_2) = true := beq_iff_eq.mpr c5
    have c5b1 : (a0_2 != a1_2) = false := bne_eq_false_iff_eq.mpr c5
    clear c5
    obtain rfl := Option.some.inj H
    go_enter Try.func43, Try.ntmps43
    go_wp2_with (first | ((with_reducible refine gate_dst (N := 2) rfl ?_); refine box_event ?hg (N := 2) ?hd (cs := #[.int .i64 a0_0, .int .i64 a0_1, .int .i64 a0_2, .slice A0_3 l0_3.length c0_3]) (t := 47) ?hr ?_; (case hd => rfl); (case hg => rfl); (case hr => first | (go_simp; done) | (go_simp; rfl)); intro gb198 hg w6 hbox hb; have BK198 := Aside0.mk (hbox); have GW198 := ws HB hg; have GE198 := ws HB hg; replace HB := bs HB hb; clear hb hbox hg) | ((with_reducible refine gate_dst (N := 3) rfl ?_); refine box_event ?hg (N := 3) ?hd (cs := #[.int .i64 a1_0, .int .i64 a1_1, .int .i64 a1_2, .slice A1_3 l1_3.length c1_3]) (t := 47) ?hr ?_; (case hd => rfl); (case hg => rfl); (case hr => first | (go_simp; done) | (go_simp; rfl)); intro gb199 hg w7 hbox hb; have BK199 := Aside0.mk (hbox); have GW199 := ws HB hg; have GE199 := ws HB hg; have NB198_199 := nl BK198 hg; have NB199_198 := ng BK198 hg; replace BK198 := ub BK198 hb; replace HB := bs HB hb; clear hb hbox hg; have hnb8 := NB198_199.out; have hnc8 := NB199_198.out; have hcz9_0 : w7.cell? ⟨gb198, 0, none⟩ = some (.int .i64 a0_0) := bc BK198 0; have hcz9_1 : w7.cell? ⟨gb198, 1, none⟩ = some (.int .i64 a0_1) := bc BK198 1; have hcz9_2 : w7.cell? ⟨gb198, 2, none⟩ = some (.int .i64 a0_2) := bc BK198 2; have hcz9_3 : w7.cell? ⟨gb198, 3, none⟩ = some (.slice A0_3 l0_3.length c0_3) := bc BK198 3; have hfz9_0 := blk_frozen BK198.out 0; have hfz9_1 := blk_frozen BK198.out 1; have hfz9_2 := blk_frozen BK198.out 2; have hfz9_3 := blk_frozen BK198.out 3; have hcz10_0 : w7.cell? ⟨gb199, 0, none⟩ = some (.int .i64 a1_0) := bc BK199 0; have hcz10_1 : w7.cell? ⟨gb199, 1, none⟩ = some (.int .i64 a1_1) := bc BK199 1; have hcz10_2 : w7.cell? ⟨gb199, 2, none⟩ = some (.int .i64 a1_2) := bc BK199 2; have hcz10_3 : w7.cell? ⟨gb199, 3, none⟩ = some (.slice A1_3 l1_3.length c1_3) := bc BK199 3; have hfz10_0 := blk_frozen BK199.out 0; have hfz10_1 := blk_frozen BK199.out 1; have hfz10_2 := blk_frozen BK199.out 2; have hfz10_3 := blk_frozen BK199.out 3; have hcv11 := Kd.C_string (P := Try.prog) (A := A0_3) (c := c0_3) Try.underlying45 Try.underlying5 Try.underlying9 (Kd.C_below HR0_3.out HB.out); have hcv12 := Kd.C_string (P := Try.prog) (A := A1_3) (c := c1_3) Try.underlying45 Try.underlying5 Try.underlying9 (Kd.C_below HR1_3.out HB.out)))
    go_ret
    exact ⟨by first | rfl | (simp [errW_none, errW_some] <;> rfl) | (simp [*, errW_none, errW_some] <;> rfl), by repeat (first | (with_reducible first | exact HB.out | apply below_alloc | apply pw_below_drewN | apply below_drew1 | refine below_set ?_ GE198.out | refine below_set ?_ GE199.out) | exact HB.out)⟩
   ·rw [if_neg c5] at H
    have c5b0 : (a0_2 == a1_2) = false := beq_eq_false_iff_ne.mpr c5
    have c5b1 : (a0_2 != a1_2) = true := bne_iff_ne.mpr c5
    obtain rfl := Option.some.inj H
    go_enter Try.func43, Try.ntmps43
    go_wp2_with (first | ((with_reducible refine gate_dst (N := 2) rfl ?_); refine box_event ?hg (N := 2) ?hd (cs := #[.int .i64 a0_0, .int .i64 a0_1, .int .i64 a0_2, .slice A0_3 l0_3.length c0_3]) (t := 47) ?hr ?_; (case hd => rfl); (case hg => rfl); (case hr => first | (go_simp; done) | (go_simp; rfl)); intro gb198 hg w13 hbox hb; have BK198 := Aside0.mk (hbox); have GW198 := ws HB hg; have GE198 := ws HB hg; replace HB := bs HB hb; clear hb hbox hg) | ((with_reducible refine gate_dst (N := 3) rfl ?_); refine box_event ?hg (N := 3) ?hd (cs := #[.int .i64 a1_0, .int .i64 a1_1, .int .i64 a1_2, .slice A1_3 l1_3.length c1_3]) (t := 47) ?hr ?_; (case hd => rfl); (case hg => rfl); (case hr => first | (go_simp; done) | (go_simp; rfl)); intro gb199 hg w14 hbox hb; have BK199 := Aside0.mk (hbox); have GW199 := ws HB hg; have GE199 := ws HB hg; have NB198_199 := nl BK198 hg; have NB199_198 := ng BK198 hg; replace BK198 := ub BK198 hb; replace HB := bs HB hb; clear hb hbox hg; have hnb15 := NB198_199.out; have hnc15 := NB199_198.out; have hcz16_0 : w14.cell? ⟨gb198, 0, none⟩ = some (.int .i64 a0_0) := bc BK198 0; have hcz16_1 : w14.cell? ⟨gb198, 1, none⟩ = some (.int .i64 a0_1) := bc BK198 1; have hcz16_2 : w14.cell? ⟨gb198, 2, none⟩ = some (.int .i64 a0_2) := bc BK198 2; have hcz16_3 : w14.cell? ⟨gb198, 3, none⟩ = some (.slice A0_3 l0_3.length c0_3) := bc BK198 3; have hfz16_0 := blk_frozen BK198.out 0; have hfz16_1 := blk_frozen BK198.out 1; have hfz16_2 := blk_frozen BK198.out 2; have hfz16_3 := blk_frozen BK198.out 3; have hcz17_0 : w14.cell? ⟨gb199, 0, none⟩ = some (.int .i64 a1_0) := bc BK199 0; have hcz17_1 : w14.cell? ⟨gb199, 1, none⟩ = some (.int .i64 a1_1) := bc BK199 1; have hcz17_2 : w14.cell? ⟨gb199, 2, none⟩ = some (.int .i64 a1_2) := bc BK199 2; have hcz17_3 : w14.cell? ⟨gb199, 3, none⟩ = some (.slice A1_3 l1_3.length c1_3) := bc BK199 3; have hfz17_0 := blk_frozen BK199.out 0; have hfz17_1 := blk_frozen BK199.out 1; have hfz17_2 := blk_frozen BK199.out 2; have hfz17_3 := blk_frozen BK199.out 3))
    go_ret
    exact ⟨by first | rfl | (simp [errW_none, errW_some] <;> rfl) | (simp [*, errW_none, errW_some] <;> rfl), by repeat (first | (with_reducible first | exact HB.out | apply below_alloc | apply pw_below_drewN | apply below_drew1 | refine below_set ?_ GE198.out | refine below_set ?_ GE199.out) | exact HB.out)⟩
  ·rw [if_neg c4] at H
   have c4b0 : (a0_1 == a1_1) = false := beq_eq_false_iff_ne.mpr c4
   have c4b1 : (a0_1 != a1_1) = true := bne_iff_ne.mpr c4
   obtain rfl := Option.some.inj H
   go_enter Try.func43, Try.ntmps43
   go_wp2_with (first | ((with_reducible refine gate_dst (N := 2) rfl ?_); refine box_event ?hg (N := 2) ?hd (cs := #[.int .i64 a0_0, .int .i64 a0_1, .int .i64 a0_2, .slice A0_3 l0_3.length c0_3]) (t := 47) ?hr ?_; (case hd => rfl); (case hg => rfl); (case hr => first | (go_simp; done) | (go_simp; rfl)); intro gb198 hg w18 hbox hb; have BK198 := Aside0.mk (hbox); have GW198 := ws HB hg; have GE198 := ws HB hg; replace HB := bs HB hb; clear hb hbox hg) | ((with_reducible refine gate_dst (N := 3) rfl ?_); refine box_event ?hg (N := 3) ?hd (cs := #[.int .i64 a1_0, .int .i64 a1_1, .int .i64 a1_2, .slice A1_3 l1_3.length c1_3]) (t := 47) ?hr ?_; (case hd => rfl); (case hg => rfl); (case hr => first | (go_simp; done) | (go_simp; rfl)); intro gb199 hg w19 hbox hb; have BK199 := Aside0.mk (hbox); have GW199 := ws HB hg; have GE199 := ws HB hg; have NB198_199 := nl BK198 hg; have NB199_198 := ng BK198 hg; replace BK198 := ub BK198 hb; replace HB := bs HB hb; clear hb hbox hg; have hnb20 := NB198_199.out; have hnc20 := NB199_198.out; have hcz21_0 : w19.cell? ⟨gb198, 0, none⟩ = some (.int .i64 a0_0) := bc BK198 0; have hcz21_1 : w19.cell? ⟨gb198, 1, none⟩ = some (.int .i64 a0_1) := bc BK198 1; have hcz21_2 : w19.cell? ⟨gb198, 2, none⟩ = some (.int .i64 a0_2) := bc BK198 2; have hcz21_3 : w19.cell? ⟨gb198, 3, none⟩ = some (.slice A0_3 l0_3.length c0_3) := bc BK198 3; have hfz21_0 := blk_frozen BK198.out 0; have hfz21_1 := blk_frozen BK198.out 1; have hfz21_2 := blk_frozen BK198.out 2; have hfz21_3 := blk_frozen BK198.out 3; have hcz22_0 : w19.cell? ⟨gb199, 0, none⟩ = some (.int .i64 a1_0) := bc BK199 0; have hcz22_1 : w19.cell? ⟨gb199, 1, none⟩ = some (.int .i64 a1_1) := bc BK199 1; have hcz22_2 : w19.cell? ⟨gb199, 2, none⟩ = some (.int .i64 a1_2) := bc BK199 2; have hcz22_3 : w19.cell? ⟨gb199, 3, none⟩ = some (.slice A1_3 l1_3.length c1_3) := bc BK199 3; have hfz22_0 := blk_frozen BK199.out 0; have hfz22_1 := blk_frozen BK199.out 1; have hfz22_2 := blk_frozen BK199.out 2; have hfz22_3 := blk_frozen BK199.out 3))
   go_ret
   exact ⟨by first | rfl | (simp [errW_none, errW_some] <;> rfl) | (simp [*, errW_none, errW_some] <;> rfl), by repeat (first | (with_reducible first | exact HB.out | apply below_alloc | apply pw_below_drewN | apply below_drew1 | refine below_set ?_ GE198.out | refine below_set ?_ GE199.out) | exact HB.out)⟩
 ·rw [if_neg c3] at H
  have c3b0 : (a0_0 == a1_0) = false := beq_eq_false_iff_ne.mpr c3
  have c3b1 : (a0_0 != a1_0) = true := bne_iff_ne.mpr c3
  obtain rfl := Option.some.inj H
  go_enter Try.func43, Try.ntmps43
  go_wp2_with (first | ((with_reducible refine gate_dst (N := 2) rfl ?_); refine box_event ?hg (N := 2) ?hd (cs := #[.int .i64 a0_0, .int .i64 a0_1, .int .i64 a0_2, .slice A0_3 l0_3.length c0_3]) (t := 47) ?hr ?_; (case hd => rfl); (case hg => rfl); (case hr => first | (go_simp; done) | (go_simp; rfl)); intro gb198 hg w23 hbox hb; have BK198 := Aside0.mk (hbox); have GW198 := ws HB hg; have GE198 := ws HB hg; replace HB := bs HB hb; clear hb hbox hg) | ((with_reducible refine gate_dst (N := 3) rfl ?_); refine box_event ?hg (N := 3) ?hd (cs := #[.int .i64 a1_0, .int .i64 a1_1, .int .i64 a1_2, .slice A1_3 l1_3.length c1_3]) (t := 47) ?hr ?_; (case hd => rfl); (case hg => rfl); (case hr => first | (go_simp; done) | (go_simp; rfl)); intro gb199 hg w24 hbox hb; have BK199 := Aside0.mk (hbox); have GW199 := ws HB hg; have GE199 := ws HB hg; have NB198_199 := nl BK198 hg; have NB199_198 := ng BK198 hg; replace BK198 := ub BK198 hb; replace HB := bs HB hb; clear hb hbox hg; have hnb25 := NB198_199.out; have hnc25 := NB199_198.out; have hcz26_0 : w24.cell? ⟨gb198, 0, none⟩ = some (.int .i64 a0_0) := bc BK198 0; have hcz26_1 : w24.cell? ⟨gb198, 1, none⟩ = some (.int .i64 a0_1) := bc BK198 1; have hcz26_2 : w24.cell? ⟨gb198, 2, none⟩ = some (.int .i64 a0_2) := bc BK198 2; have hcz26_3 : w24.cell? ⟨gb198, 3, none⟩ = some (.slice A0_3 l0_3.length c0_3) := bc BK198 3; have hfz26_0 := blk_frozen BK198.out 0; have hfz26_1 := blk_frozen BK198.out 1; have hfz26_2 := blk_frozen BK198.out 2; have hfz26_3 := blk_frozen BK198.out 3; have hcz27_0 : w24.cell? ⟨gb199, 0, none⟩ = some (.int .i64 a1_0) := bc BK199 0; have hcz27_1 : w24.cell? ⟨gb199, 1, none⟩ = some (.int .i64 a1_1) := bc BK199 1; have hcz27_2 : w24.cell? ⟨gb199, 2, none⟩ = some (.int .i64 a1_2) := bc BK199 2; have hcz27_3 : w24.cell? ⟨gb199, 3, none⟩ = some (.slice A1_3 l1_3.length c1_3) := bc BK199 3; have hfz27_0 := blk_frozen BK199.out 0; have hfz27_1 := blk_frozen BK199.out 1; have hfz27_2 := blk_frozen BK199.out 2; have hfz27_3 := blk_frozen BK199.out 3))
  go_ret
  exact ⟨by first | rfl | (simp [errW_none, errW_some] <;> rfl) | (simp [*, errW_none, errW_some] <;> rfl), by repeat (first | (with_reducible first | exact HB.out | apply below_alloc | apply pw_below_drewN | apply below_drew1 | refine below_set ?_ GE198.out | refine below_set ?_ GE199.out) | exact HB.out)⟩

/-! ### target_sameInts: function 44 -/
def target_sameInts.l0 : Nat → List Int → List Int → Int → Int → Option (Bool)
 | 0, _, _, _, _ => none
 | k + 1, x0, x1, x12, x13 => if x13 < x12 then (if 0 ≤ x13 then (if x13 < (x0.length : Int) then (if x13 < (x1.length : Int) then (if (rd x0 x13) = (rd x1 x13) then (target_sameInts.l0 k x0 x1 x12 (wrap64 (x13 + 1))) else (some false)) else (none)) else (none)) else (none)) else (some true)
def target_sameInts.f (k : Nat) (l0 : List Int) (l1 : List Int) : Option (Bool) := if (l0.length : Int) = (l1.length : Int) then (target_sameInts.l0 k l0 l1 (l0.length : Int) 0) else (some false)
theorem target_sameInts.mono_l : ∀ k, (∀ y0 y1 y2 y3, LeO (target_sameInts.l0 k y0 y1 y2 y3) (target_sameInts.l0 (k + 1) y0 y1 y2 y3))
 | 0 => fun _ _ _ _ r h => by simp [target_sameInts.l0] at h
 | k + 1 => by
  have ih0 := target_sameInts.mono_l k
  ·intro y0 y1 y2 y3
   unfold target_sameInts.l0
   repeat' first
   | (with_reducible exact ih0 _ _ _ _)
   | (with_reducible exact LeO.refl _)
   | (with_reducible exact LeO.none _)
   | (with_reducible refine LeO.ite ?_ ?_)
   | (with_reducible refine LeO.bind ?_ (fun _ => ?_))
   | exact ih0 _ _ _ _
   | exact LeO.none _
   | refine LeO.ite ?_ ?_
   | refine LeO.bind ?_ (fun _ => ?_)
theorem target_sameInts.mono : ∀ a0 a1 k, LeO (target_sameInts.f k a0 a1) (target_sameInts.f (k + 1) a0 a1) := by
 intro a0 a1 k
 have ih0 := target_sameInts.mono_l k
 unfold target_sameInts.f
 repeat' first
   | (with_reducible exact ih0 _ _ _ _)
   | (with_reducible exact LeO.refl _)
   | (with_reducible exact LeO.none _)
   | (with_reducible refine LeO.ite ?_ ?_)
   | (with_reducible refine LeO.bind ?_ (fun _ => ?_))
   | exact ih0 _ _ _ _
   | exact LeO.none _
   | refine LeO.ite ?_ ?_
   | refine LeO.bind ?_ (fun _ => ?_)
set_option maxHeartbeats 8000000 in
set_option maxRecDepth 100000 in
theorem target_sameInts.calls (k : Nat) (A0 : Option Addr) (c0 : Nat) (l0 : List Int) (A1 : Option Addr) (c1 : Nat) (l1 : List Int) (r : Bool) (w : World) (hr0 : Kd.C (Kd.int .i64) w A0 l0.length l0) (hc0 : l0.length ≤ c0) (hr1 : Kd.C (Kd.int .i64) w A1 l1.length l1) (hc1 : l1.length ≤ c1) (h : target_sameInts.f k l0 l1 = some r) :
  Calls Try.prog 44 #[.slice A0 l0.length c0, .slice A1 l1.length c1] w fun e w' => e = .returned (.bool r) ∧ Drawn0 w w' := by
 have HR0 := Aside0.mk hr0; have HC0 := Aside0.mk hc0; clear hr0 hc0; have HR1 := Aside0.mk hr1; have HC1 := Aside0.mk hc1; clear hr1 hc1
 have H : (if (l0.length : Int) = (l1.length : Int) then (target_sameInts.l0 k l0 l1 (l0.length : Int) 0) else (some false)) = some r := h
 clear h
 by_cases c3 : (l0.length : Int) = (l1.length : Int)
 ·rw [if_pos c3] at H
  have c3b0 : ((l0.length : Int) == (l1.length : Int)) = true := beq_iff_eq.mpr c3
  have c3b1 : ((l0.length : Int) != (l1.length : Int)) = false := bne_eq_false_iff_eq.mpr c3
  have c3b2 : (l0.length == l1.length) = true := by first | simpa using c3 | (simp at c3 ⊢; omega)
  clear c3
  have H' := Aside0.mk H
  clear H
  go_enter Try.func44, Try.ntmps44
  go_wp2
  repeat (go_quiet (fail); try go_wp2)
  go_loopg [13] k (fun kq v13 w' => ∃ (x13_1 : Int), v13 = .int .i64 x13_1 ∧ Aside0 (target_sameInts.l0 kq l0 l1 (l0.length : Int) x13_1 = some r) ∧ Aside0 (kq ≤ k) ∧ Drawn0 w w')
  case atStart => exact ⟨(0), (by first | rfl | (simp; done) | (simp [*]; done)), H', ⟨Nat.le_refl _⟩, by repeat (first | exact Drawn0.refl _ | apply Drawn0.step)⟩
  case round =>
   clear H'
   try clear c1
   try clear p2
   try clear c3
   try clear c3b0
   try clear c3b1
   try clear c3b2
   obtain ⟨x13_1, rfl, HA, HK1, ⟨m1, rfl⟩⟩ := hrel
   cases gk with
   | zero => exact absurd HA.out (by simp [target_sameInts.l0])
   | succ k1 =>
    have H := HA.out; clear HA
    simp only [target_sameInts.l0] at H
    by_cases c4 : x13_1 < (l0.length : Int)
    ·rw [if_pos c4] at H
     have c4b0 : decide (x13_1 < (l0.length : Int)) = true := decide_eq_true c4
     clear c4
     by_cases c5 : 0 ≤ x13_1
     ·rw [if_pos c5] at H
      have c5b0 : decide (0 ≤ x13_1) = true := decide_eq_true c5
      clear c5
      by_cases c6 : x13_1 < (l0.length : Int)
      ·rw [if_pos c6] at H
       have c6b0 : decide (x13_1 < (l0.length : Int)) = true := decide_eq_true c6
       clear c6
       by_cases c7 : x13_1 < (l1.length : Int)
       ·rw [if_pos c7] at H
        have c7b0 : decide (x13_1 < (l1.length : Int)) = true := decide_eq_true c7
        clear c7
        by_cases c8 : (rd l0 x13_1) = (rd l1 x13_1)
        ·rw [if_pos c8] at H
         have c8b0 : ((rd l0 x13_1) == (rd l1 x13_1)) = true := beq_iff_eq.mpr c8
         have c8b1 : ((rd l0 x13_1) != (rd l1 x13_1)) = false := bne_eq_false_iff_eq.mpr c8
         clear c8
         have H' := Aside0.mk H
         clear H
         have p200 : 0 ≤ (x13_1 : Int) := of_decide_eq_true (by first | (with_reducible assumption) | assumption)
         have q200 : x13_1 < (l0.length : Int) := of_decide_eq_true (by first | (with_reducible assumption) | assumption)
         obtain ⟨ad200, e200, hx200_0⟩ := Kd.at_int HR0.out x13_1 p200 q200
         cases e200
         replace p200 := eq_true p200
         replace q200 := eq_true q200
         have p201 : 0 ≤ (x13_1 : Int) := of_decide_eq_true (by first | (with_reducible assumption) | assumption)
         have q201 : x13_1 < (l1.length : Int) := of_decide_eq_true (by first | (with_reducible assumption) | assumption)
         obtain ⟨ad201, e201, hx201_0⟩ := Kd.at_int HR1.out x13_1 p201 q201
         cases e201
         replace p201 := eq_true p201
         replace q201 := eq_true q201
         go_wp2
         repeat (go_quiet (fail); try go_wp2)
         go_roundg k1
         case measure => have := HK1.out; omega
         case rel => exact ⟨(wrap64 (x13_1 + 1)), (by first | rfl | (simp; done) | (simp [*]; done)), H', ⟨by have := HK1.out; omega⟩, by repeat (first | exact Drawn0.refl _ | apply Drawn0.step)⟩
        ·rw [if_neg c8] at H
         have c8b0 : ((rd l0 x13_1) == (rd l1 x13_1)) = false := beq_eq_false_iff_ne.mpr c8
         have c8b1 : ((rd l0 x13_1) != (rd l1 x13_1)) = true := bne_iff_ne.mpr c8
         obtain rfl := Option.some.inj H
         have p200 : 0 ≤ (x13_1 : Int) := of_decide_eq_true (by first | (with_reducible assumption) | assumption)
         have q200 : x13_1 < (l0.length : Int) := of_decide_eq_true (by first | (with_reducible assumption) | assumption)
         obtain ⟨ad200, e200, hx200_0⟩ := Kd.at_int HR0.out x13_1 p200 q200
         cases e200
         replace p200 := eq_true p200
         replace q200 := eq_true q200
         have p201 : 0 ≤ (x13_1 : Int) := of_decide_eq_true (by first | (with_reducible assumption) | assumption)
         have q201 : x13_1 < (l1.length : Int) := of_decide_eq_true (by first | (with_reducible assumption) | assumption)
         obtain ⟨ad201, e201, hx201_0⟩ := Kd.at_int HR1.out x13_1 p201 q201
         cases e201
         replace p201 := eq_true p201
         replace q201 := eq_true q201
         go_wp2
         repeat (go_quiet (fail); try go_wp2)
         go_ret
         exact ⟨by first | rfl | (simp; done) | (simp [*]; done), by repeat (first | exact Drawn0.refl _ | apply Drawn0.step)⟩
       ·rw [if_neg c7] at H
        exact absurd H (by simp)
      ·rw [if_neg c6] at H
       exact absurd H (by simp)
     ·rw [if_neg c5] at H
      exact absurd H (by simp)
    ·rw [if_neg c4] at H
     have c4b0 : decide (x13_1 < (l0.length : Int)) = false := decide_eq_false c4
     clear c4
     obtain rfl := Option.some.inj H
     go_wp2
     repeat (go_quiet (fail); try go_wp2)
     go_ret
     exact ⟨by first | rfl | (simp; done) | (simp [*]; done), by repeat (first | exact Drawn0.refl _ | apply Drawn0.step)⟩
 ·rw [if_neg c3] at H
  have c3b0 : ((l0.length : Int) == (l1.length : Int)) = false := beq_eq_false_iff_ne.mpr c3
  have c3b1 : ((l0.length : Int) != (l1.length : Int)) = true := bne_iff_ne.mpr c3
  have c3b2 : (l0.length == l1.length) = false := by first | simpa using c3 | (simp at c3 ⊢; omega)
  obtain rfl := Option.some.inj H
  go_enter Try.func44, Try.ntmps44
  go_wp2
  repeat (go_quiet (fail); try go_wp2)
  go_ret
  exact ⟨by first | rfl | (simp; done) | (simp [*]; done), by repeat (first | exact Drawn0.refl _ | apply Drawn0.step)⟩

end Go.Proofs.Ytmpmennepjkocaa.PTargetEqual
