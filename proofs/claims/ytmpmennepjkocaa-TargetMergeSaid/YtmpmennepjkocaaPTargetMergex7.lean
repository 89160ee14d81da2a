/- TargetMerge: walks of functions, by the printed steps made shorter. No condition. -/
/- Walks of functions, by printed steps, in short words. No condition. -/
import Derived.Test.YtmpmennepjkocaaStep
import Derived.Test.YtmpmennepjkocaaPTargetMergex0
import Derived.Test.YtmpmennepjkocaaPTargetMergex6
namespace Go.Proofs.Ytmpmennepjkocaa.PTargetMerge
open Go.RowKit Go.Proofs.YtmpmennepjkocaaW.PrintWords Go.Proofs.YtmpmennepjkocaaW.PrintLast Go.Proofs.YtmpmennepjkocaaW.PrintMore Go.Proofs.Ytmpmennepjkocaa.Step
attribute [local go_sem] max2_int min2_int max_two min_two max_three min_three max_four min_four   -- for this text's walks alone
set_option linter.unusedVariables false
set_option linter.unusedSimpArgs false

/-! ### target_similar: function 36 -/
def target_similar.f (k : Nat) (a0_0 : Int) (a0_1 : Int) (a0_2 : Int) (a0_3 : Int) (l0_4 : List (S47)) (l0_5 : List Int) (l0_6 : List Int) (a1_0 : Int) (a1_1 : Int) (a1_2 : Int) (a1_3 : Int) (l1_4 : List (S47)) (l1_5 : List Int) (l1_6 : List Int) : Option (Bool) := (target_Valid.f k a0_0 a0_1 a0_2 a0_3 l0_4 l0_5 l0_6).bind fun t220 => (if t220 = true then ((target_Valid.f k a1_0 a1_1 a1_2 a1_3 l1_4 l1_5 l1_6).bind fun t221 => (if t221 = true then (if a0_0 = a1_0 then (if a0_1 = a1_1 then (if a0_2 = a1_2 then (if a0_3 = a1_3 then (if 0 < (l0_4.length : Int) then (if 0 < (l1_4.length : Int) then (some (((rd_T47 l0_4 0).f0) == ((rd_T47 l1_4 0).f0))) else (none)) else (none)) else (some false)) else (some false)) else (some false)) else (some false)) else (some false))) else (some false))
def target_similar.T1 : Bool × List (List Nat × List Nat) := (true, [([], []), ([0], [0]), ([1, 1], [1]), ([2], [2]), ([3, 2, 2], [2, 3]), ([2, 4], [2, 4]), ([5, 4], [5]), ([6], [6]), ([7, 6], [6, 7]), ([6], [6]), ([9, 6], [6, 9]), ([8, 10, 6], [6, 8, 10]), ([6, 11], [6, 11]), ([12, 6], [12]), ([13], [13]), ([14, 13], [13, 14]), ([13], [13]), ([16, 13], [13, 16]), ([15, 17, 13], [13, 15, 17]), ([13, 18], [13, 18]), ([19, 13], [19]), ([20], [20]), ([21, 20], [20, 21]), ([20], [20]), ([23, 20], [20, 23]), ([22, 24, 20], [20, 22, 24]), ([20, 25], [20, 25]), ([26, 20], [26]), ([27], [27]), ([28, 27], [27, 28]), ([27], [27]), ([30, 27], [27, 30]), ([29, 31, 27], [27, 29, 31]), ([27, 32], [27, 32]), ([33, 27], [33]), ([34], [34]), ([35, 34], [34, 35]), ([36, 34], [34, 36]), ([37, 34], [34, 37]), ([38, 34], [34, 38]), ([34], [34]), ([40, 34], [34, 40]), ([41, 34], [34, 41]), ([42, 34], [34, 42]), ([43, 34], [34, 43]), ([39, 44, 34], [34, 39, 44]), ([34, 45], [34, 45]), ([46, 34, 0, 1, 2, 3, 4, 5, 6, 7, 8, 9, 10, 11, 12, 13, 14, 15, 16, 17, 18, 19, 20, 21, 22, 23, 24, 25, 26, 27, 28, 29, 30, 31, 32, 33, 34, 35, 36, 37, 38, 39, 40, 41, 42, 43, 44, 45, 46], [46])])
def target_similar.B1 : List Nat := [0, 1, 3, 7, 15, 31, 63, 127, 255, 127, 639, 2047, 4095, 8191, 16383, 32767, 16383, 81919, 262143, 524287, 1048575, 2097151, 4194303, 2097151, 10485759, 33554431, 67108863, 134217727, 268435455, 536870911, 268435455, 1342177279, 4294967295, 8589934591, 17179869183, 34359738367, 68719476735, 137438953471, 274877906943, 549755813887, 34359738367, 1133871366143, 3332894621695, 7730941132799, 16527034155007, 35184372088831, 70368744177663, 140737488355327]
theorem target_similar.tab1 : rtab .any (opsOf Try.f36 1) = target_similar.T1 := by kernel_rfl
theorem target_similar.bits1 : waitsOk target_similar.T1.2 target_similar.B1 = true := by kernel_rfl
set_option maxHeartbeats 8000000 in
set_option maxRecDepth 100000 in
theorem target_similar.calls (k : Nat) (a0_0 : Int) (a0_1 : Int) (a0_2 : Int) (a0_3 : Int) (A0_4 : Option Addr) (c0_4 : Nat) (l0_4 : List (S47)) (A0_5 : Option Addr) (c0_5 : Nat) (l0_5 : List Int) (A0_6 : Option Addr) (c0_6 : Nat) (l0_6 : List Int) (a1_0 : Int) (a1_1 : Int) (a1_2 : Int) (a1_3 : Int) (A1_4 : Option Addr) (c1_4 : Nat) (l1_4 : List (S47)) (A1_5 : Option Addr) (c1_5 : Nat) (l1_5 : List Int) (A1_6 : Option Addr) (c1_6 : Nat) (l1_6 : List Int) (r : Bool) (w : World) (hr0_4 : Kd.C k47 w A0_4 l0_4.length l0_4) (hc0_4 : l0_4.length ≤ c0_4) (hr0_5 : Kd.C (Kd.int .i64) w A0_5 l0_5.length l0_5) (hc0_5 : l0_5.length ≤ c0_5) (hr0_6 : Kd.C (Kd.int .i64) w A0_6 l0_6.length l0_6) (hc0_6 : l0_6.length ≤ c0_6) (hr1_4 : Kd.C k47 w A1_4 l1_4.length l1_4) (hc1_4 : l1_4.length ≤ c1_4) (hr1_5 : Kd.C (Kd.int .i64) w A1_5 l1_5.length l1_5) (hc1_5 : l1_5.length ≤ c1_5) (hr1_6 : Kd.C (Kd.int .i64) w A1_6 l1_6.length l1_6) (hc1_6 : l1_6.length ≤ c1_6) (h : target_similar.f k a0_0 a0_1 a0_2 a0_3 l0_4 l0_5 l0_6 a1_0 a1_1 a1_2 a1_3 l1_4 l1_5 l1_6 = some r) :
  Calls Try.prog 36 #[.agg #[.int .i64 a0_0, .int .i64 a0_1, .int .i64 a0_2, .int .i64 a0_3, .slice A0_4 l0_4.length c0_4, .slice A0_5 l0_5.length c0_5, .slice A0_6 l0_6.length c0_6], .agg #[.int .i64 a1_0, .int .i64 a1_1, .int .i64 a1_2, .int .i64 a1_3, .slice A1_4 l1_4.length c1_4, .slice A1_5 l1_5.length c1_5, .slice A1_6 l1_6.length c1_6]] w fun e w' => e = .returned (.bool r) ∧ Below w.heap.size w w' := by
 have hu28 := Try.underlying28; have HR0_4 := Aside0.mk hr0_4; have HC0_4 := Aside0.mk hc0_4; clear hr0_4 hc0_4; have HR0_5 := Aside0.mk hr0_5; have HC0_5 := Aside0.mk hc0_5; clear hr0_5 hc0_5; have HR0_6 := Aside0.mk hr0_6; have HC0_6 := Aside0.mk hc0_6; clear hr0_6 hc0_6; have HR1_4 := Aside0.mk hr1_4; have HC1_4 := Aside0.mk hc1_4; clear hr1_4 hc1_4; have HR1_5 := Aside0.mk hr1_5; have HC1_5 := Aside0.mk hc1_5; clear hr1_5 hc1_5; have HR1_6 := Aside0.mk hr1_6; have HC1_6 := Aside0.mk hc1_6; clear hr1_6 hc1_6; have HB := Aside0.mk (Below.refl w.heap.size w)
 have H : ((target_Valid.f k a0_0 a0_1 a0_2 a0_3 l0_4 l0_5 l0_6).bind fun t220 => (if t220 = true then ((target_Valid.f k a1_0 a1_1 a1_2 a1_3 l1_4 l1_5 l1_6).bind fun t221 => (if t221 = true then (if a0_0 = a1_0 then (if a0_1 = a1_1 then (if a0_2 = a1_2 then (if a0_3 = a1_3 then (if 0 < (l0_4.length : Int) then (if 0 < (l1_4.length : Int) then (some (((rd_T47 l0_4 0).f0) == ((rd_T47 l1_4 0).f0))) else (none)) else (none)) else (some false)) else (some false)) else (some false)) else (some false)) else (some false))) else (some false))) = some r := h
 clear h
 replace H := Option.bind_eq_some_iff.mp H
 obtain ⟨t220, A30, H⟩ := H
 replace H : (if t220 = true then ((target_Valid.f k a1_0 a1_1 a1_2 a1_3 l1_4 l1_5 l1_6).bind fun t221 => (if t221 = true then (if a0_0 = a1_0 then (if a0_1 = a1_1 then (if a0_2 = a1_2 then (if a0_3 = a1_3 then (if 0 < (l0_4.length : Int) then (if 0 < (l1_4.length : Int) then (some (((rd_T47 l0_4 0).f0) == ((rd_T47 l1_4 0).f0))) else (none)) else (none)) else (some false)) else (some false)) else (some false)) else (some false)) else (some false))) else (some false)) = some r := H
 have A3 := Aside0.mk A30; clear A30
 by_cases c4 : t220 = true
 ·subst c4
  have H1 : ((target_Valid.f k a1_0 a1_1 a1_2 a1_3 l1_4 l1_5 l1_6).bind fun t221 => (if t221 = true then (if a0_0 = a1_0 then (if a0_1 = a1_1 then (if a0_2 = a1_2 then (if a0_3 = a1_3 then (if 0 < (l0_4.length : Int) then (if 0 < (l1_4.length : Int) then (some (((rd_T47 l0_4 0).f0) == ((rd_T47 l1_4 0).f0))) else (none)) else (none)) else (some false)) else (some false)) else (some false)) else (some false)) else (some false))) = some r := by rw [if_pos rfl] at H; exact H
  clear H; have H := H1; clear H1
  replace H := Option.bind_eq_some_iff.mp H
  obtain ⟨t221, A50, H⟩ := H
  replace H : (if t221 = true then (if a0_0 = a1_0 then (if a0_1 = a1_1 then (if a0_2 = a1_2 then (if a0_3 = a1_3 then (if 0 < (l0_4.length : Int) then (if 0 < (l1_4.length : Int) then (some (((rd_T47 l0_4 0).f0) == ((rd_T47 l1_4 0).f0))) else (none)) else (none)) else (some false)) else (some false)) else (some false)) else (some false)) else (some false)) = some r := H
  have A5 := Aside0.mk A50; clear A50
  by_cases c6 : t221 = true
  ·subst c6
   have H1 : (if a0_0 = a1_0 then (if a0_1 = a1_1 then (if a0_2 = a1_2 then (if a0_3 = a1_3 then (if 0 < (l0_4.length : Int) then (if 0 < (l1_4.length : Int) then (some (((rd_T47 l0_4 0).f0) == ((rd_T47 l1_4 0).f0))) else (none)) else (none)) else (some false)) else (some false)) else (some false)) else (some false)) = some r := by rw [if_pos rfl] at H; exact H
   clear H; have H := H1; clear H1
   by_cases c7 : a0_0 = a1_0
   ·rw [if_pos c7] at H
    have c7b0 : (a0_0 == a1_0) = true := beq_iff_eq.mpr c7
    have c7b1 : (a0_0 != a1_0) = false := bne_eq_false_iff_eq.mpr c7
    clear c7
    by_cases c8 : a0_1 = a1_1
    ·rw [if_pos c8] at H
     have c8b0 : (a0_1 == a1_1) = true := beq_iff_eq.mpr c8
     have c8b1 : (a0_1 != a1_1) = false := bne_eq_false_iff_eq.mpr c8
     clear c8
     by_cases c9 : a0_2 = a1_2
     ·rw [if_pos c9] at H
      have c9b0 : (a0_2 == a1_2) = true := beq_iff_eq.mpr c9
      have c9b1 : (a0_2 != a1_2) = false := bne_eq_false_iff_eq.mpr c9
      clear c9
      by_cases c10 : a0_3 = a1_3
      ·rw [if_pos c10] at H
       have c10b0 : (a0_3 == a1_3) = true := beq_iff_eq.mpr c10
       have c10b1 : (a0_3 != a1_3) = false := bne_eq_false_iff_eq.mpr c10
       clear c10
       by_cases c11 : 0 < (l0_4.length : Int)
       ·rw [if_pos c11] at H
        have c11b0 : decide (0 < (l0_4.length : Int)) = true := decide_eq_true c11
        have c11b1 : decide (0 < l0_4.length) = true := decide_eq_true (by omega)
        clear c11
        by_cases c12 : 0 < (l1_4.length : Int)
        ·rw [if_pos c12] at H
         have c12b0 : decide (0 < (l1_4.length : Int)) = true := decide_eq_true c12
         have c12b1 : decide (0 < l1_4.length) = true := decide_eq_true (by omega)
         clear c12
         obtain rfl := Option.some.inj H
         go_enter Try.func36, Try.ntmps36
         try go_wp2_with (first | ((with_reducible refine gate_dst (N := 2) rfl ?_); refine box_event ?hg (N := 2) ?hd (cs := #[.int .i64 a0_0, .int .i64 a0_1, .int .i64 a0_2, .int .i64 a0_3, .slice A0_4 l0_4.length c0_4, .slice A0_5 l0_5.length c0_5, .slice A0_6 l0_6.length c0_6]) (t := 28) ?hr ?_; (case hd => rfl); (case hg => rfl); (case hr => first | (go_simp; done) | (go_simp; rfl)); intro gb218 hg w13 hbox hb; have BK218 := Aside0.mk (hbox); have GW218 := ws HB hg; have GE218 := ws HB hg; replace HB := bs HB hb; clear hb hbox hg) | ((with_reducible refine gate_dst (N := 3) rfl ?_); refine box_event ?hg (N := 3) ?hd (cs := #[.int .i64 a1_0, .int .i64 a1_1, .int .i64 a1_2, .int .i64 a1_3, .slice A1_4 l1_4.length c1_4, .slice A1_5 l1_5.length c1_5, .slice A1_6 l1_6.length c1_6]) (t := 28) ?hr ?_; (case hd => rfl); (case hg => rfl); (case hr => first | (go_simp; done) | (go_simp; rfl)); intro gb219 hg w14 hbox hb; have BK219 := Aside0.mk (hbox); have GW219 := ws HB hg; have GE219 := ws HB hg; have NB218_219 := nl BK218 hg; have NB219_218 := ng BK218 hg; replace BK218 := ub BK218 hb; replace HB := bs HB hb; clear hb hbox hg))
         replace BK218 := Aside0.mk (blk_drew BK218.out); replace BK219 := Aside0.mk (blk_drew BK219.out); replace HB := Aside0.mk (below_drew1 HB.out)
         have p222 : 0 ≤ (0 : Int) := (by omega)
         have q222 : 0 < (l0_4.length : Int) := of_decide_eq_true (by first | (with_reducible assumption) | assumption)
         obtain ⟨ad222, A222_3, c222_3, e222, hx222_0, hx222_1, hx222_2, hx222_3, hl222_3, hi222_3⟩ := at_T47 HR0_4.out 0 p222 q222
         have hw222_3 := hx222_3
         (try rw [show ((0 : Int)).toNat = 0 from rfl] at hw222_3)
         (try rw [show 0 * 4 = 0 from rfl] at hw222_3)
         (try rw [Addr.add_zero'] at hw222_3)
         have hw222_2 := hx222_2
         (try rw [show ((0 : Int)).toNat = 0 from rfl] at hw222_2)
         (try rw [show 0 * 4 = 0 from rfl] at hw222_2)
         (try rw [Addr.add_zero'] at hw222_2)
         have hw222_1 := hx222_1
         (try rw [show ((0 : Int)).toNat = 0 from rfl] at hw222_1)
         (try rw [show 0 * 4 = 0 from rfl] at hw222_1)
         (try rw [Addr.add_zero'] at hw222_1)
         have hw222_0 := hx222_0
         (try rw [show ((0 : Int)).toNat = 0 from rfl] at hw222_0)
         (try rw [show 0 * 4 = 0 from rfl] at hw222_0)
         (try rw [Addr.add_zero'] at hw222_0)
         cases e222
         have qi222 : (0 < l0_4.length) = True := eq_true (by omega)
         (try rw [show ((0 : Int)).toNat = 0 from rfl] at hx222_0)
         (try rw [show 0 * 4 = 0 from rfl] at hx222_0)
         (try rw [Addr.add_zero'] at hx222_0)
         (try rw [show ((0 : Int)).toNat = 0 from rfl] at hx222_1)
         (try rw [show 0 * 4 = 0 from rfl] at hx222_1)
         (try rw [Addr.add_zero'] at hx222_1)
         (try rw [show ((0 : Int)).toNat = 0 from rfl] at hx222_2)
         (try rw [show 0 * 4 = 0 from rfl] at hx222_2)
         (try rw [Addr.add_zero'] at hx222_2)
         (try rw [show ((0 : Int)).toNat = 0 from rfl] at hx222_3)
         (try rw [show 0 * 4 = 0 from rfl] at hx222_3)
         (try rw [Addr.add_zero'] at hx222_3)
         replace hx222_0 := (HB.out.cell (World.block_lt_of_cell? w _ hx222_0)).trans hx222_0
         replace hx222_1 := (HB.out.cell (World.block_lt_of_cell? w _ hx222_1)).trans hx222_1
         replace hx222_2 := (HB.out.cell (World.block_lt_of_cell? w _ hx222_2)).trans hx222_2
         replace hx222_3 := (HB.out.cell (World.block_lt_of_cell? w _ hx222_3)).trans hx222_3
         have HR222_3 := Aside0.mk hi222_3; have HC222_3 := Aside0.mk hl222_3; clear hi222_3 hl222_3
         replace p222 := eq_true p222
         replace q222 := eq_true q222
         have p223 : 0 ≤ (0 : Int) := (by omega)
         have q223 : 0 < (l1_4.length : Int) := of_decide_eq_true (by first | (with_reducible assumption) | assumption)
         obtain ⟨ad223, A223_3, c223_3, e223, hx223_0, hx223_1, hx223_2, hx223_3, hl223_3, hi223_3⟩ := at_T47 HR1_4.out 0 p223 q223
         have hw223_3 := hx223_3
         (try rw [show ((0 : Int)).toNat = 0 from rfl] at hw223_3)
         (try rw [show 0 * 4 = 0 from rfl] at hw223_3)
         (try rw [Addr.add_zero'] at hw223_3)
         have hw223_2 := hx223_2
         (try rw [show ((0 : Int)).toNat = 0 from rfl] at hw223_2)
         (try rw [show 0 * 4 = 0 from rfl] at hw223_2)
         (try rw [Addr.add_zero'] at hw223_2)
         have hw223_1 := hx223_1
         (try rw [show ((0 : Int)).toNat = 0 from rfl] at hw223_1)
         (try rw [show 0 * 4 = 0 from rfl] at hw223_1)
         (try rw [Addr.add_zero'] at hw223_1)
         have hw223_0 := hx223_0
         (try rw [show ((0 : Int)).toNat = 0 from rfl] at hw223_0)
         (try rw [show 0 * 4 = 0 from rfl] at hw223_0)
         (try rw [Addr.add_zero'] at hw223_0)
         cases e223
         have qi223 : (0 < l1_4.length) = True := eq_true (by omega)
         (try rw [show ((0 : Int)).toNat = 0 from rfl] at hx223_0)
         (try rw [show 0 * 4 = 0 from rfl] at hx223_0)
         (try rw [Addr.add_zero'] at hx223_0)
         (try rw [show ((0 : Int)).toNat = 0 from rfl] at hx223_1)
         (try rw [show 0 * 4 = 0 from rfl] at hx223_1)
         (try rw [Addr.add_zero'] at hx223_1)
         (try rw [show ((0 : Int)).toNat = 0 from rfl] at hx223_2)
         (try rw [show 0 * 4 = 0 from rfl] at hx223_2)
         (try rw [Addr.add_zero'] at hx223_2)
         (try rw [show ((0 : Int)).toNat = 0 from rfl] at hx223_3)
         (try rw [show 0 * 4 = 0 from rfl] at hx223_3)
         (try rw [Addr.add_zero'] at hx223_3)
         replace hx223_0 := (HB.out.cell (World.block_lt_of_cell? w _ hx223_0)).trans hx223_0
         replace hx223_1 := (HB.out.cell (World.block_lt_of_cell? w _ hx223_1)).trans hx223_1
         replace hx223_2 := (HB.out.cell (World.block_lt_of_cell? w _ hx223_2)).trans hx223_2
         replace hx223_3 := (HB.out.cell (World.block_lt_of_cell? w _ hx223_3)).trans hx223_3
         have HR223_3 := Aside0.mk hi223_3; have HC223_3 := Aside0.mk hl223_3; clear hi223_3 hl223_3
         replace p223 := eq_true p223
         replace q223 := eq_true q223
         refine start_ (n := 48) (S := fun w' => w'.cell? ⟨gb218, 0, none⟩ = some (.int .i64 a0_0) ∧ w'.cell? ⟨gb218, 1, none⟩ = some (.int .i64 a0_1) ∧ w'.cell? ⟨gb218, 2, none⟩ = some (.int .i64 a0_2) ∧ w'.cell? ⟨gb218, 3, none⟩ = some (.int .i64 a0_3) ∧ w'.cell? ⟨gb218, 4, none⟩ = some (.slice (some ad222) l0_4.length c0_4) ∧ w'.cell? ⟨gb218, 5, none⟩ = some (.slice A0_5 l0_5.length c0_5) ∧ w'.cell? ⟨gb218, 6, none⟩ = some (.slice A0_6 l0_6.length c0_6) ∧ w'.cell? ⟨gb219, 0, none⟩ = some (.int .i64 a1_0) ∧ w'.cell? ⟨gb219, 1, none⟩ = some (.int .i64 a1_1) ∧ w'.cell? ⟨gb219, 2, none⟩ = some (.int .i64 a1_2) ∧ w'.cell? ⟨gb219, 3, none⟩ = some (.int .i64 a1_3) ∧ w'.cell? ⟨gb219, 4, none⟩ = some (.slice (some ad223) l1_4.length c1_4) ∧ w'.cell? ⟨gb219, 5, none⟩ = some (.slice A1_5 l1_5.length c1_5) ∧ w'.cell? ⟨gb219, 6, none⟩ = some (.slice A1_6 l1_6.length c1_6) ∧ w'.cell? ad222 = some (.int .i64 ((rd_T47 l0_4 0).f0)) ∧ w'.cell? ⟨ad222.block, ad222.off + 1, none⟩ = some (.int .i64 ((rd_T47 l0_4 0).f1)) ∧ w'.cell? ⟨ad222.block, ad222.off + 2, none⟩ = some (.int .i64 ((rd_T47 l0_4 0).f2)) ∧ w'.cell? ⟨ad222.block, ad222.off + 3, none⟩ = some (.slice A222_3 ((rd_T47 l0_4 0).f3).length c222_3) ∧ w'.cell? ad223 = some (.int .i64 ((rd_T47 l1_4 0).f0)) ∧ w'.cell? ⟨ad223.block, ad223.off + 1, none⟩ = some (.int .i64 ((rd_T47 l1_4 0).f1)) ∧ w'.cell? ⟨ad223.block, ad223.off + 2, none⟩ = some (.int .i64 ((rd_T47 l1_4 0).f2)) ∧ w'.cell? ⟨ad223.block, ad223.off + 3, none⟩ = some (.slice A223_3 ((rd_T47 l1_4 0).f3).length c223_3)) (ds := []) #[false, false, false, false, false, false, false, false, false, false, false, false, false, false, false, false, false, false, false, false, false, false, false, false, false, false, false, false, false, false, false, false, false, false, false, false, false, false, false, false, false, false, false, false, false, false, false, false] (by kernel_rfl) rfl rfl ⟨bc BK218 0, bc BK218 1, bc BK218 2, bc BK218 3, bc BK218 4, bc BK218 5, bc BK218 6, bc BK219 0, bc BK219 1, bc BK219 2, bc BK219 3, bc BK219 4, bc BK219 5, bc BK219 6, ((HB.out.cell (World.block_lt_of_cell? w _ hw222_0)).trans hw222_0), ((HB.out.cell (World.block_lt_of_cell? w _ hw222_1)).trans hw222_1), ((HB.out.cell (World.block_lt_of_cell? w _ hw222_2)).trans hw222_2), ((HB.out.cell (World.block_lt_of_cell? w _ hw222_3)).trans hw222_3), ((HB.out.cell (World.block_lt_of_cell? w _ hw223_0)).trans hw223_0), ((HB.out.cell (World.block_lt_of_cell? w _ hw223_1)).trans hw223_1), ((HB.out.cell (World.block_lt_of_cell? w _ hw223_2)).trans hw223_2), ((HB.out.cell (World.block_lt_of_cell? w _ hw223_3)).trans hw223_3)⟩ (fun hHeld => ?_); refine with_tabW target_similar.tab1 target_similar.bits1 (fun HT_ HW_ => ?_)
         generalize w14.drew = w15 at BK218 BK219 HB HR222_3 HR223_3 hx222_0 hx222_1 hx222_2 hx222_3 hx223_0 hx223_1 hx223_2 hx223_3 hHeld ⊢
         refine tk HT_ HW_ hHeld 0 (some 5) rfl (by rintro w' ⟨s0, s1, s2, s3, s4, s5, s6, s7, s8, s9, s10, s11, s12, s13, s14, s15, s16, s17, s18, s19, s20, s21⟩; go_simp; with_reducible rfl) ?_
         refine one_ (i := 1) (N := some 6) #[true, true, false, false, false, false, false, false, false, false, false, false, false, false, false, false, false, false, false, false, false, false, false, false, false, false, false, false, false, false, false, false, false, false, false, false, false, false, false, false, false, false, false, false, false, false, false, false] rfl rfl (one_of HT_.out (by kernel_rfl)) (by decide) (fun K hK => ?_)
         refine goes_ Try.func11 (by kernel_rfl) rfl #[.agg #[.int .i64 a0_0, .int .i64 a0_1, .int .i64 a0_2, .int .i64 a0_3, .slice (some ad222) l0_4.length c0_4, .slice A0_5 l0_5.length c0_5, .slice A0_6 l0_6.length c0_6]] (by rfl) rfl rfl (by (try simp only [List.map_toArray, List.map_cons, List.map_nil]); first | done | rfl | (simp only [List.length_drop, List.length_take]; rfl)) ?_
         with_reducible refine (target_Valid.calls k a0_0 a0_1 a0_2 a0_3 _ _ l0_4 _ _ l0_5 _ _ l0_6 true _ ?side1 ?side2 ?side3 ?side4 ?side5 ?side6 A3.out).mono ?_
         (case side1 => repeat (first | exact (Kd.C_below HR0_4.out HB.out) | (with_reducible refine Kd.C_alloc ?_ _) | (with_reducible refine Kd.C_drewN ?_ _) | (with_reducible refine Kd.C_drew ?_)))
         (case side2 => exact HC0_4.out)
         (case side3 => repeat (first | exact (Kd.C_below HR0_5.out HB.out) | (with_reducible refine Kd.C_alloc ?_ _) | (with_reducible refine Kd.C_drewN ?_ _) | (with_reducible refine Kd.C_drew ?_)))
         (case side4 => exact HC0_5.out)
         (case side5 => repeat (first | exact (Kd.C_below HR0_6.out HB.out) | (with_reducible refine Kd.C_alloc ?_ _) | (with_reducible refine Kd.C_drewN ?_ _) | (with_reducible refine Kd.C_drew ?_)))
         (case side6 => exact HC0_6.out)
         rintro e w16 ⟨rfl, hb⟩; refine ⟨_, rfl, ?_⟩; replace BK218 := ub BK218 hb; replace BK219 := ub BK219 hb; replace HB := bs HB hb; (try clear hb); (try clear hb2); (try clear hk); (try clear hi)
         refine hK.out _ _ ⟨bc BK218 0, bc BK218 1, bc BK218 2, bc BK218 3, bc BK218 4, bc BK218 5, bc BK218 6, bc BK219 0, bc BK219 1, bc BK219 2, bc BK219 3, bc BK219 4, bc BK219 5, bc BK219 6, ((HB.out.cell (World.block_lt_of_cell? w _ hw222_0)).trans hw222_0), ((HB.out.cell (World.block_lt_of_cell? w _ hw222_1)).trans hw222_1), ((HB.out.cell (World.block_lt_of_cell? w _ hw222_2)).trans hw222_2), ((HB.out.cell (World.block_lt_of_cell? w _ hw222_3)).trans hw222_3), ((HB.out.cell (World.block_lt_of_cell? w _ hw223_0)).trans hw223_0), ((HB.out.cell (World.block_lt_of_cell? w _ hw223_1)).trans hw223_1), ((HB.out.cell (World.block_lt_of_cell? w _ hw223_2)).trans hw223_2), ((HB.out.cell (World.block_lt_of_cell? w _ hw223_3)).trans hw223_3)⟩ (fun hHeld => ?_)
         clear hK K
         refine norm_ (a' := ?_) ?_ ?_
         rotate_left
         ·show Act.put _ (some 6) _ = _
          simp only [Act.put, List.setIfInBounds_toArray, List.set_cons_zero, List.set_cons_succ, i64_w, i32_w]
          rfl
         refine on HT_ 2 (some 7) ?_
         refine tk HT_ HW_ hHeld 3 (some 8) rfl (by rintro w' ⟨s0, s1, s2, s3, s4, s5, s6, s7, s8, s9, s10, s11, s12, s13, s14, s15, s16, s17, s18, s19, s20, s21⟩; go_simp; with_reducible rfl) ?_
         refine one_ (i := 4) (N := some 9) #[true, true, true, true, true, false, false, false, false, false, false, false, false, false, false, false, false, false, false, false, false, false, false, false, false, false, false, false, false, false, false, false, false, false, false, false, false, false, false, false, false, false, false, false, false, false, false, false] rfl rfl (one_of HT_.out (by kernel_rfl)) (by decide) (fun K hK => ?_)
         refine goes_ Try.func11 (by kernel_rfl) rfl #[.agg #[.int .i64 a1_0, .int .i64 a1_1, .int .i64 a1_2, .int .i64 a1_3, .slice (some ad223) l1_4.length c1_4, .slice A1_5 l1_5.length c1_5, .slice A1_6 l1_6.length c1_6]] (by rfl) rfl rfl (by (try simp only [List.map_toArray, List.map_cons, List.map_nil]); first | done | rfl | (simp only [List.length_drop, List.length_take]; rfl)) ?_
         with_reducible refine (target_Valid.calls k a1_0 a1_1 a1_2 a1_3 _ _ l1_4 _ _ l1_5 _ _ l1_6 true _ ?side1 ?side2 ?side3 ?side4 ?side5 ?side6 A5.out).mono ?_
         (case side1 => repeat (first | exact (Kd.C_below HR1_4.out HB.out) | (with_reducible refine Kd.C_alloc ?_ _) | (with_reducible refine Kd.C_drewN ?_ _) | (with_reducible refine Kd.C_drew ?_)))
         (case side2 => exact HC1_4.out)
         (case side3 => repeat (first | exact (Kd.C_below HR1_5.out HB.out) | (with_reducible refine Kd.C_alloc ?_ _) | (with_reducible refine Kd.C_drewN ?_ _) | (with_reducible refine Kd.C_drew ?_)))
         (case side4 => exact HC1_5.out)
         (case side5 => repeat (first | exact (Kd.C_below HR1_6.out HB.out) | (with_reducible refine Kd.C_alloc ?_ _) | (with_reducible refine Kd.C_drewN ?_ _) | (with_reducible refine Kd.C_drew ?_)))
         (case side6 => exact HC1_6.out)
         rintro e w17 ⟨rfl, hb⟩; refine ⟨_, rfl, ?_⟩; replace BK218 := ub BK218 hb; replace BK219 := ub BK219 hb; replace HB := bs HB hb; (try clear hb); (try clear hb2); (try clear hk); (try clear hi)
         refine hK.out _ _ ⟨bc BK218 0, bc BK218 1, bc BK218 2, bc BK218 3, bc BK218 4, bc BK218 5, bc BK218 6, bc BK219 0, bc BK219 1, bc BK219 2, bc BK219 3, bc BK219 4, bc BK219 5, bc BK219 6, ((HB.out.cell (World.block_lt_of_cell? w _ hw222_0)).trans hw222_0), ((HB.out.cell (World.block_lt_of_cell? w _ hw222_1)).trans hw222_1), ((HB.out.cell (World.block_lt_of_cell? w _ hw222_2)).trans hw222_2), ((HB.out.cell (World.block_lt_of_cell? w _ hw222_3)).trans hw222_3), ((HB.out.cell (World.block_lt_of_cell? w _ hw223_0)).trans hw223_0), ((HB.out.cell (World.block_lt_of_cell? w _ hw223_1)).trans hw223_1), ((HB.out.cell (World.block_lt_of_cell? w _ hw223_2)).trans hw223_2), ((HB.out.cell (World.block_lt_of_cell? w _ hw223_3)).trans hw223_3)⟩ (fun hHeld => ?_)
         clear hK K
         refine norm_ (a' := ?_) ?_ ?_
         rotate_left
         ·show Act.put _ (some 9) _ = _
          simp only [Act.put, List.setIfInBounds_toArray, List.set_cons_zero, List.set_cons_succ, i64_w, i32_w]
          rfl
         refine on HT_ 5 (some 10) ?_
         refine on HT_ 6 (some 11) ?_
         refine on HT_ 7 (some 12) ?_
         refine on HT_ 9 (some 14) ?_
         refine tk HT_ HW_ hHeld 8 (some 13) rfl (by rintro w' ⟨s0, s1, s2, s3, s4, s5, s6, s7, s8, s9, s10, s11, s12, s13, s14, s15, s16, s17, s18, s19, s20, s21⟩; go_simp; with_reducible rfl) ?_
         refine tk HT_ HW_ hHeld 10 (some 15) rfl (by rintro w' ⟨s0, s1, s2, s3, s4, s5, s6, s7, s8, s9, s10, s11, s12, s13, s14, s15, s16, s17, s18, s19, s20, s21⟩; go_simp; with_reducible rfl) ?_
         refine on HT_ 11 (some 16) ?_
         refine on HT_ 12 (some 17) ?_
         refine on HT_ 13 (some 18) ?_
         refine on HT_ 14 (some 19) ?_
         refine on HT_ 16 (some 21) ?_
         refine tk HT_ HW_ hHeld 15 (some 20) rfl (by rintro w' ⟨s0, s1, s2, s3, s4, s5, s6, s7, s8, s9, s10, s11, s12, s13, s14, s15, s16, s17, s18, s19, s20, s21⟩; go_simp; with_reducible rfl) ?_
         refine tk HT_ HW_ hHeld 17 (some 22) rfl (by rintro w' ⟨s0, s1, s2, s3, s4, s5, s6, s7, s8, s9, s10, s11, s12, s13, s14, s15, s16, s17, s18, s19, s20, s21⟩; go_simp; with_reducible rfl) ?_
         refine on HT_ 18 (some 23) ?_
         refine on HT_ 19 (some 24) ?_
         refine on HT_ 20 (some 25) ?_
         refine on HT_ 21 (some 26) ?_
         refine on HT_ 23 (some 28) ?_
         refine tk HT_ HW_ hHeld 22 (some 27) rfl (by rintro w' ⟨s0, s1, s2, s3, s4, s5, s6, s7, s8, s9, s10, s11, s12, s13, s14, s15, s16, s17, s18, s19, s20, s21⟩; go_simp; with_reducible rfl) ?_
         refine tk HT_ HW_ hHeld 24 (some 29) rfl (by rintro w' ⟨s0, s1, s2, s3, s4, s5, s6, s7, s8, s9, s10, s11, s12, s13, s14, s15, s16, s17, s18, s19, s20, s21⟩; go_simp; with_reducible rfl) ?_
         refine on HT_ 25 (some 30) ?_
         refine on HT_ 26 (some 31) ?_
         refine on HT_ 27 (some 32) ?_
         refine on HT_ 28 (some 33) ?_
         refine on HT_ 30 (some 35) ?_
         refine tk HT_ HW_ hHeld 29 (some 34) rfl (by rintro w' ⟨s0, s1, s2, s3, s4, s5, s6, s7, s8, s9, s10, s11, s12, s13, s14, s15, s16, s17, s18, s19, s20, s21⟩; go_simp; with_reducible rfl) ?_
         refine tk HT_ HW_ hHeld 31 (some 36) rfl (by rintro w' ⟨s0, s1, s2, s3, s4, s5, s6, s7, s8, s9, s10, s11, s12, s13, s14, s15, s16, s17, s18, s19, s20, s21⟩; go_simp; with_reducible rfl) ?_
         refine on HT_ 32 (some 37) ?_
         refine on HT_ 33 (some 38) ?_
         refine on HT_ 34 (some 39) ?_
         refine on HT_ 35 (some 40) ?_
         refine on HT_ 40 (some 45) ?_
         refine tk HT_ HW_ hHeld 36 (some 41) rfl (by rintro w' ⟨s0, s1, s2, s3, s4, s5, s6, s7, s8, s9, s10, s11, s12, s13, s14, s15, s16, s17, s18, s19, s20, s21⟩; go_simp; with_reducible rfl) ?_
         refine on HT_ 37 (some 42) ?_
         refine on HT_ 38 (some 43) ?_
         refine tk HT_ HW_ hHeld 39 (some 44) rfl (by rintro w' ⟨s0, s1, s2, s3, s4, s5, s6, s7, s8, s9, s10, s11, s12, s13, s14, s15, s16, s17, s18, s19, s20, s21⟩; go_simp; with_reducible rfl) ?_
         refine tk HT_ HW_ hHeld 41 (some 46) rfl (by rintro w' ⟨s0, s1, s2, s3, s4, s5, s6, s7, s8, s9, s10, s11, s12, s13, s14, s15, s16, s17, s18, s19, s20, s21⟩; go_simp; with_reducible rfl) ?_
         refine on HT_ 42 (some 47) ?_
         refine on HT_ 43 (some 48) ?_
         refine tk HT_ HW_ hHeld 44 (some 49) rfl (by rintro w' ⟨s0, s1, s2, s3, s4, s5, s6, s7, s8, s9, s10, s11, s12, s13, s14, s15, s16, s17, s18, s19, s20, s21⟩; go_simp; with_reducible rfl) ?_
         refine on HT_ 45 (some 50) ?_
         refine on HT_ 46 (some 51) ?_
         refine on HT_ 47 (some 4) ?_
         refine done_ (done_of HT_.out (by kernel_rfl)) ?_
         try go_wp2
         go_ret
         exact ⟨by first | rfl | (simp [errW_none, errW_some] <;> rfl) | (simp [*, errW_none, errW_some] <;> rfl), by repeat (first | (with_reducible first | exact HB.out | apply below_alloc | apply pw_below_drewN | apply below_drew1 | refine below_set ?_ GE218.out | refine below_set ?_ GE219.out) | exact HB.out)⟩
        ·rw [if_neg c12] at H
         exact absurd H (by simp)
       ·rw [if_neg c11] at H
        exact absurd H (by simp)
      ·rw [if_neg c10] at H
       have c10b0 : (a0_3 == a1_3) = false := beq_eq_false_iff_ne.mpr c10
       have c10b1 : (a0_3 != a1_3) = true := bne_iff_ne.mpr c10
       obtain rfl := Option.some.inj H
       go_enter Try.func36, Try.ntmps36
       try go_wp2_with (first | ((with_reducible refine gate_dst (N := 2) rfl ?_); refine box_event ?hg (N := 2) ?hd (cs := #[.int .i64 a0_0, .int .i64 a0_1, .int .i64 a0_2, .int .i64 a0_3, .slice A0_4 l0_4.length c0_4, .slice A0_5 l0_5.length c0_5, .slice A0_6 l0_6.length c0_6]) (t := 28) ?hr ?_; (case hd => rfl); (case hg => rfl); (case hr => first | (go_simp; done) | (go_simp; rfl)); intro gb218 hg w18 hbox hb; have BK218 := Aside0.mk (hbox); have GW218 := ws HB hg; have GE218 := ws HB hg; replace HB := bs HB hb; clear hb hbox hg) | ((with_reducible refine gate_dst (N := 3) rfl ?_); refine box_event ?hg (N := 3) ?hd (cs := #[.int .i64 a1_0, .int .i64 a1_1, .int .i64 a1_2, .int .i64 a1_3, .slice A1_4 l1_4.length c1_4, .slice A1_5 l1_5.length c1_5, .slice A1_6 l1_6.length c1_6]) (t := 28) ?hr ?_; (case hd => rfl); (case hg => rfl); (case hr => first | (go_simp; done) | (go_simp; rfl)); intro gb219 hg w19 hbox hb; have BK219 := Aside0.mk (hbox); have GW219 := ws HB hg; have GE219 := ws HB hg; have NB218_219 := nl BK218 hg; have NB219_218 := ng BK218 hg; replace BK218 := ub BK218 hb; replace HB := bs HB hb; clear hb hbox hg))
       replace BK218 := Aside0.mk (blk_drew BK218.out); replace BK219 := Aside0.mk (blk_drew BK219.out); replace HB := Aside0.mk (below_drew1 HB.out)
       refine start_ (n := 48) (S := fun w' => w'.cell? ⟨gb218, 0, none⟩ = some (.int .i64 a0_0) ∧ w'.cell? ⟨gb218, 1, none⟩ = some (.int .i64 a0_1) ∧ w'.cell? ⟨gb218, 2, none⟩ = some (.int .i64 a0_2) ∧ w'.cell? ⟨gb218, 3, none⟩ = some (.int .i64 a0_3) ∧ w'.cell? ⟨gb218, 4, none⟩ = some (.slice A0_4 l0_4.length c0_4) ∧ w'.cell? ⟨gb218, 5, none⟩ = some (.slice A0_5 l0_5.length c0_5) ∧ w'.cell? ⟨gb218, 6, none⟩ = some (.slice A0_6 l0_6.length c0_6) ∧ w'.cell? ⟨gb219, 0, none⟩ = some (.int .i64 a1_0) ∧ w'.cell? ⟨gb219, 1, none⟩ = some (.int .i64 a1_1) ∧ w'.cell? ⟨gb219, 2, none⟩ = some (.int .i64 a1_2) ∧ w'.cell? ⟨gb219, 3, none⟩ = some (.int .i64 a1_3) ∧ w'.cell? ⟨gb219, 4, none⟩ = some (.slice A1_4 l1_4.length c1_4) ∧ w'.cell? ⟨gb219, 5, none⟩ = some (.slice A1_5 l1_5.length c1_5) ∧ w'.cell? ⟨gb219, 6, none⟩ = some (.slice A1_6 l1_6.length c1_6)) (ds := []) #[false, false, false, false, false, false, false, false, false, false, false, false, false, false, false, false, false, false, false, false, false, false, false, false, false, false, false, false, false, false, false, false, false, false, false, false, false, false, false, false, false, false, false, false, false, false, false, false] (by kernel_rfl) rfl rfl ⟨bc BK218 0, bc BK218 1, bc BK218 2, bc BK218 3, bc BK218 4, bc BK218 5, bc BK218 6, bc BK219 0, bc BK219 1, bc BK219 2, bc BK219 3, bc BK219 4, bc BK219 5, bc BK219 6⟩ (fun hHeld => ?_); refine with_tabW target_similar.tab1 target_similar.bits1 (fun HT_ HW_ => ?_)
       generalize w19.drew = w20 at BK218 BK219 HB hHeld ⊢
       refine tk HT_ HW_ hHeld 0 (some 5) rfl (by rintro w' ⟨s0, s1, s2, s3, s4, s5, s6, s7, s8, s9, s10, s11, s12, s13⟩; go_simp; with_reducible rfl) ?_
       refine one_ (i := 1) (N := some 6) #[true, true, false, false, false, false, false, false, false, false, false, false, false, false, false, false, false, false, false, false, false, false, false, false, false, false, false, false, false, false, false, false, false, false, false, false, false, false, false, false, false, false, false, false, false, false, false, false] rfl rfl (one_of HT_.out (by kernel_rfl)) (by decide) (fun K hK => ?_)
       refine goes_ Try.func11 (by kernel_rfl) rfl #[.agg #[.int .i64 a0_0, .int .i64 a0_1, .int .i64 a0_2, .int .i64 a0_3, .slice A0_4 l0_4.length c0_4, .slice A0_5 l0_5.length c0_5, .slice A0_6 l0_6.length c0_6]] (by rfl) rfl rfl (by (try simp only [List.map_toArray, List.map_cons, List.map_nil]); first | done | rfl | (simp only [List.length_drop, List.length_take]; rfl)) ?_
       with_reducible refine (target_Valid.calls k a0_0 a0_1 a0_2 a0_3 _ _ l0_4 _ _ l0_5 _ _ l0_6 true _ ?side1 ?side2 ?side3 ?side4 ?side5 ?side6 A3.out).mono ?_
       (case side1 => repeat (first | exact (Kd.C_below HR0_4.out HB.out) | (with_reducible refine Kd.C_alloc ?_ _) | (with_reducible refine Kd.C_drewN ?_ _) | (with_reducible refine Kd.C_drew ?_)))
       (case side2 => exact HC0_4.out)
       (case side3 => repeat (first | exact (Kd.C_below HR0_5.out HB.out) | (with_reducible refine Kd.C_alloc ?_ _) | (with_reducible refine Kd.C_drewN ?_ _) | (with_reducible refine Kd.C_drew ?_)))
       (case side4 => exact HC0_5.out)
       (case side5 => repeat (first | exact (Kd.C_below HR0_6.out HB.out) | (with_reducible refine Kd.C_alloc ?_ _) | (with_reducible refine Kd.C_drewN ?_ _) | (with_reducible refine Kd.C_drew ?_)))
       (case side6 => exact HC0_6.out)
       rintro e w21 ⟨rfl, hb⟩; refine ⟨_, rfl, ?_⟩; replace BK218 := ub BK218 hb; replace BK219 := ub BK219 hb; replace HB := bs HB hb; (try clear hb); (try clear hb2); (try clear hk); (try clear hi)
       refine hK.out _ _ ⟨bc BK218 0, bc BK218 1, bc BK218 2, bc BK218 3, bc BK218 4, bc BK218 5, bc BK218 6, bc BK219 0, bc BK219 1, bc BK219 2, bc BK219 3, bc BK219 4, bc BK219 5, bc BK219 6⟩ (fun hHeld => ?_)
       clear hK K
       refine norm_ (a' := ?_) ?_ ?_
       rotate_left
       ·show Act.put _ (some 6) _ = _
        simp only [Act.put, List.setIfInBounds_toArray, List.set_cons_zero, List.set_cons_succ, i64_w, i32_w]
        rfl
       refine on HT_ 2 (some 7) ?_
       refine tk HT_ HW_ hHeld 3 (some 8) rfl (by rintro w' ⟨s0, s1, s2, s3, s4, s5, s6, s7, s8, s9, s10, s11, s12, s13⟩; go_simp; with_reducible rfl) ?_
       refine one_ (i := 4) (N := some 9) #[true, true, true, true, true, false, false, false, false, false, false, false, false, false, false, false, false, false, false, false, false, false, false, false, false, false, false, false, false, false, false, false, false, false, false, false, false, false, false, false, false, false, false, false, false, false, false, false] rfl rfl (one_of HT_.out (by kernel_rfl)) (by decide) (fun K hK => ?_)
       refine goes_ Try.func11 (by kernel_rfl) rfl #[.agg #[.int .i64 a1_0, .int .i64 a1_1, .int .i64 a1_2, .int .i64 a1_3, .slice A1_4 l1_4.length c1_4, .slice A1_5 l1_5.length c1_5, .slice A1_6 l1_6.length c1_6]] (by rfl) rfl rfl (by (try simp only [List.map_toArray, List.map_cons, List.map_nil]); first | done | rfl | (simp only [List.length_drop, List.length_take]; rfl)) ?_
       with_reducible refine (target_Valid.calls k a1_0 a1_1 a1_2 a1_3 _ _ l1_4 _ _ l1_5 _ _ l1_6 true _ ?side1 ?side2 ?side3 ?side4 ?side5 ?side6 A5.out).mono ?_
       (case side1 => repeat (first | exact (Kd.C_below HR1_4.out HB.out) | (with_reducible refine Kd.C_alloc ?_ _) | (with_reducible refine Kd.C_drewN ?_ _) | (with_reducible refine Kd.C_drew ?_)))
       (case side2 => exact HC1_4.out)
       (case side3 => repeat (first | exact (Kd.C_below HR1_5.out HB.out) | (with_reducible refine Kd.C_alloc ?_ _) | (with_reducible refine Kd.C_drewN ?_ _) | (with_reducible refine Kd.C_drew ?_)))
       (case side4 => exact HC1_5.out)
       (case side5 => repeat (first | exact (Kd.C_below HR1_6.out HB.out) | (with_reducible refine Kd.C_alloc ?_ _) | (with_reducible refine Kd.C_drewN ?_ _) | (with_reducible refine Kd.C_drew ?_)))
       (case side6 => exact HC1_6.out)
       rintro e w22 ⟨rfl, hb⟩; refine ⟨_, rfl, ?_⟩; replace BK218 := ub BK218 hb; replace BK219 := ub BK219 hb; replace HB := bs HB hb; (try clear hb); (try clear hb2); (try clear hk); (try clear hi)
       refine hK.out _ _ ⟨bc BK218 0, bc BK218 1, bc BK218 2, bc BK218 3, bc BK218 4, bc BK218 5, bc BK218 6, bc BK219 0, bc BK219 1, bc BK219 2, bc BK219 3, bc BK219 4, bc BK219 5, bc BK219 6⟩ (fun hHeld => ?_)
       clear hK K
       refine norm_ (a' := ?_) ?_ ?_
       rotate_left
       ·show Act.put _ (some 9) _ = _
        simp only [Act.put, List.setIfInBounds_toArray, List.set_cons_zero, List.set_cons_succ, i64_w, i32_w]
        rfl
       refine on HT_ 5 (some 10) ?_
       refine on HT_ 6 (some 11) ?_
       refine on HT_ 7 (some 12) ?_
       refine on HT_ 9 (some 14) ?_
       refine tk HT_ HW_ hHeld 8 (some 13) rfl (by rintro w' ⟨s0, s1, s2, s3, s4, s5, s6, s7, s8, s9, s10, s11, s12, s13⟩; go_simp; with_reducible rfl) ?_
       refine tk HT_ HW_ hHeld 10 (some 15) rfl (by rintro w' ⟨s0, s1, s2, s3, s4, s5, s6, s7, s8, s9, s10, s11, s12, s13⟩; go_simp; with_reducible rfl) ?_
       refine on HT_ 11 (some 16) ?_
       refine on HT_ 12 (some 17) ?_
       refine on HT_ 13 (some 18) ?_
       refine on HT_ 14 (some 19) ?_
       refine on HT_ 16 (some 21) ?_
       refine tk HT_ HW_ hHeld 15 (some 20) rfl (by rintro w' ⟨s0, s1, s2, s3, s4, s5, s6, s7, s8, s9, s10, s11, s12, s13⟩; go_simp; with_reducible rfl) ?_
       refine tk HT_ HW_ hHeld 17 (some 22) rfl (by rintro w' ⟨s0, s1, s2, s3, s4, s5, s6, s7, s8, s9, s10, s11, s12, s13⟩; go_simp; with_reducible rfl) ?_
       refine on HT_ 18 (some 23) ?_
       refine on HT_ 19 (some 24) ?_
       refine on HT_ 20 (some 25) ?_
       refine on HT_ 21 (some 26) ?_
       refine on HT_ 23 (some 28) ?_
       refine tk HT_ HW_ hHeld 22 (some 27) rfl (by rintro w' ⟨s0, s1, s2, s3, s4, s5, s6, s7, s8, s9, s10, s11, s12, s13⟩; go_simp; with_reducible rfl) ?_
       refine tk HT_ HW_ hHeld 24 (some 29) rfl (by rintro w' ⟨s0, s1, s2, s3, s4, s5, s6, s7, s8, s9, s10, s11, s12, s13⟩; go_simp; with_reducible rfl) ?_
       refine on HT_ 25 (some 30) ?_
       refine on HT_ 26 (some 31) ?_
       refine on HT_ 27 (some 32) ?_
       refine on HT_ 28 (some 33) ?_
       refine on HT_ 30 (some 35) ?_
       refine tk HT_ HW_ hHeld 29 (some 34) rfl (by rintro w' ⟨s0, s1, s2, s3, s4, s5, s6, s7, s8, s9, s10, s11, s12, s13⟩; go_simp; with_reducible rfl) ?_
       refine tk HT_ HW_ hHeld 31 (some 36) rfl (by rintro w' ⟨s0, s1, s2, s3, s4, s5, s6, s7, s8, s9, s10, s11, s12, s13⟩; go_simp; with_reducible rfl) ?_
       refine on HT_ 32 (some 37) ?_
       refine on HT_ 33 (some 38) ?_
       refine on HT_ 34 (some 39) ?_
       refine off HT_ 35 (some 40) ?_
       refine off HT_ 36 (some 41) ?_
       refine off HT_ 37 (some 42) ?_
       refine off HT_ 38 (some 43) ?_
       refine off HT_ 39 (some 44) ?_
       refine off HT_ 40 (some 45) ?_
       refine off HT_ 41 (some 46) ?_
       refine off HT_ 42 (some 47) ?_
       refine off HT_ 43 (some 48) ?_
       refine off HT_ 44 (some 49) ?_
       refine off HT_ 45 (some 50) ?_
       refine on HT_ 46 (some 51) ?_
       refine on HT_ 47 (some 4) ?_
       refine done_ (done_of HT_.out (by kernel_rfl)) ?_
       try go_wp2
       go_ret
       exact ⟨by first | rfl | (simp [errW_none, errW_some] <;> rfl) | (simp [*, errW_none, errW_some] <;> rfl), by repeat (first | (with_reducible first | exact HB.out | apply below_alloc | apply pw_below_drewN | apply below_drew1 | refine below_set ?_ GE218.out | refine below_set ?_ GE219.out) | exact HB.out)⟩
     ·rw [if_neg c9] at H
      have c9b0 : (a0_2 == a1_2) = false := beq_eq_false_iff_ne.mpr c9
      have c9b1 : (a0_2 != a1_2) = true := bne_iff_ne.mpr c9
      obtain rfl := Option.some.inj H
      go_enter Try.func36, Try.ntmps36
      try go_wp2_with (first | ((with_reducible refine gate_dst (N := 2) rfl ?_); refine box_event ?hg (N := 2) ?hd (cs := #[.int .i64 a0_0, .int .i64 a0_1, .int .i64 a0_2, .int .i64 a0_3, .slice A0_4 l0_4.length c0_4, .slice A0_5 l0_5.length c0_5, .slice A0_6 l0_6.length c0_6]) (t := 28) ?hr ?_; (case hd => rfl); (case hg => rfl); (case hr => first | (go_simp; done) | (go_simp; rfl)); intro gb218 hg w23 hbox hb; have BK218 := Aside0.mk (hbox); have GW218 := ws HB hg; have GE218 := ws HB hg; replace HB := bs HB hb; clear hb hbox hg) | ((with_reducible refine gate_dst (N := 3) rfl ?_); refine box_event ?hg (N := 3) ?hd (cs := #[.int .i64 a1_0, .int .i64 a1_1, .int .i64 a1_2, .int .i64 a1_3, .slice A1_4 l1_4.length c1_4, .slice A1_5 l1_5.length c1_5, .slice A1_6 l1_6.length c1_6]) (t := 28) ?hr ?_; (case hd => rfl); (case hg => rfl); (case hr => first | (go_simp; done) | (go_simp; rfl)); intro gb219 hg w24 hbox hb; have BK219 := Aside0.mk (hbox); have GW219 := ws HB hg; have GE219 := ws HB hg; have NB218_219 := nl BK218 hg; have NB219_218 := ng BK218 hg; replace BK218 := ub BK218 hb; replace HB := bs HB hb; clear hb hbox hg))
      replace BK218 := Aside0.mk (blk_drew BK218.out); replace BK219 := Aside0.mk (blk_drew BK219.out); replace HB := Aside0.mk (below_drew1 HB.out)
      refine start_ (n := 48) (S := fun w' => w'.cell? ⟨gb218, 0, none⟩ = some (.int .i64 a0_0) ∧ w'.cell? ⟨gb218, 1, none⟩ = some (.int .i64 a0_1) ∧ w'.cell? ⟨gb218, 2, none⟩ = some (.int .i64 a0_2) ∧ w'.cell? ⟨gb218, 3, none⟩ = some (.int .i64 a0_3) ∧ w'.cell? ⟨gb218, 4, none⟩ = some (.slice A0_4 l0_4.length c0_4) ∧ w'.cell? ⟨gb218, 5, none⟩ = some (.slice A0_5 l0_5.length c0_5) ∧ w'.cell? ⟨gb218, 6, none⟩ = some (.slice A0_6 l0_6.length c0_6) ∧ w'.cell? ⟨gb219, 0, none⟩ = some (.int .i64 a1_0) ∧ w'.cell? ⟨gb219, 1, none⟩ = some (.int .i64 a1_1) ∧ w'.cell? ⟨gb219, 2, none⟩ = some (.int .i64 a1_2) ∧ w'.cell? ⟨gb219, 3, none⟩ = some (.int .i64 a1_3) ∧ w'.cell? ⟨gb219, 4, none⟩ = some (.slice A1_4 l1_4.length c1_4) ∧ w'.cell? ⟨gb219, 5, none⟩ = some (.slice A1_5 l1_5.length c1_5) ∧ w'.cell? ⟨gb219, 6, none⟩ = some (.slice A1_6 l1_6.length c1_6)) (ds := []) #[false, false, false, false, false, false, false, false, false, false, false, false, false, false, false, false, false, false, false, false, false, false, false, false, false, false, false, false, false, false, false, false, false, false, false, false, false, false, false, false, false, false, false, false, false, false, false, false] (by kernel_rfl) rfl rfl ⟨bc BK218 0, bc BK218 1, bc BK218 2, bc BK218 3, bc BK218 4, bc BK218 5, bc BK218 6, bc BK219 0, bc BK219 1, bc BK219 2, bc BK219 3, bc BK219 4, bc BK219 5, bc BK219 6⟩ (fun hHeld => ?_); refine with_tabW target_similar.tab1 target_similar.bits1 (fun HT_ HW_ => ?_)
      generalize w24.drew = w25 at BK218 BK219 HB hHeld ⊢
      refine tk HT_ HW_ hHeld 0 (some 5) rfl (by rintro w' ⟨s0, s1, s2, s3, s4, s5, s6, s7, s8, s9, s10, s11, s12, s13⟩; go_simp; with_reducible rfl) ?_
      refine one_ (i := 1) (N := some 6) #[true, true, false, false, false, false, false, false, false, false, false, false, false, false, false, false, false, false, false, false, false, false, false, false, false, false, false, false, false, false, false, false, false, false, false, false, false, false, false, false, false, false, false, false, false, false, false, false] rfl rfl (one_of HT_.out (by kernel_rfl)) (by decide) (fun K hK => ?_)
      refine goes_ Try.func11 (by kernel_rfl) rfl #[.agg #[.int .i64 a0_0, .int .i64 a0_1, .int .i64 a0_2, .int .i64 a0_3, .slice A0_4 l0_4.length c0_4, .slice A0_5 l0_5.length c0_5, .slice A0_6 l0_6.length c0_6]] (by rfl) rfl rfl (by (try simp only [List.map_toArray, List.map_cons, List.map_nil]); first | done | rfl | (simp only [List.length_drop, List.length_take]; rfl)) ?_
      with_reducible refine (target_Valid.calls k a0_0 a0_1 a0_2 a0_3 _ _ l0_4 _ _ l0_5 _ _ l0_6 true _ ?side1 ?side2 ?side3 ?side4 ?side5 ?side6 A3.out).mono ?_
      (case side1 => repeat (first | exact (Kd.C_below HR0_4.out HB.out) | (with_reducible refine Kd.C_alloc ?_ _) | (with_reducible refine Kd.C_drewN ?_ _) | (with_reducible refine Kd.C_drew ?_)))
      (case side2 => exact HC0_4.out)
      (case side3 => repeat (first | exact (Kd.C_below HR0_5.out HB.out) | (with_reducible refine Kd.C_alloc ?_ _) | (with_reducible refine Kd.C_drewN ?_ _) | (with_reducible refine Kd.C_drew ?_)))
      (case side4 => exact HC0_5.out)
      (case side5 => repeat (first | exact (Kd.C_below HR0_6.out HB.out) | (with_reducible refine Kd.C_alloc ?_ _) | (with_reducible refine Kd.C_drewN ?_ _) | (with_reducible refine Kd.C_drew ?_)))
      (case side6 => exact HC0_6.out)
      rintro e w26 ⟨rfl, hb⟩; refine ⟨_, rfl, ?_⟩; replace BK218 := ub BK218 hb; replace BK219 := ub BK219 hb; replace HB := bs HB hb; (try clear hb); (try clear hb2); (try clear hk); (try clear hi)
      refine hK.out _ _ ⟨bc BK218 0, bc BK218 1, bc BK218 2, bc BK218 3, bc BK218 4, bc BK218 5, bc BK218 6, bc BK219 0, bc BK219 1, bc BK219 2, bc BK219 3, bc BK219 4, bc BK219 5, bc BK219 6⟩ (fun hHeld => ?_)
      clear hK K
      refine norm_ (a' := ?_) ?_ ?_
      rotate_left
      ·show Act.put _ (some 6) _ = _
       simp only [Act.put, List.setIfInBounds_toArray, List.set_cons_zero, List.set_cons_succ, i64_w, i32_w]
       rfl
      refine on HT_ 2 (some 7) ?_
      refine tk HT_ HW_ hHeld 3 (some 8) rfl (by rintro w' ⟨s0, s1, s2, s3, s4, s5, s6, s7, s8, s9, s10, s11, s12, s13⟩; go_simp; with_reducible rfl) ?_
      refine one_ (i := 4) (N := some 9) #[true, true, true, true, true, false, false, false, false, false, false, false, false, false, false, false, false, false, false, false, false, false, false, false, false, false, false, false, false, false, false, false, false, false, false, false, false, false, false, false, false, false, false, false, false, false, false, false] rfl rfl (one_of HT_.out (by kernel_rfl)) (by decide) (fun K hK => ?_)
      refine goes_ Try.func11 (by kernel_rfl) rfl #[.agg #[.int .i64 a1_0, .int .i64 a1_1, .int .i64 a1_2, .int .i64 a1_3, .slice A1_4 l1_4.length c1_4, .slice A1_5 l1_5.length c1_5, .slice A1_6 l1_6.length c1_6]] (by rfl) rfl rfl (by (try simp only [List.map_toArray, List.map_cons, List.map_nil]); first | done | rfl | (simp only [List.length_drop, List.length_take]; rfl)) ?_
      with_reducible refine (target_Valid.calls k a1_0 a1_1 a1_2 a1_3 _ _ l1_4 _ _ l1_5 _ _ l1_6 true _ ?side1 ?side2 ?side3 ?side4 ?side5 ?side6 A5.out).mono ?_
      (case side1 => repeat (first | exact (Kd.C_below HR1_4.out HB.out) | (with_reducible refine Kd.C_alloc ?_ _) | (with_reducible refine Kd.C_drewN ?_ _) | (with_reducible refine Kd.C_drew ?_)))
      (case side2 => exact HC1_4.out)
      (case side3 => repeat (first | exact (Kd.C_below HR1_5.out HB.out) | (with_reducible refine Kd.C_alloc ?_ _) | (with_reducible refine Kd.C_drewN ?_ _) | (with_reducible refine Kd.C_drew ?_)))
      (case side4 => exact HC1_5.out)
      (case side5 => repeat (first | exact (Kd.C_below HR1_6.out HB.out) | (with_reducible refine Kd.C_alloc ?_ _) | (with_reducible refine Kd.C_drewN ?_ _) | (with_reducible refine Kd.C_drew ?_)))
      (case side6 => exact HC1_6.out)
      rintro e w27 ⟨rfl, hb⟩; refine ⟨_, rfl, ?_⟩; replace BK218 := ub BK218 hb; replace BK219 := ub BK219 hb; replace HB := bs HB hb; (try clear hb); (try clear hb2); (try clear hk); (try clear hi)
      refine hK.out _ _ ⟨bc BK218 0, bc BK218 1, bc BK218 2, bc BK218 3, bc BK218 4, bc BK218 5, bc BK218 6, bc BK219 0, bc BK219 1, bc BK219 2, bc BK219 3, bc BK219 4, bc BK219 5, bc BK219 6⟩ (fun hHeld => ?_)
      clear hK K
      refine norm_ (a' := ?_) ?_ ?_
      rotate_left
      ·show Act.put _ (some 9) _ = _
       simp only [Act.put, List.setIfInBounds_toArray, List.set_cons_zero, List.set_cons_succ, i64_w, i32_w]
       rfl
      refine on HT_ 5 (some 10) ?_
      refine on HT_ 6 (some 11) ?_
      refine on HT_ 7 (some 12) ?_
      refine on HT_ 9 (some 14) ?_
      refine tk HT_ HW_ hHeld 8 (some 13) rfl (by rintro w' ⟨s0, s1, s2, s3, s4, s5, s6, s7, s8, s9, s10, s11, s12, s13⟩; go_simp; with_reducible rfl) ?_
      refine tk HT_ HW_ hHeld 10 (some 15) rfl (by rintro w' ⟨s0, s1, s2, s3, s4, s5, s6, s7, s8, s9, s10, s11, s12, s13⟩; go_simp; with_reducible rfl) ?_
      refine on HT_ 11 (some 16) ?_
      refine on HT_ 12 (some 17) ?_
      refine on HT_ 13 (some 18) ?_
      refine on HT_ 14 (some 19) ?_
      refine on HT_ 16 (some 21) ?_
      refine tk HT_ HW_ hHeld 15 (some 20) rfl (by rintro w' ⟨s0, s1, s2, s3, s4, s5, s6, s7, s8, s9, s10, s11, s12, s13⟩; go_simp; with_reducible rfl) ?_
      refine tk HT_ HW_ hHeld 17 (some 22) rfl (by rintro w' ⟨s0, s1, s2, s3, s4, s5, s6, s7, s8, s9, s10, s11, s12, s13⟩; go_simp; with_reducible rfl) ?_
      refine on HT_ 18 (some 23) ?_
      refine on HT_ 19 (some 24) ?_
      refine on HT_ 20 (some 25) ?_
      refine on HT_ 21 (some 26) ?_
      refine on HT_ 23 (some 28) ?_
      refine tk HT_ HW_ hHeld 22 (some 27) rfl (by rintro w' ⟨s0, s1, s2, s3, s4, s5, s6, s7, s8, s9, s10, s11, s12, s13⟩; go_simp; with_reducible rfl) ?_
      refine tk HT_ HW_ hHeld 24 (some 29) rfl (by rintro w' ⟨s0, s1, s2, s3, s4, s5, s6, s7, s8, s9, s10, s11, s12, s13⟩; go_simp; with_reducible rfl) ?_
      refine on HT_ 25 (some 30) ?_
      refine on HT_ 26 (some 31) ?_
      refine on HT_ 27 (some 32) ?_
      refine off HT_ 28 (some 33) ?_
      refine off HT_ 29 (some 34) ?_
      refine off HT_ 30 (some 35) ?_
      refine off HT_ 31 (some 36) ?_
      refine off HT_ 32 (some 37) ?_
      refine on HT_ 33 (some 38) ?_
      refine on HT_ 34 (some 39) ?_
      refine off HT_ 35 (some 40) ?_
      refine off HT_ 36 (some 41) ?_
      refine off HT_ 37 (some 42) ?_
      refine off HT_ 38 (some 43) ?_
      refine off HT_ 39 (some 44) ?_
      refine off HT_ 40 (some 45) ?_
      refine off HT_ 41 (some 46) ?_
      refine off HT_ 42 (some 47) ?_
      refine off HT_ 43 (some 48) ?_
      refine off HT_ 44 (some 49) ?_
      refine off HT_ 45 (some 50) ?_
      refine on HT_ 46 (some 51) ?_
      refine on HT_ 47 (some 4) ?_
      refine done_ (done_of HT_.out (by kernel_rfl)) ?_
      try go_wp2
      go_ret
      exact ⟨by first | rfl | (simp [errW_none, errW_some] <;> rfl) | (simp [*, errW_none, errW_some] <;> rfl), by repeat (first | (with_reducible first | exact HB.out | apply below_alloc | apply pw_below_drewN | apply below_drew1 | refine below_set ?_ GE218.out | refine below_set ?_ GE219.out) | exact HB.out)⟩
    ·rw [if_neg c8] at H
     have c8b0 : (a0_1 == a1_1) = false := beq_eq_false_iff_ne.mpr c8
     have c8b1 : (a0_1 != a1_1) = true := bne_iff_ne.mpr c8
     obtain rfl := Option.some.inj H
     go_enter Try.func36, Try.ntmps36
     try go_wp2_with (first | ((with_reducible refine gate_dst (N := 2) rfl ?_); refine box_event ?hg (N := 2) ?hd (cs := #[.int .i64 a0_0, .int .i64 a0_1, .int .i64 a0_2, .int .i64 a0_3, .slice A0_4 l0_4.length c0_4, .slice A0_5 l0_5.length c0_5, .slice A0_6 l0_6.length c0_6]) (t := 28) ?hr ?_; (case hd => rfl); (case hg => rfl); (case hr => first | (go_simp; done) | (go_simp; rfl)); intro gb218 hg w28 hbox hb; have BK218 := Aside0.mk (hbox); have GW218 := ws HB hg; have GE218 := ws HB hg; replace HB := bs HB hb; clear hb hbox hg) | ((with_reducible refine gate_dst (N := 3) rfl ?_); refine box_event ?hg (N := 3) ?hd (cs := #[.int .i64 a1_0, .int .i64 a1_1, .int .i64 a1_2, .int .i64 a1_3, .slice A1_4 l1_4.length c1_4, .slice A1_5 l1_5.length c1_5, .slice A1_6 l1_6.length c1_6]) (t := 28) ?hr ?_; (case hd => rfl); (case hg => rfl); (case hr => first | (go_simp; done) | (go_simp; rfl)); intro gb219 hg w29 hbox hb; have BK219 := Aside0.mk (hbox); have GW219 := ws HB hg; have GE219 := ws HB hg; have NB218_219 := nl BK218 hg; have NB219_218 := ng BK218 hg; replace BK218 := ub BK218 hb; replace HB := bs HB hb; clear hb hbox hg))
     replace BK218 := Aside0.mk (blk_drew BK218.out); replace BK219 := Aside0.mk (blk_drew BK219.out); replace HB := Aside0.mk (below_drew1 HB.out)
     refine start_ (n := 48) (S := fun w' => w'.cell? ⟨gb218, 0, none⟩ = some (.int .i64 a0_0) ∧ w'.cell? ⟨gb218, 1, none⟩ = some (.int .i64 a0_1) ∧ w'.cell? ⟨gb218, 2, none⟩ = some (.int .i64 a0_2) ∧ w'.cell? ⟨gb218, 3, none⟩ = some (.int .i64 a0_3) ∧ w'.cell? ⟨gb218, 4, none⟩ = some (.slice A0_4 l0_4.length c0_4) ∧ w'.cell? ⟨gb218, 5, none⟩ = some (.slice A0_5 l0_5.length c0_5) ∧ w'.cell? ⟨gb218, 6, none⟩ = some (.slice A0_6 l0_6.length c0_6) ∧ w'.cell? ⟨gb219, 0, none⟩ = some (.int .i64 a1_0) ∧ w'.cell? ⟨gb219, 1, none⟩ = some (.int .i64 a1_1) ∧ w'.cell? ⟨gb219, 2, none⟩ = some (.int .i64 a1_2) ∧ w'.cell? ⟨gb219, 3, none⟩ = some (.int .i64 a1_3) ∧ w'.cell? ⟨gb219, 4, none⟩ = some (.slice A1_4 l1_4.length c1_4) ∧ w'.cell? ⟨gb219, 5, none⟩ = some (.slice A1_5 l1_5.length c1_5) ∧ w'.cell? ⟨gb219, 6, none⟩ = some (.slice A1_6 l1_6.length c1_6)) (ds := []) #[false, false, false, false, false, false, false, false, false, false, false, false, false, false, false, false, false, false, false, false, false, false, false, false, false, false, false, false, false, false, false, false, false, false, false, false, false, false, false, false, false, false, false, false, false, false, false, false] (by kernel_rfl) rfl rfl ⟨bc BK218 0, bc BK218 1, bc BK218 2, bc BK218 3, bc BK218 4, bc BK218 5, bc BK218 6, bc BK219 0, bc BK219 1, bc BK219 2, bc BK219 3, bc BK219 4, bc BK219 5, bc BK219 6⟩ (fun hHeld => ?_); refine with_tabW target_similar.tab1 target_similar.bits1 (fun HT_ HW_ => ?_)
     generalize w29.drew = w30 at BK218 BK219 HB hHeld ⊢
     refine tk HT_ HW_ hHeld 0 (some 5) rfl (by rintro w' ⟨s0, s1, s2, s3, s4, s5, s6, s7, s8, s9, s10, s11, s12, s13⟩; go_simp; with_reducible rfl) ?_
     refine one_ (i := 1) (N := some 6) #[true, true, false, false, false, false, false, false, false, false, false, false, false, false, false, false, false, false, false, false, false, false, false, false, false, false, false, false, false, false, false, false, false, false, false, false, false, false, false, false, false, false, false, false, false, false, false, false] rfl rfl (one_of HT_.out (by kernel_rfl)) (by decide) (fun K hK => ?_)
     refine goes_ Try.func11 (by kernel_rfl) rfl #[.agg #[.int .i64 a0_0, .int .i64 a0_1, .int .i64 a0_2, .int .i64 a0_3, .slice A0_4 l0_4.length c0_4, .slice A0_5 l0_5.length c0_5, .slice A0_6 l0_6.length c0_6]] (by rfl) rfl rfl (by (try simp only [List.map_toArray, List.map_cons, List.map_nil]); first | done | rfl | (simp only [List.length_drop, List.length_take]; rfl)) ?_
     with_reducible refine (target_Valid.calls k a0_0 a0_1 a0_2 a0_3 _ _ l0_4 _ _ l0_5 _ _ l0_6 true _ ?side1 ?side2 ?side3 ?side4 ?side5 ?side6 A3.out).mono ?_
     (case side1 => repeat (first | exact (Kd.C_below HR0_4.out HB.out) | (with_reducible refine Kd.C_alloc ?_ _) | (with_reducible refine Kd.C_drewN ?_ _) | (with_reducible refine Kd.C_drew ?_)))
     (case side2 => exact HC0_4.out)
     (case side3 => repeat (first | exact (Kd.C_below HR0_5.out HB.out) | (with_reducible refine Kd.C_alloc ?_ _) | (with_reducible refine Kd.C_drewN ?_ _) | (with_reducible refine Kd.C_drew ?_)))
     (case side4 => exact HC0_5.out)
     (case side5 => repeat (first | exact (Kd.C_below HR0_6.out HB.out) | (with_reducible refine Kd.C_alloc ?_ _) | (with_reducible refine Kd.C_drewN ?_ _) | (with_reducible refine Kd.C_drew ?_)))
     (case side6 => exact HC0_6.out)
     rintro e w31 ⟨rfl, hb⟩; refine ⟨_, rfl, ?_⟩; replace BK218 := ub BK218 hb; replace BK219 := ub BK219 hb; replace HB := bs HB hb; (try clear hb); (try clear hb2); (try clear hk); (try clear hi)
     refine hK.out _ _ ⟨bc BK218 0, bc BK218 1, bc BK218 2, bc BK218 3, bc BK218 4, bc BK218 5, bc BK218 6, bc BK219 0, bc BK219 1, bc BK219 2, bc BK219 3, bc BK219 4, bc BK219 5, bc BK219 6⟩ (fun hHeld => ?_)
     clear hK K
     refine norm_ (a' := ?_) ?_ ?_
     rotate_left
     ·show Act.put _ (some 6) _ = _
      simp only [Act.put, List.setIfInBounds_toArray, List.set_cons_zero, List.set_cons_succ, i64_w, i32_w]
      rfl
     refine on HT_ 2 (some 7) ?_
     refine tk HT_ HW_ hHeld 3 (some 8) rfl (by rintro w' ⟨s0, s1, s2, s3, s4, s5, s6, s7, s8, s9, s10, s11, s12, s13⟩; go_simp; with_reducible rfl) ?_
     refine one_ (i := 4) (N := some 9) #[true, true, true, true, true, false, false, false, false, false, false, false, false, false, false, false, false, false, false, false, false, false, false, false, false, false, false, false, false, false, false, false, false, false, false, false, false, false, false, false, false, false, false, false, false, false, false, false] rfl rfl (one_of HT_.out (by kernel_rfl)) (by decide) (fun K hK => ?_)
     refine goes_ Try.func11 (by kernel_rfl) rfl #[.agg #[.int .i64 a1_0, .int .i64 a1_1, .int .i64 a1_2, .int .i64 a1_3, .slice A1_4 l1_4.length c1_4, .slice A1_5 l1_5.length c1_5, .slice A1_6 l1_6.length c1_6]] (by rfl) rfl rfl (by (try simp only [List.map_toArray, List.map_cons, List.map_nil]); first | done | rfl | (simp only [List.length_drop, List.length_take]; rfl)) ?_
     with_reducible refine (target_Valid.calls k a1_0 a1_1 a1_2 a1_3 _ _ l1_4 _ _ l1_5 _ _ l1_6 true _ ?side1 ?side2 ?side3 ?side4 ?side5 ?side6 A5.out).mono ?_
     (case side1 => repeat (first | exact (Kd.C_below HR1_4.out HB.out) | (with_reducible refine Kd.C_alloc ?_ _) | (with_reducible refine Kd.C_drewN ?_ _) | (with_reducible refine Kd.C_drew ?_)))
     (case side2 => exact HC1_4.out)
     (case side3 => repeat (first | exact (Kd.C_below HR1_5.out HB.out) | (with_reducible refine Kd.C_alloc ?_ _) | (with_reducible refine Kd.C_drewN ?_ _) | (with_reducible refine Kd.C_drew ?_)))
     (case side4 => exact HC1_5.out)
     (case side5 => repeat (first | exact (Kd.C_below HR1_6.out HB.out) | (with_reducible refine Kd.C_alloc ?_ _) | (with_reducible refine Kd.C_drewN ?_ _) | (with_reducible refine Kd.C_drew ?_)))
     (case side6 => exact HC1_6.out)
     rintro e w32 ⟨rfl, hb⟩; refine ⟨_, rfl, ?_⟩; replace BK218 := ub BK218 hb; replace BK219 := ub BK219 hb; replace HB := bs HB hb; (try clear hb); (try clear hb2); (try clear hk); (try clear hi)
     refine hK.out _ _ ⟨bc BK218 0, bc BK218 1, bc BK218 2, bc BK218 3, bc BK218 4, bc BK218 5, bc BK218 6, bc BK219 0, bc BK219 1, bc BK219 2, bc BK219 3, bc BK219 4, bc BK219 5, bc BK219 6⟩ (fun hHeld => ?_)
     clear hK K
     refine norm_ (a' := ?_) ?_ ?_
     rotate_left
     ·show Act.put _ (some 9) _ = _
      simp only [Act.put, List.setIfInBounds_toArray, List.set_cons_zero, List.set_cons_succ, i64_w, i32_w]
      rfl
     refine on HT_ 5 (some 10) ?_
     refine on HT_ 6 (some 11) ?_
     refine on HT_ 7 (some 12) ?_
     refine on HT_ 9 (some 14) ?_
     refine tk HT_ HW_ hHeld 8 (some 13) rfl (by rintro w' ⟨s0, s1, s2, s3, s4, s5, s6, s7, s8, s9, s10, s11, s12, s13⟩; go_simp; with_reducible rfl) ?_
     refine tk HT_ HW_ hHeld 10 (some 15) rfl (by rintro w' ⟨s0, s1, s2, s3, s4, s5, s6, s7, s8, s9, s10, s11, s12, s13⟩; go_simp; with_reducible rfl) ?_
     refine on HT_ 11 (some 16) ?_
     refine on HT_ 12 (some 17) ?_
     refine on HT_ 13 (some 18) ?_
     refine on HT_ 14 (some 19) ?_
     refine on HT_ 16 (some 21) ?_
     refine tk HT_ HW_ hHeld 15 (some 20) rfl (by rintro w' ⟨s0, s1, s2, s3, s4, s5, s6, s7, s8, s9, s10, s11, s12, s13⟩; go_simp; with_reducible rfl) ?_
     refine tk HT_ HW_ hHeld 17 (some 22) rfl (by rintro w' ⟨s0, s1, s2, s3, s4, s5, s6, s7, s8, s9, s10, s11, s12, s13⟩; go_simp; with_reducible rfl) ?_
     refine on HT_ 18 (some 23) ?_
     refine on HT_ 19 (some 24) ?_
     refine on HT_ 20 (some 25) ?_
     refine off HT_ 21 (some 26) ?_
     refine off HT_ 22 (some 27) ?_
     refine off HT_ 23 (some 28) ?_
     refine off HT_ 24 (some 29) ?_
     refine off HT_ 25 (some 30) ?_
     refine on HT_ 26 (some 31) ?_
     refine on HT_ 27 (some 32) ?_
     refine off HT_ 28 (some 33) ?_
     refine off HT_ 29 (some 34) ?_
     refine off HT_ 30 (some 35) ?_
     refine off HT_ 31 (some 36) ?_
     refine off HT_ 32 (some 37) ?_
     refine on HT_ 33 (some 38) ?_
     refine on HT_ 34 (some 39) ?_
     refine off HT_ 35 (some 40) ?_
     refine off HT_ 36 (some 41) ?_
     refine off HT_ 37 (some 42) ?_
     refine off HT_ 38 (some 43) ?_
     refine off HT_ 39 (some 44) ?_
     refine off HT_ 40 (some 45) ?_
     refine off HT_ 41 (some 46) ?_
     refine off HT_ 42 (some 47) ?_
     refine off HT_ 43 (some 48) ?_
     refine off HT_ 44 (some 49) ?_
     refine off HT_ 45 (some 50) ?_
     refine on HT_ 46 (some 51) ?_
     refine on HT_ 47 (some 4) ?_
     refine done_ (done_of HT_.out (by kernel_rfl)) ?_
     try go_wp2
     go_ret
     exact ⟨by first | rfl | (simp [errW_none, errW_some] <;> rfl) | (simp [*, errW_none, errW_some] <;> rfl), by repeat (first | (with_reducible first | exact HB.out | apply below_alloc | apply pw_below_drewN | apply below_drew1 | refine below_set ?_ GE218.out | refine below_set ?_ GE219.out) | exact HB.out)⟩
   ·rw [if_neg c7] at H
    have c7b0 : (a0_0 == a1_0) = false := beq_eq_false_iff_ne.mpr c7
    have c7b1 : (a0_0 != a1_0) = true := bne_iff_ne.mpr c7
    obtain rfl := Option.some.inj H
    go_enter Try.func36, Try.ntmps36
    try go_wp2_with (first | ((with_reducible refine gate_dst (N := 2) rfl ?_); refine box_event ?hg (N := 2) ?hd (cs := #[.int .i64 a0_0, .int .i64 a0_1, .int .i64 a0_2, .int .i64 a0_3, .slice A0_4 l0_4.length c0_4, .slice A0_5 l0_5.length c0_5, .slice A0_6 l0_6.length c0_6]) (t := 28) ?hr ?_; (case hd => rfl); (case hg => rfl); (case hr => first | (go_simp; done) | (go_simp; rfl)); intro gb218 hg w33 hbox hb; have BK218 := Aside0.mk (hbox); have GW218 := ws HB hg; have GE218 := ws HB hg; replace HB := bs HB hb; clear hb hbox hg) | ((with_reducible refine gate_dst (N := 3) rfl ?_); refine box_event ?hg (N := 3) ?hd (cs := #[.int .i64 a1_0, .int .i64 a1_1, .int .i64 a1_2, .int .i64 a1_3, .slice A1_4 l1_4.length c1_4, .slice A1_5 l1_5.length c1_5, .slice A1_6 l1_6.length c1_6]) (t := 28) ?hr ?_; (case hd => rfl); (case hg => rfl); (case hr => first | (go_simp; done) | (go_simp; rfl)); intro gb219 hg w34 hbox hb; have BK219 := Aside0.mk (hbox); have GW219 := ws HB hg; have GE219 := ws HB hg; have NB218_219 := nl BK218 hg; have NB219_218 := ng BK218 hg; replace BK218 := ub BK218 hb; replace HB := bs HB hb; clear hb hbox hg))
    replace BK218 := Aside0.mk (blk_drew BK218.out); replace BK219 := Aside0.mk (blk_drew BK219.out); replace HB := Aside0.mk (below_drew1 HB.out)
    refine start_ (n := 48) (S := fun w' => w'.cell? ⟨gb218, 0, none⟩ = some (.int .i64 a0_0) ∧ w'.cell? ⟨gb218, 1, none⟩ = some (.int .i64 a0_1) ∧ w'.cell? ⟨gb218, 2, none⟩ = some (.int .i64 a0_2) ∧ w'.cell? ⟨gb218, 3, none⟩ = some (.int .i64 a0_3) ∧ w'.cell? ⟨gb218, 4, none⟩ = some (.slice A0_4 l0_4.length c0_4) ∧ w'.cell? ⟨gb218, 5, none⟩ = some (.slice A0_5 l0_5.length c0_5) ∧ w'.cell? ⟨gb218, 6, none⟩ = some (.slice A0_6 l0_6.length c0_6) ∧ w'.cell? ⟨gb219, 0, none⟩ = some (.int .i64 a1_0) ∧ w'.cell? ⟨gb219, 1, none⟩ = some (.int .i64 a1_1) ∧ w'.cell? ⟨gb219, 2, none⟩ = some (.int .i64 a1_2) ∧ w'.cell? ⟨gb219, 3, none⟩ = some (.int .i64 a1_3) ∧ w'.cell? ⟨gb219, 4, none⟩ = some (.slice A1_4 l1_4.length c1_4) ∧ w'.cell? ⟨gb219, 5, none⟩ = some (.slice A1_5 l1_5.length c1_5) ∧ w'.cell? ⟨gb219, 6, none⟩ = some (.slice A1_6 l1_6.length c1_6)) (ds := []) #[false, false, false, false, false, false, false, false, false, false, false, false, false, false, false, false, false, false, false, false, false, false, false, false, false, false, false, false, false, false, false, false, false, false, false, false, false, false, false, false, false, false, false, false, false, false, false, false] (by kernel_rfl) rfl rfl ⟨bc BK218 0, bc BK218 1, bc BK218 2, bc BK218 3, bc BK218 4, bc BK218 5, bc BK218 6, bc BK219 0, bc BK219 1, bc BK219 2, bc BK219 3, bc BK219 4, bc BK219 5, bc BK219 6⟩ (fun hHeld => ?_); refine with_tabW target_similar.tab1 target_similar.bits1 (fun HT_ HW_ => ?_)
    generalize w34.drew = w35 at BK218 BK219 HB hHeld ⊢
    refine tk HT_ HW_ hHeld 0 (some 5) rfl (by rintro w' ⟨s0, s1, s2, s3, s4, s5, s6, s7, s8, s9, s10, s11, s12, s13⟩; go_simp; with_reducible rfl) ?_
    refine one_ (i := 1) (N := some 6) #[true, true, false, false, false, false, false, false, false, false, false, false, false, false, false, false, false, false, false, false, false, false, false, false, false, false, false, false, false, false, false, false, false, false, false, false, false, false, false, false, false, false, false, false, false, false, false, false] rfl rfl (one_of HT_.out (by kernel_rfl)) (by decide) (fun K hK => ?_)
    refine goes_ Try.func11 (by kernel_rfl) rfl #[.agg #[.int .i64 a0_0, .int .i64 a0_1, .int .i64 a0_2, .int .i64 a0_3, .slice A0_4 l0_4.length c0_4, .slice A0_5 l0_5.length c0_5, .slice A0_6 l0_6.length c0_6]] (by rfl) rfl rfl (by (try simp only [List.map_toArray, List.map_cons, List.map_nil]); first | done | rfl | (simp only [List.length_drop, List.length_take]; rfl)) ?_
    with_reducible refine (target_Valid.calls k a0_0 a0_1 a0_2 a0_3 _ _ l0_4 _ _ l0_5 _ _ l0_6 true _ ?side1 ?side2 ?side3 ?side4 ?side5 ?side6 A3.out).mono ?_
    (case side1 => repeat (first | exact (Kd.C_below HR0_4.out HB.out) | (with_reducible refine Kd.C_alloc ?_ _) | (with_reducible refine Kd.C_drewN ?_ _) | (with_reducible refine Kd.C_drew ?_)))
    (case side2 => exact HC0_4.out)
    (case side3 => repeat (first | exact (Kd.C_below HR0_5.out HB.out) | (with_reducible refine Kd.C_alloc ?_ _) | (with_reducible refine Kd.C_drewN ?_ _) | (with_reducible refine Kd.C_drew ?_)))
    (case side4 => exact HC0_5.out)
    (case side5 => repeat (first | exact (Kd.C_below HR0_6.out HB.out) | (with_reducible refine Kd.C_alloc ?_ _) | (with_reducible refine Kd.C_drewN ?_ _) | (with_reducible refine Kd.C_drew ?_)))
    (case side6 => exact HC0_6.out)
    rintro e w36 ⟨rfl, hb⟩; refine ⟨_, rfl, ?_⟩; replace BK218 := ub BK218 hb; replace BK219 := ub BK219 hb; replace HB := bs HB hb; (try clear hb); (try clear hb2); (try clear hk); (try clear hi)
    refine hK.out _ _ ⟨bc BK218 0, bc BK218 1, bc BK218 2, bc BK218 3, bc BK218 4, bc BK218 5, bc BK218 6, bc BK219 0, bc BK219 1, bc BK219 2, bc BK219 3, bc BK219 4, bc BK219 5, bc BK219 6⟩ (fun hHeld => ?_)
    clear hK K
    refine norm_ (a' := ?_) ?_ ?_
    rotate_left
    ·show Act.put _ (some 6) _ = _
     simp only [Act.put, List.setIfInBounds_toArray, List.set_cons_zero, List.set_cons_succ, i64_w, i32_w]
     rfl
    refine on HT_ 2 (some 7) ?_
    refine tk HT_ HW_ hHeld 3 (some 8) rfl (by rintro w' ⟨s0, s1, s2, s3, s4, s5, s6, s7, s8, s9, s10, s11, s12, s13⟩; go_simp; with_reducible rfl) ?_
    refine one_ (i := 4) (N := some 9) #[true, true, true, true, true, false, false, false, false, false, false, false, false, false, false, false, false, false, false, false, false, false, false, false, false, false, false, false, false, false, false, false, false, false, false, false, false, false, false, false, false, false, false, false, false, false, false, false] rfl rfl (one_of HT_.out (by kernel_rfl)) (by decide) (fun K hK => ?_)
    refine goes_ Try.func11 (by kernel_rfl) rfl #[.agg #[.int .i64 a1_0, .int .i64 a1_1, .int .i64 a1_2, .int .i64 a1_3, .slice A1_4 l1_4.length c1_4, .slice A1_5 l1_5.length c1_5, .slice A1_6 l1_6.length c1_6]] (by rfl) rfl rfl (by (try simp only [List.map_toArray, List.map_cons, List.map_nil]); first | done | rfl | (simp only [List.length_drop, List.length_take]; rfl)) ?_
    with_reducible refine (target_Valid.calls k a1_0 a1_1 a1_2 a1_3 _ _ l1_4 _ _ l1_5 _ _ l1_6 true _ ?side1 ?side2 ?side3 ?side4 ?side5 ?side6 A5.out).mono ?_
    (case side1 => repeat (first | exact (Kd.C_below HR1_4.out HB.out) | (with_reducible refine Kd.C_alloc ?_ _) | (with_reducible refine Kd.C_drewN ?_ _) | (with_reducible refine Kd.C_drew ?_)))
    (case side2 => exact HC1_4.out)
    (case side3 => repeat (first | exact (Kd.C_below HR1_5.out HB.out) | (with_reducible refine Kd.C_alloc ?_ _) | (with_reducible refine Kd.C_drewN ?_ _) | (with_reducible refine Kd.C_drew ?_)))
    (case side4 => exact HC1_5.out)
    (case side5 => repeat (first | exact (Kd.C_below HR1_6.out HB.out) | (with_reducible refine Kd.C_alloc ?_ _) | (with_reducible refine Kd.C_drewN ?_ _) | (with_reducible refine Kd.C_drew ?_)))
    (case side6 => exact HC1_6.out)
    rintro e w37 ⟨rfl, hb⟩; refine ⟨_, rfl, ?_⟩; replace BK218 := ub BK218 hb; replace BK219 := ub BK219 hb; replace HB := bs HB hb; (try clear hb); (try clear hb2); (try clear hk); (try clear hi)
    refine hK.out _ _ ⟨bc BK218 0, bc BK218 1, bc BK218 2, bc BK218 3, bc BK218 4, bc BK218 5, bc BK218 6, bc BK219 0, bc BK219 1, bc BK219 2, bc BK219 3, bc BK219 4, bc BK219 5, bc BK219 6⟩ (fun hHeld => ?_)
    clear hK K
    refine norm_ (a' := ?_) ?_ ?_
    rotate_left
    ·show Act.put _ (some 9) _ = _
     simp only [Act.put, List.setIfInBounds_toArray, List.set_cons_zero, List.set_cons_succ, i64_w, i32_w]
     rfl
    refine on HT_ 5 (some 10) ?_
    refine on HT_ 6 (some 11) ?_
    refine on HT_ 7 (some 12) ?_
    refine on HT_ 9 (some 14) ?_
    refine tk HT_ HW_ hHeld 8 (some 13) rfl (by rintro w' ⟨s0, s1, s2, s3, s4, s5, s6, s7, s8, s9, s10, s11, s12, s13⟩; go_simp; with_reducible rfl) ?_
    refine tk HT_ HW_ hHeld 10 (some 15) rfl (by rintro w' ⟨s0, s1, s2, s3, s4, s5, s6, s7, s8, s9, s10, s11, s12, s13⟩; go_simp; with_reducible rfl) ?_
    refine on HT_ 11 (some 16) ?_
    refine on HT_ 12 (some 17) ?_
    refine on HT_ 13 (some 18) ?_
    refine off HT_ 14 (some 19) ?_
    refine off HT_ 15 (some 20) ?_
    refine off HT_ 16 (some 21) ?_
    refine off HT_ 17 (some 22) ?_
    refine off HT_ 18 (some 23) ?_
    refine on HT_ 19 (some 24) ?_
    refine on HT_ 20 (some 25) ?_
    refine off HT_ 21 (some 26) ?_
    refine off HT_ 22 (some 27) ?_
    refine off HT_ 23 (some 28) ?_
    refine off HT_ 24 (some 29) ?_
    refine off HT_ 25 (some 30) ?_
    refine on HT_ 26 (some 31) ?_
    refine on HT_ 27 (some 32) ?_
    refine off HT_ 28 (some 33) ?_
    refine off HT_ 29 (some 34) ?_
    refine off HT_ 30 (some 35) ?_
    refine off HT_ 31 (some 36) ?_
    refine off HT_ 32 (some 37) ?_
    refine on HT_ 33 (some 38) ?_
    refine on HT_ 34 (some 39) ?_
    refine off HT_ 35 (some 40) ?_
    refine off HT_ 36 (some 41) ?_
    refine off HT_ 37 (some 42) ?_
    refine off HT_ 38 (some 43) ?_
    refine off HT_ 39 (some 44) ?_
    refine off HT_ 40 (some 45) ?_
    refine off HT_ 41 (some 46) ?_
    refine off HT_ 42 (some 47) ?_
    refine off HT_ 43 (some 48) ?_
    refine off HT_ 44 (some 49) ?_
    refine off HT_ 45 (some 50) ?_
    refine on HT_ 46 (some 51) ?_
    refine on HT_ 47 (some 4) ?_
    refine done_ (done_of HT_.out (by kernel_rfl)) ?_
    try go_wp2
    go_ret
    exact ⟨by first | rfl | (simp [errW_none, errW_some] <;> rfl) | (simp [*, errW_none, errW_some] <;> rfl), by repeat (first | (with_reducible first | exact HB.out | apply below_alloc | apply pw_below_drewN | apply below_drew1 | refine below_set ?_ GE218.out | refine below_set ?_ GE219.out) | exact HB.out)⟩
  ·replace c6 := Bool.eq_false_iff.mpr c6
   subst c6
   have H1 : (some false) = some r := by rw [if_neg (show ¬ (false = true) by decide)] at H; exact H
   clear H; have H := H1; clear H1
   obtain rfl := Option.some.inj H
   go_enter Try.func36, Try.ntmps36
   try go_wp2_with (first | ((with_reducible refine gate_dst (N := 2) rfl ?_); refine box_event ?hg (N := 2) ?hd (cs := #[.int .i64 a0_0, .int .i64 a0_1, .int .i64 a0_2, .int .i64 a0_3, .slice A0_4 l0_4.length c0_4, .slice A0_5 l0_5.length c0_5, .slice A0_6 l0_6.length c0_6]) (t := 28) ?hr ?_; (case hd => rfl); (case hg => rfl); (case hr => first | (go_simp; done) | (go_simp; rfl)); intro gb218 hg w38 hbox hb; have BK218 := Aside0.mk (hbox); have GW218 := ws HB hg; have GE218 := ws HB hg; replace HB := bs HB hb; clear hb hbox hg) | ((with_reducible refine gate_dst (N := 3) rfl ?_); refine box_event ?hg (N := 3) ?hd (cs := #[.int .i64 a1_0, .int .i64 a1_1, .int .i64 a1_2, .int .i64 a1_3, .slice A1_4 l1_4.length c1_4, .slice A1_5 l1_5.length c1_5, .slice A1_6 l1_6.length c1_6]) (t := 28) ?hr ?_; (case hd => rfl); (case hg => rfl); (case hr => first | (go_simp; done) | (go_simp; rfl)); intro gb219 hg w39 hbox hb; have BK219 := Aside0.mk (hbox); have GW219 := ws HB hg; have GE219 := ws HB hg; have NB218_219 := nl BK218 hg; have NB219_218 := ng BK218 hg; replace BK218 := ub BK218 hb; replace HB := bs HB hb; clear hb hbox hg))
   replace BK218 := Aside0.mk (blk_drew BK218.out); replace BK219 := Aside0.mk (blk_drew BK219.out); replace HB := Aside0.mk (below_drew1 HB.out)
   refine start_ (n := 48) (S := fun w' => w'.cell? ⟨gb218, 0, none⟩ = some (.int .i64 a0_0) ∧ w'.cell? ⟨gb218, 1, none⟩ = some (.int .i64 a0_1) ∧ w'.cell? ⟨gb218, 2, none⟩ = some (.int .i64 a0_2) ∧ w'.cell? ⟨gb218, 3, none⟩ = some (.int .i64 a0_3) ∧ w'.cell? ⟨gb218, 4, none⟩ = some (.slice A0_4 l0_4.length c0_4) ∧ w'.cell? ⟨gb218, 5, none⟩ = some (.slice A0_5 l0_5.length c0_5) ∧ w'.cell? ⟨gb218, 6, none⟩ = some (.slice A0_6 l0_6.length c0_6) ∧ w'.cell? ⟨gb219, 0, none⟩ = some (.int .i64 a1_0) ∧ w'.cell? ⟨gb219, 1, none⟩ = some (.int .i64 a1_1) ∧ w'.cell? ⟨gb219, 2, none⟩ = some (.int .i64 a1_2) ∧ w'.cell? ⟨gb219, 3, none⟩ = some (.int .i64 a1_3) ∧ w'.cell? ⟨gb219, 4, none⟩ = some (.slice A1_4 l1_4.length c1_4) ∧ w'.cell? ⟨gb219, 5, none⟩ = some (.slice A1_5 l1_5.length c1_5) ∧ w'.cell? ⟨gb219, 6, none⟩ = some (.slice A1_6 l1_6.length c1_6)) (ds := []) #[false, false, false, false, false, false, false, false, false, false, false, false, false, false, false, false, false, false, false, false, false, false, false, false, false, false, false, false, false, false, false, false, false, false, false, false, false, false, false, false, false, false, false, false, false, false, false, false] (by kernel_rfl) rfl rfl ⟨bc BK218 0, bc BK218 1, bc BK218 2, bc BK218 3, bc BK218 4, bc BK218 5, bc BK218 6, bc BK219 0, bc BK219 1, bc BK219 2, bc BK219 3, bc BK219 4, bc BK219 5, bc BK219 6⟩ (fun hHeld => ?_); refine with_tabW target_similar.tab1 target_similar.bits1 (fun HT_ HW_ => ?_)
   generalize w39.drew = w40 at BK218 BK219 HB hHeld ⊢
   refine tk HT_ HW_ hHeld 0 (some 5) rfl (by rintro w' ⟨s0, s1, s2, s3, s4, s5, s6, s7, s8, s9, s10, s11, s12, s13⟩; go_simp; with_reducible rfl) ?_
   refine one_ (i := 1) (N := some 6) #[true, true, false, false, false, false, false, false, false, false, false, false, false, false, false, false, false, false, false, false, false, false, false, false, false, false, false, false, false, false, false, false, false, false, false, false, false, false, false, false, false, false, false, false, false, false, false, false] rfl rfl (one_of HT_.out (by kernel_rfl)) (by decide) (fun K hK => ?_)
   refine goes_ Try.func11 (by kernel_rfl) rfl #[.agg #[.int .i64 a0_0, .int .i64 a0_1, .int .i64 a0_2, .int .i64 a0_3, .slice A0_4 l0_4.length c0_4, .slice A0_5 l0_5.length c0_5, .slice A0_6 l0_6.length c0_6]] (by rfl) rfl rfl (by (try simp only [List.map_toArray, List.map_cons, List.map_nil]); first | done | rfl | (simp only [List.length_drop, List.length_take]; rfl)) ?_
   with_reducible refine (target_Valid.calls k a0_0 a0_1 a0_2 a0_3 _ _ l0_4 _ _ l0_5 _ _ l0_6 true _ ?side1 ?side2 ?side3 ?side4 ?side5 ?side6 A3.out).mono ?_
   (case side1 => repeat (first | exact (Kd.C_below HR0_4.out HB.out) | (with_reducible refine Kd.C_alloc ?_ _) | (with_reducible refine Kd.C_drewN ?_ _) | (with_reducible refine Kd.C_drew ?_)))
   (case side2 => exact HC0_4.out)
   (case side3 => repeat (first | exact (Kd.C_below HR0_5.out HB.out) | (with_reducible refine Kd.C_alloc ?_ _) | (with_reducible refine Kd.C_drewN ?_ _) | (with_reducible refine Kd.C_drew ?_)))
   (case side4 => exact HC0_5.out)
   (case side5 => repeat (first | exact (Kd.C_below HR0_6.out HB.out) | (with_reducible refine Kd.C_alloc ?_ _) | (with_reducible refine Kd.C_drewN ?_ _) | (with_reducible refine Kd.C_drew ?_)))
   (case side6 => exact HC0_6.out)
   rintro e w41 ⟨rfl, hb⟩; refine ⟨_, rfl, ?_⟩; replace BK218 := ub BK218 hb; replace BK219 := ub BK219 hb; replace HB := bs HB hb; (try clear hb); (try clear hb2); (try clear hk); (try clear hi)
   refine hK.out _ _ ⟨bc BK218 0, bc BK218 1, bc BK218 2, bc BK218 3, bc BK218 4, bc BK218 5, bc BK218 6, bc BK219 0, bc BK219 1, bc BK219 2, bc BK219 3, bc BK219 4, bc BK219 5, bc BK219 6⟩ (fun hHeld => ?_)
   clear hK K
   refine norm_ (a' := ?_) ?_ ?_
   rotate_left
   ·show Act.put _ (some 6) _ = _
    simp only [Act.put, List.setIfInBounds_toArray, List.set_cons_zero, List.set_cons_succ, i64_w, i32_w]
    rfl
   refine on HT_ 2 (some 7) ?_
   refine tk HT_ HW_ hHeld 3 (some 8) rfl (by rintro w' ⟨s0, s1, s2, s3, s4, s5, s6, s7, s8, s9, s10, s11, s12, s13⟩; go_simp; with_reducible rfl) ?_
   refine one_ (i := 4) (N := some 9) #[true, true, true, true, true, false, false, false, false, false, false, false, false, false, false, false, false, false, false, false, false, false, false, false, false, false, false, false, false, false, false, false, false, false, false, false, false, false, false, false, false, false, false, false, false, false, false, false] rfl rfl (one_of HT_.out (by kernel_rfl)) (by decide) (fun K hK => ?_)
   refine goes_ Try.func11 (by kernel_rfl) rfl #[.agg #[.int .i64 a1_0, .int .i64 a1_1, .int .i64 a1_2, .int .i64 a1_3, .slice A1_4 l1_4.length c1_4, .slice A1_5 l1_5.length c1_5, .slice A1_6 l1_6.length c1_6]] (by rfl) rfl rfl (by (try simp only [List.map_toArray, List.map_cons, List.map_nil]); first | done | rfl | (simp only [List.length_drop, List.length_take]; rfl)) ?_
   with_reducible refine (target_Valid.calls k a1_0 a1_1 a1_2 a1_3 _ _ l1_4 _ _ l1_5 _ _ l1_6 false _ ?side1 ?side2 ?side3 ?side4 ?side5 ?side6 A5.out).mono ?_
   (case side1 => repeat (first | exact (Kd.C_below HR1_4.out HB.out) | (with_reducible refine Kd.C_alloc ?_ _) | (with_reducible refine Kd.C_drewN ?_ _) | (with_reducible refine Kd.C_drew ?_)))
   (case side2 => exact HC1_4.out)
   (case side3 => repeat (first | exact (Kd.C_below HR1_5.out HB.out) | (with_reducible refine Kd.C_alloc ?_ _) | (with_reducible refine Kd.C_drewN ?_ _) | (with_reducible refine Kd.C_drew ?_)))
   (case side4 => exact HC1_5.out)
   (case side5 => repeat (first | exact (Kd.C_below HR1_6.out HB.out) | (with_reducible refine Kd.C_alloc ?_ _) | (with_reducible refine Kd.C_drewN ?_ _) | (with_reducible refine Kd.C_drew ?_)))
   (case side6 => exact HC1_6.out)
   rintro e w42 ⟨rfl, hb⟩; refine ⟨_, rfl, ?_⟩; replace BK218 := ub BK218 hb; replace BK219 := ub BK219 hb; replace HB := bs HB hb; (try clear hb); (try clear hb2); (try clear hk); (try clear hi)
   refine hK.out _ _ ⟨bc BK218 0, bc BK218 1, bc BK218 2, bc BK218 3, bc BK218 4, bc BK218 5, bc BK218 6, bc BK219 0, bc BK219 1, bc BK219 2, bc BK219 3, bc BK219 4, bc BK219 5, bc BK219 6⟩ (fun hHeld => ?_)
   clear hK K
   refine norm_ (a' := ?_) ?_ ?_
   rotate_left
   ·show Act.put _ (some 9) _ = _
    simp only [Act.put, List.setIfInBounds_toArray, List.set_cons_zero, List.set_cons_succ, i64_w, i32_w]
    rfl
   refine on HT_ 5 (some 10) ?_
   refine on HT_ 6 (some 11) ?_
   refine off HT_ 7 (some 12) ?_
   refine off HT_ 8 (some 13) ?_
   refine off HT_ 9 (some 14) ?_
   refine off HT_ 10 (some 15) ?_
   refine off HT_ 11 (some 16) ?_
   refine on HT_ 12 (some 17) ?_
   refine on HT_ 13 (some 18) ?_
   refine off HT_ 14 (some 19) ?_
   refine off HT_ 15 (some 20) ?_
   refine off HT_ 16 (some 21) ?_
   refine off HT_ 17 (some 22) ?_
   refine off HT_ 18 (some 23) ?_
   refine on HT_ 19 (some 24) ?_
   refine on HT_ 20 (some 25) ?_
   refine off HT_ 21 (some 26) ?_
   refine off HT_ 22 (some 27) ?_
   refine off HT_ 23 (some 28) ?_
   refine off HT_ 24 (some 29) ?_
   refine off HT_ 25 (some 30) ?_
   refine on HT_ 26 (some 31) ?_
   refine on HT_ 27 (some 32) ?_
   refine off HT_ 28 (some 33) ?_
   refine off HT_ 29 (some 34) ?_
   refine off HT_ 30 (some 35) ?_
   refine off HT_ 31 (some 36) ?_
   refine off HT_ 32 (some 37) ?_
   refine on HT_ 33 (some 38) ?_
   refine on HT_ 34 (some 39) ?_
   refine off HT_ 35 (some 40) ?_
   refine off HT_ 36 (some 41) ?_
   refine off HT_ 37 (some 42) ?_
   refine off HT_ 38 (some 43) ?_
   refine off HT_ 39 (some 44) ?_
   refine off HT_ 40 (some 45) ?_
   refine off HT_ 41 (some 46) ?_
   refine off HT_ 42 (some 47) ?_
   refine off HT_ 43 (some 48) ?_
   refine off HT_ 44 (some 49) ?_
   refine off HT_ 45 (some 50) ?_
   refine on HT_ 46 (some 51) ?_
   refine on HT_ 47 (some 4) ?_
   refine done_ (done_of HT_.out (by kernel_rfl)) ?_
   try go_wp2
   go_ret
   exact ⟨by first | rfl | (simp [errW_none, errW_some] <;> rfl) | (simp [*, errW_none, errW_some] <;> rfl), by repeat (first | (with_reducible first | exact HB.out | apply below_alloc | apply pw_below_drewN | apply below_drew1 | refine below_set ?_ GE218.out | refine below_set ?_ GE219.out) | exact HB.out)⟩
 ·replace c4 := Bool.eq_false_iff.mpr c4
  subst c4
  have H1 : (some false) = some r := by rw [if_neg (show ¬ (false = true) by decide)] at H; exact H
  clear H; have H := H1; clear H1
  obtain rfl := Option.some.inj H
  go_enter Try.func36, Try.ntmps36
  try go_wp2_with (first | ((with_reducible refine gate_dst (N := 2) rfl ?_); refine box_event ?hg (N := 2) ?hd (cs := #[.int .i64 a0_0, .int .i64 a0_1, .int .i64 a0_2, .int .i64 a0_3, .slice A0_4 l0_4.length c0_4, .slice A0_5 l0_5.length c0_5, .slice A0_6 l0_6.length c0_6]) (t := 28) ?hr ?_; (case hd => rfl); (case hg => rfl); (case hr => first | (go_simp; done) | (go_simp; rfl)); intro gb218 hg w43 hbox hb; have BK218 := Aside0.mk (hbox); have GW218 := ws HB hg; have GE218 := ws HB hg; replace HB := bs HB hb; clear hb hbox hg) | ((with_reducible refine gate_dst (N := 3) rfl ?_); refine box_event ?hg (N := 3) ?hd (cs := #[.int .i64 a1_0, .int .i64 a1_1, .int .i64 a1_2, .int .i64 a1_3, .slice A1_4 l1_4.length c1_4, .slice A1_5 l1_5.length c1_5, .slice A1_6 l1_6.length c1_6]) (t := 28) ?hr ?_; (case hd => rfl); (case hg => rfl); (case hr => first | (go_simp; done) | (go_simp; rfl)); intro gb219 hg w44 hbox hb; have BK219 := Aside0.mk (hbox); have GW219 := ws HB hg; have GE219 := ws HB hg; have NB218_219 := nl BK218 hg; have NB219_218 := ng BK218 hg; replace BK218 := ub BK218 hb; replace HB := bs HB hb; clear hb hbox hg))
  replace BK218 := Aside0.mk (blk_drew BK218.out); replace BK219 := Aside0.mk (blk_drew BK219.out); replace HB := Aside0.mk (below_drew1 HB.out)
  refine start_ (n := 48) (S := fun w' => w'.cell? ⟨gb218, 0, none⟩ = some (.int .i64 a0_0) ∧ w'.cell? ⟨gb218, 1, none⟩ = some (.int .i64 a0_1) ∧ w'.cell? ⟨gb218, 2, none⟩ = some (.int .i64 a0_2) ∧ w'.cell? ⟨gb218, 3, none⟩ = some (.int .i64 a0_3) ∧ w'.cell? ⟨gb218, 4, none⟩ = some (.slice A0_4 l0_4.length c0_4) ∧ w'.cell? ⟨gb218, 5, none⟩ = some (.slice A0_5 l0_5.length c0_5) ∧ w'.cell? ⟨gb218, 6, none⟩ = some (.slice A0_6 l0_6.length c0_6)) (ds := []) #[false, false, false, false, false, false, false, false, false, false, false, false, false, false, false, false, false, false, false, false, false, false, false, false, false, false, false, false, false, false, false, false, false, false, false, false, false, false, false, false, false, false, false, false, false, false, false, false] (by kernel_rfl) rfl rfl ⟨bc BK218 0, bc BK218 1, bc BK218 2, bc BK218 3, bc BK218 4, bc BK218 5, bc BK218 6⟩ (fun hHeld => ?_); refine with_tabW target_similar.tab1 target_similar.bits1 (fun HT_ HW_ => ?_)
  generalize w44.drew = w45 at BK218 BK219 HB hHeld ⊢
  refine tk HT_ HW_ hHeld 0 (some 5) rfl (by rintro w' ⟨s0, s1, s2, s3, s4, s5, s6⟩; go_simp; with_reducible rfl) ?_
  refine one_ (i := 1) (N := some 6) #[true, true, false, false, false, false, false, false, false, false, false, false, false, false, false, false, false, false, false, false, false, false, false, false, false, false, false, false, false, false, false, false, false, false, false, false, false, false, false, false, false, false, false, false, false, false, false, false] rfl rfl (one_of HT_.out (by kernel_rfl)) (by decide) (fun K hK => ?_)
  refine goes_ Try.func11 (by kernel_rfl) rfl #[.agg #[.int .i64 a0_0, .int .i64 a0_1, .int .i64 a0_2, .int .i64 a0_3, .slice A0_4 l0_4.length c0_4, .slice A0_5 l0_5.length c0_5, .slice A0_6 l0_6.length c0_6]] (by rfl) rfl rfl (by (try simp only [List.map_toArray, List.map_cons, List.map_nil]); first | done | rfl | (simp only [List.length_drop, List.length_take]; rfl)) ?_
  with_reducible refine (target_Valid.calls k a0_0 a0_1 a0_2 a0_3 _ _ l0_4 _ _ l0_5 _ _ l0_6 false _ ?side1 ?side2 ?side3 ?side4 ?side5 ?side6 A3.out).mono ?_
  (case side1 => repeat (first | exact (Kd.C_below HR0_4.out HB.out) | (with_reducible refine Kd.C_alloc ?_ _) | (with_reducible refine Kd.C_drewN ?_ _) | (with_reducible refine Kd.C_drew ?_)))
  (case side2 => exact HC0_4.out)
  (case side3 => repeat (first | exact (Kd.C_below HR0_5.out HB.out) | (with_reducible refine Kd.C_alloc ?_ _) | (with_reducible refine Kd.C_drewN ?_ _) | (with_reducible refine Kd.C_drew ?_)))
  (case side4 => exact HC0_5.out)
  (case side5 => repeat (first | exact (Kd.C_below HR0_6.out HB.out) | (with_reducible refine Kd.C_alloc ?_ _) | (with_reducible refine Kd.C_drewN ?_ _) | (with_reducible refine Kd.C_drew ?_)))
  (case side6 => exact HC0_6.out)
  rintro e w46 ⟨rfl, hb⟩; refine ⟨_, rfl, ?_⟩; replace BK218 := ub BK218 hb; replace BK219 := ub BK219 hb; replace HB := bs HB hb; (try clear hb); (try clear hb2); (try clear hk); (try clear hi)
  refine hK.out _ _ ⟨bc BK218 0, bc BK218 1, bc BK218 2, bc BK218 3, bc BK218 4, bc BK218 5, bc BK218 6⟩ (fun hHeld => ?_)
  clear hK K
  refine norm_ (a' := ?_) ?_ ?_
  rotate_left
  ·show Act.put _ (some 6) _ = _
   simp only [Act.put, List.setIfInBounds_toArray, List.set_cons_zero, List.set_cons_succ, i64_w, i32_w]
   rfl
  refine on HT_ 2 (some 7) ?_
  refine off HT_ 3 (some 8) ?_
  refine off HT_ 4 (some 9) ?_
  refine on HT_ 5 (some 10) ?_
  refine on HT_ 6 (some 11) ?_
  refine off HT_ 7 (some 12) ?_
  refine off HT_ 8 (some 13) ?_
  refine off HT_ 9 (some 14) ?_
  refine off HT_ 10 (some 15) ?_
  refine off HT_ 11 (some 16) ?_
  refine on HT_ 12 (some 17) ?_
  refine on HT_ 13 (some 18) ?_
  refine off HT_ 14 (some 19) ?_
  refine off HT_ 15 (some 20) ?_
  refine off HT_ 16 (some 21) ?_
  refine off HT_ 17 (some 22) ?_
  refine off HT_ 18 (some 23) ?_
  refine on HT_ 19 (some 24) ?_
  refine on HT_ 20 (some 25) ?_
  refine off HT_ 21 (some 26) ?_
  refine off HT_ 22 (some 27) ?_
  refine off HT_ 23 (some 28) ?_
  refine off HT_ 24 (some 29) ?_
  refine off HT_ 25 (some 30) ?_
  refine on HT_ 26 (some 31) ?_
  refine on HT_ 27 (some 32) ?_
  refine off HT_ 28 (some 33) ?_
  refine off HT_ 29 (some 34) ?_
  refine off HT_ 30 (some 35) ?_
  refine off HT_ 31 (some 36) ?_
  refine off HT_ 32 (some 37) ?_
  refine on HT_ 33 (some 38) ?_
  refine on HT_ 34 (some 39) ?_
  refine off HT_ 35 (some 40) ?_
  refine off HT_ 36 (some 41) ?_
  refine off HT_ 37 (some 42) ?_
  refine off HT_ 38 (some 43) ?_
  refine off HT_ 39 (some 44) ?_
  refine off HT_ 40 (some 45) ?_
  refine off HT_ 41 (some 46) ?_
  refine off HT_ 42 (some 47) ?_
  refine off HT_ 43 (some 48) ?_
  refine off HT_ 44 (some 49) ?_
  refine off HT_ 45 (some 50) ?_
  refine on HT_ 46 (some 51) ?_
  refine on HT_ 47 (some 4) ?_
  refine done_ (done_of HT_.out (by kernel_rfl)) ?_
  try go_wp2
  go_ret
  exact ⟨by first | rfl | (simp [errW_none, errW_some] <;> rfl) | (simp [*, errW_none, errW_some] <;> rfl), by repeat (first | (with_reducible first | exact HB.out | apply below_alloc | apply pw_below_drewN | apply below_drew1 | refine below_set ?_ GE218.out | refine below_set ?_ GE219.out) | exact HB.out)⟩

end Go.Proofs.Ytmpmennepjkocaa.PTargetMerge
