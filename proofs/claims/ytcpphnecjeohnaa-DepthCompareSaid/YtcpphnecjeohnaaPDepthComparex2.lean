-- PRINTED BY print.sh 35421559b90ae4d0a3588c463048766b98c2df88dd9212a6774a882060cdf62d: not written by this session
import Derived.Test.YtcpphnecjeohnaaPDepthComparex0
import Derived.Test.YtcpphnecjeohnaaPDepthComparex1
namespace Go.Proofs.Ytcpphnecjeohnaa.PDepthCompare
open Go.RowKit Go.Proofs.YtcpphnecjeohnaaW.PrintWords Go.Proofs.YtcpphnecjeohnaaW.PrintLast Go.Proofs.YtcpphnecjeohnaaW.PrintMore
attribute [local go_sem] max2_int min2_int max_two min_two max_three min_three max_four min_four   -- for this text's walks alone
set_option linter.unusedVariables false
set_option linter.unusedSimpArgs false

/-! ### frustumlaw38_DepthCompare: function 5 -/
def frustumlaw38_DepthCompare.j0 : Nat → Int → Int → Bool → Bool → Bool → Bool → Option (Bool)
  | 0, _, _, _, _, _, _ => none
  | k + 1, x0, x1, x5, x6, x7, x39 => if x39 = true then (some false) else ((depth_Compare.f 7 x0 x1).bind fun t125 => (if (t125 != x5) = true then ((depth_Compare.f 6 x0 x1).bind fun t126 => (if (t126 != x6) = true then ((depth_Compare.f 4 x0 x1).bind fun t127 => (if (t127 != x7) = true then ((depth_Compare.f 8 x0 x1).bind fun t128 => (if t128 = true then ((depth_Compare.f 1 x0 x1).bind fun t129 => (if t129 = true then (some false) else ((frustumlaw38_example.f k).bind fun t130 => (some t130)))) else (some false))) else (some false))) else (some false))) else (some false)))
def frustumlaw38_DepthCompare.f (k : Nat) (a0 : Int) (a1 : Int) : Option (Bool) := (depth_Compare.f 2 a0 a1).bind fun t117 => ((depth_Compare.f 3 a0 a1).bind fun t118 => ((depth_Compare.f 5 a0 a1).bind fun t119 => ((frustumlaw38_one.f t117).bind fun t120 => ((frustumlaw38_one.f t118).bind fun t121 => ((frustumlaw38_one.f t119).bind fun t122 => (if (wrap64 ((wrap64 (t120 + t121)) + t122)) = 1 then ((depth_Compare.f 5 a1 a0).bind fun t123 => (if (t117 != t123) = true then (frustumlaw38_DepthCompare.j0 k a0 a1 t117 t118 t119 true) else ((depth_Compare.f 3 a1 a0).bind fun t124 => (frustumlaw38_DepthCompare.j0 k a0 a1 t117 t118 t119 (t118 != t124))))) else (frustumlaw38_DepthCompare.j0 k a0 a1 t117 t118 t119 true)))))))
theorem frustumlaw38_DepthCompare.mono_l : ∀ k, (∀ y0 y1 y2 y3 y4 y5, LeO (frustumlaw38_DepthCompare.j0 k y0 y1 y2 y3 y4 y5) (frustumlaw38_DepthCompare.j0 (k + 1) y0 y1 y2 y3 y4 y5))
  | 0 => fun _ _ _ _ _ _ r h => by simp [frustumlaw38_DepthCompare.j0] at h
  | k + 1 => by
    have ih0 := frustumlaw38_DepthCompare.mono_l k
    · intro y0 y1 y2 y3 y4 y5
      unfold frustumlaw38_DepthCompare.j0
      repeat' first
      | (with_reducible exact ih0 _ _ _ _ _ _)
      | (with_reducible exact frustumlaw38_example.mono _)
      | (with_reducible exact LeO.refl _)
      | (with_reducible exact LeO.none _)
      | (with_reducible refine LeO.ite ?_ ?_)
      | (with_reducible refine LeO.bind ?_ (fun _ => ?_))
      | exact ih0 _ _ _ _ _ _
      | exact frustumlaw38_example.mono _
      | exact LeO.none _
      | refine LeO.ite ?_ ?_
      | refine LeO.bind ?_ (fun _ => ?_)
theorem frustumlaw38_DepthCompare.mono : ∀ a0 a1 k, LeO (frustumlaw38_DepthCompare.f k a0 a1) (frustumlaw38_DepthCompare.f (k + 1) a0 a1) := by
  intro a0 a1 k
  have ih0 := frustumlaw38_DepthCompare.mono_l k
  unfold frustumlaw38_DepthCompare.f
  repeat' first
      | (with_reducible exact ih0 _ _ _ _ _ _)
      | (with_reducible exact frustumlaw38_example.mono _)
      | (with_reducible exact LeO.refl _)
      | (with_reducible exact LeO.none _)
      | (with_reducible refine LeO.ite ?_ ?_)
      | (with_reducible refine LeO.bind ?_ (fun _ => ?_))
      | exact ih0 _ _ _ _ _ _
      | exact frustumlaw38_example.mono _
      | exact LeO.none _
      | refine LeO.ite ?_ ?_
      | refine LeO.bind ?_ (fun _ => ?_)
set_option maxHeartbeats 8000000 in
set_option maxRecDepth 100000 in
theorem frustumlaw38_DepthCompare.calls (k : Nat) (a0 : Int) (a1 : Int) (r : Bool) (w : World) (h : frustumlaw38_DepthCompare.f k a0 a1 = some r) :
    Calls Try.prog 5 #[.int .i64 a0, .int .i64 a1] w fun e w' => e = .returned (.bool r) ∧ Below w.heap.size w w' := by
  have HB := Aside0.mk (Below.refl w.heap.size w)
  have H : ((depth_Compare.f 2 a0 a1).bind fun t117 => ((depth_Compare.f 3 a0 a1).bind fun t118 => ((depth_Compare.f 5 a0 a1).bind fun t119 => ((frustumlaw38_one.f t117).bind fun t120 => ((frustumlaw38_one.f t118).bind fun t121 => ((frustumlaw38_one.f t119).bind fun t122 => (if (wrap64 ((wrap64 (t120 + t121)) + t122)) = 1 then ((depth_Compare.f 5 a1 a0).bind fun t123 => (if (t117 != t123) = true then (frustumlaw38_DepthCompare.j0 k a0 a1 t117 t118 t119 true) else ((depth_Compare.f 3 a1 a0).bind fun t124 => (frustumlaw38_DepthCompare.j0 k a0 a1 t117 t118 t119 (t118 != t124))))) else (frustumlaw38_DepthCompare.j0 k a0 a1 t117 t118 t119 true)))))))) = some r := h
  clear h
  replace H := Option.bind_eq_some_iff.mp H
  obtain ⟨t117, A30, H⟩ := H
  replace H : ((depth_Compare.f 3 a0 a1).bind fun t118 => ((depth_Compare.f 5 a0 a1).bind fun t119 => ((frustumlaw38_one.f t117).bind fun t120 => ((frustumlaw38_one.f t118).bind fun t121 => ((frustumlaw38_one.f t119).bind fun t122 => (if (wrap64 ((wrap64 (t120 + t121)) + t122)) = 1 then ((depth_Compare.f 5 a1 a0).bind fun t123 => (if (t117 != t123) = true then (frustumlaw38_DepthCompare.j0 k a0 a1 t117 t118 t119 true) else ((depth_Compare.f 3 a1 a0).bind fun t124 => (frustumlaw38_DepthCompare.j0 k a0 a1 t117 t118 t119 (t118 != t124))))) else (frustumlaw38_DepthCompare.j0 k a0 a1 t117 t118 t119 true))))))) = some r := H
  have A3 := Aside0.mk A30
  clear A30
  replace H := Option.bind_eq_some_iff.mp H
  obtain ⟨t118, A40, H⟩ := H
  replace H : ((depth_Compare.f 5 a0 a1).bind fun t119 => ((frustumlaw38_one.f t117).bind fun t120 => ((frustumlaw38_one.f t118).bind fun t121 => ((frustumlaw38_one.f t119).bind fun t122 => (if (wrap64 ((wrap64 (t120 + t121)) + t122)) = 1 then ((depth_Compare.f 5 a1 a0).bind fun t123 => (if (t117 != t123) = true then (frustumlaw38_DepthCompare.j0 k a0 a1 t117 t118 t119 true) else ((depth_Compare.f 3 a1 a0).bind fun t124 => (frustumlaw38_DepthCompare.j0 k a0 a1 t117 t118 t119 (t118 != t124))))) else (frustumlaw38_DepthCompare.j0 k a0 a1 t117 t118 t119 true)))))) = some r := H
  have A4 := Aside0.mk A40
  clear A40
  replace H := Option.bind_eq_some_iff.mp H
  obtain ⟨t119, A50, H⟩ := H
  replace H : ((frustumlaw38_one.f t117).bind fun t120 => ((frustumlaw38_one.f t118).bind fun t121 => ((frustumlaw38_one.f t119).bind fun t122 => (if (wrap64 ((wrap64 (t120 + t121)) + t122)) = 1 then ((depth_Compare.f 5 a1 a0).bind fun t123 => (if (t117 != t123) = true then (frustumlaw38_DepthCompare.j0 k a0 a1 t117 t118 t119 true) else ((depth_Compare.f 3 a1 a0).bind fun t124 => (frustumlaw38_DepthCompare.j0 k a0 a1 t117 t118 t119 (t118 != t124))))) else (frustumlaw38_DepthCompare.j0 k a0 a1 t117 t118 t119 true))))) = some r := H
  have A5 := Aside0.mk A50
  clear A50
  have HC6 := Aside0.mk H
  clear H
  go_enter Try.func5, Try.ntmps5
  go_upto_region 2 with (first | ((with_reducible refine gate_callee (f := 26) rfl ?_); refine goesL_ (some 10) rfl rfl Try.func26 (by kernel_rfl) rfl #[.int .i64 2, .int .i64 a0, .int .i64 a1] rfl (by (try simp only [List.map_toArray, List.map_cons, List.map_nil]); first | done | rfl | (simp only [List.length_drop, List.length_take]; rfl)) ?_; (with_reducible refine (depth_Compare.calls 2 a0 a1 t117 _ A3.out).mono ?_); rintro e w' ⟨rfl, ⟨nd, rfl⟩⟩; refine ⟨_, rfl, ?_⟩) | ((with_reducible refine gate_callee (f := 26) rfl ?_); refine goesL_ (some 13) rfl rfl Try.func26 (by kernel_rfl) rfl #[.int .i64 3, .int .i64 a0, .int .i64 a1] rfl (by (try simp only [List.map_toArray, List.map_cons, List.map_nil]); first | done | rfl | (simp only [List.length_drop, List.length_take]; rfl)) ?_; (with_reducible refine (depth_Compare.calls 3 a0 a1 t118 _ A4.out).mono ?_); rintro e w' ⟨rfl, ⟨nd, rfl⟩⟩; refine ⟨_, rfl, ?_⟩) | ((with_reducible refine gate_callee (f := 26) rfl ?_); refine goesL_ (some 16) rfl rfl Try.func26 (by kernel_rfl) rfl #[.int .i64 5, .int .i64 a0, .int .i64 a1] rfl (by (try simp only [List.map_toArray, List.map_cons, List.map_nil]); first | done | rfl | (simp only [List.length_drop, List.length_take]; rfl)) ?_; (with_reducible refine (depth_Compare.calls 5 a0 a1 t119 _ A5.out).mono ?_); rintro e w' ⟨rfl, ⟨nd, rfl⟩⟩; refine ⟨_, rfl, ?_⟩))
  (try simp only [Act.put, List.setIfInBounds_toArray, List.set_cons_zero, List.set_cons_succ])
  go_cut [39] (fun v39 wc => ∃ (kq : Nat) (x39_5 : Bool), v39 = .bool x39_5 ∧ Aside0 (frustumlaw38_DepthCompare.j0 kq a0 a1 t117 t118 t119 x39_5 = some r) ∧ Aside0 (kq ≤ k) ∧ Aside0 (Below w.heap.size w wc))
  case first =>
    have H := HC6.out
    clear HC6
    replace H := Option.bind_eq_some_iff.mp H
    obtain ⟨t120, A70, H⟩ := H
    replace H : ((frustumlaw38_one.f t118).bind fun t121 => ((frustumlaw38_one.f t119).bind fun t122 => (if (wrap64 ((wrap64 (t120 + t121)) + t122)) = 1 then ((depth_Compare.f 5 a1 a0).bind fun t123 => (if (t117 != t123) = true then (frustumlaw38_DepthCompare.j0 k a0 a1 t117 t118 t119 true) else ((depth_Compare.f 3 a1 a0).bind fun t124 => (frustumlaw38_DepthCompare.j0 k a0 a1 t117 t118 t119 (t118 != t124))))) else (frustumlaw38_DepthCompare.j0 k a0 a1 t117 t118 t119 true)))) = some r := H
    have A7 := Aside0.mk A70
    clear A70
    replace H := Option.bind_eq_some_iff.mp H
    obtain ⟨t121, A80, H⟩ := H
    replace H : ((frustumlaw38_one.f t119).bind fun t122 => (if (wrap64 ((wrap64 (t120 + t121)) + t122)) = 1 then ((depth_Compare.f 5 a1 a0).bind fun t123 => (if (t117 != t123) = true then (frustumlaw38_DepthCompare.j0 k a0 a1 t117 t118 t119 true) else ((depth_Compare.f 3 a1 a0).bind fun t124 => (frustumlaw38_DepthCompare.j0 k a0 a1 t117 t118 t119 (t118 != t124))))) else (frustumlaw38_DepthCompare.j0 k a0 a1 t117 t118 t119 true))) = some r := H
    have A8 := Aside0.mk A80
    clear A80
    replace H := Option.bind_eq_some_iff.mp H
    obtain ⟨t122, A90, H⟩ := H
    replace H : (if (wrap64 ((wrap64 (t120 + t121)) + t122)) = 1 then ((depth_Compare.f 5 a1 a0).bind fun t123 => (if (t117 != t123) = true then (frustumlaw38_DepthCompare.j0 k a0 a1 t117 t118 t119 true) else ((depth_Compare.f 3 a1 a0).bind fun t124 => (frustumlaw38_DepthCompare.j0 k a0 a1 t117 t118 t119 (t118 != t124))))) else (frustumlaw38_DepthCompare.j0 k a0 a1 t117 t118 t119 true)) = some r := H
    have A9 := Aside0.mk A90
    clear A90
    by_cases c10 : (wrap64 ((wrap64 (t120 + t121)) + t122)) = 1
    · rw [if_pos c10] at H
      have c10b0 : ((wrap64 ((wrap64 (t120 + t121)) + t122)) == 1) = true := beq_iff_eq.mpr c10
      have c10b1 : ((wrap64 ((wrap64 (t120 + t121)) + t122)) != 1) = false := bne_eq_false_iff_eq.mpr c10
      clear c10
      (first | rw [c10b0] | (simp only [i64_w, i32_w]; rw [c10b0]) | skip)
      replace H := Option.bind_eq_some_iff.mp H
      obtain ⟨t123, A110, H⟩ := H
      replace H : (if (t117 != t123) = true then (frustumlaw38_DepthCompare.j0 k a0 a1 t117 t118 t119 true) else ((depth_Compare.f 3 a1 a0).bind fun t124 => (frustumlaw38_DepthCompare.j0 k a0 a1 t117 t118 t119 (t118 != t124)))) = some r := H
      have A11 := Aside0.mk A110
      clear A110
      by_cases c12 : (t117 != t123) = true
      · rw [if_pos c12] at H
        have c12b0 : (t117 != t123) = true := c12
        (try (have c12b1 : decide (t117 = t123) = false := by simpa using c12))
        (try (have c12b2 : (t117 == t123) = false := by simpa using c12))
        (try (have c12b3 : ¬ (t117 = t123) := by simpa using c12))
        clear c12
        have H' := Aside0.mk H
        clear H
        go_wp2_with (first | ((with_reducible refine gate_callee (f := 27) rfl ?_); refine goesL_ (some 18) rfl rfl Try.func27 (by kernel_rfl) rfl #[.bool t117] rfl (by (try simp only [List.map_toArray, List.map_cons, List.map_nil]); first | done | rfl | (simp only [List.length_drop, List.length_take]; rfl)) ?_; (with_reducible refine (frustumlaw38_one.calls t117 t120 _ A7.out).mono ?_); rintro e w' ⟨rfl, ⟨nd, rfl⟩⟩; refine ⟨_, rfl, ?_⟩) | ((with_reducible refine gate_callee (f := 27) rfl ?_); refine goesL_ (some 20) rfl rfl Try.func27 (by kernel_rfl) rfl #[.bool t118] rfl (by (try simp only [List.map_toArray, List.map_cons, List.map_nil]); first | done | rfl | (simp only [List.length_drop, List.length_take]; rfl)) ?_; (with_reducible refine (frustumlaw38_one.calls t118 t121 _ A8.out).mono ?_); rintro e w' ⟨rfl, ⟨nd, rfl⟩⟩; refine ⟨_, rfl, ?_⟩) | ((with_reducible refine gate_callee (f := 27) rfl ?_); refine goesL_ (some 23) rfl rfl Try.func27 (by kernel_rfl) rfl #[.bool t119] rfl (by (try simp only [List.map_toArray, List.map_cons, List.map_nil]); first | done | rfl | (simp only [List.length_drop, List.length_take]; rfl)) ?_; (with_reducible refine (frustumlaw38_one.calls t119 t122 _ A9.out).mono ?_); rintro e w' ⟨rfl, ⟨nd, rfl⟩⟩; refine ⟨_, rfl, ?_⟩) | (go_at_call 26; (with_reducible refine (depth_Compare.calls 5 a1 a0 t123 _ A11.out).mono ?_); rintro e w' ⟨rfl, ⟨nd, rfl⟩⟩))
        go_meet
        case rel => exact ⟨_, (true), (by first | rfl | (simp; done) | (simp [*]; done)), H', ⟨by first | omega | exact Nat.le_refl _⟩, ⟨by repeat (first | (with_reducible first | exact HB.out | apply below_alloc | apply pw_below_drewN | apply below_drew1) | exact HB.out)⟩⟩
      · rw [if_neg c12] at H
        have c12b0 : (t117 != t123) = false := by simpa using c12
        (try (have c12b1 : decide (t117 = t123) = true := by simpa using c12))
        (try (have c12b2 : (t117 == t123) = true := by simpa using c12))
        clear c12
        replace H := Option.bind_eq_some_iff.mp H
        obtain ⟨t124, A130, H⟩ := H
        replace H : (frustumlaw38_DepthCompare.j0 k a0 a1 t117 t118 t119 (t118 != t124)) = some r := H
        have A13 := Aside0.mk A130
        clear A130
        have H' := Aside0.mk H
        clear H
        go_wp2_with (first | ((with_reducible refine gate_callee (f := 27) rfl ?_); refine goesL_ (some 18) rfl rfl Try.func27 (by kernel_rfl) rfl #[.bool t117] rfl (by (try simp only [List.map_toArray, List.map_cons, List.map_nil]); first | done | rfl | (simp only [List.length_drop, List.length_take]; rfl)) ?_; (with_reducible refine (frustumlaw38_one.calls t117 t120 _ A7.out).mono ?_); rintro e w' ⟨rfl, ⟨nd, rfl⟩⟩; refine ⟨_, rfl, ?_⟩) | ((with_reducible refine gate_callee (f := 27) rfl ?_); refine goesL_ (some 20) rfl rfl Try.func27 (by kernel_rfl) rfl #[.bool t118] rfl (by (try simp only [List.map_toArray, List.map_cons, List.map_nil]); first | done | rfl | (simp only [List.length_drop, List.length_take]; rfl)) ?_; (with_reducible refine (frustumlaw38_one.calls t118 t121 _ A8.out).mono ?_); rintro e w' ⟨rfl, ⟨nd, rfl⟩⟩; refine ⟨_, rfl, ?_⟩) | ((with_reducible refine gate_callee (f := 27) rfl ?_); refine goesL_ (some 23) rfl rfl Try.func27 (by kernel_rfl) rfl #[.bool t119] rfl (by (try simp only [List.map_toArray, List.map_cons, List.map_nil]); first | done | rfl | (simp only [List.length_drop, List.length_take]; rfl)) ?_; (with_reducible refine (frustumlaw38_one.calls t119 t122 _ A9.out).mono ?_); rintro e w' ⟨rfl, ⟨nd, rfl⟩⟩; refine ⟨_, rfl, ?_⟩) | (go_at_call 26; (with_reducible refine (depth_Compare.calls 5 a1 a0 t123 _ A11.out).mono ?_); rintro e w' ⟨rfl, ⟨nd, rfl⟩⟩) | (go_at_call 26; (with_reducible refine (depth_Compare.calls 3 a1 a0 t124 _ A13.out).mono ?_); rintro e w' ⟨rfl, ⟨nd, rfl⟩⟩))
        go_meet
        case rel => exact ⟨_, ((t118 != t124)), (by first | rfl | (simp; done) | (simp [*]; done)), H', ⟨by first | omega | exact Nat.le_refl _⟩, ⟨by repeat (first | (with_reducible first | exact HB.out | apply below_alloc | apply pw_below_drewN | apply below_drew1) | exact HB.out)⟩⟩
    · rw [if_neg c10] at H
      have c10b0 : ((wrap64 ((wrap64 (t120 + t121)) + t122)) == 1) = false := beq_eq_false_iff_ne.mpr c10
      have c10b1 : ((wrap64 ((wrap64 (t120 + t121)) + t122)) != 1) = true := bne_iff_ne.mpr c10
      (first | rw [c10b0] | (simp only [i64_w, i32_w]; rw [c10b0]) | skip)
      have H' := Aside0.mk H
      clear H
      go_wp2_with (first | ((with_reducible refine gate_callee (f := 27) rfl ?_); refine goesL_ (some 18) rfl rfl Try.func27 (by kernel_rfl) rfl #[.bool t117] rfl (by (try simp only [List.map_toArray, List.map_cons, List.map_nil]); first | done | rfl | (simp only [List.length_drop, List.length_take]; rfl)) ?_; (with_reducible refine (frustumlaw38_one.calls t117 t120 _ A7.out).mono ?_); rintro e w' ⟨rfl, ⟨nd, rfl⟩⟩; refine ⟨_, rfl, ?_⟩) | ((with_reducible refine gate_callee (f := 27) rfl ?_); refine goesL_ (some 20) rfl rfl Try.func27 (by kernel_rfl) rfl #[.bool t118] rfl (by (try simp only [List.map_toArray, List.map_cons, List.map_nil]); first | done | rfl | (simp only [List.length_drop, List.length_take]; rfl)) ?_; (with_reducible refine (frustumlaw38_one.calls t118 t121 _ A8.out).mono ?_); rintro e w' ⟨rfl, ⟨nd, rfl⟩⟩; refine ⟨_, rfl, ?_⟩) | ((with_reducible refine gate_callee (f := 27) rfl ?_); refine goesL_ (some 23) rfl rfl Try.func27 (by kernel_rfl) rfl #[.bool t119] rfl (by (try simp only [List.map_toArray, List.map_cons, List.map_nil]); first | done | rfl | (simp only [List.length_drop, List.length_take]; rfl)) ?_; (with_reducible refine (frustumlaw38_one.calls t119 t122 _ A9.out).mono ?_); rintro e w' ⟨rfl, ⟨nd, rfl⟩⟩; refine ⟨_, rfl, ?_⟩))
      go_meet
      case rel => exact ⟨_, (true), (by first | rfl | (simp; done) | (simp [*]; done)), H', ⟨by first | omega | exact Nat.le_refl _⟩, ⟨by repeat (first | (with_reducible first | exact HB.out | apply below_alloc | apply pw_below_drewN | apply below_drew1) | exact HB.out)⟩⟩
  case rest =>
    clear HC6
    try clear c1
    try clear c2
    try clear p2
    try clear c5
    try clear p6
    try clear c10
    try clear c10b0
    try clear c10b1
    try clear c12
    try clear c12b0
    try clear c12b1
    try clear c12b2
    obtain ⟨kq, x39_5, rfl, HA, HJ5, HB⟩ := hcut
    cases kq with
    | zero => exact absurd HA.out (by simp [frustumlaw38_DepthCompare.j0])
    | succ kj5 =>
      have H := HA.out
      clear HA
      simp only [frustumlaw38_DepthCompare.j0] at H
      by_cases c14 : x39_5 = true
      · subst c14
        have H1 : (some false) = some r := by rw [if_pos rfl] at H; exact H
        clear H
        have H := H1
        clear H1
        obtain rfl := Option.some.inj H
        go_wp2
        go_ret
        exact ⟨by first | rfl | (simp [errW_none, errW_some] <;> rfl) | (simp [*, errW_none, errW_some] <;> rfl), by repeat (first | (with_reducible first | exact HB.out | apply below_alloc | apply pw_below_drewN | apply below_drew1) | exact HB.out)⟩
      · replace c14 := Bool.eq_false_iff.mpr c14
        subst c14
        have H1 : ((depth_Compare.f 7 a0 a1).bind fun t125 => (if (t125 != t117) = true then ((depth_Compare.f 6 a0 a1).bind fun t126 => (if (t126 != t118) = true then ((depth_Compare.f 4 a0 a1).bind fun t127 => (if (t127 != t119) = true then ((depth_Compare.f 8 a0 a1).bind fun t128 => (if t128 = true then ((depth_Compare.f 1 a0 a1).bind fun t129 => (if t129 = true then (some false) else ((frustumlaw38_example.f kj5).bind fun t130 => (some t130)))) else (some false))) else (some false))) else (some false))) else (some false))) = some r := by rw [if_neg (show ¬ (false = true) by decide)] at H; exact H
        clear H
        have H := H1
        clear H1
        replace H := Option.bind_eq_some_iff.mp H
        obtain ⟨t125, A150, H⟩ := H
        replace H : (if (t125 != t117) = true then ((depth_Compare.f 6 a0 a1).bind fun t126 => (if (t126 != t118) = true then ((depth_Compare.f 4 a0 a1).bind fun t127 => (if (t127 != t119) = true then ((depth_Compare.f 8 a0 a1).bind fun t128 => (if t128 = true then ((depth_Compare.f 1 a0 a1).bind fun t129 => (if t129 = true then (some false) else ((frustumlaw38_example.f kj5).bind fun t130 => (some t130)))) else (some false))) else (some false))) else (some false))) else (some false)) = some r := H
        have A15 := Aside0.mk A150
        clear A150
        by_cases c16 : (t125 != t117) = true
        · rw [if_pos c16] at H
          have c16b0 : (t125 != t117) = true := c16
          (try (have c16b1 : decide (t125 = t117) = false := by simpa using c16))
          (try (have c16b2 : (t125 == t117) = false := by simpa using c16))
          (try (have c16b3 : ¬ (t125 = t117) := by simpa using c16))
          clear c16
          replace H := Option.bind_eq_some_iff.mp H
          obtain ⟨t126, A170, H⟩ := H
          replace H : (if (t126 != t118) = true then ((depth_Compare.f 4 a0 a1).bind fun t127 => (if (t127 != t119) = true then ((depth_Compare.f 8 a0 a1).bind fun t128 => (if t128 = true then ((depth_Compare.f 1 a0 a1).bind fun t129 => (if t129 = true then (some false) else ((frustumlaw38_example.f kj5).bind fun t130 => (some t130)))) else (some false))) else (some false))) else (some false)) = some r := H
          have A17 := Aside0.mk A170
          clear A170
          by_cases c18 : (t126 != t118) = true
          · rw [if_pos c18] at H
            have c18b0 : (t126 != t118) = true := c18
            (try (have c18b1 : decide (t126 = t118) = false := by simpa using c18))
            (try (have c18b2 : (t126 == t118) = false := by simpa using c18))
            (try (have c18b3 : ¬ (t126 = t118) := by simpa using c18))
            clear c18
            replace H := Option.bind_eq_some_iff.mp H
            obtain ⟨t127, A190, H⟩ := H
            replace H : (if (t127 != t119) = true then ((depth_Compare.f 8 a0 a1).bind fun t128 => (if t128 = true then ((depth_Compare.f 1 a0 a1).bind fun t129 => (if t129 = true then (some false) else ((frustumlaw38_example.f kj5).bind fun t130 => (some t130)))) else (some false))) else (some false)) = some r := H
            have A19 := Aside0.mk A190
            clear A190
            by_cases c20 : (t127 != t119) = true
            · rw [if_pos c20] at H
              have c20b0 : (t127 != t119) = true := c20
              (try (have c20b1 : decide (t127 = t119) = false := by simpa using c20))
              (try (have c20b2 : (t127 == t119) = false := by simpa using c20))
              (try (have c20b3 : ¬ (t127 = t119) := by simpa using c20))
              clear c20
              replace H := Option.bind_eq_some_iff.mp H
              obtain ⟨t128, A210, H⟩ := H
              replace H : (if t128 = true then ((depth_Compare.f 1 a0 a1).bind fun t129 => (if t129 = true then (some false) else ((frustumlaw38_example.f kj5).bind fun t130 => (some t130)))) else (some false)) = some r := H
              have A21 := Aside0.mk A210
              clear A210
              by_cases c22 : t128 = true
              · subst c22
                have H1 : ((depth_Compare.f 1 a0 a1).bind fun t129 => (if t129 = true then (some false) else ((frustumlaw38_example.f kj5).bind fun t130 => (some t130)))) = some r := by rw [if_pos rfl] at H; exact H
                clear H
                have H := H1
                clear H1
                replace H := Option.bind_eq_some_iff.mp H
                obtain ⟨t129, A230, H⟩ := H
                replace H : (if t129 = true then (some false) else ((frustumlaw38_example.f kj5).bind fun t130 => (some t130))) = some r := H
                have A23 := Aside0.mk A230
                clear A230
                by_cases c24 : t129 = true
                · subst c24
                  have H1 : (some false) = some r := by rw [if_pos rfl] at H; exact H
                  clear H
                  have H := H1
                  clear H1
                  obtain rfl := Option.some.inj H
                  go_wp2_with (first | ((with_reducible refine gate_callee (f := 26) rfl ?_); refine goesL_ (some 42) rfl rfl Try.func26 (by kernel_rfl) rfl #[.int .i64 7, .int .i64 a0, .int .i64 a1] rfl (by (try simp only [List.map_toArray, List.map_cons, List.map_nil]); first | done | rfl | (simp only [List.length_drop, List.length_take]; rfl)) ?_; (with_reducible refine (depth_Compare.calls 7 a0 a1 t125 _ A15.out).mono ?_); rintro e w' ⟨rfl, ⟨nd, rfl⟩⟩; refine ⟨_, rfl, ?_⟩) | (go_at_call 26; (with_reducible refine (depth_Compare.calls 6 a0 a1 t126 _ A17.out).mono ?_); rintro e w' ⟨rfl, ⟨nd, rfl⟩⟩) | (go_at_call 26; (with_reducible refine (depth_Compare.calls 4 a0 a1 t127 _ A19.out).mono ?_); rintro e w' ⟨rfl, ⟨nd, rfl⟩⟩) | (go_at_call 26; (with_reducible refine (depth_Compare.calls 8 a0 a1 true _ A21.out).mono ?_); rintro e w' ⟨rfl, ⟨nd, rfl⟩⟩) | (go_at_call 26; (with_reducible refine (depth_Compare.calls 1 a0 a1 true _ A23.out).mono ?_); rintro e w' ⟨rfl, ⟨nd, rfl⟩⟩))
                  go_ret
                  exact ⟨by first | rfl | (simp [errW_none, errW_some] <;> rfl) | (simp [*, errW_none, errW_some] <;> rfl), by repeat (first | (with_reducible first | exact HB.out | apply below_alloc | apply pw_below_drewN | apply below_drew1) | exact HB.out)⟩
                · replace c24 := Bool.eq_false_iff.mpr c24
                  subst c24
                  have H1 : ((frustumlaw38_example.f kj5).bind fun t130 => (some t130)) = some r := by rw [if_neg (show ¬ (false = true) by decide)] at H; exact H
                  clear H
                  have H := H1
                  clear H1
                  replace H := Option.bind_eq_some_iff.mp H
                  obtain ⟨t130, A250, H⟩ := H
                  replace H : (some t130) = some r := H
                  have A25 := Aside0.mk A250
                  clear A250
                  obtain rfl := Option.some.inj H
                  go_wp2_with (first | ((with_reducible refine gate_callee (f := 26) rfl ?_); refine goesL_ (some 42) rfl rfl Try.func26 (by kernel_rfl) rfl #[.int .i64 7, .int .i64 a0, .int .i64 a1] rfl (by (try simp only [List.map_toArray, List.map_cons, List.map_nil]); first | done | rfl | (simp only [List.length_drop, List.length_take]; rfl)) ?_; (with_reducible refine (depth_Compare.calls 7 a0 a1 t125 _ A15.out).mono ?_); rintro e w' ⟨rfl, ⟨nd, rfl⟩⟩; refine ⟨_, rfl, ?_⟩) | (go_at_call 26; (with_reducible refine (depth_Compare.calls 6 a0 a1 t126 _ A17.out).mono ?_); rintro e w' ⟨rfl, ⟨nd, rfl⟩⟩) | (go_at_call 26; (with_reducible refine (depth_Compare.calls 4 a0 a1 t127 _ A19.out).mono ?_); rintro e w' ⟨rfl, ⟨nd, rfl⟩⟩) | (go_at_call 26; (with_reducible refine (depth_Compare.calls 8 a0 a1 true _ A21.out).mono ?_); rintro e w' ⟨rfl, ⟨nd, rfl⟩⟩) | (go_at_call 26; (with_reducible refine (depth_Compare.calls 1 a0 a1 false _ A23.out).mono ?_); rintro e w' ⟨rfl, ⟨nd, rfl⟩⟩) | (go_at_call 23; (with_reducible refine (frustumlaw38_example.calls kj5  t130 _ A25.out).mono ?_); rintro e w26 ⟨rfl, hb⟩; have n0_ := Aside0.mk (below_step (by repeat (first | (with_reducible first | exact HB.out | apply below_alloc | apply pw_below_drewN | apply below_drew1) | exact HB.out)) hb); clear HB; have HB := n0_; clear n0_; (try clear hb); (try clear hb2); (try clear hk); (try clear hi)))
                  go_ret
                  exact ⟨by first | rfl | (simp [errW_none, errW_some] <;> rfl) | (simp [*, errW_none, errW_some] <;> rfl), by repeat (first | (with_reducible first | exact HB.out | apply below_alloc | apply pw_below_drewN | apply below_drew1) | exact HB.out)⟩
              · replace c22 := Bool.eq_false_iff.mpr c22
                subst c22
                have H1 : (some false) = some r := by rw [if_neg (show ¬ (false = true) by decide)] at H; exact H
                clear H
                have H := H1
                clear H1
                obtain rfl := Option.some.inj H
                go_wp2_with (first | ((with_reducible refine gate_callee (f := 26) rfl ?_); refine goesL_ (some 42) rfl rfl Try.func26 (by kernel_rfl) rfl #[.int .i64 7, .int .i64 a0, .int .i64 a1] rfl (by (try simp only [List.map_toArray, List.map_cons, List.map_nil]); first | done | rfl | (simp only [List.length_drop, List.length_take]; rfl)) ?_; (with_reducible refine (depth_Compare.calls 7 a0 a1 t125 _ A15.out).mono ?_); rintro e w' ⟨rfl, ⟨nd, rfl⟩⟩; refine ⟨_, rfl, ?_⟩) | (go_at_call 26; (with_reducible refine (depth_Compare.calls 6 a0 a1 t126 _ A17.out).mono ?_); rintro e w' ⟨rfl, ⟨nd, rfl⟩⟩) | (go_at_call 26; (with_reducible refine (depth_Compare.calls 4 a0 a1 t127 _ A19.out).mono ?_); rintro e w' ⟨rfl, ⟨nd, rfl⟩⟩) | (go_at_call 26; (with_reducible refine (depth_Compare.calls 8 a0 a1 false _ A21.out).mono ?_); rintro e w' ⟨rfl, ⟨nd, rfl⟩⟩))
                go_ret
                exact ⟨by first | rfl | (simp [errW_none, errW_some] <;> rfl) | (simp [*, errW_none, errW_some] <;> rfl), by repeat (first | (with_reducible first | exact HB.out | apply below_alloc | apply pw_below_drewN | apply below_drew1) | exact HB.out)⟩
            · rw [if_neg c20] at H
              have c20b0 : (t127 != t119) = false := by simpa using c20
              (try (have c20b1 : decide (t127 = t119) = true := by simpa using c20))
              (try (have c20b2 : (t127 == t119) = true := by simpa using c20))
              clear c20
              obtain rfl := Option.some.inj H
              go_wp2_with (first | ((with_reducible refine gate_callee (f := 26) rfl ?_); refine goesL_ (some 42) rfl rfl Try.func26 (by kernel_rfl) rfl #[.int .i64 7, .int .i64 a0, .int .i64 a1] rfl (by (try simp only [List.map_toArray, List.map_cons, List.map_nil]); first | done | rfl | (simp only [List.length_drop, List.length_take]; rfl)) ?_; (with_reducible refine (depth_Compare.calls 7 a0 a1 t125 _ A15.out).mono ?_); rintro e w' ⟨rfl, ⟨nd, rfl⟩⟩; refine ⟨_, rfl, ?_⟩) | (go_at_call 26; (with_reducible refine (depth_Compare.calls 6 a0 a1 t126 _ A17.out).mono ?_); rintro e w' ⟨rfl, ⟨nd, rfl⟩⟩) | (go_at_call 26; (with_reducible refine (depth_Compare.calls 4 a0 a1 t127 _ A19.out).mono ?_); rintro e w' ⟨rfl, ⟨nd, rfl⟩⟩))
              go_ret
              exact ⟨by first | rfl | (simp [errW_none, errW_some] <;> rfl) | (simp [*, errW_none, errW_some] <;> rfl), by repeat (first | (with_reducible first | exact HB.out | apply below_alloc | apply pw_below_drewN | apply below_drew1) | exact HB.out)⟩
          · rw [if_neg c18] at H
            have c18b0 : (t126 != t118) = false := by simpa using c18
            (try (have c18b1 : decide (t126 = t118) = true := by simpa using c18))
            (try (have c18b2 : (t126 == t118) = true := by simpa using c18))
            clear c18
            obtain rfl := Option.some.inj H
            go_wp2_with (first | ((with_reducible refine gate_callee (f := 26) rfl ?_); refine goesL_ (some 42) rfl rfl Try.func26 (by kernel_rfl) rfl #[.int .i64 7, .int .i64 a0, .int .i64 a1] rfl (by (try simp only [List.map_toArray, List.map_cons, List.map_nil]); first | done | rfl | (simp only [List.length_drop, List.length_take]; rfl)) ?_; (with_reducible refine (depth_Compare.calls 7 a0 a1 t125 _ A15.out).mono ?_); rintro e w' ⟨rfl, ⟨nd, rfl⟩⟩; refine ⟨_, rfl, ?_⟩) | (go_at_call 26; (with_reducible refine (depth_Compare.calls 6 a0 a1 t126 _ A17.out).mono ?_); rintro e w' ⟨rfl, ⟨nd, rfl⟩⟩))
            go_ret
            exact ⟨by first | rfl | (simp [errW_none, errW_some] <;> rfl) | (simp [*, errW_none, errW_some] <;> rfl), by repeat (first | (with_reducible first | exact HB.out | apply below_alloc | apply pw_below_drewN | apply below_drew1) | exact HB.out)⟩
        · rw [if_neg c16] at H
          have c16b0 : (t125 != t117) = false := by simpa using c16
          (try (have c16b1 : decide (t125 = t117) = true := by simpa using c16))
          (try (have c16b2 : (t125 == t117) = true := by simpa using c16))
          clear c16
          obtain rfl := Option.some.inj H
          go_wp2_with (first | ((with_reducible refine gate_callee (f := 26) rfl ?_); refine goesL_ (some 42) rfl rfl Try.func26 (by kernel_rfl) rfl #[.int .i64 7, .int .i64 a0, .int .i64 a1] rfl (by (try simp only [List.map_toArray, List.map_cons, List.map_nil]); first | done | rfl | (simp only [List.length_drop, List.length_take]; rfl)) ?_; (with_reducible refine (depth_Compare.calls 7 a0 a1 t125 _ A15.out).mono ?_); rintro e w' ⟨rfl, ⟨nd, rfl⟩⟩; refine ⟨_, rfl, ?_⟩))
          go_ret
          exact ⟨by first | rfl | (simp [errW_none, errW_some] <;> rfl) | (simp [*, errW_none, errW_some] <;> rfl), by repeat (first | (with_reducible first | exact HB.out | apply below_alloc | apply pw_below_drewN | apply below_drew1) | exact HB.out)⟩

/-- THE ONE PURE STATEMENT of frustumlaw38_DepthCompare: yours. -/
def frustumlaw38_DepthCompare.Pure : Prop := ∀ (a0 : Int) (a1 : Int), (Lit.int .i64 a0).wf = true → (Lit.int .i64 a1).wf = true → ∃ k, frustumlaw38_DepthCompare.f k a0 a1 = some true
theorem frustumlaw38_DepthCompare.walk (P : frustumlaw38_DepthCompare.Pure) (a0 : Int) (a1 : Int) (w : World) (w0 : (Lit.int .i64 a0).wf = true) (w1 : (Lit.int .i64 a1).wf = true) :
    Calls Try.prog 5 #[.int .i64 a0, .int .i64 a1] w fun e w' => e = .returned (.bool true) ∧ Below w.heap.size w w' := by
  obtain ⟨k, h⟩ := P a0 a1 w0 w1
  refine (frustumlaw38_DepthCompare.calls k a0 a1 true w h).mono ?_
  rintro e w' ⟨rfl, hd⟩
  exact ⟨rfl, hd⟩

end Go.Proofs.Ytcpphnecjeohnaa.PDepthCompare
