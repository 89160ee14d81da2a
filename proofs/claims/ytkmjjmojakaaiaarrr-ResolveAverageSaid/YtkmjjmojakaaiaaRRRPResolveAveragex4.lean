-- PRINTED BY print.sh 35421559b90ae4d0a3588c463048766b98c2df88dd9212a6774a882060cdf62d: not written by this session
import Derived.Test.YtkmjjmojakaaiaaRRRPResolveAveragex0
import Derived.Test.YtkmjjmojakaaiaaRRRPResolveAveragex1
import Derived.Test.YtkmjjmojakaaiaaRRRPResolveAveragex3
namespace Go.Proofs.YtkmjjmojakaaiaaRRR.PResolveAverage
open Go.RowKit Go.Proofs.YtkmjjmojakaaiaaRRRW.PrintWords Go.Proofs.YtkmjjmojakaaiaaRRRW.PrintLast Go.Proofs.YtkmjjmojakaaiaaRRRW.PrintMore
attribute [local go_sem] max2_int min2_int max_two min_two max_three min_three max_four min_four   -- for this text's walks alone
set_option linter.unusedVariables false
set_option linter.unusedSimpArgs false

attribute [local go_sem high] eqA24
/-! ### frustumlaw41_example: function 8 -/
def frustumlaw41_example.f (k : Nat)  : Option (Bool) := (resolve_Average.f k (([(⟨65536, 0, 0, 0⟩ : S24), (⟨0, 0, 0, 65536⟩ : S24)] : List (S24)))).bind fun bt118 => (if (bt118.1 == 32768 && (bt118.2.1 == 0 && (bt118.2.2.1 == 0 && (bt118.2.2.2 == 32768)))) = true then ((resolve_Average.f k ([] : List (S24))).bind fun bt122 => (some (bt122.1 == 0 && (bt122.2.1 == 0 && (bt122.2.2.1 == 0 && (bt122.2.2.2 == 0)))))) else (some false))
theorem frustumlaw41_example.mono : ∀ k, LeO (frustumlaw41_example.f k ) (frustumlaw41_example.f (k + 1) ) := by
  intro  k
  unfold frustumlaw41_example.f
  repeat' first
      | (with_reducible exact resolve_Average.mono _ _)
      | (with_reducible exact LeO.refl _)
      | (with_reducible exact LeO.none _)
      | (with_reducible refine LeO.ite ?_ ?_)
      | (with_reducible refine LeO.bind ?_ (fun _ => ?_))
      | exact resolve_Average.mono _ _
      | exact LeO.none _
      | refine LeO.ite ?_ ?_
      | refine LeO.bind ?_ (fun _ => ?_)
set_option maxHeartbeats 8000000 in
set_option maxRecDepth 100000 in
theorem frustumlaw41_example.calls (k : Nat)  (r : Bool) (w : World) (h : frustumlaw41_example.f k  = some r) :
    Calls Try.prog 8 #[] w fun e w' => e = .returned (.bool r) ∧ Below w.heap.size w w' := by
  have hu24 := Try.underlying24
  have HB := Aside0.mk (Below.refl w.heap.size w)
  have H : ((resolve_Average.f k (([(⟨65536, 0, 0, 0⟩ : S24), (⟨0, 0, 0, 65536⟩ : S24)] : List (S24)))).bind fun bt118 => (if (bt118.1 == 32768 && (bt118.2.1 == 0 && (bt118.2.2.1 == 0 && (bt118.2.2.2 == 32768)))) = true then ((resolve_Average.f k ([] : List (S24))).bind fun bt122 => (some (bt122.1 == 0 && (bt122.2.1 == 0 && (bt122.2.2.1 == 0 && (bt122.2.2.2 == 0)))))) else (some false))) = some r := h
  clear h
  obtain ⟨y115, hy115⟩ : ∃ y_ : List (S24), y_ = (([(⟨65536, 0, 0, 0⟩ : S24), (⟨0, 0, 0, 65536⟩ : S24)] : List (S24))) := ⟨_, rfl⟩
  replace H : ((resolve_Average.f k y115).bind fun bt118 => (if (bt118.1 == 32768 && (bt118.2.1 == 0 && (bt118.2.2.1 == 0 && (bt118.2.2.2 == 32768)))) = true then ((resolve_Average.f k ([] : List (S24))).bind fun bt122 => (some (bt122.1 == 0 && (bt122.2.1 == 0 && (bt122.2.2.1 == 0 && (bt122.2.2.2 == 0)))))) else (some false))) = some r := by first | (rw [hy115]; with_reducible exact H) | (have H2_ := (Option.bind_some _ _).symm.trans H; rw [hy115]; with_reducible exact H2_) | (have H2_ := (Option.bind_some _ _).symm.trans H; with_reducible exact H2_) | with_reducible exact H | (rw [hy115]; exact H) | exact H
  have Ny115 := Aside0.mk hy115
  clear hy115
  replace H := Option.bind_eq_some_iff.mp H
  obtain ⟨⟨t118, t119, t120, t121⟩, A10, H⟩ := H
  replace H : (if (t118 == 32768 && (t119 == 0 && (t120 == 0 && (t121 == 32768)))) = true then ((resolve_Average.f k ([] : List (S24))).bind fun bt122 => (some (bt122.1 == 0 && (bt122.2.1 == 0 && (bt122.2.2.1 == 0 && (bt122.2.2.2 == 0)))))) else (some false)) = some r := H
  have A1 := Aside0.mk A10
  clear A10
  by_cases c2 : (t118 == 32768 && (t119 == 0 && (t120 == 0 && (t121 == 32768)))) = true
  · rw [if_pos c2] at H
    have c2b0 : (t118 == 32768 && (t119 == 0 && (t120 == 0 && (t121 == 32768)))) = true := c2
    (try (have c2b1 : decide (t118 = 32768 && (t119 == 0 && (t120 == 0 && (t121 == 32768)))) = true := by simpa using c2))
    (try (have c2b2 : (t118 == 32768 && (t119 == 0 && (t120 == 0 && (t121 == 32768)))) = true := by simpa using c2))
    clear c2
    replace H := Option.bind_eq_some_iff.mp H
    obtain ⟨⟨t122, t123, t124, t125⟩, A30, H⟩ := H
    replace H : (some (t122 == 0 && (t123 == 0 && (t124 == 0 && (t125 == 0))))) = some r := H
    have A3 := Aside0.mk A30
    clear A30
    obtain rfl := Option.some.inj H
    go_enter Try.func8, Try.ntmps8
    go_wp2_with (first | ((with_reducible refine gate_dst (N := 3) rfl ?_); refine Kd.R_lit k24 _ 24 ?hg (N := 3) ?hd (xs := ([(⟨65536, 0, 0, 0⟩ : S24), (⟨0, 0, 0, 65536⟩ : S24)] : List (S24))) (inner := [.int .i64 65536, .int .i64 0, .int .i64 0, .int .i64 0, .int .i64 0, .int .i64 0, .int .i64 0, .int .i64 65536]) (ok := fun _ => True) (okp := fun _ => True) ?hr ?hp (fun _ hk => hk) trivial (Below.refl _ _) (Nat.le_refl _) (by simp) ?_; (case hd => rfl); (case hg => rfl); (case hr => first | (go_simp; done) | (go_simp; rfl)); (case hp => exact (Reps.c4 (show Kd.M k24 _ _ _ (⟨65536, 0, 0, 0⟩ : S24) [.int .i64 65536, .int .i64 0, .int .i64 0, .int .i64 0] from (k24_mkM _ _ _ (⟨65536, 0, 0, 0⟩ : S24) )) (Reps.c4 (show Kd.M k24 _ _ _ (⟨0, 0, 0, 65536⟩ : S24) [.int .i64 0, .int .i64 0, .int .i64 0, .int .i64 65536] from (k24_mkM _ _ _ (⟨0, 0, 0, 65536⟩ : S24) )) (Reps.none _ _)))); intro v116 w4 ho5 hb hg_ hnew_; clear hg_ hnew_; (first | rw [← Ny115.out] at ho5 | (simp only [Int.reduceToNat] at ho5; rw [← Ny115.out] at ho5)); have n0_ := Aside0.mk (Kd.R_lower ho5 (below_size (by repeat (first | (with_reducible first | exact HB.out | apply below_alloc | apply pw_below_drewN | apply below_drew1) | exact HB.out)))); have n1_ := Aside0.mk (below_step (by repeat (first | (with_reducible first | exact HB.out | apply below_alloc | apply pw_below_drewN | apply below_drew1) | exact HB.out)) hb); clear HB; have HO117 := n0_; have HB := n1_; clear n0_ n1_; clear hb ho5; obtain ⟨Ao6, co6, eo6⟩ := Kd.R_slice HO117.out; subst eo6) | ((with_reducible refine gate_callee (f := 6) rfl ?_); refine goesL_ (some 4) rfl rfl Try.func6 (by kernel_rfl) rfl #[.slice Ao6 y115.length co6] rfl (by (try simp only [List.map_toArray, List.map_cons, List.map_nil]); first | done | rfl | (simp only [List.length_drop, List.length_take]; rfl)) ?_; (with_reducible refine (resolve_Average.calls k _ _ y115 t118 t119 t120 t121 _ ?side1 ?side2 A1.out).mono ?_); (case side1 => repeat (first | exact (Kd.R_reads' HO117.out).2.2 | (with_reducible refine Kd.C_alloc ?_ _) | (with_reducible refine Kd.C_drewN ?_ _) | (with_reducible refine Kd.C_drew ?_))); (case side2 => exact (Kd.R_reads' HO117.out).2.1); rintro e w7 ⟨rfl, hb⟩; refine ⟨_, rfl, ?_⟩; have n0_ := Aside0.mk (Kd.R_below (by (with_reducible repeat (first | apply Kd.R_alloc | apply Kd.R_drewN | apply Kd.R_drew)); exact HO117.out) hb); have n1_ := Aside0.mk (below_step (by repeat (first | (with_reducible first | exact HB.out | apply below_alloc | apply pw_below_drewN | apply below_drew1) | exact HB.out)) hb); clear HO117; clear HB; have HO117 := n0_; have HB := n1_; clear n0_ n1_; (try clear hb); (try clear hb2); (try clear hk); (try clear hi)) | (go_at_call 6; (refine (resolve_Average.calls k _ _ ([] : List (S24)) t122 t123 t124 t125 _ ?side1 ?side2 A3.out).mono ?_); (case side1 => exact Kd.C_nil _ _); (case side2 => exact Nat.le_refl _); rintro e w8 ⟨rfl, hb⟩; have n0_ := Aside0.mk (Kd.R_below (by (with_reducible repeat (first | apply Kd.R_alloc | apply Kd.R_drewN | apply Kd.R_drew)); exact HO117.out) hb); have n1_ := Aside0.mk (below_step (by repeat (first | (with_reducible first | exact HB.out | apply below_alloc | apply pw_below_drewN | apply below_drew1) | exact HB.out)) hb); clear HO117; clear HB; have HO117 := n0_; have HB := n1_; clear n0_ n1_; (try clear hb); (try clear hb2); (try clear hk); (try clear hi)))
    go_ret
    exact ⟨by first | rfl | (simp [errW_none, errW_some] <;> rfl) | (simp [*, errW_none, errW_some] <;> rfl), by repeat (first | (with_reducible first | exact HB.out | apply below_alloc | apply pw_below_drewN | apply below_drew1) | exact HB.out)⟩
  · rw [if_neg c2] at H
    have c2b0 : (t118 == 32768 && (t119 == 0 && (t120 == 0 && (t121 == 32768)))) = false := by simpa using c2
    (try (have c2b1 : decide (t118 = 32768 && (t119 == 0 && (t120 == 0 && (t121 == 32768)))) = false := by simpa using c2))
    (try (have c2b2 : (t118 == 32768 && (t119 == 0 && (t120 == 0 && (t121 == 32768)))) = false := by simpa using c2))
    (try (have c2b3 : ¬ (t118 = 32768 && (t119 == 0 && (t120 == 0 && (t121 == 32768)))) := by simpa using c2))
    clear c2
    obtain rfl := Option.some.inj H
    go_enter Try.func8, Try.ntmps8
    go_wp2_with (first | ((with_reducible refine gate_dst (N := 3) rfl ?_); refine Kd.R_lit k24 _ 24 ?hg (N := 3) ?hd (xs := ([(⟨65536, 0, 0, 0⟩ : S24), (⟨0, 0, 0, 65536⟩ : S24)] : List (S24))) (inner := [.int .i64 65536, .int .i64 0, .int .i64 0, .int .i64 0, .int .i64 0, .int .i64 0, .int .i64 0, .int .i64 65536]) (ok := fun _ => True) (okp := fun _ => True) ?hr ?hp (fun _ hk => hk) trivial (Below.refl _ _) (Nat.le_refl _) (by simp) ?_; (case hd => rfl); (case hg => rfl); (case hr => first | (go_simp; done) | (go_simp; rfl)); (case hp => exact (Reps.c4 (show Kd.M k24 _ _ _ (⟨65536, 0, 0, 0⟩ : S24) [.int .i64 65536, .int .i64 0, .int .i64 0, .int .i64 0] from (k24_mkM _ _ _ (⟨65536, 0, 0, 0⟩ : S24) )) (Reps.c4 (show Kd.M k24 _ _ _ (⟨0, 0, 0, 65536⟩ : S24) [.int .i64 0, .int .i64 0, .int .i64 0, .int .i64 65536] from (k24_mkM _ _ _ (⟨0, 0, 0, 65536⟩ : S24) )) (Reps.none _ _)))); intro v116 w9 ho10 hb hg_ hnew_; clear hg_ hnew_; (first | rw [← Ny115.out] at ho10 | (simp only [Int.reduceToNat] at ho10; rw [← Ny115.out] at ho10)); have n0_ := Aside0.mk (Kd.R_lower ho10 (below_size (by repeat (first | (with_reducible first | exact HB.out | apply below_alloc | apply pw_below_drewN | apply below_drew1) | exact HB.out)))); have n1_ := Aside0.mk (below_step (by repeat (first | (with_reducible first | exact HB.out | apply below_alloc | apply pw_below_drewN | apply below_drew1) | exact HB.out)) hb); clear HB; have HO117 := n0_; have HB := n1_; clear n0_ n1_; clear hb ho10; obtain ⟨Ao11, co11, eo11⟩ := Kd.R_slice HO117.out; subst eo11) | ((with_reducible refine gate_callee (f := 6) rfl ?_); refine goesL_ (some 4) rfl rfl Try.func6 (by kernel_rfl) rfl #[.slice Ao11 y115.length co11] rfl (by (try simp only [List.map_toArray, List.map_cons, List.map_nil]); first | done | rfl | (simp only [List.length_drop, List.length_take]; rfl)) ?_; (with_reducible refine (resolve_Average.calls k _ _ y115 t118 t119 t120 t121 _ ?side1 ?side2 A1.out).mono ?_); (case side1 => repeat (first | exact (Kd.R_reads' HO117.out).2.2 | (with_reducible refine Kd.C_alloc ?_ _) | (with_reducible refine Kd.C_drewN ?_ _) | (with_reducible refine Kd.C_drew ?_))); (case side2 => exact (Kd.R_reads' HO117.out).2.1); rintro e w12 ⟨rfl, hb⟩; refine ⟨_, rfl, ?_⟩; have n0_ := Aside0.mk (Kd.R_below (by (with_reducible repeat (first | apply Kd.R_alloc | apply Kd.R_drewN | apply Kd.R_drew)); exact HO117.out) hb); have n1_ := Aside0.mk (below_step (by repeat (first | (with_reducible first | exact HB.out | apply below_alloc | apply pw_below_drewN | apply below_drew1) | exact HB.out)) hb); clear HO117; clear HB; have HO117 := n0_; have HB := n1_; clear n0_ n1_; (try clear hb); (try clear hb2); (try clear hk); (try clear hi)))
    go_ret
    exact ⟨by first | rfl | (simp [errW_none, errW_some] <;> rfl) | (simp [*, errW_none, errW_some] <;> rfl), by repeat (first | (with_reducible first | exact HB.out | apply below_alloc | apply pw_below_drewN | apply below_drew1) | exact HB.out)⟩

end Go.Proofs.YtkmjjmojakaaiaaRRR.PResolveAverage
