-- PRINTED BY print.sh 35421559b90ae4d0a3588c463048766b98c2df88dd9212a6774a882060cdf62d: not written by this session
import Derived.Test.YtkmjjmojakaaiaaRRRPResolveAveragesx0
import Derived.Test.YtkmjjmojakaaiaaRRRPResolveAveragesx1
import Derived.Test.YtkmjjmojakaaiaaRRRPResolveAveragesx3
import Derived.Test.YtkmjjmojakaaiaaRRRPResolveAveragesx5
namespace Go.Proofs.YtkmjjmojakaaiaaRRR.PResolveAverages
open Go.RowKit Go.Proofs.YtkmjjmojakaaiaaRRRW.PrintWords Go.Proofs.YtkmjjmojakaaiaaRRRW.PrintLast Go.Proofs.YtkmjjmojakaaiaaRRRW.PrintMore
attribute [local go_sem] max2_int min2_int max_two min_two max_three min_three max_four min_four   -- for this text's walks alone
set_option linter.unusedVariables false
set_option linter.unusedSimpArgs false

attribute [local go_sem high] eqA24
/-! ### frustumlaw41_example: function 8 -/
def frustumlaw41_example.f (k : Nat)  : Option (Bool) := (resolve_Average.f k (([(⟨65536, 0, 0, 0⟩ : S24), (⟨0, 0, 0, 65536⟩ : S24)] : List (S24)))).bind fun bt134 => (if (bt134.1 == 32768 && (bt134.2.1 == 0 && (bt134.2.2.1 == 0 && (bt134.2.2.2 == 32768)))) = true then ((resolve_Average.f k ([] : List (S24))).bind fun bt138 => (some (bt138.1 == 0 && (bt138.2.1 == 0 && (bt138.2.2.1 == 0 && (bt138.2.2.2 == 0)))))) else (some false))
theorem frustumlaw41_example.mono : ∀ k, LeO (frustumlaw41_example.f k ) (frustumlaw41_example.f (k + 1) ) := by
  intro  k
  unfold frustumlaw41_example.f
  repeat' first
      | (with_reducible exact resolve_Average.mono _ _)
      | (with_reducible exact LeO.refl _)
      | (with_reducible exact LeO.none _)
      | (with_reducible refine LeO.ite ?_ ?_)
      | (with_reducible refine LeO.bind ?_ (fun _ => ?_))
      | exact resolve_Average.mono _ _
      | exact LeO.none _
      | refine LeO.ite ?_ ?_
      | refine LeO.bind ?_ (fun _ => ?_)
set_option maxHeartbeats 8000000 in
set_option maxRecDepth 100000 in
theorem frustumlaw41_example.calls (k : Nat)  (r : Bool) (w : World) (h : frustumlaw41_example.f k  = some r) :
    Calls Try.prog 8 #[] w fun e w' => e = .returned (.bool r) ∧ Below w.heap.size w w' := by
  have hu24 := Try.underlying24
  have HB := Aside0.mk (Below.refl w.heap.size w)
  have H : ((resolve_Average.f k (([(⟨65536, 0, 0, 0⟩ : S24), (⟨0, 0, 0, 65536⟩ : S24)] : List (S24)))).bind fun bt134 => (if (bt134.1 == 32768 && (bt134.2.1 == 0 && (bt134.2.2.1 == 0 && (bt134.2.2.2 == 32768)))) = true then ((resolve_Average.f k ([] : List (S24))).bind fun bt138 => (some (bt138.1 == 0 && (bt138.2.1 == 0 && (bt138.2.2.1 == 0 && (bt138.2.2.2 == 0)))))) else (some false))) = some r := h
  clear h
  obtain ⟨y131, hy131⟩ : ∃ y_ : List (S24), y_ = (([(⟨65536, 0, 0, 0⟩ : S24), (⟨0, 0, 0, 65536⟩ : S24)] : List (S24))) := ⟨_, rfl⟩
  replace H : ((resolve_Average.f k y131).bind fun bt134 => (if (bt134.1 == 32768 && (bt134.2.1 == 0 && (bt134.2.2.1 == 0 && (bt134.2.2.2 == 32768)))) = true then ((resolve_Average.f k ([] : List (S24))).bind fun bt138 => (some (bt138.1 == 0 && (bt138.2.1 == 0 && (bt138.2.2.1 == 0 && (bt138.2.2.2 == 0)))))) else (some false))) = some r := by first | (rw [hy131]; with_reducible exact H) | (have H2_ := (Option.bind_some _ _).symm.trans H; rw [hy131]; with_reducible exact H2_) | (have H2_ := (Option.bind_some _ _).symm.trans H; with_reducible exact H2_) | with_reducible exact H | (rw [hy131]; exact H) | exact H
  have Ny131 := Aside0.mk hy131
  clear hy131
  replace H := Option.bind_eq_some_iff.mp H
  obtain ⟨⟨t134, t135, t136, t137⟩, A10, H⟩ := H
  replace H : (if (t134 == 32768 && (t135 == 0 && (t136 == 0 && (t137 == 32768)))) = true then ((resolve_Average.f k ([] : List (S24))).bind fun bt138 => (some (bt138.1 == 0 && (bt138.2.1 == 0 && (bt138.2.2.1 == 0 && (bt138.2.2.2 == 0)))))) else (some false)) = some r := H
  have A1 := Aside0.mk A10
  clear A10
  by_cases c2 : (t134 == 32768 && (t135 == 0 && (t136 == 0 && (t137 == 32768)))) = true
  · rw [if_pos c2] at H
    have c2b0 : (t134 == 32768 && (t135 == 0 && (t136 == 0 && (t137 == 32768)))) = true := c2
    (try (have c2b1 : decide (t134 = 32768 && (t135 == 0 && (t136 == 0 && (t137 == 32768)))) = true := by simpa using c2))
    (try (have c2b2 : (t134 == 32768 && (t135 == 0 && (t136 == 0 && (t137 == 32768)))) = true := by simpa using c2))
    clear c2
    replace H := Option.bind_eq_some_iff.mp H
    obtain ⟨⟨t138, t139, t140, t141⟩, A30, H⟩ := H
    replace H : (some (t138 == 0 && (t139 == 0 && (t140 == 0 && (t141 == 0))))) = some r := H
    have A3 := Aside0.mk A30
    clear A30
    obtain rfl := Option.some.inj H
    go_enter Try.func8, Try.ntmps8
    go_wp2_with (first | ((with_reducible refine gate_dst (N := 3) rfl ?_); refine Kd.R_lit k24 _ 24 ?hg (N := 3) ?hd (xs := ([(⟨65536, 0, 0, 0⟩ : S24), (⟨0, 0, 0, 65536⟩ : S24)] : List (S24))) (inner := [.int .i64 65536, .int .i64 0, .int .i64 0, .int .i64 0, .int .i64 0, .int .i64 0, .int .i64 0, .int .i64 65536]) (ok := fun _ => True) (okp := fun _ => True) ?hr ?hp (fun _ hk => hk) trivial (Below.refl _ _) (Nat.le_refl _) (by simp) ?_; (case hd => rfl); (case hg => rfl); (case hr => first | (go_simp; done) | (go_simp; rfl)); (case hp => exact (Reps.c4 (show Kd.M k24 _ _ _ (⟨65536, 0, 0, 0⟩ : S24) [.int .i64 65536, .int .i64 0, .int .i64 0, .int .i64 0] from (k24_mkM _ _ _ (⟨65536, 0, 0, 0⟩ : S24) )) (Reps.c4 (show Kd.M k24 _ _ _ (⟨0, 0, 0, 65536⟩ : S24) [.int .i64 0, .int .i64 0, .int .i64 0, .int .i64 65536] from (k24_mkM _ _ _ (⟨0, 0, 0, 65536⟩ : S24) )) (Reps.none _ _)))); intro v132 w4 ho5 hb hg_ hnew_; clear hg_ hnew_; (first | rw [← Ny131.out] at ho5 | (simp only [Int.reduceToNat] at ho5; rw [← Ny131.out] at ho5)); have n0_ := Aside0.mk (Kd.R_lower ho5 (below_size (by repeat (first | (with_reducible first | exact HB.out | apply below_alloc | apply pw_below_drewN | apply below_drew1) | exact HB.out)))); have n1_ := Aside0.mk (below_step (by repeat (first | (with_reducible first | exact HB.out | apply below_alloc | apply pw_below_drewN | apply below_drew1) | exact HB.out)) hb); clear HB; have HO133 := n0_; have HB := n1_; clear n0_ n1_; clear hb ho5; obtain ⟨Ao6, co6, eo6⟩ := Kd.R_slice HO133.out; subst eo6) | ((with_reducible refine gate_callee (f := 6) rfl ?_); refine goesL_ (some 4) rfl rfl Try.func6 (by kernel_rfl) rfl #[.slice Ao6 y131.length co6] rfl (by (try simp only [List.map_toArray, List.map_cons, List.map_nil]); first | done | rfl | (simp only [List.length_drop, List.length_take]; rfl)) ?_; (with_reducible refine (resolve_Average.calls k _ _ y131 t134 t135 t136 t137 _ ?side1 ?side2 A1.out).mono ?_); (case side1 => repeat (first | exact (Kd.R_reads' HO133.out).2.2 | (with_reducible refine Kd.C_alloc ?_ _) | (with_reducible refine Kd.C_drewN ?_ _) | (with_reducible refine Kd.C_drew ?_))); (case side2 => exact (Kd.R_reads' HO133.out).2.1); rintro e w7 ⟨rfl, hb⟩; refine ⟨_, rfl, ?_⟩; have n0_ := Aside0.mk (Kd.R_below (by (with_reducible repeat (first | apply Kd.R_alloc | apply Kd.R_drewN | apply Kd.R_drew)); exact HO133.out) hb); have n1_ := Aside0.mk (below_step (by repeat (first | (with_reducible first | exact HB.out | apply below_alloc | apply pw_below_drewN | apply below_drew1) | exact HB.out)) hb); clear HO133; clear HB; have HO133 := n0_; have HB := n1_; clear n0_ n1_; (try clear hb); (try clear hb2); (try clear hk); (try clear hi)) | (go_at_call 6; (refine (resolve_Average.calls k _ _ ([] : List (S24)) t138 t139 t140 t141 _ ?side1 ?side2 A3.out).mono ?_); (case side1 => exact Kd.C_nil _ _); (case side2 => exact Nat.le_refl _); rintro e w8 ⟨rfl, hb⟩; have n0_ := Aside0.mk (Kd.R_below (by (with_reducible repeat (first | apply Kd.R_alloc | apply Kd.R_drewN | apply Kd.R_drew)); exact HO133.out) hb); have n1_ := Aside0.mk (below_step (by repeat (first | (with_reducible first | exact HB.out | apply below_alloc | apply pw_below_drewN | apply below_drew1) | exact HB.out)) hb); clear HO133; clear HB; have HO133 := n0_; have HB := n1_; clear n0_ n1_; (try clear hb); (try clear hb2); (try clear hk); (try clear hi)))
    go_ret
    exact ⟨by first | rfl | (simp [errW_none, errW_some] <;> rfl) | (simp [*, errW_none, errW_some] <;> rfl), by repeat (first | (with_reducible first | exact HB.out | apply below_alloc | apply pw_below_drewN | apply below_drew1) | exact HB.out)⟩
  · rw [if_neg c2] at H
    have c2b0 : (t134 == 32768 && (t135 == 0 && (t136 == 0 && (t137 == 32768)))) = false := by simpa using c2
    (try (have c2b1 : decide (t134 = 32768 && (t135 == 0 && (t136 == 0 && (t137 == 32768)))) = false := by simpa using c2))
    (try (have c2b2 : (t134 == 32768 && (t135 == 0 && (t136 == 0 && (t137 == 32768)))) = false := by simpa using c2))
    (try (have c2b3 : ¬ (t134 = 32768 && (t135 == 0 && (t136 == 0 && (t137 == 32768)))) := by simpa using c2))
    clear c2
    obtain rfl := Option.some.inj H
    go_enter Try.func8, Try.ntmps8
    go_wp2_with (first | ((with_reducible refine gate_dst (N := 3) rfl ?_); refine Kd.R_lit k24 _ 24 ?hg (N := 3) ?hd (xs := ([(⟨65536, 0, 0, 0⟩ : S24), (⟨0, 0, 0, 65536⟩ : S24)] : List (S24))) (inner := [.int .i64 65536, .int .i64 0, .int .i64 0, .int .i64 0, .int .i64 0, .int .i64 0, .int .i64 0, .int .i64 65536]) (ok := fun _ => True) (okp := fun _ => True) ?hr ?hp (fun _ hk => hk) trivial (Below.refl _ _) (Nat.le_refl _) (by simp) ?_; (case hd => rfl); (case hg => rfl); (case hr => first | (go_simp; done) | (go_simp; rfl)); (case hp => exact (Reps.c4 (show Kd.M k24 _ _ _ (⟨65536, 0, 0, 0⟩ : S24) [.int .i64 65536, .int .i64 0, .int .i64 0, .int .i64 0] from (k24_mkM _ _ _ (⟨65536, 0, 0, 0⟩ : S24) )) (Reps.c4 (show Kd.M k24 _ _ _ (⟨0, 0, 0, 65536⟩ : S24) [.int .i64 0, .int .i64 0, .int .i64 0, .int .i64 65536] from (k24_mkM _ _ _ (⟨0, 0, 0, 65536⟩ : S24) )) (Reps.none _ _)))); intro v132 w9 ho10 hb hg_ hnew_; clear hg_ hnew_; (first | rw [← Ny131.out] at ho10 | (simp only [Int.reduceToNat] at ho10; rw [← Ny131.out] at ho10)); have n0_ := Aside0.mk (Kd.R_lower ho10 (below_size (by repeat (first | (with_reducible first | exact HB.out | apply below_alloc | apply pw_below_drewN | apply below_drew1) | exact HB.out)))); have n1_ := Aside0.mk (below_step (by repeat (first | (with_reducible first | exact HB.out | apply below_alloc | apply pw_below_drewN | apply below_drew1) | exact HB.out)) hb); clear HB; have HO133 := n0_; have HB := n1_; clear n0_ n1_; clear hb ho10; obtain ⟨Ao11, co11, eo11⟩ := Kd.R_slice HO133.out; subst eo11) | ((with_reducible refine gate_callee (f := 6) rfl ?_); refine goesL_ (some 4) rfl rfl Try.func6 (by kernel_rfl) rfl #[.slice Ao11 y131.length co11] rfl (by (try simp only [List.map_toArray, List.map_cons, List.map_nil]); first | done | rfl | (simp only [List.length_drop, List.length_take]; rfl)) ?_; (with_reducible refine (resolve_Average.calls k _ _ y131 t134 t135 t136 t137 _ ?side1 ?side2 A1.out).mono ?_); (case side1 => repeat (first | exact (Kd.R_reads' HO133.out).2.2 | (with_reducible refine Kd.C_alloc ?_ _) | (with_reducible refine Kd.C_drewN ?_ _) | (with_reducible refine Kd.C_drew ?_))); (case side2 => exact (Kd.R_reads' HO133.out).2.1); rintro e w12 ⟨rfl, hb⟩; refine ⟨_, rfl, ?_⟩; have n0_ := Aside0.mk (Kd.R_below (by (with_reducible repeat (first | apply Kd.R_alloc | apply Kd.R_drewN | apply Kd.R_drew)); exact HO133.out) hb); have n1_ := Aside0.mk (below_step (by repeat (first | (with_reducible first | exact HB.out | apply below_alloc | apply pw_below_drewN | apply below_drew1) | exact HB.out)) hb); clear HO133; clear HB; have HO133 := n0_; have HB := n1_; clear n0_ n1_; (try clear hb); (try clear hb2); (try clear hk); (try clear hi)))
    go_ret
    exact ⟨by first | rfl | (simp [errW_none, errW_some] <;> rfl) | (simp [*, errW_none, errW_some] <;> rfl), by repeat (first | (with_reducible first | exact HB.out | apply below_alloc | apply pw_below_drewN | apply below_drew1) | exact HB.out)⟩

/-! ### frustumlaw41_ResolveAverages: function 3 -/
def frustumlaw41_ResolveAverages.f (k : Nat) (l0 : List (S24)) : Option (Bool) := (resolve_Average.f k l0).bind fun bt142 => ((frustumref41_Average.f k l0).bind fun bt146 => (if (bt142.1 == bt146.1 && (bt142.2.1 == bt146.2.1 && (bt142.2.2.1 == bt146.2.2.1 && (bt142.2.2.2 == bt146.2.2.2)))) = true then ((frustumlaw41_example.f k).bind fun t150 => (some t150)) else (some false)))
theorem frustumlaw41_ResolveAverages.mono : ∀ a0 k, LeO (frustumlaw41_ResolveAverages.f k a0) (frustumlaw41_ResolveAverages.f (k + 1) a0) := by
  intro a0 k
  unfold frustumlaw41_ResolveAverages.f
  repeat' first
      | (with_reducible exact frustumlaw41_example.mono _)
      | (with_reducible exact frustumref41_Average.mono _ _)
      | (with_reducible exact resolve_Average.mono _ _)
      | (with_reducible exact LeO.refl _)
      | (with_reducible exact LeO.none _)
      | (with_reducible refine LeO.ite ?_ ?_)
      | (with_reducible refine LeO.bind ?_ (fun _ => ?_))
      | exact frustumlaw41_example.mono _
      | exact frustumref41_Average.mono _ _
      | exact resolve_Average.mono _ _
      | exact LeO.none _
      | refine LeO.ite ?_ ?_
      | refine LeO.bind ?_ (fun _ => ?_)
set_option maxHeartbeats 8000000 in
set_option maxRecDepth 100000 in
theorem frustumlaw41_ResolveAverages.calls (k : Nat) (A0 : Option Addr) (c0 : Nat) (l0 : List (S24)) (r : Bool) (w : World) (hr0 : Kd.C k24 w A0 l0.length l0) (hc0 : l0.length ≤ c0) (h : frustumlaw41_ResolveAverages.f k l0 = some r) :
    Calls Try.prog 3 #[.slice A0 l0.length c0] w fun e w' => e = .returned (.bool r) ∧ Below w.heap.size w w' := by
  have HR0 := Aside0.mk hr0
  have HC0 := Aside0.mk hc0
  clear hr0 hc0
  have HB := Aside0.mk (Below.refl w.heap.size w)
  have H : ((resolve_Average.f k l0).bind fun bt142 => ((frustumref41_Average.f k l0).bind fun bt146 => (if (bt142.1 == bt146.1 && (bt142.2.1 == bt146.2.1 && (bt142.2.2.1 == bt146.2.2.1 && (bt142.2.2.2 == bt146.2.2.2)))) = true then ((frustumlaw41_example.f k).bind fun t150 => (some t150)) else (some false)))) = some r := h
  clear h
  replace H := Option.bind_eq_some_iff.mp H
  obtain ⟨⟨t142, t143, t144, t145⟩, A20, H⟩ := H
  replace H : ((frustumref41_Average.f k l0).bind fun bt146 => (if (t142 == bt146.1 && (t143 == bt146.2.1 && (t144 == bt146.2.2.1 && (t145 == bt146.2.2.2)))) = true then ((frustumlaw41_example.f k).bind fun t150 => (some t150)) else (some false))) = some r := H
  have A2 := Aside0.mk A20
  clear A20
  replace H := Option.bind_eq_some_iff.mp H
  obtain ⟨⟨t146, t147, t148, t149⟩, A30, H⟩ := H
  replace H : (if (t142 == t146 && (t143 == t147 && (t144 == t148 && (t145 == t149)))) = true then ((frustumlaw41_example.f k).bind fun t150 => (some t150)) else (some false)) = some r := H
  have A3 := Aside0.mk A30
  clear A30
  by_cases c4 : (t142 == t146 && (t143 == t147 && (t144 == t148 && (t145 == t149)))) = true
  · rw [if_pos c4] at H
    have c4b0 : (t142 == t146 && (t143 == t147 && (t144 == t148 && (t145 == t149)))) = true := c4
    (try (have c4b1 : decide (t142 = t146 && (t143 == t147 && (t144 == t148 && (t145 == t149)))) = true := by simpa using c4))
    (try (have c4b2 : (t142 == t146 && (t143 == t147 && (t144 == t148 && (t145 == t149)))) = true := by simpa using c4))
    clear c4
    replace H := Option.bind_eq_some_iff.mp H
    obtain ⟨t150, A50, H⟩ := H
    replace H : (some t150) = some r := H
    have A5 := Aside0.mk A50
    clear A50
    obtain rfl := Option.some.inj H
    go_enter Try.func3, Try.ntmps3
    go_wp2_with (first | ((with_reducible refine gate_callee (f := 6) rfl ?_); refine goesL_ (some 4) rfl rfl Try.func6 (by kernel_rfl) rfl #[.slice A0 l0.length c0] rfl (by (try simp only [List.map_toArray, List.map_cons, List.map_nil]); first | done | rfl | (simp only [List.length_drop, List.length_take]; rfl)) ?_; (with_reducible refine (resolve_Average.calls k _ _ l0 t142 t143 t144 t145 _ ?side1 ?side2 A2.out).mono ?_); (case side1 => repeat (first | exact HR0.out | (with_reducible refine Kd.C_alloc ?_ _) | (with_reducible refine Kd.C_drewN ?_ _) | (with_reducible refine Kd.C_drew ?_))); (case side2 => exact HC0.out); rintro e w6 ⟨rfl, hb⟩; refine ⟨_, rfl, ?_⟩; have n0_ := Aside0.mk (below_step (by repeat (first | (with_reducible first | exact HB.out | apply below_alloc | apply pw_below_drewN | apply below_drew1) | exact HB.out)) hb); clear HB; have HB := n0_; clear n0_; (try clear hb); (try clear hb2); (try clear hk); (try clear hi)) | ((with_reducible refine gate_callee (f := 7) rfl ?_); refine goesL_ (some 6) rfl rfl Try.func7 (by kernel_rfl) rfl #[.slice A0 l0.length c0] rfl (by (try simp only [List.map_toArray, List.map_cons, List.map_nil]); first | done | rfl | (simp only [List.length_drop, List.length_take]; rfl)) ?_; (with_reducible refine (frustumref41_Average.calls k _ _ l0 t146 t147 t148 t149 _ ?side1 ?side2 A3.out).mono ?_); (case side1 => repeat (first | exact (Kd.C_below HR0.out HB.out) | (with_reducible refine Kd.C_alloc ?_ _) | (with_reducible refine Kd.C_drewN ?_ _) | (with_reducible refine Kd.C_drew ?_))); (case side2 => exact HC0.out); rintro e w7 ⟨rfl, hb⟩; refine ⟨_, rfl, ?_⟩; have n0_ := Aside0.mk (below_step (by repeat (first | (with_reducible first | exact HB.out | apply below_alloc | apply pw_below_drewN | apply below_drew1) | exact HB.out)) hb); clear HB; have HB := n0_; clear n0_; (try clear hb); (try clear hb2); (try clear hk); (try clear hi)) | (go_at_call 8; (with_reducible refine (frustumlaw41_example.calls k  t150 _ A5.out).mono ?_); rintro e w8 ⟨rfl, hb⟩; have n0_ := Aside0.mk (below_step (by repeat (first | (with_reducible first | exact HB.out | apply below_alloc | apply pw_below_drewN | apply below_drew1) | exact HB.out)) hb); clear HB; have HB := n0_; clear n0_; (try clear hb); (try clear hb2); (try clear hk); (try clear hi)))
    go_ret
    exact ⟨by first | rfl | (simp [errW_none, errW_some] <;> rfl) | (simp [*, errW_none, errW_some] <;> rfl), by repeat (first | (with_reducible first | exact HB.out | apply below_alloc | apply pw_below_drewN | apply below_drew1) | exact HB.out)⟩
  · rw [if_neg c4] at H
    have c4b0 : (t142 == t146 && (t143 == t147 && (t144 == t148 && (t145 == t149)))) = false := by simpa using c4
    (try (have c4b1 : decide (t142 = t146 && (t143 == t147 && (t144 == t148 && (t145 == t149)))) = false := by simpa using c4))
    (try (have c4b2 : (t142 == t146 && (t143 == t147 && (t144 == t148 && (t145 == t149)))) = false := by simpa using c4))
    (try (have c4b3 : ¬ (t142 = t146 && (t143 == t147 && (t144 == t148 && (t145 == t149)))) := by simpa using c4))
    clear c4
    obtain rfl := Option.some.inj H
    go_enter Try.func3, Try.ntmps3
    go_wp2_with (first | ((with_reducible refine gate_callee (f := 6) rfl ?_); refine goesL_ (some 4) rfl rfl Try.func6 (by kernel_rfl) rfl #[.slice A0 l0.length c0] rfl (by (try simp only [List.map_toArray, List.map_cons, List.map_nil]); first | done | rfl | (simp only [List.length_drop, List.length_take]; rfl)) ?_; (with_reducible refine (resolve_Average.calls k _ _ l0 t142 t143 t144 t145 _ ?side1 ?side2 A2.out).mono ?_); (case side1 => repeat (first | exact HR0.out | (with_reducible refine Kd.C_alloc ?_ _) | (with_reducible refine Kd.C_drewN ?_ _) | (with_reducible refine Kd.C_drew ?_))); (case side2 => exact HC0.out); rintro e w9 ⟨rfl, hb⟩; refine ⟨_, rfl, ?_⟩; have n0_ := Aside0.mk (below_step (by repeat (first | (with_reducible first | exact HB.out | apply below_alloc | apply pw_below_drewN | apply below_drew1) | exact HB.out)) hb); clear HB; have HB := n0_; clear n0_; (try clear hb); (try clear hb2); (try clear hk); (try clear hi)) | ((with_reducible refine gate_callee (f := 7) rfl ?_); refine goesL_ (some 6) rfl rfl Try.func7 (by kernel_rfl) rfl #[.slice A0 l0.length c0] rfl (by (try simp only [List.map_toArray, List.map_cons, List.map_nil]); first | done | rfl | (simp only [List.length_drop, List.length_take]; rfl)) ?_; (with_reducible refine (frustumref41_Average.calls k _ _ l0 t146 t147 t148 t149 _ ?side1 ?side2 A3.out).mono ?_); (case side1 => repeat (first | exact (Kd.C_below HR0.out HB.out) | (with_reducible refine Kd.C_alloc ?_ _) | (with_reducible refine Kd.C_drewN ?_ _) | (with_reducible refine Kd.C_drew ?_))); (case side2 => exact HC0.out); rintro e w10 ⟨rfl, hb⟩; refine ⟨_, rfl, ?_⟩; have n0_ := Aside0.mk (below_step (by repeat (first | (with_reducible first | exact HB.out | apply below_alloc | apply pw_below_drewN | apply below_drew1) | exact HB.out)) hb); clear HB; have HB := n0_; clear n0_; (try clear hb); (try clear hb2); (try clear hk); (try clear hi)))
    go_ret
    exact ⟨by first | rfl | (simp [errW_none, errW_some] <;> rfl) | (simp [*, errW_none, errW_some] <;> rfl), by repeat (first | (with_reducible first | exact HB.out | apply below_alloc | apply pw_below_drewN | apply below_drew1) | exact HB.out)⟩

end Go.Proofs.YtkmjjmojakaaiaaRRR.PResolveAverages
