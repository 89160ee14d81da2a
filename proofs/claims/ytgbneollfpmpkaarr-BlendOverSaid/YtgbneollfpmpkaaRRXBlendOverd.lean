/- BlendOver: walks. -/
import Derived.Test.YtgbneollfpmpkaaRRXBlendOverc
namespace Go.Proofs.YtgbneollfpmpkaaRR.PBlendOver
open Go.RowKit Go.Proofs.YtgbneollfpmpkaaRRW.PrintWords Go.Proofs.YtgbneollfpmpkaaRRW.PrintLast Go.Proofs.YtgbneollfpmpkaaRRW.PrintMore
attribute [local go_sem] max2_int min2_int max_two min_two max_three min_three max_four min_four
set_option linter.unusedVariables false
set_option linter.unusedSimpArgs false

attribute [local go_sem high] eqA27
/-! ### frustumlaw40_example: function 11 -/
def frustumlaw40_example.f (k : Nat)  : Option (Bool) := (frustumlaw40_over.f).bind fun bt223 => ((blend_Blend.f k bt223.1 bt223.2.1 bt223.2.2.1 bt223.2.2.2.1 bt223.2.2.2.2.1 bt223.2.2.2.2.2.1 bt223.2.2.2.2.2.2.1 bt223.2.2.2.2.2.2.2 65536 0 0 32768 0 65536 0 65536).bind fun bt231 => ((frustumlaw40_over.f).bind fun bt236 => ((blend_Valid.f bt236.1 bt236.2.1 bt236.2.2.1 bt236.2.2.2.1 bt236.2.2.2.2.1 bt236.2.2.2.2.2.1 bt236.2.2.2.2.2.2.1 bt236.2.2.2.2.2.2.2).bind fun t244 => (if t244 = true then (some (bt231.1 == 32768 && (bt231.2.1 == 32768 && (bt231.2.2.1 == 0 && (bt231.2.2.2 == 32768))))) else (some false)))))
theorem frustumlaw40_example.mono : ∀ k, LeO (frustumlaw40_example.f k ) (frustumlaw40_example.f (k + 1) ) := by
  intro  k
  unfold frustumlaw40_example.f
  repeat' first
      | (with_reducible exact blend_Blend.mono _ _ _ _ _ _ _ _ _ _ _ _ _ _ _ _ _)
      | (with_reducible exact LeO.refl _)
      | (with_reducible exact LeO.none _)
      | (with_reducible refine LeO.ite ?_ ?_)
      | (with_reducible refine LeO.bind ?_ (fun _ => ?_))
      | exact blend_Blend.mono _ _ _ _ _ _ _ _ _ _ _ _ _ _ _ _ _
      | exact LeO.none _
      | refine LeO.ite ?_ ?_
      | refine LeO.bind ?_ (fun _ => ?_)
set_option maxHeartbeats 8000000 in
set_option maxRecDepth 100000 in
theorem frustumlaw40_example.calls (k : Nat)  (r : Bool) (w : World) (h : frustumlaw40_example.f k  = some r) :
    Calls Try.prog 11 #[] w fun e w' => e = .returned (.bool r) ∧ Below w.heap.size w w' := by
  have hu27 := Try.underlying27
  have HB := Aside0.mk (Below.refl w.heap.size w)
  have H : ((frustumlaw40_over.f).bind fun bt223 => ((blend_Blend.f k bt223.1 bt223.2.1 bt223.2.2.1 bt223.2.2.2.1 bt223.2.2.2.2.1 bt223.2.2.2.2.2.1 bt223.2.2.2.2.2.2.1 bt223.2.2.2.2.2.2.2 65536 0 0 32768 0 65536 0 65536).bind fun bt231 => ((frustumlaw40_over.f).bind fun bt236 => ((blend_Valid.f bt236.1 bt236.2.1 bt236.2.2.1 bt236.2.2.2.1 bt236.2.2.2.2.1 bt236.2.2.2.2.2.1 bt236.2.2.2.2.2.2.1 bt236.2.2.2.2.2.2.2).bind fun t244 => (if t244 = true then (some (bt231.1 == 32768 && (bt231.2.1 == 32768 && (bt231.2.2.1 == 0 && (bt231.2.2.2 == 32768))))) else (some false)))))) = some r := h
  clear h
  replace H := Option.bind_eq_some_iff.mp H
  obtain ⟨⟨t223, t224, t225, t226, t227, t228, t229, t230⟩, A10, H⟩ := H
  replace H : ((blend_Blend.f k t223 t224 t225 t226 t227 t228 t229 t230 65536 0 0 32768 0 65536 0 65536).bind fun bt231 => ((frustumlaw40_over.f).bind fun bt236 => ((blend_Valid.f bt236.1 bt236.2.1 bt236.2.2.1 bt236.2.2.2.1 bt236.2.2.2.2.1 bt236.2.2.2.2.2.1 bt236.2.2.2.2.2.2.1 bt236.2.2.2.2.2.2.2).bind fun t244 => (if t244 = true then (some (bt231.1 == 32768 && (bt231.2.1 == 32768 && (bt231.2.2.1 == 0 && (bt231.2.2.2 == 32768))))) else (some false))))) = some r := H
  have A1 := Aside0.mk A10
  clear A10
  replace H := Option.bind_eq_some_iff.mp H
  obtain ⟨⟨t231, t232, t233, t234⟩, A20, H⟩ := H
  replace H : ((frustumlaw40_over.f).bind fun bt236 => ((blend_Valid.f bt236.1 bt236.2.1 bt236.2.2.1 bt236.2.2.2.1 bt236.2.2.2.2.1 bt236.2.2.2.2.2.1 bt236.2.2.2.2.2.2.1 bt236.2.2.2.2.2.2.2).bind fun t244 => (if t244 = true then (some (t231 == 32768 && (t232 == 32768 && (t233 == 0 && (t234 == 32768))))) else (some false)))) = some r := H
  have A2 := Aside0.mk A20
  clear A20
  replace H := Option.bind_eq_some_iff.mp H
  obtain ⟨⟨t236, t237, t238, t239, t240, t241, t242, t243⟩, A30, H⟩ := H
  replace H : ((blend_Valid.f t236 t237 t238 t239 t240 t241 t242 t243).bind fun t244 => (if t244 = true then (some (t231 == 32768 && (t232 == 32768 && (t233 == 0 && (t234 == 32768))))) else (some false))) = some r := H
  have A3 := Aside0.mk A30
  clear A30
  replace H := Option.bind_eq_some_iff.mp H
  obtain ⟨t244, A40, H⟩ := H
  replace H : (if t244 = true then (some (t231 == 32768 && (t232 == 32768 && (t233 == 0 && (t234 == 32768))))) else (some false)) = some r := H
  have A4 := Aside0.mk A40
  clear A40
  by_cases c5 : t244 = true
  · subst c5
    have H1 : (some (t231 == 32768 && (t232 == 32768 && (t233 == 0 && (t234 == 32768))))) = some r := by rw [if_pos rfl] at H; exact H
    clear H
    have H := H1
    clear H1
    obtain rfl := Option.some.inj H
    go_enter Try.func11, Try.ntmps11
    go_wp2_with (first | ((with_reducible refine gate_callee (f := 16) rfl ?_); refine goesL_ (some 2) rfl rfl Try.func16 (by kernel_rfl) rfl #[] rfl (by (try simp only [List.map_toArray, List.map_cons, List.map_nil]); first | done | rfl | (simp only [List.length_drop, List.length_take]; rfl)) ?_; (with_reducible refine (frustumlaw40_over.calls  t223 t224 t225 t226 t227 t228 t229 t230 _ A1.out).mono ?_); rintro e w6 ⟨rfl, hb⟩; refine ⟨_, rfl, ?_⟩; have n0_ := Aside0.mk (below_step (by repeat (first | (with_reducible first | exact HB.out | apply below_alloc | apply pw_below_drewN | apply below_drew1) | exact HB.out)) hb); clear HB; have HB := n0_; clear n0_; (try clear hb); (try clear hb2); (try clear hk); (try clear hi)) | ((with_reducible refine gate_callee (f := 9) rfl ?_); refine goesL_ (some 5) rfl rfl Try.func9 (by kernel_rfl) rfl #[.agg #[.bool t223, .int .i64 t224, .int .i64 t225, .int .i64 t226, .int .i64 t227, .int .i64 t228, .int .i64 t229, .int .i64 t230], .agg #[.int .i64 65536, .int .i64 0, .int .i64 0, .int .i64 32768], .agg #[.int .i64 0, .int .i64 65536, .int .i64 0, .int .i64 65536]] rfl (by (try simp only [List.map_toArray, List.map_cons, List.map_nil]); first | done | rfl | (simp only [List.length_drop, List.length_take]; rfl)) ?_; (with_reducible refine (blend_Blend.calls k t223 t224 t225 t226 t227 t228 t229 t230 65536 0 0 32768 0 65536 0 65536 t231 t232 t233 t234 _ A2.out).mono ?_); rintro e w7 ⟨rfl, hb⟩; refine ⟨_, rfl, ?_⟩; have n0_ := Aside0.mk (below_step (by repeat (first | (with_reducible first | exact HB.out | apply below_alloc | apply pw_below_drewN | apply below_drew1) | exact HB.out)) hb); clear HB; have HB := n0_; clear n0_; (try clear hb); (try clear hb2); (try clear hk); (try clear hi)) | ((with_reducible refine gate_dst (N := 1) rfl ?_); refine box_event ?hg (N := 1) ?hd (cs := #[.int .i64 0, .int .i64 0, .int .i64 0, .int .i64 0]) (t := 27) ?hr ?_; (case hd => rfl); (case hg => rfl); (case hr => first | (go_simp; done) | (go_simp; rfl)); intro gb235 hg w8 hbox hb; have n0_ := Aside0.mk (below_step (by repeat (first | (with_reducible first | exact HB.out | apply below_alloc | apply pw_below_drewN | apply below_drew1) | exact HB.out)) hb); have n1_ := Aside0.mk (hbox); have n2_ := Aside0.mk ((by rw [hg]; exact (below_size (by repeat (first | (with_reducible first | exact HB.out | apply below_alloc | apply pw_below_drewN | apply below_drew1) | exact HB.out))) : w.heap.size ≤ gb235)); have n3_ := Aside0.mk ((by rw [hg]; exact (below_size (by repeat (first | (with_reducible first | exact HB.out | apply below_alloc | apply pw_below_drewN | apply below_drew1) | exact HB.out))) : w.heap.size ≤ gb235)); clear HB; have HB := n0_; have BK235 := n1_; have GW235 := n2_; have GE235 := n3_; clear n0_ n1_ n2_ n3_; clear hb hbox hg; have hcz9_0 : w8.cell? ⟨gb235, 0, none⟩ = some (.int .i64 0) := (blk_cell BK235.out 0).trans rfl; have hcz9_1 : w8.cell? ⟨gb235, 1, none⟩ = some (.int .i64 0) := (blk_cell BK235.out 1).trans rfl; have hcz9_2 : w8.cell? ⟨gb235, 2, none⟩ = some (.int .i64 0) := (blk_cell BK235.out 2).trans rfl; have hcz9_3 : w8.cell? ⟨gb235, 3, none⟩ = some (.int .i64 0) := (blk_cell BK235.out 3).trans rfl; have hfz9_0 := blk_frozen BK235.out 0; have hfz9_1 := blk_frozen BK235.out 1; have hfz9_2 := blk_frozen BK235.out 2; have hfz9_3 := blk_frozen BK235.out 3) | ((with_reducible refine gate_callee (f := 16) rfl ?_); refine goesL_ (some 6) rfl rfl Try.func16 (by kernel_rfl) rfl #[] rfl (by (try simp only [List.map_toArray, List.map_cons, List.map_nil]); first | done | rfl | (simp only [List.length_drop, List.length_take]; rfl)) ?_; (with_reducible refine (frustumlaw40_over.calls  t236 t237 t238 t239 t240 t241 t242 t243 _ A3.out).mono ?_); rintro e w10 ⟨rfl, hb⟩; refine ⟨_, rfl, ?_⟩; have n0_ := Aside0.mk (blk_below (g := gb235) (o := .cells #[.int .i64 t231, .int .i64 t232, .int .i64 t233, .int .i64 t234] 27 (0, 0)) (by (with_reducible repeat (first | refine blk_drewN ?_ _ | refine blk_drew ?_ | refine blk_alloc ?_ _)); refine blk_put (cs := #[.int .i64 t231, .int .i64 t232, .int .i64 t233, .int .i64 0]) ?_ 3 _ rfl; (with_reducible repeat (first | refine blk_drewN ?_ _ | refine blk_drew ?_ | refine blk_alloc ?_ _)); refine blk_put (cs := #[.int .i64 t231, .int .i64 t232, .int .i64 0, .int .i64 0]) ?_ 2 _ rfl; (with_reducible repeat (first | refine blk_drewN ?_ _ | refine blk_drew ?_ | refine blk_alloc ?_ _)); refine blk_put (cs := #[.int .i64 t231, .int .i64 0, .int .i64 0, .int .i64 0]) ?_ 1 _ rfl; (with_reducible repeat (first | refine blk_drewN ?_ _ | refine blk_drew ?_ | refine blk_alloc ?_ _)); refine blk_put (cs := #[.int .i64 0, .int .i64 0, .int .i64 0, .int .i64 0]) ?_ 0 _ rfl; (with_reducible repeat (first | refine blk_drewN ?_ _ | refine blk_drew ?_ | refine blk_alloc ?_ _)); exact BK235.out) hb); have n1_ := Aside0.mk (below_step (by repeat (first | (with_reducible first | exact HB.out | apply below_alloc | apply pw_below_drewN | apply below_drew1 | refine below_set ?_ GE235.out) | exact HB.out)) hb); clear BK235; clear HB; have BK235 := n0_; have HB := n1_; clear n0_ n1_; (try clear hb); (try clear hb2); (try clear hk); (try clear hi)) | ((with_reducible refine gate_callee (f := 25) rfl ?_); refine goesL_ (some 7) rfl rfl Try.func25 (by kernel_rfl) rfl #[.agg #[.bool t236, .int .i64 t237, .int .i64 t238, .int .i64 t239, .int .i64 t240, .int .i64 t241, .int .i64 t242, .int .i64 t243]] rfl (by (try simp only [List.map_toArray, List.map_cons, List.map_nil]); first | done | rfl | (simp only [List.length_drop, List.length_take]; rfl)) ?_; (with_reducible refine (blend_Valid.calls t236 t237 t238 t239 t240 t241 t242 t243 true _ A4.out).mono ?_); rintro e w11 ⟨rfl, hb⟩; refine ⟨_, rfl, ?_⟩; have n0_ := Aside0.mk (blk_below (g := gb235) (o := .cells #[.int .i64 t231, .int .i64 t232, .int .i64 t233, .int .i64 t234] 27 (0, 0)) (by (with_reducible repeat (first | refine blk_drewN ?_ _ | refine blk_drew ?_ | refine blk_alloc ?_ _)); exact BK235.out) hb); have n1_ := Aside0.mk (below_step (by repeat (first | (with_reducible first | exact HB.out | apply below_alloc | apply pw_below_drewN | apply below_drew1 | refine below_set ?_ GE235.out) | exact HB.out)) hb); clear BK235; clear HB; have BK235 := n0_; have HB := n1_; clear n0_ n1_; (try clear hb); (try clear hb2); (try clear hk); (try clear hi); have hcz12_0 : w11.cell? ⟨gb235, 0, none⟩ = some (.int .i64 t231) := (blk_cell BK235.out 0).trans rfl; have hcz12_1 : w11.cell? ⟨gb235, 1, none⟩ = some (.int .i64 t232) := (blk_cell BK235.out 1).trans rfl; have hcz12_2 : w11.cell? ⟨gb235, 2, none⟩ = some (.int .i64 t233) := (blk_cell BK235.out 2).trans rfl; have hcz12_3 : w11.cell? ⟨gb235, 3, none⟩ = some (.int .i64 t234) := (blk_cell BK235.out 3).trans rfl; have hfz12_0 := blk_frozen BK235.out 0; have hfz12_1 := blk_frozen BK235.out 1; have hfz12_2 := blk_frozen BK235.out 2; have hfz12_3 := blk_frozen BK235.out 3))
    go_ret
    exact ⟨by first | rfl | (simp [errW_none, errW_some] <;> rfl) | (simp [*, errW_none, errW_some] <;> rfl), by repeat (first | (with_reducible first | exact HB.out | apply below_alloc | apply pw_below_drewN | apply below_drew1 | refine below_set ?_ GE235.out) | exact HB.out)⟩
  · replace c5 := Bool.eq_false_iff.mpr c5
    subst c5
    have H1 : (some false) = some r := by rw [if_neg (show ¬ (false = true) by decide)] at H; exact H
    clear H
    have H := H1
    clear H1
    obtain rfl := Option.some.inj H
    go_enter Try.func11, Try.ntmps11
    go_wp2_with (first | ((with_reducible refine gate_callee (f := 16) rfl ?_); refine goesL_ (some 2) rfl rfl Try.func16 (by kernel_rfl) rfl #[] rfl (by (try simp only [List.map_toArray, List.map_cons, List.map_nil]); first | done | rfl | (simp only [List.length_drop, List.length_take]; rfl)) ?_; (with_reducible refine (frustumlaw40_over.calls  t223 t224 t225 t226 t227 t228 t229 t230 _ A1.out).mono ?_); rintro e w13 ⟨rfl, hb⟩; refine ⟨_, rfl, ?_⟩; have n0_ := Aside0.mk (below_step (by repeat (first | (with_reducible first | exact HB.out | apply below_alloc | apply pw_below_drewN | apply below_drew1) | exact HB.out)) hb); clear HB; have HB := n0_; clear n0_; (try clear hb); (try clear hb2); (try clear hk); (try clear hi)) | ((with_reducible refine gate_callee (f := 9) rfl ?_); refine goesL_ (some 5) rfl rfl Try.func9 (by kernel_rfl) rfl #[.agg #[.bool t223, .int .i64 t224, .int .i64 t225, .int .i64 t226, .int .i64 t227, .int .i64 t228, .int .i64 t229, .int .i64 t230], .agg #[.int .i64 65536, .int .i64 0, .int .i64 0, .int .i64 32768], .agg #[.int .i64 0, .int .i64 65536, .int .i64 0, .int .i64 65536]] rfl (by (try simp only [List.map_toArray, List.map_cons, List.map_nil]); first | done | rfl | (simp only [List.length_drop, List.length_take]; rfl)) ?_; (with_reducible refine (blend_Blend.calls k t223 t224 t225 t226 t227 t228 t229 t230 65536 0 0 32768 0 65536 0 65536 t231 t232 t233 t234 _ A2.out).mono ?_); rintro e w14 ⟨rfl, hb⟩; refine ⟨_, rfl, ?_⟩; have n0_ := Aside0.mk (below_step (by repeat (first | (with_reducible first | exact HB.out | apply below_alloc | apply pw_below_drewN | apply below_drew1) | exact HB.out)) hb); clear HB; have HB := n0_; clear n0_; (try clear hb); (try clear hb2); (try clear hk); (try clear hi)) | ((with_reducible refine gate_dst (N := 1) rfl ?_); refine box_event ?hg (N := 1) ?hd (cs := #[.int .i64 0, .int .i64 0, .int .i64 0, .int .i64 0]) (t := 27) ?hr ?_; (case hd => rfl); (case hg => rfl); (case hr => first | (go_simp; done) | (go_simp; rfl)); intro gb235 hg w15 hbox hb; have n0_ := Aside0.mk (below_step (by repeat (first | (with_reducible first | exact HB.out | apply below_alloc | apply pw_below_drewN | apply below_drew1) | exact HB.out)) hb); have n1_ := Aside0.mk (hbox); have n2_ := Aside0.mk ((by rw [hg]; exact (below_size (by repeat (first | (with_reducible first | exact HB.out | apply below_alloc | apply pw_below_drewN | apply below_drew1) | exact HB.out))) : w.heap.size ≤ gb235)); have n3_ := Aside0.mk ((by rw [hg]; exact (below_size (by repeat (first | (with_reducible first | exact HB.out | apply below_alloc | apply pw_below_drewN | apply below_drew1) | exact HB.out))) : w.heap.size ≤ gb235)); clear HB; have HB := n0_; have BK235 := n1_; have GW235 := n2_; have GE235 := n3_; clear n0_ n1_ n2_ n3_; clear hb hbox hg; have hcz16_0 : w15.cell? ⟨gb235, 0, none⟩ = some (.int .i64 0) := (blk_cell BK235.out 0).trans rfl; have hcz16_1 : w15.cell? ⟨gb235, 1, none⟩ = some (.int .i64 0) := (blk_cell BK235.out 1).trans rfl; have hcz16_2 : w15.cell? ⟨gb235, 2, none⟩ = some (.int .i64 0) := (blk_cell BK235.out 2).trans rfl; have hcz16_3 : w15.cell? ⟨gb235, 3, none⟩ = some (.int .i64 0) := (blk_cell BK235.out 3).trans rfl; have hfz16_0 := blk_frozen BK235.out 0; have hfz16_1 := blk_frozen BK235.out 1; have hfz16_2 := blk_frozen BK235.out 2; have hfz16_3 := blk_frozen BK235.out 3) | ((with_reducible refine gate_callee (f := 16) rfl ?_); refine goesL_ (some 6) rfl rfl Try.func16 (by kernel_rfl) rfl #[] rfl (by (try simp only [List.map_toArray, List.map_cons, List.map_nil]); first | done | rfl | (simp only [List.length_drop, List.length_take]; rfl)) ?_; (with_reducible refine (frustumlaw40_over.calls  t236 t237 t238 t239 t240 t241 t242 t243 _ A3.out).mono ?_); rintro e w17 ⟨rfl, hb⟩; refine ⟨_, rfl, ?_⟩; have n0_ := Aside0.mk (blk_below (g := gb235) (o := .cells #[.int .i64 t231, .int .i64 t232, .int .i64 t233, .int .i64 t234] 27 (0, 0)) (by (with_reducible repeat (first | refine blk_drewN ?_ _ | refine blk_drew ?_ | refine blk_alloc ?_ _)); refine blk_put (cs := #[.int .i64 t231, .int .i64 t232, .int .i64 t233, .int .i64 0]) ?_ 3 _ rfl; (with_reducible repeat (first | refine blk_drewN ?_ _ | refine blk_drew ?_ | refine blk_alloc ?_ _)); refine blk_put (cs := #[.int .i64 t231, .int .i64 t232, .int .i64 0, .int .i64 0]) ?_ 2 _ rfl; (with_reducible repeat (first | refine blk_drewN ?_ _ | refine blk_drew ?_ | refine blk_alloc ?_ _)); refine blk_put (cs := #[.int .i64 t231, .int .i64 0, .int .i64 0, .int .i64 0]) ?_ 1 _ rfl; (with_reducible repeat (first | refine blk_drewN ?_ _ | refine blk_drew ?_ | refine blk_alloc ?_ _)); refine blk_put (cs := #[.int .i64 0, .int .i64 0, .int .i64 0, .int .i64 0]) ?_ 0 _ rfl; (with_reducible repeat (first | refine blk_drewN ?_ _ | refine blk_drew ?_ | refine blk_alloc ?_ _)); exact BK235.out) hb); have n1_ := Aside0.mk (below_step (by repeat (first | (with_reducible first | exact HB.out | apply below_alloc | apply pw_below_drewN | apply below_drew1 | refine below_set ?_ GE235.out) | exact HB.out)) hb); clear BK235; clear HB; have BK235 := n0_; have HB := n1_; clear n0_ n1_; (try clear hb); (try clear hb2); (try clear hk); (try clear hi)) | ((with_reducible refine gate_callee (f := 25) rfl ?_); refine goesL_ (some 7) rfl rfl Try.func25 (by kernel_rfl) rfl #[.agg #[.bool t236, .int .i64 t237, .int .i64 t238, .int .i64 t239, .int .i64 t240, .int .i64 t241, .int .i64 t242, .int .i64 t243]] rfl (by (try simp only [List.map_toArray, List.map_cons, List.map_nil]); first | done | rfl | (simp only [List.length_drop, List.length_take]; rfl)) ?_; (with_reducible refine (blend_Valid.calls t236 t237 t238 t239 t240 t241 t242 t243 false _ A4.out).mono ?_); rintro e w18 ⟨rfl, hb⟩; refine ⟨_, rfl, ?_⟩; have n0_ := Aside0.mk (blk_below (g := gb235) (o := .cells #[.int .i64 t231, .int .i64 t232, .int .i64 t233, .int .i64 t234] 27 (0, 0)) (by (with_reducible repeat (first | refine blk_drewN ?_ _ | refine blk_drew ?_ | refine blk_alloc ?_ _)); exact BK235.out) hb); have n1_ := Aside0.mk (below_step (by repeat (first | (with_reducible first | exact HB.out | apply below_alloc | apply pw_below_drewN | apply below_drew1 | refine below_set ?_ GE235.out) | exact HB.out)) hb); clear BK235; clear HB; have BK235 := n0_; have HB := n1_; clear n0_ n1_; (try clear hb); (try clear hb2); (try clear hk); (try clear hi)))
    go_ret
    exact ⟨by first | rfl | (simp [errW_none, errW_some] <;> rfl) | (simp [*, errW_none, errW_some] <;> rfl), by repeat (first | (with_reducible first | exact HB.out | apply below_alloc | apply pw_below_drewN | apply below_drew1 | refine below_set ?_ GE235.out) | exact HB.out)⟩


attribute [local go_sem high] eqA27
/-! ### frustumlaw40_BlendOver: function 6 -/
mutual
def frustumlaw40_BlendOver.j0 : Nat → Bool → Int → Int → Int → Int → Int → Int → Int → Int → Option (Bool)
 | 0, _, _, _, _, _, _, _, _, _ => none
 | k + 1, x15, x247000, x247001, x247002, x247003, x248000, x248001, x248002, x248003 => if x15 = true then ((frustumlaw40_example.f k).bind fun t250 => (some t250)) else ((frustumlaw40_over.f).bind fun bt251 => ((blend_Blend.f k bt251.1 bt251.2.1 bt251.2.2.1 bt251.2.2.2.1 bt251.2.2.2.2.1 bt251.2.2.2.2.2.1 bt251.2.2.2.2.2.2.1 bt251.2.2.2.2.2.2.2 x247000 x247001 x247002 x247003 x248000 x248001 x248002 x248003).bind fun bt259 => (if bt259.1 < 0 then (frustumlaw40_BlendOver.j1 k true x247000 x247001 x247002 x247003 x248000 x248001 x248002 x248003) else (if bt259.1 > 65537 then (frustumlaw40_BlendOver.j1 k true x247000 x247001 x247002 x247003 x248000 x248001 x248002 x248003) else (if bt259.2.1 < 0 then (frustumlaw40_BlendOver.j1 k true x247000 x247001 x247002 x247003 x248000 x248001 x248002 x248003) else (if bt259.2.1 > 65537 then (frustumlaw40_BlendOver.j1 k true x247000 x247001 x247002 x247003 x248000 x248001 x248002 x248003) else (if bt259.2.2.1 < 0 then (frustumlaw40_BlendOver.j1 k true x247000 x247001 x247002 x247003 x248000 x248001 x248002 x248003) else (if bt259.2.2.1 > 65537 then (frustumlaw40_BlendOver.j1 k true x247000 x247001 x247002 x247003 x248000 x248001 x248002 x248003) else (frustumlaw40_BlendOver.j1 k (bt259.2.2.2 != x247003) x247000 x247001 x247002 x247003 x248000 x248001 x248002 x248003)))))))))
def frustumlaw40_BlendOver.j1 : Nat → Bool → Int → Int → Int → Int → Int → Int → Int → Int → Option (Bool)
 | 0, _, _, _, _, _, _, _, _, _ => none
 | k + 1, x55, x247000, x247001, x247002, x247003, x248000, x248001, x248002, x248003 => if x55 = true then (some false) else ((frustumlaw40_over.f).bind fun bt266 => ((blend_Blend.f k bt266.1 bt266.2.1 bt266.2.2.1 bt266.2.2.2.1 bt266.2.2.2.2.1 bt266.2.2.2.2.2.1 bt266.2.2.2.2.2.2.1 bt266.2.2.2.2.2.2.2 x247000 x247001 x247002 65536 x248000 x248001 x248002 x248003).bind fun bt274 => (if (bt274.1 == x247000 && (bt274.2.1 == x247001 && (bt274.2.2.1 == x247002 && (bt274.2.2.2 == 65536)))) = true then ((frustumlaw40_over.f).bind fun bt278 => ((blend_Blend.f k bt278.1 bt278.2.1 bt278.2.2.1 bt278.2.2.2.1 bt278.2.2.2.2.1 bt278.2.2.2.2.2.1 bt278.2.2.2.2.2.2.1 bt278.2.2.2.2.2.2.2 x247000 x247001 x247002 0 x248000 x248001 x248002 x248003).bind fun bt286 => (if (bt286.1 == x248000 && (bt286.2.1 == x248001 && (bt286.2.2.1 == x248002 && (bt286.2.2.2 == 0)))) = true then ((frustumlaw40_example.f k).bind fun t290 => (some t290)) else (some false)))) else (some false))))
end
def frustumlaw40_BlendOver.f (k : Nat) (a0_0 : Int) (a0_1 : Int) (a0_2 : Int) (a0_3 : Int) (a1_0 : Int) (a1_1 : Int) (a1_2 : Int) (a1_3 : Int) : Option (Bool) := (frustumlaw40_unit.f a0_0 a0_1 a0_2 a0_3).bind fun t248 => (if t248 = true then ((frustumlaw40_unit.f a1_0 a1_1 a1_2 a1_3).bind fun t249 => (frustumlaw40_BlendOver.j0 k (!t249) a0_0 a0_1 a0_2 a0_3 a1_0 a1_1 a1_2 a1_3)) else (frustumlaw40_BlendOver.j0 k true a0_0 a0_1 a0_2 a0_3 a1_0 a1_1 a1_2 a1_3))
theorem frustumlaw40_BlendOver.mono_l : ∀ k, (∀ y0 y1 y2 y3 y4 y5 y6 y7 y8, LeO (frustumlaw40_BlendOver.j0 k y0 y1 y2 y3 y4 y5 y6 y7 y8) (frustumlaw40_BlendOver.j0 (k + 1) y0 y1 y2 y3 y4 y5 y6 y7 y8)) ∧ (∀ y0 y1 y2 y3 y4 y5 y6 y7 y8, LeO (frustumlaw40_BlendOver.j1 k y0 y1 y2 y3 y4 y5 y6 y7 y8) (frustumlaw40_BlendOver.j1 (k + 1) y0 y1 y2 y3 y4 y5 y6 y7 y8))
 | 0 => ⟨fun _ _ _ _ _ _ _ _ _ r h => by simp [frustumlaw40_BlendOver.j0] at h, fun _ _ _ _ _ _ _ _ _ r h => by simp [frustumlaw40_BlendOver.j1] at h⟩
 | k + 1 => by
  obtain ⟨ih0, ih1⟩ := frustumlaw40_BlendOver.mono_l k
  refine ⟨?_, ?_⟩
  ·intro y0 y1 y2 y3 y4 y5 y6 y7 y8
   unfold frustumlaw40_BlendOver.j0
   repeat' first
   | (with_reducible exact ih0 _ _ _ _ _ _ _ _ _)
   | (with_reducible exact ih1 _ _ _ _ _ _ _ _ _)
   | (with_reducible exact blend_Blend.mono _ _ _ _ _ _ _ _ _ _ _ _ _ _ _ _ _)
   | (with_reducible exact frustumlaw40_example.mono _)
   | (with_reducible exact LeO.refl _)
   | (with_reducible exact LeO.none _)
   | (with_reducible refine LeO.ite ?_ ?_)
   | (with_reducible refine LeO.bind ?_ (fun _ => ?_))
   | exact ih0 _ _ _ _ _ _ _ _ _
   | exact ih1 _ _ _ _ _ _ _ _ _
   | exact blend_Blend.mono _ _ _ _ _ _ _ _ _ _ _ _ _ _ _ _ _
   | exact frustumlaw40_example.mono _
   | exact LeO.none _
   | refine LeO.ite ?_ ?_
   | refine LeO.bind ?_ (fun _ => ?_)
  ·intro y0 y1 y2 y3 y4 y5 y6 y7 y8
   unfold frustumlaw40_BlendOver.j1
   repeat' first
   | (with_reducible exact ih0 _ _ _ _ _ _ _ _ _)
   | (with_reducible exact ih1 _ _ _ _ _ _ _ _ _)
   | (with_reducible exact blend_Blend.mono _ _ _ _ _ _ _ _ _ _ _ _ _ _ _ _ _)
   | (with_reducible exact frustumlaw40_example.mono _)
   | (with_reducible exact LeO.refl _)
   | (with_reducible exact LeO.none _)
   | (with_reducible refine LeO.ite ?_ ?_)
   | (with_reducible refine LeO.bind ?_ (fun _ => ?_))
   | exact ih0 _ _ _ _ _ _ _ _ _
   | exact ih1 _ _ _ _ _ _ _ _ _
   | exact blend_Blend.mono _ _ _ _ _ _ _ _ _ _ _ _ _ _ _ _ _
   | exact frustumlaw40_example.mono _
   | exact LeO.none _
   | refine LeO.ite ?_ ?_
   | refine LeO.bind ?_ (fun _ => ?_)
theorem frustumlaw40_BlendOver.mono : ∀ a0 a1 a2 a3 a4 a5 a6 a7 k, LeO (frustumlaw40_BlendOver.f k a0 a1 a2 a3 a4 a5 a6 a7) (frustumlaw40_BlendOver.f (k + 1) a0 a1 a2 a3 a4 a5 a6 a7) := by
 intro a0 a1 a2 a3 a4 a5 a6 a7 k
 obtain ⟨ih0, ih1⟩ := frustumlaw40_BlendOver.mono_l k
 unfold frustumlaw40_BlendOver.f
 repeat' first
   | (with_reducible exact ih0 _ _ _ _ _ _ _ _ _)
   | (with_reducible exact ih1 _ _ _ _ _ _ _ _ _)
   | (with_reducible exact blend_Blend.mono _ _ _ _ _ _ _ _ _ _ _ _ _ _ _ _ _)
   | (with_reducible exact frustumlaw40_example.mono _)
   | (with_reducible exact LeO.refl _)
   | (with_reducible exact LeO.none _)
   | (with_reducible refine LeO.ite ?_ ?_)
   | (with_reducible refine LeO.bind ?_ (fun _ => ?_))
   | exact ih0 _ _ _ _ _ _ _ _ _
   | exact ih1 _ _ _ _ _ _ _ _ _
   | exact blend_Blend.mono _ _ _ _ _ _ _ _ _ _ _ _ _ _ _ _ _
   | exact frustumlaw40_example.mono _
   | exact LeO.none _
   | refine LeO.ite ?_ ?_
   | refine LeO.bind ?_ (fun _ => ?_)
def frustumlaw40_BlendOver.T9 : Bool × List (List Nat × List Nat) := (true, [([], []), ([], []), ([], []), ([0, 1, 2, 0], [0, 1, 2]), ([], []), ([3, 4], [3, 4]), ([5, 3], [5]), ([6, 6], [6]), ([6], [6]), ([6], [6]), ([7, 8, 9, 7, 6], [6, 7, 8, 9]), ([6], [6]), ([11, 6], [6, 11]), ([6], [6]), ([13, 6], [6, 13]), ([6], [6]), ([15, 6], [6, 15]), ([12, 14, 16, 6], [6, 12, 14, 16]), ([10, 17, 6], [6, 10, 17]), ([6, 18], [6, 18]), ([19, 10], [19]), ([20, 20], [20]), ([20, 21], [20, 21]), ([22, 21, 0, 1, 2, 3, 4, 5, 6, 7, 8, 9, 10, 11, 12, 13, 14, 15, 16, 17, 18, 19, 20, 21, 22], [22])])
def frustumlaw40_BlendOver.B9 : List Nat := [0, 0, 0, 7, 0, 31, 63, 127, 127, 127, 1023, 127, 2175, 127, 8319, 127, 32895, 129151, 262143, 524287, 1048575, 2097151, 4194303, 8388607]
theorem frustumlaw40_BlendOver.tab9 : rtab .any (opsOf Try.f6 9) = frustumlaw40_BlendOver.T9 := by kernel_rfl
theorem frustumlaw40_BlendOver.bits9 : waitsOk frustumlaw40_BlendOver.T9.2 frustumlaw40_BlendOver.B9 = true := by kernel_rfl
set_option maxHeartbeats 8000000 in
set_option maxRecDepth 100000 in
theorem frustumlaw40_BlendOver.calls (k : Nat) (a0_0 : Int) (a0_1 : Int) (a0_2 : Int) (a0_3 : Int) (a1_0 : Int) (a1_1 : Int) (a1_2 : Int) (a1_3 : Int) (r : Bool) (w : World) (h : frustumlaw40_BlendOver.f k a0_0 a0_1 a0_2 a0_3 a1_0 a1_1 a1_2 a1_3 = some r) :
  Calls Try.prog 6 #[.agg #[.int .i64 a0_0, .int .i64 a0_1, .int .i64 a0_2, .int .i64 a0_3], .agg #[.int .i64 a1_0, .int .i64 a1_1, .int .i64 a1_2, .int .i64 a1_3]] w fun e w' => e = .returned (.bool r) ∧ Below w.heap.size w w' := by
 have hu27 := Try.underlying27; have HB := Aside0.mk (Below.refl w.heap.size w)
 have H : ((frustumlaw40_unit.f a0_0 a0_1 a0_2 a0_3).bind fun t248 => (if t248 = true then ((frustumlaw40_unit.f a1_0 a1_1 a1_2 a1_3).bind fun t249 => (frustumlaw40_BlendOver.j0 k (!t249) a0_0 a0_1 a0_2 a0_3 a1_0 a1_1 a1_2 a1_3)) else (frustumlaw40_BlendOver.j0 k true a0_0 a0_1 a0_2 a0_3 a1_0 a1_1 a1_2 a1_3))) = some r := h
 clear h; have HC3 := Aside0.mk H; clear H
 go_enter Try.func6, Try.ntmps6
 go_upto_region 1 with (first | ((with_reducible refine gate_dst (N := 2) rfl ?_); refine box_event ?hg (N := 2) ?hd (cs := #[.int .i64 a0_0, .int .i64 a0_1, .int .i64 a0_2, .int .i64 a0_3]) (t := 27) ?hr ?_; (case hd => rfl); (case hg => rfl); (case hr => first | (go_simp; done) | (go_simp; rfl)); intro gb246 hg w4 hbox hb; have BK246 := Aside0.mk (hbox); have GW246 := ws HB hg; have GE246 := ws HB hg; replace HB := bs HB hb; clear hb hbox hg) | ((with_reducible refine gate_dst (N := 3) rfl ?_); refine box_event ?hg (N := 3) ?hd (cs := #[.int .i64 a1_0, .int .i64 a1_1, .int .i64 a1_2, .int .i64 a1_3]) (t := 27) ?hr ?_; (case hd => rfl); (case hg => rfl); (case hr => first | (go_simp; done) | (go_simp; rfl)); intro gb247 hg w5 hbox hb; have BK247 := Aside0.mk (hbox); have GW247 := ws HB hg; have GE247 := ws HB hg; have NB246_247 := nl BK246 hg; have NB247_246 := ng BK246 hg; replace BK246 := ub BK246 hb; replace HB := bs HB hb; clear hb hbox hg))
 (try simp only [Act.put, List.setIfInBounds_toArray, List.set_cons_zero, List.set_cons_succ])
 go_cut [15] (fun v15 wc => ∃ (kq : Nat) (x15_2 : Bool), v15 = .bool x15_2 ∧ Aside0 (frustumlaw40_BlendOver.j0 kq x15_2 a0_0 a0_1 a0_2 a0_3 a1_0 a1_1 a1_2 a1_3 = some r) ∧ Aside0 (kq ≤ k) ∧ Aside0 (wc.heap[gb246]? = some (.cells #[.int .i64 a0_0, .int .i64 a0_1, .int .i64 a0_2, .int .i64 a0_3] 27 (0, 0))) ∧ Aside0 (wc.heap[gb247]? = some (.cells #[.int .i64 a1_0, .int .i64 a1_1, .int .i64 a1_2, .int .i64 a1_3] 27 (0, 0))) ∧ Aside0 (Below w.heap.size w wc))
 case first =>
  have H := HC3.out; clear HC3
  replace H := Option.bind_eq_some_iff.mp H
  obtain ⟨t248, A60, H⟩ := H
  replace H : (if t248 = true then ((frustumlaw40_unit.f a1_0 a1_1 a1_2 a1_3).bind fun t249 => (frustumlaw40_BlendOver.j0 k (!t249) a0_0 a0_1 a0_2 a0_3 a1_0 a1_1 a1_2 a1_3)) else (frustumlaw40_BlendOver.j0 k true a0_0 a0_1 a0_2 a0_3 a1_0 a1_1 a1_2 a1_3)) = some r := H
  have A6 := Aside0.mk A60; clear A60
  by_cases c7 : t248 = true
  ·subst c7
   have H1 : ((frustumlaw40_unit.f a1_0 a1_1 a1_2 a1_3).bind fun t249 => (frustumlaw40_BlendOver.j0 k (!t249) a0_0 a0_1 a0_2 a0_3 a1_0 a1_1 a1_2 a1_3)) = some r := by rw [if_pos rfl] at H; exact H
   clear H; have H := H1; clear H1
   replace H := Option.bind_eq_some_iff.mp H
   obtain ⟨t249, A80, H⟩ := H
   replace H : (frustumlaw40_BlendOver.j0 k (!t249) a0_0 a0_1 a0_2 a0_3 a1_0 a1_1 a1_2 a1_3) = some r := H
   have A8 := Aside0.mk A80; clear A80
   have H' := Aside0.mk H
   clear H; have hnb9 := NB246_247.out; have hnc9 := NB247_246.out
   have hcz10_0 : w5.cell? ⟨gb246, 0, none⟩ = some (.int .i64 a0_0) := bc BK246 0
   have hcz10_1 : w5.cell? ⟨gb246, 1, none⟩ = some (.int .i64 a0_1) := bc BK246 1
   have hcz10_2 : w5.cell? ⟨gb246, 2, none⟩ = some (.int .i64 a0_2) := bc BK246 2
   have hcz10_3 : w5.cell? ⟨gb246, 3, none⟩ = some (.int .i64 a0_3) := bc BK246 3
   have hfz10_0 := blk_frozen BK246.out 0; have hfz10_1 := blk_frozen BK246.out 1; have hfz10_2 := blk_frozen BK246.out 2; have hfz10_3 := blk_frozen BK246.out 3
   go_wp2_with (first | ((with_reducible refine gate_callee (f := 15) rfl ?_); refine goesL_ (some 9) rfl rfl Try.func15 (by kernel_rfl) rfl #[.agg #[.int .i64 a0_0, .int .i64 a0_1, .int .i64 a0_2, .int .i64 a0_3]] rfl (by (try simp only [List.map_toArray, List.map_cons, List.map_nil]); first | done | rfl | (simp only [List.length_drop, List.length_take]; rfl)) ?_; (with_reducible refine (frustumlaw40_unit.calls a0_0 a0_1 a0_2 a0_3 true _ A6.out).mono ?_); rintro e w11 ⟨rfl, hb⟩; refine ⟨_, rfl, ?_⟩; replace BK246 := ub BK246 hb; replace BK247 := ub BK247 hb; replace HB := bs HB hb; (try clear hb); (try clear hb2); (try clear hk); (try clear hi); have hcz12_0 : w11.cell? ⟨gb247, 0, none⟩ = some (.int .i64 a1_0) := bc BK247 0; have hcz12_1 : w11.cell? ⟨gb247, 1, none⟩ = some (.int .i64 a1_1) := bc BK247 1; have hcz12_2 : w11.cell? ⟨gb247, 2, none⟩ = some (.int .i64 a1_2) := bc BK247 2; have hcz12_3 : w11.cell? ⟨gb247, 3, none⟩ = some (.int .i64 a1_3) := bc BK247 3; have hfz12_0 := blk_frozen BK247.out 0; have hfz12_1 := blk_frozen BK247.out 1; have hfz12_2 := blk_frozen BK247.out 2; have hfz12_3 := blk_frozen BK247.out 3) | (go_at_call 15; (with_reducible refine (frustumlaw40_unit.calls a1_0 a1_1 a1_2 a1_3 t249 _ A8.out).mono ?_); rintro e w13 ⟨rfl, hb⟩; replace BK246 := ub BK246 hb; replace BK247 := ub BK247 hb; replace HB := bs HB hb; (try clear hb); (try clear hb2); (try clear hk); (try clear hi)))
   go_meet
   case rel => exact ⟨_, (!t249), (by first | rfl | (simp; done) | (simp [*]; done)), H', ⟨by first | omega | exact Nat.le_refl _⟩, ⟨by (with_reducible repeat (first | refine blk_drewN ?_ _ | refine blk_drew ?_ | refine blk_alloc ?_ _)); exact BK246.out⟩, ⟨by (with_reducible repeat (first | refine blk_drewN ?_ _ | refine blk_drew ?_ | refine blk_alloc ?_ _)); exact BK247.out⟩, ⟨by repeat (first | (with_reducible first | exact HB.out | apply below_alloc | apply pw_below_drewN | apply below_drew1 | refine below_set ?_ GE246.out | refine below_set ?_ GE247.out) | exact HB.out)⟩⟩
  ·replace c7 := Bool.eq_false_iff.mpr c7
   subst c7
   have H1 : (frustumlaw40_BlendOver.j0 k true a0_0 a0_1 a0_2 a0_3 a1_0 a1_1 a1_2 a1_3) = some r := by rw [if_neg (show ¬ (false = true) by decide)] at H; exact H
   clear H; have H := H1; clear H1
   have H' := Aside0.mk H
   clear H; have hnb14 := NB246_247.out; have hnc14 := NB247_246.out
   have hcz15_0 : w5.cell? ⟨gb246, 0, none⟩ = some (.int .i64 a0_0) := bc BK246 0
   have hcz15_1 : w5.cell? ⟨gb246, 1, none⟩ = some (.int .i64 a0_1) := bc BK246 1
   have hcz15_2 : w5.cell? ⟨gb246, 2, none⟩ = some (.int .i64 a0_2) := bc BK246 2
   have hcz15_3 : w5.cell? ⟨gb246, 3, none⟩ = some (.int .i64 a0_3) := bc BK246 3
   have hfz15_0 := blk_frozen BK246.out 0; have hfz15_1 := blk_frozen BK246.out 1; have hfz15_2 := blk_frozen BK246.out 2; have hfz15_3 := blk_frozen BK246.out 3
   go_wp2_with (first | ((with_reducible refine gate_callee (f := 15) rfl ?_); refine goesL_ (some 9) rfl rfl Try.func15 (by kernel_rfl) rfl #[.agg #[.int .i64 a0_0, .int .i64 a0_1, .int .i64 a0_2, .int .i64 a0_3]] rfl (by (try simp only [List.map_toArray, List.map_cons, List.map_nil]); first | done | rfl | (simp only [List.length_drop, List.length_take]; rfl)) ?_; (with_reducible refine (frustumlaw40_unit.calls a0_0 a0_1 a0_2 a0_3 false _ A6.out).mono ?_); rintro e w16 ⟨rfl, hb⟩; refine ⟨_, rfl, ?_⟩; replace BK246 := ub BK246 hb; replace BK247 := ub BK247 hb; replace HB := bs HB hb; (try clear hb); (try clear hb2); (try clear hk); (try clear hi)))
   go_meet
   case rel => exact ⟨_, (true), (by first | rfl | (simp; done) | (simp [*]; done)), H', ⟨by first | omega | exact Nat.le_refl _⟩, ⟨by (with_reducible repeat (first | refine blk_drewN ?_ _ | refine blk_drew ?_ | refine blk_alloc ?_ _)); exact BK246.out⟩, ⟨by (with_reducible repeat (first | refine blk_drewN ?_ _ | refine blk_drew ?_ | refine blk_alloc ?_ _)); exact BK247.out⟩, ⟨by repeat (first | (with_reducible first | exact HB.out | apply below_alloc | apply pw_below_drewN | apply below_drew1 | refine below_set ?_ GE246.out | refine below_set ?_ GE247.out) | exact HB.out)⟩⟩
 case rest =>
  clear HC3
  try clear c1
  try clear p2
  try clear c6
  try clear c7
  try clear c9
  try clear c14
  try clear c15
  try clear hcz10_0
  try clear hcz10_1
  try clear hcz10_2
  try clear hcz10_3
  try clear hcz12_0
  try clear hcz12_1
  try clear hcz12_2
  try clear hcz12_3
  try clear hcz15_0
  try clear hcz15_1
  try clear hcz15_2
  try clear hcz15_3
  try clear hfz10_0
  try clear hfz10_1
  try clear hfz10_2
  try clear hfz10_3
  try clear hfz12_0
  try clear hfz12_1
  try clear hfz12_2
  try clear hfz12_3
  try clear hfz15_0
  try clear hfz15_1
  try clear hfz15_2
  try clear hfz15_3
  obtain ⟨kq, x15_2, rfl, HA, HJ2, BK246, BK247, HB⟩ := hcut
  cases kq with
  | zero => exact absurd HA.out (by simp [frustumlaw40_BlendOver.j0])
  | succ kj2 =>
   have H := HA.out; clear HA
   simp only [frustumlaw40_BlendOver.j0] at H
   by_cases c17 : x15_2 = true
   ·subst c17
    have H1 : ((frustumlaw40_example.f kj2).bind fun t250 => (some t250)) = some r := by rw [if_pos rfl] at H; exact H
    clear H; have H := H1; clear H1
    replace H := Option.bind_eq_some_iff.mp H
    obtain ⟨t250, A180, H⟩ := H
    replace H : (some t250) = some r := H
    have A18 := Aside0.mk A180; clear A180
    obtain rfl := Option.some.inj H
    go_wp2_with (first | ((with_reducible refine gate_callee (f := 11) rfl ?_); refine goesL_ (some 16) rfl rfl Try.func11 (by kernel_rfl) rfl #[] rfl (by (try simp only [List.map_toArray, List.map_cons, List.map_nil]); first | done | rfl | (simp only [List.length_drop, List.length_take]; rfl)) ?_; (with_reducible refine (frustumlaw40_example.calls kj2  t250 _ A18.out).mono ?_); rintro e w19 ⟨rfl, hb⟩; refine ⟨_, rfl, ?_⟩; replace BK246 := ub BK246 hb; replace BK247 := ub BK247 hb; replace HB := bs HB hb; (try clear hb); (try clear hb2); (try clear hk); (try clear hi)))
    go_ret
    exact ⟨by first | rfl | (simp [errW_none, errW_some] <;> rfl) | (simp [*, errW_none, errW_some] <;> rfl), by repeat (first | (with_reducible first | exact HB.out | apply below_alloc | apply pw_below_drewN | apply below_drew1 | refine below_set ?_ GE246.out | refine below_set ?_ GE247.out) | exact HB.out)⟩
   ·replace c17 := Bool.eq_false_iff.mpr c17
    subst c17
    have H1 : ((frustumlaw40_over.f).bind fun bt251 => ((blend_Blend.f kj2 bt251.1 bt251.2.1 bt251.2.2.1 bt251.2.2.2.1 bt251.2.2.2.2.1 bt251.2.2.2.2.2.1 bt251.2.2.2.2.2.2.1 bt251.2.2.2.2.2.2.2 a0_0 a0_1 a0_2 a0_3 a1_0 a1_1 a1_2 a1_3).bind fun bt259 => (if bt259.1 < 0 then (frustumlaw40_BlendOver.j1 kj2 true a0_0 a0_1 a0_2 a0_3 a1_0 a1_1 a1_2 a1_3) else (if bt259.1 > 65537 then (frustumlaw40_BlendOver.j1 kj2 true a0_0 a0_1 a0_2 a0_3 a1_0 a1_1 a1_2 a1_3) else (if bt259.2.1 < 0 then (frustumlaw40_BlendOver.j1 kj2 true a0_0 a0_1 a0_2 a0_3 a1_0 a1_1 a1_2 a1_3) else (if bt259.2.1 > 65537 then (frustumlaw40_BlendOver.j1 kj2 true a0_0 a0_1 a0_2 a0_3 a1_0 a1_1 a1_2 a1_3) else (if bt259.2.2.1 < 0 then (frustumlaw40_BlendOver.j1 kj2 true a0_0 a0_1 a0_2 a0_3 a1_0 a1_1 a1_2 a1_3) else (if bt259.2.2.1 > 65537 then (frustumlaw40_BlendOver.j1 kj2 true a0_0 a0_1 a0_2 a0_3 a1_0 a1_1 a1_2 a1_3) else (frustumlaw40_BlendOver.j1 kj2 (bt259.2.2.2 != a0_3) a0_0 a0_1 a0_2 a0_3 a1_0 a1_1 a1_2 a1_3))))))))) = some r := by rw [if_neg (show ¬ (false = true) by decide)] at H; exact H
    clear H; have H := H1; clear H1
    replace H := Option.bind_eq_some_iff.mp H
    obtain ⟨⟨t251, t252, t253, t254, t255, t256, t257, t258⟩, A200, H⟩ := H
    replace H : ((blend_Blend.f kj2 t251 t252 t253 t254 t255 t256 t257 t258 a0_0 a0_1 a0_2 a0_3 a1_0 a1_1 a1_2 a1_3).bind fun bt259 => (if bt259.1 < 0 then (frustumlaw40_BlendOver.j1 kj2 true a0_0 a0_1 a0_2 a0_3 a1_0 a1_1 a1_2 a1_3) else (if bt259.1 > 65537 then (frustumlaw40_BlendOver.j1 kj2 true a0_0 a0_1 a0_2 a0_3 a1_0 a1_1 a1_2 a1_3) else (if bt259.2.1 < 0 then (frustumlaw40_BlendOver.j1 kj2 true a0_0 a0_1 a0_2 a0_3 a1_0 a1_1 a1_2 a1_3) else (if bt259.2.1 > 65537 then (frustumlaw40_BlendOver.j1 kj2 true a0_0 a0_1 a0_2 a0_3 a1_0 a1_1 a1_2 a1_3) else (if bt259.2.2.1 < 0 then (frustumlaw40_BlendOver.j1 kj2 true a0_0 a0_1 a0_2 a0_3 a1_0 a1_1 a1_2 a1_3) else (if bt259.2.2.1 > 65537 then (frustumlaw40_BlendOver.j1 kj2 true a0_0 a0_1 a0_2 a0_3 a1_0 a1_1 a1_2 a1_3) else (frustumlaw40_BlendOver.j1 kj2 (bt259.2.2.2 != a0_3) a0_0 a0_1 a0_2 a0_3 a1_0 a1_1 a1_2 a1_3)))))))) = some r := H
    have A20 := Aside0.mk A200; clear A200
    replace H := Option.bind_eq_some_iff.mp H
    obtain ⟨⟨t259, t260, t261, t262⟩, A210, H⟩ := H
    replace H : (if t259 < 0 then (frustumlaw40_BlendOver.j1 kj2 true a0_0 a0_1 a0_2 a0_3 a1_0 a1_1 a1_2 a1_3) else (if t259 > 65537 then (frustumlaw40_BlendOver.j1 kj2 true a0_0 a0_1 a0_2 a0_3 a1_0 a1_1 a1_2 a1_3) else (if t260 < 0 then (frustumlaw40_BlendOver.j1 kj2 true a0_0 a0_1 a0_2 a0_3 a1_0 a1_1 a1_2 a1_3) else (if t260 > 65537 then (frustumlaw40_BlendOver.j1 kj2 true a0_0 a0_1 a0_2 a0_3 a1_0 a1_1 a1_2 a1_3) else (if t261 < 0 then (frustumlaw40_BlendOver.j1 kj2 true a0_0 a0_1 a0_2 a0_3 a1_0 a1_1 a1_2 a1_3) else (if t261 > 65537 then (frustumlaw40_BlendOver.j1 kj2 true a0_0 a0_1 a0_2 a0_3 a1_0 a1_1 a1_2 a1_3) else (frustumlaw40_BlendOver.j1 kj2 (t262 != a0_3) a0_0 a0_1 a0_2 a0_3 a1_0 a1_1 a1_2 a1_3))))))) = some r := H
    have A21 := Aside0.mk A210; clear A210; have HC22 := Aside0.mk H; clear H
    try go_wp2
    replace BK246 := Aside0.mk (blk_drew BK246.out); replace BK247 := Aside0.mk (blk_drew BK247.out); replace HB := Aside0.mk (below_drew1 HB.out)
    refine start_ (n := 6) (S := fun w' => w'.cell? ⟨gb246, 0, none⟩ = some (.int .i64 a0_0) ∧ w'.cell? ⟨gb246, 1, none⟩ = some (.int .i64 a0_1) ∧ w'.cell? ⟨gb246, 2, none⟩ = some (.int .i64 a0_2) ∧ w'.cell? ⟨gb246, 3, none⟩ = some (.int .i64 a0_3) ∧ w'.cell? ⟨gb247, 0, none⟩ = some (.int .i64 a1_0) ∧ w'.cell? ⟨gb247, 1, none⟩ = some (.int .i64 a1_1) ∧ w'.cell? ⟨gb247, 2, none⟩ = some (.int .i64 a1_2) ∧ w'.cell? ⟨gb247, 3, none⟩ = some (.int .i64 a1_3)) (ds := []) #[false, false, false, false, false, false] (by kernel_rfl) rfl rfl ⟨bc BK246 0, bc BK246 1, bc BK246 2, bc BK246 3, bc BK247 0, bc BK247 1, bc BK247 2, bc BK247 3⟩ (fun hHeld => ?_)
    generalize wc.drew = w23 at BK246 BK247 HB hHeld ⊢
    refine take_ (i := 1) (N := some 18) (v := ?_) (a' := ?_) #[false, true, false, false, false, false] rfl rfl (by kernel_rfl) (fun _ _ _ h => h) (Or.inl ⟨by rfl, ?_⟩) hHeld ?_ ?_
    rotate_left
    ·rintro w' ⟨s0, s1, s2, s3, s4, s5, s6, s7⟩
     go_simp
     with_reducible rfl
    rotate_left
    ·simp only [Act.put, List.setIfInBounds_toArray, List.set_cons_zero, List.set_cons_succ, i64_w, i32_w]
     rfl
    refine take_ (i := 2) (N := some 19) (v := ?_) (a' := ?_) #[false, true, true, false, false, false] rfl rfl (by kernel_rfl) (fun _ _ _ h => h) (Or.inl ⟨by rfl, ?_⟩) hHeld ?_ ?_
    rotate_left
    ·rintro w' ⟨s0, s1, s2, s3, s4, s5, s6, s7⟩
     go_simp
     with_reducible rfl
    rotate_left
    ·simp only [Act.put, List.setIfInBounds_toArray, List.set_cons_zero, List.set_cons_succ, i64_w, i32_w]
     rfl
    refine join_ (σ := Nat) 1 #[true, true, true, true, true, false] (fun s_ => [(17, .agg #[.bool t251, .int .i64 t252, .int .i64 t253, .int .i64 t254, .int .i64 t255, .int .i64 t256, .int .i64 t257, .int .i64 t258]), (20, .agg #[.int .i64 t259, .int .i64 t260, .int .i64 t261, .int .i64 t262]), (5, .pointer (some ⟨s_, 0, none⟩))]) (fun s_ w' => (w'.cell? ⟨gb246, 0, none⟩ = some (.int .i64 a0_0) ∧ w'.cell? ⟨gb246, 1, none⟩ = some (.int .i64 a0_1) ∧ w'.cell? ⟨gb246, 2, none⟩ = some (.int .i64 a0_2) ∧ w'.cell? ⟨gb246, 3, none⟩ = some (.int .i64 a0_3) ∧ w'.cell? ⟨gb247, 0, none⟩ = some (.int .i64 a1_0) ∧ w'.cell? ⟨gb247, 1, none⟩ = some (.int .i64 a1_1) ∧ w'.cell? ⟨gb247, 2, none⟩ = some (.int .i64 a1_2) ∧ w'.cell? ⟨gb247, 3, none⟩ = some (.int .i64 a1_3)) ∧ (w'.heap[gb246]? = some (.cells #[.int .i64 a0_0, .int .i64 a0_1, .int .i64 a0_2, .int .i64 a0_3] 27 (0, 0))) ∧ (w'.heap[gb247]? = some (.cells #[.int .i64 a1_0, .int .i64 a1_1, .int .i64 a1_2, .int .i64 a1_3] 27 (0, 0))) ∧ (w'.heap[s_]? = some (.cells #[.int .i64 0, .int .i64 0, .int .i64 0, .int .i64 0] 27 (0, 0))) ∧ (w.heap.size ≤ s_) ∧ (w.heap.size ≤ s_) ∧ (gb246 ≠ s_) ∧ (s_ ≠ gb246) ∧ (gb247 ≠ s_) ∧ (s_ ≠ gb247) ∧ (Below w.heap.size w w')) ?_ ?_
    rotate_left
    ·intro hCont
     refine two_ (i := 0) (j := 4) (Ni := some 17) (Nj := some 5) #[true, true, true, false, false, false] #[false, true, true, false, true, false] rfl rfl rfl rfl (by kernel_rfl) (by decide) (by decide) (fun K hK => ?_) (fun K hK => ?_)
     ·skip
      refine goes_ Try.func16 (by kernel_rfl) rfl #[] (by rfl) rfl rfl (by (try simp only [List.map_toArray, List.map_cons, List.map_nil]); first | done | rfl | (simp only [List.length_drop, List.length_take]; rfl)) ?_
      with_reducible refine (frustumlaw40_over.calls  t251 t252 t253 t254 t255 t256 t257 t258 _ A20.out).mono ?_; rintro e w24 ⟨rfl, hb⟩; refine ⟨_, rfl, ?_⟩; replace BK246 := ub BK246 hb; replace BK247 := ub BK247 hb; replace HB := bs HB hb; (try clear hb); (try clear hb2); (try clear hk); (try clear hi)
      refine hK.out _ _ ⟨bc BK246 0, bc BK246 1, bc BK246 2, bc BK246 3, bc BK247 0, bc BK247 1, bc BK247 2, bc BK247 3⟩ (fun hHeld => ?_)
      clear hK K
      refine norm_ (a' := ?_) ?_ ?_
      rotate_left
      ·show Act.put _ (some 17) _ = _
       simp only [Act.put, List.setIfInBounds_toArray, List.set_cons_zero, List.set_cons_succ, i64_w, i32_w]
       rfl
      refine two_ (i := 3) (j := 4) (Ni := some 20) (Nj := some 5) #[true, true, true, true, false, false] #[true, true, true, false, true, false] rfl rfl rfl rfl (by kernel_rfl) (by decide) (by decide) (fun K hK => ?_) (fun K hK => ?_)
      ·skip
       refine goes_ Try.func9 (by kernel_rfl) rfl #[.agg #[.bool t251, .int .i64 t252, .int .i64 t253, .int .i64 t254, .int .i64 t255, .int .i64 t256, .int .i64 t257, .int .i64 t258], .agg #[.int .i64 a0_0, .int .i64 a0_1, .int .i64 a0_2, .int .i64 a0_3], .agg #[.int .i64 a1_0, .int .i64 a1_1, .int .i64 a1_2, .int .i64 a1_3]] (by rfl) rfl rfl (by (try simp only [List.map_toArray, List.map_cons, List.map_nil]); first | done | rfl | (simp only [List.length_drop, List.length_take]; rfl)) ?_
       with_reducible refine (blend_Blend.calls kj2 t251 t252 t253 t254 t255 t256 t257 t258 a0_0 a0_1 a0_2 a0_3 a1_0 a1_1 a1_2 a1_3 t259 t260 t261 t262 _ A21.out).mono ?_; rintro e w25 ⟨rfl, hb⟩; refine ⟨_, rfl, ?_⟩; replace BK246 := ub BK246 hb; replace BK247 := ub BK247 hb; replace HB := bs HB hb; (try clear hb); (try clear hb2); (try clear hk); (try clear hi)
       refine hK.out _ _ ⟨bc BK246 0, bc BK246 1, bc BK246 2, bc BK246 3, bc BK247 0, bc BK247 1, bc BK247 2, bc BK247 3⟩ (fun hHeld => ?_)
       clear hK K
       refine norm_ (a' := ?_) ?_ ?_
       rotate_left
       ·show Act.put _ (some 20) _ = _
        simp only [Act.put, List.setIfInBounds_toArray, List.set_cons_zero, List.set_cons_succ, i64_w, i32_w]
        rfl
       refine one_ (i := 4) (N := some 5) #[true, true, true, true, true, false] rfl rfl (by kernel_rfl) (by decide) (fun K hK => ?_)
       refine box_step ?hg (N := 5) ?hd (cs := #[.int .i64 0, .int .i64 0, .int .i64 0, .int .i64 0]) (t := 27) ?hr ?_; (case hd => rfl); (case hg => rfl); (case hr => first | (go_simp; done) | (go_simp; rfl))
       intro gb263 hg w26 hbox hb
       have BK263 := Aside0.mk (hbox); have GW263 := ws HB hg; have GE263 := ws HB hg; have NB246_263 := nl BK246 hg; have NB263_246 := ng BK246 hg; have NB247_263 := nl BK247 hg; have NB263_247 := ng BK247 hg; replace BK246 := ub BK246 hb; replace BK247 := ub BK247 hb; replace HB := bs HB hb; clear hb hbox hg
       refine hK.out _ _ ⟨bc BK246 0, bc BK246 1, bc BK246 2, bc BK246 3, bc BK247 0, bc BK247 1, bc BK247 2, bc BK247 3⟩ (fun hHeld => ?_)
       clear hK K
       refine norm_ (a' := ?_) ?_ ?_
       rotate_left
       ·show Act.put _ (some 5) _ = _
        simp only [Act.put, List.setIfInBounds_toArray, List.set_cons_zero, List.set_cons_succ, i64_w, i32_w]
        rfl
       exact norm_ (by simp only [putAll, Act.put, List.setIfInBounds_toArray, List.set_cons_zero, List.set_cons_succ]) (hCont (gb263) _ ⟨hHeld, BK246.out, BK247.out, BK263.out, GW263.out, GE263.out, NB246_263.out, NB263_246.out, NB247_263.out, NB263_247.out, (by repeat (first | (with_reducible first | exact HB.out | apply below_alloc | apply pw_below_drewN | apply below_drew1 | refine below_setA ?_ (by assumption)) | exact HB.out))⟩)
      ·skip
       refine box_step ?hg (N := 5) ?hd (cs := #[.int .i64 0, .int .i64 0, .int .i64 0, .int .i64 0]) (t := 27) ?hr ?_; (case hd => rfl); (case hg => rfl); (case hr => first | (go_simp; done) | (go_simp; rfl))
       intro gb263 hg w25 hbox hb
       have BK263 := Aside0.mk (hbox); have GW263 := ws HB hg; have GE263 := ws HB hg; have NB246_263 := nl BK246 hg; have NB263_246 := ng BK246 hg; have NB247_263 := nl BK247 hg; have NB263_247 := ng BK247 hg; replace BK246 := ub BK246 hb; replace BK247 := ub BK247 hb; replace HB := bs HB hb; clear hb hbox hg
       refine hK.out _ _ ⟨bc BK246 0, bc BK246 1, bc BK246 2, bc BK246 3, bc BK247 0, bc BK247 1, bc BK247 2, bc BK247 3⟩ (fun hHeld => ?_)
       clear hK K
       refine norm_ (a' := ?_) ?_ ?_
       rotate_left
       ·show Act.put _ (some 5) _ = _
        simp only [Act.put, List.setIfInBounds_toArray, List.set_cons_zero, List.set_cons_succ, i64_w, i32_w]
        rfl
       refine one_ (i := 3) (N := some 20) #[true, true, true, true, true, false] rfl rfl (by kernel_rfl) (by decide) (fun K hK => ?_)
       refine goes_ Try.func9 (by kernel_rfl) rfl #[.agg #[.bool t251, .int .i64 t252, .int .i64 t253, .int .i64 t254, .int .i64 t255, .int .i64 t256, .int .i64 t257, .int .i64 t258], .agg #[.int .i64 a0_0, .int .i64 a0_1, .int .i64 a0_2, .int .i64 a0_3], .agg #[.int .i64 a1_0, .int .i64 a1_1, .int .i64 a1_2, .int .i64 a1_3]] (by rfl) rfl rfl (by (try simp only [List.map_toArray, List.map_cons, List.map_nil]); first | done | rfl | (simp only [List.length_drop, List.length_take]; rfl)) ?_
       with_reducible refine (blend_Blend.calls kj2 t251 t252 t253 t254 t255 t256 t257 t258 a0_0 a0_1 a0_2 a0_3 a1_0 a1_1 a1_2 a1_3 t259 t260 t261 t262 _ A21.out).mono ?_; rintro e w26 ⟨rfl, hb⟩; refine ⟨_, rfl, ?_⟩; replace BK246 := ub BK246 hb; replace BK247 := ub BK247 hb; replace BK263 := ub BK263 hb; replace HB := bs HB hb; (try clear hb); (try clear hb2); (try clear hk); (try clear hi)
       refine hK.out _ _ ⟨bc BK246 0, bc BK246 1, bc BK246 2, bc BK246 3, bc BK247 0, bc BK247 1, bc BK247 2, bc BK247 3⟩ (fun hHeld => ?_)
       clear hK K
       refine norm_ (a' := ?_) ?_ ?_
       rotate_left
       ·show Act.put _ (some 20) _ = _
        simp only [Act.put, List.setIfInBounds_toArray, List.set_cons_zero, List.set_cons_succ, i64_w, i32_w]
        rfl
       exact norm_ (by simp only [putAll, Act.put, List.setIfInBounds_toArray, List.set_cons_zero, List.set_cons_succ]) (hCont (gb263) _ ⟨hHeld, BK246.out, BK247.out, BK263.out, GW263.out, GE263.out, NB246_263.out, NB263_246.out, NB247_263.out, NB263_247.out, (by repeat (first | (with_reducible first | exact HB.out | apply below_alloc | apply pw_below_drewN | apply below_drew1 | refine below_setA ?_ (by assumption)) | exact HB.out))⟩)
     ·skip
      refine box_step ?hg (N := 5) ?hd (cs := #[.int .i64 0, .int .i64 0, .int .i64 0, .int .i64 0]) (t := 27) ?hr ?_; (case hd => rfl); (case hg => rfl); (case hr => first | (go_simp; done) | (go_simp; rfl))
      intro gb263 hg w24 hbox hb
      have BK263 := Aside0.mk (hbox); have GW263 := ws HB hg; have GE263 := ws HB hg; have NB246_263 := nl BK246 hg; have NB263_246 := ng BK246 hg; have NB247_263 := nl BK247 hg; have NB263_247 := ng BK247 hg; replace BK246 := ub BK246 hb; replace BK247 := ub BK247 hb; replace HB := bs HB hb; clear hb hbox hg
      refine hK.out _ _ ⟨bc BK246 0, bc BK246 1, bc BK246 2, bc BK246 3, bc BK247 0, bc BK247 1, bc BK247 2, bc BK247 3⟩ (fun hHeld => ?_)
      clear hK K
      refine norm_ (a' := ?_) ?_ ?_
      rotate_left
      ·show Act.put _ (some 5) _ = _
       simp only [Act.put, List.setIfInBounds_toArray, List.set_cons_zero, List.set_cons_succ, i64_w, i32_w]
       rfl
      refine one_ (i := 0) (N := some 17) #[true, true, true, false, true, false] rfl rfl (by kernel_rfl) (by decide) (fun K hK => ?_)
      refine goes_ Try.func16 (by kernel_rfl) rfl #[] (by rfl) rfl rfl (by (try simp only [List.map_toArray, List.map_cons, List.map_nil]); first | done | rfl | (simp only [List.length_drop, List.length_take]; rfl)) ?_
      with_reducible refine (frustumlaw40_over.calls  t251 t252 t253 t254 t255 t256 t257 t258 _ A20.out).mono ?_; rintro e w25 ⟨rfl, hb⟩; refine ⟨_, rfl, ?_⟩; replace BK246 := ub BK246 hb; replace BK247 := ub BK247 hb; replace BK263 := ub BK263 hb; replace HB := bs HB hb; (try clear hb); (try clear hb2); (try clear hk); (try clear hi)
      refine hK.out _ _ ⟨bc BK246 0, bc BK246 1, bc BK246 2, bc BK246 3, bc BK247 0, bc BK247 1, bc BK247 2, bc BK247 3⟩ (fun hHeld => ?_)
      clear hK K
      refine norm_ (a' := ?_) ?_ ?_
      rotate_left
      ·show Act.put _ (some 17) _ = _
       simp only [Act.put, List.setIfInBounds_toArray, List.set_cons_zero, List.set_cons_succ, i64_w, i32_w]
       rfl
      refine one_ (i := 3) (N := some 20) #[true, true, true, true, true, false] rfl rfl (by kernel_rfl) (by decide) (fun K hK => ?_)
      refine goes_ Try.func9 (by kernel_rfl) rfl #[.agg #[.bool t251, .int .i64 t252, .int .i64 t253, .int .i64 t254, .int .i64 t255, .int .i64 t256, .int .i64 t257, .int .i64 t258], .agg #[.int .i64 a0_0, .int .i64 a0_1, .int .i64 a0_2, .int .i64 a0_3], .agg #[.int .i64 a1_0, .int .i64 a1_1, .int .i64 a1_2, .int .i64 a1_3]] (by rfl) rfl rfl (by (try simp only [List.map_toArray, List.map_cons, List.map_nil]); first | done | rfl | (simp only [List.length_drop, List.length_take]; rfl)) ?_
      with_reducible refine (blend_Blend.calls kj2 t251 t252 t253 t254 t255 t256 t257 t258 a0_0 a0_1 a0_2 a0_3 a1_0 a1_1 a1_2 a1_3 t259 t260 t261 t262 _ A21.out).mono ?_; rintro e w26 ⟨rfl, hb⟩; refine ⟨_, rfl, ?_⟩; replace BK246 := ub BK246 hb; replace BK247 := ub BK247 hb; replace BK263 := ub BK263 hb; replace HB := bs HB hb; (try clear hb); (try clear hb2); (try clear hk); (try clear hi)
      refine hK.out _ _ ⟨bc BK246 0, bc BK246 1, bc BK246 2, bc BK246 3, bc BK247 0, bc BK247 1, bc BK247 2, bc BK247 3⟩ (fun hHeld => ?_)
      clear hK K
      refine norm_ (a' := ?_) ?_ ?_
      rotate_left
      ·show Act.put _ (some 20) _ = _
       simp only [Act.put, List.setIfInBounds_toArray, List.set_cons_zero, List.set_cons_succ, i64_w, i32_w]
       rfl
      exact norm_ (by simp only [putAll, Act.put, List.setIfInBounds_toArray, List.set_cons_zero, List.set_cons_succ]) (hCont (gb263) _ ⟨hHeld, BK246.out, BK247.out, BK263.out, GW263.out, GE263.out, NB246_263.out, NB263_246.out, NB247_263.out, NB263_247.out, (by repeat (first | (with_reducible first | exact HB.out | apply below_alloc | apply pw_below_drewN | apply below_drew1 | refine below_setA ?_ (by assumption)) | exact HB.out))⟩)
    rintro gb263 w27 ⟨hS_, h0_, h1_, h2_, h3_, h4_, h5_, h6_, h7_, h8_, h9_⟩; have BK263 := Aside0.mk h2_; have GW263 := Aside0.mk h3_; have GE263 := Aside0.mk h4_; have NB246_263 := Aside0.mk h5_; have NB263_246 := Aside0.mk h6_; have NB247_263 := Aside0.mk h7_; have NB263_247 := Aside0.mk h8_; replace BK246 := Aside0.mk h0_; replace BK247 := Aside0.mk h1_; replace HB := Aside0.mk h9_; clear h0_ h1_ h2_ h3_ h4_ h5_ h6_ h7_ h8_ h9_; have hHeld := hS_
    refine norm_ (a' := ?_) ?_ ?_
    rotate_left
    ·simp only [putAll, Act.put, List.setIfInBounds_toArray, List.set_cons_zero, List.set_cons_succ]
     rfl
    refine one_ (i := 5) (N := none) #[true, true, true, true, true, true] rfl rfl (by kernel_rfl) (by decide) (fun K hK => ?_)
    have hs28 : w27.cell? ⟨gb263, 0, none⟩ = some (.int .i64 0) := bc BK263 0
    have hfs28 := blk_frozen BK263.out 0; have hns28_0 := NB246_263.out; have hns28_1 := NB247_263.out; have hms28_0 := NB263_246.out; have hms28_1 := NB263_247.out
    have hs29 : w27.cell? ⟨gb263, 1, none⟩ = some (.int .i64 0) := bc BK263 1
    have hfs29 := blk_frozen BK263.out 1; have hns29_0 := NB246_263.out; have hns29_1 := NB247_263.out; have hms29_0 := NB263_246.out; have hms29_1 := NB263_247.out
    have hs30 : w27.cell? ⟨gb263, 2, none⟩ = some (.int .i64 0) := bc BK263 2
    have hfs30 := blk_frozen BK263.out 2; have hns30_0 := NB246_263.out; have hns30_1 := NB247_263.out; have hms30_0 := NB263_246.out; have hms30_1 := NB263_247.out
    have hs31 : w27.cell? ⟨gb263, 3, none⟩ = some (.int .i64 0) := bc BK263 3
    have hfs31 := blk_frozen BK263.out 3; have hns31_0 := NB246_263.out; have hns31_1 := NB247_263.out; have hms31_0 := NB263_246.out; have hms31_1 := NB263_247.out
    refine skip_ (w1 := ?_) (by rfl) rfl ?_ ?_
    rotate_left
    ·go_simp
     rfl
    refine hK.out _ _ ⟨(cf NB246_263 ((cf NB246_263 ((cf NB246_263 ((cf NB246_263 (hHeld.1)))))))), (cf NB246_263 ((cf NB246_263 ((cf NB246_263 ((cf NB246_263 (hHeld.2.1)))))))), (cf NB246_263 ((cf NB246_263 ((cf NB246_263 ((cf NB246_263 (hHeld.2.2.1)))))))), (cf NB246_263 ((cf NB246_263 ((cf NB246_263 ((cf NB246_263 (hHeld.2.2.2.1)))))))), (cf NB247_263 ((cf NB247_263 ((cf NB247_263 ((cf NB247_263 (hHeld.2.2.2.2.1)))))))), (cf NB247_263 ((cf NB247_263 ((cf NB247_263 ((cf NB247_263 (hHeld.2.2.2.2.2.1)))))))), (cf NB247_263 ((cf NB247_263 ((cf NB247_263 ((cf NB247_263 (hHeld.2.2.2.2.2.2.1)))))))), (cf NB247_263 ((cf NB247_263 ((cf NB247_263 ((cf NB247_263 (hHeld.2.2.2.2.2.2.2))))))))⟩ (fun hHeld => ?_)
    clear hK K
    refine done_ (by kernel_rfl) ?_
    go_upto_region 4 with (fail)
    go_cut [55] (fun v55 wc => ∃ (kq : Nat) (x55_21 : Bool), v55 = .bool x55_21 ∧ Aside0 (frustumlaw40_BlendOver.j1 kq x55_21 a0_0 a0_1 a0_2 a0_3 a1_0 a1_1 a1_2 a1_3 = some r) ∧ Aside0 (kq ≤ kj2) ∧ Aside0 (wc.heap[gb246]? = some (.cells #[.int .i64 a0_0, .int .i64 a0_1, .int .i64 a0_2, .int .i64 a0_3] 27 (0, 0))) ∧ Aside0 (wc.heap[gb247]? = some (.cells #[.int .i64 a1_0, .int .i64 a1_1, .int .i64 a1_2, .int .i64 a1_3] 27 (0, 0))) ∧ Aside0 (wc.heap[gb263]? = some (.cells #[.int .i64 t259, .int .i64 t260, .int .i64 t261, .int .i64 t262] 27 (0, 0))) ∧ Aside0 (Below w.heap.size w wc))
    case first =>
     have H := HC22.out; clear HC22
     by_cases c32 : t259 < 0
     ·rw [if_pos c32] at H
      have c32b0 : decide (t259 < 0) = true := decide_eq_true c32
      clear c32
      (first | rw [c32b0] | (simp only [i64_w, i32_w]; rw [c32b0]) | skip)
      have H' := Aside0.mk H
      clear H; have hnb33 := NB263_246.out; have hnc33 := NB246_263.out; have hnb34 := NB263_247.out; have hnc34 := NB247_263.out
      have hcz35_0 : w27.cell? ⟨gb263, 0, none⟩ = some (.int .i64 0) := bc BK263 0
      have hcz35_1 : w27.cell? ⟨gb263, 1, none⟩ = some (.int .i64 0) := bc BK263 1
      have hcz35_2 : w27.cell? ⟨gb263, 2, none⟩ = some (.int .i64 0) := bc BK263 2
      have hcz35_3 : w27.cell? ⟨gb263, 3, none⟩ = some (.int .i64 0) := bc BK263 3
      have hfz35_0 := blk_frozen BK263.out 0; have hfz35_1 := blk_frozen BK263.out 1; have hfz35_2 := blk_frozen BK263.out 2; have hfz35_3 := blk_frozen BK263.out 3
      go_wp2
      go_meet
      case rel => exact ⟨_, (true), (by first | rfl | (simp; done) | (simp [*]; done)), H', ⟨by have := HJ2.out; first | omega | exact Nat.le_refl _⟩, ⟨by (with_reducible repeat (first | refine blk_drewN ?_ _ | refine blk_drew ?_ | refine blk_alloc ?_ _)); refine blk_far ?_ NB246_263.out _; (with_reducible repeat (first | refine blk_drewN ?_ _ | refine blk_drew ?_ | refine blk_alloc ?_ _)); refine blk_far ?_ NB246_263.out _; (with_reducible repeat (first | refine blk_drewN ?_ _ | refine blk_drew ?_ | refine blk_alloc ?_ _)); refine blk_far ?_ NB246_263.out _; (with_reducible repeat (first | refine blk_drewN ?_ _ | refine blk_drew ?_ | refine blk_alloc ?_ _)); refine blk_far ?_ NB246_263.out _; (with_reducible repeat (first | refine blk_drewN ?_ _ | refine blk_drew ?_ | refine blk_alloc ?_ _)); exact BK246.out⟩, ⟨by (with_reducible repeat (first | refine blk_drewN ?_ _ | refine blk_drew ?_ | refine blk_alloc ?_ _)); refine blk_far ?_ NB247_263.out _; (with_reducible repeat (first | refine blk_drewN ?_ _ | refine blk_drew ?_ | refine blk_alloc ?_ _)); refine blk_far ?_ NB247_263.out _; (with_reducible repeat (first | refine blk_drewN ?_ _ | refine blk_drew ?_ | refine blk_alloc ?_ _)); refine blk_far ?_ NB247_263.out _; (with_reducible repeat (first | refine blk_drewN ?_ _ | refine blk_drew ?_ | refine blk_alloc ?_ _)); refine blk_far ?_ NB247_263.out _; (with_reducible repeat (first | refine blk_drewN ?_ _ | refine blk_drew ?_ | refine blk_alloc ?_ _)); exact BK247.out⟩, ⟨by (with_reducible repeat (first | refine blk_drewN ?_ _ | refine blk_drew ?_ | refine blk_alloc ?_ _)); refine blk_put (cs := #[.int .i64 t259, .int .i64 t260, .int .i64 t261, .int .i64 0]) ?_ 3 _ rfl; (with_reducible repeat (first | refine blk_drewN ?_ _ | refine blk_drew ?_ | refine blk_alloc ?_ _)); refine blk_put (cs := #[.int .i64 t259, .int .i64 t260, .int .i64 0, .int .i64 0]) ?_ 2 _ rfl; (with_reducible repeat (first | refine blk_drewN ?_ _ | refine blk_drew ?_ | refine blk_alloc ?_ _)); refine blk_put (cs := #[.int .i64 t259, .int .i64 0, .int .i64 0, .int .i64 0]) ?_ 1 _ rfl; (with_reducible repeat (first | refine blk_drewN ?_ _ | refine blk_drew ?_ | refine blk_alloc ?_ _)); refine blk_put (cs := #[.int .i64 0, .int .i64 0, .int .i64 0, .int .i64 0]) ?_ 0 _ rfl; (with_reducible repeat (first | refine blk_drewN ?_ _ | refine blk_drew ?_ | refine blk_alloc ?_ _)); exact BK263.out⟩, ⟨by repeat (first | (with_reducible first | exact HB.out | apply below_alloc | apply pw_below_drewN | apply below_drew1 | refine below_set ?_ GE246.out | refine below_set ?_ GE247.out | refine below_set ?_ GE263.out) | exact HB.out)⟩⟩
     ·rw [if_neg c32] at H
      have c32b0 : decide (t259 < 0) = false := decide_eq_false c32
      clear c32
      (first | rw [c32b0] | (simp only [i64_w, i32_w]; rw [c32b0]) | skip)
      by_cases c36 : t259 > 65537
      ·rw [if_pos c36] at H
       have c36b0 : decide (65537 < t259) = true := decide_eq_true c36
       clear c36
       have H' := Aside0.mk H
       clear H; have hnb37 := NB263_246.out; have hnc37 := NB246_263.out; have hnb38 := NB263_247.out; have hnc38 := NB247_263.out
       have hcz39_0 : w27.cell? ⟨gb263, 0, none⟩ = some (.int .i64 0) := bc BK263 0
       have hcz39_1 : w27.cell? ⟨gb263, 1, none⟩ = some (.int .i64 0) := bc BK263 1
       have hcz39_2 : w27.cell? ⟨gb263, 2, none⟩ = some (.int .i64 0) := bc BK263 2
       have hcz39_3 : w27.cell? ⟨gb263, 3, none⟩ = some (.int .i64 0) := bc BK263 3
       have hfz39_0 := blk_frozen BK263.out 0; have hfz39_1 := blk_frozen BK263.out 1; have hfz39_2 := blk_frozen BK263.out 2; have hfz39_3 := blk_frozen BK263.out 3
       go_wp2
       go_meet
       case rel => exact ⟨_, (true), (by first | rfl | (simp; done) | (simp [*]; done)), H', ⟨by have := HJ2.out; first | omega | exact Nat.le_refl _⟩, ⟨by (with_reducible repeat (first | refine blk_drewN ?_ _ | refine blk_drew ?_ | refine blk_alloc ?_ _)); refine blk_far ?_ NB246_263.out _; (with_reducible repeat (first | refine blk_drewN ?_ _ | refine blk_drew ?_ | refine blk_alloc ?_ _)); refine blk_far ?_ NB246_263.out _; (with_reducible repeat (first | refine blk_drewN ?_ _ | refine blk_drew ?_ | refine blk_alloc ?_ _)); refine blk_far ?_ NB246_263.out _; (with_reducible repeat (first | refine blk_drewN ?_ _ | refine blk_drew ?_ | refine blk_alloc ?_ _)); refine blk_far ?_ NB246_263.out _; (with_reducible repeat (first | refine blk_drewN ?_ _ | refine blk_drew ?_ | refine blk_alloc ?_ _)); exact BK246.out⟩, ⟨by (with_reducible repeat (first | refine blk_drewN ?_ _ | refine blk_drew ?_ | refine blk_alloc ?_ _)); refine blk_far ?_ NB247_263.out _; (with_reducible repeat (first | refine blk_drewN ?_ _ | refine blk_drew ?_ | refine blk_alloc ?_ _)); refine blk_far ?_ NB247_263.out _; (with_reducible repeat (first | refine blk_drewN ?_ _ | refine blk_drew ?_ | refine blk_alloc ?_ _)); refine blk_far ?_ NB247_263.out _; (with_reducible repeat (first | refine blk_drewN ?_ _ | refine blk_drew ?_ | refine blk_alloc ?_ _)); refine blk_far ?_ NB247_263.out _; (with_reducible repeat (first | refine blk_drewN ?_ _ | refine blk_drew ?_ | refine blk_alloc ?_ _)); exact BK247.out⟩, ⟨by (with_reducible repeat (first | refine blk_drewN ?_ _ | refine blk_drew ?_ | refine blk_alloc ?_ _)); refine blk_put (cs := #[.int .i64 t259, .int .i64 t260, .int .i64 t261, .int .i64 0]) ?_ 3 _ rfl; (with_reducible repeat (first | refine blk_drewN ?_ _ | refine blk_drew ?_ | refine blk_alloc ?_ _)); refine blk_put (cs := #[.int .i64 t259, .int .i64 t260, .int .i64 0, .int .i64 0]) ?_ 2 _ rfl; (with_reducible repeat (first | refine blk_drewN ?_ _ | refine blk_drew ?_ | refine blk_alloc ?_ _)); refine blk_put (cs := #[.int .i64 t259, .int .i64 0, .int .i64 0, .int .i64 0]) ?_ 1 _ rfl; (with_reducible repeat (first | refine blk_drewN ?_ _ | refine blk_drew ?_ | refine blk_alloc ?_ _)); refine blk_put (cs := #[.int .i64 0, .int .i64 0, .int .i64 0, .int .i64 0]) ?_ 0 _ rfl; (with_reducible repeat (first | refine blk_drewN ?_ _ | refine blk_drew ?_ | refine blk_alloc ?_ _)); exact BK263.out⟩, ⟨by repeat (first | (with_reducible first | exact HB.out | apply below_alloc | apply pw_below_drewN | apply below_drew1 | refine below_set ?_ GE246.out | refine below_set ?_ GE247.out | refine below_set ?_ GE263.out) | exact HB.out)⟩⟩
      ·rw [if_neg c36] at H
       have c36b0 : decide (65537 < t259) = false := decide_eq_false c36
       clear c36
       by_cases c40 : t260 < 0
       ·rw [if_pos c40] at H
        have c40b0 : decide (t260 < 0) = true := decide_eq_true c40
        clear c40
        have H' := Aside0.mk H
        clear H; have hnb41 := NB263_246.out; have hnc41 := NB246_263.out; have hnb42 := NB263_247.out; have hnc42 := NB247_263.out
        have hcz43_0 : w27.cell? ⟨gb263, 0, none⟩ = some (.int .i64 0) := bc BK263 0
        have hcz43_1 : w27.cell? ⟨gb263, 1, none⟩ = some (.int .i64 0) := bc BK263 1
        have hcz43_2 : w27.cell? ⟨gb263, 2, none⟩ = some (.int .i64 0) := bc BK263 2
        have hcz43_3 : w27.cell? ⟨gb263, 3, none⟩ = some (.int .i64 0) := bc BK263 3
        have hfz43_0 := blk_frozen BK263.out 0; have hfz43_1 := blk_frozen BK263.out 1; have hfz43_2 := blk_frozen BK263.out 2; have hfz43_3 := blk_frozen BK263.out 3
        go_wp2
        go_meet
        case rel => exact ⟨_, (true), (by first | rfl | (simp; done) | (simp [*]; done)), H', ⟨by have := HJ2.out; first | omega | exact Nat.le_refl _⟩, ⟨by (with_reducible repeat (first | refine blk_drewN ?_ _ | refine blk_drew ?_ | refine blk_alloc ?_ _)); refine blk_far ?_ NB246_263.out _; (with_reducible repeat (first | refine blk_drewN ?_ _ | refine blk_drew ?_ | refine blk_alloc ?_ _)); refine blk_far ?_ NB246_263.out _; (with_reducible repeat (first | refine blk_drewN ?_ _ | refine blk_drew ?_ | refine blk_alloc ?_ _)); refine blk_far ?_ NB246_263.out _; (with_reducible repeat (first | refine blk_drewN ?_ _ | refine blk_drew ?_ | refine blk_alloc ?_ _)); refine blk_far ?_ NB246_263.out _; (with_reducible repeat (first | refine blk_drewN ?_ _ | refine blk_drew ?_ | refine blk_alloc ?_ _)); exact BK246.out⟩, ⟨by (with_reducible repeat (first | refine blk_drewN ?_ _ | refine blk_drew ?_ | refine blk_alloc ?_ _)); refine blk_far ?_ NB247_263.out _; (with_reducible repeat (first | refine blk_drewN ?_ _ | refine blk_drew ?_ | refine blk_alloc ?_ _)); refine blk_far ?_ NB247_263.out _; (with_reducible repeat (first | refine blk_drewN ?_ _ | refine blk_drew ?_ | refine blk_alloc ?_ _)); refine blk_far ?_ NB247_263.out _; (with_reducible repeat (first | refine blk_drewN ?_ _ | refine blk_drew ?_ | refine blk_alloc ?_ _)); refine blk_far ?_ NB247_263.out _; (with_reducible repeat (first | refine blk_drewN ?_ _ | refine blk_drew ?_ | refine blk_alloc ?_ _)); exact BK247.out⟩, ⟨by (with_reducible repeat (first | refine blk_drewN ?_ _ | refine blk_drew ?_ | refine blk_alloc ?_ _)); refine blk_put (cs := #[.int .i64 t259, .int .i64 t260, .int .i64 t261, .int .i64 0]) ?_ 3 _ rfl; (with_reducible repeat (first | refine blk_drewN ?_ _ | refine blk_drew ?_ | refine blk_alloc ?_ _)); refine blk_put (cs := #[.int .i64 t259, .int .i64 t260, .int .i64 0, .int .i64 0]) ?_ 2 _ rfl; (with_reducible repeat (first | refine blk_drewN ?_ _ | refine blk_drew ?_ | refine blk_alloc ?_ _)); refine blk_put (cs := #[.int .i64 t259, .int .i64 0, .int .i64 0, .int .i64 0]) ?_ 1 _ rfl; (with_reducible repeat (first | refine blk_drewN ?_ _ | refine blk_drew ?_ | refine blk_alloc ?_ _)); refine blk_put (cs := #[.int .i64 0, .int .i64 0, .int .i64 0, .int .i64 0]) ?_ 0 _ rfl; (with_reducible repeat (first | refine blk_drewN ?_ _ | refine blk_drew ?_ | refine blk_alloc ?_ _)); exact BK263.out⟩, ⟨by repeat (first | (with_reducible first | exact HB.out | apply below_alloc | apply pw_below_drewN | apply below_drew1 | refine below_set ?_ GE246.out | refine below_set ?_ GE247.out | refine below_set ?_ GE263.out) | exact HB.out)⟩⟩
       ·rw [if_neg c40] at H
        have c40b0 : decide (t260 < 0) = false := decide_eq_false c40
        clear c40
        by_cases c44 : t260 > 65537
        ·rw [if_pos c44] at H
         have c44b0 : decide (65537 < t260) = true := decide_eq_true c44
         clear c44
         have H' := Aside0.mk H
         clear H; have hnb45 := NB263_246.out; have hnc45 := NB246_263.out; have hnb46 := NB263_247.out; have hnc46 := NB247_263.out
         have hcz47_0 : w27.cell? ⟨gb263, 0, none⟩ = some (.int .i64 0) := bc BK263 0
         have hcz47_1 : w27.cell? ⟨gb263, 1, none⟩ = some (.int .i64 0) := bc BK263 1
         have hcz47_2 : w27.cell? ⟨gb263, 2, none⟩ = some (.int .i64 0) := bc BK263 2
         have hcz47_3 : w27.cell? ⟨gb263, 3, none⟩ = some (.int .i64 0) := bc BK263 3
         have hfz47_0 := blk_frozen BK263.out 0; have hfz47_1 := blk_frozen BK263.out 1; have hfz47_2 := blk_frozen BK263.out 2; have hfz47_3 := blk_frozen BK263.out 3
         go_wp2
         go_meet
         case rel => exact ⟨_, (true), (by first | rfl | (simp; done) | (simp [*]; done)), H', ⟨by have := HJ2.out; first | omega | exact Nat.le_refl _⟩, ⟨by (with_reducible repeat (first | refine blk_drewN ?_ _ | refine blk_drew ?_ | refine blk_alloc ?_ _)); refine blk_far ?_ NB246_263.out _; (with_reducible repeat (first | refine blk_drewN ?_ _ | refine blk_drew ?_ | refine blk_alloc ?_ _)); refine blk_far ?_ NB246_263.out _; (with_reducible repeat (first | refine blk_drewN ?_ _ | refine blk_drew ?_ | refine blk_alloc ?_ _)); refine blk_far ?_ NB246_263.out _; (with_reducible repeat (first | refine blk_drewN ?_ _ | refine blk_drew ?_ | refine blk_alloc ?_ _)); refine blk_far ?_ NB246_263.out _; (with_reducible repeat (first | refine blk_drewN ?_ _ | refine blk_drew ?_ | refine blk_alloc ?_ _)); exact BK246.out⟩, ⟨by (with_reducible repeat (first | refine blk_drewN ?_ _ | refine blk_drew ?_ | refine blk_alloc ?_ _)); refine blk_far ?_ NB247_263.out _; (with_reducible repeat (first | refine blk_drewN ?_ _ | refine blk_drew ?_ | refine blk_alloc ?_ _)); refine blk_far ?_ NB247_263.out _; (with_reducible repeat (first | refine blk_drewN ?_ _ | refine blk_drew ?_ | refine blk_alloc ?_ _)); refine blk_far ?_ NB247_263.out _; (with_reducible repeat (first | refine blk_drewN ?_ _ | refine blk_drew ?_ | refine blk_alloc ?_ _)); refine blk_far ?_ NB247_263.out _; (with_reducible repeat (first | refine blk_drewN ?_ _ | refine blk_drew ?_ | refine blk_alloc ?_ _)); exact BK247.out⟩, ⟨by (with_reducible repeat (first | refine blk_drewN ?_ _ | refine blk_drew ?_ | refine blk_alloc ?_ _)); refine blk_put (cs := #[.int .i64 t259, .int .i64 t260, .int .i64 t261, .int .i64 0]) ?_ 3 _ rfl; (with_reducible repeat (first | refine blk_drewN ?_ _ | refine blk_drew ?_ | refine blk_alloc ?_ _)); refine blk_put (cs := #[.int .i64 t259, .int .i64 t260, .int .i64 0, .int .i64 0]) ?_ 2 _ rfl; (with_reducible repeat (first | refine blk_drewN ?_ _ | refine blk_drew ?_ | refine blk_alloc ?_ _)); refine blk_put (cs := #[.int .i64 t259, .int .i64 0, .int .i64 0, .int .i64 0]) ?_ 1 _ rfl; (with_reducible repeat (first | refine blk_drewN ?_ _ | refine blk_drew ?_ | refine blk_alloc ?_ _)); refine blk_put (cs := #[.int .i64 0, .int .i64 0, .int .i64 0, .int .i64 0]) ?_ 0 _ rfl; (with_reducible repeat (first | refine blk_drewN ?_ _ | refine blk_drew ?_ | refine blk_alloc ?_ _)); exact BK263.out⟩, ⟨by repeat (first | (with_reducible first | exact HB.out | apply below_alloc | apply pw_below_drewN | apply below_drew1 | refine below_set ?_ GE246.out | refine below_set ?_ GE247.out | refine below_set ?_ GE263.out) | exact HB.out)⟩⟩
        ·rw [if_neg c44] at H
         have c44b0 : decide (65537 < t260) = false := decide_eq_false c44
         clear c44
         by_cases c48 : t261 < 0
         ·rw [if_pos c48] at H
          have c48b0 : decide (t261 < 0) = true := decide_eq_true c48
          clear c48
          have H' := Aside0.mk H
          clear H; have hnb49 := NB263_246.out; have hnc49 := NB246_263.out; have hnb50 := NB263_247.out; have hnc50 := NB247_263.out
          have hcz51_0 : w27.cell? ⟨gb263, 0, none⟩ = some (.int .i64 0) := bc BK263 0
          have hcz51_1 : w27.cell? ⟨gb263, 1, none⟩ = some (.int .i64 0) := bc BK263 1
          have hcz51_2 : w27.cell? ⟨gb263, 2, none⟩ = some (.int .i64 0) := bc BK263 2
          have hcz51_3 : w27.cell? ⟨gb263, 3, none⟩ = some (.int .i64 0) := bc BK263 3
          have hfz51_0 := blk_frozen BK263.out 0; have hfz51_1 := blk_frozen BK263.out 1; have hfz51_2 := blk_frozen BK263.out 2; have hfz51_3 := blk_frozen BK263.out 3
          go_wp2
          go_meet
          case rel => exact ⟨_, (true), (by first | rfl | (simp; done) | (simp [*]; done)), H', ⟨by have := HJ2.out; first | omega | exact Nat.le_refl _⟩, ⟨by (with_reducible repeat (first | refine blk_drewN ?_ _ | refine blk_drew ?_ | refine blk_alloc ?_ _)); refine blk_far ?_ NB246_263.out _; (with_reducible repeat (first | refine blk_drewN ?_ _ | refine blk_drew ?_ | refine blk_alloc ?_ _)); refine blk_far ?_ NB246_263.out _; (with_reducible repeat (first | refine blk_drewN ?_ _ | refine blk_drew ?_ | refine blk_alloc ?_ _)); refine blk_far ?_ NB246_263.out _; (with_reducible repeat (first | refine blk_drewN ?_ _ | refine blk_drew ?_ | refine blk_alloc ?_ _)); refine blk_far ?_ NB246_263.out _; (with_reducible repeat (first | refine blk_drewN ?_ _ | refine blk_drew ?_ | refine blk_alloc ?_ _)); exact BK246.out⟩, ⟨by (with_reducible repeat (first | refine blk_drewN ?_ _ | refine blk_drew ?_ | refine blk_alloc ?_ _)); refine blk_far ?_ NB247_263.out _; (with_reducible repeat (first | refine blk_drewN ?_ _ | refine blk_drew ?_ | refine blk_alloc ?_ _)); refine blk_far ?_ NB247_263.out _; (with_reducible repeat (first | refine blk_drewN ?_ _ | refine blk_drew ?_ | refine blk_alloc ?_ _)); refine blk_far ?_ NB247_263.out _; (with_reducible repeat (first | refine blk_drewN ?_ _ | refine blk_drew ?_ | refine blk_alloc ?_ _)); refine blk_far ?_ NB247_263.out _; (with_reducible repeat (first | refine blk_drewN ?_ _ | refine blk_drew ?_ | refine blk_alloc ?_ _)); exact BK247.out⟩, ⟨by (with_reducible repeat (first | refine blk_drewN ?_ _ | refine blk_drew ?_ | refine blk_alloc ?_ _)); refine blk_put (cs := #[.int .i64 t259, .int .i64 t260, .int .i64 t261, .int .i64 0]) ?_ 3 _ rfl; (with_reducible repeat (first | refine blk_drewN ?_ _ | refine blk_drew ?_ | refine blk_alloc ?_ _)); refine blk_put (cs := #[.int .i64 t259, .int .i64 t260, .int .i64 0, .int .i64 0]) ?_ 2 _ rfl; (with_reducible repeat (first | refine blk_drewN ?_ _ | refine blk_drew ?_ | refine blk_alloc ?_ _)); refine blk_put (cs := #[.int .i64 t259, .int .i64 0, .int .i64 0, .int .i64 0]) ?_ 1 _ rfl; (with_reducible repeat (first | refine blk_drewN ?_ _ | refine blk_drew ?_ | refine blk_alloc ?_ _)); refine blk_put (cs := #[.int .i64 0, .int .i64 0, .int .i64 0, .int .i64 0]) ?_ 0 _ rfl; (with_reducible repeat (first | refine blk_drewN ?_ _ | refine blk_drew ?_ | refine blk_alloc ?_ _)); exact BK263.out⟩, ⟨by repeat (first | (with_reducible first | exact HB.out | apply below_alloc | apply pw_below_drewN | apply below_drew1 | refine below_set ?_ GE246.out | refine below_set ?_ GE247.out | refine below_set ?_ GE263.out) | exact HB.out)⟩⟩
         ·rw [if_neg c48] at H
          have c48b0 : decide (t261 < 0) = false := decide_eq_false c48
          clear c48
          by_cases c52 : t261 > 65537
          ·rw [if_pos c52] at H
           have c52b0 : decide (65537 < t261) = true := decide_eq_true c52
           clear c52
           have H' := Aside0.mk H
           clear H; have hnb53 := NB263_246.out; have hnc53 := NB246_263.out; have hnb54 := NB263_247.out; have hnc54 := NB247_263.out
           have hcz55_0 : w27.cell? ⟨gb263, 0, none⟩ = some (.int .i64 0) := bc BK263 0
           have hcz55_1 : w27.cell? ⟨gb263, 1, none⟩ = some (.int .i64 0) := bc BK263 1
           have hcz55_2 : w27.cell? ⟨gb263, 2, none⟩ = some (.int .i64 0) := bc BK263 2
           have hcz55_3 : w27.cell? ⟨gb263, 3, none⟩ = some (.int .i64 0) := bc BK263 3
           have hfz55_0 := blk_frozen BK263.out 0; have hfz55_1 := blk_frozen BK263.out 1; have hfz55_2 := blk_frozen BK263.out 2; have hfz55_3 := blk_frozen BK263.out 3
           go_wp2
           go_meet
           case rel => exact ⟨_, (true), (by first | rfl | (simp; done) | (simp [*]; done)), H', ⟨by have := HJ2.out; first | omega | exact Nat.le_refl _⟩, ⟨by (with_reducible repeat (first | refine blk_drewN ?_ _ | refine blk_drew ?_ | refine blk_alloc ?_ _)); refine blk_far ?_ NB246_263.out _; (with_reducible repeat (first | refine blk_drewN ?_ _ | refine blk_drew ?_ | refine blk_alloc ?_ _)); refine blk_far ?_ NB246_263.out _; (with_reducible repeat (first | refine blk_drewN ?_ _ | refine blk_drew ?_ | refine blk_alloc ?_ _)); refine blk_far ?_ NB246_263.out _; (with_reducible repeat (first | refine blk_drewN ?_ _ | refine blk_drew ?_ | refine blk_alloc ?_ _)); refine blk_far ?_ NB246_263.out _; (with_reducible repeat (first | refine blk_drewN ?_ _ | refine blk_drew ?_ | refine blk_alloc ?_ _)); exact BK246.out⟩, ⟨by (with_reducible repeat (first | refine blk_drewN ?_ _ | refine blk_drew ?_ | refine blk_alloc ?_ _)); refine blk_far ?_ NB247_263.out _; (with_reducible repeat (first | refine blk_drewN ?_ _ | refine blk_drew ?_ | refine blk_alloc ?_ _)); refine blk_far ?_ NB247_263.out _; (with_reducible repeat (first | refine blk_drewN ?_ _ | refine blk_drew ?_ | refine blk_alloc ?_ _)); refine blk_far ?_ NB247_263.out _; (with_reducible repeat (first | refine blk_drewN ?_ _ | refine blk_drew ?_ | refine blk_alloc ?_ _)); refine blk_far ?_ NB247_263.out _; (with_reducible repeat (first | refine blk_drewN ?_ _ | refine blk_drew ?_ | refine blk_alloc ?_ _)); exact BK247.out⟩, ⟨by (with_reducible repeat (first | refine blk_drewN ?_ _ | refine blk_drew ?_ | refine blk_alloc ?_ _)); refine blk_put (cs := #[.int .i64 t259, .int .i64 t260, .int .i64 t261, .int .i64 0]) ?_ 3 _ rfl; (with_reducible repeat (first | refine blk_drewN ?_ _ | refine blk_drew ?_ | refine blk_alloc ?_ _)); refine blk_put (cs := #[.int .i64 t259, .int .i64 t260, .int .i64 0, .int .i64 0]) ?_ 2 _ rfl; (with_reducible repeat (first | refine blk_drewN ?_ _ | refine blk_drew ?_ | refine blk_alloc ?_ _)); refine blk_put (cs := #[.int .i64 t259, .int .i64 0, .int .i64 0, .int .i64 0]) ?_ 1 _ rfl; (with_reducible repeat (first | refine blk_drewN ?_ _ | refine blk_drew ?_ | refine blk_alloc ?_ _)); refine blk_put (cs := #[.int .i64 0, .int .i64 0, .int .i64 0, .int .i64 0]) ?_ 0 _ rfl; (with_reducible repeat (first | refine blk_drewN ?_ _ | refine blk_drew ?_ | refine blk_alloc ?_ _)); exact BK263.out⟩, ⟨by repeat (first | (with_reducible first | exact HB.out | apply below_alloc | apply pw_below_drewN | apply below_drew1 | refine below_set ?_ GE246.out | refine below_set ?_ GE247.out | refine below_set ?_ GE263.out) | exact HB.out)⟩⟩
          ·rw [if_neg c52] at H
           have c52b0 : decide (65537 < t261) = false := decide_eq_false c52
           clear c52
           have H' := Aside0.mk H
           clear H; have hnb56 := NB263_246.out; have hnc56 := NB246_263.out; have hnb57 := NB263_247.out; have hnc57 := NB247_263.out
           have hcz58_0 : w27.cell? ⟨gb263, 0, none⟩ = some (.int .i64 0) := bc BK263 0
           have hcz58_1 : w27.cell? ⟨gb263, 1, none⟩ = some (.int .i64 0) := bc BK263 1
           have hcz58_2 : w27.cell? ⟨gb263, 2, none⟩ = some (.int .i64 0) := bc BK263 2
           have hcz58_3 : w27.cell? ⟨gb263, 3, none⟩ = some (.int .i64 0) := bc BK263 3
           have hfz58_0 := blk_frozen BK263.out 0; have hfz58_1 := blk_frozen BK263.out 1; have hfz58_2 := blk_frozen BK263.out 2; have hfz58_3 := blk_frozen BK263.out 3; have hnb59 := NB246_247.out; have hnc59 := NB247_246.out
           have hcz60_0 : w27.cell? ⟨gb246, 0, none⟩ = some (.int .i64 a0_0) := bc BK246 0
           have hcz60_1 : w27.cell? ⟨gb246, 1, none⟩ = some (.int .i64 a0_1) := bc BK246 1
           have hcz60_2 : w27.cell? ⟨gb246, 2, none⟩ = some (.int .i64 a0_2) := bc BK246 2
           have hcz60_3 : w27.cell? ⟨gb246, 3, none⟩ = some (.int .i64 a0_3) := bc BK246 3
           have hfz60_0 := blk_frozen BK246.out 0; have hfz60_1 := blk_frozen BK246.out 1; have hfz60_2 := blk_frozen BK246.out 2; have hfz60_3 := blk_frozen BK246.out 3
           go_wp2
           go_meet
           case rel => exact ⟨_, ((t262 != a0_3)), (by first | rfl | (simp; done) | (simp [*]; done)), H', ⟨by have := HJ2.out; first | omega | exact Nat.le_refl _⟩, ⟨by (with_reducible repeat (first | refine blk_drewN ?_ _ | refine blk_drew ?_ | refine blk_alloc ?_ _)); refine blk_far ?_ NB246_263.out _; (with_reducible repeat (first | refine blk_drewN ?_ _ | refine blk_drew ?_ | refine blk_alloc ?_ _)); refine blk_far ?_ NB246_263.out _; (with_reducible repeat (first | refine blk_drewN ?_ _ | refine blk_drew ?_ | refine blk_alloc ?_ _)); refine blk_far ?_ NB246_263.out _; (with_reducible repeat (first | refine blk_drewN ?_ _ | refine blk_drew ?_ | refine blk_alloc ?_ _)); refine blk_far ?_ NB246_263.out _; (with_reducible repeat (first | refine blk_drewN ?_ _ | refine blk_drew ?_ | refine blk_alloc ?_ _)); exact BK246.out⟩, ⟨by (with_reducible repeat (first | refine blk_drewN ?_ _ | refine blk_drew ?_ | refine blk_alloc ?_ _)); refine blk_far ?_ NB247_263.out _; (with_reducible repeat (first | refine blk_drewN ?_ _ | refine blk_drew ?_ | refine blk_alloc ?_ _)); refine blk_far ?_ NB247_263.out _; (with_reducible repeat (first | refine blk_drewN ?_ _ | refine blk_drew ?_ | refine blk_alloc ?_ _)); refine blk_far ?_ NB247_263.out _; (with_reducible repeat (first | refine blk_drewN ?_ _ | refine blk_drew ?_ | refine blk_alloc ?_ _)); refine blk_far ?_ NB247_263.out _; (with_reducible repeat (first | refine blk_drewN ?_ _ | refine blk_drew ?_ | refine blk_alloc ?_ _)); exact BK247.out⟩, ⟨by (with_reducible repeat (first | refine blk_drewN ?_ _ | refine blk_drew ?_ | refine blk_alloc ?_ _)); refine blk_put (cs := #[.int .i64 t259, .int .i64 t260, .int .i64 t261, .int .i64 0]) ?_ 3 _ rfl; (with_reducible repeat (first | refine blk_drewN ?_ _ | refine blk_drew ?_ | refine blk_alloc ?_ _)); refine blk_put (cs := #[.int .i64 t259, .int .i64 t260, .int .i64 0, .int .i64 0]) ?_ 2 _ rfl; (with_reducible repeat (first | refine blk_drewN ?_ _ | refine blk_drew ?_ | refine blk_alloc ?_ _)); refine blk_put (cs := #[.int .i64 t259, .int .i64 0, .int .i64 0, .int .i64 0]) ?_ 1 _ rfl; (with_reducible repeat (first | refine blk_drewN ?_ _ | refine blk_drew ?_ | refine blk_alloc ?_ _)); refine blk_put (cs := #[.int .i64 0, .int .i64 0, .int .i64 0, .int .i64 0]) ?_ 0 _ rfl; (with_reducible repeat (first | refine blk_drewN ?_ _ | refine blk_drew ?_ | refine blk_alloc ?_ _)); exact BK263.out⟩, ⟨by repeat (first | (with_reducible first | exact HB.out | apply below_alloc | apply pw_below_drewN | apply below_drew1 | refine below_set ?_ GE246.out | refine below_set ?_ GE247.out | refine below_set ?_ GE263.out) | exact HB.out)⟩⟩
    case rest =>
     clear HC22
     try clear c1
     try clear p2
     try clear c3
     try clear c4
     try clear c5
     try clear c6
     try clear c7
     try clear c9
     try clear c11
     try clear c14
     try clear c15
     try clear c16
     try clear c17
     try clear c32
     try clear c32b0
     try clear c33
     try clear c34
     try clear c36
     try clear c36b0
     try clear c37
     try clear c38
     try clear c40
     try clear c40b0
     try clear c41
     try clear c42
     try clear c44
     try clear c44b0
     try clear c45
     try clear c46
     try clear c48
     try clear c48b0
     try clear c49
     try clear c50
     try clear c52
     try clear c52b0
     try clear c53
     try clear c54
     try clear c56
     try clear c57
     try clear c59
     try clear hcz10_0
     try clear hcz10_1
     try clear hcz10_2
     try clear hcz10_3
     try clear hcz12_0
     try clear hcz12_1
     try clear hcz12_2
     try clear hcz12_3
     try clear hcz15_0
     try clear hcz15_1
     try clear hcz15_2
     try clear hcz15_3
     try clear hcz35_0
     try clear hcz35_1
     try clear hcz35_2
     try clear hcz35_3
     try clear hcz39_0
     try clear hcz39_1
     try clear hcz39_2
     try clear hcz39_3
     try clear hcz43_0
     try clear hcz43_1
     try clear hcz43_2
     try clear hcz43_3
     try clear hcz47_0
     try clear hcz47_1
     try clear hcz47_2
     try clear hcz47_3
     try clear hcz51_0
     try clear hcz51_1
     try clear hcz51_2
     try clear hcz51_3
     try clear hcz55_0
     try clear hcz55_1
     try clear hcz55_2
     try clear hcz55_3
     try clear hcz58_0
     try clear hcz58_1
     try clear hcz58_2
     try clear hcz58_3
     try clear hcz60_0
     try clear hcz60_1
     try clear hcz60_2
     try clear hcz60_3
     try clear hfz10_0
     try clear hfz10_1
     try clear hfz10_2
     try clear hfz10_3
     try clear hfz12_0
     try clear hfz12_1
     try clear hfz12_2
     try clear hfz12_3
     try clear hfz15_0
     try clear hfz15_1
     try clear hfz15_2
     try clear hfz15_3
     try clear hfz35_0
     try clear hfz35_1
     try clear hfz35_2
     try clear hfz35_3
     try clear hfz39_0
     try clear hfz39_1
     try clear hfz39_2
     try clear hfz39_3
     try clear hfz43_0
     try clear hfz43_1
     try clear hfz43_2
     try clear hfz43_3
     try clear hfz47_0
     try clear hfz47_1
     try clear hfz47_2
     try clear hfz47_3
     try clear hfz51_0
     try clear hfz51_1
     try clear hfz51_2
     try clear hfz51_3
     try clear hfz55_0
     try clear hfz55_1
     try clear hfz55_2
     try clear hfz55_3
     try clear hfz58_0
     try clear hfz58_1
     try clear hfz58_2
     try clear hfz58_3
     try clear hfz60_0
     try clear hfz60_1
     try clear hfz60_2
     try clear hfz60_3
     try clear p2
     obtain ⟨kq, x55_21, rfl, HA, HJ21, BK246, BK247, BK263, HB⟩ := hcut
     cases kq with
     | zero => exact absurd HA.out (by simp [frustumlaw40_BlendOver.j1])
     | succ kj21 =>
      have H := HA.out; clear HA
      simp only [frustumlaw40_BlendOver.j1] at H
      by_cases c61 : x55_21 = true
      ·subst c61
       have H1 : (some false) = some r := by rw [if_pos rfl] at H; exact H
       clear H; have H := H1; clear H1
       obtain rfl := Option.some.inj H
       go_wp2
       go_ret
       exact ⟨by first | rfl | (simp [errW_none, errW_some] <;> rfl) | (simp [*, errW_none, errW_some] <;> rfl), by repeat (first | (with_reducible first | exact HB.out | apply below_alloc | apply pw_below_drewN | apply below_drew1 | refine below_set ?_ GE246.out | refine below_set ?_ GE247.out | refine below_set ?_ GE263.out) | exact HB.out)⟩
      ·replace c61 := Bool.eq_false_iff.mpr c61
       subst c61
       have H1 : ((frustumlaw40_over.f).bind fun bt266 => ((blend_Blend.f kj21 bt266.1 bt266.2.1 bt266.2.2.1 bt266.2.2.2.1 bt266.2.2.2.2.1 bt266.2.2.2.2.2.1 bt266.2.2.2.2.2.2.1 bt266.2.2.2.2.2.2.2 a0_0 a0_1 a0_2 65536 a1_0 a1_1 a1_2 a1_3).bind fun bt274 => (if (bt274.1 == a0_0 && (bt274.2.1 == a0_1 && (bt274.2.2.1 == a0_2 && (bt274.2.2.2 == 65536)))) = true then ((frustumlaw40_over.f).bind fun bt278 => ((blend_Blend.f kj21 bt278.1 bt278.2.1 bt278.2.2.1 bt278.2.2.2.1 bt278.2.2.2.2.1 bt278.2.2.2.2.2.1 bt278.2.2.2.2.2.2.1 bt278.2.2.2.2.2.2.2 a0_0 a0_1 a0_2 0 a1_0 a1_1 a1_2 a1_3).bind fun bt286 => (if (bt286.1 == a1_0 && (bt286.2.1 == a1_1 && (bt286.2.2.1 == a1_2 && (bt286.2.2.2 == 0)))) = true then ((frustumlaw40_example.f kj21).bind fun t290 => (some t290)) else (some false)))) else (some false)))) = some r := by rw [if_neg (show ¬ (false = true) by decide)] at H; exact H
       clear H; have H := H1; clear H1
       replace H := Option.bind_eq_some_iff.mp H
       obtain ⟨⟨t266, t267, t268, t269, t270, t271, t272, t273⟩, A620, H⟩ := H
       replace H : ((blend_Blend.f kj21 t266 t267 t268 t269 t270 t271 t272 t273 a0_0 a0_1 a0_2 65536 a1_0 a1_1 a1_2 a1_3).bind fun bt274 => (if (bt274.1 == a0_0 && (bt274.2.1 == a0_1 && (bt274.2.2.1 == a0_2 && (bt274.2.2.2 == 65536)))) = true then ((frustumlaw40_over.f).bind fun bt278 => ((blend_Blend.f kj21 bt278.1 bt278.2.1 bt278.2.2.1 bt278.2.2.2.1 bt278.2.2.2.2.1 bt278.2.2.2.2.2.1 bt278.2.2.2.2.2.2.1 bt278.2.2.2.2.2.2.2 a0_0 a0_1 a0_2 0 a1_0 a1_1 a1_2 a1_3).bind fun bt286 => (if (bt286.1 == a1_0 && (bt286.2.1 == a1_1 && (bt286.2.2.1 == a1_2 && (bt286.2.2.2 == 0)))) = true then ((frustumlaw40_example.f kj21).bind fun t290 => (some t290)) else (some false)))) else (some false))) = some r := H
       have A62 := Aside0.mk A620; clear A620
       replace H := Option.bind_eq_some_iff.mp H
       obtain ⟨⟨t274, t275, t276, t277⟩, A630, H⟩ := H
       replace H : (if (t274 == a0_0 && (t275 == a0_1 && (t276 == a0_2 && (t277 == 65536)))) = true then ((frustumlaw40_over.f).bind fun bt278 => ((blend_Blend.f kj21 bt278.1 bt278.2.1 bt278.2.2.1 bt278.2.2.2.1 bt278.2.2.2.2.1 bt278.2.2.2.2.2.1 bt278.2.2.2.2.2.2.1 bt278.2.2.2.2.2.2.2 a0_0 a0_1 a0_2 0 a1_0 a1_1 a1_2 a1_3).bind fun bt286 => (if (bt286.1 == a1_0 && (bt286.2.1 == a1_1 && (bt286.2.2.1 == a1_2 && (bt286.2.2.2 == 0)))) = true then ((frustumlaw40_example.f kj21).bind fun t290 => (some t290)) else (some false)))) else (some false)) = some r := H
       have A63 := Aside0.mk A630; clear A630
       by_cases c64 : (t274 == a0_0 && (t275 == a0_1 && (t276 == a0_2 && (t277 == 65536)))) = true
       ·rw [if_pos c64] at H
        have c64b0 : (t274 == a0_0 && (t275 == a0_1 && (t276 == a0_2 && (t277 == 65536)))) = true := c64
        (try (have c64b1 : decide (t274 = a0_0 && (t275 == a0_1 && (t276 == a0_2 && (t277 == 65536)))) = true := by simpa using c64))
        (try (have c64b2 : (t274 == a0_0 && (t275 == a0_1 && (t276 == a0_2 && (t277 == 65536)))) = true := by simpa using c64))
        clear c64
        replace H := Option.bind_eq_some_iff.mp H
        obtain ⟨⟨t278, t279, t280, t281, t282, t283, t284, t285⟩, A650, H⟩ := H
        replace H : ((blend_Blend.f kj21 t278 t279 t280 t281 t282 t283 t284 t285 a0_0 a0_1 a0_2 0 a1_0 a1_1 a1_2 a1_3).bind fun bt286 => (if (bt286.1 == a1_0 && (bt286.2.1 == a1_1 && (bt286.2.2.1 == a1_2 && (bt286.2.2.2 == 0)))) = true then ((frustumlaw40_example.f kj21).bind fun t290 => (some t290)) else (some false))) = some r := H
        have A65 := Aside0.mk A650; clear A650
        replace H := Option.bind_eq_some_iff.mp H
        obtain ⟨⟨t286, t287, t288, t289⟩, A660, H⟩ := H
        replace H : (if (t286 == a1_0 && (t287 == a1_1 && (t288 == a1_2 && (t289 == 0)))) = true then ((frustumlaw40_example.f kj21).bind fun t290 => (some t290)) else (some false)) = some r := H
        have A66 := Aside0.mk A660; clear A660
        by_cases c67 : (t286 == a1_0 && (t287 == a1_1 && (t288 == a1_2 && (t289 == 0)))) = true
        ·rw [if_pos c67] at H
         have c67b0 : (t286 == a1_0 && (t287 == a1_1 && (t288 == a1_2 && (t289 == 0)))) = true := c67
         (try (have c67b1 : decide (t286 = a1_0 && (t287 == a1_1 && (t288 == a1_2 && (t289 == 0)))) = true := by simpa using c67))
         (try (have c67b2 : (t286 == a1_0 && (t287 == a1_1 && (t288 == a1_2 && (t289 == 0)))) = true := by simpa using c67))
         clear c67
         replace H := Option.bind_eq_some_iff.mp H
         obtain ⟨t290, A680, H⟩ := H
         replace H : (some t290) = some r := H
         have A68 := Aside0.mk A680; clear A680
         obtain rfl := Option.some.inj H
         try go_wp2
         replace BK246 := Aside0.mk (blk_drew BK246.out); replace BK247 := Aside0.mk (blk_drew BK247.out); replace BK263 := Aside0.mk (blk_drew BK263.out); replace HB := Aside0.mk (below_drew1 HB.out)
         refine start_ (n := 6) (S := fun w' => w'.cell? ⟨gb246, 0, none⟩ = some (.int .i64 a0_0) ∧ w'.cell? ⟨gb246, 1, none⟩ = some (.int .i64 a0_1) ∧ w'.cell? ⟨gb246, 2, none⟩ = some (.int .i64 a0_2) ∧ w'.cell? ⟨gb246, 3, none⟩ = some (.int .i64 a0_3)) (ds := []) #[false, false, false, false, false, false] (by kernel_rfl) rfl rfl ⟨bc BK246 0, bc BK246 1, bc BK246 2, bc BK246 3⟩ (fun hHeld => ?_)
         generalize wc.drew = w69 at BK246 BK247 BK263 HB hHeld ⊢
         refine take_ (i := 0) (N := some 56) (v := ?_) (a' := ?_) #[true, false, false, false, false, false] rfl rfl (by kernel_rfl) (fun _ _ _ h => h) (Or.inl ⟨by rfl, ?_⟩) hHeld ?_ ?_
         rotate_left
         ·rintro w' ⟨s0, s1, s2, s3⟩
          go_simp
          with_reducible rfl
         rotate_left
         ·simp only [Act.put, List.setIfInBounds_toArray, List.set_cons_zero, List.set_cons_succ, i64_w, i32_w]
          rfl
         refine take_ (i := 1) (N := some 57) (v := ?_) (a' := ?_) #[true, true, false, false, false, false] rfl rfl (by kernel_rfl) (fun _ _ _ h => h) (Or.inl ⟨by rfl, ?_⟩) hHeld ?_ ?_
         rotate_left
         ·rintro w' ⟨s0, s1, s2, s3⟩
          go_simp
          with_reducible rfl
         rotate_left
         ·simp only [Act.put, List.setIfInBounds_toArray, List.set_cons_zero, List.set_cons_succ, i64_w, i32_w]
          rfl
         refine join_ (σ := Nat × Nat) 2 #[true, true, true, true, false, false] (fun s_ => [(6, .pointer (some ⟨s_.1, 0, none⟩)), (7, .pointer (some ⟨s_.2, 0, none⟩))]) (fun s_ w' => (w'.cell? ⟨gb246, 0, none⟩ = some (.int .i64 a0_0) ∧ w'.cell? ⟨gb246, 1, none⟩ = some (.int .i64 a0_1) ∧ w'.cell? ⟨gb246, 2, none⟩ = some (.int .i64 a0_2) ∧ w'.cell? ⟨gb246, 3, none⟩ = some (.int .i64 a0_3)) ∧ (w'.heap[gb246]? = some (.cells #[.int .i64 a0_0, .int .i64 a0_1, .int .i64 a0_2, .int .i64 a0_3] 27 (0, 0))) ∧ (w'.heap[gb247]? = some (.cells #[.int .i64 a1_0, .int .i64 a1_1, .int .i64 a1_2, .int .i64 a1_3] 27 (0, 0))) ∧ (w'.heap[gb263]? = some (.cells #[.int .i64 t259, .int .i64 t260, .int .i64 t261, .int .i64 t262] 27 (0, 0))) ∧ (w'.heap[s_.1]? = some (.cells #[.int .i64 0, .int .i64 0, .int .i64 0, .int .i64 0] 27 (0, 0))) ∧ (w'.heap[s_.2]? = some (.cells #[.int .i64 0, .int .i64 0, .int .i64 0, .int .i64 0] 27 (0, 0))) ∧ (w.heap.size ≤ s_.1) ∧ (w.heap.size ≤ s_.1) ∧ (gb246 ≠ s_.1) ∧ (s_.1 ≠ gb246) ∧ (gb247 ≠ s_.1) ∧ (s_.1 ≠ gb247) ∧ (gb263 ≠ s_.1) ∧ (s_.1 ≠ gb263) ∧ (s_.2 ≠ s_.1) ∧ (s_.1 ≠ s_.2) ∧ (w.heap.size ≤ s_.2) ∧ (w.heap.size ≤ s_.2) ∧ (gb246 ≠ s_.2) ∧ (s_.2 ≠ gb246) ∧ (gb247 ≠ s_.2) ∧ (s_.2 ≠ gb247) ∧ (gb263 ≠ s_.2) ∧ (s_.2 ≠ gb263) ∧ (Below w.heap.size w w')) ?_ ?_
         rotate_left
         ·intro hCont
          refine two_ (i := 2) (j := 3) (Ni := some 6) (Nj := some 7) #[true, true, true, false, false, false] #[true, true, false, true, false, false] rfl rfl rfl rfl (by kernel_rfl) (by decide) (by decide) (fun K hK => ?_) (fun K hK => ?_)
          ·skip
           refine box_step ?hg (N := 6) ?hd (cs := #[.int .i64 0, .int .i64 0, .int .i64 0, .int .i64 0]) (t := 27) ?hr ?_; (case hd => rfl); (case hg => rfl); (case hr => first | (go_simp; done) | (go_simp; rfl))
           intro gb264 hg w70 hbox hb
           have BK264 := Aside0.mk (hbox); have GW264 := ws HB hg; have GE264 := ws HB hg; have NB246_264 := nl BK246 hg; have NB264_246 := ng BK246 hg; have NB247_264 := nl BK247 hg; have NB264_247 := ng BK247 hg; have NB263_264 := nl BK263 hg; have NB264_263 := ng BK263 hg; replace BK246 := ub BK246 hb; replace BK247 := ub BK247 hb; replace BK263 := ub BK263 hb; replace HB := bs HB hb; clear hb hbox hg
           refine hK.out _ _ ⟨bc BK246 0, bc BK246 1, bc BK246 2, bc BK246 3⟩ (fun hHeld => ?_)
           clear hK K
           refine norm_ (a' := ?_) ?_ ?_
           rotate_left
           ·show Act.put _ (some 6) _ = _
            simp only [Act.put, List.setIfInBounds_toArray, List.set_cons_zero, List.set_cons_succ, i64_w, i32_w]
            rfl
           refine one_ (i := 3) (N := some 7) #[true, true, true, true, false, false] rfl rfl (by kernel_rfl) (by decide) (fun K hK => ?_)
           refine box_step ?hg (N := 7) ?hd (cs := #[.int .i64 0, .int .i64 0, .int .i64 0, .int .i64 0]) (t := 27) ?hr ?_; (case hd => rfl); (case hg => rfl); (case hr => first | (go_simp; done) | (go_simp; rfl))
           intro gb265 hg w71 hbox hb
           have BK265 := Aside0.mk (hbox); have GW265 := ws HB hg; have GE265 := ws HB hg; have NB246_265 := nl BK246 hg; have NB265_246 := ng BK246 hg; have NB247_265 := nl BK247 hg; have NB265_247 := ng BK247 hg; have NB263_265 := nl BK263 hg; have NB265_263 := ng BK263 hg; have NB264_265 := nl BK264 hg; have NB265_264 := ng BK264 hg; replace BK246 := ub BK246 hb; replace BK247 := ub BK247 hb; replace BK263 := ub BK263 hb; replace BK264 := ub BK264 hb; replace HB := bs HB hb; clear hb hbox hg
           refine hK.out _ _ ⟨bc BK246 0, bc BK246 1, bc BK246 2, bc BK246 3⟩ (fun hHeld => ?_)
           clear hK K
           refine norm_ (a' := ?_) ?_ ?_
           rotate_left
           ·show Act.put _ (some 7) _ = _
            simp only [Act.put, List.setIfInBounds_toArray, List.set_cons_zero, List.set_cons_succ, i64_w, i32_w]
            rfl
           exact norm_ (by simp only [putAll, Act.put, List.setIfInBounds_toArray, List.set_cons_zero, List.set_cons_succ]) (hCont (gb264, gb265) _ ⟨hHeld, BK246.out, BK247.out, BK263.out, BK264.out, BK265.out, GW264.out, GE264.out, NB246_264.out, NB264_246.out, NB247_264.out, NB264_247.out, NB263_264.out, NB264_263.out, NB265_264.out, NB264_265.out, GW265.out, GE265.out, NB246_265.out, NB265_246.out, NB247_265.out, NB265_247.out, NB263_265.out, NB265_263.out, (by repeat (first | (with_reducible first | exact HB.out | apply below_alloc | apply pw_below_drewN | apply below_drew1 | refine below_setA ?_ (by assumption)) | exact HB.out))⟩)
          ·skip
           refine box_step ?hg (N := 7) ?hd (cs := #[.int .i64 0, .int .i64 0, .int .i64 0, .int .i64 0]) (t := 27) ?hr ?_; (case hd => rfl); (case hg => rfl); (case hr => first | (go_simp; done) | (go_simp; rfl))
           intro gb265 hg w70 hbox hb
           have BK265 := Aside0.mk (hbox); have GW265 := ws HB hg; have GE265 := ws HB hg; have NB246_265 := nl BK246 hg; have NB265_246 := ng BK246 hg; have NB247_265 := nl BK247 hg; have NB265_247 := ng BK247 hg; have NB263_265 := nl BK263 hg; have NB265_263 := ng BK263 hg; replace BK246 := ub BK246 hb; replace BK247 := ub BK247 hb; replace BK263 := ub BK263 hb; replace HB := bs HB hb; clear hb hbox hg
           refine hK.out _ _ ⟨bc BK246 0, bc BK246 1, bc BK246 2, bc BK246 3⟩ (fun hHeld => ?_)
           clear hK K
           refine norm_ (a' := ?_) ?_ ?_
           rotate_left
           ·show Act.put _ (some 7) _ = _
            simp only [Act.put, List.setIfInBounds_toArray, List.set_cons_zero, List.set_cons_succ, i64_w, i32_w]
            rfl
           refine one_ (i := 2) (N := some 6) #[true, true, true, true, false, false] rfl rfl (by kernel_rfl) (by decide) (fun K hK => ?_)
           refine box_step ?hg (N := 6) ?hd (cs := #[.int .i64 0, .int .i64 0, .int .i64 0, .int .i64 0]) (t := 27) ?hr ?_; (case hd => rfl); (case hg => rfl); (case hr => first | (go_simp; done) | (go_simp; rfl))
           intro gb264 hg w71 hbox hb
           have BK264 := Aside0.mk (hbox); have GW264 := ws HB hg; have GE264 := ws HB hg; have NB246_264 := nl BK246 hg; have NB264_246 := ng BK246 hg; have NB247_264 := nl BK247 hg; have NB264_247 := ng BK247 hg; have NB263_264 := nl BK263 hg; have NB264_263 := ng BK263 hg; have NB265_264 := nl BK265 hg; have NB264_265 := ng BK265 hg; replace BK246 := ub BK246 hb; replace BK247 := ub BK247 hb; replace BK263 := ub BK263 hb; replace BK265 := ub BK265 hb; replace HB := bs HB hb; clear hb hbox hg
           refine hK.out _ _ ⟨bc BK246 0, bc BK246 1, bc BK246 2, bc BK246 3⟩ (fun hHeld => ?_)
           clear hK K
           refine norm_ (a' := ?_) ?_ ?_
           rotate_left
           ·show Act.put _ (some 6) _ = _
            simp only [Act.put, List.setIfInBounds_toArray, List.set_cons_zero, List.set_cons_succ, i64_w, i32_w]
            rfl
           exact norm_ (by simp only [putAll, Act.put, List.setIfInBounds_toArray, List.set_cons_zero, List.set_cons_succ]) (hCont (gb264, gb265) _ ⟨hHeld, BK246.out, BK247.out, BK263.out, BK264.out, BK265.out, GW264.out, GE264.out, NB246_264.out, NB264_246.out, NB247_264.out, NB264_247.out, NB263_264.out, NB264_263.out, NB265_264.out, NB264_265.out, GW265.out, GE265.out, NB246_265.out, NB265_246.out, NB247_265.out, NB265_247.out, NB263_265.out, NB265_263.out, (by repeat (first | (with_reducible first | exact HB.out | apply below_alloc | apply pw_below_drewN | apply below_drew1 | refine below_setA ?_ (by assumption)) | exact HB.out))⟩)
         rintro ⟨gb264, gb265⟩ w72 ⟨hS_, h0_, h1_, h2_, h3_, h4_, h5_, h6_, h7_, h8_, h9_, h10_, h11_, h12_, h13_, h14_, h15_, h16_, h17_, h18_, h19_, h20_, h21_, h22_, h23_⟩; have BK264 := Aside0.mk h3_; have BK265 := Aside0.mk h4_; have GW264 := Aside0.mk h5_; have GE264 := Aside0.mk h6_; have NB246_264 := Aside0.mk h7_; have NB264_246 := Aside0.mk h8_; have NB247_264 := Aside0.mk h9_; have NB264_247 := Aside0.mk h10_; have NB263_264 := Aside0.mk h11_; have NB264_263 := Aside0.mk h12_; have NB265_264 := Aside0.mk h13_; have NB264_265 := Aside0.mk h14_; have GW265 := Aside0.mk h15_; have GE265 := Aside0.mk h16_; have NB246_265 := Aside0.mk h17_; have NB265_246 := Aside0.mk h18_; have NB247_265 := Aside0.mk h19_; have NB265_247 := Aside0.mk h20_; have NB263_265 := Aside0.mk h21_; have NB265_263 := Aside0.mk h22_; replace BK246 := Aside0.mk h0_; replace BK247 := Aside0.mk h1_; replace BK263 := Aside0.mk h2_; replace HB := Aside0.mk h23_; clear h0_ h1_ h2_ h3_ h4_ h5_ h6_ h7_ h8_ h9_ h10_ h11_ h12_ h13_ h14_ h15_ h16_ h17_ h18_ h19_ h20_ h21_ h22_ h23_; have hHeld := hS_
         refine norm_ (a' := ?_) ?_ ?_
         rotate_left
         ·simp only [putAll, Act.put, List.setIfInBounds_toArray, List.set_cons_zero, List.set_cons_succ]
          rfl
         refine one_ (i := 4) (N := none) #[true, true, true, true, true, false] rfl rfl (by kernel_rfl) (by decide) (fun K hK => ?_)
         have hs73 : w72.cell? ⟨gb264, 0, none⟩ = some (.int .i64 0) := bc BK264 0
         have hfs73 := blk_frozen BK264.out 0; have hns73_0 := NB246_264.out; have hns73_1 := NB247_264.out; have hns73_2 := NB263_264.out; have hns73_4 := NB265_264.out; have hms73_0 := NB264_246.out; have hms73_1 := NB264_247.out; have hms73_2 := NB264_263.out; have hms73_4 := NB264_265.out
         have hs74 : w72.cell? ⟨gb264, 1, none⟩ = some (.int .i64 0) := bc BK264 1
         have hfs74 := blk_frozen BK264.out 1; have hns74_0 := NB246_264.out; have hns74_1 := NB247_264.out; have hns74_2 := NB263_264.out; have hns74_4 := NB265_264.out; have hms74_0 := NB264_246.out; have hms74_1 := NB264_247.out; have hms74_2 := NB264_263.out; have hms74_4 := NB264_265.out
         have hs75 : w72.cell? ⟨gb264, 2, none⟩ = some (.int .i64 0) := bc BK264 2
         have hfs75 := blk_frozen BK264.out 2; have hns75_0 := NB246_264.out; have hns75_1 := NB247_264.out; have hns75_2 := NB263_264.out; have hns75_4 := NB265_264.out; have hms75_0 := NB264_246.out; have hms75_1 := NB264_247.out; have hms75_2 := NB264_263.out; have hms75_4 := NB264_265.out
         have hs76 : w72.cell? ⟨gb264, 3, none⟩ = some (.int .i64 0) := bc BK264 3
         have hfs76 := blk_frozen BK264.out 3; have hns76_0 := NB246_264.out; have hns76_1 := NB247_264.out; have hns76_2 := NB263_264.out; have hns76_4 := NB265_264.out; have hms76_0 := NB264_246.out; have hms76_1 := NB264_247.out; have hms76_2 := NB264_263.out; have hms76_4 := NB264_265.out
         refine skip_ (w1 := ?_) (by rfl) rfl ?_ ?_
         rotate_left
         ·go_simp
          rfl
         refine hK.out _ _ ⟨(cf NB246_264 ((cf NB246_264 ((cf NB246_264 ((cf NB246_264 (hHeld.1)))))))), (cf NB246_264 ((cf NB246_264 ((cf NB246_264 ((cf NB246_264 (hHeld.2.1)))))))), (cf NB246_264 ((cf NB246_264 ((cf NB246_264 ((cf NB246_264 (hHeld.2.2.1)))))))), (cf NB246_264 ((cf NB246_264 ((cf NB246_264 ((cf NB246_264 (hHeld.2.2.2))))))))⟩ (fun hHeld => ?_)
         clear hK K
         refine one_ (i := 5) (N := none) #[true, true, true, true, true, true] rfl rfl (by kernel_rfl) (by decide) (fun K hK => ?_)
         have hs77 : w72.cell? ⟨gb265, 0, none⟩ = some (.int .i64 0) := bc BK265 0
         have hfs77 := blk_frozen BK265.out 0; have hns77_0 := NB246_265.out; have hns77_1 := NB247_265.out; have hns77_2 := NB263_265.out; have hns77_3 := NB264_265.out; have hms77_0 := NB265_246.out; have hms77_1 := NB265_247.out; have hms77_2 := NB265_263.out; have hms77_3 := NB265_264.out
         have hs78 : w72.cell? ⟨gb265, 1, none⟩ = some (.int .i64 0) := bc BK265 1
         have hfs78 := blk_frozen BK265.out 1; have hns78_0 := NB246_265.out; have hns78_1 := NB247_265.out; have hns78_2 := NB263_265.out; have hns78_3 := NB264_265.out; have hms78_0 := NB265_246.out; have hms78_1 := NB265_247.out; have hms78_2 := NB265_263.out; have hms78_3 := NB265_264.out
         have hs79 : w72.cell? ⟨gb265, 2, none⟩ = some (.int .i64 0) := bc BK265 2
         have hfs79 := blk_frozen BK265.out 2; have hns79_0 := NB246_265.out; have hns79_1 := NB247_265.out; have hns79_2 := NB263_265.out; have hns79_3 := NB264_265.out; have hms79_0 := NB265_246.out; have hms79_1 := NB265_247.out; have hms79_2 := NB265_263.out; have hms79_3 := NB265_264.out
         have hs80 : w72.cell? ⟨gb265, 3, none⟩ = some (.int .i64 0) := bc BK265 3
         have hfs80 := blk_frozen BK265.out 3; have hns80_0 := NB246_265.out; have hns80_1 := NB247_265.out; have hns80_2 := NB263_265.out; have hns80_3 := NB264_265.out; have hms80_0 := NB265_246.out; have hms80_1 := NB265_247.out; have hms80_2 := NB265_263.out; have hms80_3 := NB265_264.out
         refine skip_ (w1 := ?_) (by rfl) rfl ?_ ?_
         rotate_left
         ·go_simp
          rfl
         refine hK.out _ _ ⟨(cf NB246_265 ((cf NB246_265 ((cf NB246_265 ((cf NB246_265 (hHeld.1)))))))), (cf NB246_265 ((cf NB246_265 ((cf NB246_265 ((cf NB246_265 (hHeld.2.1)))))))), (cf NB246_265 ((cf NB246_265 ((cf NB246_265 ((cf NB246_265 (hHeld.2.2.1)))))))), (cf NB246_265 ((cf NB246_265 ((cf NB246_265 ((cf NB246_265 (hHeld.2.2.2))))))))⟩ (fun hHeld => ?_)
         clear hK K
         refine done_ (by kernel_rfl) ?_
         have hnb81 := NB264_246.out; have hnc81 := NB246_264.out; have hnb82 := NB264_247.out; have hnc82 := NB247_264.out; have hnb83 := NB264_263.out; have hnc83 := NB263_264.out; have hnb84 := NB264_265.out; have hnc84 := NB265_264.out
         have hcz85_0 : w72.cell? ⟨gb264, 0, none⟩ = some (.int .i64 0) := bc BK264 0
         have hcz85_1 : w72.cell? ⟨gb264, 1, none⟩ = some (.int .i64 0) := bc BK264 1
         have hcz85_2 : w72.cell? ⟨gb264, 2, none⟩ = some (.int .i64 0) := bc BK264 2
         have hcz85_3 : w72.cell? ⟨gb264, 3, none⟩ = some (.int .i64 0) := bc BK264 3
         have hfz85_0 := blk_frozen BK264.out 0; have hfz85_1 := blk_frozen BK264.out 1; have hfz85_2 := blk_frozen BK264.out 2; have hfz85_3 := blk_frozen BK264.out 3; have hnb86 := NB265_246.out; have hnc86 := NB246_265.out; have hnb87 := NB265_247.out; have hnc87 := NB247_265.out; have hnb88 := NB265_263.out; have hnc88 := NB263_265.out
         have hcz89_0 : w72.cell? ⟨gb265, 0, none⟩ = some (.int .i64 0) := bc BK265 0
         have hcz89_1 : w72.cell? ⟨gb265, 1, none⟩ = some (.int .i64 0) := bc BK265 1
         have hcz89_2 : w72.cell? ⟨gb265, 2, none⟩ = some (.int .i64 0) := bc BK265 2
         have hcz89_3 : w72.cell? ⟨gb265, 3, none⟩ = some (.int .i64 0) := bc BK265 3
         have hfz89_0 := blk_frozen BK265.out 0; have hfz89_1 := blk_frozen BK265.out 1; have hfz89_2 := blk_frozen BK265.out 2; have hfz89_3 := blk_frozen BK265.out 3
         try go_wp2
         have n0_ : Aside0 (((((((((((w72.setCell ⟨gb264, 0, none⟩ (.int .i64 a0_0)).setCell ⟨gb264, 1, none⟩ (.int .i64 a0_1)).setCell ⟨gb264, 2, none⟩ (.int .i64 a0_2)).setCell ⟨gb264, 3, none⟩ (.int .i64 a0_3)).setCell ⟨gb265, 0, none⟩ (.int .i64 a0_0)).setCell ⟨gb265, 1, none⟩ (.int .i64 a0_1)).setCell ⟨gb265, 2, none⟩ (.int .i64 a0_2)).setCell ⟨gb265, 3, none⟩ (.int .i64 a0_3)).setCell ⟨gb264, 3, none⟩ (.int .i64 65536)).setCell ⟨gb265, 3, none⟩ (.int .i64 0)).heap[gb246]? = some (.cells #[.int .i64 a0_0, .int .i64 a0_1, .int .i64 a0_2, .int .i64 a0_3] 27 (0, 0))) := ⟨by (with_reducible repeat (first | refine blk_drewN ?_ _ | refine blk_drew ?_ | refine blk_alloc ?_ _)); refine blk_far ?_ NB246_265.out _; (with_reducible repeat (first | refine blk_drewN ?_ _ | refine blk_drew ?_ | refine blk_alloc ?_ _)); refine blk_far ?_ NB246_264.out _; (with_reducible repeat (first | refine blk_drewN ?_ _ | refine blk_drew ?_ | refine blk_alloc ?_ _)); refine blk_far ?_ NB246_265.out _; (with_reducible repeat (first | refine blk_drewN ?_ _ | refine blk_drew ?_ | refine blk_alloc ?_ _)); refine blk_far ?_ NB246_265.out _; (with_reducible repeat (first | refine blk_drewN ?_ _ | refine blk_drew ?_ | refine blk_alloc ?_ _)); refine blk_far ?_ NB246_265.out _; (with_reducible repeat (first | refine blk_drewN ?_ _ | refine blk_drew ?_ | refine blk_alloc ?_ _)); refine blk_far ?_ NB246_265.out _; (with_reducible repeat (first | refine blk_drewN ?_ _ | refine blk_drew ?_ | refine blk_alloc ?_ _)); refine blk_far ?_ NB246_264.out _; (with_reducible repeat (first | refine blk_drewN ?_ _ | refine blk_drew ?_ | refine blk_alloc ?_ _)); refine blk_far ?_ NB246_264.out _; (with_reducible repeat (first | refine blk_drewN ?_ _ | refine blk_drew ?_ | refine blk_alloc ?_ _)); refine blk_far ?_ NB246_264.out _; (with_reducible repeat (first | refine blk_drewN ?_ _ | refine blk_drew ?_ | refine blk_alloc ?_ _)); refine blk_far ?_ NB246_264.out _; (with_reducible repeat (first | refine blk_drewN ?_ _ | refine blk_drew ?_ | refine blk_alloc ?_ _)); exact BK246.out⟩
         have n1_ : Aside0 (((((((((((w72.setCell ⟨gb264, 0, none⟩ (.int .i64 a0_0)).setCell ⟨gb264, 1, none⟩ (.int .i64 a0_1)).setCell ⟨gb264, 2, none⟩ (.int .i64 a0_2)).setCell ⟨gb264, 3, none⟩ (.int .i64 a0_3)).setCell ⟨gb265, 0, none⟩ (.int .i64 a0_0)).setCell ⟨gb265, 1, none⟩ (.int .i64 a0_1)).setCell ⟨gb265, 2, none⟩ (.int .i64 a0_2)).setCell ⟨gb265, 3, none⟩ (.int .i64 a0_3)).setCell ⟨gb264, 3, none⟩ (.int .i64 65536)).setCell ⟨gb265, 3, none⟩ (.int .i64 0)).heap[gb247]? = some (.cells #[.int .i64 a1_0, .int .i64 a1_1, .int .i64 a1_2, .int .i64 a1_3] 27 (0, 0))) := ⟨by (with_reducible repeat (first | refine blk_drewN ?_ _ | refine blk_drew ?_ | refine blk_alloc ?_ _)); refine blk_far ?_ NB247_265.out _; (with_reducible repeat (first | refine blk_drewN ?_ _ | refine blk_drew ?_ | refine blk_alloc ?_ _)); refine blk_far ?_ NB247_264.out _; (with_reducible repeat (first | refine blk_drewN ?_ _ | refine blk_drew ?_ | refine blk_alloc ?_ _)); refine blk_far ?_ NB247_265.out _; (with_reducible repeat (first | refine blk_drewN ?_ _ | refine blk_drew ?_ | refine blk_alloc ?_ _)); refine blk_far ?_ NB247_265.out _; (with_reducible repeat (first | refine blk_drewN ?_ _ | refine blk_drew ?_ | refine blk_alloc ?_ _)); refine blk_far ?_ NB247_265.out _; (with_reducible repeat (first | refine blk_drewN ?_ _ | refine blk_drew ?_ | refine blk_alloc ?_ _)); refine blk_far ?_ NB247_265.out _; (with_reducible repeat (first | refine blk_drewN ?_ _ | refine blk_drew ?_ | refine blk_alloc ?_ _)); refine blk_far ?_ NB247_264.out _; (with_reducible repeat (first | refine blk_drewN ?_ _ | refine blk_drew ?_ | refine blk_alloc ?_ _)); refine blk_far ?_ NB247_264.out _; (with_reducible repeat (first | refine blk_drewN ?_ _ | refine blk_drew ?_ | refine blk_alloc ?_ _)); refine blk_far ?_ NB247_264.out _; (with_reducible repeat (first | refine blk_drewN ?_ _ | refine blk_drew ?_ | refine blk_alloc ?_ _)); refine blk_far ?_ NB247_264.out _; (with_reducible repeat (first | refine blk_drewN ?_ _ | refine blk_drew ?_ | refine blk_alloc ?_ _)); exact BK247.out⟩
         have n2_ : Aside0 (((((((((((w72.setCell ⟨gb264, 0, none⟩ (.int .i64 a0_0)).setCell ⟨gb264, 1, none⟩ (.int .i64 a0_1)).setCell ⟨gb264, 2, none⟩ (.int .i64 a0_2)).setCell ⟨gb264, 3, none⟩ (.int .i64 a0_3)).setCell ⟨gb265, 0, none⟩ (.int .i64 a0_0)).setCell ⟨gb265, 1, none⟩ (.int .i64 a0_1)).setCell ⟨gb265, 2, none⟩ (.int .i64 a0_2)).setCell ⟨gb265, 3, none⟩ (.int .i64 a0_3)).setCell ⟨gb264, 3, none⟩ (.int .i64 65536)).setCell ⟨gb265, 3, none⟩ (.int .i64 0)).heap[gb263]? = some (.cells #[.int .i64 t259, .int .i64 t260, .int .i64 t261, .int .i64 t262] 27 (0, 0))) := ⟨by (with_reducible repeat (first | refine blk_drewN ?_ _ | refine blk_drew ?_ | refine blk_alloc ?_ _)); refine blk_far ?_ NB263_265.out _; (with_reducible repeat (first | refine blk_drewN ?_ _ | refine blk_drew ?_ | refine blk_alloc ?_ _)); refine blk_far ?_ NB263_264.out _; (with_reducible repeat (first | refine blk_drewN ?_ _ | refine blk_drew ?_ | refine blk_alloc ?_ _)); refine blk_far ?_ NB263_265.out _; (with_reducible repeat (first | refine blk_drewN ?_ _ | refine blk_drew ?_ | refine blk_alloc ?_ _)); refine blk_far ?_ NB263_265.out _; (with_reducible repeat (first | refine blk_drewN ?_ _ | refine blk_drew ?_ | refine blk_alloc ?_ _)); refine blk_far ?_ NB263_265.out _; (with_reducible repeat (first | refine blk_drewN ?_ _ | refine blk_drew ?_ | refine blk_alloc ?_ _)); refine blk_far ?_ NB263_265.out _; (with_reducible repeat (first | refine blk_drewN ?_ _ | refine blk_drew ?_ | refine blk_alloc ?_ _)); refine blk_far ?_ NB263_264.out _; (with_reducible repeat (first | refine blk_drewN ?_ _ | refine blk_drew ?_ | refine blk_alloc ?_ _)); refine blk_far ?_ NB263_264.out _; (with_reducible repeat (first | refine blk_drewN ?_ _ | refine blk_drew ?_ | refine blk_alloc ?_ _)); refine blk_far ?_ NB263_264.out _; (with_reducible repeat (first | refine blk_drewN ?_ _ | refine blk_drew ?_ | refine blk_alloc ?_ _)); refine blk_far ?_ NB263_264.out _; (with_reducible repeat (first | refine blk_drewN ?_ _ | refine blk_drew ?_ | refine blk_alloc ?_ _)); exact BK263.out⟩
         have n3_ : Aside0 (((((((((((w72.setCell ⟨gb264, 0, none⟩ (.int .i64 a0_0)).setCell ⟨gb264, 1, none⟩ (.int .i64 a0_1)).setCell ⟨gb264, 2, none⟩ (.int .i64 a0_2)).setCell ⟨gb264, 3, none⟩ (.int .i64 a0_3)).setCell ⟨gb265, 0, none⟩ (.int .i64 a0_0)).setCell ⟨gb265, 1, none⟩ (.int .i64 a0_1)).setCell ⟨gb265, 2, none⟩ (.int .i64 a0_2)).setCell ⟨gb265, 3, none⟩ (.int .i64 a0_3)).setCell ⟨gb264, 3, none⟩ (.int .i64 65536)).setCell ⟨gb265, 3, none⟩ (.int .i64 0)).heap[gb264]? = some (.cells #[.int .i64 a0_0, .int .i64 a0_1, .int .i64 a0_2, .int .i64 65536] 27 (0, 0))) := ⟨by (with_reducible repeat (first | refine blk_drewN ?_ _ | refine blk_drew ?_ | refine blk_alloc ?_ _)); refine blk_far ?_ NB264_265.out _; (with_reducible repeat (first | refine blk_drewN ?_ _ | refine blk_drew ?_ | refine blk_alloc ?_ _)); refine blk_put (cs := #[.int .i64 a0_0, .int .i64 a0_1, .int .i64 a0_2, .int .i64 a0_3]) ?_ 3 _ rfl; (with_reducible repeat (first | refine blk_drewN ?_ _ | refine blk_drew ?_ | refine blk_alloc ?_ _)); refine blk_far ?_ NB264_265.out _; (with_reducible repeat (first | refine blk_drewN ?_ _ | refine blk_drew ?_ | refine blk_alloc ?_ _)); refine blk_far ?_ NB264_265.out _; (with_reducible repeat (first | refine blk_drewN ?_ _ | refine blk_drew ?_ | refine blk_alloc ?_ _)); refine blk_far ?_ NB264_265.out _; (with_reducible repeat (first | refine blk_drewN ?_ _ | refine blk_drew ?_ | refine blk_alloc ?_ _)); refine blk_far ?_ NB264_265.out _; (with_reducible repeat (first | refine blk_drewN ?_ _ | refine blk_drew ?_ | refine blk_alloc ?_ _)); refine blk_put (cs := #[.int .i64 a0_0, .int .i64 a0_1, .int .i64 a0_2, .int .i64 0]) ?_ 3 _ rfl; (with_reducible repeat (first | refine blk_drewN ?_ _ | refine blk_drew ?_ | refine blk_alloc ?_ _)); refine blk_put (cs := #[.int .i64 a0_0, .int .i64 a0_1, .int .i64 0, .int .i64 0]) ?_ 2 _ rfl; (with_reducible repeat (first | refine blk_drewN ?_ _ | refine blk_drew ?_ | refine blk_alloc ?_ _)); refine blk_put (cs := #[.int .i64 a0_0, .int .i64 0, .int .i64 0, .int .i64 0]) ?_ 1 _ rfl; (with_reducible repeat (first | refine blk_drewN ?_ _ | refine blk_drew ?_ | refine blk_alloc ?_ _)); refine blk_put (cs := #[.int .i64 0, .int .i64 0, .int .i64 0, .int .i64 0]) ?_ 0 _ rfl; (with_reducible repeat (first | refine blk_drewN ?_ _ | refine blk_drew ?_ | refine blk_alloc ?_ _)); exact BK264.out⟩
         have n4_ : Aside0 (((((((((((w72.setCell ⟨gb264, 0, none⟩ (.int .i64 a0_0)).setCell ⟨gb264, 1, none⟩ (.int .i64 a0_1)).setCell ⟨gb264, 2, none⟩ (.int .i64 a0_2)).setCell ⟨gb264, 3, none⟩ (.int .i64 a0_3)).setCell ⟨gb265, 0, none⟩ (.int .i64 a0_0)).setCell ⟨gb265, 1, none⟩ (.int .i64 a0_1)).setCell ⟨gb265, 2, none⟩ (.int .i64 a0_2)).setCell ⟨gb265, 3, none⟩ (.int .i64 a0_3)).setCell ⟨gb264, 3, none⟩ (.int .i64 65536)).setCell ⟨gb265, 3, none⟩ (.int .i64 0)).heap[gb265]? = some (.cells #[.int .i64 a0_0, .int .i64 a0_1, .int .i64 a0_2, .int .i64 0] 27 (0, 0))) := ⟨by (with_reducible repeat (first | refine blk_drewN ?_ _ | refine blk_drew ?_ | refine blk_alloc ?_ _)); refine blk_put (cs := #[.int .i64 a0_0, .int .i64 a0_1, .int .i64 a0_2, .int .i64 a0_3]) ?_ 3 _ rfl; (with_reducible repeat (first | refine blk_drewN ?_ _ | refine blk_drew ?_ | refine blk_alloc ?_ _)); refine blk_far ?_ NB265_264.out _; (with_reducible repeat (first | refine blk_drewN ?_ _ | refine blk_drew ?_ | refine blk_alloc ?_ _)); refine blk_put (cs := #[.int .i64 a0_0, .int .i64 a0_1, .int .i64 a0_2, .int .i64 0]) ?_ 3 _ rfl; (with_reducible repeat (first | refine blk_drewN ?_ _ | refine blk_drew ?_ | refine blk_alloc ?_ _)); refine blk_put (cs := #[.int .i64 a0_0, .int .i64 a0_1, .int .i64 0, .int .i64 0]) ?_ 2 _ rfl; (with_reducible repeat (first | refine blk_drewN ?_ _ | refine blk_drew ?_ | refine blk_alloc ?_ _)); refine blk_put (cs := #[.int .i64 a0_0, .int .i64 0, .int .i64 0, .int .i64 0]) ?_ 1 _ rfl; (with_reducible repeat (first | refine blk_drewN ?_ _ | refine blk_drew ?_ | refine blk_alloc ?_ _)); refine blk_put (cs := #[.int .i64 0, .int .i64 0, .int .i64 0, .int .i64 0]) ?_ 0 _ rfl; (with_reducible repeat (first | refine blk_drewN ?_ _ | refine blk_drew ?_ | refine blk_alloc ?_ _)); refine blk_far ?_ NB265_264.out _; (with_reducible repeat (first | refine blk_drewN ?_ _ | refine blk_drew ?_ | refine blk_alloc ?_ _)); refine blk_far ?_ NB265_264.out _; (with_reducible repeat (first | refine blk_drewN ?_ _ | refine blk_drew ?_ | refine blk_alloc ?_ _)); refine blk_far ?_ NB265_264.out _; (with_reducible repeat (first | refine blk_drewN ?_ _ | refine blk_drew ?_ | refine blk_alloc ?_ _)); refine blk_far ?_ NB265_264.out _; (with_reducible repeat (first | refine blk_drewN ?_ _ | refine blk_drew ?_ | refine blk_alloc ?_ _)); exact BK265.out⟩
         have n5_ : Aside0 (Below w.heap.size w ((((((((((w72.setCell ⟨gb264, 0, none⟩ (.int .i64 a0_0)).setCell ⟨gb264, 1, none⟩ (.int .i64 a0_1)).setCell ⟨gb264, 2, none⟩ (.int .i64 a0_2)).setCell ⟨gb264, 3, none⟩ (.int .i64 a0_3)).setCell ⟨gb265, 0, none⟩ (.int .i64 a0_0)).setCell ⟨gb265, 1, none⟩ (.int .i64 a0_1)).setCell ⟨gb265, 2, none⟩ (.int .i64 a0_2)).setCell ⟨gb265, 3, none⟩ (.int .i64 a0_3)).setCell ⟨gb264, 3, none⟩ (.int .i64 65536)).setCell ⟨gb265, 3, none⟩ (.int .i64 0))) := ⟨by repeat (first | (with_reducible first | exact HB.out | apply below_alloc | apply pw_below_drewN | apply below_drew1 | refine below_set ?_ GE246.out | refine below_set ?_ GE247.out | refine below_set ?_ GE263.out | refine below_set ?_ GE264.out | refine below_set ?_ GE265.out) | exact HB.out)⟩
         (try clear BK246); (try clear BK247); (try clear BK263); (try clear BK264); (try clear BK265); (try clear HB)
         generalize ((((((((((w72.setCell ⟨gb264, 0, none⟩ (.int .i64 a0_0)).setCell ⟨gb264, 1, none⟩ (.int .i64 a0_1)).setCell ⟨gb264, 2, none⟩ (.int .i64 a0_2)).setCell ⟨gb264, 3, none⟩ (.int .i64 a0_3)).setCell ⟨gb265, 0, none⟩ (.int .i64 a0_0)).setCell ⟨gb265, 1, none⟩ (.int .i64 a0_1)).setCell ⟨gb265, 2, none⟩ (.int .i64 a0_2)).setCell ⟨gb265, 3, none⟩ (.int .i64 a0_3)).setCell ⟨gb264, 3, none⟩ (.int .i64 65536)).setCell ⟨gb265, 3, none⟩ (.int .i64 0)) = w90 at n0_ n1_ n2_ n3_ n4_ n5_ ⊢
         have BK246 := n0_; have BK247 := n1_; have BK263 := n2_; have BK264 := n3_; have BK265 := n4_; have HB := n5_; clear n0_ n1_ n2_ n3_ n4_ n5_; replace BK246 := Aside0.mk (blk_drew BK246.out); replace BK247 := Aside0.mk (blk_drew BK247.out); replace BK263 := Aside0.mk (blk_drew BK263.out); replace BK264 := Aside0.mk (blk_drew BK264.out); replace BK265 := Aside0.mk (blk_drew BK265.out); replace HB := Aside0.mk (below_drew1 HB.out)
         refine start_ (n := 24) (S := fun w' => w'.cell? ⟨gb264, 0, none⟩ = some (.int .i64 a0_0) ∧ w'.cell? ⟨gb264, 1, none⟩ = some (.int .i64 a0_1) ∧ w'.cell? ⟨gb264, 2, none⟩ = some (.int .i64 a0_2) ∧ w'.cell? ⟨gb264, 3, none⟩ = some (.int .i64 65536) ∧ w'.cell? ⟨gb247, 0, none⟩ = some (.int .i64 a1_0) ∧ w'.cell? ⟨gb247, 1, none⟩ = some (.int .i64 a1_1) ∧ w'.cell? ⟨gb247, 2, none⟩ = some (.int .i64 a1_2) ∧ w'.cell? ⟨gb247, 3, none⟩ = some (.int .i64 a1_3) ∧ w'.cell? ⟨gb265, 0, none⟩ = some (.int .i64 a0_0) ∧ w'.cell? ⟨gb265, 1, none⟩ = some (.int .i64 a0_1) ∧ w'.cell? ⟨gb265, 2, none⟩ = some (.int .i64 a0_2) ∧ w'.cell? ⟨gb265, 3, none⟩ = some (.int .i64 0)) (ds := []) #[false, false, false, false, false, false, false, false, false, false, false, false, false, false, false, false, false, false, false, false, false, false, false, false] (by kernel_rfl) rfl rfl ⟨bc BK264 0, bc BK264 1, bc BK264 2, bc BK264 3, bc BK247 0, bc BK247 1, bc BK247 2, bc BK247 3, bc BK265 0, bc BK265 1, bc BK265 2, bc BK265 3⟩ (fun hHeld => ?_); refine with_tabW frustumlaw40_BlendOver.tab9 frustumlaw40_BlendOver.bits9 (fun HT_ HW_ => ?_)
         generalize w90.drew = w91 at BK246 BK247 BK263 BK264 BK265 HB hHeld ⊢
         refine take_ (i := 1) (N := some 61) (v := ?_) (a' := ?_) #[false, true, false, false, false, false, false, false, false, false, false, false, false, false, false, false, false, false, false, false, false, false, false, false] rfl rfl (take_ofW HT_.out HW_.out (by kernel_rfl)) (fun _ _ _ h => h) (Or.inl ⟨by rfl, ?_⟩) hHeld ?_ ?_
         rotate_left
         ·rintro w' ⟨s0, s1, s2, s3, s4, s5, s6, s7, s8, s9, s10, s11⟩
          go_simp
          with_reducible rfl
         rotate_left
         ·simp only [Act.put, List.setIfInBounds_toArray, List.set_cons_zero, List.set_cons_succ, i64_w, i32_w]
          rfl
         refine take_ (i := 2) (N := some 62) (v := ?_) (a' := ?_) #[false, true, true, false, false, false, false, false, false, false, false, false, false, false, false, false, false, false, false, false, false, false, false, false] rfl rfl (take_ofW HT_.out HW_.out (by kernel_rfl)) (fun _ _ _ h => h) (Or.inl ⟨by rfl, ?_⟩) hHeld ?_ ?_
         rotate_left
         ·rintro w' ⟨s0, s1, s2, s3, s4, s5, s6, s7, s8, s9, s10, s11⟩
          go_simp
          with_reducible rfl
         rotate_left
         ·simp only [Act.put, List.setIfInBounds_toArray, List.set_cons_zero, List.set_cons_succ, i64_w, i32_w]
          rfl
         refine take_ (i := 4) (N := some 64) (v := ?_) (a' := ?_) #[false, true, true, false, true, false, false, false, false, false, false, false, false, false, false, false, false, false, false, false, false, false, false, false] rfl rfl (take_ofW HT_.out HW_.out (by kernel_rfl)) (fun _ _ _ h => h) (Or.inl ⟨by rfl, ?_⟩) hHeld ?_ ?_
         rotate_left
         ·rintro w' ⟨s0, s1, s2, s3, s4, s5, s6, s7, s8, s9, s10, s11⟩
          go_simp
          with_reducible rfl
         rotate_left
         ·simp only [Act.put, List.setIfInBounds_toArray, List.set_cons_zero, List.set_cons_succ, i64_w, i32_w]
          rfl
         refine one_ (i := 0) (N := some 60) #[true, true, true, false, true, false, false, false, false, false, false, false, false, false, false, false, false, false, false, false, false, false, false, false] rfl rfl (one_of HT_.out (by kernel_rfl)) (by decide) (fun K hK => ?_)
         refine goes_ Try.func16 (by kernel_rfl) rfl #[] (by rfl) rfl rfl (by (try simp only [List.map_toArray, List.map_cons, List.map_nil]); first | done | rfl | (simp only [List.length_drop, List.length_take]; rfl)) ?_
         with_reducible refine (frustumlaw40_over.calls  t266 t267 t268 t269 t270 t271 t272 t273 _ A62.out).mono ?_; rintro e w92 ⟨rfl, hb⟩; refine ⟨_, rfl, ?_⟩; replace BK246 := ub BK246 hb; replace BK247 := ub BK247 hb; replace BK263 := ub BK263 hb; replace BK264 := ub BK264 hb; replace BK265 := ub BK265 hb; replace HB := bs HB hb; (try clear hb); (try clear hb2); (try clear hk); (try clear hi)
         refine hK.out _ _ ⟨bc BK264 0, bc BK264 1, bc BK264 2, bc BK264 3, bc BK247 0, bc BK247 1, bc BK247 2, bc BK247 3, bc BK265 0, bc BK265 1, bc BK265 2, bc BK265 3⟩ (fun hHeld => ?_)
         clear hK K
         refine norm_ (a' := ?_) ?_ ?_
         rotate_left
         ·show Act.put _ (some 60) _ = _
          simp only [Act.put, List.setIfInBounds_toArray, List.set_cons_zero, List.set_cons_succ, i64_w, i32_w]
          rfl
         refine one_ (i := 3) (N := some 63) #[true, true, true, true, true, false, false, false, false, false, false, false, false, false, false, false, false, false, false, false, false, false, false, false] rfl rfl (one_of HT_.out (by kernel_rfl)) (by decide) (fun K hK => ?_)
         refine goes_ Try.func9 (by kernel_rfl) rfl #[.agg #[.bool t266, .int .i64 t267, .int .i64 t268, .int .i64 t269, .int .i64 t270, .int .i64 t271, .int .i64 t272, .int .i64 t273], .agg #[.int .i64 a0_0, .int .i64 a0_1, .int .i64 a0_2, .int .i64 65536], .agg #[.int .i64 a1_0, .int .i64 a1_1, .int .i64 a1_2, .int .i64 a1_3]] (by rfl) rfl rfl (by (try simp only [List.map_toArray, List.map_cons, List.map_nil]); first | done | rfl | (simp only [List.length_drop, List.length_take]; rfl)) ?_
         with_reducible refine (blend_Blend.calls kj21 t266 t267 t268 t269 t270 t271 t272 t273 a0_0 a0_1 a0_2 65536 a1_0 a1_1 a1_2 a1_3 t274 t275 t276 t277 _ A63.out).mono ?_; rintro e w93 ⟨rfl, hb⟩; refine ⟨_, rfl, ?_⟩; replace BK246 := ub BK246 hb; replace BK247 := ub BK247 hb; replace BK263 := ub BK263 hb; replace BK264 := ub BK264 hb; replace BK265 := ub BK265 hb; replace HB := bs HB hb; (try clear hb); (try clear hb2); (try clear hk); (try clear hi)
         refine hK.out _ _ ⟨bc BK264 0, bc BK264 1, bc BK264 2, bc BK264 3, bc BK247 0, bc BK247 1, bc BK247 2, bc BK247 3, bc BK265 0, bc BK265 1, bc BK265 2, bc BK265 3⟩ (fun hHeld => ?_)
         clear hK K
         refine norm_ (a' := ?_) ?_ ?_
         rotate_left
         ·show Act.put _ (some 63) _ = _
          simp only [Act.put, List.setIfInBounds_toArray, List.set_cons_zero, List.set_cons_succ, i64_w, i32_w]
          rfl
         refine pure_ (i := 5) (N := some 65) (v := ?_) (a' := ?_) #[true, true, true, true, true, true, false, false, false, false, false, false, false, false, false, false, false, false, false, false, false, false, false, false] rfl rfl (any_of HT_.out (by kernel_rfl)) (fun _ _ _ h => h) (Or.inl ⟨by rfl, ?_⟩) ?_ ?_
         rotate_left
         ·intro w'
          go_simp
          with_reducible rfl
         rotate_left
         ·simp only [Act.put, List.setIfInBounds_toArray, List.set_cons_zero, List.set_cons_succ, i64_w, i32_w]
          rfl
         refine pure_ (i := 6) (N := some 66) (v := ?_) (a' := ?_) #[true, true, true, true, true, true, true, false, false, false, false, false, false, false, false, false, false, false, false, false, false, false, false, false] rfl rfl (any_of HT_.out (by kernel_rfl)) (fun _ _ _ h => h) (Or.inl ⟨by rfl, ?_⟩) ?_ ?_
         rotate_left
         ·intro w'
          go_simp
          with_reducible rfl
         rotate_left
         ·simp only [Act.put, List.setIfInBounds_toArray, List.set_cons_zero, List.set_cons_succ, i64_w, i32_w]
          rfl
         refine pure_ (i := 11) (N := some 71) (v := ?_) (a' := ?_) #[true, true, true, true, true, true, true, false, false, false, false, true, false, false, false, false, false, false, false, false, false, false, false, false] rfl rfl (any_of HT_.out (by kernel_rfl)) (fun _ _ _ h => h) (Or.inl ⟨by rfl, ?_⟩) ?_ ?_
         rotate_left
         ·intro w'
          go_simp
          with_reducible rfl
         rotate_left
         ·simp only [Act.put, List.setIfInBounds_toArray, List.set_cons_zero, List.set_cons_succ, i64_w, i32_w]
          rfl
         refine pure_ (i := 13) (N := some 73) (v := ?_) (a' := ?_) #[true, true, true, true, true, true, true, false, false, false, false, true, false, true, false, false, false, false, false, false, false, false, false, false] rfl rfl (any_of HT_.out (by kernel_rfl)) (fun _ _ _ h => h) (Or.inl ⟨by rfl, ?_⟩) ?_ ?_
         rotate_left
         ·intro w'
          go_simp
          with_reducible rfl
         rotate_left
         ·simp only [Act.put, List.setIfInBounds_toArray, List.set_cons_zero, List.set_cons_succ, i64_w, i32_w]
          rfl
         refine pure_ (i := 15) (N := some 75) (v := ?_) (a' := ?_) #[true, true, true, true, true, true, true, false, false, false, false, true, false, true, false, true, false, false, false, false, false, false, false, false] rfl rfl (any_of HT_.out (by kernel_rfl)) (fun _ _ _ h => h) (Or.inl ⟨by rfl, ?_⟩) ?_ ?_
         rotate_left
         ·intro w'
          go_simp
          with_reducible rfl
         rotate_left
         ·simp only [Act.put, List.setIfInBounds_toArray, List.set_cons_zero, List.set_cons_succ, i64_w, i32_w]
          rfl
         refine take_ (i := 8) (N := some 68) (v := ?_) (a' := ?_) #[true, true, true, true, true, true, true, false, true, false, false, true, false, true, false, true, false, false, false, false, false, false, false, false] rfl rfl (take_ofW HT_.out HW_.out (by kernel_rfl)) (fun _ _ _ h => h) (Or.inl ⟨by rfl, ?_⟩) hHeld ?_ ?_
         rotate_left
         ·rintro w' ⟨s0, s1, s2, s3, s4, s5, s6, s7, s8, s9, s10, s11⟩
          go_simp
          with_reducible rfl
         rotate_left
         ·simp only [Act.put, List.setIfInBounds_toArray, List.set_cons_zero, List.set_cons_succ, i64_w, i32_w]
          rfl
         refine take_ (i := 9) (N := some 69) (v := ?_) (a' := ?_) #[true, true, true, true, true, true, true, false, true, true, false, true, false, true, false, true, false, false, false, false, false, false, false, false] rfl rfl (take_ofW HT_.out HW_.out (by kernel_rfl)) (fun _ _ _ h => h) (Or.inl ⟨by rfl, ?_⟩) hHeld ?_ ?_
         rotate_left
         ·rintro w' ⟨s0, s1, s2, s3, s4, s5, s6, s7, s8, s9, s10, s11⟩
          go_simp
          with_reducible rfl
         rotate_left
         ·simp only [Act.put, List.setIfInBounds_toArray, List.set_cons_zero, List.set_cons_succ, i64_w, i32_w]
          rfl
         refine take_ (i := 12) (N := some 72) (v := ?_) (a' := ?_) #[true, true, true, true, true, true, true, false, true, true, false, true, true, true, false, true, false, false, false, false, false, false, false, false] rfl rfl (take_ofW HT_.out HW_.out (by kernel_rfl)) (fun _ _ _ h => h) (Or.inl ⟨by rfl, ?_⟩) hHeld ?_ ?_
         rotate_left
         ·rintro w' ⟨s0, s1, s2, s3, s4, s5, s6, s7, s8, s9, s10, s11⟩
          go_simp
          with_reducible rfl
         rotate_left
         ·simp only [Act.put, List.setIfInBounds_toArray, List.set_cons_zero, List.set_cons_succ, i64_w, i32_w]
          rfl
         refine take_ (i := 14) (N := some 74) (v := ?_) (a' := ?_) #[true, true, true, true, true, true, true, false, true, true, false, true, true, true, true, true, false, false, false, false, false, false, false, false] rfl rfl (take_ofW HT_.out HW_.out (by kernel_rfl)) (fun _ _ _ h => h) (Or.inl ⟨by rfl, ?_⟩) hHeld ?_ ?_
         rotate_left
         ·rintro w' ⟨s0, s1, s2, s3, s4, s5, s6, s7, s8, s9, s10, s11⟩
          go_simp
          with_reducible rfl
         rotate_left
         ·simp only [Act.put, List.setIfInBounds_toArray, List.set_cons_zero, List.set_cons_succ, i64_w, i32_w]
          rfl
         refine take_ (i := 16) (N := some 76) (v := ?_) (a' := ?_) #[true, true, true, true, true, true, true, false, true, true, false, true, true, true, true, true, true, false, false, false, false, false, false, false] rfl rfl (take_ofW HT_.out HW_.out (by kernel_rfl)) (fun _ _ _ h => h) (Or.inl ⟨by rfl, ?_⟩) hHeld ?_ ?_
         rotate_left
         ·rintro w' ⟨s0, s1, s2, s3, s4, s5, s6, s7, s8, s9, s10, s11⟩
          go_simp
          with_reducible rfl
         rotate_left
         ·simp only [Act.put, List.setIfInBounds_toArray, List.set_cons_zero, List.set_cons_succ, i64_w, i32_w]
          rfl
         refine pure_ (i := 17) (N := some 77) (v := ?_) (a' := ?_) #[true, true, true, true, true, true, true, false, true, true, false, true, true, true, true, true, true, true, false, false, false, false, false, false] rfl rfl (any_of HT_.out (by kernel_rfl)) (fun _ _ _ h => h) (Or.inl ⟨by rfl, ?_⟩) ?_ ?_
         rotate_left
         ·intro w'
          go_simp
          with_reducible rfl
         rotate_left
         ·simp only [Act.put, List.setIfInBounds_toArray, List.set_cons_zero, List.set_cons_succ, i64_w, i32_w]
          rfl
         refine one_ (i := 7) (N := some 67) #[true, true, true, true, true, true, true, true, true, true, false, true, true, true, true, true, true, true, false, false, false, false, false, false] rfl rfl (one_of HT_.out (by kernel_rfl)) (by decide) (fun K hK => ?_)
         refine goes_ Try.func16 (by kernel_rfl) rfl #[] (by rfl) rfl rfl (by (try simp only [List.map_toArray, List.map_cons, List.map_nil]); first | done | rfl | (simp only [List.length_drop, List.length_take]; rfl)) ?_
         with_reducible refine (frustumlaw40_over.calls  t278 t279 t280 t281 t282 t283 t284 t285 _ A65.out).mono ?_; rintro e w94 ⟨rfl, hb⟩; refine ⟨_, rfl, ?_⟩; replace BK246 := ub BK246 hb; replace BK247 := ub BK247 hb; replace BK263 := ub BK263 hb; replace BK264 := ub BK264 hb; replace BK265 := ub BK265 hb; replace HB := bs HB hb; (try clear hb); (try clear hb2); (try clear hk); (try clear hi)
         refine hK.out _ _ ⟨bc BK264 0, bc BK264 1, bc BK264 2, bc BK264 3, bc BK247 0, bc BK247 1, bc BK247 2, bc BK247 3, bc BK265 0, bc BK265 1, bc BK265 2, bc BK265 3⟩ (fun hHeld => ?_)
         clear hK K
         refine norm_ (a' := ?_) ?_ ?_
         rotate_left
         ·show Act.put _ (some 67) _ = _
          simp only [Act.put, List.setIfInBounds_toArray, List.set_cons_zero, List.set_cons_succ, i64_w, i32_w]
          rfl
         refine one_ (i := 10) (N := some 70) #[true, true, true, true, true, true, true, true, true, true, true, true, true, true, true, true, true, true, false, false, false, false, false, false] rfl rfl (one_of HT_.out (by kernel_rfl)) (by decide) (fun K hK => ?_)
         refine goes_ Try.func9 (by kernel_rfl) rfl #[.agg #[.bool t278, .int .i64 t279, .int .i64 t280, .int .i64 t281, .int .i64 t282, .int .i64 t283, .int .i64 t284, .int .i64 t285], .agg #[.int .i64 a0_0, .int .i64 a0_1, .int .i64 a0_2, .int .i64 0], .agg #[.int .i64 a1_0, .int .i64 a1_1, .int .i64 a1_2, .int .i64 a1_3]] (by rfl) rfl rfl (by (try simp only [List.map_toArray, List.map_cons, List.map_nil]); first | done | rfl | (simp only [List.length_drop, List.length_take]; rfl)) ?_
         with_reducible refine (blend_Blend.calls kj21 t278 t279 t280 t281 t282 t283 t284 t285 a0_0 a0_1 a0_2 0 a1_0 a1_1 a1_2 a1_3 t286 t287 t288 t289 _ A66.out).mono ?_; rintro e w95 ⟨rfl, hb⟩; refine ⟨_, rfl, ?_⟩; replace BK246 := ub BK246 hb; replace BK247 := ub BK247 hb; replace BK263 := ub BK263 hb; replace BK264 := ub BK264 hb; replace BK265 := ub BK265 hb; replace HB := bs HB hb; (try clear hb); (try clear hb2); (try clear hk); (try clear hi)
         refine hK.out _ _ ⟨bc BK264 0, bc BK264 1, bc BK264 2, bc BK264 3, bc BK247 0, bc BK247 1, bc BK247 2, bc BK247 3, bc BK265 0, bc BK265 1, bc BK265 2, bc BK265 3⟩ (fun hHeld => ?_)
         clear hK K
         refine norm_ (a' := ?_) ?_ ?_
         rotate_left
         ·show Act.put _ (some 70) _ = _
          simp only [Act.put, List.setIfInBounds_toArray, List.set_cons_zero, List.set_cons_succ, i64_w, i32_w]
          rfl
         refine pure_ (i := 18) (N := some 78) (v := ?_) (a' := ?_) #[true, true, true, true, true, true, true, true, true, true, true, true, true, true, true, true, true, true, true, false, false, false, false, false] rfl rfl (any_of HT_.out (by kernel_rfl)) (fun _ _ _ h => h) (Or.inl ⟨by rfl, ?_⟩) ?_ ?_
         rotate_left
         ·intro w'
          go_simp
          with_reducible rfl
         rotate_left
         ·simp only [Act.put, List.setIfInBounds_toArray, List.set_cons_zero, List.set_cons_succ, i64_w, i32_w]
          rfl
         refine pure_ (i := 19) (N := some 79) (v := ?_) (a' := ?_) #[true, true, true, true, true, true, true, true, true, true, true, true, true, true, true, true, true, true, true, true, false, false, false, false] rfl rfl (any_of HT_.out (by kernel_rfl)) (fun _ _ _ h => h) (Or.inl ⟨by rfl, ?_⟩) ?_ ?_
         rotate_left
         ·intro w'
          go_simp
          with_reducible rfl
         rotate_left
         ·simp only [Act.put, List.setIfInBounds_toArray, List.set_cons_zero, List.set_cons_succ, i64_w, i32_w]
          rfl
         refine pure_ (i := 20) (N := some 80) (v := ?_) (a' := ?_) #[true, true, true, true, true, true, true, true, true, true, true, true, true, true, true, true, true, true, true, true, true, false, false, false] rfl rfl (any_of HT_.out (by kernel_rfl)) (fun _ _ _ h => h) (Or.inl ⟨by rfl, ?_⟩) ?_ ?_
         rotate_left
         ·intro w'
          go_simp
          with_reducible rfl
         rotate_left
         ·simp only [Act.put, List.setIfInBounds_toArray, List.set_cons_zero, List.set_cons_succ, i64_w, i32_w]
          rfl
         refine one_ (i := 21) (N := some 81) #[true, true, true, true, true, true, true, true, true, true, true, true, true, true, true, true, true, true, true, true, true, true, false, false] rfl rfl (one_of HT_.out (by kernel_rfl)) (by decide) (fun K hK => ?_)
         refine goes_ Try.func11 (by kernel_rfl) rfl #[] (by rfl) rfl rfl (by (try simp only [List.map_toArray, List.map_cons, List.map_nil]); first | done | rfl | (simp only [List.length_drop, List.length_take]; rfl)) ?_
         with_reducible refine (frustumlaw40_example.calls kj21  t290 _ A68.out).mono ?_; rintro e w96 ⟨rfl, hb⟩; refine ⟨_, rfl, ?_⟩; replace BK246 := ub BK246 hb; replace BK247 := ub BK247 hb; replace BK263 := ub BK263 hb; replace BK264 := ub BK264 hb; replace BK265 := ub BK265 hb; replace HB := bs HB hb; (try clear hb); (try clear hb2); (try clear hk); (try clear hi)
         refine hK.out _ _ ⟨bc BK264 0, bc BK264 1, bc BK264 2, bc BK264 3, bc BK247 0, bc BK247 1, bc BK247 2, bc BK247 3, bc BK265 0, bc BK265 1, bc BK265 2, bc BK265 3⟩ (fun hHeld => ?_)
         clear hK K
         refine norm_ (a' := ?_) ?_ ?_
         rotate_left
         ·show Act.put _ (some 81) _ = _
          simp only [Act.put, List.setIfInBounds_toArray, List.set_cons_zero, List.set_cons_succ, i64_w, i32_w]
          rfl
         refine pure_ (i := 22) (N := some 82) (v := ?_) (a' := ?_) #[true, true, true, true, true, true, true, true, true, true, true, true, true, true, true, true, true, true, true, true, true, true, true, false] rfl rfl (any_of HT_.out (by kernel_rfl)) (fun _ _ _ h => h) (Or.inl ⟨by rfl, ?_⟩) ?_ ?_
         rotate_left
         ·intro w'
          go_simp
          with_reducible rfl
         rotate_left
         ·simp only [Act.put, List.setIfInBounds_toArray, List.set_cons_zero, List.set_cons_succ, i64_w, i32_w]
          rfl
         refine pure_ (i := 23) (N := some 4) (v := ?_) (a' := ?_) #[true, true, true, true, true, true, true, true, true, true, true, true, true, true, true, true, true, true, true, true, true, true, true, true] rfl rfl (any_of HT_.out (by kernel_rfl)) (fun _ _ _ h => h) (Or.inl ⟨by rfl, ?_⟩) ?_ ?_
         rotate_left
         ·intro w'
          go_simp
          with_reducible rfl
         rotate_left
         ·simp only [Act.put, List.setIfInBounds_toArray, List.set_cons_zero, List.set_cons_succ, i64_w, i32_w]
          rfl
         refine done_ (done_of HT_.out (by kernel_rfl)) ?_
         try go_wp2
         go_ret
         exact ⟨by first | rfl | (simp [errW_none, errW_some] <;> rfl) | (simp [*, errW_none, errW_some] <;> rfl), by repeat (first | (with_reducible first | exact HB.out | apply below_alloc | apply pw_below_drewN | apply below_drew1 | refine below_set ?_ GE246.out | refine below_set ?_ GE247.out | refine below_set ?_ GE263.out | refine below_set ?_ GE264.out | refine below_set ?_ GE265.out) | exact HB.out)⟩
        ·rw [if_neg c67] at H
         have c67b0 : (t286 == a1_0 && (t287 == a1_1 && (t288 == a1_2 && (t289 == 0)))) = false := by simpa using c67
         (try (have c67b1 : decide (t286 = a1_0 && (t287 == a1_1 && (t288 == a1_2 && (t289 == 0)))) = false := by simpa using c67))
         (try (have c67b2 : (t286 == a1_0 && (t287 == a1_1 && (t288 == a1_2 && (t289 == 0)))) = false := by simpa using c67))
         (try (have c67b3 : ¬ (t286 = a1_0 && (t287 == a1_1 && (t288 == a1_2 && (t289 == 0)))) := by simpa using c67))
         clear c67
         obtain rfl := Option.some.inj H
         try go_wp2
         replace BK246 := Aside0.mk (blk_drew BK246.out); replace BK247 := Aside0.mk (blk_drew BK247.out); replace BK263 := Aside0.mk (blk_drew BK263.out); replace HB := Aside0.mk (below_drew1 HB.out)
         refine start_ (n := 6) (S := fun w' => w'.cell? ⟨gb246, 0, none⟩ = some (.int .i64 a0_0) ∧ w'.cell? ⟨gb246, 1, none⟩ = some (.int .i64 a0_1) ∧ w'.cell? ⟨gb246, 2, none⟩ = some (.int .i64 a0_2) ∧ w'.cell? ⟨gb246, 3, none⟩ = some (.int .i64 a0_3)) (ds := []) #[false, false, false, false, false, false] (by kernel_rfl) rfl rfl ⟨bc BK246 0, bc BK246 1, bc BK246 2, bc BK246 3⟩ (fun hHeld => ?_)
         generalize wc.drew = w97 at BK246 BK247 BK263 HB hHeld ⊢
         refine take_ (i := 0) (N := some 56) (v := ?_) (a' := ?_) #[true, false, false, false, false, false] rfl rfl (by kernel_rfl) (fun _ _ _ h => h) (Or.inl ⟨by rfl, ?_⟩) hHeld ?_ ?_
         rotate_left
         ·rintro w' ⟨s0, s1, s2, s3⟩
          go_simp
          with_reducible rfl
         rotate_left
         ·simp only [Act.put, List.setIfInBounds_toArray, List.set_cons_zero, List.set_cons_succ, i64_w, i32_w]
          rfl
         refine take_ (i := 1) (N := some 57) (v := ?_) (a' := ?_) #[true, true, false, false, false, false] rfl rfl (by kernel_rfl) (fun _ _ _ h => h) (Or.inl ⟨by rfl, ?_⟩) hHeld ?_ ?_
         rotate_left
         ·rintro w' ⟨s0, s1, s2, s3⟩
          go_simp
          with_reducible rfl
         rotate_left
         ·simp only [Act.put, List.setIfInBounds_toArray, List.set_cons_zero, List.set_cons_succ, i64_w, i32_w]
          rfl
         refine join_ (σ := Nat × Nat) 2 #[true, true, true, true, false, false] (fun s_ => [(6, .pointer (some ⟨s_.1, 0, none⟩)), (7, .pointer (some ⟨s_.2, 0, none⟩))]) (fun s_ w' => (w'.cell? ⟨gb246, 0, none⟩ = some (.int .i64 a0_0) ∧ w'.cell? ⟨gb246, 1, none⟩ = some (.int .i64 a0_1) ∧ w'.cell? ⟨gb246, 2, none⟩ = some (.int .i64 a0_2) ∧ w'.cell? ⟨gb246, 3, none⟩ = some (.int .i64 a0_3)) ∧ (w'.heap[gb246]? = some (.cells #[.int .i64 a0_0, .int .i64 a0_1, .int .i64 a0_2, .int .i64 a0_3] 27 (0, 0))) ∧ (w'.heap[gb247]? = some (.cells #[.int .i64 a1_0, .int .i64 a1_1, .int .i64 a1_2, .int .i64 a1_3] 27 (0, 0))) ∧ (w'.heap[gb263]? = some (.cells #[.int .i64 t259, .int .i64 t260, .int .i64 t261, .int .i64 t262] 27 (0, 0))) ∧ (w'.heap[s_.1]? = some (.cells #[.int .i64 0, .int .i64 0, .int .i64 0, .int .i64 0] 27 (0, 0))) ∧ (w'.heap[s_.2]? = some (.cells #[.int .i64 0, .int .i64 0, .int .i64 0, .int .i64 0] 27 (0, 0))) ∧ (w.heap.size ≤ s_.1) ∧ (w.heap.size ≤ s_.1) ∧ (gb246 ≠ s_.1) ∧ (s_.1 ≠ gb246) ∧ (gb247 ≠ s_.1) ∧ (s_.1 ≠ gb247) ∧ (gb263 ≠ s_.1) ∧ (s_.1 ≠ gb263) ∧ (s_.2 ≠ s_.1) ∧ (s_.1 ≠ s_.2) ∧ (w.heap.size ≤ s_.2) ∧ (w.heap.size ≤ s_.2) ∧ (gb246 ≠ s_.2) ∧ (s_.2 ≠ gb246) ∧ (gb247 ≠ s_.2) ∧ (s_.2 ≠ gb247) ∧ (gb263 ≠ s_.2) ∧ (s_.2 ≠ gb263) ∧ (Below w.heap.size w w')) ?_ ?_
         rotate_left
         ·intro hCont
          refine two_ (i := 2) (j := 3) (Ni := some 6) (Nj := some 7) #[true, true, true, false, false, false] #[true, true, false, true, false, false] rfl rfl rfl rfl (by kernel_rfl) (by decide) (by decide) (fun K hK => ?_) (fun K hK => ?_)
          ·skip
           refine box_step ?hg (N := 6) ?hd (cs := #[.int .i64 0, .int .i64 0, .int .i64 0, .int .i64 0]) (t := 27) ?hr ?_; (case hd => rfl); (case hg => rfl); (case hr => first | (go_simp; done) | (go_simp; rfl))
           intro gb264 hg w98 hbox hb
           have BK264 := Aside0.mk (hbox); have GW264 := ws HB hg; have GE264 := ws HB hg; have NB246_264 := nl BK246 hg; have NB264_246 := ng BK246 hg; have NB247_264 := nl BK247 hg; have NB264_247 := ng BK247 hg; have NB263_264 := nl BK263 hg; have NB264_263 := ng BK263 hg; replace BK246 := ub BK246 hb; replace BK247 := ub BK247 hb; replace BK263 := ub BK263 hb; replace HB := bs HB hb; clear hb hbox hg
           refine hK.out _ _ ⟨bc BK246 0, bc BK246 1, bc BK246 2, bc BK246 3⟩ (fun hHeld => ?_)
           clear hK K
           refine norm_ (a' := ?_) ?_ ?_
           rotate_left
           ·show Act.put _ (some 6) _ = _
            simp only [Act.put, List.setIfInBounds_toArray, List.set_cons_zero, List.set_cons_succ, i64_w, i32_w]
            rfl
           refine one_ (i := 3) (N := some 7) #[true, true, true, true, false, false] rfl rfl (by kernel_rfl) (by decide) (fun K hK => ?_)
           refine box_step ?hg (N := 7) ?hd (cs := #[.int .i64 0, .int .i64 0, .int .i64 0, .int .i64 0]) (t := 27) ?hr ?_; (case hd => rfl); (case hg => rfl); (case hr => first | (go_simp; done) | (go_simp; rfl))
           intro gb265 hg w99 hbox hb
           have BK265 := Aside0.mk (hbox); have GW265 := ws HB hg; have GE265 := ws HB hg; have NB246_265 := nl BK246 hg; have NB265_246 := ng BK246 hg; have NB247_265 := nl BK247 hg; have NB265_247 := ng BK247 hg; have NB263_265 := nl BK263 hg; have NB265_263 := ng BK263 hg; have NB264_265 := nl BK264 hg; have NB265_264 := ng BK264 hg; replace BK246 := ub BK246 hb; replace BK247 := ub BK247 hb; replace BK263 := ub BK263 hb; replace BK264 := ub BK264 hb; replace HB := bs HB hb; clear hb hbox hg
           refine hK.out _ _ ⟨bc BK246 0, bc BK246 1, bc BK246 2, bc BK246 3⟩ (fun hHeld => ?_)
           clear hK K
           refine norm_ (a' := ?_) ?_ ?_
           rotate_left
           ·show Act.put _ (some 7) _ = _
            simp only [Act.put, List.setIfInBounds_toArray, List.set_cons_zero, List.set_cons_succ, i64_w, i32_w]
            rfl
           exact norm_ (by simp only [putAll, Act.put, List.setIfInBounds_toArray, List.set_cons_zero, List.set_cons_succ]) (hCont (gb264, gb265) _ ⟨hHeld, BK246.out, BK247.out, BK263.out, BK264.out, BK265.out, GW264.out, GE264.out, NB246_264.out, NB264_246.out, NB247_264.out, NB264_247.out, NB263_264.out, NB264_263.out, NB265_264.out, NB264_265.out, GW265.out, GE265.out, NB246_265.out, NB265_246.out, NB247_265.out, NB265_247.out, NB263_265.out, NB265_263.out, (by repeat (first | (with_reducible first | exact HB.out | apply below_alloc | apply pw_below_drewN | apply below_drew1 | refine below_setA ?_ (by assumption)) | exact HB.out))⟩)
          ·skip
           refine box_step ?hg (N := 7) ?hd (cs := #[.int .i64 0, .int .i64 0, .int .i64 0, .int .i64 0]) (t := 27) ?hr ?_; (case hd => rfl); (case hg => rfl); (case hr => first | (go_simp; done) | (go_simp; rfl))
           intro gb265 hg w98 hbox hb
           have BK265 := Aside0.mk (hbox); have GW265 := ws HB hg; have GE265 := ws HB hg; have NB246_265 := nl BK246 hg; have NB265_246 := ng BK246 hg; have NB247_265 := nl BK247 hg; have NB265_247 := ng BK247 hg; have NB263_265 := nl BK263 hg; have NB265_263 := ng BK263 hg; replace BK246 := ub BK246 hb; replace BK247 := ub BK247 hb; replace BK263 := ub BK263 hb; replace HB := bs HB hb; clear hb hbox hg
           refine hK.out _ _ ⟨bc BK246 0, bc BK246 1, bc BK246 2, bc BK246 3⟩ (fun hHeld => ?_)
           clear hK K
           refine norm_ (a' := ?_) ?_ ?_
           rotate_left
           ·show Act.put _ (some 7) _ = _
            simp only [Act.put, List.setIfInBounds_toArray, List.set_cons_zero, List.set_cons_succ, i64_w, i32_w]
            rfl
           refine one_ (i := 2) (N := some 6) #[true, true, true, true, false, false] rfl rfl (by kernel_rfl) (by decide) (fun K hK => ?_)
           refine box_step ?hg (N := 6) ?hd (cs := #[.int .i64 0, .int .i64 0, .int .i64 0, .int .i64 0]) (t := 27) ?hr ?_; (case hd => rfl); (case hg => rfl); (case hr => first | (go_simp; done) | (go_simp; rfl))
           intro gb264 hg w99 hbox hb
           have BK264 := Aside0.mk (hbox); have GW264 := ws HB hg; have GE264 := ws HB hg; have NB246_264 := nl BK246 hg; have NB264_246 := ng BK246 hg; have NB247_264 := nl BK247 hg; have NB264_247 := ng BK247 hg; have NB263_264 := nl BK263 hg; have NB264_263 := ng BK263 hg; have NB265_264 := nl BK265 hg; have NB264_265 := ng BK265 hg; replace BK246 := ub BK246 hb; replace BK247 := ub BK247 hb; replace BK263 := ub BK263 hb; replace BK265 := ub BK265 hb; replace HB := bs HB hb; clear hb hbox hg
           refine hK.out _ _ ⟨bc BK246 0, bc BK246 1, bc BK246 2, bc BK246 3⟩ (fun hHeld => ?_)
           clear hK K
           refine norm_ (a' := ?_) ?_ ?_
           rotate_left
           ·show Act.put _ (some 6) _ = _
            simp only [Act.put, List.setIfInBounds_toArray, List.set_cons_zero, List.set_cons_succ, i64_w, i32_w]
            rfl
           exact norm_ (by simp only [putAll, Act.put, List.setIfInBounds_toArray, List.set_cons_zero, List.set_cons_succ]) (hCont (gb264, gb265) _ ⟨hHeld, BK246.out, BK247.out, BK263.out, BK264.out, BK265.out, GW264.out, GE264.out, NB246_264.out, NB264_246.out, NB247_264.out, NB264_247.out, NB263_264.out, NB264_263.out, NB265_264.out, NB264_265.out, GW265.out, GE265.out, NB246_265.out, NB265_246.out, NB247_265.out, NB265_247.out, NB263_265.out, NB265_263.out, (by repeat (first | (with_reducible first | exact HB.out | apply below_alloc | apply pw_below_drewN | apply below_drew1 | refine below_setA ?_ (by assumption)) | exact HB.out))⟩)
         rintro ⟨gb264, gb265⟩ w100 ⟨hS_, h0_, h1_, h2_, h3_, h4_, h5_, h6_, h7_, h8_, h9_, h10_, h11_, h12_, h13_, h14_, h15_, h16_, h17_, h18_, h19_, h20_, h21_, h22_, h23_⟩; have BK264 := Aside0.mk h3_; have BK265 := Aside0.mk h4_; have GW264 := Aside0.mk h5_; have GE264 := Aside0.mk h6_; have NB246_264 := Aside0.mk h7_; have NB264_246 := Aside0.mk h8_; have NB247_264 := Aside0.mk h9_; have NB264_247 := Aside0.mk h10_; have NB263_264 := Aside0.mk h11_; have NB264_263 := Aside0.mk h12_; have NB265_264 := Aside0.mk h13_; have NB264_265 := Aside0.mk h14_; have GW265 := Aside0.mk h15_; have GE265 := Aside0.mk h16_; have NB246_265 := Aside0.mk h17_; have NB265_246 := Aside0.mk h18_; have NB247_265 := Aside0.mk h19_; have NB265_247 := Aside0.mk h20_; have NB263_265 := Aside0.mk h21_; have NB265_263 := Aside0.mk h22_; replace BK246 := Aside0.mk h0_; replace BK247 := Aside0.mk h1_; replace BK263 := Aside0.mk h2_; replace HB := Aside0.mk h23_; clear h0_ h1_ h2_ h3_ h4_ h5_ h6_ h7_ h8_ h9_ h10_ h11_ h12_ h13_ h14_ h15_ h16_ h17_ h18_ h19_ h20_ h21_ h22_ h23_; have hHeld := hS_
         refine norm_ (a' := ?_) ?_ ?_
         rotate_left
         ·simp only [putAll, Act.put, List.setIfInBounds_toArray, List.set_cons_zero, List.set_cons_succ]
          rfl
         refine one_ (i := 4) (N := none) #[true, true, true, true, true, false] rfl rfl (by kernel_rfl) (by decide) (fun K hK => ?_)
         have hs101 : w100.cell? ⟨gb264, 0, none⟩ = some (.int .i64 0) := bc BK264 0
         have hfs101 := blk_frozen BK264.out 0; have hns101_0 := NB246_264.out; have hns101_1 := NB247_264.out; have hns101_2 := NB263_264.out; have hns101_4 := NB265_264.out; have hms101_0 := NB264_246.out; have hms101_1 := NB264_247.out; have hms101_2 := NB264_263.out; have hms101_4 := NB264_265.out
         have hs102 : w100.cell? ⟨gb264, 1, none⟩ = some (.int .i64 0) := bc BK264 1
         have hfs102 := blk_frozen BK264.out 1; have hns102_0 := NB246_264.out; have hns102_1 := NB247_264.out; have hns102_2 := NB263_264.out; have hns102_4 := NB265_264.out; have hms102_0 := NB264_246.out; have hms102_1 := NB264_247.out; have hms102_2 := NB264_263.out; have hms102_4 := NB264_265.out
         have hs103 : w100.cell? ⟨gb264, 2, none⟩ = some (.int .i64 0) := bc BK264 2
         have hfs103 := blk_frozen BK264.out 2; have hns103_0 := NB246_264.out; have hns103_1 := NB247_264.out; have hns103_2 := NB263_264.out; have hns103_4 := NB265_264.out; have hms103_0 := NB264_246.out; have hms103_1 := NB264_247.out; have hms103_2 := NB264_263.out; have hms103_4 := NB264_265.out
         have hs104 : w100.cell? ⟨gb264, 3, none⟩ = some (.int .i64 0) := bc BK264 3
         have hfs104 := blk_frozen BK264.out 3; have hns104_0 := NB246_264.out; have hns104_1 := NB247_264.out; have hns104_2 := NB263_264.out; have hns104_4 := NB265_264.out; have hms104_0 := NB264_246.out; have hms104_1 := NB264_247.out; have hms104_2 := NB264_263.out; have hms104_4 := NB264_265.out
         refine skip_ (w1 := ?_) (by rfl) rfl ?_ ?_
         rotate_left
         ·go_simp
          rfl
         refine hK.out _ _ ⟨(cf NB246_264 ((cf NB246_264 ((cf NB246_264 ((cf NB246_264 (hHeld.1)))))))), (cf NB246_264 ((cf NB246_264 ((cf NB246_264 ((cf NB246_264 (hHeld.2.1)))))))), (cf NB246_264 ((cf NB246_264 ((cf NB246_264 ((cf NB246_264 (hHeld.2.2.1)))))))), (cf NB246_264 ((cf NB246_264 ((cf NB246_264 ((cf NB246_264 (hHeld.2.2.2))))))))⟩ (fun hHeld => ?_)
         clear hK K
         refine one_ (i := 5) (N := none) #[true, true, true, true, true, true] rfl rfl (by kernel_rfl) (by decide) (fun K hK => ?_)
         have hs105 : w100.cell? ⟨gb265, 0, none⟩ = some (.int .i64 0) := bc BK265 0
         have hfs105 := blk_frozen BK265.out 0; have hns105_0 := NB246_265.out; have hns105_1 := NB247_265.out; have hns105_2 := NB263_265.out; have hns105_3 := NB264_265.out; have hms105_0 := NB265_246.out; have hms105_1 := NB265_247.out; have hms105_2 := NB265_263.out; have hms105_3 := NB265_264.out
         have hs106 : w100.cell? ⟨gb265, 1, none⟩ = some (.int .i64 0) := bc BK265 1
         have hfs106 := blk_frozen BK265.out 1; have hns106_0 := NB246_265.out; have hns106_1 := NB247_265.out; have hns106_2 := NB263_265.out; have hns106_3 := NB264_265.out; have hms106_0 := NB265_246.out; have hms106_1 := NB265_247.out; have hms106_2 := NB265_263.out; have hms106_3 := NB265_264.out
         have hs107 : w100.cell? ⟨gb265, 2, none⟩ = some (.int .i64 0) := bc BK265 2
         have hfs107 := blk_frozen BK265.out 2; have hns107_0 := NB246_265.out; have hns107_1 := NB247_265.out; have hns107_2 := NB263_265.out; have hns107_3 := NB264_265.out; have hms107_0 := NB265_246.out; have hms107_1 := NB265_247.out; have hms107_2 := NB265_263.out; have hms107_3 := NB265_264.out
         have hs108 : w100.cell? ⟨gb265, 3, none⟩ = some (.int .i64 0) := bc BK265 3
         have hfs108 := blk_frozen BK265.out 3; have hns108_0 := NB246_265.out; have hns108_1 := NB247_265.out; have hns108_2 := NB263_265.out; have hns108_3 := NB264_265.out; have hms108_0 := NB265_246.out; have hms108_1 := NB265_247.out; have hms108_2 := NB265_263.out; have hms108_3 := NB265_264.out
         refine skip_ (w1 := ?_) (by rfl) rfl ?_ ?_
         rotate_left
         ·go_simp
          rfl
         refine hK.out _ _ ⟨(cf NB246_265 ((cf NB246_265 ((cf NB246_265 ((cf NB246_265 (hHeld.1)))))))), (cf NB246_265 ((cf NB246_265 ((cf NB246_265 ((cf NB246_265 (hHeld.2.1)))))))), (cf NB246_265 ((cf NB246_265 ((cf NB246_265 ((cf NB246_265 (hHeld.2.2.1)))))))), (cf NB246_265 ((cf NB246_265 ((cf NB246_265 ((cf NB246_265 (hHeld.2.2.2))))))))⟩ (fun hHeld => ?_)
         clear hK K
         refine done_ (by kernel_rfl) ?_
         have hnb109 := NB264_246.out; have hnc109 := NB246_264.out; have hnb110 := NB264_247.out; have hnc110 := NB247_264.out; have hnb111 := NB264_263.out; have hnc111 := NB263_264.out; have hnb112 := NB264_265.out; have hnc112 := NB265_264.out
         have hcz113_0 : w100.cell? ⟨gb264, 0, none⟩ = some (.int .i64 0) := bc BK264 0
         have hcz113_1 : w100.cell? ⟨gb264, 1, none⟩ = some (.int .i64 0) := bc BK264 1
         have hcz113_2 : w100.cell? ⟨gb264, 2, none⟩ = some (.int .i64 0) := bc BK264 2
         have hcz113_3 : w100.cell? ⟨gb264, 3, none⟩ = some (.int .i64 0) := bc BK264 3
         have hfz113_0 := blk_frozen BK264.out 0; have hfz113_1 := blk_frozen BK264.out 1; have hfz113_2 := blk_frozen BK264.out 2; have hfz113_3 := blk_frozen BK264.out 3; have hnb114 := NB265_246.out; have hnc114 := NB246_265.out; have hnb115 := NB265_247.out; have hnc115 := NB247_265.out; have hnb116 := NB265_263.out; have hnc116 := NB263_265.out
         have hcz117_0 : w100.cell? ⟨gb265, 0, none⟩ = some (.int .i64 0) := bc BK265 0
         have hcz117_1 : w100.cell? ⟨gb265, 1, none⟩ = some (.int .i64 0) := bc BK265 1
         have hcz117_2 : w100.cell? ⟨gb265, 2, none⟩ = some (.int .i64 0) := bc BK265 2
         have hcz117_3 : w100.cell? ⟨gb265, 3, none⟩ = some (.int .i64 0) := bc BK265 3
         have hfz117_0 := blk_frozen BK265.out 0; have hfz117_1 := blk_frozen BK265.out 1; have hfz117_2 := blk_frozen BK265.out 2; have hfz117_3 := blk_frozen BK265.out 3
         try go_wp2
         have n0_ : Aside0 (((((((((((w100.setCell ⟨gb264, 0, none⟩ (.int .i64 a0_0)).setCell ⟨gb264, 1, none⟩ (.int .i64 a0_1)).setCell ⟨gb264, 2, none⟩ (.int .i64 a0_2)).setCell ⟨gb264, 3, none⟩ (.int .i64 a0_3)).setCell ⟨gb265, 0, none⟩ (.int .i64 a0_0)).setCell ⟨gb265, 1, none⟩ (.int .i64 a0_1)).setCell ⟨gb265, 2, none⟩ (.int .i64 a0_2)).setCell ⟨gb265, 3, none⟩ (.int .i64 a0_3)).setCell ⟨gb264, 3, none⟩ (.int .i64 65536)).setCell ⟨gb265, 3, none⟩ (.int .i64 0)).heap[gb246]? = some (.cells #[.int .i64 a0_0, .int .i64 a0_1, .int .i64 a0_2, .int .i64 a0_3] 27 (0, 0))) := ⟨by (with_reducible repeat (first | refine blk_drewN ?_ _ | refine blk_drew ?_ | refine blk_alloc ?_ _)); refine blk_far ?_ NB246_265.out _; (with_reducible repeat (first | refine blk_drewN ?_ _ | refine blk_drew ?_ | refine blk_alloc ?_ _)); refine blk_far ?_ NB246_264.out _; (with_reducible repeat (first | refine blk_drewN ?_ _ | refine blk_drew ?_ | refine blk_alloc ?_ _)); refine blk_far ?_ NB246_265.out _; (with_reducible repeat (first | refine blk_drewN ?_ _ | refine blk_drew ?_ | refine blk_alloc ?_ _)); refine blk_far ?_ NB246_265.out _; (with_reducible repeat (first | refine blk_drewN ?_ _ | refine blk_drew ?_ | refine blk_alloc ?_ _)); refine blk_far ?_ NB246_265.out _; (with_reducible repeat (first | refine blk_drewN ?_ _ | refine blk_drew ?_ | refine blk_alloc ?_ _)); refine blk_far ?_ NB246_265.out _; (with_reducible repeat (first | refine blk_drewN ?_ _ | refine blk_drew ?_ | refine blk_alloc ?_ _)); refine blk_far ?_ NB246_264.out _; (with_reducible repeat (first | refine blk_drewN ?_ _ | refine blk_drew ?_ | refine blk_alloc ?_ _)); refine blk_far ?_ NB246_264.out _; (with_reducible repeat (first | refine blk_drewN ?_ _ | refine blk_drew ?_ | refine blk_alloc ?_ _)); refine blk_far ?_ NB246_264.out _; (with_reducible repeat (first | refine blk_drewN ?_ _ | refine blk_drew ?_ | refine blk_alloc ?_ _)); refine blk_far ?_ NB246_264.out _; (with_reducible repeat (first | refine blk_drewN ?_ _ | refine blk_drew ?_ | refine blk_alloc ?_ _)); exact BK246.out⟩
         have n1_ : Aside0 (((((((((((w100.setCell ⟨gb264, 0, none⟩ (.int .i64 a0_0)).setCell ⟨gb264, 1, none⟩ (.int .i64 a0_1)).setCell ⟨gb264, 2, none⟩ (.int .i64 a0_2)).setCell ⟨gb264, 3, none⟩ (.int .i64 a0_3)).setCell ⟨gb265, 0, none⟩ (.int .i64 a0_0)).setCell ⟨gb265, 1, none⟩ (.int .i64 a0_1)).setCell ⟨gb265, 2, none⟩ (.int .i64 a0_2)).setCell ⟨gb265, 3, none⟩ (.int .i64 a0_3)).setCell ⟨gb264, 3, none⟩ (.int .i64 65536)).setCell ⟨gb265, 3, none⟩ (.int .i64 0)).heap[gb247]? = some (.cells #[.int .i64 a1_0, .int .i64 a1_1, .int .i64 a1_2, .int .i64 a1_3] 27 (0, 0))) := ⟨by (with_reducible repeat (first | refine blk_drewN ?_ _ | refine blk_drew ?_ | refine blk_alloc ?_ _)); refine blk_far ?_ NB247_265.out _; (with_reducible repeat (first | refine blk_drewN ?_ _ | refine blk_drew ?_ | refine blk_alloc ?_ _)); refine blk_far ?_ NB247_264.out _; (with_reducible repeat (first | refine blk_drewN ?_ _ | refine blk_drew ?_ | refine blk_alloc ?_ _)); refine blk_far ?_ NB247_265.out _; (with_reducible repeat (first | refine blk_drewN ?_ _ | refine blk_drew ?_ | refine blk_alloc ?_ _)); refine blk_far ?_ NB247_265.out _; (with_reducible repeat (first | refine blk_drewN ?_ _ | refine blk_drew ?_ | refine blk_alloc ?_ _)); refine blk_far ?_ NB247_265.out _; (with_reducible repeat (first | refine blk_drewN ?_ _ | refine blk_drew ?_ | refine blk_alloc ?_ _)); refine blk_far ?_ NB247_265.out _; (with_reducible repeat (first | refine blk_drewN ?_ _ | refine blk_drew ?_ | refine blk_alloc ?_ _)); refine blk_far ?_ NB247_264.out _; (with_reducible repeat (first | refine blk_drewN ?_ _ | refine blk_drew ?_ | refine blk_alloc ?_ _)); refine blk_far ?_ NB247_264.out _; (with_reducible repeat (first | refine blk_drewN ?_ _ | refine blk_drew ?_ | refine blk_alloc ?_ _)); refine blk_far ?_ NB247_264.out _; (with_reducible repeat (first | refine blk_drewN ?_ _ | refine blk_drew ?_ | refine blk_alloc ?_ _)); refine blk_far ?_ NB247_264.out _; (with_reducible repeat (first | refine blk_drewN ?_ _ | refine blk_drew ?_ | refine blk_alloc ?_ _)); exact BK247.out⟩
         have n2_ : Aside0 (((((((((((w100.setCell ⟨gb264, 0, none⟩ (.int .i64 a0_0)).setCell ⟨gb264, 1, none⟩ (.int .i64 a0_1)).setCell ⟨gb264, 2, none⟩ (.int .i64 a0_2)).setCell ⟨gb264, 3, none⟩ (.int .i64 a0_3)).setCell ⟨gb265, 0, none⟩ (.int .i64 a0_0)).setCell ⟨gb265, 1, none⟩ (.int .i64 a0_1)).setCell ⟨gb265, 2, none⟩ (.int .i64 a0_2)).setCell ⟨gb265, 3, none⟩ (.int .i64 a0_3)).setCell ⟨gb264, 3, none⟩ (.int .i64 65536)).setCell ⟨gb265, 3, none⟩ (.int .i64 0)).heap[gb263]? = some (.cells #[.int .i64 t259, .int .i64 t260, .int .i64 t261, .int .i64 t262] 27 (0, 0))) := ⟨by (with_reducible repeat (first | refine blk_drewN ?_ _ | refine blk_drew ?_ | refine blk_alloc ?_ _)); refine blk_far ?_ NB263_265.out _; (with_reducible repeat (first | refine blk_drewN ?_ _ | refine blk_drew ?_ | refine blk_alloc ?_ _)); refine blk_far ?_ NB263_264.out _; (with_reducible repeat (first | refine blk_drewN ?_ _ | refine blk_drew ?_ | refine blk_alloc ?_ _)); refine blk_far ?_ NB263_265.out _; (with_reducible repeat (first | refine blk_drewN ?_ _ | refine blk_drew ?_ | refine blk_alloc ?_ _)); refine blk_far ?_ NB263_265.out _; (with_reducible repeat (first | refine blk_drewN ?_ _ | refine blk_drew ?_ | refine blk_alloc ?_ _)); refine blk_far ?_ NB263_265.out _; (with_reducible repeat (first | refine blk_drewN ?_ _ | refine blk_drew ?_ | refine blk_alloc ?_ _)); refine blk_far ?_ NB263_265.out _; (with_reducible repeat (first | refine blk_drewN ?_ _ | refine blk_drew ?_ | refine blk_alloc ?_ _)); refine blk_far ?_ NB263_264.out _; (with_reducible repeat (first | refine blk_drewN ?_ _ | refine blk_drew ?_ | refine blk_alloc ?_ _)); refine blk_far ?_ NB263_264.out _; (with_reducible repeat (first | refine blk_drewN ?_ _ | refine blk_drew ?_ | refine blk_alloc ?_ _)); refine blk_far ?_ NB263_264.out _; (with_reducible repeat (first | refine blk_drewN ?_ _ | refine blk_drew ?_ | refine blk_alloc ?_ _)); refine blk_far ?_ NB263_264.out _; (with_reducible repeat (first | refine blk_drewN ?_ _ | refine blk_drew ?_ | refine blk_alloc ?_ _)); exact BK263.out⟩
         have n3_ : Aside0 (((((((((((w100.setCell ⟨gb264, 0, none⟩ (.int .i64 a0_0)).setCell ⟨gb264, 1, none⟩ (.int .i64 a0_1)).setCell ⟨gb264, 2, none⟩ (.int .i64 a0_2)).setCell ⟨gb264, 3, none⟩ (.int .i64 a0_3)).setCell ⟨gb265, 0, none⟩ (.int .i64 a0_0)).setCell ⟨gb265, 1, none⟩ (.int .i64 a0_1)).setCell ⟨gb265, 2, none⟩ (.int .i64 a0_2)).setCell ⟨gb265, 3, none⟩ (.int .i64 a0_3)).setCell ⟨gb264, 3, none⟩ (.int .i64 65536)).setCell ⟨gb265, 3, none⟩ (.int .i64 0)).heap[gb264]? = some (.cells #[.int .i64 a0_0, .int .i64 a0_1, .int .i64 a0_2, .int .i64 65536] 27 (0, 0))) := ⟨by (with_reducible repeat (first | refine blk_drewN ?_ _ | refine blk_drew ?_ | refine blk_alloc ?_ _)); refine blk_far ?_ NB264_265.out _; (with_reducible repeat (first | refine blk_drewN ?_ _ | refine blk_drew ?_ | refine blk_alloc ?_ _)); refine blk_put (cs := #[.int .i64 a0_0, .int .i64 a0_1, .int .i64 a0_2, .int .i64 a0_3]) ?_ 3 _ rfl; (with_reducible repeat (first | refine blk_drewN ?_ _ | refine blk_drew ?_ | refine blk_alloc ?_ _)); refine blk_far ?_ NB264_265.out _; (with_reducible repeat (first | refine blk_drewN ?_ _ | refine blk_drew ?_ | refine blk_alloc ?_ _)); refine blk_far ?_ NB264_265.out _; (with_reducible repeat (first | refine blk_drewN ?_ _ | refine blk_drew ?_ | refine blk_alloc ?_ _)); refine blk_far ?_ NB264_265.out _; (with_reducible repeat (first | refine blk_drewN ?_ _ | refine blk_drew ?_ | refine blk_alloc ?_ _)); refine blk_far ?_ NB264_265.out _; (with_reducible repeat (first | refine blk_drewN ?_ _ | refine blk_drew ?_ | refine blk_alloc ?_ _)); refine blk_put (cs := #[.int .i64 a0_0, .int .i64 a0_1, .int .i64 a0_2, .int .i64 0]) ?_ 3 _ rfl; (with_reducible repeat (first | refine blk_drewN ?_ _ | refine blk_drew ?_ | refine blk_alloc ?_ _)); refine blk_put (cs := #[.int .i64 a0_0, .int .i64 a0_1, .int .i64 0, .int .i64 0]) ?_ 2 _ rfl; (with_reducible repeat (first | refine blk_drewN ?_ _ | refine blk_drew ?_ | refine blk_alloc ?_ _)); refine blk_put (cs := #[.int .i64 a0_0, .int .i64 0, .int .i64 0, .int .i64 0]) ?_ 1 _ rfl; (with_reducible repeat (first | refine blk_drewN ?_ _ | refine blk_drew ?_ | refine blk_alloc ?_ _)); refine blk_put (cs := #[.int .i64 0, .int .i64 0, .int .i64 0, .int .i64 0]) ?_ 0 _ rfl; (with_reducible repeat (first | refine blk_drewN ?_ _ | refine blk_drew ?_ | refine blk_alloc ?_ _)); exact BK264.out⟩
         have n4_ : Aside0 (((((((((((w100.setCell ⟨gb264, 0, none⟩ (.int .i64 a0_0)).setCell ⟨gb264, 1, none⟩ (.int .i64 a0_1)).setCell ⟨gb264, 2, none⟩ (.int .i64 a0_2)).setCell ⟨gb264, 3, none⟩ (.int .i64 a0_3)).setCell ⟨gb265, 0, none⟩ (.int .i64 a0_0)).setCell ⟨gb265, 1, none⟩ (.int .i64 a0_1)).setCell ⟨gb265, 2, none⟩ (.int .i64 a0_2)).setCell ⟨gb265, 3, none⟩ (.int .i64 a0_3)).setCell ⟨gb264, 3, none⟩ (.int .i64 65536)).setCell ⟨gb265, 3, none⟩ (.int .i64 0)).heap[gb265]? = some (.cells #[.int .i64 a0_0, .int .i64 a0_1, .int .i64 a0_2, .int .i64 0] 27 (0, 0))) := ⟨by (with_reducible repeat (first | refine blk_drewN ?_ _ | refine blk_drew ?_ | refine blk_alloc ?_ _)); refine blk_put (cs := #[.int .i64 a0_0, .int .i64 a0_1, .int .i64 a0_2, .int .i64 a0_3]) ?_ 3 _ rfl; (with_reducible repeat (first | refine blk_drewN ?_ _ | refine blk_drew ?_ | refine blk_alloc ?_ _)); refine blk_far ?_ NB265_264.out _; (with_reducible repeat (first | refine blk_drewN ?_ _ | refine blk_drew ?_ | refine blk_alloc ?_ _)); refine blk_put (cs := #[.int .i64 a0_0, .int .i64 a0_1, .int .i64 a0_2, .int .i64 0]) ?_ 3 _ rfl; (with_reducible repeat (first | refine blk_drewN ?_ _ | refine blk_drew ?_ | refine blk_alloc ?_ _)); refine blk_put (cs := #[.int .i64 a0_0, .int .i64 a0_1, .int .i64 0, .int .i64 0]) ?_ 2 _ rfl; (with_reducible repeat (first | refine blk_drewN ?_ _ | refine blk_drew ?_ | refine blk_alloc ?_ _)); refine blk_put (cs := #[.int .i64 a0_0, .int .i64 0, .int .i64 0, .int .i64 0]) ?_ 1 _ rfl; (with_reducible repeat (first | refine blk_drewN ?_ _ | refine blk_drew ?_ | refine blk_alloc ?_ _)); refine blk_put (cs := #[.int .i64 0, .int .i64 0, .int .i64 0, .int .i64 0]) ?_ 0 _ rfl; (with_reducible repeat (first | refine blk_drewN ?_ _ | refine blk_drew ?_ | refine blk_alloc ?_ _)); refine blk_far ?_ NB265_264.out _; (with_reducible repeat (first | refine blk_drewN ?_ _ | refine blk_drew ?_ | refine blk_alloc ?_ _)); refine blk_far ?_ NB265_264.out _; (with_reducible repeat (first | refine blk_drewN ?_ _ | refine blk_drew ?_ | refine blk_alloc ?_ _)); refine blk_far ?_ NB265_264.out _; (with_reducible repeat (first | refine blk_drewN ?_ _ | refine blk_drew ?_ | refine blk_alloc ?_ _)); refine blk_far ?_ NB265_264.out _; (with_reducible repeat (first | refine blk_drewN ?_ _ | refine blk_drew ?_ | refine blk_alloc ?_ _)); exact BK265.out⟩
         have n5_ : Aside0 (Below w.heap.size w ((((((((((w100.setCell ⟨gb264, 0, none⟩ (.int .i64 a0_0)).setCell ⟨gb264, 1, none⟩ (.int .i64 a0_1)).setCell ⟨gb264, 2, none⟩ (.int .i64 a0_2)).setCell ⟨gb264, 3, none⟩ (.int .i64 a0_3)).setCell ⟨gb265, 0, none⟩ (.int .i64 a0_0)).setCell ⟨gb265, 1, none⟩ (.int .i64 a0_1)).setCell ⟨gb265, 2, none⟩ (.int .i64 a0_2)).setCell ⟨gb265, 3, none⟩ (.int .i64 a0_3)).setCell ⟨gb264, 3, none⟩ (.int .i64 65536)).setCell ⟨gb265, 3, none⟩ (.int .i64 0))) := ⟨by repeat (first | (with_reducible first | exact HB.out | apply below_alloc | apply pw_below_drewN | apply below_drew1 | refine below_set ?_ GE246.out | refine below_set ?_ GE247.out | refine below_set ?_ GE263.out | refine below_set ?_ GE264.out | refine below_set ?_ GE265.out) | exact HB.out)⟩
         (try clear BK246); (try clear BK247); (try clear BK263); (try clear BK264); (try clear BK265); (try clear HB)
         generalize ((((((((((w100.setCell ⟨gb264, 0, none⟩ (.int .i64 a0_0)).setCell ⟨gb264, 1, none⟩ (.int .i64 a0_1)).setCell ⟨gb264, 2, none⟩ (.int .i64 a0_2)).setCell ⟨gb264, 3, none⟩ (.int .i64 a0_3)).setCell ⟨gb265, 0, none⟩ (.int .i64 a0_0)).setCell ⟨gb265, 1, none⟩ (.int .i64 a0_1)).setCell ⟨gb265, 2, none⟩ (.int .i64 a0_2)).setCell ⟨gb265, 3, none⟩ (.int .i64 a0_3)).setCell ⟨gb264, 3, none⟩ (.int .i64 65536)).setCell ⟨gb265, 3, none⟩ (.int .i64 0)) = w118 at n0_ n1_ n2_ n3_ n4_ n5_ ⊢
         have BK246 := n0_; have BK247 := n1_; have BK263 := n2_; have BK264 := n3_; have BK265 := n4_; have HB := n5_; clear n0_ n1_ n2_ n3_ n4_ n5_; replace BK246 := Aside0.mk (blk_drew BK246.out); replace BK247 := Aside0.mk (blk_drew BK247.out); replace BK263 := Aside0.mk (blk_drew BK263.out); replace BK264 := Aside0.mk (blk_drew BK264.out); replace BK265 := Aside0.mk (blk_drew BK265.out); replace HB := Aside0.mk (below_drew1 HB.out)
         refine start_ (n := 24) (S := fun w' => w'.cell? ⟨gb264, 0, none⟩ = some (.int .i64 a0_0) ∧ w'.cell? ⟨gb264, 1, none⟩ = some (.int .i64 a0_1) ∧ w'.cell? ⟨gb264, 2, none⟩ = some (.int .i64 a0_2) ∧ w'.cell? ⟨gb264, 3, none⟩ = some (.int .i64 65536) ∧ w'.cell? ⟨gb247, 0, none⟩ = some (.int .i64 a1_0) ∧ w'.cell? ⟨gb247, 1, none⟩ = some (.int .i64 a1_1) ∧ w'.cell? ⟨gb247, 2, none⟩ = some (.int .i64 a1_2) ∧ w'.cell? ⟨gb247, 3, none⟩ = some (.int .i64 a1_3) ∧ w'.cell? ⟨gb265, 0, none⟩ = some (.int .i64 a0_0) ∧ w'.cell? ⟨gb265, 1, none⟩ = some (.int .i64 a0_1) ∧ w'.cell? ⟨gb265, 2, none⟩ = some (.int .i64 a0_2) ∧ w'.cell? ⟨gb265, 3, none⟩ = some (.int .i64 0)) (ds := []) #[false, false, false, false, false, false, false, false, false, false, false, false, false, false, false, false, false, false, false, false, false, false, false, false] (by kernel_rfl) rfl rfl ⟨bc BK264 0, bc BK264 1, bc BK264 2, bc BK264 3, bc BK247 0, bc BK247 1, bc BK247 2, bc BK247 3, bc BK265 0, bc BK265 1, bc BK265 2, bc BK265 3⟩ (fun hHeld => ?_); refine with_tabW frustumlaw40_BlendOver.tab9 frustumlaw40_BlendOver.bits9 (fun HT_ HW_ => ?_)
         generalize w118.drew = w119 at BK246 BK247 BK263 BK264 BK265 HB hHeld ⊢
         refine take_ (i := 1) (N := some 61) (v := ?_) (a' := ?_) #[false, true, false, false, false, false, false, false, false, false, false, false, false, false, false, false, false, false, false, false, false, false, false, false] rfl rfl (take_ofW HT_.out HW_.out (by kernel_rfl)) (fun _ _ _ h => h) (Or.inl ⟨by rfl, ?_⟩) hHeld ?_ ?_
         rotate_left
         ·rintro w' ⟨s0, s1, s2, s3, s4, s5, s6, s7, s8, s9, s10, s11⟩
          go_simp
          with_reducible rfl
         rotate_left
         ·simp only [Act.put, List.setIfInBounds_toArray, List.set_cons_zero, List.set_cons_succ, i64_w, i32_w]
          rfl
         refine take_ (i := 2) (N := some 62) (v := ?_) (a' := ?_) #[false, true, true, false, false, false, false, false, false, false, false, false, false, false, false, false, false, false, false, false, false, false, false, false] rfl rfl (take_ofW HT_.out HW_.out (by kernel_rfl)) (fun _ _ _ h => h) (Or.inl ⟨by rfl, ?_⟩) hHeld ?_ ?_
         rotate_left
         ·rintro w' ⟨s0, s1, s2, s3, s4, s5, s6, s7, s8, s9, s10, s11⟩
          go_simp
          with_reducible rfl
         rotate_left
         ·simp only [Act.put, List.setIfInBounds_toArray, List.set_cons_zero, List.set_cons_succ, i64_w, i32_w]
          rfl
         refine take_ (i := 4) (N := some 64) (v := ?_) (a' := ?_) #[false, true, true, false, true, false, false, false, false, false, false, false, false, false, false, false, false, false, false, false, false, false, false, false] rfl rfl (take_ofW HT_.out HW_.out (by kernel_rfl)) (fun _ _ _ h => h) (Or.inl ⟨by rfl, ?_⟩) hHeld ?_ ?_
         rotate_left
         ·rintro w' ⟨s0, s1, s2, s3, s4, s5, s6, s7, s8, s9, s10, s11⟩
          go_simp
          with_reducible rfl
         rotate_left
         ·simp only [Act.put, List.setIfInBounds_toArray, List.set_cons_zero, List.set_cons_succ, i64_w, i32_w]
          rfl
         refine one_ (i := 0) (N := some 60) #[true, true, true, false, true, false, false, false, false, false, false, false, false, false, false, false, false, false, false, false, false, false, false, false] rfl rfl (one_of HT_.out (by kernel_rfl)) (by decide) (fun K hK => ?_)
         refine goes_ Try.func16 (by kernel_rfl) rfl #[] (by rfl) rfl rfl (by (try simp only [List.map_toArray, List.map_cons, List.map_nil]); first | done | rfl | (simp only [List.length_drop, List.length_take]; rfl)) ?_
         with_reducible refine (frustumlaw40_over.calls  t266 t267 t268 t269 t270 t271 t272 t273 _ A62.out).mono ?_; rintro e w120 ⟨rfl, hb⟩; refine ⟨_, rfl, ?_⟩; replace BK246 := ub BK246 hb; replace BK247 := ub BK247 hb; replace BK263 := ub BK263 hb; replace BK264 := ub BK264 hb; replace BK265 := ub BK265 hb; replace HB := bs HB hb; (try clear hb); (try clear hb2); (try clear hk); (try clear hi)
         refine hK.out _ _ ⟨bc BK264 0, bc BK264 1, bc BK264 2, bc BK264 3, bc BK247 0, bc BK247 1, bc BK247 2, bc BK247 3, bc BK265 0, bc BK265 1, bc BK265 2, bc BK265 3⟩ (fun hHeld => ?_)
         clear hK K
         refine norm_ (a' := ?_) ?_ ?_
         rotate_left
         ·show Act.put _ (some 60) _ = _
          simp only [Act.put, List.setIfInBounds_toArray, List.set_cons_zero, List.set_cons_succ, i64_w, i32_w]
          rfl
         refine one_ (i := 3) (N := some 63) #[true, true, true, true, true, false, false, false, false, false, false, false, false, false, false, false, false, false, false, false, false, false, false, false] rfl rfl (one_of HT_.out (by kernel_rfl)) (by decide) (fun K hK => ?_)
         refine goes_ Try.func9 (by kernel_rfl) rfl #[.agg #[.bool t266, .int .i64 t267, .int .i64 t268, .int .i64 t269, .int .i64 t270, .int .i64 t271, .int .i64 t272, .int .i64 t273], .agg #[.int .i64 a0_0, .int .i64 a0_1, .int .i64 a0_2, .int .i64 65536], .agg #[.int .i64 a1_0, .int .i64 a1_1, .int .i64 a1_2, .int .i64 a1_3]] (by rfl) rfl rfl (by (try simp only [List.map_toArray, List.map_cons, List.map_nil]); first | done | rfl | (simp only [List.length_drop, List.length_take]; rfl)) ?_
         with_reducible refine (blend_Blend.calls kj21 t266 t267 t268 t269 t270 t271 t272 t273 a0_0 a0_1 a0_2 65536 a1_0 a1_1 a1_2 a1_3 t274 t275 t276 t277 _ A63.out).mono ?_; rintro e w121 ⟨rfl, hb⟩; refine ⟨_, rfl, ?_⟩; replace BK246 := ub BK246 hb; replace BK247 := ub BK247 hb; replace BK263 := ub BK263 hb; replace BK264 := ub BK264 hb; replace BK265 := ub BK265 hb; replace HB := bs HB hb; (try clear hb); (try clear hb2); (try clear hk); (try clear hi)
         refine hK.out _ _ ⟨bc BK264 0, bc BK264 1, bc BK264 2, bc BK264 3, bc BK247 0, bc BK247 1, bc BK247 2, bc BK247 3, bc BK265 0, bc BK265 1, bc BK265 2, bc BK265 3⟩ (fun hHeld => ?_)
         clear hK K
         refine norm_ (a' := ?_) ?_ ?_
         rotate_left
         ·show Act.put _ (some 63) _ = _
          simp only [Act.put, List.setIfInBounds_toArray, List.set_cons_zero, List.set_cons_succ, i64_w, i32_w]
          rfl
         refine pure_ (i := 5) (N := some 65) (v := ?_) (a' := ?_) #[true, true, true, true, true, true, false, false, false, false, false, false, false, false, false, false, false, false, false, false, false, false, false, false] rfl rfl (any_of HT_.out (by kernel_rfl)) (fun _ _ _ h => h) (Or.inl ⟨by rfl, ?_⟩) ?_ ?_
         rotate_left
         ·intro w'
          go_simp
          with_reducible rfl
         rotate_left
         ·simp only [Act.put, List.setIfInBounds_toArray, List.set_cons_zero, List.set_cons_succ, i64_w, i32_w]
          rfl
         refine pure_ (i := 6) (N := some 66) (v := ?_) (a' := ?_) #[true, true, true, true, true, true, true, false, false, false, false, false, false, false, false, false, false, false, false, false, false, false, false, false] rfl rfl (any_of HT_.out (by kernel_rfl)) (fun _ _ _ h => h) (Or.inl ⟨by rfl, ?_⟩) ?_ ?_
         rotate_left
         ·intro w'
          go_simp
          with_reducible rfl
         rotate_left
         ·simp only [Act.put, List.setIfInBounds_toArray, List.set_cons_zero, List.set_cons_succ, i64_w, i32_w]
          rfl
         refine pure_ (i := 11) (N := some 71) (v := ?_) (a' := ?_) #[true, true, true, true, true, true, true, false, false, false, false, true, false, false, false, false, false, false, false, false, false, false, false, false] rfl rfl (any_of HT_.out (by kernel_rfl)) (fun _ _ _ h => h) (Or.inl ⟨by rfl, ?_⟩) ?_ ?_
         rotate_left
         ·intro w'
          go_simp
          with_reducible rfl
         rotate_left
         ·simp only [Act.put, List.setIfInBounds_toArray, List.set_cons_zero, List.set_cons_succ, i64_w, i32_w]
          rfl
         refine pure_ (i := 13) (N := some 73) (v := ?_) (a' := ?_) #[true, true, true, true, true, true, true, false, false, false, false, true, false, true, false, false, false, false, false, false, false, false, false, false] rfl rfl (any_of HT_.out (by kernel_rfl)) (fun _ _ _ h => h) (Or.inl ⟨by rfl, ?_⟩) ?_ ?_
         rotate_left
         ·intro w'
          go_simp
          with_reducible rfl
         rotate_left
         ·simp only [Act.put, List.setIfInBounds_toArray, List.set_cons_zero, List.set_cons_succ, i64_w, i32_w]
          rfl
         refine pure_ (i := 15) (N := some 75) (v := ?_) (a' := ?_) #[true, true, true, true, true, true, true, false, false, false, false, true, false, true, false, true, false, false, false, false, false, false, false, false] rfl rfl (any_of HT_.out (by kernel_rfl)) (fun _ _ _ h => h) (Or.inl ⟨by rfl, ?_⟩) ?_ ?_
         rotate_left
         ·intro w'
          go_simp
          with_reducible rfl
         rotate_left
         ·simp only [Act.put, List.setIfInBounds_toArray, List.set_cons_zero, List.set_cons_succ, i64_w, i32_w]
          rfl
         refine take_ (i := 8) (N := some 68) (v := ?_) (a' := ?_) #[true, true, true, true, true, true, true, false, true, false, false, true, false, true, false, true, false, false, false, false, false, false, false, false] rfl rfl (take_ofW HT_.out HW_.out (by kernel_rfl)) (fun _ _ _ h => h) (Or.inl ⟨by rfl, ?_⟩) hHeld ?_ ?_
         rotate_left
         ·rintro w' ⟨s0, s1, s2, s3, s4, s5, s6, s7, s8, s9, s10, s11⟩
          go_simp
          with_reducible rfl
         rotate_left
         ·simp only [Act.put, List.setIfInBounds_toArray, List.set_cons_zero, List.set_cons_succ, i64_w, i32_w]
          rfl
         refine take_ (i := 9) (N := some 69) (v := ?_) (a' := ?_) #[true, true, true, true, true, true, true, false, true, true, false, true, false, true, false, true, false, false, false, false, false, false, false, false] rfl rfl (take_ofW HT_.out HW_.out (by kernel_rfl)) (fun _ _ _ h => h) (Or.inl ⟨by rfl, ?_⟩) hHeld ?_ ?_
         rotate_left
         ·rintro w' ⟨s0, s1, s2, s3, s4, s5, s6, s7, s8, s9, s10, s11⟩
          go_simp
          with_reducible rfl
         rotate_left
         ·simp only [Act.put, List.setIfInBounds_toArray, List.set_cons_zero, List.set_cons_succ, i64_w, i32_w]
          rfl
         refine take_ (i := 12) (N := some 72) (v := ?_) (a' := ?_) #[true, true, true, true, true, true, true, false, true, true, false, true, true, true, false, true, false, false, false, false, false, false, false, false] rfl rfl (take_ofW HT_.out HW_.out (by kernel_rfl)) (fun _ _ _ h => h) (Or.inl ⟨by rfl, ?_⟩) hHeld ?_ ?_
         rotate_left
         ·rintro w' ⟨s0, s1, s2, s3, s4, s5, s6, s7, s8, s9, s10, s11⟩
          go_simp
          with_reducible rfl
         rotate_left
         ·simp only [Act.put, List.setIfInBounds_toArray, List.set_cons_zero, List.set_cons_succ, i64_w, i32_w]
          rfl
         refine take_ (i := 14) (N := some 74) (v := ?_) (a' := ?_) #[true, true, true, true, true, true, true, false, true, true, false, true, true, true, true, true, false, false, false, false, false, false, false, false] rfl rfl (take_ofW HT_.out HW_.out (by kernel_rfl)) (fun _ _ _ h => h) (Or.inl ⟨by rfl, ?_⟩) hHeld ?_ ?_
         rotate_left
         ·rintro w' ⟨s0, s1, s2, s3, s4, s5, s6, s7, s8, s9, s10, s11⟩
          go_simp
          with_reducible rfl
         rotate_left
         ·simp only [Act.put, List.setIfInBounds_toArray, List.set_cons_zero, List.set_cons_succ, i64_w, i32_w]
          rfl
         refine take_ (i := 16) (N := some 76) (v := ?_) (a' := ?_) #[true, true, true, true, true, true, true, false, true, true, false, true, true, true, true, true, true, false, false, false, false, false, false, false] rfl rfl (take_ofW HT_.out HW_.out (by kernel_rfl)) (fun _ _ _ h => h) (Or.inl ⟨by rfl, ?_⟩) hHeld ?_ ?_
         rotate_left
         ·rintro w' ⟨s0, s1, s2, s3, s4, s5, s6, s7, s8, s9, s10, s11⟩
          go_simp
          with_reducible rfl
         rotate_left
         ·simp only [Act.put, List.setIfInBounds_toArray, List.set_cons_zero, List.set_cons_succ, i64_w, i32_w]
          rfl
         refine pure_ (i := 17) (N := some 77) (v := ?_) (a' := ?_) #[true, true, true, true, true, true, true, false, true, true, false, true, true, true, true, true, true, true, false, false, false, false, false, false] rfl rfl (any_of HT_.out (by kernel_rfl)) (fun _ _ _ h => h) (Or.inl ⟨by rfl, ?_⟩) ?_ ?_
         rotate_left
         ·intro w'
          go_simp
          with_reducible rfl
         rotate_left
         ·simp only [Act.put, List.setIfInBounds_toArray, List.set_cons_zero, List.set_cons_succ, i64_w, i32_w]
          rfl
         refine one_ (i := 7) (N := some 67) #[true, true, true, true, true, true, true, true, true, true, false, true, true, true, true, true, true, true, false, false, false, false, false, false] rfl rfl (one_of HT_.out (by kernel_rfl)) (by decide) (fun K hK => ?_)
         refine goes_ Try.func16 (by kernel_rfl) rfl #[] (by rfl) rfl rfl (by (try simp only [List.map_toArray, List.map_cons, List.map_nil]); first | done | rfl | (simp only [List.length_drop, List.length_take]; rfl)) ?_
         with_reducible refine (frustumlaw40_over.calls  t278 t279 t280 t281 t282 t283 t284 t285 _ A65.out).mono ?_; rintro e w122 ⟨rfl, hb⟩; refine ⟨_, rfl, ?_⟩; replace BK246 := ub BK246 hb; replace BK247 := ub BK247 hb; replace BK263 := ub BK263 hb; replace BK264 := ub BK264 hb; replace BK265 := ub BK265 hb; replace HB := bs HB hb; (try clear hb); (try clear hb2); (try clear hk); (try clear hi)
         refine hK.out _ _ ⟨bc BK264 0, bc BK264 1, bc BK264 2, bc BK264 3, bc BK247 0, bc BK247 1, bc BK247 2, bc BK247 3, bc BK265 0, bc BK265 1, bc BK265 2, bc BK265 3⟩ (fun hHeld => ?_)
         clear hK K
         refine norm_ (a' := ?_) ?_ ?_
         rotate_left
         ·show Act.put _ (some 67) _ = _
          simp only [Act.put, List.setIfInBounds_toArray, List.set_cons_zero, List.set_cons_succ, i64_w, i32_w]
          rfl
         refine one_ (i := 10) (N := some 70) #[true, true, true, true, true, true, true, true, true, true, true, true, true, true, true, true, true, true, false, false, false, false, false, false] rfl rfl (one_of HT_.out (by kernel_rfl)) (by decide) (fun K hK => ?_)
         refine goes_ Try.func9 (by kernel_rfl) rfl #[.agg #[.bool t278, .int .i64 t279, .int .i64 t280, .int .i64 t281, .int .i64 t282, .int .i64 t283, .int .i64 t284, .int .i64 t285], .agg #[.int .i64 a0_0, .int .i64 a0_1, .int .i64 a0_2, .int .i64 0], .agg #[.int .i64 a1_0, .int .i64 a1_1, .int .i64 a1_2, .int .i64 a1_3]] (by rfl) rfl rfl (by (try simp only [List.map_toArray, List.map_cons, List.map_nil]); first | done | rfl | (simp only [List.length_drop, List.length_take]; rfl)) ?_
         with_reducible refine (blend_Blend.calls kj21 t278 t279 t280 t281 t282 t283 t284 t285 a0_0 a0_1 a0_2 0 a1_0 a1_1 a1_2 a1_3 t286 t287 t288 t289 _ A66.out).mono ?_; rintro e w123 ⟨rfl, hb⟩; refine ⟨_, rfl, ?_⟩; replace BK246 := ub BK246 hb; replace BK247 := ub BK247 hb; replace BK263 := ub BK263 hb; replace BK264 := ub BK264 hb; replace BK265 := ub BK265 hb; replace HB := bs HB hb; (try clear hb); (try clear hb2); (try clear hk); (try clear hi)
         refine hK.out _ _ ⟨bc BK264 0, bc BK264 1, bc BK264 2, bc BK264 3, bc BK247 0, bc BK247 1, bc BK247 2, bc BK247 3, bc BK265 0, bc BK265 1, bc BK265 2, bc BK265 3⟩ (fun hHeld => ?_)
         clear hK K
         refine norm_ (a' := ?_) ?_ ?_
         rotate_left
         ·show Act.put _ (some 70) _ = _
          simp only [Act.put, List.setIfInBounds_toArray, List.set_cons_zero, List.set_cons_succ, i64_w, i32_w]
          rfl
         refine pure_ (i := 18) (N := some 78) (v := ?_) (a' := ?_) #[true, true, true, true, true, true, true, true, true, true, true, true, true, true, true, true, true, true, true, false, false, false, false, false] rfl rfl (any_of HT_.out (by kernel_rfl)) (fun _ _ _ h => h) (Or.inl ⟨by rfl, ?_⟩) ?_ ?_
         rotate_left
         ·intro w'
          go_simp
          with_reducible rfl
         rotate_left
         ·simp only [Act.put, List.setIfInBounds_toArray, List.set_cons_zero, List.set_cons_succ, i64_w, i32_w]
          rfl
         refine pure_ (i := 19) (N := some 79) (v := ?_) (a' := ?_) #[true, true, true, true, true, true, true, true, true, true, true, true, true, true, true, true, true, true, true, true, false, false, false, false] rfl rfl (any_of HT_.out (by kernel_rfl)) (fun _ _ _ h => h) (Or.inl ⟨by rfl, ?_⟩) ?_ ?_
         rotate_left
         ·intro w'
          go_simp
          with_reducible rfl
         rotate_left
         ·simp only [Act.put, List.setIfInBounds_toArray, List.set_cons_zero, List.set_cons_succ, i64_w, i32_w]
          rfl
         refine pure_ (i := 20) (N := some 80) (v := ?_) (a' := ?_) #[true, true, true, true, true, true, true, true, true, true, true, true, true, true, true, true, true, true, true, true, true, false, false, false] rfl rfl (any_of HT_.out (by kernel_rfl)) (fun _ _ _ h => h) (Or.inl ⟨by rfl, ?_⟩) ?_ ?_
         rotate_left
         ·intro w'
          go_simp
          with_reducible rfl
         rotate_left
         ·simp only [Act.put, List.setIfInBounds_toArray, List.set_cons_zero, List.set_cons_succ, i64_w, i32_w]
          rfl
         refine pure_ (i := 21) (N := some 81) (v := undef) (a' := ?_) #[true, true, true, true, true, true, true, true, true, true, true, true, true, true, true, true, true, true, true, true, true, true, false, false] rfl rfl (any_of HT_.out (by kernel_rfl)) (fun _ _ _ h => h) (Or.inr ⟨by rfl, rfl⟩) ?_ ?_
         rotate_left
         ·simp only [Act.put, List.setIfInBounds_toArray, List.set_cons_zero, List.set_cons_succ, i64_w, i32_w]
          rfl
         refine pure_ (i := 22) (N := some 82) (v := ?_) (a' := ?_) #[true, true, true, true, true, true, true, true, true, true, true, true, true, true, true, true, true, true, true, true, true, true, true, false] rfl rfl (any_of HT_.out (by kernel_rfl)) (fun _ _ _ h => h) (Or.inl ⟨by rfl, ?_⟩) ?_ ?_
         rotate_left
         ·intro w'
          go_simp
          with_reducible rfl
         rotate_left
         ·simp only [Act.put, List.setIfInBounds_toArray, List.set_cons_zero, List.set_cons_succ, i64_w, i32_w]
          rfl
         refine pure_ (i := 23) (N := some 4) (v := ?_) (a' := ?_) #[true, true, true, true, true, true, true, true, true, true, true, true, true, true, true, true, true, true, true, true, true, true, true, true] rfl rfl (any_of HT_.out (by kernel_rfl)) (fun _ _ _ h => h) (Or.inl ⟨by rfl, ?_⟩) ?_ ?_
         rotate_left
         ·intro w'
          go_simp
          with_reducible rfl
         rotate_left
         ·simp only [Act.put, List.setIfInBounds_toArray, List.set_cons_zero, List.set_cons_succ, i64_w, i32_w]
          rfl
         refine done_ (done_of HT_.out (by kernel_rfl)) ?_
         try go_wp2
         go_ret
         exact ⟨by first | rfl | (simp [errW_none, errW_some] <;> rfl) | (simp [*, errW_none, errW_some] <;> rfl), by repeat (first | (with_reducible first | exact HB.out | apply below_alloc | apply pw_below_drewN | apply below_drew1 | refine below_set ?_ GE246.out | refine below_set ?_ GE247.out | refine below_set ?_ GE263.out | refine below_set ?_ GE264.out | refine below_set ?_ GE265.out) | exact HB.out)⟩
       ·rw [if_neg c64] at H
        have c64b0 : (t274 == a0_0 && (t275 == a0_1 && (t276 == a0_2 && (t277 == 65536)))) = false := by simpa using c64
        (try (have c64b1 : decide (t274 = a0_0 && (t275 == a0_1 && (t276 == a0_2 && (t277 == 65536)))) = false := by simpa using c64))
        (try (have c64b2 : (t274 == a0_0 && (t275 == a0_1 && (t276 == a0_2 && (t277 == 65536)))) = false := by simpa using c64))
        (try (have c64b3 : ¬ (t274 = a0_0 && (t275 == a0_1 && (t276 == a0_2 && (t277 == 65536)))) := by simpa using c64))
        clear c64
        obtain rfl := Option.some.inj H
        try go_wp2
        replace BK246 := Aside0.mk (blk_drew BK246.out); replace BK247 := Aside0.mk (blk_drew BK247.out); replace BK263 := Aside0.mk (blk_drew BK263.out); replace HB := Aside0.mk (below_drew1 HB.out)
        refine start_ (n := 6) (S := fun w' => w'.cell? ⟨gb246, 0, none⟩ = some (.int .i64 a0_0) ∧ w'.cell? ⟨gb246, 1, none⟩ = some (.int .i64 a0_1) ∧ w'.cell? ⟨gb246, 2, none⟩ = some (.int .i64 a0_2) ∧ w'.cell? ⟨gb246, 3, none⟩ = some (.int .i64 a0_3)) (ds := []) #[false, false, false, false, false, false] (by kernel_rfl) rfl rfl ⟨bc BK246 0, bc BK246 1, bc BK246 2, bc BK246 3⟩ (fun hHeld => ?_)
        generalize wc.drew = w124 at BK246 BK247 BK263 HB hHeld ⊢
        refine take_ (i := 0) (N := some 56) (v := ?_) (a' := ?_) #[true, false, false, false, false, false] rfl rfl (by kernel_rfl) (fun _ _ _ h => h) (Or.inl ⟨by rfl, ?_⟩) hHeld ?_ ?_
        rotate_left
        ·rintro w' ⟨s0, s1, s2, s3⟩
         go_simp
         with_reducible rfl
        rotate_left
        ·simp only [Act.put, List.setIfInBounds_toArray, List.set_cons_zero, List.set_cons_succ, i64_w, i32_w]
         rfl
        refine take_ (i := 1) (N := some 57) (v := ?_) (a' := ?_) #[true, true, false, false, false, false] rfl rfl (by kernel_rfl) (fun _ _ _ h => h) (Or.inl ⟨by rfl, ?_⟩) hHeld ?_ ?_
        rotate_left
        ·rintro w' ⟨s0, s1, s2, s3⟩
         go_simp
         with_reducible rfl
        rotate_left
        ·simp only [Act.put, List.setIfInBounds_toArray, List.set_cons_zero, List.set_cons_succ, i64_w, i32_w]
         rfl
        refine join_ (σ := Nat × Nat) 2 #[true, true, true, true, false, false] (fun s_ => [(6, .pointer (some ⟨s_.1, 0, none⟩)), (7, .pointer (some ⟨s_.2, 0, none⟩))]) (fun s_ w' => (w'.cell? ⟨gb246, 0, none⟩ = some (.int .i64 a0_0) ∧ w'.cell? ⟨gb246, 1, none⟩ = some (.int .i64 a0_1) ∧ w'.cell? ⟨gb246, 2, none⟩ = some (.int .i64 a0_2) ∧ w'.cell? ⟨gb246, 3, none⟩ = some (.int .i64 a0_3)) ∧ (w'.heap[gb246]? = some (.cells #[.int .i64 a0_0, .int .i64 a0_1, .int .i64 a0_2, .int .i64 a0_3] 27 (0, 0))) ∧ (w'.heap[gb247]? = some (.cells #[.int .i64 a1_0, .int .i64 a1_1, .int .i64 a1_2, .int .i64 a1_3] 27 (0, 0))) ∧ (w'.heap[gb263]? = some (.cells #[.int .i64 t259, .int .i64 t260, .int .i64 t261, .int .i64 t262] 27 (0, 0))) ∧ (w'.heap[s_.1]? = some (.cells #[.int .i64 0, .int .i64 0, .int .i64 0, .int .i64 0] 27 (0, 0))) ∧ (w'.heap[s_.2]? = some (.cells #[.int .i64 0, .int .i64 0, .int .i64 0, .int .i64 0] 27 (0, 0))) ∧ (w.heap.size ≤ s_.1) ∧ (w.heap.size ≤ s_.1) ∧ (gb246 ≠ s_.1) ∧ (s_.1 ≠ gb246) ∧ (gb247 ≠ s_.1) ∧ (s_.1 ≠ gb247) ∧ (gb263 ≠ s_.1) ∧ (s_.1 ≠ gb263) ∧ (s_.2 ≠ s_.1) ∧ (s_.1 ≠ s_.2) ∧ (w.heap.size ≤ s_.2) ∧ (w.heap.size ≤ s_.2) ∧ (gb246 ≠ s_.2) ∧ (s_.2 ≠ gb246) ∧ (gb247 ≠ s_.2) ∧ (s_.2 ≠ gb247) ∧ (gb263 ≠ s_.2) ∧ (s_.2 ≠ gb263) ∧ (Below w.heap.size w w')) ?_ ?_
        rotate_left
        ·intro hCont
         refine two_ (i := 2) (j := 3) (Ni := some 6) (Nj := some 7) #[true, true, true, false, false, false] #[true, true, false, true, false, false] rfl rfl rfl rfl (by kernel_rfl) (by decide) (by decide) (fun K hK => ?_) (fun K hK => ?_)
         ·skip
          refine box_step ?hg (N := 6) ?hd (cs := #[.int .i64 0, .int .i64 0, .int .i64 0, .int .i64 0]) (t := 27) ?hr ?_; (case hd => rfl); (case hg => rfl); (case hr => first | (go_simp; done) | (go_simp; rfl))
          intro gb264 hg w125 hbox hb
          have BK264 := Aside0.mk (hbox); have GW264 := ws HB hg; have GE264 := ws HB hg; have NB246_264 := nl BK246 hg; have NB264_246 := ng BK246 hg; have NB247_264 := nl BK247 hg; have NB264_247 := ng BK247 hg; have NB263_264 := nl BK263 hg; have NB264_263 := ng BK263 hg; replace BK246 := ub BK246 hb; replace BK247 := ub BK247 hb; replace BK263 := ub BK263 hb; replace HB := bs HB hb; clear hb hbox hg
          refine hK.out _ _ ⟨bc BK246 0, bc BK246 1, bc BK246 2, bc BK246 3⟩ (fun hHeld => ?_)
          clear hK K
          refine norm_ (a' := ?_) ?_ ?_
          rotate_left
          ·show Act.put _ (some 6) _ = _
           simp only [Act.put, List.setIfInBounds_toArray, List.set_cons_zero, List.set_cons_succ, i64_w, i32_w]
           rfl
          refine one_ (i := 3) (N := some 7) #[true, true, true, true, false, false] rfl rfl (by kernel_rfl) (by decide) (fun K hK => ?_)
          refine box_step ?hg (N := 7) ?hd (cs := #[.int .i64 0, .int .i64 0, .int .i64 0, .int .i64 0]) (t := 27) ?hr ?_; (case hd => rfl); (case hg => rfl); (case hr => first | (go_simp; done) | (go_simp; rfl))
          intro gb265 hg w126 hbox hb
          have BK265 := Aside0.mk (hbox); have GW265 := ws HB hg; have GE265 := ws HB hg; have NB246_265 := nl BK246 hg; have NB265_246 := ng BK246 hg; have NB247_265 := nl BK247 hg; have NB265_247 := ng BK247 hg; have NB263_265 := nl BK263 hg; have NB265_263 := ng BK263 hg; have NB264_265 := nl BK264 hg; have NB265_264 := ng BK264 hg; replace BK246 := ub BK246 hb; replace BK247 := ub BK247 hb; replace BK263 := ub BK263 hb; replace BK264 := ub BK264 hb; replace HB := bs HB hb; clear hb hbox hg
          refine hK.out _ _ ⟨bc BK246 0, bc BK246 1, bc BK246 2, bc BK246 3⟩ (fun hHeld => ?_)
          clear hK K
          refine norm_ (a' := ?_) ?_ ?_
          rotate_left
          ·show Act.put _ (some 7) _ = _
           simp only [Act.put, List.setIfInBounds_toArray, List.set_cons_zero, List.set_cons_succ, i64_w, i32_w]
           rfl
          exact norm_ (by simp only [putAll, Act.put, List.setIfInBounds_toArray, List.set_cons_zero, List.set_cons_succ]) (hCont (gb264, gb265) _ ⟨hHeld, BK246.out, BK247.out, BK263.out, BK264.out, BK265.out, GW264.out, GE264.out, NB246_264.out, NB264_246.out, NB247_264.out, NB264_247.out, NB263_264.out, NB264_263.out, NB265_264.out, NB264_265.out, GW265.out, GE265.out, NB246_265.out, NB265_246.out, NB247_265.out, NB265_247.out, NB263_265.out, NB265_263.out, (by repeat (first | (with_reducible first | exact HB.out | apply below_alloc | apply pw_below_drewN | apply below_drew1 | refine below_setA ?_ (by assumption)) | exact HB.out))⟩)
         ·skip
          refine box_step ?hg (N := 7) ?hd (cs := #[.int .i64 0, .int .i64 0, .int .i64 0, .int .i64 0]) (t := 27) ?hr ?_; (case hd => rfl); (case hg => rfl); (case hr => first | (go_simp; done) | (go_simp; rfl))
          intro gb265 hg w125 hbox hb
          have BK265 := Aside0.mk (hbox); have GW265 := ws HB hg; have GE265 := ws HB hg; have NB246_265 := nl BK246 hg; have NB265_246 := ng BK246 hg; have NB247_265 := nl BK247 hg; have NB265_247 := ng BK247 hg; have NB263_265 := nl BK263 hg; have NB265_263 := ng BK263 hg; replace BK246 := ub BK246 hb; replace BK247 := ub BK247 hb; replace BK263 := ub BK263 hb; replace HB := bs HB hb; clear hb hbox hg
          refine hK.out _ _ ⟨bc BK246 0, bc BK246 1, bc BK246 2, bc BK246 3⟩ (fun hHeld => ?_)
          clear hK K
          refine norm_ (a' := ?_) ?_ ?_
          rotate_left
          ·show Act.put _ (some 7) _ = _
           simp only [Act.put, List.setIfInBounds_toArray, List.set_cons_zero, List.set_cons_succ, i64_w, i32_w]
           rfl
          refine one_ (i := 2) (N := some 6) #[true, true, true, true, false, false] rfl rfl (by kernel_rfl) (by decide) (fun K hK => ?_)
          refine box_step ?hg (N := 6) ?hd (cs := #[.int .i64 0, .int .i64 0, .int .i64 0, .int .i64 0]) (t := 27) ?hr ?_; (case hd => rfl); (case hg => rfl); (case hr => first | (go_simp; done) | (go_simp; rfl))
          intro gb264 hg w126 hbox hb
          have BK264 := Aside0.mk (hbox); have GW264 := ws HB hg; have GE264 := ws HB hg; have NB246_264 := nl BK246 hg; have NB264_246 := ng BK246 hg; have NB247_264 := nl BK247 hg; have NB264_247 := ng BK247 hg; have NB263_264 := nl BK263 hg; have NB264_263 := ng BK263 hg; have NB265_264 := nl BK265 hg; have NB264_265 := ng BK265 hg; replace BK246 := ub BK246 hb; replace BK247 := ub BK247 hb; replace BK263 := ub BK263 hb; replace BK265 := ub BK265 hb; replace HB := bs HB hb; clear hb hbox hg
          refine hK.out _ _ ⟨bc BK246 0, bc BK246 1, bc BK246 2, bc BK246 3⟩ (fun hHeld => ?_)
          clear hK K
          refine norm_ (a' := ?_) ?_ ?_
          rotate_left
          ·show Act.put _ (some 6) _ = _
           simp only [Act.put, List.setIfInBounds_toArray, List.set_cons_zero, List.set_cons_succ, i64_w, i32_w]
           rfl
          exact norm_ (by simp only [putAll, Act.put, List.setIfInBounds_toArray, List.set_cons_zero, List.set_cons_succ]) (hCont (gb264, gb265) _ ⟨hHeld, BK246.out, BK247.out, BK263.out, BK264.out, BK265.out, GW264.out, GE264.out, NB246_264.out, NB264_246.out, NB247_264.out, NB264_247.out, NB263_264.out, NB264_263.out, NB265_264.out, NB264_265.out, GW265.out, GE265.out, NB246_265.out, NB265_246.out, NB247_265.out, NB265_247.out, NB263_265.out, NB265_263.out, (by repeat (first | (with_reducible first | exact HB.out | apply below_alloc | apply pw_below_drewN | apply below_drew1 | refine below_setA ?_ (by assumption)) | exact HB.out))⟩)
        rintro ⟨gb264, gb265⟩ w127 ⟨hS_, h0_, h1_, h2_, h3_, h4_, h5_, h6_, h7_, h8_, h9_, h10_, h11_, h12_, h13_, h14_, h15_, h16_, h17_, h18_, h19_, h20_, h21_, h22_, h23_⟩; have BK264 := Aside0.mk h3_; have BK265 := Aside0.mk h4_; have GW264 := Aside0.mk h5_; have GE264 := Aside0.mk h6_; have NB246_264 := Aside0.mk h7_; have NB264_246 := Aside0.mk h8_; have NB247_264 := Aside0.mk h9_; have NB264_247 := Aside0.mk h10_; have NB263_264 := Aside0.mk h11_; have NB264_263 := Aside0.mk h12_; have NB265_264 := Aside0.mk h13_; have NB264_265 := Aside0.mk h14_; have GW265 := Aside0.mk h15_; have GE265 := Aside0.mk h16_; have NB246_265 := Aside0.mk h17_; have NB265_246 := Aside0.mk h18_; have NB247_265 := Aside0.mk h19_; have NB265_247 := Aside0.mk h20_; have NB263_265 := Aside0.mk h21_; have NB265_263 := Aside0.mk h22_; replace BK246 := Aside0.mk h0_; replace BK247 := Aside0.mk h1_; replace BK263 := Aside0.mk h2_; replace HB := Aside0.mk h23_; clear h0_ h1_ h2_ h3_ h4_ h5_ h6_ h7_ h8_ h9_ h10_ h11_ h12_ h13_ h14_ h15_ h16_ h17_ h18_ h19_ h20_ h21_ h22_ h23_; have hHeld := hS_
        refine norm_ (a' := ?_) ?_ ?_
        rotate_left
        ·simp only [putAll, Act.put, List.setIfInBounds_toArray, List.set_cons_zero, List.set_cons_succ]
         rfl
        refine one_ (i := 4) (N := none) #[true, true, true, true, true, false] rfl rfl (by kernel_rfl) (by decide) (fun K hK => ?_)
        have hs128 : w127.cell? ⟨gb264, 0, none⟩ = some (.int .i64 0) := bc BK264 0
        have hfs128 := blk_frozen BK264.out 0; have hns128_0 := NB246_264.out; have hns128_1 := NB247_264.out; have hns128_2 := NB263_264.out; have hns128_4 := NB265_264.out; have hms128_0 := NB264_246.out; have hms128_1 := NB264_247.out; have hms128_2 := NB264_263.out; have hms128_4 := NB264_265.out
        have hs129 : w127.cell? ⟨gb264, 1, none⟩ = some (.int .i64 0) := bc BK264 1
        have hfs129 := blk_frozen BK264.out 1; have hns129_0 := NB246_264.out; have hns129_1 := NB247_264.out; have hns129_2 := NB263_264.out; have hns129_4 := NB265_264.out; have hms129_0 := NB264_246.out; have hms129_1 := NB264_247.out; have hms129_2 := NB264_263.out; have hms129_4 := NB264_265.out
        have hs130 : w127.cell? ⟨gb264, 2, none⟩ = some (.int .i64 0) := bc BK264 2
        have hfs130 := blk_frozen BK264.out 2; have hns130_0 := NB246_264.out; have hns130_1 := NB247_264.out; have hns130_2 := NB263_264.out; have hns130_4 := NB265_264.out; have hms130_0 := NB264_246.out; have hms130_1 := NB264_247.out; have hms130_2 := NB264_263.out; have hms130_4 := NB264_265.out
        have hs131 : w127.cell? ⟨gb264, 3, none⟩ = some (.int .i64 0) := bc BK264 3
        have hfs131 := blk_frozen BK264.out 3; have hns131_0 := NB246_264.out; have hns131_1 := NB247_264.out; have hns131_2 := NB263_264.out; have hns131_4 := NB265_264.out; have hms131_0 := NB264_246.out; have hms131_1 := NB264_247.out; have hms131_2 := NB264_263.out; have hms131_4 := NB264_265.out
        refine skip_ (w1 := ?_) (by rfl) rfl ?_ ?_
        rotate_left
        ·go_simp
         rfl
        refine hK.out _ _ ⟨(cf NB246_264 ((cf NB246_264 ((cf NB246_264 ((cf NB246_264 (hHeld.1)))))))), (cf NB246_264 ((cf NB246_264 ((cf NB246_264 ((cf NB246_264 (hHeld.2.1)))))))), (cf NB246_264 ((cf NB246_264 ((cf NB246_264 ((cf NB246_264 (hHeld.2.2.1)))))))), (cf NB246_264 ((cf NB246_264 ((cf NB246_264 ((cf NB246_264 (hHeld.2.2.2))))))))⟩ (fun hHeld => ?_)
        clear hK K
        refine one_ (i := 5) (N := none) #[true, true, true, true, true, true] rfl rfl (by kernel_rfl) (by decide) (fun K hK => ?_)
        have hs132 : w127.cell? ⟨gb265, 0, none⟩ = some (.int .i64 0) := bc BK265 0
        have hfs132 := blk_frozen BK265.out 0; have hns132_0 := NB246_265.out; have hns132_1 := NB247_265.out; have hns132_2 := NB263_265.out; have hns132_3 := NB264_265.out; have hms132_0 := NB265_246.out; have hms132_1 := NB265_247.out; have hms132_2 := NB265_263.out; have hms132_3 := NB265_264.out
        have hs133 : w127.cell? ⟨gb265, 1, none⟩ = some (.int .i64 0) := bc BK265 1
        have hfs133 := blk_frozen BK265.out 1; have hns133_0 := NB246_265.out; have hns133_1 := NB247_265.out; have hns133_2 := NB263_265.out; have hns133_3 := NB264_265.out; have hms133_0 := NB265_246.out; have hms133_1 := NB265_247.out; have hms133_2 := NB265_263.out; have hms133_3 := NB265_264.out
        have hs134 : w127.cell? ⟨gb265, 2, none⟩ = some (.int .i64 0) := bc BK265 2
        have hfs134 := blk_frozen BK265.out 2; have hns134_0 := NB246_265.out; have hns134_1 := NB247_265.out; have hns134_2 := NB263_265.out; have hns134_3 := NB264_265.out; have hms134_0 := NB265_246.out; have hms134_1 := NB265_247.out; have hms134_2 := NB265_263.out; have hms134_3 := NB265_264.out
        have hs135 : w127.cell? ⟨gb265, 3, none⟩ = some (.int .i64 0) := bc BK265 3
        have hfs135 := blk_frozen BK265.out 3; have hns135_0 := NB246_265.out; have hns135_1 := NB247_265.out; have hns135_2 := NB263_265.out; have hns135_3 := NB264_265.out; have hms135_0 := NB265_246.out; have hms135_1 := NB265_247.out; have hms135_2 := NB265_263.out; have hms135_3 := NB265_264.out
        refine skip_ (w1 := ?_) (by rfl) rfl ?_ ?_
        rotate_left
        ·go_simp
         rfl
        refine hK.out _ _ ⟨(cf NB246_265 ((cf NB246_265 ((cf NB246_265 ((cf NB246_265 (hHeld.1)))))))), (cf NB246_265 ((cf NB246_265 ((cf NB246_265 ((cf NB246_265 (hHeld.2.1)))))))), (cf NB246_265 ((cf NB246_265 ((cf NB246_265 ((cf NB246_265 (hHeld.2.2.1)))))))), (cf NB246_265 ((cf NB246_265 ((cf NB246_265 ((cf NB246_265 (hHeld.2.2.2))))))))⟩ (fun hHeld => ?_)
        clear hK K
        refine done_ (by kernel_rfl) ?_
        have hnb136 := NB264_246.out; have hnc136 := NB246_264.out; have hnb137 := NB264_247.out; have hnc137 := NB247_264.out; have hnb138 := NB264_263.out; have hnc138 := NB263_264.out; have hnb139 := NB264_265.out; have hnc139 := NB265_264.out
        have hcz140_0 : w127.cell? ⟨gb264, 0, none⟩ = some (.int .i64 0) := bc BK264 0
        have hcz140_1 : w127.cell? ⟨gb264, 1, none⟩ = some (.int .i64 0) := bc BK264 1
        have hcz140_2 : w127.cell? ⟨gb264, 2, none⟩ = some (.int .i64 0) := bc BK264 2
        have hcz140_3 : w127.cell? ⟨gb264, 3, none⟩ = some (.int .i64 0) := bc BK264 3
        have hfz140_0 := blk_frozen BK264.out 0; have hfz140_1 := blk_frozen BK264.out 1; have hfz140_2 := blk_frozen BK264.out 2; have hfz140_3 := blk_frozen BK264.out 3; have hnb141 := NB265_246.out; have hnc141 := NB246_265.out; have hnb142 := NB265_247.out; have hnc142 := NB247_265.out; have hnb143 := NB265_263.out; have hnc143 := NB263_265.out
        have hcz144_0 : w127.cell? ⟨gb265, 0, none⟩ = some (.int .i64 0) := bc BK265 0
        have hcz144_1 : w127.cell? ⟨gb265, 1, none⟩ = some (.int .i64 0) := bc BK265 1
        have hcz144_2 : w127.cell? ⟨gb265, 2, none⟩ = some (.int .i64 0) := bc BK265 2
        have hcz144_3 : w127.cell? ⟨gb265, 3, none⟩ = some (.int .i64 0) := bc BK265 3
        have hfz144_0 := blk_frozen BK265.out 0; have hfz144_1 := blk_frozen BK265.out 1; have hfz144_2 := blk_frozen BK265.out 2; have hfz144_3 := blk_frozen BK265.out 3
        try go_wp2
        have n0_ : Aside0 (((((((((((w127.setCell ⟨gb264, 0, none⟩ (.int .i64 a0_0)).setCell ⟨gb264, 1, none⟩ (.int .i64 a0_1)).setCell ⟨gb264, 2, none⟩ (.int .i64 a0_2)).setCell ⟨gb264, 3, none⟩ (.int .i64 a0_3)).setCell ⟨gb265, 0, none⟩ (.int .i64 a0_0)).setCell ⟨gb265, 1, none⟩ (.int .i64 a0_1)).setCell ⟨gb265, 2, none⟩ (.int .i64 a0_2)).setCell ⟨gb265, 3, none⟩ (.int .i64 a0_3)).setCell ⟨gb264, 3, none⟩ (.int .i64 65536)).setCell ⟨gb265, 3, none⟩ (.int .i64 0)).heap[gb246]? = some (.cells #[.int .i64 a0_0, .int .i64 a0_1, .int .i64 a0_2, .int .i64 a0_3] 27 (0, 0))) := ⟨by (with_reducible repeat (first | refine blk_drewN ?_ _ | refine blk_drew ?_ | refine blk_alloc ?_ _)); refine blk_far ?_ NB246_265.out _; (with_reducible repeat (first | refine blk_drewN ?_ _ | refine blk_drew ?_ | refine blk_alloc ?_ _)); refine blk_far ?_ NB246_264.out _; (with_reducible repeat (first | refine blk_drewN ?_ _ | refine blk_drew ?_ | refine blk_alloc ?_ _)); refine blk_far ?_ NB246_265.out _; (with_reducible repeat (first | refine blk_drewN ?_ _ | refine blk_drew ?_ | refine blk_alloc ?_ _)); refine blk_far ?_ NB246_265.out _; (with_reducible repeat (first | refine blk_drewN ?_ _ | refine blk_drew ?_ | refine blk_alloc ?_ _)); refine blk_far ?_ NB246_265.out _; (with_reducible repeat (first | refine blk_drewN ?_ _ | refine blk_drew ?_ | refine blk_alloc ?_ _)); refine blk_far ?_ NB246_265.out _; (with_reducible repeat (first | refine blk_drewN ?_ _ | refine blk_drew ?_ | refine blk_alloc ?_ _)); refine blk_far ?_ NB246_264.out _; (with_reducible repeat (first | refine blk_drewN ?_ _ | refine blk_drew ?_ | refine blk_alloc ?_ _)); refine blk_far ?_ NB246_264.out _; (with_reducible repeat (first | refine blk_drewN ?_ _ | refine blk_drew ?_ | refine blk_alloc ?_ _)); refine blk_far ?_ NB246_264.out _; (with_reducible repeat (first | refine blk_drewN ?_ _ | refine blk_drew ?_ | refine blk_alloc ?_ _)); refine blk_far ?_ NB246_264.out _; (with_reducible repeat (first | refine blk_drewN ?_ _ | refine blk_drew ?_ | refine blk_alloc ?_ _)); exact BK246.out⟩
        have n1_ : Aside0 (((((((((((w127.setCell ⟨gb264, 0, none⟩ (.int .i64 a0_0)).setCell ⟨gb264, 1, none⟩ (.int .i64 a0_1)).setCell ⟨gb264, 2, none⟩ (.int .i64 a0_2)).setCell ⟨gb264, 3, none⟩ (.int .i64 a0_3)).setCell ⟨gb265, 0, none⟩ (.int .i64 a0_0)).setCell ⟨gb265, 1, none⟩ (.int .i64 a0_1)).setCell ⟨gb265, 2, none⟩ (.int .i64 a0_2)).setCell ⟨gb265, 3, none⟩ (.int .i64 a0_3)).setCell ⟨gb264, 3, none⟩ (.int .i64 65536)).setCell ⟨gb265, 3, none⟩ (.int .i64 0)).heap[gb247]? = some (.cells #[.int .i64 a1_0, .int .i64 a1_1, .int .i64 a1_2, .int .i64 a1_3] 27 (0, 0))) := ⟨by (with_reducible repeat (first | refine blk_drewN ?_ _ | refine blk_drew ?_ | refine blk_alloc ?_ _)); refine blk_far ?_ NB247_265.out _; (with_reducible repeat (first | refine blk_drewN ?_ _ | refine blk_drew ?_ | refine blk_alloc ?_ _)); refine blk_far ?_ NB247_264.out _; (with_reducible repeat (first | refine blk_drewN ?_ _ | refine blk_drew ?_ | refine blk_alloc ?_ _)); refine blk_far ?_ NB247_265.out _; (with_reducible repeat (first | refine blk_drewN ?_ _ | refine blk_drew ?_ | refine blk_alloc ?_ _)); refine blk_far ?_ NB247_265.out _; (with_reducible repeat (first | refine blk_drewN ?_ _ | refine blk_drew ?_ | refine blk_alloc ?_ _)); refine blk_far ?_ NB247_265.out _; (with_reducible repeat (first | refine blk_drewN ?_ _ | refine blk_drew ?_ | refine blk_alloc ?_ _)); refine blk_far ?_ NB247_265.out _; (with_reducible repeat (first | refine blk_drewN ?_ _ | refine blk_drew ?_ | refine blk_alloc ?_ _)); refine blk_far ?_ NB247_264.out _; (with_reducible repeat (first | refine blk_drewN ?_ _ | refine blk_drew ?_ | refine blk_alloc ?_ _)); refine blk_far ?_ NB247_264.out _; (with_reducible repeat (first | refine blk_drewN ?_ _ | refine blk_drew ?_ | refine blk_alloc ?_ _)); refine blk_far ?_ NB247_264.out _; (with_reducible repeat (first | refine blk_drewN ?_ _ | refine blk_drew ?_ | refine blk_alloc ?_ _)); refine blk_far ?_ NB247_264.out _; (with_reducible repeat (first | refine blk_drewN ?_ _ | refine blk_drew ?_ | refine blk_alloc ?_ _)); exact BK247.out⟩
        have n2_ : Aside0 (((((((((((w127.setCell ⟨gb264, 0, none⟩ (.int .i64 a0_0)).setCell ⟨gb264, 1, none⟩ (.int .i64 a0_1)).setCell ⟨gb264, 2, none⟩ (.int .i64 a0_2)).setCell ⟨gb264, 3, none⟩ (.int .i64 a0_3)).setCell ⟨gb265, 0, none⟩ (.int .i64 a0_0)).setCell ⟨gb265, 1, none⟩ (.int .i64 a0_1)).setCell ⟨gb265, 2, none⟩ (.int .i64 a0_2)).setCell ⟨gb265, 3, none⟩ (.int .i64 a0_3)).setCell ⟨gb264, 3, none⟩ (.int .i64 65536)).setCell ⟨gb265, 3, none⟩ (.int .i64 0)).heap[gb263]? = some (.cells #[.int .i64 t259, .int .i64 t260, .int .i64 t261, .int .i64 t262] 27 (0, 0))) := ⟨by (with_reducible repeat (first | refine blk_drewN ?_ _ | refine blk_drew ?_ | refine blk_alloc ?_ _)); refine blk_far ?_ NB263_265.out _; (with_reducible repeat (first | refine blk_drewN ?_ _ | refine blk_drew ?_ | refine blk_alloc ?_ _)); refine blk_far ?_ NB263_264.out _; (with_reducible repeat (first | refine blk_drewN ?_ _ | refine blk_drew ?_ | refine blk_alloc ?_ _)); refine blk_far ?_ NB263_265.out _; (with_reducible repeat (first | refine blk_drewN ?_ _ | refine blk_drew ?_ | refine blk_alloc ?_ _)); refine blk_far ?_ NB263_265.out _; (with_reducible repeat (first | refine blk_drewN ?_ _ | refine blk_drew ?_ | refine blk_alloc ?_ _)); refine blk_far ?_ NB263_265.out _; (with_reducible repeat (first | refine blk_drewN ?_ _ | refine blk_drew ?_ | refine blk_alloc ?_ _)); refine blk_far ?_ NB263_265.out _; (with_reducible repeat (first | refine blk_drewN ?_ _ | refine blk_drew ?_ | refine blk_alloc ?_ _)); refine blk_far ?_ NB263_264.out _; (with_reducible repeat (first | refine blk_drewN ?_ _ | refine blk_drew ?_ | refine blk_alloc ?_ _)); refine blk_far ?_ NB263_264.out _; (with_reducible repeat (first | refine blk_drewN ?_ _ | refine blk_drew ?_ | refine blk_alloc ?_ _)); refine blk_far ?_ NB263_264.out _; (with_reducible repeat (first | refine blk_drewN ?_ _ | refine blk_drew ?_ | refine blk_alloc ?_ _)); refine blk_far ?_ NB263_264.out _; (with_reducible repeat (first | refine blk_drewN ?_ _ | refine blk_drew ?_ | refine blk_alloc ?_ _)); exact BK263.out⟩
        have n3_ : Aside0 (((((((((((w127.setCell ⟨gb264, 0, none⟩ (.int .i64 a0_0)).setCell ⟨gb264, 1, none⟩ (.int .i64 a0_1)).setCell ⟨gb264, 2, none⟩ (.int .i64 a0_2)).setCell ⟨gb264, 3, none⟩ (.int .i64 a0_3)).setCell ⟨gb265, 0, none⟩ (.int .i64 a0_0)).setCell ⟨gb265, 1, none⟩ (.int .i64 a0_1)).setCell ⟨gb265, 2, none⟩ (.int .i64 a0_2)).setCell ⟨gb265, 3, none⟩ (.int .i64 a0_3)).setCell ⟨gb264, 3, none⟩ (.int .i64 65536)).setCell ⟨gb265, 3, none⟩ (.int .i64 0)).heap[gb264]? = some (.cells #[.int .i64 a0_0, .int .i64 a0_1, .int .i64 a0_2, .int .i64 65536] 27 (0, 0))) := ⟨by (with_reducible repeat (first | refine blk_drewN ?_ _ | refine blk_drew ?_ | refine blk_alloc ?_ _)); refine blk_far ?_ NB264_265.out _; (with_reducible repeat (first | refine blk_drewN ?_ _ | refine blk_drew ?_ | refine blk_alloc ?_ _)); refine blk_put (cs := #[.int .i64 a0_0, .int .i64 a0_1, .int .i64 a0_2, .int .i64 a0_3]) ?_ 3 _ rfl; (with_reducible repeat (first | refine blk_drewN ?_ _ | refine blk_drew ?_ | refine blk_alloc ?_ _)); refine blk_far ?_ NB264_265.out _; (with_reducible repeat (first | refine blk_drewN ?_ _ | refine blk_drew ?_ | refine blk_alloc ?_ _)); refine blk_far ?_ NB264_265.out _; (with_reducible repeat (first | refine blk_drewN ?_ _ | refine blk_drew ?_ | refine blk_alloc ?_ _)); refine blk_far ?_ NB264_265.out _; (with_reducible repeat (first | refine blk_drewN ?_ _ | refine blk_drew ?_ | refine blk_alloc ?_ _)); refine blk_far ?_ NB264_265.out _; (with_reducible repeat (first | refine blk_drewN ?_ _ | refine blk_drew ?_ | refine blk_alloc ?_ _)); refine blk_put (cs := #[.int .i64 a0_0, .int .i64 a0_1, .int .i64 a0_2, .int .i64 0]) ?_ 3 _ rfl; (with_reducible repeat (first | refine blk_drewN ?_ _ | refine blk_drew ?_ | refine blk_alloc ?_ _)); refine blk_put (cs := #[.int .i64 a0_0, .int .i64 a0_1, .int .i64 0, .int .i64 0]) ?_ 2 _ rfl; (with_reducible repeat (first | refine blk_drewN ?_ _ | refine blk_drew ?_ | refine blk_alloc ?_ _)); refine blk_put (cs := #[.int .i64 a0_0, .int .i64 0, .int .i64 0, .int .i64 0]) ?_ 1 _ rfl; (with_reducible repeat (first | refine blk_drewN ?_ _ | refine blk_drew ?_ | refine blk_alloc ?_ _)); refine blk_put (cs := #[.int .i64 0, .int .i64 0, .int .i64 0, .int .i64 0]) ?_ 0 _ rfl; (with_reducible repeat (first | refine blk_drewN ?_ _ | refine blk_drew ?_ | refine blk_alloc ?_ _)); exact BK264.out⟩
        have n4_ : Aside0 (((((((((((w127.setCell ⟨gb264, 0, none⟩ (.int .i64 a0_0)).setCell ⟨gb264, 1, none⟩ (.int .i64 a0_1)).setCell ⟨gb264, 2, none⟩ (.int .i64 a0_2)).setCell ⟨gb264, 3, none⟩ (.int .i64 a0_3)).setCell ⟨gb265, 0, none⟩ (.int .i64 a0_0)).setCell ⟨gb265, 1, none⟩ (.int .i64 a0_1)).setCell ⟨gb265, 2, none⟩ (.int .i64 a0_2)).setCell ⟨gb265, 3, none⟩ (.int .i64 a0_3)).setCell ⟨gb264, 3, none⟩ (.int .i64 65536)).setCell ⟨gb265, 3, none⟩ (.int .i64 0)).heap[gb265]? = some (.cells #[.int .i64 a0_0, .int .i64 a0_1, .int .i64 a0_2, .int .i64 0] 27 (0, 0))) := ⟨by (with_reducible repeat (first | refine blk_drewN ?_ _ | refine blk_drew ?_ | refine blk_alloc ?_ _)); refine blk_put (cs := #[.int .i64 a0_0, .int .i64 a0_1, .int .i64 a0_2, .int .i64 a0_3]) ?_ 3 _ rfl; (with_reducible repeat (first | refine blk_drewN ?_ _ | refine blk_drew ?_ | refine blk_alloc ?_ _)); refine blk_far ?_ NB265_264.out _; (with_reducible repeat (first | refine blk_drewN ?_ _ | refine blk_drew ?_ | refine blk_alloc ?_ _)); refine blk_put (cs := #[.int .i64 a0_0, .int .i64 a0_1, .int .i64 a0_2, .int .i64 0]) ?_ 3 _ rfl; (with_reducible repeat (first | refine blk_drewN ?_ _ | refine blk_drew ?_ | refine blk_alloc ?_ _)); refine blk_put (cs := #[.int .i64 a0_0, .int .i64 a0_1, .int .i64 0, .int .i64 0]) ?_ 2 _ rfl; (with_reducible repeat (first | refine blk_drewN ?_ _ | refine blk_drew ?_ | refine blk_alloc ?_ _)); refine blk_put (cs := #[.int .i64 a0_0, .int .i64 0, .int .i64 0, .int .i64 0]) ?_ 1 _ rfl; (with_reducible repeat (first | refine blk_drewN ?_ _ | refine blk_drew ?_ | refine blk_alloc ?_ _)); refine blk_put (cs := #[.int .i64 0, .int .i64 0, .int .i64 0, .int .i64 0]) ?_ 0 _ rfl; (with_reducible repeat (first | refine blk_drewN ?_ _ | refine blk_drew ?_ | refine blk_alloc ?_ _)); refine blk_far ?_ NB265_264.out _; (with_reducible repeat (first | refine blk_drewN ?_ _ | refine blk_drew ?_ | refine blk_alloc ?_ _)); refine blk_far ?_ NB265_264.out _; (with_reducible repeat (first | refine blk_drewN ?_ _ | refine blk_drew ?_ | refine blk_alloc ?_ _)); refine blk_far ?_ NB265_264.out _; (with_reducible repeat (first | refine blk_drewN ?_ _ | refine blk_drew ?_ | refine blk_alloc ?_ _)); refine blk_far ?_ NB265_264.out _; (with_reducible repeat (first | refine blk_drewN ?_ _ | refine blk_drew ?_ | refine blk_alloc ?_ _)); exact BK265.out⟩
        have n5_ : Aside0 (Below w.heap.size w ((((((((((w127.setCell ⟨gb264, 0, none⟩ (.int .i64 a0_0)).setCell ⟨gb264, 1, none⟩ (.int .i64 a0_1)).setCell ⟨gb264, 2, none⟩ (.int .i64 a0_2)).setCell ⟨gb264, 3, none⟩ (.int .i64 a0_3)).setCell ⟨gb265, 0, none⟩ (.int .i64 a0_0)).setCell ⟨gb265, 1, none⟩ (.int .i64 a0_1)).setCell ⟨gb265, 2, none⟩ (.int .i64 a0_2)).setCell ⟨gb265, 3, none⟩ (.int .i64 a0_3)).setCell ⟨gb264, 3, none⟩ (.int .i64 65536)).setCell ⟨gb265, 3, none⟩ (.int .i64 0))) := ⟨by repeat (first | (with_reducible first | exact HB.out | apply below_alloc | apply pw_below_drewN | apply below_drew1 | refine below_set ?_ GE246.out | refine below_set ?_ GE247.out | refine below_set ?_ GE263.out | refine below_set ?_ GE264.out | refine below_set ?_ GE265.out) | exact HB.out)⟩
        (try clear BK246); (try clear BK247); (try clear BK263); (try clear BK264); (try clear BK265); (try clear HB)
        generalize ((((((((((w127.setCell ⟨gb264, 0, none⟩ (.int .i64 a0_0)).setCell ⟨gb264, 1, none⟩ (.int .i64 a0_1)).setCell ⟨gb264, 2, none⟩ (.int .i64 a0_2)).setCell ⟨gb264, 3, none⟩ (.int .i64 a0_3)).setCell ⟨gb265, 0, none⟩ (.int .i64 a0_0)).setCell ⟨gb265, 1, none⟩ (.int .i64 a0_1)).setCell ⟨gb265, 2, none⟩ (.int .i64 a0_2)).setCell ⟨gb265, 3, none⟩ (.int .i64 a0_3)).setCell ⟨gb264, 3, none⟩ (.int .i64 65536)).setCell ⟨gb265, 3, none⟩ (.int .i64 0)) = w145 at n0_ n1_ n2_ n3_ n4_ n5_ ⊢
        have BK246 := n0_; have BK247 := n1_; have BK263 := n2_; have BK264 := n3_; have BK265 := n4_; have HB := n5_; clear n0_ n1_ n2_ n3_ n4_ n5_; replace BK246 := Aside0.mk (blk_drew BK246.out); replace BK247 := Aside0.mk (blk_drew BK247.out); replace BK263 := Aside0.mk (blk_drew BK263.out); replace BK264 := Aside0.mk (blk_drew BK264.out); replace BK265 := Aside0.mk (blk_drew BK265.out); replace HB := Aside0.mk (below_drew1 HB.out)
        refine start_ (n := 24) (S := fun w' => w'.cell? ⟨gb264, 0, none⟩ = some (.int .i64 a0_0) ∧ w'.cell? ⟨gb264, 1, none⟩ = some (.int .i64 a0_1) ∧ w'.cell? ⟨gb264, 2, none⟩ = some (.int .i64 a0_2) ∧ w'.cell? ⟨gb264, 3, none⟩ = some (.int .i64 65536) ∧ w'.cell? ⟨gb247, 0, none⟩ = some (.int .i64 a1_0) ∧ w'.cell? ⟨gb247, 1, none⟩ = some (.int .i64 a1_1) ∧ w'.cell? ⟨gb247, 2, none⟩ = some (.int .i64 a1_2) ∧ w'.cell? ⟨gb247, 3, none⟩ = some (.int .i64 a1_3)) (ds := []) #[false, false, false, false, false, false, false, false, false, false, false, false, false, false, false, false, false, false, false, false, false, false, false, false] (by kernel_rfl) rfl rfl ⟨bc BK264 0, bc BK264 1, bc BK264 2, bc BK264 3, bc BK247 0, bc BK247 1, bc BK247 2, bc BK247 3⟩ (fun hHeld => ?_); refine with_tabW frustumlaw40_BlendOver.tab9 frustumlaw40_BlendOver.bits9 (fun HT_ HW_ => ?_)
        generalize w145.drew = w146 at BK246 BK247 BK263 BK264 BK265 HB hHeld ⊢
        refine take_ (i := 1) (N := some 61) (v := ?_) (a' := ?_) #[false, true, false, false, false, false, false, false, false, false, false, false, false, false, false, false, false, false, false, false, false, false, false, false] rfl rfl (take_ofW HT_.out HW_.out (by kernel_rfl)) (fun _ _ _ h => h) (Or.inl ⟨by rfl, ?_⟩) hHeld ?_ ?_
        rotate_left
        ·rintro w' ⟨s0, s1, s2, s3, s4, s5, s6, s7⟩
         go_simp
         with_reducible rfl
        rotate_left
        ·simp only [Act.put, List.setIfInBounds_toArray, List.set_cons_zero, List.set_cons_succ, i64_w, i32_w]
         rfl
        refine take_ (i := 2) (N := some 62) (v := ?_) (a' := ?_) #[false, true, true, false, false, false, false, false, false, false, false, false, false, false, false, false, false, false, false, false, false, false, false, false] rfl rfl (take_ofW HT_.out HW_.out (by kernel_rfl)) (fun _ _ _ h => h) (Or.inl ⟨by rfl, ?_⟩) hHeld ?_ ?_
        rotate_left
        ·rintro w' ⟨s0, s1, s2, s3, s4, s5, s6, s7⟩
         go_simp
         with_reducible rfl
        rotate_left
        ·simp only [Act.put, List.setIfInBounds_toArray, List.set_cons_zero, List.set_cons_succ, i64_w, i32_w]
         rfl
        refine take_ (i := 4) (N := some 64) (v := ?_) (a' := ?_) #[false, true, true, false, true, false, false, false, false, false, false, false, false, false, false, false, false, false, false, false, false, false, false, false] rfl rfl (take_ofW HT_.out HW_.out (by kernel_rfl)) (fun _ _ _ h => h) (Or.inl ⟨by rfl, ?_⟩) hHeld ?_ ?_
        rotate_left
        ·rintro w' ⟨s0, s1, s2, s3, s4, s5, s6, s7⟩
         go_simp
         with_reducible rfl
        rotate_left
        ·simp only [Act.put, List.setIfInBounds_toArray, List.set_cons_zero, List.set_cons_succ, i64_w, i32_w]
         rfl
        refine one_ (i := 0) (N := some 60) #[true, true, true, false, true, false, false, false, false, false, false, false, false, false, false, false, false, false, false, false, false, false, false, false] rfl rfl (one_of HT_.out (by kernel_rfl)) (by decide) (fun K hK => ?_)
        refine goes_ Try.func16 (by kernel_rfl) rfl #[] (by rfl) rfl rfl (by (try simp only [List.map_toArray, List.map_cons, List.map_nil]); first | done | rfl | (simp only [List.length_drop, List.length_take]; rfl)) ?_
        with_reducible refine (frustumlaw40_over.calls  t266 t267 t268 t269 t270 t271 t272 t273 _ A62.out).mono ?_; rintro e w147 ⟨rfl, hb⟩; refine ⟨_, rfl, ?_⟩; replace BK246 := ub BK246 hb; replace BK247 := ub BK247 hb; replace BK263 := ub BK263 hb; replace BK264 := ub BK264 hb; replace BK265 := ub BK265 hb; replace HB := bs HB hb; (try clear hb); (try clear hb2); (try clear hk); (try clear hi)
        refine hK.out _ _ ⟨bc BK264 0, bc BK264 1, bc BK264 2, bc BK264 3, bc BK247 0, bc BK247 1, bc BK247 2, bc BK247 3⟩ (fun hHeld => ?_)
        clear hK K
        refine norm_ (a' := ?_) ?_ ?_
        rotate_left
        ·show Act.put _ (some 60) _ = _
         simp only [Act.put, List.setIfInBounds_toArray, List.set_cons_zero, List.set_cons_succ, i64_w, i32_w]
         rfl
        refine one_ (i := 3) (N := some 63) #[true, true, true, true, true, false, false, false, false, false, false, false, false, false, false, false, false, false, false, false, false, false, false, false] rfl rfl (one_of HT_.out (by kernel_rfl)) (by decide) (fun K hK => ?_)
        refine goes_ Try.func9 (by kernel_rfl) rfl #[.agg #[.bool t266, .int .i64 t267, .int .i64 t268, .int .i64 t269, .int .i64 t270, .int .i64 t271, .int .i64 t272, .int .i64 t273], .agg #[.int .i64 a0_0, .int .i64 a0_1, .int .i64 a0_2, .int .i64 65536], .agg #[.int .i64 a1_0, .int .i64 a1_1, .int .i64 a1_2, .int .i64 a1_3]] (by rfl) rfl rfl (by (try simp only [List.map_toArray, List.map_cons, List.map_nil]); first | done | rfl | (simp only [List.length_drop, List.length_take]; rfl)) ?_
        with_reducible refine (blend_Blend.calls kj21 t266 t267 t268 t269 t270 t271 t272 t273 a0_0 a0_1 a0_2 65536 a1_0 a1_1 a1_2 a1_3 t274 t275 t276 t277 _ A63.out).mono ?_; rintro e w148 ⟨rfl, hb⟩; refine ⟨_, rfl, ?_⟩; replace BK246 := ub BK246 hb; replace BK247 := ub BK247 hb; replace BK263 := ub BK263 hb; replace BK264 := ub BK264 hb; replace BK265 := ub BK265 hb; replace HB := bs HB hb; (try clear hb); (try clear hb2); (try clear hk); (try clear hi)
        refine hK.out _ _ ⟨bc BK264 0, bc BK264 1, bc BK264 2, bc BK264 3, bc BK247 0, bc BK247 1, bc BK247 2, bc BK247 3⟩ (fun hHeld => ?_)
        clear hK K
        refine norm_ (a' := ?_) ?_ ?_
        rotate_left
        ·show Act.put _ (some 63) _ = _
         simp only [Act.put, List.setIfInBounds_toArray, List.set_cons_zero, List.set_cons_succ, i64_w, i32_w]
         rfl
        refine pure_ (i := 5) (N := some 65) (v := ?_) (a' := ?_) #[true, true, true, true, true, true, false, false, false, false, false, false, false, false, false, false, false, false, false, false, false, false, false, false] rfl rfl (any_of HT_.out (by kernel_rfl)) (fun _ _ _ h => h) (Or.inl ⟨by rfl, ?_⟩) ?_ ?_
        rotate_left
        ·intro w'
         go_simp
         with_reducible rfl
        rotate_left
        ·simp only [Act.put, List.setIfInBounds_toArray, List.set_cons_zero, List.set_cons_succ, i64_w, i32_w]
         rfl
        refine pure_ (i := 6) (N := some 66) (v := ?_) (a' := ?_) #[true, true, true, true, true, true, true, false, false, false, false, false, false, false, false, false, false, false, false, false, false, false, false, false] rfl rfl (any_of HT_.out (by kernel_rfl)) (fun _ _ _ h => h) (Or.inl ⟨by rfl, ?_⟩) ?_ ?_
        rotate_left
        ·intro w'
         go_simp
         with_reducible rfl
        rotate_left
        ·simp only [Act.put, List.setIfInBounds_toArray, List.set_cons_zero, List.set_cons_succ, i64_w, i32_w]
         rfl
        refine pure_ (i := 7) (N := some 67) (v := undef) (a' := ?_) #[true, true, true, true, true, true, true, true, false, false, false, false, false, false, false, false, false, false, false, false, false, false, false, false] rfl rfl (any_of HT_.out (by kernel_rfl)) (fun _ _ _ h => h) (Or.inr ⟨by rfl, rfl⟩) ?_ ?_
        rotate_left
        ·simp only [Act.put, List.setIfInBounds_toArray, List.set_cons_zero, List.set_cons_succ, i64_w, i32_w]
         rfl
        refine pure_ (i := 8) (N := some 68) (v := undef) (a' := ?_) #[true, true, true, true, true, true, true, true, true, false, false, false, false, false, false, false, false, false, false, false, false, false, false, false] rfl rfl (any_of HT_.out (by kernel_rfl)) (fun _ _ _ h => h) (Or.inr ⟨by rfl, rfl⟩) ?_ ?_
        rotate_left
        ·simp only [Act.put, List.setIfInBounds_toArray, List.set_cons_zero, List.set_cons_succ, i64_w, i32_w]
         rfl
        refine pure_ (i := 9) (N := some 69) (v := undef) (a' := ?_) #[true, true, true, true, true, true, true, true, true, true, false, false, false, false, false, false, false, false, false, false, false, false, false, false] rfl rfl (any_of HT_.out (by kernel_rfl)) (fun _ _ _ h => h) (Or.inr ⟨by rfl, rfl⟩) ?_ ?_
        rotate_left
        ·simp only [Act.put, List.setIfInBounds_toArray, List.set_cons_zero, List.set_cons_succ, i64_w, i32_w]
         rfl
        refine pure_ (i := 10) (N := some 70) (v := undef) (a' := ?_) #[true, true, true, true, true, true, true, true, true, true, true, false, false, false, false, false, false, false, false, false, false, false, false, false] rfl rfl (any_of HT_.out (by kernel_rfl)) (fun _ _ _ h => h) (Or.inr ⟨by rfl, rfl⟩) ?_ ?_
        rotate_left
        ·simp only [Act.put, List.setIfInBounds_toArray, List.set_cons_zero, List.set_cons_succ, i64_w, i32_w]
         rfl
        refine pure_ (i := 11) (N := some 71) (v := undef) (a' := ?_) #[true, true, true, true, true, true, true, true, true, true, true, true, false, false, false, false, false, false, false, false, false, false, false, false] rfl rfl (any_of HT_.out (by kernel_rfl)) (fun _ _ _ h => h) (Or.inr ⟨by rfl, rfl⟩) ?_ ?_
        rotate_left
        ·simp only [Act.put, List.setIfInBounds_toArray, List.set_cons_zero, List.set_cons_succ, i64_w, i32_w]
         rfl
        refine pure_ (i := 12) (N := some 72) (v := undef) (a' := ?_) #[true, true, true, true, true, true, true, true, true, true, true, true, true, false, false, false, false, false, false, false, false, false, false, false] rfl rfl (any_of HT_.out (by kernel_rfl)) (fun _ _ _ h => h) (Or.inr ⟨by rfl, rfl⟩) ?_ ?_
        rotate_left
        ·simp only [Act.put, List.setIfInBounds_toArray, List.set_cons_zero, List.set_cons_succ, i64_w, i32_w]
         rfl
        refine pure_ (i := 13) (N := some 73) (v := undef) (a' := ?_) #[true, true, true, true, true, true, true, true, true, true, true, true, true, true, false, false, false, false, false, false, false, false, false, false] rfl rfl (any_of HT_.out (by kernel_rfl)) (fun _ _ _ h => h) (Or.inr ⟨by rfl, rfl⟩) ?_ ?_
        rotate_left
        ·simp only [Act.put, List.setIfInBounds_toArray, List.set_cons_zero, List.set_cons_succ, i64_w, i32_w]
         rfl
        refine pure_ (i := 14) (N := some 74) (v := undef) (a' := ?_) #[true, true, true, true, true, true, true, true, true, true, true, true, true, true, true, false, false, false, false, false, false, false, false, false] rfl rfl (any_of HT_.out (by kernel_rfl)) (fun _ _ _ h => h) (Or.inr ⟨by rfl, rfl⟩) ?_ ?_
        rotate_left
        ·simp only [Act.put, List.setIfInBounds_toArray, List.set_cons_zero, List.set_cons_succ, i64_w, i32_w]
         rfl
        refine pure_ (i := 15) (N := some 75) (v := undef) (a' := ?_) #[true, true, true, true, true, true, true, true, true, true, true, true, true, true, true, true, false, false, false, false, false, false, false, false] rfl rfl (any_of HT_.out (by kernel_rfl)) (fun _ _ _ h => h) (Or.inr ⟨by rfl, rfl⟩) ?_ ?_
        rotate_left
        ·simp only [Act.put, List.setIfInBounds_toArray, List.set_cons_zero, List.set_cons_succ, i64_w, i32_w]
         rfl
        refine pure_ (i := 16) (N := some 76) (v := undef) (a' := ?_) #[true, true, true, true, true, true, true, true, true, true, true, true, true, true, true, true, true, false, false, false, false, false, false, false] rfl rfl (any_of HT_.out (by kernel_rfl)) (fun _ _ _ h => h) (Or.inr ⟨by rfl, rfl⟩) ?_ ?_
        rotate_left
        ·simp only [Act.put, List.setIfInBounds_toArray, List.set_cons_zero, List.set_cons_succ, i64_w, i32_w]
         rfl
        refine pure_ (i := 17) (N := some 77) (v := undef) (a' := ?_) #[true, true, true, true, true, true, true, true, true, true, true, true, true, true, true, true, true, true, false, false, false, false, false, false] rfl rfl (any_of HT_.out (by kernel_rfl)) (fun _ _ _ h => h) (Or.inr ⟨by rfl, rfl⟩) ?_ ?_
        rotate_left
        ·simp only [Act.put, List.setIfInBounds_toArray, List.set_cons_zero, List.set_cons_succ, i64_w, i32_w]
         rfl
        refine pure_ (i := 18) (N := some 78) (v := undef) (a' := ?_) #[true, true, true, true, true, true, true, true, true, true, true, true, true, true, true, true, true, true, true, false, false, false, false, false] rfl rfl (any_of HT_.out (by kernel_rfl)) (fun _ _ _ h => h) (Or.inr ⟨by rfl, rfl⟩) ?_ ?_
        rotate_left
        ·simp only [Act.put, List.setIfInBounds_toArray, List.set_cons_zero, List.set_cons_succ, i64_w, i32_w]
         rfl
        refine pure_ (i := 19) (N := some 79) (v := ?_) (a' := ?_) #[true, true, true, true, true, true, true, true, true, true, true, true, true, true, true, true, true, true, true, true, false, false, false, false] rfl rfl (any_of HT_.out (by kernel_rfl)) (fun _ _ _ h => h) (Or.inl ⟨by rfl, ?_⟩) ?_ ?_
        rotate_left
        ·intro w'
         go_simp
         with_reducible rfl
        rotate_left
        ·simp only [Act.put, List.setIfInBounds_toArray, List.set_cons_zero, List.set_cons_succ, i64_w, i32_w]
         rfl
        refine pure_ (i := 20) (N := some 80) (v := ?_) (a' := ?_) #[true, true, true, true, true, true, true, true, true, true, true, true, true, true, true, true, true, true, true, true, true, false, false, false] rfl rfl (any_of HT_.out (by kernel_rfl)) (fun _ _ _ h => h) (Or.inl ⟨by rfl, ?_⟩) ?_ ?_
        rotate_left
        ·intro w'
         go_simp
         with_reducible rfl
        rotate_left
        ·simp only [Act.put, List.setIfInBounds_toArray, List.set_cons_zero, List.set_cons_succ, i64_w, i32_w]
         rfl
        refine pure_ (i := 21) (N := some 81) (v := undef) (a' := ?_) #[true, true, true, true, true, true, true, true, true, true, true, true, true, true, true, true, true, true, true, true, true, true, false, false] rfl rfl (any_of HT_.out (by kernel_rfl)) (fun _ _ _ h => h) (Or.inr ⟨by rfl, rfl⟩) ?_ ?_
        rotate_left
        ·simp only [Act.put, List.setIfInBounds_toArray, List.set_cons_zero, List.set_cons_succ, i64_w, i32_w]
         rfl
        refine pure_ (i := 22) (N := some 82) (v := ?_) (a' := ?_) #[true, true, true, true, true, true, true, true, true, true, true, true, true, true, true, true, true, true, true, true, true, true, true, false] rfl rfl (any_of HT_.out (by kernel_rfl)) (fun _ _ _ h => h) (Or.inl ⟨by rfl, ?_⟩) ?_ ?_
        rotate_left
        ·intro w'
         go_simp
         with_reducible rfl
        rotate_left
        ·simp only [Act.put, List.setIfInBounds_toArray, List.set_cons_zero, List.set_cons_succ, i64_w, i32_w]
         rfl
        refine pure_ (i := 23) (N := some 4) (v := ?_) (a' := ?_) #[true, true, true, true, true, true, true, true, true, true, true, true, true, true, true, true, true, true, true, true, true, true, true, true] rfl rfl (any_of HT_.out (by kernel_rfl)) (fun _ _ _ h => h) (Or.inl ⟨by rfl, ?_⟩) ?_ ?_
        rotate_left
        ·intro w'
         go_simp
         with_reducible rfl
        rotate_left
        ·simp only [Act.put, List.setIfInBounds_toArray, List.set_cons_zero, List.set_cons_succ, i64_w, i32_w]
         rfl
        refine done_ (done_of HT_.out (by kernel_rfl)) ?_
        try go_wp2
        go_ret
        exact ⟨by first | rfl | (simp [errW_none, errW_some] <;> rfl) | (simp [*, errW_none, errW_some] <;> rfl), by repeat (first | (with_reducible first | exact HB.out | apply below_alloc | apply pw_below_drewN | apply below_drew1 | refine below_set ?_ GE246.out | refine below_set ?_ GE247.out | refine below_set ?_ GE263.out | refine below_set ?_ GE264.out | refine below_set ?_ GE265.out) | exact HB.out)⟩



end Go.Proofs.YtgbneollfpmpkaaRR.PBlendOver
