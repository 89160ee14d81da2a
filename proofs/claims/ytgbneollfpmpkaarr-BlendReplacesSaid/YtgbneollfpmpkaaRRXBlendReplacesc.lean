/- BlendReplaces: walks. -/
import Derived.Test.YtgbneollfpmpkaaRRXBlendReplacesb
namespace Go.Proofs.YtgbneollfpmpkaaRR.PBlendReplaces
open Go.RowKit Go.Proofs.YtgbneollfpmpkaaRRW.PrintWords Go.Proofs.YtgbneollfpmpkaaRRW.PrintLast Go.Proofs.YtgbneollfpmpkaaRRW.PrintMore
attribute [local go_sem] max2_int min2_int max_two min_two max_three min_three max_four min_four
set_option linter.unusedVariables false
set_option linter.unusedSimpArgs false

set_option maxHeartbeats 8000000 in
set_option maxRecDepth 100000 in
theorem blend_Blend.calls (k : Nat) (a0_0 : Bool) (a0_1 : Int) (a0_2 : Int) (a0_3 : Int) (a0_4 : Int) (a0_5 : Int) (a0_6 : Int) (a0_7 : Int) (a1_0 : Int) (a1_1 : Int) (a1_2 : Int) (a1_3 : Int) (a2_0 : Int) (a2_1 : Int) (a2_2 : Int) (a2_3 : Int) (r1 : Int) (r2 : Int) (r3 : Int) (r4 : Int) (w : World) (h : blend_Blend.f k a0_0 a0_1 a0_2 a0_3 a0_4 a0_5 a0_6 a0_7 a1_0 a1_1 a1_2 a1_3 a2_0 a2_1 a2_2 a2_3 = some (r1, r2, r3, r4)) :
  Calls Try.prog 9 #[.agg #[.bool a0_0, .int .i64 a0_1, .int .i64 a0_2, .int .i64 a0_3, .int .i64 a0_4, .int .i64 a0_5, .int .i64 a0_6, .int .i64 a0_7], .agg #[.int .i64 a1_0, .int .i64 a1_1, .int .i64 a1_2, .int .i64 a1_3], .agg #[.int .i64 a2_0, .int .i64 a2_1, .int .i64 a2_2, .int .i64 a2_3]] w fun e w' => e = .returned (.agg #[.int .i64 r1, .int .i64 r2, .int .i64 r3, .int .i64 r4]) ∧ Below w.heap.size w w' := by
 have hu25 := Try.underlying25; have hu27 := Try.underlying27; have HB := Aside0.mk (Below.refl w.heap.size w)
 have H : (if a0_0 = true then ((blend_Factor.f a0_1 a1_0 a1_1 a1_2 a1_3 a2_0 a2_1 a2_2 a2_3).bind fun bt191 => ((blend_Factor.f a0_2 a1_0 a1_1 a1_2 a1_3 a2_0 a2_1 a2_2 a2_3).bind fun bt195 => ((blend_Factor.f a0_4 a1_0 a1_1 a1_2 a1_3 a2_0 a2_1 a2_2 a2_3).bind fun bt201 => ((blend_Factor.f a0_5 a1_0 a1_1 a1_2 a1_3 a2_0 a2_1 a2_2 a2_3).bind fun bt205 => ((blend_Combine.f k a0_3 a1_0 bt191.1 a2_0 bt195.1).bind fun t211 => ((blend_Combine.f k a0_3 a1_1 bt191.2.1 a2_1 bt195.2.1).bind fun t212 => ((blend_Combine.f k a0_3 a1_2 bt191.2.2.1 a2_2 bt195.2.2.1).bind fun t213 => ((blend_Combine.f k a0_6 a1_3 bt201.2.2.2 a2_3 bt205.2.2.2).bind fun t214 => (some (t211, t212, t213, t214)))))))))) else ((fixed_Saturate.f a1_0).bind fun t187 => ((fixed_Saturate.f a1_1).bind fun t188 => ((fixed_Saturate.f a1_2).bind fun t189 => ((fixed_Saturate.f a1_3).bind fun t190 => (some (t187, t188, t189, t190))))))) = some (r1, r2, r3, r4) := h
 clear h
 by_cases c4 : a0_0 = true
 ·subst c4
  have H1 : ((blend_Factor.f a0_1 a1_0 a1_1 a1_2 a1_3 a2_0 a2_1 a2_2 a2_3).bind fun bt191 => ((blend_Factor.f a0_2 a1_0 a1_1 a1_2 a1_3 a2_0 a2_1 a2_2 a2_3).bind fun bt195 => ((blend_Factor.f a0_4 a1_0 a1_1 a1_2 a1_3 a2_0 a2_1 a2_2 a2_3).bind fun bt201 => ((blend_Factor.f a0_5 a1_0 a1_1 a1_2 a1_3 a2_0 a2_1 a2_2 a2_3).bind fun bt205 => ((blend_Combine.f k a0_3 a1_0 bt191.1 a2_0 bt195.1).bind fun t211 => ((blend_Combine.f k a0_3 a1_1 bt191.2.1 a2_1 bt195.2.1).bind fun t212 => ((blend_Combine.f k a0_3 a1_2 bt191.2.2.1 a2_2 bt195.2.2.1).bind fun t213 => ((blend_Combine.f k a0_6 a1_3 bt201.2.2.2 a2_3 bt205.2.2.2).bind fun t214 => (some (t211, t212, t213, t214)))))))))) = some (r1, r2, r3, r4) := by rw [if_pos rfl] at H; exact H
  clear H; have H := H1; clear H1
  replace H := Option.bind_eq_some_iff.mp H
  obtain ⟨⟨t191, t192, t193, t194⟩, A50, H⟩ := H
  replace H : ((blend_Factor.f a0_2 a1_0 a1_1 a1_2 a1_3 a2_0 a2_1 a2_2 a2_3).bind fun bt195 => ((blend_Factor.f a0_4 a1_0 a1_1 a1_2 a1_3 a2_0 a2_1 a2_2 a2_3).bind fun bt201 => ((blend_Factor.f a0_5 a1_0 a1_1 a1_2 a1_3 a2_0 a2_1 a2_2 a2_3).bind fun bt205 => ((blend_Combine.f k a0_3 a1_0 t191 a2_0 bt195.1).bind fun t211 => ((blend_Combine.f k a0_3 a1_1 t192 a2_1 bt195.2.1).bind fun t212 => ((blend_Combine.f k a0_3 a1_2 t193 a2_2 bt195.2.2.1).bind fun t213 => ((blend_Combine.f k a0_6 a1_3 bt201.2.2.2 a2_3 bt205.2.2.2).bind fun t214 => (some (t211, t212, t213, t214))))))))) = some (r1, r2, r3, r4) := H
  have A5 := Aside0.mk A50; clear A50
  replace H := Option.bind_eq_some_iff.mp H
  obtain ⟨⟨t195, t196, t197, t198⟩, A60, H⟩ := H
  replace H : ((blend_Factor.f a0_4 a1_0 a1_1 a1_2 a1_3 a2_0 a2_1 a2_2 a2_3).bind fun bt201 => ((blend_Factor.f a0_5 a1_0 a1_1 a1_2 a1_3 a2_0 a2_1 a2_2 a2_3).bind fun bt205 => ((blend_Combine.f k a0_3 a1_0 t191 a2_0 t195).bind fun t211 => ((blend_Combine.f k a0_3 a1_1 t192 a2_1 t196).bind fun t212 => ((blend_Combine.f k a0_3 a1_2 t193 a2_2 t197).bind fun t213 => ((blend_Combine.f k a0_6 a1_3 bt201.2.2.2 a2_3 bt205.2.2.2).bind fun t214 => (some (t211, t212, t213, t214)))))))) = some (r1, r2, r3, r4) := H
  have A6 := Aside0.mk A60; clear A60
  replace H := Option.bind_eq_some_iff.mp H
  obtain ⟨⟨t201, t202, t203, t204⟩, A70, H⟩ := H
  replace H : ((blend_Factor.f a0_5 a1_0 a1_1 a1_2 a1_3 a2_0 a2_1 a2_2 a2_3).bind fun bt205 => ((blend_Combine.f k a0_3 a1_0 t191 a2_0 t195).bind fun t211 => ((blend_Combine.f k a0_3 a1_1 t192 a2_1 t196).bind fun t212 => ((blend_Combine.f k a0_3 a1_2 t193 a2_2 t197).bind fun t213 => ((blend_Combine.f k a0_6 a1_3 t204 a2_3 bt205.2.2.2).bind fun t214 => (some (t211, t212, t213, t214))))))) = some (r1, r2, r3, r4) := H
  have A7 := Aside0.mk A70; clear A70
  replace H := Option.bind_eq_some_iff.mp H
  obtain ⟨⟨t205, t206, t207, t208⟩, A80, H⟩ := H
  replace H : ((blend_Combine.f k a0_3 a1_0 t191 a2_0 t195).bind fun t211 => ((blend_Combine.f k a0_3 a1_1 t192 a2_1 t196).bind fun t212 => ((blend_Combine.f k a0_3 a1_2 t193 a2_2 t197).bind fun t213 => ((blend_Combine.f k a0_6 a1_3 t204 a2_3 t208).bind fun t214 => (some (t211, t212, t213, t214)))))) = some (r1, r2, r3, r4) := H
  have A8 := Aside0.mk A80; clear A80
  replace H := Option.bind_eq_some_iff.mp H
  obtain ⟨t211, A90, H⟩ := H
  replace H : ((blend_Combine.f k a0_3 a1_1 t192 a2_1 t196).bind fun t212 => ((blend_Combine.f k a0_3 a1_2 t193 a2_2 t197).bind fun t213 => ((blend_Combine.f k a0_6 a1_3 t204 a2_3 t208).bind fun t214 => (some (t211, t212, t213, t214))))) = some (r1, r2, r3, r4) := H
  have A9 := Aside0.mk A90; clear A90
  replace H := Option.bind_eq_some_iff.mp H
  obtain ⟨t212, A100, H⟩ := H
  replace H : ((blend_Combine.f k a0_3 a1_2 t193 a2_2 t197).bind fun t213 => ((blend_Combine.f k a0_6 a1_3 t204 a2_3 t208).bind fun t214 => (some (t211, t212, t213, t214)))) = some (r1, r2, r3, r4) := H
  have A10 := Aside0.mk A100; clear A100
  replace H := Option.bind_eq_some_iff.mp H
  obtain ⟨t213, A110, H⟩ := H
  replace H : ((blend_Combine.f k a0_6 a1_3 t204 a2_3 t208).bind fun t214 => (some (t211, t212, t213, t214))) = some (r1, r2, r3, r4) := H
  have A11 := Aside0.mk A110; clear A110
  replace H := Option.bind_eq_some_iff.mp H
  obtain ⟨t214, A120, H⟩ := H
  replace H : (some (t211, t212, t213, t214)) = some (r1, r2, r3, r4) := H
  have A12 := Aside0.mk A120; clear A120
  simp only [Option.some.injEq, Prod.mk.injEq] at H
  obtain ⟨rfl, rfl, rfl, rfl⟩ := H
  go_enter Try.func9, Try.ntmps9
  try go_wp2_with (first | ((with_reducible refine gate_dst (N := 3) rfl ?_); refine box_event ?hg (N := 3) ?hd (cs := #[.bool true, .int .i64 a0_1, .int .i64 a0_2, .int .i64 a0_3, .int .i64 a0_4, .int .i64 a0_5, .int .i64 a0_6, .int .i64 a0_7]) (t := 25) ?hr ?_; (case hd => rfl); (case hg => rfl); (case hr => first | (go_simp; done) | (go_simp; rfl)); intro gb183 hg w13 hbox hb; have BK183 := Aside0.mk (hbox); have GW183 := ws HB hg; have GE183 := ws HB hg; replace HB := bs HB hb; clear hb hbox hg) | ((with_reducible refine gate_dst (N := 4) rfl ?_); refine box_event ?hg (N := 4) ?hd (cs := #[.int .i64 a1_0, .int .i64 a1_1, .int .i64 a1_2, .int .i64 a1_3]) (t := 27) ?hr ?_; (case hd => rfl); (case hg => rfl); (case hr => first | (go_simp; done) | (go_simp; rfl)); intro gb184 hg w14 hbox hb; have BK184 := Aside0.mk (hbox); have GW184 := ws HB hg; have GE184 := ws HB hg; have NB183_184 := nl BK183 hg; have NB184_183 := ng BK183 hg; replace BK183 := ub BK183 hb; replace HB := bs HB hb; clear hb hbox hg) | ((with_reducible refine gate_dst (N := 5) rfl ?_); refine box_event ?hg (N := 5) ?hd (cs := #[.int .i64 a2_0, .int .i64 a2_1, .int .i64 a2_2, .int .i64 a2_3]) (t := 27) ?hr ?_; (case hd => rfl); (case hg => rfl); (case hr => first | (go_simp; done) | (go_simp; rfl)); intro gb185 hg w15 hbox hb; have BK185 := Aside0.mk (hbox); have GW185 := ws HB hg; have GE185 := ws HB hg; have NB183_185 := nl BK183 hg; have NB185_183 := ng BK183 hg; have NB184_185 := nl BK184 hg; have NB185_184 := ng BK184 hg; replace BK183 := ub BK183 hb; replace BK184 := ub BK184 hb; replace HB := bs HB hb; clear hb hbox hg) | ((with_reducible refine gate_dst (N := 6) rfl ?_); refine box_event ?hg (N := 6) ?hd (cs := #[.int .i64 0, .int .i64 0, .int .i64 0, .int .i64 0]) (t := 27) ?hr ?_; (case hd => rfl); (case hg => rfl); (case hr => first | (go_simp; done) | (go_simp; rfl)); intro gb186 hg w16 hbox hb; have BK186 := Aside0.mk (hbox); have GW186 := ws HB hg; have GE186 := ws HB hg; have NB183_186 := nl BK183 hg; have NB186_183 := ng BK183 hg; have NB184_186 := nl BK184 hg; have NB186_184 := ng BK184 hg; have NB185_186 := nl BK185 hg; have NB186_185 := ng BK185 hg; replace BK183 := ub BK183 hb; replace BK184 := ub BK184 hb; replace BK185 := ub BK185 hb; replace HB := bs HB hb; clear hb hbox hg; have hnb17 := NB183_184.out; have hnc17 := NB184_183.out; have hnb18 := NB183_185.out; have hnc18 := NB185_183.out; have hnb19 := NB183_186.out; have hnc19 := NB186_183.out; have hcz20_0 : w16.cell? ⟨gb183, 0, none⟩ = some (.bool true) := bc BK183 0; have hcz20_1 : w16.cell? ⟨gb183, 1, none⟩ = some (.int .i64 a0_1) := bc BK183 1; have hcz20_2 : w16.cell? ⟨gb183, 2, none⟩ = some (.int .i64 a0_2) := bc BK183 2; have hcz20_3 : w16.cell? ⟨gb183, 3, none⟩ = some (.int .i64 a0_3) := bc BK183 3; have hcz20_4 : w16.cell? ⟨gb183, 4, none⟩ = some (.int .i64 a0_4) := bc BK183 4; have hcz20_5 : w16.cell? ⟨gb183, 5, none⟩ = some (.int .i64 a0_5) := bc BK183 5; have hcz20_6 : w16.cell? ⟨gb183, 6, none⟩ = some (.int .i64 a0_6) := bc BK183 6; have hcz20_7 : w16.cell? ⟨gb183, 7, none⟩ = some (.int .i64 a0_7) := bc BK183 7; have hfz20_0 := blk_frozen BK183.out 0; have hfz20_1 := blk_frozen BK183.out 1; have hfz20_2 := blk_frozen BK183.out 2; have hfz20_3 := blk_frozen BK183.out 3; have hfz20_4 := blk_frozen BK183.out 4; have hfz20_5 := blk_frozen BK183.out 5; have hfz20_6 := blk_frozen BK183.out 6; have hfz20_7 := blk_frozen BK183.out 7))
  replace BK183 := Aside0.mk (blk_drew BK183.out); replace BK184 := Aside0.mk (blk_drew BK184.out); replace BK185 := Aside0.mk (blk_drew BK185.out); replace BK186 := Aside0.mk (blk_drew BK186.out); replace HB := Aside0.mk (below_drew1 HB.out)
  refine start_ (n := 14) (S := fun w' => w'.cell? ⟨gb183, 0, none⟩ = some (.bool true) ∧ w'.cell? ⟨gb183, 1, none⟩ = some (.int .i64 a0_1) ∧ w'.cell? ⟨gb183, 2, none⟩ = some (.int .i64 a0_2) ∧ w'.cell? ⟨gb183, 3, none⟩ = some (.int .i64 a0_3) ∧ w'.cell? ⟨gb183, 4, none⟩ = some (.int .i64 a0_4) ∧ w'.cell? ⟨gb183, 5, none⟩ = some (.int .i64 a0_5) ∧ w'.cell? ⟨gb183, 6, none⟩ = some (.int .i64 a0_6) ∧ w'.cell? ⟨gb183, 7, none⟩ = some (.int .i64 a0_7) ∧ w'.cell? ⟨gb184, 0, none⟩ = some (.int .i64 a1_0) ∧ w'.cell? ⟨gb184, 1, none⟩ = some (.int .i64 a1_1) ∧ w'.cell? ⟨gb184, 2, none⟩ = some (.int .i64 a1_2) ∧ w'.cell? ⟨gb184, 3, none⟩ = some (.int .i64 a1_3) ∧ w'.cell? ⟨gb185, 0, none⟩ = some (.int .i64 a2_0) ∧ w'.cell? ⟨gb185, 1, none⟩ = some (.int .i64 a2_1) ∧ w'.cell? ⟨gb185, 2, none⟩ = some (.int .i64 a2_2) ∧ w'.cell? ⟨gb185, 3, none⟩ = some (.int .i64 a2_3)) (ds := []) #[false, false, false, false, false, false, false, false, false, false, false, false, false, false] (by kernel_rfl) rfl rfl ⟨bc BK183 0, bc BK183 1, bc BK183 2, bc BK183 3, bc BK183 4, bc BK183 5, bc BK183 6, bc BK183 7, bc BK184 0, bc BK184 1, bc BK184 2, bc BK184 3, bc BK185 0, bc BK185 1, bc BK185 2, bc BK185 3⟩ (fun hHeld => ?_); refine with_tabW blend_Blend.tab3 blend_Blend.bits3 (fun HT_ HW_ => ?_)
  generalize w16.drew = w21 at BK183 BK184 BK185 BK186 HB hHeld ⊢
  refine pure_ (i := 0) (N := some 27) (v := ?_) (a' := ?_) #[true, false, false, false, false, false, false, false, false, false, false, false, false, false] rfl rfl (any_of HT_.out (by kernel_rfl)) (fun _ _ _ h => h) (Or.inl ⟨by rfl, ?_⟩) ?_ ?_
  rotate_left
  ·intro w'
   go_simp
   with_reducible rfl
  rotate_left
  ·simp only [Act.put, List.setIfInBounds_toArray, List.set_cons_zero, List.set_cons_succ, i64_w, i32_w]
   rfl
  refine pure_ (i := 5) (N := some 32) (v := ?_) (a' := ?_) #[true, false, false, false, false, true, false, false, false, false, false, false, false, false] rfl rfl (any_of HT_.out (by kernel_rfl)) (fun _ _ _ h => h) (Or.inl ⟨by rfl, ?_⟩) ?_ ?_
  rotate_left
  ·intro w'
   go_simp
   with_reducible rfl
  rotate_left
  ·simp only [Act.put, List.setIfInBounds_toArray, List.set_cons_zero, List.set_cons_succ, i64_w, i32_w]
   rfl
  refine take_ (i := 1) (N := some 28) (v := ?_) (a' := ?_) #[true, true, false, false, false, true, false, false, false, false, false, false, false, false] rfl rfl (take_ofW HT_.out HW_.out (by kernel_rfl)) (fun _ _ _ h => h) (Or.inl ⟨by rfl, ?_⟩) hHeld ?_ ?_
  rotate_left
  ·rintro w' ⟨s0, s1, s2, s3, s4, s5, s6, s7, s8, s9, s10, s11, s12, s13, s14, s15⟩
   go_simp
   with_reducible rfl
  rotate_left
  ·simp only [Act.put, List.setIfInBounds_toArray, List.set_cons_zero, List.set_cons_succ, i64_w, i32_w]
   rfl
  refine take_ (i := 2) (N := some 29) (v := ?_) (a' := ?_) #[true, true, true, false, false, true, false, false, false, false, false, false, false, false] rfl rfl (take_ofW HT_.out HW_.out (by kernel_rfl)) (fun _ _ _ h => h) (Or.inl ⟨by rfl, ?_⟩) hHeld ?_ ?_
  rotate_left
  ·rintro w' ⟨s0, s1, s2, s3, s4, s5, s6, s7, s8, s9, s10, s11, s12, s13, s14, s15⟩
   go_simp
   with_reducible rfl
  rotate_left
  ·simp only [Act.put, List.setIfInBounds_toArray, List.set_cons_zero, List.set_cons_succ, i64_w, i32_w]
   rfl
  refine take_ (i := 3) (N := some 30) (v := ?_) (a' := ?_) #[true, true, true, true, false, true, false, false, false, false, false, false, false, false] rfl rfl (take_ofW HT_.out HW_.out (by kernel_rfl)) (fun _ _ _ h => h) (Or.inl ⟨by rfl, ?_⟩) hHeld ?_ ?_
  rotate_left
  ·rintro w' ⟨s0, s1, s2, s3, s4, s5, s6, s7, s8, s9, s10, s11, s12, s13, s14, s15⟩
   go_simp
   with_reducible rfl
  rotate_left
  ·simp only [Act.put, List.setIfInBounds_toArray, List.set_cons_zero, List.set_cons_succ, i64_w, i32_w]
   rfl
  refine take_ (i := 6) (N := some 33) (v := ?_) (a' := ?_) #[true, true, true, true, false, true, true, false, false, false, false, false, false, false] rfl rfl (take_ofW HT_.out HW_.out (by kernel_rfl)) (fun _ _ _ h => h) (Or.inl ⟨by rfl, ?_⟩) hHeld ?_ ?_
  rotate_left
  ·rintro w' ⟨s0, s1, s2, s3, s4, s5, s6, s7, s8, s9, s10, s11, s12, s13, s14, s15⟩
   go_simp
   with_reducible rfl
  rotate_left
  ·simp only [Act.put, List.setIfInBounds_toArray, List.set_cons_zero, List.set_cons_succ, i64_w, i32_w]
   rfl
  refine take_ (i := 7) (N := some 34) (v := ?_) (a' := ?_) #[true, true, true, true, false, true, true, true, false, false, false, false, false, false] rfl rfl (take_ofW HT_.out HW_.out (by kernel_rfl)) (fun _ _ _ h => h) (Or.inl ⟨by rfl, ?_⟩) hHeld ?_ ?_
  rotate_left
  ·rintro w' ⟨s0, s1, s2, s3, s4, s5, s6, s7, s8, s9, s10, s11, s12, s13, s14, s15⟩
   go_simp
   with_reducible rfl
  rotate_left
  ·simp only [Act.put, List.setIfInBounds_toArray, List.set_cons_zero, List.set_cons_succ, i64_w, i32_w]
   rfl
  refine take_ (i := 8) (N := some 35) (v := ?_) (a' := ?_) #[true, true, true, true, false, true, true, true, true, false, false, false, false, false] rfl rfl (take_ofW HT_.out HW_.out (by kernel_rfl)) (fun _ _ _ h => h) (Or.inl ⟨by rfl, ?_⟩) hHeld ?_ ?_
  rotate_left
  ·rintro w' ⟨s0, s1, s2, s3, s4, s5, s6, s7, s8, s9, s10, s11, s12, s13, s14, s15⟩
   go_simp
   with_reducible rfl
  rotate_left
  ·simp only [Act.put, List.setIfInBounds_toArray, List.set_cons_zero, List.set_cons_succ, i64_w, i32_w]
   rfl
  refine join_ (σ := Nat × Nat) 2 #[true, true, true, true, true, true, true, true, true, true, true, true, false, false] (fun s_ => [(31, .agg #[.int .i64 t191, .int .i64 t192, .int .i64 t193, .int .i64 t194]), (36, .agg #[.int .i64 t195, .int .i64 t196, .int .i64 t197, .int .i64 t198]), (7, .pointer (some ⟨s_.1, 0, none⟩)), (8, .pointer (some ⟨s_.2, 0, none⟩))]) (fun s_ w' => (w'.cell? ⟨gb183, 0, none⟩ = some (.bool true) ∧ w'.cell? ⟨gb183, 1, none⟩ = some (.int .i64 a0_1) ∧ w'.cell? ⟨gb183, 2, none⟩ = some (.int .i64 a0_2) ∧ w'.cell? ⟨gb183, 3, none⟩ = some (.int .i64 a0_3) ∧ w'.cell? ⟨gb183, 4, none⟩ = some (.int .i64 a0_4) ∧ w'.cell? ⟨gb183, 5, none⟩ = some (.int .i64 a0_5) ∧ w'.cell? ⟨gb183, 6, none⟩ = some (.int .i64 a0_6) ∧ w'.cell? ⟨gb183, 7, none⟩ = some (.int .i64 a0_7) ∧ w'.cell? ⟨gb184, 0, none⟩ = some (.int .i64 a1_0) ∧ w'.cell? ⟨gb184, 1, none⟩ = some (.int .i64 a1_1) ∧ w'.cell? ⟨gb184, 2, none⟩ = some (.int .i64 a1_2) ∧ w'.cell? ⟨gb184, 3, none⟩ = some (.int .i64 a1_3) ∧ w'.cell? ⟨gb185, 0, none⟩ = some (.int .i64 a2_0) ∧ w'.cell? ⟨gb185, 1, none⟩ = some (.int .i64 a2_1) ∧ w'.cell? ⟨gb185, 2, none⟩ = some (.int .i64 a2_2) ∧ w'.cell? ⟨gb185, 3, none⟩ = some (.int .i64 a2_3)) ∧ (w'.heap[gb183]? = some (.cells #[.bool true, .int .i64 a0_1, .int .i64 a0_2, .int .i64 a0_3, .int .i64 a0_4, .int .i64 a0_5, .int .i64 a0_6, .int .i64 a0_7] 25 (0, 0))) ∧ (w'.heap[gb184]? = some (.cells #[.int .i64 a1_0, .int .i64 a1_1, .int .i64 a1_2, .int .i64 a1_3] 27 (0, 0))) ∧ (w'.heap[gb185]? = some (.cells #[.int .i64 a2_0, .int .i64 a2_1, .int .i64 a2_2, .int .i64 a2_3] 27 (0, 0))) ∧ (w'.heap[gb186]? = some (.cells #[.int .i64 0, .int .i64 0, .int .i64 0, .int .i64 0] 27 (0, 0))) ∧ (w'.heap[s_.1]? = some (.cells #[.int .i64 0, .int .i64 0, .int .i64 0, .int .i64 0] 27 (0, 0))) ∧ (w'.heap[s_.2]? = some (.cells #[.int .i64 0, .int .i64 0, .int .i64 0, .int .i64 0] 27 (0, 0))) ∧ (w.heap.size ≤ s_.1) ∧ (w.heap.size ≤ s_.1) ∧ (gb183 ≠ s_.1) ∧ (s_.1 ≠ gb183) ∧ (gb184 ≠ s_.1) ∧ (s_.1 ≠ gb184) ∧ (gb185 ≠ s_.1) ∧ (s_.1 ≠ gb185) ∧ (gb186 ≠ s_.1) ∧ (s_.1 ≠ gb186) ∧ (s_.2 ≠ s_.1) ∧ (s_.1 ≠ s_.2) ∧ (w.heap.size ≤ s_.2) ∧ (w.heap.size ≤ s_.2) ∧ (gb183 ≠ s_.2) ∧ (s_.2 ≠ gb183) ∧ (gb184 ≠ s_.2) ∧ (s_.2 ≠ gb184) ∧ (gb185 ≠ s_.2) ∧ (s_.2 ≠ gb185) ∧ (gb186 ≠ s_.2) ∧ (s_.2 ≠ gb186) ∧ (Below w.heap.size w w')) ?_ ?_
  rotate_left
  ·intro hJ4_9_10_11
   refine join_ (σ := Nat) 3 #[true, true, true, true, true, true, true, true, true, true, true, false, false, false] (fun s_ => [(31, .agg #[.int .i64 t191, .int .i64 t192, .int .i64 t193, .int .i64 t194]), (36, .agg #[.int .i64 t195, .int .i64 t196, .int .i64 t197, .int .i64 t198]), (7, .pointer (some ⟨s_, 0, none⟩))]) (fun s_ w' => (w'.cell? ⟨gb183, 0, none⟩ = some (.bool true) ∧ w'.cell? ⟨gb183, 1, none⟩ = some (.int .i64 a0_1) ∧ w'.cell? ⟨gb183, 2, none⟩ = some (.int .i64 a0_2) ∧ w'.cell? ⟨gb183, 3, none⟩ = some (.int .i64 a0_3) ∧ w'.cell? ⟨gb183, 4, none⟩ = some (.int .i64 a0_4) ∧ w'.cell? ⟨gb183, 5, none⟩ = some (.int .i64 a0_5) ∧ w'.cell? ⟨gb183, 6, none⟩ = some (.int .i64 a0_6) ∧ w'.cell? ⟨gb183, 7, none⟩ = some (.int .i64 a0_7) ∧ w'.cell? ⟨gb184, 0, none⟩ = some (.int .i64 a1_0) ∧ w'.cell? ⟨gb184, 1, none⟩ = some (.int .i64 a1_1) ∧ w'.cell? ⟨gb184, 2, none⟩ = some (.int .i64 a1_2) ∧ w'.cell? ⟨gb184, 3, none⟩ = some (.int .i64 a1_3) ∧ w'.cell? ⟨gb185, 0, none⟩ = some (.int .i64 a2_0) ∧ w'.cell? ⟨gb185, 1, none⟩ = some (.int .i64 a2_1) ∧ w'.cell? ⟨gb185, 2, none⟩ = some (.int .i64 a2_2) ∧ w'.cell? ⟨gb185, 3, none⟩ = some (.int .i64 a2_3)) ∧ (w'.heap[gb183]? = some (.cells #[.bool true, .int .i64 a0_1, .int .i64 a0_2, .int .i64 a0_3, .int .i64 a0_4, .int .i64 a0_5, .int .i64 a0_6, .int .i64 a0_7] 25 (0, 0))) ∧ (w'.heap[gb184]? = some (.cells #[.int .i64 a1_0, .int .i64 a1_1, .int .i64 a1_2, .int .i64 a1_3] 27 (0, 0))) ∧ (w'.heap[gb185]? = some (.cells #[.int .i64 a2_0, .int .i64 a2_1, .int .i64 a2_2, .int .i64 a2_3] 27 (0, 0))) ∧ (w'.heap[gb186]? = some (.cells #[.int .i64 0, .int .i64 0, .int .i64 0, .int .i64 0] 27 (0, 0))) ∧ (w'.heap[s_]? = some (.cells #[.int .i64 0, .int .i64 0, .int .i64 0, .int .i64 0] 27 (0, 0))) ∧ (w.heap.size ≤ s_) ∧ (w.heap.size ≤ s_) ∧ (gb183 ≠ s_) ∧ (s_ ≠ gb183) ∧ (gb184 ≠ s_) ∧ (s_ ≠ gb184) ∧ (gb185 ≠ s_) ∧ (s_ ≠ gb185) ∧ (gb186 ≠ s_) ∧ (s_ ≠ gb186) ∧ (Below w.heap.size w w')) ?_ ?_
   rotate_left
   ·intro hJ4_9_10
    refine join_ (σ := Nat) 3 #[true, true, true, true, true, true, true, true, true, true, false, true, false, false] (fun s_ => [(31, .agg #[.int .i64 t191, .int .i64 t192, .int .i64 t193, .int .i64 t194]), (36, .agg #[.int .i64 t195, .int .i64 t196, .int .i64 t197, .int .i64 t198]), (8, .pointer (some ⟨s_, 0, none⟩))]) (fun s_ w' => (w'.cell? ⟨gb183, 0, none⟩ = some (.bool true) ∧ w'.cell? ⟨gb183, 1, none⟩ = some (.int .i64 a0_1) ∧ w'.cell? ⟨gb183, 2, none⟩ = some (.int .i64 a0_2) ∧ w'.cell? ⟨gb183, 3, none⟩ = some (.int .i64 a0_3) ∧ w'.cell? ⟨gb183, 4, none⟩ = some (.int .i64 a0_4) ∧ w'.cell? ⟨gb183, 5, none⟩ = some (.int .i64 a0_5) ∧ w'.cell? ⟨gb183, 6, none⟩ = some (.int .i64 a0_6) ∧ w'.cell? ⟨gb183, 7, none⟩ = some (.int .i64 a0_7) ∧ w'.cell? ⟨gb184, 0, none⟩ = some (.int .i64 a1_0) ∧ w'.cell? ⟨gb184, 1, none⟩ = some (.int .i64 a1_1) ∧ w'.cell? ⟨gb184, 2, none⟩ = some (.int .i64 a1_2) ∧ w'.cell? ⟨gb184, 3, none⟩ = some (.int .i64 a1_3) ∧ w'.cell? ⟨gb185, 0, none⟩ = some (.int .i64 a2_0) ∧ w'.cell? ⟨gb185, 1, none⟩ = some (.int .i64 a2_1) ∧ w'.cell? ⟨gb185, 2, none⟩ = some (.int .i64 a2_2) ∧ w'.cell? ⟨gb185, 3, none⟩ = some (.int .i64 a2_3)) ∧ (w'.heap[gb183]? = some (.cells #[.bool true, .int .i64 a0_1, .int .i64 a0_2, .int .i64 a0_3, .int .i64 a0_4, .int .i64 a0_5, .int .i64 a0_6, .int .i64 a0_7] 25 (0, 0))) ∧ (w'.heap[gb184]? = some (.cells #[.int .i64 a1_0, .int .i64 a1_1, .int .i64 a1_2, .int .i64 a1_3] 27 (0, 0))) ∧ (w'.heap[gb185]? = some (.cells #[.int .i64 a2_0, .int .i64 a2_1, .int .i64 a2_2, .int .i64 a2_3] 27 (0, 0))) ∧ (w'.heap[gb186]? = some (.cells #[.int .i64 0, .int .i64 0, .int .i64 0, .int .i64 0] 27 (0, 0))) ∧ (w'.heap[s_]? = some (.cells #[.int .i64 0, .int .i64 0, .int .i64 0, .int .i64 0] 27 (0, 0))) ∧ (w.heap.size ≤ s_) ∧ (w.heap.size ≤ s_) ∧ (gb183 ≠ s_) ∧ (s_ ≠ gb183) ∧ (gb184 ≠ s_) ∧ (s_ ≠ gb184) ∧ (gb185 ≠ s_) ∧ (s_ ≠ gb185) ∧ (gb186 ≠ s_) ∧ (s_ ≠ gb186) ∧ (Below w.heap.size w w')) ?_ ?_
    rotate_left
    ·intro hJ4_9_11
     refine join_ (σ := Nat × Nat) 3 #[true, true, true, true, true, true, true, true, true, false, true, true, false, false] (fun s_ => [(31, .agg #[.int .i64 t191, .int .i64 t192, .int .i64 t193, .int .i64 t194]), (7, .pointer (some ⟨s_.1, 0, none⟩)), (8, .pointer (some ⟨s_.2, 0, none⟩))]) (fun s_ w' => (w'.cell? ⟨gb183, 0, none⟩ = some (.bool true) ∧ w'.cell? ⟨gb183, 1, none⟩ = some (.int .i64 a0_1) ∧ w'.cell? ⟨gb183, 2, none⟩ = some (.int .i64 a0_2) ∧ w'.cell? ⟨gb183, 3, none⟩ = some (.int .i64 a0_3) ∧ w'.cell? ⟨gb183, 4, none⟩ = some (.int .i64 a0_4) ∧ w'.cell? ⟨gb183, 5, none⟩ = some (.int .i64 a0_5) ∧ w'.cell? ⟨gb183, 6, none⟩ = some (.int .i64 a0_6) ∧ w'.cell? ⟨gb183, 7, none⟩ = some (.int .i64 a0_7) ∧ w'.cell? ⟨gb184, 0, none⟩ = some (.int .i64 a1_0) ∧ w'.cell? ⟨gb184, 1, none⟩ = some (.int .i64 a1_1) ∧ w'.cell? ⟨gb184, 2, none⟩ = some (.int .i64 a1_2) ∧ w'.cell? ⟨gb184, 3, none⟩ = some (.int .i64 a1_3) ∧ w'.cell? ⟨gb185, 0, none⟩ = some (.int .i64 a2_0) ∧ w'.cell? ⟨gb185, 1, none⟩ = some (.int .i64 a2_1) ∧ w'.cell? ⟨gb185, 2, none⟩ = some (.int .i64 a2_2) ∧ w'.cell? ⟨gb185, 3, none⟩ = some (.int .i64 a2_3)) ∧ (w'.heap[gb183]? = some (.cells #[.bool true, .int .i64 a0_1, .int .i64 a0_2, .int .i64 a0_3, .int .i64 a0_4, .int .i64 a0_5, .int .i64 a0_6, .int .i64 a0_7] 25 (0, 0))) ∧ (w'.heap[gb184]? = some (.cells #[.int .i64 a1_0, .int .i64 a1_1, .int .i64 a1_2, .int .i64 a1_3] 27 (0, 0))) ∧ (w'.heap[gb185]? = some (.cells #[.int .i64 a2_0, .int .i64 a2_1, .int .i64 a2_2, .int .i64 a2_3] 27 (0, 0))) ∧ (w'.heap[gb186]? = some (.cells #[.int .i64 0, .int .i64 0, .int .i64 0, .int .i64 0] 27 (0, 0))) ∧ (w'.heap[s_.1]? = some (.cells #[.int .i64 0, .int .i64 0, .int .i64 0, .int .i64 0] 27 (0, 0))) ∧ (w'.heap[s_.2]? = some (.cells #[.int .i64 0, .int .i64 0, .int .i64 0, .int .i64 0] 27 (0, 0))) ∧ (w.heap.size ≤ s_.1) ∧ (w.heap.size ≤ s_.1) ∧ (gb183 ≠ s_.1) ∧ (s_.1 ≠ gb183) ∧ (gb184 ≠ s_.1) ∧ (s_.1 ≠ gb184) ∧ (gb185 ≠ s_.1) ∧ (s_.1 ≠ gb185) ∧ (gb186 ≠ s_.1) ∧ (s_.1 ≠ gb186) ∧ (s_.2 ≠ s_.1) ∧ (s_.1 ≠ s_.2) ∧ (w.heap.size ≤ s_.2) ∧ (w.heap.size ≤ s_.2) ∧ (gb183 ≠ s_.2) ∧ (s_.2 ≠ gb183) ∧ (gb184 ≠ s_.2) ∧ (s_.2 ≠ gb184) ∧ (gb185 ≠ s_.2) ∧ (s_.2 ≠ gb185) ∧ (gb186 ≠ s_.2) ∧ (s_.2 ≠ gb186) ∧ (Below w.heap.size w w')) ?_ ?_
     rotate_left
     ·intro hJ4_10_11
      refine join_ (σ := Unit) 4 #[true, true, true, true, true, true, true, true, true, true, false, false, false, false] (fun s_ => [(31, .agg #[.int .i64 t191, .int .i64 t192, .int .i64 t193, .int .i64 t194]), (36, .agg #[.int .i64 t195, .int .i64 t196, .int .i64 t197, .int .i64 t198])]) (fun s_ w' => (w'.cell? ⟨gb183, 0, none⟩ = some (.bool true) ∧ w'.cell? ⟨gb183, 1, none⟩ = some (.int .i64 a0_1) ∧ w'.cell? ⟨gb183, 2, none⟩ = some (.int .i64 a0_2) ∧ w'.cell? ⟨gb183, 3, none⟩ = some (.int .i64 a0_3) ∧ w'.cell? ⟨gb183, 4, none⟩ = some (.int .i64 a0_4) ∧ w'.cell? ⟨gb183, 5, none⟩ = some (.int .i64 a0_5) ∧ w'.cell? ⟨gb183, 6, none⟩ = some (.int .i64 a0_6) ∧ w'.cell? ⟨gb183, 7, none⟩ = some (.int .i64 a0_7) ∧ w'.cell? ⟨gb184, 0, none⟩ = some (.int .i64 a1_0) ∧ w'.cell? ⟨gb184, 1, none⟩ = some (.int .i64 a1_1) ∧ w'.cell? ⟨gb184, 2, none⟩ = some (.int .i64 a1_2) ∧ w'.cell? ⟨gb184, 3, none⟩ = some (.int .i64 a1_3) ∧ w'.cell? ⟨gb185, 0, none⟩ = some (.int .i64 a2_0) ∧ w'.cell? ⟨gb185, 1, none⟩ = some (.int .i64 a2_1) ∧ w'.cell? ⟨gb185, 2, none⟩ = some (.int .i64 a2_2) ∧ w'.cell? ⟨gb185, 3, none⟩ = some (.int .i64 a2_3)) ∧ (w'.heap[gb183]? = some (.cells #[.bool true, .int .i64 a0_1, .int .i64 a0_2, .int .i64 a0_3, .int .i64 a0_4, .int .i64 a0_5, .int .i64 a0_6, .int .i64 a0_7] 25 (0, 0))) ∧ (w'.heap[gb184]? = some (.cells #[.int .i64 a1_0, .int .i64 a1_1, .int .i64 a1_2, .int .i64 a1_3] 27 (0, 0))) ∧ (w'.heap[gb185]? = some (.cells #[.int .i64 a2_0, .int .i64 a2_1, .int .i64 a2_2, .int .i64 a2_3] 27 (0, 0))) ∧ (w'.heap[gb186]? = some (.cells #[.int .i64 0, .int .i64 0, .int .i64 0, .int .i64 0] 27 (0, 0))) ∧ (Below w.heap.size w w')) ?_ ?_
      rotate_left
      ·intro hJ4_9
       refine join_ (σ := Nat) 4 #[true, true, true, true, true, true, true, true, true, false, true, false, false, false] (fun s_ => [(31, .agg #[.int .i64 t191, .int .i64 t192, .int .i64 t193, .int .i64 t194]), (7, .pointer (some ⟨s_, 0, none⟩))]) (fun s_ w' => (w'.cell? ⟨gb183, 0, none⟩ = some (.bool true) ∧ w'.cell? ⟨gb183, 1, none⟩ = some (.int .i64 a0_1) ∧ w'.cell? ⟨gb183, 2, none⟩ = some (.int .i64 a0_2) ∧ w'.cell? ⟨gb183, 3, none⟩ = some (.int .i64 a0_3) ∧ w'.cell? ⟨gb183, 4, none⟩ = some (.int .i64 a0_4) ∧ w'.cell? ⟨gb183, 5, none⟩ = some (.int .i64 a0_5) ∧ w'.cell? ⟨gb183, 6, none⟩ = some (.int .i64 a0_6) ∧ w'.cell? ⟨gb183, 7, none⟩ = some (.int .i64 a0_7) ∧ w'.cell? ⟨gb184, 0, none⟩ = some (.int .i64 a1_0) ∧ w'.cell? ⟨gb184, 1, none⟩ = some (.int .i64 a1_1) ∧ w'.cell? ⟨gb184, 2, none⟩ = some (.int .i64 a1_2) ∧ w'.cell? ⟨gb184, 3, none⟩ = some (.int .i64 a1_3) ∧ w'.cell? ⟨gb185, 0, none⟩ = some (.int .i64 a2_0) ∧ w'.cell? ⟨gb185, 1, none⟩ = some (.int .i64 a2_1) ∧ w'.cell? ⟨gb185, 2, none⟩ = some (.int .i64 a2_2) ∧ w'.cell? ⟨gb185, 3, none⟩ = some (.int .i64 a2_3)) ∧ (w'.heap[gb183]? = some (.cells #[.bool true, .int .i64 a0_1, .int .i64 a0_2, .int .i64 a0_3, .int .i64 a0_4, .int .i64 a0_5, .int .i64 a0_6, .int .i64 a0_7] 25 (0, 0))) ∧ (w'.heap[gb184]? = some (.cells #[.int .i64 a1_0, .int .i64 a1_1, .int .i64 a1_2, .int .i64 a1_3] 27 (0, 0))) ∧ (w'.heap[gb185]? = some (.cells #[.int .i64 a2_0, .int .i64 a2_1, .int .i64 a2_2, .int .i64 a2_3] 27 (0, 0))) ∧ (w'.heap[gb186]? = some (.cells #[.int .i64 0, .int .i64 0, .int .i64 0, .int .i64 0] 27 (0, 0))) ∧ (w'.heap[s_]? = some (.cells #[.int .i64 0, .int .i64 0, .int .i64 0, .int .i64 0] 27 (0, 0))) ∧ (w.heap.size ≤ s_) ∧ (w.heap.size ≤ s_) ∧ (gb183 ≠ s_) ∧ (s_ ≠ gb183) ∧ (gb184 ≠ s_) ∧ (s_ ≠ gb184) ∧ (gb185 ≠ s_) ∧ (s_ ≠ gb185) ∧ (gb186 ≠ s_) ∧ (s_ ≠ gb186) ∧ (Below w.heap.size w w')) ?_ ?_
       rotate_left
       ·intro hJ4_10
        refine join_ (σ := Nat) 4 #[true, true, true, true, true, true, true, true, true, false, false, true, false, false] (fun s_ => [(31, .agg #[.int .i64 t191, .int .i64 t192, .int .i64 t193, .int .i64 t194]), (8, .pointer (some ⟨s_, 0, none⟩))]) (fun s_ w' => (w'.cell? ⟨gb183, 0, none⟩ = some (.bool true) ∧ w'.cell? ⟨gb183, 1, none⟩ = some (.int .i64 a0_1) ∧ w'.cell? ⟨gb183, 2, none⟩ = some (.int .i64 a0_2) ∧ w'.cell? ⟨gb183, 3, none⟩ = some (.int .i64 a0_3) ∧ w'.cell? ⟨gb183, 4, none⟩ = some (.int .i64 a0_4) ∧ w'.cell? ⟨gb183, 5, none⟩ = some (.int .i64 a0_5) ∧ w'.cell? ⟨gb183, 6, none⟩ = some (.int .i64 a0_6) ∧ w'.cell? ⟨gb183, 7, none⟩ = some (.int .i64 a0_7) ∧ w'.cell? ⟨gb184, 0, none⟩ = some (.int .i64 a1_0) ∧ w'.cell? ⟨gb184, 1, none⟩ = some (.int .i64 a1_1) ∧ w'.cell? ⟨gb184, 2, none⟩ = some (.int .i64 a1_2) ∧ w'.cell? ⟨gb184, 3, none⟩ = some (.int .i64 a1_3) ∧ w'.cell? ⟨gb185, 0, none⟩ = some (.int .i64 a2_0) ∧ w'.cell? ⟨gb185, 1, none⟩ = some (.int .i64 a2_1) ∧ w'.cell? ⟨gb185, 2, none⟩ = some (.int .i64 a2_2) ∧ w'.cell? ⟨gb185, 3, none⟩ = some (.int .i64 a2_3)) ∧ (w'.heap[gb183]? = some (.cells #[.bool true, .int .i64 a0_1, .int .i64 a0_2, .int .i64 a0_3, .int .i64 a0_4, .int .i64 a0_5, .int .i64 a0_6, .int .i64 a0_7] 25 (0, 0))) ∧ (w'.heap[gb184]? = some (.cells #[.int .i64 a1_0, .int .i64 a1_1, .int .i64 a1_2, .int .i64 a1_3] 27 (0, 0))) ∧ (w'.heap[gb185]? = some (.cells #[.int .i64 a2_0, .int .i64 a2_1, .int .i64 a2_2, .int .i64 a2_3] 27 (0, 0))) ∧ (w'.heap[gb186]? = some (.cells #[.int .i64 0, .int .i64 0, .int .i64 0, .int .i64 0] 27 (0, 0))) ∧ (w'.heap[s_]? = some (.cells #[.int .i64 0, .int .i64 0, .int .i64 0, .int .i64 0] 27 (0, 0))) ∧ (w.heap.size ≤ s_) ∧ (w.heap.size ≤ s_) ∧ (gb183 ≠ s_) ∧ (s_ ≠ gb183) ∧ (gb184 ≠ s_) ∧ (s_ ≠ gb184) ∧ (gb185 ≠ s_) ∧ (s_ ≠ gb185) ∧ (gb186 ≠ s_) ∧ (s_ ≠ gb186) ∧ (Below w.heap.size w w')) ?_ ?_
        rotate_left
        ·intro hJ4_11
         refine join_ (σ := Nat × Nat) 4 #[true, true, true, true, false, true, true, true, true, false, true, true, false, false] (fun s_ => [(7, .pointer (some ⟨s_.1, 0, none⟩)), (8, .pointer (some ⟨s_.2, 0, none⟩))]) (fun s_ w' => (w'.cell? ⟨gb183, 0, none⟩ = some (.bool true) ∧ w'.cell? ⟨gb183, 1, none⟩ = some (.int .i64 a0_1) ∧ w'.cell? ⟨gb183, 2, none⟩ = some (.int .i64 a0_2) ∧ w'.cell? ⟨gb183, 3, none⟩ = some (.int .i64 a0_3) ∧ w'.cell? ⟨gb183, 4, none⟩ = some (.int .i64 a0_4) ∧ w'.cell? ⟨gb183, 5, none⟩ = some (.int .i64 a0_5) ∧ w'.cell? ⟨gb183, 6, none⟩ = some (.int .i64 a0_6) ∧ w'.cell? ⟨gb183, 7, none⟩ = some (.int .i64 a0_7) ∧ w'.cell? ⟨gb184, 0, none⟩ = some (.int .i64 a1_0) ∧ w'.cell? ⟨gb184, 1, none⟩ = some (.int .i64 a1_1) ∧ w'.cell? ⟨gb184, 2, none⟩ = some (.int .i64 a1_2) ∧ w'.cell? ⟨gb184, 3, none⟩ = some (.int .i64 a1_3) ∧ w'.cell? ⟨gb185, 0, none⟩ = some (.int .i64 a2_0) ∧ w'.cell? ⟨gb185, 1, none⟩ = some (.int .i64 a2_1) ∧ w'.cell? ⟨gb185, 2, none⟩ = some (.int .i64 a2_2) ∧ w'.cell? ⟨gb185, 3, none⟩ = some (.int .i64 a2_3)) ∧ (w'.heap[gb183]? = some (.cells #[.bool true, .int .i64 a0_1, .int .i64 a0_2, .int .i64 a0_3, .int .i64 a0_4, .int .i64 a0_5, .int .i64 a0_6, .int .i64 a0_7] 25 (0, 0))) ∧ (w'.heap[gb184]? = some (.cells #[.int .i64 a1_0, .int .i64 a1_1, .int .i64 a1_2, .int .i64 a1_3] 27 (0, 0))) ∧ (w'.heap[gb185]? = some (.cells #[.int .i64 a2_0, .int .i64 a2_1, .int .i64 a2_2, .int .i64 a2_3] 27 (0, 0))) ∧ (w'.heap[gb186]? = some (.cells #[.int .i64 0, .int .i64 0, .int .i64 0, .int .i64 0] 27 (0, 0))) ∧ (w'.heap[s_.1]? = some (.cells #[.int .i64 0, .int .i64 0, .int .i64 0, .int .i64 0] 27 (0, 0))) ∧ (w'.heap[s_.2]? = some (.cells #[.int .i64 0, .int .i64 0, .int .i64 0, .int .i64 0] 27 (0, 0))) ∧ (w.heap.size ≤ s_.1) ∧ (w.heap.size ≤ s_.1) ∧ (gb183 ≠ s_.1) ∧ (s_.1 ≠ gb183) ∧ (gb184 ≠ s_.1) ∧ (s_.1 ≠ gb184) ∧ (gb185 ≠ s_.1) ∧ (s_.1 ≠ gb185) ∧ (gb186 ≠ s_.1) ∧ (s_.1 ≠ gb186) ∧ (s_.2 ≠ s_.1) ∧ (s_.1 ≠ s_.2) ∧ (w.heap.size ≤ s_.2) ∧ (w.heap.size ≤ s_.2) ∧ (gb183 ≠ s_.2) ∧ (s_.2 ≠ gb183) ∧ (gb184 ≠ s_.2) ∧ (s_.2 ≠ gb184) ∧ (gb185 ≠ s_.2) ∧ (s_.2 ≠ gb185) ∧ (gb186 ≠ s_.2) ∧ (s_.2 ≠ gb186) ∧ (Below w.heap.size w w')) ?_ ?_
         rotate_left
         ·intro hJ10_11
          refine join_ (σ := Unit) 5 #[true, true, true, true, true, true, true, true, true, false, false, false, false, false] (fun s_ => [(31, .agg #[.int .i64 t191, .int .i64 t192, .int .i64 t193, .int .i64 t194])]) (fun s_ w' => (w'.cell? ⟨gb183, 0, none⟩ = some (.bool true) ∧ w'.cell? ⟨gb183, 1, none⟩ = some (.int .i64 a0_1) ∧ w'.cell? ⟨gb183, 2, none⟩ = some (.int .i64 a0_2) ∧ w'.cell? ⟨gb183, 3, none⟩ = some (.int .i64 a0_3) ∧ w'.cell? ⟨gb183, 4, none⟩ = some (.int .i64 a0_4) ∧ w'.cell? ⟨gb183, 5, none⟩ = some (.int .i64 a0_5) ∧ w'.cell? ⟨gb183, 6, none⟩ = some (.int .i64 a0_6) ∧ w'.cell? ⟨gb183, 7, none⟩ = some (.int .i64 a0_7) ∧ w'.cell? ⟨gb184, 0, none⟩ = some (.int .i64 a1_0) ∧ w'.cell? ⟨gb184, 1, none⟩ = some (.int .i64 a1_1) ∧ w'.cell? ⟨gb184, 2, none⟩ = some (.int .i64 a1_2) ∧ w'.cell? ⟨gb184, 3, none⟩ = some (.int .i64 a1_3) ∧ w'.cell? ⟨gb185, 0, none⟩ = some (.int .i64 a2_0) ∧ w'.cell? ⟨gb185, 1, none⟩ = some (.int .i64 a2_1) ∧ w'.cell? ⟨gb185, 2, none⟩ = some (.int .i64 a2_2) ∧ w'.cell? ⟨gb185, 3, none⟩ = some (.int .i64 a2_3)) ∧ (w'.heap[gb183]? = some (.cells #[.bool true, .int .i64 a0_1, .int .i64 a0_2, .int .i64 a0_3, .int .i64 a0_4, .int .i64 a0_5, .int .i64 a0_6, .int .i64 a0_7] 25 (0, 0))) ∧ (w'.heap[gb184]? = some (.cells #[.int .i64 a1_0, .int .i64 a1_1, .int .i64 a1_2, .int .i64 a1_3] 27 (0, 0))) ∧ (w'.heap[gb185]? = some (.cells #[.int .i64 a2_0, .int .i64 a2_1, .int .i64 a2_2, .int .i64 a2_3] 27 (0, 0))) ∧ (w'.heap[gb186]? = some (.cells #[.int .i64 0, .int .i64 0, .int .i64 0, .int .i64 0] 27 (0, 0))) ∧ (Below w.heap.size w w')) ?_ ?_
          rotate_left
          ·intro hJ4
           refine join_ (σ := Nat) 5 #[true, true, true, true, false, true, true, true, true, false, true, false, false, false] (fun s_ => [(7, .pointer (some ⟨s_, 0, none⟩))]) (fun s_ w' => (w'.cell? ⟨gb183, 0, none⟩ = some (.bool true) ∧ w'.cell? ⟨gb183, 1, none⟩ = some (.int .i64 a0_1) ∧ w'.cell? ⟨gb183, 2, none⟩ = some (.int .i64 a0_2) ∧ w'.cell? ⟨gb183, 3, none⟩ = some (.int .i64 a0_3) ∧ w'.cell? ⟨gb183, 4, none⟩ = some (.int .i64 a0_4) ∧ w'.cell? ⟨gb183, 5, none⟩ = some (.int .i64 a0_5) ∧ w'.cell? ⟨gb183, 6, none⟩ = some (.int .i64 a0_6) ∧ w'.cell? ⟨gb183, 7, none⟩ = some (.int .i64 a0_7) ∧ w'.cell? ⟨gb184, 0, none⟩ = some (.int .i64 a1_0) ∧ w'.cell? ⟨gb184, 1, none⟩ = some (.int .i64 a1_1) ∧ w'.cell? ⟨gb184, 2, none⟩ = some (.int .i64 a1_2) ∧ w'.cell? ⟨gb184, 3, none⟩ = some (.int .i64 a1_3) ∧ w'.cell? ⟨gb185, 0, none⟩ = some (.int .i64 a2_0) ∧ w'.cell? ⟨gb185, 1, none⟩ = some (.int .i64 a2_1) ∧ w'.cell? ⟨gb185, 2, none⟩ = some (.int .i64 a2_2) ∧ w'.cell? ⟨gb185, 3, none⟩ = some (.int .i64 a2_3)) ∧ (w'.heap[gb183]? = some (.cells #[.bool true, .int .i64 a0_1, .int .i64 a0_2, .int .i64 a0_3, .int .i64 a0_4, .int .i64 a0_5, .int .i64 a0_6, .int .i64 a0_7] 25 (0, 0))) ∧ (w'.heap[gb184]? = some (.cells #[.int .i64 a1_0, .int .i64 a1_1, .int .i64 a1_2, .int .i64 a1_3] 27 (0, 0))) ∧ (w'.heap[gb185]? = some (.cells #[.int .i64 a2_0, .int .i64 a2_1, .int .i64 a2_2, .int .i64 a2_3] 27 (0, 0))) ∧ (w'.heap[gb186]? = some (.cells #[.int .i64 0, .int .i64 0, .int .i64 0, .int .i64 0] 27 (0, 0))) ∧ (w'.heap[s_]? = some (.cells #[.int .i64 0, .int .i64 0, .int .i64 0, .int .i64 0] 27 (0, 0))) ∧ (w.heap.size ≤ s_) ∧ (w.heap.size ≤ s_) ∧ (gb183 ≠ s_) ∧ (s_ ≠ gb183) ∧ (gb184 ≠ s_) ∧ (s_ ≠ gb184) ∧ (gb185 ≠ s_) ∧ (s_ ≠ gb185) ∧ (gb186 ≠ s_) ∧ (s_ ≠ gb186) ∧ (Below w.heap.size w w')) ?_ ?_
           rotate_left
           ·intro hJ10
            refine join_ (σ := Nat) 5 #[true, true, true, true, false, true, true, true, true, false, false, true, false, false] (fun s_ => [(8, .pointer (some ⟨s_, 0, none⟩))]) (fun s_ w' => (w'.cell? ⟨gb183, 0, none⟩ = some (.bool true) ∧ w'.cell? ⟨gb183, 1, none⟩ = some (.int .i64 a0_1) ∧ w'.cell? ⟨gb183, 2, none⟩ = some (.int .i64 a0_2) ∧ w'.cell? ⟨gb183, 3, none⟩ = some (.int .i64 a0_3) ∧ w'.cell? ⟨gb183, 4, none⟩ = some (.int .i64 a0_4) ∧ w'.cell? ⟨gb183, 5, none⟩ = some (.int .i64 a0_5) ∧ w'.cell? ⟨gb183, 6, none⟩ = some (.int .i64 a0_6) ∧ w'.cell? ⟨gb183, 7, none⟩ = some (.int .i64 a0_7) ∧ w'.cell? ⟨gb184, 0, none⟩ = some (.int .i64 a1_0) ∧ w'.cell? ⟨gb184, 1, none⟩ = some (.int .i64 a1_1) ∧ w'.cell? ⟨gb184, 2, none⟩ = some (.int .i64 a1_2) ∧ w'.cell? ⟨gb184, 3, none⟩ = some (.int .i64 a1_3) ∧ w'.cell? ⟨gb185, 0, none⟩ = some (.int .i64 a2_0) ∧ w'.cell? ⟨gb185, 1, none⟩ = some (.int .i64 a2_1) ∧ w'.cell? ⟨gb185, 2, none⟩ = some (.int .i64 a2_2) ∧ w'.cell? ⟨gb185, 3, none⟩ = some (.int .i64 a2_3)) ∧ (w'.heap[gb183]? = some (.cells #[.bool true, .int .i64 a0_1, .int .i64 a0_2, .int .i64 a0_3, .int .i64 a0_4, .int .i64 a0_5, .int .i64 a0_6, .int .i64 a0_7] 25 (0, 0))) ∧ (w'.heap[gb184]? = some (.cells #[.int .i64 a1_0, .int .i64 a1_1, .int .i64 a1_2, .int .i64 a1_3] 27 (0, 0))) ∧ (w'.heap[gb185]? = some (.cells #[.int .i64 a2_0, .int .i64 a2_1, .int .i64 a2_2, .int .i64 a2_3] 27 (0, 0))) ∧ (w'.heap[gb186]? = some (.cells #[.int .i64 0, .int .i64 0, .int .i64 0, .int .i64 0] 27 (0, 0))) ∧ (w'.heap[s_]? = some (.cells #[.int .i64 0, .int .i64 0, .int .i64 0, .int .i64 0] 27 (0, 0))) ∧ (w.heap.size ≤ s_) ∧ (w.heap.size ≤ s_) ∧ (gb183 ≠ s_) ∧ (s_ ≠ gb183) ∧ (gb184 ≠ s_) ∧ (s_ ≠ gb184) ∧ (gb185 ≠ s_) ∧ (s_ ≠ gb185) ∧ (gb186 ≠ s_) ∧ (s_ ≠ gb186) ∧ (Below w.heap.size w w')) ?_ ?_
            rotate_left
            ·intro hJ11
             refine three_ (i := 4) (j := 10) (k := 11) (Ni := some 31) (Nj := some 7) (Nk := some 8) #[true, true, true, true, true, true, true, true, true, false, false, false, false, false] #[true, true, true, true, false, true, true, true, true, false, true, false, false, false] #[true, true, true, true, false, true, true, true, true, false, false, true, false, false] rfl rfl rfl rfl rfl rfl (three_of HT_.out (by kernel_rfl)) (by decide) (by decide) (by decide) (fun K hK => ?_) (fun K hK => ?_) (fun K hK => ?_)
             ·skip
              refine goes_ Try.func7 (by kernel_rfl) rfl #[.int .i64 a0_1, .agg #[.int .i64 a1_0, .int .i64 a1_1, .int .i64 a1_2, .int .i64 a1_3], .agg #[.int .i64 a2_0, .int .i64 a2_1, .int .i64 a2_2, .int .i64 a2_3]] (by rfl) rfl rfl (by (try simp only [List.map_toArray, List.map_cons, List.map_nil]); first | done | rfl | (simp only [List.length_drop, List.length_take]; rfl)) ?_
              with_reducible refine (blend_Factor.calls a0_1 a1_0 a1_1 a1_2 a1_3 a2_0 a2_1 a2_2 a2_3 t191 t192 t193 t194 _ A5.out).mono ?_; rintro e w22 ⟨rfl, hb⟩; refine ⟨_, rfl, ?_⟩; replace BK183 := ub BK183 hb; replace BK184 := ub BK184 hb; replace BK185 := ub BK185 hb; replace BK186 := ub BK186 hb; replace HB := bs HB hb; (try clear hb); (try clear hb2); (try clear hk); (try clear hi)
              refine hK.out _ _ ⟨bc BK183 0, bc BK183 1, bc BK183 2, bc BK183 3, bc BK183 4, bc BK183 5, bc BK183 6, bc BK183 7, bc BK184 0, bc BK184 1, bc BK184 2, bc BK184 3, bc BK185 0, bc BK185 1, bc BK185 2, bc BK185 3⟩ (fun hHeld => ?_)
              clear hK K
              refine norm_ (a' := ?_) ?_ ?_
              rotate_left
              ·show Act.put _ (some 31) _ = _
               simp only [Act.put, List.setIfInBounds_toArray, List.set_cons_zero, List.set_cons_succ, i64_w, i32_w]
               rfl
              exact norm_ (by first | (simp only [putAll, Act.put, List.setIfInBounds_toArray, List.set_cons_zero, List.set_cons_succ]; done) | (simp only [putAll, Act.put, List.setIfInBounds_toArray, List.set_cons_zero, List.set_cons_succ]; rfl)) (hJ4 () _ ⟨hHeld, BK183.out, BK184.out, BK185.out, BK186.out, (by repeat (first | (with_reducible first | exact HB.out | apply below_alloc | apply pw_below_drewN | apply below_drew1 | refine below_setA ?_ (by assumption)) | exact HB.out))⟩)
             ·skip
              refine box_step ?hg (N := 7) ?hd (cs := #[.int .i64 0, .int .i64 0, .int .i64 0, .int .i64 0]) (t := 27) ?hr ?_; (case hd => rfl); (case hg => rfl); (case hr => first | (go_simp; done) | (go_simp; rfl))
              intro gb199 hg w22 hbox hb
              have BK199 := Aside0.mk (hbox); have GW199 := ws HB hg; have GE199 := ws HB hg; have NB183_199 := nl BK183 hg; have NB199_183 := ng BK183 hg; have NB184_199 := nl BK184 hg; have NB199_184 := ng BK184 hg; have NB185_199 := nl BK185 hg; have NB199_185 := ng BK185 hg; have NB186_199 := nl BK186 hg; have NB199_186 := ng BK186 hg; replace BK183 := ub BK183 hb; replace BK184 := ub BK184 hb; replace BK185 := ub BK185 hb; replace BK186 := ub BK186 hb; replace HB := bs HB hb; clear hb hbox hg
              refine hK.out _ _ ⟨bc BK183 0, bc BK183 1, bc BK183 2, bc BK183 3, bc BK183 4, bc BK183 5, bc BK183 6, bc BK183 7, bc BK184 0, bc BK184 1, bc BK184 2, bc BK184 3, bc BK185 0, bc BK185 1, bc BK185 2, bc BK185 3⟩ (fun hHeld => ?_)
              clear hK K
              refine norm_ (a' := ?_) ?_ ?_
              rotate_left
              ·show Act.put _ (some 7) _ = _
               simp only [Act.put, List.setIfInBounds_toArray, List.set_cons_zero, List.set_cons_succ, i64_w, i32_w]
               rfl
              exact norm_ (by first | (simp only [putAll, Act.put, List.setIfInBounds_toArray, List.set_cons_zero, List.set_cons_succ]; done) | (simp only [putAll, Act.put, List.setIfInBounds_toArray, List.set_cons_zero, List.set_cons_succ]; rfl)) (hJ10 (gb199) _ ⟨hHeld, BK183.out, BK184.out, BK185.out, BK186.out, BK199.out, GW199.out, GE199.out, NB183_199.out, NB199_183.out, NB184_199.out, NB199_184.out, NB185_199.out, NB199_185.out, NB186_199.out, NB199_186.out, (by repeat (first | (with_reducible first | exact HB.out | apply below_alloc | apply pw_below_drewN | apply below_drew1 | refine below_setA ?_ (by assumption)) | exact HB.out))⟩)
             ·skip
              refine box_step ?hg (N := 8) ?hd (cs := #[.int .i64 0, .int .i64 0, .int .i64 0, .int .i64 0]) (t := 27) ?hr ?_; (case hd => rfl); (case hg => rfl); (case hr => first | (go_simp; done) | (go_simp; rfl))
              intro gb200 hg w22 hbox hb
              have BK200 := Aside0.mk (hbox); have GW200 := ws HB hg; have GE200 := ws HB hg; have NB183_200 := nl BK183 hg; have NB200_183 := ng BK183 hg; have NB184_200 := nl BK184 hg; have NB200_184 := ng BK184 hg; have NB185_200 := nl BK185 hg; have NB200_185 := ng BK185 hg; have NB186_200 := nl BK186 hg; have NB200_186 := ng BK186 hg; replace BK183 := ub BK183 hb; replace BK184 := ub BK184 hb; replace BK185 := ub BK185 hb; replace BK186 := ub BK186 hb; replace HB := bs HB hb; clear hb hbox hg
              refine hK.out _ _ ⟨bc BK183 0, bc BK183 1, bc BK183 2, bc BK183 3, bc BK183 4, bc BK183 5, bc BK183 6, bc BK183 7, bc BK184 0, bc BK184 1, bc BK184 2, bc BK184 3, bc BK185 0, bc BK185 1, bc BK185 2, bc BK185 3⟩ (fun hHeld => ?_)
              clear hK K
              refine norm_ (a' := ?_) ?_ ?_
              rotate_left
              ·show Act.put _ (some 8) _ = _
               simp only [Act.put, List.setIfInBounds_toArray, List.set_cons_zero, List.set_cons_succ, i64_w, i32_w]
               rfl
              exact norm_ (by first | (simp only [putAll, Act.put, List.setIfInBounds_toArray, List.set_cons_zero, List.set_cons_succ]; done) | (simp only [putAll, Act.put, List.setIfInBounds_toArray, List.set_cons_zero, List.set_cons_succ]; rfl)) (hJ11 (gb200) _ ⟨hHeld, BK183.out, BK184.out, BK185.out, BK186.out, BK200.out, GW200.out, GE200.out, NB183_200.out, NB200_183.out, NB184_200.out, NB200_184.out, NB185_200.out, NB200_185.out, NB186_200.out, NB200_186.out, (by repeat (first | (with_reducible first | exact HB.out | apply below_alloc | apply pw_below_drewN | apply below_drew1 | refine below_setA ?_ (by assumption)) | exact HB.out))⟩)
            ·skip
             rintro gb200 w23 ⟨hS_, h0_, h1_, h2_, h3_, h4_, h5_, h6_, h7_, h8_, h9_, h10_, h11_, h12_, h13_, h14_, h15_⟩; have BK200 := Aside0.mk h4_; have GW200 := Aside0.mk h5_; have GE200 := Aside0.mk h6_; have NB183_200 := Aside0.mk h7_; have NB200_183 := Aside0.mk h8_; have NB184_200 := Aside0.mk h9_; have NB200_184 := Aside0.mk h10_; have NB185_200 := Aside0.mk h11_; have NB200_185 := Aside0.mk h12_; have NB186_200 := Aside0.mk h13_; have NB200_186 := Aside0.mk h14_; replace BK183 := Aside0.mk h0_; replace BK184 := Aside0.mk h1_; replace BK185 := Aside0.mk h2_; replace BK186 := Aside0.mk h3_; replace HB := Aside0.mk h15_; clear h0_ h1_ h2_ h3_ h4_ h5_ h6_ h7_ h8_ h9_ h10_ h11_ h12_ h13_ h14_ h15_; have hHeld := hS_
             refine norm_ (a' := ?_) ?_ ?_
             rotate_left
             ·simp only [putAll, Act.put, List.setIfInBounds_toArray, List.set_cons_zero, List.set_cons_succ]
              rfl
             refine two_ (i := 4) (j := 10) (Ni := some 31) (Nj := some 7) #[true, true, true, true, true, true, true, true, true, false, false, true, false, false] #[true, true, true, true, false, true, true, true, true, false, true, true, false, false] rfl rfl rfl rfl (two_of HT_.out (by kernel_rfl)) (by decide) (by decide) (fun K hK => ?_) (fun K hK => ?_)
             ·skip
              refine goes_ Try.func7 (by kernel_rfl) rfl #[.int .i64 a0_1, .agg #[.int .i64 a1_0, .int .i64 a1_1, .int .i64 a1_2, .int .i64 a1_3], .agg #[.int .i64 a2_0, .int .i64 a2_1, .int .i64 a2_2, .int .i64 a2_3]] (by rfl) rfl rfl (by (try simp only [List.map_toArray, List.map_cons, List.map_nil]); first | done | rfl | (simp only [List.length_drop, List.length_take]; rfl)) ?_
              with_reducible refine (blend_Factor.calls a0_1 a1_0 a1_1 a1_2 a1_3 a2_0 a2_1 a2_2 a2_3 t191 t192 t193 t194 _ A5.out).mono ?_; rintro e w24 ⟨rfl, hb⟩; refine ⟨_, rfl, ?_⟩; replace BK183 := ub BK183 hb; replace BK184 := ub BK184 hb; replace BK185 := ub BK185 hb; replace BK186 := ub BK186 hb; replace BK200 := ub BK200 hb; replace HB := bs HB hb; (try clear hb); (try clear hb2); (try clear hk); (try clear hi)
              refine hK.out _ _ ⟨bc BK183 0, bc BK183 1, bc BK183 2, bc BK183 3, bc BK183 4, bc BK183 5, bc BK183 6, bc BK183 7, bc BK184 0, bc BK184 1, bc BK184 2, bc BK184 3, bc BK185 0, bc BK185 1, bc BK185 2, bc BK185 3⟩ (fun hHeld => ?_)
              clear hK K
              refine norm_ (a' := ?_) ?_ ?_
              rotate_left
              ·show Act.put _ (some 31) _ = _
               simp only [Act.put, List.setIfInBounds_toArray, List.set_cons_zero, List.set_cons_succ, i64_w, i32_w]
               rfl
              exact norm_ (by first | (simp only [putAll, Act.put, List.setIfInBounds_toArray, List.set_cons_zero, List.set_cons_succ]; done) | (simp only [putAll, Act.put, List.setIfInBounds_toArray, List.set_cons_zero, List.set_cons_succ]; rfl)) (hJ4_11 (gb200) _ ⟨hHeld, BK183.out, BK184.out, BK185.out, BK186.out, BK200.out, GW200.out, GE200.out, NB183_200.out, NB200_183.out, NB184_200.out, NB200_184.out, NB185_200.out, NB200_185.out, NB186_200.out, NB200_186.out, (by repeat (first | (with_reducible first | exact HB.out | apply below_alloc | apply pw_below_drewN | apply below_drew1 | refine below_setA ?_ (by assumption)) | exact HB.out))⟩)
             ·skip
              refine box_step ?hg (N := 7) ?hd (cs := #[.int .i64 0, .int .i64 0, .int .i64 0, .int .i64 0]) (t := 27) ?hr ?_; (case hd => rfl); (case hg => rfl); (case hr => first | (go_simp; done) | (go_simp; rfl))
              intro gb199 hg w24 hbox hb
              have BK199 := Aside0.mk (hbox); have GW199 := ws HB hg; have GE199 := ws HB hg; have NB183_199 := nl BK183 hg; have NB199_183 := ng BK183 hg; have NB184_199 := nl BK184 hg; have NB199_184 := ng BK184 hg; have NB185_199 := nl BK185 hg; have NB199_185 := ng BK185 hg; have NB186_199 := nl BK186 hg; have NB199_186 := ng BK186 hg; have NB200_199 := nl BK200 hg; have NB199_200 := ng BK200 hg; replace BK183 := ub BK183 hb; replace BK184 := ub BK184 hb; replace BK185 := ub BK185 hb; replace BK186 := ub BK186 hb; replace BK200 := ub BK200 hb; replace HB := bs HB hb; clear hb hbox hg
              refine hK.out _ _ ⟨bc BK183 0, bc BK183 1, bc BK183 2, bc BK183 3, bc BK183 4, bc BK183 5, bc BK183 6, bc BK183 7, bc BK184 0, bc BK184 1, bc BK184 2, bc BK184 3, bc BK185 0, bc BK185 1, bc BK185 2, bc BK185 3⟩ (fun hHeld => ?_)
              clear hK K
              refine norm_ (a' := ?_) ?_ ?_
              rotate_left
              ·show Act.put _ (some 7) _ = _
               simp only [Act.put, List.setIfInBounds_toArray, List.set_cons_zero, List.set_cons_succ, i64_w, i32_w]
               rfl
              exact norm_ (by first | (simp only [putAll, Act.put, List.setIfInBounds_toArray, List.set_cons_zero, List.set_cons_succ]; done) | (simp only [putAll, Act.put, List.setIfInBounds_toArray, List.set_cons_zero, List.set_cons_succ]; rfl)) (hJ10_11 (gb199, gb200) _ ⟨hHeld, BK183.out, BK184.out, BK185.out, BK186.out, BK199.out, BK200.out, GW199.out, GE199.out, NB183_199.out, NB199_183.out, NB184_199.out, NB199_184.out, NB185_199.out, NB199_185.out, NB186_199.out, NB199_186.out, NB200_199.out, NB199_200.out, GW200.out, GE200.out, NB183_200.out, NB200_183.out, NB184_200.out, NB200_184.out, NB185_200.out, NB200_185.out, NB186_200.out, NB200_186.out, (by repeat (first | (with_reducible first | exact HB.out | apply below_alloc | apply pw_below_drewN | apply below_drew1 | refine below_setA ?_ (by assumption)) | exact HB.out))⟩)
           ·skip
            rintro gb199 w23 ⟨hS_, h0_, h1_, h2_, h3_, h4_, h5_, h6_, h7_, h8_, h9_, h10_, h11_, h12_, h13_, h14_, h15_⟩; have BK199 := Aside0.mk h4_; have GW199 := Aside0.mk h5_; have GE199 := Aside0.mk h6_; have NB183_199 := Aside0.mk h7_; have NB199_183 := Aside0.mk h8_; have NB184_199 := Aside0.mk h9_; have NB199_184 := Aside0.mk h10_; have NB185_199 := Aside0.mk h11_; have NB199_185 := Aside0.mk h12_; have NB186_199 := Aside0.mk h13_; have NB199_186 := Aside0.mk h14_; replace BK183 := Aside0.mk h0_; replace BK184 := Aside0.mk h1_; replace BK185 := Aside0.mk h2_; replace BK186 := Aside0.mk h3_; replace HB := Aside0.mk h15_; clear h0_ h1_ h2_ h3_ h4_ h5_ h6_ h7_ h8_ h9_ h10_ h11_ h12_ h13_ h14_ h15_; have hHeld := hS_
            refine norm_ (a' := ?_) ?_ ?_
            rotate_left
            ·simp only [putAll, Act.put, List.setIfInBounds_toArray, List.set_cons_zero, List.set_cons_succ]
             rfl
            refine two_ (i := 4) (j := 11) (Ni := some 31) (Nj := some 8) #[true, true, true, true, true, true, true, true, true, false, true, false, false, false] #[true, true, true, true, false, true, true, true, true, false, true, true, false, false] rfl rfl rfl rfl (two_of HT_.out (by kernel_rfl)) (by decide) (by decide) (fun K hK => ?_) (fun K hK => ?_)
            ·skip
             refine goes_ Try.func7 (by kernel_rfl) rfl #[.int .i64 a0_1, .agg #[.int .i64 a1_0, .int .i64 a1_1, .int .i64 a1_2, .int .i64 a1_3], .agg #[.int .i64 a2_0, .int .i64 a2_1, .int .i64 a2_2, .int .i64 a2_3]] (by rfl) rfl rfl (by (try simp only [List.map_toArray, List.map_cons, List.map_nil]); first | done | rfl | (simp only [List.length_drop, List.length_take]; rfl)) ?_
             with_reducible refine (blend_Factor.calls a0_1 a1_0 a1_1 a1_2 a1_3 a2_0 a2_1 a2_2 a2_3 t191 t192 t193 t194 _ A5.out).mono ?_; rintro e w24 ⟨rfl, hb⟩; refine ⟨_, rfl, ?_⟩; replace BK183 := ub BK183 hb; replace BK184 := ub BK184 hb; replace BK185 := ub BK185 hb; replace BK186 := ub BK186 hb; replace BK199 := ub BK199 hb; replace HB := bs HB hb; (try clear hb); (try clear hb2); (try clear hk); (try clear hi)
             refine hK.out _ _ ⟨bc BK183 0, bc BK183 1, bc BK183 2, bc BK183 3, bc BK183 4, bc BK183 5, bc BK183 6, bc BK183 7, bc BK184 0, bc BK184 1, bc BK184 2, bc BK184 3, bc BK185 0, bc BK185 1, bc BK185 2, bc BK185 3⟩ (fun hHeld => ?_)
             clear hK K
             refine norm_ (a' := ?_) ?_ ?_
             rotate_left
             ·show Act.put _ (some 31) _ = _
              simp only [Act.put, List.setIfInBounds_toArray, List.set_cons_zero, List.set_cons_succ, i64_w, i32_w]
              rfl
             exact norm_ (by first | (simp only [putAll, Act.put, List.setIfInBounds_toArray, List.set_cons_zero, List.set_cons_succ]; done) | (simp only [putAll, Act.put, List.setIfInBounds_toArray, List.set_cons_zero, List.set_cons_succ]; rfl)) (hJ4_10 (gb199) _ ⟨hHeld, BK183.out, BK184.out, BK185.out, BK186.out, BK199.out, GW199.out, GE199.out, NB183_199.out, NB199_183.out, NB184_199.out, NB199_184.out, NB185_199.out, NB199_185.out, NB186_199.out, NB199_186.out, (by repeat (first | (with_reducible first | exact HB.out | apply below_alloc | apply pw_below_drewN | apply below_drew1 | refine below_setA ?_ (by assumption)) | exact HB.out))⟩)
            ·skip
             refine box_step ?hg (N := 8) ?hd (cs := #[.int .i64 0, .int .i64 0, .int .i64 0, .int .i64 0]) (t := 27) ?hr ?_; (case hd => rfl); (case hg => rfl); (case hr => first | (go_simp; done) | (go_simp; rfl))
             intro gb200 hg w24 hbox hb
             have BK200 := Aside0.mk (hbox); have GW200 := ws HB hg; have GE200 := ws HB hg; have NB183_200 := nl BK183 hg; have NB200_183 := ng BK183 hg; have NB184_200 := nl BK184 hg; have NB200_184 := ng BK184 hg; have NB185_200 := nl BK185 hg; have NB200_185 := ng BK185 hg; have NB186_200 := nl BK186 hg; have NB200_186 := ng BK186 hg; have NB199_200 := nl BK199 hg; have NB200_199 := ng BK199 hg; replace BK183 := ub BK183 hb; replace BK184 := ub BK184 hb; replace BK185 := ub BK185 hb; replace BK186 := ub BK186 hb; replace BK199 := ub BK199 hb; replace HB := bs HB hb; clear hb hbox hg
             refine hK.out _ _ ⟨bc BK183 0, bc BK183 1, bc BK183 2, bc BK183 3, bc BK183 4, bc BK183 5, bc BK183 6, bc BK183 7, bc BK184 0, bc BK184 1, bc BK184 2, bc BK184 3, bc BK185 0, bc BK185 1, bc BK185 2, bc BK185 3⟩ (fun hHeld => ?_)
             clear hK K
             refine norm_ (a' := ?_) ?_ ?_
             rotate_left
             ·show Act.put _ (some 8) _ = _
              simp only [Act.put, List.setIfInBounds_toArray, List.set_cons_zero, List.set_cons_succ, i64_w, i32_w]
              rfl
             exact norm_ (by first | (simp only [putAll, Act.put, List.setIfInBounds_toArray, List.set_cons_zero, List.set_cons_succ]; done) | (simp only [putAll, Act.put, List.setIfInBounds_toArray, List.set_cons_zero, List.set_cons_succ]; rfl)) (hJ10_11 (gb199, gb200) _ ⟨hHeld, BK183.out, BK184.out, BK185.out, BK186.out, BK199.out, BK200.out, GW199.out, GE199.out, NB183_199.out, NB199_183.out, NB184_199.out, NB199_184.out, NB185_199.out, NB199_185.out, NB186_199.out, NB199_186.out, NB200_199.out, NB199_200.out, GW200.out, GE200.out, NB183_200.out, NB200_183.out, NB184_200.out, NB200_184.out, NB185_200.out, NB200_185.out, NB186_200.out, NB200_186.out, (by repeat (first | (with_reducible first | exact HB.out | apply below_alloc | apply pw_below_drewN | apply below_drew1 | refine below_setA ?_ (by assumption)) | exact HB.out))⟩)
          ·skip
           rintro _ w23 ⟨hS_, h0_, h1_, h2_, h3_, h4_⟩; replace BK183 := Aside0.mk h0_; replace BK184 := Aside0.mk h1_; replace BK185 := Aside0.mk h2_; replace BK186 := Aside0.mk h3_; replace HB := Aside0.mk h4_; clear h0_ h1_ h2_ h3_ h4_; have hHeld := hS_
           refine norm_ (a' := ?_) ?_ ?_
           rotate_left
           ·simp only [putAll, Act.put, List.setIfInBounds_toArray, List.set_cons_zero, List.set_cons_succ]
            rfl
           refine three_ (i := 9) (j := 10) (k := 11) (Ni := some 36) (Nj := some 7) (Nk := some 8) #[true, true, true, true, true, true, true, true, true, true, false, false, false, false] #[true, true, true, true, true, true, true, true, true, false, true, false, false, false] #[true, true, true, true, true, true, true, true, true, false, false, true, false, false] rfl rfl rfl rfl rfl rfl (three_of HT_.out (by kernel_rfl)) (by decide) (by decide) (by decide) (fun K hK => ?_) (fun K hK => ?_) (fun K hK => ?_)
           ·skip
            refine goes_ Try.func7 (by kernel_rfl) rfl #[.int .i64 a0_2, .agg #[.int .i64 a1_0, .int .i64 a1_1, .int .i64 a1_2, .int .i64 a1_3], .agg #[.int .i64 a2_0, .int .i64 a2_1, .int .i64 a2_2, .int .i64 a2_3]] (by rfl) rfl rfl (by (try simp only [List.map_toArray, List.map_cons, List.map_nil]); first | done | rfl | (simp only [List.length_drop, List.length_take]; rfl)) ?_
            with_reducible refine (blend_Factor.calls a0_2 a1_0 a1_1 a1_2 a1_3 a2_0 a2_1 a2_2 a2_3 t195 t196 t197 t198 _ A6.out).mono ?_; rintro e w24 ⟨rfl, hb⟩; refine ⟨_, rfl, ?_⟩; replace BK183 := ub BK183 hb; replace BK184 := ub BK184 hb; replace BK185 := ub BK185 hb; replace BK186 := ub BK186 hb; replace HB := bs HB hb; (try clear hb); (try clear hb2); (try clear hk); (try clear hi)
            refine hK.out _ _ ⟨bc BK183 0, bc BK183 1, bc BK183 2, bc BK183 3, bc BK183 4, bc BK183 5, bc BK183 6, bc BK183 7, bc BK184 0, bc BK184 1, bc BK184 2, bc BK184 3, bc BK185 0, bc BK185 1, bc BK185 2, bc BK185 3⟩ (fun hHeld => ?_)
            clear hK K
            refine norm_ (a' := ?_) ?_ ?_
            rotate_left
            ·show Act.put _ (some 36) _ = _
             simp only [Act.put, List.setIfInBounds_toArray, List.set_cons_zero, List.set_cons_succ, i64_w, i32_w]
             rfl
            exact norm_ (by first | (simp only [putAll, Act.put, List.setIfInBounds_toArray, List.set_cons_zero, List.set_cons_succ]; done) | (simp only [putAll, Act.put, List.setIfInBounds_toArray, List.set_cons_zero, List.set_cons_succ]; rfl)) (hJ4_9 () _ ⟨hHeld, BK183.out, BK184.out, BK185.out, BK186.out, (by repeat (first | (with_reducible first | exact HB.out | apply below_alloc | apply pw_below_drewN | apply below_drew1 | refine below_setA ?_ (by assumption)) | exact HB.out))⟩)
           ·skip
            refine box_step ?hg (N := 7) ?hd (cs := #[.int .i64 0, .int .i64 0, .int .i64 0, .int .i64 0]) (t := 27) ?hr ?_; (case hd => rfl); (case hg => rfl); (case hr => first | (go_simp; done) | (go_simp; rfl))
            intro gb199 hg w24 hbox hb
            have BK199 := Aside0.mk (hbox); have GW199 := ws HB hg; have GE199 := ws HB hg; have NB183_199 := nl BK183 hg; have NB199_183 := ng BK183 hg; have NB184_199 := nl BK184 hg; have NB199_184 := ng BK184 hg; have NB185_199 := nl BK185 hg; have NB199_185 := ng BK185 hg; have NB186_199 := nl BK186 hg; have NB199_186 := ng BK186 hg; replace BK183 := ub BK183 hb; replace BK184 := ub BK184 hb; replace BK185 := ub BK185 hb; replace BK186 := ub BK186 hb; replace HB := bs HB hb; clear hb hbox hg
            refine hK.out _ _ ⟨bc BK183 0, bc BK183 1, bc BK183 2, bc BK183 3, bc BK183 4, bc BK183 5, bc BK183 6, bc BK183 7, bc BK184 0, bc BK184 1, bc BK184 2, bc BK184 3, bc BK185 0, bc BK185 1, bc BK185 2, bc BK185 3⟩ (fun hHeld => ?_)
            clear hK K
            refine norm_ (a' := ?_) ?_ ?_
            rotate_left
            ·show Act.put _ (some 7) _ = _
             simp only [Act.put, List.setIfInBounds_toArray, List.set_cons_zero, List.set_cons_succ, i64_w, i32_w]
             rfl
            exact norm_ (by first | (simp only [putAll, Act.put, List.setIfInBounds_toArray, List.set_cons_zero, List.set_cons_succ]; done) | (simp only [putAll, Act.put, List.setIfInBounds_toArray, List.set_cons_zero, List.set_cons_succ]; rfl)) (hJ4_10 (gb199) _ ⟨hHeld, BK183.out, BK184.out, BK185.out, BK186.out, BK199.out, GW199.out, GE199.out, NB183_199.out, NB199_183.out, NB184_199.out, NB199_184.out, NB185_199.out, NB199_185.out, NB186_199.out, NB199_186.out, (by repeat (first | (with_reducible first | exact HB.out | apply below_alloc | apply pw_below_drewN | apply below_drew1 | refine below_setA ?_ (by assumption)) | exact HB.out))⟩)
           ·skip
            refine box_step ?hg (N := 8) ?hd (cs := #[.int .i64 0, .int .i64 0, .int .i64 0, .int .i64 0]) (t := 27) ?hr ?_; (case hd => rfl); (case hg => rfl); (case hr => first | (go_simp; done) | (go_simp; rfl))
            intro gb200 hg w24 hbox hb
            have BK200 := Aside0.mk (hbox); have GW200 := ws HB hg; have GE200 := ws HB hg; have NB183_200 := nl BK183 hg; have NB200_183 := ng BK183 hg; have NB184_200 := nl BK184 hg; have NB200_184 := ng BK184 hg; have NB185_200 := nl BK185 hg; have NB200_185 := ng BK185 hg; have NB186_200 := nl BK186 hg; have NB200_186 := ng BK186 hg; replace BK183 := ub BK183 hb; replace BK184 := ub BK184 hb; replace BK185 := ub BK185 hb; replace BK186 := ub BK186 hb; replace HB := bs HB hb; clear hb hbox hg
            refine hK.out _ _ ⟨bc BK183 0, bc BK183 1, bc BK183 2, bc BK183 3, bc BK183 4, bc BK183 5, bc BK183 6, bc BK183 7, bc BK184 0, bc BK184 1, bc BK184 2, bc BK184 3, bc BK185 0, bc BK185 1, bc BK185 2, bc BK185 3⟩ (fun hHeld => ?_)
            clear hK K
            refine norm_ (a' := ?_) ?_ ?_
            rotate_left
            ·show Act.put _ (some 8) _ = _
             simp only [Act.put, List.setIfInBounds_toArray, List.set_cons_zero, List.set_cons_succ, i64_w, i32_w]
             rfl
            exact norm_ (by first | (simp only [putAll, Act.put, List.setIfInBounds_toArray, List.set_cons_zero, List.set_cons_succ]; done) | (simp only [putAll, Act.put, List.setIfInBounds_toArray, List.set_cons_zero, List.set_cons_succ]; rfl)) (hJ4_11 (gb200) _ ⟨hHeld, BK183.out, BK184.out, BK185.out, BK186.out, BK200.out, GW200.out, GE200.out, NB183_200.out, NB200_183.out, NB184_200.out, NB200_184.out, NB185_200.out, NB200_185.out, NB186_200.out, NB200_186.out, (by repeat (first | (with_reducible first | exact HB.out | apply below_alloc | apply pw_below_drewN | apply below_drew1 | refine below_setA ?_ (by assumption)) | exact HB.out))⟩)
         ·skip
          rintro ⟨gb199, gb200⟩ w24 ⟨hS_, h0_, h1_, h2_, h3_, h4_, h5_, h6_, h7_, h8_, h9_, h10_, h11_, h12_, h13_, h14_, h15_, h16_, h17_, h18_, h19_, h20_, h21_, h22_, h23_, h24_, h25_, h26_, h27_, h28_⟩; have BK199 := Aside0.mk h4_; have BK200 := Aside0.mk h5_; have GW199 := Aside0.mk h6_; have GE199 := Aside0.mk h7_; have NB183_199 := Aside0.mk h8_; have NB199_183 := Aside0.mk h9_; have NB184_199 := Aside0.mk h10_; have NB199_184 := Aside0.mk h11_; have NB185_199 := Aside0.mk h12_; have NB199_185 := Aside0.mk h13_; have NB186_199 := Aside0.mk h14_; have NB199_186 := Aside0.mk h15_; have NB200_199 := Aside0.mk h16_; have NB199_200 := Aside0.mk h17_; have GW200 := Aside0.mk h18_; have GE200 := Aside0.mk h19_; have NB183_200 := Aside0.mk h20_; have NB200_183 := Aside0.mk h21_; have NB184_200 := Aside0.mk h22_; have NB200_184 := Aside0.mk h23_; have NB185_200 := Aside0.mk h24_; have NB200_185 := Aside0.mk h25_; have NB186_200 := Aside0.mk h26_; have NB200_186 := Aside0.mk h27_; replace BK183 := Aside0.mk h0_; replace BK184 := Aside0.mk h1_; replace BK185 := Aside0.mk h2_; replace BK186 := Aside0.mk h3_; replace HB := Aside0.mk h28_; clear h0_ h1_ h2_ h3_ h4_ h5_ h6_ h7_ h8_ h9_ h10_ h11_ h12_ h13_ h14_ h15_ h16_ h17_ h18_ h19_ h20_ h21_ h22_ h23_ h24_ h25_ h26_ h27_ h28_; have hHeld := hS_
          refine norm_ (a' := ?_) ?_ ?_
          rotate_left
          ·simp only [putAll, Act.put, List.setIfInBounds_toArray, List.set_cons_zero, List.set_cons_succ]
           rfl
          refine one_ (i := 4) (N := some 31) #[true, true, true, true, true, true, true, true, true, false, true, true, false, false] rfl rfl (one_of HT_.out (by kernel_rfl)) (by decide) (fun K hK => ?_)
          refine goes_ Try.func7 (by kernel_rfl) rfl #[.int .i64 a0_1, .agg #[.int .i64 a1_0, .int .i64 a1_1, .int .i64 a1_2, .int .i64 a1_3], .agg #[.int .i64 a2_0, .int .i64 a2_1, .int .i64 a2_2, .int .i64 a2_3]] (by rfl) rfl rfl (by (try simp only [List.map_toArray, List.map_cons, List.map_nil]); first | done | rfl | (simp only [List.length_drop, List.length_take]; rfl)) ?_
          with_reducible refine (blend_Factor.calls a0_1 a1_0 a1_1 a1_2 a1_3 a2_0 a2_1 a2_2 a2_3 t191 t192 t193 t194 _ A5.out).mono ?_; rintro e w25 ⟨rfl, hb⟩; refine ⟨_, rfl, ?_⟩; replace BK183 := ub BK183 hb; replace BK184 := ub BK184 hb; replace BK185 := ub BK185 hb; replace BK186 := ub BK186 hb; replace BK199 := ub BK199 hb; replace BK200 := ub BK200 hb; replace HB := bs HB hb; (try clear hb); (try clear hb2); (try clear hk); (try clear hi)
          refine hK.out _ _ ⟨bc BK183 0, bc BK183 1, bc BK183 2, bc BK183 3, bc BK183 4, bc BK183 5, bc BK183 6, bc BK183 7, bc BK184 0, bc BK184 1, bc BK184 2, bc BK184 3, bc BK185 0, bc BK185 1, bc BK185 2, bc BK185 3⟩ (fun hHeld => ?_)
          clear hK K
          refine norm_ (a' := ?_) ?_ ?_
          rotate_left
          ·show Act.put _ (some 31) _ = _
           simp only [Act.put, List.setIfInBounds_toArray, List.set_cons_zero, List.set_cons_succ, i64_w, i32_w]
           rfl
          exact norm_ (by first | (simp only [putAll, Act.put, List.setIfInBounds_toArray, List.set_cons_zero, List.set_cons_succ]; done) | (simp only [putAll, Act.put, List.setIfInBounds_toArray, List.set_cons_zero, List.set_cons_succ]; rfl)) (hJ4_10_11 (gb199, gb200) _ ⟨hHeld, BK183.out, BK184.out, BK185.out, BK186.out, BK199.out, BK200.out, GW199.out, GE199.out, NB183_199.out, NB199_183.out, NB184_199.out, NB199_184.out, NB185_199.out, NB199_185.out, NB186_199.out, NB199_186.out, NB200_199.out, NB199_200.out, GW200.out, GE200.out, NB183_200.out, NB200_183.out, NB184_200.out, NB200_184.out, NB185_200.out, NB200_185.out, NB186_200.out, NB200_186.out, (by repeat (first | (with_reducible first | exact HB.out | apply below_alloc | apply pw_below_drewN | apply below_drew1 | refine below_setA ?_ (by assumption)) | exact HB.out))⟩)
        ·skip
         rintro gb200 w24 ⟨hS_, h0_, h1_, h2_, h3_, h4_, h5_, h6_, h7_, h8_, h9_, h10_, h11_, h12_, h13_, h14_, h15_⟩; have BK200 := Aside0.mk h4_; have GW200 := Aside0.mk h5_; have GE200 := Aside0.mk h6_; have NB183_200 := Aside0.mk h7_; have NB200_183 := Aside0.mk h8_; have NB184_200 := Aside0.mk h9_; have NB200_184 := Aside0.mk h10_; have NB185_200 := Aside0.mk h11_; have NB200_185 := Aside0.mk h12_; have NB186_200 := Aside0.mk h13_; have NB200_186 := Aside0.mk h14_; replace BK183 := Aside0.mk h0_; replace BK184 := Aside0.mk h1_; replace BK185 := Aside0.mk h2_; replace BK186 := Aside0.mk h3_; replace HB := Aside0.mk h15_; clear h0_ h1_ h2_ h3_ h4_ h5_ h6_ h7_ h8_ h9_ h10_ h11_ h12_ h13_ h14_ h15_; have hHeld := hS_
         refine norm_ (a' := ?_) ?_ ?_
         rotate_left
         ·simp only [putAll, Act.put, List.setIfInBounds_toArray, List.set_cons_zero, List.set_cons_succ]
          rfl
         refine two_ (i := 9) (j := 10) (Ni := some 36) (Nj := some 7) #[true, true, true, true, true, true, true, true, true, true, false, true, false, false] #[true, true, true, true, true, true, true, true, true, false, true, true, false, false] rfl rfl rfl rfl (two_of HT_.out (by kernel_rfl)) (by decide) (by decide) (fun K hK => ?_) (fun K hK => ?_)
         ·skip
          refine goes_ Try.func7 (by kernel_rfl) rfl #[.int .i64 a0_2, .agg #[.int .i64 a1_0, .int .i64 a1_1, .int .i64 a1_2, .int .i64 a1_3], .agg #[.int .i64 a2_0, .int .i64 a2_1, .int .i64 a2_2, .int .i64 a2_3]] (by rfl) rfl rfl (by (try simp only [List.map_toArray, List.map_cons, List.map_nil]); first | done | rfl | (simp only [List.length_drop, List.length_take]; rfl)) ?_
          with_reducible refine (blend_Factor.calls a0_2 a1_0 a1_1 a1_2 a1_3 a2_0 a2_1 a2_2 a2_3 t195 t196 t197 t198 _ A6.out).mono ?_; rintro e w25 ⟨rfl, hb⟩; refine ⟨_, rfl, ?_⟩; replace BK183 := ub BK183 hb; replace BK184 := ub BK184 hb; replace BK185 := ub BK185 hb; replace BK186 := ub BK186 hb; replace BK200 := ub BK200 hb; replace HB := bs HB hb; (try clear hb); (try clear hb2); (try clear hk); (try clear hi)
          refine hK.out _ _ ⟨bc BK183 0, bc BK183 1, bc BK183 2, bc BK183 3, bc BK183 4, bc BK183 5, bc BK183 6, bc BK183 7, bc BK184 0, bc BK184 1, bc BK184 2, bc BK184 3, bc BK185 0, bc BK185 1, bc BK185 2, bc BK185 3⟩ (fun hHeld => ?_)
          clear hK K
          refine norm_ (a' := ?_) ?_ ?_
          rotate_left
          ·show Act.put _ (some 36) _ = _
           simp only [Act.put, List.setIfInBounds_toArray, List.set_cons_zero, List.set_cons_succ, i64_w, i32_w]
           rfl
          exact norm_ (by first | (simp only [putAll, Act.put, List.setIfInBounds_toArray, List.set_cons_zero, List.set_cons_succ]; done) | (simp only [putAll, Act.put, List.setIfInBounds_toArray, List.set_cons_zero, List.set_cons_succ]; rfl)) (hJ4_9_11 (gb200) _ ⟨hHeld, BK183.out, BK184.out, BK185.out, BK186.out, BK200.out, GW200.out, GE200.out, NB183_200.out, NB200_183.out, NB184_200.out, NB200_184.out, NB185_200.out, NB200_185.out, NB186_200.out, NB200_186.out, (by repeat (first | (with_reducible first | exact HB.out | apply below_alloc | apply pw_below_drewN | apply below_drew1 | refine below_setA ?_ (by assumption)) | exact HB.out))⟩)
         ·skip
          refine box_step ?hg (N := 7) ?hd (cs := #[.int .i64 0, .int .i64 0, .int .i64 0, .int .i64 0]) (t := 27) ?hr ?_; (case hd => rfl); (case hg => rfl); (case hr => first | (go_simp; done) | (go_simp; rfl))
          intro gb199 hg w25 hbox hb
          have BK199 := Aside0.mk (hbox); have GW199 := ws HB hg; have GE199 := ws HB hg; have NB183_199 := nl BK183 hg; have NB199_183 := ng BK183 hg; have NB184_199 := nl BK184 hg; have NB199_184 := ng BK184 hg; have NB185_199 := nl BK185 hg; have NB199_185 := ng BK185 hg; have NB186_199 := nl BK186 hg; have NB199_186 := ng BK186 hg; have NB200_199 := nl BK200 hg; have NB199_200 := ng BK200 hg; replace BK183 := ub BK183 hb; replace BK184 := ub BK184 hb; replace BK185 := ub BK185 hb; replace BK186 := ub BK186 hb; replace BK200 := ub BK200 hb; replace HB := bs HB hb; clear hb hbox hg
          refine hK.out _ _ ⟨bc BK183 0, bc BK183 1, bc BK183 2, bc BK183 3, bc BK183 4, bc BK183 5, bc BK183 6, bc BK183 7, bc BK184 0, bc BK184 1, bc BK184 2, bc BK184 3, bc BK185 0, bc BK185 1, bc BK185 2, bc BK185 3⟩ (fun hHeld => ?_)
          clear hK K
          refine norm_ (a' := ?_) ?_ ?_
          rotate_left
          ·show Act.put _ (some 7) _ = _
           simp only [Act.put, List.setIfInBounds_toArray, List.set_cons_zero, List.set_cons_succ, i64_w, i32_w]
           rfl
          exact norm_ (by first | (simp only [putAll, Act.put, List.setIfInBounds_toArray, List.set_cons_zero, List.set_cons_succ]; done) | (simp only [putAll, Act.put, List.setIfInBounds_toArray, List.set_cons_zero, List.set_cons_succ]; rfl)) (hJ4_10_11 (gb199, gb200) _ ⟨hHeld, BK183.out, BK184.out, BK185.out, BK186.out, BK199.out, BK200.out, GW199.out, GE199.out, NB183_199.out, NB199_183.out, NB184_199.out, NB199_184.out, NB185_199.out, NB199_185.out, NB186_199.out, NB199_186.out, NB200_199.out, NB199_200.out, GW200.out, GE200.out, NB183_200.out, NB200_183.out, NB184_200.out, NB200_184.out, NB185_200.out, NB200_185.out, NB186_200.out, NB200_186.out, (by repeat (first | (with_reducible first | exact HB.out | apply below_alloc | apply pw_below_drewN | apply below_drew1 | refine below_setA ?_ (by assumption)) | exact HB.out))⟩)
       ·skip
        rintro gb199 w24 ⟨hS_, h0_, h1_, h2_, h3_, h4_, h5_, h6_, h7_, h8_, h9_, h10_, h11_, h12_, h13_, h14_, h15_⟩; have BK199 := Aside0.mk h4_; have GW199 := Aside0.mk h5_; have GE199 := Aside0.mk h6_; have NB183_199 := Aside0.mk h7_; have NB199_183 := Aside0.mk h8_; have NB184_199 := Aside0.mk h9_; have NB199_184 := Aside0.mk h10_; have NB185_199 := Aside0.mk h11_; have NB199_185 := Aside0.mk h12_; have NB186_199 := Aside0.mk h13_; have NB199_186 := Aside0.mk h14_; replace BK183 := Aside0.mk h0_; replace BK184 := Aside0.mk h1_; replace BK185 := Aside0.mk h2_; replace BK186 := Aside0.mk h3_; replace HB := Aside0.mk h15_; clear h0_ h1_ h2_ h3_ h4_ h5_ h6_ h7_ h8_ h9_ h10_ h11_ h12_ h13_ h14_ h15_; have hHeld := hS_
        refine norm_ (a' := ?_) ?_ ?_
        rotate_left
        ·simp only [putAll, Act.put, List.setIfInBounds_toArray, List.set_cons_zero, List.set_cons_succ]
         rfl
        refine two_ (i := 9) (j := 11) (Ni := some 36) (Nj := some 8) #[true, true, true, true, true, true, true, true, true, true, true, false, false, false] #[true, true, true, true, true, true, true, true, true, false, true, true, false, false] rfl rfl rfl rfl (two_of HT_.out (by kernel_rfl)) (by decide) (by decide) (fun K hK => ?_) (fun K hK => ?_)
        ·skip
         refine goes_ Try.func7 (by kernel_rfl) rfl #[.int .i64 a0_2, .agg #[.int .i64 a1_0, .int .i64 a1_1, .int .i64 a1_2, .int .i64 a1_3], .agg #[.int .i64 a2_0, .int .i64 a2_1, .int .i64 a2_2, .int .i64 a2_3]] (by rfl) rfl rfl (by (try simp only [List.map_toArray, List.map_cons, List.map_nil]); first | done | rfl | (simp only [List.length_drop, List.length_take]; rfl)) ?_
         with_reducible refine (blend_Factor.calls a0_2 a1_0 a1_1 a1_2 a1_3 a2_0 a2_1 a2_2 a2_3 t195 t196 t197 t198 _ A6.out).mono ?_; rintro e w25 ⟨rfl, hb⟩; refine ⟨_, rfl, ?_⟩; replace BK183 := ub BK183 hb; replace BK184 := ub BK184 hb; replace BK185 := ub BK185 hb; replace BK186 := ub BK186 hb; replace BK199 := ub BK199 hb; replace HB := bs HB hb; (try clear hb); (try clear hb2); (try clear hk); (try clear hi)
         refine hK.out _ _ ⟨bc BK183 0, bc BK183 1, bc BK183 2, bc BK183 3, bc BK183 4, bc BK183 5, bc BK183 6, bc BK183 7, bc BK184 0, bc BK184 1, bc BK184 2, bc BK184 3, bc BK185 0, bc BK185 1, bc BK185 2, bc BK185 3⟩ (fun hHeld => ?_)
         clear hK K
         refine norm_ (a' := ?_) ?_ ?_
         rotate_left
         ·show Act.put _ (some 36) _ = _
          simp only [Act.put, List.setIfInBounds_toArray, List.set_cons_zero, List.set_cons_succ, i64_w, i32_w]
          rfl
         exact norm_ (by first | (simp only [putAll, Act.put, List.setIfInBounds_toArray, List.set_cons_zero, List.set_cons_succ]; done) | (simp only [putAll, Act.put, List.setIfInBounds_toArray, List.set_cons_zero, List.set_cons_succ]; rfl)) (hJ4_9_10 (gb199) _ ⟨hHeld, BK183.out, BK184.out, BK185.out, BK186.out, BK199.out, GW199.out, GE199.out, NB183_199.out, NB199_183.out, NB184_199.out, NB199_184.out, NB185_199.out, NB199_185.out, NB186_199.out, NB199_186.out, (by repeat (first | (with_reducible first | exact HB.out | apply below_alloc | apply pw_below_drewN | apply below_drew1 | refine below_setA ?_ (by assumption)) | exact HB.out))⟩)
        ·skip
         refine box_step ?hg (N := 8) ?hd (cs := #[.int .i64 0, .int .i64 0, .int .i64 0, .int .i64 0]) (t := 27) ?hr ?_; (case hd => rfl); (case hg => rfl); (case hr => first | (go_simp; done) | (go_simp; rfl))
         intro gb200 hg w25 hbox hb
         have BK200 := Aside0.mk (hbox); have GW200 := ws HB hg; have GE200 := ws HB hg; have NB183_200 := nl BK183 hg; have NB200_183 := ng BK183 hg; have NB184_200 := nl BK184 hg; have NB200_184 := ng BK184 hg; have NB185_200 := nl BK185 hg; have NB200_185 := ng BK185 hg; have NB186_200 := nl BK186 hg; have NB200_186 := ng BK186 hg; have NB199_200 := nl BK199 hg; have NB200_199 := ng BK199 hg; replace BK183 := ub BK183 hb; replace BK184 := ub BK184 hb; replace BK185 := ub BK185 hb; replace BK186 := ub BK186 hb; replace BK199 := ub BK199 hb; replace HB := bs HB hb; clear hb hbox hg
         refine hK.out _ _ ⟨bc BK183 0, bc BK183 1, bc BK183 2, bc BK183 3, bc BK183 4, bc BK183 5, bc BK183 6, bc BK183 7, bc BK184 0, bc BK184 1, bc BK184 2, bc BK184 3, bc BK185 0, bc BK185 1, bc BK185 2, bc BK185 3⟩ (fun hHeld => ?_)
         clear hK K
         refine norm_ (a' := ?_) ?_ ?_
         rotate_left
         ·show Act.put _ (some 8) _ = _
          simp only [Act.put, List.setIfInBounds_toArray, List.set_cons_zero, List.set_cons_succ, i64_w, i32_w]
          rfl
         exact norm_ (by first | (simp only [putAll, Act.put, List.setIfInBounds_toArray, List.set_cons_zero, List.set_cons_succ]; done) | (simp only [putAll, Act.put, List.setIfInBounds_toArray, List.set_cons_zero, List.set_cons_succ]; rfl)) (hJ4_10_11 (gb199, gb200) _ ⟨hHeld, BK183.out, BK184.out, BK185.out, BK186.out, BK199.out, BK200.out, GW199.out, GE199.out, NB183_199.out, NB199_183.out, NB184_199.out, NB199_184.out, NB185_199.out, NB199_185.out, NB186_199.out, NB199_186.out, NB200_199.out, NB199_200.out, GW200.out, GE200.out, NB183_200.out, NB200_183.out, NB184_200.out, NB200_184.out, NB185_200.out, NB200_185.out, NB186_200.out, NB200_186.out, (by repeat (first | (with_reducible first | exact HB.out | apply below_alloc | apply pw_below_drewN | apply below_drew1 | refine below_setA ?_ (by assumption)) | exact HB.out))⟩)
      ·skip
       rintro _ w24 ⟨hS_, h0_, h1_, h2_, h3_, h4_⟩; replace BK183 := Aside0.mk h0_; replace BK184 := Aside0.mk h1_; replace BK185 := Aside0.mk h2_; replace BK186 := Aside0.mk h3_; replace HB := Aside0.mk h4_; clear h0_ h1_ h2_ h3_ h4_; have hHeld := hS_
       refine norm_ (a' := ?_) ?_ ?_
       rotate_left
       ·simp only [putAll, Act.put, List.setIfInBounds_toArray, List.set_cons_zero, List.set_cons_succ]
        rfl
       refine two_ (i := 10) (j := 11) (Ni := some 7) (Nj := some 8) #[true, true, true, true, true, true, true, true, true, true, true, false, false, false] #[true, true, true, true, true, true, true, true, true, true, false, true, false, false] rfl rfl rfl rfl (two_of HT_.out (by kernel_rfl)) (by decide) (by decide) (fun K hK => ?_) (fun K hK => ?_)
       ·skip
        refine box_step ?hg (N := 7) ?hd (cs := #[.int .i64 0, .int .i64 0, .int .i64 0, .int .i64 0]) (t := 27) ?hr ?_; (case hd => rfl); (case hg => rfl); (case hr => first | (go_simp; done) | (go_simp; rfl))
        intro gb199 hg w25 hbox hb
        have BK199 := Aside0.mk (hbox); have GW199 := ws HB hg; have GE199 := ws HB hg; have NB183_199 := nl BK183 hg; have NB199_183 := ng BK183 hg; have NB184_199 := nl BK184 hg; have NB199_184 := ng BK184 hg; have NB185_199 := nl BK185 hg; have NB199_185 := ng BK185 hg; have NB186_199 := nl BK186 hg; have NB199_186 := ng BK186 hg; replace BK183 := ub BK183 hb; replace BK184 := ub BK184 hb; replace BK185 := ub BK185 hb; replace BK186 := ub BK186 hb; replace HB := bs HB hb; clear hb hbox hg
        refine hK.out _ _ ⟨bc BK183 0, bc BK183 1, bc BK183 2, bc BK183 3, bc BK183 4, bc BK183 5, bc BK183 6, bc BK183 7, bc BK184 0, bc BK184 1, bc BK184 2, bc BK184 3, bc BK185 0, bc BK185 1, bc BK185 2, bc BK185 3⟩ (fun hHeld => ?_)
        clear hK K
        refine norm_ (a' := ?_) ?_ ?_
        rotate_left
        ·show Act.put _ (some 7) _ = _
         simp only [Act.put, List.setIfInBounds_toArray, List.set_cons_zero, List.set_cons_succ, i64_w, i32_w]
         rfl
        exact norm_ (by first | (simp only [putAll, Act.put, List.setIfInBounds_toArray, List.set_cons_zero, List.set_cons_succ]; done) | (simp only [putAll, Act.put, List.setIfInBounds_toArray, List.set_cons_zero, List.set_cons_succ]; rfl)) (hJ4_9_10 (gb199) _ ⟨hHeld, BK183.out, BK184.out, BK185.out, BK186.out, BK199.out, GW199.out, GE199.out, NB183_199.out, NB199_183.out, NB184_199.out, NB199_184.out, NB185_199.out, NB199_185.out, NB186_199.out, NB199_186.out, (by repeat (first | (with_reducible first | exact HB.out | apply below_alloc | apply pw_below_drewN | apply below_drew1 | refine below_setA ?_ (by assumption)) | exact HB.out))⟩)
       ·skip
        refine box_step ?hg (N := 8) ?hd (cs := #[.int .i64 0, .int .i64 0, .int .i64 0, .int .i64 0]) (t := 27) ?hr ?_; (case hd => rfl); (case hg => rfl); (case hr => first | (go_simp; done) | (go_simp; rfl))
        intro gb200 hg w25 hbox hb
        have BK200 := Aside0.mk (hbox); have GW200 := ws HB hg; have GE200 := ws HB hg; have NB183_200 := nl BK183 hg; have NB200_183 := ng BK183 hg; have NB184_200 := nl BK184 hg; have NB200_184 := ng BK184 hg; have NB185_200 := nl BK185 hg; have NB200_185 := ng BK185 hg; have NB186_200 := nl BK186 hg; have NB200_186 := ng BK186 hg; replace BK183 := ub BK183 hb; replace BK184 := ub BK184 hb; replace BK185 := ub BK185 hb; replace BK186 := ub BK186 hb; replace HB := bs HB hb; clear hb hbox hg
        refine hK.out _ _ ⟨bc BK183 0, bc BK183 1, bc BK183 2, bc BK183 3, bc BK183 4, bc BK183 5, bc BK183 6, bc BK183 7, bc BK184 0, bc BK184 1, bc BK184 2, bc BK184 3, bc BK185 0, bc BK185 1, bc BK185 2, bc BK185 3⟩ (fun hHeld => ?_)
        clear hK K
        refine norm_ (a' := ?_) ?_ ?_
        rotate_left
        ·show Act.put _ (some 8) _ = _
         simp only [Act.put, List.setIfInBounds_toArray, List.set_cons_zero, List.set_cons_succ, i64_w, i32_w]
         rfl
        exact norm_ (by first | (simp only [putAll, Act.put, List.setIfInBounds_toArray, List.set_cons_zero, List.set_cons_succ]; done) | (simp only [putAll, Act.put, List.setIfInBounds_toArray, List.set_cons_zero, List.set_cons_succ]; rfl)) (hJ4_9_11 (gb200) _ ⟨hHeld, BK183.out, BK184.out, BK185.out, BK186.out, BK200.out, GW200.out, GE200.out, NB183_200.out, NB200_183.out, NB184_200.out, NB200_184.out, NB185_200.out, NB200_185.out, NB186_200.out, NB200_186.out, (by repeat (first | (with_reducible first | exact HB.out | apply below_alloc | apply pw_below_drewN | apply below_drew1 | refine below_setA ?_ (by assumption)) | exact HB.out))⟩)
     ·skip
      rintro ⟨gb199, gb200⟩ w25 ⟨hS_, h0_, h1_, h2_, h3_, h4_, h5_, h6_, h7_, h8_, h9_, h10_, h11_, h12_, h13_, h14_, h15_, h16_, h17_, h18_, h19_, h20_, h21_, h22_, h23_, h24_, h25_, h26_, h27_, h28_⟩; have BK199 := Aside0.mk h4_; have BK200 := Aside0.mk h5_; have GW199 := Aside0.mk h6_; have GE199 := Aside0.mk h7_; have NB183_199 := Aside0.mk h8_; have NB199_183 := Aside0.mk h9_; have NB184_199 := Aside0.mk h10_; have NB199_184 := Aside0.mk h11_; have NB185_199 := Aside0.mk h12_; have NB199_185 := Aside0.mk h13_; have NB186_199 := Aside0.mk h14_; have NB199_186 := Aside0.mk h15_; have NB200_199 := Aside0.mk h16_; have NB199_200 := Aside0.mk h17_; have GW200 := Aside0.mk h18_; have GE200 := Aside0.mk h19_; have NB183_200 := Aside0.mk h20_; have NB200_183 := Aside0.mk h21_; have NB184_200 := Aside0.mk h22_; have NB200_184 := Aside0.mk h23_; have NB185_200 := Aside0.mk h24_; have NB200_185 := Aside0.mk h25_; have NB186_200 := Aside0.mk h26_; have NB200_186 := Aside0.mk h27_; replace BK183 := Aside0.mk h0_; replace BK184 := Aside0.mk h1_; replace BK185 := Aside0.mk h2_; replace BK186 := Aside0.mk h3_; replace HB := Aside0.mk h28_; clear h0_ h1_ h2_ h3_ h4_ h5_ h6_ h7_ h8_ h9_ h10_ h11_ h12_ h13_ h14_ h15_ h16_ h17_ h18_ h19_ h20_ h21_ h22_ h23_ h24_ h25_ h26_ h27_ h28_; have hHeld := hS_
      refine norm_ (a' := ?_) ?_ ?_
      rotate_left
      ·simp only [putAll, Act.put, List.setIfInBounds_toArray, List.set_cons_zero, List.set_cons_succ]
       rfl
      refine one_ (i := 9) (N := some 36) #[true, true, true, true, true, true, true, true, true, true, true, true, false, false] rfl rfl (one_of HT_.out (by kernel_rfl)) (by decide) (fun K hK => ?_)
      refine goes_ Try.func7 (by kernel_rfl) rfl #[.int .i64 a0_2, .agg #[.int .i64 a1_0, .int .i64 a1_1, .int .i64 a1_2, .int .i64 a1_3], .agg #[.int .i64 a2_0, .int .i64 a2_1, .int .i64 a2_2, .int .i64 a2_3]] (by rfl) rfl rfl (by (try simp only [List.map_toArray, List.map_cons, List.map_nil]); first | done | rfl | (simp only [List.length_drop, List.length_take]; rfl)) ?_
      with_reducible refine (blend_Factor.calls a0_2 a1_0 a1_1 a1_2 a1_3 a2_0 a2_1 a2_2 a2_3 t195 t196 t197 t198 _ A6.out).mono ?_; rintro e w26 ⟨rfl, hb⟩; refine ⟨_, rfl, ?_⟩; replace BK183 := ub BK183 hb; replace BK184 := ub BK184 hb; replace BK185 := ub BK185 hb; replace BK186 := ub BK186 hb; replace BK199 := ub BK199 hb; replace BK200 := ub BK200 hb; replace HB := bs HB hb; (try clear hb); (try clear hb2); (try clear hk); (try clear hi)
      refine hK.out _ _ ⟨bc BK183 0, bc BK183 1, bc BK183 2, bc BK183 3, bc BK183 4, bc BK183 5, bc BK183 6, bc BK183 7, bc BK184 0, bc BK184 1, bc BK184 2, bc BK184 3, bc BK185 0, bc BK185 1, bc BK185 2, bc BK185 3⟩ (fun hHeld => ?_)
      clear hK K
      refine norm_ (a' := ?_) ?_ ?_
      rotate_left
      ·show Act.put _ (some 36) _ = _
       simp only [Act.put, List.setIfInBounds_toArray, List.set_cons_zero, List.set_cons_succ, i64_w, i32_w]
       rfl
      exact norm_ (by first | (simp only [putAll, Act.put, List.setIfInBounds_toArray, List.set_cons_zero, List.set_cons_succ]; done) | (simp only [putAll, Act.put, List.setIfInBounds_toArray, List.set_cons_zero, List.set_cons_succ]; rfl)) (hJ4_9_10_11 (gb199, gb200) _ ⟨hHeld, BK183.out, BK184.out, BK185.out, BK186.out, BK199.out, BK200.out, GW199.out, GE199.out, NB183_199.out, NB199_183.out, NB184_199.out, NB199_184.out, NB185_199.out, NB199_185.out, NB186_199.out, NB199_186.out, NB200_199.out, NB199_200.out, GW200.out, GE200.out, NB183_200.out, NB200_183.out, NB184_200.out, NB200_184.out, NB185_200.out, NB200_185.out, NB186_200.out, NB200_186.out, (by repeat (first | (with_reducible first | exact HB.out | apply below_alloc | apply pw_below_drewN | apply below_drew1 | refine below_setA ?_ (by assumption)) | exact HB.out))⟩)
    ·skip
     rintro gb200 w25 ⟨hS_, h0_, h1_, h2_, h3_, h4_, h5_, h6_, h7_, h8_, h9_, h10_, h11_, h12_, h13_, h14_, h15_⟩; have BK200 := Aside0.mk h4_; have GW200 := Aside0.mk h5_; have GE200 := Aside0.mk h6_; have NB183_200 := Aside0.mk h7_; have NB200_183 := Aside0.mk h8_; have NB184_200 := Aside0.mk h9_; have NB200_184 := Aside0.mk h10_; have NB185_200 := Aside0.mk h11_; have NB200_185 := Aside0.mk h12_; have NB186_200 := Aside0.mk h13_; have NB200_186 := Aside0.mk h14_; replace BK183 := Aside0.mk h0_; replace BK184 := Aside0.mk h1_; replace BK185 := Aside0.mk h2_; replace BK186 := Aside0.mk h3_; replace HB := Aside0.mk h15_; clear h0_ h1_ h2_ h3_ h4_ h5_ h6_ h7_ h8_ h9_ h10_ h11_ h12_ h13_ h14_ h15_; have hHeld := hS_
     refine norm_ (a' := ?_) ?_ ?_
     rotate_left
     ·simp only [putAll, Act.put, List.setIfInBounds_toArray, List.set_cons_zero, List.set_cons_succ]
      rfl
     refine one_ (i := 10) (N := some 7) #[true, true, true, true, true, true, true, true, true, true, true, true, false, false] rfl rfl (one_of HT_.out (by kernel_rfl)) (by decide) (fun K hK => ?_)
     refine box_step ?hg (N := 7) ?hd (cs := #[.int .i64 0, .int .i64 0, .int .i64 0, .int .i64 0]) (t := 27) ?hr ?_; (case hd => rfl); (case hg => rfl); (case hr => first | (go_simp; done) | (go_simp; rfl))
     intro gb199 hg w26 hbox hb
     have BK199 := Aside0.mk (hbox); have GW199 := ws HB hg; have GE199 := ws HB hg; have NB183_199 := nl BK183 hg; have NB199_183 := ng BK183 hg; have NB184_199 := nl BK184 hg; have NB199_184 := ng BK184 hg; have NB185_199 := nl BK185 hg; have NB199_185 := ng BK185 hg; have NB186_199 := nl BK186 hg; have NB199_186 := ng BK186 hg; have NB200_199 := nl BK200 hg; have NB199_200 := ng BK200 hg; replace BK183 := ub BK183 hb; replace BK184 := ub BK184 hb; replace BK185 := ub BK185 hb; replace BK186 := ub BK186 hb; replace BK200 := ub BK200 hb; replace HB := bs HB hb; clear hb hbox hg
     refine hK.out _ _ ⟨bc BK183 0, bc BK183 1, bc BK183 2, bc BK183 3, bc BK183 4, bc BK183 5, bc BK183 6, bc BK183 7, bc BK184 0, bc BK184 1, bc BK184 2, bc BK184 3, bc BK185 0, bc BK185 1, bc BK185 2, bc BK185 3⟩ (fun hHeld => ?_)
     clear hK K
     refine norm_ (a' := ?_) ?_ ?_
     rotate_left
     ·show Act.put _ (some 7) _ = _
      simp only [Act.put, List.setIfInBounds_toArray, List.set_cons_zero, List.set_cons_succ, i64_w, i32_w]
      rfl
     exact norm_ (by first | (simp only [putAll, Act.put, List.setIfInBounds_toArray, List.set_cons_zero, List.set_cons_succ]; done) | (simp only [putAll, Act.put, List.setIfInBounds_toArray, List.set_cons_zero, List.set_cons_succ]; rfl)) (hJ4_9_10_11 (gb199, gb200) _ ⟨hHeld, BK183.out, BK184.out, BK185.out, BK186.out, BK199.out, BK200.out, GW199.out, GE199.out, NB183_199.out, NB199_183.out, NB184_199.out, NB199_184.out, NB185_199.out, NB199_185.out, NB186_199.out, NB199_186.out, NB200_199.out, NB199_200.out, GW200.out, GE200.out, NB183_200.out, NB200_183.out, NB184_200.out, NB200_184.out, NB185_200.out, NB200_185.out, NB186_200.out, NB200_186.out, (by repeat (first | (with_reducible first | exact HB.out | apply below_alloc | apply pw_below_drewN | apply below_drew1 | refine below_setA ?_ (by assumption)) | exact HB.out))⟩)
   ·skip
    rintro gb199 w25 ⟨hS_, h0_, h1_, h2_, h3_, h4_, h5_, h6_, h7_, h8_, h9_, h10_, h11_, h12_, h13_, h14_, h15_⟩; have BK199 := Aside0.mk h4_; have GW199 := Aside0.mk h5_; have GE199 := Aside0.mk h6_; have NB183_199 := Aside0.mk h7_; have NB199_183 := Aside0.mk h8_; have NB184_199 := Aside0.mk h9_; have NB199_184 := Aside0.mk h10_; have NB185_199 := Aside0.mk h11_; have NB199_185 := Aside0.mk h12_; have NB186_199 := Aside0.mk h13_; have NB199_186 := Aside0.mk h14_; replace BK183 := Aside0.mk h0_; replace BK184 := Aside0.mk h1_; replace BK185 := Aside0.mk h2_; replace BK186 := Aside0.mk h3_; replace HB := Aside0.mk h15_; clear h0_ h1_ h2_ h3_ h4_ h5_ h6_ h7_ h8_ h9_ h10_ h11_ h12_ h13_ h14_ h15_; have hHeld := hS_
    refine norm_ (a' := ?_) ?_ ?_
    rotate_left
    ·simp only [putAll, Act.put, List.setIfInBounds_toArray, List.set_cons_zero, List.set_cons_succ]
     rfl
    refine one_ (i := 11) (N := some 8) #[true, true, true, true, true, true, true, true, true, true, true, true, false, false] rfl rfl (one_of HT_.out (by kernel_rfl)) (by decide) (fun K hK => ?_)
    refine box_step ?hg (N := 8) ?hd (cs := #[.int .i64 0, .int .i64 0, .int .i64 0, .int .i64 0]) (t := 27) ?hr ?_; (case hd => rfl); (case hg => rfl); (case hr => first | (go_simp; done) | (go_simp; rfl))
    intro gb200 hg w26 hbox hb
    have BK200 := Aside0.mk (hbox); have GW200 := ws HB hg; have GE200 := ws HB hg; have NB183_200 := nl BK183 hg; have NB200_183 := ng BK183 hg; have NB184_200 := nl BK184 hg; have NB200_184 := ng BK184 hg; have NB185_200 := nl BK185 hg; have NB200_185 := ng BK185 hg; have NB186_200 := nl BK186 hg; have NB200_186 := ng BK186 hg; have NB199_200 := nl BK199 hg; have NB200_199 := ng BK199 hg; replace BK183 := ub BK183 hb; replace BK184 := ub BK184 hb; replace BK185 := ub BK185 hb; replace BK186 := ub BK186 hb; replace BK199 := ub BK199 hb; replace HB := bs HB hb; clear hb hbox hg
    refine hK.out _ _ ⟨bc BK183 0, bc BK183 1, bc BK183 2, bc BK183 3, bc BK183 4, bc BK183 5, bc BK183 6, bc BK183 7, bc BK184 0, bc BK184 1, bc BK184 2, bc BK184 3, bc BK185 0, bc BK185 1, bc BK185 2, bc BK185 3⟩ (fun hHeld => ?_)
    clear hK K
    refine norm_ (a' := ?_) ?_ ?_
    rotate_left
    ·show Act.put _ (some 8) _ = _
     simp only [Act.put, List.setIfInBounds_toArray, List.set_cons_zero, List.set_cons_succ, i64_w, i32_w]
     rfl
    exact norm_ (by first | (simp only [putAll, Act.put, List.setIfInBounds_toArray, List.set_cons_zero, List.set_cons_succ]; done) | (simp only [putAll, Act.put, List.setIfInBounds_toArray, List.set_cons_zero, List.set_cons_succ]; rfl)) (hJ4_9_10_11 (gb199, gb200) _ ⟨hHeld, BK183.out, BK184.out, BK185.out, BK186.out, BK199.out, BK200.out, GW199.out, GE199.out, NB183_199.out, NB199_183.out, NB184_199.out, NB199_184.out, NB185_199.out, NB199_185.out, NB186_199.out, NB199_186.out, NB200_199.out, NB199_200.out, GW200.out, GE200.out, NB183_200.out, NB200_183.out, NB184_200.out, NB200_184.out, NB185_200.out, NB200_185.out, NB186_200.out, NB200_186.out, (by repeat (first | (with_reducible first | exact HB.out | apply below_alloc | apply pw_below_drewN | apply below_drew1 | refine below_setA ?_ (by assumption)) | exact HB.out))⟩)
  rintro ⟨gb199, gb200⟩ w26 ⟨hS_, h0_, h1_, h2_, h3_, h4_, h5_, h6_, h7_, h8_, h9_, h10_, h11_, h12_, h13_, h14_, h15_, h16_, h17_, h18_, h19_, h20_, h21_, h22_, h23_, h24_, h25_, h26_, h27_, h28_⟩; have BK199 := Aside0.mk h4_; have BK200 := Aside0.mk h5_; have GW199 := Aside0.mk h6_; have GE199 := Aside0.mk h7_; have NB183_199 := Aside0.mk h8_; have NB199_183 := Aside0.mk h9_; have NB184_199 := Aside0.mk h10_; have NB199_184 := Aside0.mk h11_; have NB185_199 := Aside0.mk h12_; have NB199_185 := Aside0.mk h13_; have NB186_199 := Aside0.mk h14_; have NB199_186 := Aside0.mk h15_; have NB200_199 := Aside0.mk h16_; have NB199_200 := Aside0.mk h17_; have GW200 := Aside0.mk h18_; have GE200 := Aside0.mk h19_; have NB183_200 := Aside0.mk h20_; have NB200_183 := Aside0.mk h21_; have NB184_200 := Aside0.mk h22_; have NB200_184 := Aside0.mk h23_; have NB185_200 := Aside0.mk h24_; have NB200_185 := Aside0.mk h25_; have NB186_200 := Aside0.mk h26_; have NB200_186 := Aside0.mk h27_; replace BK183 := Aside0.mk h0_; replace BK184 := Aside0.mk h1_; replace BK185 := Aside0.mk h2_; replace BK186 := Aside0.mk h3_; replace HB := Aside0.mk h28_; clear h0_ h1_ h2_ h3_ h4_ h5_ h6_ h7_ h8_ h9_ h10_ h11_ h12_ h13_ h14_ h15_ h16_ h17_ h18_ h19_ h20_ h21_ h22_ h23_ h24_ h25_ h26_ h27_ h28_; have hHeld := hS_
  refine norm_ (a' := ?_) ?_ ?_
  rotate_left
  ·simp only [putAll, Act.put, List.setIfInBounds_toArray, List.set_cons_zero, List.set_cons_succ]
   rfl
  refine one_ (i := 12) (N := none) #[true, true, true, true, true, true, true, true, true, true, true, true, true, false] rfl rfl (one_of HT_.out (by kernel_rfl)) (by decide) (fun K hK => ?_)
  have hs27 : w26.cell? ⟨gb199, 0, none⟩ = some (.int .i64 0) := bc BK199 0
  have hfs27 := blk_frozen BK199.out 0; have hns27_0 := NB183_199.out; have hns27_1 := NB184_199.out; have hns27_2 := NB185_199.out; have hns27_3 := NB186_199.out; have hns27_5 := NB200_199.out; have hms27_0 := NB199_183.out; have hms27_1 := NB199_184.out; have hms27_2 := NB199_185.out; have hms27_3 := NB199_186.out; have hms27_5 := NB199_200.out
  have hs28 : w26.cell? ⟨gb199, 1, none⟩ = some (.int .i64 0) := bc BK199 1
  have hfs28 := blk_frozen BK199.out 1; have hns28_0 := NB183_199.out; have hns28_1 := NB184_199.out; have hns28_2 := NB185_199.out; have hns28_3 := NB186_199.out; have hns28_5 := NB200_199.out; have hms28_0 := NB199_183.out; have hms28_1 := NB199_184.out; have hms28_2 := NB199_185.out; have hms28_3 := NB199_186.out; have hms28_5 := NB199_200.out
  have hs29 : w26.cell? ⟨gb199, 2, none⟩ = some (.int .i64 0) := bc BK199 2
  have hfs29 := blk_frozen BK199.out 2; have hns29_0 := NB183_199.out; have hns29_1 := NB184_199.out; have hns29_2 := NB185_199.out; have hns29_3 := NB186_199.out; have hns29_5 := NB200_199.out; have hms29_0 := NB199_183.out; have hms29_1 := NB199_184.out; have hms29_2 := NB199_185.out; have hms29_3 := NB199_186.out; have hms29_5 := NB199_200.out
  have hs30 : w26.cell? ⟨gb199, 3, none⟩ = some (.int .i64 0) := bc BK199 3
  have hfs30 := blk_frozen BK199.out 3; have hns30_0 := NB183_199.out; have hns30_1 := NB184_199.out; have hns30_2 := NB185_199.out; have hns30_3 := NB186_199.out; have hns30_5 := NB200_199.out; have hms30_0 := NB199_183.out; have hms30_1 := NB199_184.out; have hms30_2 := NB199_185.out; have hms30_3 := NB199_186.out; have hms30_5 := NB199_200.out
  refine skip_ (w1 := ?_) (by rfl) rfl ?_ ?_
  rotate_left
  ·go_simp
   rfl
  refine hK.out _ _ ⟨(cf NB183_199 ((cf NB183_199 ((cf NB183_199 ((cf NB183_199 (hHeld.1)))))))), (cf NB183_199 ((cf NB183_199 ((cf NB183_199 ((cf NB183_199 (hHeld.2.1)))))))), (cf NB183_199 ((cf NB183_199 ((cf NB183_199 ((cf NB183_199 (hHeld.2.2.1)))))))), (cf NB183_199 ((cf NB183_199 ((cf NB183_199 ((cf NB183_199 (hHeld.2.2.2.1)))))))), (cf NB183_199 ((cf NB183_199 ((cf NB183_199 ((cf NB183_199 (hHeld.2.2.2.2.1)))))))), (cf NB183_199 ((cf NB183_199 ((cf NB183_199 ((cf NB183_199 (hHeld.2.2.2.2.2.1)))))))), (cf NB183_199 ((cf NB183_199 ((cf NB183_199 ((cf NB183_199 (hHeld.2.2.2.2.2.2.1)))))))), (cf NB183_199 ((cf NB183_199 ((cf NB183_199 ((cf NB183_199 (hHeld.2.2.2.2.2.2.2.1)))))))), (cf NB184_199 ((cf NB184_199 ((cf NB184_199 ((cf NB184_199 (hHeld.2.2.2.2.2.2.2.2.1)))))))), (cf NB184_199 ((cf NB184_199 ((cf NB184_199 ((cf NB184_199 (hHeld.2.2.2.2.2.2.2.2.2.1)))))))), (cf NB184_199 ((cf NB184_199 ((cf NB184_199 ((cf NB184_199 (hHeld.2.2.2.2.2.2.2.2.2.2.1)))))))), (cf NB184_199 ((cf NB184_199 ((cf NB184_199 ((cf NB184_199 (hHeld.2.2.2.2.2.2.2.2.2.2.2.1)))))))), (cf NB185_199 ((cf NB185_199 ((cf NB185_199 ((cf NB185_199 (hHeld.2.2.2.2.2.2.2.2.2.2.2.2.1)))))))), (cf NB185_199 ((cf NB185_199 ((cf NB185_199 ((cf NB185_199 (hHeld.2.2.2.2.2.2.2.2.2.2.2.2.2.1)))))))), (cf NB185_199 ((cf NB185_199 ((cf NB185_199 ((cf NB185_199 (hHeld.2.2.2.2.2.2.2.2.2.2.2.2.2.2.1)))))))), (cf NB185_199 ((cf NB185_199 ((cf NB185_199 ((cf NB185_199 (hHeld.2.2.2.2.2.2.2.2.2.2.2.2.2.2.2))))))))⟩ (fun hHeld => ?_)
  clear hK K
  refine one_ (i := 13) (N := none) #[true, true, true, true, true, true, true, true, true, true, true, true, true, true] rfl rfl (one_of HT_.out (by kernel_rfl)) (by decide) (fun K hK => ?_)
  have hs31 : w26.cell? ⟨gb200, 0, none⟩ = some (.int .i64 0) := bc BK200 0
  have hfs31 := blk_frozen BK200.out 0; have hns31_0 := NB183_200.out; have hns31_1 := NB184_200.out; have hns31_2 := NB185_200.out; have hns31_3 := NB186_200.out; have hns31_4 := NB199_200.out; have hms31_0 := NB200_183.out; have hms31_1 := NB200_184.out; have hms31_2 := NB200_185.out; have hms31_3 := NB200_186.out; have hms31_4 := NB200_199.out
  have hs32 : w26.cell? ⟨gb200, 1, none⟩ = some (.int .i64 0) := bc BK200 1
  have hfs32 := blk_frozen BK200.out 1; have hns32_0 := NB183_200.out; have hns32_1 := NB184_200.out; have hns32_2 := NB185_200.out; have hns32_3 := NB186_200.out; have hns32_4 := NB199_200.out; have hms32_0 := NB200_183.out; have hms32_1 := NB200_184.out; have hms32_2 := NB200_185.out; have hms32_3 := NB200_186.out; have hms32_4 := NB200_199.out
  have hs33 : w26.cell? ⟨gb200, 2, none⟩ = some (.int .i64 0) := bc BK200 2
  have hfs33 := blk_frozen BK200.out 2; have hns33_0 := NB183_200.out; have hns33_1 := NB184_200.out; have hns33_2 := NB185_200.out; have hns33_3 := NB186_200.out; have hns33_4 := NB199_200.out; have hms33_0 := NB200_183.out; have hms33_1 := NB200_184.out; have hms33_2 := NB200_185.out; have hms33_3 := NB200_186.out; have hms33_4 := NB200_199.out
  have hs34 : w26.cell? ⟨gb200, 3, none⟩ = some (.int .i64 0) := bc BK200 3
  have hfs34 := blk_frozen BK200.out 3; have hns34_0 := NB183_200.out; have hns34_1 := NB184_200.out; have hns34_2 := NB185_200.out; have hns34_3 := NB186_200.out; have hns34_4 := NB199_200.out; have hms34_0 := NB200_183.out; have hms34_1 := NB200_184.out; have hms34_2 := NB200_185.out; have hms34_3 := NB200_186.out; have hms34_4 := NB200_199.out
  refine skip_ (w1 := ?_) (by rfl) rfl ?_ ?_
  rotate_left
  ·go_simp
   rfl
  refine hK.out _ _ ⟨(cf NB183_200 ((cf NB183_200 ((cf NB183_200 ((cf NB183_200 (hHeld.1)))))))), (cf NB183_200 ((cf NB183_200 ((cf NB183_200 ((cf NB183_200 (hHeld.2.1)))))))), (cf NB183_200 ((cf NB183_200 ((cf NB183_200 ((cf NB183_200 (hHeld.2.2.1)))))))), (cf NB183_200 ((cf NB183_200 ((cf NB183_200 ((cf NB183_200 (hHeld.2.2.2.1)))))))), (cf NB183_200 ((cf NB183_200 ((cf NB183_200 ((cf NB183_200 (hHeld.2.2.2.2.1)))))))), (cf NB183_200 ((cf NB183_200 ((cf NB183_200 ((cf NB183_200 (hHeld.2.2.2.2.2.1)))))))), (cf NB183_200 ((cf NB183_200 ((cf NB183_200 ((cf NB183_200 (hHeld.2.2.2.2.2.2.1)))))))), (cf NB183_200 ((cf NB183_200 ((cf NB183_200 ((cf NB183_200 (hHeld.2.2.2.2.2.2.2.1)))))))), (cf NB184_200 ((cf NB184_200 ((cf NB184_200 ((cf NB184_200 (hHeld.2.2.2.2.2.2.2.2.1)))))))), (cf NB184_200 ((cf NB184_200 ((cf NB184_200 ((cf NB184_200 (hHeld.2.2.2.2.2.2.2.2.2.1)))))))), (cf NB184_200 ((cf NB184_200 ((cf NB184_200 ((cf NB184_200 (hHeld.2.2.2.2.2.2.2.2.2.2.1)))))))), (cf NB184_200 ((cf NB184_200 ((cf NB184_200 ((cf NB184_200 (hHeld.2.2.2.2.2.2.2.2.2.2.2.1)))))))), (cf NB185_200 ((cf NB185_200 ((cf NB185_200 ((cf NB185_200 (hHeld.2.2.2.2.2.2.2.2.2.2.2.2.1)))))))), (cf NB185_200 ((cf NB185_200 ((cf NB185_200 ((cf NB185_200 (hHeld.2.2.2.2.2.2.2.2.2.2.2.2.2.1)))))))), (cf NB185_200 ((cf NB185_200 ((cf NB185_200 ((cf NB185_200 (hHeld.2.2.2.2.2.2.2.2.2.2.2.2.2.2.1)))))))), (cf NB185_200 ((cf NB185_200 ((cf NB185_200 ((cf NB185_200 (hHeld.2.2.2.2.2.2.2.2.2.2.2.2.2.2.2))))))))⟩ (fun hHeld => ?_)
  clear hK K
  refine done_ (done_of HT_.out (by kernel_rfl)) ?_
  try go_wp2
  have n0_ : Aside0 (((((((((w26.setCell ⟨gb199, 0, none⟩ (.int .i64 t191)).setCell ⟨gb199, 1, none⟩ (.int .i64 t192)).setCell ⟨gb199, 2, none⟩ (.int .i64 t193)).setCell ⟨gb199, 3, none⟩ (.int .i64 t194)).setCell ⟨gb200, 0, none⟩ (.int .i64 t195)).setCell ⟨gb200, 1, none⟩ (.int .i64 t196)).setCell ⟨gb200, 2, none⟩ (.int .i64 t197)).setCell ⟨gb200, 3, none⟩ (.int .i64 t198)).heap[gb183]? = some (.cells #[.bool true, .int .i64 a0_1, .int .i64 a0_2, .int .i64 a0_3, .int .i64 a0_4, .int .i64 a0_5, .int .i64 a0_6, .int .i64 a0_7] 25 (0, 0))) := ⟨by (with_reducible repeat (first | refine blk_drewN ?_ _ | refine blk_drew ?_ | refine blk_alloc ?_ _)); refine blk_far ?_ NB183_200.out _; (with_reducible repeat (first | refine blk_drewN ?_ _ | refine blk_drew ?_ | refine blk_alloc ?_ _)); refine blk_far ?_ NB183_200.out _; (with_reducible repeat (first | refine blk_drewN ?_ _ | refine blk_drew ?_ | refine blk_alloc ?_ _)); refine blk_far ?_ NB183_200.out _; (with_reducible repeat (first | refine blk_drewN ?_ _ | refine blk_drew ?_ | refine blk_alloc ?_ _)); refine blk_far ?_ NB183_200.out _; (with_reducible repeat (first | refine blk_drewN ?_ _ | refine blk_drew ?_ | refine blk_alloc ?_ _)); refine blk_far ?_ NB183_199.out _; (with_reducible repeat (first | refine blk_drewN ?_ _ | refine blk_drew ?_ | refine blk_alloc ?_ _)); refine blk_far ?_ NB183_199.out _; (with_reducible repeat (first | refine blk_drewN ?_ _ | refine blk_drew ?_ | refine blk_alloc ?_ _)); refine blk_far ?_ NB183_199.out _; (with_reducible repeat (first | refine blk_drewN ?_ _ | refine blk_drew ?_ | refine blk_alloc ?_ _)); refine blk_far ?_ NB183_199.out _; (with_reducible repeat (first | refine blk_drewN ?_ _ | refine blk_drew ?_ | refine blk_alloc ?_ _)); exact BK183.out⟩
  have n1_ : Aside0 (((((((((w26.setCell ⟨gb199, 0, none⟩ (.int .i64 t191)).setCell ⟨gb199, 1, none⟩ (.int .i64 t192)).setCell ⟨gb199, 2, none⟩ (.int .i64 t193)).setCell ⟨gb199, 3, none⟩ (.int .i64 t194)).setCell ⟨gb200, 0, none⟩ (.int .i64 t195)).setCell ⟨gb200, 1, none⟩ (.int .i64 t196)).setCell ⟨gb200, 2, none⟩ (.int .i64 t197)).setCell ⟨gb200, 3, none⟩ (.int .i64 t198)).heap[gb184]? = some (.cells #[.int .i64 a1_0, .int .i64 a1_1, .int .i64 a1_2, .int .i64 a1_3] 27 (0, 0))) := ⟨by (with_reducible repeat (first | refine blk_drewN ?_ _ | refine blk_drew ?_ | refine blk_alloc ?_ _)); refine blk_far ?_ NB184_200.out _; (with_reducible repeat (first | refine blk_drewN ?_ _ | refine blk_drew ?_ | refine blk_alloc ?_ _)); refine blk_far ?_ NB184_200.out _; (with_reducible repeat (first | refine blk_drewN ?_ _ | refine blk_drew ?_ | refine blk_alloc ?_ _)); refine blk_far ?_ NB184_200.out _; (with_reducible repeat (first | refine blk_drewN ?_ _ | refine blk_drew ?_ | refine blk_alloc ?_ _)); refine blk_far ?_ NB184_200.out _; (with_reducible repeat (first | refine blk_drewN ?_ _ | refine blk_drew ?_ | refine blk_alloc ?_ _)); refine blk_far ?_ NB184_199.out _; (with_reducible repeat (first | refine blk_drewN ?_ _ | refine blk_drew ?_ | refine blk_alloc ?_ _)); refine blk_far ?_ NB184_199.out _; (with_reducible repeat (first | refine blk_drewN ?_ _ | refine blk_drew ?_ | refine blk_alloc ?_ _)); refine blk_far ?_ NB184_199.out _; (with_reducible repeat (first | refine blk_drewN ?_ _ | refine blk_drew ?_ | refine blk_alloc ?_ _)); refine blk_far ?_ NB184_199.out _; (with_reducible repeat (first | refine blk_drewN ?_ _ | refine blk_drew ?_ | refine blk_alloc ?_ _)); exact BK184.out⟩
  have n2_ : Aside0 (((((((((w26.setCell ⟨gb199, 0, none⟩ (.int .i64 t191)).setCell ⟨gb199, 1, none⟩ (.int .i64 t192)).setCell ⟨gb199, 2, none⟩ (.int .i64 t193)).setCell ⟨gb199, 3, none⟩ (.int .i64 t194)).setCell ⟨gb200, 0, none⟩ (.int .i64 t195)).setCell ⟨gb200, 1, none⟩ (.int .i64 t196)).setCell ⟨gb200, 2, none⟩ (.int .i64 t197)).setCell ⟨gb200, 3, none⟩ (.int .i64 t198)).heap[gb185]? = some (.cells #[.int .i64 a2_0, .int .i64 a2_1, .int .i64 a2_2, .int .i64 a2_3] 27 (0, 0))) := ⟨by (with_reducible repeat (first | refine blk_drewN ?_ _ | refine blk_drew ?_ | refine blk_alloc ?_ _)); refine blk_far ?_ NB185_200.out _; (with_reducible repeat (first | refine blk_drewN ?_ _ | refine blk_drew ?_ | refine blk_alloc ?_ _)); refine blk_far ?_ NB185_200.out _; (with_reducible repeat (first | refine blk_drewN ?_ _ | refine blk_drew ?_ | refine blk_alloc ?_ _)); refine blk_far ?_ NB185_200.out _; (with_reducible repeat (first | refine blk_drewN ?_ _ | refine blk_drew ?_ | refine blk_alloc ?_ _)); refine blk_far ?_ NB185_200.out _; (with_reducible repeat (first | refine blk_drewN ?_ _ | refine blk_drew ?_ | refine blk_alloc ?_ _)); refine blk_far ?_ NB185_199.out _; (with_reducible repeat (first | refine blk_drewN ?_ _ | refine blk_drew ?_ | refine blk_alloc ?_ _)); refine blk_far ?_ NB185_199.out _; (with_reducible repeat (first | refine blk_drewN ?_ _ | refine blk_drew ?_ | refine blk_alloc ?_ _)); refine blk_far ?_ NB185_199.out _; (with_reducible repeat (first | refine blk_drewN ?_ _ | refine blk_drew ?_ | refine blk_alloc ?_ _)); refine blk_far ?_ NB185_199.out _; (with_reducible repeat (first | refine blk_drewN ?_ _ | refine blk_drew ?_ | refine blk_alloc ?_ _)); exact BK185.out⟩
  have n3_ : Aside0 (((((((((w26.setCell ⟨gb199, 0, none⟩ (.int .i64 t191)).setCell ⟨gb199, 1, none⟩ (.int .i64 t192)).setCell ⟨gb199, 2, none⟩ (.int .i64 t193)).setCell ⟨gb199, 3, none⟩ (.int .i64 t194)).setCell ⟨gb200, 0, none⟩ (.int .i64 t195)).setCell ⟨gb200, 1, none⟩ (.int .i64 t196)).setCell ⟨gb200, 2, none⟩ (.int .i64 t197)).setCell ⟨gb200, 3, none⟩ (.int .i64 t198)).heap[gb186]? = some (.cells #[.int .i64 0, .int .i64 0, .int .i64 0, .int .i64 0] 27 (0, 0))) := ⟨by (with_reducible repeat (first | refine blk_drewN ?_ _ | refine blk_drew ?_ | refine blk_alloc ?_ _)); refine blk_far ?_ NB186_200.out _; (with_reducible repeat (first | refine blk_drewN ?_ _ | refine blk_drew ?_ | refine blk_alloc ?_ _)); refine blk_far ?_ NB186_200.out _; (with_reducible repeat (first | refine blk_drewN ?_ _ | refine blk_drew ?_ | refine blk_alloc ?_ _)); refine blk_far ?_ NB186_200.out _; (with_reducible repeat (first | refine blk_drewN ?_ _ | refine blk_drew ?_ | refine blk_alloc ?_ _)); refine blk_far ?_ NB186_200.out _; (with_reducible repeat (first | refine blk_drewN ?_ _ | refine blk_drew ?_ | refine blk_alloc ?_ _)); refine blk_far ?_ NB186_199.out _; (with_reducible repeat (first | refine blk_drewN ?_ _ | refine blk_drew ?_ | refine blk_alloc ?_ _)); refine blk_far ?_ NB186_199.out _; (with_reducible repeat (first | refine blk_drewN ?_ _ | refine blk_drew ?_ | refine blk_alloc ?_ _)); refine blk_far ?_ NB186_199.out _; (with_reducible repeat (first | refine blk_drewN ?_ _ | refine blk_drew ?_ | refine blk_alloc ?_ _)); refine blk_far ?_ NB186_199.out _; (with_reducible repeat (first | refine blk_drewN ?_ _ | refine blk_drew ?_ | refine blk_alloc ?_ _)); exact BK186.out⟩
  have n4_ : Aside0 (((((((((w26.setCell ⟨gb199, 0, none⟩ (.int .i64 t191)).setCell ⟨gb199, 1, none⟩ (.int .i64 t192)).setCell ⟨gb199, 2, none⟩ (.int .i64 t193)).setCell ⟨gb199, 3, none⟩ (.int .i64 t194)).setCell ⟨gb200, 0, none⟩ (.int .i64 t195)).setCell ⟨gb200, 1, none⟩ (.int .i64 t196)).setCell ⟨gb200, 2, none⟩ (.int .i64 t197)).setCell ⟨gb200, 3, none⟩ (.int .i64 t198)).heap[gb199]? = some (.cells #[.int .i64 t191, .int .i64 t192, .int .i64 t193, .int .i64 t194] 27 (0, 0))) := ⟨by (with_reducible repeat (first | refine blk_drewN ?_ _ | refine blk_drew ?_ | refine blk_alloc ?_ _)); refine blk_far ?_ NB199_200.out _; (with_reducible repeat (first | refine blk_drewN ?_ _ | refine blk_drew ?_ | refine blk_alloc ?_ _)); refine blk_far ?_ NB199_200.out _; (with_reducible repeat (first | refine blk_drewN ?_ _ | refine blk_drew ?_ | refine blk_alloc ?_ _)); refine blk_far ?_ NB199_200.out _; (with_reducible repeat (first | refine blk_drewN ?_ _ | refine blk_drew ?_ | refine blk_alloc ?_ _)); refine blk_far ?_ NB199_200.out _; (with_reducible repeat (first | refine blk_drewN ?_ _ | refine blk_drew ?_ | refine blk_alloc ?_ _)); refine blk_put (cs := #[.int .i64 t191, .int .i64 t192, .int .i64 t193, .int .i64 0]) ?_ 3 _ rfl; (with_reducible repeat (first | refine blk_drewN ?_ _ | refine blk_drew ?_ | refine blk_alloc ?_ _)); refine blk_put (cs := #[.int .i64 t191, .int .i64 t192, .int .i64 0, .int .i64 0]) ?_ 2 _ rfl; (with_reducible repeat (first | refine blk_drewN ?_ _ | refine blk_drew ?_ | refine blk_alloc ?_ _)); refine blk_put (cs := #[.int .i64 t191, .int .i64 0, .int .i64 0, .int .i64 0]) ?_ 1 _ rfl; (with_reducible repeat (first | refine blk_drewN ?_ _ | refine blk_drew ?_ | refine blk_alloc ?_ _)); refine blk_put (cs := #[.int .i64 0, .int .i64 0, .int .i64 0, .int .i64 0]) ?_ 0 _ rfl; (with_reducible repeat (first | refine blk_drewN ?_ _ | refine blk_drew ?_ | refine blk_alloc ?_ _)); exact BK199.out⟩
  have n5_ : Aside0 (((((((((w26.setCell ⟨gb199, 0, none⟩ (.int .i64 t191)).setCell ⟨gb199, 1, none⟩ (.int .i64 t192)).setCell ⟨gb199, 2, none⟩ (.int .i64 t193)).setCell ⟨gb199, 3, none⟩ (.int .i64 t194)).setCell ⟨gb200, 0, none⟩ (.int .i64 t195)).setCell ⟨gb200, 1, none⟩ (.int .i64 t196)).setCell ⟨gb200, 2, none⟩ (.int .i64 t197)).setCell ⟨gb200, 3, none⟩ (.int .i64 t198)).heap[gb200]? = some (.cells #[.int .i64 t195, .int .i64 t196, .int .i64 t197, .int .i64 t198] 27 (0, 0))) := ⟨by (with_reducible repeat (first | refine blk_drewN ?_ _ | refine blk_drew ?_ | refine blk_alloc ?_ _)); refine blk_put (cs := #[.int .i64 t195, .int .i64 t196, .int .i64 t197, .int .i64 0]) ?_ 3 _ rfl; (with_reducible repeat (first | refine blk_drewN ?_ _ | refine blk_drew ?_ | refine blk_alloc ?_ _)); refine blk_put (cs := #[.int .i64 t195, .int .i64 t196, .int .i64 0, .int .i64 0]) ?_ 2 _ rfl; (with_reducible repeat (first | refine blk_drewN ?_ _ | refine blk_drew ?_ | refine blk_alloc ?_ _)); refine blk_put (cs := #[.int .i64 t195, .int .i64 0, .int .i64 0, .int .i64 0]) ?_ 1 _ rfl; (with_reducible repeat (first | refine blk_drewN ?_ _ | refine blk_drew ?_ | refine blk_alloc ?_ _)); refine blk_put (cs := #[.int .i64 0, .int .i64 0, .int .i64 0, .int .i64 0]) ?_ 0 _ rfl; (with_reducible repeat (first | refine blk_drewN ?_ _ | refine blk_drew ?_ | refine blk_alloc ?_ _)); refine blk_far ?_ NB200_199.out _; (with_reducible repeat (first | refine blk_drewN ?_ _ | refine blk_drew ?_ | refine blk_alloc ?_ _)); refine blk_far ?_ NB200_199.out _; (with_reducible repeat (first | refine blk_drewN ?_ _ | refine blk_drew ?_ | refine blk_alloc ?_ _)); refine blk_far ?_ NB200_199.out _; (with_reducible repeat (first | refine blk_drewN ?_ _ | refine blk_drew ?_ | refine blk_alloc ?_ _)); refine blk_far ?_ NB200_199.out _; (with_reducible repeat (first | refine blk_drewN ?_ _ | refine blk_drew ?_ | refine blk_alloc ?_ _)); exact BK200.out⟩
  have n6_ : Aside0 (Below w.heap.size w ((((((((w26.setCell ⟨gb199, 0, none⟩ (.int .i64 t191)).setCell ⟨gb199, 1, none⟩ (.int .i64 t192)).setCell ⟨gb199, 2, none⟩ (.int .i64 t193)).setCell ⟨gb199, 3, none⟩ (.int .i64 t194)).setCell ⟨gb200, 0, none⟩ (.int .i64 t195)).setCell ⟨gb200, 1, none⟩ (.int .i64 t196)).setCell ⟨gb200, 2, none⟩ (.int .i64 t197)).setCell ⟨gb200, 3, none⟩ (.int .i64 t198))) := ⟨by repeat (first | (with_reducible first | exact HB.out | apply below_alloc | apply pw_below_drewN | apply below_drew1 | refine below_set ?_ GE183.out | refine below_set ?_ GE184.out | refine below_set ?_ GE185.out | refine below_set ?_ GE186.out | refine below_set ?_ GE199.out | refine below_set ?_ GE200.out) | exact HB.out)⟩
  (try clear BK183); (try clear BK184); (try clear BK185); (try clear BK186); (try clear BK199); (try clear BK200); (try clear HB)
  generalize ((((((((w26.setCell ⟨gb199, 0, none⟩ (.int .i64 t191)).setCell ⟨gb199, 1, none⟩ (.int .i64 t192)).setCell ⟨gb199, 2, none⟩ (.int .i64 t193)).setCell ⟨gb199, 3, none⟩ (.int .i64 t194)).setCell ⟨gb200, 0, none⟩ (.int .i64 t195)).setCell ⟨gb200, 1, none⟩ (.int .i64 t196)).setCell ⟨gb200, 2, none⟩ (.int .i64 t197)).setCell ⟨gb200, 3, none⟩ (.int .i64 t198)) = w35 at n0_ n1_ n2_ n3_ n4_ n5_ n6_ ⊢
  have BK183 := n0_; have BK184 := n1_; have BK185 := n2_; have BK186 := n3_; have BK199 := n4_; have BK200 := n5_; have HB := n6_; clear n0_ n1_ n2_ n3_ n4_ n5_ n6_; replace BK183 := Aside0.mk (blk_drew BK183.out); replace BK184 := Aside0.mk (blk_drew BK184.out); replace BK185 := Aside0.mk (blk_drew BK185.out); replace BK186 := Aside0.mk (blk_drew BK186.out); replace BK199 := Aside0.mk (blk_drew BK199.out); replace BK200 := Aside0.mk (blk_drew BK200.out); replace HB := Aside0.mk (below_drew1 HB.out)
  refine start_ (n := 14) (S := fun w' => w'.cell? ⟨gb183, 0, none⟩ = some (.bool true) ∧ w'.cell? ⟨gb183, 1, none⟩ = some (.int .i64 a0_1) ∧ w'.cell? ⟨gb183, 2, none⟩ = some (.int .i64 a0_2) ∧ w'.cell? ⟨gb183, 3, none⟩ = some (.int .i64 a0_3) ∧ w'.cell? ⟨gb183, 4, none⟩ = some (.int .i64 a0_4) ∧ w'.cell? ⟨gb183, 5, none⟩ = some (.int .i64 a0_5) ∧ w'.cell? ⟨gb183, 6, none⟩ = some (.int .i64 a0_6) ∧ w'.cell? ⟨gb183, 7, none⟩ = some (.int .i64 a0_7) ∧ w'.cell? ⟨gb184, 0, none⟩ = some (.int .i64 a1_0) ∧ w'.cell? ⟨gb184, 1, none⟩ = some (.int .i64 a1_1) ∧ w'.cell? ⟨gb184, 2, none⟩ = some (.int .i64 a1_2) ∧ w'.cell? ⟨gb184, 3, none⟩ = some (.int .i64 a1_3) ∧ w'.cell? ⟨gb185, 0, none⟩ = some (.int .i64 a2_0) ∧ w'.cell? ⟨gb185, 1, none⟩ = some (.int .i64 a2_1) ∧ w'.cell? ⟨gb185, 2, none⟩ = some (.int .i64 a2_2) ∧ w'.cell? ⟨gb185, 3, none⟩ = some (.int .i64 a2_3)) (ds := []) #[false, false, false, false, false, false, false, false, false, false, false, false, false, false] (by kernel_rfl) rfl rfl ⟨bc BK183 0, bc BK183 1, bc BK183 2, bc BK183 3, bc BK183 4, bc BK183 5, bc BK183 6, bc BK183 7, bc BK184 0, bc BK184 1, bc BK184 2, bc BK184 3, bc BK185 0, bc BK185 1, bc BK185 2, bc BK185 3⟩ (fun hHeld => ?_); refine with_tabW blend_Blend.tab4 blend_Blend.bits4 (fun HT_ HW_ => ?_)
  generalize w35.drew = w36 at BK183 BK184 BK185 BK186 BK199 BK200 HB hHeld ⊢
  refine pure_ (i := 0) (N := some 37) (v := ?_) (a' := ?_) #[true, false, false, false, false, false, false, false, false, false, false, false, false, false] rfl rfl (any_of HT_.out (by kernel_rfl)) (fun _ _ _ h => h) (Or.inl ⟨by rfl, ?_⟩) ?_ ?_
  rotate_left
  ·intro w'
   go_simp
   with_reducible rfl
  rotate_left
  ·simp only [Act.put, List.setIfInBounds_toArray, List.set_cons_zero, List.set_cons_succ, i64_w, i32_w]
   rfl
  refine pure_ (i := 5) (N := some 42) (v := ?_) (a' := ?_) #[true, false, false, false, false, true, false, false, false, false, false, false, false, false] rfl rfl (any_of HT_.out (by kernel_rfl)) (fun _ _ _ h => h) (Or.inl ⟨by rfl, ?_⟩) ?_ ?_
  rotate_left
  ·intro w'
   go_simp
   with_reducible rfl
  rotate_left
  ·simp only [Act.put, List.setIfInBounds_toArray, List.set_cons_zero, List.set_cons_succ, i64_w, i32_w]
   rfl
  refine take_ (i := 1) (N := some 38) (v := ?_) (a' := ?_) #[true, true, false, false, false, true, false, false, false, false, false, false, false, false] rfl rfl (take_ofW HT_.out HW_.out (by kernel_rfl)) (fun _ _ _ h => h) (Or.inl ⟨by rfl, ?_⟩) hHeld ?_ ?_
  rotate_left
  ·rintro w' ⟨s0, s1, s2, s3, s4, s5, s6, s7, s8, s9, s10, s11, s12, s13, s14, s15⟩
   go_simp
   with_reducible rfl
  rotate_left
  ·simp only [Act.put, List.setIfInBounds_toArray, List.set_cons_zero, List.set_cons_succ, i64_w, i32_w]
   rfl
  refine take_ (i := 2) (N := some 39) (v := ?_) (a' := ?_) #[true, true, true, false, false, true, false, false, false, false, false, false, false, false] rfl rfl (take_ofW HT_.out HW_.out (by kernel_rfl)) (fun _ _ _ h => h) (Or.inl ⟨by rfl, ?_⟩) hHeld ?_ ?_
  rotate_left
  ·rintro w' ⟨s0, s1, s2, s3, s4, s5, s6, s7, s8, s9, s10, s11, s12, s13, s14, s15⟩
   go_simp
   with_reducible rfl
  rotate_left
  ·simp only [Act.put, List.setIfInBounds_toArray, List.set_cons_zero, List.set_cons_succ, i64_w, i32_w]
   rfl
  refine take_ (i := 3) (N := some 40) (v := ?_) (a' := ?_) #[true, true, true, true, false, true, false, false, false, false, false, false, false, false] rfl rfl (take_ofW HT_.out HW_.out (by kernel_rfl)) (fun _ _ _ h => h) (Or.inl ⟨by rfl, ?_⟩) hHeld ?_ ?_
  rotate_left
  ·rintro w' ⟨s0, s1, s2, s3, s4, s5, s6, s7, s8, s9, s10, s11, s12, s13, s14, s15⟩
   go_simp
   with_reducible rfl
  rotate_left
  ·simp only [Act.put, List.setIfInBounds_toArray, List.set_cons_zero, List.set_cons_succ, i64_w, i32_w]
   rfl
  refine take_ (i := 6) (N := some 43) (v := ?_) (a' := ?_) #[true, true, true, true, false, true, true, false, false, false, false, false, false, false] rfl rfl (take_ofW HT_.out HW_.out (by kernel_rfl)) (fun _ _ _ h => h) (Or.inl ⟨by rfl, ?_⟩) hHeld ?_ ?_
  rotate_left
  ·rintro w' ⟨s0, s1, s2, s3, s4, s5, s6, s7, s8, s9, s10, s11, s12, s13, s14, s15⟩
   go_simp
   with_reducible rfl
  rotate_left
  ·simp only [Act.put, List.setIfInBounds_toArray, List.set_cons_zero, List.set_cons_succ, i64_w, i32_w]
   rfl
  refine take_ (i := 7) (N := some 44) (v := ?_) (a' := ?_) #[true, true, true, true, false, true, true, true, false, false, false, false, false, false] rfl rfl (take_ofW HT_.out HW_.out (by kernel_rfl)) (fun _ _ _ h => h) (Or.inl ⟨by rfl, ?_⟩) hHeld ?_ ?_
  rotate_left
  ·rintro w' ⟨s0, s1, s2, s3, s4, s5, s6, s7, s8, s9, s10, s11, s12, s13, s14, s15⟩
   go_simp
   with_reducible rfl
  rotate_left
  ·simp only [Act.put, List.setIfInBounds_toArray, List.set_cons_zero, List.set_cons_succ, i64_w, i32_w]
   rfl
  refine take_ (i := 8) (N := some 45) (v := ?_) (a' := ?_) #[true, true, true, true, false, true, true, true, true, false, false, false, false, false] rfl rfl (take_ofW HT_.out HW_.out (by kernel_rfl)) (fun _ _ _ h => h) (Or.inl ⟨by rfl, ?_⟩) hHeld ?_ ?_
  rotate_left
  ·rintro w' ⟨s0, s1, s2, s3, s4, s5, s6, s7, s8, s9, s10, s11, s12, s13, s14, s15⟩
   go_simp
   with_reducible rfl
  rotate_left
  ·simp only [Act.put, List.setIfInBounds_toArray, List.set_cons_zero, List.set_cons_succ, i64_w, i32_w]
   rfl
  refine join_ (σ := Nat × Nat) 2 #[true, true, true, true, true, true, true, true, true, true, true, true, false, false] (fun s_ => [(41, .agg #[.int .i64 t201, .int .i64 t202, .int .i64 t203, .int .i64 t204]), (46, .agg #[.int .i64 t205, .int .i64 t206, .int .i64 t207, .int .i64 t208]), (9, .pointer (some ⟨s_.1, 0, none⟩)), (10, .pointer (some ⟨s_.2, 0, none⟩))]) (fun s_ w' => (w'.cell? ⟨gb183, 0, none⟩ = some (.bool true) ∧ w'.cell? ⟨gb183, 1, none⟩ = some (.int .i64 a0_1) ∧ w'.cell? ⟨gb183, 2, none⟩ = some (.int .i64 a0_2) ∧ w'.cell? ⟨gb183, 3, none⟩ = some (.int .i64 a0_3) ∧ w'.cell? ⟨gb183, 4, none⟩ = some (.int .i64 a0_4) ∧ w'.cell? ⟨gb183, 5, none⟩ = some (.int .i64 a0_5) ∧ w'.cell? ⟨gb183, 6, none⟩ = some (.int .i64 a0_6) ∧ w'.cell? ⟨gb183, 7, none⟩ = some (.int .i64 a0_7) ∧ w'.cell? ⟨gb184, 0, none⟩ = some (.int .i64 a1_0) ∧ w'.cell? ⟨gb184, 1, none⟩ = some (.int .i64 a1_1) ∧ w'.cell? ⟨gb184, 2, none⟩ = some (.int .i64 a1_2) ∧ w'.cell? ⟨gb184, 3, none⟩ = some (.int .i64 a1_3) ∧ w'.cell? ⟨gb185, 0, none⟩ = some (.int .i64 a2_0) ∧ w'.cell? ⟨gb185, 1, none⟩ = some (.int .i64 a2_1) ∧ w'.cell? ⟨gb185, 2, none⟩ = some (.int .i64 a2_2) ∧ w'.cell? ⟨gb185, 3, none⟩ = some (.int .i64 a2_3)) ∧ (w'.heap[gb183]? = some (.cells #[.bool true, .int .i64 a0_1, .int .i64 a0_2, .int .i64 a0_3, .int .i64 a0_4, .int .i64 a0_5, .int .i64 a0_6, .int .i64 a0_7] 25 (0, 0))) ∧ (w'.heap[gb184]? = some (.cells #[.int .i64 a1_0, .int .i64 a1_1, .int .i64 a1_2, .int .i64 a1_3] 27 (0, 0))) ∧ (w'.heap[gb185]? = some (.cells #[.int .i64 a2_0, .int .i64 a2_1, .int .i64 a2_2, .int .i64 a2_3] 27 (0, 0))) ∧ (w'.heap[gb186]? = some (.cells #[.int .i64 0, .int .i64 0, .int .i64 0, .int .i64 0] 27 (0, 0))) ∧ (w'.heap[gb199]? = some (.cells #[.int .i64 t191, .int .i64 t192, .int .i64 t193, .int .i64 t194] 27 (0, 0))) ∧ (w'.heap[gb200]? = some (.cells #[.int .i64 t195, .int .i64 t196, .int .i64 t197, .int .i64 t198] 27 (0, 0))) ∧ (w'.heap[s_.1]? = some (.cells #[.int .i64 0, .int .i64 0, .int .i64 0, .int .i64 0] 27 (0, 0))) ∧ (w'.heap[s_.2]? = some (.cells #[.int .i64 0, .int .i64 0, .int .i64 0, .int .i64 0] 27 (0, 0))) ∧ (w.heap.size ≤ s_.1) ∧ (w.heap.size ≤ s_.1) ∧ (gb183 ≠ s_.1) ∧ (s_.1 ≠ gb183) ∧ (gb184 ≠ s_.1) ∧ (s_.1 ≠ gb184) ∧ (gb185 ≠ s_.1) ∧ (s_.1 ≠ gb185) ∧ (gb186 ≠ s_.1) ∧ (s_.1 ≠ gb186) ∧ (gb199 ≠ s_.1) ∧ (s_.1 ≠ gb199) ∧ (gb200 ≠ s_.1) ∧ (s_.1 ≠ gb200) ∧ (s_.2 ≠ s_.1) ∧ (s_.1 ≠ s_.2) ∧ (w.heap.size ≤ s_.2) ∧ (w.heap.size ≤ s_.2) ∧ (gb183 ≠ s_.2) ∧ (s_.2 ≠ gb183) ∧ (gb184 ≠ s_.2) ∧ (s_.2 ≠ gb184) ∧ (gb185 ≠ s_.2) ∧ (s_.2 ≠ gb185) ∧ (gb186 ≠ s_.2) ∧ (s_.2 ≠ gb186) ∧ (gb199 ≠ s_.2) ∧ (s_.2 ≠ gb199) ∧ (gb200 ≠ s_.2) ∧ (s_.2 ≠ gb200) ∧ (Below w.heap.size w w')) ?_ ?_
  rotate_left
  ·intro hJ4_9_10_11
   refine join_ (σ := Nat) 3 #[true, true, true, true, true, true, true, true, true, true, true, false, false, false] (fun s_ => [(41, .agg #[.int .i64 t201, .int .i64 t202, .int .i64 t203, .int .i64 t204]), (46, .agg #[.int .i64 t205, .int .i64 t206, .int .i64 t207, .int .i64 t208]), (9, .pointer (some ⟨s_, 0, none⟩))]) (fun s_ w' => (w'.cell? ⟨gb183, 0, none⟩ = some (.bool true) ∧ w'.cell? ⟨gb183, 1, none⟩ = some (.int .i64 a0_1) ∧ w'.cell? ⟨gb183, 2, none⟩ = some (.int .i64 a0_2) ∧ w'.cell? ⟨gb183, 3, none⟩ = some (.int .i64 a0_3) ∧ w'.cell? ⟨gb183, 4, none⟩ = some (.int .i64 a0_4) ∧ w'.cell? ⟨gb183, 5, none⟩ = some (.int .i64 a0_5) ∧ w'.cell? ⟨gb183, 6, none⟩ = some (.int .i64 a0_6) ∧ w'.cell? ⟨gb183, 7, none⟩ = some (.int .i64 a0_7) ∧ w'.cell? ⟨gb184, 0, none⟩ = some (.int .i64 a1_0) ∧ w'.cell? ⟨gb184, 1, none⟩ = some (.int .i64 a1_1) ∧ w'.cell? ⟨gb184, 2, none⟩ = some (.int .i64 a1_2) ∧ w'.cell? ⟨gb184, 3, none⟩ = some (.int .i64 a1_3) ∧ w'.cell? ⟨gb185, 0, none⟩ = some (.int .i64 a2_0) ∧ w'.cell? ⟨gb185, 1, none⟩ = some (.int .i64 a2_1) ∧ w'.cell? ⟨gb185, 2, none⟩ = some (.int .i64 a2_2) ∧ w'.cell? ⟨gb185, 3, none⟩ = some (.int .i64 a2_3)) ∧ (w'.heap[gb183]? = some (.cells #[.bool true, .int .i64 a0_1, .int .i64 a0_2, .int .i64 a0_3, .int .i64 a0_4, .int .i64 a0_5, .int .i64 a0_6, .int .i64 a0_7] 25 (0, 0))) ∧ (w'.heap[gb184]? = some (.cells #[.int .i64 a1_0, .int .i64 a1_1, .int .i64 a1_2, .int .i64 a1_3] 27 (0, 0))) ∧ (w'.heap[gb185]? = some (.cells #[.int .i64 a2_0, .int .i64 a2_1, .int .i64 a2_2, .int .i64 a2_3] 27 (0, 0))) ∧ (w'.heap[gb186]? = some (.cells #[.int .i64 0, .int .i64 0, .int .i64 0, .int .i64 0] 27 (0, 0))) ∧ (w'.heap[gb199]? = some (.cells #[.int .i64 t191, .int .i64 t192, .int .i64 t193, .int .i64 t194] 27 (0, 0))) ∧ (w'.heap[gb200]? = some (.cells #[.int .i64 t195, .int .i64 t196, .int .i64 t197, .int .i64 t198] 27 (0, 0))) ∧ (w'.heap[s_]? = some (.cells #[.int .i64 0, .int .i64 0, .int .i64 0, .int .i64 0] 27 (0, 0))) ∧ (w.heap.size ≤ s_) ∧ (w.heap.size ≤ s_) ∧ (gb183 ≠ s_) ∧ (s_ ≠ gb183) ∧ (gb184 ≠ s_) ∧ (s_ ≠ gb184) ∧ (gb185 ≠ s_) ∧ (s_ ≠ gb185) ∧ (gb186 ≠ s_) ∧ (s_ ≠ gb186) ∧ (gb199 ≠ s_) ∧ (s_ ≠ gb199) ∧ (gb200 ≠ s_) ∧ (s_ ≠ gb200) ∧ (Below w.heap.size w w')) ?_ ?_
   rotate_left
   ·intro hJ4_9_10
    refine join_ (σ := Nat) 3 #[true, true, true, true, true, true, true, true, true, true, false, true, false, false] (fun s_ => [(41, .agg #[.int .i64 t201, .int .i64 t202, .int .i64 t203, .int .i64 t204]), (46, .agg #[.int .i64 t205, .int .i64 t206, .int .i64 t207, .int .i64 t208]), (10, .pointer (some ⟨s_, 0, none⟩))]) (fun s_ w' => (w'.cell? ⟨gb183, 0, none⟩ = some (.bool true) ∧ w'.cell? ⟨gb183, 1, none⟩ = some (.int .i64 a0_1) ∧ w'.cell? ⟨gb183, 2, none⟩ = some (.int .i64 a0_2) ∧ w'.cell? ⟨gb183, 3, none⟩ = some (.int .i64 a0_3) ∧ w'.cell? ⟨gb183, 4, none⟩ = some (.int .i64 a0_4) ∧ w'.cell? ⟨gb183, 5, none⟩ = some (.int .i64 a0_5) ∧ w'.cell? ⟨gb183, 6, none⟩ = some (.int .i64 a0_6) ∧ w'.cell? ⟨gb183, 7, none⟩ = some (.int .i64 a0_7) ∧ w'.cell? ⟨gb184, 0, none⟩ = some (.int .i64 a1_0) ∧ w'.cell? ⟨gb184, 1, none⟩ = some (.int .i64 a1_1) ∧ w'.cell? ⟨gb184, 2, none⟩ = some (.int .i64 a1_2) ∧ w'.cell? ⟨gb184, 3, none⟩ = some (.int .i64 a1_3) ∧ w'.cell? ⟨gb185, 0, none⟩ = some (.int .i64 a2_0) ∧ w'.cell? ⟨gb185, 1, none⟩ = some (.int .i64 a2_1) ∧ w'.cell? ⟨gb185, 2, none⟩ = some (.int .i64 a2_2) ∧ w'.cell? ⟨gb185, 3, none⟩ = some (.int .i64 a2_3)) ∧ (w'.heap[gb183]? = some (.cells #[.bool true, .int .i64 a0_1, .int .i64 a0_2, .int .i64 a0_3, .int .i64 a0_4, .int .i64 a0_5, .int .i64 a0_6, .int .i64 a0_7] 25 (0, 0))) ∧ (w'.heap[gb184]? = some (.cells #[.int .i64 a1_0, .int .i64 a1_1, .int .i64 a1_2, .int .i64 a1_3] 27 (0, 0))) ∧ (w'.heap[gb185]? = some (.cells #[.int .i64 a2_0, .int .i64 a2_1, .int .i64 a2_2, .int .i64 a2_3] 27 (0, 0))) ∧ (w'.heap[gb186]? = some (.cells #[.int .i64 0, .int .i64 0, .int .i64 0, .int .i64 0] 27 (0, 0))) ∧ (w'.heap[gb199]? = some (.cells #[.int .i64 t191, .int .i64 t192, .int .i64 t193, .int .i64 t194] 27 (0, 0))) ∧ (w'.heap[gb200]? = some (.cells #[.int .i64 t195, .int .i64 t196, .int .i64 t197, .int .i64 t198] 27 (0, 0))) ∧ (w'.heap[s_]? = some (.cells #[.int .i64 0, .int .i64 0, .int .i64 0, .int .i64 0] 27 (0, 0))) ∧ (w.heap.size ≤ s_) ∧ (w.heap.size ≤ s_) ∧ (gb183 ≠ s_) ∧ (s_ ≠ gb183) ∧ (gb184 ≠ s_) ∧ (s_ ≠ gb184) ∧ (gb185 ≠ s_) ∧ (s_ ≠ gb185) ∧ (gb186 ≠ s_) ∧ (s_ ≠ gb186) ∧ (gb199 ≠ s_) ∧ (s_ ≠ gb199) ∧ (gb200 ≠ s_) ∧ (s_ ≠ gb200) ∧ (Below w.heap.size w w')) ?_ ?_
    rotate_left
    ·intro hJ4_9_11
     refine join_ (σ := Nat × Nat) 3 #[true, true, true, true, true, true, true, true, true, false, true, true, false, false] (fun s_ => [(41, .agg #[.int .i64 t201, .int .i64 t202, .int .i64 t203, .int .i64 t204]), (9, .pointer (some ⟨s_.1, 0, none⟩)), (10, .pointer (some ⟨s_.2, 0, none⟩))]) (fun s_ w' => (w'.cell? ⟨gb183, 0, none⟩ = some (.bool true) ∧ w'.cell? ⟨gb183, 1, none⟩ = some (.int .i64 a0_1) ∧ w'.cell? ⟨gb183, 2, none⟩ = some (.int .i64 a0_2) ∧ w'.cell? ⟨gb183, 3, none⟩ = some (.int .i64 a0_3) ∧ w'.cell? ⟨gb183, 4, none⟩ = some (.int .i64 a0_4) ∧ w'.cell? ⟨gb183, 5, none⟩ = some (.int .i64 a0_5) ∧ w'.cell? ⟨gb183, 6, none⟩ = some (.int .i64 a0_6) ∧ w'.cell? ⟨gb183, 7, none⟩ = some (.int .i64 a0_7) ∧ w'.cell? ⟨gb184, 0, none⟩ = some (.int .i64 a1_0) ∧ w'.cell? ⟨gb184, 1, none⟩ = some (.int .i64 a1_1) ∧ w'.cell? ⟨gb184, 2, none⟩ = some (.int .i64 a1_2) ∧ w'.cell? ⟨gb184, 3, none⟩ = some (.int .i64 a1_3) ∧ w'.cell? ⟨gb185, 0, none⟩ = some (.int .i64 a2_0) ∧ w'.cell? ⟨gb185, 1, none⟩ = some (.int .i64 a2_1) ∧ w'.cell? ⟨gb185, 2, none⟩ = some (.int .i64 a2_2) ∧ w'.cell? ⟨gb185, 3, none⟩ = some (.int .i64 a2_3)) ∧ (w'.heap[gb183]? = some (.cells #[.bool true, .int .i64 a0_1, .int .i64 a0_2, .int .i64 a0_3, .int .i64 a0_4, .int .i64 a0_5, .int .i64 a0_6, .int .i64 a0_7] 25 (0, 0))) ∧ (w'.heap[gb184]? = some (.cells #[.int .i64 a1_0, .int .i64 a1_1, .int .i64 a1_2, .int .i64 a1_3] 27 (0, 0))) ∧ (w'.heap[gb185]? = some (.cells #[.int .i64 a2_0, .int .i64 a2_1, .int .i64 a2_2, .int .i64 a2_3] 27 (0, 0))) ∧ (w'.heap[gb186]? = some (.cells #[.int .i64 0, .int .i64 0, .int .i64 0, .int .i64 0] 27 (0, 0))) ∧ (w'.heap[gb199]? = some (.cells #[.int .i64 t191, .int .i64 t192, .int .i64 t193, .int .i64 t194] 27 (0, 0))) ∧ (w'.heap[gb200]? = some (.cells #[.int .i64 t195, .int .i64 t196, .int .i64 t197, .int .i64 t198] 27 (0, 0))) ∧ (w'.heap[s_.1]? = some (.cells #[.int .i64 0, .int .i64 0, .int .i64 0, .int .i64 0] 27 (0, 0))) ∧ (w'.heap[s_.2]? = some (.cells #[.int .i64 0, .int .i64 0, .int .i64 0, .int .i64 0] 27 (0, 0))) ∧ (w.heap.size ≤ s_.1) ∧ (w.heap.size ≤ s_.1) ∧ (gb183 ≠ s_.1) ∧ (s_.1 ≠ gb183) ∧ (gb184 ≠ s_.1) ∧ (s_.1 ≠ gb184) ∧ (gb185 ≠ s_.1) ∧ (s_.1 ≠ gb185) ∧ (gb186 ≠ s_.1) ∧ (s_.1 ≠ gb186) ∧ (gb199 ≠ s_.1) ∧ (s_.1 ≠ gb199) ∧ (gb200 ≠ s_.1) ∧ (s_.1 ≠ gb200) ∧ (s_.2 ≠ s_.1) ∧ (s_.1 ≠ s_.2) ∧ (w.heap.size ≤ s_.2) ∧ (w.heap.size ≤ s_.2) ∧ (gb183 ≠ s_.2) ∧ (s_.2 ≠ gb183) ∧ (gb184 ≠ s_.2) ∧ (s_.2 ≠ gb184) ∧ (gb185 ≠ s_.2) ∧ (s_.2 ≠ gb185) ∧ (gb186 ≠ s_.2) ∧ (s_.2 ≠ gb186) ∧ (gb199 ≠ s_.2) ∧ (s_.2 ≠ gb199) ∧ (gb200 ≠ s_.2) ∧ (s_.2 ≠ gb200) ∧ (Below w.heap.size w w')) ?_ ?_
     rotate_left
     ·intro hJ4_10_11
      refine join_ (σ := Unit) 4 #[true, true, true, true, true, true, true, true, true, true, false, false, false, false] (fun s_ => [(41, .agg #[.int .i64 t201, .int .i64 t202, .int .i64 t203, .int .i64 t204]), (46, .agg #[.int .i64 t205, .int .i64 t206, .int .i64 t207, .int .i64 t208])]) (fun s_ w' => (w'.cell? ⟨gb183, 0, none⟩ = some (.bool true) ∧ w'.cell? ⟨gb183, 1, none⟩ = some (.int .i64 a0_1) ∧ w'.cell? ⟨gb183, 2, none⟩ = some (.int .i64 a0_2) ∧ w'.cell? ⟨gb183, 3, none⟩ = some (.int .i64 a0_3) ∧ w'.cell? ⟨gb183, 4, none⟩ = some (.int .i64 a0_4) ∧ w'.cell? ⟨gb183, 5, none⟩ = some (.int .i64 a0_5) ∧ w'.cell? ⟨gb183, 6, none⟩ = some (.int .i64 a0_6) ∧ w'.cell? ⟨gb183, 7, none⟩ = some (.int .i64 a0_7) ∧ w'.cell? ⟨gb184, 0, none⟩ = some (.int .i64 a1_0) ∧ w'.cell? ⟨gb184, 1, none⟩ = some (.int .i64 a1_1) ∧ w'.cell? ⟨gb184, 2, none⟩ = some (.int .i64 a1_2) ∧ w'.cell? ⟨gb184, 3, none⟩ = some (.int .i64 a1_3) ∧ w'.cell? ⟨gb185, 0, none⟩ = some (.int .i64 a2_0) ∧ w'.cell? ⟨gb185, 1, none⟩ = some (.int .i64 a2_1) ∧ w'.cell? ⟨gb185, 2, none⟩ = some (.int .i64 a2_2) ∧ w'.cell? ⟨gb185, 3, none⟩ = some (.int .i64 a2_3)) ∧ (w'.heap[gb183]? = some (.cells #[.bool true, .int .i64 a0_1, .int .i64 a0_2, .int .i64 a0_3, .int .i64 a0_4, .int .i64 a0_5, .int .i64 a0_6, .int .i64 a0_7] 25 (0, 0))) ∧ (w'.heap[gb184]? = some (.cells #[.int .i64 a1_0, .int .i64 a1_1, .int .i64 a1_2, .int .i64 a1_3] 27 (0, 0))) ∧ (w'.heap[gb185]? = some (.cells #[.int .i64 a2_0, .int .i64 a2_1, .int .i64 a2_2, .int .i64 a2_3] 27 (0, 0))) ∧ (w'.heap[gb186]? = some (.cells #[.int .i64 0, .int .i64 0, .int .i64 0, .int .i64 0] 27 (0, 0))) ∧ (w'.heap[gb199]? = some (.cells #[.int .i64 t191, .int .i64 t192, .int .i64 t193, .int .i64 t194] 27 (0, 0))) ∧ (w'.heap[gb200]? = some (.cells #[.int .i64 t195, .int .i64 t196, .int .i64 t197, .int .i64 t198] 27 (0, 0))) ∧ (Below w.heap.size w w')) ?_ ?_
      rotate_left
      ·intro hJ4_9
       refine join_ (σ := Nat) 4 #[true, true, true, true, true, true, true, true, true, false, true, false, false, false] (fun s_ => [(41, .agg #[.int .i64 t201, .int .i64 t202, .int .i64 t203, .int .i64 t204]), (9, .pointer (some ⟨s_, 0, none⟩))]) (fun s_ w' => (w'.cell? ⟨gb183, 0, none⟩ = some (.bool true) ∧ w'.cell? ⟨gb183, 1, none⟩ = some (.int .i64 a0_1) ∧ w'.cell? ⟨gb183, 2, none⟩ = some (.int .i64 a0_2) ∧ w'.cell? ⟨gb183, 3, none⟩ = some (.int .i64 a0_3) ∧ w'.cell? ⟨gb183, 4, none⟩ = some (.int .i64 a0_4) ∧ w'.cell? ⟨gb183, 5, none⟩ = some (.int .i64 a0_5) ∧ w'.cell? ⟨gb183, 6, none⟩ = some (.int .i64 a0_6) ∧ w'.cell? ⟨gb183, 7, none⟩ = some (.int .i64 a0_7) ∧ w'.cell? ⟨gb184, 0, none⟩ = some (.int .i64 a1_0) ∧ w'.cell? ⟨gb184, 1, none⟩ = some (.int .i64 a1_1) ∧ w'.cell? ⟨gb184, 2, none⟩ = some (.int .i64 a1_2) ∧ w'.cell? ⟨gb184, 3, none⟩ = some (.int .i64 a1_3) ∧ w'.cell? ⟨gb185, 0, none⟩ = some (.int .i64 a2_0) ∧ w'.cell? ⟨gb185, 1, none⟩ = some (.int .i64 a2_1) ∧ w'.cell? ⟨gb185, 2, none⟩ = some (.int .i64 a2_2) ∧ w'.cell? ⟨gb185, 3, none⟩ = some (.int .i64 a2_3)) ∧ (w'.heap[gb183]? = some (.cells #[.bool true, .int .i64 a0_1, .int .i64 a0_2, .int .i64 a0_3, .int .i64 a0_4, .int .i64 a0_5, .int .i64 a0_6, .int .i64 a0_7] 25 (0, 0))) ∧ (w'.heap[gb184]? = some (.cells #[.int .i64 a1_0, .int .i64 a1_1, .int .i64 a1_2, .int .i64 a1_3] 27 (0, 0))) ∧ (w'.heap[gb185]? = some (.cells #[.int .i64 a2_0, .int .i64 a2_1, .int .i64 a2_2, .int .i64 a2_3] 27 (0, 0))) ∧ (w'.heap[gb186]? = some (.cells #[.int .i64 0, .int .i64 0, .int .i64 0, .int .i64 0] 27 (0, 0))) ∧ (w'.heap[gb199]? = some (.cells #[.int .i64 t191, .int .i64 t192, .int .i64 t193, .int .i64 t194] 27 (0, 0))) ∧ (w'.heap[gb200]? = some (.cells #[.int .i64 t195, .int .i64 t196, .int .i64 t197, .int .i64 t198] 27 (0, 0))) ∧ (w'.heap[s_]? = some (.cells #[.int .i64 0, .int .i64 0, .int .i64 0, .int .i64 0] 27 (0, 0))) ∧ (w.heap.size ≤ s_) ∧ (w.heap.size ≤ s_) ∧ (gb183 ≠ s_) ∧ (s_ ≠ gb183) ∧ (gb184 ≠ s_) ∧ (s_ ≠ gb184) ∧ (gb185 ≠ s_) ∧ (s_ ≠ gb185) ∧ (gb186 ≠ s_) ∧ (s_ ≠ gb186) ∧ (gb199 ≠ s_) ∧ (s_ ≠ gb199) ∧ (gb200 ≠ s_) ∧ (s_ ≠ gb200) ∧ (Below w.heap.size w w')) ?_ ?_
       rotate_left
       ·intro hJ4_10
        refine join_ (σ := Nat) 4 #[true, true, true, true, true, true, true, true, true, false, false, true, false, false] (fun s_ => [(41, .agg #[.int .i64 t201, .int .i64 t202, .int .i64 t203, .int .i64 t204]), (10, .pointer (some ⟨s_, 0, none⟩))]) (fun s_ w' => (w'.cell? ⟨gb183, 0, none⟩ = some (.bool true) ∧ w'.cell? ⟨gb183, 1, none⟩ = some (.int .i64 a0_1) ∧ w'.cell? ⟨gb183, 2, none⟩ = some (.int .i64 a0_2) ∧ w'.cell? ⟨gb183, 3, none⟩ = some (.int .i64 a0_3) ∧ w'.cell? ⟨gb183, 4, none⟩ = some (.int .i64 a0_4) ∧ w'.cell? ⟨gb183, 5, none⟩ = some (.int .i64 a0_5) ∧ w'.cell? ⟨gb183, 6, none⟩ = some (.int .i64 a0_6) ∧ w'.cell? ⟨gb183, 7, none⟩ = some (.int .i64 a0_7) ∧ w'.cell? ⟨gb184, 0, none⟩ = some (.int .i64 a1_0) ∧ w'.cell? ⟨gb184, 1, none⟩ = some (.int .i64 a1_1) ∧ w'.cell? ⟨gb184, 2, none⟩ = some (.int .i64 a1_2) ∧ w'.cell? ⟨gb184, 3, none⟩ = some (.int .i64 a1_3) ∧ w'.cell? ⟨gb185, 0, none⟩ = some (.int .i64 a2_0) ∧ w'.cell? ⟨gb185, 1, none⟩ = some (.int .i64 a2_1) ∧ w'.cell? ⟨gb185, 2, none⟩ = some (.int .i64 a2_2) ∧ w'.cell? ⟨gb185, 3, none⟩ = some (.int .i64 a2_3)) ∧ (w'.heap[gb183]? = some (.cells #[.bool true, .int .i64 a0_1, .int .i64 a0_2, .int .i64 a0_3, .int .i64 a0_4, .int .i64 a0_5, .int .i64 a0_6, .int .i64 a0_7] 25 (0, 0))) ∧ (w'.heap[gb184]? = some (.cells #[.int .i64 a1_0, .int .i64 a1_1, .int .i64 a1_2, .int .i64 a1_3] 27 (0, 0))) ∧ (w'.heap[gb185]? = some (.cells #[.int .i64 a2_0, .int .i64 a2_1, .int .i64 a2_2, .int .i64 a2_3] 27 (0, 0))) ∧ (w'.heap[gb186]? = some (.cells #[.int .i64 0, .int .i64 0, .int .i64 0, .int .i64 0] 27 (0, 0))) ∧ (w'.heap[gb199]? = some (.cells #[.int .i64 t191, .int .i64 t192, .int .i64 t193, .int .i64 t194] 27 (0, 0))) ∧ (w'.heap[gb200]? = some (.cells #[.int .i64 t195, .int .i64 t196, .int .i64 t197, .int .i64 t198] 27 (0, 0))) ∧ (w'.heap[s_]? = some (.cells #[.int .i64 0, .int .i64 0, .int .i64 0, .int .i64 0] 27 (0, 0))) ∧ (w.heap.size ≤ s_) ∧ (w.heap.size ≤ s_) ∧ (gb183 ≠ s_) ∧ (s_ ≠ gb183) ∧ (gb184 ≠ s_) ∧ (s_ ≠ gb184) ∧ (gb185 ≠ s_) ∧ (s_ ≠ gb185) ∧ (gb186 ≠ s_) ∧ (s_ ≠ gb186) ∧ (gb199 ≠ s_) ∧ (s_ ≠ gb199) ∧ (gb200 ≠ s_) ∧ (s_ ≠ gb200) ∧ (Below w.heap.size w w')) ?_ ?_
        rotate_left
        ·intro hJ4_11
         refine join_ (σ := Nat × Nat) 4 #[true, true, true, true, false, true, true, true, true, false, true, true, false, false] (fun s_ => [(9, .pointer (some ⟨s_.1, 0, none⟩)), (10, .pointer (some ⟨s_.2, 0, none⟩))]) (fun s_ w' => (w'.cell? ⟨gb183, 0, none⟩ = some (.bool true) ∧ w'.cell? ⟨gb183, 1, none⟩ = some (.int .i64 a0_1) ∧ w'.cell? ⟨gb183, 2, none⟩ = some (.int .i64 a0_2) ∧ w'.cell? ⟨gb183, 3, none⟩ = some (.int .i64 a0_3) ∧ w'.cell? ⟨gb183, 4, none⟩ = some (.int .i64 a0_4) ∧ w'.cell? ⟨gb183, 5, none⟩ = some (.int .i64 a0_5) ∧ w'.cell? ⟨gb183, 6, none⟩ = some (.int .i64 a0_6) ∧ w'.cell? ⟨gb183, 7, none⟩ = some (.int .i64 a0_7) ∧ w'.cell? ⟨gb184, 0, none⟩ = some (.int .i64 a1_0) ∧ w'.cell? ⟨gb184, 1, none⟩ = some (.int .i64 a1_1) ∧ w'.cell? ⟨gb184, 2, none⟩ = some (.int .i64 a1_2) ∧ w'.cell? ⟨gb184, 3, none⟩ = some (.int .i64 a1_3) ∧ w'.cell? ⟨gb185, 0, none⟩ = some (.int .i64 a2_0) ∧ w'.cell? ⟨gb185, 1, none⟩ = some (.int .i64 a2_1) ∧ w'.cell? ⟨gb185, 2, none⟩ = some (.int .i64 a2_2) ∧ w'.cell? ⟨gb185, 3, none⟩ = some (.int .i64 a2_3)) ∧ (w'.heap[gb183]? = some (.cells #[.bool true, .int .i64 a0_1, .int .i64 a0_2, .int .i64 a0_3, .int .i64 a0_4, .int .i64 a0_5, .int .i64 a0_6, .int .i64 a0_7] 25 (0, 0))) ∧ (w'.heap[gb184]? = some (.cells #[.int .i64 a1_0, .int .i64 a1_1, .int .i64 a1_2, .int .i64 a1_3] 27 (0, 0))) ∧ (w'.heap[gb185]? = some (.cells #[.int .i64 a2_0, .int .i64 a2_1, .int .i64 a2_2, .int .i64 a2_3] 27 (0, 0))) ∧ (w'.heap[gb186]? = some (.cells #[.int .i64 0, .int .i64 0, .int .i64 0, .int .i64 0] 27 (0, 0))) ∧ (w'.heap[gb199]? = some (.cells #[.int .i64 t191, .int .i64 t192, .int .i64 t193, .int .i64 t194] 27 (0, 0))) ∧ (w'.heap[gb200]? = some (.cells #[.int .i64 t195, .int .i64 t196, .int .i64 t197, .int .i64 t198] 27 (0, 0))) ∧ (w'.heap[s_.1]? = some (.cells #[.int .i64 0, .int .i64 0, .int .i64 0, .int .i64 0] 27 (0, 0))) ∧ (w'.heap[s_.2]? = some (.cells #[.int .i64 0, .int .i64 0, .int .i64 0, .int .i64 0] 27 (0, 0))) ∧ (w.heap.size ≤ s_.1) ∧ (w.heap.size ≤ s_.1) ∧ (gb183 ≠ s_.1) ∧ (s_.1 ≠ gb183) ∧ (gb184 ≠ s_.1) ∧ (s_.1 ≠ gb184) ∧ (gb185 ≠ s_.1) ∧ (s_.1 ≠ gb185) ∧ (gb186 ≠ s_.1) ∧ (s_.1 ≠ gb186) ∧ (gb199 ≠ s_.1) ∧ (s_.1 ≠ gb199) ∧ (gb200 ≠ s_.1) ∧ (s_.1 ≠ gb200) ∧ (s_.2 ≠ s_.1) ∧ (s_.1 ≠ s_.2) ∧ (w.heap.size ≤ s_.2) ∧ (w.heap.size ≤ s_.2) ∧ (gb183 ≠ s_.2) ∧ (s_.2 ≠ gb183) ∧ (gb184 ≠ s_.2) ∧ (s_.2 ≠ gb184) ∧ (gb185 ≠ s_.2) ∧ (s_.2 ≠ gb185) ∧ (gb186 ≠ s_.2) ∧ (s_.2 ≠ gb186) ∧ (gb199 ≠ s_.2) ∧ (s_.2 ≠ gb199) ∧ (gb200 ≠ s_.2) ∧ (s_.2 ≠ gb200) ∧ (Below w.heap.size w w')) ?_ ?_
         rotate_left
         ·intro hJ10_11
          refine join_ (σ := Unit) 5 #[true, true, true, true, true, true, true, true, true, false, false, false, false, false] (fun s_ => [(41, .agg #[.int .i64 t201, .int .i64 t202, .int .i64 t203, .int .i64 t204])]) (fun s_ w' => (w'.cell? ⟨gb183, 0, none⟩ = some (.bool true) ∧ w'.cell? ⟨gb183, 1, none⟩ = some (.int .i64 a0_1) ∧ w'.cell? ⟨gb183, 2, none⟩ = some (.int .i64 a0_2) ∧ w'.cell? ⟨gb183, 3, none⟩ = some (.int .i64 a0_3) ∧ w'.cell? ⟨gb183, 4, none⟩ = some (.int .i64 a0_4) ∧ w'.cell? ⟨gb183, 5, none⟩ = some (.int .i64 a0_5) ∧ w'.cell? ⟨gb183, 6, none⟩ = some (.int .i64 a0_6) ∧ w'.cell? ⟨gb183, 7, none⟩ = some (.int .i64 a0_7) ∧ w'.cell? ⟨gb184, 0, none⟩ = some (.int .i64 a1_0) ∧ w'.cell? ⟨gb184, 1, none⟩ = some (.int .i64 a1_1) ∧ w'.cell? ⟨gb184, 2, none⟩ = some (.int .i64 a1_2) ∧ w'.cell? ⟨gb184, 3, none⟩ = some (.int .i64 a1_3) ∧ w'.cell? ⟨gb185, 0, none⟩ = some (.int .i64 a2_0) ∧ w'.cell? ⟨gb185, 1, none⟩ = some (.int .i64 a2_1) ∧ w'.cell? ⟨gb185, 2, none⟩ = some (.int .i64 a2_2) ∧ w'.cell? ⟨gb185, 3, none⟩ = some (.int .i64 a2_3)) ∧ (w'.heap[gb183]? = some (.cells #[.bool true, .int .i64 a0_1, .int .i64 a0_2, .int .i64 a0_3, .int .i64 a0_4, .int .i64 a0_5, .int .i64 a0_6, .int .i64 a0_7] 25 (0, 0))) ∧ (w'.heap[gb184]? = some (.cells #[.int .i64 a1_0, .int .i64 a1_1, .int .i64 a1_2, .int .i64 a1_3] 27 (0, 0))) ∧ (w'.heap[gb185]? = some (.cells #[.int .i64 a2_0, .int .i64 a2_1, .int .i64 a2_2, .int .i64 a2_3] 27 (0, 0))) ∧ (w'.heap[gb186]? = some (.cells #[.int .i64 0, .int .i64 0, .int .i64 0, .int .i64 0] 27 (0, 0))) ∧ (w'.heap[gb199]? = some (.cells #[.int .i64 t191, .int .i64 t192, .int .i64 t193, .int .i64 t194] 27 (0, 0))) ∧ (w'.heap[gb200]? = some (.cells #[.int .i64 t195, .int .i64 t196, .int .i64 t197, .int .i64 t198] 27 (0, 0))) ∧ (Below w.heap.size w w')) ?_ ?_
          rotate_left
          ·intro hJ4
           refine join_ (σ := Nat) 5 #[true, true, true, true, false, true, true, true, true, false, true, false, false, false] (fun s_ => [(9, .pointer (some ⟨s_, 0, none⟩))]) (fun s_ w' => (w'.cell? ⟨gb183, 0, none⟩ = some (.bool true) ∧ w'.cell? ⟨gb183, 1, none⟩ = some (.int .i64 a0_1) ∧ w'.cell? ⟨gb183, 2, none⟩ = some (.int .i64 a0_2) ∧ w'.cell? ⟨gb183, 3, none⟩ = some (.int .i64 a0_3) ∧ w'.cell? ⟨gb183, 4, none⟩ = some (.int .i64 a0_4) ∧ w'.cell? ⟨gb183, 5, none⟩ = some (.int .i64 a0_5) ∧ w'.cell? ⟨gb183, 6, none⟩ = some (.int .i64 a0_6) ∧ w'.cell? ⟨gb183, 7, none⟩ = some (.int .i64 a0_7) ∧ w'.cell? ⟨gb184, 0, none⟩ = some (.int .i64 a1_0) ∧ w'.cell? ⟨gb184, 1, none⟩ = some (.int .i64 a1_1) ∧ w'.cell? ⟨gb184, 2, none⟩ = some (.int .i64 a1_2) ∧ w'.cell? ⟨gb184, 3, none⟩ = some (.int .i64 a1_3) ∧ w'.cell? ⟨gb185, 0, none⟩ = some (.int .i64 a2_0) ∧ w'.cell? ⟨gb185, 1, none⟩ = some (.int .i64 a2_1) ∧ w'.cell? ⟨gb185, 2, none⟩ = some (.int .i64 a2_2) ∧ w'.cell? ⟨gb185, 3, none⟩ = some (.int .i64 a2_3)) ∧ (w'.heap[gb183]? = some (.cells #[.bool true, .int .i64 a0_1, .int .i64 a0_2, .int .i64 a0_3, .int .i64 a0_4, .int .i64 a0_5, .int .i64 a0_6, .int .i64 a0_7] 25 (0, 0))) ∧ (w'.heap[gb184]? = some (.cells #[.int .i64 a1_0, .int .i64 a1_1, .int .i64 a1_2, .int .i64 a1_3] 27 (0, 0))) ∧ (w'.heap[gb185]? = some (.cells #[.int .i64 a2_0, .int .i64 a2_1, .int .i64 a2_2, .int .i64 a2_3] 27 (0, 0))) ∧ (w'.heap[gb186]? = some (.cells #[.int .i64 0, .int .i64 0, .int .i64 0, .int .i64 0] 27 (0, 0))) ∧ (w'.heap[gb199]? = some (.cells #[.int .i64 t191, .int .i64 t192, .int .i64 t193, .int .i64 t194] 27 (0, 0))) ∧ (w'.heap[gb200]? = some (.cells #[.int .i64 t195, .int .i64 t196, .int .i64 t197, .int .i64 t198] 27 (0, 0))) ∧ (w'.heap[s_]? = some (.cells #[.int .i64 0, .int .i64 0, .int .i64 0, .int .i64 0] 27 (0, 0))) ∧ (w.heap.size ≤ s_) ∧ (w.heap.size ≤ s_) ∧ (gb183 ≠ s_) ∧ (s_ ≠ gb183) ∧ (gb184 ≠ s_) ∧ (s_ ≠ gb184) ∧ (gb185 ≠ s_) ∧ (s_ ≠ gb185) ∧ (gb186 ≠ s_) ∧ (s_ ≠ gb186) ∧ (gb199 ≠ s_) ∧ (s_ ≠ gb199) ∧ (gb200 ≠ s_) ∧ (s_ ≠ gb200) ∧ (Below w.heap.size w w')) ?_ ?_
           rotate_left
           ·intro hJ10
            refine join_ (σ := Nat) 5 #[true, true, true, true, false, true, true, true, true, false, false, true, false, false] (fun s_ => [(10, .pointer (some ⟨s_, 0, none⟩))]) (fun s_ w' => (w'.cell? ⟨gb183, 0, none⟩ = some (.bool true) ∧ w'.cell? ⟨gb183, 1, none⟩ = some (.int .i64 a0_1) ∧ w'.cell? ⟨gb183, 2, none⟩ = some (.int .i64 a0_2) ∧ w'.cell? ⟨gb183, 3, none⟩ = some (.int .i64 a0_3) ∧ w'.cell? ⟨gb183, 4, none⟩ = some (.int .i64 a0_4) ∧ w'.cell? ⟨gb183, 5, none⟩ = some (.int .i64 a0_5) ∧ w'.cell? ⟨gb183, 6, none⟩ = some (.int .i64 a0_6) ∧ w'.cell? ⟨gb183, 7, none⟩ = some (.int .i64 a0_7) ∧ w'.cell? ⟨gb184, 0, none⟩ = some (.int .i64 a1_0) ∧ w'.cell? ⟨gb184, 1, none⟩ = some (.int .i64 a1_1) ∧ w'.cell? ⟨gb184, 2, none⟩ = some (.int .i64 a1_2) ∧ w'.cell? ⟨gb184, 3, none⟩ = some (.int .i64 a1_3) ∧ w'.cell? ⟨gb185, 0, none⟩ = some (.int .i64 a2_0) ∧ w'.cell? ⟨gb185, 1, none⟩ = some (.int .i64 a2_1) ∧ w'.cell? ⟨gb185, 2, none⟩ = some (.int .i64 a2_2) ∧ w'.cell? ⟨gb185, 3, none⟩ = some (.int .i64 a2_3)) ∧ (w'.heap[gb183]? = some (.cells #[.bool true, .int .i64 a0_1, .int .i64 a0_2, .int .i64 a0_3, .int .i64 a0_4, .int .i64 a0_5, .int .i64 a0_6, .int .i64 a0_7] 25 (0, 0))) ∧ (w'.heap[gb184]? = some (.cells #[.int .i64 a1_0, .int .i64 a1_1, .int .i64 a1_2, .int .i64 a1_3] 27 (0, 0))) ∧ (w'.heap[gb185]? = some (.cells #[.int .i64 a2_0, .int .i64 a2_1, .int .i64 a2_2, .int .i64 a2_3] 27 (0, 0))) ∧ (w'.heap[gb186]? = some (.cells #[.int .i64 0, .int .i64 0, .int .i64 0, .int .i64 0] 27 (0, 0))) ∧ (w'.heap[gb199]? = some (.cells #[.int .i64 t191, .int .i64 t192, .int .i64 t193, .int .i64 t194] 27 (0, 0))) ∧ (w'.heap[gb200]? = some (.cells #[.int .i64 t195, .int .i64 t196, .int .i64 t197, .int .i64 t198] 27 (0, 0))) ∧ (w'.heap[s_]? = some (.cells #[.int .i64 0, .int .i64 0, .int .i64 0, .int .i64 0] 27 (0, 0))) ∧ (w.heap.size ≤ s_) ∧ (w.heap.size ≤ s_) ∧ (gb183 ≠ s_) ∧ (s_ ≠ gb183) ∧ (gb184 ≠ s_) ∧ (s_ ≠ gb184) ∧ (gb185 ≠ s_) ∧ (s_ ≠ gb185) ∧ (gb186 ≠ s_) ∧ (s_ ≠ gb186) ∧ (gb199 ≠ s_) ∧ (s_ ≠ gb199) ∧ (gb200 ≠ s_) ∧ (s_ ≠ gb200) ∧ (Below w.heap.size w w')) ?_ ?_
            rotate_left
            ·intro hJ11
             refine three_ (i := 4) (j := 10) (k := 11) (Ni := some 41) (Nj := some 9) (Nk := some 10) #[true, true, true, true, true, true, true, true, true, false, false, false, false, false] #[true, true, true, true, false, true, true, true, true, false, true, false, false, false] #[true, true, true, true, false, true, true, true, true, false, false, true, false, false] rfl rfl rfl rfl rfl rfl (three_of HT_.out (by kernel_rfl)) (by decide) (by decide) (by decide) (fun K hK => ?_) (fun K hK => ?_) (fun K hK => ?_)
             ·skip
              refine goes_ Try.func7 (by kernel_rfl) rfl #[.int .i64 a0_4, .agg #[.int .i64 a1_0, .int .i64 a1_1, .int .i64 a1_2, .int .i64 a1_3], .agg #[.int .i64 a2_0, .int .i64 a2_1, .int .i64 a2_2, .int .i64 a2_3]] (by rfl) rfl rfl (by (try simp only [List.map_toArray, List.map_cons, List.map_nil]); first | done | rfl | (simp only [List.length_drop, List.length_take]; rfl)) ?_
              with_reducible refine (blend_Factor.calls a0_4 a1_0 a1_1 a1_2 a1_3 a2_0 a2_1 a2_2 a2_3 t201 t202 t203 t204 _ A7.out).mono ?_; rintro e w37 ⟨rfl, hb⟩; refine ⟨_, rfl, ?_⟩; replace BK183 := ub BK183 hb; replace BK184 := ub BK184 hb; replace BK185 := ub BK185 hb; replace BK186 := ub BK186 hb; replace BK199 := ub BK199 hb; replace BK200 := ub BK200 hb; replace HB := bs HB hb; (try clear hb); (try clear hb2); (try clear hk); (try clear hi)
              refine hK.out _ _ ⟨bc BK183 0, bc BK183 1, bc BK183 2, bc BK183 3, bc BK183 4, bc BK183 5, bc BK183 6, bc BK183 7, bc BK184 0, bc BK184 1, bc BK184 2, bc BK184 3, bc BK185 0, bc BK185 1, bc BK185 2, bc BK185 3⟩ (fun hHeld => ?_)
              clear hK K
              refine norm_ (a' := ?_) ?_ ?_
              rotate_left
              ·show Act.put _ (some 41) _ = _
               simp only [Act.put, List.setIfInBounds_toArray, List.set_cons_zero, List.set_cons_succ, i64_w, i32_w]
               rfl
              exact norm_ (by first | (simp only [putAll, Act.put, List.setIfInBounds_toArray, List.set_cons_zero, List.set_cons_succ]; done) | (simp only [putAll, Act.put, List.setIfInBounds_toArray, List.set_cons_zero, List.set_cons_succ]; rfl)) (hJ4 () _ ⟨hHeld, BK183.out, BK184.out, BK185.out, BK186.out, BK199.out, BK200.out, (by repeat (first | (with_reducible first | exact HB.out | apply below_alloc | apply pw_below_drewN | apply below_drew1 | refine below_setA ?_ (by assumption)) | exact HB.out))⟩)
             ·skip
              refine box_step ?hg (N := 9) ?hd (cs := #[.int .i64 0, .int .i64 0, .int .i64 0, .int .i64 0]) (t := 27) ?hr ?_; (case hd => rfl); (case hg => rfl); (case hr => first | (go_simp; done) | (go_simp; rfl))
              intro gb209 hg w37 hbox hb
              have BK209 := Aside0.mk (hbox); have GW209 := ws HB hg; have GE209 := ws HB hg; have NB183_209 := nl BK183 hg; have NB209_183 := ng BK183 hg; have NB184_209 := nl BK184 hg; have NB209_184 := ng BK184 hg; have NB185_209 := nl BK185 hg; have NB209_185 := ng BK185 hg; have NB186_209 := nl BK186 hg; have NB209_186 := ng BK186 hg; have NB199_209 := nl BK199 hg; have NB209_199 := ng BK199 hg; have NB200_209 := nl BK200 hg; have NB209_200 := ng BK200 hg; replace BK183 := ub BK183 hb; replace BK184 := ub BK184 hb; replace BK185 := ub BK185 hb; replace BK186 := ub BK186 hb; replace BK199 := ub BK199 hb; replace BK200 := ub BK200 hb; replace HB := bs HB hb; clear hb hbox hg
              refine hK.out _ _ ⟨bc BK183 0, bc BK183 1, bc BK183 2, bc BK183 3, bc BK183 4, bc BK183 5, bc BK183 6, bc BK183 7, bc BK184 0, bc BK184 1, bc BK184 2, bc BK184 3, bc BK185 0, bc BK185 1, bc BK185 2, bc BK185 3⟩ (fun hHeld => ?_)
              clear hK K
              refine norm_ (a' := ?_) ?_ ?_
              rotate_left
              ·show Act.put _ (some 9) _ = _
               simp only [Act.put, List.setIfInBounds_toArray, List.set_cons_zero, List.set_cons_succ, i64_w, i32_w]
               rfl
              exact norm_ (by first | (simp only [putAll, Act.put, List.setIfInBounds_toArray, List.set_cons_zero, List.set_cons_succ]; done) | (simp only [putAll, Act.put, List.setIfInBounds_toArray, List.set_cons_zero, List.set_cons_succ]; rfl)) (hJ10 (gb209) _ ⟨hHeld, BK183.out, BK184.out, BK185.out, BK186.out, BK199.out, BK200.out, BK209.out, GW209.out, GE209.out, NB183_209.out, NB209_183.out, NB184_209.out, NB209_184.out, NB185_209.out, NB209_185.out, NB186_209.out, NB209_186.out, NB199_209.out, NB209_199.out, NB200_209.out, NB209_200.out, (by repeat (first | (with_reducible first | exact HB.out | apply below_alloc | apply pw_below_drewN | apply below_drew1 | refine below_setA ?_ (by assumption)) | exact HB.out))⟩)
             ·skip
              refine box_step ?hg (N := 10) ?hd (cs := #[.int .i64 0, .int .i64 0, .int .i64 0, .int .i64 0]) (t := 27) ?hr ?_; (case hd => rfl); (case hg => rfl); (case hr => first | (go_simp; done) | (go_simp; rfl))
              intro gb210 hg w37 hbox hb
              have BK210 := Aside0.mk (hbox); have GW210 := ws HB hg; have GE210 := ws HB hg; have NB183_210 := nl BK183 hg; have NB210_183 := ng BK183 hg; have NB184_210 := nl BK184 hg; have NB210_184 := ng BK184 hg; have NB185_210 := nl BK185 hg; have NB210_185 := ng BK185 hg; have NB186_210 := nl BK186 hg; have NB210_186 := ng BK186 hg; have NB199_210 := nl BK199 hg; have NB210_199 := ng BK199 hg; have NB200_210 := nl BK200 hg; have NB210_200 := ng BK200 hg; replace BK183 := ub BK183 hb; replace BK184 := ub BK184 hb; replace BK185 := ub BK185 hb; replace BK186 := ub BK186 hb; replace BK199 := ub BK199 hb; replace BK200 := ub BK200 hb; replace HB := bs HB hb; clear hb hbox hg
              refine hK.out _ _ ⟨bc BK183 0, bc BK183 1, bc BK183 2, bc BK183 3, bc BK183 4, bc BK183 5, bc BK183 6, bc BK183 7, bc BK184 0, bc BK184 1, bc BK184 2, bc BK184 3, bc BK185 0, bc BK185 1, bc BK185 2, bc BK185 3⟩ (fun hHeld => ?_)
              clear hK K
              refine norm_ (a' := ?_) ?_ ?_
              rotate_left
              ·show Act.put _ (some 10) _ = _
               simp only [Act.put, List.setIfInBounds_toArray, List.set_cons_zero, List.set_cons_succ, i64_w, i32_w]
               rfl
              exact norm_ (by first | (simp only [putAll, Act.put, List.setIfInBounds_toArray, List.set_cons_zero, List.set_cons_succ]; done) | (simp only [putAll, Act.put, List.setIfInBounds_toArray, List.set_cons_zero, List.set_cons_succ]; rfl)) (hJ11 (gb210) _ ⟨hHeld, BK183.out, BK184.out, BK185.out, BK186.out, BK199.out, BK200.out, BK210.out, GW210.out, GE210.out, NB183_210.out, NB210_183.out, NB184_210.out, NB210_184.out, NB185_210.out, NB210_185.out, NB186_210.out, NB210_186.out, NB199_210.out, NB210_199.out, NB200_210.out, NB210_200.out, (by repeat (first | (with_reducible first | exact HB.out | apply below_alloc | apply pw_below_drewN | apply below_drew1 | refine below_setA ?_ (by assumption)) | exact HB.out))⟩)
            ·skip
             rintro gb210 w38 ⟨hS_, h0_, h1_, h2_, h3_, h4_, h5_, h6_, h7_, h8_, h9_, h10_, h11_, h12_, h13_, h14_, h15_, h16_, h17_, h18_, h19_, h20_, h21_⟩; have BK210 := Aside0.mk h6_; have GW210 := Aside0.mk h7_; have GE210 := Aside0.mk h8_; have NB183_210 := Aside0.mk h9_; have NB210_183 := Aside0.mk h10_; have NB184_210 := Aside0.mk h11_; have NB210_184 := Aside0.mk h12_; have NB185_210 := Aside0.mk h13_; have NB210_185 := Aside0.mk h14_; have NB186_210 := Aside0.mk h15_; have NB210_186 := Aside0.mk h16_; have NB199_210 := Aside0.mk h17_; have NB210_199 := Aside0.mk h18_; have NB200_210 := Aside0.mk h19_; have NB210_200 := Aside0.mk h20_; replace BK183 := Aside0.mk h0_; replace BK184 := Aside0.mk h1_; replace BK185 := Aside0.mk h2_; replace BK186 := Aside0.mk h3_; replace BK199 := Aside0.mk h4_; replace BK200 := Aside0.mk h5_; replace HB := Aside0.mk h21_; clear h0_ h1_ h2_ h3_ h4_ h5_ h6_ h7_ h8_ h9_ h10_ h11_ h12_ h13_ h14_ h15_ h16_ h17_ h18_ h19_ h20_ h21_; have hHeld := hS_
             refine norm_ (a' := ?_) ?_ ?_
             rotate_left
             ·simp only [putAll, Act.put, List.setIfInBounds_toArray, List.set_cons_zero, List.set_cons_succ]
              rfl
             refine two_ (i := 4) (j := 10) (Ni := some 41) (Nj := some 9) #[true, true, true, true, true, true, true, true, true, false, false, true, false, false] #[true, true, true, true, false, true, true, true, true, false, true, true, false, false] rfl rfl rfl rfl (two_of HT_.out (by kernel_rfl)) (by decide) (by decide) (fun K hK => ?_) (fun K hK => ?_)
             ·skip
              refine goes_ Try.func7 (by kernel_rfl) rfl #[.int .i64 a0_4, .agg #[.int .i64 a1_0, .int .i64 a1_1, .int .i64 a1_2, .int .i64 a1_3], .agg #[.int .i64 a2_0, .int .i64 a2_1, .int .i64 a2_2, .int .i64 a2_3]] (by rfl) rfl rfl (by (try simp only [List.map_toArray, List.map_cons, List.map_nil]); first | done | rfl | (simp only [List.length_drop, List.length_take]; rfl)) ?_
              with_reducible refine (blend_Factor.calls a0_4 a1_0 a1_1 a1_2 a1_3 a2_0 a2_1 a2_2 a2_3 t201 t202 t203 t204 _ A7.out).mono ?_; rintro e w39 ⟨rfl, hb⟩; refine ⟨_, rfl, ?_⟩; replace BK183 := ub BK183 hb; replace BK184 := ub BK184 hb; replace BK185 := ub BK185 hb; replace BK186 := ub BK186 hb; replace BK199 := ub BK199 hb; replace BK200 := ub BK200 hb; replace BK210 := ub BK210 hb; replace HB := bs HB hb; (try clear hb); (try clear hb2); (try clear hk); (try clear hi)
              refine hK.out _ _ ⟨bc BK183 0, bc BK183 1, bc BK183 2, bc BK183 3, bc BK183 4, bc BK183 5, bc BK183 6, bc BK183 7, bc BK184 0, bc BK184 1, bc BK184 2, bc BK184 3, bc BK185 0, bc BK185 1, bc BK185 2, bc BK185 3⟩ (fun hHeld => ?_)
              clear hK K
              refine norm_ (a' := ?_) ?_ ?_
              rotate_left
              ·show Act.put _ (some 41) _ = _
               simp only [Act.put, List.setIfInBounds_toArray, List.set_cons_zero, List.set_cons_succ, i64_w, i32_w]
               rfl
              exact norm_ (by first | (simp only [putAll, Act.put, List.setIfInBounds_toArray, List.set_cons_zero, List.set_cons_succ]; done) | (simp only [putAll, Act.put, List.setIfInBounds_toArray, List.set_cons_zero, List.set_cons_succ]; rfl)) (hJ4_11 (gb210) _ ⟨hHeld, BK183.out, BK184.out, BK185.out, BK186.out, BK199.out, BK200.out, BK210.out, GW210.out, GE210.out, NB183_210.out, NB210_183.out, NB184_210.out, NB210_184.out, NB185_210.out, NB210_185.out, NB186_210.out, NB210_186.out, NB199_210.out, NB210_199.out, NB200_210.out, NB210_200.out, (by repeat (first | (with_reducible first | exact HB.out | apply below_alloc | apply pw_below_drewN | apply below_drew1 | refine below_setA ?_ (by assumption)) | exact HB.out))⟩)
             ·skip
              refine box_step ?hg (N := 9) ?hd (cs := #[.int .i64 0, .int .i64 0, .int .i64 0, .int .i64 0]) (t := 27) ?hr ?_; (case hd => rfl); (case hg => rfl); (case hr => first | (go_simp; done) | (go_simp; rfl))
              intro gb209 hg w39 hbox hb
              have BK209 := Aside0.mk (hbox); have GW209 := ws HB hg; have GE209 := ws HB hg; have NB183_209 := nl BK183 hg; have NB209_183 := ng BK183 hg; have NB184_209 := nl BK184 hg; have NB209_184 := ng BK184 hg; have NB185_209 := nl BK185 hg; have NB209_185 := ng BK185 hg; have NB186_209 := nl BK186 hg; have NB209_186 := ng BK186 hg; have NB199_209 := nl BK199 hg; have NB209_199 := ng BK199 hg; have NB200_209 := nl BK200 hg; have NB209_200 := ng BK200 hg; have NB210_209 := nl BK210 hg; have NB209_210 := ng BK210 hg; replace BK183 := ub BK183 hb; replace BK184 := ub BK184 hb; replace BK185 := ub BK185 hb; replace BK186 := ub BK186 hb; replace BK199 := ub BK199 hb; replace BK200 := ub BK200 hb; replace BK210 := ub BK210 hb; replace HB := bs HB hb; clear hb hbox hg
              refine hK.out _ _ ⟨bc BK183 0, bc BK183 1, bc BK183 2, bc BK183 3, bc BK183 4, bc BK183 5, bc BK183 6, bc BK183 7, bc BK184 0, bc BK184 1, bc BK184 2, bc BK184 3, bc BK185 0, bc BK185 1, bc BK185 2, bc BK185 3⟩ (fun hHeld => ?_)
              clear hK K
              refine norm_ (a' := ?_) ?_ ?_
              rotate_left
              ·show Act.put _ (some 9) _ = _
               simp only [Act.put, List.setIfInBounds_toArray, List.set_cons_zero, List.set_cons_succ, i64_w, i32_w]
               rfl
              exact norm_ (by first | (simp only [putAll, Act.put, List.setIfInBounds_toArray, List.set_cons_zero, List.set_cons_succ]; done) | (simp only [putAll, Act.put, List.setIfInBounds_toArray, List.set_cons_zero, List.set_cons_succ]; rfl)) (hJ10_11 (gb209, gb210) _ ⟨hHeld, BK183.out, BK184.out, BK185.out, BK186.out, BK199.out, BK200.out, BK209.out, BK210.out, GW209.out, GE209.out, NB183_209.out, NB209_183.out, NB184_209.out, NB209_184.out, NB185_209.out, NB209_185.out, NB186_209.out, NB209_186.out, NB199_209.out, NB209_199.out, NB200_209.out, NB209_200.out, NB210_209.out, NB209_210.out, GW210.out, GE210.out, NB183_210.out, NB210_183.out, NB184_210.out, NB210_184.out, NB185_210.out, NB210_185.out, NB186_210.out, NB210_186.out, NB199_210.out, NB210_199.out, NB200_210.out, NB210_200.out, (by repeat (first | (with_reducible first | exact HB.out | apply below_alloc | apply pw_below_drewN | apply below_drew1 | refine below_setA ?_ (by assumption)) | exact HB.out))⟩)
           ·skip
            rintro gb209 w38 ⟨hS_, h0_, h1_, h2_, h3_, h4_, h5_, h6_, h7_, h8_, h9_, h10_, h11_, h12_, h13_, h14_, h15_, h16_, h17_, h18_, h19_, h20_, h21_⟩; have BK209 := Aside0.mk h6_; have GW209 := Aside0.mk h7_; have GE209 := Aside0.mk h8_; have NB183_209 := Aside0.mk h9_; have NB209_183 := Aside0.mk h10_; have NB184_209 := Aside0.mk h11_; have NB209_184 := Aside0.mk h12_; have NB185_209 := Aside0.mk h13_; have NB209_185 := Aside0.mk h14_; have NB186_209 := Aside0.mk h15_; have NB209_186 := Aside0.mk h16_; have NB199_209 := Aside0.mk h17_; have NB209_199 := Aside0.mk h18_; have NB200_209 := Aside0.mk h19_; have NB209_200 := Aside0.mk h20_; replace BK183 := Aside0.mk h0_; replace BK184 := Aside0.mk h1_; replace BK185 := Aside0.mk h2_; replace BK186 := Aside0.mk h3_; replace BK199 := Aside0.mk h4_; replace BK200 := Aside0.mk h5_; replace HB := Aside0.mk h21_; clear h0_ h1_ h2_ h3_ h4_ h5_ h6_ h7_ h8_ h9_ h10_ h11_ h12_ h13_ h14_ h15_ h16_ h17_ h18_ h19_ h20_ h21_; have hHeld := hS_
            refine norm_ (a' := ?_) ?_ ?_
            rotate_left
            ·simp only [putAll, Act.put, List.setIfInBounds_toArray, List.set_cons_zero, List.set_cons_succ]
             rfl
            refine two_ (i := 4) (j := 11) (Ni := some 41) (Nj := some 10) #[true, true, true, true, true, true, true, true, true, false, true, false, false, false] #[true, true, true, true, false, true, true, true, true, false, true, true, false, false] rfl rfl rfl rfl (two_of HT_.out (by kernel_rfl)) (by decide) (by decide) (fun K hK => ?_) (fun K hK => ?_)
            ·skip
             refine goes_ Try.func7 (by kernel_rfl) rfl #[.int .i64 a0_4, .agg #[.int .i64 a1_0, .int .i64 a1_1, .int .i64 a1_2, .int .i64 a1_3], .agg #[.int .i64 a2_0, .int .i64 a2_1, .int .i64 a2_2, .int .i64 a2_3]] (by rfl) rfl rfl (by (try simp only [List.map_toArray, List.map_cons, List.map_nil]); first | done | rfl | (simp only [List.length_drop, List.length_take]; rfl)) ?_
             with_reducible refine (blend_Factor.calls a0_4 a1_0 a1_1 a1_2 a1_3 a2_0 a2_1 a2_2 a2_3 t201 t202 t203 t204 _ A7.out).mono ?_; rintro e w39 ⟨rfl, hb⟩; refine ⟨_, rfl, ?_⟩; replace BK183 := ub BK183 hb; replace BK184 := ub BK184 hb; replace BK185 := ub BK185 hb; replace BK186 := ub BK186 hb; replace BK199 := ub BK199 hb; replace BK200 := ub BK200 hb; replace BK209 := ub BK209 hb; replace HB := bs HB hb; (try clear hb); (try clear hb2); (try clear hk); (try clear hi)
             refine hK.out _ _ ⟨bc BK183 0, bc BK183 1, bc BK183 2, bc BK183 3, bc BK183 4, bc BK183 5, bc BK183 6, bc BK183 7, bc BK184 0, bc BK184 1, bc BK184 2, bc BK184 3, bc BK185 0, bc BK185 1, bc BK185 2, bc BK185 3⟩ (fun hHeld => ?_)
             clear hK K
             refine norm_ (a' := ?_) ?_ ?_
             rotate_left
             ·show Act.put _ (some 41) _ = _
              simp only [Act.put, List.setIfInBounds_toArray, List.set_cons_zero, List.set_cons_succ, i64_w, i32_w]
              rfl
             exact norm_ (by first | (simp only [putAll, Act.put, List.setIfInBounds_toArray, List.set_cons_zero, List.set_cons_succ]; done) | (simp only [putAll, Act.put, List.setIfInBounds_toArray, List.set_cons_zero, List.set_cons_succ]; rfl)) (hJ4_10 (gb209) _ ⟨hHeld, BK183.out, BK184.out, BK185.out, BK186.out, BK199.out, BK200.out, BK209.out, GW209.out, GE209.out, NB183_209.out, NB209_183.out, NB184_209.out, NB209_184.out, NB185_209.out, NB209_185.out, NB186_209.out, NB209_186.out, NB199_209.out, NB209_199.out, NB200_209.out, NB209_200.out, (by repeat (first | (with_reducible first | exact HB.out | apply below_alloc | apply pw_below_drewN | apply below_drew1 | refine below_setA ?_ (by assumption)) | exact HB.out))⟩)
            ·skip
             refine box_step ?hg (N := 10) ?hd (cs := #[.int .i64 0, .int .i64 0, .int .i64 0, .int .i64 0]) (t := 27) ?hr ?_; (case hd => rfl); (case hg => rfl); (case hr => first | (go_simp; done) | (go_simp; rfl))
             intro gb210 hg w39 hbox hb
             have BK210 := Aside0.mk (hbox); have GW210 := ws HB hg; have GE210 := ws HB hg; have NB183_210 := nl BK183 hg; have NB210_183 := ng BK183 hg; have NB184_210 := nl BK184 hg; have NB210_184 := ng BK184 hg; have NB185_210 := nl BK185 hg; have NB210_185 := ng BK185 hg; have NB186_210 := nl BK186 hg; have NB210_186 := ng BK186 hg; have NB199_210 := nl BK199 hg; have NB210_199 := ng BK199 hg; have NB200_210 := nl BK200 hg; have NB210_200 := ng BK200 hg; have NB209_210 := nl BK209 hg; have NB210_209 := ng BK209 hg; replace BK183 := ub BK183 hb; replace BK184 := ub BK184 hb; replace BK185 := ub BK185 hb; replace BK186 := ub BK186 hb; replace BK199 := ub BK199 hb; replace BK200 := ub BK200 hb; replace BK209 := ub BK209 hb; replace HB := bs HB hb; clear hb hbox hg
             refine hK.out _ _ ⟨bc BK183 0, bc BK183 1, bc BK183 2, bc BK183 3, bc BK183 4, bc BK183 5, bc BK183 6, bc BK183 7, bc BK184 0, bc BK184 1, bc BK184 2, bc BK184 3, bc BK185 0, bc BK185 1, bc BK185 2, bc BK185 3⟩ (fun hHeld => ?_)
             clear hK K
             refine norm_ (a' := ?_) ?_ ?_
             rotate_left
             ·show Act.put _ (some 10) _ = _
              simp only [Act.put, List.setIfInBounds_toArray, List.set_cons_zero, List.set_cons_succ, i64_w, i32_w]
              rfl
             exact norm_ (by first | (simp only [putAll, Act.put, List.setIfInBounds_toArray, List.set_cons_zero, List.set_cons_succ]; done) | (simp only [putAll, Act.put, List.setIfInBounds_toArray, List.set_cons_zero, List.set_cons_succ]; rfl)) (hJ10_11 (gb209, gb210) _ ⟨hHeld, BK183.out, BK184.out, BK185.out, BK186.out, BK199.out, BK200.out, BK209.out, BK210.out, GW209.out, GE209.out, NB183_209.out, NB209_183.out, NB184_209.out, NB209_184.out, NB185_209.out, NB209_185.out, NB186_209.out, NB209_186.out, NB199_209.out, NB209_199.out, NB200_209.out, NB209_200.out, NB210_209.out, NB209_210.out, GW210.out, GE210.out, NB183_210.out, NB210_183.out, NB184_210.out, NB210_184.out, NB185_210.out, NB210_185.out, NB186_210.out, NB210_186.out, NB199_210.out, NB210_199.out, NB200_210.out, NB210_200.out, (by repeat (first | (with_reducible first | exact HB.out | apply below_alloc | apply pw_below_drewN | apply below_drew1 | refine below_setA ?_ (by assumption)) | exact HB.out))⟩)
          ·skip
           rintro _ w38 ⟨hS_, h0_, h1_, h2_, h3_, h4_, h5_, h6_⟩; replace BK183 := Aside0.mk h0_; replace BK184 := Aside0.mk h1_; replace BK185 := Aside0.mk h2_; replace BK186 := Aside0.mk h3_; replace BK199 := Aside0.mk h4_; replace BK200 := Aside0.mk h5_; replace HB := Aside0.mk h6_; clear h0_ h1_ h2_ h3_ h4_ h5_ h6_; have hHeld := hS_
           refine norm_ (a' := ?_) ?_ ?_
           rotate_left
           ·simp only [putAll, Act.put, List.setIfInBounds_toArray, List.set_cons_zero, List.set_cons_succ]
            rfl
           refine three_ (i := 9) (j := 10) (k := 11) (Ni := some 46) (Nj := some 9) (Nk := some 10) #[true, true, true, true, true, true, true, true, true, true, false, false, false, false] #[true, true, true, true, true, true, true, true, true, false, true, false, false, false] #[true, true, true, true, true, true, true, true, true, false, false, true, false, false] rfl rfl rfl rfl rfl rfl (three_of HT_.out (by kernel_rfl)) (by decide) (by decide) (by decide) (fun K hK => ?_) (fun K hK => ?_) (fun K hK => ?_)
           ·skip
            refine goes_ Try.func7 (by kernel_rfl) rfl #[.int .i64 a0_5, .agg #[.int .i64 a1_0, .int .i64 a1_1, .int .i64 a1_2, .int .i64 a1_3], .agg #[.int .i64 a2_0, .int .i64 a2_1, .int .i64 a2_2, .int .i64 a2_3]] (by rfl) rfl rfl (by (try simp only [List.map_toArray, List.map_cons, List.map_nil]); first | done | rfl | (simp only [List.length_drop, List.length_take]; rfl)) ?_
            with_reducible refine (blend_Factor.calls a0_5 a1_0 a1_1 a1_2 a1_3 a2_0 a2_1 a2_2 a2_3 t205 t206 t207 t208 _ A8.out).mono ?_; rintro e w39 ⟨rfl, hb⟩; refine ⟨_, rfl, ?_⟩; replace BK183 := ub BK183 hb; replace BK184 := ub BK184 hb; replace BK185 := ub BK185 hb; replace BK186 := ub BK186 hb; replace BK199 := ub BK199 hb; replace BK200 := ub BK200 hb; replace HB := bs HB hb; (try clear hb); (try clear hb2); (try clear hk); (try clear hi)
            refine hK.out _ _ ⟨bc BK183 0, bc BK183 1, bc BK183 2, bc BK183 3, bc BK183 4, bc BK183 5, bc BK183 6, bc BK183 7, bc BK184 0, bc BK184 1, bc BK184 2, bc BK184 3, bc BK185 0, bc BK185 1, bc BK185 2, bc BK185 3⟩ (fun hHeld => ?_)
            clear hK K
            refine norm_ (a' := ?_) ?_ ?_
            rotate_left
            ·show Act.put _ (some 46) _ = _
             simp only [Act.put, List.setIfInBounds_toArray, List.set_cons_zero, List.set_cons_succ, i64_w, i32_w]
             rfl
            exact norm_ (by first | (simp only [putAll, Act.put, List.setIfInBounds_toArray, List.set_cons_zero, List.set_cons_succ]; done) | (simp only [putAll, Act.put, List.setIfInBounds_toArray, List.set_cons_zero, List.set_cons_succ]; rfl)) (hJ4_9 () _ ⟨hHeld, BK183.out, BK184.out, BK185.out, BK186.out, BK199.out, BK200.out, (by repeat (first | (with_reducible first | exact HB.out | apply below_alloc | apply pw_below_drewN | apply below_drew1 | refine below_setA ?_ (by assumption)) | exact HB.out))⟩)
           ·skip
            refine box_step ?hg (N := 9) ?hd (cs := #[.int .i64 0, .int .i64 0, .int .i64 0, .int .i64 0]) (t := 27) ?hr ?_; (case hd => rfl); (case hg => rfl); (case hr => first | (go_simp; done) | (go_simp; rfl))
            intro gb209 hg w39 hbox hb
            have BK209 := Aside0.mk (hbox); have GW209 := ws HB hg; have GE209 := ws HB hg; have NB183_209 := nl BK183 hg; have NB209_183 := ng BK183 hg; have NB184_209 := nl BK184 hg; have NB209_184 := ng BK184 hg; have NB185_209 := nl BK185 hg; have NB209_185 := ng BK185 hg; have NB186_209 := nl BK186 hg; have NB209_186 := ng BK186 hg; have NB199_209 := nl BK199 hg; have NB209_199 := ng BK199 hg; have NB200_209 := nl BK200 hg; have NB209_200 := ng BK200 hg; replace BK183 := ub BK183 hb; replace BK184 := ub BK184 hb; replace BK185 := ub BK185 hb; replace BK186 := ub BK186 hb; replace BK199 := ub BK199 hb; replace BK200 := ub BK200 hb; replace HB := bs HB hb; clear hb hbox hg
            refine hK.out _ _ ⟨bc BK183 0, bc BK183 1, bc BK183 2, bc BK183 3, bc BK183 4, bc BK183 5, bc BK183 6, bc BK183 7, bc BK184 0, bc BK184 1, bc BK184 2, bc BK184 3, bc BK185 0, bc BK185 1, bc BK185 2, bc BK185 3⟩ (fun hHeld => ?_)
            clear hK K
            refine norm_ (a' := ?_) ?_ ?_
            rotate_left
            ·show Act.put _ (some 9) _ = _
             simp only [Act.put, List.setIfInBounds_toArray, List.set_cons_zero, List.set_cons_succ, i64_w, i32_w]
             rfl
            exact norm_ (by first | (simp only [putAll, Act.put, List.setIfInBounds_toArray, List.set_cons_zero, List.set_cons_succ]; done) | (simp only [putAll, Act.put, List.setIfInBounds_toArray, List.set_cons_zero, List.set_cons_succ]; rfl)) (hJ4_10 (gb209) _ ⟨hHeld, BK183.out, BK184.out, BK185.out, BK186.out, BK199.out, BK200.out, BK209.out, GW209.out, GE209.out, NB183_209.out, NB209_183.out, NB184_209.out, NB209_184.out, NB185_209.out, NB209_185.out, NB186_209.out, NB209_186.out, NB199_209.out, NB209_199.out, NB200_209.out, NB209_200.out, (by repeat (first | (with_reducible first | exact HB.out | apply below_alloc | apply pw_below_drewN | apply below_drew1 | refine below_setA ?_ (by assumption)) | exact HB.out))⟩)
           ·skip
            refine box_step ?hg (N := 10) ?hd (cs := #[.int .i64 0, .int .i64 0, .int .i64 0, .int .i64 0]) (t := 27) ?hr ?_; (case hd => rfl); (case hg => rfl); (case hr => first | (go_simp; done) | (go_simp; rfl))
            intro gb210 hg w39 hbox hb
            have BK210 := Aside0.mk (hbox); have GW210 := ws HB hg; have GE210 := ws HB hg; have NB183_210 := nl BK183 hg; have NB210_183 := ng BK183 hg; have NB184_210 := nl BK184 hg; have NB210_184 := ng BK184 hg; have NB185_210 := nl BK185 hg; have NB210_185 := ng BK185 hg; have NB186_210 := nl BK186 hg; have NB210_186 := ng BK186 hg; have NB199_210 := nl BK199 hg; have NB210_199 := ng BK199 hg; have NB200_210 := nl BK200 hg; have NB210_200 := ng BK200 hg; replace BK183 := ub BK183 hb; replace BK184 := ub BK184 hb; replace BK185 := ub BK185 hb; replace BK186 := ub BK186 hb; replace BK199 := ub BK199 hb; replace BK200 := ub BK200 hb; replace HB := bs HB hb; clear hb hbox hg
            refine hK.out _ _ ⟨bc BK183 0, bc BK183 1, bc BK183 2, bc BK183 3, bc BK183 4, bc BK183 5, bc BK183 6, bc BK183 7, bc BK184 0, bc BK184 1, bc BK184 2, bc BK184 3, bc BK185 0, bc BK185 1, bc BK185 2, bc BK185 3⟩ (fun hHeld => ?_)
            clear hK K
            refine norm_ (a' := ?_) ?_ ?_
            rotate_left
            ·show Act.put _ (some 10) _ = _
             simp only [Act.put, List.setIfInBounds_toArray, List.set_cons_zero, List.set_cons_succ, i64_w, i32_w]
             rfl
            exact norm_ (by first | (simp only [putAll, Act.put, List.setIfInBounds_toArray, List.set_cons_zero, List.set_cons_succ]; done) | (simp only [putAll, Act.put, List.setIfInBounds_toArray, List.set_cons_zero, List.set_cons_succ]; rfl)) (hJ4_11 (gb210) _ ⟨hHeld, BK183.out, BK184.out, BK185.out, BK186.out, BK199.out, BK200.out, BK210.out, GW210.out, GE210.out, NB183_210.out, NB210_183.out, NB184_210.out, NB210_184.out, NB185_210.out, NB210_185.out, NB186_210.out, NB210_186.out, NB199_210.out, NB210_199.out, NB200_210.out, NB210_200.out, (by repeat (first | (with_reducible first | exact HB.out | apply below_alloc | apply pw_below_drewN | apply below_drew1 | refine below_setA ?_ (by assumption)) | exact HB.out))⟩)
         ·skip
          rintro ⟨gb209, gb210⟩ w39 ⟨hS_, h0_, h1_, h2_, h3_, h4_, h5_, h6_, h7_, h8_, h9_, h10_, h11_, h12_, h13_, h14_, h15_, h16_, h17_, h18_, h19_, h20_, h21_, h22_, h23_, h24_, h25_, h26_, h27_, h28_, h29_, h30_, h31_, h32_, h33_, h34_, h35_, h36_, h37_, h38_⟩; have BK209 := Aside0.mk h6_; have BK210 := Aside0.mk h7_; have GW209 := Aside0.mk h8_; have GE209 := Aside0.mk h9_; have NB183_209 := Aside0.mk h10_; have NB209_183 := Aside0.mk h11_; have NB184_209 := Aside0.mk h12_; have NB209_184 := Aside0.mk h13_; have NB185_209 := Aside0.mk h14_; have NB209_185 := Aside0.mk h15_; have NB186_209 := Aside0.mk h16_; have NB209_186 := Aside0.mk h17_; have NB199_209 := Aside0.mk h18_; have NB209_199 := Aside0.mk h19_; have NB200_209 := Aside0.mk h20_; have NB209_200 := Aside0.mk h21_; have NB210_209 := Aside0.mk h22_; have NB209_210 := Aside0.mk h23_; have GW210 := Aside0.mk h24_; have GE210 := Aside0.mk h25_; have NB183_210 := Aside0.mk h26_; have NB210_183 := Aside0.mk h27_; have NB184_210 := Aside0.mk h28_; have NB210_184 := Aside0.mk h29_; have NB185_210 := Aside0.mk h30_; have NB210_185 := Aside0.mk h31_; have NB186_210 := Aside0.mk h32_; have NB210_186 := Aside0.mk h33_; have NB199_210 := Aside0.mk h34_; have NB210_199 := Aside0.mk h35_; have NB200_210 := Aside0.mk h36_; have NB210_200 := Aside0.mk h37_; replace BK183 := Aside0.mk h0_; replace BK184 := Aside0.mk h1_; replace BK185 := Aside0.mk h2_; replace BK186 := Aside0.mk h3_; replace BK199 := Aside0.mk h4_; replace BK200 := Aside0.mk h5_; replace HB := Aside0.mk h38_; clear h0_ h1_ h2_ h3_ h4_ h5_ h6_ h7_ h8_ h9_ h10_ h11_ h12_ h13_ h14_ h15_ h16_ h17_ h18_ h19_ h20_ h21_ h22_ h23_ h24_ h25_ h26_ h27_ h28_ h29_ h30_ h31_ h32_ h33_ h34_ h35_ h36_ h37_ h38_; have hHeld := hS_
          refine norm_ (a' := ?_) ?_ ?_
          rotate_left
          ·simp only [putAll, Act.put, List.setIfInBounds_toArray, List.set_cons_zero, List.set_cons_succ]
           rfl
          refine one_ (i := 4) (N := some 41) #[true, true, true, true, true, true, true, true, true, false, true, true, false, false] rfl rfl (one_of HT_.out (by kernel_rfl)) (by decide) (fun K hK => ?_)
          refine goes_ Try.func7 (by kernel_rfl) rfl #[.int .i64 a0_4, .agg #[.int .i64 a1_0, .int .i64 a1_1, .int .i64 a1_2, .int .i64 a1_3], .agg #[.int .i64 a2_0, .int .i64 a2_1, .int .i64 a2_2, .int .i64 a2_3]] (by rfl) rfl rfl (by (try simp only [List.map_toArray, List.map_cons, List.map_nil]); first | done | rfl | (simp only [List.length_drop, List.length_take]; rfl)) ?_
          with_reducible refine (blend_Factor.calls a0_4 a1_0 a1_1 a1_2 a1_3 a2_0 a2_1 a2_2 a2_3 t201 t202 t203 t204 _ A7.out).mono ?_; rintro e w40 ⟨rfl, hb⟩; refine ⟨_, rfl, ?_⟩; replace BK183 := ub BK183 hb; replace BK184 := ub BK184 hb; replace BK185 := ub BK185 hb; replace BK186 := ub BK186 hb; replace BK199 := ub BK199 hb; replace BK200 := ub BK200 hb; replace BK209 := ub BK209 hb; replace BK210 := ub BK210 hb; replace HB := bs HB hb; (try clear hb); (try clear hb2); (try clear hk); (try clear hi)
          refine hK.out _ _ ⟨bc BK183 0, bc BK183 1, bc BK183 2, bc BK183 3, bc BK183 4, bc BK183 5, bc BK183 6, bc BK183 7, bc BK184 0, bc BK184 1, bc BK184 2, bc BK184 3, bc BK185 0, bc BK185 1, bc BK185 2, bc BK185 3⟩ (fun hHeld => ?_)
          clear hK K
          refine norm_ (a' := ?_) ?_ ?_
          rotate_left
          ·show Act.put _ (some 41) _ = _
           simp only [Act.put, List.setIfInBounds_toArray, List.set_cons_zero, List.set_cons_succ, i64_w, i32_w]
           rfl
          exact norm_ (by first | (simp only [putAll, Act.put, List.setIfInBounds_toArray, List.set_cons_zero, List.set_cons_succ]; done) | (simp only [putAll, Act.put, List.setIfInBounds_toArray, List.set_cons_zero, List.set_cons_succ]; rfl)) (hJ4_10_11 (gb209, gb210) _ ⟨hHeld, BK183.out, BK184.out, BK185.out, BK186.out, BK199.out, BK200.out, BK209.out, BK210.out, GW209.out, GE209.out, NB183_209.out, NB209_183.out, NB184_209.out, NB209_184.out, NB185_209.out, NB209_185.out, NB186_209.out, NB209_186.out, NB199_209.out, NB209_199.out, NB200_209.out, NB209_200.out, NB210_209.out, NB209_210.out, GW210.out, GE210.out, NB183_210.out, NB210_183.out, NB184_210.out, NB210_184.out, NB185_210.out, NB210_185.out, NB186_210.out, NB210_186.out, NB199_210.out, NB210_199.out, NB200_210.out, NB210_200.out, (by repeat (first | (with_reducible first | exact HB.out | apply below_alloc | apply pw_below_drewN | apply below_drew1 | refine below_setA ?_ (by assumption)) | exact HB.out))⟩)
        ·skip
         rintro gb210 w39 ⟨hS_, h0_, h1_, h2_, h3_, h4_, h5_, h6_, h7_, h8_, h9_, h10_, h11_, h12_, h13_, h14_, h15_, h16_, h17_, h18_, h19_, h20_, h21_⟩; have BK210 := Aside0.mk h6_; have GW210 := Aside0.mk h7_; have GE210 := Aside0.mk h8_; have NB183_210 := Aside0.mk h9_; have NB210_183 := Aside0.mk h10_; have NB184_210 := Aside0.mk h11_; have NB210_184 := Aside0.mk h12_; have NB185_210 := Aside0.mk h13_; have NB210_185 := Aside0.mk h14_; have NB186_210 := Aside0.mk h15_; have NB210_186 := Aside0.mk h16_; have NB199_210 := Aside0.mk h17_; have NB210_199 := Aside0.mk h18_; have NB200_210 := Aside0.mk h19_; have NB210_200 := Aside0.mk h20_; replace BK183 := Aside0.mk h0_; replace BK184 := Aside0.mk h1_; replace BK185 := Aside0.mk h2_; replace BK186 := Aside0.mk h3_; replace BK199 := Aside0.mk h4_; replace BK200 := Aside0.mk h5_; replace HB := Aside0.mk h21_; clear h0_ h1_ h2_ h3_ h4_ h5_ h6_ h7_ h8_ h9_ h10_ h11_ h12_ h13_ h14_ h15_ h16_ h17_ h18_ h19_ h20_ h21_; have hHeld := hS_
         refine norm_ (a' := ?_) ?_ ?_
         rotate_left
         ·simp only [putAll, Act.put, List.setIfInBounds_toArray, List.set_cons_zero, List.set_cons_succ]
          rfl
         refine two_ (i := 9) (j := 10) (Ni := some 46) (Nj := some 9) #[true, true, true, true, true, true, true, true, true, true, false, true, false, false] #[true, true, true, true, true, true, true, true, true, false, true, true, false, false] rfl rfl rfl rfl (two_of HT_.out (by kernel_rfl)) (by decide) (by decide) (fun K hK => ?_) (fun K hK => ?_)
         ·skip
          refine goes_ Try.func7 (by kernel_rfl) rfl #[.int .i64 a0_5, .agg #[.int .i64 a1_0, .int .i64 a1_1, .int .i64 a1_2, .int .i64 a1_3], .agg #[.int .i64 a2_0, .int .i64 a2_1, .int .i64 a2_2, .int .i64 a2_3]] (by rfl) rfl rfl (by (try simp only [List.map_toArray, List.map_cons, List.map_nil]); first | done | rfl | (simp only [List.length_drop, List.length_take]; rfl)) ?_
          with_reducible refine (blend_Factor.calls a0_5 a1_0 a1_1 a1_2 a1_3 a2_0 a2_1 a2_2 a2_3 t205 t206 t207 t208 _ A8.out).mono ?_; rintro e w40 ⟨rfl, hb⟩; refine ⟨_, rfl, ?_⟩; replace BK183 := ub BK183 hb; replace BK184 := ub BK184 hb; replace BK185 := ub BK185 hb; replace BK186 := ub BK186 hb; replace BK199 := ub BK199 hb; replace BK200 := ub BK200 hb; replace BK210 := ub BK210 hb; replace HB := bs HB hb; (try clear hb); (try clear hb2); (try clear hk); (try clear hi)
          refine hK.out _ _ ⟨bc BK183 0, bc BK183 1, bc BK183 2, bc BK183 3, bc BK183 4, bc BK183 5, bc BK183 6, bc BK183 7, bc BK184 0, bc BK184 1, bc BK184 2, bc BK184 3, bc BK185 0, bc BK185 1, bc BK185 2, bc BK185 3⟩ (fun hHeld => ?_)
          clear hK K
          refine norm_ (a' := ?_) ?_ ?_
          rotate_left
          ·show Act.put _ (some 46) _ = _
           simp only [Act.put, List.setIfInBounds_toArray, List.set_cons_zero, List.set_cons_succ, i64_w, i32_w]
           rfl
          exact norm_ (by first | (simp only [putAll, Act.put, List.setIfInBounds_toArray, List.set_cons_zero, List.set_cons_succ]; done) | (simp only [putAll, Act.put, List.setIfInBounds_toArray, List.set_cons_zero, List.set_cons_succ]; rfl)) (hJ4_9_11 (gb210) _ ⟨hHeld, BK183.out, BK184.out, BK185.out, BK186.out, BK199.out, BK200.out, BK210.out, GW210.out, GE210.out, NB183_210.out, NB210_183.out, NB184_210.out, NB210_184.out, NB185_210.out, NB210_185.out, NB186_210.out, NB210_186.out, NB199_210.out, NB210_199.out, NB200_210.out, NB210_200.out, (by repeat (first | (with_reducible first | exact HB.out | apply below_alloc | apply pw_below_drewN | apply below_drew1 | refine below_setA ?_ (by assumption)) | exact HB.out))⟩)
         ·skip
          refine box_step ?hg (N := 9) ?hd (cs := #[.int .i64 0, .int .i64 0, .int .i64 0, .int .i64 0]) (t := 27) ?hr ?_; (case hd => rfl); (case hg => rfl); (case hr => first | (go_simp; done) | (go_simp; rfl))
          intro gb209 hg w40 hbox hb
          have BK209 := Aside0.mk (hbox); have GW209 := ws HB hg; have GE209 := ws HB hg; have NB183_209 := nl BK183 hg; have NB209_183 := ng BK183 hg; have NB184_209 := nl BK184 hg; have NB209_184 := ng BK184 hg; have NB185_209 := nl BK185 hg; have NB209_185 := ng BK185 hg; have NB186_209 := nl BK186 hg; have NB209_186 := ng BK186 hg; have NB199_209 := nl BK199 hg; have NB209_199 := ng BK199 hg; have NB200_209 := nl BK200 hg; have NB209_200 := ng BK200 hg; have NB210_209 := nl BK210 hg; have NB209_210 := ng BK210 hg; replace BK183 := ub BK183 hb; replace BK184 := ub BK184 hb; replace BK185 := ub BK185 hb; replace BK186 := ub BK186 hb; replace BK199 := ub BK199 hb; replace BK200 := ub BK200 hb; replace BK210 := ub BK210 hb; replace HB := bs HB hb; clear hb hbox hg
          refine hK.out _ _ ⟨bc BK183 0, bc BK183 1, bc BK183 2, bc BK183 3, bc BK183 4, bc BK183 5, bc BK183 6, bc BK183 7, bc BK184 0, bc BK184 1, bc BK184 2, bc BK184 3, bc BK185 0, bc BK185 1, bc BK185 2, bc BK185 3⟩ (fun hHeld => ?_)
          clear hK K
          refine norm_ (a' := ?_) ?_ ?_
          rotate_left
          ·show Act.put _ (some 9) _ = _
           simp only [Act.put, List.setIfInBounds_toArray, List.set_cons_zero, List.set_cons_succ, i64_w, i32_w]
           rfl
          exact norm_ (by first | (simp only [putAll, Act.put, List.setIfInBounds_toArray, List.set_cons_zero, List.set_cons_succ]; done) | (simp only [putAll, Act.put, List.setIfInBounds_toArray, List.set_cons_zero, List.set_cons_succ]; rfl)) (hJ4_10_11 (gb209, gb210) _ ⟨hHeld, BK183.out, BK184.out, BK185.out, BK186.out, BK199.out, BK200.out, BK209.out, BK210.out, GW209.out, GE209.out, NB183_209.out, NB209_183.out, NB184_209.out, NB209_184.out, NB185_209.out, NB209_185.out, NB186_209.out, NB209_186.out, NB199_209.out, NB209_199.out, NB200_209.out, NB209_200.out, NB210_209.out, NB209_210.out, GW210.out, GE210.out, NB183_210.out, NB210_183.out, NB184_210.out, NB210_184.out, NB185_210.out, NB210_185.out, NB186_210.out, NB210_186.out, NB199_210.out, NB210_199.out, NB200_210.out, NB210_200.out, (by repeat (first | (with_reducible first | exact HB.out | apply below_alloc | apply pw_below_drewN | apply below_drew1 | refine below_setA ?_ (by assumption)) | exact HB.out))⟩)
       ·skip
        rintro gb209 w39 ⟨hS_, h0_, h1_, h2_, h3_, h4_, h5_, h6_, h7_, h8_, h9_, h10_, h11_, h12_, h13_, h14_, h15_, h16_, h17_, h18_, h19_, h20_, h21_⟩; have BK209 := Aside0.mk h6_; have GW209 := Aside0.mk h7_; have GE209 := Aside0.mk h8_; have NB183_209 := Aside0.mk h9_; have NB209_183 := Aside0.mk h10_; have NB184_209 := Aside0.mk h11_; have NB209_184 := Aside0.mk h12_; have NB185_209 := Aside0.mk h13_; have NB209_185 := Aside0.mk h14_; have NB186_209 := Aside0.mk h15_; have NB209_186 := Aside0.mk h16_; have NB199_209 := Aside0.mk h17_; have NB209_199 := Aside0.mk h18_; have NB200_209 := Aside0.mk h19_; have NB209_200 := Aside0.mk h20_; replace BK183 := Aside0.mk h0_; replace BK184 := Aside0.mk h1_; replace BK185 := Aside0.mk h2_; replace BK186 := Aside0.mk h3_; replace BK199 := Aside0.mk h4_; replace BK200 := Aside0.mk h5_; replace HB := Aside0.mk h21_; clear h0_ h1_ h2_ h3_ h4_ h5_ h6_ h7_ h8_ h9_ h10_ h11_ h12_ h13_ h14_ h15_ h16_ h17_ h18_ h19_ h20_ h21_; have hHeld := hS_
        refine norm_ (a' := ?_) ?_ ?_
        rotate_left
        ·simp only [putAll, Act.put, List.setIfInBounds_toArray, List.set_cons_zero, List.set_cons_succ]
         rfl
        refine two_ (i := 9) (j := 11) (Ni := some 46) (Nj := some 10) #[true, true, true, true, true, true, true, true, true, true, true, false, false, false] #[true, true, true, true, true, true, true, true, true, false, true, true, false, false] rfl rfl rfl rfl (two_of HT_.out (by kernel_rfl)) (by decide) (by decide) (fun K hK => ?_) (fun K hK => ?_)
        ·skip
         refine goes_ Try.func7 (by kernel_rfl) rfl #[.int .i64 a0_5, .agg #[.int .i64 a1_0, .int .i64 a1_1, .int .i64 a1_2, .int .i64 a1_3], .agg #[.int .i64 a2_0, .int .i64 a2_1, .int .i64 a2_2, .int .i64 a2_3]] (by rfl) rfl rfl (by (try simp only [List.map_toArray, List.map_cons, List.map_nil]); first | done | rfl | (simp only [List.length_drop, List.length_take]; rfl)) ?_
         with_reducible refine (blend_Factor.calls a0_5 a1_0 a1_1 a1_2 a1_3 a2_0 a2_1 a2_2 a2_3 t205 t206 t207 t208 _ A8.out).mono ?_; rintro e w40 ⟨rfl, hb⟩; refine ⟨_, rfl, ?_⟩; replace BK183 := ub BK183 hb; replace BK184 := ub BK184 hb; replace BK185 := ub BK185 hb; replace BK186 := ub BK186 hb; replace BK199 := ub BK199 hb; replace BK200 := ub BK200 hb; replace BK209 := ub BK209 hb; replace HB := bs HB hb; (try clear hb); (try clear hb2); (try clear hk); (try clear hi)
         refine hK.out _ _ ⟨bc BK183 0, bc BK183 1, bc BK183 2, bc BK183 3, bc BK183 4, bc BK183 5, bc BK183 6, bc BK183 7, bc BK184 0, bc BK184 1, bc BK184 2, bc BK184 3, bc BK185 0, bc BK185 1, bc BK185 2, bc BK185 3⟩ (fun hHeld => ?_)
         clear hK K
         refine norm_ (a' := ?_) ?_ ?_
         rotate_left
         ·show Act.put _ (some 46) _ = _
          simp only [Act.put, List.setIfInBounds_toArray, List.set_cons_zero, List.set_cons_succ, i64_w, i32_w]
          rfl
         exact norm_ (by first | (simp only [putAll, Act.put, List.setIfInBounds_toArray, List.set_cons_zero, List.set_cons_succ]; done) | (simp only [putAll, Act.put, List.setIfInBounds_toArray, List.set_cons_zero, List.set_cons_succ]; rfl)) (hJ4_9_10 (gb209) _ ⟨hHeld, BK183.out, BK184.out, BK185.out, BK186.out, BK199.out, BK200.out, BK209.out, GW209.out, GE209.out, NB183_209.out, NB209_183.out, NB184_209.out, NB209_184.out, NB185_209.out, NB209_185.out, NB186_209.out, NB209_186.out, NB199_209.out, NB209_199.out, NB200_209.out, NB209_200.out, (by repeat (first | (with_reducible first | exact HB.out | apply below_alloc | apply pw_below_drewN | apply below_drew1 | refine below_setA ?_ (by assumption)) | exact HB.out))⟩)
        ·skip
         refine box_step ?hg (N := 10) ?hd (cs := #[.int .i64 0, .int .i64 0, .int .i64 0, .int .i64 0]) (t := 27) ?hr ?_; (case hd => rfl); (case hg => rfl); (case hr => first | (go_simp; done) | (go_simp; rfl))
         intro gb210 hg w40 hbox hb
         have BK210 := Aside0.mk (hbox); have GW210 := ws HB hg; have GE210 := ws HB hg; have NB183_210 := nl BK183 hg; have NB210_183 := ng BK183 hg; have NB184_210 := nl BK184 hg; have NB210_184 := ng BK184 hg; have NB185_210 := nl BK185 hg; have NB210_185 := ng BK185 hg; have NB186_210 := nl BK186 hg; have NB210_186 := ng BK186 hg; have NB199_210 := nl BK199 hg; have NB210_199 := ng BK199 hg; have NB200_210 := nl BK200 hg; have NB210_200 := ng BK200 hg; have NB209_210 := nl BK209 hg; have NB210_209 := ng BK209 hg; replace BK183 := ub BK183 hb; replace BK184 := ub BK184 hb; replace BK185 := ub BK185 hb; replace BK186 := ub BK186 hb; replace BK199 := ub BK199 hb; replace BK200 := ub BK200 hb; replace BK209 := ub BK209 hb; replace HB := bs HB hb; clear hb hbox hg
         refine hK.out _ _ ⟨bc BK183 0, bc BK183 1, bc BK183 2, bc BK183 3, bc BK183 4, bc BK183 5, bc BK183 6, bc BK183 7, bc BK184 0, bc BK184 1, bc BK184 2, bc BK184 3, bc BK185 0, bc BK185 1, bc BK185 2, bc BK185 3⟩ (fun hHeld => ?_)
         clear hK K
         refine norm_ (a' := ?_) ?_ ?_
         rotate_left
         ·show Act.put _ (some 10) _ = _
          simp only [Act.put, List.setIfInBounds_toArray, List.set_cons_zero, List.set_cons_succ, i64_w, i32_w]
          rfl
         exact norm_ (by first | (simp only [putAll, Act.put, List.setIfInBounds_toArray, List.set_cons_zero, List.set_cons_succ]; done) | (simp only [putAll, Act.put, List.setIfInBounds_toArray, List.set_cons_zero, List.set_cons_succ]; rfl)) (hJ4_10_11 (gb209, gb210) _ ⟨hHeld, BK183.out, BK184.out, BK185.out, BK186.out, BK199.out, BK200.out, BK209.out, BK210.out, GW209.out, GE209.out, NB183_209.out, NB209_183.out, NB184_209.out, NB209_184.out, NB185_209.out, NB209_185.out, NB186_209.out, NB209_186.out, NB199_209.out, NB209_199.out, NB200_209.out, NB209_200.out, NB210_209.out, NB209_210.out, GW210.out, GE210.out, NB183_210.out, NB210_183.out, NB184_210.out, NB210_184.out, NB185_210.out, NB210_185.out, NB186_210.out, NB210_186.out, NB199_210.out, NB210_199.out, NB200_210.out, NB210_200.out, (by repeat (first | (with_reducible first | exact HB.out | apply below_alloc | apply pw_below_drewN | apply below_drew1 | refine below_setA ?_ (by assumption)) | exact HB.out))⟩)
      ·skip
       rintro _ w39 ⟨hS_, h0_, h1_, h2_, h3_, h4_, h5_, h6_⟩; replace BK183 := Aside0.mk h0_; replace BK184 := Aside0.mk h1_; replace BK185 := Aside0.mk h2_; replace BK186 := Aside0.mk h3_; replace BK199 := Aside0.mk h4_; replace BK200 := Aside0.mk h5_; replace HB := Aside0.mk h6_; clear h0_ h1_ h2_ h3_ h4_ h5_ h6_; have hHeld := hS_
       refine norm_ (a' := ?_) ?_ ?_
       rotate_left
       ·simp only [putAll, Act.put, List.setIfInBounds_toArray, List.set_cons_zero, List.set_cons_succ]
        rfl
       refine two_ (i := 10) (j := 11) (Ni := some 9) (Nj := some 10) #[true, true, true, true, true, true, true, true, true, true, true, false, false, false] #[true, true, true, true, true, true, true, true, true, true, false, true, false, false] rfl rfl rfl rfl (two_of HT_.out (by kernel_rfl)) (by decide) (by decide) (fun K hK => ?_) (fun K hK => ?_)
       ·skip
        refine box_step ?hg (N := 9) ?hd (cs := #[.int .i64 0, .int .i64 0, .int .i64 0, .int .i64 0]) (t := 27) ?hr ?_; (case hd => rfl); (case hg => rfl); (case hr => first | (go_simp; done) | (go_simp; rfl))
        intro gb209 hg w40 hbox hb
        have BK209 := Aside0.mk (hbox); have GW209 := ws HB hg; have GE209 := ws HB hg; have NB183_209 := nl BK183 hg; have NB209_183 := ng BK183 hg; have NB184_209 := nl BK184 hg; have NB209_184 := ng BK184 hg; have NB185_209 := nl BK185 hg; have NB209_185 := ng BK185 hg; have NB186_209 := nl BK186 hg; have NB209_186 := ng BK186 hg; have NB199_209 := nl BK199 hg; have NB209_199 := ng BK199 hg; have NB200_209 := nl BK200 hg; have NB209_200 := ng BK200 hg; replace BK183 := ub BK183 hb; replace BK184 := ub BK184 hb; replace BK185 := ub BK185 hb; replace BK186 := ub BK186 hb; replace BK199 := ub BK199 hb; replace BK200 := ub BK200 hb; replace HB := bs HB hb; clear hb hbox hg
        refine hK.out _ _ ⟨bc BK183 0, bc BK183 1, bc BK183 2, bc BK183 3, bc BK183 4, bc BK183 5, bc BK183 6, bc BK183 7, bc BK184 0, bc BK184 1, bc BK184 2, bc BK184 3, bc BK185 0, bc BK185 1, bc BK185 2, bc BK185 3⟩ (fun hHeld => ?_)
        clear hK K
        refine norm_ (a' := ?_) ?_ ?_
        rotate_left
        ·show Act.put _ (some 9) _ = _
         simp only [Act.put, List.setIfInBounds_toArray, List.set_cons_zero, List.set_cons_succ, i64_w, i32_w]
         rfl
        exact norm_ (by first | (simp only [putAll, Act.put, List.setIfInBounds_toArray, List.set_cons_zero, List.set_cons_succ]; done) | (simp only [putAll, Act.put, List.setIfInBounds_toArray, List.set_cons_zero, List.set_cons_succ]; rfl)) (hJ4_9_10 (gb209) _ ⟨hHeld, BK183.out, BK184.out, BK185.out, BK186.out, BK199.out, BK200.out, BK209.out, GW209.out, GE209.out, NB183_209.out, NB209_183.out, NB184_209.out, NB209_184.out, NB185_209.out, NB209_185.out, NB186_209.out, NB209_186.out, NB199_209.out, NB209_199.out, NB200_209.out, NB209_200.out, (by repeat (first | (with_reducible first | exact HB.out | apply below_alloc | apply pw_below_drewN | apply below_drew1 | refine below_setA ?_ (by assumption)) | exact HB.out))⟩)
       ·skip
        refine box_step ?hg (N := 10) ?hd (cs := #[.int .i64 0, .int .i64 0, .int .i64 0, .int .i64 0]) (t := 27) ?hr ?_; (case hd => rfl); (case hg => rfl); (case hr => first | (go_simp; done) | (go_simp; rfl))
        intro gb210 hg w40 hbox hb
        have BK210 := Aside0.mk (hbox); have GW210 := ws HB hg; have GE210 := ws HB hg; have NB183_210 := nl BK183 hg; have NB210_183 := ng BK183 hg; have NB184_210 := nl BK184 hg; have NB210_184 := ng BK184 hg; have NB185_210 := nl BK185 hg; have NB210_185 := ng BK185 hg; have NB186_210 := nl BK186 hg; have NB210_186 := ng BK186 hg; have NB199_210 := nl BK199 hg; have NB210_199 := ng BK199 hg; have NB200_210 := nl BK200 hg; have NB210_200 := ng BK200 hg; replace BK183 := ub BK183 hb; replace BK184 := ub BK184 hb; replace BK185 := ub BK185 hb; replace BK186 := ub BK186 hb; replace BK199 := ub BK199 hb; replace BK200 := ub BK200 hb; replace HB := bs HB hb; clear hb hbox hg
        refine hK.out _ _ ⟨bc BK183 0, bc BK183 1, bc BK183 2, bc BK183 3, bc BK183 4, bc BK183 5, bc BK183 6, bc BK183 7, bc BK184 0, bc BK184 1, bc BK184 2, bc BK184 3, bc BK185 0, bc BK185 1, bc BK185 2, bc BK185 3⟩ (fun hHeld => ?_)
        clear hK K
        refine norm_ (a' := ?_) ?_ ?_
        rotate_left
        ·show Act.put _ (some 10) _ = _
         simp only [Act.put, List.setIfInBounds_toArray, List.set_cons_zero, List.set_cons_succ, i64_w, i32_w]
         rfl
        exact norm_ (by first | (simp only [putAll, Act.put, List.setIfInBounds_toArray, List.set_cons_zero, List.set_cons_succ]; done) | (simp only [putAll, Act.put, List.setIfInBounds_toArray, List.set_cons_zero, List.set_cons_succ]; rfl)) (hJ4_9_11 (gb210) _ ⟨hHeld, BK183.out, BK184.out, BK185.out, BK186.out, BK199.out, BK200.out, BK210.out, GW210.out, GE210.out, NB183_210.out, NB210_183.out, NB184_210.out, NB210_184.out, NB185_210.out, NB210_185.out, NB186_210.out, NB210_186.out, NB199_210.out, NB210_199.out, NB200_210.out, NB210_200.out, (by repeat (first | (with_reducible first | exact HB.out | apply below_alloc | apply pw_below_drewN | apply below_drew1 | refine below_setA ?_ (by assumption)) | exact HB.out))⟩)
     ·skip
      rintro ⟨gb209, gb210⟩ w40 ⟨hS_, h0_, h1_, h2_, h3_, h4_, h5_, h6_, h7_, h8_, h9_, h10_, h11_, h12_, h13_, h14_, h15_, h16_, h17_, h18_, h19_, h20_, h21_, h22_, h23_, h24_, h25_, h26_, h27_, h28_, h29_, h30_, h31_, h32_, h33_, h34_, h35_, h36_, h37_, h38_⟩; have BK209 := Aside0.mk h6_; have BK210 := Aside0.mk h7_; have GW209 := Aside0.mk h8_; have GE209 := Aside0.mk h9_; have NB183_209 := Aside0.mk h10_; have NB209_183 := Aside0.mk h11_; have NB184_209 := Aside0.mk h12_; have NB209_184 := Aside0.mk h13_; have NB185_209 := Aside0.mk h14_; have NB209_185 := Aside0.mk h15_; have NB186_209 := Aside0.mk h16_; have NB209_186 := Aside0.mk h17_; have NB199_209 := Aside0.mk h18_; have NB209_199 := Aside0.mk h19_; have NB200_209 := Aside0.mk h20_; have NB209_200 := Aside0.mk h21_; have NB210_209 := Aside0.mk h22_; have NB209_210 := Aside0.mk h23_; have GW210 := Aside0.mk h24_; have GE210 := Aside0.mk h25_; have NB183_210 := Aside0.mk h26_; have NB210_183 := Aside0.mk h27_; have NB184_210 := Aside0.mk h28_; have NB210_184 := Aside0.mk h29_; have NB185_210 := Aside0.mk h30_; have NB210_185 := Aside0.mk h31_; have NB186_210 := Aside0.mk h32_; have NB210_186 := Aside0.mk h33_; have NB199_210 := Aside0.mk h34_; have NB210_199 := Aside0.mk h35_; have NB200_210 := Aside0.mk h36_; have NB210_200 := Aside0.mk h37_; replace BK183 := Aside0.mk h0_; replace BK184 := Aside0.mk h1_; replace BK185 := Aside0.mk h2_; replace BK186 := Aside0.mk h3_; replace BK199 := Aside0.mk h4_; replace BK200 := Aside0.mk h5_; replace HB := Aside0.mk h38_; clear h0_ h1_ h2_ h3_ h4_ h5_ h6_ h7_ h8_ h9_ h10_ h11_ h12_ h13_ h14_ h15_ h16_ h17_ h18_ h19_ h20_ h21_ h22_ h23_ h24_ h25_ h26_ h27_ h28_ h29_ h30_ h31_ h32_ h33_ h34_ h35_ h36_ h37_ h38_; have hHeld := hS_
      refine norm_ (a' := ?_) ?_ ?_
      rotate_left
      ·simp only [putAll, Act.put, List.setIfInBounds_toArray, List.set_cons_zero, List.set_cons_succ]
       rfl
      refine one_ (i := 9) (N := some 46) #[true, true, true, true, true, true, true, true, true, true, true, true, false, false] rfl rfl (one_of HT_.out (by kernel_rfl)) (by decide) (fun K hK => ?_)
      refine goes_ Try.func7 (by kernel_rfl) rfl #[.int .i64 a0_5, .agg #[.int .i64 a1_0, .int .i64 a1_1, .int .i64 a1_2, .int .i64 a1_3], .agg #[.int .i64 a2_0, .int .i64 a2_1, .int .i64 a2_2, .int .i64 a2_3]] (by rfl) rfl rfl (by (try simp only [List.map_toArray, List.map_cons, List.map_nil]); first | done | rfl | (simp only [List.length_drop, List.length_take]; rfl)) ?_
      with_reducible refine (blend_Factor.calls a0_5 a1_0 a1_1 a1_2 a1_3 a2_0 a2_1 a2_2 a2_3 t205 t206 t207 t208 _ A8.out).mono ?_; rintro e w41 ⟨rfl, hb⟩; refine ⟨_, rfl, ?_⟩; replace BK183 := ub BK183 hb; replace BK184 := ub BK184 hb; replace BK185 := ub BK185 hb; replace BK186 := ub BK186 hb; replace BK199 := ub BK199 hb; replace BK200 := ub BK200 hb; replace BK209 := ub BK209 hb; replace BK210 := ub BK210 hb; replace HB := bs HB hb; (try clear hb); (try clear hb2); (try clear hk); (try clear hi)
      refine hK.out _ _ ⟨bc BK183 0, bc BK183 1, bc BK183 2, bc BK183 3, bc BK183 4, bc BK183 5, bc BK183 6, bc BK183 7, bc BK184 0, bc BK184 1, bc BK184 2, bc BK184 3, bc BK185 0, bc BK185 1, bc BK185 2, bc BK185 3⟩ (fun hHeld => ?_)
      clear hK K
      refine norm_ (a' := ?_) ?_ ?_
      rotate_left
      ·show Act.put _ (some 46) _ = _
       simp only [Act.put, List.setIfInBounds_toArray, List.set_cons_zero, List.set_cons_succ, i64_w, i32_w]
       rfl
      exact norm_ (by first | (simp only [putAll, Act.put, List.setIfInBounds_toArray, List.set_cons_zero, List.set_cons_succ]; done) | (simp only [putAll, Act.put, List.setIfInBounds_toArray, List.set_cons_zero, List.set_cons_succ]; rfl)) (hJ4_9_10_11 (gb209, gb210) _ ⟨hHeld, BK183.out, BK184.out, BK185.out, BK186.out, BK199.out, BK200.out, BK209.out, BK210.out, GW209.out, GE209.out, NB183_209.out, NB209_183.out, NB184_209.out, NB209_184.out, NB185_209.out, NB209_185.out, NB186_209.out, NB209_186.out, NB199_209.out, NB209_199.out, NB200_209.out, NB209_200.out, NB210_209.out, NB209_210.out, GW210.out, GE210.out, NB183_210.out, NB210_183.out, NB184_210.out, NB210_184.out, NB185_210.out, NB210_185.out, NB186_210.out, NB210_186.out, NB199_210.out, NB210_199.out, NB200_210.out, NB210_200.out, (by repeat (first | (with_reducible first | exact HB.out | apply below_alloc | apply pw_below_drewN | apply below_drew1 | refine below_setA ?_ (by assumption)) | exact HB.out))⟩)
    ·skip
     rintro gb210 w40 ⟨hS_, h0_, h1_, h2_, h3_, h4_, h5_, h6_, h7_, h8_, h9_, h10_, h11_, h12_, h13_, h14_, h15_, h16_, h17_, h18_, h19_, h20_, h21_⟩; have BK210 := Aside0.mk h6_; have GW210 := Aside0.mk h7_; have GE210 := Aside0.mk h8_; have NB183_210 := Aside0.mk h9_; have NB210_183 := Aside0.mk h10_; have NB184_210 := Aside0.mk h11_; have NB210_184 := Aside0.mk h12_; have NB185_210 := Aside0.mk h13_; have NB210_185 := Aside0.mk h14_; have NB186_210 := Aside0.mk h15_; have NB210_186 := Aside0.mk h16_; have NB199_210 := Aside0.mk h17_; have NB210_199 := Aside0.mk h18_; have NB200_210 := Aside0.mk h19_; have NB210_200 := Aside0.mk h20_; replace BK183 := Aside0.mk h0_; replace BK184 := Aside0.mk h1_; replace BK185 := Aside0.mk h2_; replace BK186 := Aside0.mk h3_; replace BK199 := Aside0.mk h4_; replace BK200 := Aside0.mk h5_; replace HB := Aside0.mk h21_; clear h0_ h1_ h2_ h3_ h4_ h5_ h6_ h7_ h8_ h9_ h10_ h11_ h12_ h13_ h14_ h15_ h16_ h17_ h18_ h19_ h20_ h21_; have hHeld := hS_
     refine norm_ (a' := ?_) ?_ ?_
     rotate_left
     ·simp only [putAll, Act.put, List.setIfInBounds_toArray, List.set_cons_zero, List.set_cons_succ]
      rfl
     refine one_ (i := 10) (N := some 9) #[true, true, true, true, true, true, true, true, true, true, true, true, false, false] rfl rfl (one_of HT_.out (by kernel_rfl)) (by decide) (fun K hK => ?_)
     refine box_step ?hg (N := 9) ?hd (cs := #[.int .i64 0, .int .i64 0, .int .i64 0, .int .i64 0]) (t := 27) ?hr ?_; (case hd => rfl); (case hg => rfl); (case hr => first | (go_simp; done) | (go_simp; rfl))
     intro gb209 hg w41 hbox hb
     have BK209 := Aside0.mk (hbox); have GW209 := ws HB hg; have GE209 := ws HB hg; have NB183_209 := nl BK183 hg; have NB209_183 := ng BK183 hg; have NB184_209 := nl BK184 hg; have NB209_184 := ng BK184 hg; have NB185_209 := nl BK185 hg; have NB209_185 := ng BK185 hg; have NB186_209 := nl BK186 hg; have NB209_186 := ng BK186 hg; have NB199_209 := nl BK199 hg; have NB209_199 := ng BK199 hg; have NB200_209 := nl BK200 hg; have NB209_200 := ng BK200 hg; have NB210_209 := nl BK210 hg; have NB209_210 := ng BK210 hg; replace BK183 := ub BK183 hb; replace BK184 := ub BK184 hb; replace BK185 := ub BK185 hb; replace BK186 := ub BK186 hb; replace BK199 := ub BK199 hb; replace BK200 := ub BK200 hb; replace BK210 := ub BK210 hb; replace HB := bs HB hb; clear hb hbox hg
     refine hK.out _ _ ⟨bc BK183 0, bc BK183 1, bc BK183 2, bc BK183 3, bc BK183 4, bc BK183 5, bc BK183 6, bc BK183 7, bc BK184 0, bc BK184 1, bc BK184 2, bc BK184 3, bc BK185 0, bc BK185 1, bc BK185 2, bc BK185 3⟩ (fun hHeld => ?_)
     clear hK K
     refine norm_ (a' := ?_) ?_ ?_
     rotate_left
     ·show Act.put _ (some 9) _ = _
      simp only [Act.put, List.setIfInBounds_toArray, List.set_cons_zero, List.set_cons_succ, i64_w, i32_w]
      rfl
     exact norm_ (by first | (simp only [putAll, Act.put, List.setIfInBounds_toArray, List.set_cons_zero, List.set_cons_succ]; done) | (simp only [putAll, Act.put, List.setIfInBounds_toArray, List.set_cons_zero, List.set_cons_succ]; rfl)) (hJ4_9_10_11 (gb209, gb210) _ ⟨hHeld, BK183.out, BK184.out, BK185.out, BK186.out, BK199.out, BK200.out, BK209.out, BK210.out, GW209.out, GE209.out, NB183_209.out, NB209_183.out, NB184_209.out, NB209_184.out, NB185_209.out, NB209_185.out, NB186_209.out, NB209_186.out, NB199_209.out, NB209_199.out, NB200_209.out, NB209_200.out, NB210_209.out, NB209_210.out, GW210.out, GE210.out, NB183_210.out, NB210_183.out, NB184_210.out, NB210_184.out, NB185_210.out, NB210_185.out, NB186_210.out, NB210_186.out, NB199_210.out, NB210_199.out, NB200_210.out, NB210_200.out, (by repeat (first | (with_reducible first | exact HB.out | apply below_alloc | apply pw_below_drewN | apply below_drew1 | refine below_setA ?_ (by assumption)) | exact HB.out))⟩)
   ·skip
    rintro gb209 w40 ⟨hS_, h0_, h1_, h2_, h3_, h4_, h5_, h6_, h7_, h8_, h9_, h10_, h11_, h12_, h13_, h14_, h15_, h16_, h17_, h18_, h19_, h20_, h21_⟩; have BK209 := Aside0.mk h6_; have GW209 := Aside0.mk h7_; have GE209 := Aside0.mk h8_; have NB183_209 := Aside0.mk h9_; have NB209_183 := Aside0.mk h10_; have NB184_209 := Aside0.mk h11_; have NB209_184 := Aside0.mk h12_; have NB185_209 := Aside0.mk h13_; have NB209_185 := Aside0.mk h14_; have NB186_209 := Aside0.mk h15_; have NB209_186 := Aside0.mk h16_; have NB199_209 := Aside0.mk h17_; have NB209_199 := Aside0.mk h18_; have NB200_209 := Aside0.mk h19_; have NB209_200 := Aside0.mk h20_; replace BK183 := Aside0.mk h0_; replace BK184 := Aside0.mk h1_; replace BK185 := Aside0.mk h2_; replace BK186 := Aside0.mk h3_; replace BK199 := Aside0.mk h4_; replace BK200 := Aside0.mk h5_; replace HB := Aside0.mk h21_; clear h0_ h1_ h2_ h3_ h4_ h5_ h6_ h7_ h8_ h9_ h10_ h11_ h12_ h13_ h14_ h15_ h16_ h17_ h18_ h19_ h20_ h21_; have hHeld := hS_
    refine norm_ (a' := ?_) ?_ ?_
    rotate_left
    ·simp only [putAll, Act.put, List.setIfInBounds_toArray, List.set_cons_zero, List.set_cons_succ]
     rfl
    refine one_ (i := 11) (N := some 10) #[true, true, true, true, true, true, true, true, true, true, true, true, false, false] rfl rfl (one_of HT_.out (by kernel_rfl)) (by decide) (fun K hK => ?_)
    refine box_step ?hg (N := 10) ?hd (cs := #[.int .i64 0, .int .i64 0, .int .i64 0, .int .i64 0]) (t := 27) ?hr ?_; (case hd => rfl); (case hg => rfl); (case hr => first | (go_simp; done) | (go_simp; rfl))
    intro gb210 hg w41 hbox hb
    have BK210 := Aside0.mk (hbox); have GW210 := ws HB hg; have GE210 := ws HB hg; have NB183_210 := nl BK183 hg; have NB210_183 := ng BK183 hg; have NB184_210 := nl BK184 hg; have NB210_184 := ng BK184 hg; have NB185_210 := nl BK185 hg; have NB210_185 := ng BK185 hg; have NB186_210 := nl BK186 hg; have NB210_186 := ng BK186 hg; have NB199_210 := nl BK199 hg; have NB210_199 := ng BK199 hg; have NB200_210 := nl BK200 hg; have NB210_200 := ng BK200 hg; have NB209_210 := nl BK209 hg; have NB210_209 := ng BK209 hg; replace BK183 := ub BK183 hb; replace BK184 := ub BK184 hb; replace BK185 := ub BK185 hb; replace BK186 := ub BK186 hb; replace BK199 := ub BK199 hb; replace BK200 := ub BK200 hb; replace BK209 := ub BK209 hb; replace HB := bs HB hb; clear hb hbox hg
    refine hK.out _ _ ⟨bc BK183 0, bc BK183 1, bc BK183 2, bc BK183 3, bc BK183 4, bc BK183 5, bc BK183 6, bc BK183 7, bc BK184 0, bc BK184 1, bc BK184 2, bc BK184 3, bc BK185 0, bc BK185 1, bc BK185 2, bc BK185 3⟩ (fun hHeld => ?_)
    clear hK K
    refine norm_ (a' := ?_) ?_ ?_
    rotate_left
    ·show Act.put _ (some 10) _ = _
     simp only [Act.put, List.setIfInBounds_toArray, List.set_cons_zero, List.set_cons_succ, i64_w, i32_w]
     rfl
    exact norm_ (by first | (simp only [putAll, Act.put, List.setIfInBounds_toArray, List.set_cons_zero, List.set_cons_succ]; done) | (simp only [putAll, Act.put, List.setIfInBounds_toArray, List.set_cons_zero, List.set_cons_succ]; rfl)) (hJ4_9_10_11 (gb209, gb210) _ ⟨hHeld, BK183.out, BK184.out, BK185.out, BK186.out, BK199.out, BK200.out, BK209.out, BK210.out, GW209.out, GE209.out, NB183_209.out, NB209_183.out, NB184_209.out, NB209_184.out, NB185_209.out, NB209_185.out, NB186_209.out, NB209_186.out, NB199_209.out, NB209_199.out, NB200_209.out, NB209_200.out, NB210_209.out, NB209_210.out, GW210.out, GE210.out, NB183_210.out, NB210_183.out, NB184_210.out, NB210_184.out, NB185_210.out, NB210_185.out, NB186_210.out, NB210_186.out, NB199_210.out, NB210_199.out, NB200_210.out, NB210_200.out, (by repeat (first | (with_reducible first | exact HB.out | apply below_alloc | apply pw_below_drewN | apply below_drew1 | refine below_setA ?_ (by assumption)) | exact HB.out))⟩)
  rintro ⟨gb209, gb210⟩ w41 ⟨hS_, h0_, h1_, h2_, h3_, h4_, h5_, h6_, h7_, h8_, h9_, h10_, h11_, h12_, h13_, h14_, h15_, h16_, h17_, h18_, h19_, h20_, h21_, h22_, h23_, h24_, h25_, h26_, h27_, h28_, h29_, h30_, h31_, h32_, h33_, h34_, h35_, h36_, h37_, h38_⟩; have BK209 := Aside0.mk h6_; have BK210 := Aside0.mk h7_; have GW209 := Aside0.mk h8_; have GE209 := Aside0.mk h9_; have NB183_209 := Aside0.mk h10_; have NB209_183 := Aside0.mk h11_; have NB184_209 := Aside0.mk h12_; have NB209_184 := Aside0.mk h13_; have NB185_209 := Aside0.mk h14_; have NB209_185 := Aside0.mk h15_; have NB186_209 := Aside0.mk h16_; have NB209_186 := Aside0.mk h17_; have NB199_209 := Aside0.mk h18_; have NB209_199 := Aside0.mk h19_; have NB200_209 := Aside0.mk h20_; have NB209_200 := Aside0.mk h21_; have NB210_209 := Aside0.mk h22_; have NB209_210 := Aside0.mk h23_; have GW210 := Aside0.mk h24_; have GE210 := Aside0.mk h25_; have NB183_210 := Aside0.mk h26_; have NB210_183 := Aside0.mk h27_; have NB184_210 := Aside0.mk h28_; have NB210_184 := Aside0.mk h29_; have NB185_210 := Aside0.mk h30_; have NB210_185 := Aside0.mk h31_; have NB186_210 := Aside0.mk h32_; have NB210_186 := Aside0.mk h33_; have NB199_210 := Aside0.mk h34_; have NB210_199 := Aside0.mk h35_; have NB200_210 := Aside0.mk h36_; have NB210_200 := Aside0.mk h37_; replace BK183 := Aside0.mk h0_; replace BK184 := Aside0.mk h1_; replace BK185 := Aside0.mk h2_; replace BK186 := Aside0.mk h3_; replace BK199 := Aside0.mk h4_; replace BK200 := Aside0.mk h5_; replace HB := Aside0.mk h38_; clear h0_ h1_ h2_ h3_ h4_ h5_ h6_ h7_ h8_ h9_ h10_ h11_ h12_ h13_ h14_ h15_ h16_ h17_ h18_ h19_ h20_ h21_ h22_ h23_ h24_ h25_ h26_ h27_ h28_ h29_ h30_ h31_ h32_ h33_ h34_ h35_ h36_ h37_ h38_; have hHeld := hS_
  refine norm_ (a' := ?_) ?_ ?_
  rotate_left
  ·simp only [putAll, Act.put, List.setIfInBounds_toArray, List.set_cons_zero, List.set_cons_succ]
   rfl
  refine one_ (i := 12) (N := none) #[true, true, true, true, true, true, true, true, true, true, true, true, true, false] rfl rfl (one_of HT_.out (by kernel_rfl)) (by decide) (fun K hK => ?_)
  have hs42 : w41.cell? ⟨gb209, 0, none⟩ = some (.int .i64 0) := bc BK209 0
  have hfs42 := blk_frozen BK209.out 0; have hns42_0 := NB183_209.out; have hns42_1 := NB184_209.out; have hns42_2 := NB185_209.out; have hns42_3 := NB186_209.out; have hns42_4 := NB199_209.out; have hns42_5 := NB200_209.out; have hns42_7 := NB210_209.out; have hms42_0 := NB209_183.out; have hms42_1 := NB209_184.out; have hms42_2 := NB209_185.out; have hms42_3 := NB209_186.out; have hms42_4 := NB209_199.out; have hms42_5 := NB209_200.out; have hms42_7 := NB209_210.out
  have hs43 : w41.cell? ⟨gb209, 1, none⟩ = some (.int .i64 0) := bc BK209 1
  have hfs43 := blk_frozen BK209.out 1; have hns43_0 := NB183_209.out; have hns43_1 := NB184_209.out; have hns43_2 := NB185_209.out; have hns43_3 := NB186_209.out; have hns43_4 := NB199_209.out; have hns43_5 := NB200_209.out; have hns43_7 := NB210_209.out; have hms43_0 := NB209_183.out; have hms43_1 := NB209_184.out; have hms43_2 := NB209_185.out; have hms43_3 := NB209_186.out; have hms43_4 := NB209_199.out; have hms43_5 := NB209_200.out; have hms43_7 := NB209_210.out
  have hs44 : w41.cell? ⟨gb209, 2, none⟩ = some (.int .i64 0) := bc BK209 2
  have hfs44 := blk_frozen BK209.out 2; have hns44_0 := NB183_209.out; have hns44_1 := NB184_209.out; have hns44_2 := NB185_209.out; have hns44_3 := NB186_209.out; have hns44_4 := NB199_209.out; have hns44_5 := NB200_209.out; have hns44_7 := NB210_209.out; have hms44_0 := NB209_183.out; have hms44_1 := NB209_184.out; have hms44_2 := NB209_185.out; have hms44_3 := NB209_186.out; have hms44_4 := NB209_199.out; have hms44_5 := NB209_200.out; have hms44_7 := NB209_210.out
  have hs45 : w41.cell? ⟨gb209, 3, none⟩ = some (.int .i64 0) := bc BK209 3
  have hfs45 := blk_frozen BK209.out 3; have hns45_0 := NB183_209.out; have hns45_1 := NB184_209.out; have hns45_2 := NB185_209.out; have hns45_3 := NB186_209.out; have hns45_4 := NB199_209.out; have hns45_5 := NB200_209.out; have hns45_7 := NB210_209.out; have hms45_0 := NB209_183.out; have hms45_1 := NB209_184.out; have hms45_2 := NB209_185.out; have hms45_3 := NB209_186.out; have hms45_4 := NB209_199.out; have hms45_5 := NB209_200.out; have hms45_7 := NB209_210.out
  refine skip_ (w1 := ?_) (by rfl) rfl ?_ ?_
  rotate_left
  ·go_simp
   rfl
  refine hK.out _ _ ⟨(cf NB183_209 ((cf NB183_209 ((cf NB183_209 ((cf NB183_209 (hHeld.1)))))))), (cf NB183_209 ((cf NB183_209 ((cf NB183_209 ((cf NB183_209 (hHeld.2.1)))))))), (cf NB183_209 ((cf NB183_209 ((cf NB183_209 ((cf NB183_209 (hHeld.2.2.1)))))))), (cf NB183_209 ((cf NB183_209 ((cf NB183_209 ((cf NB183_209 (hHeld.2.2.2.1)))))))), (cf NB183_209 ((cf NB183_209 ((cf NB183_209 ((cf NB183_209 (hHeld.2.2.2.2.1)))))))), (cf NB183_209 ((cf NB183_209 ((cf NB183_209 ((cf NB183_209 (hHeld.2.2.2.2.2.1)))))))), (cf NB183_209 ((cf NB183_209 ((cf NB183_209 ((cf NB183_209 (hHeld.2.2.2.2.2.2.1)))))))), (cf NB183_209 ((cf NB183_209 ((cf NB183_209 ((cf NB183_209 (hHeld.2.2.2.2.2.2.2.1)))))))), (cf NB184_209 ((cf NB184_209 ((cf NB184_209 ((cf NB184_209 (hHeld.2.2.2.2.2.2.2.2.1)))))))), (cf NB184_209 ((cf NB184_209 ((cf NB184_209 ((cf NB184_209 (hHeld.2.2.2.2.2.2.2.2.2.1)))))))), (cf NB184_209 ((cf NB184_209 ((cf NB184_209 ((cf NB184_209 (hHeld.2.2.2.2.2.2.2.2.2.2.1)))))))), (cf NB184_209 ((cf NB184_209 ((cf NB184_209 ((cf NB184_209 (hHeld.2.2.2.2.2.2.2.2.2.2.2.1)))))))), (cf NB185_209 ((cf NB185_209 ((cf NB185_209 ((cf NB185_209 (hHeld.2.2.2.2.2.2.2.2.2.2.2.2.1)))))))), (cf NB185_209 ((cf NB185_209 ((cf NB185_209 ((cf NB185_209 (hHeld.2.2.2.2.2.2.2.2.2.2.2.2.2.1)))))))), (cf NB185_209 ((cf NB185_209 ((cf NB185_209 ((cf NB185_209 (hHeld.2.2.2.2.2.2.2.2.2.2.2.2.2.2.1)))))))), (cf NB185_209 ((cf NB185_209 ((cf NB185_209 ((cf NB185_209 (hHeld.2.2.2.2.2.2.2.2.2.2.2.2.2.2.2))))))))⟩ (fun hHeld => ?_)
  clear hK K
  refine one_ (i := 13) (N := none) #[true, true, true, true, true, true, true, true, true, true, true, true, true, true] rfl rfl (one_of HT_.out (by kernel_rfl)) (by decide) (fun K hK => ?_)
  have hs46 : w41.cell? ⟨gb210, 0, none⟩ = some (.int .i64 0) := bc BK210 0
  have hfs46 := blk_frozen BK210.out 0; have hns46_0 := NB183_210.out; have hns46_1 := NB184_210.out; have hns46_2 := NB185_210.out; have hns46_3 := NB186_210.out; have hns46_4 := NB199_210.out; have hns46_5 := NB200_210.out; have hns46_6 := NB209_210.out; have hms46_0 := NB210_183.out; have hms46_1 := NB210_184.out; have hms46_2 := NB210_185.out; have hms46_3 := NB210_186.out; have hms46_4 := NB210_199.out; have hms46_5 := NB210_200.out; have hms46_6 := NB210_209.out
  have hs47 : w41.cell? ⟨gb210, 1, none⟩ = some (.int .i64 0) := bc BK210 1
  have hfs47 := blk_frozen BK210.out 1; have hns47_0 := NB183_210.out; have hns47_1 := NB184_210.out; have hns47_2 := NB185_210.out; have hns47_3 := NB186_210.out; have hns47_4 := NB199_210.out; have hns47_5 := NB200_210.out; have hns47_6 := NB209_210.out; have hms47_0 := NB210_183.out; have hms47_1 := NB210_184.out; have hms47_2 := NB210_185.out; have hms47_3 := NB210_186.out; have hms47_4 := NB210_199.out; have hms47_5 := NB210_200.out; have hms47_6 := NB210_209.out
  have hs48 : w41.cell? ⟨gb210, 2, none⟩ = some (.int .i64 0) := bc BK210 2
  have hfs48 := blk_frozen BK210.out 2; have hns48_0 := NB183_210.out; have hns48_1 := NB184_210.out; have hns48_2 := NB185_210.out; have hns48_3 := NB186_210.out; have hns48_4 := NB199_210.out; have hns48_5 := NB200_210.out; have hns48_6 := NB209_210.out; have hms48_0 := NB210_183.out; have hms48_1 := NB210_184.out; have hms48_2 := NB210_185.out; have hms48_3 := NB210_186.out; have hms48_4 := NB210_199.out; have hms48_5 := NB210_200.out; have hms48_6 := NB210_209.out
  have hs49 : w41.cell? ⟨gb210, 3, none⟩ = some (.int .i64 0) := bc BK210 3
  have hfs49 := blk_frozen BK210.out 3; have hns49_0 := NB183_210.out; have hns49_1 := NB184_210.out; have hns49_2 := NB185_210.out; have hns49_3 := NB186_210.out; have hns49_4 := NB199_210.out; have hns49_5 := NB200_210.out; have hns49_6 := NB209_210.out; have hms49_0 := NB210_183.out; have hms49_1 := NB210_184.out; have hms49_2 := NB210_185.out; have hms49_3 := NB210_186.out; have hms49_4 := NB210_199.out; have hms49_5 := NB210_200.out; have hms49_6 := NB210_209.out
  refine skip_ (w1 := ?_) (by rfl) rfl ?_ ?_
  rotate_left
  ·go_simp
   rfl
  refine hK.out _ _ ⟨(cf NB183_210 ((cf NB183_210 ((cf NB183_210 ((cf NB183_210 (hHeld.1)))))))), (cf NB183_210 ((cf NB183_210 ((cf NB183_210 ((cf NB183_210 (hHeld.2.1)))))))), (cf NB183_210 ((cf NB183_210 ((cf NB183_210 ((cf NB183_210 (hHeld.2.2.1)))))))), (cf NB183_210 ((cf NB183_210 ((cf NB183_210 ((cf NB183_210 (hHeld.2.2.2.1)))))))), (cf NB183_210 ((cf NB183_210 ((cf NB183_210 ((cf NB183_210 (hHeld.2.2.2.2.1)))))))), (cf NB183_210 ((cf NB183_210 ((cf NB183_210 ((cf NB183_210 (hHeld.2.2.2.2.2.1)))))))), (cf NB183_210 ((cf NB183_210 ((cf NB183_210 ((cf NB183_210 (hHeld.2.2.2.2.2.2.1)))))))), (cf NB183_210 ((cf NB183_210 ((cf NB183_210 ((cf NB183_210 (hHeld.2.2.2.2.2.2.2.1)))))))), (cf NB184_210 ((cf NB184_210 ((cf NB184_210 ((cf NB184_210 (hHeld.2.2.2.2.2.2.2.2.1)))))))), (cf NB184_210 ((cf NB184_210 ((cf NB184_210 ((cf NB184_210 (hHeld.2.2.2.2.2.2.2.2.2.1)))))))), (cf NB184_210 ((cf NB184_210 ((cf NB184_210 ((cf NB184_210 (hHeld.2.2.2.2.2.2.2.2.2.2.1)))))))), (cf NB184_210 ((cf NB184_210 ((cf NB184_210 ((cf NB184_210 (hHeld.2.2.2.2.2.2.2.2.2.2.2.1)))))))), (cf NB185_210 ((cf NB185_210 ((cf NB185_210 ((cf NB185_210 (hHeld.2.2.2.2.2.2.2.2.2.2.2.2.1)))))))), (cf NB185_210 ((cf NB185_210 ((cf NB185_210 ((cf NB185_210 (hHeld.2.2.2.2.2.2.2.2.2.2.2.2.2.1)))))))), (cf NB185_210 ((cf NB185_210 ((cf NB185_210 ((cf NB185_210 (hHeld.2.2.2.2.2.2.2.2.2.2.2.2.2.2.1)))))))), (cf NB185_210 ((cf NB185_210 ((cf NB185_210 ((cf NB185_210 (hHeld.2.2.2.2.2.2.2.2.2.2.2.2.2.2.2))))))))⟩ (fun hHeld => ?_)
  clear hK K
  refine done_ (done_of HT_.out (by kernel_rfl)) ?_
  try go_wp2
  have n0_ : Aside0 (((((((((w41.setCell ⟨gb209, 0, none⟩ (.int .i64 t201)).setCell ⟨gb209, 1, none⟩ (.int .i64 t202)).setCell ⟨gb209, 2, none⟩ (.int .i64 t203)).setCell ⟨gb209, 3, none⟩ (.int .i64 t204)).setCell ⟨gb210, 0, none⟩ (.int .i64 t205)).setCell ⟨gb210, 1, none⟩ (.int .i64 t206)).setCell ⟨gb210, 2, none⟩ (.int .i64 t207)).setCell ⟨gb210, 3, none⟩ (.int .i64 t208)).heap[gb183]? = some (.cells #[.bool true, .int .i64 a0_1, .int .i64 a0_2, .int .i64 a0_3, .int .i64 a0_4, .int .i64 a0_5, .int .i64 a0_6, .int .i64 a0_7] 25 (0, 0))) := ⟨by (with_reducible repeat (first | refine blk_drewN ?_ _ | refine blk_drew ?_ | refine blk_alloc ?_ _)); refine blk_far ?_ NB183_210.out _; (with_reducible repeat (first | refine blk_drewN ?_ _ | refine blk_drew ?_ | refine blk_alloc ?_ _)); refine blk_far ?_ NB183_210.out _; (with_reducible repeat (first | refine blk_drewN ?_ _ | refine blk_drew ?_ | refine blk_alloc ?_ _)); refine blk_far ?_ NB183_210.out _; (with_reducible repeat (first | refine blk_drewN ?_ _ | refine blk_drew ?_ | refine blk_alloc ?_ _)); refine blk_far ?_ NB183_210.out _; (with_reducible repeat (first | refine blk_drewN ?_ _ | refine blk_drew ?_ | refine blk_alloc ?_ _)); refine blk_far ?_ NB183_209.out _; (with_reducible repeat (first | refine blk_drewN ?_ _ | refine blk_drew ?_ | refine blk_alloc ?_ _)); refine blk_far ?_ NB183_209.out _; (with_reducible repeat (first | refine blk_drewN ?_ _ | refine blk_drew ?_ | refine blk_alloc ?_ _)); refine blk_far ?_ NB183_209.out _; (with_reducible repeat (first | refine blk_drewN ?_ _ | refine blk_drew ?_ | refine blk_alloc ?_ _)); refine blk_far ?_ NB183_209.out _; (with_reducible repeat (first | refine blk_drewN ?_ _ | refine blk_drew ?_ | refine blk_alloc ?_ _)); exact BK183.out⟩
  have n1_ : Aside0 (((((((((w41.setCell ⟨gb209, 0, none⟩ (.int .i64 t201)).setCell ⟨gb209, 1, none⟩ (.int .i64 t202)).setCell ⟨gb209, 2, none⟩ (.int .i64 t203)).setCell ⟨gb209, 3, none⟩ (.int .i64 t204)).setCell ⟨gb210, 0, none⟩ (.int .i64 t205)).setCell ⟨gb210, 1, none⟩ (.int .i64 t206)).setCell ⟨gb210, 2, none⟩ (.int .i64 t207)).setCell ⟨gb210, 3, none⟩ (.int .i64 t208)).heap[gb184]? = some (.cells #[.int .i64 a1_0, .int .i64 a1_1, .int .i64 a1_2, .int .i64 a1_3] 27 (0, 0))) := ⟨by (with_reducible repeat (first | refine blk_drewN ?_ _ | refine blk_drew ?_ | refine blk_alloc ?_ _)); refine blk_far ?_ NB184_210.out _; (with_reducible repeat (first | refine blk_drewN ?_ _ | refine blk_drew ?_ | refine blk_alloc ?_ _)); refine blk_far ?_ NB184_210.out _; (with_reducible repeat (first | refine blk_drewN ?_ _ | refine blk_drew ?_ | refine blk_alloc ?_ _)); refine blk_far ?_ NB184_210.out _; (with_reducible repeat (first | refine blk_drewN ?_ _ | refine blk_drew ?_ | refine blk_alloc ?_ _)); refine blk_far ?_ NB184_210.out _; (with_reducible repeat (first | refine blk_drewN ?_ _ | refine blk_drew ?_ | refine blk_alloc ?_ _)); refine blk_far ?_ NB184_209.out _; (with_reducible repeat (first | refine blk_drewN ?_ _ | refine blk_drew ?_ | refine blk_alloc ?_ _)); refine blk_far ?_ NB184_209.out _; (with_reducible repeat (first | refine blk_drewN ?_ _ | refine blk_drew ?_ | refine blk_alloc ?_ _)); refine blk_far ?_ NB184_209.out _; (with_reducible repeat (first | refine blk_drewN ?_ _ | refine blk_drew ?_ | refine blk_alloc ?_ _)); refine blk_far ?_ NB184_209.out _; (with_reducible repeat (first | refine blk_drewN ?_ _ | refine blk_drew ?_ | refine blk_alloc ?_ _)); exact BK184.out⟩
  have n2_ : Aside0 (((((((((w41.setCell ⟨gb209, 0, none⟩ (.int .i64 t201)).setCell ⟨gb209, 1, none⟩ (.int .i64 t202)).setCell ⟨gb209, 2, none⟩ (.int .i64 t203)).setCell ⟨gb209, 3, none⟩ (.int .i64 t204)).setCell ⟨gb210, 0, none⟩ (.int .i64 t205)).setCell ⟨gb210, 1, none⟩ (.int .i64 t206)).setCell ⟨gb210, 2, none⟩ (.int .i64 t207)).setCell ⟨gb210, 3, none⟩ (.int .i64 t208)).heap[gb185]? = some (.cells #[.int .i64 a2_0, .int .i64 a2_1, .int .i64 a2_2, .int .i64 a2_3] 27 (0, 0))) := ⟨by (with_reducible repeat (first | refine blk_drewN ?_ _ | refine blk_drew ?_ | refine blk_alloc ?_ _)); refine blk_far ?_ NB185_210.out _; (with_reducible repeat (first | refine blk_drewN ?_ _ | refine blk_drew ?_ | refine blk_alloc ?_ _)); refine blk_far ?_ NB185_210.out _; (with_reducible repeat (first | refine blk_drewN ?_ _ | refine blk_drew ?_ | refine blk_alloc ?_ _)); refine blk_far ?_ NB185_210.out _; (with_reducible repeat (first | refine blk_drewN ?_ _ | refine blk_drew ?_ | refine blk_alloc ?_ _)); refine blk_far ?_ NB185_210.out _; (with_reducible repeat (first | refine blk_drewN ?_ _ | refine blk_drew ?_ | refine blk_alloc ?_ _)); refine blk_far ?_ NB185_209.out _; (with_reducible repeat (first | refine blk_drewN ?_ _ | refine blk_drew ?_ | refine blk_alloc ?_ _)); refine blk_far ?_ NB185_209.out _; (with_reducible repeat (first | refine blk_drewN ?_ _ | refine blk_drew ?_ | refine blk_alloc ?_ _)); refine blk_far ?_ NB185_209.out _; (with_reducible repeat (first | refine blk_drewN ?_ _ | refine blk_drew ?_ | refine blk_alloc ?_ _)); refine blk_far ?_ NB185_209.out _; (with_reducible repeat (first | refine blk_drewN ?_ _ | refine blk_drew ?_ | refine blk_alloc ?_ _)); exact BK185.out⟩
  have n3_ : Aside0 (((((((((w41.setCell ⟨gb209, 0, none⟩ (.int .i64 t201)).setCell ⟨gb209, 1, none⟩ (.int .i64 t202)).setCell ⟨gb209, 2, none⟩ (.int .i64 t203)).setCell ⟨gb209, 3, none⟩ (.int .i64 t204)).setCell ⟨gb210, 0, none⟩ (.int .i64 t205)).setCell ⟨gb210, 1, none⟩ (.int .i64 t206)).setCell ⟨gb210, 2, none⟩ (.int .i64 t207)).setCell ⟨gb210, 3, none⟩ (.int .i64 t208)).heap[gb186]? = some (.cells #[.int .i64 0, .int .i64 0, .int .i64 0, .int .i64 0] 27 (0, 0))) := ⟨by (with_reducible repeat (first | refine blk_drewN ?_ _ | refine blk_drew ?_ | refine blk_alloc ?_ _)); refine blk_far ?_ NB186_210.out _; (with_reducible repeat (first | refine blk_drewN ?_ _ | refine blk_drew ?_ | refine blk_alloc ?_ _)); refine blk_far ?_ NB186_210.out _; (with_reducible repeat (first | refine blk_drewN ?_ _ | refine blk_drew ?_ | refine blk_alloc ?_ _)); refine blk_far ?_ NB186_210.out _; (with_reducible repeat (first | refine blk_drewN ?_ _ | refine blk_drew ?_ | refine blk_alloc ?_ _)); refine blk_far ?_ NB186_210.out _; (with_reducible repeat (first | refine blk_drewN ?_ _ | refine blk_drew ?_ | refine blk_alloc ?_ _)); refine blk_far ?_ NB186_209.out _; (with_reducible repeat (first | refine blk_drewN ?_ _ | refine blk_drew ?_ | refine blk_alloc ?_ _)); refine blk_far ?_ NB186_209.out _; (with_reducible repeat (first | refine blk_drewN ?_ _ | refine blk_drew ?_ | refine blk_alloc ?_ _)); refine blk_far ?_ NB186_209.out _; (with_reducible repeat (first | refine blk_drewN ?_ _ | refine blk_drew ?_ | refine blk_alloc ?_ _)); refine blk_far ?_ NB186_209.out _; (with_reducible repeat (first | refine blk_drewN ?_ _ | refine blk_drew ?_ | refine blk_alloc ?_ _)); exact BK186.out⟩
  have n4_ : Aside0 (((((((((w41.setCell ⟨gb209, 0, none⟩ (.int .i64 t201)).setCell ⟨gb209, 1, none⟩ (.int .i64 t202)).setCell ⟨gb209, 2, none⟩ (.int .i64 t203)).setCell ⟨gb209, 3, none⟩ (.int .i64 t204)).setCell ⟨gb210, 0, none⟩ (.int .i64 t205)).setCell ⟨gb210, 1, none⟩ (.int .i64 t206)).setCell ⟨gb210, 2, none⟩ (.int .i64 t207)).setCell ⟨gb210, 3, none⟩ (.int .i64 t208)).heap[gb199]? = some (.cells #[.int .i64 t191, .int .i64 t192, .int .i64 t193, .int .i64 t194] 27 (0, 0))) := ⟨by (with_reducible repeat (first | refine blk_drewN ?_ _ | refine blk_drew ?_ | refine blk_alloc ?_ _)); refine blk_far ?_ NB199_210.out _; (with_reducible repeat (first | refine blk_drewN ?_ _ | refine blk_drew ?_ | refine blk_alloc ?_ _)); refine blk_far ?_ NB199_210.out _; (with_reducible repeat (first | refine blk_drewN ?_ _ | refine blk_drew ?_ | refine blk_alloc ?_ _)); refine blk_far ?_ NB199_210.out _; (with_reducible repeat (first | refine blk_drewN ?_ _ | refine blk_drew ?_ | refine blk_alloc ?_ _)); refine blk_far ?_ NB199_210.out _; (with_reducible repeat (first | refine blk_drewN ?_ _ | refine blk_drew ?_ | refine blk_alloc ?_ _)); refine blk_far ?_ NB199_209.out _; (with_reducible repeat (first | refine blk_drewN ?_ _ | refine blk_drew ?_ | refine blk_alloc ?_ _)); refine blk_far ?_ NB199_209.out _; (with_reducible repeat (first | refine blk_drewN ?_ _ | refine blk_drew ?_ | refine blk_alloc ?_ _)); refine blk_far ?_ NB199_209.out _; (with_reducible repeat (first | refine blk_drewN ?_ _ | refine blk_drew ?_ | refine blk_alloc ?_ _)); refine blk_far ?_ NB199_209.out _; (with_reducible repeat (first | refine blk_drewN ?_ _ | refine blk_drew ?_ | refine blk_alloc ?_ _)); exact BK199.out⟩
  have n5_ : Aside0 (((((((((w41.setCell ⟨gb209, 0, none⟩ (.int .i64 t201)).setCell ⟨gb209, 1, none⟩ (.int .i64 t202)).setCell ⟨gb209, 2, none⟩ (.int .i64 t203)).setCell ⟨gb209, 3, none⟩ (.int .i64 t204)).setCell ⟨gb210, 0, none⟩ (.int .i64 t205)).setCell ⟨gb210, 1, none⟩ (.int .i64 t206)).setCell ⟨gb210, 2, none⟩ (.int .i64 t207)).setCell ⟨gb210, 3, none⟩ (.int .i64 t208)).heap[gb200]? = some (.cells #[.int .i64 t195, .int .i64 t196, .int .i64 t197, .int .i64 t198] 27 (0, 0))) := ⟨by (with_reducible repeat (first | refine blk_drewN ?_ _ | refine blk_drew ?_ | refine blk_alloc ?_ _)); refine blk_far ?_ NB200_210.out _; (with_reducible repeat (first | refine blk_drewN ?_ _ | refine blk_drew ?_ | refine blk_alloc ?_ _)); refine blk_far ?_ NB200_210.out _; (with_reducible repeat (first | refine blk_drewN ?_ _ | refine blk_drew ?_ | refine blk_alloc ?_ _)); refine blk_far ?_ NB200_210.out _; (with_reducible repeat (first | refine blk_drewN ?_ _ | refine blk_drew ?_ | refine blk_alloc ?_ _)); refine blk_far ?_ NB200_210.out _; (with_reducible repeat (first | refine blk_drewN ?_ _ | refine blk_drew ?_ | refine blk_alloc ?_ _)); refine blk_far ?_ NB200_209.out _; (with_reducible repeat (first | refine blk_drewN ?_ _ | refine blk_drew ?_ | refine blk_alloc ?_ _)); refine blk_far ?_ NB200_209.out _; (with_reducible repeat (first | refine blk_drewN ?_ _ | refine blk_drew ?_ | refine blk_alloc ?_ _)); refine blk_far ?_ NB200_209.out _; (with_reducible repeat (first | refine blk_drewN ?_ _ | refine blk_drew ?_ | refine blk_alloc ?_ _)); refine blk_far ?_ NB200_209.out _; (with_reducible repeat (first | refine blk_drewN ?_ _ | refine blk_drew ?_ | refine blk_alloc ?_ _)); exact BK200.out⟩
  have n6_ : Aside0 (((((((((w41.setCell ⟨gb209, 0, none⟩ (.int .i64 t201)).setCell ⟨gb209, 1, none⟩ (.int .i64 t202)).setCell ⟨gb209, 2, none⟩ (.int .i64 t203)).setCell ⟨gb209, 3, none⟩ (.int .i64 t204)).setCell ⟨gb210, 0, none⟩ (.int .i64 t205)).setCell ⟨gb210, 1, none⟩ (.int .i64 t206)).setCell ⟨gb210, 2, none⟩ (.int .i64 t207)).setCell ⟨gb210, 3, none⟩ (.int .i64 t208)).heap[gb209]? = some (.cells #[.int .i64 t201, .int .i64 t202, .int .i64 t203, .int .i64 t204] 27 (0, 0))) := ⟨by (with_reducible repeat (first | refine blk_drewN ?_ _ | refine blk_drew ?_ | refine blk_alloc ?_ _)); refine blk_far ?_ NB209_210.out _; (with_reducible repeat (first | refine blk_drewN ?_ _ | refine blk_drew ?_ | refine blk_alloc ?_ _)); refine blk_far ?_ NB209_210.out _; (with_reducible repeat (first | refine blk_drewN ?_ _ | refine blk_drew ?_ | refine blk_alloc ?_ _)); refine blk_far ?_ NB209_210.out _; (with_reducible repeat (first | refine blk_drewN ?_ _ | refine blk_drew ?_ | refine blk_alloc ?_ _)); refine blk_far ?_ NB209_210.out _; (with_reducible repeat (first | refine blk_drewN ?_ _ | refine blk_drew ?_ | refine blk_alloc ?_ _)); refine blk_put (cs := #[.int .i64 t201, .int .i64 t202, .int .i64 t203, .int .i64 0]) ?_ 3 _ rfl; (with_reducible repeat (first | refine blk_drewN ?_ _ | refine blk_drew ?_ | refine blk_alloc ?_ _)); refine blk_put (cs := #[.int .i64 t201, .int .i64 t202, .int .i64 0, .int .i64 0]) ?_ 2 _ rfl; (with_reducible repeat (first | refine blk_drewN ?_ _ | refine blk_drew ?_ | refine blk_alloc ?_ _)); refine blk_put (cs := #[.int .i64 t201, .int .i64 0, .int .i64 0, .int .i64 0]) ?_ 1 _ rfl; (with_reducible repeat (first | refine blk_drewN ?_ _ | refine blk_drew ?_ | refine blk_alloc ?_ _)); refine blk_put (cs := #[.int .i64 0, .int .i64 0, .int .i64 0, .int .i64 0]) ?_ 0 _ rfl; (with_reducible repeat (first | refine blk_drewN ?_ _ | refine blk_drew ?_ | refine blk_alloc ?_ _)); exact BK209.out⟩
  have n7_ : Aside0 (((((((((w41.setCell ⟨gb209, 0, none⟩ (.int .i64 t201)).setCell ⟨gb209, 1, none⟩ (.int .i64 t202)).setCell ⟨gb209, 2, none⟩ (.int .i64 t203)).setCell ⟨gb209, 3, none⟩ (.int .i64 t204)).setCell ⟨gb210, 0, none⟩ (.int .i64 t205)).setCell ⟨gb210, 1, none⟩ (.int .i64 t206)).setCell ⟨gb210, 2, none⟩ (.int .i64 t207)).setCell ⟨gb210, 3, none⟩ (.int .i64 t208)).heap[gb210]? = some (.cells #[.int .i64 t205, .int .i64 t206, .int .i64 t207, .int .i64 t208] 27 (0, 0))) := ⟨by (with_reducible repeat (first | refine blk_drewN ?_ _ | refine blk_drew ?_ | refine blk_alloc ?_ _)); refine blk_put (cs := #[.int .i64 t205, .int .i64 t206, .int .i64 t207, .int .i64 0]) ?_ 3 _ rfl; (with_reducible repeat (first | refine blk_drewN ?_ _ | refine blk_drew ?_ | refine blk_alloc ?_ _)); refine blk_put (cs := #[.int .i64 t205, .int .i64 t206, .int .i64 0, .int .i64 0]) ?_ 2 _ rfl; (with_reducible repeat (first | refine blk_drewN ?_ _ | refine blk_drew ?_ | refine blk_alloc ?_ _)); refine blk_put (cs := #[.int .i64 t205, .int .i64 0, .int .i64 0, .int .i64 0]) ?_ 1 _ rfl; (with_reducible repeat (first | refine blk_drewN ?_ _ | refine blk_drew ?_ | refine blk_alloc ?_ _)); refine blk_put (cs := #[.int .i64 0, .int .i64 0, .int .i64 0, .int .i64 0]) ?_ 0 _ rfl; (with_reducible repeat (first | refine blk_drewN ?_ _ | refine blk_drew ?_ | refine blk_alloc ?_ _)); refine blk_far ?_ NB210_209.out _; (with_reducible repeat (first | refine blk_drewN ?_ _ | refine blk_drew ?_ | refine blk_alloc ?_ _)); refine blk_far ?_ NB210_209.out _; (with_reducible repeat (first | refine blk_drewN ?_ _ | refine blk_drew ?_ | refine blk_alloc ?_ _)); refine blk_far ?_ NB210_209.out _; (with_reducible repeat (first | refine blk_drewN ?_ _ | refine blk_drew ?_ | refine blk_alloc ?_ _)); refine blk_far ?_ NB210_209.out _; (with_reducible repeat (first | refine blk_drewN ?_ _ | refine blk_drew ?_ | refine blk_alloc ?_ _)); exact BK210.out⟩
  have n8_ : Aside0 (Below w.heap.size w ((((((((w41.setCell ⟨gb209, 0, none⟩ (.int .i64 t201)).setCell ⟨gb209, 1, none⟩ (.int .i64 t202)).setCell ⟨gb209, 2, none⟩ (.int .i64 t203)).setCell ⟨gb209, 3, none⟩ (.int .i64 t204)).setCell ⟨gb210, 0, none⟩ (.int .i64 t205)).setCell ⟨gb210, 1, none⟩ (.int .i64 t206)).setCell ⟨gb210, 2, none⟩ (.int .i64 t207)).setCell ⟨gb210, 3, none⟩ (.int .i64 t208))) := ⟨by repeat (first | (with_reducible first | exact HB.out | apply below_alloc | apply pw_below_drewN | apply below_drew1 | refine below_set ?_ GE183.out | refine below_set ?_ GE184.out | refine below_set ?_ GE185.out | refine below_set ?_ GE186.out | refine below_set ?_ GE199.out | refine below_set ?_ GE200.out | refine below_set ?_ GE209.out | refine below_set ?_ GE210.out) | exact HB.out)⟩
  (try clear BK183); (try clear BK184); (try clear BK185); (try clear BK186); (try clear BK199); (try clear BK200); (try clear BK209); (try clear BK210); (try clear HB)
  generalize ((((((((w41.setCell ⟨gb209, 0, none⟩ (.int .i64 t201)).setCell ⟨gb209, 1, none⟩ (.int .i64 t202)).setCell ⟨gb209, 2, none⟩ (.int .i64 t203)).setCell ⟨gb209, 3, none⟩ (.int .i64 t204)).setCell ⟨gb210, 0, none⟩ (.int .i64 t205)).setCell ⟨gb210, 1, none⟩ (.int .i64 t206)).setCell ⟨gb210, 2, none⟩ (.int .i64 t207)).setCell ⟨gb210, 3, none⟩ (.int .i64 t208)) = w50 at n0_ n1_ n2_ n3_ n4_ n5_ n6_ n7_ n8_ ⊢
  have BK183 := n0_; have BK184 := n1_; have BK185 := n2_; have BK186 := n3_; have BK199 := n4_; have BK200 := n5_; have BK209 := n6_; have BK210 := n7_; have HB := n8_; clear n0_ n1_ n2_ n3_ n4_ n5_ n6_ n7_ n8_; replace BK183 := Aside0.mk (blk_drew BK183.out); replace BK184 := Aside0.mk (blk_drew BK184.out); replace BK185 := Aside0.mk (blk_drew BK185.out); replace BK186 := Aside0.mk (blk_drew BK186.out); replace BK199 := Aside0.mk (blk_drew BK199.out); replace BK200 := Aside0.mk (blk_drew BK200.out); replace BK209 := Aside0.mk (blk_drew BK209.out); replace BK210 := Aside0.mk (blk_drew BK210.out); replace HB := Aside0.mk (below_drew1 HB.out)
  refine start_ (n := 46) (S := fun w' => w'.cell? ⟨gb183, 0, none⟩ = some (.bool true) ∧ w'.cell? ⟨gb183, 1, none⟩ = some (.int .i64 a0_1) ∧ w'.cell? ⟨gb183, 2, none⟩ = some (.int .i64 a0_2) ∧ w'.cell? ⟨gb183, 3, none⟩ = some (.int .i64 a0_3) ∧ w'.cell? ⟨gb183, 4, none⟩ = some (.int .i64 a0_4) ∧ w'.cell? ⟨gb183, 5, none⟩ = some (.int .i64 a0_5) ∧ w'.cell? ⟨gb183, 6, none⟩ = some (.int .i64 a0_6) ∧ w'.cell? ⟨gb183, 7, none⟩ = some (.int .i64 a0_7) ∧ w'.cell? ⟨gb184, 0, none⟩ = some (.int .i64 a1_0) ∧ w'.cell? ⟨gb184, 1, none⟩ = some (.int .i64 a1_1) ∧ w'.cell? ⟨gb184, 2, none⟩ = some (.int .i64 a1_2) ∧ w'.cell? ⟨gb184, 3, none⟩ = some (.int .i64 a1_3) ∧ w'.cell? ⟨gb199, 0, none⟩ = some (.int .i64 t191) ∧ w'.cell? ⟨gb199, 1, none⟩ = some (.int .i64 t192) ∧ w'.cell? ⟨gb199, 2, none⟩ = some (.int .i64 t193) ∧ w'.cell? ⟨gb199, 3, none⟩ = some (.int .i64 t194) ∧ w'.cell? ⟨gb185, 0, none⟩ = some (.int .i64 a2_0) ∧ w'.cell? ⟨gb185, 1, none⟩ = some (.int .i64 a2_1) ∧ w'.cell? ⟨gb185, 2, none⟩ = some (.int .i64 a2_2) ∧ w'.cell? ⟨gb185, 3, none⟩ = some (.int .i64 a2_3) ∧ w'.cell? ⟨gb200, 0, none⟩ = some (.int .i64 t195) ∧ w'.cell? ⟨gb200, 1, none⟩ = some (.int .i64 t196) ∧ w'.cell? ⟨gb200, 2, none⟩ = some (.int .i64 t197) ∧ w'.cell? ⟨gb200, 3, none⟩ = some (.int .i64 t198) ∧ w'.cell? ⟨gb209, 0, none⟩ = some (.int .i64 t201) ∧ w'.cell? ⟨gb209, 1, none⟩ = some (.int .i64 t202) ∧ w'.cell? ⟨gb209, 2, none⟩ = some (.int .i64 t203) ∧ w'.cell? ⟨gb209, 3, none⟩ = some (.int .i64 t204) ∧ w'.cell? ⟨gb210, 0, none⟩ = some (.int .i64 t205) ∧ w'.cell? ⟨gb210, 1, none⟩ = some (.int .i64 t206) ∧ w'.cell? ⟨gb210, 2, none⟩ = some (.int .i64 t207) ∧ w'.cell? ⟨gb210, 3, none⟩ = some (.int .i64 t208)) (ds := []) #[false, false, false, false, false, false, false, false, false, false, false, false, false, false, false, false, false, false, false, false, false, false, false, false, false, false, false, false, false, false, false, false, false, false, false, false, false, false, false, false, false, false, false, false, false, false] (by kernel_rfl) rfl rfl ⟨bc BK183 0, bc BK183 1, bc BK183 2, bc BK183 3, bc BK183 4, bc BK183 5, bc BK183 6, bc BK183 7, bc BK184 0, bc BK184 1, bc BK184 2, bc BK184 3, bc BK199 0, bc BK199 1, bc BK199 2, bc BK199 3, bc BK185 0, bc BK185 1, bc BK185 2, bc BK185 3, bc BK200 0, bc BK200 1, bc BK200 2, bc BK200 3, bc BK209 0, bc BK209 1, bc BK209 2, bc BK209 3, bc BK210 0, bc BK210 1, bc BK210 2, bc BK210 3⟩ (fun hHeld => ?_); refine with_tabW blend_Blend.tab5 blend_Blend.bits5 (fun HT_ HW_ => ?_)
  generalize w50.drew = w51 at BK183 BK184 BK185 BK186 BK199 BK200 BK209 BK210 HB hHeld ⊢
  refine pure_ (i := 0) (N := some 47) (v := ?_) (a' := ?_) #[true, false, false, false, false, false, false, false, false, false, false, false, false, false, false, false, false, false, false, false, false, false, false, false, false, false, false, false, false, false, false, false, false, false, false, false, false, false, false, false, false, false, false, false, false, false] rfl rfl (any_of HT_.out (by kernel_rfl)) (fun _ _ _ h => h) (Or.inl ⟨by rfl, ?_⟩) ?_ ?_
  rotate_left
  ·intro w'
   go_simp
   with_reducible rfl
  rotate_left
  ·simp only [Act.put, List.setIfInBounds_toArray, List.set_cons_zero, List.set_cons_succ, i64_w, i32_w]
   rfl
  refine pure_ (i := 2) (N := some 49) (v := ?_) (a' := ?_) #[true, false, true, false, false, false, false, false, false, false, false, false, false, false, false, false, false, false, false, false, false, false, false, false, false, false, false, false, false, false, false, false, false, false, false, false, false, false, false, false, false, false, false, false, false, false] rfl rfl (any_of HT_.out (by kernel_rfl)) (fun _ _ _ h => h) (Or.inl ⟨by rfl, ?_⟩) ?_ ?_
  rotate_left
  ·intro w'
   go_simp
   with_reducible rfl
  rotate_left
  ·simp only [Act.put, List.setIfInBounds_toArray, List.set_cons_zero, List.set_cons_succ, i64_w, i32_w]
   rfl
  refine pure_ (i := 4) (N := some 51) (v := ?_) (a' := ?_) #[true, false, true, false, true, false, false, false, false, false, false, false, false, false, false, false, false, false, false, false, false, false, false, false, false, false, false, false, false, false, false, false, false, false, false, false, false, false, false, false, false, false, false, false, false, false] rfl rfl (any_of HT_.out (by kernel_rfl)) (fun _ _ _ h => h) (Or.inl ⟨by rfl, ?_⟩) ?_ ?_
  rotate_left
  ·intro w'
   go_simp
   with_reducible rfl
  rotate_left
  ·simp only [Act.put, List.setIfInBounds_toArray, List.set_cons_zero, List.set_cons_succ, i64_w, i32_w]
   rfl
  refine pure_ (i := 6) (N := some 53) (v := ?_) (a' := ?_) #[true, false, true, false, true, false, true, false, false, false, false, false, false, false, false, false, false, false, false, false, false, false, false, false, false, false, false, false, false, false, false, false, false, false, false, false, false, false, false, false, false, false, false, false, false, false] rfl rfl (any_of HT_.out (by kernel_rfl)) (fun _ _ _ h => h) (Or.inl ⟨by rfl, ?_⟩) ?_ ?_
  rotate_left
  ·intro w'
   go_simp
   with_reducible rfl
  rotate_left
  ·simp only [Act.put, List.setIfInBounds_toArray, List.set_cons_zero, List.set_cons_succ, i64_w, i32_w]
   rfl
  refine pure_ (i := 8) (N := some 55) (v := ?_) (a' := ?_) #[true, false, true, false, true, false, true, false, true, false, false, false, false, false, false, false, false, false, false, false, false, false, false, false, false, false, false, false, false, false, false, false, false, false, false, false, false, false, false, false, false, false, false, false, false, false] rfl rfl (any_of HT_.out (by kernel_rfl)) (fun _ _ _ h => h) (Or.inl ⟨by rfl, ?_⟩) ?_ ?_
  rotate_left
  ·intro w'
   go_simp
   with_reducible rfl
  rotate_left
  ·simp only [Act.put, List.setIfInBounds_toArray, List.set_cons_zero, List.set_cons_succ, i64_w, i32_w]
   rfl
  refine pure_ (i := 11) (N := some 58) (v := ?_) (a' := ?_) #[true, false, true, false, true, false, true, false, true, false, false, true, false, false, false, false, false, false, false, false, false, false, false, false, false, false, false, false, false, false, false, false, false, false, false, false, false, false, false, false, false, false, false, false, false, false] rfl rfl (any_of HT_.out (by kernel_rfl)) (fun _ _ _ h => h) (Or.inl ⟨by rfl, ?_⟩) ?_ ?_
  rotate_left
  ·intro w'
   go_simp
   with_reducible rfl
  rotate_left
  ·simp only [Act.put, List.setIfInBounds_toArray, List.set_cons_zero, List.set_cons_succ, i64_w, i32_w]
   rfl
  refine pure_ (i := 13) (N := some 60) (v := ?_) (a' := ?_) #[true, false, true, false, true, false, true, false, true, false, false, true, false, true, false, false, false, false, false, false, false, false, false, false, false, false, false, false, false, false, false, false, false, false, false, false, false, false, false, false, false, false, false, false, false, false] rfl rfl (any_of HT_.out (by kernel_rfl)) (fun _ _ _ h => h) (Or.inl ⟨by rfl, ?_⟩) ?_ ?_
  rotate_left
  ·intro w'
   go_simp
   with_reducible rfl
  rotate_left
  ·simp only [Act.put, List.setIfInBounds_toArray, List.set_cons_zero, List.set_cons_succ, i64_w, i32_w]
   rfl
  refine pure_ (i := 15) (N := some 62) (v := ?_) (a' := ?_) #[true, false, true, false, true, false, true, false, true, false, false, true, false, true, false, true, false, false, false, false, false, false, false, false, false, false, false, false, false, false, false, false, false, false, false, false, false, false, false, false, false, false, false, false, false, false] rfl rfl (any_of HT_.out (by kernel_rfl)) (fun _ _ _ h => h) (Or.inl ⟨by rfl, ?_⟩) ?_ ?_
  rotate_left
  ·intro w'
   go_simp
   with_reducible rfl
  rotate_left
  ·simp only [Act.put, List.setIfInBounds_toArray, List.set_cons_zero, List.set_cons_succ, i64_w, i32_w]
   rfl
  refine pure_ (i := 17) (N := some 64) (v := ?_) (a' := ?_) #[true, false, true, false, true, false, true, false, true, false, false, true, false, true, false, true, false, true, false, false, false, false, false, false, false, false, false, false, false, false, false, false, false, false, false, false, false, false, false, false, false, false, false, false, false, false] rfl rfl (any_of HT_.out (by kernel_rfl)) (fun _ _ _ h => h) (Or.inl ⟨by rfl, ?_⟩) ?_ ?_
  rotate_left
  ·intro w'
   go_simp
   with_reducible rfl
  rotate_left
  ·simp only [Act.put, List.setIfInBounds_toArray, List.set_cons_zero, List.set_cons_succ, i64_w, i32_w]
   rfl
  refine pure_ (i := 19) (N := some 66) (v := ?_) (a' := ?_) #[true, false, true, false, true, false, true, false, true, false, false, true, false, true, false, true, false, true, false, true, false, false, false, false, false, false, false, false, false, false, false, false, false, false, false, false, false, false, false, false, false, false, false, false, false, false] rfl rfl (any_of HT_.out (by kernel_rfl)) (fun _ _ _ h => h) (Or.inl ⟨by rfl, ?_⟩) ?_ ?_
  rotate_left
  ·intro w'
   go_simp
   with_reducible rfl
  rotate_left
  ·simp only [Act.put, List.setIfInBounds_toArray, List.set_cons_zero, List.set_cons_succ, i64_w, i32_w]
   rfl
  refine pure_ (i := 22) (N := some 69) (v := ?_) (a' := ?_) #[true, false, true, false, true, false, true, false, true, false, false, true, false, true, false, true, false, true, false, true, false, false, true, false, false, false, false, false, false, false, false, false, false, false, false, false, false, false, false, false, false, false, false, false, false, false] rfl rfl (any_of HT_.out (by kernel_rfl)) (fun _ _ _ h => h) (Or.inl ⟨by rfl, ?_⟩) ?_ ?_
  rotate_left
  ·intro w'
   go_simp
   with_reducible rfl
  rotate_left
  ·simp only [Act.put, List.setIfInBounds_toArray, List.set_cons_zero, List.set_cons_succ, i64_w, i32_w]
   rfl
  refine pure_ (i := 24) (N := some 71) (v := ?_) (a' := ?_) #[true, false, true, false, true, false, true, false, true, false, false, true, false, true, false, true, false, true, false, true, false, false, true, false, true, false, false, false, false, false, false, false, false, false, false, false, false, false, false, false, false, false, false, false, false, false] rfl rfl (any_of HT_.out (by kernel_rfl)) (fun _ _ _ h => h) (Or.inl ⟨by rfl, ?_⟩) ?_ ?_
  rotate_left
  ·intro w'
   go_simp
   with_reducible rfl
  rotate_left
  ·simp only [Act.put, List.setIfInBounds_toArray, List.set_cons_zero, List.set_cons_succ, i64_w, i32_w]
   rfl
  refine pure_ (i := 26) (N := some 73) (v := ?_) (a' := ?_) #[true, false, true, false, true, false, true, false, true, false, false, true, false, true, false, true, false, true, false, true, false, false, true, false, true, false, true, false, false, false, false, false, false, false, false, false, false, false, false, false, false, false, false, false, false, false] rfl rfl (any_of HT_.out (by kernel_rfl)) (fun _ _ _ h => h) (Or.inl ⟨by rfl, ?_⟩) ?_ ?_
  rotate_left
  ·intro w'
   go_simp
   with_reducible rfl
  rotate_left
  ·simp only [Act.put, List.setIfInBounds_toArray, List.set_cons_zero, List.set_cons_succ, i64_w, i32_w]
   rfl
  refine pure_ (i := 28) (N := some 75) (v := ?_) (a' := ?_) #[true, false, true, false, true, false, true, false, true, false, false, true, false, true, false, true, false, true, false, true, false, false, true, false, true, false, true, false, true, false, false, false, false, false, false, false, false, false, false, false, false, false, false, false, false, false] rfl rfl (any_of HT_.out (by kernel_rfl)) (fun _ _ _ h => h) (Or.inl ⟨by rfl, ?_⟩) ?_ ?_
  rotate_left
  ·intro w'
   go_simp
   with_reducible rfl
  rotate_left
  ·simp only [Act.put, List.setIfInBounds_toArray, List.set_cons_zero, List.set_cons_succ, i64_w, i32_w]
   rfl
  refine pure_ (i := 30) (N := some 77) (v := ?_) (a' := ?_) #[true, false, true, false, true, false, true, false, true, false, false, true, false, true, false, true, false, true, false, true, false, false, true, false, true, false, true, false, true, false, true, false, false, false, false, false, false, false, false, false, false, false, false, false, false, false] rfl rfl (any_of HT_.out (by kernel_rfl)) (fun _ _ _ h => h) (Or.inl ⟨by rfl, ?_⟩) ?_ ?_
  rotate_left
  ·intro w'
   go_simp
   with_reducible rfl
  rotate_left
  ·simp only [Act.put, List.setIfInBounds_toArray, List.set_cons_zero, List.set_cons_succ, i64_w, i32_w]
   rfl
  refine pure_ (i := 33) (N := some 80) (v := ?_) (a' := ?_) #[true, false, true, false, true, false, true, false, true, false, false, true, false, true, false, true, false, true, false, true, false, false, true, false, true, false, true, false, true, false, true, false, false, true, false, false, false, false, false, false, false, false, false, false, false, false] rfl rfl (any_of HT_.out (by kernel_rfl)) (fun _ _ _ h => h) (Or.inl ⟨by rfl, ?_⟩) ?_ ?_
  rotate_left
  ·intro w'
   go_simp
   with_reducible rfl
  rotate_left
  ·simp only [Act.put, List.setIfInBounds_toArray, List.set_cons_zero, List.set_cons_succ, i64_w, i32_w]
   rfl
  refine pure_ (i := 35) (N := some 82) (v := ?_) (a' := ?_) #[true, false, true, false, true, false, true, false, true, false, false, true, false, true, false, true, false, true, false, true, false, false, true, false, true, false, true, false, true, false, true, false, false, true, false, true, false, false, false, false, false, false, false, false, false, false] rfl rfl (any_of HT_.out (by kernel_rfl)) (fun _ _ _ h => h) (Or.inl ⟨by rfl, ?_⟩) ?_ ?_
  rotate_left
  ·intro w'
   go_simp
   with_reducible rfl
  rotate_left
  ·simp only [Act.put, List.setIfInBounds_toArray, List.set_cons_zero, List.set_cons_succ, i64_w, i32_w]
   rfl
  refine pure_ (i := 37) (N := some 84) (v := ?_) (a' := ?_) #[true, false, true, false, true, false, true, false, true, false, false, true, false, true, false, true, false, true, false, true, false, false, true, false, true, false, true, false, true, false, true, false, false, true, false, true, false, true, false, false, false, false, false, false, false, false] rfl rfl (any_of HT_.out (by kernel_rfl)) (fun _ _ _ h => h) (Or.inl ⟨by rfl, ?_⟩) ?_ ?_
  rotate_left
  ·intro w'
   go_simp
   with_reducible rfl
  rotate_left
  ·simp only [Act.put, List.setIfInBounds_toArray, List.set_cons_zero, List.set_cons_succ, i64_w, i32_w]
   rfl
  refine pure_ (i := 39) (N := some 86) (v := ?_) (a' := ?_) #[true, false, true, false, true, false, true, false, true, false, false, true, false, true, false, true, false, true, false, true, false, false, true, false, true, false, true, false, true, false, true, false, false, true, false, true, false, true, false, true, false, false, false, false, false, false] rfl rfl (any_of HT_.out (by kernel_rfl)) (fun _ _ _ h => h) (Or.inl ⟨by rfl, ?_⟩) ?_ ?_
  rotate_left
  ·intro w'
   go_simp
   with_reducible rfl
  rotate_left
  ·simp only [Act.put, List.setIfInBounds_toArray, List.set_cons_zero, List.set_cons_succ, i64_w, i32_w]
   rfl
  refine pure_ (i := 41) (N := some 88) (v := ?_) (a' := ?_) #[true, false, true, false, true, false, true, false, true, false, false, true, false, true, false, true, false, true, false, true, false, false, true, false, true, false, true, false, true, false, true, false, false, true, false, true, false, true, false, true, false, true, false, false, false, false] rfl rfl (any_of HT_.out (by kernel_rfl)) (fun _ _ _ h => h) (Or.inl ⟨by rfl, ?_⟩) ?_ ?_
  rotate_left
  ·intro w'
   go_simp
   with_reducible rfl
  rotate_left
  ·simp only [Act.put, List.setIfInBounds_toArray, List.set_cons_zero, List.set_cons_succ, i64_w, i32_w]
   rfl
  refine take_ (i := 1) (N := some 48) (v := ?_) (a' := ?_) #[true, true, true, false, true, false, true, false, true, false, false, true, false, true, false, true, false, true, false, true, false, false, true, false, true, false, true, false, true, false, true, false, false, true, false, true, false, true, false, true, false, true, false, false, false, false] rfl rfl (take_ofW HT_.out HW_.out (by kernel_rfl)) (fun _ _ _ h => h) (Or.inl ⟨by rfl, ?_⟩) hHeld ?_ ?_
  rotate_left
  ·rintro w' ⟨s0, s1, s2, s3, s4, s5, s6, s7, s8, s9, s10, s11, s12, s13, s14, s15, s16, s17, s18, s19, s20, s21, s22, s23, s24, s25, s26, s27, s28, s29, s30, s31⟩
   go_simp
   with_reducible rfl
  rotate_left
  ·simp only [Act.put, List.setIfInBounds_toArray, List.set_cons_zero, List.set_cons_succ, i64_w, i32_w]
   rfl
  refine take_ (i := 3) (N := some 50) (v := ?_) (a' := ?_) #[true, true, true, true, true, false, true, false, true, false, false, true, false, true, false, true, false, true, false, true, false, false, true, false, true, false, true, false, true, false, true, false, false, true, false, true, false, true, false, true, false, true, false, false, false, false] rfl rfl (take_ofW HT_.out HW_.out (by kernel_rfl)) (fun _ _ _ h => h) (Or.inl ⟨by rfl, ?_⟩) hHeld ?_ ?_
  rotate_left
  ·rintro w' ⟨s0, s1, s2, s3, s4, s5, s6, s7, s8, s9, s10, s11, s12, s13, s14, s15, s16, s17, s18, s19, s20, s21, s22, s23, s24, s25, s26, s27, s28, s29, s30, s31⟩
   go_simp
   with_reducible rfl
  rotate_left
  ·simp only [Act.put, List.setIfInBounds_toArray, List.set_cons_zero, List.set_cons_succ, i64_w, i32_w]
   rfl
  refine take_ (i := 5) (N := some 52) (v := ?_) (a' := ?_) #[true, true, true, true, true, true, true, false, true, false, false, true, false, true, false, true, false, true, false, true, false, false, true, false, true, false, true, false, true, false, true, false, false, true, false, true, false, true, false, true, false, true, false, false, false, false] rfl rfl (take_ofW HT_.out HW_.out (by kernel_rfl)) (fun _ _ _ h => h) (Or.inl ⟨by rfl, ?_⟩) hHeld ?_ ?_
  rotate_left
  ·rintro w' ⟨s0, s1, s2, s3, s4, s5, s6, s7, s8, s9, s10, s11, s12, s13, s14, s15, s16, s17, s18, s19, s20, s21, s22, s23, s24, s25, s26, s27, s28, s29, s30, s31⟩
   go_simp
   with_reducible rfl
  rotate_left
  ·simp only [Act.put, List.setIfInBounds_toArray, List.set_cons_zero, List.set_cons_succ, i64_w, i32_w]
   rfl
  refine take_ (i := 7) (N := some 54) (v := ?_) (a' := ?_) #[true, true, true, true, true, true, true, true, true, false, false, true, false, true, false, true, false, true, false, true, false, false, true, false, true, false, true, false, true, false, true, false, false, true, false, true, false, true, false, true, false, true, false, false, false, false] rfl rfl (take_ofW HT_.out HW_.out (by kernel_rfl)) (fun _ _ _ h => h) (Or.inl ⟨by rfl, ?_⟩) hHeld ?_ ?_
  rotate_left
  ·rintro w' ⟨s0, s1, s2, s3, s4, s5, s6, s7, s8, s9, s10, s11, s12, s13, s14, s15, s16, s17, s18, s19, s20, s21, s22, s23, s24, s25, s26, s27, s28, s29, s30, s31⟩
   go_simp
   with_reducible rfl
  rotate_left
  ·simp only [Act.put, List.setIfInBounds_toArray, List.set_cons_zero, List.set_cons_succ, i64_w, i32_w]
   rfl
  refine take_ (i := 9) (N := some 56) (v := ?_) (a' := ?_) #[true, true, true, true, true, true, true, true, true, true, false, true, false, true, false, true, false, true, false, true, false, false, true, false, true, false, true, false, true, false, true, false, false, true, false, true, false, true, false, true, false, true, false, false, false, false] rfl rfl (take_ofW HT_.out HW_.out (by kernel_rfl)) (fun _ _ _ h => h) (Or.inl ⟨by rfl, ?_⟩) hHeld ?_ ?_
  rotate_left
  ·rintro w' ⟨s0, s1, s2, s3, s4, s5, s6, s7, s8, s9, s10, s11, s12, s13, s14, s15, s16, s17, s18, s19, s20, s21, s22, s23, s24, s25, s26, s27, s28, s29, s30, s31⟩
   go_simp
   with_reducible rfl
  rotate_left
  ·simp only [Act.put, List.setIfInBounds_toArray, List.set_cons_zero, List.set_cons_succ, i64_w, i32_w]
   rfl
  refine take_ (i := 12) (N := some 59) (v := ?_) (a' := ?_) #[true, true, true, true, true, true, true, true, true, true, false, true, true, true, false, true, false, true, false, true, false, false, true, false, true, false, true, false, true, false, true, false, false, true, false, true, false, true, false, true, false, true, false, false, false, false] rfl rfl (take_ofW HT_.out HW_.out (by kernel_rfl)) (fun _ _ _ h => h) (Or.inl ⟨by rfl, ?_⟩) hHeld ?_ ?_
  rotate_left
  ·rintro w' ⟨s0, s1, s2, s3, s4, s5, s6, s7, s8, s9, s10, s11, s12, s13, s14, s15, s16, s17, s18, s19, s20, s21, s22, s23, s24, s25, s26, s27, s28, s29, s30, s31⟩
   go_simp
   with_reducible rfl
  rotate_left
  ·simp only [Act.put, List.setIfInBounds_toArray, List.set_cons_zero, List.set_cons_succ, i64_w, i32_w]
   rfl
  refine take_ (i := 14) (N := some 61) (v := ?_) (a' := ?_) #[true, true, true, true, true, true, true, true, true, true, false, true, true, true, true, true, false, true, false, true, false, false, true, false, true, false, true, false, true, false, true, false, false, true, false, true, false, true, false, true, false, true, false, false, false, false] rfl rfl (take_ofW HT_.out HW_.out (by kernel_rfl)) (fun _ _ _ h => h) (Or.inl ⟨by rfl, ?_⟩) hHeld ?_ ?_
  rotate_left
  ·rintro w' ⟨s0, s1, s2, s3, s4, s5, s6, s7, s8, s9, s10, s11, s12, s13, s14, s15, s16, s17, s18, s19, s20, s21, s22, s23, s24, s25, s26, s27, s28, s29, s30, s31⟩
   go_simp
   with_reducible rfl
  rotate_left
  ·simp only [Act.put, List.setIfInBounds_toArray, List.set_cons_zero, List.set_cons_succ, i64_w, i32_w]
   rfl
  refine take_ (i := 16) (N := some 63) (v := ?_) (a' := ?_) #[true, true, true, true, true, true, true, true, true, true, false, true, true, true, true, true, true, true, false, true, false, false, true, false, true, false, true, false, true, false, true, false, false, true, false, true, false, true, false, true, false, true, false, false, false, false] rfl rfl (take_ofW HT_.out HW_.out (by kernel_rfl)) (fun _ _ _ h => h) (Or.inl ⟨by rfl, ?_⟩) hHeld ?_ ?_
  rotate_left
  ·rintro w' ⟨s0, s1, s2, s3, s4, s5, s6, s7, s8, s9, s10, s11, s12, s13, s14, s15, s16, s17, s18, s19, s20, s21, s22, s23, s24, s25, s26, s27, s28, s29, s30, s31⟩
   go_simp
   with_reducible rfl
  rotate_left
  ·simp only [Act.put, List.setIfInBounds_toArray, List.set_cons_zero, List.set_cons_succ, i64_w, i32_w]
   rfl
  refine take_ (i := 18) (N := some 65) (v := ?_) (a' := ?_) #[true, true, true, true, true, true, true, true, true, true, false, true, true, true, true, true, true, true, true, true, false, false, true, false, true, false, true, false, true, false, true, false, false, true, false, true, false, true, false, true, false, true, false, false, false, false] rfl rfl (take_ofW HT_.out HW_.out (by kernel_rfl)) (fun _ _ _ h => h) (Or.inl ⟨by rfl, ?_⟩) hHeld ?_ ?_
  rotate_left
  ·rintro w' ⟨s0, s1, s2, s3, s4, s5, s6, s7, s8, s9, s10, s11, s12, s13, s14, s15, s16, s17, s18, s19, s20, s21, s22, s23, s24, s25, s26, s27, s28, s29, s30, s31⟩
   go_simp
   with_reducible rfl
  rotate_left
  ·simp only [Act.put, List.setIfInBounds_toArray, List.set_cons_zero, List.set_cons_succ, i64_w, i32_w]
   rfl
  refine take_ (i := 20) (N := some 67) (v := ?_) (a' := ?_) #[true, true, true, true, true, true, true, true, true, true, false, true, true, true, true, true, true, true, true, true, true, false, true, false, true, false, true, false, true, false, true, false, false, true, false, true, false, true, false, true, false, true, false, false, false, false] rfl rfl (take_ofW HT_.out HW_.out (by kernel_rfl)) (fun _ _ _ h => h) (Or.inl ⟨by rfl, ?_⟩) hHeld ?_ ?_
  rotate_left
  ·rintro w' ⟨s0, s1, s2, s3, s4, s5, s6, s7, s8, s9, s10, s11, s12, s13, s14, s15, s16, s17, s18, s19, s20, s21, s22, s23, s24, s25, s26, s27, s28, s29, s30, s31⟩
   go_simp
   with_reducible rfl
  rotate_left
  ·simp only [Act.put, List.setIfInBounds_toArray, List.set_cons_zero, List.set_cons_succ, i64_w, i32_w]
   rfl
  refine take_ (i := 23) (N := some 70) (v := ?_) (a' := ?_) #[true, true, true, true, true, true, true, true, true, true, false, true, true, true, true, true, true, true, true, true, true, false, true, true, true, false, true, false, true, false, true, false, false, true, false, true, false, true, false, true, false, true, false, false, false, false] rfl rfl (take_ofW HT_.out HW_.out (by kernel_rfl)) (fun _ _ _ h => h) (Or.inl ⟨by rfl, ?_⟩) hHeld ?_ ?_
  rotate_left
  ·rintro w' ⟨s0, s1, s2, s3, s4, s5, s6, s7, s8, s9, s10, s11, s12, s13, s14, s15, s16, s17, s18, s19, s20, s21, s22, s23, s24, s25, s26, s27, s28, s29, s30, s31⟩
   go_simp
   with_reducible rfl
  rotate_left
  ·simp only [Act.put, List.setIfInBounds_toArray, List.set_cons_zero, List.set_cons_succ, i64_w, i32_w]
   rfl
  refine take_ (i := 25) (N := some 72) (v := ?_) (a' := ?_) #[true, true, true, true, true, true, true, true, true, true, false, true, true, true, true, true, true, true, true, true, true, false, true, true, true, true, true, false, true, false, true, false, false, true, false, true, false, true, false, true, false, true, false, false, false, false] rfl rfl (take_ofW HT_.out HW_.out (by kernel_rfl)) (fun _ _ _ h => h) (Or.inl ⟨by rfl, ?_⟩) hHeld ?_ ?_
  rotate_left
  ·rintro w' ⟨s0, s1, s2, s3, s4, s5, s6, s7, s8, s9, s10, s11, s12, s13, s14, s15, s16, s17, s18, s19, s20, s21, s22, s23, s24, s25, s26, s27, s28, s29, s30, s31⟩
   go_simp
   with_reducible rfl
  rotate_left
  ·simp only [Act.put, List.setIfInBounds_toArray, List.set_cons_zero, List.set_cons_succ, i64_w, i32_w]
   rfl
  refine take_ (i := 27) (N := some 74) (v := ?_) (a' := ?_) #[true, true, true, true, true, true, true, true, true, true, false, true, true, true, true, true, true, true, true, true, true, false, true, true, true, true, true, true, true, false, true, false, false, true, false, true, false, true, false, true, false, true, false, false, false, false] rfl rfl (take_ofW HT_.out HW_.out (by kernel_rfl)) (fun _ _ _ h => h) (Or.inl ⟨by rfl, ?_⟩) hHeld ?_ ?_
  rotate_left
  ·rintro w' ⟨s0, s1, s2, s3, s4, s5, s6, s7, s8, s9, s10, s11, s12, s13, s14, s15, s16, s17, s18, s19, s20, s21, s22, s23, s24, s25, s26, s27, s28, s29, s30, s31⟩
   go_simp
   with_reducible rfl
  rotate_left
  ·simp only [Act.put, List.setIfInBounds_toArray, List.set_cons_zero, List.set_cons_succ, i64_w, i32_w]
   rfl
  refine take_ (i := 29) (N := some 76) (v := ?_) (a' := ?_) #[true, true, true, true, true, true, true, true, true, true, false, true, true, true, true, true, true, true, true, true, true, false, true, true, true, true, true, true, true, true, true, false, false, true, false, true, false, true, false, true, false, true, false, false, false, false] rfl rfl (take_ofW HT_.out HW_.out (by kernel_rfl)) (fun _ _ _ h => h) (Or.inl ⟨by rfl, ?_⟩) hHeld ?_ ?_
  rotate_left
  ·rintro w' ⟨s0, s1, s2, s3, s4, s5, s6, s7, s8, s9, s10, s11, s12, s13, s14, s15, s16, s17, s18, s19, s20, s21, s22, s23, s24, s25, s26, s27, s28, s29, s30, s31⟩
   go_simp
   with_reducible rfl
  rotate_left
  ·simp only [Act.put, List.setIfInBounds_toArray, List.set_cons_zero, List.set_cons_succ, i64_w, i32_w]
   rfl
  refine take_ (i := 31) (N := some 78) (v := ?_) (a' := ?_) #[true, true, true, true, true, true, true, true, true, true, false, true, true, true, true, true, true, true, true, true, true, false, true, true, true, true, true, true, true, true, true, true, false, true, false, true, false, true, false, true, false, true, false, false, false, false] rfl rfl (take_ofW HT_.out HW_.out (by kernel_rfl)) (fun _ _ _ h => h) (Or.inl ⟨by rfl, ?_⟩) hHeld ?_ ?_
  rotate_left
  ·rintro w' ⟨s0, s1, s2, s3, s4, s5, s6, s7, s8, s9, s10, s11, s12, s13, s14, s15, s16, s17, s18, s19, s20, s21, s22, s23, s24, s25, s26, s27, s28, s29, s30, s31⟩
   go_simp
   with_reducible rfl
  rotate_left
  ·simp only [Act.put, List.setIfInBounds_toArray, List.set_cons_zero, List.set_cons_succ, i64_w, i32_w]
   rfl
  refine take_ (i := 34) (N := some 81) (v := ?_) (a' := ?_) #[true, true, true, true, true, true, true, true, true, true, false, true, true, true, true, true, true, true, true, true, true, false, true, true, true, true, true, true, true, true, true, true, false, true, true, true, false, true, false, true, false, true, false, false, false, false] rfl rfl (take_ofW HT_.out HW_.out (by kernel_rfl)) (fun _ _ _ h => h) (Or.inl ⟨by rfl, ?_⟩) hHeld ?_ ?_
  rotate_left
  ·rintro w' ⟨s0, s1, s2, s3, s4, s5, s6, s7, s8, s9, s10, s11, s12, s13, s14, s15, s16, s17, s18, s19, s20, s21, s22, s23, s24, s25, s26, s27, s28, s29, s30, s31⟩
   go_simp
   with_reducible rfl
  rotate_left
  ·simp only [Act.put, List.setIfInBounds_toArray, List.set_cons_zero, List.set_cons_succ, i64_w, i32_w]
   rfl
  refine take_ (i := 36) (N := some 83) (v := ?_) (a' := ?_) #[true, true, true, true, true, true, true, true, true, true, false, true, true, true, true, true, true, true, true, true, true, false, true, true, true, true, true, true, true, true, true, true, false, true, true, true, true, true, false, true, false, true, false, false, false, false] rfl rfl (take_ofW HT_.out HW_.out (by kernel_rfl)) (fun _ _ _ h => h) (Or.inl ⟨by rfl, ?_⟩) hHeld ?_ ?_
  rotate_left
  ·rintro w' ⟨s0, s1, s2, s3, s4, s5, s6, s7, s8, s9, s10, s11, s12, s13, s14, s15, s16, s17, s18, s19, s20, s21, s22, s23, s24, s25, s26, s27, s28, s29, s30, s31⟩
   go_simp
   with_reducible rfl
  rotate_left
  ·simp only [Act.put, List.setIfInBounds_toArray, List.set_cons_zero, List.set_cons_succ, i64_w, i32_w]
   rfl
  refine take_ (i := 38) (N := some 85) (v := ?_) (a' := ?_) #[true, true, true, true, true, true, true, true, true, true, false, true, true, true, true, true, true, true, true, true, true, false, true, true, true, true, true, true, true, true, true, true, false, true, true, true, true, true, true, true, false, true, false, false, false, false] rfl rfl (take_ofW HT_.out HW_.out (by kernel_rfl)) (fun _ _ _ h => h) (Or.inl ⟨by rfl, ?_⟩) hHeld ?_ ?_
  rotate_left
  ·rintro w' ⟨s0, s1, s2, s3, s4, s5, s6, s7, s8, s9, s10, s11, s12, s13, s14, s15, s16, s17, s18, s19, s20, s21, s22, s23, s24, s25, s26, s27, s28, s29, s30, s31⟩
   go_simp
   with_reducible rfl
  rotate_left
  ·simp only [Act.put, List.setIfInBounds_toArray, List.set_cons_zero, List.set_cons_succ, i64_w, i32_w]
   rfl
  refine take_ (i := 40) (N := some 87) (v := ?_) (a' := ?_) #[true, true, true, true, true, true, true, true, true, true, false, true, true, true, true, true, true, true, true, true, true, false, true, true, true, true, true, true, true, true, true, true, false, true, true, true, true, true, true, true, true, true, false, false, false, false] rfl rfl (take_ofW HT_.out HW_.out (by kernel_rfl)) (fun _ _ _ h => h) (Or.inl ⟨by rfl, ?_⟩) hHeld ?_ ?_
  rotate_left
  ·rintro w' ⟨s0, s1, s2, s3, s4, s5, s6, s7, s8, s9, s10, s11, s12, s13, s14, s15, s16, s17, s18, s19, s20, s21, s22, s23, s24, s25, s26, s27, s28, s29, s30, s31⟩
   go_simp
   with_reducible rfl
  rotate_left
  ·simp only [Act.put, List.setIfInBounds_toArray, List.set_cons_zero, List.set_cons_succ, i64_w, i32_w]
   rfl
  refine take_ (i := 42) (N := some 89) (v := ?_) (a' := ?_) #[true, true, true, true, true, true, true, true, true, true, false, true, true, true, true, true, true, true, true, true, true, false, true, true, true, true, true, true, true, true, true, true, false, true, true, true, true, true, true, true, true, true, true, false, false, false] rfl rfl (take_ofW HT_.out HW_.out (by kernel_rfl)) (fun _ _ _ h => h) (Or.inl ⟨by rfl, ?_⟩) hHeld ?_ ?_
  rotate_left
  ·rintro w' ⟨s0, s1, s2, s3, s4, s5, s6, s7, s8, s9, s10, s11, s12, s13, s14, s15, s16, s17, s18, s19, s20, s21, s22, s23, s24, s25, s26, s27, s28, s29, s30, s31⟩
   go_simp
   with_reducible rfl
  rotate_left
  ·simp only [Act.put, List.setIfInBounds_toArray, List.set_cons_zero, List.set_cons_succ, i64_w, i32_w]
   rfl
  refine one_ (i := 10) (N := some 57) #[true, true, true, true, true, true, true, true, true, true, true, true, true, true, true, true, true, true, true, true, true, false, true, true, true, true, true, true, true, true, true, true, false, true, true, true, true, true, true, true, true, true, true, false, false, false] rfl rfl (one_of HT_.out (by kernel_rfl)) (by decide) (fun K hK => ?_)
  refine goes_ Try.func12 (by kernel_rfl) rfl #[.int .i64 a0_3, .int .i64 a1_0, .int .i64 t191, .int .i64 a2_0, .int .i64 t195] (by rfl) rfl rfl (by (try simp only [List.map_toArray, List.map_cons, List.map_nil]); first | done | rfl | (simp only [List.length_drop, List.length_take]; rfl)) ?_
  with_reducible refine (blend_Combine.calls k a0_3 a1_0 t191 a2_0 t195 t211 _ A9.out).mono ?_; rintro e w52 ⟨rfl, hb⟩; refine ⟨_, rfl, ?_⟩; replace BK183 := ub BK183 hb; replace BK184 := ub BK184 hb; replace BK185 := ub BK185 hb; replace BK186 := ub BK186 hb; replace BK199 := ub BK199 hb; replace BK200 := ub BK200 hb; replace BK209 := ub BK209 hb; replace BK210 := ub BK210 hb; replace HB := bs HB hb; (try clear hb); (try clear hb2); (try clear hk); (try clear hi)
  refine hK.out _ _ ⟨bc BK183 0, bc BK183 1, bc BK183 2, bc BK183 3, bc BK183 4, bc BK183 5, bc BK183 6, bc BK183 7, bc BK184 0, bc BK184 1, bc BK184 2, bc BK184 3, bc BK199 0, bc BK199 1, bc BK199 2, bc BK199 3, bc BK185 0, bc BK185 1, bc BK185 2, bc BK185 3, bc BK200 0, bc BK200 1, bc BK200 2, bc BK200 3, bc BK209 0, bc BK209 1, bc BK209 2, bc BK209 3, bc BK210 0, bc BK210 1, bc BK210 2, bc BK210 3⟩ (fun hHeld => ?_)
  clear hK K
  refine norm_ (a' := ?_) ?_ ?_
  rotate_left
  ·show Act.put _ (some 57) _ = _
   simp only [Act.put, List.setIfInBounds_toArray, List.set_cons_zero, List.set_cons_succ, i64_w, i32_w]
   rfl
  refine one_ (i := 21) (N := some 68) #[true, true, true, true, true, true, true, true, true, true, true, true, true, true, true, true, true, true, true, true, true, true, true, true, true, true, true, true, true, true, true, true, false, true, true, true, true, true, true, true, true, true, true, false, false, false] rfl rfl (one_of HT_.out (by kernel_rfl)) (by decide) (fun K hK => ?_)
  refine goes_ Try.func12 (by kernel_rfl) rfl #[.int .i64 a0_3, .int .i64 a1_1, .int .i64 t192, .int .i64 a2_1, .int .i64 t196] (by rfl) rfl rfl (by (try simp only [List.map_toArray, List.map_cons, List.map_nil]); first | done | rfl | (simp only [List.length_drop, List.length_take]; rfl)) ?_
  with_reducible refine (blend_Combine.calls k a0_3 a1_1 t192 a2_1 t196 t212 _ A10.out).mono ?_; rintro e w53 ⟨rfl, hb⟩; refine ⟨_, rfl, ?_⟩; replace BK183 := ub BK183 hb; replace BK184 := ub BK184 hb; replace BK185 := ub BK185 hb; replace BK186 := ub BK186 hb; replace BK199 := ub BK199 hb; replace BK200 := ub BK200 hb; replace BK209 := ub BK209 hb; replace BK210 := ub BK210 hb; replace HB := bs HB hb; (try clear hb); (try clear hb2); (try clear hk); (try clear hi)
  refine hK.out _ _ ⟨bc BK183 0, bc BK183 1, bc BK183 2, bc BK183 3, bc BK183 4, bc BK183 5, bc BK183 6, bc BK183 7, bc BK184 0, bc BK184 1, bc BK184 2, bc BK184 3, bc BK199 0, bc BK199 1, bc BK199 2, bc BK199 3, bc BK185 0, bc BK185 1, bc BK185 2, bc BK185 3, bc BK200 0, bc BK200 1, bc BK200 2, bc BK200 3, bc BK209 0, bc BK209 1, bc BK209 2, bc BK209 3, bc BK210 0, bc BK210 1, bc BK210 2, bc BK210 3⟩ (fun hHeld => ?_)
  clear hK K
  refine norm_ (a' := ?_) ?_ ?_
  rotate_left
  ·show Act.put _ (some 68) _ = _
   simp only [Act.put, List.setIfInBounds_toArray, List.set_cons_zero, List.set_cons_succ, i64_w, i32_w]
   rfl
  refine one_ (i := 32) (N := some 79) #[true, true, true, true, true, true, true, true, true, true, true, true, true, true, true, true, true, true, true, true, true, true, true, true, true, true, true, true, true, true, true, true, true, true, true, true, true, true, true, true, true, true, true, false, false, false] rfl rfl (one_of HT_.out (by kernel_rfl)) (by decide) (fun K hK => ?_)
  refine goes_ Try.func12 (by kernel_rfl) rfl #[.int .i64 a0_3, .int .i64 a1_2, .int .i64 t193, .int .i64 a2_2, .int .i64 t197] (by rfl) rfl rfl (by (try simp only [List.map_toArray, List.map_cons, List.map_nil]); first | done | rfl | (simp only [List.length_drop, List.length_take]; rfl)) ?_
  with_reducible refine (blend_Combine.calls k a0_3 a1_2 t193 a2_2 t197 t213 _ A11.out).mono ?_; rintro e w54 ⟨rfl, hb⟩; refine ⟨_, rfl, ?_⟩; replace BK183 := ub BK183 hb; replace BK184 := ub BK184 hb; replace BK185 := ub BK185 hb; replace BK186 := ub BK186 hb; replace BK199 := ub BK199 hb; replace BK200 := ub BK200 hb; replace BK209 := ub BK209 hb; replace BK210 := ub BK210 hb; replace HB := bs HB hb; (try clear hb); (try clear hb2); (try clear hk); (try clear hi)
  refine hK.out _ _ ⟨bc BK183 0, bc BK183 1, bc BK183 2, bc BK183 3, bc BK183 4, bc BK183 5, bc BK183 6, bc BK183 7, bc BK184 0, bc BK184 1, bc BK184 2, bc BK184 3, bc BK199 0, bc BK199 1, bc BK199 2, bc BK199 3, bc BK185 0, bc BK185 1, bc BK185 2, bc BK185 3, bc BK200 0, bc BK200 1, bc BK200 2, bc BK200 3, bc BK209 0, bc BK209 1, bc BK209 2, bc BK209 3, bc BK210 0, bc BK210 1, bc BK210 2, bc BK210 3⟩ (fun hHeld => ?_)
  clear hK K
  refine norm_ (a' := ?_) ?_ ?_
  rotate_left
  ·show Act.put _ (some 79) _ = _
   simp only [Act.put, List.setIfInBounds_toArray, List.set_cons_zero, List.set_cons_succ, i64_w, i32_w]
   rfl
  refine one_ (i := 43) (N := some 90) #[true, true, true, true, true, true, true, true, true, true, true, true, true, true, true, true, true, true, true, true, true, true, true, true, true, true, true, true, true, true, true, true, true, true, true, true, true, true, true, true, true, true, true, true, false, false] rfl rfl (one_of HT_.out (by kernel_rfl)) (by decide) (fun K hK => ?_)
  refine goes_ Try.func12 (by kernel_rfl) rfl #[.int .i64 a0_6, .int .i64 a1_3, .int .i64 t204, .int .i64 a2_3, .int .i64 t208] (by rfl) rfl rfl (by (try simp only [List.map_toArray, List.map_cons, List.map_nil]); first | done | rfl | (simp only [List.length_drop, List.length_take]; rfl)) ?_
  with_reducible refine (blend_Combine.calls k a0_6 a1_3 t204 a2_3 t208 t214 _ A12.out).mono ?_; rintro e w55 ⟨rfl, hb⟩; refine ⟨_, rfl, ?_⟩; replace BK183 := ub BK183 hb; replace BK184 := ub BK184 hb; replace BK185 := ub BK185 hb; replace BK186 := ub BK186 hb; replace BK199 := ub BK199 hb; replace BK200 := ub BK200 hb; replace BK209 := ub BK209 hb; replace BK210 := ub BK210 hb; replace HB := bs HB hb; (try clear hb); (try clear hb2); (try clear hk); (try clear hi)
  refine hK.out _ _ ⟨bc BK183 0, bc BK183 1, bc BK183 2, bc BK183 3, bc BK183 4, bc BK183 5, bc BK183 6, bc BK183 7, bc BK184 0, bc BK184 1, bc BK184 2, bc BK184 3, bc BK199 0, bc BK199 1, bc BK199 2, bc BK199 3, bc BK185 0, bc BK185 1, bc BK185 2, bc BK185 3, bc BK200 0, bc BK200 1, bc BK200 2, bc BK200 3, bc BK209 0, bc BK209 1, bc BK209 2, bc BK209 3, bc BK210 0, bc BK210 1, bc BK210 2, bc BK210 3⟩ (fun hHeld => ?_)
  clear hK K
  refine norm_ (a' := ?_) ?_ ?_
  rotate_left
  ·show Act.put _ (some 90) _ = _
   simp only [Act.put, List.setIfInBounds_toArray, List.set_cons_zero, List.set_cons_succ, i64_w, i32_w]
   rfl
  refine pure_ (i := 44) (N := some 91) (v := ?_) (a' := ?_) #[true, true, true, true, true, true, true, true, true, true, true, true, true, true, true, true, true, true, true, true, true, true, true, true, true, true, true, true, true, true, true, true, true, true, true, true, true, true, true, true, true, true, true, true, true, false] rfl rfl (any_of HT_.out (by kernel_rfl)) (fun _ _ _ h => h) (Or.inl ⟨by rfl, ?_⟩) ?_ ?_
  rotate_left
  ·intro w'
   go_simp
   with_reducible rfl
  rotate_left
  ·simp only [Act.put, List.setIfInBounds_toArray, List.set_cons_zero, List.set_cons_succ, i64_w, i32_w]
   rfl
  refine one_ (i := 45) (N := none) #[true, true, true, true, true, true, true, true, true, true, true, true, true, true, true, true, true, true, true, true, true, true, true, true, true, true, true, true, true, true, true, true, true, true, true, true, true, true, true, true, true, true, true, true, true, true] rfl rfl (one_of HT_.out (by kernel_rfl)) (by decide) (fun K hK => ?_)
  have hs56 : w55.cell? ⟨gb186, 0, none⟩ = some (.int .i64 0) := bc BK186 0
  have hfs56 := blk_frozen BK186.out 0; have hns56_0 := NB183_186.out; have hns56_1 := NB184_186.out; have hns56_2 := NB185_186.out; have hns56_4 := NB199_186.out; have hns56_5 := NB200_186.out; have hns56_6 := NB209_186.out; have hns56_7 := NB210_186.out; have hms56_0 := NB186_183.out; have hms56_1 := NB186_184.out; have hms56_2 := NB186_185.out; have hms56_4 := NB186_199.out; have hms56_5 := NB186_200.out; have hms56_6 := NB186_209.out; have hms56_7 := NB186_210.out
  have hs57 : w55.cell? ⟨gb186, 1, none⟩ = some (.int .i64 0) := bc BK186 1
  have hfs57 := blk_frozen BK186.out 1; have hns57_0 := NB183_186.out; have hns57_1 := NB184_186.out; have hns57_2 := NB185_186.out; have hns57_4 := NB199_186.out; have hns57_5 := NB200_186.out; have hns57_6 := NB209_186.out; have hns57_7 := NB210_186.out; have hms57_0 := NB186_183.out; have hms57_1 := NB186_184.out; have hms57_2 := NB186_185.out; have hms57_4 := NB186_199.out; have hms57_5 := NB186_200.out; have hms57_6 := NB186_209.out; have hms57_7 := NB186_210.out
  have hs58 : w55.cell? ⟨gb186, 2, none⟩ = some (.int .i64 0) := bc BK186 2
  have hfs58 := blk_frozen BK186.out 2; have hns58_0 := NB183_186.out; have hns58_1 := NB184_186.out; have hns58_2 := NB185_186.out; have hns58_4 := NB199_186.out; have hns58_5 := NB200_186.out; have hns58_6 := NB209_186.out; have hns58_7 := NB210_186.out; have hms58_0 := NB186_183.out; have hms58_1 := NB186_184.out; have hms58_2 := NB186_185.out; have hms58_4 := NB186_199.out; have hms58_5 := NB186_200.out; have hms58_6 := NB186_209.out; have hms58_7 := NB186_210.out
  have hs59 : w55.cell? ⟨gb186, 3, none⟩ = some (.int .i64 0) := bc BK186 3
  have hfs59 := blk_frozen BK186.out 3; have hns59_0 := NB183_186.out; have hns59_1 := NB184_186.out; have hns59_2 := NB185_186.out; have hns59_4 := NB199_186.out; have hns59_5 := NB200_186.out; have hns59_6 := NB209_186.out; have hns59_7 := NB210_186.out; have hms59_0 := NB186_183.out; have hms59_1 := NB186_184.out; have hms59_2 := NB186_185.out; have hms59_4 := NB186_199.out; have hms59_5 := NB186_200.out; have hms59_6 := NB186_209.out; have hms59_7 := NB186_210.out
  refine skip_ (w1 := ?_) (by rfl) rfl ?_ ?_
  rotate_left
  ·go_simp
   rfl
  refine hK.out _ _ ⟨(cf NB183_186 ((cf NB183_186 ((cf NB183_186 ((cf NB183_186 (hHeld.1)))))))), (cf NB183_186 ((cf NB183_186 ((cf NB183_186 ((cf NB183_186 (hHeld.2.1)))))))), (cf NB183_186 ((cf NB183_186 ((cf NB183_186 ((cf NB183_186 (hHeld.2.2.1)))))))), (cf NB183_186 ((cf NB183_186 ((cf NB183_186 ((cf NB183_186 (hHeld.2.2.2.1)))))))), (cf NB183_186 ((cf NB183_186 ((cf NB183_186 ((cf NB183_186 (hHeld.2.2.2.2.1)))))))), (cf NB183_186 ((cf NB183_186 ((cf NB183_186 ((cf NB183_186 (hHeld.2.2.2.2.2.1)))))))), (cf NB183_186 ((cf NB183_186 ((cf NB183_186 ((cf NB183_186 (hHeld.2.2.2.2.2.2.1)))))))), (cf NB183_186 ((cf NB183_186 ((cf NB183_186 ((cf NB183_186 (hHeld.2.2.2.2.2.2.2.1)))))))), (cf NB184_186 ((cf NB184_186 ((cf NB184_186 ((cf NB184_186 (hHeld.2.2.2.2.2.2.2.2.1)))))))), (cf NB184_186 ((cf NB184_186 ((cf NB184_186 ((cf NB184_186 (hHeld.2.2.2.2.2.2.2.2.2.1)))))))), (cf NB184_186 ((cf NB184_186 ((cf NB184_186 ((cf NB184_186 (hHeld.2.2.2.2.2.2.2.2.2.2.1)))))))), (cf NB184_186 ((cf NB184_186 ((cf NB184_186 ((cf NB184_186 (hHeld.2.2.2.2.2.2.2.2.2.2.2.1)))))))), (cf NB199_186 ((cf NB199_186 ((cf NB199_186 ((cf NB199_186 (hHeld.2.2.2.2.2.2.2.2.2.2.2.2.1)))))))), (cf NB199_186 ((cf NB199_186 ((cf NB199_186 ((cf NB199_186 (hHeld.2.2.2.2.2.2.2.2.2.2.2.2.2.1)))))))), (cf NB199_186 ((cf NB199_186 ((cf NB199_186 ((cf NB199_186 (hHeld.2.2.2.2.2.2.2.2.2.2.2.2.2.2.1)))))))), (cf NB199_186 ((cf NB199_186 ((cf NB199_186 ((cf NB199_186 (hHeld.2.2.2.2.2.2.2.2.2.2.2.2.2.2.2.1)))))))), (cf NB185_186 ((cf NB185_186 ((cf NB185_186 ((cf NB185_186 (hHeld.2.2.2.2.2.2.2.2.2.2.2.2.2.2.2.2.1)))))))), (cf NB185_186 ((cf NB185_186 ((cf NB185_186 ((cf NB185_186 (hHeld.2.2.2.2.2.2.2.2.2.2.2.2.2.2.2.2.2.1)))))))), (cf NB185_186 ((cf NB185_186 ((cf NB185_186 ((cf NB185_186 (hHeld.2.2.2.2.2.2.2.2.2.2.2.2.2.2.2.2.2.2.1)))))))), (cf NB185_186 ((cf NB185_186 ((cf NB185_186 ((cf NB185_186 (hHeld.2.2.2.2.2.2.2.2.2.2.2.2.2.2.2.2.2.2.2.1)))))))), (cf NB200_186 ((cf NB200_186 ((cf NB200_186 ((cf NB200_186 (hHeld.2.2.2.2.2.2.2.2.2.2.2.2.2.2.2.2.2.2.2.2.1)))))))), (cf NB200_186 ((cf NB200_186 ((cf NB200_186 ((cf NB200_186 (hHeld.2.2.2.2.2.2.2.2.2.2.2.2.2.2.2.2.2.2.2.2.2.1)))))))), (cf NB200_186 ((cf NB200_186 ((cf NB200_186 ((cf NB200_186 (hHeld.2.2.2.2.2.2.2.2.2.2.2.2.2.2.2.2.2.2.2.2.2.2.1)))))))), (cf NB200_186 ((cf NB200_186 ((cf NB200_186 ((cf NB200_186 (hHeld.2.2.2.2.2.2.2.2.2.2.2.2.2.2.2.2.2.2.2.2.2.2.2.1)))))))), (cf NB209_186 ((cf NB209_186 ((cf NB209_186 ((cf NB209_186 (hHeld.2.2.2.2.2.2.2.2.2.2.2.2.2.2.2.2.2.2.2.2.2.2.2.2.1)))))))), (cf NB209_186 ((cf NB209_186 ((cf NB209_186 ((cf NB209_186 (hHeld.2.2.2.2.2.2.2.2.2.2.2.2.2.2.2.2.2.2.2.2.2.2.2.2.2.1)))))))), (cf NB209_186 ((cf NB209_186 ((cf NB209_186 ((cf NB209_186 (hHeld.2.2.2.2.2.2.2.2.2.2.2.2.2.2.2.2.2.2.2.2.2.2.2.2.2.2.1)))))))), (cf NB209_186 ((cf NB209_186 ((cf NB209_186 ((cf NB209_186 (hHeld.2.2.2.2.2.2.2.2.2.2.2.2.2.2.2.2.2.2.2.2.2.2.2.2.2.2.2.1)))))))), (cf NB210_186 ((cf NB210_186 ((cf NB210_186 ((cf NB210_186 (hHeld.2.2.2.2.2.2.2.2.2.2.2.2.2.2.2.2.2.2.2.2.2.2.2.2.2.2.2.2.1)))))))), (cf NB210_186 ((cf NB210_186 ((cf NB210_186 ((cf NB210_186 (hHeld.2.2.2.2.2.2.2.2.2.2.2.2.2.2.2.2.2.2.2.2.2.2.2.2.2.2.2.2.2.1)))))))), (cf NB210_186 ((cf NB210_186 ((cf NB210_186 ((cf NB210_186 (hHeld.2.2.2.2.2.2.2.2.2.2.2.2.2.2.2.2.2.2.2.2.2.2.2.2.2.2.2.2.2.2.1)))))))), (cf NB210_186 ((cf NB210_186 ((cf NB210_186 ((cf NB210_186 (hHeld.2.2.2.2.2.2.2.2.2.2.2.2.2.2.2.2.2.2.2.2.2.2.2.2.2.2.2.2.2.2.2))))))))⟩ (fun hHeld => ?_)
  clear hK K
  refine done_ (done_of HT_.out (by kernel_rfl)) ?_
  try go_wp2
  refine bodyPost_ret (results_cell_row rfl _ _ gb186 27 #[.int .i64 t211, .int .i64 t212, .int .i64 t213, .int .i64 t214] (0, 0) _ rfl (by (with_reducible repeat (first | refine blk_drewN ?_ _ | refine blk_drew ?_ | refine blk_alloc ?_ _)); refine blk_put (cs := #[.int .i64 t211, .int .i64 t212, .int .i64 t213, .int .i64 0]) ?_ 3 _ rfl; (with_reducible repeat (first | refine blk_drewN ?_ _ | refine blk_drew ?_ | refine blk_alloc ?_ _)); refine blk_put (cs := #[.int .i64 t211, .int .i64 t212, .int .i64 0, .int .i64 0]) ?_ 2 _ rfl; (with_reducible repeat (first | refine blk_drewN ?_ _ | refine blk_drew ?_ | refine blk_alloc ?_ _)); refine blk_put (cs := #[.int .i64 t211, .int .i64 0, .int .i64 0, .int .i64 0]) ?_ 1 _ rfl; (with_reducible repeat (first | refine blk_drewN ?_ _ | refine blk_drew ?_ | refine blk_alloc ?_ _)); refine blk_put (cs := #[.int .i64 0, .int .i64 0, .int .i64 0, .int .i64 0]) ?_ 0 _ rfl; (with_reducible repeat (first | refine blk_drewN ?_ _ | refine blk_drew ?_ | refine blk_alloc ?_ _)); exact BK186.out) Try.underlying27 rfl (by kernel_rfl)) rfl ?_
  exact ⟨by first | rfl | (simp [errW_none, errW_some] <;> rfl) | (simp [*, errW_none, errW_some] <;> rfl), by repeat (first | (with_reducible first | exact HB.out | apply below_alloc | apply pw_below_drewN | apply below_drew1 | refine below_set ?_ GE183.out | refine below_set ?_ GE184.out | refine below_set ?_ GE185.out | refine below_set ?_ GE186.out | refine below_set ?_ GE199.out | refine below_set ?_ GE200.out | refine below_set ?_ GE209.out | refine below_set ?_ GE210.out) | exact HB.out)⟩
 ·replace c4 := Bool.eq_false_iff.mpr c4
  subst c4
  have H1 : ((fixed_Saturate.f a1_0).bind fun t187 => ((fixed_Saturate.f a1_1).bind fun t188 => ((fixed_Saturate.f a1_2).bind fun t189 => ((fixed_Saturate.f a1_3).bind fun t190 => (some (t187, t188, t189, t190)))))) = some (r1, r2, r3, r4) := by rw [if_neg (show ¬ (false = true) by decide)] at H; exact H
  clear H; have H := H1; clear H1
  replace H := Option.bind_eq_some_iff.mp H
  obtain ⟨t187, A600, H⟩ := H
  replace H : ((fixed_Saturate.f a1_1).bind fun t188 => ((fixed_Saturate.f a1_2).bind fun t189 => ((fixed_Saturate.f a1_3).bind fun t190 => (some (t187, t188, t189, t190))))) = some (r1, r2, r3, r4) := H
  have A60 := Aside0.mk A600; clear A600
  replace H := Option.bind_eq_some_iff.mp H
  obtain ⟨t188, A610, H⟩ := H
  replace H : ((fixed_Saturate.f a1_2).bind fun t189 => ((fixed_Saturate.f a1_3).bind fun t190 => (some (t187, t188, t189, t190)))) = some (r1, r2, r3, r4) := H
  have A61 := Aside0.mk A610; clear A610
  replace H := Option.bind_eq_some_iff.mp H
  obtain ⟨t189, A620, H⟩ := H
  replace H : ((fixed_Saturate.f a1_3).bind fun t190 => (some (t187, t188, t189, t190))) = some (r1, r2, r3, r4) := H
  have A62 := Aside0.mk A620; clear A620
  replace H := Option.bind_eq_some_iff.mp H
  obtain ⟨t190, A630, H⟩ := H
  replace H : (some (t187, t188, t189, t190)) = some (r1, r2, r3, r4) := H
  have A63 := Aside0.mk A630; clear A630
  simp only [Option.some.injEq, Prod.mk.injEq] at H
  obtain ⟨rfl, rfl, rfl, rfl⟩ := H
  go_enter Try.func9, Try.ntmps9
  try go_wp2_with (first | ((with_reducible refine gate_dst (N := 3) rfl ?_); refine box_event ?hg (N := 3) ?hd (cs := #[.bool false, .int .i64 a0_1, .int .i64 a0_2, .int .i64 a0_3, .int .i64 a0_4, .int .i64 a0_5, .int .i64 a0_6, .int .i64 a0_7]) (t := 25) ?hr ?_; (case hd => rfl); (case hg => rfl); (case hr => first | (go_simp; done) | (go_simp; rfl)); intro gb183 hg w64 hbox hb; have BK183 := Aside0.mk (hbox); have GW183 := ws HB hg; have GE183 := ws HB hg; replace HB := bs HB hb; clear hb hbox hg) | ((with_reducible refine gate_dst (N := 4) rfl ?_); refine box_event ?hg (N := 4) ?hd (cs := #[.int .i64 a1_0, .int .i64 a1_1, .int .i64 a1_2, .int .i64 a1_3]) (t := 27) ?hr ?_; (case hd => rfl); (case hg => rfl); (case hr => first | (go_simp; done) | (go_simp; rfl)); intro gb184 hg w65 hbox hb; have BK184 := Aside0.mk (hbox); have GW184 := ws HB hg; have GE184 := ws HB hg; have NB183_184 := nl BK183 hg; have NB184_183 := ng BK183 hg; replace BK183 := ub BK183 hb; replace HB := bs HB hb; clear hb hbox hg) | ((with_reducible refine gate_dst (N := 5) rfl ?_); refine box_event ?hg (N := 5) ?hd (cs := #[.int .i64 a2_0, .int .i64 a2_1, .int .i64 a2_2, .int .i64 a2_3]) (t := 27) ?hr ?_; (case hd => rfl); (case hg => rfl); (case hr => first | (go_simp; done) | (go_simp; rfl)); intro gb185 hg w66 hbox hb; have BK185 := Aside0.mk (hbox); have GW185 := ws HB hg; have GE185 := ws HB hg; have NB183_185 := nl BK183 hg; have NB185_183 := ng BK183 hg; have NB184_185 := nl BK184 hg; have NB185_184 := ng BK184 hg; replace BK183 := ub BK183 hb; replace BK184 := ub BK184 hb; replace HB := bs HB hb; clear hb hbox hg) | ((with_reducible refine gate_dst (N := 6) rfl ?_); refine box_event ?hg (N := 6) ?hd (cs := #[.int .i64 0, .int .i64 0, .int .i64 0, .int .i64 0]) (t := 27) ?hr ?_; (case hd => rfl); (case hg => rfl); (case hr => first | (go_simp; done) | (go_simp; rfl)); intro gb186 hg w67 hbox hb; have BK186 := Aside0.mk (hbox); have GW186 := ws HB hg; have GE186 := ws HB hg; have NB183_186 := nl BK183 hg; have NB186_183 := ng BK183 hg; have NB184_186 := nl BK184 hg; have NB186_184 := ng BK184 hg; have NB185_186 := nl BK185 hg; have NB186_185 := ng BK185 hg; replace BK183 := ub BK183 hb; replace BK184 := ub BK184 hb; replace BK185 := ub BK185 hb; replace HB := bs HB hb; clear hb hbox hg; have hnb68 := NB183_184.out; have hnc68 := NB184_183.out; have hnb69 := NB183_185.out; have hnc69 := NB185_183.out; have hnb70 := NB183_186.out; have hnc70 := NB186_183.out; have hcz71_0 : w67.cell? ⟨gb183, 0, none⟩ = some (.bool false) := bc BK183 0; have hcz71_1 : w67.cell? ⟨gb183, 1, none⟩ = some (.int .i64 a0_1) := bc BK183 1; have hcz71_2 : w67.cell? ⟨gb183, 2, none⟩ = some (.int .i64 a0_2) := bc BK183 2; have hcz71_3 : w67.cell? ⟨gb183, 3, none⟩ = some (.int .i64 a0_3) := bc BK183 3; have hcz71_4 : w67.cell? ⟨gb183, 4, none⟩ = some (.int .i64 a0_4) := bc BK183 4; have hcz71_5 : w67.cell? ⟨gb183, 5, none⟩ = some (.int .i64 a0_5) := bc BK183 5; have hcz71_6 : w67.cell? ⟨gb183, 6, none⟩ = some (.int .i64 a0_6) := bc BK183 6; have hcz71_7 : w67.cell? ⟨gb183, 7, none⟩ = some (.int .i64 a0_7) := bc BK183 7; have hfz71_0 := blk_frozen BK183.out 0; have hfz71_1 := blk_frozen BK183.out 1; have hfz71_2 := blk_frozen BK183.out 2; have hfz71_3 := blk_frozen BK183.out 3; have hfz71_4 := blk_frozen BK183.out 4; have hfz71_5 := blk_frozen BK183.out 5; have hfz71_6 := blk_frozen BK183.out 6; have hfz71_7 := blk_frozen BK183.out 7))
  replace BK183 := Aside0.mk (blk_drew BK183.out); replace BK184 := Aside0.mk (blk_drew BK184.out); replace BK185 := Aside0.mk (blk_drew BK185.out); replace BK186 := Aside0.mk (blk_drew BK186.out); replace HB := Aside0.mk (below_drew1 HB.out)
  refine start_ (n := 14) (S := fun w' => w'.cell? ⟨gb184, 0, none⟩ = some (.int .i64 a1_0) ∧ w'.cell? ⟨gb184, 1, none⟩ = some (.int .i64 a1_1) ∧ w'.cell? ⟨gb184, 2, none⟩ = some (.int .i64 a1_2) ∧ w'.cell? ⟨gb184, 3, none⟩ = some (.int .i64 a1_3)) (ds := []) #[false, false, false, false, false, false, false, false, false, false, false, false, false, false] (by kernel_rfl) rfl rfl ⟨bc BK184 0, bc BK184 1, bc BK184 2, bc BK184 3⟩ (fun hHeld => ?_); refine with_tabW blend_Blend.tab2 blend_Blend.bits2 (fun HT_ HW_ => ?_)
  generalize w67.drew = w72 at BK183 BK184 BK185 BK186 HB hHeld ⊢
  refine pure_ (i := 0) (N := some 14) (v := ?_) (a' := ?_) #[true, false, false, false, false, false, false, false, false, false, false, false, false, false] rfl rfl (any_of HT_.out (by kernel_rfl)) (fun _ _ _ h => h) (Or.inl ⟨by rfl, ?_⟩) ?_ ?_
  rotate_left
  ·intro w'
   go_simp
   with_reducible rfl
  rotate_left
  ·simp only [Act.put, List.setIfInBounds_toArray, List.set_cons_zero, List.set_cons_succ, i64_w, i32_w]
   rfl
  refine pure_ (i := 3) (N := some 17) (v := ?_) (a' := ?_) #[true, false, false, true, false, false, false, false, false, false, false, false, false, false] rfl rfl (any_of HT_.out (by kernel_rfl)) (fun _ _ _ h => h) (Or.inl ⟨by rfl, ?_⟩) ?_ ?_
  rotate_left
  ·intro w'
   go_simp
   with_reducible rfl
  rotate_left
  ·simp only [Act.put, List.setIfInBounds_toArray, List.set_cons_zero, List.set_cons_succ, i64_w, i32_w]
   rfl
  refine pure_ (i := 6) (N := some 20) (v := ?_) (a' := ?_) #[true, false, false, true, false, false, true, false, false, false, false, false, false, false] rfl rfl (any_of HT_.out (by kernel_rfl)) (fun _ _ _ h => h) (Or.inl ⟨by rfl, ?_⟩) ?_ ?_
  rotate_left
  ·intro w'
   go_simp
   with_reducible rfl
  rotate_left
  ·simp only [Act.put, List.setIfInBounds_toArray, List.set_cons_zero, List.set_cons_succ, i64_w, i32_w]
   rfl
  refine pure_ (i := 9) (N := some 23) (v := ?_) (a' := ?_) #[true, false, false, true, false, false, true, false, false, true, false, false, false, false] rfl rfl (any_of HT_.out (by kernel_rfl)) (fun _ _ _ h => h) (Or.inl ⟨by rfl, ?_⟩) ?_ ?_
  rotate_left
  ·intro w'
   go_simp
   with_reducible rfl
  rotate_left
  ·simp only [Act.put, List.setIfInBounds_toArray, List.set_cons_zero, List.set_cons_succ, i64_w, i32_w]
   rfl
  refine take_ (i := 1) (N := some 15) (v := ?_) (a' := ?_) #[true, true, false, true, false, false, true, false, false, true, false, false, false, false] rfl rfl (take_ofW HT_.out HW_.out (by kernel_rfl)) (fun _ _ _ h => h) (Or.inl ⟨by rfl, ?_⟩) hHeld ?_ ?_
  rotate_left
  ·rintro w' ⟨s0, s1, s2, s3⟩
   go_simp
   with_reducible rfl
  rotate_left
  ·simp only [Act.put, List.setIfInBounds_toArray, List.set_cons_zero, List.set_cons_succ, i64_w, i32_w]
   rfl
  refine take_ (i := 4) (N := some 18) (v := ?_) (a' := ?_) #[true, true, false, true, true, false, true, false, false, true, false, false, false, false] rfl rfl (take_ofW HT_.out HW_.out (by kernel_rfl)) (fun _ _ _ h => h) (Or.inl ⟨by rfl, ?_⟩) hHeld ?_ ?_
  rotate_left
  ·rintro w' ⟨s0, s1, s2, s3⟩
   go_simp
   with_reducible rfl
  rotate_left
  ·simp only [Act.put, List.setIfInBounds_toArray, List.set_cons_zero, List.set_cons_succ, i64_w, i32_w]
   rfl
  refine take_ (i := 7) (N := some 21) (v := ?_) (a' := ?_) #[true, true, false, true, true, false, true, true, false, true, false, false, false, false] rfl rfl (take_ofW HT_.out HW_.out (by kernel_rfl)) (fun _ _ _ h => h) (Or.inl ⟨by rfl, ?_⟩) hHeld ?_ ?_
  rotate_left
  ·rintro w' ⟨s0, s1, s2, s3⟩
   go_simp
   with_reducible rfl
  rotate_left
  ·simp only [Act.put, List.setIfInBounds_toArray, List.set_cons_zero, List.set_cons_succ, i64_w, i32_w]
   rfl
  refine take_ (i := 10) (N := some 24) (v := ?_) (a' := ?_) #[true, true, false, true, true, false, true, true, false, true, true, false, false, false] rfl rfl (take_ofW HT_.out HW_.out (by kernel_rfl)) (fun _ _ _ h => h) (Or.inl ⟨by rfl, ?_⟩) hHeld ?_ ?_
  rotate_left
  ·rintro w' ⟨s0, s1, s2, s3⟩
   go_simp
   with_reducible rfl
  rotate_left
  ·simp only [Act.put, List.setIfInBounds_toArray, List.set_cons_zero, List.set_cons_succ, i64_w, i32_w]
   rfl
  refine one_ (i := 2) (N := some 16) #[true, true, true, true, true, false, true, true, false, true, true, false, false, false] rfl rfl (one_of HT_.out (by kernel_rfl)) (by decide) (fun K hK => ?_)
  refine goes_ Try.func21 (by kernel_rfl) rfl #[.int .i64 a1_0] (by rfl) rfl rfl (by (try simp only [List.map_toArray, List.map_cons, List.map_nil]); first | done | rfl | (simp only [List.length_drop, List.length_take]; rfl)) ?_
  with_reducible refine (fixed_Saturate.calls a1_0 t187 _ A60.out).mono ?_; rintro e w73 ⟨rfl, hb⟩; refine ⟨_, rfl, ?_⟩; replace BK183 := ub BK183 hb; replace BK184 := ub BK184 hb; replace BK185 := ub BK185 hb; replace BK186 := ub BK186 hb; replace HB := bs HB hb; (try clear hb); (try clear hb2); (try clear hk); (try clear hi)
  refine hK.out _ _ ⟨bc BK184 0, bc BK184 1, bc BK184 2, bc BK184 3⟩ (fun hHeld => ?_)
  clear hK K
  refine norm_ (a' := ?_) ?_ ?_
  rotate_left
  ·show Act.put _ (some 16) _ = _
   simp only [Act.put, List.setIfInBounds_toArray, List.set_cons_zero, List.set_cons_succ, i64_w, i32_w]
   rfl
  refine one_ (i := 5) (N := some 19) #[true, true, true, true, true, true, true, true, false, true, true, false, false, false] rfl rfl (one_of HT_.out (by kernel_rfl)) (by decide) (fun K hK => ?_)
  refine goes_ Try.func21 (by kernel_rfl) rfl #[.int .i64 a1_1] (by rfl) rfl rfl (by (try simp only [List.map_toArray, List.map_cons, List.map_nil]); first | done | rfl | (simp only [List.length_drop, List.length_take]; rfl)) ?_
  with_reducible refine (fixed_Saturate.calls a1_1 t188 _ A61.out).mono ?_; rintro e w74 ⟨rfl, hb⟩; refine ⟨_, rfl, ?_⟩; replace BK183 := ub BK183 hb; replace BK184 := ub BK184 hb; replace BK185 := ub BK185 hb; replace BK186 := ub BK186 hb; replace HB := bs HB hb; (try clear hb); (try clear hb2); (try clear hk); (try clear hi)
  refine hK.out _ _ ⟨bc BK184 0, bc BK184 1, bc BK184 2, bc BK184 3⟩ (fun hHeld => ?_)
  clear hK K
  refine norm_ (a' := ?_) ?_ ?_
  rotate_left
  ·show Act.put _ (some 19) _ = _
   simp only [Act.put, List.setIfInBounds_toArray, List.set_cons_zero, List.set_cons_succ, i64_w, i32_w]
   rfl
  refine one_ (i := 8) (N := some 22) #[true, true, true, true, true, true, true, true, true, true, true, false, false, false] rfl rfl (one_of HT_.out (by kernel_rfl)) (by decide) (fun K hK => ?_)
  refine goes_ Try.func21 (by kernel_rfl) rfl #[.int .i64 a1_2] (by rfl) rfl rfl (by (try simp only [List.map_toArray, List.map_cons, List.map_nil]); first | done | rfl | (simp only [List.length_drop, List.length_take]; rfl)) ?_
  with_reducible refine (fixed_Saturate.calls a1_2 t189 _ A62.out).mono ?_; rintro e w75 ⟨rfl, hb⟩; refine ⟨_, rfl, ?_⟩; replace BK183 := ub BK183 hb; replace BK184 := ub BK184 hb; replace BK185 := ub BK185 hb; replace BK186 := ub BK186 hb; replace HB := bs HB hb; (try clear hb); (try clear hb2); (try clear hk); (try clear hi)
  refine hK.out _ _ ⟨bc BK184 0, bc BK184 1, bc BK184 2, bc BK184 3⟩ (fun hHeld => ?_)
  clear hK K
  refine norm_ (a' := ?_) ?_ ?_
  rotate_left
  ·show Act.put _ (some 22) _ = _
   simp only [Act.put, List.setIfInBounds_toArray, List.set_cons_zero, List.set_cons_succ, i64_w, i32_w]
   rfl
  refine one_ (i := 11) (N := some 25) #[true, true, true, true, true, true, true, true, true, true, true, true, false, false] rfl rfl (one_of HT_.out (by kernel_rfl)) (by decide) (fun K hK => ?_)
  refine goes_ Try.func21 (by kernel_rfl) rfl #[.int .i64 a1_3] (by rfl) rfl rfl (by (try simp only [List.map_toArray, List.map_cons, List.map_nil]); first | done | rfl | (simp only [List.length_drop, List.length_take]; rfl)) ?_
  with_reducible refine (fixed_Saturate.calls a1_3 t190 _ A63.out).mono ?_; rintro e w76 ⟨rfl, hb⟩; refine ⟨_, rfl, ?_⟩; replace BK183 := ub BK183 hb; replace BK184 := ub BK184 hb; replace BK185 := ub BK185 hb; replace BK186 := ub BK186 hb; replace HB := bs HB hb; (try clear hb); (try clear hb2); (try clear hk); (try clear hi)
  refine hK.out _ _ ⟨bc BK184 0, bc BK184 1, bc BK184 2, bc BK184 3⟩ (fun hHeld => ?_)
  clear hK K
  refine norm_ (a' := ?_) ?_ ?_
  rotate_left
  ·show Act.put _ (some 25) _ = _
   simp only [Act.put, List.setIfInBounds_toArray, List.set_cons_zero, List.set_cons_succ, i64_w, i32_w]
   rfl
  refine pure_ (i := 12) (N := some 26) (v := ?_) (a' := ?_) #[true, true, true, true, true, true, true, true, true, true, true, true, true, false] rfl rfl (any_of HT_.out (by kernel_rfl)) (fun _ _ _ h => h) (Or.inl ⟨by rfl, ?_⟩) ?_ ?_
  rotate_left
  ·intro w'
   go_simp
   with_reducible rfl
  rotate_left
  ·simp only [Act.put, List.setIfInBounds_toArray, List.set_cons_zero, List.set_cons_succ, i64_w, i32_w]
   rfl
  refine one_ (i := 13) (N := none) #[true, true, true, true, true, true, true, true, true, true, true, true, true, true] rfl rfl (one_of HT_.out (by kernel_rfl)) (by decide) (fun K hK => ?_)
  have hs77 : w76.cell? ⟨gb186, 0, none⟩ = some (.int .i64 0) := bc BK186 0
  have hfs77 := blk_frozen BK186.out 0; have hns77_0 := NB183_186.out; have hns77_1 := NB184_186.out; have hns77_2 := NB185_186.out; have hms77_0 := NB186_183.out; have hms77_1 := NB186_184.out; have hms77_2 := NB186_185.out
  have hs78 : w76.cell? ⟨gb186, 1, none⟩ = some (.int .i64 0) := bc BK186 1
  have hfs78 := blk_frozen BK186.out 1; have hns78_0 := NB183_186.out; have hns78_1 := NB184_186.out; have hns78_2 := NB185_186.out; have hms78_0 := NB186_183.out; have hms78_1 := NB186_184.out; have hms78_2 := NB186_185.out
  have hs79 : w76.cell? ⟨gb186, 2, none⟩ = some (.int .i64 0) := bc BK186 2
  have hfs79 := blk_frozen BK186.out 2; have hns79_0 := NB183_186.out; have hns79_1 := NB184_186.out; have hns79_2 := NB185_186.out; have hms79_0 := NB186_183.out; have hms79_1 := NB186_184.out; have hms79_2 := NB186_185.out
  have hs80 : w76.cell? ⟨gb186, 3, none⟩ = some (.int .i64 0) := bc BK186 3
  have hfs80 := blk_frozen BK186.out 3; have hns80_0 := NB183_186.out; have hns80_1 := NB184_186.out; have hns80_2 := NB185_186.out; have hms80_0 := NB186_183.out; have hms80_1 := NB186_184.out; have hms80_2 := NB186_185.out
  refine skip_ (w1 := ?_) (by rfl) rfl ?_ ?_
  rotate_left
  ·go_simp
   rfl
  refine hK.out _ _ ⟨(cf NB184_186 ((cf NB184_186 ((cf NB184_186 ((cf NB184_186 (hHeld.1)))))))), (cf NB184_186 ((cf NB184_186 ((cf NB184_186 ((cf NB184_186 (hHeld.2.1)))))))), (cf NB184_186 ((cf NB184_186 ((cf NB184_186 ((cf NB184_186 (hHeld.2.2.1)))))))), (cf NB184_186 ((cf NB184_186 ((cf NB184_186 ((cf NB184_186 (hHeld.2.2.2))))))))⟩ (fun hHeld => ?_)
  clear hK K
  refine done_ (done_of HT_.out (by kernel_rfl)) ?_
  try go_wp2
  refine bodyPost_ret (results_cell_row rfl _ _ gb186 27 #[.int .i64 t187, .int .i64 t188, .int .i64 t189, .int .i64 t190] (0, 0) _ rfl (by (with_reducible repeat (first | refine blk_drewN ?_ _ | refine blk_drew ?_ | refine blk_alloc ?_ _)); refine blk_put (cs := #[.int .i64 t187, .int .i64 t188, .int .i64 t189, .int .i64 0]) ?_ 3 _ rfl; (with_reducible repeat (first | refine blk_drewN ?_ _ | refine blk_drew ?_ | refine blk_alloc ?_ _)); refine blk_put (cs := #[.int .i64 t187, .int .i64 t188, .int .i64 0, .int .i64 0]) ?_ 2 _ rfl; (with_reducible repeat (first | refine blk_drewN ?_ _ | refine blk_drew ?_ | refine blk_alloc ?_ _)); refine blk_put (cs := #[.int .i64 t187, .int .i64 0, .int .i64 0, .int .i64 0]) ?_ 1 _ rfl; (with_reducible repeat (first | refine blk_drewN ?_ _ | refine blk_drew ?_ | refine blk_alloc ?_ _)); refine blk_put (cs := #[.int .i64 0, .int .i64 0, .int .i64 0, .int .i64 0]) ?_ 0 _ rfl; (with_reducible repeat (first | refine blk_drewN ?_ _ | refine blk_drew ?_ | refine blk_alloc ?_ _)); exact BK186.out) Try.underlying27 rfl (by kernel_rfl)) rfl ?_
  exact ⟨by first | rfl | (simp [errW_none, errW_some] <;> rfl) | (simp [*, errW_none, errW_some] <;> rfl), by repeat (first | (with_reducible first | exact HB.out | apply below_alloc | apply pw_below_drewN | apply below_drew1 | refine below_set ?_ GE183.out | refine below_set ?_ GE184.out | refine below_set ?_ GE185.out | refine below_set ?_ GE186.out) | exact HB.out)⟩



end Go.Proofs.YtgbneollfpmpkaaRR.PBlendReplaces
