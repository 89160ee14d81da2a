/- BlendEquation: walks. -/
import Derived.Test.YtgbneollfpmpkaaRRXBlendEquationb
namespace Go.Proofs.YtgbneollfpmpkaaRR.PBlendEquation
open Go.RowKit Go.Proofs.YtgbneollfpmpkaaRRW.PrintWords Go.Proofs.YtgbneollfpmpkaaRRW.PrintLast Go.Proofs.YtgbneollfpmpkaaRRW.PrintMore
attribute [local go_sem] max2_int min2_int max_two min_two max_three min_three max_four min_four
set_option linter.unusedVariables false
set_option linter.unusedSimpArgs false

set_option maxHeartbeats 8000000 in
set_option maxRecDepth 100000 in
theorem blend_Blend.calls (k : Nat) (a0_0 : Bool) (a0_1 : Int) (a0_2 : Int) (a0_3 : Int) (a0_4 : Int) (a0_5 : Int) (a0_6 : Int) (a0_7 : Int) (a1_0 : Int) (a1_1 : Int) (a1_2 : Int) (a1_3 : Int) (a2_0 : Int) (a2_1 : Int) (a2_2 : Int) (a2_3 : Int) (r1 : Int) (r2 : Int) (r3 : Int) (r4 : Int) (w : World) (h : blend_Blend.f k a0_0 a0_1 a0_2 a0_3 a0_4 a0_5 a0_6 a0_7 a1_0 a1_1 a1_2 a1_3 a2_0 a2_1 a2_2 a2_3 = some (r1, r2, r3, r4)) :
  Calls Try.prog 9 #[.agg #[.bool a0_0, .int .i64 a0_1, .int .i64 a0_2, .int .i64 a0_3, .int .i64 a0_4, .int .i64 a0_5, .int .i64 a0_6, .int .i64 a0_7], .agg #[.int .i64 a1_0, .int .i64 a1_1, .int .i64 a1_2, .int .i64 a1_3], .agg #[.int .i64 a2_0, .int .i64 a2_1, .int .i64 a2_2, .int .i64 a2_3]] w fun e w' => e = .returned (.agg #[.int .i64 r1, .int .i64 r2, .int .i64 r3, .int .i64 r4]) ∧ Below w.heap.size w w' := by
 have hu25 := Try.underlying25; have hu27 := Try.underlying27; have HB := Aside0.mk (Below.refl w.heap.size w)
 have H : (if a0_0 = true then ((blend_Factor.f a0_1 a1_0 a1_1 a1_2 a1_3 a2_0 a2_1 a2_2 a2_3).bind fun bt252 => ((blend_Factor.f a0_2 a1_0 a1_1 a1_2 a1_3 a2_0 a2_1 a2_2 a2_3).bind fun bt256 => ((blend_Factor.f a0_4 a1_0 a1_1 a1_2 a1_3 a2_0 a2_1 a2_2 a2_3).bind fun bt262 => ((blend_Factor.f a0_5 a1_0 a1_1 a1_2 a1_3 a2_0 a2_1 a2_2 a2_3).bind fun bt266 => ((blend_Combine.f k a0_3 a1_0 bt252.1 a2_0 bt256.1).bind fun t272 => ((blend_Combine.f k a0_3 a1_1 bt252.2.1 a2_1 bt256.2.1).bind fun t273 => ((blend_Combine.f k a0_3 a1_2 bt252.2.2.1 a2_2 bt256.2.2.1).bind fun t274 => ((blend_Combine.f k a0_6 a1_3 bt262.2.2.2 a2_3 bt266.2.2.2).bind fun t275 => (some (t272, t273, t274, t275)))))))))) else ((fixed_Saturate.f a1_0).bind fun t248 => ((fixed_Saturate.f a1_1).bind fun t249 => ((fixed_Saturate.f a1_2).bind fun t250 => ((fixed_Saturate.f a1_3).bind fun t251 => (some (t248, t249, t250, t251))))))) = some (r1, r2, r3, r4) := h
 clear h
 by_cases c4 : a0_0 = true
 ·subst c4
  have H1 : ((blend_Factor.f a0_1 a1_0 a1_1 a1_2 a1_3 a2_0 a2_1 a2_2 a2_3).bind fun bt252 => ((blend_Factor.f a0_2 a1_0 a1_1 a1_2 a1_3 a2_0 a2_1 a2_2 a2_3).bind fun bt256 => ((blend_Factor.f a0_4 a1_0 a1_1 a1_2 a1_3 a2_0 a2_1 a2_2 a2_3).bind fun bt262 => ((blend_Factor.f a0_5 a1_0 a1_1 a1_2 a1_3 a2_0 a2_1 a2_2 a2_3).bind fun bt266 => ((blend_Combine.f k a0_3 a1_0 bt252.1 a2_0 bt256.1).bind fun t272 => ((blend_Combine.f k a0_3 a1_1 bt252.2.1 a2_1 bt256.2.1).bind fun t273 => ((blend_Combine.f k a0_3 a1_2 bt252.2.2.1 a2_2 bt256.2.2.1).bind fun t274 => ((blend_Combine.f k a0_6 a1_3 bt262.2.2.2 a2_3 bt266.2.2.2).bind fun t275 => (some (t272, t273, t274, t275)))))))))) = some (r1, r2, r3, r4) := by rw [if_pos rfl] at H; exact H
  clear H; have H := H1; clear H1
  replace H := Option.bind_eq_some_iff.mp H
  obtain ⟨⟨t252, t253, t254, t255⟩, A50, H⟩ := H
  replace H : ((blend_Factor.f a0_2 a1_0 a1_1 a1_2 a1_3 a2_0 a2_1 a2_2 a2_3).bind fun bt256 => ((blend_Factor.f a0_4 a1_0 a1_1 a1_2 a1_3 a2_0 a2_1 a2_2 a2_3).bind fun bt262 => ((blend_Factor.f a0_5 a1_0 a1_1 a1_2 a1_3 a2_0 a2_1 a2_2 a2_3).bind fun bt266 => ((blend_Combine.f k a0_3 a1_0 t252 a2_0 bt256.1).bind fun t272 => ((blend_Combine.f k a0_3 a1_1 t253 a2_1 bt256.2.1).bind fun t273 => ((blend_Combine.f k a0_3 a1_2 t254 a2_2 bt256.2.2.1).bind fun t274 => ((blend_Combine.f k a0_6 a1_3 bt262.2.2.2 a2_3 bt266.2.2.2).bind fun t275 => (some (t272, t273, t274, t275))))))))) = some (r1, r2, r3, r4) := H
  have A5 := Aside0.mk A50; clear A50
  replace H := Option.bind_eq_some_iff.mp H
  obtain ⟨⟨t256, t257, t258, t259⟩, A60, H⟩ := H
  replace H : ((blend_Factor.f a0_4 a1_0 a1_1 a1_2 a1_3 a2_0 a2_1 a2_2 a2_3).bind fun bt262 => ((blend_Factor.f a0_5 a1_0 a1_1 a1_2 a1_3 a2_0 a2_1 a2_2 a2_3).bind fun bt266 => ((blend_Combine.f k a0_3 a1_0 t252 a2_0 t256).bind fun t272 => ((blend_Combine.f k a0_3 a1_1 t253 a2_1 t257).bind fun t273 => ((blend_Combine.f k a0_3 a1_2 t254 a2_2 t258).bind fun t274 => ((blend_Combine.f k a0_6 a1_3 bt262.2.2.2 a2_3 bt266.2.2.2).bind fun t275 => (some (t272, t273, t274, t275)))))))) = some (r1, r2, r3, r4) := H
  have A6 := Aside0.mk A60; clear A60
  replace H := Option.bind_eq_some_iff.mp H
  obtain ⟨⟨t262, t263, t264, t265⟩, A70, H⟩ := H
  replace H : ((blend_Factor.f a0_5 a1_0 a1_1 a1_2 a1_3 a2_0 a2_1 a2_2 a2_3).bind fun bt266 => ((blend_Combine.f k a0_3 a1_0 t252 a2_0 t256).bind fun t272 => ((blend_Combine.f k a0_3 a1_1 t253 a2_1 t257).bind fun t273 => ((blend_Combine.f k a0_3 a1_2 t254 a2_2 t258).bind fun t274 => ((blend_Combine.f k a0_6 a1_3 t265 a2_3 bt266.2.2.2).bind fun t275 => (some (t272, t273, t274, t275))))))) = some (r1, r2, r3, r4) := H
  have A7 := Aside0.mk A70; clear A70
  replace H := Option.bind_eq_some_iff.mp H
  obtain ⟨⟨t266, t267, t268, t269⟩, A80, H⟩ := H
  replace H : ((blend_Combine.f k a0_3 a1_0 t252 a2_0 t256).bind fun t272 => ((blend_Combine.f k a0_3 a1_1 t253 a2_1 t257).bind fun t273 => ((blend_Combine.f k a0_3 a1_2 t254 a2_2 t258).bind fun t274 => ((blend_Combine.f k a0_6 a1_3 t265 a2_3 t269).bind fun t275 => (some (t272, t273, t274, t275)))))) = some (r1, r2, r3, r4) := H
  have A8 := Aside0.mk A80; clear A80
  replace H := Option.bind_eq_some_iff.mp H
  obtain ⟨t272, A90, H⟩ := H
  replace H : ((blend_Combine.f k a0_3 a1_1 t253 a2_1 t257).bind fun t273 => ((blend_Combine.f k a0_3 a1_2 t254 a2_2 t258).bind fun t274 => ((blend_Combine.f k a0_6 a1_3 t265 a2_3 t269).bind fun t275 => (some (t272, t273, t274, t275))))) = some (r1, r2, r3, r4) := H
  have A9 := Aside0.mk A90; clear A90
  replace H := Option.bind_eq_some_iff.mp H
  obtain ⟨t273, A100, H⟩ := H
  replace H : ((blend_Combine.f k a0_3 a1_2 t254 a2_2 t258).bind fun t274 => ((blend_Combine.f k a0_6 a1_3 t265 a2_3 t269).bind fun t275 => (some (t272, t273, t274, t275)))) = some (r1, r2, r3, r4) := H
  have A10 := Aside0.mk A100; clear A100
  replace H := Option.bind_eq_some_iff.mp H
  obtain ⟨t274, A110, H⟩ := H
  replace H : ((blend_Combine.f k a0_6 a1_3 t265 a2_3 t269).bind fun t275 => (some (t272, t273, t274, t275))) = some (r1, r2, r3, r4) := H
  have A11 := Aside0.mk A110; clear A110
  replace H := Option.bind_eq_some_iff.mp H
  obtain ⟨t275, A120, H⟩ := H
  replace H : (some (t272, t273, t274, t275)) = some (r1, r2, r3, r4) := H
  have A12 := Aside0.mk A120; clear A120
  simp only [Option.some.injEq, Prod.mk.injEq] at H
  obtain ⟨rfl, rfl, rfl, rfl⟩ := H
  go_enter Try.func9, Try.ntmps9
  try go_wp2_with (first | ((with_reducible refine gate_dst (N := 3) rfl ?_); refine box_event ?hg (N := 3) ?hd (cs := #[.bool true, .int .i64 a0_1, .int .i64 a0_2, .int .i64 a0_3, .int .i64 a0_4, .int .i64 a0_5, .int .i64 a0_6, .int .i64 a0_7]) (t := 25) ?hr ?_; (case hd => rfl); (case hg => rfl); (case hr => first | (go_simp; done) | (go_simp; rfl)); intro gb244 hg w13 hbox hb; have BK244 := Aside0.mk (hbox); have GW244 := ws HB hg; have GE244 := ws HB hg; replace HB := bs HB hb; clear hb hbox hg) | ((with_reducible refine gate_dst (N := 4) rfl ?_); refine box_event ?hg (N := 4) ?hd (cs := #[.int .i64 a1_0, .int .i64 a1_1, .int .i64 a1_2, .int .i64 a1_3]) (t := 27) ?hr ?_; (case hd => rfl); (case hg => rfl); (case hr => first | (go_simp; done) | (go_simp; rfl)); intro gb245 hg w14 hbox hb; have BK245 := Aside0.mk (hbox); have GW245 := ws HB hg; have GE245 := ws HB hg; have NB244_245 := nl BK244 hg; have NB245_244 := ng BK244 hg; replace BK244 := ub BK244 hb; replace HB := bs HB hb; clear hb hbox hg) | ((with_reducible refine gate_dst (N := 5) rfl ?_); refine box_event ?hg (N := 5) ?hd (cs := #[.int .i64 a2_0, .int .i64 a2_1, .int .i64 a2_2, .int .i64 a2_3]) (t := 27) ?hr ?_; (case hd => rfl); (case hg => rfl); (case hr => first | (go_simp; done) | (go_simp; rfl)); intro gb246 hg w15 hbox hb; have BK246 := Aside0.mk (hbox); have GW246 := ws HB hg; have GE246 := ws HB hg; have NB244_246 := nl BK244 hg; have NB246_244 := ng BK244 hg; have NB245_246 := nl BK245 hg; have NB246_245 := ng BK245 hg; replace BK244 := ub BK244 hb; replace BK245 := ub BK245 hb; replace HB := bs HB hb; clear hb hbox hg) | ((with_reducible refine gate_dst (N := 6) rfl ?_); refine box_event ?hg (N := 6) ?hd (cs := #[.int .i64 0, .int .i64 0, .int .i64 0, .int .i64 0]) (t := 27) ?hr ?_; (case hd => rfl); (case hg => rfl); (case hr => first | (go_simp; done) | (go_simp; rfl)); intro gb247 hg w16 hbox hb; have BK247 := Aside0.mk (hbox); have GW247 := ws HB hg; have GE247 := ws HB hg; have NB244_247 := nl BK244 hg; have NB247_244 := ng BK244 hg; have NB245_247 := nl BK245 hg; have NB247_245 := ng BK245 hg; have NB246_247 := nl BK246 hg; have NB247_246 := ng BK246 hg; replace BK244 := ub BK244 hb; replace BK245 := ub BK245 hb; replace BK246 := ub BK246 hb; replace HB := bs HB hb; clear hb hbox hg; have hnb17 := NB244_245.out; have hnc17 := NB245_244.out; have hnb18 := NB244_246.out; have hnc18 := NB246_244.out; have hnb19 := NB244_247.out; have hnc19 := NB247_244.out; have hcz20_0 : w16.cell? ⟨gb244, 0, none⟩ = some (.bool true) := bc BK244 0; have hcz20_1 : w16.cell? ⟨gb244, 1, none⟩ = some (.int .i64 a0_1) := bc BK244 1; have hcz20_2 : w16.cell? ⟨gb244, 2, none⟩ = some (.int .i64 a0_2) := bc BK244 2; have hcz20_3 : w16.cell? ⟨gb244, 3, none⟩ = some (.int .i64 a0_3) := bc BK244 3; have hcz20_4 : w16.cell? ⟨gb244, 4, none⟩ = some (.int .i64 a0_4) := bc BK244 4; have hcz20_5 : w16.cell? ⟨gb244, 5, none⟩ = some (.int .i64 a0_5) := bc BK244 5; have hcz20_6 : w16.cell? ⟨gb244, 6, none⟩ = some (.int .i64 a0_6) := bc BK244 6; have hcz20_7 : w16.cell? ⟨gb244, 7, none⟩ = some (.int .i64 a0_7) := bc BK244 7; have hfz20_0 := blk_frozen BK244.out 0; have hfz20_1 := blk_frozen BK244.out 1; have hfz20_2 := blk_frozen BK244.out 2; have hfz20_3 := blk_frozen BK244.out 3; have hfz20_4 := blk_frozen BK244.out 4; have hfz20_5 := blk_frozen BK244.out 5; have hfz20_6 := blk_frozen BK244.out 6; have hfz20_7 := blk_frozen BK244.out 7))
  replace BK244 := Aside0.mk (blk_drew BK244.out); replace BK245 := Aside0.mk (blk_drew BK245.out); replace BK246 := Aside0.mk (blk_drew BK246.out); replace BK247 := Aside0.mk (blk_drew BK247.out); replace HB := Aside0.mk (below_drew1 HB.out)
  refine start_ (n := 14) (S := fun w' => w'.cell? ⟨gb244, 0, none⟩ = some (.bool true) ∧ w'.cell? ⟨gb244, 1, none⟩ = some (.int .i64 a0_1) ∧ w'.cell? ⟨gb244, 2, none⟩ = some (.int .i64 a0_2) ∧ w'.cell? ⟨gb244, 3, none⟩ = some (.int .i64 a0_3) ∧ w'.cell? ⟨gb244, 4, none⟩ = some (.int .i64 a0_4) ∧ w'.cell? ⟨gb244, 5, none⟩ = some (.int .i64 a0_5) ∧ w'.cell? ⟨gb244, 6, none⟩ = some (.int .i64 a0_6) ∧ w'.cell? ⟨gb244, 7, none⟩ = some (.int .i64 a0_7) ∧ w'.cell? ⟨gb245, 0, none⟩ = some (.int .i64 a1_0) ∧ w'.cell? ⟨gb245, 1, none⟩ = some (.int .i64 a1_1) ∧ w'.cell? ⟨gb245, 2, none⟩ = some (.int .i64 a1_2) ∧ w'.cell? ⟨gb245, 3, none⟩ = some (.int .i64 a1_3) ∧ w'.cell? ⟨gb246, 0, none⟩ = some (.int .i64 a2_0) ∧ w'.cell? ⟨gb246, 1, none⟩ = some (.int .i64 a2_1) ∧ w'.cell? ⟨gb246, 2, none⟩ = some (.int .i64 a2_2) ∧ w'.cell? ⟨gb246, 3, none⟩ = some (.int .i64 a2_3)) (ds := []) #[false, false, false, false, false, false, false, false, false, false, false, false, false, false] (by kernel_rfl) rfl rfl ⟨bc BK244 0, bc BK244 1, bc BK244 2, bc BK244 3, bc BK244 4, bc BK244 5, bc BK244 6, bc BK244 7, bc BK245 0, bc BK245 1, bc BK245 2, bc BK245 3, bc BK246 0, bc BK246 1, bc BK246 2, bc BK246 3⟩ (fun hHeld => ?_); refine with_tabW blend_Blend.tab3 blend_Blend.bits3 (fun HT_ HW_ => ?_)
  generalize w16.drew = w21 at BK244 BK245 BK246 BK247 HB hHeld ⊢
  refine pure_ (i := 0) (N := some 27) (v := ?_) (a' := ?_) #[true, false, false, false, false, false, false, false, false, false, false, false, false, false] rfl rfl (any_of HT_.out (by kernel_rfl)) (fun _ _ _ h => h) (Or.inl ⟨by rfl, ?_⟩) ?_ ?_
  rotate_left
  ·intro w'
   go_simp
   with_reducible rfl
  rotate_left
  ·simp only [Act.put, List.setIfInBounds_toArray, List.set_cons_zero, List.set_cons_succ, i64_w, i32_w]
   rfl
  refine pure_ (i := 5) (N := some 32) (v := ?_) (a' := ?_) #[true, false, false, false, false, true, false, false, false, false, false, false, false, false] rfl rfl (any_of HT_.out (by kernel_rfl)) (fun _ _ _ h => h) (Or.inl ⟨by rfl, ?_⟩) ?_ ?_
  rotate_left
  ·intro w'
   go_simp
   with_reducible rfl
  rotate_left
  ·simp only [Act.put, List.setIfInBounds_toArray, List.set_cons_zero, List.set_cons_succ, i64_w, i32_w]
   rfl
  refine take_ (i := 1) (N := some 28) (v := ?_) (a' := ?_) #[true, true, false, false, false, true, false, false, false, false, false, false, false, false] rfl rfl (take_ofW HT_.out HW_.out (by kernel_rfl)) (fun _ _ _ h => h) (Or.inl ⟨by rfl, ?_⟩) hHeld ?_ ?_
  rotate_left
  ·rintro w' ⟨s0, s1, s2, s3, s4, s5, s6, s7, s8, s9, s10, s11, s12, s13, s14, s15⟩
   go_simp
   with_reducible rfl
  rotate_left
  ·simp only [Act.put, List.setIfInBounds_toArray, List.set_cons_zero, List.set_cons_succ, i64_w, i32_w]
   rfl
  refine take_ (i := 2) (N := some 29) (v := ?_) (a' := ?_) #[true, true, true, false, false, true, false, false, false, false, false, false, false, false] rfl rfl (take_ofW HT_.out HW_.out (by kernel_rfl)) (fun _ _ _ h => h) (Or.inl ⟨by rfl, ?_⟩) hHeld ?_ ?_
  rotate_left
  ·rintro w' ⟨s0, s1, s2, s3, s4, s5, s6, s7, s8, s9, s10, s11, s12, s13, s14, s15⟩
   go_simp
   with_reducible rfl
  rotate_left
  ·simp only [Act.put, List.setIfInBounds_toArray, List.set_cons_zero, List.set_cons_succ, i64_w, i32_w]
   rfl
  refine take_ (i := 3) (N := some 30) (v := ?_) (a' := ?_) #[true, true, true, true, false, true, false, false, false, false, false, false, false, false] rfl rfl (take_ofW HT_.out HW_.out (by kernel_rfl)) (fun _ _ _ h => h) (Or.inl ⟨by rfl, ?_⟩) hHeld ?_ ?_
  rotate_left
  ·rintro w' ⟨s0, s1, s2, s3, s4, s5, s6, s7, s8, s9, s10, s11, s12, s13, s14, s15⟩
   go_simp
   with_reducible rfl
  rotate_left
  ·simp only [Act.put, List.setIfInBounds_toArray, List.set_cons_zero, List.set_cons_succ, i64_w, i32_w]
   rfl
  refine take_ (i := 6) (N := some 33) (v := ?_) (a' := ?_) #[true, true, true, true, false, true, true, false, false, false, false, false, false, false] rfl rfl (take_ofW HT_.out HW_.out (by kernel_rfl)) (fun _ _ _ h => h) (Or.inl ⟨by rfl, ?_⟩) hHeld ?_ ?_
  rotate_left
  ·rintro w' ⟨s0, s1, s2, s3, s4, s5, s6, s7, s8, s9, s10, s11, s12, s13, s14, s15⟩
   go_simp
   with_reducible rfl
  rotate_left
  ·simp only [Act.put, List.setIfInBounds_toArray, List.set_cons_zero, List.set_cons_succ, i64_w, i32_w]
   rfl
  refine take_ (i := 7) (N := some 34) (v := ?_) (a' := ?_) #[true, true, true, true, false, true, true, true, false, false, false, false, false, false] rfl rfl (take_ofW HT_.out HW_.out (by kernel_rfl)) (fun _ _ _ h => h) (Or.inl ⟨by rfl, ?_⟩) hHeld ?_ ?_
  rotate_left
  ·rintro w' ⟨s0, s1, s2, s3, s4, s5, s6, s7, s8, s9, s10, s11, s12, s13, s14, s15⟩
   go_simp
   with_reducible rfl
  rotate_left
  ·simp only [Act.put, List.setIfInBounds_toArray, List.set_cons_zero, List.set_cons_succ, i64_w, i32_w]
   rfl
  refine take_ (i := 8) (N := some 35) (v := ?_) (a' := ?_) #[true, true, true, true, false, true, true, true, true, false, false, false, false, false] rfl rfl (take_ofW HT_.out HW_.out (by kernel_rfl)) (fun _ _ _ h => h) (Or.inl ⟨by rfl, ?_⟩) hHeld ?_ ?_
  rotate_left
  ·rintro w' ⟨s0, s1, s2, s3, s4, s5, s6, s7, s8, s9, s10, s11, s12, s13, s14, s15⟩
   go_simp
   with_reducible rfl
  rotate_left
  ·simp only [Act.put, List.setIfInBounds_toArray, List.set_cons_zero, List.set_cons_succ, i64_w, i32_w]
   rfl
  refine join_ (σ := Nat × Nat) 2 #[true, true, true, true, true, true, true, true, true, true, true, true, false, false] (fun s_ => [(31, .agg #[.int .i64 t252, .int .i64 t253, .int .i64 t254, .int .i64 t255]), (36, .agg #[.int .i64 t256, .int .i64 t257, .int .i64 t258, .int .i64 t259]), (7, .pointer (some ⟨s_.1, 0, none⟩)), (8, .pointer (some ⟨s_.2, 0, none⟩))]) (fun s_ w' => (w'.cell? ⟨gb244, 0, none⟩ = some (.bool true) ∧ w'.cell? ⟨gb244, 1, none⟩ = some (.int .i64 a0_1) ∧ w'.cell? ⟨gb244, 2, none⟩ = some (.int .i64 a0_2) ∧ w'.cell? ⟨gb244, 3, none⟩ = some (.int .i64 a0_3) ∧ w'.cell? ⟨gb244, 4, none⟩ = some (.int .i64 a0_4) ∧ w'.cell? ⟨gb244, 5, none⟩ = some (.int .i64 a0_5) ∧ w'.cell? ⟨gb244, 6, none⟩ = some (.int .i64 a0_6) ∧ w'.cell? ⟨gb244, 7, none⟩ = some (.int .i64 a0_7) ∧ w'.cell? ⟨gb245, 0, none⟩ = some (.int .i64 a1_0) ∧ w'.cell? ⟨gb245, 1, none⟩ = some (.int .i64 a1_1) ∧ w'.cell? ⟨gb245, 2, none⟩ = some (.int .i64 a1_2) ∧ w'.cell? ⟨gb245, 3, none⟩ = some (.int .i64 a1_3) ∧ w'.cell? ⟨gb246, 0, none⟩ = some (.int .i64 a2_0) ∧ w'.cell? ⟨gb246, 1, none⟩ = some (.int .i64 a2_1) ∧ w'.cell? ⟨gb246, 2, none⟩ = some (.int .i64 a2_2) ∧ w'.cell? ⟨gb246, 3, none⟩ = some (.int .i64 a2_3)) ∧ (w'.heap[gb244]? = some (.cells #[.bool true, .int .i64 a0_1, .int .i64 a0_2, .int .i64 a0_3, .int .i64 a0_4, .int .i64 a0_5, .int .i64 a0_6, .int .i64 a0_7] 25 (0, 0))) ∧ (w'.heap[gb245]? = some (.cells #[.int .i64 a1_0, .int .i64 a1_1, .int .i64 a1_2, .int .i64 a1_3] 27 (0, 0))) ∧ (w'.heap[gb246]? = some (.cells #[.int .i64 a2_0, .int .i64 a2_1, .int .i64 a2_2, .int .i64 a2_3] 27 (0, 0))) ∧ (w'.heap[gb247]? = some (.cells #[.int .i64 0, .int .i64 0, .int .i64 0, .int .i64 0] 27 (0, 0))) ∧ (w'.heap[s_.1]? = some (.cells #[.int .i64 0, .int .i64 0, .int .i64 0, .int .i64 0] 27 (0, 0))) ∧ (w'.heap[s_.2]? = some (.cells #[.int .i64 0, .int .i64 0, .int .i64 0, .int .i64 0] 27 (0, 0))) ∧ (w.heap.size ≤ s_.1) ∧ (w.heap.size ≤ s_.1) ∧ (gb244 ≠ s_.1) ∧ (s_.1 ≠ gb244) ∧ (gb245 ≠ s_.1) ∧ (s_.1 ≠ gb245) ∧ (gb246 ≠ s_.1) ∧ (s_.1 ≠ gb246) ∧ (gb247 ≠ s_.1) ∧ (s_.1 ≠ gb247) ∧ (s_.2 ≠ s_.1) ∧ (s_.1 ≠ s_.2) ∧ (w.heap.size ≤ s_.2) ∧ (w.heap.size ≤ s_.2) ∧ (gb244 ≠ s_.2) ∧ (s_.2 ≠ gb244) ∧ (gb245 ≠ s_.2) ∧ (s_.2 ≠ gb245) ∧ (gb246 ≠ s_.2) ∧ (s_.2 ≠ gb246) ∧ (gb247 ≠ s_.2) ∧ (s_.2 ≠ gb247) ∧ (Below w.heap.size w w')) ?_ ?_
  rotate_left
  ·intro hJ4_9_10_11
   refine join_ (σ := Nat) 3 #[true, true, true, true, true, true, true, true, true, true, true, false, false, false] (fun s_ => [(31, .agg #[.int .i64 t252, .int .i64 t253, .int .i64 t254, .int .i64 t255]), (36, .agg #[.int .i64 t256, .int .i64 t257, .int .i64 t258, .int .i64 t259]), (7, .pointer (some ⟨s_, 0, none⟩))]) (fun s_ w' => (w'.cell? ⟨gb244, 0, none⟩ = some (.bool true) ∧ w'.cell? ⟨gb244, 1, none⟩ = some (.int .i64 a0_1) ∧ w'.cell? ⟨gb244, 2, none⟩ = some (.int .i64 a0_2) ∧ w'.cell? ⟨gb244, 3, none⟩ = some (.int .i64 a0_3) ∧ w'.cell? ⟨gb244, 4, none⟩ = some (.int .i64 a0_4) ∧ w'.cell? ⟨gb244, 5, none⟩ = some (.int .i64 a0_5) ∧ w'.cell? ⟨gb244, 6, none⟩ = some (.int .i64 a0_6) ∧ w'.cell? ⟨gb244, 7, none⟩ = some (.int .i64 a0_7) ∧ w'.cell? ⟨gb245, 0, none⟩ = some (.int .i64 a1_0) ∧ w'.cell? ⟨gb245, 1, none⟩ = some (.int .i64 a1_1) ∧ w'.cell? ⟨gb245, 2, none⟩ = some (.int .i64 a1_2) ∧ w'.cell? ⟨gb245, 3, none⟩ = some (.int .i64 a1_3) ∧ w'.cell? ⟨gb246, 0, none⟩ = some (.int .i64 a2_0) ∧ w'.cell? ⟨gb246, 1, none⟩ = some (.int .i64 a2_1) ∧ w'.cell? ⟨gb246, 2, none⟩ = some (.int .i64 a2_2) ∧ w'.cell? ⟨gb246, 3, none⟩ = some (.int .i64 a2_3)) ∧ (w'.heap[gb244]? = some (.cells #[.bool true, .int .i64 a0_1, .int .i64 a0_2, .int .i64 a0_3, .int .i64 a0_4, .int .i64 a0_5, .int .i64 a0_6, .int .i64 a0_7] 25 (0, 0))) ∧ (w'.heap[gb245]? = some (.cells #[.int .i64 a1_0, .int .i64 a1_1, .int .i64 a1_2, .int .i64 a1_3] 27 (0, 0))) ∧ (w'.heap[gb246]? = some (.cells #[.int .i64 a2_0, .int .i64 a2_1, .int .i64 a2_2, .int .i64 a2_3] 27 (0, 0))) ∧ (w'.heap[gb247]? = some (.cells #[.int .i64 0, .int .i64 0, .int .i64 0, .int .i64 0] 27 (0, 0))) ∧ (w'.heap[s_]? = some (.cells #[.int .i64 0, .int .i64 0, .int .i64 0, .int .i64 0] 27 (0, 0))) ∧ (w.heap.size ≤ s_) ∧ (w.heap.size ≤ s_) ∧ (gb244 ≠ s_) ∧ (s_ ≠ gb244) ∧ (gb245 ≠ s_) ∧ (s_ ≠ gb245) ∧ (gb246 ≠ s_) ∧ (s_ ≠ gb246) ∧ (gb247 ≠ s_) ∧ (s_ ≠ gb247) ∧ (Below w.heap.size w w')) ?_ ?_
   rotate_left
   ·intro hJ4_9_10
    refine join_ (σ := Nat) 3 #[true, true, true, true, true, true, true, true, true, true, false, true, false, false] (fun s_ => [(31, .agg #[.int .i64 t252, .int .i64 t253, .int .i64 t254, .int .i64 t255]), (36, .agg #[.int .i64 t256, .int .i64 t257, .int .i64 t258, .int .i64 t259]), (8, .pointer (some ⟨s_, 0, none⟩))]) (fun s_ w' => (w'.cell? ⟨gb244, 0, none⟩ = some (.bool true) ∧ w'.cell? ⟨gb244, 1, none⟩ = some (.int .i64 a0_1) ∧ w'.cell? ⟨gb244, 2, none⟩ = some (.int .i64 a0_2) ∧ w'.cell? ⟨gb244, 3, none⟩ = some (.int .i64 a0_3) ∧ w'.cell? ⟨gb244, 4, none⟩ = some (.int .i64 a0_4) ∧ w'.cell? ⟨gb244, 5, none⟩ = some (.int .i64 a0_5) ∧ w'.cell? ⟨gb244, 6, none⟩ = some (.int .i64 a0_6) ∧ w'.cell? ⟨gb244, 7, none⟩ = some (.int .i64 a0_7) ∧ w'.cell? ⟨gb245, 0, none⟩ = some (.int .i64 a1_0) ∧ w'.cell? ⟨gb245, 1, none⟩ = some (.int .i64 a1_1) ∧ w'.cell? ⟨gb245, 2, none⟩ = some (.int .i64 a1_2) ∧ w'.cell? ⟨gb245, 3, none⟩ = some (.int .i64 a1_3) ∧ w'.cell? ⟨gb246, 0, none⟩ = some (.int .i64 a2_0) ∧ w'.cell? ⟨gb246, 1, none⟩ = some (.int .i64 a2_1) ∧ w'.cell? ⟨gb246, 2, none⟩ = some (.int .i64 a2_2) ∧ w'.cell? ⟨gb246, 3, none⟩ = some (.int .i64 a2_3)) ∧ (w'.heap[gb244]? = some (.cells #[.bool true, .int .i64 a0_1, .int .i64 a0_2, .int .i64 a0_3, .int .i64 a0_4, .int .i64 a0_5, .int .i64 a0_6, .int .i64 a0_7] 25 (0, 0))) ∧ (w'.heap[gb245]? = some (.cells #[.int .i64 a1_0, .int .i64 a1_1, .int .i64 a1_2, .int .i64 a1_3] 27 (0, 0))) ∧ (w'.heap[gb246]? = some (.cells #[.int .i64 a2_0, .int .i64 a2_1, .int .i64 a2_2, .int .i64 a2_3] 27 (0, 0))) ∧ (w'.heap[gb247]? = some (.cells #[.int .i64 0, .int .i64 0, .int .i64 0, .int .i64 0] 27 (0, 0))) ∧ (w'.heap[s_]? = some (.cells #[.int .i64 0, .int .i64 0, .int .i64 0, .int .i64 0] 27 (0, 0))) ∧ (w.heap.size ≤ s_) ∧ (w.heap.size ≤ s_) ∧ (gb244 ≠ s_) ∧ (s_ ≠ gb244) ∧ (gb245 ≠ s_) ∧ (s_ ≠ gb245) ∧ (gb246 ≠ s_) ∧ (s_ ≠ gb246) ∧ (gb247 ≠ s_) ∧ (s_ ≠ gb247) ∧ (Below w.heap.size w w')) ?_ ?_
    rotate_left
    ·intro hJ4_9_11
     refine join_ (σ := Nat × Nat) 3 #[true, true, true, true, true, true, true, true, true, false, true, true, false, false] (fun s_ => [(31, .agg #[.int .i64 t252, .int .i64 t253, .int .i64 t254, .int .i64 t255]), (7, .pointer (some ⟨s_.1, 0, none⟩)), (8, .pointer (some ⟨s_.2, 0, none⟩))]) (fun s_ w' => (w'.cell? ⟨gb244, 0, none⟩ = some (.bool true) ∧ w'.cell? ⟨gb244, 1, none⟩ = some (.int .i64 a0_1) ∧ w'.cell? ⟨gb244, 2, none⟩ = some (.int .i64 a0_2) ∧ w'.cell? ⟨gb244, 3, none⟩ = some (.int .i64 a0_3) ∧ w'.cell? ⟨gb244, 4, none⟩ = some (.int .i64 a0_4) ∧ w'.cell? ⟨gb244, 5, none⟩ = some (.int .i64 a0_5) ∧ w'.cell? ⟨gb244, 6, none⟩ = some (.int .i64 a0_6) ∧ w'.cell? ⟨gb244, 7, none⟩ = some (.int .i64 a0_7) ∧ w'.cell? ⟨gb245, 0, none⟩ = some (.int .i64 a1_0) ∧ w'.cell? ⟨gb245, 1, none⟩ = some (.int .i64 a1_1) ∧ w'.cell? ⟨gb245, 2, none⟩ = some (.int .i64 a1_2) ∧ w'.cell? ⟨gb245, 3, none⟩ = some (.int .i64 a1_3) ∧ w'.cell? ⟨gb246, 0, none⟩ = some (.int .i64 a2_0) ∧ w'.cell? ⟨gb246, 1, none⟩ = some (.int .i64 a2_1) ∧ w'.cell? ⟨gb246, 2, none⟩ = some (.int .i64 a2_2) ∧ w'.cell? ⟨gb246, 3, none⟩ = some (.int .i64 a2_3)) ∧ (w'.heap[gb244]? = some (.cells #[.bool true, .int .i64 a0_1, .int .i64 a0_2, .int .i64 a0_3, .int .i64 a0_4, .int .i64 a0_5, .int .i64 a0_6, .int .i64 a0_7] 25 (0, 0))) ∧ (w'.heap[gb245]? = some (.cells #[.int .i64 a1_0, .int .i64 a1_1, .int .i64 a1_2, .int .i64 a1_3] 27 (0, 0))) ∧ (w'.heap[gb246]? = some (.cells #[.int .i64 a2_0, .int .i64 a2_1, .int .i64 a2_2, .int .i64 a2_3] 27 (0, 0))) ∧ (w'.heap[gb247]? = some (.cells #[.int .i64 0, .int .i64 0, .int .i64 0, .int .i64 0] 27 (0, 0))) ∧ (w'.heap[s_.1]? = some (.cells #[.int .i64 0, .int .i64 0, .int .i64 0, .int .i64 0] 27 (0, 0))) ∧ (w'.heap[s_.2]? = some (.cells #[.int .i64 0, .int .i64 0, .int .i64 0, .int .i64 0] 27 (0, 0))) ∧ (w.heap.size ≤ s_.1) ∧ (w.heap.size ≤ s_.1) ∧ (gb244 ≠ s_.1) ∧ (s_.1 ≠ gb244) ∧ (gb245 ≠ s_.1) ∧ (s_.1 ≠ gb245) ∧ (gb246 ≠ s_.1) ∧ (s_.1 ≠ gb246) ∧ (gb247 ≠ s_.1) ∧ (s_.1 ≠ gb247) ∧ (s_.2 ≠ s_.1) ∧ (s_.1 ≠ s_.2) ∧ (w.heap.size ≤ s_.2) ∧ (w.heap.size ≤ s_.2) ∧ (gb244 ≠ s_.2) ∧ (s_.2 ≠ gb244) ∧ (gb245 ≠ s_.2) ∧ (s_.2 ≠ gb245) ∧ (gb246 ≠ s_.2) ∧ (s_.2 ≠ gb246) ∧ (gb247 ≠ s_.2) ∧ (s_.2 ≠ gb247) ∧ (Below w.heap.size w w')) ?_ ?_
     rotate_left
     ·intro hJ4_10_11
      refine join_ (σ := Unit) 4 #[true, true, true, true, true, true, true, true, true, true, false, false, false, false] (fun s_ => [(31, .agg #[.int .i64 t252, .int .i64 t253, .int .i64 t254, .int .i64 t255]), (36, .agg #[.int .i64 t256, .int .i64 t257, .int .i64 t258, .int .i64 t259])]) (fun s_ w' => (w'.cell? ⟨gb244, 0, none⟩ = some (.bool true) ∧ w'.cell? ⟨gb244, 1, none⟩ = some (.int .i64 a0_1) ∧ w'.cell? ⟨gb244, 2, none⟩ = some (.int .i64 a0_2) ∧ w'.cell? ⟨gb244, 3, none⟩ = some (.int .i64 a0_3) ∧ w'.cell? ⟨gb244, 4, none⟩ = some (.int .i64 a0_4) ∧ w'.cell? ⟨gb244, 5, none⟩ = some (.int .i64 a0_5) ∧ w'.cell? ⟨gb244, 6, none⟩ = some (.int .i64 a0_6) ∧ w'.cell? ⟨gb244, 7, none⟩ = some (.int .i64 a0_7) ∧ w'.cell? ⟨gb245, 0, none⟩ = some (.int .i64 a1_0) ∧ w'.cell? ⟨gb245, 1, none⟩ = some (.int .i64 a1_1) ∧ w'.cell? ⟨gb245, 2, none⟩ = some (.int .i64 a1_2) ∧ w'.cell? ⟨gb245, 3, none⟩ = some (.int .i64 a1_3) ∧ w'.cell? ⟨gb246, 0, none⟩ = some (.int .i64 a2_0) ∧ w'.cell? ⟨gb246, 1, none⟩ = some (.int .i64 a2_1) ∧ w'.cell? ⟨gb246, 2, none⟩ = some (.int .i64 a2_2) ∧ w'.cell? ⟨gb246, 3, none⟩ = some (.int .i64 a2_3)) ∧ (w'.heap[gb244]? = some (.cells #[.bool true, .int .i64 a0_1, .int .i64 a0_2, .int .i64 a0_3, .int .i64 a0_4, .int .i64 a0_5, .int .i64 a0_6, .int .i64 a0_7] 25 (0, 0))) ∧ (w'.heap[gb245]? = some (.cells #[.int .i64 a1_0, .int .i64 a1_1, .int .i64 a1_2, .int .i64 a1_3] 27 (0, 0))) ∧ (w'.heap[gb246]? = some (.cells #[.int .i64 a2_0, .int .i64 a2_1, .int .i64 a2_2, .int .i64 a2_3] 27 (0, 0))) ∧ (w'.heap[gb247]? = some (.cells #[.int .i64 0, .int .i64 0, .int .i64 0, .int .i64 0] 27 (0, 0))) ∧ (Below w.heap.size w w')) ?_ ?_
      rotate_left
      ·intro hJ4_9
       refine join_ (σ := Nat) 4 #[true, true, true, true, true, true, true, true, true, false, true, false, false, false] (fun s_ => [(31, .agg #[.int .i64 t252, .int .i64 t253, .int .i64 t254, .int .i64 t255]), (7, .pointer (some ⟨s_, 0, none⟩))]) (fun s_ w' => (w'.cell? ⟨gb244, 0, none⟩ = some (.bool true) ∧ w'.cell? ⟨gb244, 1, none⟩ = some (.int .i64 a0_1) ∧ w'.cell? ⟨gb244, 2, none⟩ = some (.int .i64 a0_2) ∧ w'.cell? ⟨gb244, 3, none⟩ = some (.int .i64 a0_3) ∧ w'.cell? ⟨gb244, 4, none⟩ = some (.int .i64 a0_4) ∧ w'.cell? ⟨gb244, 5, none⟩ = some (.int .i64 a0_5) ∧ w'.cell? ⟨gb244, 6, none⟩ = some (.int .i64 a0_6) ∧ w'.cell? ⟨gb244, 7, none⟩ = some (.int .i64 a0_7) ∧ w'.cell? ⟨gb245, 0, none⟩ = some (.int .i64 a1_0) ∧ w'.cell? ⟨gb245, 1, none⟩ = some (.int .i64 a1_1) ∧ w'.cell? ⟨gb245, 2, none⟩ = some (.int .i64 a1_2) ∧ w'.cell? ⟨gb245, 3, none⟩ = some (.int .i64 a1_3) ∧ w'.cell? ⟨gb246, 0, none⟩ = some (.int .i64 a2_0) ∧ w'.cell? ⟨gb246, 1, none⟩ = some (.int .i64 a2_1) ∧ w'.cell? ⟨gb246, 2, none⟩ = some (.int .i64 a2_2) ∧ w'.cell? ⟨gb246, 3, none⟩ = some (.int .i64 a2_3)) ∧ (w'.heap[gb244]? = some (.cells #[.bool true, .int .i64 a0_1, .int .i64 a0_2, .int .i64 a0_3, .int .i64 a0_4, .int .i64 a0_5, .int .i64 a0_6, .int .i64 a0_7] 25 (0, 0))) ∧ (w'.heap[gb245]? = some (.cells #[.int .i64 a1_0, .int .i64 a1_1, .int .i64 a1_2, .int .i64 a1_3] 27 (0, 0))) ∧ (w'.heap[gb246]? = some (.cells #[.int .i64 a2_0, .int .i64 a2_1, .int .i64 a2_2, .int .i64 a2_3] 27 (0, 0))) ∧ (w'.heap[gb247]? = some (.cells #[.int .i64 0, .int .i64 0, .int .i64 0, .int .i64 0] 27 (0, 0))) ∧ (w'.heap[s_]? = some (.cells #[.int .i64 0, .int .i64 0, .int .i64 0, .int .i64 0] 27 (0, 0))) ∧ (w.heap.size ≤ s_) ∧ (w.heap.size ≤ s_) ∧ (gb244 ≠ s_) ∧ (s_ ≠ gb244) ∧ (gb245 ≠ s_) ∧ (s_ ≠ gb245) ∧ (gb246 ≠ s_) ∧ (s_ ≠ gb246) ∧ (gb247 ≠ s_) ∧ (s_ ≠ gb247) ∧ (Below w.heap.size w w')) ?_ ?_
       rotate_left
       ·intro hJ4_10
        refine join_ (σ := Nat) 4 #[true, true, true, true, true, true, true, true, true, false, false, true, false, false] (fun s_ => [(31, .agg #[.int .i64 t252, .int .i64 t253, .int .i64 t254, .int .i64 t255]), (8, .pointer (some ⟨s_, 0, none⟩))]) (fun s_ w' => (w'.cell? ⟨gb244, 0, none⟩ = some (.bool true) ∧ w'.cell? ⟨gb244, 1, none⟩ = some (.int .i64 a0_1) ∧ w'.cell? ⟨gb244, 2, none⟩ = some (.int .i64 a0_2) ∧ w'.cell? ⟨gb244, 3, none⟩ = some (.int .i64 a0_3) ∧ w'.cell? ⟨gb244, 4, none⟩ = some (.int .i64 a0_4) ∧ w'.cell? ⟨gb244, 5, none⟩ = some (.int .i64 a0_5) ∧ w'.cell? ⟨gb244, 6, none⟩ = some (.int .i64 a0_6) ∧ w'.cell? ⟨gb244, 7, none⟩ = some (.int .i64 a0_7) ∧ w'.cell? ⟨gb245, 0, none⟩ = some (.int .i64 a1_0) ∧ w'.cell? ⟨gb245, 1, none⟩ = some (.int .i64 a1_1) ∧ w'.cell? ⟨gb245, 2, none⟩ = some (.int .i64 a1_2) ∧ w'.cell? ⟨gb245, 3, none⟩ = some (.int .i64 a1_3) ∧ w'.cell? ⟨gb246, 0, none⟩ = some (.int .i64 a2_0) ∧ w'.cell? ⟨gb246, 1, none⟩ = some (.int .i64 a2_1) ∧ w'.cell? ⟨gb246, 2, none⟩ = some (.int .i64 a2_2) ∧ w'.cell? ⟨gb246, 3, none⟩ = some (.int .i64 a2_3)) ∧ (w'.heap[gb244]? = some (.cells #[.bool true, .int .i64 a0_1, .int .i64 a0_2, .int .i64 a0_3, .int .i64 a0_4, .int .i64 a0_5, .int .i64 a0_6, .int .i64 a0_7] 25 (0, 0))) ∧ (w'.heap[gb245]? = some (.cells #[.int .i64 a1_0, .int .i64 a1_1, .int .i64 a1_2, .int .i64 a1_3] 27 (0, 0))) ∧ (w'.heap[gb246]? = some (.cells #[.int .i64 a2_0, .int .i64 a2_1, .int .i64 a2_2, .int .i64 a2_3] 27 (0, 0))) ∧ (w'.heap[gb247]? = some (.cells #[.int .i64 0, .int .i64 0, .int .i64 0, .int .i64 0] 27 (0, 0))) ∧ (w'.heap[s_]? = some (.cells #[.int .i64 0, .int .i64 0, .int .i64 0, .int .i64 0] 27 (0, 0))) ∧ (w.heap.size ≤ s_) ∧ (w.heap.size ≤ s_) ∧ (gb244 ≠ s_) ∧ (s_ ≠ gb244) ∧ (gb245 ≠ s_) ∧ (s_ ≠ gb245) ∧ (gb246 ≠ s_) ∧ (s_ ≠ gb246) ∧ (gb247 ≠ s_) ∧ (s_ ≠ gb247) ∧ (Below w.heap.size w w')) ?_ ?_
        rotate_left
        ·intro hJ4_11
         refine join_ (σ := Nat × Nat) 4 #[true, true, true, true, false, true, true, true, true, false, true, true, false, false] (fun s_ => [(7, .pointer (some ⟨s_.1, 0, none⟩)), (8, .pointer (some ⟨s_.2, 0, none⟩))]) (fun s_ w' => (w'.cell? ⟨gb244, 0, none⟩ = some (.bool true) ∧ w'.cell? ⟨gb244, 1, none⟩ = some (.int .i64 a0_1) ∧ w'.cell? ⟨gb244, 2, none⟩ = some (.int .i64 a0_2) ∧ w'.cell? ⟨gb244, 3, none⟩ = some (.int .i64 a0_3) ∧ w'.cell? ⟨gb244, 4, none⟩ = some (.int .i64 a0_4) ∧ w'.cell? ⟨gb244, 5, none⟩ = some (.int .i64 a0_5) ∧ w'.cell? ⟨gb244, 6, none⟩ = some (.int .i64 a0_6) ∧ w'.cell? ⟨gb244, 7, none⟩ = some (.int .i64 a0_7) ∧ w'.cell? ⟨gb245, 0, none⟩ = some (.int .i64 a1_0) ∧ w'.cell? ⟨gb245, 1, none⟩ = some (.int .i64 a1_1) ∧ w'.cell? ⟨gb245, 2, none⟩ = some (.int .i64 a1_2) ∧ w'.cell? ⟨gb245, 3, none⟩ = some (.int .i64 a1_3) ∧ w'.cell? ⟨gb246, 0, none⟩ = some (.int .i64 a2_0) ∧ w'.cell? ⟨gb246, 1, none⟩ = some (.int .i64 a2_1) ∧ w'.cell? ⟨gb246, 2, none⟩ = some (.int .i64 a2_2) ∧ w'.cell? ⟨gb246, 3, none⟩ = some (.int .i64 a2_3)) ∧ (w'.heap[gb244]? = some (.cells #[.bool true, .int .i64 a0_1, .int .i64 a0_2, .int .i64 a0_3, .int .i64 a0_4, .int .i64 a0_5, .int .i64 a0_6, .int .i64 a0_7] 25 (0, 0))) ∧ (w'.heap[gb245]? = some (.cells #[.int .i64 a1_0, .int .i64 a1_1, .int .i64 a1_2, .int .i64 a1_3] 27 (0, 0))) ∧ (w'.heap[gb246]? = some (.cells #[.int .i64 a2_0, .int .i64 a2_1, .int .i64 a2_2, .int .i64 a2_3] 27 (0, 0))) ∧ (w'.heap[gb247]? = some (.cells #[.int .i64 0, .int .i64 0, .int .i64 0, .int .i64 0] 27 (0, 0))) ∧ (w'.heap[s_.1]? = some (.cells #[.int .i64 0, .int .i64 0, .int .i64 0, .int .i64 0] 27 (0, 0))) ∧ (w'.heap[s_.2]? = some (.cells #[.int .i64 0, .int .i64 0, .int .i64 0, .int .i64 0] 27 (0, 0))) ∧ (w.heap.size ≤ s_.1) ∧ (w.heap.size ≤ s_.1) ∧ (gb244 ≠ s_.1) ∧ (s_.1 ≠ gb244) ∧ (gb245 ≠ s_.1) ∧ (s_.1 ≠ gb245) ∧ (gb246 ≠ s_.1) ∧ (s_.1 ≠ gb246) ∧ (gb247 ≠ s_.1) ∧ (s_.1 ≠ gb247) ∧ (s_.2 ≠ s_.1) ∧ (s_.1 ≠ s_.2) ∧ (w.heap.size ≤ s_.2) ∧ (w.heap.size ≤ s_.2) ∧ (gb244 ≠ s_.2) ∧ (s_.2 ≠ gb244) ∧ (gb245 ≠ s_.2) ∧ (s_.2 ≠ gb245) ∧ (gb246 ≠ s_.2) ∧ (s_.2 ≠ gb246) ∧ (gb247 ≠ s_.2) ∧ (s_.2 ≠ gb247) ∧ (Below w.heap.size w w')) ?_ ?_
         rotate_left
         ·intro hJ10_11
          refine join_ (σ := Unit) 5 #[true, true, true, true, true, true, true, true, true, false, false, false, false, false] (fun s_ => [(31, .agg #[.int .i64 t252, .int .i64 t253, .int .i64 t254, .int .i64 t255])]) (fun s_ w' => (w'.cell? ⟨gb244, 0, none⟩ = some (.bool true) ∧ w'.cell? ⟨gb244, 1, none⟩ = some (.int .i64 a0_1) ∧ w'.cell? ⟨gb244, 2, none⟩ = some (.int .i64 a0_2) ∧ w'.cell? ⟨gb244, 3, none⟩ = some (.int .i64 a0_3) ∧ w'.cell? ⟨gb244, 4, none⟩ = some (.int .i64 a0_4) ∧ w'.cell? ⟨gb244, 5, none⟩ = some (.int .i64 a0_5) ∧ w'.cell? ⟨gb244, 6, none⟩ = some (.int .i64 a0_6) ∧ w'.cell? ⟨gb244, 7, none⟩ = some (.int .i64 a0_7) ∧ w'.cell? ⟨gb245, 0, none⟩ = some (.int .i64 a1_0) ∧ w'.cell? ⟨gb245, 1, none⟩ = some (.int .i64 a1_1) ∧ w'.cell? ⟨gb245, 2, none⟩ = some (.int .i64 a1_2) ∧ w'.cell? ⟨gb245, 3, none⟩ = some (.int .i64 a1_3) ∧ w'.cell? ⟨gb246, 0, none⟩ = some (.int .i64 a2_0) ∧ w'.cell? ⟨gb246, 1, none⟩ = some (.int .i64 a2_1) ∧ w'.cell? ⟨gb246, 2, none⟩ = some (.int .i64 a2_2) ∧ w'.cell? ⟨gb246, 3, none⟩ = some (.int .i64 a2_3)) ∧ (w'.heap[gb244]? = some (.cells #[.bool true, .int .i64 a0_1, .int .i64 a0_2, .int .i64 a0_3, .int .i64 a0_4, .int .i64 a0_5, .int .i64 a0_6, .int .i64 a0_7] 25 (0, 0))) ∧ (w'.heap[gb245]? = some (.cells #[.int .i64 a1_0, .int .i64 a1_1, .int .i64 a1_2, .int .i64 a1_3] 27 (0, 0))) ∧ (w'.heap[gb246]? = some (.cells #[.int .i64 a2_0, .int .i64 a2_1, .int .i64 a2_2, .int .i64 a2_3] 27 (0, 0))) ∧ (w'.heap[gb247]? = some (.cells #[.int .i64 0, .int .i64 0, .int .i64 0, .int .i64 0] 27 (0, 0))) ∧ (Below w.heap.size w w')) ?_ ?_
          rotate_left
          ·intro hJ4
           refine join_ (σ := Nat) 5 #[true, true, true, true, false, true, true, true, true, false, true, false, false, false] (fun s_ => [(7, .pointer (some ⟨s_, 0, none⟩))]) (fun s_ w' => (w'.cell? ⟨gb244, 0, none⟩ = some (.bool true) ∧ w'.cell? ⟨gb244, 1, none⟩ = some (.int .i64 a0_1) ∧ w'.cell? ⟨gb244, 2, none⟩ = some (.int .i64 a0_2) ∧ w'.cell? ⟨gb244, 3, none⟩ = some (.int .i64 a0_3) ∧ w'.cell? ⟨gb244, 4, none⟩ = some (.int .i64 a0_4) ∧ w'.cell? ⟨gb244, 5, none⟩ = some (.int .i64 a0_5) ∧ w'.cell? ⟨gb244, 6, none⟩ = some (.int .i64 a0_6) ∧ w'.cell? ⟨gb244, 7, none⟩ = some (.int .i64 a0_7) ∧ w'.cell? ⟨gb245, 0, none⟩ = some (.int .i64 a1_0) ∧ w'.cell? ⟨gb245, 1, none⟩ = some (.int .i64 a1_1) ∧ w'.cell? ⟨gb245, 2, none⟩ = some (.int .i64 a1_2) ∧ w'.cell? ⟨gb245, 3, none⟩ = some (.int .i64 a1_3) ∧ w'.cell? ⟨gb246, 0, none⟩ = some (.int .i64 a2_0) ∧ w'.cell? ⟨gb246, 1, none⟩ = some (.int .i64 a2_1) ∧ w'.cell? ⟨gb246, 2, none⟩ = some (.int .i64 a2_2) ∧ w'.cell? ⟨gb246, 3, none⟩ = some (.int .i64 a2_3)) ∧ (w'.heap[gb244]? = some (.cells #[.bool true, .int .i64 a0_1, .int .i64 a0_2, .int .i64 a0_3, .int .i64 a0_4, .int .i64 a0_5, .int .i64 a0_6, .int .i64 a0_7] 25 (0, 0))) ∧ (w'.heap[gb245]? = some (.cells #[.int .i64 a1_0, .int .i64 a1_1, .int .i64 a1_2, .int .i64 a1_3] 27 (0, 0))) ∧ (w'.heap[gb246]? = some (.cells #[.int .i64 a2_0, .int .i64 a2_1, .int .i64 a2_2, .int .i64 a2_3] 27 (0, 0))) ∧ (w'.heap[gb247]? = some (.cells #[.int .i64 0, .int .i64 0, .int .i64 0, .int .i64 0] 27 (0, 0))) ∧ (w'.heap[s_]? = some (.cells #[.int .i64 0, .int .i64 0, .int .i64 0, .int .i64 0] 27 (0, 0))) ∧ (w.heap.size ≤ s_) ∧ (w.heap.size ≤ s_) ∧ (gb244 ≠ s_) ∧ (s_ ≠ gb244) ∧ (gb245 ≠ s_) ∧ (s_ ≠ gb245) ∧ (gb246 ≠ s_) ∧ (s_ ≠ gb246) ∧ (gb247 ≠ s_) ∧ (s_ ≠ gb247) ∧ (Below w.heap.size w w')) ?_ ?_
           rotate_left
           ·intro hJ10
            refine join_ (σ := Nat) 5 #[true, true, true, true, false, true, true, true, true, false, false, true, false, false] (fun s_ => [(8, .pointer (some ⟨s_, 0, none⟩))]) (fun s_ w' => (w'.cell? ⟨gb244, 0, none⟩ = some (.bool true) ∧ w'.cell? ⟨gb244, 1, none⟩ = some (.int .i64 a0_1) ∧ w'.cell? ⟨gb244, 2, none⟩ = some (.int .i64 a0_2) ∧ w'.cell? ⟨gb244, 3, none⟩ = some (.int .i64 a0_3) ∧ w'.cell? ⟨gb244, 4, none⟩ = some (.int .i64 a0_4) ∧ w'.cell? ⟨gb244, 5, none⟩ = some (.int .i64 a0_5) ∧ w'.cell? ⟨gb244, 6, none⟩ = some (.int .i64 a0_6) ∧ w'.cell? ⟨gb244, 7, none⟩ = some (.int .i64 a0_7) ∧ w'.cell? ⟨gb245, 0, none⟩ = some (.int .i64 a1_0) ∧ w'.cell? ⟨gb245, 1, none⟩ = some (.int .i64 a1_1) ∧ w'.cell? ⟨gb245, 2, none⟩ = some (.int .i64 a1_2) ∧ w'.cell? ⟨gb245, 3, none⟩ = some (.int .i64 a1_3) ∧ w'.cell? ⟨gb246, 0, none⟩ = some (.int .i64 a2_0) ∧ w'.cell? ⟨gb246, 1, none⟩ = some (.int .i64 a2_1) ∧ w'.cell? ⟨gb246, 2, none⟩ = some (.int .i64 a2_2) ∧ w'.cell? ⟨gb246, 3, none⟩ = some (.int .i64 a2_3)) ∧ (w'.heap[gb244]? = some (.cells #[.bool true, .int .i64 a0_1, .int .i64 a0_2, .int .i64 a0_3, .int .i64 a0_4, .int .i64 a0_5, .int .i64 a0_6, .int .i64 a0_7] 25 (0, 0))) ∧ (w'.heap[gb245]? = some (.cells #[.int .i64 a1_0, .int .i64 a1_1, .int .i64 a1_2, .int .i64 a1_3] 27 (0, 0))) ∧ (w'.heap[gb246]? = some (.cells #[.int .i64 a2_0, .int .i64 a2_1, .int .i64 a2_2, .int .i64 a2_3] 27 (0, 0))) ∧ (w'.heap[gb247]? = some (.cells #[.int .i64 0, .int .i64 0, .int .i64 0, .int .i64 0] 27 (0, 0))) ∧ (w'.heap[s_]? = some (.cells #[.int .i64 0, .int .i64 0, .int .i64 0, .int .i64 0] 27 (0, 0))) ∧ (w.heap.size ≤ s_) ∧ (w.heap.size ≤ s_) ∧ (gb244 ≠ s_) ∧ (s_ ≠ gb244) ∧ (gb245 ≠ s_) ∧ (s_ ≠ gb245) ∧ (gb246 ≠ s_) ∧ (s_ ≠ gb246) ∧ (gb247 ≠ s_) ∧ (s_ ≠ gb247) ∧ (Below w.heap.size w w')) ?_ ?_
            rotate_left
            ·intro hJ11
             refine three_ (i := 4) (j := 10) (k := 11) (Ni := some 31) (Nj := some 7) (Nk := some 8) #[true, true, true, true, true, true, true, true, true, false, false, false, false, false] #[true, true, true, true, false, true, true, true, true, false, true, false, false, false] #[true, true, true, true, false, true, true, true, true, false, false, true, false, false] rfl rfl rfl rfl rfl rfl (three_of HT_.out (by kernel_rfl)) (by decide) (by decide) (by decide) (fun K hK => ?_) (fun K hK => ?_) (fun K hK => ?_)
             ·skip
              refine goes_ Try.func7 (by kernel_rfl) rfl #[.int .i64 a0_1, .agg #[.int .i64 a1_0, .int .i64 a1_1, .int .i64 a1_2, .int .i64 a1_3], .agg #[.int .i64 a2_0, .int .i64 a2_1, .int .i64 a2_2, .int .i64 a2_3]] (by rfl) rfl rfl (by (try simp only [List.map_toArray, List.map_cons, List.map_nil]); first | done | rfl | (simp only [List.length_drop, List.length_take]; rfl)) ?_
              with_reducible refine (blend_Factor.calls a0_1 a1_0 a1_1 a1_2 a1_3 a2_0 a2_1 a2_2 a2_3 t252 t253 t254 t255 _ A5.out).mono ?_; rintro e w22 ⟨rfl, hb⟩; refine ⟨_, rfl, ?_⟩; replace BK244 := ub BK244 hb; replace BK245 := ub BK245 hb; replace BK246 := ub BK246 hb; replace BK247 := ub BK247 hb; replace HB := bs HB hb; (try clear hb); (try clear hb2); (try clear hk); (try clear hi)
              refine hK.out _ _ ⟨bc BK244 0, bc BK244 1, bc BK244 2, bc BK244 3, bc BK244 4, bc BK244 5, bc BK244 6, bc BK244 7, bc BK245 0, bc BK245 1, bc BK245 2, bc BK245 3, bc BK246 0, bc BK246 1, bc BK246 2, bc BK246 3⟩ (fun hHeld => ?_)
              clear hK K
              refine norm_ (a' := ?_) ?_ ?_
              rotate_left
              ·show Act.put _ (some 31) _ = _
               simp only [Act.put, List.setIfInBounds_toArray, List.set_cons_zero, List.set_cons_succ, i64_w, i32_w]
               rfl
              exact norm_ (by first | (simp only [putAll, Act.put, List.setIfInBounds_toArray, List.set_cons_zero, List.set_cons_succ]; done) | (simp only [putAll, Act.put, List.setIfInBounds_toArray, List.set_cons_zero, List.set_cons_succ]; rfl)) (hJ4 () _ ⟨hHeld, BK244.out, BK245.out, BK246.out, BK247.out, (by repeat (first | (with_reducible first | exact HB.out | apply below_alloc | apply pw_below_drewN | apply below_drew1 | refine below_setA ?_ (by assumption)) | exact HB.out))⟩)
             ·skip
              refine box_step ?hg (N := 7) ?hd (cs := #[.int .i64 0, .int .i64 0, .int .i64 0, .int .i64 0]) (t := 27) ?hr ?_; (case hd => rfl); (case hg => rfl); (case hr => first | (go_simp; done) | (go_simp; rfl))
              intro gb260 hg w22 hbox hb
              have BK260 := Aside0.mk (hbox); have GW260 := ws HB hg; have GE260 := ws HB hg; have NB244_260 := nl BK244 hg; have NB260_244 := ng BK244 hg; have NB245_260 := nl BK245 hg; have NB260_245 := ng BK245 hg; have NB246_260 := nl BK246 hg; have NB260_246 := ng BK246 hg; have NB247_260 := nl BK247 hg; have NB260_247 := ng BK247 hg; replace BK244 := ub BK244 hb; replace BK245 := ub BK245 hb; replace BK246 := ub BK246 hb; replace BK247 := ub BK247 hb; replace HB := bs HB hb; clear hb hbox hg
              refine hK.out _ _ ⟨bc BK244 0, bc BK244 1, bc BK244 2, bc BK244 3, bc BK244 4, bc BK244 5, bc BK244 6, bc BK244 7, bc BK245 0, bc BK245 1, bc BK245 2, bc BK245 3, bc BK246 0, bc BK246 1, bc BK246 2, bc BK246 3⟩ (fun hHeld => ?_)
              clear hK K
              refine norm_ (a' := ?_) ?_ ?_
              rotate_left
              ·show Act.put _ (some 7) _ = _
               simp only [Act.put, List.setIfInBounds_toArray, List.set_cons_zero, List.set_cons_succ, i64_w, i32_w]
               rfl
              exact norm_ (by first | (simp only [putAll, Act.put, List.setIfInBounds_toArray, List.set_cons_zero, List.set_cons_succ]; done) | (simp only [putAll, Act.put, List.setIfInBounds_toArray, List.set_cons_zero, List.set_cons_succ]; rfl)) (hJ10 (gb260) _ ⟨hHeld, BK244.out, BK245.out, BK246.out, BK247.out, BK260.out, GW260.out, GE260.out, NB244_260.out, NB260_244.out, NB245_260.out, NB260_245.out, NB246_260.out, NB260_246.out, NB247_260.out, NB260_247.out, (by repeat (first | (with_reducible first | exact HB.out | apply below_alloc | apply pw_below_drewN | apply below_drew1 | refine below_setA ?_ (by assumption)) | exact HB.out))⟩)
             ·skip
              refine box_step ?hg (N := 8) ?hd (cs := #[.int .i64 0, .int .i64 0, .int .i64 0, .int .i64 0]) (t := 27) ?hr ?_; (case hd => rfl); (case hg => rfl); (case hr => first | (go_simp; done) | (go_simp; rfl))
              intro gb261 hg w22 hbox hb
              have BK261 := Aside0.mk (hbox); have GW261 := ws HB hg; have GE261 := ws HB hg; have NB244_261 := nl BK244 hg; have NB261_244 := ng BK244 hg; have NB245_261 := nl BK245 hg; have NB261_245 := ng BK245 hg; have NB246_261 := nl BK246 hg; have NB261_246 := ng BK246 hg; have NB247_261 := nl BK247 hg; have NB261_247 := ng BK247 hg; replace BK244 := ub BK244 hb; replace BK245 := ub BK245 hb; replace BK246 := ub BK246 hb; replace BK247 := ub BK247 hb; replace HB := bs HB hb; clear hb hbox hg
              refine hK.out _ _ ⟨bc BK244 0, bc BK244 1, bc BK244 2, bc BK244 3, bc BK244 4, bc BK244 5, bc BK244 6, bc BK244 7, bc BK245 0, bc BK245 1, bc BK245 2, bc BK245 3, bc BK246 0, bc BK246 1, bc BK246 2, bc BK246 3⟩ (fun hHeld => ?_)
              clear hK K
              refine norm_ (a' := ?_) ?_ ?_
              rotate_left
              ·show Act.put _ (some 8) _ = _
               simp only [Act.put, List.setIfInBounds_toArray, List.set_cons_zero, List.set_cons_succ, i64_w, i32_w]
               rfl
              exact norm_ (by first | (simp only [putAll, Act.put, List.setIfInBounds_toArray, List.set_cons_zero, List.set_cons_succ]; done) | (simp only [putAll, Act.put, List.setIfInBounds_toArray, List.set_cons_zero, List.set_cons_succ]; rfl)) (hJ11 (gb261) _ ⟨hHeld, BK244.out, BK245.out, BK246.out, BK247.out, BK261.out, GW261.out, GE261.out, NB244_261.out, NB261_244.out, NB245_261.out, NB261_245.out, NB246_261.out, NB261_246.out, NB247_261.out, NB261_247.out, (by repeat (first | (with_reducible first | exact HB.out | apply below_alloc | apply pw_below_drewN | apply below_drew1 | refine below_setA ?_ (by assumption)) | exact HB.out))⟩)
            ·skip
             rintro gb261 w23 ⟨hS_, h0_, h1_, h2_, h3_, h4_, h5_, h6_, h7_, h8_, h9_, h10_, h11_, h12_, h13_, h14_, h15_⟩; have BK261 := Aside0.mk h4_; have GW261 := Aside0.mk h5_; have GE261 := Aside0.mk h6_; have NB244_261 := Aside0.mk h7_; have NB261_244 := Aside0.mk h8_; have NB245_261 := Aside0.mk h9_; have NB261_245 := Aside0.mk h10_; have NB246_261 := Aside0.mk h11_; have NB261_246 := Aside0.mk h12_; have NB247_261 := Aside0.mk h13_; have NB261_247 := Aside0.mk h14_; replace BK244 := Aside0.mk h0_; replace BK245 := Aside0.mk h1_; replace BK246 := Aside0.mk h2_; replace BK247 := Aside0.mk h3_; replace HB := Aside0.mk h15_; clear h0_ h1_ h2_ h3_ h4_ h5_ h6_ h7_ h8_ h9_ h10_ h11_ h12_ h13_ h14_ h15_; have hHeld := hS_
             refine norm_ (a' := ?_) ?_ ?_
             rotate_left
             ·simp only [putAll, Act.put, List.setIfInBounds_toArray, List.set_cons_zero, List.set_cons_succ]
              rfl
             refine two_ (i := 4) (j := 10) (Ni := some 31) (Nj := some 7) #[true, true, true, true, true, true, true, true, true, false, false, true, false, false] #[true, true, true, true, false, true, true, true, true, false, true, true, false, false] rfl rfl rfl rfl (two_of HT_.out (by kernel_rfl)) (by decide) (by decide) (fun K hK => ?_) (fun K hK => ?_)
             ·skip
              refine goes_ Try.func7 (by kernel_rfl) rfl #[.int .i64 a0_1, .agg #[.int .i64 a1_0, .int .i64 a1_1, .int .i64 a1_2, .int .i64 a1_3], .agg #[.int .i64 a2_0, .int .i64 a2_1, .int .i64 a2_2, .int .i64 a2_3]] (by rfl) rfl rfl (by (try simp only [List.map_toArray, List.map_cons, List.map_nil]); first | done | rfl | (simp only [List.length_drop, List.length_take]; rfl)) ?_
              with_reducible refine (blend_Factor.calls a0_1 a1_0 a1_1 a1_2 a1_3 a2_0 a2_1 a2_2 a2_3 t252 t253 t254 t255 _ A5.out).mono ?_; rintro e w24 ⟨rfl, hb⟩; refine ⟨_, rfl, ?_⟩; replace BK244 := ub BK244 hb; replace BK245 := ub BK245 hb; replace BK246 := ub BK246 hb; replace BK247 := ub BK247 hb; replace BK261 := ub BK261 hb; replace HB := bs HB hb; (try clear hb); (try clear hb2); (try clear hk); (try clear hi)
              refine hK.out _ _ ⟨bc BK244 0, bc BK244 1, bc BK244 2, bc BK244 3, bc BK244 4, bc BK244 5, bc BK244 6, bc BK244 7, bc BK245 0, bc BK245 1, bc BK245 2, bc BK245 3, bc BK246 0, bc BK246 1, bc BK246 2, bc BK246 3⟩ (fun hHeld => ?_)
              clear hK K
              refine norm_ (a' := ?_) ?_ ?_
              rotate_left
              ·show Act.put _ (some 31) _ = _
               simp only [Act.put, List.setIfInBounds_toArray, List.set_cons_zero, List.set_cons_succ, i64_w, i32_w]
               rfl
              exact norm_ (by first | (simp only [putAll, Act.put, List.setIfInBounds_toArray, List.set_cons_zero, List.set_cons_succ]; done) | (simp only [putAll, Act.put, List.setIfInBounds_toArray, List.set_cons_zero, List.set_cons_succ]; rfl)) (hJ4_11 (gb261) _ ⟨hHeld, BK244.out, BK245.out, BK246.out, BK247.out, BK261.out, GW261.out, GE261.out, NB244_261.out, NB261_244.out, NB245_261.out, NB261_245.out, NB246_261.out, NB261_246.out, NB247_261.out, NB261_247.out, (by repeat (first | (with_reducible first | exact HB.out | apply below_alloc | apply pw_below_drewN | apply below_drew1 | refine below_setA ?_ (by assumption)) | exact HB.out))⟩)
             ·skip
              refine box_step ?hg (N := 7) ?hd (cs := #[.int .i64 0, .int .i64 0, .int .i64 0, .int .i64 0]) (t := 27) ?hr ?_; (case hd => rfl); (case hg => rfl); (case hr => first | (go_simp; done) | (go_simp; rfl))
              intro gb260 hg w24 hbox hb
              have BK260 := Aside0.mk (hbox); have GW260 := ws HB hg; have GE260 := ws HB hg; have NB244_260 := nl BK244 hg; have NB260_244 := ng BK244 hg; have NB245_260 := nl BK245 hg; have NB260_245 := ng BK245 hg; have NB246_260 := nl BK246 hg; have NB260_246 := ng BK246 hg; have NB247_260 := nl BK247 hg; have NB260_247 := ng BK247 hg; have NB261_260 := nl BK261 hg; have NB260_261 := ng BK261 hg; replace BK244 := ub BK244 hb; replace BK245 := ub BK245 hb; replace BK246 := ub BK246 hb; replace BK247 := ub BK247 hb; replace BK261 := ub BK261 hb; replace HB := bs HB hb; clear hb hbox hg
              refine hK.out _ _ ⟨bc BK244 0, bc BK244 1, bc BK244 2, bc BK244 3, bc BK244 4, bc BK244 5, bc BK244 6, bc BK244 7, bc BK245 0, bc BK245 1, bc BK245 2, bc BK245 3, bc BK246 0, bc BK246 1, bc BK246 2, bc BK246 3⟩ (fun hHeld => ?_)
              clear hK K
              refine norm_ (a' := ?_) ?_ ?_
              rotate_left
              ·show Act.put _ (some 7) _ = _
               simp only [Act.put, List.setIfInBounds_toArray, List.set_cons_zero, List.set_cons_succ, i64_w, i32_w]
               rfl
              exact norm_ (by first | (simp only [putAll, Act.put, List.setIfInBounds_toArray, List.set_cons_zero, List.set_cons_succ]; done) | (simp only [putAll, Act.put, List.setIfInBounds_toArray, List.set_cons_zero, List.set_cons_succ]; rfl)) (hJ10_11 (gb260, gb261) _ ⟨hHeld, BK244.out, BK245.out, BK246.out, BK247.out, BK260.out, BK261.out, GW260.out, GE260.out, NB244_260.out, NB260_244.out, NB245_260.out, NB260_245.out, NB246_260.out, NB260_246.out, NB247_260.out, NB260_247.out, NB261_260.out, NB260_261.out, GW261.out, GE261.out, NB244_261.out, NB261_244.out, NB245_261.out, NB261_245.out, NB246_261.out, NB261_246.out, NB247_261.out, NB261_247.out, (by repeat (first | (with_reducible first | exact HB.out | apply below_alloc | apply pw_below_drewN | apply below_drew1 | refine below_setA ?_ (by assumption)) | exact HB.out))⟩)
           ·skip
            rintro gb260 w23 ⟨hS_, h0_, h1_, h2_, h3_, h4_, h5_, h6_, h7_, h8_, h9_, h10_, h11_, h12_, h13_, h14_, h15_⟩; have BK260 := Aside0.mk h4_; have GW260 := Aside0.mk h5_; have GE260 := Aside0.mk h6_; have NB244_260 := Aside0.mk h7_; have NB260_244 := Aside0.mk h8_; have NB245_260 := Aside0.mk h9_; have NB260_245 := Aside0.mk h10_; have NB246_260 := Aside0.mk h11_; have NB260_246 := Aside0.mk h12_; have NB247_260 := Aside0.mk h13_; have NB260_247 := Aside0.mk h14_; replace BK244 := Aside0.mk h0_; replace BK245 := Aside0.mk h1_; replace BK246 := Aside0.mk h2_; replace BK247 := Aside0.mk h3_; replace HB := Aside0.mk h15_; clear h0_ h1_ h2_ h3_ h4_ h5_ h6_ h7_ h8_ h9_ h10_ h11_ h12_ h13_ h14_ h15_; have hHeld := hS_
            refine norm_ (a' := ?_) ?_ ?_
            rotate_left
            ·simp only [putAll, Act.put, List.setIfInBounds_toArray, List.set_cons_zero, List.set_cons_succ]
             rfl
            refine two_ (i := 4) (j := 11) (Ni := some 31) (Nj := some 8) #[true, true, true, true, true, true, true, true, true, false, true, false, false, false] #[true, true, true, true, false, true, true, true, true, false, true, true, false, false] rfl rfl rfl rfl (two_of HT_.out (by kernel_rfl)) (by decide) (by decide) (fun K hK => ?_) (fun K hK => ?_)
            ·skip
             refine goes_ Try.func7 (by kernel_rfl) rfl #[.int .i64 a0_1, .agg #[.int .i64 a1_0, .int .i64 a1_1, .int .i64 a1_2, .int .i64 a1_3], .agg #[.int .i64 a2_0, .int .i64 a2_1, .int .i64 a2_2, .int .i64 a2_3]] (by rfl) rfl rfl (by (try simp only [List.map_toArray, List.map_cons, List.map_nil]); first | done | rfl | (simp only [List.length_drop, List.length_take]; rfl)) ?_
             with_reducible refine (blend_Factor.calls a0_1 a1_0 a1_1 a1_2 a1_3 a2_0 a2_1 a2_2 a2_3 t252 t253 t254 t255 _ A5.out).mono ?_; rintro e w24 ⟨rfl, hb⟩; refine ⟨_, rfl, ?_⟩; replace BK244 := ub BK244 hb; replace BK245 := ub BK245 hb; replace BK246 := ub BK246 hb; replace BK247 := ub BK247 hb; replace BK260 := ub BK260 hb; replace HB := bs HB hb; (try clear hb); (try clear hb2); (try clear hk); (try clear hi)
             refine hK.out _ _ ⟨bc BK244 0, bc BK244 1, bc BK244 2, bc BK244 3, bc BK244 4, bc BK244 5, bc BK244 6, bc BK244 7, bc BK245 0, bc BK245 1, bc BK245 2, bc BK245 3, bc BK246 0, bc BK246 1, bc BK246 2, bc BK246 3⟩ (fun hHeld => ?_)
             clear hK K
             refine norm_ (a' := ?_) ?_ ?_
             rotate_left
             ·show Act.put _ (some 31) _ = _
              simp only [Act.put, List.setIfInBounds_toArray, List.set_cons_zero, List.set_cons_succ, i64_w, i32_w]
              rfl
             exact norm_ (by first | (simp only [putAll, Act.put, List.setIfInBounds_toArray, List.set_cons_zero, List.set_cons_succ]; done) | (simp only [putAll, Act.put, List.setIfInBounds_toArray, List.set_cons_zero, List.set_cons_succ]; rfl)) (hJ4_10 (gb260) _ ⟨hHeld, BK244.out, BK245.out, BK246.out, BK247.out, BK260.out, GW260.out, GE260.out, NB244_260.out, NB260_244.out, NB245_260.out, NB260_245.out, NB246_260.out, NB260_246.out, NB247_260.out, NB260_247.out, (by repeat (first | (with_reducible first | exact HB.out | apply below_alloc | apply pw_below_drewN | apply below_drew1 | refine below_setA ?_ (by assumption)) | exact HB.out))⟩)
            ·skip
             refine box_step ?hg (N := 8) ?hd (cs := #[.int .i64 0, .int .i64 0, .int .i64 0, .int .i64 0]) (t := 27) ?hr ?_; (case hd => rfl); (case hg => rfl); (case hr => first | (go_simp; done) | (go_simp; rfl))
             intro gb261 hg w24 hbox hb
             have BK261 := Aside0.mk (hbox); have GW261 := ws HB hg; have GE261 := ws HB hg; have NB244_261 := nl BK244 hg; have NB261_244 := ng BK244 hg; have NB245_261 := nl BK245 hg; have NB261_245 := ng BK245 hg; have NB246_261 := nl BK246 hg; have NB261_246 := ng BK246 hg; have NB247_261 := nl BK247 hg; have NB261_247 := ng BK247 hg; have NB260_261 := nl BK260 hg; have NB261_260 := ng BK260 hg; replace BK244 := ub BK244 hb; replace BK245 := ub BK245 hb; replace BK246 := ub BK246 hb; replace BK247 := ub BK247 hb; replace BK260 := ub BK260 hb; replace HB := bs HB hb; clear hb hbox hg
             refine hK.out _ _ ⟨bc BK244 0, bc BK244 1, bc BK244 2, bc BK244 3, bc BK244 4, bc BK244 5, bc BK244 6, bc BK244 7, bc BK245 0, bc BK245 1, bc BK245 2, bc BK245 3, bc BK246 0, bc BK246 1, bc BK246 2, bc BK246 3⟩ (fun hHeld => ?_)
             clear hK K
             refine norm_ (a' := ?_) ?_ ?_
             rotate_left
             ·show Act.put _ (some 8) _ = _
              simp only [Act.put, List.setIfInBounds_toArray, List.set_cons_zero, List.set_cons_succ, i64_w, i32_w]
              rfl
             exact norm_ (by first | (simp only [putAll, Act.put, List.setIfInBounds_toArray, List.set_cons_zero, List.set_cons_succ]; done) | (simp only [putAll, Act.put, List.setIfInBounds_toArray, List.set_cons_zero, List.set_cons_succ]; rfl)) (hJ10_11 (gb260, gb261) _ ⟨hHeld, BK244.out, BK245.out, BK246.out, BK247.out, BK260.out, BK261.out, GW260.out, GE260.out, NB244_260.out, NB260_244.out, NB245_260.out, NB260_245.out, NB246_260.out, NB260_246.out, NB247_260.out, NB260_247.out, NB261_260.out, NB260_261.out, GW261.out, GE261.out, NB244_261.out, NB261_244.out, NB245_261.out, NB261_245.out, NB246_261.out, NB261_246.out, NB247_261.out, NB261_247.out, (by repeat (first | (with_reducible first | exact HB.out | apply below_alloc | apply pw_below_drewN | apply below_drew1 | refine below_setA ?_ (by assumption)) | exact HB.out))⟩)
          ·skip
           rintro _ w23 ⟨hS_, h0_, h1_, h2_, h3_, h4_⟩; replace BK244 := Aside0.mk h0_; replace BK245 := Aside0.mk h1_; replace BK246 := Aside0.mk h2_; replace BK247 := Aside0.mk h3_; replace HB := Aside0.mk h4_; clear h0_ h1_ h2_ h3_ h4_; have hHeld := hS_
           refine norm_ (a' := ?_) ?_ ?_
           rotate_left
           ·simp only [putAll, Act.put, List.setIfInBounds_toArray, List.set_cons_zero, List.set_cons_succ]
            rfl
           refine three_ (i := 9) (j := 10) (k := 11) (Ni := some 36) (Nj := some 7) (Nk := some 8) #[true, true, true, true, true, true, true, true, true, true, false, false, false, false] #[true, true, true, true, true, true, true, true, true, false, true, false, false, false] #[true, true, true, true, true, true, true, true, true, false, false, true, false, false] rfl rfl rfl rfl rfl rfl (three_of HT_.out (by kernel_rfl)) (by decide) (by decide) (by decide) (fun K hK => ?_) (fun K hK => ?_) (fun K hK => ?_)
           ·skip
            refine goes_ Try.func7 (by kernel_rfl) rfl #[.int .i64 a0_2, .agg #[.int .i64 a1_0, .int .i64 a1_1, .int .i64 a1_2, .int .i64 a1_3], .agg #[.int .i64 a2_0, .int .i64 a2_1, .int .i64 a2_2, .int .i64 a2_3]] (by rfl) rfl rfl (by (try simp only [List.map_toArray, List.map_cons, List.map_nil]); first | done | rfl | (simp only [List.length_drop, List.length_take]; rfl)) ?_
            with_reducible refine (blend_Factor.calls a0_2 a1_0 a1_1 a1_2 a1_3 a2_0 a2_1 a2_2 a2_3 t256 t257 t258 t259 _ A6.out).mono ?_; rintro e w24 ⟨rfl, hb⟩; refine ⟨_, rfl, ?_⟩; replace BK244 := ub BK244 hb; replace BK245 := ub BK245 hb; replace BK246 := ub BK246 hb; replace BK247 := ub BK247 hb; replace HB := bs HB hb; (try clear hb); (try clear hb2); (try clear hk); (try clear hi)
            refine hK.out _ _ ⟨bc BK244 0, bc BK244 1, bc BK244 2, bc BK244 3, bc BK244 4, bc BK244 5, bc BK244 6, bc BK244 7, bc BK245 0, bc BK245 1, bc BK245 2, bc BK245 3, bc BK246 0, bc BK246 1, bc BK246 2, bc BK246 3⟩ (fun hHeld => ?_)
            clear hK K
            refine norm_ (a' := ?_) ?_ ?_
            rotate_left
            ·show Act.put _ (some 36) _ = _
             simp only [Act.put, List.setIfInBounds_toArray, List.set_cons_zero, List.set_cons_succ, i64_w, i32_w]
             rfl
            exact norm_ (by first | (simp only [putAll, Act.put, List.setIfInBounds_toArray, List.set_cons_zero, List.set_cons_succ]; done) | (simp only [putAll, Act.put, List.setIfInBounds_toArray, List.set_cons_zero, List.set_cons_succ]; rfl)) (hJ4_9 () _ ⟨hHeld, BK244.out, BK245.out, BK246.out, BK247.out, (by repeat (first | (with_reducible first | exact HB.out | apply below_alloc | apply pw_below_drewN | apply below_drew1 | refine below_setA ?_ (by assumption)) | exact HB.out))⟩)
           ·skip
            refine box_step ?hg (N := 7) ?hd (cs := #[.int .i64 0, .int .i64 0, .int .i64 0, .int .i64 0]) (t := 27) ?hr ?_; (case hd => rfl); (case hg => rfl); (case hr => first | (go_simp; done) | (go_simp; rfl))
            intro gb260 hg w24 hbox hb
            have BK260 := Aside0.mk (hbox); have GW260 := ws HB hg; have GE260 := ws HB hg; have NB244_260 := nl BK244 hg; have NB260_244 := ng BK244 hg; have NB245_260 := nl BK245 hg; have NB260_245 := ng BK245 hg; have NB246_260 := nl BK246 hg; have NB260_246 := ng BK246 hg; have NB247_260 := nl BK247 hg; have NB260_247 := ng BK247 hg; replace BK244 := ub BK244 hb; replace BK245 := ub BK245 hb; replace BK246 := ub BK246 hb; replace BK247 := ub BK247 hb; replace HB := bs HB hb; clear hb hbox hg
            refine hK.out _ _ ⟨bc BK244 0, bc BK244 1, bc BK244 2, bc BK244 3, bc BK244 4, bc BK244 5, bc BK244 6, bc BK244 7, bc BK245 0, bc BK245 1, bc BK245 2, bc BK245 3, bc BK246 0, bc BK246 1, bc BK246 2, bc BK246 3⟩ (fun hHeld => ?_)
            clear hK K
            refine norm_ (a' := ?_) ?_ ?_
            rotate_left
            ·show Act.put _ (some 7) _ = _
             simp only [Act.put, List.setIfInBounds_toArray, List.set_cons_zero, List.set_cons_succ, i64_w, i32_w]
             rfl
            exact norm_ (by first | (simp only [putAll, Act.put, List.setIfInBounds_toArray, List.set_cons_zero, List.set_cons_succ]; done) | (simp only [putAll, Act.put, List.setIfInBounds_toArray, List.set_cons_zero, List.set_cons_succ]; rfl)) (hJ4_10 (gb260) _ ⟨hHeld, BK244.out, BK245.out, BK246.out, BK247.out, BK260.out, GW260.out, GE260.out, NB244_260.out, NB260_244.out, NB245_260.out, NB260_245.out, NB246_260.out, NB260_246.out, NB247_260.out, NB260_247.out, (by repeat (first | (with_reducible first | exact HB.out | apply below_alloc | apply pw_below_drewN | apply below_drew1 | refine below_setA ?_ (by assumption)) | exact HB.out))⟩)
           ·skip
            refine box_step ?hg (N := 8) ?hd (cs := #[.int .i64 0, .int .i64 0, .int .i64 0, .int .i64 0]) (t := 27) ?hr ?_; (case hd => rfl); (case hg => rfl); (case hr => first | (go_simp; done) | (go_simp; rfl))
            intro gb261 hg w24 hbox hb
            have BK261 := Aside0.mk (hbox); have GW261 := ws HB hg; have GE261 := ws HB hg; have NB244_261 := nl BK244 hg; have NB261_244 := ng BK244 hg; have NB245_261 := nl BK245 hg; have NB261_245 := ng BK245 hg; have NB246_261 := nl BK246 hg; have NB261_246 := ng BK246 hg; have NB247_261 := nl BK247 hg; have NB261_247 := ng BK247 hg; replace BK244 := ub BK244 hb; replace BK245 := ub BK245 hb; replace BK246 := ub BK246 hb; replace BK247 := ub BK247 hb; replace HB := bs HB hb; clear hb hbox hg
            refine hK.out _ _ ⟨bc BK244 0, bc BK244 1, bc BK244 2, bc BK244 3, bc BK244 4, bc BK244 5, bc BK244 6, bc BK244 7, bc BK245 0, bc BK245 1, bc BK245 2, bc BK245 3, bc BK246 0, bc BK246 1, bc BK246 2, bc BK246 3⟩ (fun hHeld => ?_)
            clear hK K
            refine norm_ (a' := ?_) ?_ ?_
            rotate_left
            ·show Act.put _ (some 8) _ = _
             simp only [Act.put, List.setIfInBounds_toArray, List.set_cons_zero, List.set_cons_succ, i64_w, i32_w]
             rfl
            exact norm_ (by first | (simp only [putAll, Act.put, List.setIfInBounds_toArray, List.set_cons_zero, List.set_cons_succ]; done) | (simp only [putAll, Act.put, List.setIfInBounds_toArray, List.set_cons_zero, List.set_cons_succ]; rfl)) (hJ4_11 (gb261) _ ⟨hHeld, BK244.out, BK245.out, BK246.out, BK247.out, BK261.out, GW261.out, GE261.out, NB244_261.out, NB261_244.out, NB245_261.out, NB261_245.out, NB246_261.out, NB261_246.out, NB247_261.out, NB261_247.out, (by repeat (first | (with_reducible first | exact HB.out | apply below_alloc | apply pw_below_drewN | apply below_drew1 | refine below_setA ?_ (by assumption)) | exact HB.out))⟩)
         ·skip
          rintro ⟨gb260, gb261⟩ w24 ⟨hS_, h0_, h1_, h2_, h3_, h4_, h5_, h6_, h7_, h8_, h9_, h10_, h11_, h12_, h13_, h14_, h15_, h16_, h17_, h18_, h19_, h20_, h21_, h22_, h23_, h24_, h25_, h26_, h27_, h28_⟩; have BK260 := Aside0.mk h4_; have BK261 := Aside0.mk h5_; have GW260 := Aside0.mk h6_; have GE260 := Aside0.mk h7_; have NB244_260 := Aside0.mk h8_; have NB260_244 := Aside0.mk h9_; have NB245_260 := Aside0.mk h10_; have NB260_245 := Aside0.mk h11_; have NB246_260 := Aside0.mk h12_; have NB260_246 := Aside0.mk h13_; have NB247_260 := Aside0.mk h14_; have NB260_247 := Aside0.mk h15_; have NB261_260 := Aside0.mk h16_; have NB260_261 := Aside0.mk h17_; have GW261 := Aside0.mk h18_; have GE261 := Aside0.mk h19_; have NB244_261 := Aside0.mk h20_; have NB261_244 := Aside0.mk h21_; have NB245_261 := Aside0.mk h22_; have NB261_245 := Aside0.mk h23_; have NB246_261 := Aside0.mk h24_; have NB261_246 := Aside0.mk h25_; have NB247_261 := Aside0.mk h26_; have NB261_247 := Aside0.mk h27_; replace BK244 := Aside0.mk h0_; replace BK245 := Aside0.mk h1_; replace BK246 := Aside0.mk h2_; replace BK247 := Aside0.mk h3_; replace HB := Aside0.mk h28_; clear h0_ h1_ h2_ h3_ h4_ h5_ h6_ h7_ h8_ h9_ h10_ h11_ h12_ h13_ h14_ h15_ h16_ h17_ h18_ h19_ h20_ h21_ h22_ h23_ h24_ h25_ h26_ h27_ h28_; have hHeld := hS_
          refine norm_ (a' := ?_) ?_ ?_
          rotate_left
          ·simp only [putAll, Act.put, List.setIfInBounds_toArray, List.set_cons_zero, List.set_cons_succ]
           rfl
          refine one_ (i := 4) (N := some 31) #[true, true, true, true, true, true, true, true, true, false, true, true, false, false] rfl rfl (one_of HT_.out (by kernel_rfl)) (by decide) (fun K hK => ?_)
          refine goes_ Try.func7 (by kernel_rfl) rfl #[.int .i64 a0_1, .agg #[.int .i64 a1_0, .int .i64 a1_1, .int .i64 a1_2, .int .i64 a1_3], .agg #[.int .i64 a2_0, .int .i64 a2_1, .int .i64 a2_2, .int .i64 a2_3]] (by rfl) rfl rfl (by (try simp only [List.map_toArray, List.map_cons, List.map_nil]); first | done | rfl | (simp only [List.length_drop, List.length_take]; rfl)) ?_
          with_reducible refine (blend_Factor.calls a0_1 a1_0 a1_1 a1_2 a1_3 a2_0 a2_1 a2_2 a2_3 t252 t253 t254 t255 _ A5.out).mono ?_; rintro e w25 ⟨rfl, hb⟩; refine ⟨_, rfl, ?_⟩; replace BK244 := ub BK244 hb; replace BK245 := ub BK245 hb; replace BK246 := ub BK246 hb; replace BK247 := ub BK247 hb; replace BK260 := ub BK260 hb; replace BK261 := ub BK261 hb; replace HB := bs HB hb; (try clear hb); (try clear hb2); (try clear hk); (try clear hi)
          refine hK.out _ _ ⟨bc BK244 0, bc BK244 1, bc BK244 2, bc BK244 3, bc BK244 4, bc BK244 5, bc BK244 6, bc BK244 7, bc BK245 0, bc BK245 1, bc BK245 2, bc BK245 3, bc BK246 0, bc BK246 1, bc BK246 2, bc BK246 3⟩ (fun hHeld => ?_)
          clear hK K
          refine norm_ (a' := ?_) ?_ ?_
          rotate_left
          ·show Act.put _ (some 31) _ = _
           simp only [Act.put, List.setIfInBounds_toArray, List.set_cons_zero, List.set_cons_succ, i64_w, i32_w]
           rfl
          exact norm_ (by first | (simp only [putAll, Act.put, List.setIfInBounds_toArray, List.set_cons_zero, List.set_cons_succ]; done) | (simp only [putAll, Act.put, List.setIfInBounds_toArray, List.set_cons_zero, List.set_cons_succ]; rfl)) (hJ4_10_11 (gb260, gb261) _ ⟨hHeld, BK244.out, BK245.out, BK246.out, BK247.out, BK260.out, BK261.out, GW260.out, GE260.out, NB244_260.out, NB260_244.out, NB245_260.out, NB260_245.out, NB246_260.out, NB260_246.out, NB247_260.out, NB260_247.out, NB261_260.out, NB260_261.out, GW261.out, GE261.out, NB244_261.out, NB261_244.out, NB245_261.out, NB261_245.out, NB246_261.out, NB261_246.out, NB247_261.out, NB261_247.out, (by repeat (first | (with_reducible first | exact HB.out | apply below_alloc | apply pw_below_drewN | apply below_drew1 | refine below_setA ?_ (by assumption)) | exact HB.out))⟩)
        ·skip
         rintro gb261 w24 ⟨hS_, h0_, h1_, h2_, h3_, h4_, h5_, h6_, h7_, h8_, h9_, h10_, h11_, h12_, h13_, h14_, h15_⟩; have BK261 := Aside0.mk h4_; have GW261 := Aside0.mk h5_; have GE261 := Aside0.mk h6_; have NB244_261 := Aside0.mk h7_; have NB261_244 := Aside0.mk h8_; have NB245_261 := Aside0.mk h9_; have NB261_245 := Aside0.mk h10_; have NB246_261 := Aside0.mk h11_; have NB261_246 := Aside0.mk h12_; have NB247_261 := Aside0.mk h13_; have NB261_247 := Aside0.mk h14_; replace BK244 := Aside0.mk h0_; replace BK245 := Aside0.mk h1_; replace BK246 := Aside0.mk h2_; replace BK247 := Aside0.mk h3_; replace HB := Aside0.mk h15_; clear h0_ h1_ h2_ h3_ h4_ h5_ h6_ h7_ h8_ h9_ h10_ h11_ h12_ h13_ h14_ h15_; have hHeld := hS_
         refine norm_ (a' := ?_) ?_ ?_
         rotate_left
         ·simp only [putAll, Act.put, List.setIfInBounds_toArray, List.set_cons_zero, List.set_cons_succ]
          rfl
         refine two_ (i := 9) (j := 10) (Ni := some 36) (Nj := some 7) #[true, true, true, true, true, true, true, true, true, true, false, true, false, false] #[true, true, true, true, true, true, true, true, true, false, true, true, false, false] rfl rfl rfl rfl (two_of HT_.out (by kernel_rfl)) (by decide) (by decide) (fun K hK => ?_) (fun K hK => ?_)
         ·skip
          refine goes_ Try.func7 (by kernel_rfl) rfl #[.int .i64 a0_2, .agg #[.int .i64 a1_0, .int .i64 a1_1, .int .i64 a1_2, .int .i64 a1_3], .agg #[.int .i64 a2_0, .int .i64 a2_1, .int .i64 a2_2, .int .i64 a2_3]] (by rfl) rfl rfl (by (try simp only [List.map_toArray, List.map_cons, List.map_nil]); first | done | rfl | (simp only [List.length_drop, List.length_take]; rfl)) ?_
          with_reducible refine (blend_Factor.calls a0_2 a1_0 a1_1 a1_2 a1_3 a2_0 a2_1 a2_2 a2_3 t256 t257 t258 t259 _ A6.out).mono ?_; rintro e w25 ⟨rfl, hb⟩; refine ⟨_, rfl, ?_⟩; replace BK244 := ub BK244 hb; replace BK245 := ub BK245 hb; replace BK246 := ub BK246 hb; replace BK247 := ub BK247 hb; replace BK261 := ub BK261 hb; replace HB := bs HB hb; (try clear hb); (try clear hb2); (try clear hk); (try clear hi)
          refine hK.out _ _ ⟨bc BK244 0, bc BK244 1, bc BK244 2, bc BK244 3, bc BK244 4, bc BK244 5, bc BK244 6, bc BK244 7, bc BK245 0, bc BK245 1, bc BK245 2, bc BK245 3, bc BK246 0, bc BK246 1, bc BK246 2, bc BK246 3⟩ (fun hHeld => ?_)
          clear hK K
          refine norm_ (a' := ?_) ?_ ?_
          rotate_left
          ·show Act.put _ (some 36) _ = _
           simp only [Act.put, List.setIfInBounds_toArray, List.set_cons_zero, List.set_cons_succ, i64_w, i32_w]
           rfl
          exact norm_ (by first | (simp only [putAll, Act.put, List.setIfInBounds_toArray, List.set_cons_zero, List.set_cons_succ]; done) | (simp only [putAll, Act.put, List.setIfInBounds_toArray, List.set_cons_zero, List.set_cons_succ]; rfl)) (hJ4_9_11 (gb261) _ ⟨hHeld, BK244.out, BK245.out, BK246.out, BK247.out, BK261.out, GW261.out, GE261.out, NB244_261.out, NB261_244.out, NB245_261.out, NB261_245.out, NB246_261.out, NB261_246.out, NB247_261.out, NB261_247.out, (by repeat (first | (with_reducible first | exact HB.out | apply below_alloc | apply pw_below_drewN | apply below_drew1 | refine below_setA ?_ (by assumption)) | exact HB.out))⟩)
         ·skip
          refine box_step ?hg (N := 7) ?hd (cs := #[.int .i64 0, .int .i64 0, .int .i64 0, .int .i64 0]) (t := 27) ?hr ?_; (case hd => rfl); (case hg => rfl); (case hr => first | (go_simp; done) | (go_simp; rfl))
          intro gb260 hg w25 hbox hb
          have BK260 := Aside0.mk (hbox); have GW260 := ws HB hg; have GE260 := ws HB hg; have NB244_260 := nl BK244 hg; have NB260_244 := ng BK244 hg; have NB245_260 := nl BK245 hg; have NB260_245 := ng BK245 hg; have NB246_260 := nl BK246 hg; have NB260_246 := ng BK246 hg; have NB247_260 := nl BK247 hg; have NB260_247 := ng BK247 hg; have NB261_260 := nl BK261 hg; have NB260_261 := ng BK261 hg; replace BK244 := ub BK244 hb; replace BK245 := ub BK245 hb; replace BK246 := ub BK246 hb; replace BK247 := ub BK247 hb; replace BK261 := ub BK261 hb; replace HB := bs HB hb; clear hb hbox hg
          refine hK.out _ _ ⟨bc BK244 0, bc BK244 1, bc BK244 2, bc BK244 3, bc BK244 4, bc BK244 5, bc BK244 6, bc BK244 7, bc BK245 0, bc BK245 1, bc BK245 2, bc BK245 3, bc BK246 0, bc BK246 1, bc BK246 2, bc BK246 3⟩ (fun hHeld => ?_)
          clear hK K
          refine norm_ (a' := ?_) ?_ ?_
          rotate_left
          ·show Act.put _ (some 7) _ = _
           simp only [Act.put, List.setIfInBounds_toArray, List.set_cons_zero, List.set_cons_succ, i64_w, i32_w]
           rfl
          exact norm_ (by first | (simp only [putAll, Act.put, List.setIfInBounds_toArray, List.set_cons_zero, List.set_cons_succ]; done) | (simp only [putAll, Act.put, List.setIfInBounds_toArray, List.set_cons_zero, List.set_cons_succ]; rfl)) (hJ4_10_11 (gb260, gb261) _ ⟨hHeld, BK244.out, BK245.out, BK246.out, BK247.out, BK260.out, BK261.out, GW260.out, GE260.out, NB244_260.out, NB260_244.out, NB245_260.out, NB260_245.out, NB246_260.out, NB260_246.out, NB247_260.out, NB260_247.out, NB261_260.out, NB260_261.out, GW261.out, GE261.out, NB244_261.out, NB261_244.out, NB245_261.out, NB261_245.out, NB246_261.out, NB261_246.out, NB247_261.out, NB261_247.out, (by repeat (first | (with_reducible first | exact HB.out | apply below_alloc | apply pw_below_drewN | apply below_drew1 | refine below_setA ?_ (by assumption)) | exact HB.out))⟩)
       ·skip
        rintro gb260 w24 ⟨hS_, h0_, h1_, h2_, h3_, h4_, h5_, h6_, h7_, h8_, h9_, h10_, h11_, h12_, h13_, h14_, h15_⟩; have BK260 := Aside0.mk h4_; have GW260 := Aside0.mk h5_; have GE260 := Aside0.mk h6_; have NB244_260 := Aside0.mk h7_; have NB260_244 := Aside0.mk h8_; have NB245_260 := Aside0.mk h9_; have NB260_245 := Aside0.mk h10_; have NB246_260 := Aside0.mk h11_; have NB260_246 := Aside0.mk h12_; have NB247_260 := Aside0.mk h13_; have NB260_247 := Aside0.mk h14_; replace BK244 := Aside0.mk h0_; replace BK245 := Aside0.mk h1_; replace BK246 := Aside0.mk h2_; replace BK247 := Aside0.mk h3_; replace HB := Aside0.mk h15_; clear h0_ h1_ h2_ h3_ h4_ h5_ h6_ h7_ h8_ h9_ h10_ h11_ h12_ h13_ h14_ h15_; have hHeld := hS_
        refine norm_ (a' := ?_) ?_ ?_
        rotate_left
        ·simp only [putAll, Act.put, List.setIfInBounds_toArray, List.set_cons_zero, List.set_cons_succ]
         rfl
        refine two_ (i := 9) (j := 11) (Ni := some 36) (Nj := some 8) #[true, true, true, true, true, true, true, true, true, true, true, false, false, false] #[true, true, true, true, true, true, true, true, true, false, true, true, false, false] rfl rfl rfl rfl (two_of HT_.out (by kernel_rfl)) (by decide) (by decide) (fun K hK => ?_) (fun K hK => ?_)
        ·skip
         refine goes_ Try.func7 (by kernel_rfl) rfl #[.int .i64 a0_2, .agg #[.int .i64 a1_0, .int .i64 a1_1, .int .i64 a1_2, .int .i64 a1_3], .agg #[.int .i64 a2_0, .int .i64 a2_1, .int .i64 a2_2, .int .i64 a2_3]] (by rfl) rfl rfl (by (try simp only [List.map_toArray, List.map_cons, List.map_nil]); first | done | rfl | (simp only [List.length_drop, List.length_take]; rfl)) ?_
         with_reducible refine (blend_Factor.calls a0_2 a1_0 a1_1 a1_2 a1_3 a2_0 a2_1 a2_2 a2_3 t256 t257 t258 t259 _ A6.out).mono ?_; rintro e w25 ⟨rfl, hb⟩; refine ⟨_, rfl, ?_⟩; replace BK244 := ub BK244 hb; replace BK245 := ub BK245 hb; replace BK246 := ub BK246 hb; replace BK247 := ub BK247 hb; replace BK260 := ub BK260 hb; replace HB := bs HB hb; (try clear hb); (try clear hb2); (try clear hk); (try clear hi)
         refine hK.out _ _ ⟨bc BK244 0, bc BK244 1, bc BK244 2, bc BK244 3, bc BK244 4, bc BK244 5, bc BK244 6, bc BK244 7, bc BK245 0, bc BK245 1, bc BK245 2, bc BK245 3, bc BK246 0, bc BK246 1, bc BK246 2, bc BK246 3⟩ (fun hHeld => ?_)
         clear hK K
         refine norm_ (a' := ?_) ?_ ?_
         rotate_left
         ·show Act.put _ (some 36) _ = _
          simp only [Act.put, List.setIfInBounds_toArray, List.set_cons_zero, List.set_cons_succ, i64_w, i32_w]
          rfl
         exact norm_ (by first | (simp only [putAll, Act.put, List.setIfInBounds_toArray, List.set_cons_zero, List.set_cons_succ]; done) | (simp only [putAll, Act.put, List.setIfInBounds_toArray, List.set_cons_zero, List.set_cons_succ]; rfl)) (hJ4_9_10 (gb260) _ ⟨hHeld, BK244.out, BK245.out, BK246.out, BK247.out, BK260.out, GW260.out, GE260.out, NB244_260.out, NB260_244.out, NB245_260.out, NB260_245.out, NB246_260.out, NB260_246.out, NB247_260.out, NB260_247.out, (by repeat (first | (with_reducible first | exact HB.out | apply below_alloc | apply pw_below_drewN | apply below_drew1 | refine below_setA ?_ (by assumption)) | exact HB.out))⟩)
        ·skip
         refine box_step ?hg (N := 8) ?hd (cs := #[.int .i64 0, .int .i64 0, .int .i64 0, .int .i64 0]) (t := 27) ?hr ?_; (case hd => rfl); (case hg => rfl); (case hr => first | (go_simp; done) | (go_simp; rfl))
         intro gb261 hg w25 hbox hb
         have BK261 := Aside0.mk (hbox); have GW261 := ws HB hg; have GE261 := ws HB hg; have NB244_261 := nl BK244 hg; have NB261_244 := ng BK244 hg; have NB245_261 := nl BK245 hg; have NB261_245 := ng BK245 hg; have NB246_261 := nl BK246 hg; have NB261_246 := ng BK246 hg; have NB247_261 := nl BK247 hg; have NB261_247 := ng BK247 hg; have NB260_261 := nl BK260 hg; have NB261_260 := ng BK260 hg; replace BK244 := ub BK244 hb; replace BK245 := ub BK245 hb; replace BK246 := ub BK246 hb; replace BK247 := ub BK247 hb; replace BK260 := ub BK260 hb; replace HB := bs HB hb; clear hb hbox hg
         refine hK.out _ _ ⟨bc BK244 0, bc BK244 1, bc BK244 2, bc BK244 3, bc BK244 4, bc BK244 5, bc BK244 6, bc BK244 7, bc BK245 0, bc BK245 1, bc BK245 2, bc BK245 3, bc BK246 0, bc BK246 1, bc BK246 2, bc BK246 3⟩ (fun hHeld => ?_)
         clear hK K
         refine norm_ (a' := ?_) ?_ ?_
         rotate_left
         ·show Act.put _ (some 8) _ = _
          simp only [Act.put, List.setIfInBounds_toArray, List.set_cons_zero, List.set_cons_succ, i64_w, i32_w]
          rfl
         exact norm_ (by first | (simp only [putAll, Act.put, List.setIfInBounds_toArray, List.set_cons_zero, List.set_cons_succ]; done) | (simp only [putAll, Act.put, List.setIfInBounds_toArray, List.set_cons_zero, List.set_cons_succ]; rfl)) (hJ4_10_11 (gb260, gb261) _ ⟨hHeld, BK244.out, BK245.out, BK246.out, BK247.out, BK260.out, BK261.out, GW260.out, GE260.out, NB244_260.out, NB260_244.out, NB245_260.out, NB260_245.out, NB246_260.out, NB260_246.out, NB247_260.out, NB260_247.out, NB261_260.out, NB260_261.out, GW261.out, GE261.out, NB244_261.out, NB261_244.out, NB245_261.out, NB261_245.out, NB246_261.out, NB261_246.out, NB247_261.out, NB261_247.out, (by repeat (first | (with_reducible first | exact HB.out | apply below_alloc | apply pw_below_drewN | apply below_drew1 | refine below_setA ?_ (by assumption)) | exact HB.out))⟩)
      ·skip
       rintro _ w24 ⟨hS_, h0_, h1_, h2_, h3_, h4_⟩; replace BK244 := Aside0.mk h0_; replace BK245 := Aside0.mk h1_; replace BK246 := Aside0.mk h2_; replace BK247 := Aside0.mk h3_; replace HB := Aside0.mk h4_; clear h0_ h1_ h2_ h3_ h4_; have hHeld := hS_
       refine norm_ (a' := ?_) ?_ ?_
       rotate_left
       ·simp only [putAll, Act.put, List.setIfInBounds_toArray, List.set_cons_zero, List.set_cons_succ]
        rfl
       refine two_ (i := 10) (j := 11) (Ni := some 7) (Nj := some 8) #[true, true, true, true, true, true, true, true, true, true, true, false, false, false] #[true, true, true, true, true, true, true, true, true, true, false, true, false, false] rfl rfl rfl rfl (two_of HT_.out (by kernel_rfl)) (by decide) (by decide) (fun K hK => ?_) (fun K hK => ?_)
       ·skip
        refine box_step ?hg (N := 7) ?hd (cs := #[.int .i64 0, .int .i64 0, .int .i64 0, .int .i64 0]) (t := 27) ?hr ?_; (case hd => rfl); (case hg => rfl); (case hr => first | (go_simp; done) | (go_simp; rfl))
        intro gb260 hg w25 hbox hb
        have BK260 := Aside0.mk (hbox); have GW260 := ws HB hg; have GE260 := ws HB hg; have NB244_260 := nl BK244 hg; have NB260_244 := ng BK244 hg; have NB245_260 := nl BK245 hg; have NB260_245 := ng BK245 hg; have NB246_260 := nl BK246 hg; have NB260_246 := ng BK246 hg; have NB247_260 := nl BK247 hg; have NB260_247 := ng BK247 hg; replace BK244 := ub BK244 hb; replace BK245 := ub BK245 hb; replace BK246 := ub BK246 hb; replace BK247 := ub BK247 hb; replace HB := bs HB hb; clear hb hbox hg
        refine hK.out _ _ ⟨bc BK244 0, bc BK244 1, bc BK244 2, bc BK244 3, bc BK244 4, bc BK244 5, bc BK244 6, bc BK244 7, bc BK245 0, bc BK245 1, bc BK245 2, bc BK245 3, bc BK246 0, bc BK246 1, bc BK246 2, bc BK246 3⟩ (fun hHeld => ?_)
        clear hK K
        refine norm_ (a' := ?_) ?_ ?_
        rotate_left
        ·show Act.put _ (some 7) _ = _
         simp only [Act.put, List.setIfInBounds_toArray, List.set_cons_zero, List.set_cons_succ, i64_w, i32_w]
         rfl
        exact norm_ (by first | (simp only [putAll, Act.put, List.setIfInBounds_toArray, List.set_cons_zero, List.set_cons_succ]; done) | (simp only [putAll, Act.put, List.setIfInBounds_toArray, List.set_cons_zero, List.set_cons_succ]; rfl)) (hJ4_9_10 (gb260) _ ⟨hHeld, BK244.out, BK245.out, BK246.out, BK247.out, BK260.out, GW260.out, GE260.out, NB244_260.out, NB260_244.out, NB245_260.out, NB260_245.out, NB246_260.out, NB260_246.out, NB247_260.out, NB260_247.out, (by repeat (first | (with_reducible first | exact HB.out | apply below_alloc | apply pw_below_drewN | apply below_drew1 | refine below_setA ?_ (by assumption)) | exact HB.out))⟩)
       ·skip
        refine box_step ?hg (N := 8) ?hd (cs := #[.int .i64 0, .int .i64 0, .int .i64 0, .int .i64 0]) (t := 27) ?hr ?_; (case hd => rfl); (case hg => rfl); (case hr => first | (go_simp; done) | (go_simp; rfl))
        intro gb261 hg w25 hbox hb
        have BK261 := Aside0.mk (hbox); have GW261 := ws HB hg; have GE261 := ws HB hg; have NB244_261 := nl BK244 hg; have NB261_244 := ng BK244 hg; have NB245_261 := nl BK245 hg; have NB261_245 := ng BK245 hg; have NB246_261 := nl BK246 hg; have NB261_246 := ng BK246 hg; have NB247_261 := nl BK247 hg; have NB261_247 := ng BK247 hg; replace BK244 := ub BK244 hb; replace BK245 := ub BK245 hb; replace BK246 := ub BK246 hb; replace BK247 := ub BK247 hb; replace HB := bs HB hb; clear hb hbox hg
        refine hK.out _ _ ⟨bc BK244 0, bc BK244 1, bc BK244 2, bc BK244 3, bc BK244 4, bc BK244 5, bc BK244 6, bc BK244 7, bc BK245 0, bc BK245 1, bc BK245 2, bc BK245 3, bc BK246 0, bc BK246 1, bc BK246 2, bc BK246 3⟩ (fun hHeld => ?_)
        clear hK K
        refine norm_ (a' := ?_) ?_ ?_
        rotate_left
        ·show Act.put _ (some 8) _ = _
         simp only [Act.put, List.setIfInBounds_toArray, List.set_cons_zero, List.set_cons_succ, i64_w, i32_w]
         rfl
        exact norm_ (by first | (simp only [putAll, Act.put, List.setIfInBounds_toArray, List.set_cons_zero, List.set_cons_succ]; done) | (simp only [putAll, Act.put, List.setIfInBounds_toArray, List.set_cons_zero, List.set_cons_succ]; rfl)) (hJ4_9_11 (gb261) _ ⟨hHeld, BK244.out, BK245.out, BK246.out, BK247.out, BK261.out, GW261.out, GE261.out, NB244_261.out, NB261_244.out, NB245_261.out, NB261_245.out, NB246_261.out, NB261_246.out, NB247_261.out, NB261_247.out, (by repeat (first | (with_reducible first | exact HB.out | apply below_alloc | apply pw_below_drewN | apply below_drew1 | refine below_setA ?_ (by assumption)) | exact HB.out))⟩)
     ·skip
      rintro ⟨gb260, gb261⟩ w25 ⟨hS_, h0_, h1_, h2_, h3_, h4_, h5_, h6_, h7_, h8_, h9_, h10_, h11_, h12_, h13_, h14_, h15_, h16_, h17_, h18_, h19_, h20_, h21_, h22_, h23_, h24_, h25_, h26_, h27_, h28_⟩; have BK260 := Aside0.mk h4_; have BK261 := Aside0.mk h5_; have GW260 := Aside0.mk h6_; have GE260 := Aside0.mk h7_; have NB244_260 := Aside0.mk h8_; have NB260_244 := Aside0.mk h9_; have NB245_260 := Aside0.mk h10_; have NB260_245 := Aside0.mk h11_; have NB246_260 := Aside0.mk h12_; have NB260_246 := Aside0.mk h13_; have NB247_260 := Aside0.mk h14_; have NB260_247 := Aside0.mk h15_; have NB261_260 := Aside0.mk h16_; have NB260_261 := Aside0.mk h17_; have GW261 := Aside0.mk h18_; have GE261 := Aside0.mk h19_; have NB244_261 := Aside0.mk h20_; have NB261_244 := Aside0.mk h21_; have NB245_261 := Aside0.mk h22_; have NB261_245 := Aside0.mk h23_; have NB246_261 := Aside0.mk h24_; have NB261_246 := Aside0.mk h25_; have NB247_261 := Aside0.mk h26_; have NB261_247 := Aside0.mk h27_; replace BK244 := Aside0.mk h0_; replace BK245 := Aside0.mk h1_; replace BK246 := Aside0.mk h2_; replace BK247 := Aside0.mk h3_; replace HB := Aside0.mk h28_; clear h0_ h1_ h2_ h3_ h4_ h5_ h6_ h7_ h8_ h9_ h10_ h11_ h12_ h13_ h14_ h15_ h16_ h17_ h18_ h19_ h20_ h21_ h22_ h23_ h24_ h25_ h26_ h27_ h28_; have hHeld := hS_
      refine norm_ (a' := ?_) ?_ ?_
      rotate_left
      ·simp only [putAll, Act.put, List.setIfInBounds_toArray, List.set_cons_zero, List.set_cons_succ]
       rfl
      refine one_ (i := 9) (N := some 36) #[true, true, true, true, true, true, true, true, true, true, true, true, false, false] rfl rfl (one_of HT_.out (by kernel_rfl)) (by decide) (fun K hK => ?_)
      refine goes_ Try.func7 (by kernel_rfl) rfl #[.int .i64 a0_2, .agg #[.int .i64 a1_0, .int .i64 a1_1, .int .i64 a1_2, .int .i64 a1_3], .agg #[.int .i64 a2_0, .int .i64 a2_1, .int .i64 a2_2, .int .i64 a2_3]] (by rfl) rfl rfl (by (try simp only [List.map_toArray, List.map_cons, List.map_nil]); first | done | rfl | (simp only [List.length_drop, List.length_take]; rfl)) ?_
      with_reducible refine (blend_Factor.calls a0_2 a1_0 a1_1 a1_2 a1_3 a2_0 a2_1 a2_2 a2_3 t256 t257 t258 t259 _ A6.out).mono ?_; rintro e w26 ⟨rfl, hb⟩; refine ⟨_, rfl, ?_⟩; replace BK244 := ub BK244 hb; replace BK245 := ub BK245 hb; replace BK246 := ub BK246 hb; replace BK247 := ub BK247 hb; replace BK260 := ub BK260 hb; replace BK261 := ub BK261 hb; replace HB := bs HB hb; (try clear hb); (try clear hb2); (try clear hk); (try clear hi)
      refine hK.out _ _ ⟨bc BK244 0, bc BK244 1, bc BK244 2, bc BK244 3, bc BK244 4, bc BK244 5, bc BK244 6, bc BK244 7, bc BK245 0, bc BK245 1, bc BK245 2, bc BK245 3, bc BK246 0, bc BK246 1, bc BK246 2, bc BK246 3⟩ (fun hHeld => ?_)
      clear hK K
      refine norm_ (a' := ?_) ?_ ?_
      rotate_left
      ·show Act.put _ (some 36) _ = _
       simp only [Act.put, List.setIfInBounds_toArray, List.set_cons_zero, List.set_cons_succ, i64_w, i32_w]
       rfl
      exact norm_ (by first | (simp only [putAll, Act.put, List.setIfInBounds_toArray, List.set_cons_zero, List.set_cons_succ]; done) | (simp only [putAll, Act.put, List.setIfInBounds_toArray, List.set_cons_zero, List.set_cons_succ]; rfl)) (hJ4_9_10_11 (gb260, gb261) _ ⟨hHeld, BK244.out, BK245.out, BK246.out, BK247.out, BK260.out, BK261.out, GW260.out, GE260.out, NB244_260.out, NB260_244.out, NB245_260.out, NB260_245.out, NB246_260.out, NB260_246.out, NB247_260.out, NB260_247.out, NB261_260.out, NB260_261.out, GW261.out, GE261.out, NB244_261.out, NB261_244.out, NB245_261.out, NB261_245.out, NB246_261.out, NB261_246.out, NB247_261.out, NB261_247.out, (by repeat (first | (with_reducible first | exact HB.out | apply below_alloc | apply pw_below_drewN | apply below_drew1 | refine below_setA ?_ (by assumption)) | exact HB.out))⟩)
    ·skip
     rintro gb261 w25 ⟨hS_, h0_, h1_, h2_, h3_, h4_, h5_, h6_, h7_, h8_, h9_, h10_, h11_, h12_, h13_, h14_, h15_⟩; have BK261 := Aside0.mk h4_; have GW261 := Aside0.mk h5_; have GE261 := Aside0.mk h6_; have NB244_261 := Aside0.mk h7_; have NB261_244 := Aside0.mk h8_; have NB245_261 := Aside0.mk h9_; have NB261_245 := Aside0.mk h10_; have NB246_261 := Aside0.mk h11_; have NB261_246 := Aside0.mk h12_; have NB247_261 := Aside0.mk h13_; have NB261_247 := Aside0.mk h14_; replace BK244 := Aside0.mk h0_; replace BK245 := Aside0.mk h1_; replace BK246 := Aside0.mk h2_; replace BK247 := Aside0.mk h3_; replace HB := Aside0.mk h15_; clear h0_ h1_ h2_ h3_ h4_ h5_ h6_ h7_ h8_ h9_ h10_ h11_ h12_ h13_ h14_ h15_; have hHeld := hS_
     refine norm_ (a' := ?_) ?_ ?_
     rotate_left
     ·simp only [putAll, Act.put, List.setIfInBounds_toArray, List.set_cons_zero, List.set_cons_succ]
      rfl
     refine one_ (i := 10) (N := some 7) #[true, true, true, true, true, true, true, true, true, true, true, true, false, false] rfl rfl (one_of HT_.out (by kernel_rfl)) (by decide) (fun K hK => ?_)
     refine box_step ?hg (N := 7) ?hd (cs := #[.int .i64 0, .int .i64 0, .int .i64 0, .int .i64 0]) (t := 27) ?hr ?_; (case hd => rfl); (case hg => rfl); (case hr => first | (go_simp; done) | (go_simp; rfl))
     intro gb260 hg w26 hbox hb
     have BK260 := Aside0.mk (hbox); have GW260 := ws HB hg; have GE260 := ws HB hg; have NB244_260 := nl BK244 hg; have NB260_244 := ng BK244 hg; have NB245_260 := nl BK245 hg; have NB260_245 := ng BK245 hg; have NB246_260 := nl BK246 hg; have NB260_246 := ng BK246 hg; have NB247_260 := nl BK247 hg; have NB260_247 := ng BK247 hg; have NB261_260 := nl BK261 hg; have NB260_261 := ng BK261 hg; replace BK244 := ub BK244 hb; replace BK245 := ub BK245 hb; replace BK246 := ub BK246 hb; replace BK247 := ub BK247 hb; replace BK261 := ub BK261 hb; replace HB := bs HB hb; clear hb hbox hg
     refine hK.out _ _ ⟨bc BK244 0, bc BK244 1, bc BK244 2, bc BK244 3, bc BK244 4, bc BK244 5, bc BK244 6, bc BK244 7, bc BK245 0, bc BK245 1, bc BK245 2, bc BK245 3, bc BK246 0, bc BK246 1, bc BK246 2, bc BK246 3⟩ (fun hHeld => ?_)
     clear hK K
     refine norm_ (a' := ?_) ?_ ?_
     rotate_left
     ·show Act.put _ (some 7) _ = _
      simp only [Act.put, List.setIfInBounds_toArray, List.set_cons_zero, List.set_cons_succ, i64_w, i32_w]
      rfl
     exact norm_ (by first | (simp only [putAll, Act.put, List.setIfInBounds_toArray, List.set_cons_zero, List.set_cons_succ]; done) | (simp only [putAll, Act.put, List.setIfInBounds_toArray, List.set_cons_zero, List.set_cons_succ]; rfl)) (hJ4_9_10_11 (gb260, gb261) _ ⟨hHeld, BK244.out, BK245.out, BK246.out, BK247.out, BK260.out, BK261.out, GW260.out, GE260.out, NB244_260.out, NB260_244.out, NB245_260.out, NB260_245.out, NB246_260.out, NB260_246.out, NB247_260.out, NB260_247.out, NB261_260.out, NB260_261.out, GW261.out, GE261.out, NB244_261.out, NB261_244.out, NB245_261.out, NB261_245.out, NB246_261.out, NB261_246.out, NB247_261.out, NB261_247.out, (by repeat (first | (with_reducible first | exact HB.out | apply below_alloc | apply pw_below_drewN | apply below_drew1 | refine below_setA ?_ (by assumption)) | exact HB.out))⟩)
   ·skip
    rintro gb260 w25 ⟨hS_, h0_, h1_, h2_, h3_, h4_, h5_, h6_, h7_, h8_, h9_, h10_, h11_, h12_, h13_, h14_, h15_⟩; have BK260 := Aside0.mk h4_; have GW260 := Aside0.mk h5_; have GE260 := Aside0.mk h6_; have NB244_260 := Aside0.mk h7_; have NB260_244 := Aside0.mk h8_; have NB245_260 := Aside0.mk h9_; have NB260_245 := Aside0.mk h10_; have NB246_260 := Aside0.mk h11_; have NB260_246 := Aside0.mk h12_; have NB247_260 := Aside0.mk h13_; have NB260_247 := Aside0.mk h14_; replace BK244 := Aside0.mk h0_; replace BK245 := Aside0.mk h1_; replace BK246 := Aside0.mk h2_; replace BK247 := Aside0.mk h3_; replace HB := Aside0.mk h15_; clear h0_ h1_ h2_ h3_ h4_ h5_ h6_ h7_ h8_ h9_ h10_ h11_ h12_ h13_ h14_ h15_; have hHeld := hS_
    refine norm_ (a' := ?_) ?_ ?_
    rotate_left
    ·simp only [putAll, Act.put, List.setIfInBounds_toArray, List.set_cons_zero, List.set_cons_succ]
     rfl
    refine one_ (i := 11) (N := some 8) #[true, true, true, true, true, true, true, true, true, true, true, true, false, false] rfl rfl (one_of HT_.out (by kernel_rfl)) (by decide) (fun K hK => ?_)
    refine box_step ?hg (N := 8) ?hd (cs := #[.int .i64 0, .int .i64 0, .int .i64 0, .int .i64 0]) (t := 27) ?hr ?_; (case hd => rfl); (case hg => rfl); (case hr => first | (go_simp; done) | (go_simp; rfl))
    intro gb261 hg w26 hbox hb
    have BK261 := Aside0.mk (hbox); have GW261 := ws HB hg; have GE261 := ws HB hg; have NB244_261 := nl BK244 hg; have NB261_244 := ng BK244 hg; have NB245_261 := nl BK245 hg; have NB261_245 := ng BK245 hg; have NB246_261 := nl BK246 hg; have NB261_246 := ng BK246 hg; have NB247_261 := nl BK247 hg; have NB261_247 := ng BK247 hg; have NB260_261 := nl BK260 hg; have NB261_260 := ng BK260 hg; replace BK244 := ub BK244 hb; replace BK245 := ub BK245 hb; replace BK246 := ub BK246 hb; replace BK247 := ub BK247 hb; replace BK260 := ub BK260 hb; replace HB := bs HB hb; clear hb hbox hg
    refine hK.out _ _ ⟨bc BK244 0, bc BK244 1, bc BK244 2, bc BK244 3, bc BK244 4, bc BK244 5, bc BK244 6, bc BK244 7, bc BK245 0, bc BK245 1, bc BK245 2, bc BK245 3, bc BK246 0, bc BK246 1, bc BK246 2, bc BK246 3⟩ (fun hHeld => ?_)
    clear hK K
    refine norm_ (a' := ?_) ?_ ?_
    rotate_left
    ·show Act.put _ (some 8) _ = _
     simp only [Act.put, List.setIfInBounds_toArray, List.set_cons_zero, List.set_cons_succ, i64_w, i32_w]
     rfl
    exact norm_ (by first | (simp only [putAll, Act.put, List.setIfInBounds_toArray, List.set_cons_zero, List.set_cons_succ]; done) | (simp only [putAll, Act.put, List.setIfInBounds_toArray, List.set_cons_zero, List.set_cons_succ]; rfl)) (hJ4_9_10_11 (gb260, gb261) _ ⟨hHeld, BK244.out, BK245.out, BK246.out, BK247.out, BK260.out, BK261.out, GW260.out, GE260.out, NB244_260.out, NB260_244.out, NB245_260.out, NB260_245.out, NB246_260.out, NB260_246.out, NB247_260.out, NB260_247.out, NB261_260.out, NB260_261.out, GW261.out, GE261.out, NB244_261.out, NB261_244.out, NB245_261.out, NB261_245.out, NB246_261.out, NB261_246.out, NB247_261.out, NB261_247.out, (by repeat (first | (with_reducible first | exact HB.out | apply below_alloc | apply pw_below_drewN | apply below_drew1 | refine below_setA ?_ (by assumption)) | exact HB.out))⟩)
  rintro ⟨gb260, gb261⟩ w26 ⟨hS_, h0_, h1_, h2_, h3_, h4_, h5_, h6_, h7_, h8_, h9_, h10_, h11_, h12_, h13_, h14_, h15_, h16_, h17_, h18_, h19_, h20_, h21_, h22_, h23_, h24_, h25_, h26_, h27_, h28_⟩; have BK260 := Aside0.mk h4_; have BK261 := Aside0.mk h5_; have GW260 := Aside0.mk h6_; have GE260 := Aside0.mk h7_; have NB244_260 := Aside0.mk h8_; have NB260_244 := Aside0.mk h9_; have NB245_260 := Aside0.mk h10_; have NB260_245 := Aside0.mk h11_; have NB246_260 := Aside0.mk h12_; have NB260_246 := Aside0.mk h13_; have NB247_260 := Aside0.mk h14_; have NB260_247 := Aside0.mk h15_; have NB261_260 := Aside0.mk h16_; have NB260_261 := Aside0.mk h17_; have GW261 := Aside0.mk h18_; have GE261 := Aside0.mk h19_; have NB244_261 := Aside0.mk h20_; have NB261_244 := Aside0.mk h21_; have NB245_261 := Aside0.mk h22_; have NB261_245 := Aside0.mk h23_; have NB246_261 := Aside0.mk h24_; have NB261_246 := Aside0.mk h25_; have NB247_261 := Aside0.mk h26_; have NB261_247 := Aside0.mk h27_; replace BK244 := Aside0.mk h0_; replace BK245 := Aside0.mk h1_; replace BK246 := Aside0.mk h2_; replace BK247 := Aside0.mk h3_; replace HB := Aside0.mk h28_; clear h0_ h1_ h2_ h3_ h4_ h5_ h6_ h7_ h8_ h9_ h10_ h11_ h12_ h13_ h14_ h15_ h16_ h17_ h18_ h19_ h20_ h21_ h22_ h23_ h24_ h25_ h26_ h27_ h28_; have hHeld := hS_
  refine norm_ (a' := ?_) ?_ ?_
  rotate_left
  ·simp only [putAll, Act.put, List.setIfInBounds_toArray, List.set_cons_zero, List.set_cons_succ]
   rfl
  refine one_ (i := 12) (N := none) #[true, true, true, true, true, true, true, true, true, true, true, true, true, false] rfl rfl (one_of HT_.out (by kernel_rfl)) (by decide) (fun K hK => ?_)
  have hs27 : w26.cell? ⟨gb260, 0, none⟩ = some (.int .i64 0) := bc BK260 0
  have hfs27 := blk_frozen BK260.out 0; have hns27_0 := NB244_260.out; have hns27_1 := NB245_260.out; have hns27_2 := NB246_260.out; have hns27_3 := NB247_260.out; have hns27_5 := NB261_260.out; have hms27_0 := NB260_244.out; have hms27_1 := NB260_245.out; have hms27_2 := NB260_246.out; have hms27_3 := NB260_247.out; have hms27_5 := NB260_261.out
  have hs28 : w26.cell? ⟨gb260, 1, none⟩ = some (.int .i64 0) := bc BK260 1
  have hfs28 := blk_frozen BK260.out 1; have hns28_0 := NB244_260.out; have hns28_1 := NB245_260.out; have hns28_2 := NB246_260.out; have hns28_3 := NB247_260.out; have hns28_5 := NB261_260.out; have hms28_0 := NB260_244.out; have hms28_1 := NB260_245.out; have hms28_2 := NB260_246.out; have hms28_3 := NB260_247.out; have hms28_5 := NB260_261.out
  have hs29 : w26.cell? ⟨gb260, 2, none⟩ = some (.int .i64 0) := bc BK260 2
  have hfs29 := blk_frozen BK260.out 2; have hns29_0 := NB244_260.out; have hns29_1 := NB245_260.out; have hns29_2 := NB246_260.out; have hns29_3 := NB247_260.out; have hns29_5 := NB261_260.out; have hms29_0 := NB260_244.out; have hms29_1 := NB260_245.out; have hms29_2 := NB260_246.out; have hms29_3 := NB260_247.out; have hms29_5 := NB260_261.out
  have hs30 : w26.cell? ⟨gb260, 3, none⟩ = some (.int .i64 0) := bc BK260 3
  have hfs30 := blk_frozen BK260.out 3; have hns30_0 := NB244_260.out; have hns30_1 := NB245_260.out; have hns30_2 := NB246_260.out; have hns30_3 := NB247_260.out; have hns30_5 := NB261_260.out; have hms30_0 := NB260_244.out; have hms30_1 := NB260_245.out; have hms30_2 := NB260_246.out; have hms30_3 := NB260_247.out; have hms30_5 := NB260_261.out
  refine skip_ (w1 := ?_) (by rfl) rfl ?_ ?_
  rotate_left
  ·go_simp
   rfl
  refine hK.out _ _ ⟨(cf NB244_260 ((cf NB244_260 ((cf NB244_260 ((cf NB244_260 (hHeld.1)))))))), (cf NB244_260 ((cf NB244_260 ((cf NB244_260 ((cf NB244_260 (hHeld.2.1)))))))), (cf NB244_260 ((cf NB244_260 ((cf NB244_260 ((cf NB244_260 (hHeld.2.2.1)))))))), (cf NB244_260 ((cf NB244_260 ((cf NB244_260 ((cf NB244_260 (hHeld.2.2.2.1)))))))), (cf NB244_260 ((cf NB244_260 ((cf NB244_260 ((cf NB244_260 (hHeld.2.2.2.2.1)))))))), (cf NB244_260 ((cf NB244_260 ((cf NB244_260 ((cf NB244_260 (hHeld.2.2.2.2.2.1)))))))), (cf NB244_260 ((cf NB244_260 ((cf NB244_260 ((cf NB244_260 (hHeld.2.2.2.2.2.2.1)))))))), (cf NB244_260 ((cf NB244_260 ((cf NB244_260 ((cf NB244_260 (hHeld.2.2.2.2.2.2.2.1)))))))), (cf NB245_260 ((cf NB245_260 ((cf NB245_260 ((cf NB245_260 (hHeld.2.2.2.2.2.2.2.2.1)))))))), (cf NB245_260 ((cf NB245_260 ((cf NB245_260 ((cf NB245_260 (hHeld.2.2.2.2.2.2.2.2.2.1)))))))), (cf NB245_260 ((cf NB245_260 ((cf NB245_260 ((cf NB245_260 (hHeld.2.2.2.2.2.2.2.2.2.2.1)))))))), (cf NB245_260 ((cf NB245_260 ((cf NB245_260 ((cf NB245_260 (hHeld.2.2.2.2.2.2.2.2.2.2.2.1)))))))), (cf NB246_260 ((cf NB246_260 ((cf NB246_260 ((cf NB246_260 (hHeld.2.2.2.2.2.2.2.2.2.2.2.2.1)))))))), (cf NB246_260 ((cf NB246_260 ((cf NB246_260 ((cf NB246_260 (hHeld.2.2.2.2.2.2.2.2.2.2.2.2.2.1)))))))), (cf NB246_260 ((cf NB246_260 ((cf NB246_260 ((cf NB246_260 (hHeld.2.2.2.2.2.2.2.2.2.2.2.2.2.2.1)))))))), (cf NB246_260 ((cf NB246_260 ((cf NB246_260 ((cf NB246_260 (hHeld.2.2.2.2.2.2.2.2.2.2.2.2.2.2.2))))))))⟩ (fun hHeld => ?_)
  clear hK K
  refine one_ (i := 13) (N := none) #[true, true, true, true, true, true, true, true, true, true, true, true, true, true] rfl rfl (one_of HT_.out (by kernel_rfl)) (by decide) (fun K hK => ?_)
  have hs31 : w26.cell? ⟨gb261, 0, none⟩ = some (.int .i64 0) := bc BK261 0
  have hfs31 := blk_frozen BK261.out 0; have hns31_0 := NB244_261.out; have hns31_1 := NB245_261.out; have hns31_2 := NB246_261.out; have hns31_3 := NB247_261.out; have hns31_4 := NB260_261.out; have hms31_0 := NB261_244.out; have hms31_1 := NB261_245.out; have hms31_2 := NB261_246.out; have hms31_3 := NB261_247.out; have hms31_4 := NB261_260.out
  have hs32 : w26.cell? ⟨gb261, 1, none⟩ = some (.int .i64 0) := bc BK261 1
  have hfs32 := blk_frozen BK261.out 1; have hns32_0 := NB244_261.out; have hns32_1 := NB245_261.out; have hns32_2 := NB246_261.out; have hns32_3 := NB247_261.out; have hns32_4 := NB260_261.out; have hms32_0 := NB261_244.out; have hms32_1 := NB261_245.out; have hms32_2 := NB261_246.out; have hms32_3 := NB261_247.out; have hms32_4 := NB261_260.out
  have hs33 : w26.cell? ⟨gb261, 2, none⟩ = some (.int .i64 0) := bc BK261 2
  have hfs33 := blk_frozen BK261.out 2; have hns33_0 := NB244_261.out; have hns33_1 := NB245_261.out; have hns33_2 := NB246_261.out; have hns33_3 := NB247_261.out; have hns33_4 := NB260_261.out; have hms33_0 := NB261_244.out; have hms33_1 := NB261_245.out; have hms33_2 := NB261_246.out; have hms33_3 := NB261_247.out; have hms33_4 := NB261_260.out
  have hs34 : w26.cell? ⟨gb261, 3, none⟩ = some (.int .i64 0) := bc BK261 3
  have hfs34 := blk_frozen BK261.out 3; have hns34_0 := NB244_261.out; have hns34_1 := NB245_261.out; have hns34_2 := NB246_261.out; have hns34_3 := NB247_261.out; have hns34_4 := NB260_261.out; have hms34_0 := NB261_244.out; have hms34_1 := NB261_245.out; have hms34_2 := NB261_246.out; have hms34_3 := NB261_247.out; have hms34_4 := NB261_260.out
  refine skip_ (w1 := ?_) (by rfl) rfl ?_ ?_
  rotate_left
  ·go_simp
   rfl
  refine hK.out _ _ ⟨(cf NB244_261 ((cf NB244_261 ((cf NB244_261 ((cf NB244_261 (hHeld.1)))))))), (cf NB244_261 ((cf NB244_261 ((cf NB244_261 ((cf NB244_261 (hHeld.2.1)))))))), (cf NB244_261 ((cf NB244_261 ((cf NB244_261 ((cf NB244_261 (hHeld.2.2.1)))))))), (cf NB244_261 ((cf NB244_261 ((cf NB244_261 ((cf NB244_261 (hHeld.2.2.2.1)))))))), (cf NB244_261 ((cf NB244_261 ((cf NB244_261 ((cf NB244_261 (hHeld.2.2.2.2.1)))))))), (cf NB244_261 ((cf NB244_261 ((cf NB244_261 ((cf NB244_261 (hHeld.2.2.2.2.2.1)))))))), (cf NB244_261 ((cf NB244_261 ((cf NB244_261 ((cf NB244_261 (hHeld.2.2.2.2.2.2.1)))))))), (cf NB244_261 ((cf NB244_261 ((cf NB244_261 ((cf NB244_261 (hHeld.2.2.2.2.2.2.2.1)))))))), (cf NB245_261 ((cf NB245_261 ((cf NB245_261 ((cf NB245_261 (hHeld.2.2.2.2.2.2.2.2.1)))))))), (cf NB245_261 ((cf NB245_261 ((cf NB245_261 ((cf NB245_261 (hHeld.2.2.2.2.2.2.2.2.2.1)))))))), (cf NB245_261 ((cf NB245_261 ((cf NB245_261 ((cf NB245_261 (hHeld.2.2.2.2.2.2.2.2.2.2.1)))))))), (cf NB245_261 ((cf NB245_261 ((cf NB245_261 ((cf NB245_261 (hHeld.2.2.2.2.2.2.2.2.2.2.2.1)))))))), (cf NB246_261 ((cf NB246_261 ((cf NB246_261 ((cf NB246_261 (hHeld.2.2.2.2.2.2.2.2.2.2.2.2.1)))))))), (cf NB246_261 ((cf NB246_261 ((cf NB246_261 ((cf NB246_261 (hHeld.2.2.2.2.2.2.2.2.2.2.2.2.2.1)))))))), (cf NB246_261 ((cf NB246_261 ((cf NB246_261 ((cf NB246_261 (hHeld.2.2.2.2.2.2.2.2.2.2.2.2.2.2.1)))))))), (cf NB246_261 ((cf NB246_261 ((cf NB246_261 ((cf NB246_261 (hHeld.2.2.2.2.2.2.2.2.2.2.2.2.2.2.2))))))))⟩ (fun hHeld => ?_)
  clear hK K
  refine done_ (done_of HT_.out (by kernel_rfl)) ?_
  try go_wp2
  have n0_ : Aside0 (((((((((w26.setCell ⟨gb260, 0, none⟩ (.int .i64 t252)).setCell ⟨gb260, 1, none⟩ (.int .i64 t253)).setCell ⟨gb260, 2, none⟩ (.int .i64 t254)).setCell ⟨gb260, 3, none⟩ (.int .i64 t255)).setCell ⟨gb261, 0, none⟩ (.int .i64 t256)).setCell ⟨gb261, 1, none⟩ (.int .i64 t257)).setCell ⟨gb261, 2, none⟩ (.int .i64 t258)).setCell ⟨gb261, 3, none⟩ (.int .i64 t259)).heap[gb244]? = some (.cells #[.bool true, .int .i64 a0_1, .int .i64 a0_2, .int .i64 a0_3, .int .i64 a0_4, .int .i64 a0_5, .int .i64 a0_6, .int .i64 a0_7] 25 (0, 0))) := ⟨by (with_reducible repeat (first | refine blk_drewN ?_ _ | refine blk_drew ?_ | refine blk_alloc ?_ _)); refine blk_far ?_ NB244_261.out _; (with_reducible repeat (first | refine blk_drewN ?_ _ | refine blk_drew ?_ | refine blk_alloc ?_ _)); refine blk_far ?_ NB244_261.out _; (with_reducible repeat (first | refine blk_drewN ?_ _ | refine blk_drew ?_ | refine blk_alloc ?_ _)); refine blk_far ?_ NB244_261.out _; (with_reducible repeat (first | refine blk_drewN ?_ _ | refine blk_drew ?_ | refine blk_alloc ?_ _)); refine blk_far ?_ NB244_261.out _; (with_reducible repeat (first | refine blk_drewN ?_ _ | refine blk_drew ?_ | refine blk_alloc ?_ _)); refine blk_far ?_ NB244_260.out _; (with_reducible repeat (first | refine blk_drewN ?_ _ | refine blk_drew ?_ | refine blk_alloc ?_ _)); refine blk_far ?_ NB244_260.out _; (with_reducible repeat (first | refine blk_drewN ?_ _ | refine blk_drew ?_ | refine blk_alloc ?_ _)); refine blk_far ?_ NB244_260.out _; (with_reducible repeat (first | refine blk_drewN ?_ _ | refine blk_drew ?_ | refine blk_alloc ?_ _)); refine blk_far ?_ NB244_260.out _; (with_reducible repeat (first | refine blk_drewN ?_ _ | refine blk_drew ?_ | refine blk_alloc ?_ _)); exact BK244.out⟩
  have n1_ : Aside0 (((((((((w26.setCell ⟨gb260, 0, none⟩ (.int .i64 t252)).setCell ⟨gb260, 1, none⟩ (.int .i64 t253)).setCell ⟨gb260, 2, none⟩ (.int .i64 t254)).setCell ⟨gb260, 3, none⟩ (.int .i64 t255)).setCell ⟨gb261, 0, none⟩ (.int .i64 t256)).setCell ⟨gb261, 1, none⟩ (.int .i64 t257)).setCell ⟨gb261, 2, none⟩ (.int .i64 t258)).setCell ⟨gb261, 3, none⟩ (.int .i64 t259)).heap[gb245]? = some (.cells #[.int .i64 a1_0, .int .i64 a1_1, .int .i64 a1_2, .int .i64 a1_3] 27 (0, 0))) := ⟨by (with_reducible repeat (first | refine blk_drewN ?_ _ | refine blk_drew ?_ | refine blk_alloc ?_ _)); refine blk_far ?_ NB245_261.out _; (with_reducible repeat (first | refine blk_drewN ?_ _ | refine blk_drew ?_ | refine blk_alloc ?_ _)); refine blk_far ?_ NB245_261.out _; (with_reducible repeat (first | refine blk_drewN ?_ _ | refine blk_drew ?_ | refine blk_alloc ?_ _)); refine blk_far ?_ NB245_261.out _; (with_reducible repeat (first | refine blk_drewN ?_ _ | refine blk_drew ?_ | refine blk_alloc ?_ _)); refine blk_far ?_ NB245_261.out _; (with_reducible repeat (first | refine blk_drewN ?_ _ | refine blk_drew ?_ | refine blk_alloc ?_ _)); refine blk_far ?_ NB245_260.out _; (with_reducible repeat (first | refine blk_drewN ?_ _ | refine blk_drew ?_ | refine blk_alloc ?_ _)); refine blk_far ?_ NB245_260.out _; (with_reducible repeat (first | refine blk_drewN ?_ _ | refine blk_drew ?_ | refine blk_alloc ?_ _)); refine blk_far ?_ NB245_260.out _; (with_reducible repeat (first | refine blk_drewN ?_ _ | refine blk_drew ?_ | refine blk_alloc ?_ _)); refine blk_far ?_ NB245_260.out _; (with_reducible repeat (first | refine blk_drewN ?_ _ | refine blk_drew ?_ | refine blk_alloc ?_ _)); exact BK245.out⟩
  have n2_ : Aside0 (((((((((w26.setCell ⟨gb260, 0, none⟩ (.int .i64 t252)).setCell ⟨gb260, 1, none⟩ (.int .i64 t253)).setCell ⟨gb260, 2, none⟩ (.int .i64 t254)).setCell ⟨gb260, 3, none⟩ (.int .i64 t255)).setCell ⟨gb261, 0, none⟩ (.int .i64 t256)).setCell ⟨gb261, 1, none⟩ (.int .i64 t257)).setCell ⟨gb261, 2, none⟩ (.int .i64 t258)).setCell ⟨gb261, 3, none⟩ (.int .i64 t259)).heap[gb246]? = some (.cells #[.int .i64 a2_0, .int .i64 a2_1, .int .i64 a2_2, .int .i64 a2_3] 27 (0, 0))) := ⟨by (with_reducible repeat (first | refine blk_drewN ?_ _ | refine blk_drew ?_ | refine blk_alloc ?_ _)); refine blk_far ?_ NB246_261.out _; (with_reducible repeat (first | refine blk_drewN ?_ _ | refine blk_drew ?_ | refine blk_alloc ?_ _)); refine blk_far ?_ NB246_261.out _; (with_reducible repeat (first | refine blk_drewN ?_ _ | refine blk_drew ?_ | refine blk_alloc ?_ _)); refine blk_far ?_ NB246_261.out _; (with_reducible repeat (first | refine blk_drewN ?_ _ | refine blk_drew ?_ | refine blk_alloc ?_ _)); refine blk_far ?_ NB246_261.out _; (with_reducible repeat (first | refine blk_drewN ?_ _ | refine blk_drew ?_ | refine blk_alloc ?_ _)); refine blk_far ?_ NB246_260.out _; (with_reducible repeat (first | refine blk_drewN ?_ _ | refine blk_drew ?_ | refine blk_alloc ?_ _)); refine blk_far ?_ NB246_260.out _; (with_reducible repeat (first | refine blk_drewN ?_ _ | refine blk_drew ?_ | refine blk_alloc ?_ _)); refine blk_far ?_ NB246_260.out _; (with_reducible repeat (first | refine blk_drewN ?_ _ | refine blk_drew ?_ | refine blk_alloc ?_ _)); refine blk_far ?_ NB246_260.out _; (with_reducible repeat (first | refine blk_drewN ?_ _ | refine blk_drew ?_ | refine blk_alloc ?_ _)); exact BK246.out⟩
  have n3_ : Aside0 (((((((((w26.setCell ⟨gb260, 0, none⟩ (.int .i64 t252)).setCell ⟨gb260, 1, none⟩ (.int .i64 t253)).setCell ⟨gb260, 2, none⟩ (.int .i64 t254)).setCell ⟨gb260, 3, none⟩ (.int .i64 t255)).setCell ⟨gb261, 0, none⟩ (.int .i64 t256)).setCell ⟨gb261, 1, none⟩ (.int .i64 t257)).setCell ⟨gb261, 2, none⟩ (.int .i64 t258)).setCell ⟨gb261, 3, none⟩ (.int .i64 t259)).heap[gb247]? = some (.cells #[.int .i64 0, .int .i64 0, .int .i64 0, .int .i64 0] 27 (0, 0))) := ⟨by (with_reducible repeat (first | refine blk_drewN ?_ _ | refine blk_drew ?_ | refine blk_alloc ?_ _)); refine blk_far ?_ NB247_261.out _; (with_reducible repeat (first | refine blk_drewN ?_ _ | refine blk_drew ?_ | refine blk_alloc ?_ _)); refine blk_far ?_ NB247_261.out _; (with_reducible repeat (first | refine blk_drewN ?_ _ | refine blk_drew ?_ | refine blk_alloc ?_ _)); refine blk_far ?_ NB247_261.out _; (with_reducible repeat (first | refine blk_drewN ?_ _ | refine blk_drew ?_ | refine blk_alloc ?_ _)); refine blk_far ?_ NB247_261.out _; (with_reducible repeat (first | refine blk_drewN ?_ _ | refine blk_drew ?_ | refine blk_alloc ?_ _)); refine blk_far ?_ NB247_260.out _; (with_reducible repeat (first | refine blk_drewN ?_ _ | refine blk_drew ?_ | refine blk_alloc ?_ _)); refine blk_far ?_ NB247_260.out _; (with_reducible repeat (first | refine blk_drewN ?_ _ | refine blk_drew ?_ | refine blk_alloc ?_ _)); refine blk_far ?_ NB247_260.out _; (with_reducible repeat (first | refine blk_drewN ?_ _ | refine blk_drew ?_ | refine blk_alloc ?_ _)); refine blk_far ?_ NB247_260.out _; (with_reducible repeat (first | refine blk_drewN ?_ _ | refine blk_drew ?_ | refine blk_alloc ?_ _)); exact BK247.out⟩
  have n4_ : Aside0 (((((((((w26.setCell ⟨gb260, 0, none⟩ (.int .i64 t252)).setCell ⟨gb260, 1, none⟩ (.int .i64 t253)).setCell ⟨gb260, 2, none⟩ (.int .i64 t254)).setCell ⟨gb260, 3, none⟩ (.int .i64 t255)).setCell ⟨gb261, 0, none⟩ (.int .i64 t256)).setCell ⟨gb261, 1, none⟩ (.int .i64 t257)).setCell ⟨gb261, 2, none⟩ (.int .i64 t258)).setCell ⟨gb261, 3, none⟩ (.int .i64 t259)).heap[gb260]? = some (.cells #[.int .i64 t252, .int .i64 t253, .int .i64 t254, .int .i64 t255] 27 (0, 0))) := ⟨by (with_reducible repeat (first | refine blk_drewN ?_ _ | refine blk_drew ?_ | refine blk_alloc ?_ _)); refine blk_far ?_ NB260_261.out _; (with_reducible repeat (first | refine blk_drewN ?_ _ | refine blk_drew ?_ | refine blk_alloc ?_ _)); refine blk_far ?_ NB260_261.out _; (with_reducible repeat (first | refine blk_drewN ?_ _ | refine blk_drew ?_ | refine blk_alloc ?_ _)); refine blk_far ?_ NB260_261.out _; (with_reducible repeat (first | refine blk_drewN ?_ _ | refine blk_drew ?_ | refine blk_alloc ?_ _)); refine blk_far ?_ NB260_261.out _; (with_reducible repeat (first | refine blk_drewN ?_ _ | refine blk_drew ?_ | refine blk_alloc ?_ _)); refine blk_put (cs := #[.int .i64 t252, .int .i64 t253, .int .i64 t254, .int .i64 0]) ?_ 3 _ rfl; (with_reducible repeat (first | refine blk_drewN ?_ _ | refine blk_drew ?_ | refine blk_alloc ?_ _)); refine blk_put (cs := #[.int .i64 t252, .int .i64 t253, .int .i64 0, .int .i64 0]) ?_ 2 _ rfl; (with_reducible repeat (first | refine blk_drewN ?_ _ | refine blk_drew ?_ | refine blk_alloc ?_ _)); refine blk_put (cs := #[.int .i64 t252, .int .i64 0, .int .i64 0, .int .i64 0]) ?_ 1 _ rfl; (with_reducible repeat (first | refine blk_drewN ?_ _ | refine blk_drew ?_ | refine blk_alloc ?_ _)); refine blk_put (cs := #[.int .i64 0, .int .i64 0, .int .i64 0, .int .i64 0]) ?_ 0 _ rfl; (with_reducible repeat (first | refine blk_drewN ?_ _ | refine blk_drew ?_ | refine blk_alloc ?_ _)); exact BK260.out⟩
  have n5_ : Aside0 (((((((((w26.setCell ⟨gb260, 0, none⟩ (.int .i64 t252)).setCell ⟨gb260, 1, none⟩ (.int .i64 t253)).setCell ⟨gb260, 2, none⟩ (.int .i64 t254)).setCell ⟨gb260, 3, none⟩ (.int .i64 t255)).setCell ⟨gb261, 0, none⟩ (.int .i64 t256)).setCell ⟨gb261, 1, none⟩ (.int .i64 t257)).setCell ⟨gb261, 2, none⟩ (.int .i64 t258)).setCell ⟨gb261, 3, none⟩ (.int .i64 t259)).heap[gb261]? = some (.cells #[.int .i64 t256, .int .i64 t257, .int .i64 t258, .int .i64 t259] 27 (0, 0))) := ⟨by (with_reducible repeat (first | refine blk_drewN ?_ _ | refine blk_drew ?_ | refine blk_alloc ?_ _)); refine blk_put (cs := #[.int .i64 t256, .int .i64 t257, .int .i64 t258, .int .i64 0]) ?_ 3 _ rfl; (with_reducible repeat (first | refine blk_drewN ?_ _ | refine blk_drew ?_ | refine blk_alloc ?_ _)); refine blk_put (cs := #[.int .i64 t256, .int .i64 t257, .int .i64 0, .int .i64 0]) ?_ 2 _ rfl; (with_reducible repeat (first | refine blk_drewN ?_ _ | refine blk_drew ?_ | refine blk_alloc ?_ _)); refine blk_put (cs := #[.int .i64 t256, .int .i64 0, .int .i64 0, .int .i64 0]) ?_ 1 _ rfl; (with_reducible repeat (first | refine blk_drewN ?_ _ | refine blk_drew ?_ | refine blk_alloc ?_ _)); refine blk_put (cs := #[.int .i64 0, .int .i64 0, .int .i64 0, .int .i64 0]) ?_ 0 _ rfl; (with_reducible repeat (first | refine blk_drewN ?_ _ | refine blk_drew ?_ | refine blk_alloc ?_ _)); refine blk_far ?_ NB261_260.out _; (with_reducible repeat (first | refine blk_drewN ?_ _ | refine blk_drew ?_ | refine blk_alloc ?_ _)); refine blk_far ?_ NB261_260.out _; (with_reducible repeat (first | refine blk_drewN ?_ _ | refine blk_drew ?_ | refine blk_alloc ?_ _)); refine blk_far ?_ NB261_260.out _; (with_reducible repeat (first | refine blk_drewN ?_ _ | refine blk_drew ?_ | refine blk_alloc ?_ _)); refine blk_far ?_ NB261_260.out _; (with_reducible repeat (first | refine blk_drewN ?_ _ | refine blk_drew ?_ | refine blk_alloc ?_ _)); exact BK261.out⟩
  have n6_ : Aside0 (Below w.heap.size w ((((((((w26.setCell ⟨gb260, 0, none⟩ (.int .i64 t252)).setCell ⟨gb260, 1, none⟩ (.int .i64 t253)).setCell ⟨gb260, 2, none⟩ (.int .i64 t254)).setCell ⟨gb260, 3, none⟩ (.int .i64 t255)).setCell ⟨gb261, 0, none⟩ (.int .i64 t256)).setCell ⟨gb261, 1, none⟩ (.int .i64 t257)).setCell ⟨gb261, 2, none⟩ (.int .i64 t258)).setCell ⟨gb261, 3, none⟩ (.int .i64 t259))) := ⟨by repeat (first | (with_reducible first | exact HB.out | apply below_alloc | apply pw_below_drewN | apply below_drew1 | refine below_set ?_ GE244.out | refine below_set ?_ GE245.out | refine below_set ?_ GE246.out | refine below_set ?_ GE247.out | refine below_set ?_ GE260.out | refine below_set ?_ GE261.out) | exact HB.out)⟩
  (try clear BK244); (try clear BK245); (try clear BK246); (try clear BK247); (try clear BK260); (try clear BK261); (try clear HB)
  generalize ((((((((w26.setCell ⟨gb260, 0, none⟩ (.int .i64 t252)).setCell ⟨gb260, 1, none⟩ (.int .i64 t253)).setCell ⟨gb260, 2, none⟩ (.int .i64 t254)).setCell ⟨gb260, 3, none⟩ (.int .i64 t255)).setCell ⟨gb261, 0, none⟩ (.int .i64 t256)).setCell ⟨gb261, 1, none⟩ (.int .i64 t257)).setCell ⟨gb261, 2, none⟩ (.int .i64 t258)).setCell ⟨gb261, 3, none⟩ (.int .i64 t259)) = w35 at n0_ n1_ n2_ n3_ n4_ n5_ n6_ ⊢
  have BK244 := n0_; have BK245 := n1_; have BK246 := n2_; have BK247 := n3_; have BK260 := n4_; have BK261 := n5_; have HB := n6_; clear n0_ n1_ n2_ n3_ n4_ n5_ n6_; replace BK244 := Aside0.mk (blk_drew BK244.out); replace BK245 := Aside0.mk (blk_drew BK245.out); replace BK246 := Aside0.mk (blk_drew BK246.out); replace BK247 := Aside0.mk (blk_drew BK247.out); replace BK260 := Aside0.mk (blk_drew BK260.out); replace BK261 := Aside0.mk (blk_drew BK261.out); replace HB := Aside0.mk (below_drew1 HB.out)
  refine start_ (n := 14) (S := fun w' => w'.cell? ⟨gb244, 0, none⟩ = some (.bool true) ∧ w'.cell? ⟨gb244, 1, none⟩ = some (.int .i64 a0_1) ∧ w'.cell? ⟨gb244, 2, none⟩ = some (.int .i64 a0_2) ∧ w'.cell? ⟨gb244, 3, none⟩ = some (.int .i64 a0_3) ∧ w'.cell? ⟨gb244, 4, none⟩ = some (.int .i64 a0_4) ∧ w'.cell? ⟨gb244, 5, none⟩ = some (.int .i64 a0_5) ∧ w'.cell? ⟨gb244, 6, none⟩ = some (.int .i64 a0_6) ∧ w'.cell? ⟨gb244, 7, none⟩ = some (.int .i64 a0_7) ∧ w'.cell? ⟨gb245, 0, none⟩ = some (.int .i64 a1_0) ∧ w'.cell? ⟨gb245, 1, none⟩ = some (.int .i64 a1_1) ∧ w'.cell? ⟨gb245, 2, none⟩ = some (.int .i64 a1_2) ∧ w'.cell? ⟨gb245, 3, none⟩ = some (.int .i64 a1_3) ∧ w'.cell? ⟨gb246, 0, none⟩ = some (.int .i64 a2_0) ∧ w'.cell? ⟨gb246, 1, none⟩ = some (.int .i64 a2_1) ∧ w'.cell? ⟨gb246, 2, none⟩ = some (.int .i64 a2_2) ∧ w'.cell? ⟨gb246, 3, none⟩ = some (.int .i64 a2_3)) (ds := []) #[false, false, false, false, false, false, false, false, false, false, false, false, false, false] (by kernel_rfl) rfl rfl ⟨bc BK244 0, bc BK244 1, bc BK244 2, bc BK244 3, bc BK244 4, bc BK244 5, bc BK244 6, bc BK244 7, bc BK245 0, bc BK245 1, bc BK245 2, bc BK245 3, bc BK246 0, bc BK246 1, bc BK246 2, bc BK246 3⟩ (fun hHeld => ?_); refine with_tabW blend_Blend.tab4 blend_Blend.bits4 (fun HT_ HW_ => ?_)
  generalize w35.drew = w36 at BK244 BK245 BK246 BK247 BK260 BK261 HB hHeld ⊢
  refine pure_ (i := 0) (N := some 37) (v := ?_) (a' := ?_) #[true, false, false, false, false, false, false, false, false, false, false, false, false, false] rfl rfl (any_of HT_.out (by kernel_rfl)) (fun _ _ _ h => h) (Or.inl ⟨by rfl, ?_⟩) ?_ ?_
  rotate_left
  ·intro w'
   go_simp
   with_reducible rfl
  rotate_left
  ·simp only [Act.put, List.setIfInBounds_toArray, List.set_cons_zero, List.set_cons_succ, i64_w, i32_w]
   rfl
  refine pure_ (i := 5) (N := some 42) (v := ?_) (a' := ?_) #[true, false, false, false, false, true, false, false, false, false, false, false, false, false] rfl rfl (any_of HT_.out (by kernel_rfl)) (fun _ _ _ h => h) (Or.inl ⟨by rfl, ?_⟩) ?_ ?_
  rotate_left
  ·intro w'
   go_simp
   with_reducible rfl
  rotate_left
  ·simp only [Act.put, List.setIfInBounds_toArray, List.set_cons_zero, List.set_cons_succ, i64_w, i32_w]
   rfl
  refine take_ (i := 1) (N := some 38) (v := ?_) (a' := ?_) #[true, true, false, false, false, true, false, false, false, false, false, false, false, false] rfl rfl (take_ofW HT_.out HW_.out (by kernel_rfl)) (fun _ _ _ h => h) (Or.inl ⟨by rfl, ?_⟩) hHeld ?_ ?_
  rotate_left
  ·rintro w' ⟨s0, s1, s2, s3, s4, s5, s6, s7, s8, s9, s10, s11, s12, s13, s14, s15⟩
   go_simp
   with_reducible rfl
  rotate_left
  ·simp only [Act.put, List.setIfInBounds_toArray, List.set_cons_zero, List.set_cons_succ, i64_w, i32_w]
   rfl
  refine take_ (i := 2) (N := some 39) (v := ?_) (a' := ?_) #[true, true, true, false, false, true, false, false, false, false, false, false, false, false] rfl rfl (take_ofW HT_.out HW_.out (by kernel_rfl)) (fun _ _ _ h => h) (Or.inl ⟨by rfl, ?_⟩) hHeld ?_ ?_
  rotate_left
  ·rintro w' ⟨s0, s1, s2, s3, s4, s5, s6, s7, s8, s9, s10, s11, s12, s13, s14, s15⟩
   go_simp
   with_reducible rfl
  rotate_left
  ·simp only [Act.put, List.setIfInBounds_toArray, List.set_cons_zero, List.set_cons_succ, i64_w, i32_w]
   rfl
  refine take_ (i := 3) (N := some 40) (v := ?_) (a' := ?_) #[true, true, true, true, false, true, false, false, false, false, false, false, false, false] rfl rfl (take_ofW HT_.out HW_.out (by kernel_rfl)) (fun _ _ _ h => h) (Or.inl ⟨by rfl, ?_⟩) hHeld ?_ ?_
  rotate_left
  ·rintro w' ⟨s0, s1, s2, s3, s4, s5, s6, s7, s8, s9, s10, s11, s12, s13, s14, s15⟩
   go_simp
   with_reducible rfl
  rotate_left
  ·simp only [Act.put, List.setIfInBounds_toArray, List.set_cons_zero, List.set_cons_succ, i64_w, i32_w]
   rfl
  refine take_ (i := 6) (N := some 43) (v := ?_) (a' := ?_) #[true, true, true, true, false, true, true, false, false, false, false, false, false, false] rfl rfl (take_ofW HT_.out HW_.out (by kernel_rfl)) (fun _ _ _ h => h) (Or.inl ⟨by rfl, ?_⟩) hHeld ?_ ?_
  rotate_left
  ·rintro w' ⟨s0, s1, s2, s3, s4, s5, s6, s7, s8, s9, s10, s11, s12, s13, s14, s15⟩
   go_simp
   with_reducible rfl
  rotate_left
  ·simp only [Act.put, List.setIfInBounds_toArray, List.set_cons_zero, List.set_cons_succ, i64_w, i32_w]
   rfl
  refine take_ (i := 7) (N := some 44) (v := ?_) (a' := ?_) #[true, true, true, true, false, true, true, true, false, false, false, false, false, false] rfl rfl (take_ofW HT_.out HW_.out (by kernel_rfl)) (fun _ _ _ h => h) (Or.inl ⟨by rfl, ?_⟩) hHeld ?_ ?_
  rotate_left
  ·rintro w' ⟨s0, s1, s2, s3, s4, s5, s6, s7, s8, s9, s10, s11, s12, s13, s14, s15⟩
   go_simp
   with_reducible rfl
  rotate_left
  ·simp only [Act.put, List.setIfInBounds_toArray, List.set_cons_zero, List.set_cons_succ, i64_w, i32_w]
   rfl
  refine take_ (i := 8) (N := some 45) (v := ?_) (a' := ?_) #[true, true, true, true, false, true, true, true, true, false, false, false, false, false] rfl rfl (take_ofW HT_.out HW_.out (by kernel_rfl)) (fun _ _ _ h => h) (Or.inl ⟨by rfl, ?_⟩) hHeld ?_ ?_
  rotate_left
  ·rintro w' ⟨s0, s1, s2, s3, s4, s5, s6, s7, s8, s9, s10, s11, s12, s13, s14, s15⟩
   go_simp
   with_reducible rfl
  rotate_left
  ·simp only [Act.put, List.setIfInBounds_toArray, List.set_cons_zero, List.set_cons_succ, i64_w, i32_w]
   rfl
  refine join_ (σ := Nat × Nat) 2 #[true, true, true, true, true, true, true, true, true, true, true, true, false, false] (fun s_ => [(41, .agg #[.int .i64 t262, .int .i64 t263, .int .i64 t264, .int .i64 t265]), (46, .agg #[.int .i64 t266, .int .i64 t267, .int .i64 t268, .int .i64 t269]), (9, .pointer (some ⟨s_.1, 0, none⟩)), (10, .pointer (some ⟨s_.2, 0, none⟩))]) (fun s_ w' => (w'.cell? ⟨gb244, 0, none⟩ = some (.bool true) ∧ w'.cell? ⟨gb244, 1, none⟩ = some (.int .i64 a0_1) ∧ w'.cell? ⟨gb244, 2, none⟩ = some (.int .i64 a0_2) ∧ w'.cell? ⟨gb244, 3, none⟩ = some (.int .i64 a0_3) ∧ w'.cell? ⟨gb244, 4, none⟩ = some (.int .i64 a0_4) ∧ w'.cell? ⟨gb244, 5, none⟩ = some (.int .i64 a0_5) ∧ w'.cell? ⟨gb244, 6, none⟩ = some (.int .i64 a0_6) ∧ w'.cell? ⟨gb244, 7, none⟩ = some (.int .i64 a0_7) ∧ w'.cell? ⟨gb245, 0, none⟩ = some (.int .i64 a1_0) ∧ w'.cell? ⟨gb245, 1, none⟩ = some (.int .i64 a1_1) ∧ w'.cell? ⟨gb245, 2, none⟩ = some (.int .i64 a1_2) ∧ w'.cell? ⟨gb245, 3, none⟩ = some (.int .i64 a1_3) ∧ w'.cell? ⟨gb246, 0, none⟩ = some (.int .i64 a2_0) ∧ w'.cell? ⟨gb246, 1, none⟩ = some (.int .i64 a2_1) ∧ w'.cell? ⟨gb246, 2, none⟩ = some (.int .i64 a2_2) ∧ w'.cell? ⟨gb246, 3, none⟩ = some (.int .i64 a2_3)) ∧ (w'.heap[gb244]? = some (.cells #[.bool true, .int .i64 a0_1, .int .i64 a0_2, .int .i64 a0_3, .int .i64 a0_4, .int .i64 a0_5, .int .i64 a0_6, .int .i64 a0_7] 25 (0, 0))) ∧ (w'.heap[gb245]? = some (.cells #[.int .i64 a1_0, .int .i64 a1_1, .int .i64 a1_2, .int .i64 a1_3] 27 (0, 0))) ∧ (w'.heap[gb246]? = some (.cells #[.int .i64 a2_0, .int .i64 a2_1, .int .i64 a2_2, .int .i64 a2_3] 27 (0, 0))) ∧ (w'.heap[gb247]? = some (.cells #[.int .i64 0, .int .i64 0, .int .i64 0, .int .i64 0] 27 (0, 0))) ∧ (w'.heap[gb260]? = some (.cells #[.int .i64 t252, .int .i64 t253, .int .i64 t254, .int .i64 t255] 27 (0, 0))) ∧ (w'.heap[gb261]? = some (.cells #[.int .i64 t256, .int .i64 t257, .int .i64 t258, .int .i64 t259] 27 (0, 0))) ∧ (w'.heap[s_.1]? = some (.cells #[.int .i64 0, .int .i64 0, .int .i64 0, .int .i64 0] 27 (0, 0))) ∧ (w'.heap[s_.2]? = some (.cells #[.int .i64 0, .int .i64 0, .int .i64 0, .int .i64 0] 27 (0, 0))) ∧ (w.heap.size ≤ s_.1) ∧ (w.heap.size ≤ s_.1) ∧ (gb244 ≠ s_.1) ∧ (s_.1 ≠ gb244) ∧ (gb245 ≠ s_.1) ∧ (s_.1 ≠ gb245) ∧ (gb246 ≠ s_.1) ∧ (s_.1 ≠ gb246) ∧ (gb247 ≠ s_.1) ∧ (s_.1 ≠ gb247) ∧ (gb260 ≠ s_.1) ∧ (s_.1 ≠ gb260) ∧ (gb261 ≠ s_.1) ∧ (s_.1 ≠ gb261) ∧ (s_.2 ≠ s_.1) ∧ (s_.1 ≠ s_.2) ∧ (w.heap.size ≤ s_.2) ∧ (w.heap.size ≤ s_.2) ∧ (gb244 ≠ s_.2) ∧ (s_.2 ≠ gb244) ∧ (gb245 ≠ s_.2) ∧ (s_.2 ≠ gb245) ∧ (gb246 ≠ s_.2) ∧ (s_.2 ≠ gb246) ∧ (gb247 ≠ s_.2) ∧ (s_.2 ≠ gb247) ∧ (gb260 ≠ s_.2) ∧ (s_.2 ≠ gb260) ∧ (gb261 ≠ s_.2) ∧ (s_.2 ≠ gb261) ∧ (Below w.heap.size w w')) ?_ ?_
  rotate_left
  ·intro hJ4_9_10_11
   refine join_ (σ := Nat) 3 #[true, true, true, true, true, true, true, true, true, true, true, false, false, false] (fun s_ => [(41, .agg #[.int .i64 t262, .int .i64 t263, .int .i64 t264, .int .i64 t265]), (46, .agg #[.int .i64 t266, .int .i64 t267, .int .i64 t268, .int .i64 t269]), (9, .pointer (some ⟨s_, 0, none⟩))]) (fun s_ w' => (w'.cell? ⟨gb244, 0, none⟩ = some (.bool true) ∧ w'.cell? ⟨gb244, 1, none⟩ = some (.int .i64 a0_1) ∧ w'.cell? ⟨gb244, 2, none⟩ = some (.int .i64 a0_2) ∧ w'.cell? ⟨gb244, 3, none⟩ = some (.int .i64 a0_3) ∧ w'.cell? ⟨gb244, 4, none⟩ = some (.int .i64 a0_4) ∧ w'.cell? ⟨gb244, 5, none⟩ = some (.int .i64 a0_5) ∧ w'.cell? ⟨gb244, 6, none⟩ = some (.int .i64 a0_6) ∧ w'.cell? ⟨gb244, 7, none⟩ = some (.int .i64 a0_7) ∧ w'.cell? ⟨gb245, 0, none⟩ = some (.int .i64 a1_0) ∧ w'.cell? ⟨gb245, 1, none⟩ = some (.int .i64 a1_1) ∧ w'.cell? ⟨gb245, 2, none⟩ = some (.int .i64 a1_2) ∧ w'.cell? ⟨gb245, 3, none⟩ = some (.int .i64 a1_3) ∧ w'.cell? ⟨gb246, 0, none⟩ = some (.int .i64 a2_0) ∧ w'.cell? ⟨gb246, 1, none⟩ = some (.int .i64 a2_1) ∧ w'.cell? ⟨gb246, 2, none⟩ = some (.int .i64 a2_2) ∧ w'.cell? ⟨gb246, 3, none⟩ = some (.int .i64 a2_3)) ∧ (w'.heap[gb244]? = some (.cells #[.bool true, .int .i64 a0_1, .int .i64 a0_2, .int .i64 a0_3, .int .i64 a0_4, .int .i64 a0_5, .int .i64 a0_6, .int .i64 a0_7] 25 (0, 0))) ∧ (w'.heap[gb245]? = some (.cells #[.int .i64 a1_0, .int .i64 a1_1, .int .i64 a1_2, .int .i64 a1_3] 27 (0, 0))) ∧ (w'.heap[gb246]? = some (.cells #[.int .i64 a2_0, .int .i64 a2_1, .int .i64 a2_2, .int .i64 a2_3] 27 (0, 0))) ∧ (w'.heap[gb247]? = some (.cells #[.int .i64 0, .int .i64 0, .int .i64 0, .int .i64 0] 27 (0, 0))) ∧ (w'.heap[gb260]? = some (.cells #[.int .i64 t252, .int .i64 t253, .int .i64 t254, .int .i64 t255] 27 (0, 0))) ∧ (w'.heap[gb261]? = some (.cells #[.int .i64 t256, .int .i64 t257, .int .i64 t258, .int .i64 t259] 27 (0, 0))) ∧ (w'.heap[s_]? = some (.cells #[.int .i64 0, .int .i64 0, .int .i64 0, .int .i64 0] 27 (0, 0))) ∧ (w.heap.size ≤ s_) ∧ (w.heap.size ≤ s_) ∧ (gb244 ≠ s_) ∧ (s_ ≠ gb244) ∧ (gb245 ≠ s_) ∧ (s_ ≠ gb245) ∧ (gb246 ≠ s_) ∧ (s_ ≠ gb246) ∧ (gb247 ≠ s_) ∧ (s_ ≠ gb247) ∧ (gb260 ≠ s_) ∧ (s_ ≠ gb260) ∧ (gb261 ≠ s_) ∧ (s_ ≠ gb261) ∧ (Below w.heap.size w w')) ?_ ?_
   rotate_left
   ·intro hJ4_9_10
    refine join_ (σ := Nat) 3 #[true, true, true, true, true, true, true, true, true, true, false, true, false, false] (fun s_ => [(41, .agg #[.int .i64 t262, .int .i64 t263, .int .i64 t264, .int .i64 t265]), (46, .agg #[.int .i64 t266, .int .i64 t267, .int .i64 t268, .int .i64 t269]), (10, .pointer (some ⟨s_, 0, none⟩))]) (fun s_ w' => (w'.cell? ⟨gb244, 0, none⟩ = some (.bool true) ∧ w'.cell? ⟨gb244, 1, none⟩ = some (.int .i64 a0_1) ∧ w'.cell? ⟨gb244, 2, none⟩ = some (.int .i64 a0_2) ∧ w'.cell? ⟨gb244, 3, none⟩ = some (.int .i64 a0_3) ∧ w'.cell? ⟨gb244, 4, none⟩ = some (.int .i64 a0_4) ∧ w'.cell? ⟨gb244, 5, none⟩ = some (.int .i64 a0_5) ∧ w'.cell? ⟨gb244, 6, none⟩ = some (.int .i64 a0_6) ∧ w'.cell? ⟨gb244, 7, none⟩ = some (.int .i64 a0_7) ∧ w'.cell? ⟨gb245, 0, none⟩ = some (.int .i64 a1_0) ∧ w'.cell? ⟨gb245, 1, none⟩ = some (.int .i64 a1_1) ∧ w'.cell? ⟨gb245, 2, none⟩ = some (.int .i64 a1_2) ∧ w'.cell? ⟨gb245, 3, none⟩ = some (.int .i64 a1_3) ∧ w'.cell? ⟨gb246, 0, none⟩ = some (.int .i64 a2_0) ∧ w'.cell? ⟨gb246, 1, none⟩ = some (.int .i64 a2_1) ∧ w'.cell? ⟨gb246, 2, none⟩ = some (.int .i64 a2_2) ∧ w'.cell? ⟨gb246, 3, none⟩ = some (.int .i64 a2_3)) ∧ (w'.heap[gb244]? = some (.cells #[.bool true, .int .i64 a0_1, .int .i64 a0_2, .int .i64 a0_3, .int .i64 a0_4, .int .i64 a0_5, .int .i64 a0_6, .int .i64 a0_7] 25 (0, 0))) ∧ (w'.heap[gb245]? = some (.cells #[.int .i64 a1_0, .int .i64 a1_1, .int .i64 a1_2, .int .i64 a1_3] 27 (0, 0))) ∧ (w'.heap[gb246]? = some (.cells #[.int .i64 a2_0, .int .i64 a2_1, .int .i64 a2_2, .int .i64 a2_3] 27 (0, 0))) ∧ (w'.heap[gb247]? = some (.cells #[.int .i64 0, .int .i64 0, .int .i64 0, .int .i64 0] 27 (0, 0))) ∧ (w'.heap[gb260]? = some (.cells #[.int .i64 t252, .int .i64 t253, .int .i64 t254, .int .i64 t255] 27 (0, 0))) ∧ (w'.heap[gb261]? = some (.cells #[.int .i64 t256, .int .i64 t257, .int .i64 t258, .int .i64 t259] 27 (0, 0))) ∧ (w'.heap[s_]? = some (.cells #[.int .i64 0, .int .i64 0, .int .i64 0, .int .i64 0] 27 (0, 0))) ∧ (w.heap.size ≤ s_) ∧ (w.heap.size ≤ s_) ∧ (gb244 ≠ s_) ∧ (s_ ≠ gb244) ∧ (gb245 ≠ s_) ∧ (s_ ≠ gb245) ∧ (gb246 ≠ s_) ∧ (s_ ≠ gb246) ∧ (gb247 ≠ s_) ∧ (s_ ≠ gb247) ∧ (gb260 ≠ s_) ∧ (s_ ≠ gb260) ∧ (gb261 ≠ s_) ∧ (s_ ≠ gb261) ∧ (Below w.heap.size w w')) ?_ ?_
    rotate_left
    ·intro hJ4_9_11
     refine join_ (σ := Nat × Nat) 3 #[true, true, true, true, true, true, true, true, true, false, true, true, false, false] (fun s_ => [(41, .agg #[.int .i64 t262, .int .i64 t263, .int .i64 t264, .int .i64 t265]), (9, .pointer (some ⟨s_.1, 0, none⟩)), (10, .pointer (some ⟨s_.2, 0, none⟩))]) (fun s_ w' => (w'.cell? ⟨gb244, 0, none⟩ = some (.bool true) ∧ w'.cell? ⟨gb244, 1, none⟩ = some (.int .i64 a0_1) ∧ w'.cell? ⟨gb244, 2, none⟩ = some (.int .i64 a0_2) ∧ w'.cell? ⟨gb244, 3, none⟩ = some (.int .i64 a0_3) ∧ w'.cell? ⟨gb244, 4, none⟩ = some (.int .i64 a0_4) ∧ w'.cell? ⟨gb244, 5, none⟩ = some (.int .i64 a0_5) ∧ w'.cell? ⟨gb244, 6, none⟩ = some (.int .i64 a0_6) ∧ w'.cell? ⟨gb244, 7, none⟩ = some (.int .i64 a0_7) ∧ w'.cell? ⟨gb245, 0, none⟩ = some (.int .i64 a1_0) ∧ w'.cell? ⟨gb245, 1, none⟩ = some (.int .i64 a1_1) ∧ w'.cell? ⟨gb245, 2, none⟩ = some (.int .i64 a1_2) ∧ w'.cell? ⟨gb245, 3, none⟩ = some (.int .i64 a1_3) ∧ w'.cell? ⟨gb246, 0, none⟩ = some (.int .i64 a2_0) ∧ w'.cell? ⟨gb246, 1, none⟩ = some (.int .i64 a2_1) ∧ w'.cell? ⟨gb246, 2, none⟩ = some (.int .i64 a2_2) ∧ w'.cell? ⟨gb246, 3, none⟩ = some (.int .i64 a2_3)) ∧ (w'.heap[gb244]? = some (.cells #[.bool true, .int .i64 a0_1, .int .i64 a0_2, .int .i64 a0_3, .int .i64 a0_4, .int .i64 a0_5, .int .i64 a0_6, .int .i64 a0_7] 25 (0, 0))) ∧ (w'.heap[gb245]? = some (.cells #[.int .i64 a1_0, .int .i64 a1_1, .int .i64 a1_2, .int .i64 a1_3] 27 (0, 0))) ∧ (w'.heap[gb246]? = some (.cells #[.int .i64 a2_0, .int .i64 a2_1, .int .i64 a2_2, .int .i64 a2_3] 27 (0, 0))) ∧ (w'.heap[gb247]? = some (.cells #[.int .i64 0, .int .i64 0, .int .i64 0, .int .i64 0] 27 (0, 0))) ∧ (w'.heap[gb260]? = some (.cells #[.int .i64 t252, .int .i64 t253, .int .i64 t254, .int .i64 t255] 27 (0, 0))) ∧ (w'.heap[gb261]? = some (.cells #[.int .i64 t256, .int .i64 t257, .int .i64 t258, .int .i64 t259] 27 (0, 0))) ∧ (w'.heap[s_.1]? = some (.cells #[.int .i64 0, .int .i64 0, .int .i64 0, .int .i64 0] 27 (0, 0))) ∧ (w'.heap[s_.2]? = some (.cells #[.int .i64 0, .int .i64 0, .int .i64 0, .int .i64 0] 27 (0, 0))) ∧ (w.heap.size ≤ s_.1) ∧ (w.heap.size ≤ s_.1) ∧ (gb244 ≠ s_.1) ∧ (s_.1 ≠ gb244) ∧ (gb245 ≠ s_.1) ∧ (s_.1 ≠ gb245) ∧ (gb246 ≠ s_.1) ∧ (s_.1 ≠ gb246) ∧ (gb247 ≠ s_.1) ∧ (s_.1 ≠ gb247) ∧ (gb260 ≠ s_.1) ∧ (s_.1 ≠ gb260) ∧ (gb261 ≠ s_.1) ∧ (s_.1 ≠ gb261) ∧ (s_.2 ≠ s_.1) ∧ (s_.1 ≠ s_.2) ∧ (w.heap.size ≤ s_.2) ∧ (w.heap.size ≤ s_.2) ∧ (gb244 ≠ s_.2) ∧ (s_.2 ≠ gb244) ∧ (gb245 ≠ s_.2) ∧ (s_.2 ≠ gb245) ∧ (gb246 ≠ s_.2) ∧ (s_.2 ≠ gb246) ∧ (gb247 ≠ s_.2) ∧ (s_.2 ≠ gb247) ∧ (gb260 ≠ s_.2) ∧ (s_.2 ≠ gb260) ∧ (gb261 ≠ s_.2) ∧ (s_.2 ≠ gb261) ∧ (Below w.heap.size w w')) ?_ ?_
     rotate_left
     ·intro hJ4_10_11
      refine join_ (σ := Unit) 4 #[true, true, true, true, true, true, true, true, true, true, false, false, false, false] (fun s_ => [(41, .agg #[.int .i64 t262, .int .i64 t263, .int .i64 t264, .int .i64 t265]), (46, .agg #[.int .i64 t266, .int .i64 t267, .int .i64 t268, .int .i64 t269])]) (fun s_ w' => (w'.cell? ⟨gb244, 0, none⟩ = some (.bool true) ∧ w'.cell? ⟨gb244, 1, none⟩ = some (.int .i64 a0_1) ∧ w'.cell? ⟨gb244, 2, none⟩ = some (.int .i64 a0_2) ∧ w'.cell? ⟨gb244, 3, none⟩ = some (.int .i64 a0_3) ∧ w'.cell? ⟨gb244, 4, none⟩ = some (.int .i64 a0_4) ∧ w'.cell? ⟨gb244, 5, none⟩ = some (.int .i64 a0_5) ∧ w'.cell? ⟨gb244, 6, none⟩ = some (.int .i64 a0_6) ∧ w'.cell? ⟨gb244, 7, none⟩ = some (.int .i64 a0_7) ∧ w'.cell? ⟨gb245, 0, none⟩ = some (.int .i64 a1_0) ∧ w'.cell? ⟨gb245, 1, none⟩ = some (.int .i64 a1_1) ∧ w'.cell? ⟨gb245, 2, none⟩ = some (.int .i64 a1_2) ∧ w'.cell? ⟨gb245, 3, none⟩ = some (.int .i64 a1_3) ∧ w'.cell? ⟨gb246, 0, none⟩ = some (.int .i64 a2_0) ∧ w'.cell? ⟨gb246, 1, none⟩ = some (.int .i64 a2_1) ∧ w'.cell? ⟨gb246, 2, none⟩ = some (.int .i64 a2_2) ∧ w'.cell? ⟨gb246, 3, none⟩ = some (.int .i64 a2_3)) ∧ (w'.heap[gb244]? = some (.cells #[.bool true, .int .i64 a0_1, .int .i64 a0_2, .int .i64 a0_3, .int .i64 a0_4, .int .i64 a0_5, .int .i64 a0_6, .int .i64 a0_7] 25 (0, 0))) ∧ (w'.heap[gb245]? = some (.cells #[.int .i64 a1_0, .int .i64 a1_1, .int .i64 a1_2, .int .i64 a1_3] 27 (0, 0))) ∧ (w'.heap[gb246]? = some (.cells #[.int .i64 a2_0, .int .i64 a2_1, .int .i64 a2_2, .int .i64 a2_3] 27 (0, 0))) ∧ (w'.heap[gb247]? = some (.cells #[.int .i64 0, .int .i64 0, .int .i64 0, .int .i64 0] 27 (0, 0))) ∧ (w'.heap[gb260]? = some (.cells #[.int .i64 t252, .int .i64 t253, .int .i64 t254, .int .i64 t255] 27 (0, 0))) ∧ (w'.heap[gb261]? = some (.cells #[.int .i64 t256, .int .i64 t257, .int .i64 t258, .int .i64 t259] 27 (0, 0))) ∧ (Below w.heap.size w w')) ?_ ?_
      rotate_left
      ·intro hJ4_9
       refine join_ (σ := Nat) 4 #[true, true, true, true, true, true, true, true, true, false, true, false, false, false] (fun s_ => [(41, .agg #[.int .i64 t262, .int .i64 t263, .int .i64 t264, .int .i64 t265]), (9, .pointer (some ⟨s_, 0, none⟩))]) (fun s_ w' => (w'.cell? ⟨gb244, 0, none⟩ = some (.bool true) ∧ w'.cell? ⟨gb244, 1, none⟩ = some (.int .i64 a0_1) ∧ w'.cell? ⟨gb244, 2, none⟩ = some (.int .i64 a0_2) ∧ w'.cell? ⟨gb244, 3, none⟩ = some (.int .i64 a0_3) ∧ w'.cell? ⟨gb244, 4, none⟩ = some (.int .i64 a0_4) ∧ w'.cell? ⟨gb244, 5, none⟩ = some (.int .i64 a0_5) ∧ w'.cell? ⟨gb244, 6, none⟩ = some (.int .i64 a0_6) ∧ w'.cell? ⟨gb244, 7, none⟩ = some (.int .i64 a0_7) ∧ w'.cell? ⟨gb245, 0, none⟩ = some (.int .i64 a1_0) ∧ w'.cell? ⟨gb245, 1, none⟩ = some (.int .i64 a1_1) ∧ w'.cell? ⟨gb245, 2, none⟩ = some (.int .i64 a1_2) ∧ w'.cell? ⟨gb245, 3, none⟩ = some (.int .i64 a1_3) ∧ w'.cell? ⟨gb246, 0, none⟩ = some (.int .i64 a2_0) ∧ w'.cell? ⟨gb246, 1, none⟩ = some (.int .i64 a2_1) ∧ w'.cell? ⟨gb246, 2, none⟩ = some (.int .i64 a2_2) ∧ w'.cell? ⟨gb246, 3, none⟩ = some (.int .i64 a2_3)) ∧ (w'.heap[gb244]? = some (.cells #[.bool true, .int .i64 a0_1, .int .i64 a0_2, .int .i64 a0_3, .int .i64 a0_4, .int .i64 a0_5, .int .i64 a0_6, .int .i64 a0_7] 25 (0, 0))) ∧ (w'.heap[gb245]? = some (.cells #[.int .i64 a1_0, .int .i64 a1_1, .int .i64 a1_2, .int .i64 a1_3] 27 (0, 0))) ∧ (w'.heap[gb246]? = some (.cells #[.int .i64 a2_0, .int .i64 a2_1, .int .i64 a2_2, .int .i64 a2_3] 27 (0, 0))) ∧ (w'.heap[gb247]? = some (.cells #[.int .i64 0, .int .i64 0, .int .i64 0, .int .i64 0] 27 (0, 0))) ∧ (w'.heap[gb260]? = some (.cells #[.int .i64 t252, .int .i64 t253, .int .i64 t254, .int .i64 t255] 27 (0, 0))) ∧ (w'.heap[gb261]? = some (.cells #[.int .i64 t256, .int .i64 t257, .int .i64 t258, .int .i64 t259] 27 (0, 0))) ∧ (w'.heap[s_]? = some (.cells #[.int .i64 0, .int .i64 0, .int .i64 0, .int .i64 0] 27 (0, 0))) ∧ (w.heap.size ≤ s_) ∧ (w.heap.size ≤ s_) ∧ (gb244 ≠ s_) ∧ (s_ ≠ gb244) ∧ (gb245 ≠ s_) ∧ (s_ ≠ gb245) ∧ (gb246 ≠ s_) ∧ (s_ ≠ gb246) ∧ (gb247 ≠ s_) ∧ (s_ ≠ gb247) ∧ (gb260 ≠ s_) ∧ (s_ ≠ gb260) ∧ (gb261 ≠ s_) ∧ (s_ ≠ gb261) ∧ (Below w.heap.size w w')) ?_ ?_
       rotate_left
       ·intro hJ4_10
        refine join_ (σ := Nat) 4 #[true, true, true, true, true, true, true, true, true, false, false, true, false, false] (fun s_ => [(41, .agg #[.int .i64 t262, .int .i64 t263, .int .i64 t264, .int .i64 t265]), (10, .pointer (some ⟨s_, 0, none⟩))]) (fun s_ w' => (w'.cell? ⟨gb244, 0, none⟩ = some (.bool true) ∧ w'.cell? ⟨gb244, 1, none⟩ = some (.int .i64 a0_1) ∧ w'.cell? ⟨gb244, 2, none⟩ = some (.int .i64 a0_2) ∧ w'.cell? ⟨gb244, 3, none⟩ = some (.int .i64 a0_3) ∧ w'.cell? ⟨gb244, 4, none⟩ = some (.int .i64 a0_4) ∧ w'.cell? ⟨gb244, 5, none⟩ = some (.int .i64 a0_5) ∧ w'.cell? ⟨gb244, 6, none⟩ = some (.int .i64 a0_6) ∧ w'.cell? ⟨gb244, 7, none⟩ = some (.int .i64 a0_7) ∧ w'.cell? ⟨gb245, 0, none⟩ = some (.int .i64 a1_0) ∧ w'.cell? ⟨gb245, 1, none⟩ = some (.int .i64 a1_1) ∧ w'.cell? ⟨gb245, 2, none⟩ = some (.int .i64 a1_2) ∧ w'.cell? ⟨gb245, 3, none⟩ = some (.int .i64 a1_3) ∧ w'.cell? ⟨gb246, 0, none⟩ = some (.int .i64 a2_0) ∧ w'.cell? ⟨gb246, 1, none⟩ = some (.int .i64 a2_1) ∧ w'.cell? ⟨gb246, 2, none⟩ = some (.int .i64 a2_2) ∧ w'.cell? ⟨gb246, 3, none⟩ = some (.int .i64 a2_3)) ∧ (w'.heap[gb244]? = some (.cells #[.bool true, .int .i64 a0_1, .int .i64 a0_2, .int .i64 a0_3, .int .i64 a0_4, .int .i64 a0_5, .int .i64 a0_6, .int .i64 a0_7] 25 (0, 0))) ∧ (w'.heap[gb245]? = some (.cells #[.int .i64 a1_0, .int .i64 a1_1, .int .i64 a1_2, .int .i64 a1_3] 27 (0, 0))) ∧ (w'.heap[gb246]? = some (.cells #[.int .i64 a2_0, .int .i64 a2_1, .int .i64 a2_2, .int .i64 a2_3] 27 (0, 0))) ∧ (w'.heap[gb247]? = some (.cells #[.int .i64 0, .int .i64 0, .int .i64 0, .int .i64 0] 27 (0, 0))) ∧ (w'.heap[gb260]? = some (.cells #[.int .i64 t252, .int .i64 t253, .int .i64 t254, .int .i64 t255] 27 (0, 0))) ∧ (w'.heap[gb261]? = some (.cells #[.int .i64 t256, .int .i64 t257, .int .i64 t258, .int .i64 t259] 27 (0, 0))) ∧ (w'.heap[s_]? = some (.cells #[.int .i64 0, .int .i64 0, .int .i64 0, .int .i64 0] 27 (0, 0))) ∧ (w.heap.size ≤ s_) ∧ (w.heap.size ≤ s_) ∧ (gb244 ≠ s_) ∧ (s_ ≠ gb244) ∧ (gb245 ≠ s_) ∧ (s_ ≠ gb245) ∧ (gb246 ≠ s_) ∧ (s_ ≠ gb246) ∧ (gb247 ≠ s_) ∧ (s_ ≠ gb247) ∧ (gb260 ≠ s_) ∧ (s_ ≠ gb260) ∧ (gb261 ≠ s_) ∧ (s_ ≠ gb261) ∧ (Below w.heap.size w w')) ?_ ?_
        rotate_left
        ·intro hJ4_11
         refine join_ (σ := Nat × Nat) 4 #[true, true, true, true, false, true, true, true, true, false, true, true, false, false] (fun s_ => [(9, .pointer (some ⟨s_.1, 0, none⟩)), (10, .pointer (some ⟨s_.2, 0, none⟩))]) (fun s_ w' => (w'.cell? ⟨gb244, 0, none⟩ = some (.bool true) ∧ w'.cell? ⟨gb244, 1, none⟩ = some (.int .i64 a0_1) ∧ w'.cell? ⟨gb244, 2, none⟩ = some (.int .i64 a0_2) ∧ w'.cell? ⟨gb244, 3, none⟩ = some (.int .i64 a0_3) ∧ w'.cell? ⟨gb244, 4, none⟩ = some (.int .i64 a0_4) ∧ w'.cell? ⟨gb244, 5, none⟩ = some (.int .i64 a0_5) ∧ w'.cell? ⟨gb244, 6, none⟩ = some (.int .i64 a0_6) ∧ w'.cell? ⟨gb244, 7, none⟩ = some (.int .i64 a0_7) ∧ w'.cell? ⟨gb245, 0, none⟩ = some (.int .i64 a1_0) ∧ w'.cell? ⟨gb245, 1, none⟩ = some (.int .i64 a1_1) ∧ w'.cell? ⟨gb245, 2, none⟩ = some (.int .i64 a1_2) ∧ w'.cell? ⟨gb245, 3, none⟩ = some (.int .i64 a1_3) ∧ w'.cell? ⟨gb246, 0, none⟩ = some (.int .i64 a2_0) ∧ w'.cell? ⟨gb246, 1, none⟩ = some (.int .i64 a2_1) ∧ w'.cell? ⟨gb246, 2, none⟩ = some (.int .i64 a2_2) ∧ w'.cell? ⟨gb246, 3, none⟩ = some (.int .i64 a2_3)) ∧ (w'.heap[gb244]? = some (.cells #[.bool true, .int .i64 a0_1, .int .i64 a0_2, .int .i64 a0_3, .int .i64 a0_4, .int .i64 a0_5, .int .i64 a0_6, .int .i64 a0_7] 25 (0, 0))) ∧ (w'.heap[gb245]? = some (.cells #[.int .i64 a1_0, .int .i64 a1_1, .int .i64 a1_2, .int .i64 a1_3] 27 (0, 0))) ∧ (w'.heap[gb246]? = some (.cells #[.int .i64 a2_0, .int .i64 a2_1, .int .i64 a2_2, .int .i64 a2_3] 27 (0, 0))) ∧ (w'.heap[gb247]? = some (.cells #[.int .i64 0, .int .i64 0, .int .i64 0, .int .i64 0] 27 (0, 0))) ∧ (w'.heap[gb260]? = some (.cells #[.int .i64 t252, .int .i64 t253, .int .i64 t254, .int .i64 t255] 27 (0, 0))) ∧ (w'.heap[gb261]? = some (.cells #[.int .i64 t256, .int .i64 t257, .int .i64 t258, .int .i64 t259] 27 (0, 0))) ∧ (w'.heap[s_.1]? = some (.cells #[.int .i64 0, .int .i64 0, .int .i64 0, .int .i64 0] 27 (0, 0))) ∧ (w'.heap[s_.2]? = some (.cells #[.int .i64 0, .int .i64 0, .int .i64 0, .int .i64 0] 27 (0, 0))) ∧ (w.heap.size ≤ s_.1) ∧ (w.heap.size ≤ s_.1) ∧ (gb244 ≠ s_.1) ∧ (s_.1 ≠ gb244) ∧ (gb245 ≠ s_.1) ∧ (s_.1 ≠ gb245) ∧ (gb246 ≠ s_.1) ∧ (s_.1 ≠ gb246) ∧ (gb247 ≠ s_.1) ∧ (s_.1 ≠ gb247) ∧ (gb260 ≠ s_.1) ∧ (s_.1 ≠ gb260) ∧ (gb261 ≠ s_.1) ∧ (s_.1 ≠ gb261) ∧ (s_.2 ≠ s_.1) ∧ (s_.1 ≠ s_.2) ∧ (w.heap.size ≤ s_.2) ∧ (w.heap.size ≤ s_.2) ∧ (gb244 ≠ s_.2) ∧ (s_.2 ≠ gb244) ∧ (gb245 ≠ s_.2) ∧ (s_.2 ≠ gb245) ∧ (gb246 ≠ s_.2) ∧ (s_.2 ≠ gb246) ∧ (gb247 ≠ s_.2) ∧ (s_.2 ≠ gb247) ∧ (gb260 ≠ s_.2) ∧ (s_.2 ≠ gb260) ∧ (gb261 ≠ s_.2) ∧ (s_.2 ≠ gb261) ∧ (Below w.heap.size w w')) ?_ ?_
         rotate_left
         ·intro hJ10_11
          refine join_ (σ := Unit) 5 #[true, true, true, true, true, true, true, true, true, false, false, false, false, false] (fun s_ => [(41, .agg #[.int .i64 t262, .int .i64 t263, .int .i64 t264, .int .i64 t265])]) (fun s_ w' => (w'.cell? ⟨gb244, 0, none⟩ = some (.bool true) ∧ w'.cell? ⟨gb244, 1, none⟩ = some (.int .i64 a0_1) ∧ w'.cell? ⟨gb244, 2, none⟩ = some (.int .i64 a0_2) ∧ w'.cell? ⟨gb244, 3, none⟩ = some (.int .i64 a0_3) ∧ w'.cell? ⟨gb244, 4, none⟩ = some (.int .i64 a0_4) ∧ w'.cell? ⟨gb244, 5, none⟩ = some (.int .i64 a0_5) ∧ w'.cell? ⟨gb244, 6, none⟩ = some (.int .i64 a0_6) ∧ w'.cell? ⟨gb244, 7, none⟩ = some (.int .i64 a0_7) ∧ w'.cell? ⟨gb245, 0, none⟩ = some (.int .i64 a1_0) ∧ w'.cell? ⟨gb245, 1, none⟩ = some (.int .i64 a1_1) ∧ w'.cell? ⟨gb245, 2, none⟩ = some (.int .i64 a1_2) ∧ w'.cell? ⟨gb245, 3, none⟩ = some (.int .i64 a1_3) ∧ w'.cell? ⟨gb246, 0, none⟩ = some (.int .i64 a2_0) ∧ w'.cell? ⟨gb246, 1, none⟩ = some (.int .i64 a2_1) ∧ w'.cell? ⟨gb246, 2, none⟩ = some (.int .i64 a2_2) ∧ w'.cell? ⟨gb246, 3, none⟩ = some (.int .i64 a2_3)) ∧ (w'.heap[gb244]? = some (.cells #[.bool true, .int .i64 a0_1, .int .i64 a0_2, .int .i64 a0_3, .int .i64 a0_4, .int .i64 a0_5, .int .i64 a0_6, .int .i64 a0_7] 25 (0, 0))) ∧ (w'.heap[gb245]? = some (.cells #[.int .i64 a1_0, .int .i64 a1_1, .int .i64 a1_2, .int .i64 a1_3] 27 (0, 0))) ∧ (w'.heap[gb246]? = some (.cells #[.int .i64 a2_0, .int .i64 a2_1, .int .i64 a2_2, .int .i64 a2_3] 27 (0, 0))) ∧ (w'.heap[gb247]? = some (.cells #[.int .i64 0, .int .i64 0, .int .i64 0, .int .i64 0] 27 (0, 0))) ∧ (w'.heap[gb260]? = some (.cells #[.int .i64 t252, .int .i64 t253, .int .i64 t254, .int .i64 t255] 27 (0, 0))) ∧ (w'.heap[gb261]? = some (.cells #[.int .i64 t256, .int .i64 t257, .int .i64 t258, .int .i64 t259] 27 (0, 0))) ∧ (Below w.heap.size w w')) ?_ ?_
          rotate_left
          ·intro hJ4
           refine join_ (σ := Nat) 5 #[true, true, true, true, false, true, true, true, true, false, true, false, false, false] (fun s_ => [(9, .pointer (some ⟨s_, 0, none⟩))]) (fun s_ w' => (w'.cell? ⟨gb244, 0, none⟩ = some (.bool true) ∧ w'.cell? ⟨gb244, 1, none⟩ = some (.int .i64 a0_1) ∧ w'.cell? ⟨gb244, 2, none⟩ = some (.int .i64 a0_2) ∧ w'.cell? ⟨gb244, 3, none⟩ = some (.int .i64 a0_3) ∧ w'.cell? ⟨gb244, 4, none⟩ = some (.int .i64 a0_4) ∧ w'.cell? ⟨gb244, 5, none⟩ = some (.int .i64 a0_5) ∧ w'.cell? ⟨gb244, 6, none⟩ = some (.int .i64 a0_6) ∧ w'.cell? ⟨gb244, 7, none⟩ = some (.int .i64 a0_7) ∧ w'.cell? ⟨gb245, 0, none⟩ = some (.int .i64 a1_0) ∧ w'.cell? ⟨gb245, 1, none⟩ = some (.int .i64 a1_1) ∧ w'.cell? ⟨gb245, 2, none⟩ = some (.int .i64 a1_2) ∧ w'.cell? ⟨gb245, 3, none⟩ = some (.int .i64 a1_3) ∧ w'.cell? ⟨gb246, 0, none⟩ = some (.int .i64 a2_0) ∧ w'.cell? ⟨gb246, 1, none⟩ = some (.int .i64 a2_1) ∧ w'.cell? ⟨gb246, 2, none⟩ = some (.int .i64 a2_2) ∧ w'.cell? ⟨gb246, 3, none⟩ = some (.int .i64 a2_3)) ∧ (w'.heap[gb244]? = some (.cells #[.bool true, .int .i64 a0_1, .int .i64 a0_2, .int .i64 a0_3, .int .i64 a0_4, .int .i64 a0_5, .int .i64 a0_6, .int .i64 a0_7] 25 (0, 0))) ∧ (w'.heap[gb245]? = some (.cells #[.int .i64 a1_0, .int .i64 a1_1, .int .i64 a1_2, .int .i64 a1_3] 27 (0, 0))) ∧ (w'.heap[gb246]? = some (.cells #[.int .i64 a2_0, .int .i64 a2_1, .int .i64 a2_2, .int .i64 a2_3] 27 (0, 0))) ∧ (w'.heap[gb247]? = some (.cells #[.int .i64 0, .int .i64 0, .int .i64 0, .int .i64 0] 27 (0, 0))) ∧ (w'.heap[gb260]? = some (.cells #[.int .i64 t252, .int .i64 t253, .int .i64 t254, .int .i64 t255] 27 (0, 0))) ∧ (w'.heap[gb261]? = some (.cells #[.int .i64 t256, .int .i64 t257, .int .i64 t258, .int .i64 t259] 27 (0, 0))) ∧ (w'.heap[s_]? = some (.cells #[.int .i64 0, .int .i64 0, .int .i64 0, .int .i64 0] 27 (0, 0))) ∧ (w.heap.size ≤ s_) ∧ (w.heap.size ≤ s_) ∧ (gb244 ≠ s_) ∧ (s_ ≠ gb244) ∧ (gb245 ≠ s_) ∧ (s_ ≠ gb245) ∧ (gb246 ≠ s_) ∧ (s_ ≠ gb246) ∧ (gb247 ≠ s_) ∧ (s_ ≠ gb247) ∧ (gb260 ≠ s_) ∧ (s_ ≠ gb260) ∧ (gb261 ≠ s_) ∧ (s_ ≠ gb261) ∧ (Below w.heap.size w w')) ?_ ?_
           rotate_left
           ·intro hJ10
            refine join_ (σ := Nat) 5 #[true, true, true, true, false, true, true, true, true, false, false, true, false, false] (fun s_ => [(10, .pointer (some ⟨s_, 0, none⟩))]) (fun s_ w' => (w'.cell? ⟨gb244, 0, none⟩ = some (.bool true) ∧ w'.cell? ⟨gb244, 1, none⟩ = some (.int .i64 a0_1) ∧ w'.cell? ⟨gb244, 2, none⟩ = some (.int .i64 a0_2) ∧ w'.cell? ⟨gb244, 3, none⟩ = some (.int .i64 a0_3) ∧ w'.cell? ⟨gb244, 4, none⟩ = some (.int .i64 a0_4) ∧ w'.cell? ⟨gb244, 5, none⟩ = some (.int .i64 a0_5) ∧ w'.cell? ⟨gb244, 6, none⟩ = some (.int .i64 a0_6) ∧ w'.cell? ⟨gb244, 7, none⟩ = some (.int .i64 a0_7) ∧ w'.cell? ⟨gb245, 0, none⟩ = some (.int .i64 a1_0) ∧ w'.cell? ⟨gb245, 1, none⟩ = some (.int .i64 a1_1) ∧ w'.cell? ⟨gb245, 2, none⟩ = some (.int .i64 a1_2) ∧ w'.cell? ⟨gb245, 3, none⟩ = some (.int .i64 a1_3) ∧ w'.cell? ⟨gb246, 0, none⟩ = some (.int .i64 a2_0) ∧ w'.cell? ⟨gb246, 1, none⟩ = some (.int .i64 a2_1) ∧ w'.cell? ⟨gb246, 2, none⟩ = some (.int .i64 a2_2) ∧ w'.cell? ⟨gb246, 3, none⟩ = some (.int .i64 a2_3)) ∧ (w'.heap[gb244]? = some (.cells #[.bool true, .int .i64 a0_1, .int .i64 a0_2, .int .i64 a0_3, .int .i64 a0_4, .int .i64 a0_5, .int .i64 a0_6, .int .i64 a0_7] 25 (0, 0))) ∧ (w'.heap[gb245]? = some (.cells #[.int .i64 a1_0, .int .i64 a1_1, .int .i64 a1_2, .int .i64 a1_3] 27 (0, 0))) ∧ (w'.heap[gb246]? = some (.cells #[.int .i64 a2_0, .int .i64 a2_1, .int .i64 a2_2, .int .i64 a2_3] 27 (0, 0))) ∧ (w'.heap[gb247]? = some (.cells #[.int .i64 0, .int .i64 0, .int .i64 0, .int .i64 0] 27 (0, 0))) ∧ (w'.heap[gb260]? = some (.cells #[.int .i64 t252, .int .i64 t253, .int .i64 t254, .int .i64 t255] 27 (0, 0))) ∧ (w'.heap[gb261]? = some (.cells #[.int .i64 t256, .int .i64 t257, .int .i64 t258, .int .i64 t259] 27 (0, 0))) ∧ (w'.heap[s_]? = some (.cells #[.int .i64 0, .int .i64 0, .int .i64 0, .int .i64 0] 27 (0, 0))) ∧ (w.heap.size ≤ s_) ∧ (w.heap.size ≤ s_) ∧ (gb244 ≠ s_) ∧ (s_ ≠ gb244) ∧ (gb245 ≠ s_) ∧ (s_ ≠ gb245) ∧ (gb246 ≠ s_) ∧ (s_ ≠ gb246) ∧ (gb247 ≠ s_) ∧ (s_ ≠ gb247) ∧ (gb260 ≠ s_) ∧ (s_ ≠ gb260) ∧ (gb261 ≠ s_) ∧ (s_ ≠ gb261) ∧ (Below w.heap.size w w')) ?_ ?_
            rotate_left
            ·intro hJ11
             refine three_ (i := 4) (j := 10) (k := 11) (Ni := some 41) (Nj := some 9) (Nk := some 10) #[true, true, true, true, true, true, true, true, true, false, false, false, false, false] #[true, true, true, true, false, true, true, true, true, false, true, false, false, false] #[true, true, true, true, false, true, true, true, true, false, false, true, false, false] rfl rfl rfl rfl rfl rfl (three_of HT_.out (by kernel_rfl)) (by decide) (by decide) (by decide) (fun K hK => ?_) (fun K hK => ?_) (fun K hK => ?_)
             ·skip
              refine goes_ Try.func7 (by kernel_rfl) rfl #[.int .i64 a0_4, .agg #[.int .i64 a1_0, .int .i64 a1_1, .int .i64 a1_2, .int .i64 a1_3], .agg #[.int .i64 a2_0, .int .i64 a2_1, .int .i64 a2_2, .int .i64 a2_3]] (by rfl) rfl rfl (by (try simp only [List.map_toArray, List.map_cons, List.map_nil]); first | done | rfl | (simp only [List.length_drop, List.length_take]; rfl)) ?_
              with_reducible refine (blend_Factor.calls a0_4 a1_0 a1_1 a1_2 a1_3 a2_0 a2_1 a2_2 a2_3 t262 t263 t264 t265 _ A7.out).mono ?_; rintro e w37 ⟨rfl, hb⟩; refine ⟨_, rfl, ?_⟩; replace BK244 := ub BK244 hb; replace BK245 := ub BK245 hb; replace BK246 := ub BK246 hb; replace BK247 := ub BK247 hb; replace BK260 := ub BK260 hb; replace BK261 := ub BK261 hb; replace HB := bs HB hb; (try clear hb); (try clear hb2); (try clear hk); (try clear hi)
              refine hK.out _ _ ⟨bc BK244 0, bc BK244 1, bc BK244 2, bc BK244 3, bc BK244 4, bc BK244 5, bc BK244 6, bc BK244 7, bc BK245 0, bc BK245 1, bc BK245 2, bc BK245 3, bc BK246 0, bc BK246 1, bc BK246 2, bc BK246 3⟩ (fun hHeld => ?_)
              clear hK K
              refine norm_ (a' := ?_) ?_ ?_
              rotate_left
              ·show Act.put _ (some 41) _ = _
               simp only [Act.put, List.setIfInBounds_toArray, List.set_cons_zero, List.set_cons_succ, i64_w, i32_w]
               rfl
              exact norm_ (by first | (simp only [putAll, Act.put, List.setIfInBounds_toArray, List.set_cons_zero, List.set_cons_succ]; done) | (simp only [putAll, Act.put, List.setIfInBounds_toArray, List.set_cons_zero, List.set_cons_succ]; rfl)) (hJ4 () _ ⟨hHeld, BK244.out, BK245.out, BK246.out, BK247.out, BK260.out, BK261.out, (by repeat (first | (with_reducible first | exact HB.out | apply below_alloc | apply pw_below_drewN | apply below_drew1 | refine below_setA ?_ (by assumption)) | exact HB.out))⟩)
             ·skip
              refine box_step ?hg (N := 9) ?hd (cs := #[.int .i64 0, .int .i64 0, .int .i64 0, .int .i64 0]) (t := 27) ?hr ?_; (case hd => rfl); (case hg => rfl); (case hr => first | (go_simp; done) | (go_simp; rfl))
              intro gb270 hg w37 hbox hb
              have BK270 := Aside0.mk (hbox); have GW270 := ws HB hg; have GE270 := ws HB hg; have NB244_270 := nl BK244 hg; have NB270_244 := ng BK244 hg; have NB245_270 := nl BK245 hg; have NB270_245 := ng BK245 hg; have NB246_270 := nl BK246 hg; have NB270_246 := ng BK246 hg; have NB247_270 := nl BK247 hg; have NB270_247 := ng BK247 hg; have NB260_270 := nl BK260 hg; have NB270_260 := ng BK260 hg; have NB261_270 := nl BK261 hg; have NB270_261 := ng BK261 hg; replace BK244 := ub BK244 hb; replace BK245 := ub BK245 hb; replace BK246 := ub BK246 hb; replace BK247 := ub BK247 hb; replace BK260 := ub BK260 hb; replace BK261 := ub BK261 hb; replace HB := bs HB hb; clear hb hbox hg
              refine hK.out _ _ ⟨bc BK244 0, bc BK244 1, bc BK244 2, bc BK244 3, bc BK244 4, bc BK244 5, bc BK244 6, bc BK244 7, bc BK245 0, bc BK245 1, bc BK245 2, bc BK245 3, bc BK246 0, bc BK246 1, bc BK246 2, bc BK246 3⟩ (fun hHeld => ?_)
              clear hK K
              refine norm_ (a' := ?_) ?_ ?_
              rotate_left
              ·show Act.put _ (some 9) _ = _
               simp only [Act.put, List.setIfInBounds_toArray, List.set_cons_zero, List.set_cons_succ, i64_w, i32_w]
               rfl
              exact norm_ (by first | (simp only [putAll, Act.put, List.setIfInBounds_toArray, List.set_cons_zero, List.set_cons_succ]; done) | (simp only [putAll, Act.put, List.setIfInBounds_toArray, List.set_cons_zero, List.set_cons_succ]; rfl)) (hJ10 (gb270) _ ⟨hHeld, BK244.out, BK245.out, BK246.out, BK247.out, BK260.out, BK261.out, BK270.out, GW270.out, GE270.out, NB244_270.out, NB270_244.out, NB245_270.out, NB270_245.out, NB246_270.out, NB270_246.out, NB247_270.out, NB270_247.out, NB260_270.out, NB270_260.out, NB261_270.out, NB270_261.out, (by repeat (first | (with_reducible first | exact HB.out | apply below_alloc | apply pw_below_drewN | apply below_drew1 | refine below_setA ?_ (by assumption)) | exact HB.out))⟩)
             ·skip
              refine box_step ?hg (N := 10) ?hd (cs := #[.int .i64 0, .int .i64 0, .int .i64 0, .int .i64 0]) (t := 27) ?hr ?_; (case hd => rfl); (case hg => rfl); (case hr => first | (go_simp; done) | (go_simp; rfl))
              intro gb271 hg w37 hbox hb
              have BK271 := Aside0.mk (hbox); have GW271 := ws HB hg; have GE271 := ws HB hg; have NB244_271 := nl BK244 hg; have NB271_244 := ng BK244 hg; have NB245_271 := nl BK245 hg; have NB271_245 := ng BK245 hg; have NB246_271 := nl BK246 hg; have NB271_246 := ng BK246 hg; have NB247_271 := nl BK247 hg; have NB271_247 := ng BK247 hg; have NB260_271 := nl BK260 hg; have NB271_260 := ng BK260 hg; have NB261_271 := nl BK261 hg; have NB271_261 := ng BK261 hg; replace BK244 := ub BK244 hb; replace BK245 := ub BK245 hb; replace BK246 := ub BK246 hb; replace BK247 := ub BK247 hb; replace BK260 := ub BK260 hb; replace BK261 := ub BK261 hb; replace HB := bs HB hb; clear hb hbox hg
              refine hK.out _ _ ⟨bc BK244 0, bc BK244 1, bc BK244 2, bc BK244 3, bc BK244 4, bc BK244 5, bc BK244 6, bc BK244 7, bc BK245 0, bc BK245 1, bc BK245 2, bc BK245 3, bc BK246 0, bc BK246 1, bc BK246 2, bc BK246 3⟩ (fun hHeld => ?_)
              clear hK K
              refine norm_ (a' := ?_) ?_ ?_
              rotate_left
              ·show Act.put _ (some 10) _ = _
               simp only [Act.put, List.setIfInBounds_toArray, List.set_cons_zero, List.set_cons_succ, i64_w, i32_w]
               rfl
              exact norm_ (by first | (simp only [putAll, Act.put, List.setIfInBounds_toArray, List.set_cons_zero, List.set_cons_succ]; done) | (simp only [putAll, Act.put, List.setIfInBounds_toArray, List.set_cons_zero, List.set_cons_succ]; rfl)) (hJ11 (gb271) _ ⟨hHeld, BK244.out, BK245.out, BK246.out, BK247.out, BK260.out, BK261.out, BK271.out, GW271.out, GE271.out, NB244_271.out, NB271_244.out, NB245_271.out, NB271_245.out, NB246_271.out, NB271_246.out, NB247_271.out, NB271_247.out, NB260_271.out, NB271_260.out, NB261_271.out, NB271_261.out, (by repeat (first | (with_reducible first | exact HB.out | apply below_alloc | apply pw_below_drewN | apply below_drew1 | refine below_setA ?_ (by assumption)) | exact HB.out))⟩)
            ·skip
             rintro gb271 w38 ⟨hS_, h0_, h1_, h2_, h3_, h4_, h5_, h6_, h7_, h8_, h9_, h10_, h11_, h12_, h13_, h14_, h15_, h16_, h17_, h18_, h19_, h20_, h21_⟩; have BK271 := Aside0.mk h6_; have GW271 := Aside0.mk h7_; have GE271 := Aside0.mk h8_; have NB244_271 := Aside0.mk h9_; have NB271_244 := Aside0.mk h10_; have NB245_271 := Aside0.mk h11_; have NB271_245 := Aside0.mk h12_; have NB246_271 := Aside0.mk h13_; have NB271_246 := Aside0.mk h14_; have NB247_271 := Aside0.mk h15_; have NB271_247 := Aside0.mk h16_; have NB260_271 := Aside0.mk h17_; have NB271_260 := Aside0.mk h18_; have NB261_271 := Aside0.mk h19_; have NB271_261 := Aside0.mk h20_; replace BK244 := Aside0.mk h0_; replace BK245 := Aside0.mk h1_; replace BK246 := Aside0.mk h2_; replace BK247 := Aside0.mk h3_; replace BK260 := Aside0.mk h4_; replace BK261 := Aside0.mk h5_; replace HB := Aside0.mk h21_; clear h0_ h1_ h2_ h3_ h4_ h5_ h6_ h7_ h8_ h9_ h10_ h11_ h12_ h13_ h14_ h15_ h16_ h17_ h18_ h19_ h20_ h21_; have hHeld := hS_
             refine norm_ (a' := ?_) ?_ ?_
             rotate_left
             ·simp only [putAll, Act.put, List.setIfInBounds_toArray, List.set_cons_zero, List.set_cons_succ]
              rfl
             refine two_ (i := 4) (j := 10) (Ni := some 41) (Nj := some 9) #[true, true, true, true, true, true, true, true, true, false, false, true, false, false] #[true, true, true, true, false, true, true, true, true, false, true, true, false, false] rfl rfl rfl rfl (two_of HT_.out (by kernel_rfl)) (by decide) (by decide) (fun K hK => ?_) (fun K hK => ?_)
             ·skip
              refine goes_ Try.func7 (by kernel_rfl) rfl #[.int .i64 a0_4, .agg #[.int .i64 a1_0, .int .i64 a1_1, .int .i64 a1_2, .int .i64 a1_3], .agg #[.int .i64 a2_0, .int .i64 a2_1, .int .i64 a2_2, .int .i64 a2_3]] (by rfl) rfl rfl (by (try simp only [List.map_toArray, List.map_cons, List.map_nil]); first | done | rfl | (simp only [List.length_drop, List.length_take]; rfl)) ?_
              with_reducible refine (blend_Factor.calls a0_4 a1_0 a1_1 a1_2 a1_3 a2_0 a2_1 a2_2 a2_3 t262 t263 t264 t265 _ A7.out).mono ?_; rintro e w39 ⟨rfl, hb⟩; refine ⟨_, rfl, ?_⟩; replace BK244 := ub BK244 hb; replace BK245 := ub BK245 hb; replace BK246 := ub BK246 hb; replace BK247 := ub BK247 hb; replace BK260 := ub BK260 hb; replace BK261 := ub BK261 hb; replace BK271 := ub BK271 hb; replace HB := bs HB hb; (try clear hb); (try clear hb2); (try clear hk); (try clear hi)
              refine hK.out _ _ ⟨bc BK244 0, bc BK244 1, bc BK244 2, bc BK244 3, bc BK244 4, bc BK244 5, bc BK244 6, bc BK244 7, bc BK245 0, bc BK245 1, bc BK245 2, bc BK245 3, bc BK246 0, bc BK246 1, bc BK246 2, bc BK246 3⟩ (fun hHeld => ?_)
              clear hK K
              refine norm_ (a' := ?_) ?_ ?_
              rotate_left
              ·show Act.put _ (some 41) _ = _
               simp only [Act.put, List.setIfInBounds_toArray, List.set_cons_zero, List.set_cons_succ, i64_w, i32_w]
               rfl
              exact norm_ (by first | (simp only [putAll, Act.put, List.setIfInBounds_toArray, List.set_cons_zero, List.set_cons_succ]; done) | (simp only [putAll, Act.put, List.setIfInBounds_toArray, List.set_cons_zero, List.set_cons_succ]; rfl)) (hJ4_11 (gb271) _ ⟨hHeld, BK244.out, BK245.out, BK246.out, BK247.out, BK260.out, BK261.out, BK271.out, GW271.out, GE271.out, NB244_271.out, NB271_244.out, NB245_271.out, NB271_245.out, NB246_271.out, NB271_246.out, NB247_271.out, NB271_247.out, NB260_271.out, NB271_260.out, NB261_271.out, NB271_261.out, (by repeat (first | (with_reducible first | exact HB.out | apply below_alloc | apply pw_below_drewN | apply below_drew1 | refine below_setA ?_ (by assumption)) | exact HB.out))⟩)
             ·skip
              refine box_step ?hg (N := 9) ?hd (cs := #[.int .i64 0, .int .i64 0, .int .i64 0, .int .i64 0]) (t := 27) ?hr ?_; (case hd => rfl); (case hg => rfl); (case hr => first | (go_simp; done) | (go_simp; rfl))
              intro gb270 hg w39 hbox hb
              have BK270 := Aside0.mk (hbox); have GW270 := ws HB hg; have GE270 := ws HB hg; have NB244_270 := nl BK244 hg; have NB270_244 := ng BK244 hg; have NB245_270 := nl BK245 hg; have NB270_245 := ng BK245 hg; have NB246_270 := nl BK246 hg; have NB270_246 := ng BK246 hg; have NB247_270 := nl BK247 hg; have NB270_247 := ng BK247 hg; have NB260_270 := nl BK260 hg; have NB270_260 := ng BK260 hg; have NB261_270 := nl BK261 hg; have NB270_261 := ng BK261 hg; have NB271_270 := nl BK271 hg; have NB270_271 := ng BK271 hg; replace BK244 := ub BK244 hb; replace BK245 := ub BK245 hb; replace BK246 := ub BK246 hb; replace BK247 := ub BK247 hb; replace BK260 := ub BK260 hb; replace BK261 := ub BK261 hb; replace BK271 := ub BK271 hb; replace HB := bs HB hb; clear hb hbox hg
              refine hK.out _ _ ⟨bc BK244 0, bc BK244 1, bc BK244 2, bc BK244 3, bc BK244 4, bc BK244 5, bc BK244 6, bc BK244 7, bc BK245 0, bc BK245 1, bc BK245 2, bc BK245 3, bc BK246 0, bc BK246 1, bc BK246 2, bc BK246 3⟩ (fun hHeld => ?_)
              clear hK K
              refine norm_ (a' := ?_) ?_ ?_
              rotate_left
              ·show Act.put _ (some 9) _ = _
               simp only [Act.put, List.setIfInBounds_toArray, List.set_cons_zero, List.set_cons_succ, i64_w, i32_w]
               rfl
              exact norm_ (by first | (simp only [putAll, Act.put, List.setIfInBounds_toArray, List.set_cons_zero, List.set_cons_succ]; done) | (simp only [putAll, Act.put, List.setIfInBounds_toArray, List.set_cons_zero, List.set_cons_succ]; rfl)) (hJ10_11 (gb270, gb271) _ ⟨hHeld, BK244.out, BK245.out, BK246.out, BK247.out, BK260.out, BK261.out, BK270.out, BK271.out, GW270.out, GE270.out, NB244_270.out, NB270_244.out, NB245_270.out, NB270_245.out, NB246_270.out, NB270_246.out, NB247_270.out, NB270_247.out, NB260_270.out, NB270_260.out, NB261_270.out, NB270_261.out, NB271_270.out, NB270_271.out, GW271.out, GE271.out, NB244_271.out, NB271_244.out, NB245_271.out, NB271_245.out, NB246_271.out, NB271_246.out, NB247_271.out, NB271_247.out, NB260_271.out, NB271_260.out, NB261_271.out, NB271_261.out, (by repeat (first | (with_reducible first | exact HB.out | apply below_alloc | apply pw_below_drewN | apply below_drew1 | refine below_setA ?_ (by assumption)) | exact HB.out))⟩)
           ·skip
            rintro gb270 w38 ⟨hS_, h0_, h1_, h2_, h3_, h4_, h5_, h6_, h7_, h8_, h9_, h10_, h11_, h12_, h13_, h14_, h15_, h16_, h17_, h18_, h19_, h20_, h21_⟩; have BK270 := Aside0.mk h6_; have GW270 := Aside0.mk h7_; have GE270 := Aside0.mk h8_; have NB244_270 := Aside0.mk h9_; have NB270_244 := Aside0.mk h10_; have NB245_270 := Aside0.mk h11_; have NB270_245 := Aside0.mk h12_; have NB246_270 := Aside0.mk h13_; have NB270_246 := Aside0.mk h14_; have NB247_270 := Aside0.mk h15_; have NB270_247 := Aside0.mk h16_; have NB260_270 := Aside0.mk h17_; have NB270_260 := Aside0.mk h18_; have NB261_270 := Aside0.mk h19_; have NB270_261 := Aside0.mk h20_; replace BK244 := Aside0.mk h0_; replace BK245 := Aside0.mk h1_; replace BK246 := Aside0.mk h2_; replace BK247 := Aside0.mk h3_; replace BK260 := Aside0.mk h4_; replace BK261 := Aside0.mk h5_; replace HB := Aside0.mk h21_; clear h0_ h1_ h2_ h3_ h4_ h5_ h6_ h7_ h8_ h9_ h10_ h11_ h12_ h13_ h14_ h15_ h16_ h17_ h18_ h19_ h20_ h21_; have hHeld := hS_
            refine norm_ (a' := ?_) ?_ ?_
            rotate_left
            ·simp only [putAll, Act.put, List.setIfInBounds_toArray, List.set_cons_zero, List.set_cons_succ]
             rfl
            refine two_ (i := 4) (j := 11) (Ni := some 41) (Nj := some 10) #[true, true, true, true, true, true, true, true, true, false, true, false, false, false] #[true, true, true, true, false, true, true, true, true, false, true, true, false, false] rfl rfl rfl rfl (two_of HT_.out (by kernel_rfl)) (by decide) (by decide) (fun K hK => ?_) (fun K hK => ?_)
            ·skip
             refine goes_ Try.func7 (by kernel_rfl) rfl #[.int .i64 a0_4, .agg #[.int .i64 a1_0, .int .i64 a1_1, .int .i64 a1_2, .int .i64 a1_3], .agg #[.int .i64 a2_0, .int .i64 a2_1, .int .i64 a2_2, .int .i64 a2_3]] (by rfl) rfl rfl (by (try simp only [List.map_toArray, List.map_cons, List.map_nil]); first | done | rfl | (simp only [List.length_drop, List.length_take]; rfl)) ?_
             with_reducible refine (blend_Factor.calls a0_4 a1_0 a1_1 a1_2 a1_3 a2_0 a2_1 a2_2 a2_3 t262 t263 t264 t265 _ A7.out).mono ?_; rintro e w39 ⟨rfl, hb⟩; refine ⟨_, rfl, ?_⟩; replace BK244 := ub BK244 hb; replace BK245 := ub BK245 hb; replace BK246 := ub BK246 hb; replace BK247 := ub BK247 hb; replace BK260 := ub BK260 hb; replace BK261 := ub BK261 hb; replace BK270 := ub BK270 hb; replace HB := bs HB hb; (try clear hb); (try clear hb2); (try clear hk); (try clear hi)
             refine hK.out _ _ ⟨bc BK244 0, bc BK244 1, bc BK244 2, bc BK244 3, bc BK244 4, bc BK244 5, bc BK244 6, bc BK244 7, bc BK245 0, bc BK245 1, bc BK245 2, bc BK245 3, bc BK246 0, bc BK246 1, bc BK246 2, bc BK246 3⟩ (fun hHeld => ?_)
             clear hK K
             refine norm_ (a' := ?_) ?_ ?_
             rotate_left
             ·show Act.put _ (some 41) _ = _
              simp only [Act.put, List.setIfInBounds_toArray, List.set_cons_zero, List.set_cons_succ, i64_w, i32_w]
              rfl
             exact norm_ (by first | (simp only [putAll, Act.put, List.setIfInBounds_toArray, List.set_cons_zero, List.set_cons_succ]; done) | (simp only [putAll, Act.put, List.setIfInBounds_toArray, List.set_cons_zero, List.set_cons_succ]; rfl)) (hJ4_10 (gb270) _ ⟨hHeld, BK244.out, BK245.out, BK246.out, BK247.out, BK260.out, BK261.out, BK270.out, GW270.out, GE270.out, NB244_270.out, NB270_244.out, NB245_270.out, NB270_245.out, NB246_270.out, NB270_246.out, NB247_270.out, NB270_247.out, NB260_270.out, NB270_260.out, NB261_270.out, NB270_261.out, (by repeat (first | (with_reducible first | exact HB.out | apply below_alloc | apply pw_below_drewN | apply below_drew1 | refine below_setA ?_ (by assumption)) | exact HB.out))⟩)
            ·skip
             refine box_step ?hg (N := 10) ?hd (cs := #[.int .i64 0, .int .i64 0, .int .i64 0, .int .i64 0]) (t := 27) ?hr ?_; (case hd => rfl); (case hg => rfl); (case hr => first | (go_simp; done) | (go_simp; rfl))
             intro gb271 hg w39 hbox hb
             have BK271 := Aside0.mk (hbox); have GW271 := ws HB hg; have GE271 := ws HB hg; have NB244_271 := nl BK244 hg; have NB271_244 := ng BK244 hg; have NB245_271 := nl BK245 hg; have NB271_245 := ng BK245 hg; have NB246_271 := nl BK246 hg; have NB271_246 := ng BK246 hg; have NB247_271 := nl BK247 hg; have NB271_247 := ng BK247 hg; have NB260_271 := nl BK260 hg; have NB271_260 := ng BK260 hg; have NB261_271 := nl BK261 hg; have NB271_261 := ng BK261 hg; have NB270_271 := nl BK270 hg; have NB271_270 := ng BK270 hg; replace BK244 := ub BK244 hb; replace BK245 := ub BK245 hb; replace BK246 := ub BK246 hb; replace BK247 := ub BK247 hb; replace BK260 := ub BK260 hb; replace BK261 := ub BK261 hb; replace BK270 := ub BK270 hb; replace HB := bs HB hb; clear hb hbox hg
             refine hK.out _ _ ⟨bc BK244 0, bc BK244 1, bc BK244 2, bc BK244 3, bc BK244 4, bc BK244 5, bc BK244 6, bc BK244 7, bc BK245 0, bc BK245 1, bc BK245 2, bc BK245 3, bc BK246 0, bc BK246 1, bc BK246 2, bc BK246 3⟩ (fun hHeld => ?_)
             clear hK K
             refine norm_ (a' := ?_) ?_ ?_
             rotate_left
             ·show Act.put _ (some 10) _ = _
              simp only [Act.put, List.setIfInBounds_toArray, List.set_cons_zero, List.set_cons_succ, i64_w, i32_w]
              rfl
             exact norm_ (by first | (simp only [putAll, Act.put, List.setIfInBounds_toArray, List.set_cons_zero, List.set_cons_succ]; done) | (simp only [putAll, Act.put, List.setIfInBounds_toArray, List.set_cons_zero, List.set_cons_succ]; rfl)) (hJ10_11 (gb270, gb271) _ ⟨hHeld, BK244.out, BK245.out, BK246.out, BK247.out, BK260.out, BK261.out, BK270.out, BK271.out, GW270.out, GE270.out, NB244_270.out, NB270_244.out, NB245_270.out, NB270_245.out, NB246_270.out, NB270_246.out, NB247_270.out, NB270_247.out, NB260_270.out, NB270_260.out, NB261_270.out, NB270_261.out, NB271_270.out, NB270_271.out, GW271.out, GE271.out, NB244_271.out, NB271_244.out, NB245_271.out, NB271_245.out, NB246_271.out, NB271_246.out, NB247_271.out, NB271_247.out, NB260_271.out, NB271_260.out, NB261_271.out, NB271_261.out, (by repeat (first | (with_reducible first | exact HB.out | apply below_alloc | apply pw_below_drewN | apply below_drew1 | refine below_setA ?_ (by assumption)) | exact HB.out))⟩)
          ·skip
           rintro _ w38 ⟨hS_, h0_, h1_, h2_, h3_, h4_, h5_, h6_⟩; replace BK244 := Aside0.mk h0_; replace BK245 := Aside0.mk h1_; replace BK246 := Aside0.mk h2_; replace BK247 := Aside0.mk h3_; replace BK260 := Aside0.mk h4_; replace BK261 := Aside0.mk h5_; replace HB := Aside0.mk h6_; clear h0_ h1_ h2_ h3_ h4_ h5_ h6_; have hHeld := hS_
           refine norm_ (a' := ?_) ?_ ?_
           rotate_left
           ·simp only [putAll, Act.put, List.setIfInBounds_toArray, List.set_cons_zero, List.set_cons_succ]
            rfl
           refine three_ (i := 9) (j := 10) (k := 11) (Ni := some 46) (Nj := some 9) (Nk := some 10) #[true, true, true, true, true, true, true, true, true, true, false, false, false, false] #[true, true, true, true, true, true, true, true, true, false, true, false, false, false] #[true, true, true, true, true, true, true, true, true, false, false, true, false, false] rfl rfl rfl rfl rfl rfl (three_of HT_.out (by kernel_rfl)) (by decide) (by decide) (by decide) (fun K hK => ?_) (fun K hK => ?_) (fun K hK => ?_)
           ·skip
            refine goes_ Try.func7 (by kernel_rfl) rfl #[.int .i64 a0_5, .agg #[.int .i64 a1_0, .int .i64 a1_1, .int .i64 a1_2, .int .i64 a1_3], .agg #[.int .i64 a2_0, .int .i64 a2_1, .int .i64 a2_2, .int .i64 a2_3]] (by rfl) rfl rfl (by (try simp only [List.map_toArray, List.map_cons, List.map_nil]); first | done | rfl | (simp only [List.length_drop, List.length_take]; rfl)) ?_
            with_reducible refine (blend_Factor.calls a0_5 a1_0 a1_1 a1_2 a1_3 a2_0 a2_1 a2_2 a2_3 t266 t267 t268 t269 _ A8.out).mono ?_; rintro e w39 ⟨rfl, hb⟩; refine ⟨_, rfl, ?_⟩; replace BK244 := ub BK244 hb; replace BK245 := ub BK245 hb; replace BK246 := ub BK246 hb; replace BK247 := ub BK247 hb; replace BK260 := ub BK260 hb; replace BK261 := ub BK261 hb; replace HB := bs HB hb; (try clear hb); (try clear hb2); (try clear hk); (try clear hi)
            refine hK.out _ _ ⟨bc BK244 0, bc BK244 1, bc BK244 2, bc BK244 3, bc BK244 4, bc BK244 5, bc BK244 6, bc BK244 7, bc BK245 0, bc BK245 1, bc BK245 2, bc BK245 3, bc BK246 0, bc BK246 1, bc BK246 2, bc BK246 3⟩ (fun hHeld => ?_)
            clear hK K
            refine norm_ (a' := ?_) ?_ ?_
            rotate_left
            ·show Act.put _ (some 46) _ = _
             simp only [Act.put, List.setIfInBounds_toArray, List.set_cons_zero, List.set_cons_succ, i64_w, i32_w]
             rfl
            exact norm_ (by first | (simp only [putAll, Act.put, List.setIfInBounds_toArray, List.set_cons_zero, List.set_cons_succ]; done) | (simp only [putAll, Act.put, List.setIfInBounds_toArray, List.set_cons_zero, List.set_cons_succ]; rfl)) (hJ4_9 () _ ⟨hHeld, BK244.out, BK245.out, BK246.out, BK247.out, BK260.out, BK261.out, (by repeat (first | (with_reducible first | exact HB.out | apply below_alloc | apply pw_below_drewN | apply below_drew1 | refine below_setA ?_ (by assumption)) | exact HB.out))⟩)
           ·skip
            refine box_step ?hg (N := 9) ?hd (cs := #[.int .i64 0, .int .i64 0, .int .i64 0, .int .i64 0]) (t := 27) ?hr ?_; (case hd => rfl); (case hg => rfl); (case hr => first | (go_simp; done) | (go_simp; rfl))
            intro gb270 hg w39 hbox hb
            have BK270 := Aside0.mk (hbox); have GW270 := ws HB hg; have GE270 := ws HB hg; have NB244_270 := nl BK244 hg; have NB270_244 := ng BK244 hg; have NB245_270 := nl BK245 hg; have NB270_245 := ng BK245 hg; have NB246_270 := nl BK246 hg; have NB270_246 := ng BK246 hg; have NB247_270 := nl BK247 hg; have NB270_247 := ng BK247 hg; have NB260_270 := nl BK260 hg; have NB270_260 := ng BK260 hg; have NB261_270 := nl BK261 hg; have NB270_261 := ng BK261 hg; replace BK244 := ub BK244 hb; replace BK245 := ub BK245 hb; replace BK246 := ub BK246 hb; replace BK247 := ub BK247 hb; replace BK260 := ub BK260 hb; replace BK261 := ub BK261 hb; replace HB := bs HB hb; clear hb hbox hg
            refine hK.out _ _ ⟨bc BK244 0, bc BK244 1, bc BK244 2, bc BK244 3, bc BK244 4, bc BK244 5, bc BK244 6, bc BK244 7, bc BK245 0, bc BK245 1, bc BK245 2, bc BK245 3, bc BK246 0, bc BK246 1, bc BK246 2, bc BK246 3⟩ (fun hHeld => ?_)
            clear hK K
            refine norm_ (a' := ?_) ?_ ?_
            rotate_left
            ·show Act.put _ (some 9) _ = _
             simp only [Act.put, List.setIfInBounds_toArray, List.set_cons_zero, List.set_cons_succ, i64_w, i32_w]
             rfl
            exact norm_ (by first | (simp only [putAll, Act.put, List.setIfInBounds_toArray, List.set_cons_zero, List.set_cons_succ]; done) | (simp only [putAll, Act.put, List.setIfInBounds_toArray, List.set_cons_zero, List.set_cons_succ]; rfl)) (hJ4_10 (gb270) _ ⟨hHeld, BK244.out, BK245.out, BK246.out, BK247.out, BK260.out, BK261.out, BK270.out, GW270.out, GE270.out, NB244_270.out, NB270_244.out, NB245_270.out, NB270_245.out, NB246_270.out, NB270_246.out, NB247_270.out, NB270_247.out, NB260_270.out, NB270_260.out, NB261_270.out, NB270_261.out, (by repeat (first | (with_reducible first | exact HB.out | apply below_alloc | apply pw_below_drewN | apply below_drew1 | refine below_setA ?_ (by assumption)) | exact HB.out))⟩)
           ·skip
            refine box_step ?hg (N := 10) ?hd (cs := #[.int .i64 0, .int .i64 0, .int .i64 0, .int .i64 0]) (t := 27) ?hr ?_; (case hd => rfl); (case hg => rfl); (case hr => first | (go_simp; done) | (go_simp; rfl))
            intro gb271 hg w39 hbox hb
            have BK271 := Aside0.mk (hbox); have GW271 := ws HB hg; have GE271 := ws HB hg; have NB244_271 := nl BK244 hg; have NB271_244 := ng BK244 hg; have NB245_271 := nl BK245 hg; have NB271_245 := ng BK245 hg; have NB246_271 := nl BK246 hg; have NB271_246 := ng BK246 hg; have NB247_271 := nl BK247 hg; have NB271_247 := ng BK247 hg; have NB260_271 := nl BK260 hg; have NB271_260 := ng BK260 hg; have NB261_271 := nl BK261 hg; have NB271_261 := ng BK261 hg; replace BK244 := ub BK244 hb; replace BK245 := ub BK245 hb; replace BK246 := ub BK246 hb; replace BK247 := ub BK247 hb; replace BK260 := ub BK260 hb; replace BK261 := ub BK261 hb; replace HB := bs HB hb; clear hb hbox hg
            refine hK.out _ _ ⟨bc BK244 0, bc BK244 1, bc BK244 2, bc BK244 3, bc BK244 4, bc BK244 5, bc BK244 6, bc BK244 7, bc BK245 0, bc BK245 1, bc BK245 2, bc BK245 3, bc BK246 0, bc BK246 1, bc BK246 2, bc BK246 3⟩ (fun hHeld => ?_)
            clear hK K
            refine norm_ (a' := ?_) ?_ ?_
            rotate_left
            ·show Act.put _ (some 10) _ = _
             simp only [Act.put, List.setIfInBounds_toArray, List.set_cons_zero, List.set_cons_succ, i64_w, i32_w]
             rfl
            exact norm_ (by first | (simp only [putAll, Act.put, List.setIfInBounds_toArray, List.set_cons_zero, List.set_cons_succ]; done) | (simp only [putAll, Act.put, List.setIfInBounds_toArray, List.set_cons_zero, List.set_cons_succ]; rfl)) (hJ4_11 (gb271) _ ⟨hHeld, BK244.out, BK245.out, BK246.out, BK247.out, BK260.out, BK261.out, BK271.out, GW271.out, GE271.out, NB244_271.out, NB271_244.out, NB245_271.out, NB271_245.out, NB246_271.out, NB271_246.out, NB247_271.out, NB271_247.out, NB260_271.out, NB271_260.out, NB261_271.out, NB271_261.out, (by repeat (first | (with_reducible first | exact HB.out | apply below_alloc | apply pw_below_drewN | apply below_drew1 | refine below_setA ?_ (by assumption)) | exact HB.out))⟩)
         ·skip
          rintro ⟨gb270, gb271⟩ w39 ⟨hS_, h0_, h1_, h2_, h3_, h4_, h5_, h6_, h7_, h8_, h9_, h10_, h11_, h12_, h13_, h14_, h15_, h16_, h17_, h18_, h19_, h20_, h21_, h22_, h23_, h24_, h25_, h26_, h27_, h28_, h29_, h30_, h31_, h32_, h33_, h34_, h35_, h36_, h37_, h38_⟩; have BK270 := Aside0.mk h6_; have BK271 := Aside0.mk h7_; have GW270 := Aside0.mk h8_; have GE270 := Aside0.mk h9_; have NB244_270 := Aside0.mk h10_; have NB270_244 := Aside0.mk h11_; have NB245_270 := Aside0.mk h12_; have NB270_245 := Aside0.mk h13_; have NB246_270 := Aside0.mk h14_; have NB270_246 := Aside0.mk h15_; have NB247_270 := Aside0.mk h16_; have NB270_247 := Aside0.mk h17_; have NB260_270 := Aside0.mk h18_; have NB270_260 := Aside0.mk h19_; have NB261_270 := Aside0.mk h20_; have NB270_261 := Aside0.mk h21_; have NB271_270 := Aside0.mk h22_; have NB270_271 := Aside0.mk h23_; have GW271 := Aside0.mk h24_; have GE271 := Aside0.mk h25_; have NB244_271 := Aside0.mk h26_; have NB271_244 := Aside0.mk h27_; have NB245_271 := Aside0.mk h28_; have NB271_245 := Aside0.mk h29_; have NB246_271 := Aside0.mk h30_; have NB271_246 := Aside0.mk h31_; have NB247_271 := Aside0.mk h32_; have NB271_247 := Aside0.mk h33_; have NB260_271 := Aside0.mk h34_; have NB271_260 := Aside0.mk h35_; have NB261_271 := Aside0.mk h36_; have NB271_261 := Aside0.mk h37_; replace BK244 := Aside0.mk h0_; replace BK245 := Aside0.mk h1_; replace BK246 := Aside0.mk h2_; replace BK247 := Aside0.mk h3_; replace BK260 := Aside0.mk h4_; replace BK261 := Aside0.mk h5_; replace HB := Aside0.mk h38_; clear h0_ h1_ h2_ h3_ h4_ h5_ h6_ h7_ h8_ h9_ h10_ h11_ h12_ h13_ h14_ h15_ h16_ h17_ h18_ h19_ h20_ h21_ h22_ h23_ h24_ h25_ h26_ h27_ h28_ h29_ h30_ h31_ h32_ h33_ h34_ h35_ h36_ h37_ h38_; have hHeld := hS_
          refine norm_ (a' := ?_) ?_ ?_
          rotate_left
          ·simp only [putAll, Act.put, List.setIfInBounds_toArray, List.set_cons_zero, List.set_cons_succ]
           rfl
          refine one_ (i := 4) (N := some 41) #[true, true, true, true, true, true, true, true, true, false, true, true, false, false] rfl rfl (one_of HT_.out (by kernel_rfl)) (by decide) (fun K hK => ?_)
          refine goes_ Try.func7 (by kernel_rfl) rfl #[.int .i64 a0_4, .agg #[.int .i64 a1_0, .int .i64 a1_1, .int .i64 a1_2, .int .i64 a1_3], .agg #[.int .i64 a2_0, .int .i64 a2_1, .int .i64 a2_2, .int .i64 a2_3]] (by rfl) rfl rfl (by (try simp only [List.map_toArray, List.map_cons, List.map_nil]); first | done | rfl | (simp only [List.length_drop, List.length_take]; rfl)) ?_
          with_reducible refine (blend_Factor.calls a0_4 a1_0 a1_1 a1_2 a1_3 a2_0 a2_1 a2_2 a2_3 t262 t263 t264 t265 _ A7.out).mono ?_; rintro e w40 ⟨rfl, hb⟩; refine ⟨_, rfl, ?_⟩; replace BK244 := ub BK244 hb; replace BK245 := ub BK245 hb; replace BK246 := ub BK246 hb; replace BK247 := ub BK247 hb; replace BK260 := ub BK260 hb; replace BK261 := ub BK261 hb; replace BK270 := ub BK270 hb; replace BK271 := ub BK271 hb; replace HB := bs HB hb; (try clear hb); (try clear hb2); (try clear hk); (try clear hi)
          refine hK.out _ _ ⟨bc BK244 0, bc BK244 1, bc BK244 2, bc BK244 3, bc BK244 4, bc BK244 5, bc BK244 6, bc BK244 7, bc BK245 0, bc BK245 1, bc BK245 2, bc BK245 3, bc BK246 0, bc BK246 1, bc BK246 2, bc BK246 3⟩ (fun hHeld => ?_)
          clear hK K
          refine norm_ (a' := ?_) ?_ ?_
          rotate_left
          ·show Act.put _ (some 41) _ = _
           simp only [Act.put, List.setIfInBounds_toArray, List.set_cons_zero, List.set_cons_succ, i64_w, i32_w]
           rfl
          exact norm_ (by first | (simp only [putAll, Act.put, List.setIfInBounds_toArray, List.set_cons_zero, List.set_cons_succ]; done) | (simp only [putAll, Act.put, List.setIfInBounds_toArray, List.set_cons_zero, List.set_cons_succ]; rfl)) (hJ4_10_11 (gb270, gb271) _ ⟨hHeld, BK244.out, BK245.out, BK246.out, BK247.out, BK260.out, BK261.out, BK270.out, BK271.out, GW270.out, GE270.out, NB244_270.out, NB270_244.out, NB245_270.out, NB270_245.out, NB246_270.out, NB270_246.out, NB247_270.out, NB270_247.out, NB260_270.out, NB270_260.out, NB261_270.out, NB270_261.out, NB271_270.out, NB270_271.out, GW271.out, GE271.out, NB244_271.out, NB271_244.out, NB245_271.out, NB271_245.out, NB246_271.out, NB271_246.out, NB247_271.out, NB271_247.out, NB260_271.out, NB271_260.out, NB261_271.out, NB271_261.out, (by repeat (first | (with_reducible first | exact HB.out | apply below_alloc | apply pw_below_drewN | apply below_drew1 | refine below_setA ?_ (by assumption)) | exact HB.out))⟩)
        ·skip
         rintro gb271 w39 ⟨hS_, h0_, h1_, h2_, h3_, h4_, h5_, h6_, h7_, h8_, h9_, h10_, h11_, h12_, h13_, h14_, h15_, h16_, h17_, h18_, h19_, h20_, h21_⟩; have BK271 := Aside0.mk h6_; have GW271 := Aside0.mk h7_; have GE271 := Aside0.mk h8_; have NB244_271 := Aside0.mk h9_; have NB271_244 := Aside0.mk h10_; have NB245_271 := Aside0.mk h11_; have NB271_245 := Aside0.mk h12_; have NB246_271 := Aside0.mk h13_; have NB271_246 := Aside0.mk h14_; have NB247_271 := Aside0.mk h15_; have NB271_247 := Aside0.mk h16_; have NB260_271 := Aside0.mk h17_; have NB271_260 := Aside0.mk h18_; have NB261_271 := Aside0.mk h19_; have NB271_261 := Aside0.mk h20_; replace BK244 := Aside0.mk h0_; replace BK245 := Aside0.mk h1_; replace BK246 := Aside0.mk h2_; replace BK247 := Aside0.mk h3_; replace BK260 := Aside0.mk h4_; replace BK261 := Aside0.mk h5_; replace HB := Aside0.mk h21_; clear h0_ h1_ h2_ h3_ h4_ h5_ h6_ h7_ h8_ h9_ h10_ h11_ h12_ h13_ h14_ h15_ h16_ h17_ h18_ h19_ h20_ h21_; have hHeld := hS_
         refine norm_ (a' := ?_) ?_ ?_
         rotate_left
         ·simp only [putAll, Act.put, List.setIfInBounds_toArray, List.set_cons_zero, List.set_cons_succ]
          rfl
         refine two_ (i := 9) (j := 10) (Ni := some 46) (Nj := some 9) #[true, true, true, true, true, true, true, true, true, true, false, true, false, false] #[true, true, true, true, true, true, true, true, true, false, true, true, false, false] rfl rfl rfl rfl (two_of HT_.out (by kernel_rfl)) (by decide) (by decide) (fun K hK => ?_) (fun K hK => ?_)
         ·skip
          refine goes_ Try.func7 (by kernel_rfl) rfl #[.int .i64 a0_5, .agg #[.int .i64 a1_0, .int .i64 a1_1, .int .i64 a1_2, .int .i64 a1_3], .agg #[.int .i64 a2_0, .int .i64 a2_1, .int .i64 a2_2, .int .i64 a2_3]] (by rfl) rfl rfl (by (try simp only [List.map_toArray, List.map_cons, List.map_nil]); first | done | rfl | (simp only [List.length_drop, List.length_take]; rfl)) ?_
          with_reducible refine (blend_Factor.calls a0_5 a1_0 a1_1 a1_2 a1_3 a2_0 a2_1 a2_2 a2_3 t266 t267 t268 t269 _ A8.out).mono ?_; rintro e w40 ⟨rfl, hb⟩; refine ⟨_, rfl, ?_⟩; replace BK244 := ub BK244 hb; replace BK245 := ub BK245 hb; replace BK246 := ub BK246 hb; replace BK247 := ub BK247 hb; replace BK260 := ub BK260 hb; replace BK261 := ub BK261 hb; replace BK271 := ub BK271 hb; replace HB := bs HB hb; (try clear hb); (try clear hb2); (try clear hk); (try clear hi)
          refine hK.out _ _ ⟨bc BK244 0, bc BK244 1, bc BK244 2, bc BK244 3, bc BK244 4, bc BK244 5, bc BK244 6, bc BK244 7, bc BK245 0, bc BK245 1, bc BK245 2, bc BK245 3, bc BK246 0, bc BK246 1, bc BK246 2, bc BK246 3⟩ (fun hHeld => ?_)
          clear hK K
          refine norm_ (a' := ?_) ?_ ?_
          rotate_left
          ·show Act.put _ (some 46) _ = _
           simp only [Act.put, List.setIfInBounds_toArray, List.set_cons_zero, List.set_cons_succ, i64_w, i32_w]
           rfl
          exact norm_ (by first | (simp only [putAll, Act.put, List.setIfInBounds_toArray, List.set_cons_zero, List.set_cons_succ]; done) | (simp only [putAll, Act.put, List.setIfInBounds_toArray, List.set_cons_zero, List.set_cons_succ]; rfl)) (hJ4_9_11 (gb271) _ ⟨hHeld, BK244.out, BK245.out, BK246.out, BK247.out, BK260.out, BK261.out, BK271.out, GW271.out, GE271.out, NB244_271.out, NB271_244.out, NB245_271.out, NB271_245.out, NB246_271.out, NB271_246.out, NB247_271.out, NB271_247.out, NB260_271.out, NB271_260.out, NB261_271.out, NB271_261.out, (by repeat (first | (with_reducible first | exact HB.out | apply below_alloc | apply pw_below_drewN | apply below_drew1 | refine below_setA ?_ (by assumption)) | exact HB.out))⟩)
         ·skip
          refine box_step ?hg (N := 9) ?hd (cs := #[.int .i64 0, .int .i64 0, .int .i64 0, .int .i64 0]) (t := 27) ?hr ?_; (case hd => rfl); (case hg => rfl); (case hr => first | (go_simp; done) | (go_simp; rfl))
          intro gb270 hg w40 hbox hb
          have BK270 := Aside0.mk (hbox); have GW270 := ws HB hg; have GE270 := ws HB hg; have NB244_270 := nl BK244 hg; have NB270_244 := ng BK244 hg; have NB245_270 := nl BK245 hg; have NB270_245 := ng BK245 hg; have NB246_270 := nl BK246 hg; have NB270_246 := ng BK246 hg; have NB247_270 := nl BK247 hg; have NB270_247 := ng BK247 hg; have NB260_270 := nl BK260 hg; have NB270_260 := ng BK260 hg; have NB261_270 := nl BK261 hg; have NB270_261 := ng BK261 hg; have NB271_270 := nl BK271 hg; have NB270_271 := ng BK271 hg; replace BK244 := ub BK244 hb; replace BK245 := ub BK245 hb; replace BK246 := ub BK246 hb; replace BK247 := ub BK247 hb; replace BK260 := ub BK260 hb; replace BK261 := ub BK261 hb; replace BK271 := ub BK271 hb; replace HB := bs HB hb; clear hb hbox hg
          refine hK.out _ _ ⟨bc BK244 0, bc BK244 1, bc BK244 2, bc BK244 3, bc BK244 4, bc BK244 5, bc BK244 6, bc BK244 7, bc BK245 0, bc BK245 1, bc BK245 2, bc BK245 3, bc BK246 0, bc BK246 1, bc BK246 2, bc BK246 3⟩ (fun hHeld => ?_)
          clear hK K
          refine norm_ (a' := ?_) ?_ ?_
          rotate_left
          ·show Act.put _ (some 9) _ = _
           simp only [Act.put, List.setIfInBounds_toArray, List.set_cons_zero, List.set_cons_succ, i64_w, i32_w]
           rfl
          exact norm_ (by first | (simp only [putAll, Act.put, List.setIfInBounds_toArray, List.set_cons_zero, List.set_cons_succ]; done) | (simp only [putAll, Act.put, List.setIfInBounds_toArray, List.set_cons_zero, List.set_cons_succ]; rfl)) (hJ4_10_11 (gb270, gb271) _ ⟨hHeld, BK244.out, BK245.out, BK246.out, BK247.out, BK260.out, BK261.out, BK270.out, BK271.out, GW270.out, GE270.out, NB244_270.out, NB270_244.out, NB245_270.out, NB270_245.out, NB246_270.out, NB270_246.out, NB247_270.out, NB270_247.out, NB260_270.out, NB270_260.out, NB261_270.out, NB270_261.out, NB271_270.out, NB270_271.out, GW271.out, GE271.out, NB244_271.out, NB271_244.out, NB245_271.out, NB271_245.out, NB246_271.out, NB271_246.out, NB247_271.out, NB271_247.out, NB260_271.out, NB271_260.out, NB261_271.out, NB271_261.out, (by repeat (first | (with_reducible first | exact HB.out | apply below_alloc | apply pw_below_drewN | apply below_drew1 | refine below_setA ?_ (by assumption)) | exact HB.out))⟩)
       ·skip
        rintro gb270 w39 ⟨hS_, h0_, h1_, h2_, h3_, h4_, h5_, h6_, h7_, h8_, h9_, h10_, h11_, h12_, h13_, h14_, h15_, h16_, h17_, h18_, h19_, h20_, h21_⟩; have BK270 := Aside0.mk h6_; have GW270 := Aside0.mk h7_; have GE270 := Aside0.mk h8_; have NB244_270 := Aside0.mk h9_; have NB270_244 := Aside0.mk h10_; have NB245_270 := Aside0.mk h11_; have NB270_245 := Aside0.mk h12_; have NB246_270 := Aside0.mk h13_; have NB270_246 := Aside0.mk h14_; have NB247_270 := Aside0.mk h15_; have NB270_247 := Aside0.mk h16_; have NB260_270 := Aside0.mk h17_; have NB270_260 := Aside0.mk h18_; have NB261_270 := Aside0.mk h19_; have NB270_261 := Aside0.mk h20_; replace BK244 := Aside0.mk h0_; replace BK245 := Aside0.mk h1_; replace BK246 := Aside0.mk h2_; replace BK247 := Aside0.mk h3_; replace BK260 := Aside0.mk h4_; replace BK261 := Aside0.mk h5_; replace HB := Aside0.mk h21_; clear h0_ h1_ h2_ h3_ h4_ h5_ h6_ h7_ h8_ h9_ h10_ h11_ h12_ h13_ h14_ h15_ h16_ h17_ h18_ h19_ h20_ h21_; have hHeld := hS_
        refine norm_ (a' := ?_) ?_ ?_
        rotate_left
        ·simp only [putAll, Act.put, List.setIfInBounds_toArray, List.set_cons_zero, List.set_cons_succ]
         rfl
        refine two_ (i := 9) (j := 11) (Ni := some 46) (Nj := some 10) #[true, true, true, true, true, true, true, true, true, true, true, false, false, false] #[true, true, true, true, true, true, true, true, true, false, true, true, false, false] rfl rfl rfl rfl (two_of HT_.out (by kernel_rfl)) (by decide) (by decide) (fun K hK => ?_) (fun K hK => ?_)
        ·skip
         refine goes_ Try.func7 (by kernel_rfl) rfl #[.int .i64 a0_5, .agg #[.int .i64 a1_0, .int .i64 a1_1, .int .i64 a1_2, .int .i64 a1_3], .agg #[.int .i64 a2_0, .int .i64 a2_1, .int .i64 a2_2, .int .i64 a2_3]] (by rfl) rfl rfl (by (try simp only [List.map_toArray, List.map_cons, List.map_nil]); first | done | rfl | (simp only [List.length_drop, List.length_take]; rfl)) ?_
         with_reducible refine (blend_Factor.calls a0_5 a1_0 a1_1 a1_2 a1_3 a2_0 a2_1 a2_2 a2_3 t266 t267 t268 t269 _ A8.out).mono ?_; rintro e w40 ⟨rfl, hb⟩; refine ⟨_, rfl, ?_⟩; replace BK244 := ub BK244 hb; replace BK245 := ub BK245 hb; replace BK246 := ub BK246 hb; replace BK247 := ub BK247 hb; replace BK260 := ub BK260 hb; replace BK261 := ub BK261 hb; replace BK270 := ub BK270 hb; replace HB := bs HB hb; (try clear hb); (try clear hb2); (try clear hk); (try clear hi)
         refine hK.out _ _ ⟨bc BK244 0, bc BK244 1, bc BK244 2, bc BK244 3, bc BK244 4, bc BK244 5, bc BK244 6, bc BK244 7, bc BK245 0, bc BK245 1, bc BK245 2, bc BK245 3, bc BK246 0, bc BK246 1, bc BK246 2, bc BK246 3⟩ (fun hHeld => ?_)
         clear hK K
         refine norm_ (a' := ?_) ?_ ?_
         rotate_left
         ·show Act.put _ (some 46) _ = _
          simp only [Act.put, List.setIfInBounds_toArray, List.set_cons_zero, List.set_cons_succ, i64_w, i32_w]
          rfl
         exact norm_ (by first | (simp only [putAll, Act.put, List.setIfInBounds_toArray, List.set_cons_zero, List.set_cons_succ]; done) | (simp only [putAll, Act.put, List.setIfInBounds_toArray, List.set_cons_zero, List.set_cons_succ]; rfl)) (hJ4_9_10 (gb270) _ ⟨hHeld, BK244.out, BK245.out, BK246.out, BK247.out, BK260.out, BK261.out, BK270.out, GW270.out, GE270.out, NB244_270.out, NB270_244.out, NB245_270.out, NB270_245.out, NB246_270.out, NB270_246.out, NB247_270.out, NB270_247.out, NB260_270.out, NB270_260.out, NB261_270.out, NB270_261.out, (by repeat (first | (with_reducible first | exact HB.out | apply below_alloc | apply pw_below_drewN | apply below_drew1 | refine below_setA ?_ (by assumption)) | exact HB.out))⟩)
        ·skip
         refine box_step ?hg (N := 10) ?hd (cs := #[.int .i64 0, .int .i64 0, .int .i64 0, .int .i64 0]) (t := 27) ?hr ?_; (case hd => rfl); (case hg => rfl); (case hr => first | (go_simp; done) | (go_simp; rfl))
         intro gb271 hg w40 hbox hb
         have BK271 := Aside0.mk (hbox); have GW271 := ws HB hg; have GE271 := ws HB hg; have NB244_271 := nl BK244 hg; have NB271_244 := ng BK244 hg; have NB245_271 := nl BK245 hg; have NB271_245 := ng BK245 hg; have NB246_271 := nl BK246 hg; have NB271_246 := ng BK246 hg; have NB247_271 := nl BK247 hg; have NB271_247 := ng BK247 hg; have NB260_271 := nl BK260 hg; have NB271_260 := ng BK260 hg; have NB261_271 := nl BK261 hg; have NB271_261 := ng BK261 hg; have NB270_271 := nl BK270 hg; have NB271_270 := ng BK270 hg; replace BK244 := ub BK244 hb; replace BK245 := ub BK245 hb; replace BK246 := ub BK246 hb; replace BK247 := ub BK247 hb; replace BK260 := ub BK260 hb; replace BK261 := ub BK261 hb; replace BK270 := ub BK270 hb; replace HB := bs HB hb; clear hb hbox hg
         refine hK.out _ _ ⟨bc BK244 0, bc BK244 1, bc BK244 2, bc BK244 3, bc BK244 4, bc BK244 5, bc BK244 6, bc BK244 7, bc BK245 0, bc BK245 1, bc BK245 2, bc BK245 3, bc BK246 0, bc BK246 1, bc BK246 2, bc BK246 3⟩ (fun hHeld => ?_)
         clear hK K
         refine norm_ (a' := ?_) ?_ ?_
         rotate_left
         ·show Act.put _ (some 10) _ = _
          simp only [Act.put, List.setIfInBounds_toArray, List.set_cons_zero, List.set_cons_succ, i64_w, i32_w]
          rfl
         exact norm_ (by first | (simp only [putAll, Act.put, List.setIfInBounds_toArray, List.set_cons_zero, List.set_cons_succ]; done) | (simp only [putAll, Act.put, List.setIfInBounds_toArray, List.set_cons_zero, List.set_cons_succ]; rfl)) (hJ4_10_11 (gb270, gb271) _ ⟨hHeld, BK244.out, BK245.out, BK246.out, BK247.out, BK260.out, BK261.out, BK270.out, BK271.out, GW270.out, GE270.out, NB244_270.out, NB270_244.out, NB245_270.out, NB270_245.out, NB246_270.out, NB270_246.out, NB247_270.out, NB270_247.out, NB260_270.out, NB270_260.out, NB261_270.out, NB270_261.out, NB271_270.out, NB270_271.out, GW271.out, GE271.out, NB244_271.out, NB271_244.out, NB245_271.out, NB271_245.out, NB246_271.out, NB271_246.out, NB247_271.out, NB271_247.out, NB260_271.out, NB271_260.out, NB261_271.out, NB271_261.out, (by repeat (first | (with_reducible first | exact HB.out | apply below_alloc | apply pw_below_drewN | apply below_drew1 | refine below_setA ?_ (by assumption)) | exact HB.out))⟩)
      ·skip
       rintro _ w39 ⟨hS_, h0_, h1_, h2_, h3_, h4_, h5_, h6_⟩; replace BK244 := Aside0.mk h0_; replace BK245 := Aside0.mk h1_; replace BK246 := Aside0.mk h2_; replace BK247 := Aside0.mk h3_; replace BK260 := Aside0.mk h4_; replace BK261 := Aside0.mk h5_; replace HB := Aside0.mk h6_; clear h0_ h1_ h2_ h3_ h4_ h5_ h6_; have hHeld := hS_
       refine norm_ (a' := ?_) ?_ ?_
       rotate_left
       ·simp only [putAll, Act.put, List.setIfInBounds_toArray, List.set_cons_zero, List.set_cons_succ]
        rfl
       refine two_ (i := 10) (j := 11) (Ni := some 9) (Nj := some 10) #[true, true, true, true, true, true, true, true, true, true, true, false, false, false] #[true, true, true, true, true, true, true, true, true, true, false, true, false, false] rfl rfl rfl rfl (two_of HT_.out (by kernel_rfl)) (by decide) (by decide) (fun K hK => ?_) (fun K hK => ?_)
       ·skip
        refine box_step ?hg (N := 9) ?hd (cs := #[.int .i64 0, .int .i64 0, .int .i64 0, .int .i64 0]) (t := 27) ?hr ?_; (case hd => rfl); (case hg => rfl); (case hr => first | (go_simp; done) | (go_simp; rfl))
        intro gb270 hg w40 hbox hb
        have BK270 := Aside0.mk (hbox); have GW270 := ws HB hg; have GE270 := ws HB hg; have NB244_270 := nl BK244 hg; have NB270_244 := ng BK244 hg; have NB245_270 := nl BK245 hg; have NB270_245 := ng BK245 hg; have NB246_270 := nl BK246 hg; have NB270_246 := ng BK246 hg; have NB247_270 := nl BK247 hg; have NB270_247 := ng BK247 hg; have NB260_270 := nl BK260 hg; have NB270_260 := ng BK260 hg; have NB261_270 := nl BK261 hg; have NB270_261 := ng BK261 hg; replace BK244 := ub BK244 hb; replace BK245 := ub BK245 hb; replace BK246 := ub BK246 hb; replace BK247 := ub BK247 hb; replace BK260 := ub BK260 hb; replace BK261 := ub BK261 hb; replace HB := bs HB hb; clear hb hbox hg
        refine hK.out _ _ ⟨bc BK244 0, bc BK244 1, bc BK244 2, bc BK244 3, bc BK244 4, bc BK244 5, bc BK244 6, bc BK244 7, bc BK245 0, bc BK245 1, bc BK245 2, bc BK245 3, bc BK246 0, bc BK246 1, bc BK246 2, bc BK246 3⟩ (fun hHeld => ?_)
        clear hK K
        refine norm_ (a' := ?_) ?_ ?_
        rotate_left
        ·show Act.put _ (some 9) _ = _
         simp only [Act.put, List.setIfInBounds_toArray, List.set_cons_zero, List.set_cons_succ, i64_w, i32_w]
         rfl
        exact norm_ (by first | (simp only [putAll, Act.put, List.setIfInBounds_toArray, List.set_cons_zero, List.set_cons_succ]; done) | (simp only [putAll, Act.put, List.setIfInBounds_toArray, List.set_cons_zero, List.set_cons_succ]; rfl)) (hJ4_9_10 (gb270) _ ⟨hHeld, BK244.out, BK245.out, BK246.out, BK247.out, BK260.out, BK261.out, BK270.out, GW270.out, GE270.out, NB244_270.out, NB270_244.out, NB245_270.out, NB270_245.out, NB246_270.out, NB270_246.out, NB247_270.out, NB270_247.out, NB260_270.out, NB270_260.out, NB261_270.out, NB270_261.out, (by repeat (first | (with_reducible first | exact HB.out | apply below_alloc | apply pw_below_drewN | apply below_drew1 | refine below_setA ?_ (by assumption)) | exact HB.out))⟩)
       ·skip
        refine box_step ?hg (N := 10) ?hd (cs := #[.int .i64 0, .int .i64 0, .int .i64 0, .int .i64 0]) (t := 27) ?hr ?_; (case hd => rfl); (case hg => rfl); (case hr => first | (go_simp; done) | (go_simp; rfl))
        intro gb271 hg w40 hbox hb
        have BK271 := Aside0.mk (hbox); have GW271 := ws HB hg; have GE271 := ws HB hg; have NB244_271 := nl BK244 hg; have NB271_244 := ng BK244 hg; have NB245_271 := nl BK245 hg; have NB271_245 := ng BK245 hg; have NB246_271 := nl BK246 hg; have NB271_246 := ng BK246 hg; have NB247_271 := nl BK247 hg; have NB271_247 := ng BK247 hg; have NB260_271 := nl BK260 hg; have NB271_260 := ng BK260 hg; have NB261_271 := nl BK261 hg; have NB271_261 := ng BK261 hg; replace BK244 := ub BK244 hb; replace BK245 := ub BK245 hb; replace BK246 := ub BK246 hb; replace BK247 := ub BK247 hb; replace BK260 := ub BK260 hb; replace BK261 := ub BK261 hb; replace HB := bs HB hb; clear hb hbox hg
        refine hK.out _ _ ⟨bc BK244 0, bc BK244 1, bc BK244 2, bc BK244 3, bc BK244 4, bc BK244 5, bc BK244 6, bc BK244 7, bc BK245 0, bc BK245 1, bc BK245 2, bc BK245 3, bc BK246 0, bc BK246 1, bc BK246 2, bc BK246 3⟩ (fun hHeld => ?_)
        clear hK K
        refine norm_ (a' := ?_) ?_ ?_
        rotate_left
        ·show Act.put _ (some 10) _ = _
         simp only [Act.put, List.setIfInBounds_toArray, List.set_cons_zero, List.set_cons_succ, i64_w, i32_w]
         rfl
        exact norm_ (by first | (simp only [putAll, Act.put, List.setIfInBounds_toArray, List.set_cons_zero, List.set_cons_succ]; done) | (simp only [putAll, Act.put, List.setIfInBounds_toArray, List.set_cons_zero, List.set_cons_succ]; rfl)) (hJ4_9_11 (gb271) _ ⟨hHeld, BK244.out, BK245.out, BK246.out, BK247.out, BK260.out, BK261.out, BK271.out, GW271.out, GE271.out, NB244_271.out, NB271_244.out, NB245_271.out, NB271_245.out, NB246_271.out, NB271_246.out, NB247_271.out, NB271_247.out, NB260_271.out, NB271_260.out, NB261_271.out, NB271_261.out, (by repeat (first | (with_reducible first | exact HB.out | apply below_alloc | apply pw_below_drewN | apply below_drew1 | refine below_setA ?_ (by assumption)) | exact HB.out))⟩)
     ·skip
      rintro ⟨gb270, gb271⟩ w40 ⟨hS_, h0_, h1_, h2_, h3_, h4_, h5_, h6_, h7_, h8_, h9_, h10_, h11_, h12_, h13_, h14_, h15_, h16_, h17_, h18_, h19_, h20_, h21_, h22_, h23_, h24_, h25_, h26_, h27_, h28_, h29_, h30_, h31_, h32_, h33_, h34_, h35_, h36_, h37_, h38_⟩; have BK270 := Aside0.mk h6_; have BK271 := Aside0.mk h7_; have GW270 := Aside0.mk h8_; have GE270 := Aside0.mk h9_; have NB244_270 := Aside0.mk h10_; have NB270_244 := Aside0.mk h11_; have NB245_270 := Aside0.mk h12_; have NB270_245 := Aside0.mk h13_; have NB246_270 := Aside0.mk h14_; have NB270_246 := Aside0.mk h15_; have NB247_270 := Aside0.mk h16_; have NB270_247 := Aside0.mk h17_; have NB260_270 := Aside0.mk h18_; have NB270_260 := Aside0.mk h19_; have NB261_270 := Aside0.mk h20_; have NB270_261 := Aside0.mk h21_; have NB271_270 := Aside0.mk h22_; have NB270_271 := Aside0.mk h23_; have GW271 := Aside0.mk h24_; have GE271 := Aside0.mk h25_; have NB244_271 := Aside0.mk h26_; have NB271_244 := Aside0.mk h27_; have NB245_271 := Aside0.mk h28_; have NB271_245 := Aside0.mk h29_; have NB246_271 := Aside0.mk h30_; have NB271_246 := Aside0.mk h31_; have NB247_271 := Aside0.mk h32_; have NB271_247 := Aside0.mk h33_; have NB260_271 := Aside0.mk h34_; have NB271_260 := Aside0.mk h35_; have NB261_271 := Aside0.mk h36_; have NB271_261 := Aside0.mk h37_; replace BK244 := Aside0.mk h0_; replace BK245 := Aside0.mk h1_; replace BK246 := Aside0.mk h2_; replace BK247 := Aside0.mk h3_; replace BK260 := Aside0.mk h4_; replace BK261 := Aside0.mk h5_; replace HB := Aside0.mk h38_; clear h0_ h1_ h2_ h3_ h4_ h5_ h6_ h7_ h8_ h9_ h10_ h11_ h12_ h13_ h14_ h15_ h16_ h17_ h18_ h19_ h20_ h21_ h22_ h23_ h24_ h25_ h26_ h27_ h28_ h29_ h30_ h31_ h32_ h33_ h34_ h35_ h36_ h37_ h38_; have hHeld := hS_
      refine norm_ (a' := ?_) ?_ ?_
      rotate_left
      ·simp only [putAll, Act.put, List.setIfInBounds_toArray, List.set_cons_zero, List.set_cons_succ]
       rfl
      refine one_ (i := 9) (N := some 46) #[true, true, true, true, true, true, true, true, true, true, true, true, false, false] rfl rfl (one_of HT_.out (by kernel_rfl)) (by decide) (fun K hK => ?_)
      refine goes_ Try.func7 (by kernel_rfl) rfl #[.int .i64 a0_5, .agg #[.int .i64 a1_0, .int .i64 a1_1, .int .i64 a1_2, .int .i64 a1_3], .agg #[.int .i64 a2_0, .int .i64 a2_1, .int .i64 a2_2, .int .i64 a2_3]] (by rfl) rfl rfl (by (try simp only [List.map_toArray, List.map_cons, List.map_nil]); first | done | rfl | (simp only [List.length_drop, List.length_take]; rfl)) ?_
      with_reducible refine (blend_Factor.calls a0_5 a1_0 a1_1 a1_2 a1_3 a2_0 a2_1 a2_2 a2_3 t266 t267 t268 t269 _ A8.out).mono ?_; rintro e w41 ⟨rfl, hb⟩; refine ⟨_, rfl, ?_⟩; replace BK244 := ub BK244 hb; replace BK245 := ub BK245 hb; replace BK246 := ub BK246 hb; replace BK247 := ub BK247 hb; replace BK260 := ub BK260 hb; replace BK261 := ub BK261 hb; replace BK270 := ub BK270 hb; replace BK271 := ub BK271 hb; replace HB := bs HB hb; (try clear hb); (try clear hb2); (try clear hk); (try clear hi)
      refine hK.out _ _ ⟨bc BK244 0, bc BK244 1, bc BK244 2, bc BK244 3, bc BK244 4, bc BK244 5, bc BK244 6, bc BK244 7, bc BK245 0, bc BK245 1, bc BK245 2, bc BK245 3, bc BK246 0, bc BK246 1, bc BK246 2, bc BK246 3⟩ (fun hHeld => ?_)
      clear hK K
      refine norm_ (a' := ?_) ?_ ?_
      rotate_left
      ·show Act.put _ (some 46) _ = _
       simp only [Act.put, List.setIfInBounds_toArray, List.set_cons_zero, List.set_cons_succ, i64_w, i32_w]
       rfl
      exact norm_ (by first | (simp only [putAll, Act.put, List.setIfInBounds_toArray, List.set_cons_zero, List.set_cons_succ]; done) | (simp only [putAll, Act.put, List.setIfInBounds_toArray, List.set_cons_zero, List.set_cons_succ]; rfl)) (hJ4_9_10_11 (gb270, gb271) _ ⟨hHeld, BK244.out, BK245.out, BK246.out, BK247.out, BK260.out, BK261.out, BK270.out, BK271.out, GW270.out, GE270.out, NB244_270.out, NB270_244.out, NB245_270.out, NB270_245.out, NB246_270.out, NB270_246.out, NB247_270.out, NB270_247.out, NB260_270.out, NB270_260.out, NB261_270.out, NB270_261.out, NB271_270.out, NB270_271.out, GW271.out, GE271.out, NB244_271.out, NB271_244.out, NB245_271.out, NB271_245.out, NB246_271.out, NB271_246.out, NB247_271.out, NB271_247.out, NB260_271.out, NB271_260.out, NB261_271.out, NB271_261.out, (by repeat (first | (with_reducible first | exact HB.out | apply below_alloc | apply pw_below_drewN | apply below_drew1 | refine below_setA ?_ (by assumption)) | exact HB.out))⟩)
    ·skip
     rintro gb271 w40 ⟨hS_, h0_, h1_, h2_, h3_, h4_, h5_, h6_, h7_, h8_, h9_, h10_, h11_, h12_, h13_, h14_, h15_, h16_, h17_, h18_, h19_, h20_, h21_⟩; have BK271 := Aside0.mk h6_; have GW271 := Aside0.mk h7_; have GE271 := Aside0.mk h8_; have NB244_271 := Aside0.mk h9_; have NB271_244 := Aside0.mk h10_; have NB245_271 := Aside0.mk h11_; have NB271_245 := Aside0.mk h12_; have NB246_271 := Aside0.mk h13_; have NB271_246 := Aside0.mk h14_; have NB247_271 := Aside0.mk h15_; have NB271_247 := Aside0.mk h16_; have NB260_271 := Aside0.mk h17_; have NB271_260 := Aside0.mk h18_; have NB261_271 := Aside0.mk h19_; have NB271_261 := Aside0.mk h20_; replace BK244 := Aside0.mk h0_; replace BK245 := Aside0.mk h1_; replace BK246 := Aside0.mk h2_; replace BK247 := Aside0.mk h3_; replace BK260 := Aside0.mk h4_; replace BK261 := Aside0.mk h5_; replace HB := Aside0.mk h21_; clear h0_ h1_ h2_ h3_ h4_ h5_ h6_ h7_ h8_ h9_ h10_ h11_ h12_ h13_ h14_ h15_ h16_ h17_ h18_ h19_ h20_ h21_; have hHeld := hS_
     refine norm_ (a' := ?_) ?_ ?_
     rotate_left
     ·simp only [putAll, Act.put, List.setIfInBounds_toArray, List.set_cons_zero, List.set_cons_succ]
      rfl
     refine one_ (i := 10) (N := some 9) #[true, true, true, true, true, true, true, true, true, true, true, true, false, false] rfl rfl (one_of HT_.out (by kernel_rfl)) (by decide) (fun K hK => ?_)
     refine box_step ?hg (N := 9) ?hd (cs := #[.int .i64 0, .int .i64 0, .int .i64 0, .int .i64 0]) (t := 27) ?hr ?_; (case hd => rfl); (case hg => rfl); (case hr => first | (go_simp; done) | (go_simp; rfl))
     intro gb270 hg w41 hbox hb
     have BK270 := Aside0.mk (hbox); have GW270 := ws HB hg; have GE270 := ws HB hg; have NB244_270 := nl BK244 hg; have NB270_244 := ng BK244 hg; have NB245_270 := nl BK245 hg; have NB270_245 := ng BK245 hg; have NB246_270 := nl BK246 hg; have NB270_246 := ng BK246 hg; have NB247_270 := nl BK247 hg; have NB270_247 := ng BK247 hg; have NB260_270 := nl BK260 hg; have NB270_260 := ng BK260 hg; have NB261_270 := nl BK261 hg; have NB270_261 := ng BK261 hg; have NB271_270 := nl BK271 hg; have NB270_271 := ng BK271 hg; replace BK244 := ub BK244 hb; replace BK245 := ub BK245 hb; replace BK246 := ub BK246 hb; replace BK247 := ub BK247 hb; replace BK260 := ub BK260 hb; replace BK261 := ub BK261 hb; replace BK271 := ub BK271 hb; replace HB := bs HB hb; clear hb hbox hg
     refine hK.out _ _ ⟨bc BK244 0, bc BK244 1, bc BK244 2, bc BK244 3, bc BK244 4, bc BK244 5, bc BK244 6, bc BK244 7, bc BK245 0, bc BK245 1, bc BK245 2, bc BK245 3, bc BK246 0, bc BK246 1, bc BK246 2, bc BK246 3⟩ (fun hHeld => ?_)
     clear hK K
     refine norm_ (a' := ?_) ?_ ?_
     rotate_left
     ·show Act.put _ (some 9) _ = _
      simp only [Act.put, List.setIfInBounds_toArray, List.set_cons_zero, List.set_cons_succ, i64_w, i32_w]
      rfl
     exact norm_ (by first | (simp only [putAll, Act.put, List.setIfInBounds_toArray, List.set_cons_zero, List.set_cons_succ]; done) | (simp only [putAll, Act.put, List.setIfInBounds_toArray, List.set_cons_zero, List.set_cons_succ]; rfl)) (hJ4_9_10_11 (gb270, gb271) _ ⟨hHeld, BK244.out, BK245.out, BK246.out, BK247.out, BK260.out, BK261.out, BK270.out, BK271.out, GW270.out, GE270.out, NB244_270.out, NB270_244.out, NB245_270.out, NB270_245.out, NB246_270.out, NB270_246.out, NB247_270.out, NB270_247.out, NB260_270.out, NB270_260.out, NB261_270.out, NB270_261.out, NB271_270.out, NB270_271.out, GW271.out, GE271.out, NB244_271.out, NB271_244.out, NB245_271.out, NB271_245.out, NB246_271.out, NB271_246.out, NB247_271.out, NB271_247.out, NB260_271.out, NB271_260.out, NB261_271.out, NB271_261.out, (by repeat (first | (with_reducible first | exact HB.out | apply below_alloc | apply pw_below_drewN | apply below_drew1 | refine below_setA ?_ (by assumption)) | exact HB.out))⟩)
   ·skip
    rintro gb270 w40 ⟨hS_, h0_, h1_, h2_, h3_, h4_, h5_, h6_, h7_, h8_, h9_, h10_, h11_, h12_, h13_, h14_, h15_, h16_, h17_, h18_, h19_, h20_, h21_⟩; have BK270 := Aside0.mk h6_; have GW270 := Aside0.mk h7_; have GE270 := Aside0.mk h8_; have NB244_270 := Aside0.mk h9_; have NB270_244 := Aside0.mk h10_; have NB245_270 := Aside0.mk h11_; have NB270_245 := Aside0.mk h12_; have NB246_270 := Aside0.mk h13_; have NB270_246 := Aside0.mk h14_; have NB247_270 := Aside0.mk h15_; have NB270_247 := Aside0.mk h16_; have NB260_270 := Aside0.mk h17_; have NB270_260 := Aside0.mk h18_; have NB261_270 := Aside0.mk h19_; have NB270_261 := Aside0.mk h20_; replace BK244 := Aside0.mk h0_; replace BK245 := Aside0.mk h1_; replace BK246 := Aside0.mk h2_; replace BK247 := Aside0.mk h3_; replace BK260 := Aside0.mk h4_; replace BK261 := Aside0.mk h5_; replace HB := Aside0.mk h21_; clear h0_ h1_ h2_ h3_ h4_ h5_ h6_ h7_ h8_ h9_ h10_ h11_ h12_ h13_ h14_ h15_ h16_ h17_ h18_ h19_ h20_ h21_; have hHeld := hS_
    refine norm_ (a' := ?_) ?_ ?_
    rotate_left
    ·simp only [putAll, Act.put, List.setIfInBounds_toArray, List.set_cons_zero, List.set_cons_succ]
     rfl
    refine one_ (i := 11) (N := some 10) #[true, true, true, true, true, true, true, true, true, true, true, true, false, false] rfl rfl (one_of HT_.out (by kernel_rfl)) (by decide) (fun K hK => ?_)
    refine box_step ?hg (N := 10) ?hd (cs := #[.int .i64 0, .int .i64 0, .int .i64 0, .int .i64 0]) (t := 27) ?hr ?_; (case hd => rfl); (case hg => rfl); (case hr => first | (go_simp; done) | (go_simp; rfl))
    intro gb271 hg w41 hbox hb
    have BK271 := Aside0.mk (hbox); have GW271 := ws HB hg; have GE271 := ws HB hg; have NB244_271 := nl BK244 hg; have NB271_244 := ng BK244 hg; have NB245_271 := nl BK245 hg; have NB271_245 := ng BK245 hg; have NB246_271 := nl BK246 hg; have NB271_246 := ng BK246 hg; have NB247_271 := nl BK247 hg; have NB271_247 := ng BK247 hg; have NB260_271 := nl BK260 hg; have NB271_260 := ng BK260 hg; have NB261_271 := nl BK261 hg; have NB271_261 := ng BK261 hg; have NB270_271 := nl BK270 hg; have NB271_270 := ng BK270 hg; replace BK244 := ub BK244 hb; replace BK245 := ub BK245 hb; replace BK246 := ub BK246 hb; replace BK247 := ub BK247 hb; replace BK260 := ub BK260 hb; replace BK261 := ub BK261 hb; replace BK270 := ub BK270 hb; replace HB := bs HB hb; clear hb hbox hg
    refine hK.out _ _ ⟨bc BK244 0, bc BK244 1, bc BK244 2, bc BK244 3, bc BK244 4, bc BK244 5, bc BK244 6, bc BK244 7, bc BK245 0, bc BK245 1, bc BK245 2, bc BK245 3, bc BK246 0, bc BK246 1, bc BK246 2, bc BK246 3⟩ (fun hHeld => ?_)
    clear hK K
    refine norm_ (a' := ?_) ?_ ?_
    rotate_left
    ·show Act.put _ (some 10) _ = _
     simp only [Act.put, List.setIfInBounds_toArray, List.set_cons_zero, List.set_cons_succ, i64_w, i32_w]
     rfl
    exact norm_ (by first | (simp only [putAll, Act.put, List.setIfInBounds_toArray, List.set_cons_zero, List.set_cons_succ]; done) | (simp only [putAll, Act.put, List.setIfInBounds_toArray, List.set_cons_zero, List.set_cons_succ]; rfl)) (hJ4_9_10_11 (gb270, gb271) _ ⟨hHeld, BK244.out, BK245.out, BK246.out, BK247.out, BK260.out, BK261.out, BK270.out, BK271.out, GW270.out, GE270.out, NB244_270.out, NB270_244.out, NB245_270.out, NB270_245.out, NB246_270.out, NB270_246.out, NB247_270.out, NB270_247.out, NB260_270.out, NB270_260.out, NB261_270.out, NB270_261.out, NB271_270.out, NB270_271.out, GW271.out, GE271.out, NB244_271.out, NB271_244.out, NB245_271.out, NB271_245.out, NB246_271.out, NB271_246.out, NB247_271.out, NB271_247.out, NB260_271.out, NB271_260.out, NB261_271.out, NB271_261.out, (by repeat (first | (with_reducible first | exact HB.out | apply below_alloc | apply pw_below_drewN | apply below_drew1 | refine below_setA ?_ (by assumption)) | exact HB.out))⟩)
  rintro ⟨gb270, gb271⟩ w41 ⟨hS_, h0_, h1_, h2_, h3_, h4_, h5_, h6_, h7_, h8_, h9_, h10_, h11_, h12_, h13_, h14_, h15_, h16_, h17_, h18_, h19_, h20_, h21_, h22_, h23_, h24_, h25_, h26_, h27_, h28_, h29_, h30_, h31_, h32_, h33_, h34_, h35_, h36_, h37_, h38_⟩; have BK270 := Aside0.mk h6_; have BK271 := Aside0.mk h7_; have GW270 := Aside0.mk h8_; have GE270 := Aside0.mk h9_; have NB244_270 := Aside0.mk h10_; have NB270_244 := Aside0.mk h11_; have NB245_270 := Aside0.mk h12_; have NB270_245 := Aside0.mk h13_; have NB246_270 := Aside0.mk h14_; have NB270_246 := Aside0.mk h15_; have NB247_270 := Aside0.mk h16_; have NB270_247 := Aside0.mk h17_; have NB260_270 := Aside0.mk h18_; have NB270_260 := Aside0.mk h19_; have NB261_270 := Aside0.mk h20_; have NB270_261 := Aside0.mk h21_; have NB271_270 := Aside0.mk h22_; have NB270_271 := Aside0.mk h23_; have GW271 := Aside0.mk h24_; have GE271 := Aside0.mk h25_; have NB244_271 := Aside0.mk h26_; have NB271_244 := Aside0.mk h27_; have NB245_271 := Aside0.mk h28_; have NB271_245 := Aside0.mk h29_; have NB246_271 := Aside0.mk h30_; have NB271_246 := Aside0.mk h31_; have NB247_271 := Aside0.mk h32_; have NB271_247 := Aside0.mk h33_; have NB260_271 := Aside0.mk h34_; have NB271_260 := Aside0.mk h35_; have NB261_271 := Aside0.mk h36_; have NB271_261 := Aside0.mk h37_; replace BK244 := Aside0.mk h0_; replace BK245 := Aside0.mk h1_; replace BK246 := Aside0.mk h2_; replace BK247 := Aside0.mk h3_; replace BK260 := Aside0.mk h4_; replace BK261 := Aside0.mk h5_; replace HB := Aside0.mk h38_; clear h0_ h1_ h2_ h3_ h4_ h5_ h6_ h7_ h8_ h9_ h10_ h11_ h12_ h13_ h14_ h15_ h16_ h17_ h18_ h19_ h20_ h21_ h22_ h23_ h24_ h25_ h26_ h27_ h28_ h29_ h30_ h31_ h32_ h33_ h34_ h35_ h36_ h37_ h38_; have hHeld := hS_
  refine norm_ (a' := ?_) ?_ ?_
  rotate_left
  ·simp only [putAll, Act.put, List.setIfInBounds_toArray, List.set_cons_zero, List.set_cons_succ]
   rfl
  refine one_ (i := 12) (N := none) #[true, true, true, true, true, true, true, true, true, true, true, true, true, false] rfl rfl (one_of HT_.out (by kernel_rfl)) (by decide) (fun K hK => ?_)
  have hs42 : w41.cell? ⟨gb270, 0, none⟩ = some (.int .i64 0) := bc BK270 0
  have hfs42 := blk_frozen BK270.out 0; have hns42_0 := NB244_270.out; have hns42_1 := NB245_270.out; have hns42_2 := NB246_270.out; have hns42_3 := NB247_270.out; have hns42_4 := NB260_270.out; have hns42_5 := NB261_270.out; have hns42_7 := NB271_270.out; have hms42_0 := NB270_244.out; have hms42_1 := NB270_245.out; have hms42_2 := NB270_246.out; have hms42_3 := NB270_247.out; have hms42_4 := NB270_260.out; have hms42_5 := NB270_261.out; have hms42_7 := NB270_271.out
  have hs43 : w41.cell? ⟨gb270, 1, none⟩ = some (.int .i64 0) := bc BK270 1
  have hfs43 := blk_frozen BK270.out 1; have hns43_0 := NB244_270.out; have hns43_1 := NB245_270.out; have hns43_2 := NB246_270.out; have hns43_3 := NB247_270.out; have hns43_4 := NB260_270.out; have hns43_5 := NB261_270.out; have hns43_7 := NB271_270.out; have hms43_0 := NB270_244.out; have hms43_1 := NB270_245.out; have hms43_2 := NB270_246.out; have hms43_3 := NB270_247.out; have hms43_4 := NB270_260.out; have hms43_5 := NB270_261.out; have hms43_7 := NB270_271.out
  have hs44 : w41.cell? ⟨gb270, 2, none⟩ = some (.int .i64 0) := bc BK270 2
  have hfs44 := blk_frozen BK270.out 2; have hns44_0 := NB244_270.out; have hns44_1 := NB245_270.out; have hns44_2 := NB246_270.out; have hns44_3 := NB247_270.out; have hns44_4 := NB260_270.out; have hns44_5 := NB261_270.out; have hns44_7 := NB271_270.out; have hms44_0 := NB270_244.out; have hms44_1 := NB270_245.out; have hms44_2 := NB270_246.out; have hms44_3 := NB270_247.out; have hms44_4 := NB270_260.out; have hms44_5 := NB270_261.out; have hms44_7 := NB270_271.out
  have hs45 : w41.cell? ⟨gb270, 3, none⟩ = some (.int .i64 0) := bc BK270 3
  have hfs45 := blk_frozen BK270.out 3; have hns45_0 := NB244_270.out; have hns45_1 := NB245_270.out; have hns45_2 := NB246_270.out; have hns45_3 := NB247_270.out; have hns45_4 := NB260_270.out; have hns45_5 := NB261_270.out; have hns45_7 := NB271_270.out; have hms45_0 := NB270_244.out; have hms45_1 := NB270_245.out; have hms45_2 := NB270_246.out; have hms45_3 := NB270_247.out; have hms45_4 := NB270_260.out; have hms45_5 := NB270_261.out; have hms45_7 := NB270_271.out
  refine skip_ (w1 := ?_) (by rfl) rfl ?_ ?_
  rotate_left
  ·go_simp
   rfl
  refine hK.out _ _ ⟨(cf NB244_270 ((cf NB244_270 ((cf NB244_270 ((cf NB244_270 (hHeld.1)))))))), (cf NB244_270 ((cf NB244_270 ((cf NB244_270 ((cf NB244_270 (hHeld.2.1)))))))), (cf NB244_270 ((cf NB244_270 ((cf NB244_270 ((cf NB244_270 (hHeld.2.2.1)))))))), (cf NB244_270 ((cf NB244_270 ((cf NB244_270 ((cf NB244_270 (hHeld.2.2.2.1)))))))), (cf NB244_270 ((cf NB244_270 ((cf NB244_270 ((cf NB244_270 (hHeld.2.2.2.2.1)))))))), (cf NB244_270 ((cf NB244_270 ((cf NB244_270 ((cf NB244_270 (hHeld.2.2.2.2.2.1)))))))), (cf NB244_270 ((cf NB244_270 ((cf NB244_270 ((cf NB244_270 (hHeld.2.2.2.2.2.2.1)))))))), (cf NB244_270 ((cf NB244_270 ((cf NB244_270 ((cf NB244_270 (hHeld.2.2.2.2.2.2.2.1)))))))), (cf NB245_270 ((cf NB245_270 ((cf NB245_270 ((cf NB245_270 (hHeld.2.2.2.2.2.2.2.2.1)))))))), (cf NB245_270 ((cf NB245_270 ((cf NB245_270 ((cf NB245_270 (hHeld.2.2.2.2.2.2.2.2.2.1)))))))), (cf NB245_270 ((cf NB245_270 ((cf NB245_270 ((cf NB245_270 (hHeld.2.2.2.2.2.2.2.2.2.2.1)))))))), (cf NB245_270 ((cf NB245_270 ((cf NB245_270 ((cf NB245_270 (hHeld.2.2.2.2.2.2.2.2.2.2.2.1)))))))), (cf NB246_270 ((cf NB246_270 ((cf NB246_270 ((cf NB246_270 (hHeld.2.2.2.2.2.2.2.2.2.2.2.2.1)))))))), (cf NB246_270 ((cf NB246_270 ((cf NB246_270 ((cf NB246_270 (hHeld.2.2.2.2.2.2.2.2.2.2.2.2.2.1)))))))), (cf NB246_270 ((cf NB246_270 ((cf NB246_270 ((cf NB246_270 (hHeld.2.2.2.2.2.2.2.2.2.2.2.2.2.2.1)))))))), (cf NB246_270 ((cf NB246_270 ((cf NB246_270 ((cf NB246_270 (hHeld.2.2.2.2.2.2.2.2.2.2.2.2.2.2.2))))))))⟩ (fun hHeld => ?_)
  clear hK K
  refine one_ (i := 13) (N := none) #[true, true, true, true, true, true, true, true, true, true, true, true, true, true] rfl rfl (one_of HT_.out (by kernel_rfl)) (by decide) (fun K hK => ?_)
  have hs46 : w41.cell? ⟨gb271, 0, none⟩ = some (.int .i64 0) := bc BK271 0
  have hfs46 := blk_frozen BK271.out 0; have hns46_0 := NB244_271.out; have hns46_1 := NB245_271.out; have hns46_2 := NB246_271.out; have hns46_3 := NB247_271.out; have hns46_4 := NB260_271.out; have hns46_5 := NB261_271.out; have hns46_6 := NB270_271.out; have hms46_0 := NB271_244.out; have hms46_1 := NB271_245.out; have hms46_2 := NB271_246.out; have hms46_3 := NB271_247.out; have hms46_4 := NB271_260.out; have hms46_5 := NB271_261.out; have hms46_6 := NB271_270.out
  have hs47 : w41.cell? ⟨gb271, 1, none⟩ = some (.int .i64 0) := bc BK271 1
  have hfs47 := blk_frozen BK271.out 1; have hns47_0 := NB244_271.out; have hns47_1 := NB245_271.out; have hns47_2 := NB246_271.out; have hns47_3 := NB247_271.out; have hns47_4 := NB260_271.out; have hns47_5 := NB261_271.out; have hns47_6 := NB270_271.out; have hms47_0 := NB271_244.out; have hms47_1 := NB271_245.out; have hms47_2 := NB271_246.out; have hms47_3 := NB271_247.out; have hms47_4 := NB271_260.out; have hms47_5 := NB271_261.out; have hms47_6 := NB271_270.out
  have hs48 : w41.cell? ⟨gb271, 2, none⟩ = some (.int .i64 0) := bc BK271 2
  have hfs48 := blk_frozen BK271.out 2; have hns48_0 := NB244_271.out; have hns48_1 := NB245_271.out; have hns48_2 := NB246_271.out; have hns48_3 := NB247_271.out; have hns48_4 := NB260_271.out; have hns48_5 := NB261_271.out; have hns48_6 := NB270_271.out; have hms48_0 := NB271_244.out; have hms48_1 := NB271_245.out; have hms48_2 := NB271_246.out; have hms48_3 := NB271_247.out; have hms48_4 := NB271_260.out; have hms48_5 := NB271_261.out; have hms48_6 := NB271_270.out
  have hs49 : w41.cell? ⟨gb271, 3, none⟩ = some (.int .i64 0) := bc BK271 3
  have hfs49 := blk_frozen BK271.out 3; have hns49_0 := NB244_271.out; have hns49_1 := NB245_271.out; have hns49_2 := NB246_271.out; have hns49_3 := NB247_271.out; have hns49_4 := NB260_271.out; have hns49_5 := NB261_271.out; have hns49_6 := NB270_271.out; have hms49_0 := NB271_244.out; have hms49_1 := NB271_245.out; have hms49_2 := NB271_246.out; have hms49_3 := NB271_247.out; have hms49_4 := NB271_260.out; have hms49_5 := NB271_261.out; have hms49_6 := NB271_270.out
  refine skip_ (w1 := ?_) (by rfl) rfl ?_ ?_
  rotate_left
  ·go_simp
   rfl
  refine hK.out _ _ ⟨(cf NB244_271 ((cf NB244_271 ((cf NB244_271 ((cf NB244_271 (hHeld.1)))))))), (cf NB244_271 ((cf NB244_271 ((cf NB244_271 ((cf NB244_271 (hHeld.2.1)))))))), (cf NB244_271 ((cf NB244_271 ((cf NB244_271 ((cf NB244_271 (hHeld.2.2.1)))))))), (cf NB244_271 ((cf NB244_271 ((cf NB244_271 ((cf NB244_271 (hHeld.2.2.2.1)))))))), (cf NB244_271 ((cf NB244_271 ((cf NB244_271 ((cf NB244_271 (hHeld.2.2.2.2.1)))))))), (cf NB244_271 ((cf NB244_271 ((cf NB244_271 ((cf NB244_271 (hHeld.2.2.2.2.2.1)))))))), (cf NB244_271 ((cf NB244_271 ((cf NB244_271 ((cf NB244_271 (hHeld.2.2.2.2.2.2.1)))))))), (cf NB244_271 ((cf NB244_271 ((cf NB244_271 ((cf NB244_271 (hHeld.2.2.2.2.2.2.2.1)))))))), (cf NB245_271 ((cf NB245_271 ((cf NB245_271 ((cf NB245_271 (hHeld.2.2.2.2.2.2.2.2.1)))))))), (cf NB245_271 ((cf NB245_271 ((cf NB245_271 ((cf NB245_271 (hHeld.2.2.2.2.2.2.2.2.2.1)))))))), (cf NB245_271 ((cf NB245_271 ((cf NB245_271 ((cf NB245_271 (hHeld.2.2.2.2.2.2.2.2.2.2.1)))))))), (cf NB245_271 ((cf NB245_271 ((cf NB245_271 ((cf NB245_271 (hHeld.2.2.2.2.2.2.2.2.2.2.2.1)))))))), (cf NB246_271 ((cf NB246_271 ((cf NB246_271 ((cf NB246_271 (hHeld.2.2.2.2.2.2.2.2.2.2.2.2.1)))))))), (cf NB246_271 ((cf NB246_271 ((cf NB246_271 ((cf NB246_271 (hHeld.2.2.2.2.2.2.2.2.2.2.2.2.2.1)))))))), (cf NB246_271 ((cf NB246_271 ((cf NB246_271 ((cf NB246_271 (hHeld.2.2.2.2.2.2.2.2.2.2.2.2.2.2.1)))))))), (cf NB246_271 ((cf NB246_271 ((cf NB246_271 ((cf NB246_271 (hHeld.2.2.2.2.2.2.2.2.2.2.2.2.2.2.2))))))))⟩ (fun hHeld => ?_)
  clear hK K
  refine done_ (done_of HT_.out (by kernel_rfl)) ?_
  try go_wp2
  have n0_ : Aside0 (((((((((w41.setCell ⟨gb270, 0, none⟩ (.int .i64 t262)).setCell ⟨gb270, 1, none⟩ (.int .i64 t263)).setCell ⟨gb270, 2, none⟩ (.int .i64 t264)).setCell ⟨gb270, 3, none⟩ (.int .i64 t265)).setCell ⟨gb271, 0, none⟩ (.int .i64 t266)).setCell ⟨gb271, 1, none⟩ (.int .i64 t267)).setCell ⟨gb271, 2, none⟩ (.int .i64 t268)).setCell ⟨gb271, 3, none⟩ (.int .i64 t269)).heap[gb244]? = some (.cells #[.bool true, .int .i64 a0_1, .int .i64 a0_2, .int .i64 a0_3, .int .i64 a0_4, .int .i64 a0_5, .int .i64 a0_6, .int .i64 a0_7] 25 (0, 0))) := ⟨by (with_reducible repeat (first | refine blk_drewN ?_ _ | refine blk_drew ?_ | refine blk_alloc ?_ _)); refine blk_far ?_ NB244_271.out _; (with_reducible repeat (first | refine blk_drewN ?_ _ | refine blk_drew ?_ | refine blk_alloc ?_ _)); refine blk_far ?_ NB244_271.out _; (with_reducible repeat (first | refine blk_drewN ?_ _ | refine blk_drew ?_ | refine blk_alloc ?_ _)); refine blk_far ?_ NB244_271.out _; (with_reducible repeat (first | refine blk_drewN ?_ _ | refine blk_drew ?_ | refine blk_alloc ?_ _)); refine blk_far ?_ NB244_271.out _; (with_reducible repeat (first | refine blk_drewN ?_ _ | refine blk_drew ?_ | refine blk_alloc ?_ _)); refine blk_far ?_ NB244_270.out _; (with_reducible repeat (first | refine blk_drewN ?_ _ | refine blk_drew ?_ | refine blk_alloc ?_ _)); refine blk_far ?_ NB244_270.out _; (with_reducible repeat (first | refine blk_drewN ?_ _ | refine blk_drew ?_ | refine blk_alloc ?_ _)); refine blk_far ?_ NB244_270.out _; (with_reducible repeat (first | refine blk_drewN ?_ _ | refine blk_drew ?_ | refine blk_alloc ?_ _)); refine blk_far ?_ NB244_270.out _; (with_reducible repeat (first | refine blk_drewN ?_ _ | refine blk_drew ?_ | refine blk_alloc ?_ _)); exact BK244.out⟩
  have n1_ : Aside0 (((((((((w41.setCell ⟨gb270, 0, none⟩ (.int .i64 t262)).setCell ⟨gb270, 1, none⟩ (.int .i64 t263)).setCell ⟨gb270, 2, none⟩ (.int .i64 t264)).setCell ⟨gb270, 3, none⟩ (.int .i64 t265)).setCell ⟨gb271, 0, none⟩ (.int .i64 t266)).setCell ⟨gb271, 1, none⟩ (.int .i64 t267)).setCell ⟨gb271, 2, none⟩ (.int .i64 t268)).setCell ⟨gb271, 3, none⟩ (.int .i64 t269)).heap[gb245]? = some (.cells #[.int .i64 a1_0, .int .i64 a1_1, .int .i64 a1_2, .int .i64 a1_3] 27 (0, 0))) := ⟨by (with_reducible repeat (first | refine blk_drewN ?_ _ | refine blk_drew ?_ | refine blk_alloc ?_ _)); refine blk_far ?_ NB245_271.out _; (with_reducible repeat (first | refine blk_drewN ?_ _ | refine blk_drew ?_ | refine blk_alloc ?_ _)); refine blk_far ?_ NB245_271.out _; (with_reducible repeat (first | refine blk_drewN ?_ _ | refine blk_drew ?_ | refine blk_alloc ?_ _)); refine blk_far ?_ NB245_271.out _; (with_reducible repeat (first | refine blk_drewN ?_ _ | refine blk_drew ?_ | refine blk_alloc ?_ _)); refine blk_far ?_ NB245_271.out _; (with_reducible repeat (first | refine blk_drewN ?_ _ | refine blk_drew ?_ | refine blk_alloc ?_ _)); refine blk_far ?_ NB245_270.out _; (with_reducible repeat (first | refine blk_drewN ?_ _ | refine blk_drew ?_ | refine blk_alloc ?_ _)); refine blk_far ?_ NB245_270.out _; (with_reducible repeat (first | refine blk_drewN ?_ _ | refine blk_drew ?_ | refine blk_alloc ?_ _)); refine blk_far ?_ NB245_270.out _; (with_reducible repeat (first | refine blk_drewN ?_ _ | refine blk_drew ?_ | refine blk_alloc ?_ _)); refine blk_far ?_ NB245_270.out _; (with_reducible repeat (first | refine blk_drewN ?_ _ | refine blk_drew ?_ | refine blk_alloc ?_ _)); exact BK245.out⟩
  have n2_ : Aside0 (((((((((w41.setCell ⟨gb270, 0, none⟩ (.int .i64 t262)).setCell ⟨gb270, 1, none⟩ (.int .i64 t263)).setCell ⟨gb270, 2, none⟩ (.int .i64 t264)).setCell ⟨gb270, 3, none⟩ (.int .i64 t265)).setCell ⟨gb271, 0, none⟩ (.int .i64 t266)).setCell ⟨gb271, 1, none⟩ (.int .i64 t267)).setCell ⟨gb271, 2, none⟩ (.int .i64 t268)).setCell ⟨gb271, 3, none⟩ (.int .i64 t269)).heap[gb246]? = some (.cells #[.int .i64 a2_0, .int .i64 a2_1, .int .i64 a2_2, .int .i64 a2_3] 27 (0, 0))) := ⟨by (with_reducible repeat (first | refine blk_drewN ?_ _ | refine blk_drew ?_ | refine blk_alloc ?_ _)); refine blk_far ?_ NB246_271.out _; (with_reducible repeat (first | refine blk_drewN ?_ _ | refine blk_drew ?_ | refine blk_alloc ?_ _)); refine blk_far ?_ NB246_271.out _; (with_reducible repeat (first | refine blk_drewN ?_ _ | refine blk_drew ?_ | refine blk_alloc ?_ _)); refine blk_far ?_ NB246_271.out _; (with_reducible repeat (first | refine blk_drewN ?_ _ | refine blk_drew ?_ | refine blk_alloc ?_ _)); refine blk_far ?_ NB246_271.out _; (with_reducible repeat (first | refine blk_drewN ?_ _ | refine blk_drew ?_ | refine blk_alloc ?_ _)); refine blk_far ?_ NB246_270.out _; (with_reducible repeat (first | refine blk_drewN ?_ _ | refine blk_drew ?_ | refine blk_alloc ?_ _)); refine blk_far ?_ NB246_270.out _; (with_reducible repeat (first | refine blk_drewN ?_ _ | refine blk_drew ?_ | refine blk_alloc ?_ _)); refine blk_far ?_ NB246_270.out _; (with_reducible repeat (first | refine blk_drewN ?_ _ | refine blk_drew ?_ | refine blk_alloc ?_ _)); refine blk_far ?_ NB246_270.out _; (with_reducible repeat (first | refine blk_drewN ?_ _ | refine blk_drew ?_ | refine blk_alloc ?_ _)); exact BK246.out⟩
  have n3_ : Aside0 (((((((((w41.setCell ⟨gb270, 0, none⟩ (.int .i64 t262)).setCell ⟨gb270, 1, none⟩ (.int .i64 t263)).setCell ⟨gb270, 2, none⟩ (.int .i64 t264)).setCell ⟨gb270, 3, none⟩ (.int .i64 t265)).setCell ⟨gb271, 0, none⟩ (.int .i64 t266)).setCell ⟨gb271, 1, none⟩ (.int .i64 t267)).setCell ⟨gb271, 2, none⟩ (.int .i64 t268)).setCell ⟨gb271, 3, none⟩ (.int .i64 t269)).heap[gb247]? = some (.cells #[.int .i64 0, .int .i64 0, .int .i64 0, .int .i64 0] 27 (0, 0))) := ⟨by (with_reducible repeat (first | refine blk_drewN ?_ _ | refine blk_drew ?_ | refine blk_alloc ?_ _)); refine blk_far ?_ NB247_271.out _; (with_reducible repeat (first | refine blk_drewN ?_ _ | refine blk_drew ?_ | refine blk_alloc ?_ _)); refine blk_far ?_ NB247_271.out _; (with_reducible repeat (first | refine blk_drewN ?_ _ | refine blk_drew ?_ | refine blk_alloc ?_ _)); refine blk_far ?_ NB247_271.out _; (with_reducible repeat (first | refine blk_drewN ?_ _ | refine blk_drew ?_ | refine blk_alloc ?_ _)); refine blk_far ?_ NB247_271.out _; (with_reducible repeat (first | refine blk_drewN ?_ _ | refine blk_drew ?_ | refine blk_alloc ?_ _)); refine blk_far ?_ NB247_270.out _; (with_reducible repeat (first | refine blk_drewN ?_ _ | refine blk_drew ?_ | refine blk_alloc ?_ _)); refine blk_far ?_ NB247_270.out _; (with_reducible repeat (first | refine blk_drewN ?_ _ | refine blk_drew ?_ | refine blk_alloc ?_ _)); refine blk_far ?_ NB247_270.out _; (with_reducible repeat (first | refine blk_drewN ?_ _ | refine blk_drew ?_ | refine blk_alloc ?_ _)); refine blk_far ?_ NB247_270.out _; (with_reducible repeat (first | refine blk_drewN ?_ _ | refine blk_drew ?_ | refine blk_alloc ?_ _)); exact BK247.out⟩
  have n4_ : Aside0 (((((((((w41.setCell ⟨gb270, 0, none⟩ (.int .i64 t262)).setCell ⟨gb270, 1, none⟩ (.int .i64 t263)).setCell ⟨gb270, 2, none⟩ (.int .i64 t264)).setCell ⟨gb270, 3, none⟩ (.int .i64 t265)).setCell ⟨gb271, 0, none⟩ (.int .i64 t266)).setCell ⟨gb271, 1, none⟩ (.int .i64 t267)).setCell ⟨gb271, 2, none⟩ (.int .i64 t268)).setCell ⟨gb271, 3, none⟩ (.int .i64 t269)).heap[gb260]? = some (.cells #[.int .i64 t252, .int .i64 t253, .int .i64 t254, .int .i64 t255] 27 (0, 0))) := ⟨by (with_reducible repeat (first | refine blk_drewN ?_ _ | refine blk_drew ?_ | refine blk_alloc ?_ _)); refine blk_far ?_ NB260_271.out _; (with_reducible repeat (first | refine blk_drewN ?_ _ | refine blk_drew ?_ | refine blk_alloc ?_ _)); refine blk_far ?_ NB260_271.out _; (with_reducible repeat (first | refine blk_drewN ?_ _ | refine blk_drew ?_ | refine blk_alloc ?_ _)); refine blk_far ?_ NB260_271.out _; (with_reducible repeat (first | refine blk_drewN ?_ _ | refine blk_drew ?_ | refine blk_alloc ?_ _)); refine blk_far ?_ NB260_271.out _; (with_reducible repeat (first | refine blk_drewN ?_ _ | refine blk_drew ?_ | refine blk_alloc ?_ _)); refine blk_far ?_ NB260_270.out _; (with_reducible repeat (first | refine blk_drewN ?_ _ | refine blk_drew ?_ | refine blk_alloc ?_ _)); refine blk_far ?_ NB260_270.out _; (with_reducible repeat (first | refine blk_drewN ?_ _ | refine blk_drew ?_ | refine blk_alloc ?_ _)); refine blk_far ?_ NB260_270.out _; (with_reducible repeat (first | refine blk_drewN ?_ _ | refine blk_drew ?_ | refine blk_alloc ?_ _)); refine blk_far ?_ NB260_270.out _; (with_reducible repeat (first | refine blk_drewN ?_ _ | refine blk_drew ?_ | refine blk_alloc ?_ _)); exact BK260.out⟩
  have n5_ : Aside0 (((((((((w41.setCell ⟨gb270, 0, none⟩ (.int .i64 t262)).setCell ⟨gb270, 1, none⟩ (.int .i64 t263)).setCell ⟨gb270, 2, none⟩ (.int .i64 t264)).setCell ⟨gb270, 3, none⟩ (.int .i64 t265)).setCell ⟨gb271, 0, none⟩ (.int .i64 t266)).setCell ⟨gb271, 1, none⟩ (.int .i64 t267)).setCell ⟨gb271, 2, none⟩ (.int .i64 t268)).setCell ⟨gb271, 3, none⟩ (.int .i64 t269)).heap[gb261]? = some (.cells #[.int .i64 t256, .int .i64 t257, .int .i64 t258, .int .i64 t259] 27 (0, 0))) := ⟨by (with_reducible repeat (first | refine blk_drewN ?_ _ | refine blk_drew ?_ | refine blk_alloc ?_ _)); refine blk_far ?_ NB261_271.out _; (with_reducible repeat (first | refine blk_drewN ?_ _ | refine blk_drew ?_ | refine blk_alloc ?_ _)); refine blk_far ?_ NB261_271.out _; (with_reducible repeat (first | refine blk_drewN ?_ _ | refine blk_drew ?_ | refine blk_alloc ?_ _)); refine blk_far ?_ NB261_271.out _; (with_reducible repeat (first | refine blk_drewN ?_ _ | refine blk_drew ?_ | refine blk_alloc ?_ _)); refine blk_far ?_ NB261_271.out _; (with_reducible repeat (first | refine blk_drewN ?_ _ | refine blk_drew ?_ | refine blk_alloc ?_ _)); refine blk_far ?_ NB261_270.out _; (with_reducible repeat (first | refine blk_drewN ?_ _ | refine blk_drew ?_ | refine blk_alloc ?_ _)); refine blk_far ?_ NB261_270.out _; (with_reducible repeat (first | refine blk_drewN ?_ _ | refine blk_drew ?_ | refine blk_alloc ?_ _)); refine blk_far ?_ NB261_270.out _; (with_reducible repeat (first | refine blk_drewN ?_ _ | refine blk_drew ?_ | refine blk_alloc ?_ _)); refine blk_far ?_ NB261_270.out _; (with_reducible repeat (first | refine blk_drewN ?_ _ | refine blk_drew ?_ | refine blk_alloc ?_ _)); exact BK261.out⟩
  have n6_ : Aside0 (((((((((w41.setCell ⟨gb270, 0, none⟩ (.int .i64 t262)).setCell ⟨gb270, 1, none⟩ (.int .i64 t263)).setCell ⟨gb270, 2, none⟩ (.int .i64 t264)).setCell ⟨gb270, 3, none⟩ (.int .i64 t265)).setCell ⟨gb271, 0, none⟩ (.int .i64 t266)).setCell ⟨gb271, 1, none⟩ (.int .i64 t267)).setCell ⟨gb271, 2, none⟩ (.int .i64 t268)).setCell ⟨gb271, 3, none⟩ (.int .i64 t269)).heap[gb270]? = some (.cells #[.int .i64 t262, .int .i64 t263, .int .i64 t264, .int .i64 t265] 27 (0, 0))) := ⟨by (with_reducible repeat (first | refine blk_drewN ?_ _ | refine blk_drew ?_ | refine blk_alloc ?_ _)); refine blk_far ?_ NB270_271.out _; (with_reducible repeat (first | refine blk_drewN ?_ _ | refine blk_drew ?_ | refine blk_alloc ?_ _)); refine blk_far ?_ NB270_271.out _; (with_reducible repeat (first | refine blk_drewN ?_ _ | refine blk_drew ?_ | refine blk_alloc ?_ _)); refine blk_far ?_ NB270_271.out _; (with_reducible repeat (first | refine blk_drewN ?_ _ | refine blk_drew ?_ | refine blk_alloc ?_ _)); refine blk_far ?_ NB270_271.out _; (with_reducible repeat (first | refine blk_drewN ?_ _ | refine blk_drew ?_ | refine blk_alloc ?_ _)); refine blk_put (cs := #[.int .i64 t262, .int .i64 t263, .int .i64 t264, .int .i64 0]) ?_ 3 _ rfl; (with_reducible repeat (first | refine blk_drewN ?_ _ | refine blk_drew ?_ | refine blk_alloc ?_ _)); refine blk_put (cs := #[.int .i64 t262, .int .i64 t263, .int .i64 0, .int .i64 0]) ?_ 2 _ rfl; (with_reducible repeat (first | refine blk_drewN ?_ _ | refine blk_drew ?_ | refine blk_alloc ?_ _)); refine blk_put (cs := #[.int .i64 t262, .int .i64 0, .int .i64 0, .int .i64 0]) ?_ 1 _ rfl; (with_reducible repeat (first | refine blk_drewN ?_ _ | refine blk_drew ?_ | refine blk_alloc ?_ _)); refine blk_put (cs := #[.int .i64 0, .int .i64 0, .int .i64 0, .int .i64 0]) ?_ 0 _ rfl; (with_reducible repeat (first | refine blk_drewN ?_ _ | refine blk_drew ?_ | refine blk_alloc ?_ _)); exact BK270.out⟩
  have n7_ : Aside0 (((((((((w41.setCell ⟨gb270, 0, none⟩ (.int .i64 t262)).setCell ⟨gb270, 1, none⟩ (.int .i64 t263)).setCell ⟨gb270, 2, none⟩ (.int .i64 t264)).setCell ⟨gb270, 3, none⟩ (.int .i64 t265)).setCell ⟨gb271, 0, none⟩ (.int .i64 t266)).setCell ⟨gb271, 1, none⟩ (.int .i64 t267)).setCell ⟨gb271, 2, none⟩ (.int .i64 t268)).setCell ⟨gb271, 3, none⟩ (.int .i64 t269)).heap[gb271]? = some (.cells #[.int .i64 t266, .int .i64 t267, .int .i64 t268, .int .i64 t269] 27 (0, 0))) := ⟨by (with_reducible repeat (first | refine blk_drewN ?_ _ | refine blk_drew ?_ | refine blk_alloc ?_ _)); refine blk_put (cs := #[.int .i64 t266, .int .i64 t267, .int .i64 t268, .int .i64 0]) ?_ 3 _ rfl; (with_reducible repeat (first | refine blk_drewN ?_ _ | refine blk_drew ?_ | refine blk_alloc ?_ _)); refine blk_put (cs := #[.int .i64 t266, .int .i64 t267, .int .i64 0, .int .i64 0]) ?_ 2 _ rfl; (with_reducible repeat (first | refine blk_drewN ?_ _ | refine blk_drew ?_ | refine blk_alloc ?_ _)); refine blk_put (cs := #[.int .i64 t266, .int .i64 0, .int .i64 0, .int .i64 0]) ?_ 1 _ rfl; (with_reducible repeat (first | refine blk_drewN ?_ _ | refine blk_drew ?_ | refine blk_alloc ?_ _)); refine blk_put (cs := #[.int .i64 0, .int .i64 0, .int .i64 0, .int .i64 0]) ?_ 0 _ rfl; (with_reducible repeat (first | refine blk_drewN ?_ _ | refine blk_drew ?_ | refine blk_alloc ?_ _)); refine blk_far ?_ NB271_270.out _; (with_reducible repeat (first | refine blk_drewN ?_ _ | refine blk_drew ?_ | refine blk_alloc ?_ _)); refine blk_far ?_ NB271_270.out _; (with_reducible repeat (first | refine blk_drewN ?_ _ | refine blk_drew ?_ | refine blk_alloc ?_ _)); refine blk_far ?_ NB271_270.out _; (with_reducible repeat (first | refine blk_drewN ?_ _ | refine blk_drew ?_ | refine blk_alloc ?_ _)); refine blk_far ?_ NB271_270.out _; (with_reducible repeat (first | refine blk_drewN ?_ _ | refine blk_drew ?_ | refine blk_alloc ?_ _)); exact BK271.out⟩
  have n8_ : Aside0 (Below w.heap.size w ((((((((w41.setCell ⟨gb270, 0, none⟩ (.int .i64 t262)).setCell ⟨gb270, 1, none⟩ (.int .i64 t263)).setCell ⟨gb270, 2, none⟩ (.int .i64 t264)).setCell ⟨gb270, 3, none⟩ (.int .i64 t265)).setCell ⟨gb271, 0, none⟩ (.int .i64 t266)).setCell ⟨gb271, 1, none⟩ (.int .i64 t267)).setCell ⟨gb271, 2, none⟩ (.int .i64 t268)).setCell ⟨gb271, 3, none⟩ (.int .i64 t269))) := ⟨by repeat (first | (with_reducible first | exact HB.out | apply below_alloc | apply pw_below_drewN | apply below_drew1 | refine below_set ?_ GE244.out | refine below_set ?_ GE245.out | refine below_set ?_ GE246.out | refine below_set ?_ GE247.out | refine below_set ?_ GE260.out | refine below_set ?_ GE261.out | refine below_set ?_ GE270.out | refine below_set ?_ GE271.out) | exact HB.out)⟩
  (try clear BK244); (try clear BK245); (try clear BK246); (try clear BK247); (try clear BK260); (try clear BK261); (try clear BK270); (try clear BK271); (try clear HB)
  generalize ((((((((w41.setCell ⟨gb270, 0, none⟩ (.int .i64 t262)).setCell ⟨gb270, 1, none⟩ (.int .i64 t263)).setCell ⟨gb270, 2, none⟩ (.int .i64 t264)).setCell ⟨gb270, 3, none⟩ (.int .i64 t265)).setCell ⟨gb271, 0, none⟩ (.int .i64 t266)).setCell ⟨gb271, 1, none⟩ (.int .i64 t267)).setCell ⟨gb271, 2, none⟩ (.int .i64 t268)).setCell ⟨gb271, 3, none⟩ (.int .i64 t269)) = w50 at n0_ n1_ n2_ n3_ n4_ n5_ n6_ n7_ n8_ ⊢
  have BK244 := n0_; have BK245 := n1_; have BK246 := n2_; have BK247 := n3_; have BK260 := n4_; have BK261 := n5_; have BK270 := n6_; have BK271 := n7_; have HB := n8_; clear n0_ n1_ n2_ n3_ n4_ n5_ n6_ n7_ n8_; replace BK244 := Aside0.mk (blk_drew BK244.out); replace BK245 := Aside0.mk (blk_drew BK245.out); replace BK246 := Aside0.mk (blk_drew BK246.out); replace BK247 := Aside0.mk (blk_drew BK247.out); replace BK260 := Aside0.mk (blk_drew BK260.out); replace BK261 := Aside0.mk (blk_drew BK261.out); replace BK270 := Aside0.mk (blk_drew BK270.out); replace BK271 := Aside0.mk (blk_drew BK271.out); replace HB := Aside0.mk (below_drew1 HB.out)
  refine start_ (n := 46) (S := fun w' => w'.cell? ⟨gb244, 0, none⟩ = some (.bool true) ∧ w'.cell? ⟨gb244, 1, none⟩ = some (.int .i64 a0_1) ∧ w'.cell? ⟨gb244, 2, none⟩ = some (.int .i64 a0_2) ∧ w'.cell? ⟨gb244, 3, none⟩ = some (.int .i64 a0_3) ∧ w'.cell? ⟨gb244, 4, none⟩ = some (.int .i64 a0_4) ∧ w'.cell? ⟨gb244, 5, none⟩ = some (.int .i64 a0_5) ∧ w'.cell? ⟨gb244, 6, none⟩ = some (.int .i64 a0_6) ∧ w'.cell? ⟨gb244, 7, none⟩ = some (.int .i64 a0_7) ∧ w'.cell? ⟨gb245, 0, none⟩ = some (.int .i64 a1_0) ∧ w'.cell? ⟨gb245, 1, none⟩ = some (.int .i64 a1_1) ∧ w'.cell? ⟨gb245, 2, none⟩ = some (.int .i64 a1_2) ∧ w'.cell? ⟨gb245, 3, none⟩ = some (.int .i64 a1_3) ∧ w'.cell? ⟨gb260, 0, none⟩ = some (.int .i64 t252) ∧ w'.cell? ⟨gb260, 1, none⟩ = some (.int .i64 t253) ∧ w'.cell? ⟨gb260, 2, none⟩ = some (.int .i64 t254) ∧ w'.cell? ⟨gb260, 3, none⟩ = some (.int .i64 t255) ∧ w'.cell? ⟨gb246, 0, none⟩ = some (.int .i64 a2_0) ∧ w'.cell? ⟨gb246, 1, none⟩ = some (.int .i64 a2_1) ∧ w'.cell? ⟨gb246, 2, none⟩ = some (.int .i64 a2_2) ∧ w'.cell? ⟨gb246, 3, none⟩ = some (.int .i64 a2_3) ∧ w'.cell? ⟨gb261, 0, none⟩ = some (.int .i64 t256) ∧ w'.cell? ⟨gb261, 1, none⟩ = some (.int .i64 t257) ∧ w'.cell? ⟨gb261, 2, none⟩ = some (.int .i64 t258) ∧ w'.cell? ⟨gb261, 3, none⟩ = some (.int .i64 t259) ∧ w'.cell? ⟨gb270, 0, none⟩ = some (.int .i64 t262) ∧ w'.cell? ⟨gb270, 1, none⟩ = some (.int .i64 t263) ∧ w'.cell? ⟨gb270, 2, none⟩ = some (.int .i64 t264) ∧ w'.cell? ⟨gb270, 3, none⟩ = some (.int .i64 t265) ∧ w'.cell? ⟨gb271, 0, none⟩ = some (.int .i64 t266) ∧ w'.cell? ⟨gb271, 1, none⟩ = some (.int .i64 t267) ∧ w'.cell? ⟨gb271, 2, none⟩ = some (.int .i64 t268) ∧ w'.cell? ⟨gb271, 3, none⟩ = some (.int .i64 t269)) (ds := []) #[false, false, false, false, false, false, false, false, false, false, false, false, false, false, false, false, false, false, false, false, false, false, false, false, false, false, false, false, false, false, false, false, false, false, false, false, false, false, false, false, false, false, false, false, false, false] (by kernel_rfl) rfl rfl ⟨bc BK244 0, bc BK244 1, bc BK244 2, bc BK244 3, bc BK244 4, bc BK244 5, bc BK244 6, bc BK244 7, bc BK245 0, bc BK245 1, bc BK245 2, bc BK245 3, bc BK260 0, bc BK260 1, bc BK260 2, bc BK260 3, bc BK246 0, bc BK246 1, bc BK246 2, bc BK246 3, bc BK261 0, bc BK261 1, bc BK261 2, bc BK261 3, bc BK270 0, bc BK270 1, bc BK270 2, bc BK270 3, bc BK271 0, bc BK271 1, bc BK271 2, bc BK271 3⟩ (fun hHeld => ?_); refine with_tabW blend_Blend.tab5 blend_Blend.bits5 (fun HT_ HW_ => ?_)
  generalize w50.drew = w51 at BK244 BK245 BK246 BK247 BK260 BK261 BK270 BK271 HB hHeld ⊢
  refine pure_ (i := 0) (N := some 47) (v := ?_) (a' := ?_) #[true, false, false, false, false, false, false, false, false, false, false, false, false, false, false, false, false, false, false, false, false, false, false, false, false, false, false, false, false, false, false, false, false, false, false, false, false, false, false, false, false, false, false, false, false, false] rfl rfl (any_of HT_.out (by kernel_rfl)) (fun _ _ _ h => h) (Or.inl ⟨by rfl, ?_⟩) ?_ ?_
  rotate_left
  ·intro w'
   go_simp
   with_reducible rfl
  rotate_left
  ·simp only [Act.put, List.setIfInBounds_toArray, List.set_cons_zero, List.set_cons_succ, i64_w, i32_w]
   rfl
  refine pure_ (i := 2) (N := some 49) (v := ?_) (a' := ?_) #[true, false, true, false, false, false, false, false, false, false, false, false, false, false, false, false, false, false, false, false, false, false, false, false, false, false, false, false, false, false, false, false, false, false, false, false, false, false, false, false, false, false, false, false, false, false] rfl rfl (any_of HT_.out (by kernel_rfl)) (fun _ _ _ h => h) (Or.inl ⟨by rfl, ?_⟩) ?_ ?_
  rotate_left
  ·intro w'
   go_simp
   with_reducible rfl
  rotate_left
  ·simp only [Act.put, List.setIfInBounds_toArray, List.set_cons_zero, List.set_cons_succ, i64_w, i32_w]
   rfl
  refine pure_ (i := 4) (N := some 51) (v := ?_) (a' := ?_) #[true, false, true, false, true, false, false, false, false, false, false, false, false, false, false, false, false, false, false, false, false, false, false, false, false, false, false, false, false, false, false, false, false, false, false, false, false, false, false, false, false, false, false, false, false, false] rfl rfl (any_of HT_.out (by kernel_rfl)) (fun _ _ _ h => h) (Or.inl ⟨by rfl, ?_⟩) ?_ ?_
  rotate_left
  ·intro w'
   go_simp
   with_reducible rfl
  rotate_left
  ·simp only [Act.put, List.setIfInBounds_toArray, List.set_cons_zero, List.set_cons_succ, i64_w, i32_w]
   rfl
  refine pure_ (i := 6) (N := some 53) (v := ?_) (a' := ?_) #[true, false, true, false, true, false, true, false, false, false, false, false, false, false, false, false, false, false, false, false, false, false, false, false, false, false, false, false, false, false, false, false, false, false, false, false, false, false, false, false, false, false, false, false, false, false] rfl rfl (any_of HT_.out (by kernel_rfl)) (fun _ _ _ h => h) (Or.inl ⟨by rfl, ?_⟩) ?_ ?_
  rotate_left
  ·intro w'
   go_simp
   with_reducible rfl
  rotate_left
  ·simp only [Act.put, List.setIfInBounds_toArray, List.set_cons_zero, List.set_cons_succ, i64_w, i32_w]
   rfl
  refine pure_ (i := 8) (N := some 55) (v := ?_) (a' := ?_) #[true, false, true, false, true, false, true, false, true, false, false, false, false, false, false, false, false, false, false, false, false, false, false, false, false, false, false, false, false, false, false, false, false, false, false, false, false, false, false, false, false, false, false, false, false, false] rfl rfl (any_of HT_.out (by kernel_rfl)) (fun _ _ _ h => h) (Or.inl ⟨by rfl, ?_⟩) ?_ ?_
  rotate_left
  ·intro w'
   go_simp
   with_reducible rfl
  rotate_left
  ·simp only [Act.put, List.setIfInBounds_toArray, List.set_cons_zero, List.set_cons_succ, i64_w, i32_w]
   rfl
  refine pure_ (i := 11) (N := some 58) (v := ?_) (a' := ?_) #[true, false, true, false, true, false, true, false, true, false, false, true, false, false, false, false, false, false, false, false, false, false, false, false, false, false, false, false, false, false, false, false, false, false, false, false, false, false, false, false, false, false, false, false, false, false] rfl rfl (any_of HT_.out (by kernel_rfl)) (fun _ _ _ h => h) (Or.inl ⟨by rfl, ?_⟩) ?_ ?_
  rotate_left
  ·intro w'
   go_simp
   with_reducible rfl
  rotate_left
  ·simp only [Act.put, List.setIfInBounds_toArray, List.set_cons_zero, List.set_cons_succ, i64_w, i32_w]
   rfl
  refine pure_ (i := 13) (N := some 60) (v := ?_) (a' := ?_) #[true, false, true, false, true, false, true, false, true, false, false, true, false, true, false, false, false, false, false, false, false, false, false, false, false, false, false, false, false, false, false, false, false, false, false, false, false, false, false, false, false, false, false, false, false, false] rfl rfl (any_of HT_.out (by kernel_rfl)) (fun _ _ _ h => h) (Or.inl ⟨by rfl, ?_⟩) ?_ ?_
  rotate_left
  ·intro w'
   go_simp
   with_reducible rfl
  rotate_left
  ·simp only [Act.put, List.setIfInBounds_toArray, List.set_cons_zero, List.set_cons_succ, i64_w, i32_w]
   rfl
  refine pure_ (i := 15) (N := some 62) (v := ?_) (a' := ?_) #[true, false, true, false, true, false, true, false, true, false, false, true, false, true, false, true, false, false, false, false, false, false, false, false, false, false, false, false, false, false, false, false, false, false, false, false, false, false, false, false, false, false, false, false, false, false] rfl rfl (any_of HT_.out (by kernel_rfl)) (fun _ _ _ h => h) (Or.inl ⟨by rfl, ?_⟩) ?_ ?_
  rotate_left
  ·intro w'
   go_simp
   with_reducible rfl
  rotate_left
  ·simp only [Act.put, List.setIfInBounds_toArray, List.set_cons_zero, List.set_cons_succ, i64_w, i32_w]
   rfl
  refine pure_ (i := 17) (N := some 64) (v := ?_) (a' := ?_) #[true, false, true, false, true, false, true, false, true, false, false, true, false, true, false, true, false, true, false, false, false, false, false, false, false, false, false, false, false, false, false, false, false, false, false, false, false, false, false, false, false, false, false, false, false, false] rfl rfl (any_of HT_.out (by kernel_rfl)) (fun _ _ _ h => h) (Or.inl ⟨by rfl, ?_⟩) ?_ ?_
  rotate_left
  ·intro w'
   go_simp
   with_reducible rfl
  rotate_left
  ·simp only [Act.put, List.setIfInBounds_toArray, List.set_cons_zero, List.set_cons_succ, i64_w, i32_w]
   rfl
  refine pure_ (i := 19) (N := some 66) (v := ?_) (a' := ?_) #[true, false, true, false, true, false, true, false, true, false, false, true, false, true, false, true, false, true, false, true, false, false, false, false, false, false, false, false, false, false, false, false, false, false, false, false, false, false, false, false, false, false, false, false, false, false] rfl rfl (any_of HT_.out (by kernel_rfl)) (fun _ _ _ h => h) (Or.inl ⟨by rfl, ?_⟩) ?_ ?_
  rotate_left
  ·intro w'
   go_simp
   with_reducible rfl
  rotate_left
  ·simp only [Act.put, List.setIfInBounds_toArray, List.set_cons_zero, List.set_cons_succ, i64_w, i32_w]
   rfl
  refine pure_ (i := 22) (N := some 69) (v := ?_) (a' := ?_) #[true, false, true, false, true, false, true, false, true, false, false, true, false, true, false, true, false, true, false, true, false, false, true, false, false, false, false, false, false, false, false, false, false, false, false, false, false, false, false, false, false, false, false, false, false, false] rfl rfl (any_of HT_.out (by kernel_rfl)) (fun _ _ _ h => h) (Or.inl ⟨by rfl, ?_⟩) ?_ ?_
  rotate_left
  ·intro w'
   go_simp
   with_reducible rfl
  rotate_left
  ·simp only [Act.put, List.setIfInBounds_toArray, List.set_cons_zero, List.set_cons_succ, i64_w, i32_w]
   rfl
  refine pure_ (i := 24) (N := some 71) (v := ?_) (a' := ?_) #[true, false, true, false, true, false, true, false, true, false, false, true, false, true, false, true, false, true, false, true, false, false, true, false, true, false, false, false, false, false, false, false, false, false, false, false, false, false, false, false, false, false, false, false, false, false] rfl rfl (any_of HT_.out (by kernel_rfl)) (fun _ _ _ h => h) (Or.inl ⟨by rfl, ?_⟩) ?_ ?_
  rotate_left
  ·intro w'
   go_simp
   with_reducible rfl
  rotate_left
  ·simp only [Act.put, List.setIfInBounds_toArray, List.set_cons_zero, List.set_cons_succ, i64_w, i32_w]
   rfl
  refine pure_ (i := 26) (N := some 73) (v := ?_) (a' := ?_) #[true, false, true, false, true, false, true, false, true, false, false, true, false, true, false, true, false, true, false, true, false, false, true, false, true, false, true, false, false, false, false, false, false, false, false, false, false, false, false, false, false, false, false, false, false, false] rfl rfl (any_of HT_.out (by kernel_rfl)) (fun _ _ _ h => h) (Or.inl ⟨by rfl, ?_⟩) ?_ ?_
  rotate_left
  ·intro w'
   go_simp
   with_reducible rfl
  rotate_left
  ·simp only [Act.put, List.setIfInBounds_toArray, List.set_cons_zero, List.set_cons_succ, i64_w, i32_w]
   rfl
  refine pure_ (i := 28) (N := some 75) (v := ?_) (a' := ?_) #[true, false, true, false, true, false, true, false, true, false, false, true, false, true, false, true, false, true, false, true, false, false, true, false, true, false, true, false, true, false, false, false, false, false, false, false, false, false, false, false, false, false, false, false, false, false] rfl rfl (any_of HT_.out (by kernel_rfl)) (fun _ _ _ h => h) (Or.inl ⟨by rfl, ?_⟩) ?_ ?_
  rotate_left
  ·intro w'
   go_simp
   with_reducible rfl
  rotate_left
  ·simp only [Act.put, List.setIfInBounds_toArray, List.set_cons_zero, List.set_cons_succ, i64_w, i32_w]
   rfl
  refine pure_ (i := 30) (N := some 77) (v := ?_) (a' := ?_) #[true, false, true, false, true, false, true, false, true, false, false, true, false, true, false, true, false, true, false, true, false, false, true, false, true, false, true, false, true, false, true, false, false, false, false, false, false, false, false, false, false, false, false, false, false, false] rfl rfl (any_of HT_.out (by kernel_rfl)) (fun _ _ _ h => h) (Or.inl ⟨by rfl, ?_⟩) ?_ ?_
  rotate_left
  ·intro w'
   go_simp
   with_reducible rfl
  rotate_left
  ·simp only [Act.put, List.setIfInBounds_toArray, List.set_cons_zero, List.set_cons_succ, i64_w, i32_w]
   rfl
  refine pure_ (i := 33) (N := some 80) (v := ?_) (a' := ?_) #[true, false, true, false, true, false, true, false, true, false, false, true, false, true, false, true, false, true, false, true, false, false, true, false, true, false, true, false, true, false, true, false, false, true, false, false, false, false, false, false, false, false, false, false, false, false] rfl rfl (any_of HT_.out (by kernel_rfl)) (fun _ _ _ h => h) (Or.inl ⟨by rfl, ?_⟩) ?_ ?_
  rotate_left
  ·intro w'
   go_simp
   with_reducible rfl
  rotate_left
  ·simp only [Act.put, List.setIfInBounds_toArray, List.set_cons_zero, List.set_cons_succ, i64_w, i32_w]
   rfl
  refine pure_ (i := 35) (N := some 82) (v := ?_) (a' := ?_) #[true, false, true, false, true, false, true, false, true, false, false, true, false, true, false, true, false, true, false, true, false, false, true, false, true, false, true, false, true, false, true, false, false, true, false, true, false, false, false, false, false, false, false, false, false, false] rfl rfl (any_of HT_.out (by kernel_rfl)) (fun _ _ _ h => h) (Or.inl ⟨by rfl, ?_⟩) ?_ ?_
  rotate_left
  ·intro w'
   go_simp
   with_reducible rfl
  rotate_left
  ·simp only [Act.put, List.setIfInBounds_toArray, List.set_cons_zero, List.set_cons_succ, i64_w, i32_w]
   rfl
  refine pure_ (i := 37) (N := some 84) (v := ?_) (a' := ?_) #[true, false, true, false, true, false, true, false, true, false, false, true, false, true, false, true, false, true, false, true, false, false, true, false, true, false, true, false, true, false, true, false, false, true, false, true, false, true, false, false, false, false, false, false, false, false] rfl rfl (any_of HT_.out (by kernel_rfl)) (fun _ _ _ h => h) (Or.inl ⟨by rfl, ?_⟩) ?_ ?_
  rotate_left
  ·intro w'
   go_simp
   with_reducible rfl
  rotate_left
  ·simp only [Act.put, List.setIfInBounds_toArray, List.set_cons_zero, List.set_cons_succ, i64_w, i32_w]
   rfl
  refine pure_ (i := 39) (N := some 86) (v := ?_) (a' := ?_) #[true, false, true, false, true, false, true, false, true, false, false, true, false, true, false, true, false, true, false, true, false, false, true, false, true, false, true, false, true, false, true, false, false, true, false, true, false, true, false, true, false, false, false, false, false, false] rfl rfl (any_of HT_.out (by kernel_rfl)) (fun _ _ _ h => h) (Or.inl ⟨by rfl, ?_⟩) ?_ ?_
  rotate_left
  ·intro w'
   go_simp
   with_reducible rfl
  rotate_left
  ·simp only [Act.put, List.setIfInBounds_toArray, List.set_cons_zero, List.set_cons_succ, i64_w, i32_w]
   rfl
  refine pure_ (i := 41) (N := some 88) (v := ?_) (a' := ?_) #[true, false, true, false, true, false, true, false, true, false, false, true, false, true, false, true, false, true, false, true, false, false, true, false, true, false, true, false, true, false, true, false, false, true, false, true, false, true, false, true, false, true, false, false, false, false] rfl rfl (any_of HT_.out (by kernel_rfl)) (fun _ _ _ h => h) (Or.inl ⟨by rfl, ?_⟩) ?_ ?_
  rotate_left
  ·intro w'
   go_simp
   with_reducible rfl
  rotate_left
  ·simp only [Act.put, List.setIfInBounds_toArray, List.set_cons_zero, List.set_cons_succ, i64_w, i32_w]
   rfl
  refine take_ (i := 1) (N := some 48) (v := ?_) (a' := ?_) #[true, true, true, false, true, false, true, false, true, false, false, true, false, true, false, true, false, true, false, true, false, false, true, false, true, false, true, false, true, false, true, false, false, true, false, true, false, true, false, true, false, true, false, false, false, false] rfl rfl (take_ofW HT_.out HW_.out (by kernel_rfl)) (fun _ _ _ h => h) (Or.inl ⟨by rfl, ?_⟩) hHeld ?_ ?_
  rotate_left
  ·rintro w' ⟨s0, s1, s2, s3, s4, s5, s6, s7, s8, s9, s10, s11, s12, s13, s14, s15, s16, s17, s18, s19, s20, s21, s22, s23, s24, s25, s26, s27, s28, s29, s30, s31⟩
   go_simp
   with_reducible rfl
  rotate_left
  ·simp only [Act.put, List.setIfInBounds_toArray, List.set_cons_zero, List.set_cons_succ, i64_w, i32_w]
   rfl
  refine take_ (i := 3) (N := some 50) (v := ?_) (a' := ?_) #[true, true, true, true, true, false, true, false, true, false, false, true, false, true, false, true, false, true, false, true, false, false, true, false, true, false, true, false, true, false, true, false, false, true, false, true, false, true, false, true, false, true, false, false, false, false] rfl rfl (take_ofW HT_.out HW_.out (by kernel_rfl)) (fun _ _ _ h => h) (Or.inl ⟨by rfl, ?_⟩) hHeld ?_ ?_
  rotate_left
  ·rintro w' ⟨s0, s1, s2, s3, s4, s5, s6, s7, s8, s9, s10, s11, s12, s13, s14, s15, s16, s17, s18, s19, s20, s21, s22, s23, s24, s25, s26, s27, s28, s29, s30, s31⟩
   go_simp
   with_reducible rfl
  rotate_left
  ·simp only [Act.put, List.setIfInBounds_toArray, List.set_cons_zero, List.set_cons_succ, i64_w, i32_w]
   rfl
  refine take_ (i := 5) (N := some 52) (v := ?_) (a' := ?_) #[true, true, true, true, true, true, true, false, true, false, false, true, false, true, false, true, false, true, false, true, false, false, true, false, true, false, true, false, true, false, true, false, false, true, false, true, false, true, false, true, false, true, false, false, false, false] rfl rfl (take_ofW HT_.out HW_.out (by kernel_rfl)) (fun _ _ _ h => h) (Or.inl ⟨by rfl, ?_⟩) hHeld ?_ ?_
  rotate_left
  ·rintro w' ⟨s0, s1, s2, s3, s4, s5, s6, s7, s8, s9, s10, s11, s12, s13, s14, s15, s16, s17, s18, s19, s20, s21, s22, s23, s24, s25, s26, s27, s28, s29, s30, s31⟩
   go_simp
   with_reducible rfl
  rotate_left
  ·simp only [Act.put, List.setIfInBounds_toArray, List.set_cons_zero, List.set_cons_succ, i64_w, i32_w]
   rfl
  refine take_ (i := 7) (N := some 54) (v := ?_) (a' := ?_) #[true, true, true, true, true, true, true, true, true, false, false, true, false, true, false, true, false, true, false, true, false, false, true, false, true, false, true, false, true, false, true, false, false, true, false, true, false, true, false, true, false, true, false, false, false, false] rfl rfl (take_ofW HT_.out HW_.out (by kernel_rfl)) (fun _ _ _ h => h) (Or.inl ⟨by rfl, ?_⟩) hHeld ?_ ?_
  rotate_left
  ·rintro w' ⟨s0, s1, s2, s3, s4, s5, s6, s7, s8, s9, s10, s11, s12, s13, s14, s15, s16, s17, s18, s19, s20, s21, s22, s23, s24, s25, s26, s27, s28, s29, s30, s31⟩
   go_simp
   with_reducible rfl
  rotate_left
  ·simp only [Act.put, List.setIfInBounds_toArray, List.set_cons_zero, List.set_cons_succ, i64_w, i32_w]
   rfl
  refine take_ (i := 9) (N := some 56) (v := ?_) (a' := ?_) #[true, true, true, true, true, true, true, true, true, true, false, true, false, true, false, true, false, true, false, true, false, false, true, false, true, false, true, false, true, false, true, false, false, true, false, true, false, true, false, true, false, true, false, false, false, false] rfl rfl (take_ofW HT_.out HW_.out (by kernel_rfl)) (fun _ _ _ h => h) (Or.inl ⟨by rfl, ?_⟩) hHeld ?_ ?_
  rotate_left
  ·rintro w' ⟨s0, s1, s2, s3, s4, s5, s6, s7, s8, s9, s10, s11, s12, s13, s14, s15, s16, s17, s18, s19, s20, s21, s22, s23, s24, s25, s26, s27, s28, s29, s30, s31⟩
   go_simp
   with_reducible rfl
  rotate_left
  ·simp only [Act.put, List.setIfInBounds_toArray, List.set_cons_zero, List.set_cons_succ, i64_w, i32_w]
   rfl
  refine take_ (i := 12) (N := some 59) (v := ?_) (a' := ?_) #[true, true, true, true, true, true, true, true, true, true, false, true, true, true, false, true, false, true, false, true, false, false, true, false, true, false, true, false, true, false, true, false, false, true, false, true, false, true, false, true, false, true, false, false, false, false] rfl rfl (take_ofW HT_.out HW_.out (by kernel_rfl)) (fun _ _ _ h => h) (Or.inl ⟨by rfl, ?_⟩) hHeld ?_ ?_
  rotate_left
  ·rintro w' ⟨s0, s1, s2, s3, s4, s5, s6, s7, s8, s9, s10, s11, s12, s13, s14, s15, s16, s17, s18, s19, s20, s21, s22, s23, s24, s25, s26, s27, s28, s29, s30, s31⟩
   go_simp
   with_reducible rfl
  rotate_left
  ·simp only [Act.put, List.setIfInBounds_toArray, List.set_cons_zero, List.set_cons_succ, i64_w, i32_w]
   rfl
  refine take_ (i := 14) (N := some 61) (v := ?_) (a' := ?_) #[true, true, true, true, true, true, true, true, true, true, false, true, true, true, true, true, false, true, false, true, false, false, true, false, true, false, true, false, true, false, true, false, false, true, false, true, false, true, false, true, false, true, false, false, false, false] rfl rfl (take_ofW HT_.out HW_.out (by kernel_rfl)) (fun _ _ _ h => h) (Or.inl ⟨by rfl, ?_⟩) hHeld ?_ ?_
  rotate_left
  ·rintro w' ⟨s0, s1, s2, s3, s4, s5, s6, s7, s8, s9, s10, s11, s12, s13, s14, s15, s16, s17, s18, s19, s20, s21, s22, s23, s24, s25, s26, s27, s28, s29, s30, s31⟩
   go_simp
   with_reducible rfl
  rotate_left
  ·simp only [Act.put, List.setIfInBounds_toArray, List.set_cons_zero, List.set_cons_succ, i64_w, i32_w]
   rfl
  refine take_ (i := 16) (N := some 63) (v := ?_) (a' := ?_) #[true, true, true, true, true, true, true, true, true, true, false, true, true, true, true, true, true, true, false, true, false, false, true, false, true, false, true, false, true, false, true, false, false, true, false, true, false, true, false, true, false, true, false, false, false, false] rfl rfl (take_ofW HT_.out HW_.out (by kernel_rfl)) (fun _ _ _ h => h) (Or.inl ⟨by rfl, ?_⟩) hHeld ?_ ?_
  rotate_left
  ·rintro w' ⟨s0, s1, s2, s3, s4, s5, s6, s7, s8, s9, s10, s11, s12, s13, s14, s15, s16, s17, s18, s19, s20, s21, s22, s23, s24, s25, s26, s27, s28, s29, s30, s31⟩
   go_simp
   with_reducible rfl
  rotate_left
  ·simp only [Act.put, List.setIfInBounds_toArray, List.set_cons_zero, List.set_cons_succ, i64_w, i32_w]
   rfl
  refine take_ (i := 18) (N := some 65) (v := ?_) (a' := ?_) #[true, true, true, true, true, true, true, true, true, true, false, true, true, true, true, true, true, true, true, true, false, false, true, false, true, false, true, false, true, false, true, false, false, true, false, true, false, true, false, true, false, true, false, false, false, false] rfl rfl (take_ofW HT_.out HW_.out (by kernel_rfl)) (fun _ _ _ h => h) (Or.inl ⟨by rfl, ?_⟩) hHeld ?_ ?_
  rotate_left
  ·rintro w' ⟨s0, s1, s2, s3, s4, s5, s6, s7, s8, s9, s10, s11, s12, s13, s14, s15, s16, s17, s18, s19, s20, s21, s22, s23, s24, s25, s26, s27, s28, s29, s30, s31⟩
   go_simp
   with_reducible rfl
  rotate_left
  ·simp only [Act.put, List.setIfInBounds_toArray, List.set_cons_zero, List.set_cons_succ, i64_w, i32_w]
   rfl
  refine take_ (i := 20) (N := some 67) (v := ?_) (a' := ?_) #[true, true, true, true, true, true, true, true, true, true, false, true, true, true, true, true, true, true, true, true, true, false, true, false, true, false, true, false, true, false, true, false, false, true, false, true, false, true, false, true, false, true, false, false, false, false] rfl rfl (take_ofW HT_.out HW_.out (by kernel_rfl)) (fun _ _ _ h => h) (Or.inl ⟨by rfl, ?_⟩) hHeld ?_ ?_
  rotate_left
  ·rintro w' ⟨s0, s1, s2, s3, s4, s5, s6, s7, s8, s9, s10, s11, s12, s13, s14, s15, s16, s17, s18, s19, s20, s21, s22, s23, s24, s25, s26, s27, s28, s29, s30, s31⟩
   go_simp
   with_reducible rfl
  rotate_left
  ·simp only [Act.put, List.setIfInBounds_toArray, List.set_cons_zero, List.set_cons_succ, i64_w, i32_w]
   rfl
  refine take_ (i := 23) (N := some 70) (v := ?_) (a' := ?_) #[true, true, true, true, true, true, true, true, true, true, false, true, true, true, true, true, true, true, true, true, true, false, true, true, true, false, true, false, true, false, true, false, false, true, false, true, false, true, false, true, false, true, false, false, false, false] rfl rfl (take_ofW HT_.out HW_.out (by kernel_rfl)) (fun _ _ _ h => h) (Or.inl ⟨by rfl, ?_⟩) hHeld ?_ ?_
  rotate_left
  ·rintro w' ⟨s0, s1, s2, s3, s4, s5, s6, s7, s8, s9, s10, s11, s12, s13, s14, s15, s16, s17, s18, s19, s20, s21, s22, s23, s24, s25, s26, s27, s28, s29, s30, s31⟩
   go_simp
   with_reducible rfl
  rotate_left
  ·simp only [Act.put, List.setIfInBounds_toArray, List.set_cons_zero, List.set_cons_succ, i64_w, i32_w]
   rfl
  refine take_ (i := 25) (N := some 72) (v := ?_) (a' := ?_) #[true, true, true, true, true, true, true, true, true, true, false, true, true, true, true, true, true, true, true, true, true, false, true, true, true, true, true, false, true, false, true, false, false, true, false, true, false, true, false, true, false, true, false, false, false, false] rfl rfl (take_ofW HT_.out HW_.out (by kernel_rfl)) (fun _ _ _ h => h) (Or.inl ⟨by rfl, ?_⟩) hHeld ?_ ?_
  rotate_left
  ·rintro w' ⟨s0, s1, s2, s3, s4, s5, s6, s7, s8, s9, s10, s11, s12, s13, s14, s15, s16, s17, s18, s19, s20, s21, s22, s23, s24, s25, s26, s27, s28, s29, s30, s31⟩
   go_simp
   with_reducible rfl
  rotate_left
  ·simp only [Act.put, List.setIfInBounds_toArray, List.set_cons_zero, List.set_cons_succ, i64_w, i32_w]
   rfl
  refine take_ (i := 27) (N := some 74) (v := ?_) (a' := ?_) #[true, true, true, true, true, true, true, true, true, true, false, true, true, true, true, true, true, true, true, true, true, false, true, true, true, true, true, true, true, false, true, false, false, true, false, true, false, true, false, true, false, true, false, false, false, false] rfl rfl (take_ofW HT_.out HW_.out (by kernel_rfl)) (fun _ _ _ h => h) (Or.inl ⟨by rfl, ?_⟩) hHeld ?_ ?_
  rotate_left
  ·rintro w' ⟨s0, s1, s2, s3, s4, s5, s6, s7, s8, s9, s10, s11, s12, s13, s14, s15, s16, s17, s18, s19, s20, s21, s22, s23, s24, s25, s26, s27, s28, s29, s30, s31⟩
   go_simp
   with_reducible rfl
  rotate_left
  ·simp only [Act.put, List.setIfInBounds_toArray, List.set_cons_zero, List.set_cons_succ, i64_w, i32_w]
   rfl
  refine take_ (i := 29) (N := some 76) (v := ?_) (a' := ?_) #[true, true, true, true, true, true, true, true, true, true, false, true, true, true, true, true, true, true, true, true, true, false, true, true, true, true, true, true, true, true, true, false, false, true, false, true, false, true, false, true, false, true, false, false, false, false] rfl rfl (take_ofW HT_.out HW_.out (by kernel_rfl)) (fun _ _ _ h => h) (Or.inl ⟨by rfl, ?_⟩) hHeld ?_ ?_
  rotate_left
  ·rintro w' ⟨s0, s1, s2, s3, s4, s5, s6, s7, s8, s9, s10, s11, s12, s13, s14, s15, s16, s17, s18, s19, s20, s21, s22, s23, s24, s25, s26, s27, s28, s29, s30, s31⟩
   go_simp
   with_reducible rfl
  rotate_left
  ·simp only [Act.put, List.setIfInBounds_toArray, List.set_cons_zero, List.set_cons_succ, i64_w, i32_w]
   rfl
  refine take_ (i := 31) (N := some 78) (v := ?_) (a' := ?_) #[true, true, true, true, true, true, true, true, true, true, false, true, true, true, true, true, true, true, true, true, true, false, true, true, true, true, true, true, true, true, true, true, false, true, false, true, false, true, false, true, false, true, false, false, false, false] rfl rfl (take_ofW HT_.out HW_.out (by kernel_rfl)) (fun _ _ _ h => h) (Or.inl ⟨by rfl, ?_⟩) hHeld ?_ ?_
  rotate_left
  ·rintro w' ⟨s0, s1, s2, s3, s4, s5, s6, s7, s8, s9, s10, s11, s12, s13, s14, s15, s16, s17, s18, s19, s20, s21, s22, s23, s24, s25, s26, s27, s28, s29, s30, s31⟩
   go_simp
   with_reducible rfl
  rotate_left
  ·simp only [Act.put, List.setIfInBounds_toArray, List.set_cons_zero, List.set_cons_succ, i64_w, i32_w]
   rfl
  refine take_ (i := 34) (N := some 81) (v := ?_) (a' := ?_) #[true, true, true, true, true, true, true, true, true, true, false, true, true, true, true, true, true, true, true, true, true, false, true, true, true, true, true, true, true, true, true, true, false, true, true, true, false, true, false, true, false, true, false, false, false, false] rfl rfl (take_ofW HT_.out HW_.out (by kernel_rfl)) (fun _ _ _ h => h) (Or.inl ⟨by rfl, ?_⟩) hHeld ?_ ?_
  rotate_left
  ·rintro w' ⟨s0, s1, s2, s3, s4, s5, s6, s7, s8, s9, s10, s11, s12, s13, s14, s15, s16, s17, s18, s19, s20, s21, s22, s23, s24, s25, s26, s27, s28, s29, s30, s31⟩
   go_simp
   with_reducible rfl
  rotate_left
  ·simp only [Act.put, List.setIfInBounds_toArray, List.set_cons_zero, List.set_cons_succ, i64_w, i32_w]
   rfl
  refine take_ (i := 36) (N := some 83) (v := ?_) (a' := ?_) #[true, true, true, true, true, true, true, true, true, true, false, true, true, true, true, true, true, true, true, true, true, false, true, true, true, true, true, true, true, true, true, true, false, true, true, true, true, true, false, true, false, true, false, false, false, false] rfl rfl (take_ofW HT_.out HW_.out (by kernel_rfl)) (fun _ _ _ h => h) (Or.inl ⟨by rfl, ?_⟩) hHeld ?_ ?_
  rotate_left
  ·rintro w' ⟨s0, s1, s2, s3, s4, s5, s6, s7, s8, s9, s10, s11, s12, s13, s14, s15, s16, s17, s18, s19, s20, s21, s22, s23, s24, s25, s26, s27, s28, s29, s30, s31⟩
   go_simp
   with_reducible rfl
  rotate_left
  ·simp only [Act.put, List.setIfInBounds_toArray, List.set_cons_zero, List.set_cons_succ, i64_w, i32_w]
   rfl
  refine take_ (i := 38) (N := some 85) (v := ?_) (a' := ?_) #[true, true, true, true, true, true, true, true, true, true, false, true, true, true, true, true, true, true, true, true, true, false, true, true, true, true, true, true, true, true, true, true, false, true, true, true, true, true, true, true, false, true, false, false, false, false] rfl rfl (take_ofW HT_.out HW_.out (by kernel_rfl)) (fun _ _ _ h => h) (Or.inl ⟨by rfl, ?_⟩) hHeld ?_ ?_
  rotate_left
  ·rintro w' ⟨s0, s1, s2, s3, s4, s5, s6, s7, s8, s9, s10, s11, s12, s13, s14, s15, s16, s17, s18, s19, s20, s21, s22, s23, s24, s25, s26, s27, s28, s29, s30, s31⟩
   go_simp
   with_reducible rfl
  rotate_left
  ·simp only [Act.put, List.setIfInBounds_toArray, List.set_cons_zero, List.set_cons_succ, i64_w, i32_w]
   rfl
  refine take_ (i := 40) (N := some 87) (v := ?_) (a' := ?_) #[true, true, true, true, true, true, true, true, true, true, false, true, true, true, true, true, true, true, true, true, true, false, true, true, true, true, true, true, true, true, true, true, false, true, true, true, true, true, true, true, true, true, false, false, false, false] rfl rfl (take_ofW HT_.out HW_.out (by kernel_rfl)) (fun _ _ _ h => h) (Or.inl ⟨by rfl, ?_⟩) hHeld ?_ ?_
  rotate_left
  ·rintro w' ⟨s0, s1, s2, s3, s4, s5, s6, s7, s8, s9, s10, s11, s12, s13, s14, s15, s16, s17, s18, s19, s20, s21, s22, s23, s24, s25, s26, s27, s28, s29, s30, s31⟩
   go_simp
   with_reducible rfl
  rotate_left
  ·simp only [Act.put, List.setIfInBounds_toArray, List.set_cons_zero, List.set_cons_succ, i64_w, i32_w]
   rfl
  refine take_ (i := 42) (N := some 89) (v := ?_) (a' := ?_) #[true, true, true, true, true, true, true, true, true, true, false, true, true, true, true, true, true, true, true, true, true, false, true, true, true, true, true, true, true, true, true, true, false, true, true, true, true, true, true, true, true, true, true, false, false, false] rfl rfl (take_ofW HT_.out HW_.out (by kernel_rfl)) (fun _ _ _ h => h) (Or.inl ⟨by rfl, ?_⟩) hHeld ?_ ?_
  rotate_left
  ·rintro w' ⟨s0, s1, s2, s3, s4, s5, s6, s7, s8, s9, s10, s11, s12, s13, s14, s15, s16, s17, s18, s19, s20, s21, s22, s23, s24, s25, s26, s27, s28, s29, s30, s31⟩
   go_simp
   with_reducible rfl
  rotate_left
  ·simp only [Act.put, List.setIfInBounds_toArray, List.set_cons_zero, List.set_cons_succ, i64_w, i32_w]
   rfl
  refine one_ (i := 10) (N := some 57) #[true, true, true, true, true, true, true, true, true, true, true, true, true, true, true, true, true, true, true, true, true, false, true, true, true, true, true, true, true, true, true, true, false, true, true, true, true, true, true, true, true, true, true, false, false, false] rfl rfl (one_of HT_.out (by kernel_rfl)) (by decide) (fun K hK => ?_)
  refine goes_ Try.func12 (by kernel_rfl) rfl #[.int .i64 a0_3, .int .i64 a1_0, .int .i64 t252, .int .i64 a2_0, .int .i64 t256] (by rfl) rfl rfl (by (try simp only [List.map_toArray, List.map_cons, List.map_nil]); first | done | rfl | (simp only [List.length_drop, List.length_take]; rfl)) ?_
  with_reducible refine (blend_Combine.calls k a0_3 a1_0 t252 a2_0 t256 t272 _ A9.out).mono ?_; rintro e w52 ⟨rfl, hb⟩; refine ⟨_, rfl, ?_⟩; replace BK244 := ub BK244 hb; replace BK245 := ub BK245 hb; replace BK246 := ub BK246 hb; replace BK247 := ub BK247 hb; replace BK260 := ub BK260 hb; replace BK261 := ub BK261 hb; replace BK270 := ub BK270 hb; replace BK271 := ub BK271 hb; replace HB := bs HB hb; (try clear hb); (try clear hb2); (try clear hk); (try clear hi)
  refine hK.out _ _ ⟨bc BK244 0, bc BK244 1, bc BK244 2, bc BK244 3, bc BK244 4, bc BK244 5, bc BK244 6, bc BK244 7, bc BK245 0, bc BK245 1, bc BK245 2, bc BK245 3, bc BK260 0, bc BK260 1, bc BK260 2, bc BK260 3, bc BK246 0, bc BK246 1, bc BK246 2, bc BK246 3, bc BK261 0, bc BK261 1, bc BK261 2, bc BK261 3, bc BK270 0, bc BK270 1, bc BK270 2, bc BK270 3, bc BK271 0, bc BK271 1, bc BK271 2, bc BK271 3⟩ (fun hHeld => ?_)
  clear hK K
  refine norm_ (a' := ?_) ?_ ?_
  rotate_left
  ·show Act.put _ (some 57) _ = _
   simp only [Act.put, List.setIfInBounds_toArray, List.set_cons_zero, List.set_cons_succ, i64_w, i32_w]
   rfl
  refine one_ (i := 21) (N := some 68) #[true, true, true, true, true, true, true, true, true, true, true, true, true, true, true, true, true, true, true, true, true, true, true, true, true, true, true, true, true, true, true, true, false, true, true, true, true, true, true, true, true, true, true, false, false, false] rfl rfl (one_of HT_.out (by kernel_rfl)) (by decide) (fun K hK => ?_)
  refine goes_ Try.func12 (by kernel_rfl) rfl #[.int .i64 a0_3, .int .i64 a1_1, .int .i64 t253, .int .i64 a2_1, .int .i64 t257] (by rfl) rfl rfl (by (try simp only [List.map_toArray, List.map_cons, List.map_nil]); first | done | rfl | (simp only [List.length_drop, List.length_take]; rfl)) ?_
  with_reducible refine (blend_Combine.calls k a0_3 a1_1 t253 a2_1 t257 t273 _ A10.out).mono ?_; rintro e w53 ⟨rfl, hb⟩; refine ⟨_, rfl, ?_⟩; replace BK244 := ub BK244 hb; replace BK245 := ub BK245 hb; replace BK246 := ub BK246 hb; replace BK247 := ub BK247 hb; replace BK260 := ub BK260 hb; replace BK261 := ub BK261 hb; replace BK270 := ub BK270 hb; replace BK271 := ub BK271 hb; replace HB := bs HB hb; (try clear hb); (try clear hb2); (try clear hk); (try clear hi)
  refine hK.out _ _ ⟨bc BK244 0, bc BK244 1, bc BK244 2, bc BK244 3, bc BK244 4, bc BK244 5, bc BK244 6, bc BK244 7, bc BK245 0, bc BK245 1, bc BK245 2, bc BK245 3, bc BK260 0, bc BK260 1, bc BK260 2, bc BK260 3, bc BK246 0, bc BK246 1, bc BK246 2, bc BK246 3, bc BK261 0, bc BK261 1, bc BK261 2, bc BK261 3, bc BK270 0, bc BK270 1, bc BK270 2, bc BK270 3, bc BK271 0, bc BK271 1, bc BK271 2, bc BK271 3⟩ (fun hHeld => ?_)
  clear hK K
  refine norm_ (a' := ?_) ?_ ?_
  rotate_left
  ·show Act.put _ (some 68) _ = _
   simp only [Act.put, List.setIfInBounds_toArray, List.set_cons_zero, List.set_cons_succ, i64_w, i32_w]
   rfl
  refine one_ (i := 32) (N := some 79) #[true, true, true, true, true, true, true, true, true, true, true, true, true, true, true, true, true, true, true, true, true, true, true, true, true, true, true, true, true, true, true, true, true, true, true, true, true, true, true, true, true, true, true, false, false, false] rfl rfl (one_of HT_.out (by kernel_rfl)) (by decide) (fun K hK => ?_)
  refine goes_ Try.func12 (by kernel_rfl) rfl #[.int .i64 a0_3, .int .i64 a1_2, .int .i64 t254, .int .i64 a2_2, .int .i64 t258] (by rfl) rfl rfl (by (try simp only [List.map_toArray, List.map_cons, List.map_nil]); first | done | rfl | (simp only [List.length_drop, List.length_take]; rfl)) ?_
  with_reducible refine (blend_Combine.calls k a0_3 a1_2 t254 a2_2 t258 t274 _ A11.out).mono ?_; rintro e w54 ⟨rfl, hb⟩; refine ⟨_, rfl, ?_⟩; replace BK244 := ub BK244 hb; replace BK245 := ub BK245 hb; replace BK246 := ub BK246 hb; replace BK247 := ub BK247 hb; replace BK260 := ub BK260 hb; replace BK261 := ub BK261 hb; replace BK270 := ub BK270 hb; replace BK271 := ub BK271 hb; replace HB := bs HB hb; (try clear hb); (try clear hb2); (try clear hk); (try clear hi)
  refine hK.out _ _ ⟨bc BK244 0, bc BK244 1, bc BK244 2, bc BK244 3, bc BK244 4, bc BK244 5, bc BK244 6, bc BK244 7, bc BK245 0, bc BK245 1, bc BK245 2, bc BK245 3, bc BK260 0, bc BK260 1, bc BK260 2, bc BK260 3, bc BK246 0, bc BK246 1, bc BK246 2, bc BK246 3, bc BK261 0, bc BK261 1, bc BK261 2, bc BK261 3, bc BK270 0, bc BK270 1, bc BK270 2, bc BK270 3, bc BK271 0, bc BK271 1, bc BK271 2, bc BK271 3⟩ (fun hHeld => ?_)
  clear hK K
  refine norm_ (a' := ?_) ?_ ?_
  rotate_left
  ·show Act.put _ (some 79) _ = _
   simp only [Act.put, List.setIfInBounds_toArray, List.set_cons_zero, List.set_cons_succ, i64_w, i32_w]
   rfl
  refine one_ (i := 43) (N := some 90) #[true, true, true, true, true, true, true, true, true, true, true, true, true, true, true, true, true, true, true, true, true, true, true, true, true, true, true, true, true, true, true, true, true, true, true, true, true, true, true, true, true, true, true, true, false, false] rfl rfl (one_of HT_.out (by kernel_rfl)) (by decide) (fun K hK => ?_)
  refine goes_ Try.func12 (by kernel_rfl) rfl #[.int .i64 a0_6, .int .i64 a1_3, .int .i64 t265, .int .i64 a2_3, .int .i64 t269] (by rfl) rfl rfl (by (try simp only [List.map_toArray, List.map_cons, List.map_nil]); first | done | rfl | (simp only [List.length_drop, List.length_take]; rfl)) ?_
  with_reducible refine (blend_Combine.calls k a0_6 a1_3 t265 a2_3 t269 t275 _ A12.out).mono ?_; rintro e w55 ⟨rfl, hb⟩; refine ⟨_, rfl, ?_⟩; replace BK244 := ub BK244 hb; replace BK245 := ub BK245 hb; replace BK246 := ub BK246 hb; replace BK247 := ub BK247 hb; replace BK260 := ub BK260 hb; replace BK261 := ub BK261 hb; replace BK270 := ub BK270 hb; replace BK271 := ub BK271 hb; replace HB := bs HB hb; (try clear hb); (try clear hb2); (try clear hk); (try clear hi)
  refine hK.out _ _ ⟨bc BK244 0, bc BK244 1, bc BK244 2, bc BK244 3, bc BK244 4, bc BK244 5, bc BK244 6, bc BK244 7, bc BK245 0, bc BK245 1, bc BK245 2, bc BK245 3, bc BK260 0, bc BK260 1, bc BK260 2, bc BK260 3, bc BK246 0, bc BK246 1, bc BK246 2, bc BK246 3, bc BK261 0, bc BK261 1, bc BK261 2, bc BK261 3, bc BK270 0, bc BK270 1, bc BK270 2, bc BK270 3, bc BK271 0, bc BK271 1, bc BK271 2, bc BK271 3⟩ (fun hHeld => ?_)
  clear hK K
  refine norm_ (a' := ?_) ?_ ?_
  rotate_left
  ·show Act.put _ (some 90) _ = _
   simp only [Act.put, List.setIfInBounds_toArray, List.set_cons_zero, List.set_cons_succ, i64_w, i32_w]
   rfl
  refine pure_ (i := 44) (N := some 91) (v := ?_) (a' := ?_) #[true, true, true, true, true, true, true, true, true, true, true, true, true, true, true, true, true, true, true, true, true, true, true, true, true, true, true, true, true, true, true, true, true, true, true, true, true, true, true, true, true, true, true, true, true, false] rfl rfl (any_of HT_.out (by kernel_rfl)) (fun _ _ _ h => h) (Or.inl ⟨by rfl, ?_⟩) ?_ ?_
  rotate_left
  ·intro w'
   go_simp
   with_reducible rfl
  rotate_left
  ·simp only [Act.put, List.setIfInBounds_toArray, List.set_cons_zero, List.set_cons_succ, i64_w, i32_w]
   rfl
  refine one_ (i := 45) (N := none) #[true, true, true, true, true, true, true, true, true, true, true, true, true, true, true, true, true, true, true, true, true, true, true, true, true, true, true, true, true, true, true, true, true, true, true, true, true, true, true, true, true, true, true, true, true, true] rfl rfl (one_of HT_.out (by kernel_rfl)) (by decide) (fun K hK => ?_)
  have hs56 : w55.cell? ⟨gb247, 0, none⟩ = some (.int .i64 0) := bc BK247 0
  have hfs56 := blk_frozen BK247.out 0; have hns56_0 := NB244_247.out; have hns56_1 := NB245_247.out; have hns56_2 := NB246_247.out; have hns56_4 := NB260_247.out; have hns56_5 := NB261_247.out; have hns56_6 := NB270_247.out; have hns56_7 := NB271_247.out; have hms56_0 := NB247_244.out; have hms56_1 := NB247_245.out; have hms56_2 := NB247_246.out; have hms56_4 := NB247_260.out; have hms56_5 := NB247_261.out; have hms56_6 := NB247_270.out; have hms56_7 := NB247_271.out
  have hs57 : w55.cell? ⟨gb247, 1, none⟩ = some (.int .i64 0) := bc BK247 1
  have hfs57 := blk_frozen BK247.out 1; have hns57_0 := NB244_247.out; have hns57_1 := NB245_247.out; have hns57_2 := NB246_247.out; have hns57_4 := NB260_247.out; have hns57_5 := NB261_247.out; have hns57_6 := NB270_247.out; have hns57_7 := NB271_247.out; have hms57_0 := NB247_244.out; have hms57_1 := NB247_245.out; have hms57_2 := NB247_246.out; have hms57_4 := NB247_260.out; have hms57_5 := NB247_261.out; have hms57_6 := NB247_270.out; have hms57_7 := NB247_271.out
  have hs58 : w55.cell? ⟨gb247, 2, none⟩ = some (.int .i64 0) := bc BK247 2
  have hfs58 := blk_frozen BK247.out 2; have hns58_0 := NB244_247.out; have hns58_1 := NB245_247.out; have hns58_2 := NB246_247.out; have hns58_4 := NB260_247.out; have hns58_5 := NB261_247.out; have hns58_6 := NB270_247.out; have hns58_7 := NB271_247.out; have hms58_0 := NB247_244.out; have hms58_1 := NB247_245.out; have hms58_2 := NB247_246.out; have hms58_4 := NB247_260.out; have hms58_5 := NB247_261.out; have hms58_6 := NB247_270.out; have hms58_7 := NB247_271.out
  have hs59 : w55.cell? ⟨gb247, 3, none⟩ = some (.int .i64 0) := bc BK247 3
  have hfs59 := blk_frozen BK247.out 3; have hns59_0 := NB244_247.out; have hns59_1 := NB245_247.out; have hns59_2 := NB246_247.out; have hns59_4 := NB260_247.out; have hns59_5 := NB261_247.out; have hns59_6 := NB270_247.out; have hns59_7 := NB271_247.out; have hms59_0 := NB247_244.out; have hms59_1 := NB247_245.out; have hms59_2 := NB247_246.out; have hms59_4 := NB247_260.out; have hms59_5 := NB247_261.out; have hms59_6 := NB247_270.out; have hms59_7 := NB247_271.out
  refine skip_ (w1 := ?_) (by rfl) rfl ?_ ?_
  rotate_left
  ·go_simp
   rfl
  refine hK.out _ _ ⟨(cf NB244_247 ((cf NB244_247 ((cf NB244_247 ((cf NB244_247 (hHeld.1)))))))), (cf NB244_247 ((cf NB244_247 ((cf NB244_247 ((cf NB244_247 (hHeld.2.1)))))))), (cf NB244_247 ((cf NB244_247 ((cf NB244_247 ((cf NB244_247 (hHeld.2.2.1)))))))), (cf NB244_247 ((cf NB244_247 ((cf NB244_247 ((cf NB244_247 (hHeld.2.2.2.1)))))))), (cf NB244_247 ((cf NB244_247 ((cf NB244_247 ((cf NB244_247 (hHeld.2.2.2.2.1)))))))), (cf NB244_247 ((cf NB244_247 ((cf NB244_247 ((cf NB244_247 (hHeld.2.2.2.2.2.1)))))))), (cf NB244_247 ((cf NB244_247 ((cf NB244_247 ((cf NB244_247 (hHeld.2.2.2.2.2.2.1)))))))), (cf NB244_247 ((cf NB244_247 ((cf NB244_247 ((cf NB244_247 (hHeld.2.2.2.2.2.2.2.1)))))))), (cf NB245_247 ((cf NB245_247 ((cf NB245_247 ((cf NB245_247 (hHeld.2.2.2.2.2.2.2.2.1)))))))), (cf NB245_247 ((cf NB245_247 ((cf NB245_247 ((cf NB245_247 (hHeld.2.2.2.2.2.2.2.2.2.1)))))))), (cf NB245_247 ((cf NB245_247 ((cf NB245_247 ((cf NB245_247 (hHeld.2.2.2.2.2.2.2.2.2.2.1)))))))), (cf NB245_247 ((cf NB245_247 ((cf NB245_247 ((cf NB245_247 (hHeld.2.2.2.2.2.2.2.2.2.2.2.1)))))))), (cf NB260_247 ((cf NB260_247 ((cf NB260_247 ((cf NB260_247 (hHeld.2.2.2.2.2.2.2.2.2.2.2.2.1)))))))), (cf NB260_247 ((cf NB260_247 ((cf NB260_247 ((cf NB260_247 (hHeld.2.2.2.2.2.2.2.2.2.2.2.2.2.1)))))))), (cf NB260_247 ((cf NB260_247 ((cf NB260_247 ((cf NB260_247 (hHeld.2.2.2.2.2.2.2.2.2.2.2.2.2.2.1)))))))), (cf NB260_247 ((cf NB260_247 ((cf NB260_247 ((cf NB260_247 (hHeld.2.2.2.2.2.2.2.2.2.2.2.2.2.2.2.1)))))))), (cf NB246_247 ((cf NB246_247 ((cf NB246_247 ((cf NB246_247 (hHeld.2.2.2.2.2.2.2.2.2.2.2.2.2.2.2.2.1)))))))), (cf NB246_247 ((cf NB246_247 ((cf NB246_247 ((cf NB246_247 (hHeld.2.2.2.2.2.2.2.2.2.2.2.2.2.2.2.2.2.1)))))))), (cf NB246_247 ((cf NB246_247 ((cf NB246_247 ((cf NB246_247 (hHeld.2.2.2.2.2.2.2.2.2.2.2.2.2.2.2.2.2.2.1)))))))), (cf NB246_247 ((cf NB246_247 ((cf NB246_247 ((cf NB246_247 (hHeld.2.2.2.2.2.2.2.2.2.2.2.2.2.2.2.2.2.2.2.1)))))))), (cf NB261_247 ((cf NB261_247 ((cf NB261_247 ((cf NB261_247 (hHeld.2.2.2.2.2.2.2.2.2.2.2.2.2.2.2.2.2.2.2.2.1)))))))), (cf NB261_247 ((cf NB261_247 ((cf NB261_247 ((cf NB261_247 (hHeld.2.2.2.2.2.2.2.2.2.2.2.2.2.2.2.2.2.2.2.2.2.1)))))))), (cf NB261_247 ((cf NB261_247 ((cf NB261_247 ((cf NB261_247 (hHeld.2.2.2.2.2.2.2.2.2.2.2.2.2.2.2.2.2.2.2.2.2.2.1)))))))), (cf NB261_247 ((cf NB261_247 ((cf NB261_247 ((cf NB261_247 (hHeld.2.2.2.2.2.2.2.2.2.2.2.2.2.2.2.2.2.2.2.2.2.2.2.1)))))))), (cf NB270_247 ((cf NB270_247 ((cf NB270_247 ((cf NB270_247 (hHeld.2.2.2.2.2.2.2.2.2.2.2.2.2.2.2.2.2.2.2.2.2.2.2.2.1)))))))), (cf NB270_247 ((cf NB270_247 ((cf NB270_247 ((cf NB270_247 (hHeld.2.2.2.2.2.2.2.2.2.2.2.2.2.2.2.2.2.2.2.2.2.2.2.2.2.1)))))))), (cf NB270_247 ((cf NB270_247 ((cf NB270_247 ((cf NB270_247 (hHeld.2.2.2.2.2.2.2.2.2.2.2.2.2.2.2.2.2.2.2.2.2.2.2.2.2.2.1)))))))), (cf NB270_247 ((cf NB270_247 ((cf NB270_247 ((cf NB270_247 (hHeld.2.2.2.2.2.2.2.2.2.2.2.2.2.2.2.2.2.2.2.2.2.2.2.2.2.2.2.1)))))))), (cf NB271_247 ((cf NB271_247 ((cf NB271_247 ((cf NB271_247 (hHeld.2.2.2.2.2.2.2.2.2.2.2.2.2.2.2.2.2.2.2.2.2.2.2.2.2.2.2.2.1)))))))), (cf NB271_247 ((cf NB271_247 ((cf NB271_247 ((cf NB271_247 (hHeld.2.2.2.2.2.2.2.2.2.2.2.2.2.2.2.2.2.2.2.2.2.2.2.2.2.2.2.2.2.1)))))))), (cf NB271_247 ((cf NB271_247 ((cf NB271_247 ((cf NB271_247 (hHeld.2.2.2.2.2.2.2.2.2.2.2.2.2.2.2.2.2.2.2.2.2.2.2.2.2.2.2.2.2.2.1)))))))), (cf NB271_247 ((cf NB271_247 ((cf NB271_247 ((cf NB271_247 (hHeld.2.2.2.2.2.2.2.2.2.2.2.2.2.2.2.2.2.2.2.2.2.2.2.2.2.2.2.2.2.2.2))))))))⟩ (fun hHeld => ?_)
  clear hK K
  refine done_ (done_of HT_.out (by kernel_rfl)) ?_
  try go_wp2
  refine bodyPost_ret (results_cell_row rfl _ _ gb247 27 #[.int .i64 t272, .int .i64 t273, .int .i64 t274, .int .i64 t275] (0, 0) _ rfl (by (with_reducible repeat (first | refine blk_drewN ?_ _ | refine blk_drew ?_ | refine blk_alloc ?_ _)); refine blk_put (cs := #[.int .i64 t272, .int .i64 t273, .int .i64 t274, .int .i64 0]) ?_ 3 _ rfl; (with_reducible repeat (first | refine blk_drewN ?_ _ | refine blk_drew ?_ | refine blk_alloc ?_ _)); refine blk_put (cs := #[.int .i64 t272, .int .i64 t273, .int .i64 0, .int .i64 0]) ?_ 2 _ rfl; (with_reducible repeat (first | refine blk_drewN ?_ _ | refine blk_drew ?_ | refine blk_alloc ?_ _)); refine blk_put (cs := #[.int .i64 t272, .int .i64 0, .int .i64 0, .int .i64 0]) ?_ 1 _ rfl; (with_reducible repeat (first | refine blk_drewN ?_ _ | refine blk_drew ?_ | refine blk_alloc ?_ _)); refine blk_put (cs := #[.int .i64 0, .int .i64 0, .int .i64 0, .int .i64 0]) ?_ 0 _ rfl; (with_reducible repeat (first | refine blk_drewN ?_ _ | refine blk_drew ?_ | refine blk_alloc ?_ _)); exact BK247.out) Try.underlying27 rfl (by kernel_rfl)) rfl ?_
  exact ⟨by first | rfl | (simp [errW_none, errW_some] <;> rfl) | (simp [*, errW_none, errW_some] <;> rfl), by repeat (first | (with_reducible first | exact HB.out | apply below_alloc | apply pw_below_drewN | apply below_drew1 | refine below_set ?_ GE244.out | refine below_set ?_ GE245.out | refine below_set ?_ GE246.out | refine below_set ?_ GE247.out | refine below_set ?_ GE260.out | refine below_set ?_ GE261.out | refine below_set ?_ GE270.out | refine below_set ?_ GE271.out) | exact HB.out)⟩
 ·replace c4 := Bool.eq_false_iff.mpr c4
  subst c4
  have H1 : ((fixed_Saturate.f a1_0).bind fun t248 => ((fixed_Saturate.f a1_1).bind fun t249 => ((fixed_Saturate.f a1_2).bind fun t250 => ((fixed_Saturate.f a1_3).bind fun t251 => (some (t248, t249, t250, t251)))))) = some (r1, r2, r3, r4) := by rw [if_neg (show ¬ (false = true) by decide)] at H; exact H
  clear H; have H := H1; clear H1
  replace H := Option.bind_eq_some_iff.mp H
  obtain ⟨t248, A600, H⟩ := H
  replace H : ((fixed_Saturate.f a1_1).bind fun t249 => ((fixed_Saturate.f a1_2).bind fun t250 => ((fixed_Saturate.f a1_3).bind fun t251 => (some (t248, t249, t250, t251))))) = some (r1, r2, r3, r4) := H
  have A60 := Aside0.mk A600; clear A600
  replace H := Option.bind_eq_some_iff.mp H
  obtain ⟨t249, A610, H⟩ := H
  replace H : ((fixed_Saturate.f a1_2).bind fun t250 => ((fixed_Saturate.f a1_3).bind fun t251 => (some (t248, t249, t250, t251)))) = some (r1, r2, r3, r4) := H
  have A61 := Aside0.mk A610; clear A610
  replace H := Option.bind_eq_some_iff.mp H
  obtain ⟨t250, A620, H⟩ := H
  replace H : ((fixed_Saturate.f a1_3).bind fun t251 => (some (t248, t249, t250, t251))) = some (r1, r2, r3, r4) := H
  have A62 := Aside0.mk A620; clear A620
  replace H := Option.bind_eq_some_iff.mp H
  obtain ⟨t251, A630, H⟩ := H
  replace H : (some (t248, t249, t250, t251)) = some (r1, r2, r3, r4) := H
  have A63 := Aside0.mk A630; clear A630
  simp only [Option.some.injEq, Prod.mk.injEq] at H
  obtain ⟨rfl, rfl, rfl, rfl⟩ := H
  go_enter Try.func9, Try.ntmps9
  try go_wp2_with (first | ((with_reducible refine gate_dst (N := 3) rfl ?_); refine box_event ?hg (N := 3) ?hd (cs := #[.bool false, .int .i64 a0_1, .int .i64 a0_2, .int .i64 a0_3, .int .i64 a0_4, .int .i64 a0_5, .int .i64 a0_6, .int .i64 a0_7]) (t := 25) ?hr ?_; (case hd => rfl); (case hg => rfl); (case hr => first | (go_simp; done) | (go_simp; rfl)); intro gb244 hg w64 hbox hb; have BK244 := Aside0.mk (hbox); have GW244 := ws HB hg; have GE244 := ws HB hg; replace HB := bs HB hb; clear hb hbox hg) | ((with_reducible refine gate_dst (N := 4) rfl ?_); refine box_event ?hg (N := 4) ?hd (cs := #[.int .i64 a1_0, .int .i64 a1_1, .int .i64 a1_2, .int .i64 a1_3]) (t := 27) ?hr ?_; (case hd => rfl); (case hg => rfl); (case hr => first | (go_simp; done) | (go_simp; rfl)); intro gb245 hg w65 hbox hb; have BK245 := Aside0.mk (hbox); have GW245 := ws HB hg; have GE245 := ws HB hg; have NB244_245 := nl BK244 hg; have NB245_244 := ng BK244 hg; replace BK244 := ub BK244 hb; replace HB := bs HB hb; clear hb hbox hg) | ((with_reducible refine gate_dst (N := 5) rfl ?_); refine box_event ?hg (N := 5) ?hd (cs := #[.int .i64 a2_0, .int .i64 a2_1, .int .i64 a2_2, .int .i64 a2_3]) (t := 27) ?hr ?_; (case hd => rfl); (case hg => rfl); (case hr => first | (go_simp; done) | (go_simp; rfl)); intro gb246 hg w66 hbox hb; have BK246 := Aside0.mk (hbox); have GW246 := ws HB hg; have GE246 := ws HB hg; have NB244_246 := nl BK244 hg; have NB246_244 := ng BK244 hg; have NB245_246 := nl BK245 hg; have NB246_245 := ng BK245 hg; replace BK244 := ub BK244 hb; replace BK245 := ub BK245 hb; replace HB := bs HB hb; clear hb hbox hg) | ((with_reducible refine gate_dst (N := 6) rfl ?_); refine box_event ?hg (N := 6) ?hd (cs := #[.int .i64 0, .int .i64 0, .int .i64 0, .int .i64 0]) (t := 27) ?hr ?_; (case hd => rfl); (case hg => rfl); (case hr => first | (go_simp; done) | (go_simp; rfl)); intro gb247 hg w67 hbox hb; have BK247 := Aside0.mk (hbox); have GW247 := ws HB hg; have GE247 := ws HB hg; have NB244_247 := nl BK244 hg; have NB247_244 := ng BK244 hg; have NB245_247 := nl BK245 hg; have NB247_245 := ng BK245 hg; have NB246_247 := nl BK246 hg; have NB247_246 := ng BK246 hg; replace BK244 := ub BK244 hb; replace BK245 := ub BK245 hb; replace BK246 := ub BK246 hb; replace HB := bs HB hb; clear hb hbox hg; have hnb68 := NB244_245.out; have hnc68 := NB245_244.out; have hnb69 := NB244_246.out; have hnc69 := NB246_244.out; have hnb70 := NB244_247.out; have hnc70 := NB247_244.out; have hcz71_0 : w67.cell? ⟨gb244, 0, none⟩ = some (.bool false) := bc BK244 0; have hcz71_1 : w67.cell? ⟨gb244, 1, none⟩ = some (.int .i64 a0_1) := bc BK244 1; have hcz71_2 : w67.cell? ⟨gb244, 2, none⟩ = some (.int .i64 a0_2) := bc BK244 2; have hcz71_3 : w67.cell? ⟨gb244, 3, none⟩ = some (.int .i64 a0_3) := bc BK244 3; have hcz71_4 : w67.cell? ⟨gb244, 4, none⟩ = some (.int .i64 a0_4) := bc BK244 4; have hcz71_5 : w67.cell? ⟨gb244, 5, none⟩ = some (.int .i64 a0_5) := bc BK244 5; have hcz71_6 : w67.cell? ⟨gb244, 6, none⟩ = some (.int .i64 a0_6) := bc BK244 6; have hcz71_7 : w67.cell? ⟨gb244, 7, none⟩ = some (.int .i64 a0_7) := bc BK244 7; have hfz71_0 := blk_frozen BK244.out 0; have hfz71_1 := blk_frozen BK244.out 1; have hfz71_2 := blk_frozen BK244.out 2; have hfz71_3 := blk_frozen BK244.out 3; have hfz71_4 := blk_frozen BK244.out 4; have hfz71_5 := blk_frozen BK244.out 5; have hfz71_6 := blk_frozen BK244.out 6; have hfz71_7 := blk_frozen BK244.out 7))
  replace BK244 := Aside0.mk (blk_drew BK244.out); replace BK245 := Aside0.mk (blk_drew BK245.out); replace BK246 := Aside0.mk (blk_drew BK246.out); replace BK247 := Aside0.mk (blk_drew BK247.out); replace HB := Aside0.mk (below_drew1 HB.out)
  refine start_ (n := 14) (S := fun w' => w'.cell? ⟨gb245, 0, none⟩ = some (.int .i64 a1_0) ∧ w'.cell? ⟨gb245, 1, none⟩ = some (.int .i64 a1_1) ∧ w'.cell? ⟨gb245, 2, none⟩ = some (.int .i64 a1_2) ∧ w'.cell? ⟨gb245, 3, none⟩ = some (.int .i64 a1_3)) (ds := []) #[false, false, false, false, false, false, false, false, false, false, false, false, false, false] (by kernel_rfl) rfl rfl ⟨bc BK245 0, bc BK245 1, bc BK245 2, bc BK245 3⟩ (fun hHeld => ?_); refine with_tabW blend_Blend.tab2 blend_Blend.bits2 (fun HT_ HW_ => ?_)
  generalize w67.drew = w72 at BK244 BK245 BK246 BK247 HB hHeld ⊢
  refine pure_ (i := 0) (N := some 14) (v := ?_) (a' := ?_) #[true, false, false, false, false, false, false, false, false, false, false, false, false, false] rfl rfl (any_of HT_.out (by kernel_rfl)) (fun _ _ _ h => h) (Or.inl ⟨by rfl, ?_⟩) ?_ ?_
  rotate_left
  ·intro w'
   go_simp
   with_reducible rfl
  rotate_left
  ·simp only [Act.put, List.setIfInBounds_toArray, List.set_cons_zero, List.set_cons_succ, i64_w, i32_w]
   rfl
  refine pure_ (i := 3) (N := some 17) (v := ?_) (a' := ?_) #[true, false, false, true, false, false, false, false, false, false, false, false, false, false] rfl rfl (any_of HT_.out (by kernel_rfl)) (fun _ _ _ h => h) (Or.inl ⟨by rfl, ?_⟩) ?_ ?_
  rotate_left
  ·intro w'
   go_simp
   with_reducible rfl
  rotate_left
  ·simp only [Act.put, List.setIfInBounds_toArray, List.set_cons_zero, List.set_cons_succ, i64_w, i32_w]
   rfl
  refine pure_ (i := 6) (N := some 20) (v := ?_) (a' := ?_) #[true, false, false, true, false, false, true, false, false, false, false, false, false, false] rfl rfl (any_of HT_.out (by kernel_rfl)) (fun _ _ _ h => h) (Or.inl ⟨by rfl, ?_⟩) ?_ ?_
  rotate_left
  ·intro w'
   go_simp
   with_reducible rfl
  rotate_left
  ·simp only [Act.put, List.setIfInBounds_toArray, List.set_cons_zero, List.set_cons_succ, i64_w, i32_w]
   rfl
  refine pure_ (i := 9) (N := some 23) (v := ?_) (a' := ?_) #[true, false, false, true, false, false, true, false, false, true, false, false, false, false] rfl rfl (any_of HT_.out (by kernel_rfl)) (fun _ _ _ h => h) (Or.inl ⟨by rfl, ?_⟩) ?_ ?_
  rotate_left
  ·intro w'
   go_simp
   with_reducible rfl
  rotate_left
  ·simp only [Act.put, List.setIfInBounds_toArray, List.set_cons_zero, List.set_cons_succ, i64_w, i32_w]
   rfl
  refine take_ (i := 1) (N := some 15) (v := ?_) (a' := ?_) #[true, true, false, true, false, false, true, false, false, true, false, false, false, false] rfl rfl (take_ofW HT_.out HW_.out (by kernel_rfl)) (fun _ _ _ h => h) (Or.inl ⟨by rfl, ?_⟩) hHeld ?_ ?_
  rotate_left
  ·rintro w' ⟨s0, s1, s2, s3⟩
   go_simp
   with_reducible rfl
  rotate_left
  ·simp only [Act.put, List.setIfInBounds_toArray, List.set_cons_zero, List.set_cons_succ, i64_w, i32_w]
   rfl
  refine take_ (i := 4) (N := some 18) (v := ?_) (a' := ?_) #[true, true, false, true, true, false, true, false, false, true, false, false, false, false] rfl rfl (take_ofW HT_.out HW_.out (by kernel_rfl)) (fun _ _ _ h => h) (Or.inl ⟨by rfl, ?_⟩) hHeld ?_ ?_
  rotate_left
  ·rintro w' ⟨s0, s1, s2, s3⟩
   go_simp
   with_reducible rfl
  rotate_left
  ·simp only [Act.put, List.setIfInBounds_toArray, List.set_cons_zero, List.set_cons_succ, i64_w, i32_w]
   rfl
  refine take_ (i := 7) (N := some 21) (v := ?_) (a' := ?_) #[true, true, false, true, true, false, true, true, false, true, false, false, false, false] rfl rfl (take_ofW HT_.out HW_.out (by kernel_rfl)) (fun _ _ _ h => h) (Or.inl ⟨by rfl, ?_⟩) hHeld ?_ ?_
  rotate_left
  ·rintro w' ⟨s0, s1, s2, s3⟩
   go_simp
   with_reducible rfl
  rotate_left
  ·simp only [Act.put, List.setIfInBounds_toArray, List.set_cons_zero, List.set_cons_succ, i64_w, i32_w]
   rfl
  refine take_ (i := 10) (N := some 24) (v := ?_) (a' := ?_) #[true, true, false, true, true, false, true, true, false, true, true, false, false, false] rfl rfl (take_ofW HT_.out HW_.out (by kernel_rfl)) (fun _ _ _ h => h) (Or.inl ⟨by rfl, ?_⟩) hHeld ?_ ?_
  rotate_left
  ·rintro w' ⟨s0, s1, s2, s3⟩
   go_simp
   with_reducible rfl
  rotate_left
  ·simp only [Act.put, List.setIfInBounds_toArray, List.set_cons_zero, List.set_cons_succ, i64_w, i32_w]
   rfl
  refine one_ (i := 2) (N := some 16) #[true, true, true, true, true, false, true, true, false, true, true, false, false, false] rfl rfl (one_of HT_.out (by kernel_rfl)) (by decide) (fun K hK => ?_)
  refine goes_ Try.func21 (by kernel_rfl) rfl #[.int .i64 a1_0] (by rfl) rfl rfl (by (try simp only [List.map_toArray, List.map_cons, List.map_nil]); first | done | rfl | (simp only [List.length_drop, List.length_take]; rfl)) ?_
  with_reducible refine (fixed_Saturate.calls a1_0 t248 _ A60.out).mono ?_; rintro e w73 ⟨rfl, hb⟩; refine ⟨_, rfl, ?_⟩; replace BK244 := ub BK244 hb; replace BK245 := ub BK245 hb; replace BK246 := ub BK246 hb; replace BK247 := ub BK247 hb; replace HB := bs HB hb; (try clear hb); (try clear hb2); (try clear hk); (try clear hi)
  refine hK.out _ _ ⟨bc BK245 0, bc BK245 1, bc BK245 2, bc BK245 3⟩ (fun hHeld => ?_)
  clear hK K
  refine norm_ (a' := ?_) ?_ ?_
  rotate_left
  ·show Act.put _ (some 16) _ = _
   simp only [Act.put, List.setIfInBounds_toArray, List.set_cons_zero, List.set_cons_succ, i64_w, i32_w]
   rfl
  refine one_ (i := 5) (N := some 19) #[true, true, true, true, true, true, true, true, false, true, true, false, false, false] rfl rfl (one_of HT_.out (by kernel_rfl)) (by decide) (fun K hK => ?_)
  refine goes_ Try.func21 (by kernel_rfl) rfl #[.int .i64 a1_1] (by rfl) rfl rfl (by (try simp only [List.map_toArray, List.map_cons, List.map_nil]); first | done | rfl | (simp only [List.length_drop, List.length_take]; rfl)) ?_
  with_reducible refine (fixed_Saturate.calls a1_1 t249 _ A61.out).mono ?_; rintro e w74 ⟨rfl, hb⟩; refine ⟨_, rfl, ?_⟩; replace BK244 := ub BK244 hb; replace BK245 := ub BK245 hb; replace BK246 := ub BK246 hb; replace BK247 := ub BK247 hb; replace HB := bs HB hb; (try clear hb); (try clear hb2); (try clear hk); (try clear hi)
  refine hK.out _ _ ⟨bc BK245 0, bc BK245 1, bc BK245 2, bc BK245 3⟩ (fun hHeld => ?_)
  clear hK K
  refine norm_ (a' := ?_) ?_ ?_
  rotate_left
  ·show Act.put _ (some 19) _ = _
   simp only [Act.put, List.setIfInBounds_toArray, List.set_cons_zero, List.set_cons_succ, i64_w, i32_w]
   rfl
  refine one_ (i := 8) (N := some 22) #[true, true, true, true, true, true, true, true, true, true, true, false, false, false] rfl rfl (one_of HT_.out (by kernel_rfl)) (by decide) (fun K hK => ?_)
  refine goes_ Try.func21 (by kernel_rfl) rfl #[.int .i64 a1_2] (by rfl) rfl rfl (by (try simp only [List.map_toArray, List.map_cons, List.map_nil]); first | done | rfl | (simp only [List.length_drop, List.length_take]; rfl)) ?_
  with_reducible refine (fixed_Saturate.calls a1_2 t250 _ A62.out).mono ?_; rintro e w75 ⟨rfl, hb⟩; refine ⟨_, rfl, ?_⟩; replace BK244 := ub BK244 hb; replace BK245 := ub BK245 hb; replace BK246 := ub BK246 hb; replace BK247 := ub BK247 hb; replace HB := bs HB hb; (try clear hb); (try clear hb2); (try clear hk); (try clear hi)
  refine hK.out _ _ ⟨bc BK245 0, bc BK245 1, bc BK245 2, bc BK245 3⟩ (fun hHeld => ?_)
  clear hK K
  refine norm_ (a' := ?_) ?_ ?_
  rotate_left
  ·show Act.put _ (some 22) _ = _
   simp only [Act.put, List.setIfInBounds_toArray, List.set_cons_zero, List.set_cons_succ, i64_w, i32_w]
   rfl
  refine one_ (i := 11) (N := some 25) #[true, true, true, true, true, true, true, true, true, true, true, true, false, false] rfl rfl (one_of HT_.out (by kernel_rfl)) (by decide) (fun K hK => ?_)
  refine goes_ Try.func21 (by kernel_rfl) rfl #[.int .i64 a1_3] (by rfl) rfl rfl (by (try simp only [List.map_toArray, List.map_cons, List.map_nil]); first | done | rfl | (simp only [List.length_drop, List.length_take]; rfl)) ?_
  with_reducible refine (fixed_Saturate.calls a1_3 t251 _ A63.out).mono ?_; rintro e w76 ⟨rfl, hb⟩; refine ⟨_, rfl, ?_⟩; replace BK244 := ub BK244 hb; replace BK245 := ub BK245 hb; replace BK246 := ub BK246 hb; replace BK247 := ub BK247 hb; replace HB := bs HB hb; (try clear hb); (try clear hb2); (try clear hk); (try clear hi)
  refine hK.out _ _ ⟨bc BK245 0, bc BK245 1, bc BK245 2, bc BK245 3⟩ (fun hHeld => ?_)
  clear hK K
  refine norm_ (a' := ?_) ?_ ?_
  rotate_left
  ·show Act.put _ (some 25) _ = _
   simp only [Act.put, List.setIfInBounds_toArray, List.set_cons_zero, List.set_cons_succ, i64_w, i32_w]
   rfl
  refine pure_ (i := 12) (N := some 26) (v := ?_) (a' := ?_) #[true, true, true, true, true, true, true, true, true, true, true, true, true, false] rfl rfl (any_of HT_.out (by kernel_rfl)) (fun _ _ _ h => h) (Or.inl ⟨by rfl, ?_⟩) ?_ ?_
  rotate_left
  ·intro w'
   go_simp
   with_reducible rfl
  rotate_left
  ·simp only [Act.put, List.setIfInBounds_toArray, List.set_cons_zero, List.set_cons_succ, i64_w, i32_w]
   rfl
  refine one_ (i := 13) (N := none) #[true, true, true, true, true, true, true, true, true, true, true, true, true, true] rfl rfl (one_of HT_.out (by kernel_rfl)) (by decide) (fun K hK => ?_)
  have hs77 : w76.cell? ⟨gb247, 0, none⟩ = some (.int .i64 0) := bc BK247 0
  have hfs77 := blk_frozen BK247.out 0; have hns77_0 := NB244_247.out; have hns77_1 := NB245_247.out; have hns77_2 := NB246_247.out; have hms77_0 := NB247_244.out; have hms77_1 := NB247_245.out; have hms77_2 := NB247_246.out
  have hs78 : w76.cell? ⟨gb247, 1, none⟩ = some (.int .i64 0) := bc BK247 1
  have hfs78 := blk_frozen BK247.out 1; have hns78_0 := NB244_247.out; have hns78_1 := NB245_247.out; have hns78_2 := NB246_247.out; have hms78_0 := NB247_244.out; have hms78_1 := NB247_245.out; have hms78_2 := NB247_246.out
  have hs79 : w76.cell? ⟨gb247, 2, none⟩ = some (.int .i64 0) := bc BK247 2
  have hfs79 := blk_frozen BK247.out 2; have hns79_0 := NB244_247.out; have hns79_1 := NB245_247.out; have hns79_2 := NB246_247.out; have hms79_0 := NB247_244.out; have hms79_1 := NB247_245.out; have hms79_2 := NB247_246.out
  have hs80 : w76.cell? ⟨gb247, 3, none⟩ = some (.int .i64 0) := bc BK247 3
  have hfs80 := blk_frozen BK247.out 3; have hns80_0 := NB244_247.out; have hns80_1 := NB245_247.out; have hns80_2 := NB246_247.out; have hms80_0 := NB247_244.out; have hms80_1 := NB247_245.out; have hms80_2 := NB247_246.out
  refine skip_ (w1 := ?_) (by rfl) rfl ?_ ?_
  rotate_left
  ·go_simp
   rfl
  refine hK.out _ _ ⟨(cf NB245_247 ((cf NB245_247 ((cf NB245_247 ((cf NB245_247 (hHeld.1)))))))), (cf NB245_247 ((cf NB245_247 ((cf NB245_247 ((cf NB245_247 (hHeld.2.1)))))))), (cf NB245_247 ((cf NB245_247 ((cf NB245_247 ((cf NB245_247 (hHeld.2.2.1)))))))), (cf NB245_247 ((cf NB245_247 ((cf NB245_247 ((cf NB245_247 (hHeld.2.2.2))))))))⟩ (fun hHeld => ?_)
  clear hK K
  refine done_ (done_of HT_.out (by kernel_rfl)) ?_
  try go_wp2
  refine bodyPost_ret (results_cell_row rfl _ _ gb247 27 #[.int .i64 t248, .int .i64 t249, .int .i64 t250, .int .i64 t251] (0, 0) _ rfl (by (with_reducible repeat (first | refine blk_drewN ?_ _ | refine blk_drew ?_ | refine blk_alloc ?_ _)); refine blk_put (cs := #[.int .i64 t248, .int .i64 t249, .int .i64 t250, .int .i64 0]) ?_ 3 _ rfl; (with_reducible repeat (first | refine blk_drewN ?_ _ | refine blk_drew ?_ | refine blk_alloc ?_ _)); refine blk_put (cs := #[.int .i64 t248, .int .i64 t249, .int .i64 0, .int .i64 0]) ?_ 2 _ rfl; (with_reducible repeat (first | refine blk_drewN ?_ _ | refine blk_drew ?_ | refine blk_alloc ?_ _)); refine blk_put (cs := #[.int .i64 t248, .int .i64 0, .int .i64 0, .int .i64 0]) ?_ 1 _ rfl; (with_reducible repeat (first | refine blk_drewN ?_ _ | refine blk_drew ?_ | refine blk_alloc ?_ _)); refine blk_put (cs := #[.int .i64 0, .int .i64 0, .int .i64 0, .int .i64 0]) ?_ 0 _ rfl; (with_reducible repeat (first | refine blk_drewN ?_ _ | refine blk_drew ?_ | refine blk_alloc ?_ _)); exact BK247.out) Try.underlying27 rfl (by kernel_rfl)) rfl ?_
  exact ⟨by first | rfl | (simp [errW_none, errW_some] <;> rfl) | (simp [*, errW_none, errW_some] <;> rfl), by repeat (first | (with_reducible first | exact HB.out | apply below_alloc | apply pw_below_drewN | apply below_drew1 | refine below_set ?_ GE244.out | refine below_set ?_ GE245.out | refine below_set ?_ GE246.out | refine below_set ?_ GE247.out) | exact HB.out)⟩



end Go.Proofs.YtgbneollfpmpkaaRR.PBlendEquation
