/- frustumref42.Merge: what it answers for two valid targets of one form. No condition beside those of the theorem. -/
import Derived.Test.YtmpmennepjkocaaPTargetMergex11
import Derived.Test.YtmpmennepjkocaaPTargetMergex12
import Derived.Test.YtmpmennepjkocaaPTargetMergex13
import Derived.Test.YtmpmennepjkocaaOut
import Derived.Test.YtmpmennepjkocaaMix
import Derived.StillTailTactics
namespace Go.Proofs.Ytmpmennepjkocaa.RMerge
open Go.RowKit Go.Proofs.YtmpmennepjkocaaW.PrintWords Go.Proofs.YtmpmennepjkocaaW.PrintLast Go.Proofs.YtmpmennepjkocaaW.PrintMore Go.Proofs.Ytmpmennepjkocaa.PTargetMerge Go.Proofs.Ytmpmennepjkocaa.Own Go.Proofs.Ytmpmennepjkocaa.Out Go.Proofs.Ytmpmennepjkocaa.Mix
set_option linter.unusedVariables false
set_option linter.unusedSimpArgs false
theorem inside_is (p a n : Int) : frustumref42_inside.f p a n = some (insB p a n) := by
  unfold frustumref42_inside.f insB
  by_cases h1 : a ≤ p
  · rw [if_pos h1, decide_eq_true h1]
    by_cases h2 : 0 < n
    · rw [if_pos h2, decide_eq_true h2]
      rfl
    · rw [if_neg h2, decide_eq_false h2]
      rfl
  · rw [if_neg h1, decide_eq_false h1]
    rfl
set_option maxHeartbeats 8000000 in
set_option maxRecDepth 100000 in
theorem yes (W H S z K : Nat) (f dp x y rw rh : Int) (A4 : Option Addr) (c4 : Nat) (l4 : List S47) (A5 : Option Addr) (c5 : Nat) (l5 : List Int) (A6 : Option Addr) (c6 : Nat) (l6 : List Int) (B4 : Option Addr) (d4 : Nat) (m4 : List S47) (B5 : Option Addr) (d5 : Nat) (m5 : List Int) (B6 : Option Addr) (d6 : Nat) (m6 : List Int) (w : World)
    (hr4 : Kd.C k47 w A4 l4.length l4) (hc4 : l4.length ≤ c4) (hr5 : Kd.C (Kd.int .i64) w A5 l5.length l5) (hc5 : l5.length ≤ c5) (hr6 : Kd.C (Kd.int .i64) w A6 l6.length l6) (hc6 : l6.length ≤ c6)
    (hu4 : Kd.C k47 w B4 m4.length m4) (hd4 : m4.length ≤ d4) (hu5 : Kd.C (Kd.int .i64) w B5 m5.length m5) (hd5 : m5.length ≤ d5) (hu6 : Kd.C (Kd.int .i64) w B6 m6.length m6) (hd6 : m6.length ≤ d6)
    (G : Fit W H S z f l4 l5 l6) (G' : Fit W H S z f m4 m5 m6)
    (CL : Aside0 (frustumref42_Clone.f K W H S dp l4 l5 l6 = some ((W : Int), (H : Int), (S : Int), dp, l4, l5, l6))) (V1 : Aside0 (frustumref42_Valid.f K W H S dp l4 l5 l6 = some true)) (V2 : Aside0 (frustumref42_Valid.f K W H S dp m4 m5 m6 = some true)) (SZ : Aside0 (frustumref09_Size.f K f = some (z : Int)))
    (OFF : Aside0 (∀ s px py : Nat, s < S → px < W → py < H → frustumref10_Offset.f K (rd_T47 l4 s).f0 (rd_T47 l4 s).f1 (rd_T47 l4 s).f2 (rd_T47 l4 s).f3 px py = some (((py * W + px) * z : Nat) : Int))) :
    Calls Try.prog 14 #[.agg #[.int .i64 W, .int .i64 H, .int .i64 S, .int .i64 dp, .slice A4 l4.length c4, .slice A5 l5.length c5, .slice A6 l6.length c6], .agg #[.int .i64 W, .int .i64 H, .int .i64 S, .int .i64 dp, .slice B4 m4.length d4, .slice B5 m5.length d5, .slice B6 m6.length d6], .int .i64 x, .int .i64 y, .int .i64 rw, .int .i64 rh] w fun e w' => ∃ (v4 v5 v6 : Value) (C : List S47) (D E : List Int), e = .returned (.agg #[.int .i64 W, .int .i64 H, .int .i64 S, .int .i64 dp, v4, v5, v6]) ∧ Made W S z (inR W x y rw rh) l4 m4 l5 m5 l6 m6 C D E ∧ Kd.S k47 47 w' w.heap.size (fun _ => True) v4 C ∧ Kd.R (Kd.int .i64) 3 w' w.heap.size (fun k => some k ≠ v6.ownBlock) v5 D ∧ Kd.R (Kd.int .i64) 3 w' w.heap.size (fun k => some k ≠ v5.ownBlock) v6 E ∧ Below w.heap.size w w' := by
  obtain ⟨ad4, A43, c43, rfl, e0, _⟩ := at_T47 hr4 0 (by omega) (by have := G.n4; have := G.hs; omega)
  obtain ⟨bd4, B43, d43, rfl, e1, _⟩ := at_T47 hu4 0 (by omega) (by have := G'.n4; have := G'.hs; omega)
  obtain ⟨bd5, rfl, _⟩ := Kd.at_int hu5 0 (by omega) (by rw [G'.n5]; exact Int.natCast_pos.2 (Nat.mul_pos (Nat.mul_pos G'.hw.1 G'.hh.1) G'.hs.1))
  obtain ⟨bd6, rfl, _⟩ := Kd.at_int hu6 0 (by omega) (by rw [G'.n6]; exact Int.natCast_pos.2 (Nat.mul_pos (Nat.mul_pos G'.hw.1 G'.hh.1) G'.hs.1))
  rw [show ((0 : Int)).toNat = 0 from rfl, show 0 * 4 = 0 from rfl, Addr.add_zero'] at e0 e1
  have E0 : Aside0 (w.cell? ad4 = some (.int .i64 f)) := ⟨by rw [e0]; exact congrArg (fun v => some (Value.int .i64 v)) (G.img 0 (by have := G.hs; omega)).1⟩
  have E1 : Aside0 (w.cell? bd4 = some (.int .i64 f)) := ⟨by rw [e1]; exact congrArg (fun v => some (Value.int .i64 v)) (G'.img 0 (by have := G.hs; omega)).1⟩
  have b1 : decide (0 < (l4.length : Int)) = true := decide_eq_true (by have := G.n4; have := G.hs; omega)
  have b2 : decide (0 < (m4.length : Int)) = true := decide_eq_true (by have := G'.n4; have := G'.hs; omega)
  have b3 : (0 < l4.length) = True := eq_true (by have := G.n4; have := G.hs; omega)
  have b4 : (0 < m4.length) = True := eq_true (by have := G'.n4; have := G'.hs; omega)
  clear e0 e1
  have HR4 := Aside0.mk hr4
  have HC4 := Aside0.mk hc4
  have HU4 := Aside0.mk hu4
  have HD4 := Aside0.mk hd4
  have HR5 := Aside0.mk hr5
  have HC5 := Aside0.mk hc5
  have HU5 := Aside0.mk hu5
  have HD5 := Aside0.mk hd5
  have HR6 := Aside0.mk hr6
  have HC6 := Aside0.mk hc6
  have HU6 := Aside0.mk hu6
  have HD6 := Aside0.mk hd6
  clear hr4 hc4 hr5 hc5 hr6 hc6 hu4 hd4 hu5 hd5 hu6 hd6
  have P4 : Aside0 (0 < l4.length) := ⟨by have := G.n4; have := G.hs; omega⟩
  have P5 : Aside0 (0 < l5.length) := ⟨by rw [G.n5]; exact Nat.mul_pos (Nat.mul_pos G.hw.1 G.hh.1) G.hs.1⟩
  have P6 : Aside0 (0 < l6.length) := ⟨by rw [G.n6]; exact Nat.mul_pos (Nat.mul_pos G.hw.1 G.hh.1) G.hs.1⟩
  have GA := Aside0.mk G
  have GB := Aside0.mk G'
  clear G G'
  have hu28 := Try.underlying28
  have hu47 := Try.underlying47
  go_enter Try.func14, Try.ntmps14
  go_upto_region 1 with (fail)
  have HL : Aside0 (Owns w [(w.heap.size + 1 + 1, #[.int .i64 0, .int .i64 0, .int .i64 0, .int .i64 0, .slice none 0 0, .slice none 0 0, .slice none 0 0], 28), (w.heap.size + 1, #[.int .i64 W, .int .i64 H, .int .i64 S, .int .i64 dp, .slice (some bd4) m4.length d4, .slice (some bd5) m5.length d5, .slice (some bd6) m6.length d6], 28), (w.heap.size, #[.int .i64 W, .int .i64 H, .int .i64 S, .int .i64 dp, .slice (some ad4) l4.length c4, .slice A5 l5.length c5, .slice A6 l6.length c6], 28)] (((w.alloc (Obj.cells #[.int .i64 W, .int .i64 H, .int .i64 S, .int .i64 dp, .slice (some ad4) l4.length c4, .slice A5 l5.length c5, .slice A6 l6.length c6] 28)).alloc (Obj.cells #[.int .i64 W, .int .i64 H, .int .i64 S, .int .i64 dp, .slice (some bd4) m4.length d4, .slice (some bd5) m5.length d5, .slice (some bd6) m6.length d6] 28)).alloc (Obj.cells #[.int .i64 0, .int .i64 0, .int .i64 0, .int .i64 0, .slice none 0 0, .slice none 0 0, .slice none 0 0] 28))) := ⟨by simpa using (((Owns.start w).alloc _ _).alloc _ _).alloc _ _⟩
  generalize (((w.alloc (Obj.cells #[.int .i64 W, .int .i64 H, .int .i64 S, .int .i64 dp, .slice (some ad4) l4.length c4, .slice A5 l5.length c5, .slice A6 l6.length c6] 28)).alloc (Obj.cells #[.int .i64 W, .int .i64 H, .int .i64 S, .int .i64 dp, .slice (some bd4) m4.length d4, .slice (some bd5) m5.length d5, .slice (some bd6) m6.length d6] 28)).alloc (Obj.cells #[.int .i64 0, .int .i64 0, .int .i64 0, .int .i64 0, .slice none 0 0, .slice none 0 0, .slice none 0 0] 28)) = wa at HL ⊢
  have hlo := Aside0.mk HL.out.bel.size
  have p0 := Owns.cell HL.out 2 _ _ 28 rfl 0 _ rfl
  have p1 := Owns.cell HL.out 2 _ _ 28 rfl 1 _ rfl
  have p2 := Owns.cell HL.out 2 _ _ 28 rfl 2 _ rfl
  have p3 := Owns.cell HL.out 2 _ _ 28 rfl 3 _ rfl
  have p4 := Owns.cell HL.out 2 _ _ 28 rfl 4 _ rfl
  have p5 := Owns.cell HL.out 2 _ _ 28 rfl 5 _ rfl
  have p6 := Owns.cell HL.out 2 _ _ 28 rfl 6 _ rfl
  go_upto_region 2 with (go_at_call 39; (with_reducible refine (frustumref42_Clone.calls K W H S dp (some ad4) c4 l4 A5 c5 l5 A6 c6 l6 W H S dp l4 l5 l6 _ ?s4 HC4.out ?s5 HC5.out ?s6 HC6.out CL.out).mono ?_); (case s4 => exact Kd.C_below HR4.out (by repeat (first | exact HL.out.own.bel | exact HL.out.bel | apply below_alloc | apply pw_below_drewN | apply below_drew1))); (case s5 => exact Kd.C_below HR5.out (by repeat (first | exact HL.out.own.bel | exact HL.out.bel | apply below_alloc | apply pw_below_drewN | apply below_drew1))); (case s6 => exact Kd.C_below HR6.out (by repeat (first | exact HL.out.own.bel | exact HL.out.bel | apply below_alloc | apply pw_below_drewN | apply below_drew1))); rintro e w3 ⟨v4, v5, v6, rfl, ho4, ho5, ho6, hb⟩; have hlow := hlo.out; have HT := Aside0.mk (Owns.step (by repeat (first | exact HL.out | (with_reducible apply Owns.drewN) | (with_reducible apply Owns.drew))) hb); clear HL; have HL := HT; clear HT; obtain ⟨g4, o4, rfl, _⟩ := Kd.S_form ho4 P4.out; obtain ⟨g5, o5, rfl, _⟩ := Kd.R_form ho5 P5.out; obtain ⟨g6, o6, rfl, _⟩ := Kd.R_form ho6 P6.out; have HS := Aside0.mk (St.mk HL.out (Kd.S_lower ho4 hlow) (Kd.R_lower ho5 hlow) (Kd.R_lower ho6 hlow)); clear ho4 ho5 ho6 hb hlow HL)
  have HT := Aside0.mk (HS.out.alloc #[.int .i64 W, .int .i64 H, .int .i64 S, .int .i64 dp, .slice (some ⟨g4, 0, none⟩) l4.length o4, .slice (some ⟨g5, 0, none⟩) l5.length o5, .slice (some ⟨g6, 0, none⟩) l6.length o6] 28)
  clear HS
  have HS := HT
  clear HT
  obtain ⟨g3, hg3⟩ : ∃ g, g = w3.heap.size := ⟨_, rfl⟩
  rw [← hg3] at HS
  rw [← hg3]
  generalize (w3.alloc (Obj.cells #[.int .i64 W, .int .i64 H, .int .i64 S, .int .i64 dp, .slice (some ⟨g4, 0, none⟩) l4.length o4, .slice (some ⟨g5, 0, none⟩) l5.length o5, .slice (some ⟨g6, 0, none⟩) l6.length o6] 28)) = wb at HS ⊢
  clear hg3
  go_cut [71] (fun v71 wc => v71 = .bool false ∧ Aside0 (St w wc [(g3, #[.int .i64 W, .int .i64 H, .int .i64 S, .int .i64 dp, .slice (some ⟨g4, 0, none⟩) l4.length o4, .slice (some ⟨g5, 0, none⟩) l5.length o5, .slice (some ⟨g6, 0, none⟩) l6.length o6], 28), (w.heap.size + 1 + 1, #[.int .i64 0, .int .i64 0, .int .i64 0, .int .i64 0, .slice none 0 0, .slice none 0 0, .slice none 0 0], 28), (w.heap.size + 1, #[.int .i64 W, .int .i64 H, .int .i64 S, .int .i64 dp, .slice (some bd4) m4.length d4, .slice (some bd5) m5.length d5, .slice (some bd6) m6.length d6], 28), (w.heap.size, #[.int .i64 W, .int .i64 H, .int .i64 S, .int .i64 dp, .slice (some ad4) l4.length c4, .slice A5 l5.length c5, .slice A6 l6.length c6], 28)] (.slice (some ⟨g4, 0, none⟩) l4.length o4) (.slice (some ⟨g5, 0, none⟩) l5.length o5) (.slice (some ⟨g6, 0, none⟩) l6.length o6) l4 l5 l6))
  case first =>
    have q1 := Owns.cell HS.out.own 2 _ _ 28 rfl 0 _ rfl
    go_region_held3 (fun w' => w'.cell? ⟨w.heap.size, 0, none⟩ = some (.int .i64 W) ∧ w'.cell? ⟨w.heap.size, 1, none⟩ = some (.int .i64 H) ∧ w'.cell? ⟨w.heap.size, 2, none⟩ = some (.int .i64 S) ∧ w'.cell? ⟨w.heap.size, 3, none⟩ = some (.int .i64 dp) ∧ w'.cell? ⟨w.heap.size, 4, none⟩ = some (.slice (some ad4) l4.length c4) ∧ w'.cell? ⟨w.heap.size, 5, none⟩ = some (.slice A5 l5.length c5) ∧ w'.cell? ⟨w.heap.size, 6, none⟩ = some (.slice A6 l6.length c6) ∧ w'.cell? ⟨w.heap.size + 1, 0, none⟩ = some (.int .i64 W) ∧ w'.cell? ⟨w.heap.size + 1, 1, none⟩ = some (.int .i64 H) ∧ w'.cell? ⟨w.heap.size + 1, 2, none⟩ = some (.int .i64 S) ∧ w'.cell? ⟨w.heap.size + 1, 3, none⟩ = some (.int .i64 dp) ∧ w'.cell? ⟨w.heap.size + 1, 4, none⟩ = some (.slice (some bd4) m4.length d4) ∧ w'.cell? ⟨w.heap.size + 1, 5, none⟩ = some (.slice (some bd5) m5.length d5) ∧ w'.cell? ⟨w.heap.size + 1, 6, none⟩ = some (.slice (some bd6) m6.length d6) ∧ w'.cell? ad4 = some (.int .i64 f) ∧ w'.cell? bd4 = some (.int .i64 f)) (first | exact ⟨Owns.cell HS.out.own 3 _ _ 28 rfl 0 _ rfl, Owns.cell HS.out.own 3 _ _ 28 rfl 1 _ rfl, Owns.cell HS.out.own 3 _ _ 28 rfl 2 _ rfl, Owns.cell HS.out.own 3 _ _ 28 rfl 3 _ rfl, Owns.cell HS.out.own 3 _ _ 28 rfl 4 _ rfl, Owns.cell HS.out.own 3 _ _ 28 rfl 5 _ rfl, Owns.cell HS.out.own 3 _ _ 28 rfl 6 _ rfl, Owns.cell HS.out.own 2 _ _ 28 rfl 0 _ rfl, Owns.cell HS.out.own 2 _ _ 28 rfl 1 _ rfl, Owns.cell HS.out.own 2 _ _ 28 rfl 2 _ rfl, Owns.cell HS.out.own 2 _ _ 28 rfl 3 _ rfl, Owns.cell HS.out.own 2 _ _ 28 rfl 4 _ rfl, Owns.cell HS.out.own 2 _ _ 28 rfl 5 _ rfl, Owns.cell HS.out.own 2 _ _ 28 rfl 6 _ rfl, pw_cell_below HS.out.own.bel E0.out, pw_cell_below HS.out.own.bel E1.out⟩ | go_keep) (first | (go_at_call 12; (with_reducible refine (frustumref42_Valid.calls K W H S dp (some ad4) c4 l4 A5 c5 l5 A6 c6 l6 true _ ?s4 HC4.out ?s5 HC5.out ?s6 HC6.out V1.out).mono ?_); (case s4 => exact Kd.C_below HR4.out (by repeat (first | exact HS.out.own.bel | apply below_alloc | apply pw_below_drewN | apply below_drew1))); (case s5 => exact Kd.C_below HR5.out (by repeat (first | exact HS.out.own.bel | apply below_alloc | apply pw_below_drewN | apply below_drew1))); (case s6 => exact Kd.C_below HR6.out (by repeat (first | exact HS.out.own.bel | apply below_alloc | apply pw_below_drewN | apply below_drew1))); rintro e w4 ⟨rfl, hb⟩; have HT := Aside0.mk (St.step (by repeat (first | exact HS.out | (with_reducible apply St.drewN) | (with_reducible apply St.drew))) hb); clear HS hb; have HS := HT; clear HT) | (go_at_call 12; (with_reducible refine (frustumref42_Valid.calls K W H S dp (some bd4) d4 m4 (some bd5) d5 m5 (some bd6) d6 m6 true _ ?s4 HD4.out ?s5 HD5.out ?s6 HD6.out V2.out).mono ?_); (case s4 => exact Kd.C_below HU4.out (by repeat (first | exact HS.out.own.bel | apply below_alloc | apply pw_below_drewN | apply below_drew1))); (case s5 => exact Kd.C_below HU5.out (by repeat (first | exact HS.out.own.bel | apply below_alloc | apply pw_below_drewN | apply below_drew1))); (case s6 => exact Kd.C_below HU6.out (by repeat (first | exact HS.out.own.bel | apply below_alloc | apply pw_below_drewN | apply below_drew1))); rintro e w5 ⟨rfl, hb⟩; have HT := Aside0.mk (St.step (by repeat (first | exact HS.out | (with_reducible apply St.drewN) | (with_reducible apply St.drew))) hb); clear HS hb; have HS := HT; clear HT))

    go_wp2
    go_meet
    case rel => exact ⟨rfl, ⟨(by repeat (first | exact HS.out | (with_reducible apply St.drewN) | (with_reducible apply St.drew)))⟩⟩
  case rest =>
    obtain ⟨rfl, HS⟩ := hcut
    have q4 := Owns.cell HS.out.own 3 _ _ 28 rfl 4 _ rfl
    have e0 := pw_cell_below HS.out.own.bel E0.out
    go_wp2_with (go_at_call 40; (with_reducible refine (frustumref09_Size.calls K f z _ SZ.out).mono ?_); rintro e w6 ⟨rfl, ⟨n6, rfl⟩⟩)
    go_loopw [15] (fun v wr => ∃ (py : Nat) (C : List S47) (D E : List Int), py ≤ H ∧ v = .int .i64 py ∧ Aside0 (St w wr [(g3, #[.int .i64 W, .int .i64 H, .int .i64 S, .int .i64 dp, .slice (some ⟨g4, 0, none⟩) l4.length o4, .slice (some ⟨g5, 0, none⟩) l5.length o5, .slice (some ⟨g6, 0, none⟩) l6.length o6], 28), (w.heap.size + 1 + 1, #[.int .i64 0, .int .i64 0, .int .i64 0, .int .i64 0, .slice none 0 0, .slice none 0 0, .slice none 0 0], 28), (w.heap.size + 1, #[.int .i64 W, .int .i64 H, .int .i64 S, .int .i64 dp, .slice (some bd4) m4.length d4, .slice (some bd5) m5.length d5, .slice (some bd6) m6.length d6], 28), (w.heap.size, #[.int .i64 W, .int .i64 H, .int .i64 S, .int .i64 dp, .slice (some ad4) l4.length c4, .slice A5 l5.length c5, .slice A6 l6.length c6], 28)] (.slice (some ⟨g4, 0, none⟩) l4.length o4) (.slice (some ⟨g5, 0, none⟩) l5.length o5) (.slice (some ⟨g6, 0, none⟩) l6.length o6) C D E) ∧ Aside0 (MadeTo W S z (inR W x y rw rh) l4 m4 l5 m5 l6 m6 (py * W * S) C D E)) (fun v _ => H - (intOf v).toNat)
    case atStart => exact ⟨0, _, _, _, Nat.zero_le _, rfl, ⟨(by repeat (first | exact HS.out | (with_reducible apply St.drewN) | (with_reducible apply St.drew)))⟩, ⟨by rw [Nat.zero_mul, Nat.zero_mul]; exact MadeTo.start⟩⟩
    case round =>
      clear q4 e0
      clear HS
      obtain ⟨py, C, D, E, hpy, rfl, HS, HM⟩ := hrel
      have r1 := Owns.cell HS.out.own 3 _ _ 28 rfl 1 _ rfl
      by_cases hlt : py < H
      · have b5 : decide ((py : Int) < (H : Int)) = true := decide_eq_true (by omega)
        go_wp2_with fail
        go_loopw [16] (fun v wr => ∃ (px : Nat) (C : List S47) (D E : List Int), px ≤ W ∧ v = .int .i64 px ∧ Aside0 (St w wr [(g3, #[.int .i64 W, .int .i64 H, .int .i64 S, .int .i64 dp, .slice (some ⟨g4, 0, none⟩) l4.length o4, .slice (some ⟨g5, 0, none⟩) l5.length o5, .slice (some ⟨g6, 0, none⟩) l6.length o6], 28), (w.heap.size + 1 + 1, #[.int .i64 0, .int .i64 0, .int .i64 0, .int .i64 0, .slice none 0 0, .slice none 0 0, .slice none 0 0], 28), (w.heap.size + 1, #[.int .i64 W, .int .i64 H, .int .i64 S, .int .i64 dp, .slice (some bd4) m4.length d4, .slice (some bd5) m5.length d5, .slice (some bd6) m6.length d6], 28), (w.heap.size, #[.int .i64 W, .int .i64 H, .int .i64 S, .int .i64 dp, .slice (some ad4) l4.length c4, .slice A5 l5.length c5, .slice A6 l6.length c6], 28)] (.slice (some ⟨g4, 0, none⟩) l4.length o4) (.slice (some ⟨g5, 0, none⟩) l5.length o5) (.slice (some ⟨g6, 0, none⟩) l6.length o6) C D E) ∧ Aside0 (MadeTo W S z (inR W x y rw rh) l4 m4 l5 m5 l6 m6 ((py * W + px) * S) C D E)) (fun v _ => W - (intOf v).toNat)
        case atStart => exact ⟨0, C, D, E, Nat.zero_le _, rfl, ⟨(by repeat (first | exact HS.out | (with_reducible apply St.drewN) | (with_reducible apply St.drew)))⟩, by rw [Nat.add_zero]; exact HM⟩
        case round =>
          clear r1
          clear HS HM
          obtain ⟨px, C, D, E, hpx, rfl, HS, HM⟩ := hrel
          have r0 := Owns.cell HS.out.own 3 _ _ 28 rfl 0 _ rfl
          by_cases hlt2 : px < W
          · have b6 : decide ((px : Int) < (W : Int)) = true := decide_eq_true (by omega)
            go_wp2_with fail
            go_loopw [17] (fun v wr => ∃ (s : Nat) (C : List S47) (D E : List Int), s ≤ S ∧ v = .int .i64 s ∧ Aside0 (St w wr [(g3, #[.int .i64 W, .int .i64 H, .int .i64 S, .int .i64 dp, .slice (some ⟨g4, 0, none⟩) l4.length o4, .slice (some ⟨g5, 0, none⟩) l5.length o5, .slice (some ⟨g6, 0, none⟩) l6.length o6], 28), (w.heap.size + 1 + 1, #[.int .i64 0, .int .i64 0, .int .i64 0, .int .i64 0, .slice none 0 0, .slice none 0 0, .slice none 0 0], 28), (w.heap.size + 1, #[.int .i64 W, .int .i64 H, .int .i64 S, .int .i64 dp, .slice (some bd4) m4.length d4, .slice (some bd5) m5.length d5, .slice (some bd6) m6.length d6], 28), (w.heap.size, #[.int .i64 W, .int .i64 H, .int .i64 S, .int .i64 dp, .slice (some ad4) l4.length c4, .slice A5 l5.length c5, .slice A6 l6.length c6], 28)] (.slice (some ⟨g4, 0, none⟩) l4.length o4) (.slice (some ⟨g5, 0, none⟩) l5.length o5) (.slice (some ⟨g6, 0, none⟩) l6.length o6) C D E) ∧ Aside0 (MadeTo W S z (inR W x y rw rh) l4 m4 l5 m5 l6 m6 ((py * W + px) * S + s) C D E)) (fun v _ => S - (intOf v).toNat)
            case atStart => exact ⟨0, C, D, E, Nat.zero_le _, rfl, ⟨(by repeat (first | exact HS.out | (with_reducible apply St.drewN) | (with_reducible apply St.drew)))⟩, HM⟩
            case round =>
              clear r0 HS HM
              obtain ⟨s, C, D, E, hs, rfl, HS, HM⟩ := hrel
              have r2 := Owns.cell HS.out.own 3 _ _ 28 rfl 2 _ rfl
              by_cases hlt3 : s < S
              · have b7 : decide ((s : Int) < (S : Int)) = true := decide_eq_true (by omega)
                obtain ⟨i1, hi1⟩ : ∃ b, b = insB px x rw := ⟨_, rfl⟩
                obtain ⟨i2, hi2⟩ : ∃ b, b = insB py y rh := ⟨_, rfl⟩
                have I1 := Aside0.mk ((inside_is px x rw).trans (congrArg some hi1.symm))
                have I2 := Aside0.mk ((inside_is py y rh).trans (congrArg some hi2.symm))
                have HI1 := Aside0.mk hi1
                have HI2 := Aside0.mk hi2
                clear hi1 hi2
                cases i1 with
                | false =>
                  clear I2
                  go_wp2_with (go_at_call 41; (with_reducible refine (frustumref42_inside.calls px x rw false _ I1.out).mono ?_); rintro e w7 ⟨rfl, ⟨nw7, rfl⟩⟩)
                  exact ⟨⟨px + 1, C, D, E, by omega, wrapS px W (by omega) (by have := GA.out.hw; omega), ⟨(by repeat (first | exact HS.out | (with_reducible apply St.drewN) | (with_reducible apply St.drew)))⟩, ⟨by rw [← Nat.add_assoc]; exact HM.out.skip GA.out (py * W + px) (fun hh => by have hh := ((inR_at hlt2).1 hh).1; rw [← HI1.out] at hh; exact absurd hh (by decide)) (Nat.le_add_right _ _) (by rw [Nat.add_mul _ 1, Nat.one_mul]; omega)⟩⟩, meas px W (by omega) (by have := GA.out.hw; omega)⟩
                | true =>
                  cases i2 with
                  | false =>
                    go_wp2_with (first | (go_at_call 41; (with_reducible refine (frustumref42_inside.calls px x rw true _ I1.out).mono ?_); rintro e w7 ⟨rfl, ⟨nw7, rfl⟩⟩) | (go_at_call 41; (with_reducible refine (frustumref42_inside.calls py y rh false _ I2.out).mono ?_); rintro e w8 ⟨rfl, ⟨nw8, rfl⟩⟩))
                    exact ⟨⟨px + 1, C, D, E, by omega, wrapS px W (by omega) (by have := GA.out.hw; omega), ⟨(by repeat (first | exact HS.out | (with_reducible apply St.drewN) | (with_reducible apply St.drew)))⟩, ⟨by rw [← Nat.add_assoc]; exact HM.out.skip GA.out (py * W + px) (fun hh => by have hh := ((inR_at hlt2).1 hh).2; rw [← HI2.out] at hh; exact absurd hh (by decide)) (Nat.le_add_right _ _) (by rw [Nat.add_mul _ 1, Nat.one_mul]; omega)⟩⟩, meas px W (by omega) (by have := GA.out.hw; omega)⟩
                  | true =>
                    go_wp2_with (first | (go_at_call 41; (with_reducible refine (frustumref42_inside.calls px x rw true _ I1.out).mono ?_); rintro e w7 ⟨rfl, ⟨nw7, rfl⟩⟩) | (go_at_call 41; (with_reducible refine (frustumref42_inside.calls py y rh true _ I2.out).mono ?_); rintro e w8 ⟨rfl, ⟨nw8, rfl⟩⟩))
                    obtain ⟨ad', A3, c3, e, h0, h1, h2, h3, hl3, hr3⟩ := at_T47 HR4.out (s : Int) (by omega) (by have := GA.out.n4; omega)
                    obtain rfl := Option.some.inj e
                    rw [Int.toNat_natCast] at h0 h1 h2 h3
                    have X0 := Aside0.mk h0
                    have X1 := Aside0.mk h1
                    have X2 := Aside0.mk h2
                    have X3 := Aside0.mk h3
                    have XL := Aside0.mk hl3
                    have XR := Aside0.mk hr3
                    clear h0 h1 h2 h3 hl3 hr3 e
                    have OF := Aside0.mk (OFF.out s px py hlt3 hlt2 hlt)
                    have hz1 : py * W ≤ 64 * 64 := Nat.mul_le_mul (by have := GA.out.hh; omega) GA.out.hw.2
                    have hz2 : (py * W + px) * S ≤ (64 * 64 + 64) * 8 := Nat.mul_le_mul (by have := GA.out.hw; omega) GA.out.hs.2
                    have hz3 : (py * W + px) * z ≤ (64 * 64 + 64) * 16 := Nat.mul_le_mul (by have := GA.out.hw; omega) GA.out.hz.2
                    obtain ⟨n1, hn1⟩ : ∃ n : Nat, n = py * W := ⟨_, rfl⟩
                    obtain ⟨q, hq⟩ : ∃ n : Nat, n = py * W + px := ⟨_, rfl⟩
                    obtain ⟨n3, hn3⟩ : ∃ n : Nat, n = q * S := ⟨_, rfl⟩
                    obtain ⟨jj, hjj⟩ : ∃ n : Nat, n = q * S + s := ⟨_, rfl⟩
                    obtain ⟨ao, hao⟩ : ∃ n : Nat, n = q * z := ⟨_, rfl⟩
                    rw [← hq] at hz2 hz3
                    have a1 := wrap_nat ((py : Int) * (W : Int)) n1 (by rw [hn1, Int.natCast_mul]) (by omega)
                    have a2 := wrap_nat ((n1 : Int) + (px : Int)) q (by omega) (by have := GA.out.hw; omega)
                    have a3 := wrap_nat ((q : Int) * (S : Int)) n3 (by rw [hn3, Int.natCast_mul]) (by omega)
                    have a4 := wrap_nat ((n3 : Int) + (s : Int)) jj (by omega) (by have := GA.out.hs; omega)
                    rw [← hq, ← hao] at OF
                    have QE := Aside0.mk (And.intro hq (And.intro hjj hao))
                    clear hq hjj hao hn1 hn3
                    have p1 : (0 ≤ (s : Int)) = True := eq_true (by omega)
                    have p2 : ((s : Int) < (l4.length : Int)) = True := eq_true (by have := GA.out.n4; omega)
                    clear b5 b6 b7 r2
                    go_cut [18, 19] (fun v18 v19 wc => v18 = .int .i64 (ao : Int) ∧ v19 = .int .i64 (jj : Int) ∧ Aside0 (St w wc [(g3, #[.int .i64 W, .int .i64 H, .int .i64 S, .int .i64 dp, .slice (some ⟨g4, 0, none⟩) l4.length o4, .slice (some ⟨g5, 0, none⟩) l5.length o5, .slice (some ⟨g6, 0, none⟩) l6.length o6], 28), (w.heap.size + 1 + 1, #[.int .i64 0, .int .i64 0, .int .i64 0, .int .i64 0, .slice none 0 0, .slice none 0 0, .slice none 0 0], 28), (w.heap.size + 1, #[.int .i64 W, .int .i64 H, .int .i64 S, .int .i64 dp, .slice (some bd4) m4.length d4, .slice (some bd5) m5.length d5, .slice (some bd6) m6.length d6], 28), (w.heap.size, #[.int .i64 W, .int .i64 H, .int .i64 S, .int .i64 dp, .slice (some ad4) l4.length c4, .slice A5 l5.length c5, .slice A6 l6.length c6], 28)] (.slice (some ⟨g4, 0, none⟩) l4.length o4) (.slice (some ⟨g5, 0, none⟩) l5.length o5) (.slice (some ⟨g6, 0, none⟩) l6.length o6) C D E))
                    case first =>
                      go_region_held3 (fun w' => w'.cell? ⟨w.heap.size, 0, none⟩ = some (.int .i64 W) ∧ w'.cell? ⟨w.heap.size, 1, none⟩ = some (.int .i64 H) ∧ w'.cell? ⟨w.heap.size, 2, none⟩ = some (.int .i64 S) ∧ w'.cell? ⟨w.heap.size, 3, none⟩ = some (.int .i64 dp) ∧ w'.cell? ⟨w.heap.size, 4, none⟩ = some (.slice (some ad4) l4.length c4) ∧ w'.cell? ⟨w.heap.size, 5, none⟩ = some (.slice A5 l5.length c5) ∧ w'.cell? ⟨w.heap.size, 6, none⟩ = some (.slice A6 l6.length c6) ∧ w'.cell? (ad4.add (s * 4)) = some (.int .i64 (rd_T47 l4 s).f0) ∧ w'.cell? ⟨(ad4.add (s * 4)).block, (ad4.add (s * 4)).off + 1, none⟩ = some (.int .i64 (rd_T47 l4 s).f1) ∧ w'.cell? ⟨(ad4.add (s * 4)).block, (ad4.add (s * 4)).off + 2, none⟩ = some (.int .i64 (rd_T47 l4 s).f2) ∧ w'.cell? ⟨(ad4.add (s * 4)).block, (ad4.add (s * 4)).off + 3, none⟩ = some (.slice A3 (rd_T47 l4 s).f3.length c3)) (first | exact ⟨Owns.cell HS.out.own 3 _ _ 28 rfl 0 _ rfl, Owns.cell HS.out.own 3 _ _ 28 rfl 1 _ rfl, Owns.cell HS.out.own 3 _ _ 28 rfl 2 _ rfl, Owns.cell HS.out.own 3 _ _ 28 rfl 3 _ rfl, Owns.cell HS.out.own 3 _ _ 28 rfl 4 _ rfl, Owns.cell HS.out.own 3 _ _ 28 rfl 5 _ rfl, Owns.cell HS.out.own 3 _ _ 28 rfl 6 _ rfl, pw_cell_below HS.out.own.bel X0.out, pw_cell_below HS.out.own.bel X1.out, pw_cell_below HS.out.own.bel X2.out, pw_cell_below HS.out.own.bel X3.out⟩ | go_keep) (first | (go_at_call 42; (with_reducible refine (frustumref10_Offset.calls K (rd_T47 l4 s).f0 (rd_T47 l4 s).f1 (rd_T47 l4 s).f2 A3 c3 (rd_T47 l4 s).f3 px py (ao : Int) _ ?o1 ?o2 OF.out).mono ?_); (case o1 => exact Kd.C_below XR.out (by repeat (first | exact HS.out.own.bel | apply below_alloc | apply pw_below_drewN | apply below_drew1))); (case o2 => exact XL.out); rintro e w9 ⟨rfl, hb⟩; have HT := Aside0.mk (St.step (by repeat (first | exact HS.out | (with_reducible apply St.drewN) | (with_reducible apply St.drew))) hb); clear HS hb; have HS := HT; clear HT))
                      go_wp2
                      go_meet
                      case rel => exact ⟨rfl, rfl, ⟨(by repeat (first | exact HS.out | (with_reducible apply St.drewN) | (with_reducible apply St.drew)))⟩⟩
                    case rest =>
                      obtain ⟨rfl, rfl, HS⟩ := hcut
                      clear hz1 hz2 a1 a2 a3 a4 n1 n3
                      clear X0 X1 X2 X3 XL XR OF
                      obtain ⟨hq, hjj, hao⟩ := QE.out
                      have HM : Aside0 (MadeTo W S z (inR W x y rw rh) l4 m4 l5 m5 l6 m6 (q * S + s) C D E) := by rw [hq]; exact HM
                      have HI0 := Aside0.mk (mid_start HM.out.hc)
                      go_wp2_with fail
                      go_loopw [20] (fun v wr => ∃ (k : Nat) (C : List S47), k ≤ z ∧ v = .int .i64 k ∧ Aside0 (St w wr [(g3, #[.int .i64 W, .int .i64 H, .int .i64 S, .int .i64 dp, .slice (some ⟨g4, 0, none⟩) l4.length o4, .slice (some ⟨g5, 0, none⟩) l5.length o5, .slice (some ⟨g6, 0, none⟩) l6.length o6], 28), (w.heap.size + 1 + 1, #[.int .i64 0, .int .i64 0, .int .i64 0, .int .i64 0, .slice none 0 0, .slice none 0 0, .slice none 0 0], 28), (w.heap.size + 1, #[.int .i64 W, .int .i64 H, .int .i64 S, .int .i64 dp, .slice (some bd4) m4.length d4, .slice (some bd5) m5.length d5, .slice (some bd6) m6.length d6], 28), (w.heap.size, #[.int .i64 W, .int .i64 H, .int .i64 S, .int .i64 dp, .slice (some ad4) l4.length c4, .slice A5 l5.length c5, .slice A6 l6.length c6], 28)] (.slice (some ⟨g4, 0, none⟩) l4.length o4) (.slice (some ⟨g5, 0, none⟩) l5.length o5) (.slice (some ⟨g6, 0, none⟩) l6.length o6) C D E) ∧ Aside0 (Imgs (MidP S z (inR W x y rw rh) q s k) l4 m4 C)) (fun v _ => z - (intOf v).toNat)
                      case atStart => exact ⟨0, C, Nat.zero_le _, rfl, ⟨(by repeat (first | exact HS.out | (with_reducible apply St.drewN) | (with_reducible apply St.drew)))⟩, HI0⟩
                      case round =>
                        clear HI0 HS p1 p2
                        obtain ⟨k, C, hk, rfl, HS, HI⟩ := hrel
                        by_cases hlt4 : k < z
                        · have b8 : decide ((k : Int) < (z : Int)) = true := decide_eq_true (by omega)
                          go_wp2_with fail
                          clear b8
                          obtain ⟨ik, hik⟩ : ∃ n : Nat, n = ao + k := ⟨_, rfl⟩
                          have hz5 := hz3
                          have hz4 : ik < W * H * z := by
                            rw [hik, hao]
                            have h1 : q + 1 ≤ W * H := by
                              rw [hq, Nat.mul_comm W H]
                              have : (py + 1) * W ≤ H * W := Nat.mul_le_mul_right _ hlt
                              rw [Nat.add_mul, Nat.one_mul] at this
                              omega
                            have h2 : (q + 1) * z ≤ W * H * z := Nat.mul_le_mul_right _ h1
                            rw [Nat.add_mul, Nat.one_mul] at h2
                            omega
                          have hs4 : s < l4.length := by have := GA.out.n4; omega
                          have hs5 : s < m4.length := by have := GB.out.n4; omega
                          obtain ⟨ad2, B3, d3, e2, k0, k1, k2, k3, kl3, kr3⟩ := at_T47 HU4.out (s : Int) (by omega) (by omega)
                          obtain rfl := Option.some.inj e2
                          rw [Int.toNat_natCast] at k3
                          have hmu : (rd_T47 m4 s).f3.length = W * H * z := (GB.out.img s (by have := GB.out.n4; omega)).2.2.2
                          have hmc : (rd_T47 C s).f3.length = W * H * z := by rw [(HI.out.img s hs4).2.2.2.len]; exact (GA.out.img s (by have := GA.out.n4; omega)).2.2.2
                          obtain ⟨bd, e3, y1⟩ := Kd.at_int kr3 (ik : Int) (by omega) (by rw [hmu]; omega)
                          subst e3
                          rw [Int.toNat_natCast] at y1
                          have y3 := pw_cell_below HS.out.own.bel k3
                          have y2 := pw_cell_below HS.out.own.bel y1
                          obtain ⟨g', c', y4, y5, ⟨y0, y6⟩, HN⟩ := HS.out.drew.putB (by simp) s hs4 ik (by rw [hmc]; exact hz4) (rd (rd_T47 m4 s).f3 ik)
                          have HN := Aside0.mk HN
                          have hpin : (rd_T47 m4 s).f3[q * z + k]? = some (rd (rd_T47 m4 s).f3 ik) := by
                            rw [← hao, ← hik]
                            unfold rd
                            simp [hmu, hz4]
                          have HIN := Aside0.mk (mid_step HI.out hs4 _ hpin)
                          rw [← hao, ← hik] at HIN
                          clear hpin k0 k1 k2 kl3 e2 y1 kr3 k3
                          have o4 := Owns.cell HS.out.own 0 _ _ 28 rfl 4 _ rfl
                          have u4 := Owns.cell HS.out.own 2 _ _ 28 rfl 4 _ rfl
                          have a5 := wrap_nat ((ao : Int) + (k : Int)) ik (by omega) (by rw [hik]; have := GA.out.hz; omega)
                          have p1 : (0 ≤ (s : Int)) = True := eq_true (by omega)
                          have p2 : ((s : Int) < (l4.length : Int)) = True := eq_true (by omega)
                          have p3 : ((s : Int) < (m4.length : Int)) = True := eq_true (by omega)
                          have p4 : (0 ≤ (ik : Int)) = True := eq_true (by omega)
                          have p5 : ((ik : Int) < ((rd_T47 m4 s).f3.length : Int)) = True := eq_true (by rw [hmu]; omega)
                          have p6 : ((ik : Int) < ((rd_T47 C s).f3.length : Int)) = True := eq_true (by rw [hmc]; omega)
                          clear hz4 hz3 hz5 hik hmu hmc hq hjj hao hs4 hs5
                          go_still_tail 21, (by kernel_rfl)
                          change wpList _ _ _ _ _ wr.drew
                          clear o4 u4 y2 y3 y4 HS HI
                          generalize wr.drew = wx at y5 y6 HN ⊢
                          go_wp2
                          exact ⟨⟨k + 1, _, by omega, wrapS k z (by omega) (by have := GA.out.hz; omega), HN, HIN⟩, meas k z (by omega) (by have := GA.out.hz; omega)⟩
                        · have b8 : decide ((k : Int) < (z : Int)) = false := decide_eq_false (by omega)
                          have hj1 : jj < W * H * S := by
                            rw [hjj]
                            have h1 : q + 1 ≤ W * H := by
                              rw [hq, Nat.mul_comm W H]
                              have : (py + 1) * W ≤ H * W := Nat.mul_le_mul_right _ hlt
                              rw [Nat.add_mul, Nat.one_mul] at this
                              omega
                            have h2 : (q + 1) * S ≤ W * H * S := Nat.mul_le_mul_right _ h1
                            rw [Nat.add_mul, Nat.one_mul] at h2
                            omega
                          have hv5 : m5[q * S + s]? = some (rd m5 jj) := by
                            rw [← hjj]
                            unfold rd
                            simp [GB.out.n5, hj1]
                          have hv6 : m6[q * S + s]? = some (rd m6 jj) := by
                            rw [← hjj]
                            unfold rd
                            simp [GB.out.n6, hj1]
                          rw [show k = z by omega] at HI
                          have HM2 := Aside0.mk (HM.out.next GA.out (by rw [hq]; exact (inR_at hlt2).2 ⟨HI1.out.symm, HI2.out.symm⟩) hlt3 HI.out (rd m5 jj) (rd m6 jj) hv5 hv6)
                          rw [← hjj] at HM2
                          have QE := Aside0.mk (And.intro hq hjj)
                          clear HM HI hv5 hv6 hq hjj hao hz3
                          go_wp2_with fail
                          clear b8
                          obtain ⟨ad5, e5, t5⟩ := Kd.at_int HU5.out (jj : Int) (by omega) (by rw [Fit.n5 GB.out]; omega)
                          rw [Int.toNat_natCast] at t5
                          have t52 := pw_cell_below HS.out.own.bel t5
                          have o5 := Owns.cell HS.out.own 0 _ _ 28 rfl 5 _ rfl
                          have u5 := Owns.cell HS.out.own 2 _ _ 28 rfl 5 _ rfl
                          obtain rfl := Option.some.inj e5
                          obtain ⟨y51, y52⟩ := HS.out.drew.cellD jj (by rw [Fit.n5 GA.out]; exact hj1)
                          have HN := Aside0.mk (HS.out.drew.putD (by simp) jj (rd m5 jj))
                          have p51 : (0 ≤ (jj : Int)) = True := eq_true (by omega)
                          have p52 : ((jj : Int) < (l5.length : Int)) = True := eq_true (by rw [Fit.n5 GA.out]; omega)
                          have p53 : ((jj : Int) < (m5.length : Int)) = True := eq_true (by rw [Fit.n5 GB.out]; omega)
                          have hj2 := Aside0.mk hj1
                          clear hj1 t5 e5
                          go_still_tail 9, (by kernel_rfl)
                          change wpList _ _ _ _ _ wr.drew
                          clear o5 u5 t52 HS
                          generalize wr.drew = wx at y51 y52 HN ⊢
                          go_wp2
                          have HS := HN
                          have hj1 := hj2.out
                          clear HN hj2 p51 p52 p53 y51 y52
                          generalize wx.setCell ⟨g5, jj, none⟩ (.int .i64 (rd m5 jj)) = wr at HS ⊢
                          obtain ⟨ad6, e6, t6⟩ := Kd.at_int HU6.out (jj : Int) (by omega) (by rw [Fit.n6 GB.out]; omega)
                          rw [Int.toNat_natCast] at t6
                          have t62 := pw_cell_below HS.out.own.bel t6
                          have o6 := Owns.cell HS.out.own 0 _ _ 28 rfl 6 _ rfl
                          have u6 := Owns.cell HS.out.own 2 _ _ 28 rfl 6 _ rfl
                          obtain rfl := Option.some.inj e6
                          obtain ⟨y61, y62⟩ := HS.out.drew.cellZ jj (by rw [Fit.n6 GA.out]; exact hj1)
                          have HN := Aside0.mk (HS.out.drew.putZ (by simp) jj (rd m6 jj))
                          have p61 : (0 ≤ (jj : Int)) = True := eq_true (by omega)
                          have p62 : ((jj : Int) < (l6.length : Int)) = True := eq_true (by rw [Fit.n6 GA.out]; omega)
                          have p63 : ((jj : Int) < (m6.length : Int)) = True := eq_true (by rw [Fit.n6 GB.out]; omega)
                          have hj2 := Aside0.mk hj1
                          clear hj1 t6 e6
                          go_still_tail 9, (by kernel_rfl)
                          change wpList _ _ _ _ _ wr.drew
                          clear o6 u6 t62 HS
                          generalize wr.drew = wx at y61 y62 HN ⊢
                          go_wp2
                          obtain ⟨hq, hjj⟩ := QE.out
                          exact ⟨⟨s + 1, _, _, _, by omega, wrapS s S (by omega) (by have := GA.out.hs; omega), HN, ⟨by rw [← hq]; exact HM2.out⟩⟩, meas s S (by omega) (by have := GA.out.hs; omega)⟩

              · have b7 : decide ((s : Int) < (S : Int)) = false := decide_eq_false (by omega)
                go_wp2_with fail
                exact ⟨⟨px + 1, C, D, E, by omega, wrapS px W (by omega) (by have := GA.out.hw; omega), ⟨(by repeat (first | exact HS.out | (with_reducible apply St.drewN) | (with_reducible apply St.drew)))⟩, ⟨by rw [← Nat.add_assoc, Nat.add_mul _ 1, Nat.one_mul]; rw [show s = S by omega] at HM; exact HM.out⟩⟩, meas px W (by omega) (by have := GA.out.hw; omega)⟩
          · have b6 : decide ((px : Int) < (W : Int)) = false := decide_eq_false (by omega)
            go_wp2_with fail
            exact ⟨⟨py + 1, C, D, E, by omega, wrapS py H (by omega) (by have := GA.out.hh; omega), ⟨(by repeat (first | exact HS.out | (with_reducible apply St.drewN) | (with_reducible apply St.drew)))⟩, ⟨by rw [Nat.add_mul py 1, Nat.one_mul]; rw [show px = W by omega] at HM; exact HM.out⟩⟩, meas py H (by omega) (by have := GA.out.hh; omega)⟩

      · have b5 : decide ((py : Int) < (H : Int)) = false := decide_eq_false (by omega)
        have r := Aside0.mk (HM.out.all GA.out (Nat.le_of_eq (by rw [show py = H by omega, Nat.mul_comm W H])))
        clear HM
        have hR := Owns.rules HS.out.own
        simp only [Own.rules] at hR
        go_wp2_with fail
        have HF : Aside0 (St w (((((((wr.setCell ⟨w.heap.size + 1 + 1, 0, none⟩ (.int .i64 W)).setCell ⟨w.heap.size + 1 + 1, 1, none⟩ (.int .i64 H)).setCell ⟨w.heap.size + 1 + 1, 2, none⟩ (.int .i64 S)).setCell ⟨w.heap.size + 1 + 1, 3, none⟩ (.int .i64 dp)).setCell ⟨w.heap.size + 1 + 1, 4, none⟩ (.slice (some ⟨g4, 0, none⟩) l4.length o4)).setCell ⟨w.heap.size + 1 + 1, 5, none⟩ (.slice (some ⟨g5, 0, none⟩) l5.length o5)).setCell ⟨w.heap.size + 1 + 1, 6, none⟩ (.slice (some ⟨g6, 0, none⟩) l6.length o6)) [(g3, #[.int .i64 W, .int .i64 H, .int .i64 S, .int .i64 dp, .slice (some ⟨g4, 0, none⟩) l4.length o4, .slice (some ⟨g5, 0, none⟩) l5.length o5, .slice (some ⟨g6, 0, none⟩) l6.length o6], 28), (w.heap.size + 1 + 1, #[.int .i64 W, .int .i64 H, .int .i64 S, .int .i64 dp, .slice (some ⟨g4, 0, none⟩) l4.length o4, .slice (some ⟨g5, 0, none⟩) l5.length o5, .slice (some ⟨g6, 0, none⟩) l6.length o6], 28), (w.heap.size + 1, #[.int .i64 W, .int .i64 H, .int .i64 S, .int .i64 dp, .slice (some bd4) m4.length d4, .slice (some bd5) m5.length d5, .slice (some bd6) m6.length d6], 28), (w.heap.size, #[.int .i64 W, .int .i64 H, .int .i64 S, .int .i64 dp, .slice (some ad4) l4.length c4, .slice A5 l5.length c5, .slice A6 l6.length c6], 28)] (.slice (some ⟨g4, 0, none⟩) l4.length o4) (.slice (some ⟨g5, 0, none⟩) l5.length o5) (.slice (some ⟨g6, 0, none⟩) l6.length o6) C D E) := ⟨HS.out.set7 1 _ _ _ _ _ _ _ _ rfl (.int .i64 W) (.int .i64 H) (.int .i64 S) (.int .i64 dp) (.slice (some ⟨g4, 0, none⟩) l4.length o4) (.slice (some ⟨g5, 0, none⟩) l5.length o5) (.slice (some ⟨g6, 0, none⟩) l6.length o6)⟩
        clear hR HS
        generalize (((((((wr.setCell ⟨w.heap.size + 1 + 1, 0, none⟩ (.int .i64 W)).setCell ⟨w.heap.size + 1 + 1, 1, none⟩ (.int .i64 H)).setCell ⟨w.heap.size + 1 + 1, 2, none⟩ (.int .i64 S)).setCell ⟨w.heap.size + 1 + 1, 3, none⟩ (.int .i64 dp)).setCell ⟨w.heap.size + 1 + 1, 4, none⟩ (.slice (some ⟨g4, 0, none⟩) l4.length o4)).setCell ⟨w.heap.size + 1 + 1, 5, none⟩ (.slice (some ⟨g5, 0, none⟩) l5.length o5)).setCell ⟨w.heap.size + 1 + 1, 6, none⟩ (.slice (some ⟨g6, 0, none⟩) l6.length o6)) = wz at HF ⊢
        refine bodyPost_ret (results_cell_row rfl _ _ (w.heap.size + 1 + 1) 28 #[.int .i64 W, .int .i64 H, .int .i64 S, .int .i64 dp, .slice (some ⟨g4, 0, none⟩) l4.length o4, .slice (some ⟨g5, 0, none⟩) l5.length o5, .slice (some ⟨g6, 0, none⟩) l6.length o6] (0, 0) _ rfl (HF.out.own.at 1 _ rfl) Try.underlying28 rfl (by kernel_rfl)) rfl ?_
        exact ⟨_, _, _, C, D, E, rfl, r.out, HF.out.s, HF.out.d, HF.out.z, HF.out.own.bel⟩


end Go.Proofs.Ytmpmennepjkocaa.RMerge
