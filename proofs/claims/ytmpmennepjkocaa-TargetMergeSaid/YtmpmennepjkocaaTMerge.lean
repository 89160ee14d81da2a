/- target.Merge: what it answers for two targets. No condition beside those of the theorems. -/
import Derived.Test.YtmpmennepjkocaaPTargetMergex7
import Derived.Test.YtmpmennepjkocaaICopy
import Derived.Test.YtmpmennepjkocaaStep
namespace Go.Proofs.Ytmpmennepjkocaa.TMerge
open Go.Proofs.Ytmpmennepjkocaa.Step Go.RowKit Go.Proofs.YtmpmennepjkocaaW.PrintWords Go.Proofs.YtmpmennepjkocaaW.PrintLast Go.Proofs.YtmpmennepjkocaaW.PrintMore Go.Proofs.Ytmpmennepjkocaa.PTargetMerge Go.Proofs.Ytmpmennepjkocaa.Own Go.Proofs.Ytmpmennepjkocaa.Out Go.Proofs.Ytmpmennepjkocaa.Mix Go.Proofs.Ytmpmennepjkocaa.Copy Go.Proofs.Ytmpmennepjkocaa.ICopy
set_option linter.unusedVariables false
set_option linter.unusedSimpArgs false
theorem inside_ok {W H lx ly wd ht : Nat} (f : Int) (D : List Int) (h1 : lx + wd ≤ W) (h2 : ly + ht ≤ H) (h3 : W ≤ 64) (h4 : H ≤ 64) : image_inside.f f W H D lx ly wd ht = some true := by
  unfold image_inside.f
  rw [if_pos (by omega), if_pos (by omega), if_pos (by omega), if_pos (by omega), if_pos (by unfold wrap64; omega)]
  refine congrArg some (decide_eq_true ?_)
  unfold wrap64
  omega
def T11 : Bool × List (List Nat × List Nat) := (true, [([], []), ([0], [0]), ([], []), ([1, 2], [1, 2]), ([3], [3]), ([], []), ([5], [5]), ([], []), ([6, 7], [6, 7]), ([8], [8]), ([], []), ([], []), ([], []), ([], []), ([], []), ([], []), ([14, 15], [14, 15]), ([], []), ([], []), ([17, 18], [17, 18]), ([4, 9, 10, 11, 12, 13, 16, 19], [4, 9, 10, 11, 12, 13, 16, 19]), ([20], [20]), ([21], [21]), ([21], [21]), ([], []), ([24, 22, 20, 0, 1, 2, 3, 4, 5, 6, 7, 8, 9, 10, 11, 12, 13, 14, 15, 16, 17, 18, 19, 20, 21, 22, 24], [22, 24]), ([23, 25, 0, 1, 2, 3, 4, 5, 6, 7, 8, 9, 10, 11, 12, 13, 14, 15, 16, 17, 18, 19, 20, 21, 22, 23, 24, 25], [23])])
def B11 : List Nat := [0, 1, 0, 7, 15, 0, 32, 0, 224, 480, 0, 0, 0, 0, 0, 0, 49152, 0, 0, 393216, 1048575, 2097151, 4194303, 4194303, 0, 25165823, 67108863]
theorem tab11 : rtab .any (opsOf Try.f13 11) = T11 := by kernel_rfl
theorem bits11 : waitsOk T11.2 B11 = true := by kernel_rfl
set_option maxHeartbeats 8000000 in
set_option maxRecDepth 100000 in
theorem yes (W H S z K lx rx ly ry : Nat) (f dp x y rw rh : Int) (A4 : Option Addr) (c4 : Nat) (l4 : List S47) (A5 : Option Addr) (c5 : Nat) (l5 : List Int) (A6 : Option Addr) (c6 : Nat) (l6 : List Int) (B4 : Option Addr) (d4 : Nat) (m4 : List S47) (B5 : Option Addr) (d5 : Nat) (m5 : List Int) (B6 : Option Addr) (d6 : Nat) (m6 : List Int) (w : World)
    (hr4 : Kd.C k47 w A4 l4.length l4) (hc4 : l4.length ≤ c4) (hr5 : Kd.C (Kd.int .i64) w A5 l5.length l5) (hc5 : l5.length ≤ c5) (hr6 : Kd.C (Kd.int .i64) w A6 l6.length l6) (hc6 : l6.length ≤ c6)
    (hu4 : Kd.C k47 w B4 m4.length m4) (hd4 : m4.length ≤ d4) (hu5 : Kd.C (Kd.int .i64) w B5 m5.length m5) (hd5 : m5.length ≤ d5) (hu6 : Kd.C (Kd.int .i64) w B6 m6.length m6) (hd6 : m6.length ≤ d6)
    (G : Fit W H S z f l4 l5 l6) (G' : Fit W H S z f m4 m5 m6)
    (CL : Aside0 (target_Clone.f K W H S dp l4 l5 l6 = some ((W : Int), (H : Int), (S : Int), dp, l4, l5, l6))) (SM : Aside0 (target_similar.f K W H S dp l4 l5 l6 W H S dp m4 m5 m6 = some true))
    (P1 : Aside0 (target_span.f K x rw W = some ((lx : Int), (rx : Int)))) (P2 : Aside0 (target_span.f K y rh H = some ((ly : Int), (ry : Int)))) (hx : lx < rx ∧ rx ≤ W) (hy : ly < ry ∧ ry ≤ H)
    (SZ : Aside0 (texel_Size.f K f = some (z : Int))) (IV : Aside0 (∀ D : List Int, D.length = W * H * z → image_Valid.f K f W H D = some true)) :
    Calls Try.prog 13 #[.agg #[.int .i64 W, .int .i64 H, .int .i64 S, .int .i64 dp, .slice A4 l4.length c4, .slice A5 l5.length c5, .slice A6 l6.length c6], .agg #[.int .i64 W, .int .i64 H, .int .i64 S, .int .i64 dp, .slice B4 m4.length d4, .slice B5 m5.length d5, .slice B6 m6.length d6], .int .i64 x, .int .i64 y, .int .i64 rw, .int .i64 rh] w fun e w' => ∃ (v4 v5 v6 : Value) (C : List S47) (D E : List Int), e = .returned (.agg #[.int .i64 W, .int .i64 H, .int .i64 S, .int .i64 dp, v4, v5, v6]) ∧ Made W S z (inC W lx ly (rx - lx) (ry - ly)) l4 m4 l5 m5 l6 m6 C D E ∧ Kd.S k47 47 w' w.heap.size (fun _ => True) v4 C ∧ Kd.R (Kd.int .i64) 3 w' w.heap.size (fun k => some k ≠ v6.ownBlock) v5 D ∧ Kd.R (Kd.int .i64) 3 w' w.heap.size (fun k => some k ≠ v5.ownBlock) v6 E ∧ Below w.heap.size w w' := by
  have Q4 : Aside0 (0 < l4.length) := ⟨by have := G.n4; have := G.hs; omega⟩
  have Q5 : Aside0 (0 < l5.length) := ⟨by rw [G.n5]; exact Nat.mul_pos (Nat.mul_pos G.hw.1 G.hh.1) G.hs.1⟩
  have Q6 : Aside0 (0 < l6.length) := ⟨by rw [G.n6]; exact Nat.mul_pos (Nat.mul_pos G.hw.1 G.hh.1) G.hs.1⟩
  have M4 : 0 < m4.length := by have := G'.n4; have := G'.hs; omega
  have M5 : 0 < m5.length := by rw [G'.n5]; exact Nat.mul_pos (Nat.mul_pos G'.hw.1 G'.hh.1) G'.hs.1
  have M6 : 0 < m6.length := by rw [G'.n6]; exact Nat.mul_pos (Nat.mul_pos G'.hw.1 G'.hh.1) G'.hs.1
  obtain ⟨bd4, _, _, rfl, _⟩ := at_T47 hu4 0 (by omega) (by omega)
  obtain ⟨bd5, rfl, _⟩ := Kd.at_int hu5 0 (by omega) (by omega)
  obtain ⟨bd6, rfl, _⟩ := Kd.at_int hu6 0 (by omega) (by omega)
  have GA := Aside0.mk G
  have GB := Aside0.mk G'
  have HX := Aside0.mk (And.intro hx hy)
  clear G G' M4 M5 M6
  have b1 : decide ((lx : Int) ≥ (rx : Int)) = false := decide_eq_false (by omega)
  have b1' : decide ((rx : Int) ≤ (lx : Int)) = false := decide_eq_false (by omega)
  have b2 : decide ((ly : Int) ≥ (ry : Int)) = false := decide_eq_false (by omega)
  have b2' : decide ((ry : Int) ≤ (ly : Int)) = false := decide_eq_false (by omega)
  have b1n : decide (rx ≤ lx) = false := decide_eq_false (by omega)
  have b2n : decide (ry ≤ ly) = false := decide_eq_false (by omega)
  clear hx hy
  have HR4 := Aside0.mk hr4
  have HC4 := Aside0.mk hc4
  have HU4 := Aside0.mk hu4
  have HD4 := Aside0.mk hd4
  have HR5 := Aside0.mk hr5
  have HC5 := Aside0.mk hc5
  have HU5 := Aside0.mk hu5
  have HD5 := Aside0.mk hd5
  have HR6 := Aside0.mk hr6
  have HC6 := Aside0.mk hc6
  have HU6 := Aside0.mk hu6
  have HD6 := Aside0.mk hd6
  clear hr4 hc4 hr5 hc5 hr6 hc6 hu4 hd4 hu5 hd5 hu6 hd6
  have hu28 := Try.underlying28
  have hu47 := Try.underlying47
  go_enter Try.func13, Try.ntmps13
  go_upto_region 1 with (fail)
  have HL : Aside0 (Owns w [(w.heap.size + 1 + 1, #[.int .i64 0, .int .i64 0, .int .i64 0, .int .i64 0, .slice none 0 0, .slice none 0 0, .slice none 0 0], 28), (w.heap.size + 1, #[.int .i64 W, .int .i64 H, .int .i64 S, .int .i64 dp, .slice (some bd4) m4.length d4, .slice (some bd5) m5.length d5, .slice (some bd6) m6.length d6], 28), (w.heap.size, #[.int .i64 W, .int .i64 H, .int .i64 S, .int .i64 dp, .slice A4 l4.length c4, .slice A5 l5.length c5, .slice A6 l6.length c6], 28)] (((w.alloc (Obj.cells #[.int .i64 W, .int .i64 H, .int .i64 S, .int .i64 dp, .slice A4 l4.length c4, .slice A5 l5.length c5, .slice A6 l6.length c6] 28)).alloc (Obj.cells #[.int .i64 W, .int .i64 H, .int .i64 S, .int .i64 dp, .slice (some bd4) m4.length d4, .slice (some bd5) m5.length d5, .slice (some bd6) m6.length d6] 28)).alloc (Obj.cells #[.int .i64 0, .int .i64 0, .int .i64 0, .int .i64 0, .slice none 0 0, .slice none 0 0, .slice none 0 0] 28))) := ⟨by simpa using (((Owns.start w).alloc _ _).alloc _ _).alloc _ _⟩
  generalize (((w.alloc (Obj.cells #[.int .i64 W, .int .i64 H, .int .i64 S, .int .i64 dp, .slice A4 l4.length c4, .slice A5 l5.length c5, .slice A6 l6.length c6] 28)).alloc (Obj.cells #[.int .i64 W, .int .i64 H, .int .i64 S, .int .i64 dp, .slice (some bd4) m4.length d4, .slice (some bd5) m5.length d5, .slice (some bd6) m6.length d6] 28)).alloc (Obj.cells #[.int .i64 0, .int .i64 0, .int .i64 0, .int .i64 0, .slice none 0 0, .slice none 0 0, .slice none 0 0] 28)) = wa at HL ⊢
  have hlo := Aside0.mk HL.out.bel.size
  have p0 := Owns.cell HL.out 2 _ _ 28 rfl 0 _ rfl
  have p1 := Owns.cell HL.out 2 _ _ 28 rfl 1 _ rfl
  have p2 := Owns.cell HL.out 2 _ _ 28 rfl 2 _ rfl
  have p3 := Owns.cell HL.out 2 _ _ 28 rfl 3 _ rfl
  have p4 := Owns.cell HL.out 2 _ _ 28 rfl 4 _ rfl
  have p5 := Owns.cell HL.out 2 _ _ 28 rfl 5 _ rfl
  have p6 := Owns.cell HL.out 2 _ _ 28 rfl 6 _ rfl
  go_upto_region 2 with (go_at_call 15; (with_reducible refine (target_Clone.calls K W H S dp A4 c4 l4 A5 c5 l5 A6 c6 l6 W H S dp l4 l5 l6 _ ?s4 HC4.out ?s5 HC5.out ?s6 HC6.out CL.out).mono ?_); (case s4 => exact Kd.C_below HR4.out (by repeat (first | exact HL.out.bel | apply below_alloc | apply pw_below_drewN | apply below_drew1))); (case s5 => exact Kd.C_below HR5.out (by repeat (first | exact HL.out.bel | apply below_alloc | apply pw_below_drewN | apply below_drew1))); (case s6 => exact Kd.C_below HR6.out (by repeat (first | exact HL.out.bel | apply below_alloc | apply pw_below_drewN | apply below_drew1))); rintro e w3 ⟨v4, v5, v6, rfl, ho4, ho5, ho6, hb⟩; have hlow := hlo.out; have HT := Aside0.mk (Owns.step (by repeat (first | exact HL.out | (with_reducible apply Owns.drewN) | (with_reducible apply Owns.drew))) hb); clear HL; have HL := HT; clear HT; obtain ⟨g4, o4, rfl, _⟩ := Kd.S_form ho4 Q4.out; obtain ⟨g5, o5, rfl, _⟩ := Kd.R_form ho5 Q5.out; obtain ⟨g6, o6, rfl, _⟩ := Kd.R_form ho6 Q6.out; have HS := Aside0.mk (St.mk HL.out (Kd.S_lower ho4 hlow) (Kd.R_lower ho5 hlow) (Kd.R_lower ho6 hlow)); clear ho4 ho5 ho6 hb hlow HL)
  have HT := Aside0.mk (HS.out.alloc #[.int .i64 W, .int .i64 H, .int .i64 S, .int .i64 dp, .slice (some ⟨g4, 0, none⟩) l4.length o4, .slice (some ⟨g5, 0, none⟩) l5.length o5, .slice (some ⟨g6, 0, none⟩) l6.length o6] 28)
  clear HS
  have HS := HT
  clear HT
  obtain ⟨g3, hg3⟩ : ∃ g, g = w3.heap.size := ⟨_, rfl⟩
  rw [← hg3] at HS
  rw [← hg3]
  generalize (w3.alloc (Obj.cells #[.int .i64 W, .int .i64 H, .int .i64 S, .int .i64 dp, .slice (some ⟨g4, 0, none⟩) l4.length o4, .slice (some ⟨g5, 0, none⟩) l5.length o5, .slice (some ⟨g6, 0, none⟩) l6.length o6] 28)) = wb at HS ⊢
  clear hg3 p0 p1 p2 p3 p4 p5 p6
  have z30 := Owns.cell HS.out.own 3 _ _ 28 rfl 0 _ rfl; have z31 := Owns.cell HS.out.own 3 _ _ 28 rfl 1 _ rfl; have z32 := Owns.cell HS.out.own 3 _ _ 28 rfl 2 _ rfl; have z33 := Owns.cell HS.out.own 3 _ _ 28 rfl 3 _ rfl; have z34 := Owns.cell HS.out.own 3 _ _ 28 rfl 4 _ rfl; have z35 := Owns.cell HS.out.own 3 _ _ 28 rfl 5 _ rfl; have z36 := Owns.cell HS.out.own 3 _ _ 28 rfl 6 _ rfl; have z20 := Owns.cell HS.out.own 2 _ _ 28 rfl 0 _ rfl; have z21 := Owns.cell HS.out.own 2 _ _ 28 rfl 1 _ rfl; have z22 := Owns.cell HS.out.own 2 _ _ 28 rfl 2 _ rfl; have z23 := Owns.cell HS.out.own 2 _ _ 28 rfl 3 _ rfl; have z24 := Owns.cell HS.out.own 2 _ _ 28 rfl 4 _ rfl; have z25 := Owns.cell HS.out.own 2 _ _ 28 rfl 5 _ rfl; have z26 := Owns.cell HS.out.own 2 _ _ 28 rfl 6 _ rfl
  go_upto_region 8 with (first | (go_at_call 36; (with_reducible refine (target_similar.calls K W H S dp A4 c4 l4 A5 c5 l5 A6 c6 l6 W H S dp (some bd4) d4 m4 (some bd5) d5 m5 (some bd6) d6 m6 true _ ?s4 HC4.out ?s5 HC5.out ?s6 HC6.out ?q4 HD4.out ?q5 HD5.out ?q6 HD6.out SM.out).mono ?_); (case s4 => exact Kd.C_below HR4.out (by repeat (first | exact HS.out.own.bel | apply below_alloc | apply pw_below_drewN | apply below_drew1))); (case s5 => exact Kd.C_below HR5.out (by repeat (first | exact HS.out.own.bel | apply below_alloc | apply pw_below_drewN | apply below_drew1))); (case s6 => exact Kd.C_below HR6.out (by repeat (first | exact HS.out.own.bel | apply below_alloc | apply pw_below_drewN | apply below_drew1))); (case q4 => exact Kd.C_below HU4.out (by repeat (first | exact HS.out.own.bel | apply below_alloc | apply pw_below_drewN | apply below_drew1))); (case q5 => exact Kd.C_below HU5.out (by repeat (first | exact HS.out.own.bel | apply below_alloc | apply pw_below_drewN | apply below_drew1))); (case q6 => exact Kd.C_below HU6.out (by repeat (first | exact HS.out.own.bel | apply below_alloc | apply pw_below_drewN | apply below_drew1))); rintro e w4 ⟨rfl, hb⟩; have HT := Aside0.mk (St.step (by repeat (first | exact HS.out | (with_reducible apply St.drewN) | (with_reducible apply St.drew))) hb); clear HS hb; have HS := HT; clear HT; have z30 := Owns.cell HS.out.own 3 _ _ 28 rfl 0 _ rfl; have z31 := Owns.cell HS.out.own 3 _ _ 28 rfl 1 _ rfl; have z32 := Owns.cell HS.out.own 3 _ _ 28 rfl 2 _ rfl; have z33 := Owns.cell HS.out.own 3 _ _ 28 rfl 3 _ rfl; have z34 := Owns.cell HS.out.own 3 _ _ 28 rfl 4 _ rfl; have z35 := Owns.cell HS.out.own 3 _ _ 28 rfl 5 _ rfl; have z36 := Owns.cell HS.out.own 3 _ _ 28 rfl 6 _ rfl) | (go_at_call 37; (with_reducible refine (target_span.calls K x rw W lx rx _ P1.out).mono ?_); rintro e w5 ⟨rfl, ⟨nw5, rfl⟩⟩) | (go_at_call 37; (with_reducible refine (target_span.calls K y rh H ly ry _ P2.out).mono ?_); rintro e w6 ⟨rfl, ⟨nw6, rfl⟩⟩))
  have z30 := Owns.cell HS.out.own 3 _ _ 28 rfl 0 _ rfl; have z31 := Owns.cell HS.out.own 3 _ _ 28 rfl 1 _ rfl; have z32 := Owns.cell HS.out.own 3 _ _ 28 rfl 2 _ rfl; have z33 := Owns.cell HS.out.own 3 _ _ 28 rfl 3 _ rfl; have z34 := Owns.cell HS.out.own 3 _ _ 28 rfl 4 _ rfl; have z35 := Owns.cell HS.out.own 3 _ _ 28 rfl 5 _ rfl; have z36 := Owns.cell HS.out.own 3 _ _ 28 rfl 6 _ rfl; have z00 := Owns.cell HS.out.own 0 _ _ 28 rfl 0 _ rfl; have z01 := Owns.cell HS.out.own 0 _ _ 28 rfl 1 _ rfl; have z02 := Owns.cell HS.out.own 0 _ _ 28 rfl 2 _ rfl; have z03 := Owns.cell HS.out.own 0 _ _ 28 rfl 3 _ rfl; have z04 := Owns.cell HS.out.own 0 _ _ 28 rfl 4 _ rfl; have z05 := Owns.cell HS.out.own 0 _ _ 28 rfl 5 _ rfl; have z06 := Owns.cell HS.out.own 0 _ _ 28 rfl 6 _ rfl
  go_wp2_with fail
  go_loopw [59] (fun v wr => ∃ (i : Nat) (C : List S47), i ≤ l4.length ∧ v = .int .i64 i ∧ Aside0 (St w wr [(g3, #[.int .i64 W, .int .i64 H, .int .i64 S, .int .i64 dp, .slice (some ⟨g4, 0, none⟩) l4.length o4, .slice (some ⟨g5, 0, none⟩) l5.length o5, .slice (some ⟨g6, 0, none⟩) l6.length o6], 28), (w.heap.size + 1 + 1, #[.int .i64 0, .int .i64 0, .int .i64 0, .int .i64 0, .slice none 0 0, .slice none 0 0, .slice none 0 0], 28), (w.heap.size + 1, #[.int .i64 W, .int .i64 H, .int .i64 S, .int .i64 dp, .slice (some bd4) m4.length d4, .slice (some bd5) m5.length d5, .slice (some bd6) m6.length d6], 28), (w.heap.size, #[.int .i64 W, .int .i64 H, .int .i64 S, .int .i64 dp, .slice A4 l4.length c4, .slice A5 l5.length c5, .slice A6 l6.length c6], 28)] (.slice (some ⟨g4, 0, none⟩) l4.length o4) (.slice (some ⟨g5, 0, none⟩) l5.length o5) (.slice (some ⟨g6, 0, none⟩) l6.length o6) C l5 l6) ∧ Aside0 (Imgs (fun s q => s < i ∧ inC W lx ly (rx - lx) (ry - ly) (q / z)) l4 m4 C)) (fun v _ => l4.length - (intOf v).toNat)
  case atStart => exact ⟨0, l4, Nat.zero_le _, rfl, ⟨(by repeat (first | exact HS.out | (with_reducible apply St.drewN) | (with_reducible apply St.drew)))⟩, ⟨Imgs.start (fun s q _ _ h => by omega)⟩⟩
  case round =>
    clear HS z30 z31 z32 z33 z34 z35 z36 z00 z01 z02 z03 z04 z05 z06 b1 b1' b2 b2' b1n b2n
    obtain ⟨i, C, hi, rfl, HS, HI⟩ := hrel
    by_cases hlt : i < l4.length
    · have b3 : decide ((i : Int) < (l4.length : Int)) = true := decide_eq_true (by omega)
      go_wp2_with fail
      clear b3
      have hs : i < S := by have := GA.out.n4; omega
      obtain ⟨A1, e1, x0, x1, x2, x3, xl, xC⟩ := HS.out.elem i hlt
      obtain ⟨ad, A2, e2, ee, y0, y1, y2, y3, yl, yC⟩ := at_T47 HU4.out (i : Int) (by omega) (by have := GB.out.n4; omega)
      obtain rfl := Option.some.inj ee
      rw [Int.toNat_natCast] at y0 y1 y2 y3
      obtain ⟨g0, g1, g2, gm⟩ := HI.out.img i hlt
      obtain ⟨k0, k1, k2, k3⟩ := GA.out.img i hs
      obtain ⟨m0, m1, m2, m3⟩ := GB.out.img i hs
      rw [g0, k0] at x0
      rw [g1, k1] at x1
      rw [g2, k2] at x2
      rw [m0] at y0
      rw [m1] at y1
      rw [m2] at y2
      have hD1 : (rd_T47 C i).f3 = (rd_T47 l4 i).f3 := gm.uniq (Mix.start (fun q _ h => absurd h.1 (by omega)))
      obtain ⟨D1, hd1⟩ : ∃ D, D = (rd_T47 C i).f3 := ⟨_, rfl⟩
      obtain ⟨D2, hd2⟩ : ∃ D, D = (rd_T47 m4 i).f3 := ⟨_, rfl⟩
      rw [← hd1] at x3 xl xC hD1
      rw [← hd2] at y3 yl yC m3
      have XD : Aside0 (D1.length = W * H * z) := ⟨by rw [hD1]; exact k3⟩
      have YD := Aside0.mk m3
      have XE := Aside0.mk (And.intro hD1 hd2)
      clear g0 g1 g2 gm k0 k1 k2 k3 m0 m1 m2 m3 hd1 hd2 hD1 ee
      have X0 : Aside0 (Cells [(⟨g4, i * 4, none⟩, .int .i64 f), (⟨g4, i * 4 + 1, none⟩, .int .i64 W), (⟨g4, i * 4 + 2, none⟩, .int .i64 H), (⟨g4, i * 4 + 3, none⟩, .slice A1 D1.length e1)] wr) := ⟨x0, x1, x2, x3, trivial⟩
      have Y0 := Aside0.mk y0
      have Yb := Aside0.mk y1
      have Yc := Aside0.mk y2
      have Yd := Aside0.mk y3
      have X1 := Aside0.mk xl
      have Y1 := Aside0.mk yl
      have XC := Aside0.mk xC
      have YC := Aside0.mk yC
      clear x0 x1 x2 x3 xl xC y0 y1 y2 y3 yl yC
      obtain ⟨wd, hwd⟩ : ∃ n : Nat, n = rx - lx := ⟨_, rfl⟩
      obtain ⟨ht, hht⟩ : ∃ n : Nat, n = ry - ly := ⟨_, rfl⟩
      have hX := HX.out
      have a1 := wrap_nat ((rx : Int) - (lx : Int)) wd (by omega) (by have := GA.out.hw; omega)
      have a2 := wrap_nat ((ry : Int) - (ly : Int)) ht (by omega) (by have := GA.out.hh; omega)
      have LX : Aside0 (1 ≤ wd ∧ lx + wd ≤ W ∧ ly + ht ≤ H) := ⟨by omega⟩
      have N1 : Aside0 (image_inside.f f W H D1 lx ly wd ht = some true) := ⟨inside_ok f D1 LX.out.2.1 LX.out.2.2 GA.out.hw.2 GA.out.hh.2⟩
      have N2 : Aside0 (image_inside.f f W H D2 lx ly wd ht = some true) := ⟨inside_ok f D2 LX.out.2.1 LX.out.2.2 GA.out.hw.2 GA.out.hh.2⟩
      have V1 := Aside0.mk (IV.out D1 XD.out)
      have V2 := Aside0.mk (IV.out D2 YD.out)
      have WE := Aside0.mk (And.intro hwd hht)
      clear hX hwd hht
      have p1 : (0 ≤ (i : Int)) = True := eq_true (by omega)
      have p2 : ((i : Int) < (l4.length : Int)) = True := eq_true (by omega)
      have p3 : ((i : Int) < (m4.length : Int)) = True := eq_true (by have := GA.out.n4; have := GB.out.n4; omega)
      go_cut [19, 20] (fun v19 v20 wc => ∃ (gm : Nat) (v : Value) (X : List Int), v19 = .pointer (some ⟨gm, 0, none⟩) ∧ v20 = .int .i64 0 ∧ Aside0 (Mid w wc [(g3, #[.int .i64 W, .int .i64 H, .int .i64 S, .int .i64 dp, .slice (some ⟨g4, 0, none⟩) l4.length o4, .slice (some ⟨g5, 0, none⟩) l5.length o5, .slice (some ⟨g6, 0, none⟩) l6.length o6], 28), (w.heap.size + 1 + 1, #[.int .i64 0, .int .i64 0, .int .i64 0, .int .i64 0, .slice none 0 0, .slice none 0 0, .slice none 0 0], 28), (w.heap.size + 1, #[.int .i64 W, .int .i64 H, .int .i64 S, .int .i64 dp, .slice (some bd4) m4.length d4, .slice (some bd5) m5.length d5, .slice (some bd6) m6.length d6], 28), (w.heap.size, #[.int .i64 W, .int .i64 H, .int .i64 S, .int .i64 dp, .slice A4 l4.length c4, .slice A5 l5.length c5, .slice A6 l6.length c6], 28)] (.slice (some ⟨g4, 0, none⟩) l4.length o4) (.slice (some ⟨g5, 0, none⟩) l5.length o5) (.slice (some ⟨g6, 0, none⟩) l6.length o6) C l5 l6 gm #[.int .i64 f, .int .i64 W, .int .i64 H, v] v X) ∧ Aside0 (Mix (fun q => inC W lx ly wd ht (q / z)) D1 D2 X))
      case first =>
        have HT := Aside0.mk HS.out.drew; clear HS; have HS := HT; clear HT
        have XT := Aside0.mk (Cells.below (below_drew1 (Below.refl wr.heap.size wr)) X0.out); clear X0; have X0 := XT; clear XT
        have XT := Aside0.mk (Kd.C_below XC.out (below_drew1 (Below.refl wr.heap.size wr))); clear XC; have XC := XT; clear XT
        refine start_ (n := 27) (S := Cells [(⟨g3, 4, none⟩, .slice (some ⟨g4, 0, none⟩) l4.length o4), (⟨w.heap.size + 1, 4, none⟩, .slice (some bd4) m4.length d4), (⟨g4, i * 4, none⟩, .int .i64 f), (⟨g4, i * 4 + 1, none⟩, .int .i64 W), (⟨g4, i * 4 + 2, none⟩, .int .i64 H), (⟨g4, i * 4 + 3, none⟩, .slice A1 D1.length e1), (bd4.add (i * 4), .int .i64 f), (⟨(bd4.add (i * 4)).block, (bd4.add (i * 4)).off + 1, none⟩, .int .i64 W), (⟨(bd4.add (i * 4)).block, (bd4.add (i * 4)).off + 2, none⟩, .int .i64 H), (⟨(bd4.add (i * 4)).block, (bd4.add (i * 4)).off + 3, none⟩, .slice A2 D2.length e2)]) (ds := []) #[false, false, false, false, false, false, false, false, false, false, false, false, false, false, false, false, false, false, false, false, false, false, false, false, false, false, false] (by kernel_rfl) rfl rfl ⟨Owns.cell HS.out.own 0 _ _ 28 rfl 4 _ rfl, Owns.cell HS.out.own 2 _ _ 28 rfl 4 _ rfl, X0.out.1, X0.out.2.1, X0.out.2.2.1, X0.out.2.2.2.1, pw_cell_below HS.out.own.bel Y0.out, pw_cell_below HS.out.own.bel Yb.out, pw_cell_below HS.out.own.bel Yc.out, pw_cell_below HS.out.own.bel Yd.out, trivial⟩ (fun hHeld => ?_); refine with_tabW tab11 bits11 (fun HT_ HW_ => ?_)
        generalize wr.drew = wd' at HS X0 XC hHeld ⊢
        refine on HT_ 0 (some 63) ?_
        refine on HT_ 2 (some 65) ?_
        refine on HT_ 5 (some 68) ?_
        refine on HT_ 7 (some 70) ?_
        refine on HT_ 10 (some 73) ?_
        refine on HT_ 11 (some 74) ?_
        refine on HT_ 12 (some 75) ?_
        refine on HT_ 13 (some 76) ?_
        refine on HT_ 14 (some 77) ?_
        refine on HT_ 15 (some 78) ?_
        refine on HT_ 16 (some 79) ?_
        refine on HT_ 17 (some 80) ?_
        refine on HT_ 18 (some 81) ?_
        refine on HT_ 19 (some 82) ?_
        refine tk HT_ HW_ hHeld 1 (some 64) rfl (by rintro w' ⟨s0, s1, s2, s3, s4, s5, s6, s7, s8, s9, _⟩; go_simp; with_reducible rfl) ?_
        refine on HT_ 3 (some 66) ?_
        refine tk HT_ HW_ hHeld 4 (some 67) rfl (by rintro w' ⟨s0, s1, s2, s3, s4, s5, s6, s7, s8, s9, _⟩; go_simp; with_reducible rfl) ?_
        refine tk HT_ HW_ hHeld 6 (some 69) rfl (by rintro w' ⟨s0, s1, s2, s3, s4, s5, s6, s7, s8, s9, _⟩; go_simp; with_reducible rfl) ?_
        refine on HT_ 8 (some 71) ?_
        refine tk HT_ HW_ hHeld 9 (some 72) rfl (by rintro w' ⟨s0, s1, s2, s3, s4, s5, s6, s7, s8, s9, _⟩; go_simp; with_reducible rfl) ?_
        refine two_ (i := 20) (j := 24) (Ni := some 83) (Nj := some 19) #[true, true, true, true, true, true, true, true, true, true, true, true, true, true, true, true, true, true, true, true, true, false, false, false, false, false, false] #[true, true, true, true, true, true, true, true, true, true, true, true, true, true, true, true, true, true, true, true, false, false, false, false, true, false, false] rfl rfl rfl rfl (two_of HT_.out (by kernel_rfl)) (by decide) (by decide) (fun Kx hK => ?_) (fun Kx hK => ?_)
        · skip
          refine goes_ Try.func38 (by kernel_rfl) rfl #[.agg #[.int .i64 f, .int .i64 W, .int .i64 H, .slice A1 D1.length e1], .agg #[.int .i64 f, .int .i64 W, .int .i64 H, .slice A2 D2.length e2], .int .i64 lx, .int .i64 ly, .int .i64 lx, .int .i64 ly, .int .i64 wd, .int .i64 ht] (by rfl) rfl rfl (by (try simp only [List.map_toArray, List.map_cons, List.map_nil, a1, a2]); first | done | rfl) ?_
          with_reducible refine (ICopy.good W H z K lx ly wd ht f A1 e1 D1 A2 e2 D2 _ ?i1 X1.out ?i2 Y1.out GA.out.hw GA.out.hh GA.out.hz XD.out YD.out LX.out.1 LX.out.2.1 LX.out.2.2 V1 V2 SZ N1 N2).mono ?_
          case i1 => exact XC.out
          case i2 => exact Kd.C_below YC.out (by repeat (first | exact HS.out.own.bel | apply below_alloc | apply pw_below_drewN | apply below_drew1))
          rintro e w4 ⟨v, X, rfl, hX, hR, hb1⟩; refine ⟨_, rfl, ?_⟩
          refine hK.out _ _ (Cells.below hb1 hHeld) (fun hHeld => ?_)
          clear hK Kx
          refine norm_ (a' := ?_) ?_ ?_
          rotate_left
          · show Act.put _ (some 83) _ = _
            simp only [Act.put, List.setIfInBounds_toArray, List.set_cons_zero, List.set_cons_succ, i64_w, i32_w]
            rfl
          refine on HT_ 21 (some 62) ?_
          refine on HT_ 22 (some 84) ?_
          refine on HT_ 23 (some 85) ?_
          refine one_ (i := 24) (N := some 19) #[true, true, true, true, true, true, true, true, true, true, true, true, true, true, true, true, true, true, true, true, true, true, true, true, true, false, false] rfl rfl (one_of HT_.out (by kernel_rfl)) (by decide) (fun Kx hK => ?_)
          refine box_step ?hg (N := 19) ?hd (cs := #[.int .i64 0, .int .i64 0, .int .i64 0, .slice none 0 0]) (t := 47) ?hr ?_; (case hd => rfl); (case hg => rfl); (case hr => first | (go_simp; done) | (go_simp; rfl))
          intro gm hg w5 hbox hb2
          have hfar := Cells.ne hHeld hg
          refine hK.out _ _ (Cells.below hb2 hHeld) (fun hHeld => ?_)
          clear hK Kx
          refine norm_ (a' := ?_) ?_ ?_
          rotate_left
          · show Act.put _ (some 19) _ = _
            simp only [Act.put, List.setIfInBounds_toArray, List.set_cons_zero, List.set_cons_succ, i64_w, i32_w]
            rfl
          have HM := Aside0.mk (Mid.a HS.out hb1 hR hg hb2 hbox)
          clear HS hR hb1 hb2 hbox hg
          obtain ⟨A3, e3, rfl⟩ := Kd.R_slice HM.out.r
          refine one_ (i := 25) (N := none) #[true, true, true, true, true, true, true, true, true, true, true, true, true, true, true, true, true, true, true, true, true, true, true, true, true, true, false] rfl rfl (one_of HT_.out (by kernel_rfl)) (by decide) (fun Kx hK => ?_)
          have s0 := Owns.cell HM.out.own 0 _ _ 47 rfl 0 _ rfl
          have s1 := Owns.cell HM.out.own 0 _ _ 47 rfl 1 _ rfl
          have s2 := Owns.cell HM.out.own 0 _ _ 47 rfl 2 _ rfl
          have s3 := Owns.cell HM.out.own 0 _ _ 47 rfl 3 _ rfl
          have f0 := Owns.frozen HM.out.own 0 _ _ 47 rfl 0
          have f1 := Owns.frozen HM.out.own 0 _ _ 47 rfl 1
          have f2 := Owns.frozen HM.out.own 0 _ _ 47 rfl 2
          have f3 := Owns.frozen HM.out.own 0 _ _ 47 rfl 3
          refine skip_ (w1 := ?_) (by rfl) rfl ?_ ?_
          rotate_left
          · go_simp
            rfl
          refine hK.out _ _ (Cells.far (Cells.far (Cells.far (Cells.far hHeld hfar) hfar) hfar) hfar) (fun hHeld => ?_)
          clear hK Kx
          refine on HT_ 26 (some 20) ?_
          refine done_ (done_of HT_.out (by kernel_rfl)) ?_
          have HF := Aside0.mk (HM.out.set4 (.int .i64 f) (.int .i64 W) (.int .i64 H) (.slice A3 X.length e3))
          try go_wp2
          go_meet
          case rel => exact ⟨_, _, X, rfl, rfl, HF, ⟨hX⟩⟩
        · skip
          refine box_step ?hg (N := 19) ?hd (cs := #[.int .i64 0, .int .i64 0, .int .i64 0, .slice none 0 0]) (t := 47) ?hr ?_; (case hd => rfl); (case hg => rfl); (case hr => first | (go_simp; done) | (go_simp; rfl))
          intro gm hg w4 hbox hb1
          have hfar := Cells.ne hHeld hg
          refine hK.out _ _ (Cells.below hb1 hHeld) (fun hHeld => ?_)
          clear hK Kx
          refine norm_ (a' := ?_) ?_ ?_
          rotate_left
          · show Act.put _ (some 19) _ = _
            simp only [Act.put, List.setIfInBounds_toArray, List.set_cons_zero, List.set_cons_succ, i64_w, i32_w]
            rfl
          refine one_ (i := 20) (N := some 83) #[true, true, true, true, true, true, true, true, true, true, true, true, true, true, true, true, true, true, true, true, true, false, false, false, true, false, false] rfl rfl (one_of HT_.out (by kernel_rfl)) (by decide) (fun Kx hK => ?_)
          refine goes_ Try.func38 (by kernel_rfl) rfl #[.agg #[.int .i64 f, .int .i64 W, .int .i64 H, .slice A1 D1.length e1], .agg #[.int .i64 f, .int .i64 W, .int .i64 H, .slice A2 D2.length e2], .int .i64 lx, .int .i64 ly, .int .i64 lx, .int .i64 ly, .int .i64 wd, .int .i64 ht] (by rfl) rfl rfl (by (try simp only [List.map_toArray, List.map_cons, List.map_nil, a1, a2]); first | done | rfl) ?_
          with_reducible refine (ICopy.good W H z K lx ly wd ht f A1 e1 D1 A2 e2 D2 _ ?i1 X1.out ?i2 Y1.out GA.out.hw GA.out.hh GA.out.hz XD.out YD.out LX.out.1 LX.out.2.1 LX.out.2.2 V1 V2 SZ N1 N2).mono ?_
          case i1 => exact Kd.C_below XC.out hb1
          case i2 => exact Kd.C_below (Kd.C_below YC.out HS.out.own.bel) hb1
          rintro e w5 ⟨v, X, rfl, hX, hR, hb2⟩; refine ⟨_, rfl, ?_⟩
          refine hK.out _ _ (Cells.below hb2 hHeld) (fun hHeld => ?_)
          clear hK Kx
          refine norm_ (a' := ?_) ?_ ?_
          rotate_left
          · show Act.put _ (some 83) _ = _
            simp only [Act.put, List.setIfInBounds_toArray, List.set_cons_zero, List.set_cons_succ, i64_w, i32_w]
            rfl
          refine on HT_ 21 (some 62) ?_
          refine on HT_ 22 (some 84) ?_
          refine on HT_ 23 (some 85) ?_
          have HM := Aside0.mk (Mid.b HS.out hg hb1 hbox hb2 hR)
          clear HS hR hb1 hb2 hbox hg
          obtain ⟨A3, e3, rfl⟩ := Kd.R_slice HM.out.r
          refine one_ (i := 25) (N := none) #[true, true, true, true, true, true, true, true, true, true, true, true, true, true, true, true, true, true, true, true, true, true, true, true, true, true, false] rfl rfl (one_of HT_.out (by kernel_rfl)) (by decide) (fun Kx hK => ?_)
          have s0 := Owns.cell HM.out.own 0 _ _ 47 rfl 0 _ rfl
          have s1 := Owns.cell HM.out.own 0 _ _ 47 rfl 1 _ rfl
          have s2 := Owns.cell HM.out.own 0 _ _ 47 rfl 2 _ rfl
          have s3 := Owns.cell HM.out.own 0 _ _ 47 rfl 3 _ rfl
          have f0 := Owns.frozen HM.out.own 0 _ _ 47 rfl 0
          have f1 := Owns.frozen HM.out.own 0 _ _ 47 rfl 1
          have f2 := Owns.frozen HM.out.own 0 _ _ 47 rfl 2
          have f3 := Owns.frozen HM.out.own 0 _ _ 47 rfl 3
          refine skip_ (w1 := ?_) (by rfl) rfl ?_ ?_
          rotate_left
          · go_simp
            rfl
          refine hK.out _ _ (Cells.far (Cells.far (Cells.far (Cells.far hHeld hfar) hfar) hfar) hfar) (fun hHeld => ?_)
          clear hK Kx
          refine on HT_ 26 (some 20) ?_
          refine done_ (done_of HT_.out (by kernel_rfl)) ?_
          have HF := Aside0.mk (HM.out.set4 (.int .i64 f) (.int .i64 W) (.int .i64 H) (.slice A3 X.length e3))
          try go_wp2
          go_meet
          case rel => exact ⟨_, _, X, rfl, rfl, HF, ⟨hX⟩⟩
      case rest =>
        obtain ⟨gm, v, X, rfl, rfl, HM, HX2⟩ := hcut
        clear p1 p3 a1 a2 X0 Y0 Yb Yc Yd X1 Y1 XC YC N1 N2 V1 V2 XD YD
        obtain ⟨A3, e3, rfl⟩ := Kd.R_slice HM.out.r
        obtain ⟨hce, hfr, HN⟩ := HM.out.put (by simp) i hlt f W H
        obtain ⟨u0, c0'⟩ := hce 0 (by decide)
        obtain ⟨u1, c1'⟩ := hce 1 (by decide)
        obtain ⟨u2, c2'⟩ := hce 2 (by decide)
        obtain ⟨u3, c3'⟩ := hce 3 (by decide)
        have f0 := hfr 0
        have f1 := hfr 1
        have f2 := hfr 2
        have f3 := hfr 3
        rw [Nat.add_zero] at c0' f0
        have s0 := Owns.cell HM.out.own 0 _ _ 47 rfl 0 _ rfl
        have s1 := Owns.cell HM.out.own 0 _ _ 47 rfl 1 _ rfl
        have s2 := Owns.cell HM.out.own 0 _ _ 47 rfl 2 _ rfl
        have s3 := Owns.cell HM.out.own 0 _ _ 47 rfl 3 _ rfl
        have o4' := Owns.cell HM.out.own 1 _ _ 28 rfl 4 _ rfl
        have p1 : (0 ≤ (i : Int)) = True := eq_true (by omega)
        have HN2 : Aside0 (St w ((((wc.setCell ⟨g4, i * 4, none⟩ (.int .i64 f)).setCell ⟨g4, i * 4 + 1, none⟩ (.int .i64 W)).setCell ⟨g4, i * 4 + 2, none⟩ (.int .i64 H)).setCell ⟨g4, i * 4 + 3, none⟩ (.slice A3 X.length e3)) [(g3, #[.int .i64 W, .int .i64 H, .int .i64 S, .int .i64 dp, .slice (some ⟨g4, 0, none⟩) l4.length o4, .slice (some ⟨g5, 0, none⟩) l5.length o5, .slice (some ⟨g6, 0, none⟩) l6.length o6], 28), (w.heap.size + 1 + 1, #[.int .i64 0, .int .i64 0, .int .i64 0, .int .i64 0, .slice none 0 0, .slice none 0 0, .slice none 0 0], 28), (w.heap.size + 1, #[.int .i64 W, .int .i64 H, .int .i64 S, .int .i64 dp, .slice (some bd4) m4.length d4, .slice (some bd5) m5.length d5, .slice (some bd6) m6.length d6], 28), (w.heap.size, #[.int .i64 W, .int .i64 H, .int .i64 S, .int .i64 dp, .slice A4 l4.length c4, .slice A5 l5.length c5, .slice A6 l6.length c6], 28)] (.slice (some ⟨g4, 0, none⟩) l4.length o4) (.slice (some ⟨g5, 0, none⟩) l5.length o5) (.slice (some ⟨g6, 0, none⟩) l6.length o6) (C.set i ⟨f, W, H, X⟩) l5 l6) := ⟨HN⟩
        clear hce hfr HN HM
        go_wp2_with fail
        have hs : i < S := by have := GA.out.n4; omega
        obtain ⟨k0, k1, k2, k3⟩ := GA.out.img i hs
        have hm : Mix (fun q => inC W lx ly (rx - lx) (ry - ly) (q / z)) (rd_T47 l4 i).f3 (rd_T47 m4 i).f3 X := by rw [← XE.out.1, ← XE.out.2, ← WE.out.1, ← WE.out.2]; exact HX2.out
        have HI2 := (HI.out.set i hlt _ ⟨f, W, H, X⟩ k0.symm k1.symm k2.symm hm).ext (Q := fun s q => s < i + 1 ∧ inC W lx ly (rx - lx) (ry - ly) (q / z)) (fun s q _ _ => ⟨fun h => h.elim (fun h => ⟨by omega, h.2⟩) (fun h => ⟨by omega, h.2.2⟩), fun h => by
          by_cases e : s = i
          · exact Or.inl ⟨e, h.2⟩
          · exact Or.inr ⟨e, by omega, h.2⟩⟩)
        exact ⟨⟨i + 1, _, by omega, wrapS i l4.length (by omega) (by have := GA.out.n4; have := GA.out.hs; omega), HN2, ⟨HI2⟩⟩, meas i l4.length (by omega) (by have := GA.out.n4; have := GA.out.hs; omega)⟩
    · have b3 : decide ((i : Int) < (l4.length : Int)) = false := decide_eq_false (by omega)
      have HC := Aside0.mk (HI.out.ext (Q := fun _ q => inC W lx ly (rx - lx) (ry - ly) (q / z)) (fun s q hs _ => ⟨fun h => h.2, fun h => ⟨by omega, h⟩⟩))
      clear HI
      go_wp2_with fail
      go_loopw [21] (fun v wr => ∃ (r : Nat) (D E : List Int), (ly ≤ r ∧ r ≤ ry) ∧ v = .int .i64 r ∧ Aside0 (St w wr [(g3, #[.int .i64 W, .int .i64 H, .int .i64 S, .int .i64 dp, .slice (some ⟨g4, 0, none⟩) l4.length o4, .slice (some ⟨g5, 0, none⟩) l5.length o5, .slice (some ⟨g6, 0, none⟩) l6.length o6], 28), (w.heap.size + 1 + 1, #[.int .i64 0, .int .i64 0, .int .i64 0, .int .i64 0, .slice none 0 0, .slice none 0 0, .slice none 0 0], 28), (w.heap.size + 1, #[.int .i64 W, .int .i64 H, .int .i64 S, .int .i64 dp, .slice (some bd4) m4.length d4, .slice (some bd5) m5.length d5, .slice (some bd6) m6.length d6], 28), (w.heap.size, #[.int .i64 W, .int .i64 H, .int .i64 S, .int .i64 dp, .slice A4 l4.length c4, .slice A5 l5.length c5, .slice A6 l6.length c6], 28)] (.slice (some ⟨g4, 0, none⟩) l4.length o4) (.slice (some ⟨g5, 0, none⟩) l5.length o5) (.slice (some ⟨g6, 0, none⟩) l6.length o6) C D E) ∧ Aside0 (Mix (upC W lx ly (rx - lx) (ry - ly) S (r - ly)) l5 m5 D) ∧ Aside0 (Mix (upC W lx ly (rx - lx) (ry - ly) S (r - ly)) l6 m6 E)) (fun v _ => ry - (intOf v).toNat)
      case atStart => exact ⟨ly, l5, l6, by have := HX.out; omega, rfl, ⟨(by repeat (first | exact HS.out | (with_reducible apply St.drewN) | (with_reducible apply St.drew)))⟩, ⟨Mix.start (fun i _ => by rw [Nat.sub_self]; exact up_zero)⟩, ⟨Mix.start (fun i _ => by rw [Nat.sub_self]; exact up_zero)⟩⟩
      case round =>
        clear HS b3
        obtain ⟨r, D, E, hr, rfl, HS, HD1, HE1⟩ := hrel
        by_cases hlt2 : r < ry
        · have b4 : decide ((r : Int) < (ry : Int)) = true := decide_eq_true (by omega)
          go_wp2_with fail
          clear b4
          have hX := HX.out
          obtain ⟨n1, h1⟩ : ∃ n : Nat, n = r * W := ⟨_, rfl⟩
          obtain ⟨n2, h2⟩ : ∃ n : Nat, n = r * W + lx := ⟨_, rfl⟩
          obtain ⟨n3, h3⟩ : ∃ n : Nat, n = r * W + rx := ⟨_, rfl⟩
          obtain ⟨a0, h4⟩ : ∃ n : Nat, n = (r * W + lx) * S := ⟨_, rfl⟩
          obtain ⟨b0, h5⟩ : ∃ n : Nat, n = (r * W + rx) * S := ⟨_, rfl⟩
          obtain ⟨n5, h6⟩ : ∃ n : Nat, n = (rx - lx) * S := ⟨_, rfl⟩
          have hz1 : r * W ≤ 64 * 64 := Nat.mul_le_mul (by have := GA.out.hh; omega) GA.out.hw.2
          have hz2 : (r * W + lx) * S ≤ (64 * 64 + 64) * 8 := Nat.mul_le_mul (by have := GA.out.hw; omega) GA.out.hs.2
          have hz3 : (r * W + rx) * S ≤ (64 * 64 + 64) * 8 := Nat.mul_le_mul (by have := GA.out.hw; omega) GA.out.hs.2
          have h7 : b0 = a0 + n5 := by rw [h4, h5, h6, ← Nat.add_mul]; congr 1; omega
          have h8 : b0 ≤ W * H * S := by
            rw [h5]
            refine Nat.mul_le_mul_right _ ?_
            have : (r + 1) * W ≤ H * W := Nat.mul_le_mul_right _ (by omega)
            rw [Nat.add_mul, Nat.one_mul, Nat.mul_comm H W] at this
            omega
          have h9 : 0 < n5 := by rw [h6]; exact Nat.mul_pos (by omega) GA.out.hs.1
          have AB : Aside0 (b0 = a0 + n5 ∧ b0 ≤ W * H * S ∧ 0 < n5) := ⟨h7, h8, h9⟩
          have AE : Aside0 (a0 = ((ly + (r - ly)) * W + lx) * S ∧ n5 = (rx - lx) * S) := ⟨by rw [show ly + (r - ly) = r by omega]; exact h4, h6⟩
          have a1 := wrap_nat ((r : Int) * (W : Int)) n1 (by rw [h1, Int.natCast_mul]) (by omega)
          have a2 := wrap_nat ((n1 : Int) + (lx : Int)) n2 (by omega) (by have := GA.out.hw; omega)
          have a3 := wrap_nat ((n2 : Int) * (S : Int)) a0 (by rw [h2, h4, Int.natCast_mul]) (by omega)
          have a4 := wrap_nat ((n1 : Int) + (rx : Int)) n3 (by omega) (by have := GA.out.hw; omega)
          have a5 := wrap_nat ((n3 : Int) * (S : Int)) b0 (by rw [h3, h5, Int.natCast_mul]) (by omega)
          clear h1 h2 h3 h4 h5 h6 h7 h8 h9 hz1 hz2 hz3 hX
          go_cut [22, 23] (fun v22 v23 wc => v22 = .int .i64 (a0 : Int) ∧ v23 = .int .i64 (b0 : Int) ∧ Aside0 (St w wc [(g3, #[.int .i64 W, .int .i64 H, .int .i64 S, .int .i64 dp, .slice (some ⟨g4, 0, none⟩) l4.length o4, .slice (some ⟨g5, 0, none⟩) l5.length o5, .slice (some ⟨g6, 0, none⟩) l6.length o6], 28), (w.heap.size + 1 + 1, #[.int .i64 0, .int .i64 0, .int .i64 0, .int .i64 0, .slice none 0 0, .slice none 0 0, .slice none 0 0], 28), (w.heap.size + 1, #[.int .i64 W, .int .i64 H, .int .i64 S, .int .i64 dp, .slice (some bd4) m4.length d4, .slice (some bd5) m5.length d5, .slice (some bd6) m6.length d6], 28), (w.heap.size, #[.int .i64 W, .int .i64 H, .int .i64 S, .int .i64 dp, .slice A4 l4.length c4, .slice A5 l5.length c5, .slice A6 l6.length c6], 28)] (.slice (some ⟨g4, 0, none⟩) l4.length o4) (.slice (some ⟨g5, 0, none⟩) l5.length o5) (.slice (some ⟨g6, 0, none⟩) l6.length o6) C D E))
          case first =>
            go_region_held3 (fun w' => w'.cell? ⟨w.heap.size, 0, none⟩ = some (.int .i64 W) ∧ w'.cell? ⟨w.heap.size, 2, none⟩ = some (.int .i64 S)) (first | exact ⟨Owns.cell HS.out.own 3 _ _ 28 rfl 0 _ rfl, Owns.cell HS.out.own 3 _ _ 28 rfl 2 _ rfl⟩ | go_keep) (fail)
            go_wp2
            go_meet
            case rel => exact ⟨rfl, rfl, ⟨(by repeat (first | exact HS.out | (with_reducible apply St.drewN) | (with_reducible apply St.drew)))⟩⟩
          case rest =>
            obtain ⟨rfl, rfl, HS⟩ := hcut
            clear a1 a2 a3 a4 a5 n1 n2 n3
            have z05 := Owns.cell HS.out.own 0 _ _ 28 rfl 5 _ rfl
            have z25 := Owns.cell HS.out.own 2 _ _ 28 rfl 5 _ rfl
            have hcap : l5.length ≤ o5 := (Kd.R_reads' HS.out.d).2.1
            have p1 : (0 ≤ (a0 : Int)) = True := eq_true (by omega)
            have p2 : ((a0 : Int) ≤ (b0 : Int)) = True := eq_true (by have := AB.out; omega)
            have p3 : ((b0 : Int) ≤ (o5 : Int)) = True := eq_true (by have := Fit.n5 GA.out; have := AB.out; omega)
            have p4 : ((b0 : Int) ≤ (d5 : Int)) = True := eq_true (by have := HD5.out; have := Fit.n5 GB.out; have := AB.out; omega)
            have p5 : (o5 = a0) = False := eq_false (by have := Fit.n5 GA.out; have := AB.out; omega)
            have p6 : (d5 = a0) = False := eq_false (by have := HD5.out; have := Fit.n5 GB.out; have := AB.out; omega)
            have p7 : b0 - a0 = n5 := by have := AB.out; omega
            clear hcap
            go_wp2_with fail
            go_still_tail 10, (by kernel_rfl)
            change wpList _ _ _ _ _ wc.drew
            have hlen : D.length = l5.length := HD1.out.len
            have hr : Kd.R (Kd.int .i64) 3 wc.drew w.heap.size (fun k => some k ≠ ((.slice (some ⟨g6, 0, none⟩) l6.length o6) : Value).ownBlock) (.slice (some ⟨g5, 0, none⟩) D.length o5) D := by rw [hlen]; exact HS.out.drew.d
            have hab := AB.out
            have hn := Fit.n5 GA.out
            have hn' := Fit.n5 GB.out
            refine R_copy_at (enc := Value.int .i64) (h1 := fun _ => rfl) 0 rfl (.tmp 122) (.tmp 127) 26 26 3 rfl Try.underlying26 (by kernel_rfl) D ((m5.drop a0).take n5) (some (bd5.add a0)) a0 n5 (o5 - a0) (d5 - a0) (by first | rfl | simp [Act.eval, p5, p7]) (by first | rfl | simp [Act.eval, p6, p7]) (by rw [hlen]; omega) hr (C_part (Kd.C_below HU5.out HS.out.drew.own.bel) a0 n5 (by omega)) (fun hR hg => ?_)
            rw [hlen] at hR
            have HN := Aside0.mk (HS.out.drew.grewD (by simp) hg hR)
            have hM := HD1.out.seg a0 n5 ((m5.drop a0).take n5) (by omega) (by rw [List.length_take, List.length_drop]; omega) (fun k hk => by rw [List.getElem?_take_of_lt hk, List.getElem?_drop])
            rw [AE.out.1, AE.out.2] at hM
            have HM5 := Aside0.mk (hM.ext (fun i _ => up_next GA.out.hs.1 (by have := HX.out; omega) GA.out.hw.1 (by have := HX.out; omega)))
            rw [← AE.out.1, ← AE.out.2] at HM5
            clear hM hR hg hr hlen hab hn hn' p1 p2 p3 p4 p5 p6 p7 HS z05 z25
            generalize World.setCells wc.drew g5 a0 _ = wx at HN ⊢
            have HS := HN
            clear HN
            go_wp2
            have z06 := Owns.cell HS.out.own 0 _ _ 28 rfl 6 _ rfl
            have z26 := Owns.cell HS.out.own 2 _ _ 28 rfl 6 _ rfl
            have hcap : l6.length ≤ o6 := (Kd.R_reads' HS.out.z).2.1
            have p1 : (0 ≤ (a0 : Int)) = True := eq_true (by omega)
            have p2 : ((a0 : Int) ≤ (b0 : Int)) = True := eq_true (by have := AB.out; omega)
            have p3 : ((b0 : Int) ≤ (o6 : Int)) = True := eq_true (by have := Fit.n6 GA.out; have := AB.out; omega)
            have p4 : ((b0 : Int) ≤ (d6 : Int)) = True := eq_true (by have := HD6.out; have := Fit.n6 GB.out; have := AB.out; omega)
            have p5 : (o6 = a0) = False := eq_false (by have := Fit.n6 GA.out; have := AB.out; omega)
            have p6 : (d6 = a0) = False := eq_false (by have := HD6.out; have := Fit.n6 GB.out; have := AB.out; omega)
            have p7 : b0 - a0 = n5 := by have := AB.out; omega
            clear hcap
            go_wp2_with fail
            go_still_tail 10, (by kernel_rfl)
            change wpList _ _ _ _ _ wx.drew
            have hlen : E.length = l6.length := HE1.out.len
            have hr : Kd.R (Kd.int .i64) 3 wx.drew w.heap.size (fun k => some k ≠ ((.slice (some ⟨g5, 0, none⟩) l5.length o5) : Value).ownBlock) (.slice (some ⟨g6, 0, none⟩) E.length o6) E := by rw [hlen]; exact HS.out.drew.z
            have hab := AB.out
            have hn := Fit.n6 GA.out
            have hn' := Fit.n6 GB.out
            refine R_copy_at (enc := Value.int .i64) (h1 := fun _ => rfl) 0 rfl (.tmp 133) (.tmp 138) 26 26 3 rfl Try.underlying26 (by kernel_rfl) E ((m6.drop a0).take n5) (some (bd6.add a0)) a0 n5 (o6 - a0) (d6 - a0) (by first | rfl | simp [Act.eval, p5, p7]) (by first | rfl | simp [Act.eval, p6, p7]) (by rw [hlen]; omega) hr (C_part (Kd.C_below HU6.out HS.out.drew.own.bel) a0 n5 (by omega)) (fun hR hg => ?_)
            rw [hlen] at hR
            have HN := Aside0.mk (HS.out.drew.grewZ (by simp) hg hR)
            have hM := HE1.out.seg a0 n5 ((m6.drop a0).take n5) (by omega) (by rw [List.length_take, List.length_drop]; omega) (fun k hk => by rw [List.getElem?_take_of_lt hk, List.getElem?_drop])
            rw [AE.out.1, AE.out.2] at hM
            have HM6 := Aside0.mk (hM.ext (fun i _ => up_next GA.out.hs.1 (by have := HX.out; omega) GA.out.hw.1 (by have := HX.out; omega)))
            rw [← AE.out.1, ← AE.out.2] at HM6
            clear hM hR hg hr hlen hab hn hn' p1 p2 p3 p4 p5 p6 p7 HS z06 z26
            generalize World.setCells wx.drew g6 a0 _ = wy at HN ⊢
            have HS := HN
            clear HN
            go_wp2
            exact ⟨⟨r + 1, _, _, by omega, wrapS r ry (by omega) (by have := HX.out; have := GA.out.hh; omega), HS, ⟨by rw [show r + 1 - ly = r - ly + 1 by omega]; exact HM5.out⟩, ⟨by rw [show r + 1 - ly = r - ly + 1 by omega]; exact HM6.out⟩⟩, meas r ry (by omega) (by have := HX.out; have := GA.out.hh; omega)⟩
        · have b4 : decide ((r : Int) < (ry : Int)) = false := decide_eq_false (by omega)
          rw [show r - ly = ry - ly by omega] at HD1 HE1
          have MA : Aside0 (Made W S z (inC W lx ly (rx - lx) (ry - ly)) l4 m4 l5 m5 l6 m6 C D E) := ⟨⟨HC.out, HD1.out.ext (fun i _ => up_all), HE1.out.ext (fun i _ => up_all)⟩⟩
          clear HC HD1 HE1
          have hR := Owns.rules HS.out.own; simp only [Own.rules] at hR
          go_wp2_with fail
          have HF : Aside0 (St w (((((((wr.setCell ⟨w.heap.size + 1 + 1, 0, none⟩ (.int .i64 W)).setCell ⟨w.heap.size + 1 + 1, 1, none⟩ (.int .i64 H)).setCell ⟨w.heap.size + 1 + 1, 2, none⟩ (.int .i64 S)).setCell ⟨w.heap.size + 1 + 1, 3, none⟩ (.int .i64 dp)).setCell ⟨w.heap.size + 1 + 1, 4, none⟩ (.slice (some ⟨g4, 0, none⟩) l4.length o4)).setCell ⟨w.heap.size + 1 + 1, 5, none⟩ (.slice (some ⟨g5, 0, none⟩) l5.length o5)).setCell ⟨w.heap.size + 1 + 1, 6, none⟩ (.slice (some ⟨g6, 0, none⟩) l6.length o6)) [(g3, #[.int .i64 W, .int .i64 H, .int .i64 S, .int .i64 dp, .slice (some ⟨g4, 0, none⟩) l4.length o4, .slice (some ⟨g5, 0, none⟩) l5.length o5, .slice (some ⟨g6, 0, none⟩) l6.length o6], 28), (w.heap.size + 1 + 1, #[.int .i64 W, .int .i64 H, .int .i64 S, .int .i64 dp, .slice (some ⟨g4, 0, none⟩) l4.length o4, .slice (some ⟨g5, 0, none⟩) l5.length o5, .slice (some ⟨g6, 0, none⟩) l6.length o6], 28), (w.heap.size + 1, #[.int .i64 W, .int .i64 H, .int .i64 S, .int .i64 dp, .slice (some bd4) m4.length d4, .slice (some bd5) m5.length d5, .slice (some bd6) m6.length d6], 28), (w.heap.size, #[.int .i64 W, .int .i64 H, .int .i64 S, .int .i64 dp, .slice A4 l4.length c4, .slice A5 l5.length c5, .slice A6 l6.length c6], 28)] (.slice (some ⟨g4, 0, none⟩) l4.length o4) (.slice (some ⟨g5, 0, none⟩) l5.length o5) (.slice (some ⟨g6, 0, none⟩) l6.length o6) C D E) := ⟨HS.out.set7 1 _ _ _ _ _ _ _ _ rfl (.int .i64 W) (.int .i64 H) (.int .i64 S) (.int .i64 dp) (.slice (some ⟨g4, 0, none⟩) l4.length o4) (.slice (some ⟨g5, 0, none⟩) l5.length o5) (.slice (some ⟨g6, 0, none⟩) l6.length o6)⟩
          clear hR HS
          generalize (((((((wr.setCell ⟨w.heap.size + 1 + 1, 0, none⟩ (.int .i64 W)).setCell ⟨w.heap.size + 1 + 1, 1, none⟩ (.int .i64 H)).setCell ⟨w.heap.size + 1 + 1, 2, none⟩ (.int .i64 S)).setCell ⟨w.heap.size + 1 + 1, 3, none⟩ (.int .i64 dp)).setCell ⟨w.heap.size + 1 + 1, 4, none⟩ (.slice (some ⟨g4, 0, none⟩) l4.length o4)).setCell ⟨w.heap.size + 1 + 1, 5, none⟩ (.slice (some ⟨g5, 0, none⟩) l5.length o5)).setCell ⟨w.heap.size + 1 + 1, 6, none⟩ (.slice (some ⟨g6, 0, none⟩) l6.length o6)) = wz at HF ⊢
          refine bodyPost_ret (results_cell_row rfl _ _ (w.heap.size + 1 + 1) 28 #[.int .i64 W, .int .i64 H, .int .i64 S, .int .i64 dp, .slice (some ⟨g4, 0, none⟩) l4.length o4, .slice (some ⟨g5, 0, none⟩) l5.length o5, .slice (some ⟨g6, 0, none⟩) l6.length o6] (0, 0) _ rfl (HF.out.own.at 1 _ rfl) Try.underlying28 rfl (by kernel_rfl)) rfl ?_
          exact ⟨_, _, _, C, D, E, rfl, MA.out, HF.out.s, HF.out.d, HF.out.z, HF.out.own.bel⟩


end Go.Proofs.Ytmpmennepjkocaa.TMerge
