/- image.Copy: two valid images of one form and a rectangle that lies inside: what it answers. No condition beside those of the theorem. -/
import Derived.Test.YtmpmennepjkocaaPTargetMergex5
import Derived.Test.YtmpmennepjkocaaPTargetMergex8
import Derived.Test.YtmpmennepjkocaaOut
import Derived.Test.YtmpmennepjkocaaMix
import Derived.Test.YtmpmennepjkocaaCopy
import Derived.StillTailTactics
namespace Go.Proofs.Ytmpmennepjkocaa.ICopy
open Go.RowKit Go.Proofs.YtmpmennepjkocaaW.PrintWords Go.Proofs.YtmpmennepjkocaaW.PrintLast Go.Proofs.YtmpmennepjkocaaW.PrintMore Go.Proofs.Ytmpmennepjkocaa.PTargetMerge Go.Proofs.Ytmpmennepjkocaa.Own Go.Proofs.Ytmpmennepjkocaa.Out Go.Proofs.Ytmpmennepjkocaa.Mix Go.Proofs.Ytmpmennepjkocaa.Copy
set_option linter.unusedVariables false
set_option linter.unusedSimpArgs false
/-- Does the rectangle hold texel q? -/
def inC (W lx ty wd ht q : Nat) : Prop := (lx ≤ q % W ∧ q % W < lx + wd) ∧ (ty ≤ q / W ∧ q / W < ty + ht)
/-- The rows above y. -/
def upC (W lx ty wd ht z y i : Nat) : Prop := inC W lx ty wd ht (i / z) ∧ i / z / W < ty + y
theorem up_zero {W lx ty wd ht z i : Nat} : ¬ upC W lx ty wd ht z 0 i := fun h => by have := h.1.2.1; have := h.2; omega
theorem up_all {W lx ty wd ht z i : Nat} : upC W lx ty wd ht z ht i ↔ inC W lx ty wd ht (i / z) := ⟨fun h => h.1, fun h => ⟨h, h.2.2⟩⟩
theorem up_next {W lx ty wd ht z y i : Nat} (hz : 0 < z) (hW : lx + wd ≤ W) (hW0 : 0 < W) (hy : y < ht) : (upC W lx ty wd ht z y i ∨ (((ty + y) * W + lx) * z ≤ i ∧ i < ((ty + y) * W + lx) * z + wd * z)) ↔ upC W lx ty wd ht z (y + 1) i := by
  have e1 : ((ty + y) * W + lx) * z ≤ i ∧ i < ((ty + y) * W + lx) * z + wd * z ↔ (ty + y) * W + lx ≤ i / z ∧ i / z < (ty + y) * W + lx + wd := by
    rw [Nat.le_div_iff_mul_le hz, Nat.div_lt_iff_lt_mul hz, Nat.add_mul ((ty + y) * W + lx) wd z]
  rw [e1]
  unfold upC inC
  generalize i / z = q
  have hq := Nat.div_add_mod q W
  have hm := Nat.mod_lt q hW0
  have e2 : (ty + y) * W + lx ≤ q ∧ q < (ty + y) * W + lx + wd ↔ q / W = ty + y ∧ lx ≤ q % W ∧ q % W < lx + wd := by
    constructor
    · rintro ⟨h1, h2⟩
      have h3 : q / W = ty + y := by
        rw [Nat.div_eq_iff hW0, Nat.mul_comm]
        rw [Nat.mul_comm] at h1 h2
        omega
      rw [h3] at hq
      rw [Nat.mul_comm] at hq
      omega
    · rintro ⟨h1, h2, h3⟩
      rw [h1, Nat.mul_comm] at hq
      omega
  rw [e2]
  generalize q / W = a
  generalize q % W = b
  omega
set_option maxHeartbeats 8000000 in
set_option maxRecDepth 100000 in
theorem good (W H z K lx ty wd ht : Nat) (f : Int) (A1 : Option Addr) (c1 : Nat) (D1 : List Int) (A2 : Option Addr) (c2 : Nat) (D2 : List Int) (w : World)
    (hr1 : Kd.C (Kd.int .u8) w A1 D1.length D1) (hc1 : D1.length ≤ c1) (hr2 : Kd.C (Kd.int .u8) w A2 D2.length D2) (hc2 : D2.length ≤ c2)
    (hW : 1 ≤ W ∧ W ≤ 64) (hH : 1 ≤ H ∧ H ≤ 64) (hz : 1 ≤ z ∧ z ≤ 16) (hd1 : D1.length = W * H * z) (hd2 : D2.length = W * H * z) (h1d : 1 ≤ wd) (hx : lx + wd ≤ W) (hy : ty + ht ≤ H)
    (V1 : Aside0 (image_Valid.f K f W H D1 = some true)) (V2 : Aside0 (image_Valid.f K f W H D2 = some true)) (SZ : Aside0 (texel_Size.f K f = some (z : Int)))
    (I1 : Aside0 (image_inside.f f W H D1 lx ty wd ht = some true)) (I2 : Aside0 (image_inside.f f W H D2 lx ty wd ht = some true)) :
    Calls Try.prog 38 #[.agg #[.int .i64 f, .int .i64 W, .int .i64 H, .slice A1 D1.length c1], .agg #[.int .i64 f, .int .i64 W, .int .i64 H, .slice A2 D2.length c2], .int .i64 lx, .int .i64 ty, .int .i64 lx, .int .i64 ty, .int .i64 wd, .int .i64 ht] w fun e w' => ∃ (v : Value) (D : List Int), e = .returned (.tuple #[.agg #[.int .i64 f, .int .i64 W, .int .i64 H, v], .int .i64 0]) ∧ Mix (fun i => inC W lx ty wd ht (i / z)) D1 D2 D ∧ Kd.R (Kd.int .u8) 5 w' w.heap.size (fun _ => True) v D ∧ Below w.heap.size w w' := by
  have P1 : Aside0 (0 < D1.length) := ⟨by rw [hd1]; exact Nat.mul_pos (Nat.mul_pos hW.1 hH.1) hz.1⟩
  have P2 : Aside0 (0 < D2.length) := ⟨by rw [hd2]; exact Nat.mul_pos (Nat.mul_pos hW.1 hH.1) hz.1⟩
  obtain ⟨ad1, rfl, _⟩ := Kd.at_int hr1 0 (by omega) (by have := P1.out; omega)
  obtain ⟨ad2, rfl, _⟩ := Kd.at_int hr2 0 (by omega) (by have := P2.out; omega)
  have CLN : Aside0 (image_Clone.f f W H D1 = some (f, (W : Int), (H : Int), D1)) := ⟨by
    unfold image_Clone.f
    rw [Option.bind_some, if_pos (by rw [List.length_nil, hd1]; have := Nat.mul_le_mul (Nat.mul_le_mul hW.2 hH.2) hz.2; omega), List.nil_append]⟩
  have HR1 := Aside0.mk hr1
  have HR2 := Aside0.mk hr2
  have HC1 := Aside0.mk hc1
  have HC2 := Aside0.mk hc2
  have HD := Aside0.mk (And.intro hd1 hd2)
  have HB := Aside0.mk (And.intro hW (And.intro hH (And.intro hz (And.intro hx (And.intro hy h1d)))))
  clear hr1 hr2 hc1 hc2 hd1 hd2 hW hH hz hx hy h1d
  have q1 : decide ((wd : Int) < 0) = false := decide_eq_false (by omega)
  have q2 : decide ((ht : Int) < 0) = false := decide_eq_false (by omega)
  have hu47 := Try.underlying47
  go_enter Try.func38, Try.ntmps38
  go_upto_region 1 with (fail)
  have HL : Aside0 (Owns w [(w.heap.size + 1 + 1, #[.int .i64 0, .int .i64 0, .int .i64 0, .slice none 0 0], 47), (w.heap.size + 1, #[.int .i64 f, .int .i64 W, .int .i64 H, .slice (some ad2) D2.length c2], 47), (w.heap.size, #[.int .i64 f, .int .i64 W, .int .i64 H, .slice (some ad1) D1.length c1], 47)] (((w.alloc (Obj.cells #[.int .i64 f, .int .i64 W, .int .i64 H, .slice (some ad1) D1.length c1] 47)).alloc (Obj.cells #[.int .i64 f, .int .i64 W, .int .i64 H, .slice (some ad2) D2.length c2] 47)).alloc (Obj.cells #[.int .i64 0, .int .i64 0, .int .i64 0, .slice none 0 0] 47))) := ⟨by simpa using (((Owns.start w).alloc _ _).alloc _ _).alloc _ _⟩
  generalize (((w.alloc (Obj.cells #[.int .i64 f, .int .i64 W, .int .i64 H, .slice (some ad1) D1.length c1] 47)).alloc (Obj.cells #[.int .i64 f, .int .i64 W, .int .i64 H, .slice (some ad2) D2.length c2] 47)).alloc (Obj.cells #[.int .i64 0, .int .i64 0, .int .i64 0, .slice none 0 0] 47)) = wa at HL ⊢
  have m0 := Owns.cell HL.out 2 _ _ 47 rfl 0 _ rfl
  have m1 := Owns.cell HL.out 2 _ _ 47 rfl 1 _ rfl
  have m2 := Owns.cell HL.out 2 _ _ 47 rfl 2 _ rfl
  have m3 := Owns.cell HL.out 2 _ _ 47 rfl 3 _ rfl
  have n0 := Owns.cell HL.out 1 _ _ 47 rfl 0 _ rfl
  have n1 := Owns.cell HL.out 1 _ _ 47 rfl 1 _ rfl
  have n2 := Owns.cell HL.out 1 _ _ 47 rfl 2 _ rfl
  have n3 := Owns.cell HL.out 1 _ _ 47 rfl 3 _ rfl
  go_upto_region 9 with (first | (go_at_call 29; (with_reducible refine (image_Valid.calls K f W H (some ad1) c1 D1 true _ ?s4 HC1.out V1.out).mono ?_); (case s4 => exact Kd.C_below HR1.out (by repeat (first | exact HL.out.bel | apply below_alloc | apply pw_below_drewN | apply below_drew1))); rintro e w4 ⟨rfl, hb⟩; have HT := Aside0.mk (Owns.step (by repeat (first | exact HL.out | (with_reducible apply Owns.drewN) | (with_reducible apply Owns.drew))) hb); clear HL hb; have HL := HT; clear HT; have m0 := Owns.cell HL.out 2 _ _ 47 rfl 0 _ rfl; have n0 := Owns.cell HL.out 1 _ _ 47 rfl 0 _ rfl; have m1 := Owns.cell HL.out 2 _ _ 47 rfl 1 _ rfl; have n1 := Owns.cell HL.out 1 _ _ 47 rfl 1 _ rfl; have m2 := Owns.cell HL.out 2 _ _ 47 rfl 2 _ rfl; have n2 := Owns.cell HL.out 1 _ _ 47 rfl 2 _ rfl; have m3 := Owns.cell HL.out 2 _ _ 47 rfl 3 _ rfl; have n3 := Owns.cell HL.out 1 _ _ 47 rfl 3 _ rfl) | (go_at_call 29; (with_reducible refine (image_Valid.calls K f W H (some ad2) c2 D2 true _ ?s4 HC2.out V2.out).mono ?_); (case s4 => exact Kd.C_below HR2.out (by repeat (first | exact HL.out.bel | apply below_alloc | apply pw_below_drewN | apply below_drew1))); rintro e w5 ⟨rfl, hb⟩; have HT := Aside0.mk (Owns.step (by repeat (first | exact HL.out | (with_reducible apply Owns.drewN) | (with_reducible apply Owns.drew))) hb); clear HL hb; have HL := HT; clear HT; have m0 := Owns.cell HL.out 2 _ _ 47 rfl 0 _ rfl; have n0 := Owns.cell HL.out 1 _ _ 47 rfl 0 _ rfl; have m1 := Owns.cell HL.out 2 _ _ 47 rfl 1 _ rfl; have n1 := Owns.cell HL.out 1 _ _ 47 rfl 1 _ rfl; have m2 := Owns.cell HL.out 2 _ _ 47 rfl 2 _ rfl; have n2 := Owns.cell HL.out 1 _ _ 47 rfl 2 _ rfl; have m3 := Owns.cell HL.out 2 _ _ 47 rfl 3 _ rfl; have n3 := Owns.cell HL.out 1 _ _ 47 rfl 3 _ rfl) | (go_at_call 56; (with_reducible refine (image_inside.calls f W H (some ad1) c1 D1 lx ty wd ht true _ ?s4 HC1.out I1.out).mono ?_); (case s4 => exact Kd.C_below HR1.out (by repeat (first | exact HL.out.bel | apply below_alloc | apply pw_below_drewN | apply below_drew1))); rintro e w6 ⟨rfl, hb⟩; have HT := Aside0.mk (Owns.step (by repeat (first | exact HL.out | (with_reducible apply Owns.drewN) | (with_reducible apply Owns.drew))) hb); clear HL hb; have HL := HT; clear HT; have m0 := Owns.cell HL.out 2 _ _ 47 rfl 0 _ rfl; have n0 := Owns.cell HL.out 1 _ _ 47 rfl 0 _ rfl; have m1 := Owns.cell HL.out 2 _ _ 47 rfl 1 _ rfl; have n1 := Owns.cell HL.out 1 _ _ 47 rfl 1 _ rfl; have m2 := Owns.cell HL.out 2 _ _ 47 rfl 2 _ rfl; have n2 := Owns.cell HL.out 1 _ _ 47 rfl 2 _ rfl; have m3 := Owns.cell HL.out 2 _ _ 47 rfl 3 _ rfl; have n3 := Owns.cell HL.out 1 _ _ 47 rfl 3 _ rfl) | (go_at_call 56; (with_reducible refine (image_inside.calls f W H (some ad2) c2 D2 lx ty wd ht true _ ?s4 HC2.out I2.out).mono ?_); (case s4 => exact Kd.C_below HR2.out (by repeat (first | exact HL.out.bel | apply below_alloc | apply pw_below_drewN | apply below_drew1))); rintro e w8 ⟨rfl, hb⟩; have HT := Aside0.mk (Owns.step (by repeat (first | exact HL.out | (with_reducible apply Owns.drewN) | (with_reducible apply Owns.drew))) hb); clear HL hb; have HL := HT; clear HT; have m0 := Owns.cell HL.out 2 _ _ 47 rfl 0 _ rfl; have n0 := Owns.cell HL.out 1 _ _ 47 rfl 0 _ rfl; have m1 := Owns.cell HL.out 2 _ _ 47 rfl 1 _ rfl; have n1 := Owns.cell HL.out 1 _ _ 47 rfl 1 _ rfl; have m2 := Owns.cell HL.out 2 _ _ 47 rfl 2 _ rfl; have n2 := Owns.cell HL.out 1 _ _ 47 rfl 2 _ rfl; have m3 := Owns.cell HL.out 2 _ _ 47 rfl 3 _ rfl; have n3 := Owns.cell HL.out 1 _ _ 47 rfl 3 _ rfl))
  have hlo := Aside0.mk HL.out.bel.size
  go_upto_region 10 with (go_at_call 22; (with_reducible refine (image_Clone.calls f W H (some ad1) c1 D1 f W H D1 _ ?s4 HC1.out CLN.out).mono ?_); (case s4 => exact Kd.C_below HR1.out (by repeat (first | exact HL.out.bel | apply below_alloc | apply pw_below_drewN | apply below_drew1))); rintro e w7 ⟨v3, rfl, ho3, hb⟩; have hlow := hlo.out; have HT := Aside0.mk (Owns.step (by repeat (first | exact HL.out | (with_reducible apply Owns.drewN) | (with_reducible apply Owns.drew))) hb); clear HL hb; have HL := HT; clear HT; obtain ⟨g, o1, rfl, _⟩ := Kd.R_form ho3 P1.out; have HS := Aside0.mk (S1.mk HL.out (Kd.R_lower ho3 hlow)); clear ho3 HL hlow)
  clear q1 q2 m0 m1 m2 m3 n0 n1 n2 n3 hlo
  have HT := Aside0.mk (HS.out.alloc #[.int .i64 f, .int .i64 W, .int .i64 H, .slice (some ⟨g, 0, none⟩) D1.length o1] 47)
  clear HS
  have HS := HT
  clear HT
  obtain ⟨g3, hg3⟩ : ∃ g, g = w7.heap.size := ⟨_, rfl⟩
  rw [← hg3] at HS
  rw [← hg3]
  generalize (w7.alloc (Obj.cells #[.int .i64 f, .int .i64 W, .int .i64 H, .slice (some ⟨g, 0, none⟩) D1.length o1] 47)) = wb at HS ⊢
  clear hg3
  have HO1 := Aside0.mk (Kd.R_reads' HS.out.r).2.1
  have m0 := Owns.cell HS.out.own 3 _ _ 47 rfl 0 _ rfl
  go_wp2_with (go_at_call 53; (with_reducible refine (texel_Size.calls K f z _ SZ.out).mono ?_); rintro e w9 ⟨rfl, ⟨nd, rfl⟩⟩)
  clear m0
  go_loopw [72] (fun v wr => ∃ (y : Nat) (D : List Int), y ≤ ht ∧ v = .int .i64 y ∧ Aside0 (S1 w wr [(g3, #[.int .i64 f, .int .i64 W, .int .i64 H, .slice (some ⟨g, 0, none⟩) D1.length o1], 47), (w.heap.size + 1 + 1, #[.int .i64 0, .int .i64 0, .int .i64 0, .slice none 0 0], 47), (w.heap.size + 1, #[.int .i64 f, .int .i64 W, .int .i64 H, .slice (some ad2) D2.length c2], 47), (w.heap.size, #[.int .i64 f, .int .i64 W, .int .i64 H, .slice (some ad1) D1.length c1], 47)] (.slice (some ⟨g, 0, none⟩) D1.length o1) D) ∧ Aside0 (Mix (upC W lx ty wd ht z y) D1 D2 D)) (fun v _ => ht - (intOf v).toNat)
  case atStart => exact ⟨0, D1, Nat.zero_le _, rfl, ⟨(by repeat (first | exact HS.out | (with_reducible apply S1.drewN) | (with_reducible apply S1.drew)))⟩, ⟨Mix.start (fun i _ => up_zero)⟩⟩
  case round =>
    clear HS
    obtain ⟨y, D, hy, rfl, HS, HM⟩ := hrel
    by_cases hlt : y < ht
    · have b1 : decide ((y : Int) < (ht : Int)) = true := decide_eq_true (by omega)
      have m1 := Owns.cell HS.out.own 3 _ _ 47 rfl 1 _ rfl
      have n1 := Owns.cell HS.out.own 2 _ _ 47 rfl 1 _ rfl
      go_wp2_with fail
      clear b1
      have hb := HB.out
      have hz1 : (ty + y) * W ≤ 64 * 64 := Nat.mul_le_mul (by omega) hb.1.2
      have hz2 : ((ty + y) * W + lx) * z ≤ (64 * 64 + 64) * 16 := Nat.mul_le_mul (by omega) hb.2.2.1.2
      have hz3 : wd * z ≤ 64 * 16 := Nat.mul_le_mul (by omega) hb.2.2.1.2
      have hto : ((ty + y) * W + lx) * z + wd * z ≤ W * H * z := by
        rw [← Nat.add_mul]
        refine Nat.mul_le_mul_right _ ?_
        have : (ty + y + 1) * W ≤ H * W := Nat.mul_le_mul_right _ (by omega)
        rw [Nat.add_mul _ 1, Nat.one_mul, Nat.mul_comm H W] at this
        omega
      obtain ⟨n1', h1⟩ : ∃ n : Nat, n = ty + y := ⟨_, rfl⟩
      obtain ⟨n2, h2⟩ : ∃ n : Nat, n = (ty + y) * W := ⟨_, rfl⟩
      obtain ⟨n3, h3⟩ : ∃ n : Nat, n = (ty + y) * W + lx := ⟨_, rfl⟩
      obtain ⟨tp, h4⟩ : ∃ n : Nat, n = ((ty + y) * W + lx) * z := ⟨_, rfl⟩
      obtain ⟨n5, h5⟩ : ∃ n : Nat, n = wd * z := ⟨_, rfl⟩
      obtain ⟨n6, h6⟩ : ∃ n : Nat, n = tp + n5 := ⟨_, rfl⟩
      have a1 := wrap_nat ((ty : Int) + (y : Int)) n1' (by omega) (by omega)
      have a2 := wrap_nat ((n1' : Int) * (W : Int)) n2 (by rw [h1, h2, Int.natCast_mul]) (by omega)
      have a3 := wrap_nat ((n2 : Int) + (lx : Int)) n3 (by omega) (by omega)
      have a4 := wrap_nat ((n3 : Int) * (z : Int)) tp (by rw [h3, h4, Int.natCast_mul]) (by omega)
      have a5 := wrap_nat ((wd : Int) * (z : Int)) n5 (by rw [h5, Int.natCast_mul]) (by omega)
      have a6 := wrap_nat ((tp : Int) + (n5 : Int)) n6 (by omega) (by omega)
      have QE := Aside0.mk (And.intro h4 (And.intro h5 h6))
      rw [← h4, ← h5] at hto
      clear h1 h2 h3 h4 h5 hz1 hz2 hz3 hb
      go_cut [21, 22] (fun v21 v22 wc => v21 = .int .i64 (tp : Int) ∧ v22 = .int .i64 (tp : Int) ∧ Aside0 (S1 w wc [(g3, #[.int .i64 f, .int .i64 W, .int .i64 H, .slice (some ⟨g, 0, none⟩) D1.length o1], 47), (w.heap.size + 1 + 1, #[.int .i64 0, .int .i64 0, .int .i64 0, .slice none 0 0], 47), (w.heap.size + 1, #[.int .i64 f, .int .i64 W, .int .i64 H, .slice (some ad2) D2.length c2], 47), (w.heap.size, #[.int .i64 f, .int .i64 W, .int .i64 H, .slice (some ad1) D1.length c1], 47)] (.slice (some ⟨g, 0, none⟩) D1.length o1) D))
      case first =>
        go_region_held3 (fun w' => w'.cell? ⟨w.heap.size, 1, none⟩ = some (.int .i64 W) ∧ w'.cell? ⟨w.heap.size + 1, 1, none⟩ = some (.int .i64 W)) (first | exact ⟨Owns.cell HS.out.own 3 _ _ 47 rfl 1 _ rfl, Owns.cell HS.out.own 2 _ _ 47 rfl 1 _ rfl⟩ | go_keep) (fail)
        go_wp2
        go_meet
        case rel => exact ⟨rfl, rfl, ⟨(by repeat (first | exact HS.out | (with_reducible apply S1.drewN) | (with_reducible apply S1.drew)))⟩⟩
      case rest =>
        obtain ⟨rfl, rfl, HS⟩ := hcut
        clear a1 a2 a3 a4 n1' n2 n3 m1 n1
        have o3 := Owns.cell HS.out.own 0 _ _ 47 rfl 3 _ rfl
        have n3 := Owns.cell HS.out.own 2 _ _ 47 rfl 3 _ rfl
        have p1 : (0 ≤ (tp : Int)) = True := eq_true (by omega)
        have p2 : ((tp : Int) ≤ (n6 : Int)) = True := eq_true (by omega)
        have p3 : ((n6 : Int) ≤ (o1 : Int)) = True := eq_true (by have := HO1.out; have := HD.out.1; omega)
        have p4 : ((n6 : Int) ≤ (c2 : Int)) = True := eq_true (by have := HC2.out; have := HD.out.2; omega)
        have hn5 : 0 < n5 := by rw [QE.out.2.1]; exact Nat.mul_pos HB.out.2.2.2.2.2 HB.out.2.2.1.1
        have p5 : (o1 = tp) = False := eq_false (by have := HO1.out; have := HD.out.1; omega)
        have p6 : (c2 = tp) = False := eq_false (by have := HC2.out; have := HD.out.2; omega)
        have p7 : n6 - tp = n5 := by omega
        have HT := Aside0.mk (And.intro hto h6)
        clear h6 hn5 hto
        go_wp2_with fail
        go_still_tail 18, (by kernel_rfl)
        change wpList _ _ _ _ _ wc.drew
        have hlen := HM.out.len
        have hr : Kd.R (Kd.int .u8) 5 wc.drew w.heap.size (fun _ => True) (.slice (some ⟨g, 0, none⟩) D.length o1) D := by rw [hlen]; exact HS.out.drew.r
        obtain ⟨hto, h6⟩ := HT.out
        have hd := HD.out
        refine R_copy_at (enc := Value.int .u8) (h1 := fun _ => rfl) 0 rfl (.tmp 103) (.tmp 112) 45 45 5 rfl Try.underlying45 (by kernel_rfl) D ((D2.drop tp).take n5) (some (ad2.add tp)) tp n5 (o1 - tp) (c2 - tp) (by first | rfl | simp [Act.eval, p5, p7]) (by first | rfl | simp [Act.eval, p6, p7]) (by rw [hlen]; omega) hr (C_part (Kd.C_below HR2.out HS.out.drew.own.bel) tp n5 (by omega)) (fun hR hg => ?_)
        rw [hlen] at hR
        have HN := Aside0.mk (HS.out.drew.grew (by simp) hg hR)
        have hM := HM.out.seg tp n5 ((D2.drop tp).take n5) (by omega) (by rw [List.length_take, List.length_drop]; omega) (fun k hk => by rw [List.getElem?_take_of_lt hk, List.getElem?_drop])
        rw [QE.out.1, QE.out.2.1] at hM
        have hB := HB.out
        have HM := Aside0.mk (hM.ext (fun i _ => up_next hB.2.2.1.1 hB.2.2.2.1 hB.1.1 hlt))
        rw [← QE.out.1, ← QE.out.2.1] at HM
        clear hM hR hg hr hlen hto h6 hd p1 p2 p3 p4 p5 p6 p7 a5 a6 HS o3 n3 hB
        generalize World.setCells wc.drew g tp _ = wx at HN ⊢
        go_wp2
        exact ⟨⟨y + 1, _, by omega, wrapS y ht (by omega) (by have := HB.out; omega), HN, HM⟩, meas y ht (by omega) (by have := HB.out; omega)⟩

    · have b1 : decide ((y : Int) < (ht : Int)) = false := decide_eq_false (by omega)
      have hR := Owns.rules HS.out.own
      simp only [Own.rules] at hR
      go_wp2_with fail
      have HF : Aside0 (S1 w ((((wr.setCell ⟨w.heap.size + 1 + 1, 0, none⟩ (.int .i64 f)).setCell ⟨w.heap.size + 1 + 1, 1, none⟩ (.int .i64 W)).setCell ⟨w.heap.size + 1 + 1, 2, none⟩ (.int .i64 H)).setCell ⟨w.heap.size + 1 + 1, 3, none⟩ (.slice (some ⟨g, 0, none⟩) D1.length o1)) [(g3, #[.int .i64 f, .int .i64 W, .int .i64 H, .slice (some ⟨g, 0, none⟩) D1.length o1], 47), (w.heap.size + 1 + 1, #[.int .i64 f, .int .i64 W, .int .i64 H, .slice (some ⟨g, 0, none⟩) D1.length o1], 47), (w.heap.size + 1, #[.int .i64 f, .int .i64 W, .int .i64 H, .slice (some ad2) D2.length c2], 47), (w.heap.size, #[.int .i64 f, .int .i64 W, .int .i64 H, .slice (some ad1) D1.length c1], 47)] (.slice (some ⟨g, 0, none⟩) D1.length o1) D) := ⟨HS.out.set4 1 _ _ _ _ _ rfl (.int .i64 f) (.int .i64 W) (.int .i64 H) (.slice (some ⟨g, 0, none⟩) D1.length o1)⟩
      clear hR HS
      generalize ((((wr.setCell ⟨w.heap.size + 1 + 1, 0, none⟩ (.int .i64 f)).setCell ⟨w.heap.size + 1 + 1, 1, none⟩ (.int .i64 W)).setCell ⟨w.heap.size + 1 + 1, 2, none⟩ (.int .i64 H)).setCell ⟨w.heap.size + 1 + 1, 3, none⟩ (.slice (some ⟨g, 0, none⟩) D1.length o1)) = wz at HF ⊢
      refine bodyPost_ret (results_ct rfl _ _ (w.heap.size + 1 + 1) 47 #[.int .i64 f, .int .i64 W, .int .i64 H, .slice (some ⟨g, 0, none⟩) D1.length o1] (0, 0) _ rfl (HF.out.own.at 1 _ rfl) Try.underlying47 rfl (by kernel_rfl)) rfl ?_
      exact ⟨_, D, rfl, (by rw [show y = ht by omega] at HM; exact HM.out.ext (fun i _ => up_all)), HF.out.r, HF.out.own.bel⟩


end Go.Proofs.Ytmpmennepjkocaa.ICopy
