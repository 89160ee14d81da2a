/- frustumref42.Merge: what it answers for targets that are not similar. No condition beside those of the theorem. -/
import Derived.Test.YtmpmennepjkocaaPTargetMergex11
import Derived.Test.YtmpmennepjkocaaPTargetMergex12
import Derived.Test.YtmpmennepjkocaaPTargetMergex13
import Derived.Test.YtmpmennepjkocaaOut
import Derived.Test.YtmpmennepjkocaaMix
import Derived.Test.YtmpmennepjkocaaStep
import Derived.StillTailTactics
namespace Go.Proofs.Ytmpmennepjkocaa.RMerge
open Go.Proofs.Ytmpmennepjkocaa.Step Go.RowKit Go.Proofs.YtmpmennepjkocaaW.PrintWords Go.Proofs.YtmpmennepjkocaaW.PrintLast Go.Proofs.YtmpmennepjkocaaW.PrintMore Go.Proofs.Ytmpmennepjkocaa.PTargetMerge Go.Proofs.Ytmpmennepjkocaa.Own Go.Proofs.Ytmpmennepjkocaa.Out Go.Proofs.Ytmpmennepjkocaa.Mix
set_option linter.unusedVariables false
set_option linter.unusedSimpArgs false
section
variable {P : Program} {ops : Array Oper} {Q : Exit → Act → World → Prop} {md : Region.Mode} {S : World → Prop} {ds : List Nat} {T : Bool × List (List Nat × List Nat)} {B : List Nat} {oi : Oper} {v : Value} {fuel : Nat} {l : Array Bool} {a a' : Act} {w : World}
theorem ts (HT : Aside0 (rtab md ops = T)) (HW : Aside0 (waitsOk T.2 B = true)) (hS : S w) (i : Nat) (N : Option Tmp) (h : wpAnyLast P md ops Q S ds fuel (l.setIfInBounds i true) a' w) (hi : ops[i]? = some oi := by rfl) (hy : ∀ w, S w → (execOp a.eval oi).run P w = .ok (.value v) w := by (rintro w' ⟨s0, s1, s2, s3, s4, s5, s6, s7, s8, s9, s10, s11, s12, s13, _⟩; go_simp; with_reducible rfl))
    (hN : oi.dst = N := by rfl) (hc : takeW T B ds l.toList (l.setIfInBounds i true).toList i = true := by kernel_rfl) (hQ : ∀ c a w, Q (.panic c) (a.put oi.dst v) w → Q (.panic c) a w := by exact fun _ _ _ h => h)
    (hw : Region.wanted oi (yielded ops a.tmps) = true := by rfl) (ha : a.put N v = a' := by (simp only [Act.put, List.setIfInBounds_toArray, List.set_cons_zero, List.set_cons_succ, i64_w, i32_w]; rfl)) : wpAnyLast P md ops Q S ds (fuel + 1) l a w := tk HT HW hS i N hi hy h hN hc hQ hw ha
end
def T2 : Bool × List (List Nat × List Nat) := (true, [([], []), ([0], [0]), ([1], [1]), ([2, 1], [2]), ([3], [3]), ([4, 3, 3], [3, 4]), ([5, 3], [3, 5]), ([3, 6], [3, 6]), ([7, 5], [7]), ([8], [8]), ([9, 8], [8, 9]), ([8], [8]), ([11, 8], [8, 11]), ([10, 12, 8], [8, 10, 12]), ([8, 13], [8, 13]), ([14, 8], [14]), ([15], [15]), ([16, 15], [15, 16]), ([15], [15]), ([18, 15], [15, 18]), ([17, 19, 15], [15, 17, 19]), ([15, 20], [15, 20]), ([21, 15], [21]), ([22], [22]), ([23, 22], [22, 23]), ([22], [22]), ([25, 22], [22, 25]), ([24, 26, 22], [22, 24, 26]), ([22, 27], [22, 27]), ([28, 22], [28]), ([29], [29]), ([30, 29], [29, 30]), ([29], [29]), ([32, 29], [29, 32]), ([31, 33, 29], [29, 31, 33]), ([29, 34], [29, 34]), ([35, 29], [35]), ([36], [36]), ([37, 36], [36, 37]), ([38, 36], [36, 38]), ([39, 36], [36, 39]), ([40, 36], [36, 40]), ([36], [36]), ([42, 36], [36, 42]), ([43, 36], [36, 43]), ([44, 36], [36, 44]), ([45, 36], [36, 45]), ([41, 46, 36], [36, 41, 46]), ([36, 47], [36, 47])])
def B2 : List Nat := [0, 1, 3, 7, 15, 31, 63, 127, 255, 511, 1023, 511, 2559, 8191, 16383, 32767, 65535, 131071, 65535, 327679, 1048575, 2097151, 4194303, 8388607, 16777215, 8388607, 41943039, 134217727, 268435455, 536870911, 1073741823, 2147483647, 1073741823, 5368709119, 17179869183, 34359738367, 68719476735, 137438953471, 274877906943, 549755813887, 1099511627775, 2199023255551, 137438953471, 4535485464575, 13331578486783, 30923764531199, 66108136620031, 140737488355327, 281474976710655]
theorem tab2 : rtab .any (opsOf Try.f14 2) = T2 := by kernel_rfl
theorem bits2 : waitsOk T2.2 B2 = true := by kernel_rfl
def F0 : Array Bool := #[false, false, false, false, false, false, false, false, false, false, false, false, false, false, false, false, false, false, false, false, false, false, false, false, false, false, false, false, false, false, false, false, false, false, false, false, false, false, false, false, false, false, false, false, false, false, false, false, false]
def F1 : Array Bool := #[true, true, false, false, false, false, false, false, false, false, false, false, false, false, false, false, false, false, false, false, false, false, false, false, false, false, false, false, false, false, false, false, false, false, false, false, false, false, false, false, false, false, false, false, false, false, false, false, false]
def F5 : Array Bool := #[true, true, true, true, true, true, false, false, false, false, false, false, false, false, false, false, false, false, false, false, false, false, false, false, false, false, false, false, false, false, false, false, false, false, false, false, false, false, false, false, false, false, false, false, false, false, false, false, false]
/-- what the two boxes hold -/
def S2 (g h : Nat) (t0 t1 t2 t3 : Int) (v4 v5 v6 : Value) (u0 u1 u2 u3 : Int) (y4 y5 y6 : Value) : World → Prop := Cells [(⟨g, 0, none⟩, .int .i64 t0), (⟨g, 1, none⟩, .int .i64 t1), (⟨g, 2, none⟩, .int .i64 t2), (⟨g, 3, none⟩, .int .i64 t3), (⟨g, 4, none⟩, v4), (⟨g, 5, none⟩, v5), (⟨g, 6, none⟩, v6), (⟨h, 0, none⟩, .int .i64 u0), (⟨h, 1, none⟩, .int .i64 u1), (⟨h, 2, none⟩, .int .i64 u2), (⟨h, 3, none⟩, .int .i64 u3), (⟨h, 4, none⟩, y4), (⟨h, 5, none⟩, y5), (⟨h, 6, none⟩, y6)]
theorem S2.of {w0 W : World} {L : List Blk} {g h : Nat} {t0 t1 t2 t3 u0 u1 u2 u3 : Int} {v4 v5 v6 y4 y5 y6 : Value} (H : Owns w0 L W) (i j : Nat) (hi : L[i]? = some (g, #[.int .i64 t0, .int .i64 t1, .int .i64 t2, .int .i64 t3, v4, v5, v6], 28)) (hj : L[j]? = some (h, #[.int .i64 u0, .int .i64 u1, .int .i64 u2, .int .i64 u3, y4, y5, y6], 28)) : S2 g h t0 t1 t2 t3 v4 v5 v6 u0 u1 u2 u3 y4 y5 y6 W :=
  ⟨Owns.cell H i _ _ 28 hi 0 _ rfl, Owns.cell H i _ _ 28 hi 1 _ rfl, Owns.cell H i _ _ 28 hi 2 _ rfl, Owns.cell H i _ _ 28 hi 3 _ rfl, Owns.cell H i _ _ 28 hi 4 _ rfl, Owns.cell H i _ _ 28 hi 5 _ rfl, Owns.cell H i _ _ 28 hi 6 _ rfl, Owns.cell H j _ _ 28 hj 0 _ rfl, Owns.cell H j _ _ 28 hj 1 _ rfl, Owns.cell H j _ _ 28 hj 2 _ rfl, Owns.cell H j _ _ 28 hj 3 _ rfl, Owns.cell H j _ _ 28 hj 4 _ rfl, Owns.cell H j _ _ 28 hj 5 _ rfl, Owns.cell H j _ _ 28 hj 6 _ rfl, trivial⟩
set_option maxHeartbeats 8000000 in
set_option maxRecDepth 100000 in
theorem no (K : Nat) (x y rw rh : Int) (t0 t1 t2 t3 u0 u1 u2 u3 : Int) (b1 b2 : Bool) (A4 : Option Addr) (c4 : Nat) (l4 : List S47) (A5 : Option Addr) (c5 : Nat) (l5 : List Int) (A6 : Option Addr) (c6 : Nat) (l6 : List Int) (B4 : Option Addr) (d4 : Nat) (m4 : List S47) (B5 : Option Addr) (d5 : Nat) (m5 : List Int) (B6 : Option Addr) (d6 : Nat) (m6 : List Int) (w : World)
    (hr4 : Kd.C k47 w A4 l4.length l4) (hc4 : l4.length ≤ c4) (hr5 : Kd.C (Kd.int .i64) w A5 l5.length l5) (hc5 : l5.length ≤ c5) (hr6 : Kd.C (Kd.int .i64) w A6 l6.length l6) (hc6 : l6.length ≤ c6)
    (hu4 : Kd.C k47 w B4 m4.length m4) (hd4 : m4.length ≤ d4) (hu5 : Kd.C (Kd.int .i64) w B5 m5.length m5) (hd5 : m5.length ≤ d5) (hu6 : Kd.C (Kd.int .i64) w B6 m6.length m6) (hd6 : m6.length ≤ d6)
    (CL : Aside0 (frustumref42_Clone.f K t0 t1 t2 t3 l4 l5 l6 = some (t0, t1, t2, t3, l4, l5, l6))) (V1 : Aside0 (frustumref42_Valid.f K t0 t1 t2 t3 l4 l5 l6 = some b1)) (V2 : Aside0 (frustumref42_Valid.f K u0 u1 u2 u3 m4 m5 m6 = some b2))
    (hn : b1 = false ∨ b1 = true ∧ (b2 = false ∨ b2 = true ∧ (t0 ≠ u0 ∨ t0 = u0 ∧ (t1 ≠ u1 ∨ t1 = u1 ∧ (t2 ≠ u2 ∨ t2 = u2 ∧ (t3 ≠ u3 ∨ t3 = u3 ∧ (0 < l4.length ∧ 0 < m4.length ∧ (rd_T47 l4 0).f0 ≠ (rd_T47 m4 0).f0))))))) :
    Calls Try.prog 14 #[.agg #[.int .i64 t0, .int .i64 t1, .int .i64 t2, .int .i64 t3, .slice A4 l4.length c4, .slice A5 l5.length c5, .slice A6 l6.length c6], .agg #[.int .i64 u0, .int .i64 u1, .int .i64 u2, .int .i64 u3, .slice B4 m4.length d4, .slice B5 m5.length d5, .slice B6 m6.length d6], .int .i64 x, .int .i64 y, .int .i64 rw, .int .i64 rh] w fun e w' => ∃ (v4 v5 v6 : Value), e = .returned (.agg #[.int .i64 t0, .int .i64 t1, .int .i64 t2, .int .i64 t3, v4, v5, v6]) ∧ Kd.S k47 47 w' w.heap.size (fun _ => True) v4 l4 ∧ Kd.R (Kd.int .i64) 3 w' w.heap.size (fun k => some k ≠ v6.ownBlock) v5 l5 ∧ Kd.R (Kd.int .i64) 3 w' w.heap.size (fun k => some k ≠ v5.ownBlock) v6 l6 ∧ Below w.heap.size w w' := by
  have HR4 := Aside0.mk hr4
  have HC4 := Aside0.mk hc4
  have HU4 := Aside0.mk hu4
  have HD4 := Aside0.mk hd4
  have HR5 := Aside0.mk hr5
  have HC5 := Aside0.mk hc5
  have HU5 := Aside0.mk hu5
  have HD5 := Aside0.mk hd5
  have HR6 := Aside0.mk hr6
  have HC6 := Aside0.mk hc6
  have HU6 := Aside0.mk hu6
  have HD6 := Aside0.mk hd6
  clear hr4 hc4 hr5 hc5 hr6 hc6 hu4 hd4 hu5 hd5 hu6 hd6
  have HN := Aside0.mk hn
  clear hn
  have hu28 := Try.underlying28
  have hu47 := Try.underlying47
  go_enter Try.func14, Try.ntmps14
  go_upto_region 1 with (fail)
  have HL : Aside0 (Owns w [(w.heap.size + 1 + 1, #[.int .i64 0, .int .i64 0, .int .i64 0, .int .i64 0, .slice none 0 0, .slice none 0 0, .slice none 0 0], 28), (w.heap.size + 1, #[.int .i64 u0, .int .i64 u1, .int .i64 u2, .int .i64 u3, .slice B4 m4.length d4, .slice B5 m5.length d5, .slice B6 m6.length d6], 28), (w.heap.size, #[.int .i64 t0, .int .i64 t1, .int .i64 t2, .int .i64 t3, .slice A4 l4.length c4, .slice A5 l5.length c5, .slice A6 l6.length c6], 28)] (((w.alloc (Obj.cells #[.int .i64 t0, .int .i64 t1, .int .i64 t2, .int .i64 t3, .slice A4 l4.length c4, .slice A5 l5.length c5, .slice A6 l6.length c6] 28)).alloc (Obj.cells #[.int .i64 u0, .int .i64 u1, .int .i64 u2, .int .i64 u3, .slice B4 m4.length d4, .slice B5 m5.length d5, .slice B6 m6.length d6] 28)).alloc (Obj.cells #[.int .i64 0, .int .i64 0, .int .i64 0, .int .i64 0, .slice none 0 0, .slice none 0 0, .slice none 0 0] 28))) := ⟨by simpa using (((Owns.start w).alloc _ _).alloc _ _).alloc _ _⟩
  generalize (((w.alloc (Obj.cells #[.int .i64 t0, .int .i64 t1, .int .i64 t2, .int .i64 t3, .slice A4 l4.length c4, .slice A5 l5.length c5, .slice A6 l6.length c6] 28)).alloc (Obj.cells #[.int .i64 u0, .int .i64 u1, .int .i64 u2, .int .i64 u3, .slice B4 m4.length d4, .slice B5 m5.length d5, .slice B6 m6.length d6] 28)).alloc (Obj.cells #[.int .i64 0, .int .i64 0, .int .i64 0, .int .i64 0, .slice none 0 0, .slice none 0 0, .slice none 0 0] 28)) = wa at HL ⊢
  have hlo := Aside0.mk HL.out.bel.size
  have p0 := Owns.cell HL.out 2 _ _ 28 rfl 0 _ rfl
  have p1 := Owns.cell HL.out 2 _ _ 28 rfl 1 _ rfl
  have p2 := Owns.cell HL.out 2 _ _ 28 rfl 2 _ rfl
  have p3 := Owns.cell HL.out 2 _ _ 28 rfl 3 _ rfl
  have p4 := Owns.cell HL.out 2 _ _ 28 rfl 4 _ rfl
  have p5 := Owns.cell HL.out 2 _ _ 28 rfl 5 _ rfl
  have p6 := Owns.cell HL.out 2 _ _ 28 rfl 6 _ rfl
  go_upto_region 2 with (go_at_call 39; (with_reducible refine (frustumref42_Clone.calls K t0 t1 t2 t3 A4 c4 l4 A5 c5 l5 A6 c6 l6 t0 t1 t2 t3 l4 l5 l6 _ ?s4 HC4.out ?s5 HC5.out ?s6 HC6.out CL.out).mono ?_); (case s4 => exact Kd.C_below HR4.out (by repeat (first | exact HL.out.own.bel | exact HL.out.bel | apply below_alloc | apply pw_below_drewN | apply below_drew1))); (case s5 => exact Kd.C_below HR5.out (by repeat (first | exact HL.out.own.bel | exact HL.out.bel | apply below_alloc | apply pw_below_drewN | apply below_drew1))); (case s6 => exact Kd.C_below HR6.out (by repeat (first | exact HL.out.own.bel | exact HL.out.bel | apply below_alloc | apply pw_below_drewN | apply below_drew1))); rintro e w3 ⟨v4, v5, v6, rfl, ho4, ho5, ho6, hb⟩; have hlow := hlo.out; have HT := Aside0.mk (Owns.step (by repeat (first | exact HL.out | (with_reducible apply Owns.drewN) | (with_reducible apply Owns.drew))) hb); clear HL; have HL := HT; clear HT; obtain ⟨a4, o4, rfl⟩ := Kd.S_slice ho4; obtain ⟨a5, o5, rfl⟩ := Kd.R_slice ho5; obtain ⟨a6, o6, rfl⟩ := Kd.R_slice ho6; have HS := Aside0.mk (St.mk HL.out (Kd.S_lower ho4 hlow) (Kd.R_lower ho5 hlow) (Kd.R_lower ho6 hlow)); clear ho4 ho5 ho6 hb hlow HL)
  have HT := Aside0.mk (HS.out.alloc #[.int .i64 t0, .int .i64 t1, .int .i64 t2, .int .i64 t3, .slice a4 l4.length o4, .slice a5 l5.length o5, .slice a6 l6.length o6] 28)
  clear HS
  have HS := HT
  clear HT
  obtain ⟨g3, hg3⟩ : ∃ g, g = w3.heap.size := ⟨_, rfl⟩
  rw [← hg3] at HS
  rw [← hg3]
  generalize (w3.alloc (Obj.cells #[.int .i64 t0, .int .i64 t1, .int .i64 t2, .int .i64 t3, .slice a4 l4.length o4, .slice a5 l5.length o5, .slice a6 l6.length o6] 28)) = wb at HS ⊢
  clear hg3
  go_cut [71] (fun v71 wc => v71 = .bool true ∧ Aside0 (St w wc [(g3, #[.int .i64 t0, .int .i64 t1, .int .i64 t2, .int .i64 t3, .slice a4 l4.length o4, .slice a5 l5.length o5, .slice a6 l6.length o6], 28), (w.heap.size + 1 + 1, #[.int .i64 0, .int .i64 0, .int .i64 0, .int .i64 0, .slice none 0 0, .slice none 0 0, .slice none 0 0], 28), (w.heap.size + 1, #[.int .i64 u0, .int .i64 u1, .int .i64 u2, .int .i64 u3, .slice B4 m4.length d4, .slice B5 m5.length d5, .slice B6 m6.length d6], 28), (w.heap.size, #[.int .i64 t0, .int .i64 t1, .int .i64 t2, .int .i64 t3, .slice A4 l4.length c4, .slice A5 l5.length c5, .slice A6 l6.length c6], 28)] (.slice a4 l4.length o4) (.slice a5 l5.length o5) (.slice a6 l6.length o6) l4 l5 l6))
  case first =>
    have hn := HN.out
    clear HN
    rcases hn with rfl | ⟨rfl, hn⟩
    · skip
      have HT := Aside0.mk HS.out.drew; clear HS; have HS := HT; clear HT
      refine start_ (n := 49) (S := S2 w.heap.size (w.heap.size + 1) t0 t1 t2 t3 (.slice A4 l4.length c4) (.slice A5 l5.length c5) (.slice A6 l6.length c6) u0 u1 u2 u3 (.slice B4 m4.length d4) (.slice B5 m5.length d5) (.slice B6 m6.length d6)) (ds := []) F0 (by kernel_rfl) rfl rfl (S2.of HS.out.own 3 2 rfl rfl) (fun hHeld => ?_); refine with_tabW tab2 bits2 (fun HT_ HW_ => ?_)
      generalize wb.drew = wd at HS hHeld ⊢
      refine ts HT_ HW_ hHeld 0 (some 23) ?_
      refine one_ (i := 1) (N := some 24) #[true, true, false, false, false, false, false, false, false, false, false, false, false, false, false, false, false, false, false, false, false, false, false, false, false, false, false, false, false, false, false, false, false, false, false, false, false, false, false, false, false, false, false, false, false, false, false, false, false] rfl rfl (one_of HT_.out (by kernel_rfl)) (by decide) (fun K hK => ?_)
      refine goes_ Try.func12 (by kernel_rfl) rfl #[.agg #[.int .i64 t0, .int .i64 t1, .int .i64 t2, .int .i64 t3, .slice A4 l4.length c4, .slice A5 l5.length c5, .slice A6 l6.length c6]] (by rfl) rfl rfl (by (try simp only [List.map_toArray, List.map_cons, List.map_nil]); first | done | rfl) ?_
      with_reducible refine (frustumref42_Valid.calls _ t0 t1 t2 t3 A4 c4 l4 A5 c5 l5 A6 c6 l6 false _ ?s4 HC4.out ?s5 HC5.out ?s6 HC6.out V1.out).mono ?_
      case s4 => exact Kd.C_below HR4.out (by repeat (first | exact HS.out.own.bel | apply below_alloc | apply pw_below_drewN | apply below_drew1))
      case s5 => exact Kd.C_below HR5.out (by repeat (first | exact HS.out.own.bel | apply below_alloc | apply pw_below_drewN | apply below_drew1))
      case s6 => exact Kd.C_below HR6.out (by repeat (first | exact HS.out.own.bel | apply below_alloc | apply pw_below_drewN | apply below_drew1))
      rintro e w4 ⟨rfl, hb⟩; refine ⟨_, rfl, ?_⟩; have HT := Aside0.mk (St.step (by repeat (first | exact HS.out | (with_reducible apply St.drewN) | (with_reducible apply St.drew))) hb); clear HS hb; have HS := HT; clear HT
      refine hK.out _ _ (S2.of HS.out.own 3 2 rfl rfl) (fun hHeld => ?_)
      clear hK K
      refine norm_ (a' := ?_) ?_ ?_
      rotate_left
      · show Act.put _ (some 24) _ = _
        simp only [Act.put, List.setIfInBounds_toArray, List.set_cons_zero, List.set_cons_succ, i64_w, i32_w]
        rfl
      refine on HT_ 2 (some 25) ?_
      refine on HT_ 3 (some 26) ?_
      refine off HT_ 4 (some 27) ?_
      refine off HT_ 5 (some 28) ?_
      refine off HT_ 6 (some 29) ?_
      refine on HT_ 7 (some 30) ?_
      refine on HT_ 8 (some 31) ?_
      refine off HT_ 9 (some 32) ?_
      refine off HT_ 10 (some 33) ?_
      refine off HT_ 11 (some 34) ?_
      refine off HT_ 12 (some 35) ?_
      refine off HT_ 13 (some 36) ?_
      refine on HT_ 14 (some 37) ?_
      refine on HT_ 15 (some 38) ?_
      refine off HT_ 16 (some 39) ?_
      refine off HT_ 17 (some 40) ?_
      refine off HT_ 18 (some 41) ?_
      refine off HT_ 19 (some 42) ?_
      refine off HT_ 20 (some 43) ?_
      refine on HT_ 21 (some 44) ?_
      refine on HT_ 22 (some 45) ?_
      refine off HT_ 23 (some 46) ?_
      refine off HT_ 24 (some 47) ?_
      refine off HT_ 25 (some 48) ?_
      refine off HT_ 26 (some 49) ?_
      refine off HT_ 27 (some 50) ?_
      refine on HT_ 28 (some 51) ?_
      refine on HT_ 29 (some 52) ?_
      refine off HT_ 30 (some 53) ?_
      refine off HT_ 31 (some 54) ?_
      refine off HT_ 32 (some 55) ?_
      refine off HT_ 33 (some 56) ?_
      refine off HT_ 34 (some 57) ?_
      refine on HT_ 35 (some 58) ?_
      refine on HT_ 36 (some 59) ?_
      refine off HT_ 37 (some 60) ?_
      refine off HT_ 38 (some 61) ?_
      refine off HT_ 39 (some 62) ?_
      refine off HT_ 40 (some 63) ?_
      refine off HT_ 41 (some 64) ?_
      refine off HT_ 42 (some 65) ?_
      refine off HT_ 43 (some 66) ?_
      refine off HT_ 44 (some 67) ?_
      refine off HT_ 45 (some 68) ?_
      refine off HT_ 46 (some 69) ?_
      refine off HT_ 47 (some 70) ?_
      refine on HT_ 48 (some 71) ?_
      refine done_ (done_of HT_.out (by kernel_rfl)) ?_
      try go_wp2
      go_meet
      case rel => exact ⟨rfl, ⟨(by repeat (first | exact HS.out | (with_reducible apply St.drewN) | (with_reducible apply St.drew)))⟩⟩
    rcases hn with rfl | ⟨rfl, hn⟩
    · skip
      have HT := Aside0.mk HS.out.drew; clear HS; have HS := HT; clear HT
      refine start_ (n := 49) (S := S2 w.heap.size (w.heap.size + 1) t0 t1 t2 t3 (.slice A4 l4.length c4) (.slice A5 l5.length c5) (.slice A6 l6.length c6) u0 u1 u2 u3 (.slice B4 m4.length d4) (.slice B5 m5.length d5) (.slice B6 m6.length d6)) (ds := []) F0 (by kernel_rfl) rfl rfl (S2.of HS.out.own 3 2 rfl rfl) (fun hHeld => ?_); refine with_tabW tab2 bits2 (fun HT_ HW_ => ?_)
      generalize wb.drew = wd at HS hHeld ⊢
      refine ts HT_ HW_ hHeld 0 (some 23) ?_
      refine one_ (i := 1) (N := some 24) #[true, true, false, false, false, false, false, false, false, false, false, false, false, false, false, false, false, false, false, false, false, false, false, false, false, false, false, false, false, false, false, false, false, false, false, false, false, false, false, false, false, false, false, false, false, false, false, false, false] rfl rfl (one_of HT_.out (by kernel_rfl)) (by decide) (fun K hK => ?_)
      refine goes_ Try.func12 (by kernel_rfl) rfl #[.agg #[.int .i64 t0, .int .i64 t1, .int .i64 t2, .int .i64 t3, .slice A4 l4.length c4, .slice A5 l5.length c5, .slice A6 l6.length c6]] (by rfl) rfl rfl (by (try simp only [List.map_toArray, List.map_cons, List.map_nil]); first | done | rfl) ?_
      with_reducible refine (frustumref42_Valid.calls _ t0 t1 t2 t3 A4 c4 l4 A5 c5 l5 A6 c6 l6 true _ ?s4 HC4.out ?s5 HC5.out ?s6 HC6.out V1.out).mono ?_
      case s4 => exact Kd.C_below HR4.out (by repeat (first | exact HS.out.own.bel | apply below_alloc | apply pw_below_drewN | apply below_drew1))
      case s5 => exact Kd.C_below HR5.out (by repeat (first | exact HS.out.own.bel | apply below_alloc | apply pw_below_drewN | apply below_drew1))
      case s6 => exact Kd.C_below HR6.out (by repeat (first | exact HS.out.own.bel | apply below_alloc | apply pw_below_drewN | apply below_drew1))
      rintro e w4 ⟨rfl, hb⟩; refine ⟨_, rfl, ?_⟩; have HT := Aside0.mk (St.step (by repeat (first | exact HS.out | (with_reducible apply St.drewN) | (with_reducible apply St.drew))) hb); clear HS hb; have HS := HT; clear HT
      refine hK.out _ _ (S2.of HS.out.own 3 2 rfl rfl) (fun hHeld => ?_)
      clear hK K
      refine norm_ (a' := ?_) ?_ ?_
      rotate_left
      · show Act.put _ (some 24) _ = _
        simp only [Act.put, List.setIfInBounds_toArray, List.set_cons_zero, List.set_cons_succ, i64_w, i32_w]
        rfl
      refine on HT_ 2 (some 25) ?_
      refine on HT_ 3 (some 26) ?_
      refine ts HT_ HW_ hHeld 4 (some 27) ?_
      refine one_ (i := 5) (N := some 28) #[true, true, true, true, true, true, false, false, false, false, false, false, false, false, false, false, false, false, false, false, false, false, false, false, false, false, false, false, false, false, false, false, false, false, false, false, false, false, false, false, false, false, false, false, false, false, false, false, false] rfl rfl (one_of HT_.out (by kernel_rfl)) (by decide) (fun K hK => ?_)
      refine goes_ Try.func12 (by kernel_rfl) rfl #[.agg #[.int .i64 u0, .int .i64 u1, .int .i64 u2, .int .i64 u3, .slice B4 m4.length d4, .slice B5 m5.length d5, .slice B6 m6.length d6]] (by rfl) rfl rfl (by (try simp only [List.map_toArray, List.map_cons, List.map_nil]); first | done | rfl) ?_
      with_reducible refine (frustumref42_Valid.calls _ u0 u1 u2 u3 B4 d4 m4 B5 d5 m5 B6 d6 m6 false _ ?s4 HD4.out ?s5 HD5.out ?s6 HD6.out V2.out).mono ?_
      case s4 => exact Kd.C_below HU4.out (by repeat (first | exact HS.out.own.bel | apply below_alloc | apply pw_below_drewN | apply below_drew1))
      case s5 => exact Kd.C_below HU5.out (by repeat (first | exact HS.out.own.bel | apply below_alloc | apply pw_below_drewN | apply below_drew1))
      case s6 => exact Kd.C_below HU6.out (by repeat (first | exact HS.out.own.bel | apply below_alloc | apply pw_below_drewN | apply below_drew1))
      rintro e w5 ⟨rfl, hb⟩; refine ⟨_, rfl, ?_⟩; have HT := Aside0.mk (St.step (by repeat (first | exact HS.out | (with_reducible apply St.drewN) | (with_reducible apply St.drew))) hb); clear HS hb; have HS := HT; clear HT
      refine hK.out _ _ (S2.of HS.out.own 3 2 rfl rfl) (fun hHeld => ?_)
      clear hK K
      refine norm_ (a' := ?_) ?_ ?_
      rotate_left
      · show Act.put _ (some 28) _ = _
        simp only [Act.put, List.setIfInBounds_toArray, List.set_cons_zero, List.set_cons_succ, i64_w, i32_w]
        rfl
      refine on HT_ 6 (some 29) ?_
      refine on HT_ 7 (some 30) ?_
      refine on HT_ 8 (some 31) ?_
      refine off HT_ 9 (some 32) ?_
      refine off HT_ 10 (some 33) ?_
      refine off HT_ 11 (some 34) ?_
      refine off HT_ 12 (some 35) ?_
      refine off HT_ 13 (some 36) ?_
      refine on HT_ 14 (some 37) ?_
      refine on HT_ 15 (some 38) ?_
      refine off HT_ 16 (some 39) ?_
      refine off HT_ 17 (some 40) ?_
      refine off HT_ 18 (some 41) ?_
      refine off HT_ 19 (some 42) ?_
      refine off HT_ 20 (some 43) ?_
      refine on HT_ 21 (some 44) ?_
      refine on HT_ 22 (some 45) ?_
      refine off HT_ 23 (some 46) ?_
      refine off HT_ 24 (some 47) ?_
      refine off HT_ 25 (some 48) ?_
      refine off HT_ 26 (some 49) ?_
      refine off HT_ 27 (some 50) ?_
      refine on HT_ 28 (some 51) ?_
      refine on HT_ 29 (some 52) ?_
      refine off HT_ 30 (some 53) ?_
      refine off HT_ 31 (some 54) ?_
      refine off HT_ 32 (some 55) ?_
      refine off HT_ 33 (some 56) ?_
      refine off HT_ 34 (some 57) ?_
      refine on HT_ 35 (some 58) ?_
      refine on HT_ 36 (some 59) ?_
      refine off HT_ 37 (some 60) ?_
      refine off HT_ 38 (some 61) ?_
      refine off HT_ 39 (some 62) ?_
      refine off HT_ 40 (some 63) ?_
      refine off HT_ 41 (some 64) ?_
      refine off HT_ 42 (some 65) ?_
      refine off HT_ 43 (some 66) ?_
      refine off HT_ 44 (some 67) ?_
      refine off HT_ 45 (some 68) ?_
      refine off HT_ 46 (some 69) ?_
      refine off HT_ 47 (some 70) ?_
      refine on HT_ 48 (some 71) ?_
      refine done_ (done_of HT_.out (by kernel_rfl)) ?_
      try go_wp2
      go_meet
      case rel => exact ⟨rfl, ⟨(by repeat (first | exact HS.out | (with_reducible apply St.drewN) | (with_reducible apply St.drew)))⟩⟩
    rcases hn with hn | ⟨rfl, hn⟩
    · skip
      have e0 : (t0 != u0) = true := bne_iff_ne.2 hn
      have e0' : (t0 == u0) = false := beq_eq_false_iff_ne.2 hn
      clear hn
      have HT := Aside0.mk HS.out.drew; clear HS; have HS := HT; clear HT
      refine start_ (n := 49) (S := S2 w.heap.size (w.heap.size + 1) t0 t1 t2 t3 (.slice A4 l4.length c4) (.slice A5 l5.length c5) (.slice A6 l6.length c6) u0 u1 u2 u3 (.slice B4 m4.length d4) (.slice B5 m5.length d5) (.slice B6 m6.length d6)) (ds := []) F0 (by kernel_rfl) rfl rfl (S2.of HS.out.own 3 2 rfl rfl) (fun hHeld => ?_); refine with_tabW tab2 bits2 (fun HT_ HW_ => ?_)
      generalize wb.drew = wd at HS hHeld ⊢
      refine ts HT_ HW_ hHeld 0 (some 23) ?_
      refine one_ (i := 1) (N := some 24) #[true, true, false, false, false, false, false, false, false, false, false, false, false, false, false, false, false, false, false, false, false, false, false, false, false, false, false, false, false, false, false, false, false, false, false, false, false, false, false, false, false, false, false, false, false, false, false, false, false] rfl rfl (one_of HT_.out (by kernel_rfl)) (by decide) (fun K hK => ?_)
      refine goes_ Try.func12 (by kernel_rfl) rfl #[.agg #[.int .i64 t0, .int .i64 t1, .int .i64 t2, .int .i64 t3, .slice A4 l4.length c4, .slice A5 l5.length c5, .slice A6 l6.length c6]] (by rfl) rfl rfl (by (try simp only [List.map_toArray, List.map_cons, List.map_nil]); first | done | rfl) ?_
      with_reducible refine (frustumref42_Valid.calls _ t0 t1 t2 t3 A4 c4 l4 A5 c5 l5 A6 c6 l6 true _ ?s4 HC4.out ?s5 HC5.out ?s6 HC6.out V1.out).mono ?_
      case s4 => exact Kd.C_below HR4.out (by repeat (first | exact HS.out.own.bel | apply below_alloc | apply pw_below_drewN | apply below_drew1))
      case s5 => exact Kd.C_below HR5.out (by repeat (first | exact HS.out.own.bel | apply below_alloc | apply pw_below_drewN | apply below_drew1))
      case s6 => exact Kd.C_below HR6.out (by repeat (first | exact HS.out.own.bel | apply below_alloc | apply pw_below_drewN | apply below_drew1))
      rintro e w4 ⟨rfl, hb⟩; refine ⟨_, rfl, ?_⟩; have HT := Aside0.mk (St.step (by repeat (first | exact HS.out | (with_reducible apply St.drewN) | (with_reducible apply St.drew))) hb); clear HS hb; have HS := HT; clear HT
      refine hK.out _ _ (S2.of HS.out.own 3 2 rfl rfl) (fun hHeld => ?_)
      clear hK K
      refine norm_ (a' := ?_) ?_ ?_
      rotate_left
      · show Act.put _ (some 24) _ = _
        simp only [Act.put, List.setIfInBounds_toArray, List.set_cons_zero, List.set_cons_succ, i64_w, i32_w]
        rfl
      refine on HT_ 2 (some 25) ?_
      refine on HT_ 3 (some 26) ?_
      refine ts HT_ HW_ hHeld 4 (some 27) ?_
      refine one_ (i := 5) (N := some 28) #[true, true, true, true, true, true, false, false, false, false, false, false, false, false, false, false, false, false, false, false, false, false, false, false, false, false, false, false, false, false, false, false, false, false, false, false, false, false, false, false, false, false, false, false, false, false, false, false, false] rfl rfl (one_of HT_.out (by kernel_rfl)) (by decide) (fun K hK => ?_)
      refine goes_ Try.func12 (by kernel_rfl) rfl #[.agg #[.int .i64 u0, .int .i64 u1, .int .i64 u2, .int .i64 u3, .slice B4 m4.length d4, .slice B5 m5.length d5, .slice B6 m6.length d6]] (by rfl) rfl rfl (by (try simp only [List.map_toArray, List.map_cons, List.map_nil]); first | done | rfl) ?_
      with_reducible refine (frustumref42_Valid.calls _ u0 u1 u2 u3 B4 d4 m4 B5 d5 m5 B6 d6 m6 true _ ?s4 HD4.out ?s5 HD5.out ?s6 HD6.out V2.out).mono ?_
      case s4 => exact Kd.C_below HU4.out (by repeat (first | exact HS.out.own.bel | apply below_alloc | apply pw_below_drewN | apply below_drew1))
      case s5 => exact Kd.C_below HU5.out (by repeat (first | exact HS.out.own.bel | apply below_alloc | apply pw_below_drewN | apply below_drew1))
      case s6 => exact Kd.C_below HU6.out (by repeat (first | exact HS.out.own.bel | apply below_alloc | apply pw_below_drewN | apply below_drew1))
      rintro e w5 ⟨rfl, hb⟩; refine ⟨_, rfl, ?_⟩; have HT := Aside0.mk (St.step (by repeat (first | exact HS.out | (with_reducible apply St.drewN) | (with_reducible apply St.drew))) hb); clear HS hb; have HS := HT; clear HT
      refine hK.out _ _ (S2.of HS.out.own 3 2 rfl rfl) (fun hHeld => ?_)
      clear hK K
      refine norm_ (a' := ?_) ?_ ?_
      rotate_left
      · show Act.put _ (some 28) _ = _
        simp only [Act.put, List.setIfInBounds_toArray, List.set_cons_zero, List.set_cons_succ, i64_w, i32_w]
        rfl
      refine on HT_ 6 (some 29) ?_
      refine on HT_ 7 (some 30) ?_
      refine on HT_ 8 (some 31) ?_
      refine on HT_ 9 (some 32) ?_
      refine ts HT_ HW_ hHeld 10 (some 33) ?_
      refine on HT_ 11 (some 34) ?_
      refine ts HT_ HW_ hHeld 12 (some 35) ?_
      refine on HT_ 13 (some 36) ?_
      refine on HT_ 14 (some 37) ?_
      refine on HT_ 15 (some 38) ?_
      refine off HT_ 16 (some 39) ?_
      refine off HT_ 17 (some 40) ?_
      refine off HT_ 18 (some 41) ?_
      refine off HT_ 19 (some 42) ?_
      refine off HT_ 20 (some 43) ?_
      refine on HT_ 21 (some 44) ?_
      refine on HT_ 22 (some 45) ?_
      refine off HT_ 23 (some 46) ?_
      refine off HT_ 24 (some 47) ?_
      refine off HT_ 25 (some 48) ?_
      refine off HT_ 26 (some 49) ?_
      refine off HT_ 27 (some 50) ?_
      refine on HT_ 28 (some 51) ?_
      refine on HT_ 29 (some 52) ?_
      refine off HT_ 30 (some 53) ?_
      refine off HT_ 31 (some 54) ?_
      refine off HT_ 32 (some 55) ?_
      refine off HT_ 33 (some 56) ?_
      refine off HT_ 34 (some 57) ?_
      refine on HT_ 35 (some 58) ?_
      refine on HT_ 36 (some 59) ?_
      refine off HT_ 37 (some 60) ?_
      refine off HT_ 38 (some 61) ?_
      refine off HT_ 39 (some 62) ?_
      refine off HT_ 40 (some 63) ?_
      refine off HT_ 41 (some 64) ?_
      refine off HT_ 42 (some 65) ?_
      refine off HT_ 43 (some 66) ?_
      refine off HT_ 44 (some 67) ?_
      refine off HT_ 45 (some 68) ?_
      refine off HT_ 46 (some 69) ?_
      refine off HT_ 47 (some 70) ?_
      refine on HT_ 48 (some 71) ?_
      refine done_ (done_of HT_.out (by kernel_rfl)) ?_
      try go_wp2
      go_meet
      case rel => exact ⟨rfl, ⟨(by repeat (first | exact HS.out | (with_reducible apply St.drewN) | (with_reducible apply St.drew)))⟩⟩
    rcases hn with hn | ⟨rfl, hn⟩
    · skip
      have e1 : (t1 != u1) = true := bne_iff_ne.2 hn
      have e1' : (t1 == u1) = false := beq_eq_false_iff_ne.2 hn
      clear hn
      have HT := Aside0.mk HS.out.drew; clear HS; have HS := HT; clear HT
      refine start_ (n := 49) (S := S2 w.heap.size (w.heap.size + 1) t0 t1 t2 t3 (.slice A4 l4.length c4) (.slice A5 l5.length c5) (.slice A6 l6.length c6) t0 u1 u2 u3 (.slice B4 m4.length d4) (.slice B5 m5.length d5) (.slice B6 m6.length d6)) (ds := []) F0 (by kernel_rfl) rfl rfl (S2.of HS.out.own 3 2 rfl rfl) (fun hHeld => ?_); refine with_tabW tab2 bits2 (fun HT_ HW_ => ?_)
      generalize wb.drew = wd at HS hHeld ⊢
      refine ts HT_ HW_ hHeld 0 (some 23) ?_
      refine one_ (i := 1) (N := some 24) #[true, true, false, false, false, false, false, false, false, false, false, false, false, false, false, false, false, false, false, false, false, false, false, false, false, false, false, false, false, false, false, false, false, false, false, false, false, false, false, false, false, false, false, false, false, false, false, false, false] rfl rfl (one_of HT_.out (by kernel_rfl)) (by decide) (fun K hK => ?_)
      refine goes_ Try.func12 (by kernel_rfl) rfl #[.agg #[.int .i64 t0, .int .i64 t1, .int .i64 t2, .int .i64 t3, .slice A4 l4.length c4, .slice A5 l5.length c5, .slice A6 l6.length c6]] (by rfl) rfl rfl (by (try simp only [List.map_toArray, List.map_cons, List.map_nil]); first | done | rfl) ?_
      with_reducible refine (frustumref42_Valid.calls _ t0 t1 t2 t3 A4 c4 l4 A5 c5 l5 A6 c6 l6 true _ ?s4 HC4.out ?s5 HC5.out ?s6 HC6.out V1.out).mono ?_
      case s4 => exact Kd.C_below HR4.out (by repeat (first | exact HS.out.own.bel | apply below_alloc | apply pw_below_drewN | apply below_drew1))
      case s5 => exact Kd.C_below HR5.out (by repeat (first | exact HS.out.own.bel | apply below_alloc | apply pw_below_drewN | apply below_drew1))
      case s6 => exact Kd.C_below HR6.out (by repeat (first | exact HS.out.own.bel | apply below_alloc | apply pw_below_drewN | apply below_drew1))
      rintro e w4 ⟨rfl, hb⟩; refine ⟨_, rfl, ?_⟩; have HT := Aside0.mk (St.step (by repeat (first | exact HS.out | (with_reducible apply St.drewN) | (with_reducible apply St.drew))) hb); clear HS hb; have HS := HT; clear HT
      refine hK.out _ _ (S2.of HS.out.own 3 2 rfl rfl) (fun hHeld => ?_)
      clear hK K
      refine norm_ (a' := ?_) ?_ ?_
      rotate_left
      · show Act.put _ (some 24) _ = _
        simp only [Act.put, List.setIfInBounds_toArray, List.set_cons_zero, List.set_cons_succ, i64_w, i32_w]
        rfl
      refine on HT_ 2 (some 25) ?_
      refine on HT_ 3 (some 26) ?_
      refine ts HT_ HW_ hHeld 4 (some 27) ?_
      refine one_ (i := 5) (N := some 28) #[true, true, true, true, true, true, false, false, false, false, false, false, false, false, false, false, false, false, false, false, false, false, false, false, false, false, false, false, false, false, false, false, false, false, false, false, false, false, false, false, false, false, false, false, false, false, false, false, false] rfl rfl (one_of HT_.out (by kernel_rfl)) (by decide) (fun K hK => ?_)
      refine goes_ Try.func12 (by kernel_rfl) rfl #[.agg #[.int .i64 t0, .int .i64 u1, .int .i64 u2, .int .i64 u3, .slice B4 m4.length d4, .slice B5 m5.length d5, .slice B6 m6.length d6]] (by rfl) rfl rfl (by (try simp only [List.map_toArray, List.map_cons, List.map_nil]); first | done | rfl) ?_
      with_reducible refine (frustumref42_Valid.calls _ t0 u1 u2 u3 B4 d4 m4 B5 d5 m5 B6 d6 m6 true _ ?s4 HD4.out ?s5 HD5.out ?s6 HD6.out V2.out).mono ?_
      case s4 => exact Kd.C_below HU4.out (by repeat (first | exact HS.out.own.bel | apply below_alloc | apply pw_below_drewN | apply below_drew1))
      case s5 => exact Kd.C_below HU5.out (by repeat (first | exact HS.out.own.bel | apply below_alloc | apply pw_below_drewN | apply below_drew1))
      case s6 => exact Kd.C_below HU6.out (by repeat (first | exact HS.out.own.bel | apply below_alloc | apply pw_below_drewN | apply below_drew1))
      rintro e w5 ⟨rfl, hb⟩; refine ⟨_, rfl, ?_⟩; have HT := Aside0.mk (St.step (by repeat (first | exact HS.out | (with_reducible apply St.drewN) | (with_reducible apply St.drew))) hb); clear HS hb; have HS := HT; clear HT
      refine hK.out _ _ (S2.of HS.out.own 3 2 rfl rfl) (fun hHeld => ?_)
      clear hK K
      refine norm_ (a' := ?_) ?_ ?_
      rotate_left
      · show Act.put _ (some 28) _ = _
        simp only [Act.put, List.setIfInBounds_toArray, List.set_cons_zero, List.set_cons_succ, i64_w, i32_w]
        rfl
      refine on HT_ 6 (some 29) ?_
      refine on HT_ 7 (some 30) ?_
      refine on HT_ 8 (some 31) ?_
      refine on HT_ 9 (some 32) ?_
      refine ts HT_ HW_ hHeld 10 (some 33) ?_
      refine on HT_ 11 (some 34) ?_
      refine ts HT_ HW_ hHeld 12 (some 35) ?_
      refine on HT_ 13 (some 36) ?_
      refine on HT_ 14 (some 37) ?_
      refine on HT_ 15 (some 38) ?_
      refine on HT_ 16 (some 39) ?_
      refine ts HT_ HW_ hHeld 17 (some 40) ?_
      refine on HT_ 18 (some 41) ?_
      refine ts HT_ HW_ hHeld 19 (some 42) ?_
      refine on HT_ 20 (some 43) ?_
      refine on HT_ 21 (some 44) ?_
      refine on HT_ 22 (some 45) ?_
      refine off HT_ 23 (some 46) ?_
      refine off HT_ 24 (some 47) ?_
      refine off HT_ 25 (some 48) ?_
      refine off HT_ 26 (some 49) ?_
      refine off HT_ 27 (some 50) ?_
      refine on HT_ 28 (some 51) ?_
      refine on HT_ 29 (some 52) ?_
      refine off HT_ 30 (some 53) ?_
      refine off HT_ 31 (some 54) ?_
      refine off HT_ 32 (some 55) ?_
      refine off HT_ 33 (some 56) ?_
      refine off HT_ 34 (some 57) ?_
      refine on HT_ 35 (some 58) ?_
      refine on HT_ 36 (some 59) ?_
      refine off HT_ 37 (some 60) ?_
      refine off HT_ 38 (some 61) ?_
      refine off HT_ 39 (some 62) ?_
      refine off HT_ 40 (some 63) ?_
      refine off HT_ 41 (some 64) ?_
      refine off HT_ 42 (some 65) ?_
      refine off HT_ 43 (some 66) ?_
      refine off HT_ 44 (some 67) ?_
      refine off HT_ 45 (some 68) ?_
      refine off HT_ 46 (some 69) ?_
      refine off HT_ 47 (some 70) ?_
      refine on HT_ 48 (some 71) ?_
      refine done_ (done_of HT_.out (by kernel_rfl)) ?_
      try go_wp2
      go_meet
      case rel => exact ⟨rfl, ⟨(by repeat (first | exact HS.out | (with_reducible apply St.drewN) | (with_reducible apply St.drew)))⟩⟩
    rcases hn with hn | ⟨rfl, hn⟩
    · skip
      have e2 : (t2 != u2) = true := bne_iff_ne.2 hn
      have e2' : (t2 == u2) = false := beq_eq_false_iff_ne.2 hn
      clear hn
      have HT := Aside0.mk HS.out.drew; clear HS; have HS := HT; clear HT
      refine start_ (n := 49) (S := S2 w.heap.size (w.heap.size + 1) t0 t1 t2 t3 (.slice A4 l4.length c4) (.slice A5 l5.length c5) (.slice A6 l6.length c6) t0 t1 u2 u3 (.slice B4 m4.length d4) (.slice B5 m5.length d5) (.slice B6 m6.length d6)) (ds := []) F0 (by kernel_rfl) rfl rfl (S2.of HS.out.own 3 2 rfl rfl) (fun hHeld => ?_); refine with_tabW tab2 bits2 (fun HT_ HW_ => ?_)
      generalize wb.drew = wd at HS hHeld ⊢
      refine ts HT_ HW_ hHeld 0 (some 23) ?_
      refine one_ (i := 1) (N := some 24) #[true, true, false, false, false, false, false, false, false, false, false, false, false, false, false, false, false, false, false, false, false, false, false, false, false, false, false, false, false, false, false, false, false, false, false, false, false, false, false, false, false, false, false, false, false, false, false, false, false] rfl rfl (one_of HT_.out (by kernel_rfl)) (by decide) (fun K hK => ?_)
      refine goes_ Try.func12 (by kernel_rfl) rfl #[.agg #[.int .i64 t0, .int .i64 t1, .int .i64 t2, .int .i64 t3, .slice A4 l4.length c4, .slice A5 l5.length c5, .slice A6 l6.length c6]] (by rfl) rfl rfl (by (try simp only [List.map_toArray, List.map_cons, List.map_nil]); first | done | rfl) ?_
      with_reducible refine (frustumref42_Valid.calls _ t0 t1 t2 t3 A4 c4 l4 A5 c5 l5 A6 c6 l6 true _ ?s4 HC4.out ?s5 HC5.out ?s6 HC6.out V1.out).mono ?_
      case s4 => exact Kd.C_below HR4.out (by repeat (first | exact HS.out.own.bel | apply below_alloc | apply pw_below_drewN | apply below_drew1))
      case s5 => exact Kd.C_below HR5.out (by repeat (first | exact HS.out.own.bel | apply below_alloc | apply pw_below_drewN | apply below_drew1))
      case s6 => exact Kd.C_below HR6.out (by repeat (first | exact HS.out.own.bel | apply below_alloc | apply pw_below_drewN | apply below_drew1))
      rintro e w4 ⟨rfl, hb⟩; refine ⟨_, rfl, ?_⟩; have HT := Aside0.mk (St.step (by repeat (first | exact HS.out | (with_reducible apply St.drewN) | (with_reducible apply St.drew))) hb); clear HS hb; have HS := HT; clear HT
      refine hK.out _ _ (S2.of HS.out.own 3 2 rfl rfl) (fun hHeld => ?_)
      clear hK K
      refine norm_ (a' := ?_) ?_ ?_
      rotate_left
      · show Act.put _ (some 24) _ = _
        simp only [Act.put, List.setIfInBounds_toArray, List.set_cons_zero, List.set_cons_succ, i64_w, i32_w]
        rfl
      refine on HT_ 2 (some 25) ?_
      refine on HT_ 3 (some 26) ?_
      refine ts HT_ HW_ hHeld 4 (some 27) ?_
      refine one_ (i := 5) (N := some 28) #[true, true, true, true, true, true, false, false, false, false, false, false, false, false, false, false, false, false, false, false, false, false, false, false, false, false, false, false, false, false, false, false, false, false, false, false, false, false, false, false, false, false, false, false, false, false, false, false, false] rfl rfl (one_of HT_.out (by kernel_rfl)) (by decide) (fun K hK => ?_)
      refine goes_ Try.func12 (by kernel_rfl) rfl #[.agg #[.int .i64 t0, .int .i64 t1, .int .i64 u2, .int .i64 u3, .slice B4 m4.length d4, .slice B5 m5.length d5, .slice B6 m6.length d6]] (by rfl) rfl rfl (by (try simp only [List.map_toArray, List.map_cons, List.map_nil]); first | done | rfl) ?_
      with_reducible refine (frustumref42_Valid.calls _ t0 t1 u2 u3 B4 d4 m4 B5 d5 m5 B6 d6 m6 true _ ?s4 HD4.out ?s5 HD5.out ?s6 HD6.out V2.out).mono ?_
      case s4 => exact Kd.C_below HU4.out (by repeat (first | exact HS.out.own.bel | apply below_alloc | apply pw_below_drewN | apply below_drew1))
      case s5 => exact Kd.C_below HU5.out (by repeat (first | exact HS.out.own.bel | apply below_alloc | apply pw_below_drewN | apply below_drew1))
      case s6 => exact Kd.C_below HU6.out (by repeat (first | exact HS.out.own.bel | apply below_alloc | apply pw_below_drewN | apply below_drew1))
      rintro e w5 ⟨rfl, hb⟩; refine ⟨_, rfl, ?_⟩; have HT := Aside0.mk (St.step (by repeat (first | exact HS.out | (with_reducible apply St.drewN) | (with_reducible apply St.drew))) hb); clear HS hb; have HS := HT; clear HT
      refine hK.out _ _ (S2.of HS.out.own 3 2 rfl rfl) (fun hHeld => ?_)
      clear hK K
      refine norm_ (a' := ?_) ?_ ?_
      rotate_left
      · show Act.put _ (some 28) _ = _
        simp only [Act.put, List.setIfInBounds_toArray, List.set_cons_zero, List.set_cons_succ, i64_w, i32_w]
        rfl
      refine on HT_ 6 (some 29) ?_
      refine on HT_ 7 (some 30) ?_
      refine on HT_ 8 (some 31) ?_
      refine on HT_ 9 (some 32) ?_
      refine ts HT_ HW_ hHeld 10 (some 33) ?_
      refine on HT_ 11 (some 34) ?_
      refine ts HT_ HW_ hHeld 12 (some 35) ?_
      refine on HT_ 13 (some 36) ?_
      refine on HT_ 14 (some 37) ?_
      refine on HT_ 15 (some 38) ?_
      refine on HT_ 16 (some 39) ?_
      refine ts HT_ HW_ hHeld 17 (some 40) ?_
      refine on HT_ 18 (some 41) ?_
      refine ts HT_ HW_ hHeld 19 (some 42) ?_
      refine on HT_ 20 (some 43) ?_
      refine on HT_ 21 (some 44) ?_
      refine on HT_ 22 (some 45) ?_
      refine on HT_ 23 (some 46) ?_
      refine ts HT_ HW_ hHeld 24 (some 47) ?_
      refine on HT_ 25 (some 48) ?_
      refine ts HT_ HW_ hHeld 26 (some 49) ?_
      refine on HT_ 27 (some 50) ?_
      refine on HT_ 28 (some 51) ?_
      refine on HT_ 29 (some 52) ?_
      refine off HT_ 30 (some 53) ?_
      refine off HT_ 31 (some 54) ?_
      refine off HT_ 32 (some 55) ?_
      refine off HT_ 33 (some 56) ?_
      refine off HT_ 34 (some 57) ?_
      refine on HT_ 35 (some 58) ?_
      refine on HT_ 36 (some 59) ?_
      refine off HT_ 37 (some 60) ?_
      refine off HT_ 38 (some 61) ?_
      refine off HT_ 39 (some 62) ?_
      refine off HT_ 40 (some 63) ?_
      refine off HT_ 41 (some 64) ?_
      refine off HT_ 42 (some 65) ?_
      refine off HT_ 43 (some 66) ?_
      refine off HT_ 44 (some 67) ?_
      refine off HT_ 45 (some 68) ?_
      refine off HT_ 46 (some 69) ?_
      refine off HT_ 47 (some 70) ?_
      refine on HT_ 48 (some 71) ?_
      refine done_ (done_of HT_.out (by kernel_rfl)) ?_
      try go_wp2
      go_meet
      case rel => exact ⟨rfl, ⟨(by repeat (first | exact HS.out | (with_reducible apply St.drewN) | (with_reducible apply St.drew)))⟩⟩
    rcases hn with hn | ⟨rfl, hn⟩
    · skip
      have e3 : (t3 != u3) = true := bne_iff_ne.2 hn
      have e3' : (t3 == u3) = false := beq_eq_false_iff_ne.2 hn
      clear hn
      have HT := Aside0.mk HS.out.drew; clear HS; have HS := HT; clear HT
      refine start_ (n := 49) (S := S2 w.heap.size (w.heap.size + 1) t0 t1 t2 t3 (.slice A4 l4.length c4) (.slice A5 l5.length c5) (.slice A6 l6.length c6) t0 t1 t2 u3 (.slice B4 m4.length d4) (.slice B5 m5.length d5) (.slice B6 m6.length d6)) (ds := []) F0 (by kernel_rfl) rfl rfl (S2.of HS.out.own 3 2 rfl rfl) (fun hHeld => ?_); refine with_tabW tab2 bits2 (fun HT_ HW_ => ?_)
      generalize wb.drew = wd at HS hHeld ⊢
      refine ts HT_ HW_ hHeld 0 (some 23) ?_
      refine one_ (i := 1) (N := some 24) #[true, true, false, false, false, false, false, false, false, false, false, false, false, false, false, false, false, false, false, false, false, false, false, false, false, false, false, false, false, false, false, false, false, false, false, false, false, false, false, false, false, false, false, false, false, false, false, false, false] rfl rfl (one_of HT_.out (by kernel_rfl)) (by decide) (fun K hK => ?_)
      refine goes_ Try.func12 (by kernel_rfl) rfl #[.agg #[.int .i64 t0, .int .i64 t1, .int .i64 t2, .int .i64 t3, .slice A4 l4.length c4, .slice A5 l5.length c5, .slice A6 l6.length c6]] (by rfl) rfl rfl (by (try simp only [List.map_toArray, List.map_cons, List.map_nil]); first | done | rfl) ?_
      with_reducible refine (frustumref42_Valid.calls _ t0 t1 t2 t3 A4 c4 l4 A5 c5 l5 A6 c6 l6 true _ ?s4 HC4.out ?s5 HC5.out ?s6 HC6.out V1.out).mono ?_
      case s4 => exact Kd.C_below HR4.out (by repeat (first | exact HS.out.own.bel | apply below_alloc | apply pw_below_drewN | apply below_drew1))
      case s5 => exact Kd.C_below HR5.out (by repeat (first | exact HS.out.own.bel | apply below_alloc | apply pw_below_drewN | apply below_drew1))
      case s6 => exact Kd.C_below HR6.out (by repeat (first | exact HS.out.own.bel | apply below_alloc | apply pw_below_drewN | apply below_drew1))
      rintro e w4 ⟨rfl, hb⟩; refine ⟨_, rfl, ?_⟩; have HT := Aside0.mk (St.step (by repeat (first | exact HS.out | (with_reducible apply St.drewN) | (with_reducible apply St.drew))) hb); clear HS hb; have HS := HT; clear HT
      refine hK.out _ _ (S2.of HS.out.own 3 2 rfl rfl) (fun hHeld => ?_)
      clear hK K
      refine norm_ (a' := ?_) ?_ ?_
      rotate_left
      · show Act.put _ (some 24) _ = _
        simp only [Act.put, List.setIfInBounds_toArray, List.set_cons_zero, List.set_cons_succ, i64_w, i32_w]
        rfl
      refine on HT_ 2 (some 25) ?_
      refine on HT_ 3 (some 26) ?_
      refine ts HT_ HW_ hHeld 4 (some 27) ?_
      refine one_ (i := 5) (N := some 28) #[true, true, true, true, true, true, false, false, false, false, false, false, false, false, false, false, false, false, false, false, false, false, false, false, false, false, false, false, false, false, false, false, false, false, false, false, false, false, false, false, false, false, false, false, false, false, false, false, false] rfl rfl (one_of HT_.out (by kernel_rfl)) (by decide) (fun K hK => ?_)
      refine goes_ Try.func12 (by kernel_rfl) rfl #[.agg #[.int .i64 t0, .int .i64 t1, .int .i64 t2, .int .i64 u3, .slice B4 m4.length d4, .slice B5 m5.length d5, .slice B6 m6.length d6]] (by rfl) rfl rfl (by (try simp only [List.map_toArray, List.map_cons, List.map_nil]); first | done | rfl) ?_
      with_reducible refine (frustumref42_Valid.calls _ t0 t1 t2 u3 B4 d4 m4 B5 d5 m5 B6 d6 m6 true _ ?s4 HD4.out ?s5 HD5.out ?s6 HD6.out V2.out).mono ?_
      case s4 => exact Kd.C_below HU4.out (by repeat (first | exact HS.out.own.bel | apply below_alloc | apply pw_below_drewN | apply below_drew1))
      case s5 => exact Kd.C_below HU5.out (by repeat (first | exact HS.out.own.bel | apply below_alloc | apply pw_below_drewN | apply below_drew1))
      case s6 => exact Kd.C_below HU6.out (by repeat (first | exact HS.out.own.bel | apply below_alloc | apply pw_below_drewN | apply below_drew1))
      rintro e w5 ⟨rfl, hb⟩; refine ⟨_, rfl, ?_⟩; have HT := Aside0.mk (St.step (by repeat (first | exact HS.out | (with_reducible apply St.drewN) | (with_reducible apply St.drew))) hb); clear HS hb; have HS := HT; clear HT
      refine hK.out _ _ (S2.of HS.out.own 3 2 rfl rfl) (fun hHeld => ?_)
      clear hK K
      refine norm_ (a' := ?_) ?_ ?_
      rotate_left
      · show Act.put _ (some 28) _ = _
        simp only [Act.put, List.setIfInBounds_toArray, List.set_cons_zero, List.set_cons_succ, i64_w, i32_w]
        rfl
      refine on HT_ 6 (some 29) ?_
      refine on HT_ 7 (some 30) ?_
      refine on HT_ 8 (some 31) ?_
      refine on HT_ 9 (some 32) ?_
      refine ts HT_ HW_ hHeld 10 (some 33) ?_
      refine on HT_ 11 (some 34) ?_
      refine ts HT_ HW_ hHeld 12 (some 35) ?_
      refine on HT_ 13 (some 36) ?_
      refine on HT_ 14 (some 37) ?_
      refine on HT_ 15 (some 38) ?_
      refine on HT_ 16 (some 39) ?_
      refine ts HT_ HW_ hHeld 17 (some 40) ?_
      refine on HT_ 18 (some 41) ?_
      refine ts HT_ HW_ hHeld 19 (some 42) ?_
      refine on HT_ 20 (some 43) ?_
      refine on HT_ 21 (some 44) ?_
      refine on HT_ 22 (some 45) ?_
      refine on HT_ 23 (some 46) ?_
      refine ts HT_ HW_ hHeld 24 (some 47) ?_
      refine on HT_ 25 (some 48) ?_
      refine ts HT_ HW_ hHeld 26 (some 49) ?_
      refine on HT_ 27 (some 50) ?_
      refine on HT_ 28 (some 51) ?_
      refine on HT_ 29 (some 52) ?_
      refine on HT_ 30 (some 53) ?_
      refine ts HT_ HW_ hHeld 31 (some 54) ?_
      refine on HT_ 32 (some 55) ?_
      refine ts HT_ HW_ hHeld 33 (some 56) ?_
      refine on HT_ 34 (some 57) ?_
      refine on HT_ 35 (some 58) ?_
      refine on HT_ 36 (some 59) ?_
      refine off HT_ 37 (some 60) ?_
      refine off HT_ 38 (some 61) ?_
      refine off HT_ 39 (some 62) ?_
      refine off HT_ 40 (some 63) ?_
      refine off HT_ 41 (some 64) ?_
      refine off HT_ 42 (some 65) ?_
      refine off HT_ 43 (some 66) ?_
      refine off HT_ 44 (some 67) ?_
      refine off HT_ 45 (some 68) ?_
      refine off HT_ 46 (some 69) ?_
      refine off HT_ 47 (some 70) ?_
      refine on HT_ 48 (some 71) ?_
      refine done_ (done_of HT_.out (by kernel_rfl)) ?_
      try go_wp2
      go_meet
      case rel => exact ⟨rfl, ⟨(by repeat (first | exact HS.out | (with_reducible apply St.drewN) | (with_reducible apply St.drew)))⟩⟩
    obtain ⟨n1, n2, hn⟩ := hn
    obtain ⟨ad4, A43, c43, rfl, e0, _⟩ := at_T47 HR4.out 0 (by omega) (by omega)
    obtain ⟨bd4, B43, d43, rfl, e1, _⟩ := at_T47 HU4.out 0 (by omega) (by omega)
    rw [show ((0 : Int)).toNat = 0 from rfl, show 0 * 4 = 0 from rfl, Addr.add_zero'] at e0 e1
    have E0 := Aside0.mk e0
    have E1 := Aside0.mk e1
    have b1 : decide (0 < (l4.length : Int)) = true := decide_eq_true (by omega)
    have b2 : decide (0 < (m4.length : Int)) = true := decide_eq_true (by omega)
    have b3 : (0 < l4.length) = True := eq_true (by omega)
    have b4 : (0 < m4.length) = True := eq_true (by omega)
    have e5 : ((rd_T47 l4 0).f0 != (rd_T47 m4 0).f0) = true := bne_iff_ne.2 hn
    have e5' : ((rd_T47 l4 0).f0 == (rd_T47 m4 0).f0) = false := beq_eq_false_iff_ne.2 hn
    clear hn e0 e1 n1 n2
    have HT := Aside0.mk HS.out.drew; clear HS; have HS := HT; clear HT
    refine start_ (n := 49) (S := fun w' => S2 w.heap.size (w.heap.size + 1) t0 t1 t2 t3 (.slice (some ad4) l4.length c4) (.slice A5 l5.length c5) (.slice A6 l6.length c6) t0 t1 t2 t3 (.slice (some bd4) m4.length d4) (.slice B5 m5.length d5) (.slice B6 m6.length d6) w' ∧ w'.cell? ad4 = some (.int .i64 (rd_T47 l4 0).f0) ∧ w'.cell? bd4 = some (.int .i64 (rd_T47 m4 0).f0)) (ds := []) F0 (by kernel_rfl) rfl rfl ⟨(S2.of HS.out.own 3 2 rfl rfl), pw_cell_below HS.out.own.bel E0.out, pw_cell_below HS.out.own.bel E1.out⟩ (fun hHeld => ?_); refine with_tabW tab2 bits2 (fun HT_ HW_ => ?_)
    generalize wb.drew = wd at HS hHeld ⊢
    refine tk HT_ HW_ hHeld 0 (some 23) rfl (by rintro w' ⟨⟨s0, s1, s2, s3, s4, s5, s6, s7, s8, s9, s10, s11, s12, s13, _⟩, s14, s15⟩; go_simp; with_reducible rfl) ?_
    refine one_ (i := 1) (N := some 24) #[true, true, false, false, false, false, false, false, false, false, false, false, false, false, false, false, false, false, false, false, false, false, false, false, false, false, false, false, false, false, false, false, false, false, false, false, false, false, false, false, false, false, false, false, false, false, false, false, false] rfl rfl (one_of HT_.out (by kernel_rfl)) (by decide) (fun K hK => ?_)
    refine goes_ Try.func12 (by kernel_rfl) rfl #[.agg #[.int .i64 t0, .int .i64 t1, .int .i64 t2, .int .i64 t3, .slice (some ad4) l4.length c4, .slice A5 l5.length c5, .slice A6 l6.length c6]] (by rfl) rfl rfl (by (try simp only [List.map_toArray, List.map_cons, List.map_nil]); first | done | rfl) ?_
    with_reducible refine (frustumref42_Valid.calls _ t0 t1 t2 t3 (some ad4) c4 l4 A5 c5 l5 A6 c6 l6 true _ ?s4 HC4.out ?s5 HC5.out ?s6 HC6.out V1.out).mono ?_
    case s4 => exact Kd.C_below HR4.out (by repeat (first | exact HS.out.own.bel | apply below_alloc | apply pw_below_drewN | apply below_drew1))
    case s5 => exact Kd.C_below HR5.out (by repeat (first | exact HS.out.own.bel | apply below_alloc | apply pw_below_drewN | apply below_drew1))
    case s6 => exact Kd.C_below HR6.out (by repeat (first | exact HS.out.own.bel | apply below_alloc | apply pw_below_drewN | apply below_drew1))
    rintro e w4 ⟨rfl, hb⟩; refine ⟨_, rfl, ?_⟩; have HT := Aside0.mk (St.step (by repeat (first | exact HS.out | (with_reducible apply St.drewN) | (with_reducible apply St.drew))) hb); clear HS hb; have HS := HT; clear HT
    refine hK.out _ _ ⟨(S2.of HS.out.own 3 2 rfl rfl), pw_cell_below HS.out.own.bel E0.out, pw_cell_below HS.out.own.bel E1.out⟩ (fun hHeld => ?_)
    clear hK K
    refine norm_ (a' := ?_) ?_ ?_
    rotate_left
    · show Act.put _ (some 24) _ = _
      simp only [Act.put, List.setIfInBounds_toArray, List.set_cons_zero, List.set_cons_succ, i64_w, i32_w]
      rfl
    refine on HT_ 2 (some 25) ?_
    refine on HT_ 3 (some 26) ?_
    refine tk HT_ HW_ hHeld 4 (some 27) rfl (by rintro w' ⟨⟨s0, s1, s2, s3, s4, s5, s6, s7, s8, s9, s10, s11, s12, s13, _⟩, s14, s15⟩; go_simp; with_reducible rfl) ?_
    refine one_ (i := 5) (N := some 28) #[true, true, true, true, true, true, false, false, false, false, false, false, false, false, false, false, false, false, false, false, false, false, false, false, false, false, false, false, false, false, false, false, false, false, false, false, false, false, false, false, false, false, false, false, false, false, false, false, false] rfl rfl (one_of HT_.out (by kernel_rfl)) (by decide) (fun K hK => ?_)
    refine goes_ Try.func12 (by kernel_rfl) rfl #[.agg #[.int .i64 t0, .int .i64 t1, .int .i64 t2, .int .i64 t3, .slice (some bd4) m4.length d4, .slice B5 m5.length d5, .slice B6 m6.length d6]] (by rfl) rfl rfl (by (try simp only [List.map_toArray, List.map_cons, List.map_nil]); first | done | rfl) ?_
    with_reducible refine (frustumref42_Valid.calls _ t0 t1 t2 t3 (some bd4) d4 m4 B5 d5 m5 B6 d6 m6 true _ ?s4 HD4.out ?s5 HD5.out ?s6 HD6.out V2.out).mono ?_
    case s4 => exact Kd.C_below HU4.out (by repeat (first | exact HS.out.own.bel | apply below_alloc | apply pw_below_drewN | apply below_drew1))
    case s5 => exact Kd.C_below HU5.out (by repeat (first | exact HS.out.own.bel | apply below_alloc | apply pw_below_drewN | apply below_drew1))
    case s6 => exact Kd.C_below HU6.out (by repeat (first | exact HS.out.own.bel | apply below_alloc | apply pw_below_drewN | apply below_drew1))
    rintro e w5 ⟨rfl, hb⟩; refine ⟨_, rfl, ?_⟩; have HT := Aside0.mk (St.step (by repeat (first | exact HS.out | (with_reducible apply St.drewN) | (with_reducible apply St.drew))) hb); clear HS hb; have HS := HT; clear HT
    refine hK.out _ _ ⟨(S2.of HS.out.own 3 2 rfl rfl), pw_cell_below HS.out.own.bel E0.out, pw_cell_below HS.out.own.bel E1.out⟩ (fun hHeld => ?_)
    clear hK K
    refine norm_ (a' := ?_) ?_ ?_
    rotate_left
    · show Act.put _ (some 28) _ = _
      simp only [Act.put, List.setIfInBounds_toArray, List.set_cons_zero, List.set_cons_succ, i64_w, i32_w]
      rfl
    refine on HT_ 6 (some 29) ?_
    refine on HT_ 7 (some 30) ?_
    refine on HT_ 8 (some 31) ?_
    refine on HT_ 9 (some 32) ?_
    refine tk HT_ HW_ hHeld 10 (some 33) rfl (by rintro w' ⟨⟨s0, s1, s2, s3, s4, s5, s6, s7, s8, s9, s10, s11, s12, s13, _⟩, s14, s15⟩; go_simp; with_reducible rfl) ?_
    refine on HT_ 11 (some 34) ?_
    refine tk HT_ HW_ hHeld 12 (some 35) rfl (by rintro w' ⟨⟨s0, s1, s2, s3, s4, s5, s6, s7, s8, s9, s10, s11, s12, s13, _⟩, s14, s15⟩; go_simp; with_reducible rfl) ?_
    refine on HT_ 13 (some 36) ?_
    refine on HT_ 14 (some 37) ?_
    refine on HT_ 15 (some 38) ?_
    refine on HT_ 16 (some 39) ?_
    refine tk HT_ HW_ hHeld 17 (some 40) rfl (by rintro w' ⟨⟨s0, s1, s2, s3, s4, s5, s6, s7, s8, s9, s10, s11, s12, s13, _⟩, s14, s15⟩; go_simp; with_reducible rfl) ?_
    refine on HT_ 18 (some 41) ?_
    refine tk HT_ HW_ hHeld 19 (some 42) rfl (by rintro w' ⟨⟨s0, s1, s2, s3, s4, s5, s6, s7, s8, s9, s10, s11, s12, s13, _⟩, s14, s15⟩; go_simp; with_reducible rfl) ?_
    refine on HT_ 20 (some 43) ?_
    refine on HT_ 21 (some 44) ?_
    refine on HT_ 22 (some 45) ?_
    refine on HT_ 23 (some 46) ?_
    refine tk HT_ HW_ hHeld 24 (some 47) rfl (by rintro w' ⟨⟨s0, s1, s2, s3, s4, s5, s6, s7, s8, s9, s10, s11, s12, s13, _⟩, s14, s15⟩; go_simp; with_reducible rfl) ?_
    refine on HT_ 25 (some 48) ?_
    refine tk HT_ HW_ hHeld 26 (some 49) rfl (by rintro w' ⟨⟨s0, s1, s2, s3, s4, s5, s6, s7, s8, s9, s10, s11, s12, s13, _⟩, s14, s15⟩; go_simp; with_reducible rfl) ?_
    refine on HT_ 27 (some 50) ?_
    refine on HT_ 28 (some 51) ?_
    refine on HT_ 29 (some 52) ?_
    refine on HT_ 30 (some 53) ?_
    refine tk HT_ HW_ hHeld 31 (some 54) rfl (by rintro w' ⟨⟨s0, s1, s2, s3, s4, s5, s6, s7, s8, s9, s10, s11, s12, s13, _⟩, s14, s15⟩; go_simp; with_reducible rfl) ?_
    refine on HT_ 32 (some 55) ?_
    refine tk HT_ HW_ hHeld 33 (some 56) rfl (by rintro w' ⟨⟨s0, s1, s2, s3, s4, s5, s6, s7, s8, s9, s10, s11, s12, s13, _⟩, s14, s15⟩; go_simp; with_reducible rfl) ?_
    refine on HT_ 34 (some 57) ?_
    refine on HT_ 35 (some 58) ?_
    refine on HT_ 36 (some 59) ?_
    refine on HT_ 37 (some 60) ?_
    refine tk HT_ HW_ hHeld 38 (some 61) rfl (by rintro w' ⟨⟨s0, s1, s2, s3, s4, s5, s6, s7, s8, s9, s10, s11, s12, s13, _⟩, s14, s15⟩; go_simp; with_reducible rfl) ?_
    refine on HT_ 39 (some 62) ?_
    refine on HT_ 40 (some 63) ?_
    refine tk HT_ HW_ hHeld 41 (some 64) rfl (by rintro w' ⟨⟨s0, s1, s2, s3, s4, s5, s6, s7, s8, s9, s10, s11, s12, s13, _⟩, s14, s15⟩; go_simp; with_reducible rfl) ?_
    refine on HT_ 42 (some 65) ?_
    refine tk HT_ HW_ hHeld 43 (some 66) rfl (by rintro w' ⟨⟨s0, s1, s2, s3, s4, s5, s6, s7, s8, s9, s10, s11, s12, s13, _⟩, s14, s15⟩; go_simp; with_reducible rfl) ?_
    refine on HT_ 44 (some 67) ?_
    refine on HT_ 45 (some 68) ?_
    refine tk HT_ HW_ hHeld 46 (some 69) rfl (by rintro w' ⟨⟨s0, s1, s2, s3, s4, s5, s6, s7, s8, s9, s10, s11, s12, s13, _⟩, s14, s15⟩; go_simp; with_reducible rfl) ?_
    refine on HT_ 47 (some 70) ?_
    refine on HT_ 48 (some 71) ?_
    refine done_ (done_of HT_.out (by kernel_rfl)) ?_
    try go_wp2
    go_meet
    case rel => exact ⟨rfl, ⟨(by repeat (first | exact HS.out | (with_reducible apply St.drewN) | (with_reducible apply St.drew)))⟩⟩

  case rest =>
    obtain ⟨rfl, HS⟩ := hcut
    clear HN CL V1 V2
    have hR := Owns.rules HS.out.own
    simp only [Own.rules] at hR
    go_wp2_with fail
    have HF : Aside0 (St w (((((((wc.setCell ⟨w.heap.size + 1 + 1, 0, none⟩ (.int .i64 t0)).setCell ⟨w.heap.size + 1 + 1, 1, none⟩ (.int .i64 t1)).setCell ⟨w.heap.size + 1 + 1, 2, none⟩ (.int .i64 t2)).setCell ⟨w.heap.size + 1 + 1, 3, none⟩ (.int .i64 t3)).setCell ⟨w.heap.size + 1 + 1, 4, none⟩ (.slice a4 l4.length o4)).setCell ⟨w.heap.size + 1 + 1, 5, none⟩ (.slice a5 l5.length o5)).setCell ⟨w.heap.size + 1 + 1, 6, none⟩ (.slice a6 l6.length o6)) [(g3, #[.int .i64 t0, .int .i64 t1, .int .i64 t2, .int .i64 t3, .slice a4 l4.length o4, .slice a5 l5.length o5, .slice a6 l6.length o6], 28), (w.heap.size + 1 + 1, #[.int .i64 t0, .int .i64 t1, .int .i64 t2, .int .i64 t3, .slice a4 l4.length o4, .slice a5 l5.length o5, .slice a6 l6.length o6], 28), (w.heap.size + 1, #[.int .i64 u0, .int .i64 u1, .int .i64 u2, .int .i64 u3, .slice B4 m4.length d4, .slice B5 m5.length d5, .slice B6 m6.length d6], 28), (w.heap.size, #[.int .i64 t0, .int .i64 t1, .int .i64 t2, .int .i64 t3, .slice A4 l4.length c4, .slice A5 l5.length c5, .slice A6 l6.length c6], 28)] (.slice a4 l4.length o4) (.slice a5 l5.length o5) (.slice a6 l6.length o6) l4 l5 l6) := ⟨HS.out.set7 1 _ _ _ _ _ _ _ _ rfl (.int .i64 t0) (.int .i64 t1) (.int .i64 t2) (.int .i64 t3) (.slice a4 l4.length o4) (.slice a5 l5.length o5) (.slice a6 l6.length o6)⟩
    clear hR HS
    generalize (((((((wc.setCell ⟨w.heap.size + 1 + 1, 0, none⟩ (.int .i64 t0)).setCell ⟨w.heap.size + 1 + 1, 1, none⟩ (.int .i64 t1)).setCell ⟨w.heap.size + 1 + 1, 2, none⟩ (.int .i64 t2)).setCell ⟨w.heap.size + 1 + 1, 3, none⟩ (.int .i64 t3)).setCell ⟨w.heap.size + 1 + 1, 4, none⟩ (.slice a4 l4.length o4)).setCell ⟨w.heap.size + 1 + 1, 5, none⟩ (.slice a5 l5.length o5)).setCell ⟨w.heap.size + 1 + 1, 6, none⟩ (.slice a6 l6.length o6)) = wz at HF ⊢
    refine bodyPost_ret (results_cell_row rfl _ _ (w.heap.size + 1 + 1) 28 #[.int .i64 t0, .int .i64 t1, .int .i64 t2, .int .i64 t3, .slice a4 l4.length o4, .slice a5 l5.length o5, .slice a6 l6.length o6] (0, 0) _ rfl (HF.out.own.at 1 _ rfl) Try.underlying28 rfl (by kernel_rfl)) rfl ?_
    exact ⟨_, _, _, rfl, HF.out.s, HF.out.d, HF.out.z, HF.out.own.bel⟩

end Go.Proofs.Ytmpmennepjkocaa.RMerge
