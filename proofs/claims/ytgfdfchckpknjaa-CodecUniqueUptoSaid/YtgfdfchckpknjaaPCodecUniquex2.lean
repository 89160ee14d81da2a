/- CodecUnique: walks of functions, most by printed steps; tail, AppendInt, AppendBool, ReadInt, PutLittle by hand. No condition. -/
import Derived.Test.YtgfdfchckpknjaaPCodecUniquex0
import Derived.Test.YtgfdfchckpknjaaApp
namespace Go.Proofs.Ytgfdfchckpknjaa.PCodecUnique
open Go.RowKit Go.Proofs.YtgfdfchckpknjaaW.PrintWords Go.Proofs.YtgfdfchckpknjaaW.PrintLast Go.Proofs.YtgfdfchckpknjaaW.PrintMore Go.Proofs.Ytgfdfchckpknjaa.App
attribute [local go_sem] max2_int min2_int max_two min_two max_three min_three max_four min_four   -- for this text's walks alone
set_option linter.unusedVariables false
set_option linter.unusedSimpArgs false

/-! ### codec_ReadInt: function 27 -/
/-- The bytes of an int, read from the m-th on: what the code does. -/
def ri_from (l0 : List Int) (a1 : Int) : Nat → Nat → Int → Option (Int × Int × Int)
  | 0, _, _ => none
  | k + 1, m, u =>
    if (l0.length : Int) ≤ wrap64 (a1 + (m : Int)) then some (0, 0, 4) else
    if ¬ 0 ≤ wrap64 (a1 + (m : Int)) then none else
    if m = 9 ∧ 1 < rd l0 (wrap64 (a1 + (m : Int))) then some (0, 0, 3) else
    if 128 ≤ rd l0 (wrap64 (a1 + (m : Int))) then ri_from l0 a1 k (m + 1) (Go.bits .or .u64 u (shl .u64 (IntKind.u64.wrap (Go.bits .and .u8 (rd l0 (wrap64 (a1 + (m : Int)))) 127)) (wrap64 (7 * (m : Int))))) else
    if rd l0 (wrap64 (a1 + (m : Int))) = 0 ∧ 1 < (m : Int) + 1 then some (0, 0, 3) else
    if Go.bits .and .u64 (Go.bits .or .u64 u (shl .u64 (IntKind.u64.wrap (Go.bits .and .u8 (rd l0 (wrap64 (a1 + (m : Int)))) 127)) (wrap64 (7 * (m : Int))))) 1 = 1 then
      some (Go.bits .xor .i64 (-1) (wrap64 (Go.bits .or .u64 u (shl .u64 (IntKind.u64.wrap (Go.bits .and .u8 (rd l0 (wrap64 (a1 + (m : Int)))) 127)) (wrap64 (7 * (m : Int)))) / 2)), wrap64 (a1 + ((m : Int) + 1)), 0)
    else some (wrap64 (Go.bits .or .u64 u (shl .u64 (IntKind.u64.wrap (Go.bits .and .u8 (rd l0 (wrap64 (a1 + (m : Int)))) 127)) (wrap64 (7 * (m : Int)))) / 2), wrap64 (a1 + ((m : Int) + 1)), 0)
def codec_ReadInt.f (k : Nat) (l0 : List Int) (a1 : Int) : Option (Int × Int × Int) := if a1 < 0 ∨ (l0.length : Int) < a1 then some (0, 0, 2) else ri_from l0 a1 10 0 0
theorem codec_ReadInt.mono : ∀ a0 a1 k, LeO (codec_ReadInt.f k a0 a1) (codec_ReadInt.f (k + 1) a0 a1) := fun _ _ _ => LeO.refl _
theorem ri_scope {P : Program} {a : Act} {w : World} {Q : Exit → Act → World → Prop} {c R : Code} (l : Nat) (J : Act → World → Prop) (μ : Act → World → Nat) (hf : findLabel c l = some (.seq .skip R))
    (first : (∀ a w, J a w → R.wp P (Exit.jump l J Q) a w) → c.wp P (Exit.jump l J Q) a w)
    (pass : ∀ a w, J a w → R.wp P (Exit.jump l (fun a' w' => J a' w' ∧ μ a' w' < μ a w) Q) a w) : (Code.scope c).wp P Q a w := by
  refine wp_scope_jumps l J μ hf (first fun a w hJ => wp_mono (pass a w hJ) fun e a' w' h => ?_) (fun a w hJ => wp_seq (wp_skip (pass a w hJ)))
  cases e <;> first | exact ⟨h.1, h.2.1⟩ | exact h
theorem ri_out {a b c r1 r2 r3 : Int} (h : some (a, b, c) = some (r1, r2, r3)) : a = r1 ∧ b = r2 ∧ c = r3 := by
  simp only [Option.some.injEq, Prod.mk.injEq] at h
  exact h
theorem ri_start {k : Nat} {l0 : List Int} {a1 : Int} {r : Int × Int × Int} (h : codec_ReadInt.f k l0 a1 = some r) :
    (decide (a1 < 0) = true ∧ r = (0, 0, 2)) ∨ (decide (a1 < 0) = false ∧ decide ((l0.length : Int) < a1) = true ∧ r = (0, 0, 2)) ∨ (decide (a1 < 0) = false ∧ decide ((l0.length : Int) < a1) = false ∧ ri_from l0 a1 10 0 0 = some r) := by
  unfold codec_ReadInt.f at h
  by_cases c1 : a1 < 0
  · rw [if_pos (.inl c1)] at h
    exact .inl ⟨decide_eq_true c1, (Option.some.inj h).symm⟩
  · by_cases c2 : (l0.length : Int) < a1
    · rw [if_pos (.inr c2)] at h
      exact .inr (.inl ⟨decide_eq_false c1, decide_eq_true c2, (Option.some.inj h).symm⟩)
    · rw [if_neg (fun hh => hh.elim c1 c2)] at h
      exact .inr (.inr ⟨decide_eq_false c1, decide_eq_false c2, h⟩)
set_option maxHeartbeats 8000000 in
set_option maxRecDepth 100000 in
theorem codec_ReadInt.calls (k : Nat) (A0 : Option Addr) (c0 : Nat) (l0 : List Int) (a1 : Int) (r1 : Int) (r2 : Int) (r3 : Int) (w : World) (hr0 : Kd.C (Kd.int .u8) w A0 l0.length l0) (hc0 : l0.length ≤ c0) (h : codec_ReadInt.f k l0 a1 = some (r1, r2, r3)) :
    Calls Try.prog 27 #[.slice A0 l0.length c0, .int .i64 a1] w fun e w' => e = .returned (.tuple #[.int .i64 r1, .int .i64 r2, .int .i64 r3]) ∧ Drawn0 w w' := by
  have HR0 := Aside0.mk hr0
  have HC0 := Aside0.mk hc0
  clear hr0 hc0
  go_enter Try.func27, Try.ntmps27
  rcases ri_start h with ⟨b1, e1⟩ | ⟨b1, b2, e1⟩ | ⟨b1, b2, e1⟩
  · obtain ⟨rfl, rfl, rfl⟩ := e1
    go_wp2
    go_step3
    go_wp2
    rw [Exit.noGoto_ret]
    go_ret3
    exact ⟨rfl, Drawn0.refl _⟩
  · obtain ⟨rfl, rfl, rfl⟩ := e1
    go_wp2
    go_step3
    go_wp2
    rw [Exit.noGoto_ret]
    go_ret3
    exact ⟨rfl, Drawn0.refl _⟩
  · have HL0 := Aside0.mk e1
    clear e1 h
    go_wp2
    refine ri_scope 0 (fun a' w' => w' = w ∧ ∃ (m : Nat) (u : Int) (t9 t10 t11 t12 t13 t14 t15 t16 t17 t18 t19 t20 t21 t22 t23 t24 t25 t26 t27 t28 t29 t30 t31 t32 t33 t34 t35 t36 t37 t38 t39 t40 t41 t42 t43 t44 t45 t46 t47 t48 t49 t50 t51 t52 t53 t54 t55 t56 t57 t58 t59 t60 t61 t62 t63 t64 t65 t66 t67 t68 t69 : Value), a' = { tmps := #[.slice A0 l0.length c0, .int .i64 a1, undef, undef, .int .i64 0, .int .i64 0, .int .i64 0, .int .u64 u, .int .i64 (m : Int), t9, t10, t11, t12, t13, t14, t15, t16, t17, t18, t19, t20, t21, t22, t23, t24, t25, t26, t27, t28, t29, t30, t31, t32, t33, t34, t35, t36, t37, t38, t39, t40, t41, t42, t43, t44, t45, t46, t47, t48, t49, t50, t51, t52, t53, t54, t55, t56, t57, t58, t59, t60, t61, t62, t63, t64, t65, t66, t67, t68, t69], defers := [] } ∧ Aside0 (ri_from l0 a1 (10 - m) m u = some (r1, r2, r3)) ∧ Aside0 (m ≤ 9)) (fun a' _ => match a'.tmps.getD 8 undef with | .int _ q => (9 - q).toNat | _ => 0) rfl ?_ ?_
    · intro hpass
      go_wp2
      go_step3
      rename_i K hK
      exact hK _ _ (hpass _ _ ⟨rfl, 0, 0, _, _, _, _, _, _, _, _, _, _, _, _, _, _, _, _, _, _, _, _, _, _, _, _, _, _, _, _, _, _, _, _, _, _, _, _, _, _, _, _, _, _, _, _, _, _, _, _, _, _, _, _, _, _, _, _, _, _, _, _, _, rfl, HL0, ⟨by omega⟩⟩)
    · rintro a' w' ⟨rfl, m, u, t9, t10, t11, t12, t13, t14, t15, t16, t17, t18, t19, t20, t21, t22, t23, t24, t25, t26, t27, t28, t29, t30, t31, t32, t33, t34, t35, t36, t37, t38, t39, t40, t41, t42, t43, t44, t45, t46, t47, t48, t49, t50, t51, t52, t53, t54, t55, t56, t57, t58, t59, t60, t61, t62, t63, t64, t65, t66, t67, t68, t69, rfl, HL, HM9⟩
      clear HL0
      have HM := HL.out
      clear HL
      obtain ⟨j, hj⟩ : ∃ j, 10 - m = j + 1 := ⟨9 - m, by have := HM9.out; omega⟩
      rw [hj, ri_from] at HM
      have HN : 10 - m = j + 1 := hj
      clear hj
      have psi0 : 0 ≤ wrap64 (7 * (m : Int)) := by have := HM9.out; rw [wrap64, Int.emod_eq_of_lt (by omega) (by omega)]; omega
      have hmn : IntKind.i64.wrap ((m : Int) + 1) = (m : Int) + 1 := by have := HM9.out; rw [i64_w]; simp only [wrap64]; omega
      obtain ⟨ji, hji⟩ : ∃ j_ : Int, wrap64 (a1 + (m : Int)) = j_ := ⟨_, rfl⟩
      obtain ⟨si, hsi⟩ : ∃ j_ : Int, wrap64 (7 * (m : Int)) = j_ := ⟨_, rfl⟩
      obtain ⟨sh, hsh0⟩ : ∃ s_ : Int, shl .u64 (IntKind.u64.wrap (Go.bits .and .u8 (rd l0 ji) 127)) si = s_ := ⟨_, rfl⟩
      rw [hji, hsi, hsh0] at HM
      rw [hsi] at psi0
      have hji' : IntKind.i64.wrap (a1 + (m : Int)) = ji := (i64_w _).trans hji
      have hsi' : IntKind.i64.wrap (7 * (m : Int)) = si := (i64_w _).trans hsi
      have hsh : IntKind.u64.wrap (IntKind.u64.wrap (bits BinOp.and IntKind.u8 (rd l0 ji) 127) * 2 ^ min si.toNat 64) = sh := hsh0
      clear hsh0
      have psi : (0 ≤ si) = True := eq_true psi0
      clear psi0
      by_cases c7 : (l0.length : Int) ≤ ji
      · have c7b := decide_eq_true c7
        rw [if_pos c7] at HM
        obtain ⟨rfl, rfl, rfl⟩ := ri_out HM
        clear c7 HM HN
        go_wp2
        simp only [Exit.jump]
        go_ret3
        exact ⟨rfl, Drawn0.refl _⟩
      · have c7b := decide_eq_false c7
        rw [if_neg c7] at HM
        by_cases p1 : 0 ≤ ji
        · rw [if_neg (not_not_intro p1)] at HM
          have q1 : ji < l0.length := by omega
          obtain ⟨ad, ea, hx⟩ := Kd.at_int HR0.out ji p1 q1
          cases ea
          clear c7
          replace p1 := eq_true p1
          replace q1 := eq_true q1
          by_cases c3 : m = 9
          · have b3 : ((m : Int) == 9) = true := by simp [c3]
            have C3' := Aside0.mk c3
            by_cases c4 : 1 < rd l0 ji
            · have b4 := decide_eq_true c4
              rw [if_pos ⟨c3, c4⟩] at HM
              obtain ⟨rfl, rfl, rfl⟩ := ri_out HM
              clear HM c3 c4 HN
              go_wp2
              simp only [Exit.jump]
              go_ret3
              exact ⟨rfl, Drawn0.refl _⟩
            · have b4 := decide_eq_false c4
              clear c3
              rw [if_neg (fun hh => c4 hh.2)] at HM
              by_cases c8 : 128 ≤ rd l0 ji
              · have b5 := decide_eq_true c8
                rw [if_pos c8] at HM
                have HM' := Aside0.mk HM
                have HN' := Aside0.mk HN
                have C3 := Aside0.mk (show m < 9 by omega)
                clear HM c8 HN
                clear c4
                go_wp2
                go_step3
                have e1 : ((m : Int) + 1) = ((m + 1 : Nat) : Int) := by omega
                rw [e1]
                refine ⟨rfl, ⟨rfl, m + 1, _, _, _, _, _, _, _, _, _, _, _, _, _, _, _, _, _, _, _, _, _, _, _, _, _, _, _, _, _, _, _, _, _, _, _, _, _, _, _, _, _, _, _, _, _, _, _, _, _, _, _, _, _, _, _, _, _, _, _, _, _, _, rfl, ⟨?_⟩, ⟨C3.out⟩⟩, ?_⟩
                · have e2 : 10 - (m + 1) = j := by have := HN'.out; omega
                  rw [e2]
                  exact HM'.out
                · have := C3.out
                  simp
                  omega
              · have b5 := decide_eq_false c8
                rw [if_neg c8] at HM
                clear c8
                clear c4
                by_cases c9 : rd l0 ji = 0
                · have b6 : (rd l0 ji == 0) = true := beq_iff_eq.mpr c9
                  by_cases c10 : 1 < (m : Int) + 1
                  · have b7 := decide_eq_true c10
                    rw [if_pos ⟨c9, c10⟩] at HM
                    obtain ⟨rfl, rfl, rfl⟩ := ri_out HM
                    clear HM c9 c10 HN
                    go_wp2
                    simp only [Exit.jump]
                    go_ret3
                    exact ⟨rfl, Drawn0.refl _⟩
                  · have b7 := decide_eq_false c10
                    by_cases c11 : (Go.bits .and .u64 (Go.bits .or .u64 u sh) 1) = 1
                    · have b8 : ((Go.bits .and .u64 (Go.bits .or .u64 u sh) 1) == 1) = true := beq_iff_eq.mpr c11
                      rw [if_neg (fun hh => c10 hh.2), if_pos c11] at HM
                      obtain ⟨rfl, rfl, rfl⟩ := ri_out HM
                      clear HM c11 c10 c9 HN
                      go_wp2
                      simp only [Exit.jump]
                      go_ret3
                      exact ⟨rfl, Drawn0.refl _⟩
                    · have b8 : ((Go.bits .and .u64 (Go.bits .or .u64 u sh) 1) == 1) = false := beq_eq_false_iff_ne.mpr c11
                      rw [if_neg (fun hh => c10 hh.2), if_neg c11] at HM
                      obtain ⟨rfl, rfl, rfl⟩ := ri_out HM
                      clear HM c11 c10 c9 HN
                      go_wp2
                      simp only [Exit.jump]
                      go_ret3
                      exact ⟨rfl, Drawn0.refl _⟩
                · have b6 : (rd l0 ji == 0) = false := beq_eq_false_iff_ne.mpr c9
                  by_cases c11 : (Go.bits .and .u64 (Go.bits .or .u64 u sh) 1) = 1
                  · have b8 : ((Go.bits .and .u64 (Go.bits .or .u64 u sh) 1) == 1) = true := beq_iff_eq.mpr c11
                    rw [if_neg (fun hh => c9 hh.1), if_pos c11] at HM
                    obtain ⟨rfl, rfl, rfl⟩ := ri_out HM
                    clear HM c11 c9 HN
                    go_wp2
                    simp only [Exit.jump]
                    go_ret3
                    exact ⟨rfl, Drawn0.refl _⟩
                  · have b8 : ((Go.bits .and .u64 (Go.bits .or .u64 u sh) 1) == 1) = false := beq_eq_false_iff_ne.mpr c11
                    rw [if_neg (fun hh => c9 hh.1), if_neg c11] at HM
                    obtain ⟨rfl, rfl, rfl⟩ := ri_out HM
                    clear HM c11 c9 HN
                    go_wp2
                    simp only [Exit.jump]
                    go_ret3
                    exact ⟨rfl, Drawn0.refl _⟩
          · have b3 : ((m : Int) == 9) = false := by simp; omega
            rw [if_neg (fun hh => c3 hh.1)] at HM
            by_cases c8 : 128 ≤ rd l0 ji
            · have b5 := decide_eq_true c8
              rw [if_pos c8] at HM
              have HM' := Aside0.mk HM
              have HN' := Aside0.mk HN
              have C3 := Aside0.mk (show m < 9 by have := HM9.out; omega)
              clear HM c8 HN
              clear c3
              go_wp2
              go_step3
              have e1 : ((m : Int) + 1) = ((m + 1 : Nat) : Int) := by omega
              rw [e1]
              refine ⟨rfl, ⟨rfl, m + 1, _, _, _, _, _, _, _, _, _, _, _, _, _, _, _, _, _, _, _, _, _, _, _, _, _, _, _, _, _, _, _, _, _, _, _, _, _, _, _, _, _, _, _, _, _, _, _, _, _, _, _, _, _, _, _, _, _, _, _, _, _, _, rfl, ⟨?_⟩, ⟨C3.out⟩⟩, ?_⟩
              · have e2 : 10 - (m + 1) = j := by have := HN'.out; omega
                rw [e2]
                exact HM'.out
              · have := C3.out
                simp
                omega
            · have b5 := decide_eq_false c8
              rw [if_neg c8] at HM
              clear c8
              clear c3
              by_cases c9 : rd l0 ji = 0
              · have b6 : (rd l0 ji == 0) = true := beq_iff_eq.mpr c9
                by_cases c10 : 1 < (m : Int) + 1
                · have b7 := decide_eq_true c10
                  rw [if_pos ⟨c9, c10⟩] at HM
                  obtain ⟨rfl, rfl, rfl⟩ := ri_out HM
                  clear HM c9 c10 HN
                  go_wp2
                  simp only [Exit.jump]
                  go_ret3
                  exact ⟨rfl, Drawn0.refl _⟩
                · have b7 := decide_eq_false c10
                  by_cases c11 : (Go.bits .and .u64 (Go.bits .or .u64 u sh) 1) = 1
                  · have b8 : ((Go.bits .and .u64 (Go.bits .or .u64 u sh) 1) == 1) = true := beq_iff_eq.mpr c11
                    rw [if_neg (fun hh => c10 hh.2), if_pos c11] at HM
                    obtain ⟨rfl, rfl, rfl⟩ := ri_out HM
                    clear HM c11 c10 c9 HN
                    go_wp2
                    simp only [Exit.jump]
                    go_ret3
                    exact ⟨rfl, Drawn0.refl _⟩
                  · have b8 : ((Go.bits .and .u64 (Go.bits .or .u64 u sh) 1) == 1) = false := beq_eq_false_iff_ne.mpr c11
                    rw [if_neg (fun hh => c10 hh.2), if_neg c11] at HM
                    obtain ⟨rfl, rfl, rfl⟩ := ri_out HM
                    clear HM c11 c10 c9 HN
                    go_wp2
                    simp only [Exit.jump]
                    go_ret3
                    exact ⟨rfl, Drawn0.refl _⟩
              · have b6 : (rd l0 ji == 0) = false := beq_eq_false_iff_ne.mpr c9
                by_cases c11 : (Go.bits .and .u64 (Go.bits .or .u64 u sh) 1) = 1
                · have b8 : ((Go.bits .and .u64 (Go.bits .or .u64 u sh) 1) == 1) = true := beq_iff_eq.mpr c11
                  rw [if_neg (fun hh => c9 hh.1), if_pos c11] at HM
                  obtain ⟨rfl, rfl, rfl⟩ := ri_out HM
                  clear HM c11 c9 HN
                  go_wp2
                  simp only [Exit.jump]
                  go_ret3
                  exact ⟨rfl, Drawn0.refl _⟩
                · have b8 : ((Go.bits .and .u64 (Go.bits .or .u64 u sh) 1) == 1) = false := beq_eq_false_iff_ne.mpr c11
                  rw [if_neg (fun hh => c9 hh.1), if_neg c11] at HM
                  obtain ⟨rfl, rfl, rfl⟩ := ri_out HM
                  clear HM c11 c9 HN
                  go_wp2
                  simp only [Exit.jump]
                  go_ret3
                  exact ⟨rfl, Drawn0.refl _⟩
        · rw [if_pos p1] at HM
          cases HM

/-! ### codec_length: function 39 -/
def codec_length.f (k : Nat) (l0 : List Int) (a1 : Int) (a2 : Int) : Option (Int × Int × Int) := if a2 < 0 then (some (0, 0, 2)) else ((codec_ReadInt.f k l0 a1).bind fun bt152 => (if bt152.2.2 = 0 then (if bt152.1 < 0 then (some (0, 0, 3)) else (if bt152.1 > a2 then (some (0, 0, 5)) else (some (bt152.1, bt152.2.1, 0)))) else (some (0, 0, bt152.2.2))))
theorem codec_length.mono : ∀ a0 a1 a2 k, LeO (codec_length.f k a0 a1 a2) (codec_length.f (k + 1) a0 a1 a2) := by
  intro a0 a1 a2 k
  unfold codec_length.f
  repeat' first
      | (with_reducible exact codec_ReadInt.mono _ _ _)
      | (with_reducible exact LeO.refl _)
      | (with_reducible exact LeO.none _)
      | (with_reducible refine LeO.ite ?_ ?_)
      | (with_reducible refine LeO.bind ?_ (fun _ => ?_))
      | exact codec_ReadInt.mono _ _ _
      | exact LeO.none _
      | refine LeO.ite ?_ ?_
      | refine LeO.bind ?_ (fun _ => ?_)
set_option maxHeartbeats 8000000 in
set_option maxRecDepth 100000 in
theorem codec_length.calls (k : Nat) (A0 : Option Addr) (c0 : Nat) (l0 : List Int) (a1 : Int) (a2 : Int) (r1 : Int) (r2 : Int) (r3 : Int) (w : World) (hr0 : Kd.C (Kd.int .u8) w A0 l0.length l0) (hc0 : l0.length ≤ c0) (h : codec_length.f k l0 a1 a2 = some (r1, r2, r3)) :
    Calls Try.prog 39 #[.slice A0 l0.length c0, .int .i64 a1, .int .i64 a2] w fun e w' => e = .returned (.tuple #[.int .i64 r1, .int .i64 r2, .int .i64 r3]) ∧ Drawn0 w w' := by
  have HR0 := Aside0.mk hr0
  have HC0 := Aside0.mk hc0
  clear hr0 hc0
  have H : (if a2 < 0 then (some (0, 0, 2)) else ((codec_ReadInt.f k l0 a1).bind fun bt152 => (if bt152.2.2 = 0 then (if bt152.1 < 0 then (some (0, 0, 3)) else (if bt152.1 > a2 then (some (0, 0, 5)) else (some (bt152.1, bt152.2.1, 0)))) else (some (0, 0, bt152.2.2))))) = some (r1, r2, r3) := h
  clear h
  by_cases c4 : a2 < 0
  · rw [if_pos c4] at H
    have c4b0 : decide (a2 < 0) = true := decide_eq_true c4
    clear c4
    simp only [Option.some.injEq, Prod.mk.injEq] at H
    obtain ⟨rfl, rfl, rfl⟩ := H
    go_enter Try.func39, Try.ntmps39
    go_wp2
    go_ret3
    exact ⟨by first | rfl | (simp; done) | (simp [*]; done), by repeat (first | exact Drawn0.refl _ | apply Drawn0.step)⟩
  · rw [if_neg c4] at H
    have c4b0 : decide (a2 < 0) = false := decide_eq_false c4
    clear c4
    replace H := Option.bind_eq_some_iff.mp H
    obtain ⟨⟨t152, t153, t154⟩, A50, H⟩ := H
    replace H : (if t154 = 0 then (if t152 < 0 then (some (0, 0, 3)) else (if t152 > a2 then (some (0, 0, 5)) else (some (t152, t153, 0)))) else (some (0, 0, t154))) = some (r1, r2, r3) := H
    have A5 := Aside0.mk A50
    clear A50
    by_cases c6 : t154 = 0
    · rw [if_pos c6] at H
      have c6b0 : (t154 == 0) = true := beq_iff_eq.mpr c6
      have c6b1 : (t154 != 0) = false := bne_eq_false_iff_eq.mpr c6
      clear c6
      by_cases c7 : t152 < 0
      · rw [if_pos c7] at H
        have c7b0 : decide (t152 < 0) = true := decide_eq_true c7
        clear c7
        simp only [Option.some.injEq, Prod.mk.injEq] at H
        obtain ⟨rfl, rfl, rfl⟩ := H
        go_enter Try.func39, Try.ntmps39
        go_wp2_with (first | ((with_reducible refine gate_callee (f := 27) rfl ?_); refine goesL_ (some 17) rfl rfl Try.func27 (by kernel_rfl) rfl #[.slice A0 l0.length c0, .int .i64 a1] rfl (by (try simp only [List.map_toArray, List.map_cons, List.map_nil]); first | done | rfl | (simp only [List.length_drop, List.length_take]; rfl)) ?_; (with_reducible refine (codec_ReadInt.calls k _ _ l0 a1 t152 t153 t154 _ ?side1 ?side2 A5.out).mono ?_); (case side1 => repeat (first | exact HR0.out | (with_reducible refine Kd.C_alloc ?_ _) | (with_reducible refine Kd.C_drewN ?_ _) | (with_reducible refine Kd.C_drew ?_))); (case side2 => exact HC0.out); rintro e w' ⟨rfl, ⟨nd, rfl⟩⟩; refine ⟨_, rfl, ?_⟩))
        go_ret3
        exact ⟨by first | rfl | (simp; done) | (simp [*]; done), by repeat (first | exact Drawn0.refl _ | apply Drawn0.step)⟩
      · rw [if_neg c7] at H
        have c7b0 : decide (t152 < 0) = false := decide_eq_false c7
        clear c7
        by_cases c8 : t152 > a2
        · rw [if_pos c8] at H
          have c8b0 : decide (a2 < t152) = true := decide_eq_true c8
          clear c8
          simp only [Option.some.injEq, Prod.mk.injEq] at H
          obtain ⟨rfl, rfl, rfl⟩ := H
          go_enter Try.func39, Try.ntmps39
          go_wp2_with (first | ((with_reducible refine gate_callee (f := 27) rfl ?_); refine goesL_ (some 17) rfl rfl Try.func27 (by kernel_rfl) rfl #[.slice A0 l0.length c0, .int .i64 a1] rfl (by (try simp only [List.map_toArray, List.map_cons, List.map_nil]); first | done | rfl | (simp only [List.length_drop, List.length_take]; rfl)) ?_; (with_reducible refine (codec_ReadInt.calls k _ _ l0 a1 t152 t153 t154 _ ?side1 ?side2 A5.out).mono ?_); (case side1 => repeat (first | exact HR0.out | (with_reducible refine Kd.C_alloc ?_ _) | (with_reducible refine Kd.C_drewN ?_ _) | (with_reducible refine Kd.C_drew ?_))); (case side2 => exact HC0.out); rintro e w' ⟨rfl, ⟨nd, rfl⟩⟩; refine ⟨_, rfl, ?_⟩))
          go_ret3
          exact ⟨by first | rfl | (simp; done) | (simp [*]; done), by repeat (first | exact Drawn0.refl _ | apply Drawn0.step)⟩
        · rw [if_neg c8] at H
          have c8b0 : decide (a2 < t152) = false := decide_eq_false c8
          clear c8
          simp only [Option.some.injEq, Prod.mk.injEq] at H
          obtain ⟨rfl, rfl, rfl⟩ := H
          go_enter Try.func39, Try.ntmps39
          go_wp2_with (first | ((with_reducible refine gate_callee (f := 27) rfl ?_); refine goesL_ (some 17) rfl rfl Try.func27 (by kernel_rfl) rfl #[.slice A0 l0.length c0, .int .i64 a1] rfl (by (try simp only [List.map_toArray, List.map_cons, List.map_nil]); first | done | rfl | (simp only [List.length_drop, List.length_take]; rfl)) ?_; (with_reducible refine (codec_ReadInt.calls k _ _ l0 a1 t152 t153 t154 _ ?side1 ?side2 A5.out).mono ?_); (case side1 => repeat (first | exact HR0.out | (with_reducible refine Kd.C_alloc ?_ _) | (with_reducible refine Kd.C_drewN ?_ _) | (with_reducible refine Kd.C_drew ?_))); (case side2 => exact HC0.out); rintro e w' ⟨rfl, ⟨nd, rfl⟩⟩; refine ⟨_, rfl, ?_⟩))
          go_ret3
          exact ⟨by first | rfl | (simp; done) | (simp [*]; done), by repeat (first | exact Drawn0.refl _ | apply Drawn0.step)⟩
    · rw [if_neg c6] at H
      have c6b0 : (t154 == 0) = false := beq_eq_false_iff_ne.mpr c6
      have c6b1 : (t154 != 0) = true := bne_iff_ne.mpr c6
      simp only [Option.some.injEq, Prod.mk.injEq] at H
      obtain ⟨rfl, rfl, rfl⟩ := H
      go_enter Try.func39, Try.ntmps39
      go_wp2_with (first | ((with_reducible refine gate_callee (f := 27) rfl ?_); refine goesL_ (some 17) rfl rfl Try.func27 (by kernel_rfl) rfl #[.slice A0 l0.length c0, .int .i64 a1] rfl (by (try simp only [List.map_toArray, List.map_cons, List.map_nil]); first | done | rfl | (simp only [List.length_drop, List.length_take]; rfl)) ?_; (with_reducible refine (codec_ReadInt.calls k _ _ l0 a1 t152 t153 t154 _ ?side1 ?side2 A5.out).mono ?_); (case side1 => repeat (first | exact HR0.out | (with_reducible refine Kd.C_alloc ?_ _) | (with_reducible refine Kd.C_drewN ?_ _) | (with_reducible refine Kd.C_drew ?_))); (case side2 => exact HC0.out); rintro e w' ⟨rfl, ⟨nd, rfl⟩⟩; refine ⟨_, rfl, ?_⟩))
      go_ret3
      exact ⟨by first | rfl | (simp; done) | (simp [*]; done), by repeat (first | exact Drawn0.refl _ | apply Drawn0.step)⟩

/-! ### codec_ReadInts: function 31 -/
def codec_ReadInts.l0 : Nat → List Int → Int → List Int → Int → Int → Option (List Int × Int × Int)
  | 0, _, _, _, _, _ => none
  | k + 1, x0, x1, x11, x26, x27 => if x27 < x26 then ((codec_ReadInt.f k x0 x1).bind fun bt158 => (if bt158.2.2 = 0 then (if x11.length < 17592186044416 then (codec_ReadInts.l0 k x0 bt158.2.1 (x11 ++ [bt158.1]) x26 (wrap64 (x27 + 1))) else (none)) else (some (([] : List Int), 0, bt158.2.2)))) else (some (x11, x1, 0))
def codec_ReadInts.f (k : Nat) (l0 : List Int) (a1 : Int) (a2 : Int) : Option (List Int × Int × Int) := (codec_length.f k l0 a1 a2).bind fun bt155 => (if bt155.2.2 = 0 then (codec_ReadInts.l0 k l0 bt155.2.1 ([] : List Int) bt155.1 0) else (some (([] : List Int), 0, bt155.2.2)))
theorem codec_ReadInts.mono_l : ∀ k, (∀ y0 y1 y2 y3 y4, LeO (codec_ReadInts.l0 k y0 y1 y2 y3 y4) (codec_ReadInts.l0 (k + 1) y0 y1 y2 y3 y4))
  | 0 => fun _ _ _ _ _ r h => by simp [codec_ReadInts.l0] at h
  | k + 1 => by
    have ih0 := codec_ReadInts.mono_l k
    · intro y0 y1 y2 y3 y4
      unfold codec_ReadInts.l0
      repeat' first
      | (with_reducible exact ih0 _ _ _ _ _)
      | (with_reducible exact codec_ReadInt.mono _ _ _)
      | (with_reducible exact codec_length.mono _ _ _ _)
      | (with_reducible exact LeO.refl _)
      | (with_reducible exact LeO.none _)
      | (with_reducible refine LeO.ite ?_ ?_)
      | (with_reducible refine LeO.bind ?_ (fun _ => ?_))
      | exact ih0 _ _ _ _ _
      | exact codec_ReadInt.mono _ _ _
      | exact codec_length.mono _ _ _ _
      | exact LeO.none _
      | refine LeO.ite ?_ ?_
      | refine LeO.bind ?_ (fun _ => ?_)
theorem codec_ReadInts.mono : ∀ a0 a1 a2 k, LeO (codec_ReadInts.f k a0 a1 a2) (codec_ReadInts.f (k + 1) a0 a1 a2) := by
  intro a0 a1 a2 k
  have ih0 := codec_ReadInts.mono_l k
  unfold codec_ReadInts.f
  repeat' first
      | (with_reducible exact ih0 _ _ _ _ _)
      | (with_reducible exact codec_ReadInt.mono _ _ _)
      | (with_reducible exact codec_length.mono _ _ _ _)
      | (with_reducible exact LeO.refl _)
      | (with_reducible exact LeO.none _)
      | (with_reducible refine LeO.ite ?_ ?_)
      | (with_reducible refine LeO.bind ?_ (fun _ => ?_))
      | exact ih0 _ _ _ _ _
      | exact codec_ReadInt.mono _ _ _
      | exact codec_length.mono _ _ _ _
      | exact LeO.none _
      | refine LeO.ite ?_ ?_
      | refine LeO.bind ?_ (fun _ => ?_)
set_option maxHeartbeats 8000000 in
set_option maxRecDepth 100000 in
theorem codec_ReadInts.calls (k : Nat) (A0 : Option Addr) (c0 : Nat) (l0 : List Int) (a1 : Int) (a2 : Int) (r1 : List Int) (r2 : Int) (r3 : Int) (w : World) (hr0 : Kd.C (Kd.int .u8) w A0 l0.length l0) (hc0 : l0.length ≤ c0) (h : codec_ReadInts.f k l0 a1 a2 = some (r1, r2, r3)) :
    Calls Try.prog 31 #[.slice A0 l0.length c0, .int .i64 a1, .int .i64 a2] w fun e w' => ∃ v0_ : Value, e = .returned (.tuple #[v0_, .int .i64 r2, .int .i64 r3]) ∧ Kd.R (Kd.int .i64) 3 w' w.heap.size (fun _ => True) v0_ r1 ∧ Below w.heap.size w w' := by
  have HR0 := Aside0.mk hr0
  have HC0 := Aside0.mk hc0
  clear hr0 hc0
  have HB := Aside0.mk (Below.refl w.heap.size w)
  have H : ((codec_length.f k l0 a1 a2).bind fun bt155 => (if bt155.2.2 = 0 then (codec_ReadInts.l0 k l0 bt155.2.1 ([] : List Int) bt155.1 0) else (some (([] : List Int), 0, bt155.2.2)))) = some (r1, r2, r3) := h
  clear h
  replace H := Option.bind_eq_some_iff.mp H
  obtain ⟨⟨t155, t156, t157⟩, A40, H⟩ := H
  replace H : (if t157 = 0 then (codec_ReadInts.l0 k l0 t156 ([] : List Int) t155 0) else (some (([] : List Int), 0, t157))) = some (r1, r2, r3) := H
  have A4 := Aside0.mk A40
  clear A40
  by_cases c5 : t157 = 0
  · rw [if_pos c5] at H
    have c5b0 : (t157 == 0) = true := beq_iff_eq.mpr c5
    have c5b1 : (t157 != 0) = false := bne_eq_false_iff_eq.mpr c5
    clear c5
    have H' := Aside0.mk H
    clear H
    go_enter Try.func31, Try.ntmps31
    go_wp2_with (first | ((with_reducible refine gate_callee (f := 39) rfl ?_); refine goesL_ (some 19) rfl rfl Try.func39 (by kernel_rfl) rfl #[.slice A0 l0.length c0, .int .i64 a1, .int .i64 a2] rfl (by (try simp only [List.map_toArray, List.map_cons, List.map_nil]); first | done | rfl | (simp only [List.length_drop, List.length_take]; rfl)) ?_; (with_reducible refine (codec_length.calls k _ _ l0 a1 a2 t155 t156 t157 _ ?side1 ?side2 A4.out).mono ?_); (case side1 => repeat (first | exact HR0.out | (with_reducible refine Kd.C_alloc ?_ _) | (with_reducible refine Kd.C_drewN ?_ _) | (with_reducible refine Kd.C_drew ?_))); (case side2 => exact HC0.out); rintro e w' ⟨rfl, ⟨nd, rfl⟩⟩; refine ⟨_, rfl, ?_⟩))
    go_loopg [1, 11, 27] k (fun kq v1 v11 v27 w' => ∃ (x1_1 : Int) (x11_1 : List Int) (x27_1 : Int), v1 = .int .i64 x1_1 ∧ v27 = .int .i64 x27_1 ∧ Aside0 (codec_ReadInts.l0 kq l0 x1_1 x11_1 t155 x27_1 = some (r1, r2, r3)) ∧ Aside0 (kq ≤ k) ∧ Aside0 (Kd.R (Kd.int .i64) 3 w' w.heap.size (fun _ => True) v11 x11_1) ∧ Aside0 (Below w.heap.size w w'))
    case atStart => exact ⟨(t156), (([] : List Int)), (0), (by first | rfl | (simp; done) | (simp [*]; done)), (by first | rfl | (simp; done) | (simp [*]; done)), H', ⟨Nat.le_refl _⟩, ⟨by first | exact Kd.R_nil _ _ _ _ _ | exact Kd.N_nil _ _ _ _ _ | exact Kd.V_nil _ _ _ _ _ | exact Kd.Q_nil _ _ _ _ _ | exact Kd.S_nil _ _ _ _ _⟩, ⟨by repeat (first | (with_reducible first | exact HB.out | apply below_alloc | apply pw_below_drewN | apply below_drew1) | exact HB.out)⟩⟩
    case round =>
      clear H'
      try clear p2
      try clear c3
      try clear c5
      try clear c5b0
      try clear c5b1
      obtain ⟨x1_1, x11_1, x27_1, rfl, rfl, HA, HK1, HO_11, HB⟩ := hrel
      cases gk with
      | zero => exact absurd HA.out (by simp [codec_ReadInts.l0])
      | succ k1 =>
        have H := HA.out
        clear HA
        simp only [codec_ReadInts.l0] at H
        by_cases c6 : x27_1 < t155
        · rw [if_pos c6] at H
          have c6b0 : decide (x27_1 < t155) = true := decide_eq_true c6
          clear c6
          replace H := Option.bind_eq_some_iff.mp H
          obtain ⟨⟨t158, t159, t160⟩, A70, H⟩ := H
          replace H : (if t160 = 0 then (if x11_1.length < 17592186044416 then (codec_ReadInts.l0 k1 l0 t159 (x11_1 ++ [t158]) t155 (wrap64 (x27_1 + 1))) else (none)) else (some (([] : List Int), 0, t160))) = some (r1, r2, r3) := H
          have A7 := Aside0.mk A70
          clear A70
          by_cases c8 : t160 = 0
          · rw [if_pos c8] at H
            have c8b0 : (t160 == 0) = true := beq_iff_eq.mpr c8
            have c8b1 : (t160 != 0) = false := bne_eq_false_iff_eq.mpr c8
            clear c8
            by_cases c9 : x11_1.length < 17592186044416
            · rw [if_pos c9] at H
              have LMc9 := Aside0.mk c9
              clear c9
              obtain ⟨y161, hy161⟩ : ∃ y_ : List Int, y_ = (x11_1 ++ [t158]) := ⟨_, rfl⟩
              replace H : (codec_ReadInts.l0 k1 l0 t159 y161 t155 (wrap64 (x27_1 + 1))) = some (r1, r2, r3) := by first | (rw [hy161]; with_reducible exact H) | (have H2_ := (Option.bind_some _ _).symm.trans H; rw [hy161]; with_reducible exact H2_) | (have H2_ := (Option.bind_some _ _).symm.trans H; with_reducible exact H2_) | with_reducible exact H | (rw [hy161]; exact H) | exact H
              have Ny161 := Aside0.mk hy161
              clear hy161
              have H' := Aside0.mk H
              clear H
              go_wp2_with (first | ((with_reducible refine gate_callee (f := 27) rfl ?_); refine goesL_ (some 32) rfl rfl Try.func27 (by kernel_rfl) rfl #[.slice A0 l0.length c0, .int .i64 x1_1] rfl (by (try simp only [List.map_toArray, List.map_cons, List.map_nil]); first | done | rfl | (simp only [List.length_drop, List.length_take]; rfl)) ?_; (with_reducible refine (codec_ReadInt.calls k1 _ _ l0 x1_1 t158 t159 t160 _ ?side1 ?side2 A7.out).mono ?_); (case side1 => repeat (first | exact (Kd.C_below HR0.out HB.out) | (with_reducible refine Kd.C_alloc ?_ _) | (with_reducible refine Kd.C_drewN ?_ _) | (with_reducible refine Kd.C_drew ?_))); (case side2 => exact HC0.out); rintro e w' ⟨rfl, ⟨nd, rfl⟩⟩; refine ⟨_, rfl, ?_⟩) | ((with_reducible refine gate_builtin (b := .append) (xs := #[.tmp 39, .tmp 41]) rfl ?_); at_builtin; refine Kd.R_append (Kd.int .i64) (w0 := w) w.heap.size rfl (.tmp 39) (.tmp 41) 32 3 (.int .i64 0) 8 rfl Try.underlying32 info3 rfl (by decide) (by omega) u11 x11_1 t158 [.int .i64 t158] (fun _ => True) (fun _ => False) rfl rfl ?aP (fun _ hk => hk.elim) ?aF ?aO ?aB ?aS ?aL ?_; (case aP => exact rfl); (case aB => exact (by repeat (first | (with_reducible first | exact HB.out | apply below_alloc | apply pw_below_drewN | apply below_drew1) | exact HB.out))); (case aF => exact (fun _ _ => trivial)); (case aO => exact (by (with_reducible repeat (first | apply Kd.R_alloc | apply Kd.R_drewN | apply Kd.R_drew)); exact HO_11.out)); (case aS => exact (below_size (by repeat (first | (with_reducible first | exact HB.out | apply below_alloc | apply pw_below_drewN | apply below_drew1) | exact HB.out)))); (case aL => have := LMc9.out; omega); intro v162 w10 ho hb hg hat; rw [← Ny161.out] at ho; have n0_ := Aside0.mk (hb); have n1_ := Aside0.mk (ho); clear HB; clear HO_11; have HB := n0_; have HO163 := n1_; clear n0_ n1_; clear ho hb hg hat))
              go_roundg k1
              case measure => have := HK1.out; omega
              case rel => exact ⟨(t159), (y161), (wrap64 (x27_1 + 1)), (by first | rfl | (simp; done) | (simp [*]; done)), (by first | rfl | (simp; done) | (simp [*]; done)), H', ⟨by have := HK1.out; omega⟩, ⟨by (with_reducible repeat (first | apply Kd.R_alloc | apply Kd.R_drewN | apply Kd.R_drew)); exact HO163.out⟩, ⟨by repeat (first | (with_reducible first | exact HB.out | apply below_alloc | apply pw_below_drewN | apply below_drew1) | exact HB.out)⟩⟩
            · rw [if_neg c9] at H
              exact absurd H (by simp)
          · rw [if_neg c8] at H
            have c8b0 : (t160 == 0) = false := beq_eq_false_iff_ne.mpr c8
            have c8b1 : (t160 != 0) = true := bne_iff_ne.mpr c8
            simp only [Option.some.injEq, Prod.mk.injEq] at H
            obtain ⟨rfl, rfl, rfl⟩ := H
            go_wp2_with (first | ((with_reducible refine gate_callee (f := 27) rfl ?_); refine goesL_ (some 32) rfl rfl Try.func27 (by kernel_rfl) rfl #[.slice A0 l0.length c0, .int .i64 x1_1] rfl (by (try simp only [List.map_toArray, List.map_cons, List.map_nil]); first | done | rfl | (simp only [List.length_drop, List.length_take]; rfl)) ?_; (with_reducible refine (codec_ReadInt.calls k1 _ _ l0 x1_1 t158 t159 t160 _ ?side1 ?side2 A7.out).mono ?_); (case side1 => repeat (first | exact (Kd.C_below HR0.out HB.out) | (with_reducible refine Kd.C_alloc ?_ _) | (with_reducible refine Kd.C_drewN ?_ _) | (with_reducible refine Kd.C_drew ?_))); (case side2 => exact HC0.out); rintro e w' ⟨rfl, ⟨nd, rfl⟩⟩; refine ⟨_, rfl, ?_⟩))
            go_ret3
            exact ⟨_, by first | rfl | (simp [errW_none, errW_some] <;> rfl) | (simp [*, errW_none, errW_some] <;> rfl), by first | exact Kd.R_nil _ _ _ _ _ | exact Kd.N_nil _ _ _ _ _ | exact Kd.V_nil _ _ _ _ _ | exact Kd.Q_nil _ _ _ _ _ | exact Kd.S_nil _ _ _ _ _, by repeat (first | (with_reducible first | exact HB.out | apply below_alloc | apply pw_below_drewN | apply below_drew1) | exact HB.out)⟩
        · rw [if_neg c6] at H
          have c6b0 : decide (x27_1 < t155) = false := decide_eq_false c6
          clear c6
          simp only [Option.some.injEq, Prod.mk.injEq] at H
          obtain ⟨rfl, rfl, rfl⟩ := H
          go_wp2
          go_ret3
          exact ⟨_, by first | rfl | (simp [errW_none, errW_some] <;> rfl) | (simp [*, errW_none, errW_some] <;> rfl), by (with_reducible repeat (first | apply Kd.R_alloc | apply Kd.R_drewN | apply Kd.R_drew)); exact HO_11.out, by repeat (first | (with_reducible first | exact HB.out | apply below_alloc | apply pw_below_drewN | apply below_drew1) | exact HB.out)⟩
  · rw [if_neg c5] at H
    have c5b0 : (t157 == 0) = false := beq_eq_false_iff_ne.mpr c5
    have c5b1 : (t157 != 0) = true := bne_iff_ne.mpr c5
    simp only [Option.some.injEq, Prod.mk.injEq] at H
    obtain ⟨rfl, rfl, rfl⟩ := H
    go_enter Try.func31, Try.ntmps31
    go_wp2_with (first | ((with_reducible refine gate_callee (f := 39) rfl ?_); refine goesL_ (some 19) rfl rfl Try.func39 (by kernel_rfl) rfl #[.slice A0 l0.length c0, .int .i64 a1, .int .i64 a2] rfl (by (try simp only [List.map_toArray, List.map_cons, List.map_nil]); first | done | rfl | (simp only [List.length_drop, List.length_take]; rfl)) ?_; (with_reducible refine (codec_length.calls k _ _ l0 a1 a2 t155 t156 t157 _ ?side1 ?side2 A4.out).mono ?_); (case side1 => repeat (first | exact HR0.out | (with_reducible refine Kd.C_alloc ?_ _) | (with_reducible refine Kd.C_drewN ?_ _) | (with_reducible refine Kd.C_drew ?_))); (case side2 => exact HC0.out); rintro e w' ⟨rfl, ⟨nd, rfl⟩⟩; refine ⟨_, rfl, ?_⟩))
    go_ret3
    exact ⟨_, by first | rfl | (simp [errW_none, errW_some] <;> rfl) | (simp [*, errW_none, errW_some] <;> rfl), by first | exact Kd.R_nil _ _ _ _ _ | exact Kd.N_nil _ _ _ _ _ | exact Kd.V_nil _ _ _ _ _ | exact Kd.Q_nil _ _ _ _ _ | exact Kd.S_nil _ _ _ _ _, by repeat (first | (with_reducible first | exact HB.out | apply below_alloc | apply pw_below_drewN | apply below_drew1) | exact HB.out)⟩

/-! ### codec_ReadString: function 34 -/
def codec_ReadString.f (k : Nat) (l0 : List Int) (a1 : Int) (a2 : Int) : Option (ByteArray × Int × Int) := (codec_length.f k l0 a1 a2).bind fun bt164 => (if bt164.2.2 = 0 then (if bt164.1 > (wrap64 ((l0.length : Int) - bt164.2.1)) then (some ((⟨#[]⟩ : ByteArray), 0, 4)) else (if 0 ≤ bt164.2.1 then (if bt164.2.1 ≤ (wrap64 (bt164.2.1 + bt164.1)) then (if (wrap64 (bt164.2.1 + bt164.1)) ≤ (l0.length : Int) then (some (strOfNums ((l0.take ((wrap64 (bt164.2.1 + bt164.1)) : Int).toNat).drop (bt164.2.1 : Int).toNat), wrap64 (bt164.2.1 + bt164.1), 0)) else (none)) else (none)) else (none))) else (some ((⟨#[]⟩ : ByteArray), 0, bt164.2.2)))
theorem codec_ReadString.mono : ∀ a0 a1 a2 k, LeO (codec_ReadString.f k a0 a1 a2) (codec_ReadString.f (k + 1) a0 a1 a2) := by
  intro a0 a1 a2 k
  unfold codec_ReadString.f
  repeat' first
      | (with_reducible exact codec_length.mono _ _ _ _)
      | (with_reducible exact LeO.refl _)
      | (with_reducible exact LeO.none _)
      | (with_reducible refine LeO.ite ?_ ?_)
      | (with_reducible refine LeO.bind ?_ (fun _ => ?_))
      | exact codec_length.mono _ _ _ _
      | exact LeO.none _
      | refine LeO.ite ?_ ?_
      | refine LeO.bind ?_ (fun _ => ?_)
set_option maxHeartbeats 8000000 in
set_option maxRecDepth 100000 in
theorem codec_ReadString.calls (k : Nat) (A0 : Option Addr) (c0 : Nat) (l0 : List Int) (a1 : Int) (a2 : Int) (r1 : ByteArray) (r2 : Int) (r3 : Int) (w : World) (hr0 : Kd.C (Kd.int .u8) w A0 l0.length l0) (hc0 : l0.length ≤ c0) (h : codec_ReadString.f k l0 a1 a2 = some (r1, r2, r3)) :
    Calls Try.prog 34 #[.slice A0 l0.length c0, .int .i64 a1, .int .i64 a2] w fun e w' => e = .returned (.tuple #[.string r1, .int .i64 r2, .int .i64 r3]) ∧ Drawn0 w w' := by
  have HR0 := Aside0.mk hr0
  have HC0 := Aside0.mk hc0
  clear hr0 hc0
  have H : ((codec_length.f k l0 a1 a2).bind fun bt164 => (if bt164.2.2 = 0 then (if bt164.1 > (wrap64 ((l0.length : Int) - bt164.2.1)) then (some ((⟨#[]⟩ : ByteArray), 0, 4)) else (if 0 ≤ bt164.2.1 then (if bt164.2.1 ≤ (wrap64 (bt164.2.1 + bt164.1)) then (if (wrap64 (bt164.2.1 + bt164.1)) ≤ (l0.length : Int) then (some (strOfNums ((l0.take ((wrap64 (bt164.2.1 + bt164.1)) : Int).toNat).drop (bt164.2.1 : Int).toNat), wrap64 (bt164.2.1 + bt164.1), 0)) else (none)) else (none)) else (none))) else (some ((⟨#[]⟩ : ByteArray), 0, bt164.2.2)))) = some (r1, r2, r3) := h
  clear h
  replace H := Option.bind_eq_some_iff.mp H
  obtain ⟨⟨t164, t165, t166⟩, A40, H⟩ := H
  replace H : (if t166 = 0 then (if t164 > (wrap64 ((l0.length : Int) - t165)) then (some ((⟨#[]⟩ : ByteArray), 0, 4)) else (if 0 ≤ t165 then (if t165 ≤ (wrap64 (t165 + t164)) then (if (wrap64 (t165 + t164)) ≤ (l0.length : Int) then (some (strOfNums ((l0.take ((wrap64 (t165 + t164)) : Int).toNat).drop (t165 : Int).toNat), wrap64 (t165 + t164), 0)) else (none)) else (none)) else (none))) else (some ((⟨#[]⟩ : ByteArray), 0, t166))) = some (r1, r2, r3) := H
  have A4 := Aside0.mk A40
  clear A40
  by_cases c5 : t166 = 0
  · rw [if_pos c5] at H
    have c5b0 : (t166 == 0) = true := beq_iff_eq.mpr c5
    have c5b1 : (t166 != 0) = false := bne_eq_false_iff_eq.mpr c5
    clear c5
    by_cases c6 : t164 > (wrap64 ((l0.length : Int) - t165))
    · rw [if_pos c6] at H
      have c6b0 : decide ((wrap64 ((l0.length : Int) - t165)) < t164) = true := decide_eq_true c6
      clear c6
      simp only [Option.some.injEq, Prod.mk.injEq] at H
      obtain ⟨rfl, rfl, rfl⟩ := H
      go_enter Try.func34, Try.ntmps34
      go_wp2_with (first | ((with_reducible refine gate_callee (f := 39) rfl ?_); refine goesL_ (some 15) rfl rfl Try.func39 (by kernel_rfl) rfl #[.slice A0 l0.length c0, .int .i64 a1, .int .i64 a2] rfl (by (try simp only [List.map_toArray, List.map_cons, List.map_nil]); first | done | rfl | (simp only [List.length_drop, List.length_take]; rfl)) ?_; (with_reducible refine (codec_length.calls k _ _ l0 a1 a2 t164 t165 t166 _ ?side1 ?side2 A4.out).mono ?_); (case side1 => repeat (first | exact HR0.out | (with_reducible refine Kd.C_alloc ?_ _) | (with_reducible refine Kd.C_drewN ?_ _) | (with_reducible refine Kd.C_drew ?_))); (case side2 => exact HC0.out); rintro e w' ⟨rfl, ⟨nd, rfl⟩⟩; refine ⟨_, rfl, ?_⟩))
      go_ret3
      exact ⟨by first | rfl | (simp; done) | (simp [*]; done), by repeat (first | exact Drawn0.refl _ | apply Drawn0.step)⟩
    · rw [if_neg c6] at H
      have c6b0 : decide ((wrap64 ((l0.length : Int) - t165)) < t164) = false := decide_eq_false c6
      clear c6
      by_cases c7 : 0 ≤ t165
      · rw [if_pos c7] at H
        have c7b0 := eq_true c7
        have c7b1 : decide (0 ≤ t165) = true := decide_eq_true c7
        clear c7
        by_cases c8 : t165 ≤ (wrap64 (t165 + t164))
        · rw [if_pos c8] at H
          have c8b0 := eq_true c8
          have c8b1 : decide (t165 ≤ (wrap64 (t165 + t164))) = true := decide_eq_true c8
          by_cases c9 : (wrap64 (t165 + t164)) ≤ (l0.length : Int)
          · rw [if_pos c9] at H
            have c9b0 := eq_true c9
            have c9b1 : decide ((wrap64 (t165 + t164)) ≤ (l0.length : Int)) = true := decide_eq_true c9
            simp only [Option.some.injEq, Prod.mk.injEq] at H
            obtain ⟨rfl, rfl, rfl⟩ := H
            go_enter Try.func34, Try.ntmps34
            go_wp2_with (first | ((with_reducible refine gate_callee (f := 39) rfl ?_); refine goesL_ (some 15) rfl rfl Try.func39 (by kernel_rfl) rfl #[.slice A0 l0.length c0, .int .i64 a1, .int .i64 a2] rfl (by (try simp only [List.map_toArray, List.map_cons, List.map_nil]); first | done | rfl | (simp only [List.length_drop, List.length_take]; rfl)) ?_; (with_reducible refine (codec_length.calls k _ _ l0 a1 a2 t164 t165 t166 _ ?side1 ?side2 A4.out).mono ?_); (case side1 => repeat (first | exact HR0.out | (with_reducible refine Kd.C_alloc ?_ _) | (with_reducible refine Kd.C_drewN ?_ _) | (with_reducible refine Kd.C_drew ?_))); (case side2 => exact HC0.out); rintro e w' ⟨rfl, ⟨nd, rfl⟩⟩; refine ⟨_, rfl, ?_⟩; obtain ⟨i010, hi010, _, hsz10, _⟩ := info_parts info5; obtain ⟨A10, hcut10, hA10, hC10⟩ := print_mid_of (P := Try.prog) (Value.int .u8) 0 22 5 .i64 .i64 Try.underlying22 hi010 hsz10 A0 c0 l0 t165 (wrap64 (t165 + t164)) (of_decide_eq_true (by first | (with_reducible assumption) | assumption)) (by first | omega | exact of_decide_eq_true (by first | (with_reducible assumption) | assumption)) (of_decide_eq_true (by first | (with_reducible assumption) | assumption)) HC0.out; have HR167 := Aside0.mk (Kd.C_of_reads (h1 := fun _ => rfl) (hA10 _ (Kd.reads_of_C (Kd.C_drewN HR0.out nd)))); have HC167 := Aside0.mk hC10; clear hA10 hC10 hi010 hsz10; have hcv11 := Kd.C_string (P := Try.prog) (A := A10) (c := (c0 - t165.toNat)) Try.underlying22 Try.underlying5 Try.underlying9 HR167.out; rw [List.length_drop, List.length_take, Nat.min_eq_left (by have q := of_decide_eq_true c9b1; omega)] at hcv11))
            go_ret3
            exact ⟨by first | rfl | (simp; done) | (simp [*]; done), by repeat (first | exact Drawn0.refl _ | apply Drawn0.step)⟩
          · rw [if_neg c9] at H
            exact absurd H (by simp)
        · rw [if_neg c8] at H
          exact absurd H (by simp)
      · rw [if_neg c7] at H
        exact absurd H (by simp)
  · rw [if_neg c5] at H
    have c5b0 : (t166 == 0) = false := beq_eq_false_iff_ne.mpr c5
    have c5b1 : (t166 != 0) = true := bne_iff_ne.mpr c5
    simp only [Option.some.injEq, Prod.mk.injEq] at H
    obtain ⟨rfl, rfl, rfl⟩ := H
    go_enter Try.func34, Try.ntmps34
    go_wp2_with (first | ((with_reducible refine gate_callee (f := 39) rfl ?_); refine goesL_ (some 15) rfl rfl Try.func39 (by kernel_rfl) rfl #[.slice A0 l0.length c0, .int .i64 a1, .int .i64 a2] rfl (by (try simp only [List.map_toArray, List.map_cons, List.map_nil]); first | done | rfl | (simp only [List.length_drop, List.length_take]; rfl)) ?_; (with_reducible refine (codec_length.calls k _ _ l0 a1 a2 t164 t165 t166 _ ?side1 ?side2 A4.out).mono ?_); (case side1 => repeat (first | exact HR0.out | (with_reducible refine Kd.C_alloc ?_ _) | (with_reducible refine Kd.C_drewN ?_ _) | (with_reducible refine Kd.C_drew ?_))); (case side2 => exact HC0.out); rintro e w' ⟨rfl, ⟨nd, rfl⟩⟩; refine ⟨_, rfl, ?_⟩))
    go_ret3
    exact ⟨by first | rfl | (simp; done) | (simp [*]; done), by repeat (first | exact Drawn0.refl _ | apply Drawn0.step)⟩

end Go.Proofs.Ytgfdfchckpknjaa.PCodecUnique
