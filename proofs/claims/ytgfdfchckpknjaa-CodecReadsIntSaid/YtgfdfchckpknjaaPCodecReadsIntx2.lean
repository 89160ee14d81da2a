/- CodecReadsInt: walks of functions, most by printed steps; tail, AppendInt, AppendBool, ReadInt, PutLittle by hand. No condition. -/
import Derived.Test.YtgfdfchckpknjaaPCodecReadsIntx0
import Derived.Test.YtgfdfchckpknjaaApp
namespace Go.Proofs.Ytgfdfchckpknjaa.PCodecReadsInt
open Go.RowKit Go.Proofs.YtgfdfchckpknjaaW.PrintWords Go.Proofs.YtgfdfchckpknjaaW.PrintLast Go.Proofs.YtgfdfchckpknjaaW.PrintMore Go.Proofs.Ytgfdfchckpknjaa.App
attribute [local go_sem] max2_int min2_int max_two min_two max_three min_three max_four min_four   -- for this text's walks alone
set_option linter.unusedVariables false
set_option linter.unusedSimpArgs false

/-! ### codec_ReadInt: function 27 -/
/-- The bytes of an int, read from the m-th on: what the code does. -/
def ri_from (l0 : List Int) (a1 : Int) : Nat → Nat → Int → Option (Int × Int × Int)
  | 0, _, _ => none
  | k + 1, m, u =>
    if (l0.length : Int) ≤ wrap64 (a1 + (m : Int)) then some (0, 0, 4) else
    if ¬ 0 ≤ wrap64 (a1 + (m : Int)) then none else
    if m = 9 ∧ 1 < rd l0 (wrap64 (a1 + (m : Int))) then some (0, 0, 3) else
    if 128 ≤ rd l0 (wrap64 (a1 + (m : Int))) then ri_from l0 a1 k (m + 1) (Go.bits .or .u64 u (shl .u64 (IntKind.u64.wrap (Go.bits .and .u8 (rd l0 (wrap64 (a1 + (m : Int)))) 127)) (wrap64 (7 * (m : Int))))) else
    if rd l0 (wrap64 (a1 + (m : Int))) = 0 ∧ 1 < (m : Int) + 1 then some (0, 0, 3) else
    if Go.bits .and .u64 (Go.bits .or .u64 u (shl .u64 (IntKind.u64.wrap (Go.bits .and .u8 (rd l0 (wrap64 (a1 + (m : Int)))) 127)) (wrap64 (7 * (m : Int))))) 1 = 1 then
      some (Go.bits .xor .i64 (-1) (wrap64 (Go.bits .or .u64 u (shl .u64 (IntKind.u64.wrap (Go.bits .and .u8 (rd l0 (wrap64 (a1 + (m : Int)))) 127)) (wrap64 (7 * (m : Int)))) / 2)), wrap64 (a1 + ((m : Int) + 1)), 0)
    else some (wrap64 (Go.bits .or .u64 u (shl .u64 (IntKind.u64.wrap (Go.bits .and .u8 (rd l0 (wrap64 (a1 + (m : Int)))) 127)) (wrap64 (7 * (m : Int)))) / 2), wrap64 (a1 + ((m : Int) + 1)), 0)
def codec_ReadInt.f (k : Nat) (l0 : List Int) (a1 : Int) : Option (Int × Int × Int) := if a1 < 0 ∨ (l0.length : Int) < a1 then some (0, 0, 2) else ri_from l0 a1 10 0 0
theorem codec_ReadInt.mono : ∀ a0 a1 k, LeO (codec_ReadInt.f k a0 a1) (codec_ReadInt.f (k + 1) a0 a1) := fun _ _ _ => LeO.refl _
theorem ri_scope {P : Program} {a : Act} {w : World} {Q : Exit → Act → World → Prop} {c R : Code} (l : Nat) (J : Act → World → Prop) (μ : Act → World → Nat) (hf : findLabel c l = some (.seq .skip R))
    (first : (∀ a w, J a w → R.wp P (Exit.jump l J Q) a w) → c.wp P (Exit.jump l J Q) a w)
    (pass : ∀ a w, J a w → R.wp P (Exit.jump l (fun a' w' => J a' w' ∧ μ a' w' < μ a w) Q) a w) : (Code.scope c).wp P Q a w := by
  refine wp_scope_jumps l J μ hf (first fun a w hJ => wp_mono (pass a w hJ) fun e a' w' h => ?_) (fun a w hJ => wp_seq (wp_skip (pass a w hJ)))
  cases e <;> first | exact ⟨h.1, h.2.1⟩ | exact h
theorem ri_out {a b c r1 r2 r3 : Int} (h : some (a, b, c) = some (r1, r2, r3)) : a = r1 ∧ b = r2 ∧ c = r3 := by
  simp only [Option.some.injEq, Prod.mk.injEq] at h
  exact h
theorem ri_start {k : Nat} {l0 : List Int} {a1 : Int} {r : Int × Int × Int} (h : codec_ReadInt.f k l0 a1 = some r) :
    (decide (a1 < 0) = true ∧ r = (0, 0, 2)) ∨ (decide (a1 < 0) = false ∧ decide ((l0.length : Int) < a1) = true ∧ r = (0, 0, 2)) ∨ (decide (a1 < 0) = false ∧ decide ((l0.length : Int) < a1) = false ∧ ri_from l0 a1 10 0 0 = some r) := by
  unfold codec_ReadInt.f at h
  by_cases c1 : a1 < 0
  · rw [if_pos (.inl c1)] at h
    exact .inl ⟨decide_eq_true c1, (Option.some.inj h).symm⟩
  · by_cases c2 : (l0.length : Int) < a1
    · rw [if_pos (.inr c2)] at h
      exact .inr (.inl ⟨decide_eq_false c1, decide_eq_true c2, (Option.some.inj h).symm⟩)
    · rw [if_neg (fun hh => hh.elim c1 c2)] at h
      exact .inr (.inr ⟨decide_eq_false c1, decide_eq_false c2, h⟩)
set_option maxHeartbeats 8000000 in
set_option maxRecDepth 100000 in
theorem codec_ReadInt.calls (k : Nat) (A0 : Option Addr) (c0 : Nat) (l0 : List Int) (a1 : Int) (r1 : Int) (r2 : Int) (r3 : Int) (w : World) (hr0 : Kd.C (Kd.int .u8) w A0 l0.length l0) (hc0 : l0.length ≤ c0) (h : codec_ReadInt.f k l0 a1 = some (r1, r2, r3)) :
    Calls Try.prog 27 #[.slice A0 l0.length c0, .int .i64 a1] w fun e w' => e = .returned (.tuple #[.int .i64 r1, .int .i64 r2, .int .i64 r3]) ∧ Drawn0 w w' := by
  have HR0 := Aside0.mk hr0
  have HC0 := Aside0.mk hc0
  clear hr0 hc0
  go_enter Try.func27, Try.ntmps27
  rcases ri_start h with ⟨b1, e1⟩ | ⟨b1, b2, e1⟩ | ⟨b1, b2, e1⟩
  · obtain ⟨rfl, rfl, rfl⟩ := e1
    go_wp2
    go_step3
    go_wp2
    rw [Exit.noGoto_ret]
    go_ret3
    exact ⟨rfl, Drawn0.refl _⟩
  · obtain ⟨rfl, rfl, rfl⟩ := e1
    go_wp2
    go_step3
    go_wp2
    rw [Exit.noGoto_ret]
    go_ret3
    exact ⟨rfl, Drawn0.refl _⟩
  · have HL0 := Aside0.mk e1
    clear e1 h
    go_wp2
    refine ri_scope 0 (fun a' w' => w' = w ∧ ∃ (m : Nat) (u : Int) (t9 t10 t11 t12 t13 t14 t15 t16 t17 t18 t19 t20 t21 t22 t23 t24 t25 t26 t27 t28 t29 t30 t31 t32 t33 t34 t35 t36 t37 t38 t39 t40 t41 t42 t43 t44 t45 t46 t47 t48 t49 t50 t51 t52 t53 t54 t55 t56 t57 t58 t59 t60 t61 t62 t63 t64 t65 t66 t67 t68 t69 : Value), a' = { tmps := #[.slice A0 l0.length c0, .int .i64 a1, undef, undef, .int .i64 0, .int .i64 0, .int .i64 0, .int .u64 u, .int .i64 (m : Int), t9, t10, t11, t12, t13, t14, t15, t16, t17, t18, t19, t20, t21, t22, t23, t24, t25, t26, t27, t28, t29, t30, t31, t32, t33, t34, t35, t36, t37, t38, t39, t40, t41, t42, t43, t44, t45, t46, t47, t48, t49, t50, t51, t52, t53, t54, t55, t56, t57, t58, t59, t60, t61, t62, t63, t64, t65, t66, t67, t68, t69], defers := [] } ∧ Aside0 (ri_from l0 a1 (10 - m) m u = some (r1, r2, r3)) ∧ Aside0 (m ≤ 9)) (fun a' _ => match a'.tmps.getD 8 undef with | .int _ q => (9 - q).toNat | _ => 0) rfl ?_ ?_
    · intro hpass
      go_wp2
      go_step3
      rename_i K hK
      exact hK _ _ (hpass _ _ ⟨rfl, 0, 0, _, _, _, _, _, _, _, _, _, _, _, _, _, _, _, _, _, _, _, _, _, _, _, _, _, _, _, _, _, _, _, _, _, _, _, _, _, _, _, _, _, _, _, _, _, _, _, _, _, _, _, _, _, _, _, _, _, _, _, _, _, rfl, HL0, ⟨by omega⟩⟩)
    · rintro a' w' ⟨rfl, m, u, t9, t10, t11, t12, t13, t14, t15, t16, t17, t18, t19, t20, t21, t22, t23, t24, t25, t26, t27, t28, t29, t30, t31, t32, t33, t34, t35, t36, t37, t38, t39, t40, t41, t42, t43, t44, t45, t46, t47, t48, t49, t50, t51, t52, t53, t54, t55, t56, t57, t58, t59, t60, t61, t62, t63, t64, t65, t66, t67, t68, t69, rfl, HL, HM9⟩
      clear HL0
      have HM := HL.out
      clear HL
      obtain ⟨j, hj⟩ : ∃ j, 10 - m = j + 1 := ⟨9 - m, by have := HM9.out; omega⟩
      rw [hj, ri_from] at HM
      have HN : 10 - m = j + 1 := hj
      clear hj
      have psi0 : 0 ≤ wrap64 (7 * (m : Int)) := by have := HM9.out; rw [wrap64, Int.emod_eq_of_lt (by omega) (by omega)]; omega
      have hmn : IntKind.i64.wrap ((m : Int) + 1) = (m : Int) + 1 := by have := HM9.out; rw [i64_w]; simp only [wrap64]; omega
      obtain ⟨ji, hji⟩ : ∃ j_ : Int, wrap64 (a1 + (m : Int)) = j_ := ⟨_, rfl⟩
      obtain ⟨si, hsi⟩ : ∃ j_ : Int, wrap64 (7 * (m : Int)) = j_ := ⟨_, rfl⟩
      obtain ⟨sh, hsh0⟩ : ∃ s_ : Int, shl .u64 (IntKind.u64.wrap (Go.bits .and .u8 (rd l0 ji) 127)) si = s_ := ⟨_, rfl⟩
      rw [hji, hsi, hsh0] at HM
      rw [hsi] at psi0
      have hji' : IntKind.i64.wrap (a1 + (m : Int)) = ji := (i64_w _).trans hji
      have hsi' : IntKind.i64.wrap (7 * (m : Int)) = si := (i64_w _).trans hsi
      have hsh : IntKind.u64.wrap (IntKind.u64.wrap (bits BinOp.and IntKind.u8 (rd l0 ji) 127) * 2 ^ min si.toNat 64) = sh := hsh0
      clear hsh0
      have psi : (0 ≤ si) = True := eq_true psi0
      clear psi0
      by_cases c7 : (l0.length : Int) ≤ ji
      · have c7b := decide_eq_true c7
        rw [if_pos c7] at HM
        obtain ⟨rfl, rfl, rfl⟩ := ri_out HM
        clear c7 HM HN
        go_wp2
        simp only [Exit.jump]
        go_ret3
        exact ⟨rfl, Drawn0.refl _⟩
      · have c7b := decide_eq_false c7
        rw [if_neg c7] at HM
        by_cases p1 : 0 ≤ ji
        · rw [if_neg (not_not_intro p1)] at HM
          have q1 : ji < l0.length := by omega
          obtain ⟨ad, ea, hx⟩ := Kd.at_int HR0.out ji p1 q1
          cases ea
          clear c7
          replace p1 := eq_true p1
          replace q1 := eq_true q1
          by_cases c3 : m = 9
          · have b3 : ((m : Int) == 9) = true := by simp [c3]
            have C3' := Aside0.mk c3
            by_cases c4 : 1 < rd l0 ji
            · have b4 := decide_eq_true c4
              rw [if_pos ⟨c3, c4⟩] at HM
              obtain ⟨rfl, rfl, rfl⟩ := ri_out HM
              clear HM c3 c4 HN
              go_wp2
              simp only [Exit.jump]
              go_ret3
              exact ⟨rfl, Drawn0.refl _⟩
            · have b4 := decide_eq_false c4
              clear c3
              rw [if_neg (fun hh => c4 hh.2)] at HM
              by_cases c8 : 128 ≤ rd l0 ji
              · have b5 := decide_eq_true c8
                rw [if_pos c8] at HM
                have HM' := Aside0.mk HM
                have HN' := Aside0.mk HN
                have C3 := Aside0.mk (show m < 9 by omega)
                clear HM c8 HN
                clear c4
                go_wp2
                go_step3
                have e1 : ((m : Int) + 1) = ((m + 1 : Nat) : Int) := by omega
                rw [e1]
                refine ⟨rfl, ⟨rfl, m + 1, _, _, _, _, _, _, _, _, _, _, _, _, _, _, _, _, _, _, _, _, _, _, _, _, _, _, _, _, _, _, _, _, _, _, _, _, _, _, _, _, _, _, _, _, _, _, _, _, _, _, _, _, _, _, _, _, _, _, _, _, _, _, rfl, ⟨?_⟩, ⟨C3.out⟩⟩, ?_⟩
                · have e2 : 10 - (m + 1) = j := by have := HN'.out; omega
                  rw [e2]
                  exact HM'.out
                · have := C3.out
                  simp
                  omega
              · have b5 := decide_eq_false c8
                rw [if_neg c8] at HM
                clear c8
                clear c4
                by_cases c9 : rd l0 ji = 0
                · have b6 : (rd l0 ji == 0) = true := beq_iff_eq.mpr c9
                  by_cases c10 : 1 < (m : Int) + 1
                  · have b7 := decide_eq_true c10
                    rw [if_pos ⟨c9, c10⟩] at HM
                    obtain ⟨rfl, rfl, rfl⟩ := ri_out HM
                    clear HM c9 c10 HN
                    go_wp2
                    simp only [Exit.jump]
                    go_ret3
                    exact ⟨rfl, Drawn0.refl _⟩
                  · have b7 := decide_eq_false c10
                    by_cases c11 : (Go.bits .and .u64 (Go.bits .or .u64 u sh) 1) = 1
                    · have b8 : ((Go.bits .and .u64 (Go.bits .or .u64 u sh) 1) == 1) = true := beq_iff_eq.mpr c11
                      rw [if_neg (fun hh => c10 hh.2), if_pos c11] at HM
                      obtain ⟨rfl, rfl, rfl⟩ := ri_out HM
                      clear HM c11 c10 c9 HN
                      go_wp2
                      simp only [Exit.jump]
                      go_ret3
                      exact ⟨rfl, Drawn0.refl _⟩
                    · have b8 : ((Go.bits .and .u64 (Go.bits .or .u64 u sh) 1) == 1) = false := beq_eq_false_iff_ne.mpr c11
                      rw [if_neg (fun hh => c10 hh.2), if_neg c11] at HM
                      obtain ⟨rfl, rfl, rfl⟩ := ri_out HM
                      clear HM c11 c10 c9 HN
                      go_wp2
                      simp only [Exit.jump]
                      go_ret3
                      exact ⟨rfl, Drawn0.refl _⟩
                · have b6 : (rd l0 ji == 0) = false := beq_eq_false_iff_ne.mpr c9
                  by_cases c11 : (Go.bits .and .u64 (Go.bits .or .u64 u sh) 1) = 1
                  · have b8 : ((Go.bits .and .u64 (Go.bits .or .u64 u sh) 1) == 1) = true := beq_iff_eq.mpr c11
                    rw [if_neg (fun hh => c9 hh.1), if_pos c11] at HM
                    obtain ⟨rfl, rfl, rfl⟩ := ri_out HM
                    clear HM c11 c9 HN
                    go_wp2
                    simp only [Exit.jump]
                    go_ret3
                    exact ⟨rfl, Drawn0.refl _⟩
                  · have b8 : ((Go.bits .and .u64 (Go.bits .or .u64 u sh) 1) == 1) = false := beq_eq_false_iff_ne.mpr c11
                    rw [if_neg (fun hh => c9 hh.1), if_neg c11] at HM
                    obtain ⟨rfl, rfl, rfl⟩ := ri_out HM
                    clear HM c11 c9 HN
                    go_wp2
                    simp only [Exit.jump]
                    go_ret3
                    exact ⟨rfl, Drawn0.refl _⟩
          · have b3 : ((m : Int) == 9) = false := by simp; omega
            rw [if_neg (fun hh => c3 hh.1)] at HM
            by_cases c8 : 128 ≤ rd l0 ji
            · have b5 := decide_eq_true c8
              rw [if_pos c8] at HM
              have HM' := Aside0.mk HM
              have HN' := Aside0.mk HN
              have C3 := Aside0.mk (show m < 9 by have := HM9.out; omega)
              clear HM c8 HN
              clear c3
              go_wp2
              go_step3
              have e1 : ((m : Int) + 1) = ((m + 1 : Nat) : Int) := by omega
              rw [e1]
              refine ⟨rfl, ⟨rfl, m + 1, _, _, _, _, _, _, _, _, _, _, _, _, _, _, _, _, _, _, _, _, _, _, _, _, _, _, _, _, _, _, _, _, _, _, _, _, _, _, _, _, _, _, _, _, _, _, _, _, _, _, _, _, _, _, _, _, _, _, _, _, _, _, rfl, ⟨?_⟩, ⟨C3.out⟩⟩, ?_⟩
              · have e2 : 10 - (m + 1) = j := by have := HN'.out; omega
                rw [e2]
                exact HM'.out
              · have := C3.out
                simp
                omega
            · have b5 := decide_eq_false c8
              rw [if_neg c8] at HM
              clear c8
              clear c3
              by_cases c9 : rd l0 ji = 0
              · have b6 : (rd l0 ji == 0) = true := beq_iff_eq.mpr c9
                by_cases c10 : 1 < (m : Int) + 1
                · have b7 := decide_eq_true c10
                  rw [if_pos ⟨c9, c10⟩] at HM
                  obtain ⟨rfl, rfl, rfl⟩ := ri_out HM
                  clear HM c9 c10 HN
                  go_wp2
                  simp only [Exit.jump]
                  go_ret3
                  exact ⟨rfl, Drawn0.refl _⟩
                · have b7 := decide_eq_false c10
                  by_cases c11 : (Go.bits .and .u64 (Go.bits .or .u64 u sh) 1) = 1
                  · have b8 : ((Go.bits .and .u64 (Go.bits .or .u64 u sh) 1) == 1) = true := beq_iff_eq.mpr c11
                    rw [if_neg (fun hh => c10 hh.2), if_pos c11] at HM
                    obtain ⟨rfl, rfl, rfl⟩ := ri_out HM
                    clear HM c11 c10 c9 HN
                    go_wp2
                    simp only [Exit.jump]
                    go_ret3
                    exact ⟨rfl, Drawn0.refl _⟩
                  · have b8 : ((Go.bits .and .u64 (Go.bits .or .u64 u sh) 1) == 1) = false := beq_eq_false_iff_ne.mpr c11
                    rw [if_neg (fun hh => c10 hh.2), if_neg c11] at HM
                    obtain ⟨rfl, rfl, rfl⟩ := ri_out HM
                    clear HM c11 c10 c9 HN
                    go_wp2
                    simp only [Exit.jump]
                    go_ret3
                    exact ⟨rfl, Drawn0.refl _⟩
              · have b6 : (rd l0 ji == 0) = false := beq_eq_false_iff_ne.mpr c9
                by_cases c11 : (Go.bits .and .u64 (Go.bits .or .u64 u sh) 1) = 1
                · have b8 : ((Go.bits .and .u64 (Go.bits .or .u64 u sh) 1) == 1) = true := beq_iff_eq.mpr c11
                  rw [if_neg (fun hh => c9 hh.1), if_pos c11] at HM
                  obtain ⟨rfl, rfl, rfl⟩ := ri_out HM
                  clear HM c11 c9 HN
                  go_wp2
                  simp only [Exit.jump]
                  go_ret3
                  exact ⟨rfl, Drawn0.refl _⟩
                · have b8 : ((Go.bits .and .u64 (Go.bits .or .u64 u sh) 1) == 1) = false := beq_eq_false_iff_ne.mpr c11
                  rw [if_neg (fun hh => c9 hh.1), if_neg c11] at HM
                  obtain ⟨rfl, rfl, rfl⟩ := ri_out HM
                  clear HM c11 c9 HN
                  go_wp2
                  simp only [Exit.jump]
                  go_ret3
                  exact ⟨rfl, Drawn0.refl _⟩
        · rw [if_pos p1] at HM
          cases HM

/-! ### frustumref05_ReadInt: function 28 -/
mutual
def frustumref05_ReadInt.j0 : Nat → List Int → Int → Bool → Option (Int × Int × Int)
  | 0, _, _, _ => none
  | k + 1, x0, x1, x18 => if x18 = true then (some (0, 0, 2)) else (frustumref05_ReadInt.l0 k x0 x1 0 0)
def frustumref05_ReadInt.l0 : Nat → List Int → Int → Int → Int → Option (Int × Int × Int)
  | 0, _, _, _, _ => none
  | k + 1, x0, x1, x7, x8 => if x8 < 10 then (if (wrap64 (x1 + x8)) ≥ (x0.length : Int) then (some (0, 0, 4)) else (if 0 ≤ (wrap64 (x1 + x8)) then (if (wrap64 (x1 + x8)) < (x0.length : Int) then (if x8 = 9 then (if (IntKind.u64.wrap (rd x0 (wrap64 (x1 + x8)))) > 1 then (frustumref05_ReadInt.j2 k x0 x1 x7 x8 (IntKind.u64.wrap (rd x0 (wrap64 (x1 + x8)))) true) else (if x8 > 0 then (frustumref05_ReadInt.j2 k x0 x1 x7 x8 (IntKind.u64.wrap (rd x0 (wrap64 (x1 + x8)))) ((IntKind.u64.wrap (rd x0 (wrap64 (x1 + x8)))) == 0)) else (frustumref05_ReadInt.j2 k x0 x1 x7 x8 (IntKind.u64.wrap (rd x0 (wrap64 (x1 + x8)))) false))) else (if x8 > 0 then (frustumref05_ReadInt.j2 k x0 x1 x7 x8 (IntKind.u64.wrap (rd x0 (wrap64 (x1 + x8)))) ((IntKind.u64.wrap (rd x0 (wrap64 (x1 + x8)))) == 0)) else (frustumref05_ReadInt.j2 k x0 x1 x7 x8 (IntKind.u64.wrap (rd x0 (wrap64 (x1 + x8)))) false))) else (none)) else (none))) else (some (0, 0, 3))
def frustumref05_ReadInt.j2 : Nat → List Int → Int → Int → Int → Int → Bool → Option (Int × Int × Int)
  | 0, _, _, _, _, _, _ => none
  | k + 1, x0, x1, x7, x8, x9, x49 => if x49 = true then (some (0, 0, 3)) else (if 0 ≤ (IntKind.u64.wrap (wrap64 (7 * x8))) then (if x9 < 128 then (if (Int.tmod (IntKind.u64.wrap (x7 + (shl .u64 (Int.tmod x9 128) (IntKind.u64.wrap (wrap64 (7 * x8)))))) 2) = 1 then (some (wrap64 ((wrap64 (-(wrap64 (IntKind.u64.wrap (Int.tdiv (IntKind.u64.wrap (x7 + (shl .u64 (Int.tmod x9 128) (IntKind.u64.wrap (wrap64 (7 * x8)))))) 2))))) - 1), wrap64 ((wrap64 (x1 + x8)) + 1), 0)) else (some (wrap64 (IntKind.u64.wrap (Int.tdiv (IntKind.u64.wrap (x7 + (shl .u64 (Int.tmod x9 128) (IntKind.u64.wrap (wrap64 (7 * x8)))))) 2)), wrap64 ((wrap64 (x1 + x8)) + 1), 0))) else (frustumref05_ReadInt.l0 k x0 x1 (IntKind.u64.wrap (x7 + (shl .u64 (Int.tmod x9 128) (IntKind.u64.wrap (wrap64 (7 * x8)))))) (wrap64 (x8 + 1)))) else (none))
end
def frustumref05_ReadInt.f (k : Nat) (l0 : List Int) (a1 : Int) : Option (Int × Int × Int) := if a1 < 0 then (frustumref05_ReadInt.j0 k l0 a1 true) else (frustumref05_ReadInt.j0 k l0 a1 (decide (a1 > (l0.length : Int))))
theorem frustumref05_ReadInt.mono_l : ∀ k, (∀ y0 y1 y2, LeO (frustumref05_ReadInt.j0 k y0 y1 y2) (frustumref05_ReadInt.j0 (k + 1) y0 y1 y2)) ∧ (∀ y0 y1 y2 y3, LeO (frustumref05_ReadInt.l0 k y0 y1 y2 y3) (frustumref05_ReadInt.l0 (k + 1) y0 y1 y2 y3)) ∧ (∀ y0 y1 y2 y3 y4 y5, LeO (frustumref05_ReadInt.j2 k y0 y1 y2 y3 y4 y5) (frustumref05_ReadInt.j2 (k + 1) y0 y1 y2 y3 y4 y5))
  | 0 => ⟨fun _ _ _ r h => by simp [frustumref05_ReadInt.j0] at h, fun _ _ _ _ r h => by simp [frustumref05_ReadInt.l0] at h, fun _ _ _ _ _ _ r h => by simp [frustumref05_ReadInt.j2] at h⟩
  | k + 1 => by
    obtain ⟨ih0, ih1, ih2⟩ := frustumref05_ReadInt.mono_l k
    refine ⟨?_, ?_, ?_⟩
    · intro y0 y1 y2
      unfold frustumref05_ReadInt.j0
      repeat' first
      | (with_reducible exact ih0 _ _ _)
      | (with_reducible exact ih1 _ _ _ _)
      | (with_reducible exact ih2 _ _ _ _ _ _)
      | (with_reducible exact LeO.refl _)
      | (with_reducible exact LeO.none _)
      | (with_reducible refine LeO.ite ?_ ?_)
      | (with_reducible refine LeO.bind ?_ (fun _ => ?_))
      | exact ih0 _ _ _
      | exact ih1 _ _ _ _
      | exact ih2 _ _ _ _ _ _
      | exact LeO.none _
      | refine LeO.ite ?_ ?_
      | refine LeO.bind ?_ (fun _ => ?_)
    · intro y0 y1 y2 y3
      unfold frustumref05_ReadInt.l0
      repeat' first
      | (with_reducible exact ih0 _ _ _)
      | (with_reducible exact ih1 _ _ _ _)
      | (with_reducible exact ih2 _ _ _ _ _ _)
      | (with_reducible exact LeO.refl _)
      | (with_reducible exact LeO.none _)
      | (with_reducible refine LeO.ite ?_ ?_)
      | (with_reducible refine LeO.bind ?_ (fun _ => ?_))
      | exact ih0 _ _ _
      | exact ih1 _ _ _ _
      | exact ih2 _ _ _ _ _ _
      | exact LeO.none _
      | refine LeO.ite ?_ ?_
      | refine LeO.bind ?_ (fun _ => ?_)
    · intro y0 y1 y2 y3 y4 y5
      unfold frustumref05_ReadInt.j2
      repeat' first
      | (with_reducible exact ih0 _ _ _)
      | (with_reducible exact ih1 _ _ _ _)
      | (with_reducible exact ih2 _ _ _ _ _ _)
      | (with_reducible exact LeO.refl _)
      | (with_reducible exact LeO.none _)
      | (with_reducible refine LeO.ite ?_ ?_)
      | (with_reducible refine LeO.bind ?_ (fun _ => ?_))
      | exact ih0 _ _ _
      | exact ih1 _ _ _ _
      | exact ih2 _ _ _ _ _ _
      | exact LeO.none _
      | refine LeO.ite ?_ ?_
      | refine LeO.bind ?_ (fun _ => ?_)
theorem frustumref05_ReadInt.mono : ∀ a0 a1 k, LeO (frustumref05_ReadInt.f k a0 a1) (frustumref05_ReadInt.f (k + 1) a0 a1) := by
  intro a0 a1 k
  obtain ⟨ih0, ih1, ih2⟩ := frustumref05_ReadInt.mono_l k
  unfold frustumref05_ReadInt.f
  repeat' first
      | (with_reducible exact ih0 _ _ _)
      | (with_reducible exact ih1 _ _ _ _)
      | (with_reducible exact ih2 _ _ _ _ _ _)
      | (with_reducible exact LeO.refl _)
      | (with_reducible exact LeO.none _)
      | (with_reducible refine LeO.ite ?_ ?_)
      | (with_reducible refine LeO.bind ?_ (fun _ => ?_))
      | exact ih0 _ _ _
      | exact ih1 _ _ _ _
      | exact ih2 _ _ _ _ _ _
      | exact LeO.none _
      | refine LeO.ite ?_ ?_
      | refine LeO.bind ?_ (fun _ => ?_)
set_option maxHeartbeats 8000000 in
set_option maxRecDepth 100000 in
theorem frustumref05_ReadInt.calls (k : Nat) (A0 : Option Addr) (c0 : Nat) (l0 : List Int) (a1 : Int) (r1 : Int) (r2 : Int) (r3 : Int) (w : World) (hr0 : Kd.C (Kd.int .u8) w A0 l0.length l0) (hc0 : l0.length ≤ c0) (h : frustumref05_ReadInt.f k l0 a1 = some (r1, r2, r3)) :
    Calls Try.prog 28 #[.slice A0 l0.length c0, .int .i64 a1] w fun e w' => e = .returned (.tuple #[.int .i64 r1, .int .i64 r2, .int .i64 r3]) ∧ Drawn0 w w' := by
  have HR0 := Aside0.mk hr0
  have HC0 := Aside0.mk hc0
  clear hr0 hc0
  have H : (if a1 < 0 then (frustumref05_ReadInt.j0 k l0 a1 true) else (frustumref05_ReadInt.j0 k l0 a1 (decide (a1 > (l0.length : Int))))) = some (r1, r2, r3) := h
  clear h
  have HC3 := Aside0.mk H
  clear H
  go_enter Try.func28, Try.ntmps28
  go_upto_region 1 with (fail)
  go_cut [18] (fun v18 wc => ∃ (kq : Nat) (x18_2 : Bool), v18 = .bool x18_2 ∧ Aside0 (frustumref05_ReadInt.j0 kq l0 a1 x18_2 = some (r1, r2, r3)) ∧ Aside0 (kq ≤ k) ∧ Drawn0 w wc)
  case first =>
    have H := HC3.out
    clear HC3
    by_cases c4 : a1 < 0
    · rw [if_pos c4] at H
      have c4b0 : decide (a1 < 0) = true := decide_eq_true c4
      clear c4
      (first | rw [c4b0] | (simp only [i64_w, i32_w]; rw [c4b0]) | skip)
      have H' := Aside0.mk H
      clear H
      go_wp2
      go_meet
      case rel => exact ⟨_, (true), (by first | rfl | (simp; done) | (simp [*]; done)), H', ⟨by first | omega | exact Nat.le_refl _⟩, by repeat (first | exact Drawn0.refl _ | apply Drawn0.step)⟩
    · rw [if_neg c4] at H
      have c4b0 : decide (a1 < 0) = false := decide_eq_false c4
      clear c4
      (first | rw [c4b0] | (simp only [i64_w, i32_w]; rw [c4b0]) | skip)
      have H' := Aside0.mk H
      clear H
      go_wp2
      go_meet
      case rel => exact ⟨_, (decide (a1 > (l0.length : Int))), (by first | rfl | (simp; done) | (simp [*]; done)), H', ⟨by first | omega | exact Nat.le_refl _⟩, by repeat (first | exact Drawn0.refl _ | apply Drawn0.step)⟩
  case rest =>
    clear HC3
    try clear c2
    try clear p2
    try clear c4
    try clear c4b0
    obtain ⟨kq, x18_2, rfl, HA, HJ2, ⟨mc2, rfl⟩⟩ := hcut
    cases kq with
    | zero => exact absurd HA.out (by simp [frustumref05_ReadInt.j0])
    | succ kj2 =>
      have H := HA.out
      clear HA
      simp only [frustumref05_ReadInt.j0] at H
      by_cases c5 : x18_2 = true
      · subst c5
        have H1 : (some (0, 0, 2)) = some (r1, r2, r3) := by rw [if_pos rfl] at H; exact H
        clear H
        have H := H1
        clear H1
        simp only [Option.some.injEq, Prod.mk.injEq] at H
        obtain ⟨rfl, rfl, rfl⟩ := H
        go_wp2
        go_ret3
        exact ⟨by first | rfl | (simp; done) | (simp [*]; done), by repeat (first | exact Drawn0.refl _ | apply Drawn0.step)⟩
      · replace c5 := Bool.eq_false_iff.mpr c5
        subst c5
        have H1 : (frustumref05_ReadInt.l0 kj2 l0 a1 0 0) = some (r1, r2, r3) := by rw [if_neg (show ¬ (false = true) by decide)] at H; exact H
        clear H
        have H := H1
        clear H1
        have H' := Aside0.mk H
        clear H
        go_wp2
        go_loopg [7, 8] kj2 (fun kq v7 v8 w' => ∃ (x7_2 : Int) (x8_2 : Int), v7 = .int .u64 x7_2 ∧ v8 = .int .i64 x8_2 ∧ Aside0 (frustumref05_ReadInt.l0 kq l0 a1 x7_2 x8_2 = some (r1, r2, r3)) ∧ Aside0 (kq ≤ kj2) ∧ Drawn0 w w')
        case atStart => exact ⟨(0), (0), (by first | rfl | (simp; done) | (simp [*]; done)), (by first | rfl | (simp; done) | (simp [*]; done)), H', ⟨Nat.le_refl _⟩, by repeat (first | exact Drawn0.refl _ | apply Drawn0.step)⟩
        case round =>
          clear H'
          try clear c2
          try clear p2
          try clear c4
          try clear c4b0
          try clear c5
          try clear p2
          obtain ⟨x7_2, x8_2, rfl, rfl, HA, HK2, ⟨m2, rfl⟩⟩ := hrel
          cases gk with
          | zero => exact absurd HA.out (by simp [frustumref05_ReadInt.l0])
          | succ k2 =>
            have H := HA.out
            clear HA
            simp only [frustumref05_ReadInt.l0] at H
            by_cases c6 : x8_2 < 10
            · rw [if_pos c6] at H
              have c6b0 : decide (x8_2 < 10) = true := decide_eq_true c6
              clear c6
              by_cases c7 : (wrap64 (a1 + x8_2)) ≥ (l0.length : Int)
              · rw [if_pos c7] at H
                have c7b0 : decide ((l0.length : Int) ≤ (wrap64 (a1 + x8_2))) = true := decide_eq_true c7
                clear c7
                simp only [Option.some.injEq, Prod.mk.injEq] at H
                obtain ⟨rfl, rfl, rfl⟩ := H
                go_wp2
                go_ret3
                exact ⟨by first | rfl | (simp; done) | (simp [*]; done), by repeat (first | exact Drawn0.refl _ | apply Drawn0.step)⟩
              · rw [if_neg c7] at H
                have c7b0 : decide ((l0.length : Int) ≤ (wrap64 (a1 + x8_2))) = false := decide_eq_false c7
                clear c7
                obtain ⟨ji8, hji8⟩ : ∃ j_ : Int, (wrap64 (a1 + x8_2)) = j_ := ⟨_, rfl⟩
                replace H : (if 0 ≤ (ji8) then (if (ji8) < (l0.length : Int) then (if x8_2 = 9 then (if (IntKind.u64.wrap (rd l0 (ji8))) > 1 then (frustumref05_ReadInt.j2 k2 l0 a1 x7_2 x8_2 (IntKind.u64.wrap (rd l0 (ji8))) true) else (if x8_2 > 0 then (frustumref05_ReadInt.j2 k2 l0 a1 x7_2 x8_2 (IntKind.u64.wrap (rd l0 (ji8))) ((IntKind.u64.wrap (rd l0 (ji8))) == 0)) else (frustumref05_ReadInt.j2 k2 l0 a1 x7_2 x8_2 (IntKind.u64.wrap (rd l0 (ji8))) false))) else (if x8_2 > 0 then (frustumref05_ReadInt.j2 k2 l0 a1 x7_2 x8_2 (IntKind.u64.wrap (rd l0 (ji8))) ((IntKind.u64.wrap (rd l0 (ji8))) == 0)) else (frustumref05_ReadInt.j2 k2 l0 a1 x7_2 x8_2 (IntKind.u64.wrap (rd l0 (ji8))) false))) else (none)) else (none)) = some (r1, r2, r3) := by first | (rw [hji8] at H; exact H) | (simp only [hji8] at H ⊢; exact H)
                (try rw [hji8] at c7b0)
                have hji8w : (IntKind.i64.wrap (a1 + x8_2)) = ji8 := (i64_w _).trans hji8
                by_cases c9 : 0 ≤ (ji8)
                · rw [if_pos c9] at H
                  have c9b0 : decide (0 ≤ (ji8)) = true := decide_eq_true c9
                  clear c9
                  by_cases c10 : (ji8) < (l0.length : Int)
                  · rw [if_pos c10] at H
                    have c10b0 : decide ((ji8) < (l0.length : Int)) = true := decide_eq_true c10
                    clear c10
                    have HC11 := Aside0.mk H
                    clear H
                    have p139 : 0 ≤ ((ji8) : Int) := of_decide_eq_true (by first | (with_reducible assumption) | assumption)
                    have q139 : (ji8) < (l0.length : Int) := of_decide_eq_true (by first | (with_reducible assumption) | assumption)
                    obtain ⟨ad139, e139, hx139_0⟩ := Kd.at_int HR0.out (ji8) p139 q139
                    cases e139
                    replace p139 := eq_true p139
                    replace q139 := eq_true q139
                    go_upto_region 10 with (fail)
                    go_cut [49] (fun v49 wc => ∃ (kq : Nat) (x49_10 : Bool), v49 = .bool x49_10 ∧ Aside0 (frustumref05_ReadInt.j2 kq l0 a1 x7_2 x8_2 (IntKind.u64.wrap (rd l0 (ji8))) x49_10 = some (r1, r2, r3)) ∧ Aside0 (kq ≤ k2) ∧ Drawn0 w wc)
                    case first =>
                      have H := HC11.out
                      clear HC11
                      by_cases c12 : x8_2 = 9
                      · rw [if_pos c12] at H
                        have c12b0 : (x8_2 == 9) = true := beq_iff_eq.mpr c12
                        have c12b1 : (x8_2 != 9) = false := bne_eq_false_iff_eq.mpr c12
                        clear c12
                        (first | rw [c12b0] | (simp only [i64_w, i32_w]; rw [c12b0]) | skip)
                        by_cases c13 : (IntKind.u64.wrap (rd l0 (ji8))) > 1
                        · rw [if_pos c13] at H
                          have c13b0 : decide (1 < (IntKind.u64.wrap (rd l0 (ji8)))) = true := decide_eq_true c13
                          clear c13
                          have H' := Aside0.mk H
                          clear H
                          go_wp2
                          go_meet
                          case rel => exact ⟨_, (true), (by first | rfl | (simp; done) | (simp [*]; done)), H', ⟨by have := HJ2.out; have := HK2.out; first | omega | exact Nat.le_refl _⟩, by repeat (first | exact Drawn0.refl _ | apply Drawn0.step)⟩
                        · rw [if_neg c13] at H
                          have c13b0 : decide (1 < (IntKind.u64.wrap (rd l0 (ji8)))) = false := decide_eq_false c13
                          clear c13
                          by_cases c14 : x8_2 > 0
                          · rw [if_pos c14] at H
                            have c14b0 : decide (0 < x8_2) = true := decide_eq_true c14
                            clear c14
                            have H' := Aside0.mk H
                            clear H
                            go_wp2
                            go_meet
                            case rel => exact ⟨_, (((IntKind.u64.wrap (rd l0 (ji8))) == 0)), (by first | rfl | (simp; done) | (simp only [← hji8] <;> (first | rfl | simp)) | (simp [*]; done)), H', ⟨by have := HJ2.out; have := HK2.out; first | omega | exact Nat.le_refl _⟩, by repeat (first | exact Drawn0.refl _ | apply Drawn0.step)⟩
                          · rw [if_neg c14] at H
                            have c14b0 : decide (0 < x8_2) = false := decide_eq_false c14
                            clear c14
                            have H' := Aside0.mk H
                            clear H
                            go_wp2
                            go_meet
                            case rel => exact ⟨_, (false), (by first | rfl | (simp; done) | (simp [*]; done)), H', ⟨by have := HJ2.out; have := HK2.out; first | omega | exact Nat.le_refl _⟩, by repeat (first | exact Drawn0.refl _ | apply Drawn0.step)⟩
                      · rw [if_neg c12] at H
                        have c12b0 : (x8_2 == 9) = false := beq_eq_false_iff_ne.mpr c12
                        have c12b1 : (x8_2 != 9) = true := bne_iff_ne.mpr c12
                        (first | rw [c12b0] | (simp only [i64_w, i32_w]; rw [c12b0]) | skip)
                        by_cases c15 : x8_2 > 0
                        · rw [if_pos c15] at H
                          have c15b0 : decide (0 < x8_2) = true := decide_eq_true c15
                          clear c15
                          have H' := Aside0.mk H
                          clear H
                          go_wp2
                          go_meet
                          case rel => exact ⟨_, (((IntKind.u64.wrap (rd l0 (ji8))) == 0)), (by first | rfl | (simp; done) | (simp only [← hji8] <;> (first | rfl | simp)) | (simp [*]; done)), H', ⟨by have := HJ2.out; have := HK2.out; first | omega | exact Nat.le_refl _⟩, by repeat (first | exact Drawn0.refl _ | apply Drawn0.step)⟩
                        · rw [if_neg c15] at H
                          have c15b0 : decide (0 < x8_2) = false := decide_eq_false c15
                          clear c15
                          have H' := Aside0.mk H
                          clear H
                          go_wp2
                          go_meet
                          case rel => exact ⟨_, (false), (by first | rfl | (simp; done) | (simp [*]; done)), H', ⟨by have := HJ2.out; have := HK2.out; first | omega | exact Nat.le_refl _⟩, by repeat (first | exact Drawn0.refl _ | apply Drawn0.step)⟩
                    case rest =>
                      clear HC11
                      try clear c1
                      try clear p1
                      try clear q1
                      try clear hx1
                      try clear c2
                      try clear p2
                      try clear c4
                      try clear c4b0
                      try clear c5
                      try clear c6
                      try clear c6b0
                      try clear p6
                      try clear c7
                      try clear c7b0
                      try clear c9
                      try clear c9b0
                      try clear c10
                      try clear c10b0
                      try clear c12
                      try clear c12b0
                      try clear c12b1
                      try clear c13
                      try clear c13b0
                      try clear p13
                      try clear q13
                      try clear hx13
                      try clear c14
                      try clear c14b0
                      try clear c15
                      try clear c15b0
                      try clear hx139_0
                      try clear p139
                      try clear p2
                      try clear q139
                      obtain ⟨kq, x49_10, rfl, HA, HJ10, ⟨mc10, rfl⟩⟩ := hcut
                      cases kq with
                      | zero => exact absurd HA.out (by simp [frustumref05_ReadInt.j2])
                      | succ kj10 =>
                        have H := HA.out
                        clear HA
                        simp only [frustumref05_ReadInt.j2] at H
                        by_cases c16 : x49_10 = true
                        · subst c16
                          have H1 : (some (0, 0, 3)) = some (r1, r2, r3) := by rw [if_pos rfl] at H; exact H
                          clear H
                          have H := H1
                          clear H1
                          simp only [Option.some.injEq, Prod.mk.injEq] at H
                          obtain ⟨rfl, rfl, rfl⟩ := H
                          go_wp2
                          go_ret3
                          exact ⟨by first | rfl | (simp; done) | (simp only [← hji8] <;> (first | rfl | simp)) | (simp [*]; done), by repeat (first | exact Drawn0.refl _ | apply Drawn0.step)⟩
                        · replace c16 := Bool.eq_false_iff.mpr c16
                          subst c16
                          have H1 : (if 0 ≤ (IntKind.u64.wrap (wrap64 (7 * x8_2))) then (if (IntKind.u64.wrap (rd l0 (ji8))) < 128 then (if (Int.tmod (IntKind.u64.wrap (x7_2 + (shl .u64 (Int.tmod (IntKind.u64.wrap (rd l0 (ji8))) 128) (IntKind.u64.wrap (wrap64 (7 * x8_2)))))) 2) = 1 then (some (wrap64 ((wrap64 (-(wrap64 (IntKind.u64.wrap (Int.tdiv (IntKind.u64.wrap (x7_2 + (shl .u64 (Int.tmod (IntKind.u64.wrap (rd l0 (ji8))) 128) (IntKind.u64.wrap (wrap64 (7 * x8_2)))))) 2))))) - 1), wrap64 ((wrap64 (a1 + x8_2)) + 1), 0)) else (some (wrap64 (IntKind.u64.wrap (Int.tdiv (IntKind.u64.wrap (x7_2 + (shl .u64 (Int.tmod (IntKind.u64.wrap (rd l0 (ji8))) 128) (IntKind.u64.wrap (wrap64 (7 * x8_2)))))) 2)), wrap64 ((wrap64 (a1 + x8_2)) + 1), 0))) else (frustumref05_ReadInt.l0 kj10 l0 a1 (IntKind.u64.wrap (x7_2 + (shl .u64 (Int.tmod (IntKind.u64.wrap (rd l0 (ji8))) 128) (IntKind.u64.wrap (wrap64 (7 * x8_2)))))) (wrap64 (x8_2 + 1)))) else (none)) = some (r1, r2, r3) := by rw [if_neg (show ¬ (false = true) by decide)] at H; exact H
                          clear H
                          have H := H1
                          clear H1
                          obtain ⟨ji17, hji17⟩ : ∃ j_ : Int, (IntKind.u64.wrap (wrap64 (7 * x8_2))) = j_ := ⟨_, rfl⟩
                          replace H : (if 0 ≤ (ji17) then (if (IntKind.u64.wrap (rd l0 (ji8))) < 128 then (if (Int.tmod (IntKind.u64.wrap (x7_2 + (shl .u64 (Int.tmod (IntKind.u64.wrap (rd l0 (ji8))) 128) (ji17)))) 2) = 1 then (some (wrap64 ((wrap64 (-(wrap64 (IntKind.u64.wrap (Int.tdiv (IntKind.u64.wrap (x7_2 + (shl .u64 (Int.tmod (IntKind.u64.wrap (rd l0 (ji8))) 128) (ji17)))) 2))))) - 1), wrap64 ((wrap64 (a1 + x8_2)) + 1), 0)) else (some (wrap64 (IntKind.u64.wrap (Int.tdiv (IntKind.u64.wrap (x7_2 + (shl .u64 (Int.tmod (IntKind.u64.wrap (rd l0 (ji8))) 128) (ji17)))) 2)), wrap64 ((wrap64 (a1 + x8_2)) + 1), 0))) else (frustumref05_ReadInt.l0 kj10 l0 a1 (IntKind.u64.wrap (x7_2 + (shl .u64 (Int.tmod (IntKind.u64.wrap (rd l0 (ji8))) 128) (ji17)))) (wrap64 (x8_2 + 1)))) else (none)) = some (r1, r2, r3) := by first | (rw [hji17] at H; exact H) | (simp only [hji17] at H ⊢; exact H)
                          by_cases c18 : 0 ≤ (ji17)
                          · rw [if_pos c18] at H
                            have c18b0 := eq_true c18
                            have c18b1 : decide (0 ≤ (ji17)) = true := decide_eq_true c18
                            clear c18
                            obtain ⟨ji19, hji19⟩ : ∃ j_ : Int, (shl .u64 (Int.tmod (IntKind.u64.wrap (rd l0 (ji8))) 128) (ji17)) = j_ := ⟨_, rfl⟩
                            replace H : (if (IntKind.u64.wrap (rd l0 (ji8))) < 128 then (if (Int.tmod (IntKind.u64.wrap (x7_2 + (ji19))) 2) = 1 then (some (wrap64 ((wrap64 (-(wrap64 (IntKind.u64.wrap (Int.tdiv (IntKind.u64.wrap (x7_2 + (ji19))) 2))))) - 1), wrap64 ((wrap64 (a1 + x8_2)) + 1), 0)) else (some (wrap64 (IntKind.u64.wrap (Int.tdiv (IntKind.u64.wrap (x7_2 + (ji19))) 2)), wrap64 ((wrap64 (a1 + x8_2)) + 1), 0))) else (frustumref05_ReadInt.l0 kj10 l0 a1 (IntKind.u64.wrap (x7_2 + (ji19))) (wrap64 (x8_2 + 1)))) = some (r1, r2, r3) := by first | (rw [hji19] at H; exact H) | (simp only [hji19] at H ⊢; exact H)
                            have hji19_ : (IntKind.u64.wrap ((Int.tmod (IntKind.u64.wrap (rd l0 (ji8))) 128) * 2 ^ min (ji17).toNat 64)) = ji19 := hji19
                            have hji19z : (ji17) ≤ 64 → (IntKind.u64.wrap ((Int.tmod (IntKind.u64.wrap (rd l0 (ji8))) 128) * 2 ^ (ji17).toNat)) = ji19 := shl_small hji19
                            by_cases c20 : (IntKind.u64.wrap (rd l0 (ji8))) < 128
                            · rw [if_pos c20] at H
                              have c20b0 : decide ((IntKind.u64.wrap (rd l0 (ji8))) < 128) = true := decide_eq_true c20
                              clear c20
                              by_cases c21 : (Int.tmod (IntKind.u64.wrap (x7_2 + (ji19))) 2) = 1
                              · rw [if_pos c21] at H
                                have c21b0 : ((Int.tmod (IntKind.u64.wrap (x7_2 + (ji19))) 2) == 1) = true := beq_iff_eq.mpr c21
                                have c21b1 : ((Int.tmod (IntKind.u64.wrap (x7_2 + (ji19))) 2) != 1) = false := bne_eq_false_iff_eq.mpr c21
                                clear c21
                                simp only [Option.some.injEq, Prod.mk.injEq] at H
                                obtain ⟨rfl, rfl, rfl⟩ := H
                                go_wp2
                                go_ret3
                                exact ⟨by first | rfl | (simp; done) | (simp only [← hji8, ← hji17, ← hji19] <;> (first | rfl | simp)) | (simp [*]; done), by repeat (first | exact Drawn0.refl _ | apply Drawn0.step)⟩
                              · rw [if_neg c21] at H
                                have c21b0 : ((Int.tmod (IntKind.u64.wrap (x7_2 + (ji19))) 2) == 1) = false := beq_eq_false_iff_ne.mpr c21
                                have c21b1 : ((Int.tmod (IntKind.u64.wrap (x7_2 + (ji19))) 2) != 1) = true := bne_iff_ne.mpr c21
                                simp only [Option.some.injEq, Prod.mk.injEq] at H
                                obtain ⟨rfl, rfl, rfl⟩ := H
                                go_wp2
                                go_ret3
                                exact ⟨by first | rfl | (simp; done) | (simp only [← hji8, ← hji17, ← hji19] <;> (first | rfl | simp)) | (simp [*]; done), by repeat (first | exact Drawn0.refl _ | apply Drawn0.step)⟩
                            · rw [if_neg c20] at H
                              have c20b0 : decide ((IntKind.u64.wrap (rd l0 (ji8))) < 128) = false := decide_eq_false c20
                              clear c20
                              have H' := Aside0.mk H
                              clear H
                              go_wp2
                              go_roundg kj10
                              case measure => have := HJ2.out; have := HK2.out; have := HJ10.out; omega
                              case rel => exact ⟨(IntKind.u64.wrap (x7_2 + (ji19))), (wrap64 (x8_2 + 1)), (by first | rfl | (simp; done) | (simp only [← hji19] <;> (first | rfl | simp)) | (simp [*]; done)), (by first | rfl | (simp; done) | (simp [*]; done)), H', ⟨by have := HJ2.out; have := HK2.out; have := HJ10.out; omega⟩, by repeat (first | exact Drawn0.refl _ | apply Drawn0.step)⟩
                          · rw [if_neg c18] at H
                            exact absurd H (by simp)
                  · rw [if_neg c10] at H
                    exact absurd H (by simp)
                · rw [if_neg c9] at H
                  exact absurd H (by simp)
            · rw [if_neg c6] at H
              have c6b0 : decide (x8_2 < 10) = false := decide_eq_false c6
              clear c6
              simp only [Option.some.injEq, Prod.mk.injEq] at H
              obtain ⟨rfl, rfl, rfl⟩ := H
              go_wp2
              go_ret3
              exact ⟨by first | rfl | (simp; done) | (simp [*]; done), by repeat (first | exact Drawn0.refl _ | apply Drawn0.step)⟩

end Go.Proofs.Ytgfdfchckpknjaa.PCodecReadsInt
