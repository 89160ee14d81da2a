/- StencilPasses: for every stencil state, face and value, Passes returns what the reference returns. No condition. -/
import Derived.Test.YtcpphnecjeohnaaPStencilUpdatex1
import Derived.Test.YtcpphnecjeohnaaPDepthStatesx1
import Derived.Laws.BitsLemmas
namespace Go.Proofs.Ytcpphnecjeohnaa.Pure
set_option linter.unusedVariables false
set_option linter.unusedSimpArgs false
open Go.RowKit Go.Proofs.Ytcpphnecjeohnaa.PDepthStates Go.Proofs.Ytcpphnecjeohnaa.PStencilUpdate Go.Proofs.YtcpphnecjeohnaaW.PrintWords Go.Proofs.YtcpphnecjeohnaaW.PrintLast Go.Proofs.YtcpphnecjeohnaaW.PrintMore
/-! numbers -/
theorem and_mask (j : Nat) (hj : j ≤ 63) (n : Int) : Go.bits .and .i64 n (2 ^ j - 1) = n % 2 ^ j := by
  have hp : (2 : Nat) ^ j ≤ 2 ^ 63 := Nat.pow_le_pow_right (by decide) hj
  have hpos : 0 < (2 : Nat) ^ j := Nat.two_pow_pos j
  have hm : (BitVec.ofInt 64 ((2 : Int) ^ j - 1)).toNat = 2 ^ j - 1 := by
    have hc : ((2 : Int) ^ j - 1) = ((2 ^ j - 1 : Nat) : Int) := by rw [Int.natCast_sub hpos]; simp
    rw [hc, BitVec.ofInt_natCast, BitVec.toNat_ofNat]
    exact Nat.mod_eq_of_lt (by omega)
  have key : (BitVec.ofInt 64 n &&& BitVec.ofInt 64 ((2 : Int) ^ j - 1)).toNat = (n % ((2 ^ 64 : Nat) : Int)).toNat % 2 ^ j := by
    rw [BitVec.toNat_and, BitVec.toNat_ofInt, hm, Nat.and_two_pow_sub_one_eq_mod]
  show IntKind.i64.wrap ((BitVec.ofInt 64 n &&& BitVec.ofInt 64 ((2 : Int) ^ j - 1)).toNat : Nat) = n % 2 ^ j
  rw [key, Go.IntKind.wrap_i64]
  have hlt := Nat.mod_lt (n % ((2 ^ 64 : Nat) : Int)).toNat hpos
  have h1 : (((n % ((2 ^ 64 : Nat) : Int)).toNat % 2 ^ j : Nat) : Int) = n % 2 ^ j := by
    rw [Int.natCast_emod, Int.toNat_of_nonneg (Int.emod_nonneg _ (by decide))]
    rw [Int.natCast_pow]
    refine Int.emod_emod_of_dvd n ?_
    have : (2 : Int) ^ 64 = 2 ^ j * 2 ^ (64 - j) := by rw [← Int.pow_add]; congr 1; omega
    exact ⟨2 ^ (64 - j), by exact_mod_cast this⟩
  rw [← h1]
  omega
theorem and255 (n : Int) : Go.bits .and .i64 n 255 = n % 256 := and_mask 8 (by decide) n
theorem bits_i64_nat (a b : Nat) (ha : a < 2 ^ 63) (hb : b < 2 ^ 63) : Go.bits .and .i64 a b = ((a &&& b : Nat) : Int) ∧ Go.bits .or .i64 a b = ((a ||| b : Nat) : Int) :=
  Go.bits_nat .i64 63 (by decide) (fun n h0 h1 => by rw [Go.IntKind.wrap_i64]; omega) a b ha hb
/-- only the lowest bits count where the mask is small. -/
theorem and_low (j : Nat) (hj : j ≤ 63) (n m : Int) (h0 : 0 ≤ m) (h1 : m < 2 ^ j) : Go.bits .and .i64 n m = Go.bits .and .i64 (n % 2 ^ j) m := by
  obtain ⟨b, rfl⟩ := Int.eq_ofNat_of_zero_le h0
  have hb : b < 2 ^ j := by exact_mod_cast h1
  have hp : (2 : Nat) ^ j ≤ 2 ^ 63 := Nat.pow_le_pow_right (by decide) hj
  have hpos : 0 < (2 : Nat) ^ j := Nat.two_pow_pos j
  have hmm : ∀ x : Nat, x &&& b = (x % 2 ^ j) &&& b := by
    intro x
    rw [← Nat.and_two_pow_sub_one_eq_mod, Nat.and_assoc]
    congr 1
    rw [Nat.and_comm, Nat.and_two_pow_sub_one_eq_mod, Nat.mod_eq_of_lt hb]
  show IntKind.i64.wrap ((BitVec.ofInt 64 n &&& BitVec.ofInt 64 (b : Int)).toNat : Nat) = IntKind.i64.wrap ((BitVec.ofInt 64 (n % 2 ^ j) &&& BitVec.ofInt 64 (b : Int)).toNat : Nat)
  rw [BitVec.toNat_and, BitVec.toNat_and, BitVec.ofInt_natCast, BitVec.toNat_ofNat, Nat.mod_eq_of_lt (show b < 2 ^ 64 by omega), BitVec.toNat_ofInt, BitVec.toNat_ofInt]
  rw [hmm, hmm ((n % 2 ^ j) % ((2 ^ 64 : Nat) : Int)).toNat]
  congr 3
  have e : ∀ z : Int, ((z % ((2 ^ 64 : Nat) : Int)).toNat % 2 ^ j : Nat) = (z % 2 ^ j).toNat := by
    intro z
    have h1 : (((z % ((2 ^ 64 : Nat) : Int)).toNat % 2 ^ j : Nat) : Int) = z % 2 ^ j := by
      rw [Int.natCast_emod, Int.toNat_of_nonneg (Int.emod_nonneg _ (by decide)), Int.natCast_pow]
      refine Int.emod_emod_of_dvd z ?_
      have : (2 : Int) ^ 64 = 2 ^ j * 2 ^ (64 - j) := by rw [← Int.pow_add]; congr 1; omega
      exact ⟨2 ^ (64 - j), by exact_mod_cast this⟩
    omega
  rw [e, e, Int.emod_emod_of_dvd n (Int.dvd_refl _)]
theorem wrap_in (x : Int) (h0 : -9223372036854775808 ≤ x) (h1 : x ≤ 9223372036854775807) : wrap64 x = x := by unfold wrap64; omega
theorem wf_bounds {a : Int} (h : (Lit.int .i64 a).wf = true) : -9223372036854775808 ≤ a ∧ a ≤ 9223372036854775807 := by
  simpa [Lit.wf, IntKind.min, IntKind.max, IntKind.signed, IntKind.bits] using h
theorem u64_wrap (x : Int) : IntKind.u64.wrap x = x % 18446744073709551616 := by simp [IntKind.wrap, IntKind.bits, IntKind.signed]
def sApply (op v r : Int) : Int :=
  if op = 2 then 0 else if op = 3 then r % 256 else if op = 4 then mn 255 (v % 256 + 1) else if op = 5 then mx 0 (v % 256 - 1) else if op = 6 then 255 - v % 256 else if op = 7 then (v % 256 + 1) % 256 else if op = 8 then (v % 256 - 1) % 256 else v % 256
theorem sApply_range (op v r : Int) : 0 ≤ sApply op v r ∧ sApply op v r ≤ 255 := by unfold sApply mn mx; (repeat' split) <;> omega
theorem wrap_mod (n : Int) : wrap64 (Int.tmod n 256 + 256) = Int.tmod n 256 + 256 := by
  have h := Int.tmod_lt_of_pos n (show (0 : Int) < 256 by decide)
  have h2 : -256 < Int.tmod n 256 := Int.lt_tmod_of_pos n (by decide)
  exact wrap_in _ (by omega) (by omega)
theorem reduced_eq (n : Int) : Int.tmod (wrap64 (Int.tmod n 256 + 256)) 256 = n % 256 := by
  rw [wrap_mod]
  have h2 : -256 < Int.tmod n 256 := Int.lt_tmod_of_pos n (by decide)
  rw [Int.tmod_eq_emod_of_nonneg (a := Int.tmod n 256 + 256) (by omega), Int.add_emod_right]
  rcases Int.le_total 0 n with h | h
  · rw [Int.tmod_eq_emod_of_nonneg h]; omega
  · have := Int.mul_tdiv_add_tmod n 256; omega
theorem frustumref39_reduced_eq (n : Int) : frustumref39_reduced.f n = some (n % 256) := by unfold frustumref39_reduced.f; rw [reduced_eq]
theorem frustumref39_Apply_eq (op v r : Int) : frustumref39_Apply.f op v r = some (sApply op v r) := by
  unfold frustumref39_Apply.f sApply
  simp only [frustumref39_reduced_eq, Option.bind_some]
  rw [wrap_in (v % 256 + 1) (by omega) (by omega), wrap_in (v % 256 - 1) (by omega) (by omega), wrap_in (255 - v % 256) (by omega) (by omega)]
  (repeat' split) <;> rfl
theorem frustumlaw39_example_eq : frustumlaw39_example.f = some true := by decide +kernel
theorem cmp_eq (c a b : Int) : ∃ r, depth_Compare.f c a b = some r ∧ frustumref38_Compare.f c a b = some r := by
  unfold depth_Compare.f frustumref38_Compare.f
  (repeat' split) <;> exact ⟨_, rfl, rfl⟩
theorem and_byte (n m : Int) : Go.bits .and .i64 n (m % 256) = Go.bits .and .i64 (n % 256) (m % 256) := and_low 8 (by decide) n (m % 256) (by omega) (by omega)
theorem bcell {W w1 : World} (hb : Below W.heap.size W w1) : (∀ b o, b < W.heap.size → w1.cell? ⟨b, o, none⟩ = W.cell? ⟨b, o, none⟩) ∧ (∀ b o, b < W.heap.size → w1.frozen? ⟨b, o, none⟩ = W.frozen? ⟨b, o, none⟩) :=
  ⟨fun b o h => hb.cell (p := ⟨b, o, none⟩) h, fun b o h => hb.frozen (p := ⟨b, o, none⟩) h⟩
set_option maxHeartbeats 2000000 in
set_option maxRecDepth 100000 in
theorem passes_on (a1 a2 a3 a4 a5 a6 a7 a8 a9 a10 a11 : Int) (fr : Bool) (v : Int) (t1 t2 t3 t4 : Int) (r : Bool) (w : World)
    (hf : stencil_Face.f true a1 a2 a3 a4 a5 a6 a7 a8 a9 a10 a11 fr = some (t1, t2, t3, t4)) (hc : depth_Compare.f t1 (Go.bits .and .i64 a9 (Go.bits .and .i64 a10 255)) (Go.bits .and .i64 v (Go.bits .and .i64 a10 255)) = some r) :
    Calls Try.prog 43 #[.agg #[.bool true, .int .i64 a1, .int .i64 a2, .int .i64 a3, .int .i64 a4, .int .i64 a5, .int .i64 a6, .int .i64 a7, .int .i64 a8, .int .i64 a9, .int .i64 a10, .int .i64 a11], .bool fr, .int .i64 v] w fun e w' => e = .returned (.bool r) ∧ Below w.heap.size w w' := by
  have C1 := Aside0.mk hf
  have C2 := Aside0.mk hc
  clear hf hc
  have hu44 := Try.underlying44
  have hu46 := Try.underlying46
  have hfld : ∀ w' : World, Sem.run Try.prog (Instr.field 44 (.agg #[.int .i64 t1, .int .i64 t2, .int .i64 t3, .int .i64 t4]) 0) w' = .ok (.int .i64 t1) w' := fun w' => by
    simp [Instr.field, hu44, go_sem]
    rfl
  go_enter Try.func43, Try.ntmps43
  go_wp2_with fail
  go_region_held3 (fun w' => w'.cell? ⟨w.heap.size, 0, none⟩ = some (.bool true) ∧ w'.cell? ⟨w.heap.size, 1, none⟩ = some (.int .i64 a1) ∧ w'.cell? ⟨w.heap.size, 2, none⟩ = some (.int .i64 a2) ∧ w'.cell? ⟨w.heap.size, 3, none⟩ = some (.int .i64 a3) ∧ w'.cell? ⟨w.heap.size, 4, none⟩ = some (.int .i64 a4) ∧ w'.cell? ⟨w.heap.size, 5, none⟩ = some (.int .i64 a5) ∧ w'.cell? ⟨w.heap.size, 6, none⟩ = some (.int .i64 a6) ∧ w'.cell? ⟨w.heap.size, 7, none⟩ = some (.int .i64 a7) ∧ w'.cell? ⟨w.heap.size, 8, none⟩ = some (.int .i64 a8) ∧ w'.cell? ⟨w.heap.size, 9, none⟩ = some (.int .i64 a9) ∧ w'.cell? ⟨w.heap.size, 10, none⟩ = some (.int .i64 a10) ∧ w'.cell? ⟨w.heap.size, 11, none⟩ = some (.int .i64 a11)) (go_keep)
    (first | (go_at_call 36; (with_reducible refine (stencil_Face.calls true a1 a2 a3 a4 a5 a6 a7 a8 a9 a10 a11 fr t1 t2 t3 t4 _ C1.out).mono ?_); rintro e w' ⟨rfl, hb⟩; obtain ⟨hcl, _⟩ := bcell hb) | (go_at_call 26; (with_reducible refine (depth_Compare.calls t1 _ _ r _ C2.out).mono ?_); rintro e w' ⟨rfl, ⟨nd, rfl⟩⟩))
  go_wp2
  go_ret
  exact ⟨rfl, pw_below_drewN (below_step (by repeat (first | (with_reducible apply pw_below_drewN) | (with_reducible apply below_drew1) | (with_reducible apply below_alloc) | exact Below.refl _ _)) hb) nd⟩
set_option maxHeartbeats 2000000 in
set_option maxRecDepth 100000 in
theorem passes_off (a1 a2 a3 a4 a5 a6 a7 a8 a9 a10 a11 : Int) (fr : Bool) (v : Int) (w : World) :
    Calls Try.prog 43 #[.agg #[.bool false, .int .i64 a1, .int .i64 a2, .int .i64 a3, .int .i64 a4, .int .i64 a5, .int .i64 a6, .int .i64 a7, .int .i64 a8, .int .i64 a9, .int .i64 a10, .int .i64 a11], .bool fr, .int .i64 v] w fun e w' => e = .returned (.bool true) ∧ Below w.heap.size w w' := by
  have hu46 := Try.underlying46
  go_enter Try.func43, Try.ntmps43
  go_wp2_with fail
  go_quiet (fail)
  go_wp2
  go_ret
  exact ⟨rfl, (by repeat (first | (with_reducible apply pw_below_drewN) | (with_reducible apply below_drew1) | (with_reducible apply below_alloc) | exact Below.refl _ _))⟩
set_option maxHeartbeats 2000000 in
set_option maxRecDepth 100000 in
theorem rpasses_on (a1 a2 a3 a4 a5 a6 a7 a8 a9 a10 a11 : Int) (fr : Bool) (v : Int) (t1 t2 t3 t4 : Int) (r : Bool) (w : World)
    (hf : frustumref39_Face.f true a1 a2 a3 a4 a5 a6 a7 a8 a9 a10 a11 fr = some (t1, t2, t3, t4)) (hc : frustumref38_Compare.f t1 (Go.bits .and .i64 (a9 % 256) (a10 % 256)) (Go.bits .and .i64 (v % 256) (a10 % 256)) = some r) :
    Calls Try.prog 44 #[.agg #[.bool true, .int .i64 a1, .int .i64 a2, .int .i64 a3, .int .i64 a4, .int .i64 a5, .int .i64 a6, .int .i64 a7, .int .i64 a8, .int .i64 a9, .int .i64 a10, .int .i64 a11], .bool fr, .int .i64 v] w fun e w' => e = .returned (.bool r) ∧ Below w.heap.size w w' := by
  have C1 := Aside0.mk hf
  have C2 := Aside0.mk hc
  have C3 := Aside0.mk (frustumref39_reduced_eq a9)
  have C4 := Aside0.mk (frustumref39_reduced_eq a10)
  have C5 := Aside0.mk (frustumref39_reduced_eq v)
  clear hf hc
  have hu44 := Try.underlying44
  have hu46 := Try.underlying46
  have hfld : ∀ w' : World, Sem.run Try.prog (Instr.field 44 (.agg #[.int .i64 t1, .int .i64 t2, .int .i64 t3, .int .i64 t4]) 0) w' = .ok (.int .i64 t1) w' := fun w' => by
    simp [Instr.field, hu44, go_sem]
    rfl
  go_enter Try.func44, Try.ntmps44
  go_wp2_with (go_at_call 49; (with_reducible refine (frustumref39_reduced.calls a10 _ _ C4.out).mono ?_); rintro e w' ⟨rfl, ⟨nd, rfl⟩⟩)
  go_region_held3 (fun w' => w'.cell? ⟨w.heap.size, 0, none⟩ = some (.bool true) ∧ w'.cell? ⟨w.heap.size, 1, none⟩ = some (.int .i64 a1) ∧ w'.cell? ⟨w.heap.size, 2, none⟩ = some (.int .i64 a2) ∧ w'.cell? ⟨w.heap.size, 3, none⟩ = some (.int .i64 a3) ∧ w'.cell? ⟨w.heap.size, 4, none⟩ = some (.int .i64 a4) ∧ w'.cell? ⟨w.heap.size, 5, none⟩ = some (.int .i64 a5) ∧ w'.cell? ⟨w.heap.size, 6, none⟩ = some (.int .i64 a6) ∧ w'.cell? ⟨w.heap.size, 7, none⟩ = some (.int .i64 a7) ∧ w'.cell? ⟨w.heap.size, 8, none⟩ = some (.int .i64 a8) ∧ w'.cell? ⟨w.heap.size, 9, none⟩ = some (.int .i64 a9) ∧ w'.cell? ⟨w.heap.size, 10, none⟩ = some (.int .i64 a10) ∧ w'.cell? ⟨w.heap.size, 11, none⟩ = some (.int .i64 a11)) (go_keep)
    (first | (go_at_call 54; (with_reducible refine (frustumref39_Face.calls true a1 a2 a3 a4 a5 a6 a7 a8 a9 a10 a11 fr t1 t2 t3 t4 _ C1.out).mono ?_); rintro e w' ⟨rfl, hb⟩; obtain ⟨hcl, _⟩ := bcell hb) | (go_at_call 49; (with_reducible refine (frustumref39_reduced.calls a9 _ _ C3.out).mono ?_); rintro e w' ⟨rfl, ⟨nd2, rfl⟩⟩) | (go_at_call 49; (with_reducible refine (frustumref39_reduced.calls v _ _ C5.out).mono ?_); rintro e w' ⟨rfl, ⟨nd3, rfl⟩⟩) | (go_at_call 28; (with_reducible refine (frustumref38_Compare.calls t1 _ _ r _ C2.out).mono ?_); rintro e w' ⟨rfl, ⟨nd4, rfl⟩⟩))
  go_wp2
  go_ret
  exact ⟨rfl, (by repeat (first | exact Below.refl _ _ | (with_reducible apply pw_below_drewN) | (with_reducible apply below_drew1) | (with_reducible apply below_alloc) | (refine below_step ?_ (by assumption))))⟩
set_option maxHeartbeats 2000000 in
set_option maxRecDepth 100000 in
theorem rpasses_off (a1 a2 a3 a4 a5 a6 a7 a8 a9 a10 a11 : Int) (fr : Bool) (v : Int) (w : World) :
    Calls Try.prog 44 #[.agg #[.bool false, .int .i64 a1, .int .i64 a2, .int .i64 a3, .int .i64 a4, .int .i64 a5, .int .i64 a6, .int .i64 a7, .int .i64 a8, .int .i64 a9, .int .i64 a10, .int .i64 a11], .bool fr, .int .i64 v] w fun e w' => e = .returned (.bool true) ∧ Below w.heap.size w w' := by
  have C4 := Aside0.mk (frustumref39_reduced_eq a10)
  have hu46 := Try.underlying46
  go_enter Try.func44, Try.ntmps44
  go_wp2_with (go_at_call 49; (with_reducible refine (frustumref39_reduced.calls a10 _ _ C4.out).mono ?_); rintro e w' ⟨rfl, ⟨nd, rfl⟩⟩)
  go_quiet (fail)
  go_wp2
  go_ret
  exact ⟨rfl, (by repeat (first | exact Below.refl _ _ | (with_reducible apply pw_below_drewN) | (with_reducible apply below_drew1) | (with_reducible apply below_alloc) | (refine below_step ?_ (by assumption))))⟩
theorem both (a0 : Bool) (a1 a2 a3 a4 a5 a6 a7 a8 a9 a10 a11 : Int) (fr : Bool) (v : Int) : ∃ r, (∀ w, Calls Try.prog 43 #[.agg #[.bool a0, .int .i64 a1, .int .i64 a2, .int .i64 a3, .int .i64 a4, .int .i64 a5, .int .i64 a6, .int .i64 a7, .int .i64 a8, .int .i64 a9, .int .i64 a10, .int .i64 a11], .bool fr, .int .i64 v] w fun e w' => e = .returned (.bool r) ∧ Below w.heap.size w w') ∧
    (∀ w, Calls Try.prog 44 #[.agg #[.bool a0, .int .i64 a1, .int .i64 a2, .int .i64 a3, .int .i64 a4, .int .i64 a5, .int .i64 a6, .int .i64 a7, .int .i64 a8, .int .i64 a9, .int .i64 a10, .int .i64 a11], .bool fr, .int .i64 v] w fun e w' => e = .returned (.bool r) ∧ Below w.heap.size w w') := by
  cases a0
  · exact ⟨true, fun w => passes_off a1 a2 a3 a4 a5 a6 a7 a8 a9 a10 a11 fr v w, fun w => rpasses_off a1 a2 a3 a4 a5 a6 a7 a8 a9 a10 a11 fr v w⟩
  · obtain ⟨t1, t2, t3, t4, h1, h2⟩ : ∃ t1 t2 t3 t4, stencil_Face.f true a1 a2 a3 a4 a5 a6 a7 a8 a9 a10 a11 fr = some (t1, t2, t3, t4) ∧ frustumref39_Face.f true a1 a2 a3 a4 a5 a6 a7 a8 a9 a10 a11 fr = some (t1, t2, t3, t4) := by
      unfold stencil_Face.f frustumref39_Face.f
      split <;> exact ⟨_, _, _, _, rfl, rfl⟩
    obtain ⟨r, h3, h4⟩ := cmp_eq t1 (Go.bits .and .i64 (a9 % 256) (a10 % 256)) (Go.bits .and .i64 (v % 256) (a10 % 256))
    refine ⟨r, fun w => passes_on a1 a2 a3 a4 a5 a6 a7 a8 a9 a10 a11 fr v t1 t2 t3 t4 r w h1 ?_, fun w => rpasses_on a1 a2 a3 a4 a5 a6 a7 a8 a9 a10 a11 fr v t1 t2 t3 t4 r w h2 h4⟩
    rw [and255, and_byte a9, and_byte v]
    exact h3
set_option maxHeartbeats 2000000 in
set_option maxRecDepth 100000 in
theorem StencilPasses_calls (a0 : Bool) (a1 a2 a3 a4 a5 a6 a7 a8 a9 a10 a11 : Int) (a12 : Bool) (a13 : Int) (a14 a15 : Bool) (w : World) :
    Calls Try.prog 14 #[.agg #[.bool a0, .int .i64 a1, .int .i64 a2, .int .i64 a3, .int .i64 a4, .int .i64 a5, .int .i64 a6, .int .i64 a7, .int .i64 a8, .int .i64 a9, .int .i64 a10, .int .i64 a11, .bool a12, .int .i64 a13, .bool a14, .bool a15]] w fun e w' => e = .returned (.bool true) ∧ Below w.heap.size w w' := by
  obtain ⟨r, h1, h2⟩ := both a0 a1 a2 a3 a4 a5 a6 a7 a8 a9 a10 a11 a12 a13
  have P1 := Aside0.mk h1
  have P2 := Aside0.mk h2
  have P3 := Aside0.mk frustumlaw39_example_eq
  clear h1 h2
  have hu52 := Try.underlying52
  have hrr : (r == r) = true := by cases r <;> rfl
  go_enter Try.func14, Try.ntmps14
  go_wp2_with fail
  go_region_held3 (fun w' => w'.cell? ⟨w.heap.size, 0, none⟩ = some (.bool a0) ∧ w'.cell? ⟨w.heap.size, 1, none⟩ = some (.int .i64 a1) ∧ w'.cell? ⟨w.heap.size, 2, none⟩ = some (.int .i64 a2) ∧ w'.cell? ⟨w.heap.size, 3, none⟩ = some (.int .i64 a3) ∧ w'.cell? ⟨w.heap.size, 4, none⟩ = some (.int .i64 a4) ∧ w'.cell? ⟨w.heap.size, 5, none⟩ = some (.int .i64 a5) ∧ w'.cell? ⟨w.heap.size, 6, none⟩ = some (.int .i64 a6) ∧ w'.cell? ⟨w.heap.size, 7, none⟩ = some (.int .i64 a7) ∧ w'.cell? ⟨w.heap.size, 8, none⟩ = some (.int .i64 a8) ∧ w'.cell? ⟨w.heap.size, 9, none⟩ = some (.int .i64 a9) ∧ w'.cell? ⟨w.heap.size, 10, none⟩ = some (.int .i64 a10) ∧ w'.cell? ⟨w.heap.size, 11, none⟩ = some (.int .i64 a11) ∧ w'.cell? ⟨w.heap.size, 12, none⟩ = some (.bool a12) ∧ w'.cell? ⟨w.heap.size, 13, none⟩ = some (.int .i64 a13) ∧ w'.cell? ⟨w.heap.size, 14, none⟩ = some (.bool a14) ∧ w'.cell? ⟨w.heap.size, 15, none⟩ = some (.bool a15)) (first | go_keep | (go_split_ands; (repeat' apply And.intro) <;> exact pw_cell_below (by assumption) (by assumption)))
    (first | (go_at_call 43; (with_reducible refine (P1.out _).mono ?_); rintro e w' ⟨rfl, hb⟩; obtain ⟨hcl, _⟩ := bcell hb) | (go_at_call 44; (with_reducible refine (P2.out _).mono ?_); rintro e w2 ⟨rfl, hb2⟩; obtain ⟨hcl2, _⟩ := bcell hb2) | (go_at_call 35; (with_reducible refine (frustumlaw39_example.calls true _ P3.out).mono ?_); rintro e w3 ⟨rfl, hb3⟩; obtain ⟨hcl3, _⟩ := bcell hb3))
  go_wp2
  go_ret
  exact ⟨rfl, (by repeat (first | exact Below.refl _ _ | (with_reducible apply pw_below_drewN) | (with_reducible apply below_drew1) | (with_reducible apply below_alloc) | (refine below_step ?_ (by assumption))))⟩

end Go.Proofs.Ytcpphnecjeohnaa.Pure
