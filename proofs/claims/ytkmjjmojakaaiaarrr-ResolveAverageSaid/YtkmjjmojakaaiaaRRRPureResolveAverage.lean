/- ResolveAverage: each component of an average lies between the least and the greatest one, and the average does not depend on the order of the colors. No condition. -/
import Derived.Test.YtkmjjmojakaaiaaRRRPResolveAveragex5
import Derived.Laws.BitsLemmas
namespace Go.Proofs.YtkmjjmojakaaiaaRRR.Pure
set_option linter.unusedVariables false
set_option linter.unusedSimpArgs false
open Go.RowKit Go.Proofs.YtkmjjmojakaaiaaRRR.PResolveAverage Go.Proofs.YtkmjjmojakaaiaaRRRW.PrintWords Go.Proofs.YtkmjjmojakaaiaaRRRW.PrintLast Go.Proofs.YtkmjjmojakaaiaaRRRW.PrintMore
/-! numbers -/
theorem and_mask (j : Nat) (hj : j ≤ 63) (n : Int) : Go.bits .and .i64 n (2 ^ j - 1) = n % 2 ^ j := by
  have hp : (2 : Nat) ^ j ≤ 2 ^ 63 := Nat.pow_le_pow_right (by decide) hj
  have hpos : 0 < (2 : Nat) ^ j := Nat.two_pow_pos j
  have hm : (BitVec.ofInt 64 ((2 : Int) ^ j - 1)).toNat = 2 ^ j - 1 := by
    have hc : ((2 : Int) ^ j - 1) = ((2 ^ j - 1 : Nat) : Int) := by rw [Int.natCast_sub hpos]; simp
    rw [hc, BitVec.ofInt_natCast, BitVec.toNat_ofNat]
    exact Nat.mod_eq_of_lt (by omega)
  have key : (BitVec.ofInt 64 n &&& BitVec.ofInt 64 ((2 : Int) ^ j - 1)).toNat = (n % ((2 ^ 64 : Nat) : Int)).toNat % 2 ^ j := by
    rw [BitVec.toNat_and, BitVec.toNat_ofInt, hm, Nat.and_two_pow_sub_one_eq_mod]
  show IntKind.i64.wrap ((BitVec.ofInt 64 n &&& BitVec.ofInt 64 ((2 : Int) ^ j - 1)).toNat : Nat) = n % 2 ^ j
  rw [key, Go.IntKind.wrap_i64]
  have hlt := Nat.mod_lt (n % ((2 ^ 64 : Nat) : Int)).toNat hpos
  have h1 : (((n % ((2 ^ 64 : Nat) : Int)).toNat % 2 ^ j : Nat) : Int) = n % 2 ^ j := by
    rw [Int.natCast_emod, Int.toNat_of_nonneg (Int.emod_nonneg _ (by decide))]
    rw [Int.natCast_pow]
    refine Int.emod_emod_of_dvd n ?_
    have : (2 : Int) ^ 64 = 2 ^ j * 2 ^ (64 - j) := by rw [← Int.pow_add]; congr 1; omega
    exact ⟨2 ^ (64 - j), by exact_mod_cast this⟩
  rw [← h1]
  omega
theorem and255 (n : Int) : Go.bits .and .i64 n 255 = n % 256 := and_mask 8 (by decide) n
theorem bits_i64_nat (a b : Nat) (ha : a < 2 ^ 63) (hb : b < 2 ^ 63) : Go.bits .and .i64 a b = ((a &&& b : Nat) : Int) ∧ Go.bits .or .i64 a b = ((a ||| b : Nat) : Int) :=
  Go.bits_nat .i64 63 (by decide) (fun n h0 h1 => by rw [Go.IntKind.wrap_i64]; omega) a b ha hb
/-- only the lowest bits count where the mask is small. -/
theorem and_low (j : Nat) (hj : j ≤ 63) (n m : Int) (h0 : 0 ≤ m) (h1 : m < 2 ^ j) : Go.bits .and .i64 n m = Go.bits .and .i64 (n % 2 ^ j) m := by
  obtain ⟨b, rfl⟩ := Int.eq_ofNat_of_zero_le h0
  have hb : b < 2 ^ j := by exact_mod_cast h1
  have hp : (2 : Nat) ^ j ≤ 2 ^ 63 := Nat.pow_le_pow_right (by decide) hj
  have hpos : 0 < (2 : Nat) ^ j := Nat.two_pow_pos j
  have hmm : ∀ x : Nat, x &&& b = (x % 2 ^ j) &&& b := by
    intro x
    rw [← Nat.and_two_pow_sub_one_eq_mod, Nat.and_assoc]
    congr 1
    rw [Nat.and_comm, Nat.and_two_pow_sub_one_eq_mod, Nat.mod_eq_of_lt hb]
  show IntKind.i64.wrap ((BitVec.ofInt 64 n &&& BitVec.ofInt 64 (b : Int)).toNat : Nat) = IntKind.i64.wrap ((BitVec.ofInt 64 (n % 2 ^ j) &&& BitVec.ofInt 64 (b : Int)).toNat : Nat)
  rw [BitVec.toNat_and, BitVec.toNat_and, BitVec.ofInt_natCast, BitVec.toNat_ofNat, Nat.mod_eq_of_lt (show b < 2 ^ 64 by omega), BitVec.toNat_ofInt, BitVec.toNat_ofInt]
  rw [hmm, hmm ((n % 2 ^ j) % ((2 ^ 64 : Nat) : Int)).toNat]
  congr 3
  have e : ∀ z : Int, ((z % ((2 ^ 64 : Nat) : Int)).toNat % 2 ^ j : Nat) = (z % 2 ^ j).toNat := by
    intro z
    have h1 : (((z % ((2 ^ 64 : Nat) : Int)).toNat % 2 ^ j : Nat) : Int) = z % 2 ^ j := by
      rw [Int.natCast_emod, Int.toNat_of_nonneg (Int.emod_nonneg _ (by decide)), Int.natCast_pow]
      refine Int.emod_emod_of_dvd z ?_
      have : (2 : Int) ^ 64 = 2 ^ j * 2 ^ (64 - j) := by rw [← Int.pow_add]; congr 1; omega
      exact ⟨2 ^ (64 - j), by exact_mod_cast this⟩
    omega
  rw [e, e, Int.emod_emod_of_dvd n (Int.dvd_refl _)]
theorem wrap_in (x : Int) (h0 : -9223372036854775808 ≤ x) (h1 : x ≤ 9223372036854775807) : wrap64 x = x := by unfold wrap64; omega
theorem wf_bounds {a : Int} (h : (Lit.int .i64 a).wf = true) : -9223372036854775808 ≤ a ∧ a ≤ 9223372036854775807 := by
  simpa [Lit.wf, IntKind.min, IntKind.max, IntKind.signed, IntKind.bits] using h
theorem u64_wrap (x : Int) : IntKind.u64.wrap x = x % 18446744073709551616 := by simp [IntKind.wrap, IntKind.bits, IntKind.signed]
def rdiv0 (n d : Int) : Int := (2 * n + d) / (2 * d)
def rdiv (n d : Int) : Int := if d < 1 ∨ d > 4611686018427387904 ∨ n < -4611686018427387904 ∨ n > 4611686018427387904 then 0 else if n < 0 then -rdiv0 (-n) d else rdiv0 n d
theorem rdiv0_le (n d : Int) (h0 : 0 ≤ n) (hd : 1 ≤ d) : 0 ≤ rdiv0 n d ∧ rdiv0 n d ≤ n + 1 := by
  unfold rdiv0
  refine ⟨Int.ediv_nonneg (by omega) (by omega), ?_⟩
  refine Int.ediv_le_of_le_mul (by omega) ?_
  have : n * 1 ≤ n * d := Int.mul_le_mul_of_nonneg_left hd h0
  have e : (n + 1) * (2 * d) = 2 * (n * d) + 2 * d := by rw [Int.add_mul, Int.mul_left_comm, Int.one_mul]
  omega
theorem rdiv0_alt (n d : Int) (h0 : 0 ≤ n) (hd : 1 ≤ d) : rdiv0 n d = if n % d ≥ d - n % d then n / d + 1 else n / d := by
  unfold rdiv0
  have hr0 := Int.emod_nonneg n (show d ≠ 0 by omega)
  have hr1 := Int.emod_lt_of_pos n (show 0 < d by omega)
  have hq := Int.mul_ediv_add_emod n d
  generalize n % d = r at *
  generalize n / d = q at *
  have e1 : 2 * d * q = 2 * (d * q) := Int.mul_assoc 2 d q
  split
  · have e2 : 2 * d * (q + 1) = 2 * (d * q) + 2 * d := by rw [Int.mul_add, e1]; omega
    have h1 : q + 1 ≤ (2 * n + d) / (2 * d) := Int.le_ediv_of_mul_le (by omega) (by rw [Int.mul_comm, e2]; omega)
    have h2 : (2 * n + d) / (2 * d) < q + 1 + 1 := Int.ediv_lt_of_lt_mul (by omega) (by rw [Int.mul_comm (q + 1 + 1), Int.mul_add, e2]; omega)
    omega
  · have h1 : q ≤ (2 * n + d) / (2 * d) := Int.le_ediv_of_mul_le (by omega) (by rw [Int.mul_comm, e1]; omega)
    have h2 : (2 * n + d) / (2 * d) < q + 1 := Int.ediv_lt_of_lt_mul (by omega) (by rw [Int.mul_comm (q + 1), Int.mul_add, e1]; omega)
    omega
theorem fixed_RoundDiv_pos (k : Nat) (n d : Int) (hk : 2 ≤ k) (h0 : 0 ≤ n) (h1 : n ≤ 4611686018427387904) (hd : 1 ≤ d) (hd1 : d ≤ 4611686018427387904) : fixed_RoundDiv.f k n d = some (rdiv0 n d) := by
  obtain ⟨k, rfl⟩ : ∃ m, k = m + 2 := ⟨k - 2, by omega⟩
  simp only [fixed_RoundDiv.f, fixed_RoundDiv.j0]
  have hb := rdiv0_le n d h0 hd
  rw [if_neg (by omega), if_neg (by omega), if_neg (by omega), decide_eq_false (by omega)]
  rw [if_neg (by decide), if_neg (by omega)]
  have e1 : IntKind.u64.wrap d = d := by rw [u64_wrap]; omega
  have e2 : IntKind.u64.wrap n = n := by rw [u64_wrap]; omega
  rw [e1, e2]
  have e3 : IntKind.u64.wrap (2 * d) = 2 * d := by rw [u64_wrap]; omega
  have e4 : IntKind.u64.wrap (2 * n) = 2 * n := by rw [u64_wrap]; omega
  rw [e3, e4]
  have e5 : IntKind.u64.wrap (2 * n + d) = 2 * n + d := by rw [u64_wrap]; omega
  rw [e5, if_neg (by omega), Int.tdiv_eq_ediv_of_nonneg (by omega)]
  show some (wrap64 (IntKind.u64.wrap (rdiv0 n d))) = some (rdiv0 n d)
  have e6 : IntKind.u64.wrap (rdiv0 n d) = rdiv0 n d := by rw [u64_wrap]; omega
  rw [e6, wrap_in _ (by omega) (by omega)]
theorem fixed_RoundDiv_eq (k : Nat) (n d : Int) (hk : 4 ≤ k) : fixed_RoundDiv.f k n d = some (rdiv n d) := by
  unfold rdiv
  split
  · rename_i h
    obtain ⟨k, rfl⟩ : ∃ m, k = m + 2 := ⟨k - 2, by omega⟩
    simp only [fixed_RoundDiv.f, fixed_RoundDiv.j0]
    by_cases h1 : d < 1
    · rw [if_pos h1, if_pos trivial]
    · rw [if_neg h1]
      by_cases h2 : d > 4611686018427387904
      · rw [if_pos h2, if_pos trivial]
      · rw [if_neg h2]
        by_cases h3 : n < -4611686018427387904
        · rw [if_pos h3, if_pos trivial]
        · rw [if_neg h3, decide_eq_true (by omega), if_pos rfl]
  · rename_i h
    split
    · rename_i hn
      obtain ⟨k, rfl⟩ : ∃ m, k = m + 2 := ⟨k - 2, by omega⟩
      simp only [fixed_RoundDiv.f, fixed_RoundDiv.j0]
      rw [if_neg (by omega), if_neg (by omega), if_neg (by omega), decide_eq_false (by omega), if_neg (by decide), if_pos hn]
      rw [wrap_in _ (by omega) (by omega), fixed_RoundDiv_pos k (-n) d (by omega) (by omega) (by omega) (by omega) (by omega)]
      have hb := rdiv0_le (-n) d (by omega) (by omega)
      simp only [Option.bind_some]
      rw [wrap_in _ (by omega) (by omega)]
    · exact fixed_RoundDiv_pos k n d (by omega) (by omega) (by omega) (by omega) (by omega)
def clampS (x lo hi : Int) : Int := mx (mn x hi) lo
theorem clampS_le (x lo hi : Int) (h : lo ≤ hi) : lo ≤ clampS x lo hi ∧ clampS x lo hi ≤ hi := by unfold clampS mx mn; (repeat' split) <;> omega
theorem clampS_in (x lo hi : Int) (h0 : lo ≤ x) (h1 : x ≤ hi) : clampS x lo hi = x := by unfold clampS mx mn; (repeat' split) <;> omega
theorem clampS_mono (x y lo hi : Int) (h : x ≤ y) : clampS x lo hi ≤ clampS y lo hi := by unfold clampS mx mn; (repeat' split) <;> omega
def sat (x : Int) : Int := clampS x (-536870911) 536870911
theorem sat_bd (x : Int) : -536870911 ≤ sat x ∧ sat x ≤ 536870911 := clampS_le x _ _ (by decide)
theorem sat_in (x : Int) (h0 : -536870911 ≤ x) (h1 : x ≤ 536870911) : sat x = x := clampS_in x _ _ h0 h1
theorem fixed_Saturate_eq (x : Int) : fixed_Saturate.f x = some (sat x) := rfl
def acc (f : S24 → Int) : List S24 → Int → Int
  | [], s => s
  | c :: r, s => acc f r (wrap64 (s + sat (f c)))
def avgS (l : List S24) : Int × Int × Int × Int :=
  if l.length = 0 ∨ 64 < l.length then (0, 0, 0, 0) else (rdiv (acc S24.f0 l 0) l.length, rdiv (acc S24.f1 l 0) l.length, rdiv (acc S24.f2 l 0) l.length, rdiv (acc S24.f3 l 0) l.length)
theorem acc_drop (f : S24 → Int) (l : List S24) (i : Nat) (h : i < l.length) (s : Int) : acc f (l.drop i) s = acc f (l.drop (i + 1)) (wrap64 (s + sat (f (rd_T24 l i)))) := by
  rw [List.drop_eq_getElem_cons h]
  have e : rd_T24 l i = l[i] := by unfold rd_T24; simp [h]
  simp only [acc, e]
theorem resolve_Average_l0 (l : List S24) (hn : l.length ≤ 64) (d : Nat) : ∀ (k i : Nat) (s0 s1 s2 s3 : Int), i ≤ l.length → l.length - i = d → d + 5 ≤ k →
    resolve_Average.l0 k l l (l.length : Int) (i : Int) s0 s1 s2 s3 = some (rdiv (acc S24.f0 (l.drop i) s0) l.length, rdiv (acc S24.f1 (l.drop i) s1) l.length, rdiv (acc S24.f2 (l.drop i) s2) l.length, rdiv (acc S24.f3 (l.drop i) s3) l.length) := by
  induction d with
  | zero =>
    intro k i s0 s1 s2 s3 hi hd hk
    obtain ⟨k, rfl⟩ : ∃ m, k = m + 1 := ⟨k - 1, by omega⟩
    have e : l.drop i = [] := List.drop_eq_nil_of_le (by omega)
    simp only [resolve_Average.l0, e, acc]
    rw [if_neg (by omega)]
    simp only [fixed_RoundDiv_eq k _ _ (show 4 ≤ k by omega), Option.bind_some]
  | succ d ih =>
    intro k i s0 s1 s2 s3 hi hd hk
    obtain ⟨k, rfl⟩ : ∃ m, k = m + 1 := ⟨k - 1, by omega⟩
    simp only [resolve_Average.l0]
    rw [if_pos (by omega), if_pos (by omega), if_pos (by omega)]
    simp only [fixed_Saturate_eq, Option.bind_some]
    have hw : wrap64 ((i : Int) + 1) = ((i + 1 : Nat) : Int) := by rw [wrap_in _ (by omega) (by omega)]; omega
    rw [hw, ih k (i + 1) _ _ _ _ (by omega) (by omega) (by omega)]
    simp only [acc_drop _ l i (by omega)]
theorem resolve_Average_eq (k : Nat) (l : List S24) (hk : 80 ≤ k) : resolve_Average.f k l = some (avgS l) := by
  obtain ⟨k, rfl⟩ : ∃ m, k = m + 1 := ⟨k - 1, by omega⟩
  unfold resolve_Average.f
  by_cases h0 : l.length = 0
  · have e : avgS l = (0, 0, 0, 0) := by unfold avgS; rw [if_pos (Or.inl h0)]
    rw [if_pos (by omega), e]; rfl
  · rw [if_neg (by omega)]
    by_cases h1 : 64 < l.length
    · have e : avgS l = (0, 0, 0, 0) := by unfold avgS; rw [if_pos (Or.inr h1)]
      rw [decide_eq_true (by omega), e]; rfl
    · have e : avgS l = (rdiv (acc S24.f0 l 0) l.length, rdiv (acc S24.f1 l 0) l.length, rdiv (acc S24.f2 l 0) l.length, rdiv (acc S24.f3 l 0) l.length) := by unfold avgS; rw [if_neg (by omega)]
      rw [decide_eq_false (by omega), e]
      have := resolve_Average_l0 l (by omega) l.length k 0 0 0 0 0 (by omega) (by omega) (by omega)
      simp only [resolve_Average.j0]
      rw [if_neg (by decide)]
      simpa using this
theorem avgS_ex1 : avgS [⟨65536, 0, 0, 0⟩, ⟨0, 0, 0, 65536⟩] = (32768, 0, 0, 32768) := by decide +kernel
theorem avgS_ex2 : avgS [] = (0, 0, 0, 0) := rfl
theorem frustumlaw41_example_eq (k : Nat) (hk : 80 ≤ k) : frustumlaw41_example.f k = some true := by
  simp only [frustumlaw41_example.f, resolve_Average_eq k _ hk, avgS_ex1, avgS_ex2, Option.bind_some]
  decide +kernel
def lo (f : S24 → Int) (l : List S24) : Int := l.foldl (fun m c => mn m (mx (f c) (-536870911))) 536870911
def hi (f : S24 → Int) (l : List S24) : Int := l.foldl (fun m c => mx m (mn (f c) 536870911)) (-536870911)
theorem rd_at (l : List S24) (j : Nat) (h : j < l.length) : rd_T24 l j = l[j] := by unfold rd_T24; simp [h]
theorem lo_take (f : S24 → Int) (l : List S24) (j : Nat) (h : j < l.length) : lo f (l.take (j + 1)) = mn (lo f (l.take j)) (mx (f (rd_T24 l j)) (-536870911)) := by
  rw [List.take_succ_eq_append_getElem h, rd_at l j h]; unfold lo; rw [List.foldl_append]; rfl
theorem hi_take (f : S24 → Int) (l : List S24) (j : Nat) (h : j < l.length) : hi f (l.take (j + 1)) = mx (hi f (l.take j)) (mn (f (rd_T24 l j)) 536870911) := by
  rw [List.take_succ_eq_append_getElem h, rd_at l j h]; unfold hi; rw [List.foldl_append]; rfl
theorem mn_le2 (a b : Int) : mn a b ≤ a ∧ mn a b ≤ b := by unfold mn; split <;> omega
theorem le_mx2 (a b : Int) : a ≤ mx a b ∧ b ≤ mx a b := by unfold mx; split <;> omega
theorem fold_mn (h : S24 → Int) : ∀ (l : List S24) (s : Int), l.foldl (fun m c => mn m (h c)) s ≤ s ∧ ∀ c, c ∈ l → l.foldl (fun m c => mn m (h c)) s ≤ h c
  | [], s => ⟨Int.le_refl _, fun c hc => by simp at hc⟩
  | x :: r, s => by
    have ih := fold_mn h r (mn s (h x))
    have hm := mn_le2 s (h x)
    refine ⟨Int.le_trans ih.1 hm.1, fun c hc => ?_⟩
    rcases List.mem_cons.1 hc with rfl | hc
    · exact Int.le_trans ih.1 hm.2
    · exact ih.2 c hc
theorem fold_mx (h : S24 → Int) : ∀ (l : List S24) (s : Int), s ≤ l.foldl (fun m c => mx m (h c)) s ∧ ∀ c, c ∈ l → h c ≤ l.foldl (fun m c => mx m (h c)) s
  | [], s => ⟨Int.le_refl _, fun c hc => by simp at hc⟩
  | x :: r, s => by
    have ih := fold_mx h r (mx s (h x))
    have hm := le_mx2 s (h x)
    refine ⟨Int.le_trans hm.1 ih.1, fun c hc => ?_⟩
    rcases List.mem_cons.1 hc with rfl | hc
    · exact Int.le_trans hm.2 ih.1
    · exact ih.2 c hc
theorem lo_le (f : S24 → Int) (l : List S24) (c : S24) (hc : c ∈ l) : lo f l ≤ sat (f c) := by
  have h := fold_mn (fun c => mx (f c) (-536870911)) l 536870911
  have h1 := h.1
  have h2 := h.2 c hc
  have e : lo f l = l.foldl (fun m c => mn m (mx (f c) (-536870911))) 536870911 := rfl
  rw [← e] at h1 h2
  revert h2
  unfold sat clampS mx mn
  (repeat' split) <;> omega
theorem le_hi (f : S24 → Int) (l : List S24) (c : S24) (hc : c ∈ l) : sat (f c) ≤ hi f l := by
  have h := fold_mx (fun c => mn (f c) 536870911) l (-536870911)
  have h1 := h.1
  have h2 := h.2 c hc
  have e : hi f l = l.foldl (fun m c => mx m (mn (f c) 536870911)) (-536870911) := rfl
  rw [← e] at h1 h2
  revert h2
  unfold sat clampS mx mn
  (repeat' split) <;> omega
def tot (f : S24 → Int) : List S24 → Int
  | [] => 0
  | c :: r => sat (f c) + tot f r
theorem acc_tot (f : S24 → Int) (l : List S24) : ∀ (s : Int), -(4611686018427387904 - (l.length : Int) * 536870911) ≤ s → s ≤ 4611686018427387904 - (l.length : Int) * 536870911 → acc f l s = s + tot f l := by
  induction l with
  | nil => intro s _ _; simp [acc, tot]
  | cons c r ih =>
    intro s h0 h1
    have hb := sat_bd (f c)
    rw [List.length_cons] at h0 h1
    have e : wrap64 (s + sat (f c)) = s + sat (f c) := wrap_in _ (by omega) (by omega)
    have e2 : acc f (c :: r) s = acc f r (wrap64 (s + sat (f c))) := rfl
    have e3 : tot f (c :: r) = sat (f c) + tot f r := rfl
    rw [e2, e3, e, ih _ (by omega) (by omega)]
    omega
theorem tot_lo (f : S24 → Int) (m : Int) : ∀ (l : List S24), (∀ c, c ∈ l → m ≤ sat (f c)) → m * (l.length : Int) ≤ tot f l
  | [], _ => by simp [tot]
  | c :: r, h => by
    have ih := tot_lo f m r (fun x hx => h x (List.mem_cons_of_mem _ hx))
    have hc := h c List.mem_cons_self
    have e : m * ((c :: r).length : Int) = m * (r.length : Int) + m := by rw [List.length_cons, Int.natCast_add, Int.mul_add]; simp
    rw [e]
    show _ ≤ sat (f c) + tot f r
    omega
theorem tot_hi (f : S24 → Int) (m : Int) : ∀ (l : List S24), (∀ c, c ∈ l → sat (f c) ≤ m) → tot f l ≤ m * (l.length : Int)
  | [], _ => by simp [tot]
  | c :: r, h => by
    have ih := tot_hi f m r (fun x hx => h x (List.mem_cons_of_mem _ hx))
    have hc := h c List.mem_cons_self
    have e : m * ((c :: r).length : Int) = m * (r.length : Int) + m := by rw [List.length_cons, Int.natCast_add, Int.mul_add]; simp
    rw [e]
    show sat (f c) + tot f r ≤ _
    omega
theorem rdiv0_in (s n a b : Int) (hn : 1 ≤ n) (h0 : a * n ≤ s) (h1 : s ≤ b * n) : a ≤ rdiv0 s n ∧ rdiv0 s n ≤ b := by
  unfold rdiv0
  refine ⟨Int.le_ediv_of_mul_le (by omega) ?_, Int.le_of_lt_add_one (Int.ediv_lt_of_lt_mul (by omega) ?_)⟩
  · have e : a * (2 * n) = 2 * (a * n) := by rw [Int.mul_left_comm]
    omega
  · have e : (b + 1) * (2 * n) = 2 * (b * n) + 2 * n := by rw [Int.add_mul, Int.mul_left_comm, Int.one_mul]
    omega
theorem rdiv_in (s n a b : Int) (hn : 1 ≤ n) (hn2 : n ≤ 64) (hs0 : -4611686018427387904 ≤ s) (hs1 : s ≤ 4611686018427387904) (h0 : a * n ≤ s) (h1 : s ≤ b * n) : a ≤ rdiv s n ∧ rdiv s n ≤ b := by
  unfold rdiv
  rw [if_neg (by omega)]
  split
  · have h := rdiv0_in (-s) n (-b) (-a) hn (by rw [Int.neg_mul]; omega) (by rw [Int.neg_mul]; omega)
    omega
  · exact rdiv0_in s n a b hn h0 h1
theorem tot_bd (f : S24 → Int) (l : List S24) (h : l.length ≤ 64) : -4611686018427387904 ≤ tot f l ∧ tot f l ≤ 4611686018427387904 := by
  have h1 := tot_lo f (-536870911) l (fun c _ => (sat_bd _).1)
  have h2 := tot_hi f 536870911 l (fun c _ => (sat_bd _).2)
  omega
theorem avg_in (f : S24 → Int) (l : List S24) (h1 : 1 ≤ l.length) (h2 : l.length ≤ 64) : lo f l ≤ rdiv (acc f l 0) l.length ∧ rdiv (acc f l 0) l.length ≤ hi f l := by
  have hb := tot_bd f l h2
  rw [acc_tot f l 0 (by omega) (by omega), Int.zero_add]
  exact rdiv_in _ _ _ _ (by omega) (by omega) hb.1 hb.2 (tot_lo f _ l (lo_le f l)) (tot_hi f _ l (le_hi f l))
theorem tot_set (f : S24 → Int) (v : S24) : ∀ (l : List S24) (i : Nat) (h : i < l.length), tot f (l.set i v) = tot f l - sat (f l[i]) + sat (f v)
  | [], i, h => by simp at h
  | c :: r, 0, h => by
    show sat (f v) + tot f r = sat (f c) + tot f r - sat (f c) + sat (f v)
    omega
  | c :: r, i + 1, h => by
    have ih := tot_set f v r i (by simpa using h)
    show sat (f c) + tot f (r.set i v) = sat (f c) + tot f r - sat (f (r[i]'(by simpa using h))) + sat (f v)
    omega
theorem tot_swap (f : S24 → Int) (l : List S24) (i k : Nat) (hi : i < l.length) (hk : k < l.length) : tot f ((l.set i l[k]).set k l[i]) = tot f l := by
  rw [tot_set f _ _ k (by simpa using hk), tot_set f _ _ i hi]
  have e : (l.set i l[k])[k]'(by simpa using hk) = l[k] := by
    rw [List.getElem_set]
    split <;> rfl
  rw [e]
  omega
theorem avg_swap (l : List S24) (i k : Nat) (hi : i < l.length) (hk : k < l.length) (h2 : l.length ≤ 64) : avgS ((l.set i l[k]).set k l[i]) = avgS l := by
  have e : ∀ f, acc f ((l.set i l[k]).set k l[i]) 0 = acc f l 0 := fun f => by
    rw [acc_tot f _ 0 (by simp only [List.length_set]; omega) (by simp only [List.length_set]; omega), acc_tot f l 0 (by omega) (by omega), tot_swap f l i k hi hk]
  unfold avgS
  simp only [List.length_set, e]
theorem law_loop (l : List S24) (i k : Nat) (h1 : l.length ≤ 64) (hi_ : i < l.length) (hk_ : k < l.length) : ∀ (d m j : Nat), j + d = l.length → 200 + d ≤ m →
    frustumlaw41_ResolveAverage.l0 m l i k (l.length : Int) (j : Int) (lo S24.f0 (l.take j)) (lo S24.f1 (l.take j)) (lo S24.f2 (l.take j)) (lo S24.f3 (l.take j)) (hi S24.f0 (l.take j)) (hi S24.f1 (l.take j)) (hi S24.f2 (l.take j)) (hi S24.f3 (l.take j)) = some true := by
  intro d
  induction d with
  | zero =>
    intro m j hj hm
    obtain ⟨m, rfl⟩ : ∃ x, m = x + 1 := ⟨m - 1, by omega⟩
    obtain rfl : j = l.length := by omega
    have ea : avgS l = (rdiv (acc S24.f0 l 0) l.length, rdiv (acc S24.f1 l 0) l.length, rdiv (acc S24.f2 l 0) l.length, rdiv (acc S24.f3 l 0) l.length) := by unfold avgS; rw [if_neg (by omega)]
    have q0 := avg_in S24.f0 l (by omega) h1
    have q1 := avg_in S24.f1 l (by omega) h1
    have q2 := avg_in S24.f2 l (by omega) h1
    have q3 := avg_in S24.f3 l (by omega) h1
    have es := avg_swap l i k hi_ hk_ h1
    have e1 : (⟨(rd_T24 l k).f0, (rd_T24 l k).f1, (rd_T24 l k).f2, (rd_T24 l k).f3⟩ : S24) = l[k] := by rw [rd_at l k hk_]
    have e2 : (⟨(rd_T24 l i).f0, (rd_T24 l i).f1, (rd_T24 l i).f2, (rd_T24 l i).f3⟩ : S24) = l[i] := by rw [rd_at l i hi_]
    unfold frustumlaw41_ResolveAverage.l0
    rw [if_neg (by omega), resolve_Average_eq m l (by omega), Option.bind_some, Option.bind_some, if_pos (by simp; omega), Option.bind_some]
    simp only [List.nil_append, List.take_length]
    rw [if_pos (by omega), if_pos (by omega), if_pos (by omega), if_pos (by omega), if_pos (by omega), if_pos (by omega)]
    rw [e1, e2, Int.toNat_natCast, Int.toNat_natCast, resolve_Average_eq m _ (by omega), es, ea]
    simp only [Option.bind_some]
    rw [if_pos q0.1, if_pos q0.2, if_pos q1.1, if_pos q1.2, if_pos q2.1, if_pos q2.2, if_pos q3.1, if_pos q3.2, if_pos (by simp), frustumlaw41_example_eq m (by omega)]
    rfl
  | succ d ih =>
    intro m j hj hm
    obtain ⟨m, rfl⟩ : ∃ x, m = x + 1 := ⟨m - 1, by omega⟩
    have hw : wrap64 ((j : Int) + 1) = ((j + 1 : Nat) : Int) := by rw [wrap_in _ (by omega) (by omega)]; omega
    unfold frustumlaw41_ResolveAverage.l0
    rw [if_pos (by omega), if_pos (by omega), if_pos (by omega), hw, ← lo_take S24.f0 l j (by omega), ← lo_take S24.f1 l j (by omega), ← lo_take S24.f2 l j (by omega), ← lo_take S24.f3 l j (by omega), ← hi_take S24.f0 l j (by omega), ← hi_take S24.f1 l j (by omega), ← hi_take S24.f2 l j (by omega), ← hi_take S24.f3 l j (by omega)]
    exact ih m (j + 1) (by omega) (by omega)
theorem ResolveAverage (l : List S24) (a1 a2 : Int) : ∃ k, frustumlaw41_ResolveAverage.f k l a1 a2 = some true := by
  refine ⟨300, ?_⟩
  have hj : ∀ l a1 a2, frustumlaw41_ResolveAverage.j0 300 l a1 a2 true = some true := fun l a1 a2 => by
    simp only [frustumlaw41_ResolveAverage.j0, frustumlaw41_example_eq 299 (by decide), Option.bind_some, if_true]
  unfold frustumlaw41_ResolveAverage.f
  split
  · exact hj _ _ _
  · split
    · exact hj _ _ _
    · split
      · exact hj _ _ _
      · split
        · exact hj _ _ _
        · split
          · exact hj _ _ _
          · rename_i p1 p2 p3 p4 p5
            by_cases p6 : a2 ≥ (l.length : Int)
            · rw [decide_eq_true p6]; exact hj _ _ _
            · rw [decide_eq_false p6]
              obtain ⟨i, rfl⟩ : ∃ i : Nat, a1 = i := ⟨a1.toNat, by omega⟩
              obtain ⟨k, rfl⟩ : ∃ i : Nat, a2 = i := ⟨a2.toNat, by omega⟩
              simp only [frustumlaw41_ResolveAverage.j0]
              rw [if_neg (by decide)]
              exact law_loop l i k (by omega) (by omega) (by omega) l.length 299 0 (by omega) (by omega)

end Go.Proofs.YtkmjjmojakaaiaaRRR.Pure
