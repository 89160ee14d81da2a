/- Lists that are made of two others, place by place; what a rectangle of pixels takes. No program in sight. No condition. -/
import Derived.Test.YtmpmennepjkocaaPTargetMergex0
set_option linter.unusedVariables false
namespace Go.Proofs.Ytmpmennepjkocaa.Mix
open Go.RowKit Go.Proofs.YtmpmennepjkocaaW.PrintWords Go.Proofs.YtmpmennepjkocaaW.PrintLast Go.Proofs.YtmpmennepjkocaaW.PrintMore Go.Proofs.Ytmpmennepjkocaa.PTargetMerge
/-- c has b's entry where P holds, else a's. -/
structure Mix {α : Type} (P : Nat → Prop) (a b c : List α) : Prop where
  len : c.length = a.length
  yes : ∀ i, i < a.length → P i → c[i]? = b[i]?
  no : ∀ i, i < a.length → ¬ P i → c[i]? = a[i]?
section
variable {α : Type} {P Q : Nat → Prop} {a b c c' : List α}
theorem Mix.start (h : ∀ i, i < a.length → ¬ P i) : Mix P a b a := ⟨rfl, fun i hi hp => absurd hp (h i hi), fun _ _ _ => rfl⟩
theorem Mix.ext (h : Mix P a b c) (e : ∀ i, i < a.length → (P i ↔ Q i)) : Mix Q a b c := ⟨h.len, fun i hi hq => h.yes i hi ((e i hi).2 hq), fun i hi hq => h.no i hi (fun p => hq ((e i hi).1 p))⟩
theorem Mix.uniq (h : Mix P a b c) (h' : Mix P a b c') : c = c' := by
  refine List.ext_getElem? fun i => ?_
  by_cases hi : i < a.length
  · by_cases hp : P i
    · rw [h.yes i hi hp, h'.yes i hi hp]
    · rw [h.no i hi hp, h'.no i hi hp]
  · rw [List.getElem?_eq_none (by rw [h.len]; omega), List.getElem?_eq_none (by rw [h'.len]; omega)]
theorem Mix.put (h : Mix P a b c) (j : Nat) (v : α) (hj : b[j]? = some v) : Mix (fun i => P i ∨ i = j) a b (c.set j v) := by
  refine ⟨by rw [List.length_set]; exact h.len, fun i hi hp => ?_, fun i hi hp => ?_⟩
  · by_cases e : i = j
    · subst e
      rw [List.getElem?_set_self (by rw [h.len]; exact hi), hj]
    · rw [List.getElem?_set_ne (fun x => e x.symm)]
      exact h.yes i hi (hp.resolve_right e)
  · rw [List.getElem?_set_ne (fun x => hp (Or.inr x.symm))]
    exact h.no i hi (fun p => hp (Or.inl p))
theorem Mix.seg (h : Mix P a b c) (off n : Nat) (ys : List α) (ho : off + n ≤ a.length) (hy : ys.length = n) (hb : ∀ k, k < n → ys[k]? = b[off + k]?) : Mix (fun i => P i ∨ (off ≤ i ∧ i < off + n)) a b (c.take off ++ ys ++ c.drop (off + n)) := by
  have hl := h.len
  have key : ∀ i, (c.take off ++ ys ++ c.drop (off + n))[i]? = if off ≤ i ∧ i < off + n then ys[i - off]? else c[i]? := by
    intro i
    by_cases h1 : i < off
    · rw [if_neg (by omega), List.append_assoc, List.getElem?_append_left (by rw [List.length_take]; omega), List.getElem?_take_of_lt h1]
    · by_cases h2 : i < off + n
      · rw [if_pos ⟨by omega, h2⟩, List.getElem?_append_left (by rw [List.length_append, List.length_take]; omega), List.getElem?_append_right (by rw [List.length_take]; omega), List.length_take, Nat.min_eq_left (by omega)]
      · rw [if_neg (by omega), List.getElem?_append_right (by rw [List.length_append, List.length_take]; omega), List.length_append, List.length_take, Nat.min_eq_left (by omega), List.getElem?_drop]
        congr 1
        omega
  refine ⟨?_, fun i hi hp => ?_, fun i hi hp => ?_⟩
  · simp only [List.length_append, List.length_take, List.length_drop]
    omega
  · rw [key]
    split
    · rename_i hc
      rw [hb (i - off) (by omega), Nat.add_sub_cancel' hc.1]
    · rename_i hc
      exact h.yes i hi (hp.resolve_right hc)
  · rw [key, if_neg (fun x => hp (Or.inr x))]
    exact h.no i hi (fun p => hp (Or.inl p))
end
/-- Images place by place. -/
structure Imgs (P : Nat → Nat → Prop) (a b c : List S47) : Prop where
  len : c.length = a.length
  img : ∀ s, s < a.length → (rd_T47 c s).f0 = (rd_T47 a s).f0 ∧ (rd_T47 c s).f1 = (rd_T47 a s).f1 ∧ (rd_T47 c s).f2 = (rd_T47 a s).f2 ∧ Mix (P s) (rd_T47 a s).f3 (rd_T47 b s).f3 (rd_T47 c s).f3
section
variable {P Q : Nat → Nat → Prop} {a b c c' : List S47}
theorem rd_at (l : List S47) (s : Nat) (h : s < l.length) : l[s]? = some (rd_T47 l s) := by
  unfold rd_T47
  simp [h]
theorem S47_eq {x y : S47} (h0 : x.f0 = y.f0) (h1 : x.f1 = y.f1) (h2 : x.f2 = y.f2) (h3 : x.f3 = y.f3) : x = y := by
  cases x; cases y; simp only at h0 h1 h2 h3; subst h0 h1 h2 h3; rfl
theorem Imgs.start (h : ∀ s i, s < a.length → i < (rd_T47 a s).f3.length → ¬ P s i) : Imgs P a b a := ⟨rfl, fun s hs => ⟨rfl, rfl, rfl, Mix.start (fun i hi => h s i hs hi)⟩⟩
theorem Imgs.ext (h : Imgs P a b c) (e : ∀ s i, s < a.length → i < (rd_T47 a s).f3.length → (P s i ↔ Q s i)) : Imgs Q a b c := ⟨h.len, fun s hs => ⟨(h.img s hs).1, (h.img s hs).2.1, (h.img s hs).2.2.1, (h.img s hs).2.2.2.ext (fun i hi => e s i hs hi)⟩⟩
theorem Imgs.uniq (h : Imgs P a b c) (h' : Imgs P a b c') : c = c' := by
  refine List.ext_getElem? fun i => ?_
  by_cases hi : i < a.length
  · rw [rd_at c i (by rw [h.len]; exact hi), rd_at c' i (by rw [h'.len]; exact hi)]
    obtain ⟨x0, x1, x2, x3⟩ := h.img i hi
    obtain ⟨y0, y1, y2, y3⟩ := h'.img i hi
    rw [S47_eq (x0.trans y0.symm) (x1.trans y1.symm) (x2.trans y2.symm) (x3.uniq y3)]
  · rw [List.getElem?_eq_none (by rw [h.len]; omega), List.getElem?_eq_none (by rw [h'.len]; omega)]
theorem rd_set (l : List S47) (s : Nat) (x : S47) (h : s < l.length) (t : Nat) : rd_T47 (l.set s x) t = if t = s then x else rd_T47 l t := by
  unfold rd_T47
  rw [Int.toNat_natCast, List.getD_eq_getElem?_getD, List.getD_eq_getElem?_getD]
  by_cases e : t = s
  · subst e
    rw [List.getElem?_set_self h, if_pos rfl]
    rfl
  · rw [List.getElem?_set_ne (fun x => e x.symm), if_neg e]
/-- One image is taken anew. -/
theorem Imgs.set (h : Imgs P a b c) (s : Nat) (hs : s < a.length) (R : Nat → Prop) (x : S47) (h0 : x.f0 = (rd_T47 a s).f0) (h1 : x.f1 = (rd_T47 a s).f1) (h2 : x.f2 = (rd_T47 a s).f2) (h3 : Mix R (rd_T47 a s).f3 (rd_T47 b s).f3 x.f3) :
    Imgs (fun t i => (t = s ∧ R i) ∨ (t ≠ s ∧ P t i)) a b (c.set s x) := by
  refine ⟨by rw [List.length_set]; exact h.len, fun t ht => ?_⟩
  rw [rd_set c s x (by rw [h.len]; exact hs) t]
  by_cases e : t = s
  · subst e
    rw [if_pos rfl]
    exact ⟨h0, h1, h2, h3.ext (fun i _ => by simp)⟩
  · rw [if_neg e]
    obtain ⟨y0, y1, y2, y3⟩ := h.img t ht
    exact ⟨y0, y1, y2, y3.ext (fun i _ => by simp [e])⟩
end
/-- A valid target. -/
structure Fit (W H S z : Nat) (f : Int) (C : List S47) (D Z : List Int) : Prop where
  hw : 1 ≤ W ∧ W ≤ 64
  hh : 1 ≤ H ∧ H ≤ 64
  hs : 1 ≤ S ∧ S ≤ 8
  hz : 1 ≤ z ∧ z ≤ 16
  n4 : C.length = S
  img : ∀ i, i < S → (rd_T47 C i).f0 = f ∧ (rd_T47 C i).f1 = (W : Int) ∧ (rd_T47 C i).f2 = (H : Int) ∧ (rd_T47 C i).f3.length = W * H * z
  n5 : D.length = W * H * S
  n6 : Z.length = W * H * S
/-- Does the run of n from a hold p? -/
def insB (p a n : Int) : Bool := decide (a ≤ p) && (decide (0 < n) && decide (wrap64 (p - n) < a))
/-- Does the rectangle hold pixel q? -/
def inR (W : Nat) (x y rw rh : Int) (q : Nat) : Prop := insB ((q % W : Nat) : Int) x rw = true ∧ insB ((q / W : Nat) : Int) y rh = true
/-- What a merge leaves. -/
structure Made (W S z : Nat) (R : Nat → Prop) (l4 m4 : List S47) (l5 m5 l6 m6 : List Int) (C : List S47) (D Z : List Int) : Prop where
  hc : Imgs (fun _ i => R (i / z)) l4 m4 C
  hd : Mix (fun i => R (i / S)) l5 m5 D
  he : Mix (fun i => R (i / S)) l6 m6 Z
theorem Made.uniq {W S z : Nat} {R : Nat → Prop} {l4 m4 : List S47} {l5 m5 l6 m6 : List Int} {C C' : List S47} {D D' Z Z' : List Int} (h : Made W S z R l4 m4 l5 m5 l6 m6 C D Z) (h' : Made W S z R l4 m4 l5 m5 l6 m6 C' D' Z') : C = C' ∧ D = D' ∧ Z = Z' := ⟨h.hc.uniq h'.hc, h.hd.uniq h'.hd, h.he.uniq h'.he⟩
/-- What a merge has left when it has come to sample J. -/
structure MadeTo (W S z : Nat) (R : Nat → Prop) (l4 m4 : List S47) (l5 m5 l6 m6 : List Int) (J : Nat) (C : List S47) (D Z : List Int) : Prop where
  hc : Imgs (fun s i => R (i / z) ∧ i / z * S + s < J) l4 m4 C
  hd : Mix (fun i => R (i / S) ∧ i < J) l5 m5 D
  he : Mix (fun i => R (i / S) ∧ i < J) l6 m6 Z
section
variable {W H S z : Nat} {f : Int} {R : Nat → Prop} {l4 m4 : List S47} {l5 m5 l6 m6 : List Int} {J : Nat} {C : List S47} {D Z : List Int}
theorem MadeTo.start : MadeTo W S z R l4 m4 l5 m5 l6 m6 0 l4 l5 l6 := ⟨Imgs.start (fun s i _ _ h => by omega), Mix.start (fun i _ h => by omega), Mix.start (fun i _ h => by omega)⟩
theorem MadeTo.all (h : MadeTo W S z R l4 m4 l5 m5 l6 m6 J C D Z) (G : Fit W H S z f l4 l5 l6) (hJ : W * H * S ≤ J) : Made W S z R l4 m4 l5 m5 l6 m6 C D Z := by
  refine ⟨h.hc.ext (fun s i hs hi => ⟨fun x => x.1, fun x => ⟨x, ?_⟩⟩), h.hd.ext (fun i hi => ⟨fun x => x.1, fun x => ⟨x, ?_⟩⟩), h.he.ext (fun i hi => ⟨fun x => x.1, fun x => ⟨x, ?_⟩⟩)⟩
  · have hs' : s < S := by have := G.n4; omega
    rw [(G.img s hs').2.2.2] at hi
    have h1 : i / z < W * H := Nat.div_lt_of_lt_mul (by rw [Nat.mul_comm]; exact hi)
    have h2 : (i / z + 1) * S ≤ W * H * S := Nat.mul_le_mul_right _ h1
    rw [Nat.add_mul] at h2
    omega
  · have := G.n5; omega
  · have := G.n6; omega
theorem div_lt_iff' {S i q : Nat} (hS : 0 < S) : i / S < q ↔ i < q * S := Nat.div_lt_iff_lt_mul hS
/-- A pixel that the rectangle does not hold. -/
theorem MadeTo.skip (h : MadeTo W S z R l4 m4 l5 m5 l6 m6 J C D Z) (G : Fit W H S z f l4 l5 l6) (q : Nat) (hq : ¬ R q) (h0 : q * S ≤ J) (h1 : J ≤ (q + 1) * S) : MadeTo W S z R l4 m4 l5 m5 l6 m6 ((q + 1) * S) C D Z := by
  have hS := G.hs.1
  have key : ∀ p s, s < S → R p → (p * S + s < J ↔ p * S + s < (q + 1) * S) := by
    intro p s hs hp
    have hne : p ≠ q := fun e => hq (e ▸ hp)
    rcases Nat.lt_or_gt_of_ne hne with hlt | hgt
    · have : (p + 1) * S ≤ q * S := Nat.mul_le_mul_right _ hlt
      rw [Nat.add_mul] at this
      omega
    · have : (q + 1) * S ≤ p * S := Nat.mul_le_mul_right _ hgt
      omega
  have key2 : ∀ i, R (i / S) → (i < J ↔ i < (q + 1) * S) := by
    intro i hi
    have := key (i / S) (i % S) (Nat.mod_lt _ hS) hi
    rw [Nat.mul_comm (i / S) S, Nat.div_add_mod] at this
    exact this
  exact ⟨h.hc.ext (fun s i hs hi => and_congr_right (fun hp => key _ _ (by have := G.n4; omega) hp)), h.hd.ext (fun i hi => and_congr_right (fun hp => key2 i hp)), h.he.ext (fun i hi => and_congr_right (fun hp => key2 i hp))⟩
/-- While the bytes of one texel are copied. -/
def MidP (S z : Nat) (R : Nat → Prop) (q s k : Nat) : Nat → Nat → Prop := fun t i => (R (i / z) ∧ i / z * S + t < q * S + s) ∨ (t = s ∧ q * z ≤ i ∧ i < q * z + k)
theorem mid_start {q s : Nat} (h : Imgs (fun t i => R (i / z) ∧ i / z * S + t < q * S + s) l4 m4 C) : Imgs (MidP S z R q s 0) l4 m4 C := h.ext (fun t i _ _ => ⟨fun x => Or.inl x, fun x => x.elim id (fun x => by omega)⟩)
theorem mid_step {q s k : Nat} (h : Imgs (MidP S z R q s k) l4 m4 C) (hs : s < l4.length) (v : Int) (hv : (rd_T47 m4 s).f3[q * z + k]? = some v) :
    Imgs (MidP S z R q s (k + 1)) l4 m4 (C.set s ⟨(rd_T47 C s).f0, (rd_T47 C s).f1, (rd_T47 C s).f2, (rd_T47 C s).f3.set (q * z + k) v⟩) := by
  obtain ⟨h0, h1, h2, h3⟩ := h.img s hs
  refine (h.set s hs _ ⟨(rd_T47 C s).f0, (rd_T47 C s).f1, (rd_T47 C s).f2, (rd_T47 C s).f3.set (q * z + k) v⟩ h0 h1 h2 (h3.put (q * z + k) v hv)).ext (fun t i _ _ => ?_)
  unfold MidP
  by_cases e : t = s
  · subst e
    simp only [true_and, ne_eq, not_true_eq_false, false_and, or_false]
    constructor
    · rintro ((x | x) | x)
      · exact Or.inl x
      · exact Or.inr (by omega)
      · exact Or.inr (by omega)
    · rintro (x | x)
      · exact Or.inl (Or.inl x)
      · by_cases e2 : i = q * z + k
        · exact Or.inr e2
        · exact Or.inl (Or.inr (by omega))
  · simp [e]
/-- One sample more. -/
theorem MadeTo.next {q s : Nat} (h : MadeTo W S z R l4 m4 l5 m5 l6 m6 (q * S + s) C D Z) (G : Fit W H S z f l4 l5 l6) (hq : R q) (hs : s < S) {C' : List S47} (hc : Imgs (MidP S z R q s z) l4 m4 C') (v u : Int) (hv : m5[q * S + s]? = some v) (hu : m6[q * S + s]? = some u) :
    MadeTo W S z R l4 m4 l5 m5 l6 m6 (q * S + (s + 1)) C' (D.set (q * S + s) v) (Z.set (q * S + s) u) := by
  have hS := G.hs.1
  have hz := G.hz.1
  have hd : (q * S + s) / S = q := by rw [Nat.mul_comm, Nat.mul_add_div hS, Nat.div_eq_of_lt hs]; rfl
  have key : ∀ i, (R (i / S) ∧ i < q * S + s) ∨ i = q * S + s ↔ R (i / S) ∧ i < q * S + (s + 1) := by
    intro i
    constructor
    · rintro (x | rfl)
      · exact ⟨x.1, by omega⟩
      · exact ⟨by rw [hd]; exact hq, by omega⟩
    · rintro ⟨x, y⟩
      by_cases e : i = q * S + s
      · exact Or.inr e
      · exact Or.inl ⟨x, by omega⟩
  refine ⟨hc.ext (fun t i ht hi => ?_), (h.hd.put _ v hv).ext (fun i _ => key i), (h.he.put _ u hu).ext (fun i _ => key i)⟩
  have ht' : t < S := by have := G.n4; omega
  have hdm : i / z = q ↔ q * z ≤ i ∧ i < q * z + z := by
    rw [Nat.div_eq_iff hz, Nat.mul_comm]
    omega
  unfold MidP
  constructor
  · rintro (x | ⟨rfl, x⟩)
    · exact ⟨x.1, by omega⟩
    · rw [hdm.2 x]
      exact ⟨hq, by omega⟩
  · rintro ⟨x, y⟩
    by_cases e : i / z = q
    · by_cases e2 : t = s
      · exact Or.inr ⟨e2, hdm.1 e⟩
      · rw [e] at y
        refine Or.inl ⟨x, ?_⟩
        rw [e]
        omega
    · refine Or.inl ⟨x, ?_⟩
      rcases Nat.lt_or_gt_of_ne e with hlt | hgt
      · have : (i / z + 1) * S ≤ q * S := Nat.mul_le_mul_right _ hlt
        rw [Nat.add_mul] at this
        omega
      · have : (q + 1) * S ≤ i / z * S := Nat.mul_le_mul_right _ hgt
        rw [Nat.add_mul] at this
        omega
end
theorem inR_at {W px py : Nat} {x y rw rh : Int} (h : px < W) : inR W x y rw rh (py * W + px) ↔ insB px x rw = true ∧ insB py y rh = true := by
  unfold inR
  rw [Nat.mul_comm py W, Nat.mul_add_mod, Nat.mod_eq_of_lt h, Nat.mul_add_div (by omega), Nat.div_eq_of_lt h, Nat.add_zero]
theorem wrap_nat (n : Int) (m : Nat) (h : n = m) (hm : m ≤ 1000000000) : IntKind.i64.wrap n = (m : Int) := by
  subst h
  rw [i64_w]
  unfold wrap64
  omega
theorem wrapS (n lim : Nat) (h : n < lim) (hl : lim ≤ 1000000) : Value.int .i64 (wrap64 ((n : Int) + 1)) = .int .i64 ((n + 1 : Nat) : Int) := congrArg (Value.int .i64) ((i64_w _).symm.trans (wrap_nat _ (n + 1) (by omega) (by omega)))
theorem meas (n lim : Nat) (h : n < lim) (hl : lim ≤ 1000000) : lim - (intOf (Value.int .i64 (wrap64 ((n : Int) + 1)))).toNat < lim - (intOf (Value.int .i64 (n : Int))).toNat := by
  rw [wrapS n lim h hl]
  simp only [intOf]
  omega
theorem Mix.some {α : Type} : ∀ (P : Nat → Prop) (a b : List α), b.length = a.length → ∃ c, Mix P a b c
  | P, [], _, _ => ⟨[], ⟨rfl, fun i hi => absurd hi (by simp), fun i hi => absurd hi (by simp)⟩⟩
  | P, x :: a, [], h => absurd h (by simp)
  | P, x :: a, y :: b, h => by
    obtain ⟨c, hc⟩ := Mix.some (fun i => P (i + 1)) a b (by simpa using h)
    by_cases h0 : P 0
    · refine ⟨y :: c, ⟨by simp [hc.len], fun i hi hp => ?_, fun i hi hp => ?_⟩⟩
      · cases i with
        | zero => rfl
        | succ i => simpa using hc.yes i (by simpa using hi) hp
      · cases i with
        | zero => exact absurd h0 hp
        | succ i => simpa using hc.no i (by simpa using hi) hp
    · refine ⟨x :: c, ⟨by simp [hc.len], fun i hi hp => ?_, fun i hi hp => ?_⟩⟩
      · cases i with
        | zero => exact absurd hp h0
        | succ i => simpa using hc.yes i (by simpa using hi) hp
      · cases i with
        | zero => rfl
        | succ i => simpa using hc.no i (by simpa using hi) hp
theorem rd_cons0 (x : S47) (a : List S47) : rd_T47 (x :: a) (0 : Nat) = x := rfl
theorem rd_consS (x : S47) (a : List S47) (i : Nat) : rd_T47 (x :: a) ((i + 1 : Nat) : Int) = rd_T47 a i := by
  unfold rd_T47
  rw [Int.toNat_natCast, Int.toNat_natCast]
  rfl
theorem Imgs.some : ∀ (P : Nat → Nat → Prop) (a b : List S47), b.length = a.length → (∀ s : Nat, s < a.length → (rd_T47 b s).f3.length = (rd_T47 a s).f3.length) → ∃ c, Imgs P a b c
  | P, [], _, _, _ => ⟨[], ⟨rfl, fun i hi => absurd hi (by simp)⟩⟩
  | P, x :: a, [], h, _ => absurd h (by simp)
  | P, x :: a, y :: b, h, hl => by
    obtain ⟨c, hc⟩ := Imgs.some (fun s => P (s + 1)) a b (by simpa using h) (fun s hs => by
      have := hl (s + 1) (by simpa using hs)
      rw [rd_consS, rd_consS] at this
      exact this)
    obtain ⟨d, hd⟩ := Mix.some (P 0) x.f3 y.f3 (by have := hl 0 (by simp); rw [rd_cons0, rd_cons0] at this; exact this)
    refine ⟨⟨x.f0, x.f1, x.f2, d⟩ :: c, ⟨by simp [hc.len], fun s hs => ?_⟩⟩
    cases s with
    | zero => exact ⟨rfl, rfl, rfl, hd⟩
    | succ s =>
      rw [rd_consS, rd_consS, rd_consS]
      exact hc.img s (by simpa using hs)
section
variable {W H S z : Nat} {f : Int} {R R' : Nat → Prop} {l4 m4 : List S47} {l5 m5 l6 m6 : List Int} {C : List S47} {D E : List Int}
theorem Made.some (G : Fit W H S z f l4 l5 l6) (G' : Fit W H S z f m4 m5 m6) : ∃ C D E, Made W S z R l4 m4 l5 m5 l6 m6 C D E := by
  obtain ⟨C, hC⟩ := Imgs.some (fun _ i => R (i / z)) l4 m4 (by rw [G.n4, G'.n4]) (fun s hs => by
    have hs' : s < S := by have := G.n4; omega
    rw [(G.img s hs').2.2.2, (G'.img s hs').2.2.2])
  obtain ⟨D, hD⟩ := Mix.some (fun i => R (i / S)) l5 m5 (by rw [G.n5, G'.n5])
  obtain ⟨E, hE⟩ := Mix.some (fun i => R (i / S)) l6 m6 (by rw [G.n6, G'.n6])
  exact ⟨C, D, E, hC, hD, hE⟩
theorem Made.ext (h : Made W S z R l4 m4 l5 m5 l6 m6 C D E) (G : Fit W H S z f l4 l5 l6) (e : ∀ q, q < W * H → (R q ↔ R' q)) : Made W S z R' l4 m4 l5 m5 l6 m6 C D E := by
  refine ⟨h.hc.ext (fun s i hs hi => e _ ?_), h.hd.ext (fun i hi => e _ ?_), h.he.ext (fun i hi => e _ ?_)⟩
  · rw [(G.img s (by have := G.n4; omega)).2.2.2] at hi
    exact Nat.div_lt_of_lt_mul (by rw [Nat.mul_comm]; exact hi)
  · rw [G.n5] at hi
    exact Nat.div_lt_of_lt_mul (by rw [Nat.mul_comm]; exact hi)
  · rw [G.n6] at hi
    exact Nat.div_lt_of_lt_mul (by rw [Nat.mul_comm]; exact hi)
theorem Made.none (G : Fit W H S z f l4 l5 l6) (e : ∀ q, q < W * H → ¬ R q) : Made W S z R l4 m4 l5 m5 l6 m6 l4 l5 l6 := by
  refine ⟨Imgs.start (fun s i hs hi => e _ ?_), Mix.start (fun i hi => e _ ?_), Mix.start (fun i hi => e _ ?_)⟩
  · rw [(G.img s (by have := G.n4; omega)).2.2.2] at hi
    exact Nat.div_lt_of_lt_mul (by rw [Nat.mul_comm]; exact hi)
  · rw [G.n5] at hi
    exact Nat.div_lt_of_lt_mul (by rw [Nat.mul_comm]; exact hi)
  · rw [G.n6] at hi
    exact Nat.div_lt_of_lt_mul (by rw [Nat.mul_comm]; exact hi)
end
end Go.Proofs.Ytmpmennepjkocaa.Mix
