/- copy into a part of a row of the call's own: what the row holds then. No program in sight. No condition. -/
import Derived.Test.YtmpmennepjkocaaWMore
import Derived.Test.YtmpmennepjkocaaWLast
import Derived.Laws.IdiomCopy
import Derived.Maps.AppendAt
set_option linter.unusedVariables false
namespace Go.Proofs.Ytmpmennepjkocaa.Copy
open Go.RowKit Go.Proofs.YtmpmennepjkocaaW.PrintWords Go.Proofs.YtmpmennepjkocaaW.PrintLast Go.Proofs.YtmpmennepjkocaaW.PrintMore
section
variable {α : Type} {enc : α → Value} {h1 : ∀ x, (enc x).oneCell' = true} {e base g cap : Nat} {ok : Nat → Prop}
theorem seg_set (xs : List α) (o : Nat) (y : α) (ys : List α) (h : o + (y :: ys).length ≤ xs.length) : (xs.set o y).take (o + 1) ++ ys ++ (xs.set o y).drop (o + 1 + ys.length) = xs.take o ++ (y :: ys) ++ xs.drop (o + (y :: ys).length) := by
  simp only [List.length_cons] at h
  have e1 : (xs.set o y).take (o + 1) = xs.take o ++ [y] := by
    rw [List.take_succ_eq_append_getElem (by simp; omega), List.take_set_of_le (by omega)]
    simp
  have e2 : (xs.set o y).drop (o + 1 + ys.length) = xs.drop (o + 1 + ys.length) := by
    rw [List.drop_set_of_lt (by omega)]
  rw [e1, e2]
  simp only [List.length_cons, List.append_assoc, List.nil_append, List.cons_append]
  rw [show o + 1 + ys.length = o + (ys.length + 1) by omega]
theorem R_puts : ∀ (ys xs : List α) (o : Nat) (W : World), (Kd.scalar enc h1).R e W base ok (.slice (some ⟨g, 0, none⟩) xs.length cap) xs → o + ys.length ≤ xs.length →
    (Kd.scalar enc h1).R e (W.setCells g o (ys.map enc)) base ok (.slice (some ⟨g, 0, none⟩) xs.length cap) (xs.take o ++ ys ++ xs.drop (o + ys.length)) ∧ W.grownBy (W.setCells g o (ys.map enc)) (some g) := by
  intro ys
  induction ys with
  | nil =>
    intro xs o W h ho
    refine ⟨?_, ?_⟩
    · simp only [List.map_nil, World.setCells, List.append_nil, List.length_nil, Nat.add_zero, List.take_append_drop]
      exact h
    · exact World.grownBy.refl _ _
  | cons y ys ih =>
    intro xs o W h ho
    obtain ⟨p1, p2⟩ := Kd.R_put h (o : Int) y
    rw [Int.toNat_natCast] at p1 p2
    have hl : (xs.set o y).length = xs.length := List.length_set
    rw [← hl] at p1
    obtain ⟨q1, q2⟩ := ih (xs.set o y) (o + 1) _ p1 (by simp only [List.length_cons] at ho; omega)
    rw [hl, seg_set xs o y ys ho] at q1
    exact ⟨q1, p2.trans q2⟩
variable {P : Program} {ops : Array Oper} {rest : List Oper} {o : Oper} {a : Act} {Q : Exit → Act → World → Prop}
/-- copy(v[off:off+n], ys[..]): v a row of scalars of one's own, as many read as written. -/
theorem R_copy_at (d : α) {W : World} (hgd : o.guard = none) (s x : Operand) (t t' el : TypeId)
    (ho : o.op = .call { callee := .builtin .copy, args := #[s, x], argTypes := #[t, t'] }) (ht : P.underlying t = some (.slice el)) (hinfo : (P.info? el).map (·.size) = some 1)
    (xs ys : List α) (A : Option Addr) (off n dc c : Nat) (hs : a.eval s = .slice (some ⟨g, off, none⟩) n dc) (hx : a.eval x = .slice A n c) (hfit : off + n ≤ xs.length)
    (HO : (Kd.scalar enc h1).R e W base ok (.slice (some ⟨g, 0, none⟩) xs.length cap) xs) (HR : (Kd.scalar enc h1).C W A n ys)
    (h : (Kd.scalar enc h1).R e (W.setCells g off (ys.map enc)) base ok (.slice (some ⟨g, 0, none⟩) xs.length cap) (xs.take off ++ ys ++ xs.drop (off + n)) → W.grownBy (W.setCells g off (ys.map enc)) (some g) → wpList P ops Q rest (a.put o.dst (.int .i64 (n : Int))) (W.setCells g off (ys.map enc))) :
    wpList P ops Q (o :: rest) a W := by
  have hR := Kd.reads_of_C (enc := enc) (d := d) (h1 := h1) HR
  have hl : ys.length = n := hR.1
  obtain ⟨p1, p2⟩ := R_puts ys xs off W HO (by omega)
  rw [hl] at p1
  have hw := h p1 p2
  by_cases hn : 0 < n
  · obtain ⟨ad, rfl, hc⟩ := hR.2.2 hn
    have hrun : (Builtin.copy_ #[t, t'] o.type #[.slice (some ⟨g, off, none⟩) n dc, .slice (some ad) n c]).run P W = .ok (goInt (ys.map enc).length) (W.setCells g off (ys.map enc)) := by
      refine run_copy_cells W t t' o.type el g off n dc ad n c (ys.map enc) ht hinfo (by simp [hl]) ?_ ?_ ?_ ?_
      · intro j v hj
        have hj' : j < n := by have := (List.getElem?_eq_some_iff.1 hj).1; simpa [hl] using this
        rw [hc j hj', ← hj]
        simp [List.getElem?_map, List.getElem?_eq_getElem (show j < ys.length by omega), List.getD_eq_getElem?_getD]
      · intro j hj
        have hj' : off + j < xs.length := by simp only [List.length_map] at hj; omega
        have := (Kd.R_cell d HO ((off + j : Nat) : Int) (by omega) (by omega)).1
        rw [Int.toNat_natCast] at this
        rw [this]
        rfl
      · intro j hj
        have hj' : off + j < xs.length := by simp only [List.length_map] at hj; omega
        have := (Kd.R_cell d HO ((off + j : Nat) : Int) (by omega) (by omega)).2
        rw [Int.toNat_natCast] at this
        exact this
      · intro v hv
        obtain ⟨y, _, rfl⟩ := List.mem_map.1 hv
        exact h1 y
    refine wpList_plain hgd fun K hK => ?_
    unfold Oper.wp execOp
    simp only [ho, resolve, invoke, builtin, Sem.run_bind, Sem.run_pure, Result.andThen_ok, List.map_toArray, List.map_cons, List.map_nil, hs, hx, hrun]
    rw [List.length_map, hl]
    exact hK _ _ hw
  · have h0 : n = 0 := by omega
    subst h0
    obtain rfl : ys = [] := List.length_eq_zero_iff.1 hl
    have hrun := run_copy_none (P := P) W t t' o.type el (some ⟨g, off, none⟩) A 0 dc 0 c ht hinfo rfl
    refine wpList_plain hgd fun K hK => ?_
    unfold Oper.wp execOp
    simp only [ho, resolve, invoke, builtin, Sem.run_bind, Sem.run_pure, Result.andThen_ok, List.map_toArray, List.map_cons, List.map_nil, hs, hx, hrun]
    exact hK _ _ hw
end
end Go.Proofs.Ytmpmennepjkocaa.Copy
