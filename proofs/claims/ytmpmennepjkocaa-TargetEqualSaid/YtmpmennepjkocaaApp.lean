/- A slice that came in whole (its capacity is its length), or a row of the call's own: one element appended. No program in sight. No condition. -/
import Derived.Test.YtmpmennepjkocaaWMore
import Derived.Test.YtmpmennepjkocaaWLast
import Derived.ArgAppend
set_option linter.unusedVariables false
namespace Go.Proofs.Ytmpmennepjkocaa.App
open Go.RowKit Go.Proofs.YtmpmennepjkocaaW.PrintWords Go.Proofs.YtmpmennepjkocaaW.PrintLast Go.Proofs.YtmpmennepjkocaaW.PrintMore
/-- A slice whose elements are whole numbers: of the call's own, or one that came in and has no room. -/
def Row (e : Nat) (k : IntKind) (w : World) (base : Nat) (v : Value) (xs : List Int) : Prop :=
  (Kd.int k).R e w base (fun _ => True) v xs ∨ ∃ A, v = .slice A xs.length xs.length ∧ (Kd.int k).C w A xs.length xs
section
variable {e : Nat} {k : IntKind} {w w1 : World} {base : Nat} {v : Value} {xs : List Int}
theorem Row.below (h : Row e k w base v xs) (hb : Below w.heap.size w w1) : Row e k w1 base v xs := by
  rcases h with h | ⟨A, rfl, h⟩
  · exact .inl (Kd.R_below h hb)
  · exact .inr ⟨A, rfl, Kd.C_below h hb⟩
theorem Row.drew (h : Row e k w base v xs) : Row e k w.drew base v xs := h.below (below_drew (Below.refl _ _))
theorem Row.drewN (h : Row e k w base v xs) (m : Nat) : Row e k (w.drewN m) base v xs := h.below (pw_below_drewN (Below.refl _ _) m)
theorem Row.alloc (h : Row e k w base v xs) (o : Obj) : Row e k (w.alloc o) base v xs := h.below (below_alloc (Below.refl _ _) o)
theorem Row.len (h : Row e k w base v xs) : ∃ A c, v = .slice A xs.length c := by
  rcases h with h | ⟨A, rfl, h⟩
  · exact Kd.R_slice h
  · exact ⟨A, _, rfl⟩
end
section
variable {P : Program} {ops : Array Oper} {rest : List Oper} {o : Oper} {a : Act} {Q : Exit → Act → World → Prop}
theorem Row.append {w0 W : World} (k : IntKind) (base : Nat) (hgd : o.guard = none) (s x : Operand) (t e : TypeId) (z : Value) (bytes : Nat)
    (ho : o.op = .call { callee := .builtin .append, args := #[s, x], argTypes := #[t, t] })
    (ht : P.underlying t = some (.slice e)) (hinfo : (P.info? e).map (fun i => (i.zero, i.size, i.bytes)) = some (some z, 1, bytes)) (hz : z.cells.size = 1) (hb0 : 0 < bytes)
    (v : Value) (xs : List Int) (p : Int) (hs : a.eval s = v) (hx : a.eval x = .slice (some ⟨W.heap.size, 0, none⟩) 1 1)
    (HO : Row e k W base v xs) (HB : Below base w0 W) (hbase : base ≤ W.heap.size) (hl : (xs.length + 1) * bytes ≤ 140737488355328)
    (h : ∀ v1 w1, (Kd.int k).R e w1 base (fun _ => True) v1 (xs ++ [p]) → Below base w0 w1 → wpList P ops Q rest (a.put o.dst v1) w1) :
    wpList P ops Q (o :: rest) a (W.alloc (.cells [Value.int k p].toArray e)) := by
  rcases HO with HO | ⟨A, rfl, HC⟩
  · exact Kd.R_append (Kd.int k) base hgd s x t e z bytes ho ht hinfo hz Nat.one_pos hb0 v xs p [Value.int k p] (fun _ => True) (fun _ => False) hs hx rfl (fun _ hk => hk.elim) (fun _ _ => trivial) HO HB hbase hl (fun v1 w1 h1 h2 _ _ => h v1 w1 h1 h2)
  · obtain ⟨i0, hi, hzz⟩ := Option.map_eq_some_iff.1 hinfo
    simp only [Prod.mk.injEq] at hzz
    obtain ⟨hz0, hz1, hz2⟩ := hzz
    have hlen : xs.length + 1 ≤ 140737488355328 := Nat.le_trans (Nat.le_mul_of_pos_right _ hb0) hl
    have hC : ReadsOf (Value.int k) 0 (W.alloc (.cells [Value.int k p].toArray e)) A xs.length xs := Kd.reads_of_C (d := 0) (Kd.C_alloc HC _)
    refine wpList_append_grows (W.alloc (.cells [Value.int k p].toArray e)) hgd s x t ho e i0 z 1 bytes ht hi hz0 hz1 hz2 hz (by decide) A xs.length xs.length (encs (Value.int k) xs) hs ?_ ?_ ?_ ⟨W.heap.size, 0, none⟩ 1 1 [Value.int k p] hx (by simp)
      (by simpa using World.news_of_block (cs := [Value.int k p].toArray) (t := e) (fr := (0, 0)) (heap_alloc_new W (.cells [Value.int k p].toArray e))) (by simp [Value.oneCell']) (by omega) (by simp only [maxLen]; omega) hl ?_
    · rintro rfl
      by_cases hn : 0 < xs.length
      · obtain ⟨ad, e1, _⟩ := hC.2.2 hn
        cases e1
      · omega
    · simp [encs]
    · rintro b rfl j u hj
      have hjl : j < xs.length := by
        have := (List.getElem?_eq_some_iff.1 hj).1
        simpa [encs] using this
      obtain ⟨ad, e1, hc⟩ := hC.2.2 (by omega)
      obtain rfl := Option.some.inj e1
      rw [hc j hjl, ← hj]
      simp [encs, List.getElem?_map, List.getElem?_eq_getElem hjl, List.getD_eq_getElem?_getD]
    · intro v' w' hown hg
      refine h v' w' (Kd.R_of_own ?_ (fun _ _ => trivial)) ((HB.alloc hbase _).grown hg (by simp; omega) (fun k hk => by cases hk))
      have e2 : encs (Value.int k) (xs ++ [p]) = encs (Value.int k) xs ++ [Value.int k p] := by simp [encs]
      rw [e2]
      simpa using own_weaken hown (base' := base) (by simp; omega)
end
end Go.Proofs.Ytmpmennepjkocaa.App
