/- What a call's own variables in memory hold, as one list of blocks: (block, cells, type). No program in sight. -/
import Derived.Test.YtmpmennepjkocaaWMore
import Derived.Test.YtmpmennepjkocaaWLast
import Derived.Deep.RegionHeld3
set_option linter.unusedVariables false
namespace Go.Proofs.Ytmpmennepjkocaa.Own
open Go.RowKit Go.Proofs.YtmpmennepjkocaaW.PrintWords

abbrev Blk : Type := Nat × Array Value × TypeId
/-- The world is as it was below w0, and the listed blocks (all new, no two the same) hold what is listed. -/
structure Owns (w0 : World) (L : List Blk) (w : World) : Prop where
  bel : Below w0.heap.size w0 w
  all : ∀ x, x ∈ L → w0.heap.size ≤ x.1 ∧ w.heap[x.1]? = some (.cells x.2.1 x.2.2 (0, 0))
  nd : (L.map (fun x => x.1)).Nodup
section
variable {w0 w w' : World} {L : List Blk}
theorem Owns.start (w0 : World) : Owns w0 [] w0 := ⟨Below.refl _ _, fun x hx => by simp at hx, by simp⟩
theorem Owns.step (h : Owns w0 L w) (hb : Below w.heap.size w w') : Owns w0 L w' :=
  ⟨below_step h.bel hb, fun x hx => ⟨(h.all x hx).1, blk_below (h.all x hx).2 hb⟩, h.nd⟩
theorem Owns.drew (h : Owns w0 L w) : Owns w0 L w.drew := ⟨below_drew1 h.bel, h.all, h.nd⟩
theorem Owns.drewN (h : Owns w0 L w) (n : Nat) : Owns w0 L (w.drewN n) := ⟨pw_below_drewN h.bel n, fun x hx => ⟨(h.all x hx).1, blk_drewN (h.all x hx).2 n⟩, h.nd⟩
theorem Owns.alloc (h : Owns w0 L w) (cs : Array Value) (t : TypeId) : Owns w0 ((w.heap.size, cs, t) :: L) (w.alloc (.cells cs t)) := by
  refine ⟨below_alloc h.bel _, fun x hx => ?_, ?_⟩
  · rcases List.mem_cons.1 hx with rfl | hx
    · exact ⟨h.bel.size, blk_new w _⟩
    · exact ⟨(h.all x hx).1, blk_alloc (h.all x hx).2 _⟩
  · rw [List.map_cons, List.nodup_cons]
    refine ⟨fun hm => ?_, h.nd⟩
    obtain ⟨y, hy, e⟩ := List.mem_map.1 hm
    have := blk_lt (h.all y hy).2
    omega
/-- An old block or another: what is listed stays. -/
theorem Owns.other (h : Owns w0 L w) (o : Obj) : Owns w0 L (w.alloc o) := ⟨below_alloc h.bel _, fun x hx => ⟨(h.all x hx).1, blk_alloc (h.all x hx).2 _⟩, h.nd⟩
theorem Owns.ne (h : Owns w0 L w) {i j : Nat} {x y : Blk} (hi : L[i]? = some x) (hj : L[j]? = some y) (hne : i ≠ j) : x.1 ≠ y.1 := by
  intro e
  have h1 : (L.map (fun x => x.1))[i]? = some x.1 := by rw [List.getElem?_map, hi]; rfl
  have h2 : (L.map (fun x => x.1))[j]? = some y.1 := by rw [List.getElem?_map, hj]; rfl
  have hlt : i < (L.map (fun x => x.1)).length := (List.getElem?_eq_some_iff.1 h1).1
  exact hne ((List.getElem?_inj hlt h.nd).1 (by rw [h1, h2, e]))
/-- A cell of the block at place i of the list is written. -/
theorem Owns.set (h : Owns w0 L w) (i : Nat) (g : Nat) (cs : Array Value) (t : TypeId) (hi : L[i]? = some (g, cs, t)) (j : Nat) (v : Value) : Owns w0 (L.set i (g, cs.setIfInBounds j v, t)) (w.setCell ⟨g, j, none⟩ v) := by
  have hm : (g, cs, t) ∈ L := List.mem_of_getElem? hi
  have hlt : i < L.length := (List.getElem?_eq_some_iff.1 hi).1
  refine ⟨below_set h.bel (h.all _ hm).1, fun x hx => ?_, ?_⟩
  · obtain ⟨k, hk⟩ := List.mem_iff_getElem?.1 hx
    by_cases hki : i = k
    · subst hki
      rw [List.getElem?_set_self hlt] at hk
      obtain rfl := Option.some.inj hk
      exact ⟨(h.all _ hm).1, blk_set (h.all _ hm).2 j v⟩
    · rw [List.getElem?_set_ne hki] at hk
      have hx' := h.all x (List.mem_of_getElem? hk)
      exact ⟨hx'.1, blk_far hx'.2 (h.ne hk hi (fun e => hki e.symm)) v⟩
  · have e : (L.set i (g, cs.setIfInBounds j v, t)).map (fun x => x.1) = L.map (fun x => x.1) := by
      refine List.ext_getElem? fun k => ?_
      rw [List.getElem?_map, List.getElem?_map]
      by_cases hki : i = k
      · subst hki; rw [List.getElem?_set_self hlt, hi]; rfl
      · rw [List.getElem?_set_ne hki]
    rw [e]; exact h.nd
/-- Any choice of the listed blocks, in any order. -/
theorem Owns.pick (h : Owns w0 L w) (ps : List Nat) (hp : ps.Nodup) (L' : List Blk) (hL : L'.map some = ps.map (fun i => L[i]?)) : Owns w0 L' w := by
  have key : ∀ (k : Nat) (x : Blk), L'[k]? = some x → ∃ i : Nat, ps[k]? = some i ∧ L[i]? = some x := by
    intro k x hk
    have h1 : (L'.map some)[k]? = some (some x) := by rw [List.getElem?_map, hk]; rfl
    rw [hL, List.getElem?_map] at h1
    obtain ⟨i, hi, e⟩ := Option.map_eq_some_iff.1 h1
    exact ⟨i, hi, e⟩
  refine ⟨h.bel, fun x hx => ?_, ?_⟩
  · obtain ⟨k, hk⟩ := List.mem_iff_getElem?.1 hx
    obtain ⟨i, _, hi⟩ := key k x hk
    exact h.all x (List.mem_of_getElem? hi)
  · rw [List.Nodup, List.pairwise_iff_getElem]
    intro a b ha hb hab e
    have ha0 : a < L'.length := by simpa using ha
    have hb0 : b < L'.length := by simpa using hb
    have ha2 : L'[a]? = some L'[a] := List.getElem?_eq_getElem ha0
    have hb2 : L'[b]? = some L'[b] := List.getElem?_eq_getElem hb0
    rw [List.getElem_map, List.getElem_map] at e
    obtain ⟨i, hi, hi2⟩ := key a _ ha2
    obtain ⟨j, hj, hj2⟩ := key b _ hb2
    have hij : i ≠ j := by
      intro e2
      subst e2
      rw [List.Nodup, List.pairwise_iff_getElem] at hp
      obtain ⟨l1, e3⟩ := List.getElem?_eq_some_iff.1 hi
      obtain ⟨l2, e4⟩ := List.getElem?_eq_some_iff.1 hj
      exact hp a b l1 l2 hab (e3.trans e4.symm)
    exact h.ne hi2 hj2 hij e
theorem Owns.cell (h : Owns w0 L w) (i : Nat) (g : Nat) (cs : Array Value) (t : TypeId) (hi : L[i]? = some (g, cs, t)) (j : Nat) (v : Value) (hv : cs[j]? = some v) : w.cell? ⟨g, j, none⟩ = some v := by
  rw [blk_cell (h.all _ (List.mem_of_getElem? hi)).2 j]; exact hv
theorem Owns.frozen (h : Owns w0 L w) (i : Nat) (g : Nat) (cs : Array Value) (t : TypeId) (hi : L[i]? = some (g, cs, t)) (j : Nat) : w.frozen? ⟨g, j, none⟩ = false := blk_frozen (h.all _ (List.mem_of_getElem? hi)).2 j
/-- The rules by which a walk reads and writes the listed blocks. -/
def rules (w : World) : List Blk → Prop
  | [] => True
  | x :: r => (∀ j, w.cell? ⟨x.1, j, none⟩ = x.2.1[j]?) ∧ (∀ j, w.frozen? ⟨x.1, j, none⟩ = false) ∧ rules w r
theorem rules_of : ∀ (L : List Blk), (∀ x, x ∈ L → w.heap[x.1]? = some (.cells x.2.1 x.2.2 (0, 0))) → rules w L
  | [], _ => trivial
  | x :: r, h => ⟨fun j => blk_cell (h x List.mem_cons_self) j, fun j => blk_frozen (h x List.mem_cons_self) j, rules_of r (fun y hy => h y (List.mem_cons_of_mem _ hy))⟩
theorem Owns.rules (h : Owns w0 L w) : rules w L := rules_of L (fun x hx => (h.all x hx).2)
/-- No two of the listed blocks are the same: as the walk reads it. -/
def apart : List Blk → Prop
  | [] => True
  | x :: r => (∀ y, y ∈ r → x.1 ≠ y.1 ∧ y.1 ≠ x.1) ∧ apart r
theorem apart_of : ∀ (L : List Blk), (L.map (fun x => x.1)).Nodup → apart L
  | [], _ => trivial
  | x :: r, h => by
    rw [List.map_cons, List.nodup_cons] at h
    refine ⟨fun y hy => ?_, apart_of r h.2⟩
    have : x.1 ≠ y.1 := fun e => h.1 (List.mem_map.2 ⟨y, hy, e.symm⟩)
    exact ⟨this, this.symm⟩
theorem Owns.apart (h : Owns w0 L w) : apart L := apart_of L h.nd
theorem Owns.at (h : Owns w0 L w) (i : Nat) (x : Blk) (hi : L[i]? = some x) : w.heap[x.1]? = some (.cells x.2.1 x.2.2 (0, 0)) := (h.all x (List.mem_of_getElem? hi)).2
theorem Owns.lt (h : Owns w0 L w) (i : Nat) (x : Blk) (hi : L[i]? = some x) : x.1 < w.heap.size := blk_lt (h.at i x hi)
end
end Go.Proofs.Ytmpmennepjkocaa.Own
