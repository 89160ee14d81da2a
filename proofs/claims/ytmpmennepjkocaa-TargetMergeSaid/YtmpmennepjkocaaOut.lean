/- A target's three rows of one's own (images, depths, stencils) beside the boxes of a call: what a write into one of them leaves. No condition. -/
import Derived.Test.YtmpmennepjkocaaPTargetMergex0
import Derived.Test.YtmpmennepjkocaaOwn
set_option linter.unusedVariables false
namespace Go.Proofs.Ytmpmennepjkocaa.Out
open Go.RowKit Go.Proofs.YtmpmennepjkocaaW.PrintWords Go.Proofs.YtmpmennepjkocaaW.PrintLast Go.Proofs.YtmpmennepjkocaaW.PrintMore Go.Proofs.Ytmpmennepjkocaa.PTargetMerge Go.Proofs.Ytmpmennepjkocaa.Own
/-- The boxes and the rows. -/
structure St (w0 W : World) (L : List Blk) (v4 v5 v6 : Value) (C : List S47) (D Z : List Int) : Prop where
  own : Owns w0 L W
  s : Kd.S k47 47 W w0.heap.size (fun _ => True) v4 C
  d : Kd.R (Kd.int .i64) 3 W w0.heap.size (fun k => some k ≠ v6.ownBlock) v5 D
  z : Kd.R (Kd.int .i64) 3 W w0.heap.size (fun k => some k ≠ v5.ownBlock) v6 Z
section
variable {w0 W W' : World} {L : List Blk} {v4 v5 v6 : Value} {C : List S47} {D Z : List Int}
theorem farT {g t : Nat} {cells : Array Value} (h : Owns w0 L W) (hg : W.heap[g]? = some (.cells cells t (0, 0))) (hL : ∀ x, x ∈ L → x.2.2 ≠ t) : ∀ x, x ∈ L → x.1 ≠ g := by
  intro x hx e
  have := (h.all x hx).2
  rw [e, hg] at this
  injection this with this
  injection this with _ this
  exact hL x hx this.symm
theorem Owns.grown {g : Nat} (h : Owns w0 L W) (hg : W.grownBy W' (some g)) (hb : w0.heap.size ≤ g) (hL : ∀ x, x ∈ L → x.1 ≠ g) : Owns w0 L W' :=
  ⟨pw_below_grown h.bel (some g) h.bel.size hg (fun k e => by injection e with e; subst e; exact hb), fun x hx => ⟨(h.all x hx).1, blk_grown (h.all x hx).2 hg (fun e => hL x hx (by injection e))⟩, h.nd⟩
theorem St.step (h : St w0 W L v4 v5 v6 C D Z) (hb : Below W.heap.size W W') : St w0 W' L v4 v5 v6 C D Z :=
  ⟨Owns.step h.own hb, Kd.S_below h.s hb, Kd.R_below h.d hb, Kd.R_below h.z hb⟩
theorem St.drew (h : St w0 W L v4 v5 v6 C D Z) : St w0 W.drew L v4 v5 v6 C D Z := h.step (below_drew1 (Below.refl _ _))
theorem St.drewN (h : St w0 W L v4 v5 v6 C D Z) (n : Nat) : St w0 (W.drewN n) L v4 v5 v6 C D Z := h.step (pw_below_drewN (Below.refl _ _) n)
theorem St.alloc (h : St w0 W L v4 v5 v6 C D Z) (cs : Array Value) (t : TypeId) : St w0 (W.alloc (.cells cs t)) ((W.heap.size, cs, t) :: L) v4 v5 v6 C D Z :=
  ⟨Owns.alloc h.own cs t, Kd.S_alloc h.s _, Kd.R_alloc h.d _, Kd.R_alloc h.z _⟩
/-- A box of structs of type 28 is written. -/
theorem St.set (h : St w0 W L v4 v5 v6 C D Z) (i g : Nat) (cs : Array Value) (hi : L[i]? = some (g, cs, 28)) (j : Nat) (v : Value) : St w0 (W.setCell ⟨g, j, none⟩ v) (L.set i (g, cs.setIfInBounds j v, 28)) v4 v5 v6 C D Z := by
  have hb : W.heap[g]? = some (.cells cs 28 (0, 0)) := h.own.at i _ hi
  exact ⟨h.own.set i g cs 28 hi j v, Kd.S_mono (Kd.S_far (p := ⟨g, j, none⟩) (Kd.S_types h.s hb (by decide)) (fun _ hk => hk.2) v) (fun _ hk => hk.1), Kd.R_mono (Kd.R_far (p := ⟨g, j, none⟩) (Kd.R_types h.d hb (by decide)) (fun _ hk => hk.2) v) (fun _ hk => hk.1), Kd.R_mono (Kd.R_far (p := ⟨g, j, none⟩) (Kd.R_types h.z hb (by decide)) (fun _ hk => hk.2) v) (fun _ hk => hk.1)⟩
/-- A struct is stored into a box. -/
theorem St.set7 (h : St w0 W L v4 v5 v6 C D Z) (i g : Nat) (c0 c1 c2 c3 c4 c5 c6 : Value) (hi : L[i]? = some (g, #[c0, c1, c2, c3, c4, c5, c6], 28)) (u0 u1 u2 u3 u4 u5 u6 : Value) : St w0 (((((((W.setCell ⟨g, 0, none⟩ u0).setCell ⟨g, 1, none⟩ u1).setCell ⟨g, 2, none⟩ u2).setCell ⟨g, 3, none⟩ u3).setCell ⟨g, 4, none⟩ u4).setCell ⟨g, 5, none⟩ u5).setCell ⟨g, 6, none⟩ u6) (L.set i (g, #[u0, u1, u2, u3, u4, u5, u6], 28)) v4 v5 v6 C D Z := by
  have hlt : i < L.length := (List.getElem?_eq_some_iff.1 hi).1
  have hS : ∀ {W : World} {cs : Array Value}, St w0 W (L.set i (g, cs, 28)) v4 v5 v6 C D Z → ∀ (j : Nat) (u : Value), St w0 (W.setCell ⟨g, j, none⟩ u) (L.set i (g, cs.setIfInBounds j u, 28)) v4 v5 v6 C D Z := by
    intro W cs h j u
    have := h.set i g cs (List.getElem?_set_self hlt) j u
    rwa [List.set_set] at this
  have a6 := hS (hS (hS (hS (hS (hS (h.set i g _ hi 0 u0) 1 u1) 2 u2) 3 u3) 4 u4) 5 u5) 6 u6
  simp only [List.setIfInBounds_toArray, List.set_cons_zero, List.set_cons_succ] at a6
  exact a6
/-- Fewer boxes. -/
theorem St.drop (h : St w0 W L v4 v5 v6 C D Z) (ps : List Nat) (hp : ps.Nodup) (L' : List Blk) (hL : L'.map some = ps.map (fun i => L[i]?)) : St w0 W L' v4 v5 v6 C D Z := ⟨h.own.pick ps hp L' hL, h.s, h.d, h.z⟩
theorem own_some {g n c k : Nat} (h : some k ≠ (Value.slice (some ⟨g, 0, none⟩) n c).ownBlock) : k ≠ g := fun e => h (by rw [e]; rfl)
theorem St.grewD {g n c : Nat} {D' : List Int} (h : St w0 W L v4 (.slice (some ⟨g, 0, none⟩) n c) v6 C D Z) (hL : ∀ x, x ∈ L → x.2.2 ≠ 3) (hg : W.grownBy W' (some g)) (hD : Kd.R (Kd.int .i64) 3 W' w0.heap.size (fun k => some k ≠ v6.ownBlock) (.slice (some ⟨g, 0, none⟩) n c) D') : St w0 W' L v4 (.slice (some ⟨g, 0, none⟩) n c) v6 C D' Z := by
  obtain ⟨cells, hc⟩ := Kd.R_typed h.d g rfl
  exact ⟨Owns.grown h.own hg (Kd.R_base h.d g rfl) (farT h.own hc hL), Kd.S_mono (Kd.S_grown (Kd.S_types h.s hc (by decide)) hg (fun _ hk e => hk.2 (by injection e))) (fun _ hk => hk.1), hD, Kd.R_grown h.z hg (fun _ hk e => own_some hk (by injection e))⟩
theorem St.grewZ {g n c : Nat} {Z' : List Int} (h : St w0 W L v4 v5 (.slice (some ⟨g, 0, none⟩) n c) C D Z) (hL : ∀ x, x ∈ L → x.2.2 ≠ 3) (hg : W.grownBy W' (some g)) (hZ : Kd.R (Kd.int .i64) 3 W' w0.heap.size (fun k => some k ≠ v5.ownBlock) (.slice (some ⟨g, 0, none⟩) n c) Z') : St w0 W' L v4 v5 (.slice (some ⟨g, 0, none⟩) n c) C D Z' := by
  obtain ⟨cells, hc⟩ := Kd.R_typed h.z g rfl
  exact ⟨Owns.grown h.own hg (Kd.R_base h.z g rfl) (farT h.own hc hL), Kd.S_mono (Kd.S_grown (Kd.S_types h.s hc (by decide)) hg (fun _ hk e => hk.2 (by injection e))) (fun _ hk => hk.1), Kd.R_grown h.d hg (fun _ hk e => own_some hk (by injection e)), hZ⟩
theorem St.putD {g n c : Nat} (h : St w0 W L v4 (.slice (some ⟨g, 0, none⟩) n c) v6 C D Z) (hL : ∀ x, x ∈ L → x.2.2 ≠ 3) (i : Nat) (x : Int) : St w0 (W.setCell ⟨g, i, none⟩ (.int .i64 x)) L v4 (.slice (some ⟨g, 0, none⟩) n c) v6 C (D.set i x) Z := by
  have p := Kd.R_putg h.d (i : Int) x
  rw [Int.toNat_natCast] at p
  exact h.grewD hL p.2 p.1
theorem St.putZ {g n c : Nat} (h : St w0 W L v4 v5 (.slice (some ⟨g, 0, none⟩) n c) C D Z) (hL : ∀ x, x ∈ L → x.2.2 ≠ 3) (i : Nat) (x : Int) : St w0 (W.setCell ⟨g, i, none⟩ (.int .i64 x)) L v4 v5 (.slice (some ⟨g, 0, none⟩) n c) C D (Z.set i x) := by
  have p := Kd.R_putg h.z (i : Int) x
  rw [Int.toNat_natCast] at p
  exact h.grewZ hL p.2 p.1
/-- A byte of an image of the row is written. -/
theorem St.putB {g n c : Nat} (h : St w0 W L (.slice (some ⟨g, 0, none⟩) n c) v5 v6 C D Z) (hL : ∀ x, x ∈ L → x.2.2 ≠ 5) (i : Nat) (hi : i < n) (j : Nat) (hj : j < (rd_T47 C i).f3.length) (x : Int) :
    ∃ g' c', W.cell? ⟨g, i * 4 + 3, none⟩ = some (.slice (some ⟨g', 0, none⟩) (rd_T47 C i).f3.length c') ∧ W.frozen? ⟨g', j, none⟩ = false ∧ (∃ y, W.cell? ⟨g', j, none⟩ = some (.int .u8 y)) ∧
      St w0 (W.setCell ⟨g', j, none⟩ (.int .u8 x)) L (.slice (some ⟨g, 0, none⟩) n c) v5 v6 (C.set i ⟨(rd_T47 C i).f0, (rd_T47 C i).f1, (rd_T47 C i).f2, (rd_T47 C i).f3.set j x⟩) D Z := by
  obtain ⟨oki, ce, hcl, hM, hcc, hok, hbk⟩ := Kd.S_borrow h.s z47 (i : Int) (by omega) (by omega)
  obtain ⟨ve, rfl, ge⟩ := k47_openM hM
  rw [Int.toNat_natCast] at hcc hbk
  have hv := hcc 3 _ rfl
  have ge : Kd.R (Kd.int .u8) 5 W w0.heap.size oki ve (rd_T47 C i).f3 := ge
  obtain ⟨g', c', rfl, gb, gl, cells, hG⟩ := Kd.R_form ge (by omega)
  have hp := Kd.R_putg ge (j : Int) x
  have hc := Kd.R_celln 0 ge (j : Int) (by omega) (by omega)
  rw [Int.toNat_natCast] at hp hc
  refine ⟨g', c', ?_, hc.2, ⟨_, hc.1⟩, Owns.grown h.own hp.2 gb (farT h.own hG hL), ?_, Kd.R_mono (Kd.R_grown (Kd.R_types h.d hG (by decide)) hp.2 (fun _ hk e => hk.2 (by injection e))) (fun _ hk => hk.1), Kd.R_mono (Kd.R_grown (Kd.R_types h.z hG (by decide)) hp.2 (fun _ hk e => hk.2 (by injection e))) (fun _ hk => hk.1)⟩
  · rw [add_at] at hv
    simpa [show k47.sz = 4 from rfl] using hv
  · exact hbk hp.2 (fun k e => by injection e with e; subst e; exact ge.1 _ rfl) (k47_mkM _ _ _ (⟨(rd_T47 C i).f0, (rd_T47 C i).f1, (rd_T47 C i).f2, (rd_T47 C i).f3.set j x⟩ : S47) hp.1)
theorem St.cellD {g n c : Nat} (h : St w0 W L v4 (.slice (some ⟨g, 0, none⟩) n c) v6 C D Z) (i : Nat) (hi : i < n) : W.cell? ⟨g, i, none⟩ = some (.int .i64 (rd D i)) ∧ W.frozen? ⟨g, i, none⟩ = false := by
  have := Kd.R_celln 0 h.d (i : Int) (by omega) (by omega)
  rw [Int.toNat_natCast] at this
  exact this
theorem St.cellZ {g n c : Nat} (h : St w0 W L v4 v5 (.slice (some ⟨g, 0, none⟩) n c) C D Z) (i : Nat) (hi : i < n) : W.cell? ⟨g, i, none⟩ = some (.int .i64 (rd Z i)) ∧ W.frozen? ⟨g, i, none⟩ = false := by
  have := Kd.R_celln 0 h.z (i : Int) (by omega) (by omega)
  rw [Int.toNat_natCast] at this
  exact this
end
section
variable {w0 W W' W1 W2 : World} {L : List Blk} {v4 v5 v6 v : Value} {C : List S47} {D Z X : List Int} {gm : Nat} {cs : Array Value}
theorem Owns.box {t : TypeId} (h : Owns w0 L W) (hb : Below W.heap.size W W') (hg : gm = W.heap.size) (hbox : W'.heap[gm]? = some (.cells cs t (0, 0))) : Owns w0 ((gm, cs, t) :: L) W' := by
  have h' := Owns.step h hb
  refine ⟨h'.bel, fun x hx => ?_, ?_⟩
  · rcases List.mem_cons.1 hx with rfl | hx
    · exact ⟨by rw [hg]; exact h.bel.size, hbox⟩
    · exact h'.all x hx
  · rw [List.map_cons, List.nodup_cons]
    refine ⟨fun hm => ?_, h.nd⟩
    obtain ⟨y, hy, e⟩ := List.mem_map.1 hm
    have := blk_lt (h.all y hy).2
    simp only at e
    omega
/-- Beside the rows, an image of its own in a box: not yet put into the row. -/
structure Mid (w0 W : World) (L : List Blk) (v4 v5 v6 : Value) (C : List S47) (D Z : List Int) (gm : Nat) (cs : Array Value) (v : Value) (X : List Int) : Prop where
  own : Owns w0 ((gm, cs, 47) :: L) W
  s : Kd.S k47 47 W w0.heap.size (fun k => some k ≠ v.ownBlock ∧ k ≠ gm) v4 C
  d : Kd.R (Kd.int .i64) 3 W w0.heap.size (fun k => some k ≠ v6.ownBlock) v5 D
  z : Kd.R (Kd.int .i64) 3 W w0.heap.size (fun k => some k ≠ v5.ownBlock) v6 Z
  r : Kd.R (Kd.int .u8) 5 W w0.heap.size (fun _ => True) v X
theorem Mid.a (h : St w0 W L v4 v5 v6 C D Z) (hb : Below W.heap.size W W1) (hr : Kd.R (Kd.int .u8) 5 W1 W.heap.size (fun _ => True) v X) (hg : gm = W1.heap.size) (hb2 : Below W1.heap.size W1 W2) (hbox : W2.heap[gm]? = some (.cells cs 47 (0, 0))) : Mid w0 W2 L v4 v5 v6 C D Z gm cs v X := by
  have h1 := h.step hb
  exact ⟨Owns.box h1.own hb2 hg hbox, Kd.S_mono (Kd.S_below (Kd.S_elderB (Kd.S_elder' h.s (Kd.R_base hr) hb) gm (Nat.le_of_eq hg.symm)) hb2) (fun k hk => ⟨hk.1.2, hk.2⟩), Kd.R_below h1.d hb2, Kd.R_below h1.z hb2, Kd.R_lower (Kd.R_below hr hb2) h.own.bel.size⟩
theorem Mid.b (h : St w0 W L v4 v5 v6 C D Z) (hg : gm = W.heap.size) (hb : Below W.heap.size W W1) (hbox : W1.heap[gm]? = some (.cells cs 47 (0, 0))) (hb2 : Below W1.heap.size W1 W2) (hr : Kd.R (Kd.int .u8) 5 W2 W1.heap.size (fun _ => True) v X) : Mid w0 W2 L v4 v5 v6 C D Z gm cs v X := by
  have h1 := h.step hb
  exact ⟨Owns.step (Owns.box h.own hb hg hbox) hb2, Kd.S_mono (Kd.S_elder' (Kd.S_below (Kd.S_elderB h.s gm (Nat.le_of_eq hg.symm)) hb) (Kd.R_base hr) hb2) (fun k hk => ⟨hk.2, hk.1.2⟩), Kd.R_below h1.d hb2, Kd.R_below h1.z hb2, Kd.R_lower hr h1.own.bel.size⟩
theorem Mid.set (h : Mid w0 W L v4 v5 v6 C D Z gm cs v X) (j : Nat) (u : Value) : Mid w0 (W.setCell ⟨gm, j, none⟩ u) L v4 v5 v6 C D Z gm (cs.setIfInBounds j u) v X := by
  have hb : W.heap[gm]? = some (.cells cs 47 (0, 0)) := h.own.at 0 _ rfl
  exact ⟨h.own.set 0 gm cs 47 rfl j u, Kd.S_far (p := ⟨gm, j, none⟩) h.s (fun _ hk => hk.2) u, Kd.R_mono (Kd.R_far (p := ⟨gm, j, none⟩) (Kd.R_types h.d hb (by decide)) (fun _ hk => hk.2) u) (fun _ hk => hk.1), Kd.R_mono (Kd.R_far (p := ⟨gm, j, none⟩) (Kd.R_types h.z hb (by decide)) (fun _ hk => hk.2) u) (fun _ hk => hk.1), Kd.R_mono (Kd.R_far (p := ⟨gm, j, none⟩) (Kd.R_types h.r hb (by decide)) (fun _ hk => hk.2) u) (fun _ hk => trivial)⟩
theorem Mid.set4 {c0 c1 c2 c3 : Value} (h : Mid w0 W L v4 v5 v6 C D Z gm #[c0, c1, c2, c3] v X) (u0 u1 u2 u3 : Value) : Mid w0 ((((W.setCell ⟨gm, 0, none⟩ u0).setCell ⟨gm, 1, none⟩ u1).setCell ⟨gm, 2, none⟩ u2).setCell ⟨gm, 3, none⟩ u3) L v4 v5 v6 C D Z gm #[u0, u1, u2, u3] v X := by
  have a := (((h.set 0 u0).set 1 u1).set 2 u2).set 3 u3
  simp only [List.setIfInBounds_toArray, List.set_cons_zero, List.set_cons_succ] at a
  exact a
theorem Mid.step (h : Mid w0 W L v4 v5 v6 C D Z gm cs v X) (hb : Below W.heap.size W W') : Mid w0 W' L v4 v5 v6 C D Z gm cs v X := ⟨Owns.step h.own hb, Kd.S_below h.s hb, Kd.R_below h.d hb, Kd.R_below h.z hb, Kd.R_below h.r hb⟩
theorem Mid.drew (h : Mid w0 W L v4 v5 v6 C D Z gm cs v X) : Mid w0 W.drew L v4 v5 v6 C D Z gm cs v X := h.step (below_drew1 (Below.refl _ _))
theorem Mid.drewN (h : Mid w0 W L v4 v5 v6 C D Z gm cs v X) (n : Nat) : Mid w0 (W.drewN n) L v4 v5 v6 C D Z gm cs v X := h.step (pw_below_drewN (Below.refl _ _) n)
/-- The image goes into the row. -/
theorem Mid.put {g n c : Nat} (h : Mid w0 W L (.slice (some ⟨g, 0, none⟩) n c) v5 v6 C D Z gm cs v X) (hL : ∀ x, x ∈ L → x.2.2 ≠ 47) (i : Nat) (hi : i < n) (f0 f1 f2 : Int) :
    (∀ j, j < 4 → ∃ u, W.cell? ⟨g, i * 4 + j, none⟩ = some u) ∧ (∀ j, W.frozen? ⟨g, i * 4 + j, none⟩ = false) ∧
      St w0 (W.setCells g (i * 4) [.int .i64 f0, .int .i64 f1, .int .i64 f2, v]) L (.slice (some ⟨g, 0, none⟩) n c) v5 v6 (C.set i ⟨f0, f1, f2, X⟩) D Z := by
  have hs : Kd.S k47 47 W w0.heap.size (fun k => True ∧ ¬ (some k = v.ownBlock)) (.slice (some ⟨g, 0, none⟩) n c) C := Kd.S_mono h.s (fun k hk => ⟨trivial, hk.1⟩)
  obtain ⟨cellsg, hcg⟩ := Kd.S_typed h.s g rfl
  have hgb := Kd.S_base h.s g rfl
  obtain ⟨oki, ce, hcl, hM, hcc, hfr, hok, hH⟩ := Kd.S_elem hs z47 (i : Int) (by omega) (by omega)
  obtain ⟨ve, rfl, ge⟩ := k47_openM hM
  rw [Int.toNat_natCast] at hcc hfr
  have hP := Kd.S_seg hH (by omega) (by omega) (seg := [.int .i64 f0, .int .i64 f1, .int .i64 f2, v]) (j := 0) (show 4 ≤ 4 from by decide) (x' := (⟨f0, f1, f2, X⟩ : S47)) (k47_mkM _ _ _ (⟨f0, f1, f2, X⟩ : S47) (Kd.R_tight rfl h.r)) (fun k hk => Or.inr hk)
    (fun k hk => ⟨trivial, fun e => by
      obtain ⟨cv, hcv⟩ := Kd.R_typed h.r k hk.symm
      rw [e, hcg] at hcv
      injection hcv with hcv
      injection hcv with _ hcv
      exact absurd hcv (by decide)⟩)
  rw [Int.toNat_natCast] at hP
  have hP1 : Kd.S k47 47 (W.setCells g (i * 4) [.int .i64 f0, .int .i64 f1, .int .i64 f2, v]) w0.heap.size (fun _ => True) (.slice (some ⟨g, 0, none⟩) n c) (C.set i ⟨f0, f1, f2, X⟩) := hP.1
  have hg : W.grownBy (W.setCells g (i * 4) [.int .i64 f0, .int .i64 f1, .int .i64 f2, v]) (some g) := hP.2
  have ho : Owns w0 L W := ⟨h.own.bel, fun x hx => h.own.all x (List.mem_cons_of_mem _ hx), (List.nodup_cons.1 h.own.nd).2⟩
  refine ⟨fun j hj => ?_, hfr, Owns.grown ho hg hgb (farT ho hcg hL), hP1, Kd.R_mono (Kd.R_grown (Kd.R_types h.d hcg (by decide)) hg (fun _ hk e => hk.2 (by injection e))) (fun _ hk => hk.1), Kd.R_mono (Kd.R_grown (Kd.R_types h.z hcg (by decide)) hg (fun _ hk e => hk.2 (by injection e))) (fun _ hk => hk.1)⟩
  match j, hj with
  | 0, _ => exact ⟨_, hcc 0 _ rfl⟩
  | 1, _ => exact ⟨_, hcc 1 _ rfl⟩
  | 2, _ => exact ⟨_, hcc 2 _ rfl⟩
  | 3, _ => exact ⟨_, hcc 3 _ rfl⟩
/-- What an image of the row shows. -/
theorem St.elem {g n c : Nat} (h : St w0 W L (.slice (some ⟨g, 0, none⟩) n c) v5 v6 C D Z) (i : Nat) (hi : i < n) :
    ∃ A c', W.cell? ⟨g, i * 4, none⟩ = some (.int .i64 (rd_T47 C i).f0) ∧ W.cell? ⟨g, i * 4 + 1, none⟩ = some (.int .i64 (rd_T47 C i).f1) ∧ W.cell? ⟨g, i * 4 + 2, none⟩ = some (.int .i64 (rd_T47 C i).f2) ∧ W.cell? ⟨g, i * 4 + 3, none⟩ = some (.slice A (rd_T47 C i).f3.length c') ∧ (rd_T47 C i).f3.length ≤ c' ∧ (Kd.int .u8).C W A (rd_T47 C i).f3.length (rd_T47 C i).f3 := by
  obtain ⟨_, ce, hcl, hM, hcc, _, _, _⟩ := Kd.S_elem h.s z47 (i : Int) (by omega) (by omega)
  obtain ⟨ve, rfl, ge⟩ := k47_openM hM
  rw [Int.toNat_natCast] at hcc
  have ge : Kd.R (Kd.int .u8) 5 W w0.heap.size _ ve (rd_T47 C i).f3 := ge
  obtain ⟨A, c', rfl, hl, hC⟩ := Kd.R_reads ge
  exact ⟨A, c', hcc 0 _ rfl, hcc 1 _ rfl, hcc 2 _ rfl, hcc 3 _ rfl, hl, hC⟩
end
/-- What some cells hold. -/
def Cells : List (Addr × Value) → World → Prop
  | [], _ => True
  | x :: r, w => w.cell? x.1 = some x.2 ∧ Cells r w
theorem Cells.below : ∀ {l : List (Addr × Value)} {w w' : World}, Below w.heap.size w w' → Cells l w → Cells l w'
  | [], _, _, _, _ => trivial
  | _ :: _, _, _, hb, h => ⟨pw_cell_below hb h.1, Cells.below hb h.2⟩
theorem Cells.far : ∀ {l : List (Addr × Value)} {w : World} {g j : Nat} {u : Value}, Cells l w → (∀ x, x ∈ l → x.1.block ≠ g) → Cells l (w.setCell ⟨g, j, none⟩ u)
  | [], _, _, _, _, _, _ => trivial
  | x :: r, w, g, j, u, h, hn => ⟨(cell_far (p := ⟨g, j, none⟩) (hn x List.mem_cons_self) u).trans h.1, Cells.far h.2 (fun y hy => hn y (List.mem_cons_of_mem _ hy))⟩
theorem Cells.lt : ∀ {l : List (Addr × Value)} {w : World}, Cells l w → ∀ x, x ∈ l → x.1.block < w.heap.size
  | [], _, _, _, hx => absurd hx (by simp)
  | x :: r, w, h, y, hy => by
    rcases List.mem_cons.1 hy with rfl | hy
    · exact World.block_lt_of_cell? _ _ h.1
    · exact Cells.lt h.2 y hy
theorem Cells.ne {l : List (Addr × Value)} {w : World} {g : Nat} (h : Cells l w) (hg : g = w.heap.size) : ∀ x, x ∈ l → x.1.block ≠ g := fun x hx e => by
  have := Cells.lt h x hx
  omega
/-- The boxes and one row of bytes. -/
structure S1 (w0 W : World) (L : List Blk) (v : Value) (D : List Int) : Prop where
  own : Owns w0 L W
  r : Kd.R (Kd.int .u8) 5 W w0.heap.size (fun _ => True) v D
section
variable {w0 W W' : World} {L : List Blk} {v : Value} {D D' : List Int}
theorem S1.step (h : S1 w0 W L v D) (hb : Below W.heap.size W W') : S1 w0 W' L v D := ⟨Owns.step h.own hb, Kd.R_below h.r hb⟩
theorem S1.drew (h : S1 w0 W L v D) : S1 w0 W.drew L v D := h.step (below_drew1 (Below.refl _ _))
theorem S1.drewN (h : S1 w0 W L v D) (n : Nat) : S1 w0 (W.drewN n) L v D := h.step (pw_below_drewN (Below.refl _ _) n)
theorem S1.alloc (h : S1 w0 W L v D) (cs : Array Value) (t : TypeId) : S1 w0 (W.alloc (.cells cs t)) ((W.heap.size, cs, t) :: L) v D := ⟨Owns.alloc h.own cs t, Kd.R_alloc h.r _⟩
theorem S1.set (h : S1 w0 W L v D) (i g : Nat) (cs : Array Value) (hi : L[i]? = some (g, cs, 47)) (j : Nat) (u : Value) : S1 w0 (W.setCell ⟨g, j, none⟩ u) (L.set i (g, cs.setIfInBounds j u, 47)) v D := by
  have hb : W.heap[g]? = some (.cells cs 47 (0, 0)) := h.own.at i _ hi
  exact ⟨h.own.set i g cs 47 hi j u, Kd.R_mono (Kd.R_far (p := ⟨g, j, none⟩) (Kd.R_types h.r hb (by decide)) (fun _ hk => hk.2) u) (fun _ hk => trivial)⟩
theorem S1.set4 (h : S1 w0 W L v D) (i g : Nat) (c0 c1 c2 c3 : Value) (hi : L[i]? = some (g, #[c0, c1, c2, c3], 47)) (u0 u1 u2 u3 : Value) : S1 w0 ((((W.setCell ⟨g, 0, none⟩ u0).setCell ⟨g, 1, none⟩ u1).setCell ⟨g, 2, none⟩ u2).setCell ⟨g, 3, none⟩ u3) (L.set i (g, #[u0, u1, u2, u3], 47)) v D := by
  have hlt : i < L.length := (List.getElem?_eq_some_iff.1 hi).1
  have hS : ∀ {W : World} {cs : Array Value}, S1 w0 W (L.set i (g, cs, 47)) v D → ∀ (j : Nat) (u : Value), S1 w0 (W.setCell ⟨g, j, none⟩ u) (L.set i (g, cs.setIfInBounds j u, 47)) v D := by
    intro W cs h j u
    have := h.set i g cs (List.getElem?_set_self hlt) j u
    rwa [List.set_set] at this
  have a6 := hS (hS (hS (h.set i g _ hi 0 u0) 1 u1) 2 u2) 3 u3
  simp only [List.setIfInBounds_toArray, List.set_cons_zero, List.set_cons_succ] at a6
  exact a6
theorem S1.grew {g n c : Nat} (h : S1 w0 W L (.slice (some ⟨g, 0, none⟩) n c) D) (hL : ∀ x, x ∈ L → x.2.2 ≠ 5) (hg : W.grownBy W' (some g)) (hD : Kd.R (Kd.int .u8) 5 W' w0.heap.size (fun _ => True) (.slice (some ⟨g, 0, none⟩) n c) D') : S1 w0 W' L (.slice (some ⟨g, 0, none⟩) n c) D' := by
  obtain ⟨cells, hc⟩ := Kd.R_typed h.r g rfl
  exact ⟨Owns.grown h.own hg (Kd.R_base h.r g rfl) (farT h.own hc hL), hD⟩
end
/-- A part of a row that is read. -/
theorem C_part {k : IntKind} {w : World} {ad : Addr} {m : Nat} {ys : List Int} (h : (Kd.int k).C w (some ad) m ys) (off n : Nat) (ho : off + n ≤ m) : (Kd.int k).C w (some (ad.add off)) n ((ys.drop off).take n) := by
  obtain ⟨h1, h2, h3⟩ := h
  refine ⟨by rw [List.length_take, List.length_drop]; omega, by omega, fun hn => ⟨ad.add off, rfl, fun j p hp => ?_⟩⟩
  obtain ⟨ad', e, hc⟩ := h3 (by omega)
  obtain rfl := Option.some.inj e
  have hj : j < n := by
    have := (List.getElem?_eq_some_iff.1 hp).1
    rw [List.length_take] at this
    omega
  rw [List.getElem?_take_of_lt hj, List.getElem?_drop] at hp
  obtain ⟨c, c1, c2, c3⟩ := hc (off + j) p hp
  refine ⟨c, c1, c2, fun i u hu => ?_⟩
  have := c3 i u hu
  have e2 : (ad.add off).add (j * (Kd.int k).sz + i) = ad.add ((off + j) * (Kd.int k).sz + i) := by
    have e1 : ∀ a : Nat, a * (Kd.int k).sz = a := fun a => Nat.mul_one a
    rw [e1, e1]
    rw [Nat.add_assoc]
    generalize j + i = q
    unfold Addr.add
    by_cases h1 : off = 0
    · subst h1
      simp
    · by_cases h2 : q = 0
      · subst h2
        simp [h1]
      · simp [h1, h2, Nat.add_assoc]
  rw [e2]
  exact this
end Go.Proofs.Ytmpmennepjkocaa.Out
