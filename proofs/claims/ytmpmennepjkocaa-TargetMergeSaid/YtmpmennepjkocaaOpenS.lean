/- How an argument that reads as data is told by the kinds of the printed words: one theorem for each shape of type, with the slices' sizes. No program in sight. -/
import Derived.Test.YtmpmennepjkocaaWWords
import Derived.ProofKit
import Derived.OpenShut
import Derived.WalkKit
import Derived.SizedLaws
set_option linter.unusedVariables false
namespace Go.Proofs.Ytmpmennepjkocaa.OpenS
open Go.ChangeShapes Go.WideShapes Go.RowKit Go.Proofs.YtmpmennepjkocaaW.PrintWords

/-- What reads as data of type t is of kind d, and 'ok' holds of it. -/
def Rd {α : Type} (P : Program) (d : Kd α) (ok : α → Prop) (t : TypeId) : Prop :=
  ∀ (H : Type) (enc : TypeId × Value → H) (w : World) (base : Nat) (spare : Nat → Bool) (held : Bool) (fuel : Nat) (cs : List Value) (x : DataW H × List MemPlace),
    DataW.trod enc P w base spare held fuel t cs = some x → (∀ n ∈ x.1.weights P t, n ≤ reachBytes) → ∃ a : α, ok a ∧ d.K w a cs
/-- The same of types in line, from a cell on: (where it begins, its type). -/
def RdL {α : Type} (P : Program) (d : Kd α) (ok : α → Prop) (off : Nat) (l : List (Nat × TypeId)) : Prop :=
  ∀ (H : Type) (enc : TypeId × Value → H) (w : World) (base : Nat) (spare : Nat → Bool) (held : Bool) (fuel : Nat) (cs : List Value),
    (∀ p, p ∈ l → ∃ y, DataW.trod enc P w base spare held fuel p.2 ((cs.drop p.1).take (P.cellsOf p.2)) = some y ∧ ∀ n ∈ y.1.weights P p.2, n ≤ reachBytes) → cs.length = off + d.sz → ∃ a : α, ok a ∧ d.K w a (cs.drop off)

section
variable {P : Program}
theorem mem_all {H : Type} {e : TypeId} {n : Nat} : ∀ {ds : List (DataW H)} {d : DataW H}, d ∈ ds → n ∈ d.weights P e → n ∈ DataW.weightsAll P e ds
  | d0 :: ds, d, h, hn => by
    simp only [DataW.weightsAll, List.mem_append]
    rcases List.mem_cons.1 h with rfl | h
    · exact Or.inl hn
    · exact Or.inr (mem_all h hn)
theorem light {H : Type} {ts : List TypeId} {ds : List (DataW H)} (h : (DataW.weightsEach P ts ds).all (· ≤ reachBytes) = true) {j : Nat} {t : TypeId} {d : DataW H} (ht : ts[j]? = some t) (hd : ds[j]? = some d) : ∀ n ∈ d.weights P t, n ≤ reachBytes := by
  intro n hn
  simpa using List.all_eq_true.1 h n (DataW.weights_mem_each ht hd n hn)
theorem rd_int {t : TypeId} {k : IntKind} (ht : P.underlying t = some (.int k)) : Rd P (Kd.int k) (fun a => (Lit.int k a).wf = true) t := by
  intro H enc w base spare held fuel cs x h _
  obtain ⟨n, rfl, _, hw⟩ := DataW.trod_int ht h
  exact ⟨n, hw, rfl⟩
theorem rd_bool {t : TypeId} (ht : P.underlying t = some .bool) : Rd P Kd.bool (fun _ => True) t := by
  intro H enc w base spare held fuel cs x h _
  obtain ⟨b, rfl, _⟩ := DataW.trod_bool ht h
  exact ⟨b, trivial, rfl⟩
theorem rd_slice {α : Type} {d : Kd α} {ok : α → Prop} {t e : TypeId} (ht : P.underlying t = some (.slice e)) (hd : Rd P d ok e) (hs : d.sz = P.cellsOf e) (hB : (P.bytesOf e == 0) = false := by kernel_rfl) : Rd P (Kd.slice e d) (fun xs => xs.length ≤ 140737488351232 ∧ ∀ a, a ∈ xs → ok a) t := by
  intro H enc w base spare held fuel cs x h hw
  rcases DataW.trod_slice ht h with ⟨rfl, _⟩ | ⟨a, len, cap, elems, rest, n, _, rfl, hxe, hb, hlc, hcm, hel, hget, _, _⟩
  · exact ⟨[], ⟨Nat.zero_le _, fun a ha => by simp at ha⟩, none, 0, rfl, Nat.le_refl _, rfl, Nat.zero_le _, fun h0 => absurd h0 (by simp)⟩
  · subst hxe
    simp only [DataW.weights, ht] at hw
    have hlen : len ≤ 140737488351232 := by
      have h1 := hw _ List.mem_cons_self
      simp only [List.length_map] at h1
      have h2 : 1 ≤ P.bytesOf e := by
        have := beq_eq_false_iff_ne.1 hB
        omega
      have h3 : elems.length + rest.length ≤ (elems.length + rest.length) * P.bytesOf e := Nat.le_mul_of_pos_right _ h2
      have h4 : reachBytes = 140737488351232 := rfl
      omega
    have hex : ∀ i : Nat, i < len → ∃ (v : α) (c : List Value), ok v ∧ d.K w v c ∧ c.length = d.sz ∧ ∀ (j : Nat) (u : Value), c[j]? = some u → w.cell? (a.add (i * d.sz + j)) = some u := by
      intro i hi
      have hg := hget i hi
      have hi' : i < elems.length := by omega
      rw [List.getElem?_eq_getElem hi'] at hg
      obtain ⟨c, hc, hx⟩ := Option.bind_eq_some_iff.1 hg
      obtain ⟨v, hv, hK⟩ := hd H enc w base spare held n c _ hx (fun m hm => hw m (List.mem_cons_of_mem _ (List.mem_append_left _ (mem_all (List.mem_map.2 ⟨elems[i], List.getElem_mem hi', rfl⟩) hm))))
      obtain ⟨_, hl, hcell⟩ := World.cells?_some hc
      refine ⟨v, c, hv, hK, by rw [hl, hs], fun j u hu => ?_⟩
      have hj : j < P.cellsOf e := by
        have := (List.getElem?_eq_some_iff.1 hu).1
        omega
      rw [hs, ← Addr.add_add, hcell j hj, hu]
    have hch : ∃ xs : List α, xs.length = len ∧ ∀ (i : Nat) (v : α), xs[i]? = some v → ok v ∧ ∃ c, d.K w v c ∧ c.length = d.sz ∧ ∀ (j : Nat) (u : Value), c[j]? = some u → w.cell? (a.add (i * d.sz + j)) = some u := by
      have key : ∀ m, m ≤ len → ∃ xs : List α, xs.length = m ∧ ∀ (i : Nat) (v : α), xs[i]? = some v → ok v ∧ ∃ c, d.K w v c ∧ c.length = d.sz ∧ ∀ (j : Nat) (u : Value), c[j]? = some u → w.cell? (a.add (i * d.sz + j)) = some u := by
        intro m
        induction m with
        | zero => exact fun _ => ⟨[], rfl, fun i v hv => by simp at hv⟩
        | succ m ih =>
          intro hm
          obtain ⟨xs, hl, hx⟩ := ih (by omega)
          obtain ⟨v, c, h1, h2, h3, h4⟩ := hex m (by omega)
          refine ⟨xs ++ [v], by simp [hl], fun i u hu => ?_⟩
          rcases Nat.lt_or_ge i m with hi | hi
          · rw [List.getElem?_append_left (by omega)] at hu
            exact hx i u hu
          · have hi2 : i = m := by
              have := (List.getElem?_eq_some_iff.1 hu).1
              simp at this
              omega
            subst hi2
            rw [List.getElem?_append_right (by omega), hl] at hu
            simp at hu
            subst hu
            exact ⟨h1, c, h2, h3, h4⟩
      exact key len (Nat.le_refl _)
    obtain ⟨xs, hl, hx⟩ := hch
    refine ⟨xs, ⟨by omega, fun v hv => ?_⟩, some a, cap, by rw [hl], by omega, rfl, by unfold maxLen at hcm; omega, fun _ => ⟨a, rfl, fun j p hp => ?_⟩⟩
    · obtain ⟨i, hi⟩ := List.mem_iff_getElem?.1 hv
      exact (hx i v hi).1
    · obtain ⟨_, c, h2, h3, h4⟩ := hx j p hp
      exact ⟨c, h3, h2, h4⟩
theorem rdl_last {α : Type} {d : Kd α} {ok : α → Prop} {off : Nat} {t : TypeId} (h : Rd P d ok t) (hs : d.sz = P.cellsOf t) : RdL P d ok off [(off, t)] := by
  intro H enc w base spare held fuel cs hl hlen
  obtain ⟨y, hy, hw⟩ := hl (off, t) (List.mem_singleton.2 rfl)
  have e : (cs.drop off).take (P.cellsOf t) = cs.drop off := List.take_of_length_le (by rw [List.length_drop]; omega)
  rw [e] at hy
  exact h H enc w base spare held fuel _ y hy hw
theorem rdl_cons {α β : Type} {d : Kd α} {d' : Kd β} {ok : α → Prop} {ok' : β → Prop} {off off' : Nat} {t : TypeId} {l : List (Nat × TypeId)} (h : Rd P d ok t) (hs : d.sz = P.cellsOf t) (ho : off' = off + d.sz) (h' : RdL P d' ok' off' l) :
    RdL P (Kd.pair d d') (fun x => ok x.1 ∧ ok' x.2) off ((off, t) :: l) := by
  intro H enc w base spare held fuel cs hl hlen
  have hsz : (Kd.pair d d').sz = d.sz + d'.sz := rfl
  obtain ⟨y, hy, hw⟩ := hl (off, t) List.mem_cons_self
  obtain ⟨a, ha, hK⟩ := h H enc w base spare held fuel _ y hy hw
  obtain ⟨b, hb, hK'⟩ := h' H enc w base spare held fuel cs (fun p hp => hl p (List.mem_cons_of_mem _ hp)) (by omega)
  refine ⟨(a, b), ⟨ha, hb⟩, (cs.drop off).take (P.cellsOf t), cs.drop off', ?_, hK, hK'⟩
  rw [ho, hs, ← List.drop_drop, List.take_append_drop]
theorem rd_struct {α : Type} {d : Kd α} {ok : α → Prop} {t : TypeId} {fs : Array Field} (ht : P.underlying t = some (.struct fs)) (hs : d.sz = P.cellsOf t) (h : RdL P d ok 0 (fs.toList.map fun f => (f.offset, f.type))) : Rd P d ok t := by
  intro H enc w base spare held fuel cs x hx hw
  obtain ⟨xs, n, _, rfl, hlen, hxl, hf⟩ := DataW.trod_struct ht hx
  simp only [DataW.weights, ht] at hw
  have := h H enc w base spare held n cs (fun p hp => by
    obtain ⟨f, hfm, rfl⟩ := List.mem_map.1 hp
    obtain ⟨i, hi⟩ := List.mem_iff_getElem?.1 hfm
    have hlt : i < xs.length := by
      have := (List.getElem?_eq_some_iff.1 hi).1
      simp at this
      omega
    exact ⟨xs[i], by rw [hf i f (by simpa using hi), List.getElem?_eq_getElem hlt], fun m hm => hw m (DataW.weights_mem_each (j := i) (t := f.type) (d := xs[i].1) (by rw [List.getElem?_map, hi]; rfl) (by rw [List.getElem?_map, List.getElem?_eq_getElem hlt]; rfl) m hm)⟩) (by omega)
  simpa using this
theorem rd_array {α : Type} {d : Kd α} {ok : α → Prop} {t e : TypeId} {n : Nat} (ht : P.underlying t = some (.array n e)) (hs : d.sz = P.cellsOf t) (h : RdL P d ok 0 ((List.range n).map fun i => (i * P.cellsOf e, e))) : Rd P d ok t := by
  intro H enc w base spare held fuel cs x hx hw
  obtain ⟨xs, m, _, rfl, hlen, hxl, hf⟩ := DataW.trod_array ht hx
  simp only [DataW.weights, ht] at hw
  have := h H enc w base spare held m cs (fun p hp => by
    obtain ⟨i, hi, rfl⟩ := List.mem_map.1 hp
    have hi' := List.mem_range.1 hi
    exact ⟨xs[i]'(by omega), by rw [hf i hi', List.getElem?_eq_getElem (by omega)], fun q hq => hw q (mem_all (List.mem_map.2 ⟨xs[i]'(by omega), List.getElem_mem _, rfl⟩) hq)⟩) (by omega)
  simpa using this
theorem rd_iso {α β : Type} {d : Kd α} {ok : α → Prop} {t : TypeId} {f : β → α} (g : α → β) (hg : ∀ a, f (g a) = a) (h : Rd P d ok t) : Rd P (Kd.iso d f) (fun b => ok (f b)) t := by
  intro H enc w base spare held fuel cs x hx hw
  obtain ⟨a, ha, hK⟩ := h H enc w base spare held fuel cs x hx hw
  exact ⟨g a, by show ok (f (g a)); rw [hg]; exact ha, by show d.K w (f (g a)) cs; rw [hg]; exact hK⟩
theorem okWide_array {w : World} {r : Reach} {base : Nat} {t e : TypeId} {n : Nat} {v : Value} (ht : P.underlying t = some (.array n e)) (h : Value.okWide P w r base t v) : ∃ cs, v = .agg cs ∧ cs.size = P.cellsOf t := by
  simp only [Value.okWide, ht] at h
  obtain ⟨cs, h1, h2, _⟩ := h
  exact ⟨cs, h1, h2⟩
section
variable {α : Type} {d : Kd α} {ok : α → Prop} {H : Type} {enc : TypeId × Value → H} {w : World} {base b0 : Nat} {spare : Nat → Bool} {held : Bool} {r : Reach} {t : TypeId} {v : Value} {x : DataW H} {p : List MemPlace}
theorem open_struct {fs : Array Field} (ht : P.underlying t = some (.struct fs)) (h : Rd P d ok t) (hv : Value.okWide P w r b0 t v) (hx : DataW.Trod enc P w base spare held t v x p) (hw : ∀ n ∈ x.weights P t, n ≤ reachBytes) : ∃ (cs : Array Value) (a : α), v = .agg cs ∧ ok a ∧ d.K w a cs.toList := by
  obtain ⟨cs, rfl, _⟩ := okWide_struct ht hv
  obtain ⟨fuel, hf⟩ := hx
  obtain ⟨a, ha, hK⟩ := h H enc w base spare held fuel _ _ hf hw
  exact ⟨cs, a, rfl, ha, by simpa [Value.cells] using hK⟩
theorem open_array {e : TypeId} {n : Nat} (ht : P.underlying t = some (.array n e)) (h : Rd P d ok t) (hv : Value.okWide P w r b0 t v) (hx : DataW.Trod enc P w base spare held t v x p) (hw : ∀ n ∈ x.weights P t, n ≤ reachBytes) : ∃ (cs : Array Value) (a : α), v = .agg cs ∧ ok a ∧ d.K w a cs.toList := by
  obtain ⟨cs, rfl, _⟩ := okWide_array ht hv
  obtain ⟨fuel, hf⟩ := hx
  obtain ⟨a, ha, hK⟩ := h H enc w base spare held fuel _ _ hf hw
  exact ⟨cs, a, rfl, ha, by simpa [Value.cells] using hK⟩
end
theorem arr_of {cs : Array Value} {l : List Value} (h : cs.toList = l) : cs = l.toArray := by rw [← h]
end
end Go.Proofs.Ytmpmennepjkocaa.OpenS
