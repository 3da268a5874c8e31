/- What a call's argument reads as: out of the row's own reading, kind by kind. -/
import Derived.Test.YtciilgcinicdiaaDoorX0
import Derived.Deep.Slices
import Derived.ChangeArms
import Derived.DataReads
namespace Go.Proofs.YtciilgcinicdiaaDoor.X
open Go.RowKit Go.Proofs.YtciilgcinicdiaaDoorW.PrintWords Go.Proofs.YtciilgcinicdiaaDoorW.PrintLast Go.Proofs.YtciilgcinicdiaaDoorW.PrintMore
set_option linter.unusedVariables false

/-- whatever is read at type t is some value of this kind, of which Q holds. -/
def Opens {α : Type} (P : Program) (d : Kd α) (t : TypeId) (Q : α → Prop) : Prop :=
  ∀ (H : Type) (enc : TypeId × Value → H) (w : World) (base : Nat) (sp : Nat → Bool) (held : Bool) (fuel : Nat) (cs : List Value) (x : DataW H × List MemPlace), DataW.trod enc P w base sp held fuel t cs = some x → ∃ a, d.K w a cs ∧ Q a
/-- the same of a struct's fields from cell o on. -/
def OpensL {α : Type} (P : Program) (d : Kd α) (fs : List Field) (o : Nat) (Q : α → Prop) : Prop :=
  ∀ (H : Type) (enc : TypeId × Value → H) (w : World) (base : Nat) (sp : Nat → Bool) (held : Bool) (fuel : Nat) (cs : List Value), cs.length = o + d.sz → (∀ f ∈ fs, ∃ x, DataW.trod enc P w base sp held fuel f.type ((cs.drop f.offset).take (P.cellsOf f.type)) = some x) → ∃ a, d.K w a (cs.drop o) ∧ Q a
variable {P : Program}
theorem Opens.int {t : TypeId} {k : IntKind} (ht : P.underlying t = some (.int k)) : Opens P (Kd.int k) t (fun n => (Lit.int k n).wf = true) := by
  intro H enc w base sp held fuel cs x h
  cases fuel with
  | zero => simp [DataW.trod] at h
  | succ n =>
    unfold DataW.trod at h
    rw [ht] at h
    split at h <;> simp_all
    obtain ⟨⟨rfl, hw⟩, _⟩ := h
    exact ⟨_, rfl, hw⟩
theorem Opens.bool {t : TypeId} (ht : P.underlying t = some .bool) : Opens P Kd.bool t (fun _ => True) := by
  intro H enc w base sp held fuel cs x h
  cases fuel with
  | zero => simp [DataW.trod] at h
  | succ n =>
    unfold DataW.trod at h
    rw [ht] at h
    split at h <;> simp_all
    have hb : ∀ b : Bool, Kd.bool.K w false [Value.bool b] ∨ Kd.bool.K w true [Value.bool b] := fun b => by
      cases b
      · exact .inl rfl
      · exact .inr rfl
    exact hb _
theorem Opens.string {t : TypeId} (ht : P.underlying t = some .string) : Opens P Kd.string t (fun s => s.size ≤ maxLen) := by
  intro H enc w base sp held fuel cs x h
  cases fuel with
  | zero => simp [DataW.trod] at h
  | succ n =>
    unfold DataW.trod at h
    rw [ht] at h
    split at h <;> simp_all
    exact ⟨_, rfl, h.1⟩
theorem Opens.iso {α β : Type} {d : Kd α} {f : β → α} {g : α → β} (hfg : ∀ a, f (g a) = a) {t : TypeId} {Q : α → Prop} (h : Opens P d t Q) : Opens P (Kd.iso d f) t (fun b => Q (f b)) := by
  intro H enc w base sp held fuel cs x hx
  obtain ⟨a, ha, hq⟩ := h H enc w base sp held fuel cs x hx
  exact ⟨g a, by show d.K w (f (g a)) cs; rw [hfg]; exact ha, by show Q (f (g a)); rw [hfg]; exact hq⟩
theorem Opens.rows {α : Type} {d : Kd α} {Q : α → Prop} {w : World} {a : Addr} : ∀ (n : Nat), (∀ i, i < n → ∃ x c, c.length = d.sz ∧ d.K w x c ∧ Q x ∧ ∀ j u, c[j]? = some u → w.cell? (a.add (i * d.sz + j)) = some u) →
    ∃ xs : List α, xs.length = n ∧ (∀ x ∈ xs, Q x) ∧ ∀ j p, xs[j]? = some p → ∃ c, c.length = d.sz ∧ d.K w p c ∧ ∀ i u, c[i]? = some u → w.cell? (a.add (j * d.sz + i)) = some u
  | 0, _ => ⟨[], rfl, by simp, by simp⟩
  | n + 1, h => by
    obtain ⟨xs, h1, h2, h3⟩ := Opens.rows n (fun i hi => h i (by omega))
    obtain ⟨x, c, hc, hk, hq, hcell⟩ := h n (by omega)
    refine ⟨xs ++ [x], by simp [h1], fun y hy => ?_, fun j p hj => ?_⟩
    · rcases List.mem_append.1 hy with hy | hy
      · exact h2 y hy
      · rw [List.mem_singleton.1 hy]; exact hq
    · by_cases hjn : j < xs.length
      · rw [List.getElem?_append_left hjn] at hj
        exact h3 j p hj
      · rw [List.getElem?_append_right (by omega)] at hj
        have hj0 : j - xs.length = 0 := by
          rcases Nat.eq_zero_or_pos (j - xs.length) with h0 | h0
          · exact h0
          · rw [List.getElem?_eq_none (by simp; omega)] at hj
            cases hj
        rw [hj0] at hj
        have hp : x = p := by simpa using hj
        subst hp
        have : j = n := by omega
        subst this
        exact ⟨c, hc, hk, hcell⟩
theorem Opens.slice {α : Type} {d : Kd α} {t e : TypeId} {Q : α → Prop} (ht : P.underlying t = some (.slice e)) (hc : P.cellsOf e = d.sz) (h : Opens P d e Q) : Opens P (Kd.slice e d) t (fun xs => ∀ x ∈ xs, Q x) := by
  intro H enc w base sp held fuel cs x hx
  rcases Deep.open_slice ht hx with ⟨rfl, _⟩ | ⟨a, len, cap, m, n, D, Pl, rfl, hb, hl, hm, hmm, rfl, hi⟩
  · exact ⟨[], ⟨none, 0, rfl, Nat.le_refl _, rfl, by simp, fun h => absurd h (by simp)⟩, by simp⟩
  · have hlm : len ≤ m := by rw [hmm]; split <;> omega
    obtain ⟨xs, h1, h2, h3⟩ := Opens.rows (d := d) (Q := Q) (w := w) (a := a) len (fun i hil => by
      obtain ⟨cs', hcs, htr⟩ := hi i (by omega)
      obtain ⟨y, hy, hq⟩ := h H enc w base sp held n cs' _ htr
      obtain ⟨_, hlen, hcell⟩ := World.cells?_some hcs
      refine ⟨y, cs', by rw [hlen, hc], hy, hq, fun j u hj => ?_⟩
      have hjl : j < cs'.length := (List.getElem?_eq_some_iff.1 hj).1
      have h4 := hcell j (by omega)
      rw [Deep.add_add, hc] at h4
      rw [h4]; exact hj)
    refine ⟨xs, ⟨some a, cap, by rw [h1], by omega, rfl, by rw [h1]; simp only [maxLen] at hm; omega, fun _ => ⟨a, rfl, h3⟩⟩, h2⟩
theorem OpensL.one {α : Type} {d : Kd α} {f : Field} {o : Nat} {Q : α → Prop} (h : Opens P d f.type Q) (ho : f.offset = o) (hc : P.cellsOf f.type = d.sz) : OpensL P d [f] o Q := by
  intro H enc w base sp held fuel cs hl hf
  obtain ⟨x, hx⟩ := hf f (by simp)
  rw [ho, hc, List.take_of_length_le (by simp; omega)] at hx
  exact h H enc w base sp held fuel _ x hx
theorem OpensL.cons {α β : Type} {d : Kd α} {d' : Kd β} {f : Field} {fs : List Field} {o o' : Nat} {Q : α → Prop} {Q' : β → Prop} (h : Opens P d f.type Q) (ho : f.offset = o) (hc : P.cellsOf f.type = d.sz) (ho' : o' = o + d.sz) (h' : OpensL P d' fs o' Q') : OpensL P (Kd.pair d d') (f :: fs) o (fun x => Q x.1 ∧ Q' x.2) := by
  intro H enc w base sp held fuel cs hl hf
  have hl2 : cs.length = o + (d.sz + d'.sz) := hl
  obtain ⟨x, hx⟩ := hf f (by simp)
  rw [ho, hc] at hx
  obtain ⟨y, hy, hq⟩ := h H enc w base sp held fuel _ x hx
  obtain ⟨z, hz, hq'⟩ := h' H enc w base sp held fuel cs (by omega) (fun f' hf' => hf f' (List.mem_cons_of_mem _ hf'))
  refine ⟨(y, z), ⟨(cs.drop o).take d.sz, cs.drop o', ?_, hy, hz⟩, hq, hq'⟩
  rw [ho', ← List.drop_drop, List.take_append_drop]
theorem Opens.struct {α : Type} {d : Kd α} {t : TypeId} {fs : Array Field} {Q : α → Prop} (ht : P.underlying t = some (.struct fs)) (hc : P.cellsOf t = d.sz) (h : OpensL P d fs.toList 0 Q) : Opens P d t Q := by
  intro H enc w base sp held fuel cs x hx
  obtain ⟨xs, n, rfl, rfl, hl, hxl, hf⟩ := DataW.trod_struct ht hx
  have := h H enc w base sp held n cs (by omega) (fun f hfm => by
    obtain ⟨i, hi, hfi⟩ := List.mem_iff_getElem.1 hfm
    have h1 : fs[i]? = some f := by rw [← hfi]; simp at hi ⊢
    have h2 := hf i f h1
    have h3 : i < xs.length := by simp at hi; omega
    exact ⟨xs[i], by rw [h2, List.getElem?_eq_getElem h3]⟩)
  rwa [List.drop_zero] at this
/-- an argument of a slice's type. -/
theorem Opens.arg {α : Type} {d : Kd α} {t e : TypeId} {Q : α → Prop} (h : Opens P (Kd.slice e d) t (fun xs => ∀ x ∈ xs, Q x)) {H : Type} {enc : TypeId × Value → H} {w : World} {base : Nat} {sp : Nat → Bool} {held : Bool} {A : Option Addr} {n c : Nat} {dd : DataW H} {ps : List MemPlace} (hd : DataW.Trod enc P w base sp held t (.slice A n c) dd ps) :
    ∃ xs : List α, n = xs.length ∧ xs.length ≤ c ∧ d.C w A xs.length xs ∧ ∀ x ∈ xs, Q x := by
  obtain ⟨fuel, hf⟩ := hd
  obtain ⟨xs, ⟨A', c', he, hl, hC⟩, hq⟩ := h H enc w base sp held fuel _ _ hf
  have he2 : [Value.slice A n c] = [Value.slice A' xs.length c'] := he
  injection he2 with he2 _
  injection he2 with h1 h2 h3
  subst h1; subst h2; subst h3
  exact ⟨xs, rfl, hl, hC, hq⟩
end Go.Proofs.YtciilgcinicdiaaDoor.X
