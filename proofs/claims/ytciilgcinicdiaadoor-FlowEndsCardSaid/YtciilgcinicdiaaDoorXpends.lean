/- FlowEnds, in plain Lean. -/
import Derived.Test.YtciilgcinicdiaaDoorXlive
import Derived.Test.YtciilgcinicdiaaDoorXLFlowEnds
namespace Go.Proofs.YtciilgcinicdiaaDoor.X
open Go.RowKit Go.Proofs.YtciilgcinicdiaaDoorW.PrintWords Go.Proofs.YtciilgcinicdiaaDoorW.PrintLast Go.Proofs.YtciilgcinicdiaaDoorW.PrintMore
set_option linter.unusedVariables false
set_option linter.unusedSimpArgs false

theorem chkF_ok {l : List S36} : ∀ (m : Nat) (i : Int), (chkF l m i).1 = 0 → ∀ j : Int, i ≤ j → j < i + m → badAt l j = false ∧ ¬ (j = (l.length : Int) - 1 ∧ fallsB (opAt l j) = true)
  | 0, i, _, j, h1, h2 => by omega
  | m + 1, i, h, j, h1, h2 => by
    unfold chkF at h
    by_cases hb : badAt l i = true
    · rw [if_pos hb] at h; have h : (12 : Int) = 0 := h; omega
    · rw [if_neg hb] at h
      by_cases hf : i = (l.length : Int) - 1 ∧ fallsB (opAt l i) = true
      · rw [if_pos hf] at h; have h : (2 : Int) = 0 := h; omega
      · rw [if_neg hf] at h
        by_cases hj : j = i
        · subst hj
          exact ⟨by simpa using hb, hf⟩
        · exact chkF_ok m (i + 1) h j (by omega) (by omega)
def endsB (o : Int) : Bool := o == 22 || o == 23 || o == 30 || decide (o < 1) || decide (o > 32)
theorem nxt2_len {f j : Bool} {a t : Int} : (((nxt2 f j a t).length : Int) == 0) = (!f && !j) := by
  unfold nxt2
  cases f <;> cases j <;> simp <;> (repeat' split) <;> simp <;> omega
theorem jumpAt_yes {l : List S36} {i : Int} (ht : hasT (opAt l i) = true) (h0 : 0 ≤ kAt l i) (h1 : kAt l i < (l.length : Int)) (hl : l.length ≤ 256) : (jumpAt l i).2 = true := by
  have h : tgt (opAt l i) (kAt l i) = (kAt l i, true) := if_pos ⟨ht, h0, by omega⟩
  unfold jumpAt
  simp only [h, Bool.true_and, decide_eq_true_eq]
  exact h1
theorem jumpAt_no {l : List S36} {i : Int} (ht : hasT (opAt l i) = false) : (jumpAt l i).2 = false := by
  have h : tgt (opAt l i) (kAt l i) = (0, false) := if_neg (by rw [ht]; simp)
  unfold jumpAt
  simp only [h, Bool.false_and]
theorem ends_eq {l : List S36} (hl : l.length ≤ 40) (h : (chkL l).1 = 0) {i : Int} (h0 : 0 ≤ i) (h1 : i < (l.length : Int)) : (((nxt l i).length : Int) == 0) = endsB (opAt l i) := by
  have hn : l.length ≠ 0 := by omega
  unfold chkL at h
  rw [if_neg hn] at h
  obtain ⟨hb, hf⟩ := chkF_ok l.length 0 h i h0 (by omega)
  unfold nxt
  rw [if_pos ⟨h0, h1⟩, nxt2_len]
  by_cases ht : hasT (opAt l i) = true
  · have hk : 0 ≤ kAt l i ∧ kAt l i < (l.length : Int) := by
      simp only [badAt, ht, Bool.true_and, Bool.or_eq_false_iff, decide_eq_false_iff_not] at hb
      omega
    have hj := jumpAt_yes ht hk.1 hk.2 (by omega)
    rw [hj]
    simp only [hasT, Bool.or_eq_true, beq_iff_eq] at ht
    rw [show (!fallAt l i && !true) = false by simp]
    rcases ht with (ht | ht) | ht <;> rw [ht] <;> rfl
  · have ht' : hasT (opAt l i) = false := by simpa using ht
    have hj := jumpAt_no ht'
    rw [hj]
    have hfa : fallAt l i = fallsB (opAt l i) := by
      unfold fallAt
      cases hfb : fallsB (opAt l i)
      · rfl
      · rw [decide_eq_true (by
          have : ¬ i = (l.length : Int) - 1 := fun he => hf ⟨he, hfb⟩
          omega)]
        rfl
    rw [hfa]
    have h6 : ¬ opAt l i = 6 := by
      intro he; rw [he] at ht'; exact absurd ht' (by decide)
    unfold fallsB endsB
    by_cases c1 : opAt l i = 22
    · rw [c1]; rfl
    by_cases c2 : opAt l i = 23
    · rw [c2]; rfl
    by_cases c3 : opAt l i = 30
    · rw [c3]; rfl
    have e (a b : Int) (h : ¬ a = b) : (a == b) = false := beq_eq_false_iff_ne.mpr h
    rw [e _ _ h6, e _ _ c1, e _ _ c2, e _ _ c3]
    by_cases d1 : 1 ≤ opAt l i
    · by_cases d2 : opAt l i ≤ 32
      · simp [d1, d2] <;> omega
      · simp [d1, d2] <;> omega
    · simp [d1] <;> omega

theorem ends_go {l : List S36} (hl : l.length ≤ 40) (e : Int) (he : e = (chkL l).1) : ∀ (m i : Nat), l.length - i = m → i ≤ l.length → Ev (fun k => secateurlaw14_FlowEnds.l0 k l e (i : Int)) true
  | m, i, h1, h2 => by
    have stop : Ev (fun k => secateurlaw14_FlowEnds.j1 k l e (i : Int) false) true :=
      Ev.succ (fun k => by rw [secateurlaw14_FlowEnds.j1]) (Ev.neg (by decide) (Ev.bind live_eq (Ev.pure true)))
    refine Ev.succ (fun k => by rw [secateurlaw14_FlowEnds.l0]) ?_
    by_cases h3 : (i : Int) < (l.length : Int)
    · refine Ev.pos h3 ?_
      by_cases h4 : e = 0
      · have h5 : (e == 0) = true := by rw [h4]; rfl
        rw [h5]
        obtain ⟨m, rfl⟩ : ∃ m', m = m' + 1 := ⟨m - 1, by omega⟩
        have ih := ends_go hl e he m (i + 1) (by omega) (by omega)
        have hw : wrap64 ((i : Int) + 1) = ((i + 1 : Nat) : Int) := by rw [wrapS (by omega) (by omega)]; omega
        have hen := ends_eq hl (by rw [← he]; exact h4) (Int.natCast_nonneg i) h3
        have hN := Next_eq (l := l) (by omega) (i : Int)
        refine Ev.succ (fun k => by rw [secateurlaw14_FlowEnds.j1]) (Ev.pos rfl (Ev.pos (by omega) (Ev.pos h3 ?_)))
        rw [hw]
        have end1 : ∀ b : Bool, b = endsB (opAt l i) → Ev (fun k => (flow_Next.f l (i : Int)).bind fun t => if (b != ((t.length : Int) == 0)) = true then none else secateurlaw14_FlowEnds.l0 k l e ((i + 1 : Nat) : Int)) true := fun b hb => by
          refine Ev.cbind hN (Ev.neg ?_ ih)
          rw [hen, hb]
          simp
        by_cases c1 : opAt l i = 22
        · exact Ev.pos c1 (end1 true (by rw [c1]; rfl))
        refine Ev.neg c1 ?_
        by_cases c2 : opAt l i = 23
        · exact Ev.pos c2 (end1 true (by rw [c2]; rfl))
        refine Ev.neg c2 ?_
        by_cases c3 : opAt l i = 30
        · exact Ev.pos c3 (end1 true (by rw [c3]; rfl))
        refine Ev.neg c3 ?_
        have e (a b : Int) (h : ¬ a = b) : (a == b) = false := beq_eq_false_iff_ne.mpr h
        by_cases c4 : opAt l i < 1
        · exact Ev.pos c4 (end1 true (by unfold endsB; rw [decide_eq_true c4]; simp))
        exact Ev.neg c4 (end1 _ (by unfold endsB; rw [e _ _ c1, e _ _ c2, e _ _ c3, decide_eq_false c4]; rfl))
      · have h5 : (e == 0) = false := beq_eq_false_iff_ne.mpr h4
        rw [h5]
        exact stop
    · exact Ev.neg h3 stop
theorem FlowEnds_true (l0 : List S36) : ∃ k, secateurlaw14_FlowEnds.f k l0 = some true := by
  have hl := few_len l0
  exact (Ev.eq (F := fun k => secateurlaw14_FlowEnds.f k l0) (fun k => rfl) (Ev.cbind (few_eq l0) (Ev.bind (Check_eq (by omega)) (ends_go hl _ rfl _ 0 rfl (by omega))))).get
end Go.Proofs.YtciilgcinicdiaaDoor.X
