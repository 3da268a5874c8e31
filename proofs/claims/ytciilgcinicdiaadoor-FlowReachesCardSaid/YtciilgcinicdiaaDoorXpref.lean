/- Plain Lean: what the reference computes: the same. -/
import Derived.Test.YtciilgcinicdiaaDoorXpuref
import Derived.Test.YtciilgcinicdiaaDoorXsecateurref14
namespace Go.Proofs.YtciilgcinicdiaaDoor.X
open Go.RowKit Go.Proofs.YtciilgcinicdiaaDoorW.PrintWords Go.Proofs.YtciilgcinicdiaaDoorW.PrintLast Go.Proofs.YtciilgcinicdiaaDoorW.PrintMore
set_option linter.unusedVariables false
set_option linter.unusedSimpArgs false

theorem Ev.of_mono {α : Type} {F : Nat → Option α} {a : α} (hm : ∀ k, LeO (F k) (F (k + 1))) (K : Nat) (h : F K = some a) : Ev F a :=
  ⟨K, fun k hk => by
    obtain ⟨d, rfl⟩ : ∃ d, k = K + d := ⟨k - K, by omega⟩
    clear hk
    induction d with
    | zero => exact h
    | succ d ih => exact hm _ _ ih⟩
theorem beqF {a b : Int} (h : ¬ a = b) : (a == b) = false := beq_eq_false_iff_ne.mpr h
theorem refTarget_eq (a0 a1 a2 a3 a4 : Int) (s5 s6 s7 : ByteArray) (l8 : List Int) : secateurref07_Target.f a0 a1 a2 a3 a4 s5 s6 s7 l8 = some (tgt a0 a4) := by
  unfold secateurref07_Target.f tgt
  have key : (if a4 ≥ 0 then (if a4 ≤ 256 then (some (a4, true)) else (some (0, false))) else (some ((0 : Int), false))) = some (if true = true ∧ 0 ≤ a4 ∧ a4 ≤ 256 then (a4, true) else (0, false)) := by
    by_cases h1 : a4 ≥ 0
    · by_cases h2 : a4 ≤ 256
      · rw [if_pos h1, if_pos h2, if_pos ⟨rfl, h1, h2⟩]
      · rw [if_pos h1, if_neg h2, if_neg (fun h => h2 h.2.2)]
    · rw [if_neg h1, if_neg (fun h => h1 h.2.1)]
  by_cases h6 : a0 = 6
  · rw [if_pos h6, key, show hasT a0 = true by rw [h6]; rfl]
  by_cases h7 : a0 = 7
  · rw [if_neg h6, if_pos h7, key, show hasT a0 = true by rw [h7]; rfl]
  by_cases h8 : a0 = 8
  · rw [if_neg h6, if_neg h7, if_pos h8, key, show hasT a0 = true by rw [h8]; rfl]
  · rw [if_neg h6, if_neg h7, if_neg h8, show hasT a0 = false by unfold hasT; rw [beqF h6, beqF h7, beqF h8]; rfl]
    simp
theorem refFalls_eq (o : Int) : secateurref07_Falls.f o = some (fallsB o) := by
  unfold secateurref07_Falls.f fallsB
  by_cases h1 : o ≥ 1
  · by_cases h2 : o ≤ 32
    · rw [if_pos h1, if_pos h2, decide_eq_true (show 1 ≤ o from h1), decide_eq_true h2]
      by_cases h6 : o = 6
      · subst h6; rfl
      by_cases h22 : o = 22
      · subst h22; rfl
      by_cases h23 : o = 23
      · subst h23; rfl
      rw [if_neg h6, if_neg h22, if_neg h23, beqF h6, beqF h22, beqF h23]
      simp [bne]
    · rw [if_pos h1, if_neg h2, decide_eq_false h2]; simp
  · rw [if_neg h1, decide_eq_false (show ¬ 1 ≤ o from h1)]; simp
theorem refShape_fin : ∀ i : Fin 33, ∃ s, secateurref07_Shape.f 20 (i.val : Int) = some s ∧ secateurref07_Has.f 20 s 116 = some (hasT (i.val : Int)) := by
  intro i
  have h : ∀ i : Fin 33, ((secateurref07_Shape.f 20 (i.val : Int)).bind fun s => secateurref07_Has.f 20 s 116) = some (hasT (i.val : Int)) := by decide +kernel
  exact Option.bind_eq_some_iff.1 (h i)
theorem refShape (o : Int) : ∃ s, Ev (fun k => secateurref07_Shape.f k o) s ∧ Ev (fun k => secateurref07_Has.f k s 116) (hasT o) := by
  by_cases h : 0 ≤ o ∧ o ≤ 32
  · obtain ⟨s, h1, h2⟩ := refShape_fin ⟨o.toNat, by omega⟩
    simp only [show ((o.toNat : Nat) : Int) = o by omega] at h1 h2
    exact ⟨s, Ev.of_mono (fun k => secateurref07_Shape.mono o k) 20 h1, Ev.of_mono (fun k => secateurref07_Has.mono s 116 k) 20 h2⟩
  · have hn : ∀ c : Int, 0 ≤ c → c ≤ 32 → ¬ o = c := by intro c h1 h2 he; omega
    have e : ∀ c : Int, 0 ≤ c → c ≤ 32 → (o == c) = false := fun c h1 h2 => beqF (hn c h1 h2)
    refine ⟨⟨#[]⟩, ⟨20, fun k hk => ?_⟩, ?_⟩
    · obtain ⟨k, rfl⟩ : ∃ j, k = j + 20 := ⟨k - 20, by omega⟩
      simp [secateurref07_Shape.f, secateurref07_Shape.j0, secateurref07_Shape.j1, secateurref07_Shape.j2, secateurref07_Shape.j3, secateurref07_Shape.j4, secateurref07_Shape.j5, secateurref07_Shape.j6, hn, e]
    · have : hasT o = false := by unfold hasT; rw [e 6 (by omega) (by omega), e 7 (by omega) (by omega), e 8 (by omega) (by omega)]; rfl
      rw [this]
      exact Ev.of_mono (fun k => secateurref07_Has.mono _ 116 k) 3 (by decide +kernel)

/-! ### Check -/
theorem refCheck_j {l : List S36} (hl : l.length ≤ 1000) {m i : Nat} (h2 : i < l.length) (ih : Ev (fun k => secateurref14_Check.l0 k l ((i : Int) + 1)) (chkF l m ((i : Int) + 1))) (b : Bool) (hb : b = badAt l i) : Ev (fun k => secateurref14_Check.j1 k l (i : Int) b) (chkF l (m + 1) i) := by
  refine Ev.succ (fun k => by rw [secateurref14_Check.j1]) ?_
  have hw : wrap64 ((i : Int) + 1) = (i : Int) + 1 := wrapS (by omega) (by omega)
  have hw2 : wrap64 ((l.length : Int) - 1) = (l.length : Int) - 1 := wrapS (by omega) (by omega)
  rw [hw, hw2]
  unfold chkF
  rw [← hb]
  cases b with
  | true => exact Ev.pos rfl (Ev.pure _)
  | false =>
    refine Ev.neg (by decide) ?_
    simp only [Bool.false_eq_true, if_false]
    by_cases he : (i : Int) = (l.length : Int) - 1
    · refine Ev.pos he (Ev.pos (by omega) (Ev.pos (by omega) (Ev.cbind (refFalls_eq _) ?_)))
      by_cases hf : fallsB (opAt l i) = true
      · rw [if_pos ⟨he, hf⟩]
        exact Ev.pos hf (Ev.pure _)
      · rw [if_neg (fun h => hf h.2)]
        exact Ev.neg hf ih
    · rw [if_neg (fun h => he h.1)]
      exact Ev.neg he ih
theorem refCheck_go {l : List S36} (hl : l.length ≤ 1000) (h0 : l.length ≠ 0) : ∀ (m i : Nat), l.length - i = m → i ≤ l.length → Ev (fun k => secateurref14_Check.l0 k l (i : Int)) (chkF l m (i : Int))
  | 0, i, h1, h2 => by
    show Ev _ ((0 : Int), (0 : Int))
    exact Ev.succ (fun k => by rw [secateurref14_Check.l0]) (Ev.neg (by omega) (Ev.neg (by omega) (Ev.pure _)))
  | m + 1, i, h1, h2 => by
    have ih := refCheck_go hl h0 m (i + 1) (by omega) (by omega)
    rw [show ((i + 1 : Nat) : Int) = (i : Int) + 1 by omega] at ih
    have hj := fun b hb => refCheck_j hl (show i < l.length by omega) ih b hb
    refine Ev.succ (fun k => by rw [secateurref14_Check.l0]) (Ev.pos (by omega) (Ev.pos (by omega) ?_))
    obtain ⟨s, hs1, hs2⟩ := refShape (opAt l i)
    refine Ev.bind hs1 (Ev.bind hs2 ?_)
    by_cases ht : hasT (opAt l i) = true
    · refine Ev.pos ht ?_
      by_cases hk : kAt l i < 0
      · exact Ev.pos hk (hj true (by simp [badAt, ht, hk]))
      · exact Ev.neg hk (hj _ (by simp [badAt, ht, hk]; rfl))
    · exact Ev.neg ht (hj false (by simp [badAt, ht]))
theorem refCheck_eq {l : List S36} (hl : l.length ≤ 1000) : Ev (fun k => secateurref14_Check.f k l) (chkL l) := by
  unfold chkL
  by_cases h0 : l.length = 0
  · rw [if_pos h0]
    exact Ev.succ (fun k => by rw [secateurref14_Check.f, secateurref14_Check.l0]) (Ev.neg (by omega) (Ev.pos (by omega) (Ev.pure _)))
  · rw [if_neg h0]
    exact Ev.eq (fun k => rfl) (refCheck_go hl h0 l.length 0 (by omega) (by omega))

/-! ### Next -/
theorem refNext_eq {l : List S36} (hl : l.length ≤ 1000) (i : Int) : Ev (fun k => secateurref14_Next.f k l i) (nxt l i) := by
  have stop : Ev (fun k => secateurref14_Next.j0 k l i true) [] := Ev.succ (fun k => by rw [secateurref14_Next.j0]) (Ev.pos rfl (Ev.pure _))
  unfold nxt
  by_cases h0 : i < 0
  · rw [if_neg (fun h => by omega)]
    exact Ev.eq (fun k => by unfold secateurref14_Next.f; rw [if_pos h0]) stop
  · by_cases h1 : i < (l.length : Int)
    · rw [if_pos ⟨by omega, h1⟩]
      have hw : wrap64 (i + 1) = i + 1 := wrapS (by omega) (by omega)
      have j4 : ∀ (out : List Int) (t : Int) (f j : Bool), out.length ≤ 3 → Ev (fun k => secateurref14_Next.j4 k i out t j f) (out ++ (if f then [i + 1] else []) ++ (if j && f && decide (t > i + 1) then [t] else [])) := by
        intro out t f j ho
        refine Ev.succ (fun k => by rw [secateurref14_Next.j4]) ?_
        rw [hw]
        cases f
        · refine Ev.neg (by decide) ?_
          cases j <;> simp <;> exact Ev.pure _
        · refine Ev.pos rfl (Ev.pos (by omega) ?_)
          simp only [Option.bind_some]
          cases j
          · refine Ev.neg (by decide) ?_
            simpa using Ev.pure _
          · refine Ev.pos rfl ?_
            by_cases ht : t > i + 1
            · refine Ev.pos ht (Ev.pos (by simp; omega) ?_)
              simp [ht]
              exact Ev.pure _
            · refine Ev.neg ht ?_
              simp [ht]
              exact Ev.pure _
      have j3 : ∀ (t : Int) (f j b : Bool), Ev (fun k => secateurref14_Next.j3 k i [] t j f b) ((if b then [t] else []) ++ (if f then [i + 1] else []) ++ (if j && f && decide (t > i + 1) then [t] else [])) := by
        intro t f j b
        refine Ev.succ (fun k => by rw [secateurref14_Next.j3]) ?_
        cases b
        · exact Ev.neg (by decide) (j4 [] t f j (by simp))
        · exact Ev.pos rfl (Ev.pos (by simp) (j4 [t] t f j (by simp)))
      have j2 : ∀ (t : Int) (f j : Bool), Ev (fun k => secateurref14_Next.j2 k i [] t j f) (nxt2 f j (i + 1) t) := by
        intro t f j
        refine Ev.succ (fun k => by rw [secateurref14_Next.j2]) ?_
        rw [hw]
        unfold nxt2
        cases j
        · exact Ev.neg (by decide) (j3 t f false false)
        · refine Ev.pos rfl ?_
          cases f
          · exact Ev.neg (by decide) (j3 t false true true)
          · exact Ev.pos rfl (j3 t true true (decide (t < i + 1)))
      have j1 : ∀ (t : Int) (j : Bool), Ev (fun k => secateurref14_Next.j1 k l i [] t j) (nxt2 (fallAt l i) j (i + 1) t) := by
        intro t j
        refine Ev.succ (fun k => by rw [secateurref14_Next.j1]) (Ev.pos (by omega) (Ev.pos h1 (Ev.cbind (refFalls_eq _) ?_)))
        rw [hw]
        unfold fallAt
        show Ev (fun k => if fallsB (opAt l i) = true then _ else _) _
        cases hf : fallsB (opAt l i)
        · exact Ev.neg (by decide) (j2 t false j)
        · exact Ev.pos rfl (j2 t _ j)
      refine Ev.eq (fun k => by unfold secateurref14_Next.f; rw [if_neg h0, decide_eq_false (show ¬ i ≥ (l.length : Int) by omega)]) (Ev.succ (fun k => by rw [secateurref14_Next.j0]) (Ev.neg (by decide) (Ev.pos (by omega) (Ev.pos h1 (Ev.cbind (refTarget_eq _ _ _ _ _ _ _ _ _) ?_)))))
      unfold jumpAt
      show Ev (fun k => if (tgt (opAt l i) (kAt l i)).2 = true then secateurref14_Next.j1 k l i [] (tgt (opAt l i) (kAt l i)).1 (decide ((tgt (opAt l i) (kAt l i)).1 < (l.length : Int))) else secateurref14_Next.j1 k l i [] (tgt (opAt l i) (kAt l i)).1 false) _
      cases ht : (tgt (opAt l i) (kAt l i)).2
      · exact Ev.neg (by decide) (j1 _ false)
      · exact Ev.pos rfl (j1 _ _)
    · rw [if_neg (fun h => h1 h.2)]
      refine Ev.eq (fun k => by unfold secateurref14_Next.f; rw [if_neg h0, decide_eq_true (show i ≥ (l.length : Int) by omega)]) stop

/-! ### Back -/
theorem refIn_go (xs : List Int) (x : Int) (hl : xs.length ≤ 1000000) : ∀ (m : Nat) (i : Int), 0 ≤ i → (xs.length : Int) - i ≤ m → i ≤ (xs.length : Int) → (∀ j : Nat, (j : Int) < i → xs[j]? ≠ some x) → Ev (fun k => secateurref14_in.l0 k xs x i) (decide (x ∈ xs))
  | m, i, h0, h1, h2, hb => by
    refine Ev.succ (fun k => by rw [secateurref14_in.l0]) ?_
    by_cases h3 : i < (xs.length : Int)
    · obtain ⟨m, rfl⟩ : ∃ m', m = m' + 1 := ⟨m - 1, by omega⟩
      have hg : xs[i.toNat]? = some (rd xs i) := by
        show _ = some (xs.getD i.toNat 0)
        rw [List.getD_eq_getElem?_getD, List.getElem?_eq_getElem (by omega)]; rfl
      by_cases h4 : rd xs i = x
      · rw [decide_eq_true (by rw [← h4]; exact List.mem_of_getElem? hg)]
        exact Ev.pos h3 (Ev.pos h0 (Ev.pos h4 (Ev.pure _)))
      · refine Ev.pos h3 (Ev.pos h0 (Ev.neg h4 ?_))
        rw [wrapS (by omega) (by omega)]
        exact refIn_go xs x hl m (i + 1) (by omega) (by omega) (by omega) (fun j hj => by
          by_cases hji : (j : Int) < i
          · exact hb j hji
          · have : j = i.toNat := by omega
            subst this
            rw [hg]
            intro e; exact h4 (Option.some.inj e))
    · rw [decide_eq_false (fun h => by
        obtain ⟨j, hj, he⟩ := List.mem_iff_getElem.1 h
        exact absurd (by rw [List.getElem?_eq_getElem hj, he]) (hb j (by omega)))]
      exact Ev.neg h3 (Ev.pure _)
theorem refIn_eq (xs : List Int) (x : Int) (hl : xs.length ≤ 1000000) : Ev (fun k => secateurref14_in.f k xs x) (decide (x ∈ xs)) :=
  Ev.eq (fun k => rfl) (refIn_go xs x hl xs.length 0 (by omega) (by omega) (by omega) (fun j hj => by omega))
theorem refBack_go {l : List S36} (hl : l.length ≤ 1000) (x : Int) : ∀ (m i : Nat), l.length - i = m → i ≤ l.length → Ev (fun k => secateurref14_Back.l0 k l x ((upTo i).filter (fun j => decide (x ∈ nxt l j))) (i : Int)) ((upTo l.length).filter (fun j => decide (x ∈ nxt l j)))
  | 0, i, h1, h2 => by
    obtain rfl : i = l.length := by omega
    exact Ev.succ (fun k => by rw [secateurref14_Back.l0]) (Ev.neg (by omega) (Ev.pure _))
  | m + 1, i, h1, h2 => by
    refine Ev.succ (fun k => by rw [secateurref14_Back.l0]) (Ev.pos (by omega) (Ev.bind (refNext_eq hl _) (Ev.bind (refIn_eq _ _ (Nat.le_trans (nxt_len _ _) (by omega))) ?_)))
    have hw : wrap64 ((i : Int) + 1) = ((i + 1 : Nat) : Int) := by rw [wrapS (by omega) (by omega)]; omega
    have ih := refBack_go hl x m (i + 1) (by omega) (by omega)
    rw [upTo_succ, List.filter_append] at ih
    rw [hw]
    by_cases h4 : x ∈ nxt l (i : Int)
    · refine Ev.pos (by simpa using h4) (Ev.pos (by have := filter_upTo_len i (fun j => decide (x ∈ nxt l j)); omega) ?_)
      simpa [h4] using ih
    · refine Ev.neg (by simpa using h4) ?_
      simpa [h4] using ih
theorem refBack_eq {l : List S36} (hl : l.length ≤ 1000) (x : Int) : Ev (fun k => secateurref14_Back.f k l x) (backL l x) :=
  Ev.eq (fun k => rfl) (refBack_go hl x l.length 0 (by omega) (by omega))
end Go.Proofs.YtciilgcinicdiaaDoor.X
