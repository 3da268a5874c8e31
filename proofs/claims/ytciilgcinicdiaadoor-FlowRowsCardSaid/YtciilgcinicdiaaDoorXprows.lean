/- FlowRows, in plain Lean. -/
import Derived.Test.YtciilgcinicdiaaDoorXlive
import Derived.Test.YtciilgcinicdiaaDoorXLFlowRows
namespace Go.Proofs.YtciilgcinicdiaaDoor.X
open Go.RowKit Go.Proofs.YtciilgcinicdiaaDoorW.PrintWords Go.Proofs.YtciilgcinicdiaaDoorW.PrintLast Go.Proofs.YtciilgcinicdiaaDoorW.PrintMore
set_option linter.unusedVariables false
set_option linter.unusedSimpArgs false

theorem filter_single (a : Int) : ∀ n : Nat, (upTo n).filter (fun j => decide (j = a)) = if 0 ≤ a ∧ a < (n : Int) then [a] else []
  | 0 => by rw [if_neg (by omega)]; rfl
  | n + 1 => by
    rw [upTo_succ, List.filter_append, filter_single a n]
    by_cases h : (n : Int) = a
    · rw [if_neg (by omega), if_pos (by omega)]
      simp [h]
    · by_cases h2 : 0 ≤ a ∧ a < (n : Int)
      · rw [if_pos h2, if_pos (by omega)]
        simp [h]
      · rw [if_neg h2, if_neg (by omega)]
        simp [h]
theorem nxt2_mem {f j : Bool} {a t x : Int} : x ∈ nxt2 f j a t ↔ (f = true ∧ x = a) ∨ (j = true ∧ x = t) := by
  unfold nxt2
  cases f <;> cases j
  · simp
  · simp
  · simp
  · by_cases h1 : t < a
    · have h2 : ¬ t > a := by omega
      simp [h1, h2]; exact Or.comm
    · by_cases h2 : t > a
      · simp [h1, h2]
      · have h3 : t = a := by omega
        subst h3
        simp
theorem notB {l : List S36} {i : Int} (h0 : 0 ≤ i) (h1 : i < (l.length : Int)) (hb : blkAt l l.length i = false) : nxt l (i - 1) = [i] ∧ backL l i = [i - 1] := by
  simp only [blkAt, Bool.or_eq_false_iff, decide_eq_false_iff_not, List.any_eq_false] at hb
  obtain ⟨hi, hk⟩ := hb
  have hk' : ∀ k : Int, 0 ≤ k → k < (l.length : Int) → makesB l k i = false := fun k a b => by
    have := hk k (upTo_mem.2 ⟨a, b⟩)
    simpa using this
  have hp := hk' (i - 1) (by omega) (by omega)
  simp only [makesB, Bool.or_eq_false_iff, Bool.and_eq_false_iff, decide_eq_false_iff_not, Bool.not_eq_false'] at hp
  have hp2 := hp.2
  have ht : (tgt (opAt l (i - 1)) (kAt l (i - 1))).2 = false ∧ fallsB (opAt l (i - 1)) = true := by
    rcases hp2 with h | h
    · omega
    · exact h
  have hj : (jumpAt l (i - 1)).2 = false := by simp [jumpAt, ht.1]
  have hf : fallAt l (i - 1) = true := by
    simp only [fallAt, ht.2, Bool.true_and, decide_eq_true_eq]
    omega
  refine ⟨?_, ?_⟩
  · unfold nxt
    rw [if_pos ⟨by omega, by omega⟩, hj, hf]
    simp only [nxt2, Bool.false_and, Bool.false_eq_true, if_false, if_true, List.nil_append, List.append_nil]
    rw [show i - 1 + 1 = i by omega]
  · unfold backL
    have he : (upTo l.length).filter (fun j => decide (i ∈ nxt l j)) = (upTo l.length).filter (fun j => decide (j = i - 1)) := by
      apply List.filter_congr
      intro j hjm
      obtain ⟨j0, j1⟩ := upTo_mem.1 hjm
      apply decide_eq_decide.2
      unfold nxt
      rw [if_pos ⟨j0, j1⟩, nxt2_mem]
      constructor
      · rintro (⟨_, h⟩ | ⟨ha, hb⟩)
        · omega
        · have := hk' j j0 j1
          simp only [makesB, ha, Bool.true_and, Bool.or_eq_false_iff, decide_eq_false_iff_not] at this
          exact absurd hb.symm this.1
      · intro h
        subst h
        exact .inl ⟨hf, by omega⟩
    rw [he, filter_single, if_pos (by omega)]

theorem upTo_split : ∀ (m i : Nat), ∃ r, upTo (i + m) = upTo i ++ r
  | 0, i => ⟨[], by simp⟩
  | m + 1, i => by
    obtain ⟨r, hr⟩ := upTo_split m i
    exact ⟨r ++ [((i + m : Nat) : Int)], by rw [← Nat.add_assoc, upTo_succ, hr, List.append_assoc]⟩
theorem at_block {n i : Nat} (p : Int → Bool) (hi : i < n) (hp : p (i : Int) = true) : ((upTo n).filter p)[((upTo i).filter p).length]? = some (i : Int) := by
  obtain ⟨r, hr⟩ := upTo_split (n - (i + 1)) (i + 1)
  rw [show i + 1 + (n - (i + 1)) = n by omega] at hr
  rw [hr, upTo_succ, List.filter_append, List.filter_append]
  have : [(i : Int)].filter p = [(i : Int)] := by simp [hp]
  rw [this, List.append_assoc, List.getElem?_append_right (Nat.le_refl _), Nat.sub_self]
  rfl
theorem rows_go {l : List S36} (hl : l.length ≤ 40) : ∀ (m i : Nat), l.length - i = m → i ≤ l.length → Ev (fun k => secateurlaw14_FlowRows.l0 k l (blocksL l) ((((upTo i).filter (blkAt l l.length)).length : Nat) : Int) (i : Int)) true
  | m, i, h1, h2 => by
    have hbl : (blocksL l).length ≤ l.length := filter_upTo_len _ _
    have hai : ((upTo i).filter (blkAt l l.length)).length ≤ i := filter_upTo_len _ _
    refine Ev.succ (fun k => by rw [secateurlaw14_FlowRows.l0]) ?_
    by_cases h3 : i < l.length
    · refine Ev.pos (by omega) ?_
      obtain ⟨m, rfl⟩ : ∃ m', m = m' + 1 := ⟨m - 1, by omega⟩
      have ih := rows_go hl m (i + 1) (by omega) (by omega)
      rw [upTo_succ, List.filter_append] at ih
      have hw : wrap64 ((i : Int) + 1) = ((i + 1 : Nat) : Int) := by rw [wrapS (by omega) (by omega)]; omega
      have hwm : wrap64 ((i : Int) - 1) = (i : Int) - 1 := wrapS (by omega) (by omega)
      by_cases hp : blkAt l l.length (i : Int) = true
      · have hg := at_block (blkAt l l.length) h3 hp
        have hlt : ((upTo i).filter (blkAt l l.length)).length < (blocksL l).length := (List.getElem?_eq_some_iff.1 hg).1
        have hrd : rd (blocksL l) ((((upTo i).filter (blkAt l l.length)).length : Nat) : Int) = (i : Int) := by
          show (blocksL l).getD (((((upTo i).filter (blkAt l l.length)).length : Nat) : Int)).toNat 0 = _
          rw [Int.toNat_natCast, List.getD_eq_getElem?_getD]
          show Option.getD (((upTo l.length).filter (blkAt l l.length))[_]?) 0 = _
          rw [hg]; rfl
        have hlen : ((upTo i).filter (blkAt l l.length) ++ [(i : Int)].filter (blkAt l l.length)).length = ((upTo i).filter (blkAt l l.length)).length + 1 := by simp [hp]
        rw [hlen] at ih
        refine Ev.pos (by omega) (Ev.pos (by omega) ?_)
        rw [hrd, show ((i : Int) == (i : Int)) = true by simp]
        refine Ev.succ (fun k => by rw [secateurlaw14_FlowRows.j1]) (Ev.pos rfl ?_)
        rw [hw, wrapS (by omega) (by omega)]
        exact ih
      · have hpf : blkAt l l.length (i : Int) = false := by simpa using hp
        have hlen : ((upTo i).filter (blkAt l l.length) ++ [(i : Int)].filter (blkAt l l.length)).length = ((upTo i).filter (blkAt l l.length)).length := by simp [hpf]
        rw [hlen] at ih
        obtain ⟨hn, hbk⟩ := notB (Int.natCast_nonneg i) (by omega) hpf
        have j1 : Ev (fun k => secateurlaw14_FlowRows.j1 k l (blocksL l) ((((upTo i).filter (blkAt l l.length)).length : Nat) : Int) (i : Int) false) true := by
          refine Ev.succ (fun k => by rw [secateurlaw14_FlowRows.j1]) (Ev.neg (by decide) (Ev.bind (Back_eq (by omega) _) ?_))
          rw [hwm, hbk]
          refine Ev.bind (sameInts _ (by simp)) (Ev.pos rfl (Ev.cbind (Next_eq (by omega) _) ?_))
          rw [hn]
          refine Ev.bind (sameInts _ (by simp)) (Ev.pos rfl ?_)
          rw [hw]
          exact ih
        by_cases hlt : (((((upTo i).filter (blkAt l l.length)).length : Nat) : Int)) < ((blocksL l).length : Int)
        · refine Ev.pos hlt (Ev.pos (by omega) ?_)
          have hne : (rd (blocksL l) ((((upTo i).filter (blkAt l l.length)).length : Nat) : Int) == (i : Int)) = false := by
            refine beq_eq_false_iff_ne.mpr (fun he => ?_)
            have hlt' : ((upTo i).filter (blkAt l l.length)).length < (blocksL l).length := by omega
            have hm : (i : Int) ∈ blocksL l := by
              rw [← he]
              show (blocksL l).getD (((((upTo i).filter (blkAt l l.length)).length : Nat) : Int)).toNat 0 ∈ _
              rw [Int.toNat_natCast, List.getD_eq_getElem?_getD, List.getElem?_eq_getElem hlt']
              exact List.getElem_mem _
            exact hp (List.mem_filter.1 hm).2
          rw [hne]
          exact j1
        · exact Ev.neg hlt j1
    · obtain rfl : i = l.length := by omega
      refine Ev.neg (by omega) (Ev.bind live_eq (Ev.pos rfl ?_))
      have : ((((((upTo l.length).filter (blkAt l l.length)).length : Nat) : Int)) == ((blocksL l).length : Int)) = true := by
        unfold blocksL; simp
      rw [this]
      exact Ev.pure _
theorem FlowRows_true (l0 : List S36) : ∃ k, secateurlaw14_FlowRows.f k l0 = some true := by
  have hl := few_len l0
  refine (Ev.eq (F := fun k => secateurlaw14_FlowRows.f k l0) (fun k => rfl) (Ev.cbind (few_eq l0) (Ev.bind (Blocks_eq (by omega)) ?_))).get
  have := rows_go hl (fewL l0).length 0 (by omega) (by omega)
  simpa [upTo] using this
end Go.Proofs.YtciilgcinicdiaaDoor.X
