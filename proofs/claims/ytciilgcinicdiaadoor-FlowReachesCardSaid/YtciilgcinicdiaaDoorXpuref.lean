/- Plain Lean: flow's Check, Dead, Blocks. -/
import Derived.Test.YtciilgcinicdiaaDoorXpure
namespace Go.Proofs.YtciilgcinicdiaaDoor.X
open Go.RowKit Go.Proofs.YtciilgcinicdiaaDoorW.PrintWords Go.Proofs.YtciilgcinicdiaaDoorW.PrintLast Go.Proofs.YtciilgcinicdiaaDoorW.PrintMore
set_option linter.unusedVariables false
set_option linter.unusedSimpArgs false

/-! ### what is wrong -/
def badAt (l : List S36) (i : Int) : Bool := hasT (opAt l i) && (decide (kAt l i < 0) || decide (kAt l i ≥ (l.length : Int)))
def chkF (l : List S36) : Nat → Int → Int × Int
  | 0, _ => (0, 0)
  | m + 1, i => if badAt l i then (12, i) else if i = (l.length : Int) - 1 ∧ fallsB (opAt l i) = true then (2, i) else chkF l m (i + 1)
def chkL (l : List S36) : Int × Int := if l.length = 0 then (2, 0) else chkF l l.length 0
theorem check_j {l : List S36} (hl : l.length ≤ 1000) {m i : Nat} (h2 : i < l.length) (ih : Ev (fun k => flow_Check.l0 k l ((l.length : Int) - 1) l (l.length : Int) ((i : Int) + 1)) (chkF l m ((i : Int) + 1))) (b : Bool) (hb : b = badAt l i) :
    Ev (fun k => flow_Check.j1 k l ((l.length : Int) - 1) (i : Int) l (l.length : Int) (i : Int) b (rd_T36 l i).f0 (rd_T36 l i).f1 (rd_T36 l i).f2 (rd_T36 l i).f3 (rd_T36 l i).f4 (rd_T36 l i).f5 (rd_T36 l i).f6 (rd_T36 l i).f7 (rd_T36 l i).f8) (chkF l (m + 1) i) := by
  refine Ev.succ (fun k => by rw [flow_Check.j1]) ?_
  have hw : wrap64 ((i : Int) + 1) = (i : Int) + 1 := wrapS (by omega) (by omega)
  rw [hw]
  unfold chkF
  rw [← hb]
  cases b with
  | true => exact Ev.pos rfl (Ev.pure _)
  | false =>
    refine Ev.neg (by decide) ?_
    simp only [Bool.false_eq_true, if_false]
    by_cases he : (i : Int) = (l.length : Int) - 1
    · refine Ev.pos he (Ev.cbind (op_Falls_eq _) ?_)
      by_cases hf : fallsB (opAt l i) = true
      · rw [if_pos ⟨he, hf⟩]
        exact Ev.pos hf (Ev.pure _)
      · rw [if_neg (fun h => hf h.2)]
        exact Ev.neg hf ih
    · rw [if_neg (fun h => he h.1)]
      exact Ev.neg he ih
theorem check_go {l : List S36} (hl : l.length ≤ 1000) : ∀ (m i : Nat), l.length - i = m → i ≤ l.length → Ev (fun k => flow_Check.l0 k l ((l.length : Int) - 1) l (l.length : Int) (i : Int)) (chkF l m (i : Int))
  | 0, i, h1, h2 => by
    show Ev _ ((0 : Int), (0 : Int))
    exact Ev.succ (fun k => by rw [flow_Check.l0]) (Ev.neg (by omega) (Ev.pure _))
  | m + 1, i, h1, h2 => by
    have ih := check_go hl m (i + 1) (by omega) (by omega)
    rw [show ((i + 1 : Nat) : Int) = (i : Int) + 1 by omega] at ih
    have hj := fun b hb => check_j hl (show i < l.length by omega) ih b hb
    refine Ev.succ (fun k => by rw [flow_Check.l0]) (Ev.pos (by omega) (Ev.pos (by omega) (Ev.pos (by omega) ?_)))
    obtain ⟨s, hs1, hs2, _⟩ := shape_t (opAt l i)
    refine Ev.cbind hs1 (Ev.cbind hs2 ?_)
    by_cases ht : hasT (opAt l i) = true
    · refine Ev.pos ht ?_
      by_cases hk : kAt l i < 0
      · exact Ev.pos hk (hj true (by simp [badAt, ht, hk]))
      · exact Ev.neg hk (hj _ (by simp [badAt, ht, hk]; rfl))
    · exact Ev.neg ht (hj false (by simp [badAt, ht]))
theorem Check_eq {l : List S36} (hl : l.length ≤ 1000) : Ev (fun k => flow_Check.f k l) (chkL l) := by
  unfold chkL
  by_cases h0 : l.length = 0
  · rw [if_pos h0]
    exact Ev.eq (fun k => by unfold flow_Check.f; rw [if_pos (by omega)]) (Ev.pure _)
  · rw [if_neg h0]
    refine Ev.eq (fun k => ?_) (check_go hl l.length 0 (by omega) (by omega))
    unfold flow_Check.f
    rw [if_neg (by omega), wrapS (by omega) (by omega)]
    rfl

/-! ### what is not reached, of a list -/
def deadL (xs : List Int) : List Int := (upTo xs.length).filter (fun j => decide (rd xs j = -1))
theorem dead_go (xs : List Int) (hl : xs.length ≤ 1000000) : ∀ (m i : Nat), xs.length - i = m → i ≤ xs.length → Ev (fun k => flow_Dead.l0 k ((upTo i).filter (fun j => decide (rd xs j = -1))) xs (xs.length : Int) (i : Int)) ((upTo xs.length).filter (fun j => decide (rd xs j = -1)))
  | 0, i, h1, h2 => by
    obtain rfl : i = xs.length := by omega
    exact Ev.succ (fun k => by rw [flow_Dead.l0]) (Ev.neg (by omega) (Ev.pure _))
  | m + 1, i, h1, h2 => by
    have ih := dead_go xs hl m (i + 1) (by omega) (by omega)
    rw [upTo_succ, List.filter_append] at ih
    have hw : wrap64 ((i : Int) + 1) = ((i + 1 : Nat) : Int) := by rw [wrapS (by omega) (by omega)]; omega
    refine Ev.succ (fun k => by rw [flow_Dead.l0]) (Ev.pos (by omega) (Ev.pos (by omega) (Ev.pos (by omega) ?_)))
    rw [hw]
    by_cases h4 : rd xs (i : Int) = -1
    · refine Ev.pos h4 (Ev.pos (by have := filter_upTo_len i (fun j => decide (rd xs j = -1)); omega) ?_)
      simpa [h4] using ih
    · refine Ev.neg h4 ?_
      simpa [h4] using ih
theorem Dead_of {l : List S36} {xs : List Int} (h : flow_Dist.f l = some xs) (hl : xs.length ≤ 1000000) : Ev (fun k => flow_Dead.f k l) (deadL xs) := by
  exact Ev.eq (fun k => rfl) (Ev.cbind h (dead_go xs hl xs.length 0 (by omega) (by omega)))

/-! ### where rows begin -/
def makesB (l : List S36) (k j : Int) : Bool := ((jumpAt l k).2 && decide ((jumpAt l k).1 = j)) || (decide (j = k + 1) && ((tgt (opAt l k) (kAt l k)).2 || !fallsB (opAt l k)))
def blkAt (l : List S36) (i : Nat) (j : Int) : Bool := decide (j = 0) || (upTo i).any (fun k => makesB l k j)
def blkRow (l : List S36) (i : Nat) : List Bool := (upTo (l.length + 1)).map (blkAt l i)
def blocksL (l : List S36) : List Int := (upTo l.length).filter (blkAt l l.length)
theorem blkAt_succ (l : List S36) (i : Nat) (j : Int) : blkAt l (i + 1) j = (blkAt l i j || makesB l i j) := by
  simp [blkAt, upTo_succ, Bool.or_assoc]
theorem upTo_get {n i : Nat} (h : i < n) : (upTo n)[i]'(by rw [upTo_len]; exact h) = (i : Int) := by simp [upTo]
theorem map_set {n : Nat} {f g : Int → Bool} {t : Int} (h0 : 0 ≤ t) (hg : ∀ j, g j = (f j || decide (j = t))) : ((upTo n).map f).set t.toNat true = (upTo n).map g := by
  apply List.ext_getElem
  · simp
  · intro i h1 h2
    have hi : i < n := by simpa [upTo_len] using h2
    rw [List.getElem_set, List.getElem_map, List.getElem_map, upTo_get hi, hg]
    by_cases he : t.toNat = i
    · rw [if_pos he, decide_eq_true (by omega)]; simp
    · rw [if_neg he, decide_eq_false (by omega)]; simp
theorem map_none {n : Nat} {f g : Int → Bool} (hg : ∀ j, g j = f j) : (upTo n).map f = (upTo n).map g := by
  rw [show g = f from funext hg]
theorem blocks2_go (bs : List Bool) (hl : bs.length ≤ 1000000) : ∀ (m i : Nat), bs.length - i = m → i ≤ bs.length → Ev (fun k => flow_Blocks.l1 k ((upTo i).filter (fun j => rdOf false bs j)) bs (bs.length : Int) (i : Int)) ((upTo bs.length).filter (fun j => rdOf false bs j))
  | 0, i, h1, h2 => by
    obtain rfl : i = bs.length := by omega
    exact Ev.succ (fun k => by rw [flow_Blocks.l1]) (Ev.neg (by omega) (Ev.pure _))
  | m + 1, i, h1, h2 => by
    have ih := blocks2_go bs hl m (i + 1) (by omega) (by omega)
    rw [upTo_succ, List.filter_append] at ih
    have hw : wrap64 ((i : Int) + 1) = ((i + 1 : Nat) : Int) := by rw [wrapS (by omega) (by omega)]; omega
    refine Ev.succ (fun k => by rw [flow_Blocks.l1]) (Ev.pos (by omega) (Ev.pos (by omega) (Ev.pos (by omega) ?_)))
    rw [hw]
    by_cases h4 : rdOf false bs (i : Int) = true
    · refine Ev.pos h4 (Ev.pos (by have := filter_upTo_len i (fun j => rdOf false bs j); omega) ?_)
      simpa [h4] using ih
    · refine Ev.neg h4 ?_
      simpa [h4] using ih
theorem blocks_go {l : List S36} (hl : l.length ≤ 1000) : ∀ (m i : Nat), l.length - i = m → i ≤ l.length → Ev (fun k => flow_Blocks.l0 k l (blkRow l i) l (l.length : Int) (i : Int)) (blocksL l)
  | 0, i, h1, h2 => by
    obtain rfl : i = l.length := by omega
    have hlen : (blkRow l l.length).length = l.length + 1 := by simp [blkRow, upTo_len]
    refine Ev.succ (fun k => by rw [flow_Blocks.l0]) (Ev.neg (by omega) (Ev.pos (by omega) (Ev.pos (by rw [hlen]; omega) ?_)))
    have hg := blocks2_go ((blkRow l l.length).take l.length) (by simp; omega) l.length 0 (by simp [hlen]) (by omega)
    have ht : ((l.length : Int)).toNat = l.length := by omega
    simp only [Option.bind_some, ht]
    have hlt : ((blkRow l l.length).take l.length).length = l.length := by simp [hlen]
    have he : ((upTo ((blkRow l l.length).take l.length).length).filter (fun j => rdOf false ((blkRow l l.length).take l.length) j)) = blocksL l := by
      rw [hlt]
      unfold blocksL
      apply List.filter_congr
      intro j hj
      obtain ⟨j0, j1⟩ := upTo_mem.1 hj
      unfold rdOf blkRow
      rw [List.getD_eq_getElem?_getD, List.getElem?_take, if_pos (by omega), List.getElem?_map, List.getElem?_eq_getElem (by rw [upTo_len]; omega), upTo_get (by omega)]
      simp only [Option.map_some, Option.getD_some]
      rw [show ((j.toNat : Nat) : Int) = j by omega]
    rw [he] at hg
    exact hg
  | m + 1, i, h1, h2 => by
    have ih := blocks_go hl m (i + 1) (by omega) (by omega)
    have hlen : (blkRow l i).length = l.length + 1 := by simp [blkRow, upTo_len]
    have hw : wrap64 ((i : Int) + 1) = (i : Int) + 1 := wrapS (by omega) (by omega)
    have hc : ((i + 1 : Nat) : Int) = (i : Int) + 1 := by omega
    have hi1 : i < l.length := by omega
    -- the second half of a round
    have second : ∀ (bs : List Bool), bs.length = l.length + 1 → (((tgt (opAt l i) (kAt l i)).2 || !fallsB (opAt l i)) = true → bs.set ((i : Int) + 1).toNat true = blkRow l (i + 1)) → (((tgt (opAt l i) (kAt l i)).2 || !fallsB (opAt l i)) = false → bs = blkRow l (i + 1)) →
        Ev (fun k => flow_Blocks.j1 k l bs (i : Int) l (l.length : Int) (i : Int) (rd_T36 l i).f0 (rd_T36 l i).f1 (rd_T36 l i).f2 (rd_T36 l i).f3 (rd_T36 l i).f4 (rd_T36 l i).f5 (rd_T36 l i).f6 (rd_T36 l i).f7 (rd_T36 l i).f8) (blocksL l) := by
      intro bs hbl hs1 hs2
      refine Ev.succ (fun k => by rw [flow_Blocks.j1]) (Ev.cbind (op_Target_eq _ _ _ _ _ _ _ _ _) ?_)
      rw [hw]
      rw [hc] at ih
      by_cases ht : (tgt (opAt l i) (kAt l i)).2 = true
      · refine Ev.pos ht (Ev.pos (by omega) (Ev.pos (by omega) ?_))
        rw [hs1 (by simp [ht])]
        exact ih
      · refine Ev.neg ht (Ev.cbind (op_Falls_eq _) ?_)
        by_cases hf : fallsB (opAt l i) = true
        · refine Ev.pos hf ?_
          rw [hs2 (by simp [ht, hf])]
          exact ih
        · refine Ev.neg hf (Ev.pos (by omega) (Ev.pos (by omega) ?_))
          rw [hs1 (by simp [hf])]
          exact ih
    refine Ev.succ (fun k => by rw [flow_Blocks.l0]) (Ev.pos (by omega) (Ev.pos (by omega) (Ev.pos (by omega) (Ev.cbind (target_eq (by omega) (by omega)) ?_))))
    by_cases hj : (jumpAt l i).2 = true
    · have hjl := jumpAt_lt hj
      have hjp := jumpAt_pos l i
      refine Ev.pos hj (Ev.pos hjp (Ev.pos (by omega) (second _ (by simp [hlen]) ?_ ?_)))
      · intro hb
        unfold blkRow
        rw [map_set (g := fun j => blkAt l i j || decide (j = (jumpAt l i).1)) hjp (fun j => rfl), map_set (g := blkAt l (i + 1)) (by omega) (fun j => ?_)]
        rw [blkAt_succ]
        unfold makesB
        rw [hj, hb]
        simp [Bool.or_assoc, eq_comm]
      · intro hb
        unfold blkRow
        rw [map_set (g := blkAt l (i + 1)) hjp (fun j => ?_)]
        rw [blkAt_succ]
        unfold makesB
        rw [hj, hb]
        simp [eq_comm]
    · have hj' : (jumpAt l i).2 = false := by simpa using hj
      refine Ev.neg hj (second _ hlen ?_ ?_)
      · intro hb
        unfold blkRow
        rw [map_set (g := blkAt l (i + 1)) (by omega) (fun j => ?_)]
        rw [blkAt_succ]
        unfold makesB
        rw [hj', hb]
        simp
      · intro hb
        unfold blkRow
        refine map_none (fun j => ?_)
        rw [blkAt_succ]
        unfold makesB
        rw [hj', hb]
        simp
theorem Blocks_eq {l : List S36} (hl : l.length ≤ 1000) : Ev (fun k => flow_Blocks.f k l) (blocksL l) := by
  have h0 : (List.replicate (l.length + 1) false).set (0 : Int).toNat true = blkRow l 0 := by
    have : List.replicate (l.length + 1) false = (upTo (l.length + 1)).map (fun _ => false) := by
      rw [List.map_const', upTo_len]
    rw [this]
    unfold blkRow
    refine map_set (Int.le_refl 0) (fun j => ?_)
    simp [blkAt, upTo]
  have hw : wrap64 ((l.length : Int) + 1) = ((l.length + 1 : Nat) : Int) := by rw [wrapS (by omega) (by omega)]; omega
  refine Ev.eq (fun k => ?_) (blocks_go hl l.length 0 (by omega) (by omega))
  unfold flow_Blocks.f
  rw [hw, if_pos (by omega), if_pos (by omega), show ((l.length + 1 : Nat) : Int).toNat = l.length + 1 by omega]
  simp only [Option.bind_some]
  rw [if_pos (by simp), h0]
  rfl
end Go.Proofs.YtciilgcinicdiaaDoor.X
