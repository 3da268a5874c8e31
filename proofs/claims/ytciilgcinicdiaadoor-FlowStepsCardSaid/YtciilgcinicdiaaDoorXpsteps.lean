/- FlowSteps, in plain Lean. -/
import Derived.Test.YtciilgcinicdiaaDoorXlive
import Derived.Test.YtciilgcinicdiaaDoorXpdist
import Derived.Test.YtciilgcinicdiaaDoorXLFlowSteps
namespace Go.Proofs.YtciilgcinicdiaaDoor.X
open Go.RowKit Go.Proofs.YtciilgcinicdiaaDoorW.PrintWords Go.Proofs.YtciilgcinicdiaaDoorW.PrintLast Go.Proofs.YtciilgcinicdiaaDoorW.PrintMore
set_option linter.unusedVariables false
set_option linter.unusedSimpArgs false

theorem back_mem {l : List S36} {x u : Int} : u ∈ backL l x ↔ In l u ∧ x ∈ nxt l u := by
  unfold backL
  rw [List.mem_filter, upTo_mem]
  simp [In]
theorem rd_mem {xs : List Int} {i : Int} (h0 : 0 ≤ i) (h1 : i < (xs.length : Int)) : rd xs i ∈ xs := by
  show xs.getD i.toNat 0 ∈ xs
  rw [List.getD_eq_getElem?_getD, List.getElem?_eq_getElem (by omega)]
  exact List.getElem_mem _
/-- from which it is reached. -/
theorem near_go {l : List S36} {d : List Int} (hl : l.length ≤ 40) (hd : Dst l d) {i : Int} (hi : In l i) (next : Ev (fun k => secateurlaw14_FlowSteps.l0 k l d (wrap64 (i + 1))) true) :
    ∀ (m : Nat) (x : Int) (b : Bool), 0 ≤ x → ((backL l i).length : Int) - x = m → (rd d i ≠ -1 → b = true ∨ ∃ y : Int, x ≤ y ∧ y < ((backL l i).length : Int) ∧ 0 < rd d i ∧ rd d (rd (backL l i) y) = rd d i - 1) → Ev (fun k => secateurlaw14_FlowSteps.l2 k l d i (backL l i) b x) true
  | m, x, b, h0, h1, hb => by
    have hil : i < (d.length : Int) := by rw [hd.len]; exact hi.2
    have hbl : (backL l i).length ≤ l.length := filter_upTo_len _ _
    refine Ev.succ (fun k => by rw [secateurlaw14_FlowSteps.l2]) ?_
    by_cases h2 : x < ((backL l i).length : Int)
    · obtain ⟨m, rfl⟩ : ∃ m', m = m' + 1 := ⟨m - 1, by omega⟩
      have hw : wrap64 (x + 1) = x + 1 := wrapS (by omega) (by omega)
      refine Ev.pos h2 ?_
      rw [hw]
      by_cases hbt : b = true
      · exact Ev.pos hbt (near_go hl hd hi next m (x + 1) true (by omega) (by omega) (fun _ => .inl rfl))
      · refine Ev.neg hbt (Ev.pos hi.1 (Ev.pos hil ?_))
        by_cases hp : rd d i > 0
        · have hm := rd_mem h0 h2
          obtain ⟨hu, _⟩ := back_mem.1 hm
          refine Ev.pos hp (Ev.pos h0 (Ev.pos hu.1 (Ev.pos (by rw [hd.len]; exact hu.2) ?_)))
          have hhi := hd.hi i hi
          have hw2 : wrap64 (rd d i - 1) = rd d i - 1 := wrapS (by omega) (by omega)
          rw [hw2]
          refine near_go hl hd hi next m (x + 1) _ (by omega) (by omega) (fun hne => ?_)
          rcases hb hne with hbb | ⟨y, y0, y1, y2, y3⟩
          · exact absurd hbb hbt
          · by_cases hxy : y = x
            · subst hxy
              exact .inl (by rw [y3]; simp)
            · exact .inr ⟨y, by omega, y1, y2, y3⟩
        · refine Ev.neg hp (near_go hl hd hi next m (x + 1) false (by omega) (by omega) (fun hne => ?_))
          rcases hb hne with hbb | ⟨y, y0, y1, y2, y3⟩
          · exact absurd hbb hbt
          · exact absurd y2 hp
    · refine Ev.neg h2 (Ev.pos hi.1 (Ev.pos hil ?_))
      by_cases hn : rd d i = -1
      · exact Ev.pos hn next
      · refine Ev.neg hn ?_
        rcases hb hn with hbb | ⟨y, y0, y1, _⟩
        · exact Ev.pos hbb next
        · omega
theorem steps_j3 {l : List S36} {d : List Int} (hl : l.length ≤ 40) (hd : Dst l d) {i x : Int} (hi : In l i) (next : Ev (fun k => secateurlaw14_FlowSteps.l0 k l d (wrap64 (i + 1))) true) : Ev (fun k => secateurlaw14_FlowSteps.j3 k l d i (nxt l i) x false) true := by
  have hbl : (backL l i).length ≤ l.length := filter_upTo_len _ _
  have hil : i < (d.length : Int) := by rw [hd.len]; exact hi.2
  have fin : ∀ b : Bool, (rd d i ≠ -1 → b = true ∨ ∃ y : Int, 0 ≤ y ∧ y < ((backL l i).length : Int) ∧ 0 < rd d i ∧ rd d (rd (backL l i) y) = rd d i - 1) → Ev (fun k => secateurlaw14_FlowSteps.j4 k l d i (backL l i) b) true := fun b hb =>
    Ev.succ (fun k => by rw [secateurlaw14_FlowSteps.j4]) (near_go hl hd hi next (backL l i).length 0 b (by omega) (by omega) hb)
  have wit : rd d i ≠ -1 → (i = 0 ∧ rd d i = 0) ∨ ∃ y : Int, 0 ≤ y ∧ y < ((backL l i).length : Int) ∧ 0 < rd d i ∧ rd d (rd (backL l i) y) = rd d i - 1 := fun hne => by
    have hlo := hd.lo i hi
    rcases hd.pred i hi (by omega) with h | ⟨hp, u, hu, hiu, he⟩
    · exact .inl h
    · obtain ⟨y, hy, hye⟩ := List.mem_iff_getElem.1 (back_mem.2 ⟨hu, hiu⟩)
      refine .inr ⟨(y : Int), by omega, by omega, hp, ?_⟩
      have : rd (backL l i) (y : Int) = u := by
        show (backL l i).getD ((y : Int)).toNat 0 = u
        rw [Int.toNat_natCast, List.getD_eq_getElem?_getD, List.getElem?_eq_getElem hy]
        exact hye
      rw [this]; exact he
  refine Ev.succ (fun k => by rw [secateurlaw14_FlowSteps.j3]) (Ev.neg (by decide) (Ev.bind (Back_eq (by omega) _) ?_))
  by_cases h0 : i = 0
  · refine Ev.pos h0 (Ev.pos (by omega) (fin _ (fun hne => ?_)))
    rcases wit hne with ⟨_, h⟩ | h
    · left
      rw [h0] at h
      rw [h]; rfl
    · exact .inr h
  · refine Ev.neg h0 (fin false (fun hne => ?_))
    rcases wit hne with ⟨h, _⟩ | h
    · exact absurd h h0
    · exact .inr h
theorem steps_l1 {l : List S36} {d : List Int} (hl : l.length ≤ 40) (hd : Dst l d) {i : Int} (hi : In l i) (next : Ev (fun k => secateurlaw14_FlowSteps.l0 k l d (wrap64 (i + 1))) true) :
    ∀ (m : Nat) (x : Int), 0 ≤ x → ((nxt l i).length : Int) - x ≤ m → Ev (fun k => secateurlaw14_FlowSteps.l1 k l d i (nxt l i) x) true
  | m, x, h0, h1 => by
    have hil : i < (d.length : Int) := by rw [hd.len]; exact hi.2
    have hnl := nxt_len l i
    have hlo := hd.lo i hi
    have hhi := hd.hi i hi
    refine Ev.succ (fun k => by rw [secateurlaw14_FlowSteps.l1]) ?_
    by_cases h2 : x < ((nxt l i).length : Int)
    · refine Ev.pos h2 (Ev.pos hi.1 (Ev.pos hil ?_))
      by_cases hn : rd d i = -1
      · rw [show (rd d i != -1) = false by rw [hn]; rfl]
        exact steps_j3 hl hd hi next
      · have hne : (rd d i != -1) = true := by simp [bne, hn]
        rw [hne]
        obtain ⟨m, rfl⟩ : ∃ m', m = m' + 1 := ⟨m - 1, by omega⟩
        have hm := rd_mem h0 h2
        have hxi := nxt_mem hm
        obtain ⟨e1, e2⟩ := hd.edge i hi (by omega) _ hm
        have hw : wrap64 (x + 1) = x + 1 := wrapS (by omega) (by omega)
        have hw2 : wrap64 (rd d i + 1) = rd d i + 1 := wrapS (by omega) (by omega)
        refine Ev.succ (fun k => by rw [secateurlaw14_FlowSteps.j3]) (Ev.pos rfl (Ev.pos h0 (Ev.pos h2 (Ev.neg (by omega) (Ev.neg (by rw [hd.len]; omega) (Ev.pos hxi.1 (Ev.pos (by rw [hd.len]; exact hxi.2) (Ev.neg (by omega) (Ev.pos hi.1 (Ev.pos hil ?_))))))))))
        rw [hw, hw2]
        exact Ev.neg (by omega) (steps_l1 hl hd hi next m (x + 1) (by omega) (by omega))
    · exact Ev.neg h2 (steps_j3 hl hd hi next)
theorem steps_l0 {l : List S36} {d : List Int} (hl : l.length ≤ 40) (hd : Dst l d) : ∀ (m : Nat) (i : Int), 0 ≤ i → (l.length : Int) - i ≤ m → Ev (fun k => secateurlaw14_FlowSteps.l0 k l d i) true
  | m, i, h0, h1 => by
    refine Ev.succ (fun k => by rw [secateurlaw14_FlowSteps.l0]) ?_
    by_cases h2 : i < (d.length : Int)
    · have h3 : i < (l.length : Int) := by rw [← hd.len]; exact h2
      obtain ⟨m, rfl⟩ : ∃ m', m = m' + 1 := ⟨m - 1, by omega⟩
      have ih := steps_l0 hl hd m (i + 1) (by omega) (by omega)
      rw [← wrapS (a := i + 1) (by omega) (by omega)] at ih
      exact Ev.pos h2 (Ev.cbind (Next_eq (by omega) _) (steps_l1 hl hd ⟨h0, h3⟩ ih (nxt l i).length 0 (Int.le_refl 0) (by omega)))
    · exact Ev.neg h2 (Ev.pure _)
theorem FlowSteps_true (l0 : List S36) : ∃ k, secateurlaw14_FlowSteps.f k l0 = some true := by
  have hl := few_len l0
  obtain ⟨d, hd1, hd2⟩ := Dist_ok (l := fewL l0) (by omega)
  refine (Ev.eq (F := fun k => secateurlaw14_FlowSteps.f k l0) (fun k => rfl) (Ev.cbind (few_eq l0) (Ev.cbind hd1 (Ev.bind live_eq (Ev.pos rfl ?_))))).get
  have : ((d.length : Int) != ((fewL l0).length : Int)) = false := by rw [hd2.len]; simp
  rw [this]
  exact Ev.succ (fun k => by rw [secateurlaw14_FlowSteps.j0]) (Ev.neg (by decide) (steps_l0 hl hd2 _ 0 (Int.le_refl 0) (Int.le_refl _)))
end Go.Proofs.YtciilgcinicdiaaDoor.X
