/- Written by wip/xprint.py (a program of this session's) out of the translation, over the kit's print: each Go function as a Lean function, and that the machine's call does what it says. Not trusted: Lean checks it. -/
import Derived.Test.YtciilgcinicdiaaDoorX0
import Derived.Test.YtciilgcinicdiaaDoorXag
import Derived.Test.YtciilgcinicdiaaDoorXaop
import Derived.Test.YtciilgcinicdiaaDoorXastr
import Derived.Test.YtciilgcinicdiaaDoorXop
import Derived.Test.YtciilgcinicdiaaDoorXopB
namespace Go.Proofs.YtciilgcinicdiaaDoor.X
open Go.RowKit Go.Proofs.YtciilgcinicdiaaDoorW.PrintWords Go.Proofs.YtciilgcinicdiaaDoorW.PrintLast Go.Proofs.YtciilgcinicdiaaDoorW.PrintMore
attribute [local go_sem] max2_int min2_int max_two min_two max_three min_three max_four min_four   -- for this text's walks alone
set_option linter.unusedVariables false
set_option linter.unusedSimpArgs false

/-! ### flow_Check: function 9 -/
mutual
def flow_Check.l0 : Nat → List (S36) → Int → List (S36) → Int → Int → Option (Int × Int)
  | 0, _, _, _, _, _ => none
  | k + 1, x0, x4, x13, x14, x15 => if x15 < x14 then (if 0 ≤ x15 then (if x15 < (x13.length : Int) then ((op_Shape.f ((rd_T36 x13 x15).f0)).bind fun t109 => ((strings_Contains.f t109 (⟨#[116]⟩ : ByteArray)).bind fun t110 => (if t110 = true then (if ((rd_T36 x13 x15).f4) < 0 then (flow_Check.j1 k x0 x4 x15 x13 x14 x15 true ((rd_T36 x13 x15).f0) ((rd_T36 x13 x15).f1) ((rd_T36 x13 x15).f2) ((rd_T36 x13 x15).f3) ((rd_T36 x13 x15).f4) ((rd_T36 x13 x15).f5) ((rd_T36 x13 x15).f6) ((rd_T36 x13 x15).f7) ((rd_T36 x13 x15).f8)) else (flow_Check.j1 k x0 x4 x15 x13 x14 x15 (decide (((rd_T36 x13 x15).f4) ≥ (x0.length : Int))) ((rd_T36 x13 x15).f0) ((rd_T36 x13 x15).f1) ((rd_T36 x13 x15).f2) ((rd_T36 x13 x15).f3) ((rd_T36 x13 x15).f4) ((rd_T36 x13 x15).f5) ((rd_T36 x13 x15).f6) ((rd_T36 x13 x15).f7) ((rd_T36 x13 x15).f8))) else (flow_Check.j1 k x0 x4 x15 x13 x14 x15 false ((rd_T36 x13 x15).f0) ((rd_T36 x13 x15).f1) ((rd_T36 x13 x15).f2) ((rd_T36 x13 x15).f3) ((rd_T36 x13 x15).f4) ((rd_T36 x13 x15).f5) ((rd_T36 x13 x15).f6) ((rd_T36 x13 x15).f7) ((rd_T36 x13 x15).f8))))) else (none)) else (none)) else (some (0, 0))
def flow_Check.j1 : Nat → List (S36) → Int → Int → List (S36) → Int → Int → Bool → Int → Int → Int → Int → Int → ByteArray → ByteArray → ByteArray → List Int → Option (Int × Int)
  | 0, _, _, _, _, _, _, _, _, _, _, _, _, _, _, _, _ => none
  | k + 1, x0, x4, x5, x13, x14, x15, x20, x109000, x109001, x109002, x109003, x109004, x109005, x109006, x109007, x109008 => if x20 = true then (some (12, x5)) else (if x5 = x4 then ((op_Falls.f x109000).bind fun t111 => (if t111 = true then (some (2, x5)) else (flow_Check.l0 k x0 x4 x13 x14 (wrap64 (x15 + 1))))) else (flow_Check.l0 k x0 x4 x13 x14 (wrap64 (x15 + 1))))
end
def flow_Check.f (k : Nat) (l0 : List (S36)) : Option (Int × Int) := if (l0.length : Int) = 0 then (some (2, 0)) else (flow_Check.l0 k l0 (wrap64 ((l0.length : Int) - 1)) l0 (l0.length : Int) 0)
theorem flow_Check.mono_l : ∀ k, (∀ y0 y1 y2 y3 y4, LeO (flow_Check.l0 k y0 y1 y2 y3 y4) (flow_Check.l0 (k + 1) y0 y1 y2 y3 y4)) ∧ (∀ y0 y1 y2 y3 y4 y5 y6 y7 y8 y9 y10 y11 y12 y13 y14 y15, LeO (flow_Check.j1 k y0 y1 y2 y3 y4 y5 y6 y7 y8 y9 y10 y11 y12 y13 y14 y15) (flow_Check.j1 (k + 1) y0 y1 y2 y3 y4 y5 y6 y7 y8 y9 y10 y11 y12 y13 y14 y15))
  | 0 => ⟨fun _ _ _ _ _ r h => by simp [flow_Check.l0] at h, fun _ _ _ _ _ _ _ _ _ _ _ _ _ _ _ _ r h => by simp [flow_Check.j1] at h⟩
  | k + 1 => by
    obtain ⟨ih0, ih1⟩ := flow_Check.mono_l k
    refine ⟨?_, ?_⟩
    · intro y0 y1 y2 y3 y4
      unfold flow_Check.l0
      repeat' first
      | (with_reducible exact ih0 _ _ _ _ _)
      | (with_reducible exact ih1 _ _ _ _ _ _ _ _ _ _ _ _ _ _ _ _)
      | (with_reducible exact LeO.refl _)
      | (with_reducible exact LeO.none _)
      | (with_reducible refine LeO.ite ?_ ?_)
      | (with_reducible refine LeO.bind ?_ (fun _ => ?_))
      | exact ih0 _ _ _ _ _
      | exact ih1 _ _ _ _ _ _ _ _ _ _ _ _ _ _ _ _
      | exact LeO.none _
      | refine LeO.ite ?_ ?_
      | refine LeO.bind ?_ (fun _ => ?_)
    · intro y0 y1 y2 y3 y4 y5 y6 y7 y8 y9 y10 y11 y12 y13 y14 y15
      unfold flow_Check.j1
      repeat' first
      | (with_reducible exact ih0 _ _ _ _ _)
      | (with_reducible exact ih1 _ _ _ _ _ _ _ _ _ _ _ _ _ _ _ _)
      | (with_reducible exact LeO.refl _)
      | (with_reducible exact LeO.none _)
      | (with_reducible refine LeO.ite ?_ ?_)
      | (with_reducible refine LeO.bind ?_ (fun _ => ?_))
      | exact ih0 _ _ _ _ _
      | exact ih1 _ _ _ _ _ _ _ _ _ _ _ _ _ _ _ _
      | exact LeO.none _
      | refine LeO.ite ?_ ?_
      | refine LeO.bind ?_ (fun _ => ?_)
theorem flow_Check.mono : ∀ a0 k, LeO (flow_Check.f k a0) (flow_Check.f (k + 1) a0) := by
  intro a0 k
  obtain ⟨ih0, ih1⟩ := flow_Check.mono_l k
  unfold flow_Check.f
  repeat' first
      | (with_reducible exact ih0 _ _ _ _ _)
      | (with_reducible exact ih1 _ _ _ _ _ _ _ _ _ _ _ _ _ _ _ _)
      | (with_reducible exact LeO.refl _)
      | (with_reducible exact LeO.none _)
      | (with_reducible refine LeO.ite ?_ ?_)
      | (with_reducible refine LeO.bind ?_ (fun _ => ?_))
      | exact ih0 _ _ _ _ _
      | exact ih1 _ _ _ _ _ _ _ _ _ _ _ _ _ _ _ _
      | exact LeO.none _
      | refine LeO.ite ?_ ?_
      | refine LeO.bind ?_ (fun _ => ?_)
set_option maxHeartbeats 8000000 in
set_option maxRecDepth 100000 in
theorem flow_Check.calls (k : Nat) (A0 : Option Addr) (c0 : Nat) (l0 : List (S36)) (r1 : Int) (r2 : Int) (w : World) (hr0 : Kd.C k36 w A0 l0.length l0) (hc0 : l0.length ≤ c0) (hG : GOk w) (h : flow_Check.f k l0 = some (r1, r2)) :
    Calls Tryd.prog 9 #[.slice A0 l0.length c0] w fun e w' => e = .returned (.tuple #[.int .i64 r1, .int .i64 r2]) ∧ Below w.heap.size w w' := by
  have hu36 := Tryd.underlying36
  have HR0 := Aside0.mk hr0
  have HC0 := Aside0.mk hc0
  clear hr0 hc0
  have HB := Aside0.mk (Below.refl w.heap.size w)
  have HG := Aside0.mk hG
  clear hG
  have H : (if (l0.length : Int) = 0 then (some (2, 0)) else (flow_Check.l0 k l0 (wrap64 ((l0.length : Int) - 1)) l0 (l0.length : Int) 0)) = some (r1, r2) := h
  clear h
  by_cases c2 : (l0.length : Int) = 0
  · rw [if_pos c2] at H
    have c2b0 : ((l0.length : Int) == 0) = true := beq_iff_eq.mpr c2
    have c2b1 : ((l0.length : Int) != 0) = false := bne_eq_false_iff_eq.mpr c2
    clear c2
    simp only [Option.some.injEq, Prod.mk.injEq] at H
    obtain ⟨rfl, rfl⟩ := H
    go_enter Tryd.func9, Tryd.ntmps9
    go_wp2
    go_ret2
    exact ⟨by first | rfl | (simp [errW_none, errW_some] <;> rfl) | (simp [*, errW_none, errW_some] <;> rfl), by repeat (first | (with_reducible first | exact HB.out | apply below_alloc | apply pw_below_drewN | apply below_drew1) | exact HB.out)⟩
  · rw [if_neg c2] at H
    have c2b0 : ((l0.length : Int) == 0) = false := beq_eq_false_iff_ne.mpr c2
    have c2b1 : ((l0.length : Int) != 0) = true := bne_iff_ne.mpr c2
    have c2b2 : ¬ (l0 = []) := fun h_ => c2 (by rw [h_]; rfl)
    have H' := Aside0.mk H
    clear H
    go_enter Tryd.func9, Tryd.ntmps9
    go_wp2
    (try generalize Value.pointer (some (Addr.add _ _)) = up_)
    go_loopg [15] k (fun kq v15 w' => ∃ (x15_1 : Int), v15 = .int .i64 x15_1 ∧ Aside0 (flow_Check.l0 kq l0 (wrap64 ((l0.length : Int) - 1)) l0 (l0.length : Int) x15_1 = some (r1, r2)) ∧ Aside0 (kq ≤ k) ∧ Aside0 (Below w.heap.size w w'))
    case atStart => exact ⟨(0), (by first | rfl | (simp; done) | (simp [*]; done)), H', ⟨Nat.le_refl _⟩, ⟨by repeat (first | (with_reducible first | exact HB.out | apply below_alloc | apply pw_below_drewN | apply below_drew1) | exact HB.out)⟩⟩
    case round =>
      clear H'
      try clear c2
      try clear c2b0
      try clear c2b1
      try clear c2b2
      try clear p2
      obtain ⟨x15_1, rfl, HA, HK1, HB⟩ := hrel
      cases gk with
      | zero => exact absurd HA.out (by simp [flow_Check.l0])
      | succ k1 =>
        have H := HA.out
        clear HA
        simp only [flow_Check.l0] at H
        by_cases c3 : x15_1 < (l0.length : Int)
        · rw [if_pos c3] at H
          have c3b0 : decide (x15_1 < (l0.length : Int)) = true := decide_eq_true c3
          clear c3
          by_cases c4 : 0 ≤ x15_1
          · rw [if_pos c4] at H
            have c4b0 : decide (0 ≤ x15_1) = true := decide_eq_true c4
            clear c4
            by_cases c5 : x15_1 < (l0.length : Int)
            · rw [if_pos c5] at H
              have c5b0 : decide (x15_1 < (l0.length : Int)) = true := decide_eq_true c5
              clear c5
              have HC6 := Aside0.mk H
              clear H
              have p107 : 0 ≤ (x15_1 : Int) := of_decide_eq_true (by first | (with_reducible assumption) | assumption)
              have q107 : x15_1 < (l0.length : Int) := of_decide_eq_true (by first | (with_reducible assumption) | assumption)
              obtain ⟨ad107, A107_8, c107_8, e107, hx107_0, hx107_1, hx107_2, hx107_3, hx107_4, hx107_5, hx107_6, hx107_7, hx107_8, hl107_8, hi107_8⟩ := at_T36 HR0.out x15_1 p107 q107
              cases e107
              (try replace hx107_0 := (HB.out.cell (World.block_lt_of_cell? w _ hx107_0)).trans hx107_0)
              (try replace hx107_1 := (HB.out.cell (World.block_lt_of_cell? w _ hx107_1)).trans hx107_1)
              (try replace hx107_2 := (HB.out.cell (World.block_lt_of_cell? w _ hx107_2)).trans hx107_2)
              (try replace hx107_3 := (HB.out.cell (World.block_lt_of_cell? w _ hx107_3)).trans hx107_3)
              (try replace hx107_4 := (HB.out.cell (World.block_lt_of_cell? w _ hx107_4)).trans hx107_4)
              (try replace hx107_5 := (HB.out.cell (World.block_lt_of_cell? w _ hx107_5)).trans hx107_5)
              (try replace hx107_6 := (HB.out.cell (World.block_lt_of_cell? w _ hx107_6)).trans hx107_6)
              (try replace hx107_7 := (HB.out.cell (World.block_lt_of_cell? w _ hx107_7)).trans hx107_7)
              (try replace hx107_8 := (HB.out.cell (World.block_lt_of_cell? w _ hx107_8)).trans hx107_8)
              have HR107_8 := Aside0.mk hi107_8
              have HC107_8 := Aside0.mk hl107_8
              clear hi107_8 hl107_8
              replace p107 := eq_true p107
              replace q107 := eq_true q107
              go_upto_region 7 with (first | ((with_reducible refine gate_dst (N := 6) rfl ?_); (try (refine gate_guard (by rfl) ?_; dsimp only)); refine box_event ?hg (N := 6) ?hd (cs := #[.int .i64 0, .int .i64 0, .int .i64 0, .int .i64 0, .int .i64 0, .string (⟨#[]⟩ : ByteArray), .string (⟨#[]⟩ : ByteArray), .string (⟨#[]⟩ : ByteArray), .slice none 0 0]) (t := 36) ?hr ?_; (case hd => rfl); (case hg => rfl); (case hr => first | (go_simp; done) | (go_simp; rfl)); intro gb108 hg w7 hbox hb; have n0_ := Aside0.mk (below_step (by repeat (first | (with_reducible first | exact HB.out | apply below_alloc | apply pw_below_drewN | apply below_drew1) | exact HB.out)) hb); have n1_ := Aside0.mk (hbox); have n2_ := Aside0.mk ((by rw [hg]; exact (below_size (by repeat (first | (with_reducible first | exact HB.out | apply below_alloc | apply pw_below_drewN | apply below_drew1) | exact HB.out))) : w.heap.size ≤ gb108)); have n3_ := Aside0.mk ((by rw [hg]; exact (below_size (by repeat (first | (with_reducible first | exact HB.out | apply below_alloc | apply pw_below_drewN | apply below_drew1) | exact HB.out))) : w.heap.size ≤ gb108)); clear HB; have HB := n0_; have BK108 := n1_; have GW108 := n2_; have GE108 := n3_; clear n0_ n1_ n2_ n3_; clear hb hbox hg; have hcz8_0 : w7.cell? ⟨gb108, 0, none⟩ = some (.int .i64 0) := (blk_cell BK108.out 0).trans rfl; have hcz8_1 : w7.cell? ⟨gb108, 1, none⟩ = some (.int .i64 0) := (blk_cell BK108.out 1).trans rfl; have hcz8_2 : w7.cell? ⟨gb108, 2, none⟩ = some (.int .i64 0) := (blk_cell BK108.out 2).trans rfl; have hcz8_3 : w7.cell? ⟨gb108, 3, none⟩ = some (.int .i64 0) := (blk_cell BK108.out 3).trans rfl; have hcz8_4 : w7.cell? ⟨gb108, 4, none⟩ = some (.int .i64 0) := (blk_cell BK108.out 4).trans rfl; have hcz8_5 : w7.cell? ⟨gb108, 5, none⟩ = some (.string (⟨#[]⟩ : ByteArray)) := (blk_cell BK108.out 5).trans rfl; have hcz8_6 : w7.cell? ⟨gb108, 6, none⟩ = some (.string (⟨#[]⟩ : ByteArray)) := (blk_cell BK108.out 6).trans rfl; have hcz8_7 : w7.cell? ⟨gb108, 7, none⟩ = some (.string (⟨#[]⟩ : ByteArray)) := (blk_cell BK108.out 7).trans rfl; have hcz8_8 : w7.cell? ⟨gb108, 8, none⟩ = some (.slice none 0 0) := (blk_cell BK108.out 8).trans rfl; have hfz8_0 := blk_frozen BK108.out 0; have hfz8_1 := blk_frozen BK108.out 1; have hfz8_2 := blk_frozen BK108.out 2; have hfz8_3 := blk_frozen BK108.out 3; have hfz8_4 := blk_frozen BK108.out 4; have hfz8_5 := blk_frozen BK108.out 5; have hfz8_6 := blk_frozen BK108.out 6; have hfz8_7 := blk_frozen BK108.out 7; have hfz8_8 := blk_frozen BK108.out 8))
              (try simp only [Act.put, List.setIfInBounds_toArray, List.set_cons_zero, List.set_cons_succ])
              go_cut [20] (fun v20 wc => ∃ (kq : Nat) (x20_5 : Bool), v20 = .bool x20_5 ∧ Aside0 (flow_Check.j1 kq l0 (wrap64 ((l0.length : Int) - 1)) x15_1 l0 (l0.length : Int) x15_1 x20_5 ((rd_T36 l0 x15_1).f0) ((rd_T36 l0 x15_1).f1) ((rd_T36 l0 x15_1).f2) ((rd_T36 l0 x15_1).f3) ((rd_T36 l0 x15_1).f4) ((rd_T36 l0 x15_1).f5) ((rd_T36 l0 x15_1).f6) ((rd_T36 l0 x15_1).f7) ((rd_T36 l0 x15_1).f8) = some (r1, r2)) ∧ Aside0 (kq ≤ k1) ∧ Aside0 (wc.heap[gb108]? = some (.cells #[.int .i64 ((rd_T36 l0 x15_1).f0), .int .i64 ((rd_T36 l0 x15_1).f1), .int .i64 ((rd_T36 l0 x15_1).f2), .int .i64 ((rd_T36 l0 x15_1).f3), .int .i64 ((rd_T36 l0 x15_1).f4), .string ((rd_T36 l0 x15_1).f5), .string ((rd_T36 l0 x15_1).f6), .string ((rd_T36 l0 x15_1).f7), (.slice A107_8 ((rd_T36 l0 x15_1).f8).length c107_8)] 36 (0, 0))) ∧ Aside0 (Below w.heap.size w wc))
              case first =>
                have H := HC6.out
                clear HC6
                replace H := Option.bind_eq_some_iff.mp H
                obtain ⟨t109, A90, H⟩ := H
                replace H : ((strings_Contains.f t109 (⟨#[116]⟩ : ByteArray)).bind fun t110 => (if t110 = true then (if ((rd_T36 l0 x15_1).f4) < 0 then (flow_Check.j1 k1 l0 (wrap64 ((l0.length : Int) - 1)) x15_1 l0 (l0.length : Int) x15_1 true ((rd_T36 l0 x15_1).f0) ((rd_T36 l0 x15_1).f1) ((rd_T36 l0 x15_1).f2) ((rd_T36 l0 x15_1).f3) ((rd_T36 l0 x15_1).f4) ((rd_T36 l0 x15_1).f5) ((rd_T36 l0 x15_1).f6) ((rd_T36 l0 x15_1).f7) ((rd_T36 l0 x15_1).f8)) else (flow_Check.j1 k1 l0 (wrap64 ((l0.length : Int) - 1)) x15_1 l0 (l0.length : Int) x15_1 (decide (((rd_T36 l0 x15_1).f4) ≥ (l0.length : Int))) ((rd_T36 l0 x15_1).f0) ((rd_T36 l0 x15_1).f1) ((rd_T36 l0 x15_1).f2) ((rd_T36 l0 x15_1).f3) ((rd_T36 l0 x15_1).f4) ((rd_T36 l0 x15_1).f5) ((rd_T36 l0 x15_1).f6) ((rd_T36 l0 x15_1).f7) ((rd_T36 l0 x15_1).f8))) else (flow_Check.j1 k1 l0 (wrap64 ((l0.length : Int) - 1)) x15_1 l0 (l0.length : Int) x15_1 false ((rd_T36 l0 x15_1).f0) ((rd_T36 l0 x15_1).f1) ((rd_T36 l0 x15_1).f2) ((rd_T36 l0 x15_1).f3) ((rd_T36 l0 x15_1).f4) ((rd_T36 l0 x15_1).f5) ((rd_T36 l0 x15_1).f6) ((rd_T36 l0 x15_1).f7) ((rd_T36 l0 x15_1).f8)))) = some (r1, r2) := H
                have A9 := Aside0.mk A90
                clear A90
                replace H := Option.bind_eq_some_iff.mp H
                obtain ⟨t110, A100, H⟩ := H
                replace H : (if t110 = true then (if ((rd_T36 l0 x15_1).f4) < 0 then (flow_Check.j1 k1 l0 (wrap64 ((l0.length : Int) - 1)) x15_1 l0 (l0.length : Int) x15_1 true ((rd_T36 l0 x15_1).f0) ((rd_T36 l0 x15_1).f1) ((rd_T36 l0 x15_1).f2) ((rd_T36 l0 x15_1).f3) ((rd_T36 l0 x15_1).f4) ((rd_T36 l0 x15_1).f5) ((rd_T36 l0 x15_1).f6) ((rd_T36 l0 x15_1).f7) ((rd_T36 l0 x15_1).f8)) else (flow_Check.j1 k1 l0 (wrap64 ((l0.length : Int) - 1)) x15_1 l0 (l0.length : Int) x15_1 (decide (((rd_T36 l0 x15_1).f4) ≥ (l0.length : Int))) ((rd_T36 l0 x15_1).f0) ((rd_T36 l0 x15_1).f1) ((rd_T36 l0 x15_1).f2) ((rd_T36 l0 x15_1).f3) ((rd_T36 l0 x15_1).f4) ((rd_T36 l0 x15_1).f5) ((rd_T36 l0 x15_1).f6) ((rd_T36 l0 x15_1).f7) ((rd_T36 l0 x15_1).f8))) else (flow_Check.j1 k1 l0 (wrap64 ((l0.length : Int) - 1)) x15_1 l0 (l0.length : Int) x15_1 false ((rd_T36 l0 x15_1).f0) ((rd_T36 l0 x15_1).f1) ((rd_T36 l0 x15_1).f2) ((rd_T36 l0 x15_1).f3) ((rd_T36 l0 x15_1).f4) ((rd_T36 l0 x15_1).f5) ((rd_T36 l0 x15_1).f6) ((rd_T36 l0 x15_1).f7) ((rd_T36 l0 x15_1).f8))) = some (r1, r2) := H
                have A10 := Aside0.mk A100
                clear A100
                by_cases c11 : t110 = true
                · subst c11
                  have H1 : (if ((rd_T36 l0 x15_1).f4) < 0 then (flow_Check.j1 k1 l0 (wrap64 ((l0.length : Int) - 1)) x15_1 l0 (l0.length : Int) x15_1 true ((rd_T36 l0 x15_1).f0) ((rd_T36 l0 x15_1).f1) ((rd_T36 l0 x15_1).f2) ((rd_T36 l0 x15_1).f3) ((rd_T36 l0 x15_1).f4) ((rd_T36 l0 x15_1).f5) ((rd_T36 l0 x15_1).f6) ((rd_T36 l0 x15_1).f7) ((rd_T36 l0 x15_1).f8)) else (flow_Check.j1 k1 l0 (wrap64 ((l0.length : Int) - 1)) x15_1 l0 (l0.length : Int) x15_1 (decide (((rd_T36 l0 x15_1).f4) ≥ (l0.length : Int))) ((rd_T36 l0 x15_1).f0) ((rd_T36 l0 x15_1).f1) ((rd_T36 l0 x15_1).f2) ((rd_T36 l0 x15_1).f3) ((rd_T36 l0 x15_1).f4) ((rd_T36 l0 x15_1).f5) ((rd_T36 l0 x15_1).f6) ((rd_T36 l0 x15_1).f7) ((rd_T36 l0 x15_1).f8))) = some (r1, r2) := by rw [if_pos rfl] at H; exact H
                  clear H
                  have H := H1
                  clear H1
                  by_cases c12 : ((rd_T36 l0 x15_1).f4) < 0
                  · rw [if_pos c12] at H
                    have c12b0 : decide (((rd_T36 l0 x15_1).f4) < 0) = true := decide_eq_true c12
                    clear c12
                    (first | rw [c12b0] | (simp only [i64_w, i32_w]; rw [c12b0]) | rw [c12b1] | skip)
                    have H' := Aside0.mk H
                    clear H
                    have hcz13_0 : w7.cell? ⟨gb108, 0, none⟩ = some (.int .i64 0) := (blk_cell BK108.out 0).trans rfl
                    have hcz13_1 : w7.cell? ⟨gb108, 1, none⟩ = some (.int .i64 0) := (blk_cell BK108.out 1).trans rfl
                    have hcz13_2 : w7.cell? ⟨gb108, 2, none⟩ = some (.int .i64 0) := (blk_cell BK108.out 2).trans rfl
                    have hcz13_3 : w7.cell? ⟨gb108, 3, none⟩ = some (.int .i64 0) := (blk_cell BK108.out 3).trans rfl
                    have hcz13_4 : w7.cell? ⟨gb108, 4, none⟩ = some (.int .i64 0) := (blk_cell BK108.out 4).trans rfl
                    have hcz13_5 : w7.cell? ⟨gb108, 5, none⟩ = some (.string (⟨#[]⟩ : ByteArray)) := (blk_cell BK108.out 5).trans rfl
                    have hcz13_6 : w7.cell? ⟨gb108, 6, none⟩ = some (.string (⟨#[]⟩ : ByteArray)) := (blk_cell BK108.out 6).trans rfl
                    have hcz13_7 : w7.cell? ⟨gb108, 7, none⟩ = some (.string (⟨#[]⟩ : ByteArray)) := (blk_cell BK108.out 7).trans rfl
                    have hcz13_8 : w7.cell? ⟨gb108, 8, none⟩ = some (.slice none 0 0) := (blk_cell BK108.out 8).trans rfl
                    have hfz13_0 := blk_frozen BK108.out 0
                    have hfz13_1 := blk_frozen BK108.out 1
                    have hfz13_2 := blk_frozen BK108.out 2
                    have hfz13_3 := blk_frozen BK108.out 3
                    have hfz13_4 := blk_frozen BK108.out 4
                    have hfz13_5 := blk_frozen BK108.out 5
                    have hfz13_6 := blk_frozen BK108.out 6
                    have hfz13_7 := blk_frozen BK108.out 7
                    have hfz13_8 := blk_frozen BK108.out 8
                    go_wp2_with (first | ((with_reducible refine gate_callee (f := 24) rfl ?_); refine goesL_ (some 23) rfl rfl Tryd.func24 (by kernel_rfl) rfl #[.int .i64 ((rd_T36 l0 x15_1).f0)] rfl (by (try simp only [List.map_toArray, List.map_cons, List.map_nil]); first | done | rfl | (simp only [List.length_drop, List.length_take]; rfl)) ?_; (with_reducible refine (op_Shape.calls ((rd_T36 l0 x15_1).f0) t109 _ ?side1 A9.out).mono ?_); (case side1 => exact GOk.below HG.out (by repeat (first | (with_reducible first | exact HB.out | apply below_alloc | apply pw_below_drewN | apply below_drew1 | refine below_set ?_ GE108.out) | exact HB.out))); rintro e w' ⟨rfl, ⟨nd, rfl⟩⟩; refine ⟨_, rfl, ?_⟩) | ((with_reducible refine gate_callee (f := 23) rfl ?_); refine goesL_ (some 24) rfl rfl Tryd.func23 (by kernel_rfl) rfl #[.string t109, .string (⟨#[116]⟩ : ByteArray)] rfl (by (try simp only [List.map_toArray, List.map_cons, List.map_nil]); first | done | rfl | (simp only [List.length_drop, List.length_take]; rfl)) ?_; (with_reducible refine (strings_Contains.calls t109 (⟨#[116]⟩ : ByteArray) true _ A10.out).mono ?_); rintro e w' ⟨rfl, ⟨nd, rfl⟩⟩; refine ⟨_, rfl, ?_⟩))
                    go_meet
                    case rel => exact ⟨_, (true), (by first | rfl | (simp; done) | (simp [*]; done)), H', ⟨by have := HK1.out; first | omega | exact Nat.le_refl _⟩, ⟨by (with_reducible repeat (first | refine blk_drewN ?_ _ | refine blk_drew ?_ | refine blk_alloc ?_ _)); refine blk_put (cs := #[.int .i64 ((rd_T36 l0 x15_1).f0), .int .i64 ((rd_T36 l0 x15_1).f1), .int .i64 ((rd_T36 l0 x15_1).f2), .int .i64 ((rd_T36 l0 x15_1).f3), .int .i64 ((rd_T36 l0 x15_1).f4), .string ((rd_T36 l0 x15_1).f5), .string ((rd_T36 l0 x15_1).f6), .string ((rd_T36 l0 x15_1).f7), .slice none 0 0]) ?_ 8 _ rfl; (with_reducible repeat (first | refine blk_drewN ?_ _ | refine blk_drew ?_ | refine blk_alloc ?_ _)); refine blk_put (cs := #[.int .i64 ((rd_T36 l0 x15_1).f0), .int .i64 ((rd_T36 l0 x15_1).f1), .int .i64 ((rd_T36 l0 x15_1).f2), .int .i64 ((rd_T36 l0 x15_1).f3), .int .i64 ((rd_T36 l0 x15_1).f4), .string ((rd_T36 l0 x15_1).f5), .string ((rd_T36 l0 x15_1).f6), .string (⟨#[]⟩ : ByteArray), .slice none 0 0]) ?_ 7 _ rfl; (with_reducible repeat (first | refine blk_drewN ?_ _ | refine blk_drew ?_ | refine blk_alloc ?_ _)); refine blk_put (cs := #[.int .i64 ((rd_T36 l0 x15_1).f0), .int .i64 ((rd_T36 l0 x15_1).f1), .int .i64 ((rd_T36 l0 x15_1).f2), .int .i64 ((rd_T36 l0 x15_1).f3), .int .i64 ((rd_T36 l0 x15_1).f4), .string ((rd_T36 l0 x15_1).f5), .string (⟨#[]⟩ : ByteArray), .string (⟨#[]⟩ : ByteArray), .slice none 0 0]) ?_ 6 _ rfl; (with_reducible repeat (first | refine blk_drewN ?_ _ | refine blk_drew ?_ | refine blk_alloc ?_ _)); refine blk_put (cs := #[.int .i64 ((rd_T36 l0 x15_1).f0), .int .i64 ((rd_T36 l0 x15_1).f1), .int .i64 ((rd_T36 l0 x15_1).f2), .int .i64 ((rd_T36 l0 x15_1).f3), .int .i64 ((rd_T36 l0 x15_1).f4), .string (⟨#[]⟩ : ByteArray), .string (⟨#[]⟩ : ByteArray), .string (⟨#[]⟩ : ByteArray), .slice none 0 0]) ?_ 5 _ rfl; (with_reducible repeat (first | refine blk_drewN ?_ _ | refine blk_drew ?_ | refine blk_alloc ?_ _)); refine blk_put (cs := #[.int .i64 ((rd_T36 l0 x15_1).f0), .int .i64 ((rd_T36 l0 x15_1).f1), .int .i64 ((rd_T36 l0 x15_1).f2), .int .i64 ((rd_T36 l0 x15_1).f3), .int .i64 0, .string (⟨#[]⟩ : ByteArray), .string (⟨#[]⟩ : ByteArray), .string (⟨#[]⟩ : ByteArray), .slice none 0 0]) ?_ 4 _ rfl; (with_reducible repeat (first | refine blk_drewN ?_ _ | refine blk_drew ?_ | refine blk_alloc ?_ _)); refine blk_put (cs := #[.int .i64 ((rd_T36 l0 x15_1).f0), .int .i64 ((rd_T36 l0 x15_1).f1), .int .i64 ((rd_T36 l0 x15_1).f2), .int .i64 0, .int .i64 0, .string (⟨#[]⟩ : ByteArray), .string (⟨#[]⟩ : ByteArray), .string (⟨#[]⟩ : ByteArray), .slice none 0 0]) ?_ 3 _ rfl; (with_reducible repeat (first | refine blk_drewN ?_ _ | refine blk_drew ?_ | refine blk_alloc ?_ _)); refine blk_put (cs := #[.int .i64 ((rd_T36 l0 x15_1).f0), .int .i64 ((rd_T36 l0 x15_1).f1), .int .i64 0, .int .i64 0, .int .i64 0, .string (⟨#[]⟩ : ByteArray), .string (⟨#[]⟩ : ByteArray), .string (⟨#[]⟩ : ByteArray), .slice none 0 0]) ?_ 2 _ rfl; (with_reducible repeat (first | refine blk_drewN ?_ _ | refine blk_drew ?_ | refine blk_alloc ?_ _)); refine blk_put (cs := #[.int .i64 ((rd_T36 l0 x15_1).f0), .int .i64 0, .int .i64 0, .int .i64 0, .int .i64 0, .string (⟨#[]⟩ : ByteArray), .string (⟨#[]⟩ : ByteArray), .string (⟨#[]⟩ : ByteArray), .slice none 0 0]) ?_ 1 _ rfl; (with_reducible repeat (first | refine blk_drewN ?_ _ | refine blk_drew ?_ | refine blk_alloc ?_ _)); refine blk_put (cs := #[.int .i64 0, .int .i64 0, .int .i64 0, .int .i64 0, .int .i64 0, .string (⟨#[]⟩ : ByteArray), .string (⟨#[]⟩ : ByteArray), .string (⟨#[]⟩ : ByteArray), .slice none 0 0]) ?_ 0 _ rfl; (with_reducible repeat (first | refine blk_drewN ?_ _ | refine blk_drew ?_ | refine blk_alloc ?_ _)); exact BK108.out⟩, ⟨by repeat (first | (with_reducible first | exact HB.out | apply below_alloc | apply pw_below_drewN | apply below_drew1 | refine below_set ?_ GE108.out) | exact HB.out)⟩⟩
                  · rw [if_neg c12] at H
                    have c12b0 : decide (((rd_T36 l0 x15_1).f4) < 0) = false := decide_eq_false c12
                    clear c12
                    (first | rw [c12b0] | (simp only [i64_w, i32_w]; rw [c12b0]) | rw [c12b1] | skip)
                    have H' := Aside0.mk H
                    clear H
                    have hcz14_0 : w7.cell? ⟨gb108, 0, none⟩ = some (.int .i64 0) := (blk_cell BK108.out 0).trans rfl
                    have hcz14_1 : w7.cell? ⟨gb108, 1, none⟩ = some (.int .i64 0) := (blk_cell BK108.out 1).trans rfl
                    have hcz14_2 : w7.cell? ⟨gb108, 2, none⟩ = some (.int .i64 0) := (blk_cell BK108.out 2).trans rfl
                    have hcz14_3 : w7.cell? ⟨gb108, 3, none⟩ = some (.int .i64 0) := (blk_cell BK108.out 3).trans rfl
                    have hcz14_4 : w7.cell? ⟨gb108, 4, none⟩ = some (.int .i64 0) := (blk_cell BK108.out 4).trans rfl
                    have hcz14_5 : w7.cell? ⟨gb108, 5, none⟩ = some (.string (⟨#[]⟩ : ByteArray)) := (blk_cell BK108.out 5).trans rfl
                    have hcz14_6 : w7.cell? ⟨gb108, 6, none⟩ = some (.string (⟨#[]⟩ : ByteArray)) := (blk_cell BK108.out 6).trans rfl
                    have hcz14_7 : w7.cell? ⟨gb108, 7, none⟩ = some (.string (⟨#[]⟩ : ByteArray)) := (blk_cell BK108.out 7).trans rfl
                    have hcz14_8 : w7.cell? ⟨gb108, 8, none⟩ = some (.slice none 0 0) := (blk_cell BK108.out 8).trans rfl
                    have hfz14_0 := blk_frozen BK108.out 0
                    have hfz14_1 := blk_frozen BK108.out 1
                    have hfz14_2 := blk_frozen BK108.out 2
                    have hfz14_3 := blk_frozen BK108.out 3
                    have hfz14_4 := blk_frozen BK108.out 4
                    have hfz14_5 := blk_frozen BK108.out 5
                    have hfz14_6 := blk_frozen BK108.out 6
                    have hfz14_7 := blk_frozen BK108.out 7
                    have hfz14_8 := blk_frozen BK108.out 8
                    go_wp2_with (first | ((with_reducible refine gate_callee (f := 24) rfl ?_); refine goesL_ (some 23) rfl rfl Tryd.func24 (by kernel_rfl) rfl #[.int .i64 ((rd_T36 l0 x15_1).f0)] rfl (by (try simp only [List.map_toArray, List.map_cons, List.map_nil]); first | done | rfl | (simp only [List.length_drop, List.length_take]; rfl)) ?_; (with_reducible refine (op_Shape.calls ((rd_T36 l0 x15_1).f0) t109 _ ?side1 A9.out).mono ?_); (case side1 => exact GOk.below HG.out (by repeat (first | (with_reducible first | exact HB.out | apply below_alloc | apply pw_below_drewN | apply below_drew1 | refine below_set ?_ GE108.out) | exact HB.out))); rintro e w' ⟨rfl, ⟨nd, rfl⟩⟩; refine ⟨_, rfl, ?_⟩) | ((with_reducible refine gate_callee (f := 23) rfl ?_); refine goesL_ (some 24) rfl rfl Tryd.func23 (by kernel_rfl) rfl #[.string t109, .string (⟨#[116]⟩ : ByteArray)] rfl (by (try simp only [List.map_toArray, List.map_cons, List.map_nil]); first | done | rfl | (simp only [List.length_drop, List.length_take]; rfl)) ?_; (with_reducible refine (strings_Contains.calls t109 (⟨#[116]⟩ : ByteArray) true _ A10.out).mono ?_); rintro e w' ⟨rfl, ⟨nd, rfl⟩⟩; refine ⟨_, rfl, ?_⟩))
                    go_meet
                    case rel => exact ⟨_, (decide (((rd_T36 l0 x15_1).f4) ≥ (l0.length : Int))), (by first | rfl | (simp; done) | (simp [*]; done)), H', ⟨by have := HK1.out; first | omega | exact Nat.le_refl _⟩, ⟨by (with_reducible repeat (first | refine blk_drewN ?_ _ | refine blk_drew ?_ | refine blk_alloc ?_ _)); refine blk_put (cs := #[.int .i64 ((rd_T36 l0 x15_1).f0), .int .i64 ((rd_T36 l0 x15_1).f1), .int .i64 ((rd_T36 l0 x15_1).f2), .int .i64 ((rd_T36 l0 x15_1).f3), .int .i64 ((rd_T36 l0 x15_1).f4), .string ((rd_T36 l0 x15_1).f5), .string ((rd_T36 l0 x15_1).f6), .string ((rd_T36 l0 x15_1).f7), .slice none 0 0]) ?_ 8 _ rfl; (with_reducible repeat (first | refine blk_drewN ?_ _ | refine blk_drew ?_ | refine blk_alloc ?_ _)); refine blk_put (cs := #[.int .i64 ((rd_T36 l0 x15_1).f0), .int .i64 ((rd_T36 l0 x15_1).f1), .int .i64 ((rd_T36 l0 x15_1).f2), .int .i64 ((rd_T36 l0 x15_1).f3), .int .i64 ((rd_T36 l0 x15_1).f4), .string ((rd_T36 l0 x15_1).f5), .string ((rd_T36 l0 x15_1).f6), .string (⟨#[]⟩ : ByteArray), .slice none 0 0]) ?_ 7 _ rfl; (with_reducible repeat (first | refine blk_drewN ?_ _ | refine blk_drew ?_ | refine blk_alloc ?_ _)); refine blk_put (cs := #[.int .i64 ((rd_T36 l0 x15_1).f0), .int .i64 ((rd_T36 l0 x15_1).f1), .int .i64 ((rd_T36 l0 x15_1).f2), .int .i64 ((rd_T36 l0 x15_1).f3), .int .i64 ((rd_T36 l0 x15_1).f4), .string ((rd_T36 l0 x15_1).f5), .string (⟨#[]⟩ : ByteArray), .string (⟨#[]⟩ : ByteArray), .slice none 0 0]) ?_ 6 _ rfl; (with_reducible repeat (first | refine blk_drewN ?_ _ | refine blk_drew ?_ | refine blk_alloc ?_ _)); refine blk_put (cs := #[.int .i64 ((rd_T36 l0 x15_1).f0), .int .i64 ((rd_T36 l0 x15_1).f1), .int .i64 ((rd_T36 l0 x15_1).f2), .int .i64 ((rd_T36 l0 x15_1).f3), .int .i64 ((rd_T36 l0 x15_1).f4), .string (⟨#[]⟩ : ByteArray), .string (⟨#[]⟩ : ByteArray), .string (⟨#[]⟩ : ByteArray), .slice none 0 0]) ?_ 5 _ rfl; (with_reducible repeat (first | refine blk_drewN ?_ _ | refine blk_drew ?_ | refine blk_alloc ?_ _)); refine blk_put (cs := #[.int .i64 ((rd_T36 l0 x15_1).f0), .int .i64 ((rd_T36 l0 x15_1).f1), .int .i64 ((rd_T36 l0 x15_1).f2), .int .i64 ((rd_T36 l0 x15_1).f3), .int .i64 0, .string (⟨#[]⟩ : ByteArray), .string (⟨#[]⟩ : ByteArray), .string (⟨#[]⟩ : ByteArray), .slice none 0 0]) ?_ 4 _ rfl; (with_reducible repeat (first | refine blk_drewN ?_ _ | refine blk_drew ?_ | refine blk_alloc ?_ _)); refine blk_put (cs := #[.int .i64 ((rd_T36 l0 x15_1).f0), .int .i64 ((rd_T36 l0 x15_1).f1), .int .i64 ((rd_T36 l0 x15_1).f2), .int .i64 0, .int .i64 0, .string (⟨#[]⟩ : ByteArray), .string (⟨#[]⟩ : ByteArray), .string (⟨#[]⟩ : ByteArray), .slice none 0 0]) ?_ 3 _ rfl; (with_reducible repeat (first | refine blk_drewN ?_ _ | refine blk_drew ?_ | refine blk_alloc ?_ _)); refine blk_put (cs := #[.int .i64 ((rd_T36 l0 x15_1).f0), .int .i64 ((rd_T36 l0 x15_1).f1), .int .i64 0, .int .i64 0, .int .i64 0, .string (⟨#[]⟩ : ByteArray), .string (⟨#[]⟩ : ByteArray), .string (⟨#[]⟩ : ByteArray), .slice none 0 0]) ?_ 2 _ rfl; (with_reducible repeat (first | refine blk_drewN ?_ _ | refine blk_drew ?_ | refine blk_alloc ?_ _)); refine blk_put (cs := #[.int .i64 ((rd_T36 l0 x15_1).f0), .int .i64 0, .int .i64 0, .int .i64 0, .int .i64 0, .string (⟨#[]⟩ : ByteArray), .string (⟨#[]⟩ : ByteArray), .string (⟨#[]⟩ : ByteArray), .slice none 0 0]) ?_ 1 _ rfl; (with_reducible repeat (first | refine blk_drewN ?_ _ | refine blk_drew ?_ | refine blk_alloc ?_ _)); refine blk_put (cs := #[.int .i64 0, .int .i64 0, .int .i64 0, .int .i64 0, .int .i64 0, .string (⟨#[]⟩ : ByteArray), .string (⟨#[]⟩ : ByteArray), .string (⟨#[]⟩ : ByteArray), .slice none 0 0]) ?_ 0 _ rfl; (with_reducible repeat (first | refine blk_drewN ?_ _ | refine blk_drew ?_ | refine blk_alloc ?_ _)); exact BK108.out⟩, ⟨by repeat (first | (with_reducible first | exact HB.out | apply below_alloc | apply pw_below_drewN | apply below_drew1 | refine below_set ?_ GE108.out) | exact HB.out)⟩⟩
                · replace c11 := Bool.eq_false_iff.mpr c11
                  subst c11
                  have H1 : (flow_Check.j1 k1 l0 (wrap64 ((l0.length : Int) - 1)) x15_1 l0 (l0.length : Int) x15_1 false ((rd_T36 l0 x15_1).f0) ((rd_T36 l0 x15_1).f1) ((rd_T36 l0 x15_1).f2) ((rd_T36 l0 x15_1).f3) ((rd_T36 l0 x15_1).f4) ((rd_T36 l0 x15_1).f5) ((rd_T36 l0 x15_1).f6) ((rd_T36 l0 x15_1).f7) ((rd_T36 l0 x15_1).f8)) = some (r1, r2) := by rw [if_neg (show ¬ (false = true) by decide)] at H; exact H
                  clear H
                  have H := H1
                  clear H1
                  have H' := Aside0.mk H
                  clear H
                  have hcz15_0 : w7.cell? ⟨gb108, 0, none⟩ = some (.int .i64 0) := (blk_cell BK108.out 0).trans rfl
                  have hcz15_1 : w7.cell? ⟨gb108, 1, none⟩ = some (.int .i64 0) := (blk_cell BK108.out 1).trans rfl
                  have hcz15_2 : w7.cell? ⟨gb108, 2, none⟩ = some (.int .i64 0) := (blk_cell BK108.out 2).trans rfl
                  have hcz15_3 : w7.cell? ⟨gb108, 3, none⟩ = some (.int .i64 0) := (blk_cell BK108.out 3).trans rfl
                  have hcz15_4 : w7.cell? ⟨gb108, 4, none⟩ = some (.int .i64 0) := (blk_cell BK108.out 4).trans rfl
                  have hcz15_5 : w7.cell? ⟨gb108, 5, none⟩ = some (.string (⟨#[]⟩ : ByteArray)) := (blk_cell BK108.out 5).trans rfl
                  have hcz15_6 : w7.cell? ⟨gb108, 6, none⟩ = some (.string (⟨#[]⟩ : ByteArray)) := (blk_cell BK108.out 6).trans rfl
                  have hcz15_7 : w7.cell? ⟨gb108, 7, none⟩ = some (.string (⟨#[]⟩ : ByteArray)) := (blk_cell BK108.out 7).trans rfl
                  have hcz15_8 : w7.cell? ⟨gb108, 8, none⟩ = some (.slice none 0 0) := (blk_cell BK108.out 8).trans rfl
                  have hfz15_0 := blk_frozen BK108.out 0
                  have hfz15_1 := blk_frozen BK108.out 1
                  have hfz15_2 := blk_frozen BK108.out 2
                  have hfz15_3 := blk_frozen BK108.out 3
                  have hfz15_4 := blk_frozen BK108.out 4
                  have hfz15_5 := blk_frozen BK108.out 5
                  have hfz15_6 := blk_frozen BK108.out 6
                  have hfz15_7 := blk_frozen BK108.out 7
                  have hfz15_8 := blk_frozen BK108.out 8
                  go_wp2_with (first | ((with_reducible refine gate_callee (f := 24) rfl ?_); refine goesL_ (some 23) rfl rfl Tryd.func24 (by kernel_rfl) rfl #[.int .i64 ((rd_T36 l0 x15_1).f0)] rfl (by (try simp only [List.map_toArray, List.map_cons, List.map_nil]); first | done | rfl | (simp only [List.length_drop, List.length_take]; rfl)) ?_; (with_reducible refine (op_Shape.calls ((rd_T36 l0 x15_1).f0) t109 _ ?side1 A9.out).mono ?_); (case side1 => exact GOk.below HG.out (by repeat (first | (with_reducible first | exact HB.out | apply below_alloc | apply pw_below_drewN | apply below_drew1 | refine below_set ?_ GE108.out) | exact HB.out))); rintro e w' ⟨rfl, ⟨nd, rfl⟩⟩; refine ⟨_, rfl, ?_⟩) | ((with_reducible refine gate_callee (f := 23) rfl ?_); refine goesL_ (some 24) rfl rfl Tryd.func23 (by kernel_rfl) rfl #[.string t109, .string (⟨#[116]⟩ : ByteArray)] rfl (by (try simp only [List.map_toArray, List.map_cons, List.map_nil]); first | done | rfl | (simp only [List.length_drop, List.length_take]; rfl)) ?_; (with_reducible refine (strings_Contains.calls t109 (⟨#[116]⟩ : ByteArray) false _ A10.out).mono ?_); rintro e w' ⟨rfl, ⟨nd, rfl⟩⟩; refine ⟨_, rfl, ?_⟩))
                  go_meet
                  case rel => exact ⟨_, (false), (by first | rfl | (simp; done) | (simp [*]; done)), H', ⟨by have := HK1.out; first | omega | exact Nat.le_refl _⟩, ⟨by (with_reducible repeat (first | refine blk_drewN ?_ _ | refine blk_drew ?_ | refine blk_alloc ?_ _)); refine blk_put (cs := #[.int .i64 ((rd_T36 l0 x15_1).f0), .int .i64 ((rd_T36 l0 x15_1).f1), .int .i64 ((rd_T36 l0 x15_1).f2), .int .i64 ((rd_T36 l0 x15_1).f3), .int .i64 ((rd_T36 l0 x15_1).f4), .string ((rd_T36 l0 x15_1).f5), .string ((rd_T36 l0 x15_1).f6), .string ((rd_T36 l0 x15_1).f7), .slice none 0 0]) ?_ 8 _ rfl; (with_reducible repeat (first | refine blk_drewN ?_ _ | refine blk_drew ?_ | refine blk_alloc ?_ _)); refine blk_put (cs := #[.int .i64 ((rd_T36 l0 x15_1).f0), .int .i64 ((rd_T36 l0 x15_1).f1), .int .i64 ((rd_T36 l0 x15_1).f2), .int .i64 ((rd_T36 l0 x15_1).f3), .int .i64 ((rd_T36 l0 x15_1).f4), .string ((rd_T36 l0 x15_1).f5), .string ((rd_T36 l0 x15_1).f6), .string (⟨#[]⟩ : ByteArray), .slice none 0 0]) ?_ 7 _ rfl; (with_reducible repeat (first | refine blk_drewN ?_ _ | refine blk_drew ?_ | refine blk_alloc ?_ _)); refine blk_put (cs := #[.int .i64 ((rd_T36 l0 x15_1).f0), .int .i64 ((rd_T36 l0 x15_1).f1), .int .i64 ((rd_T36 l0 x15_1).f2), .int .i64 ((rd_T36 l0 x15_1).f3), .int .i64 ((rd_T36 l0 x15_1).f4), .string ((rd_T36 l0 x15_1).f5), .string (⟨#[]⟩ : ByteArray), .string (⟨#[]⟩ : ByteArray), .slice none 0 0]) ?_ 6 _ rfl; (with_reducible repeat (first | refine blk_drewN ?_ _ | refine blk_drew ?_ | refine blk_alloc ?_ _)); refine blk_put (cs := #[.int .i64 ((rd_T36 l0 x15_1).f0), .int .i64 ((rd_T36 l0 x15_1).f1), .int .i64 ((rd_T36 l0 x15_1).f2), .int .i64 ((rd_T36 l0 x15_1).f3), .int .i64 ((rd_T36 l0 x15_1).f4), .string (⟨#[]⟩ : ByteArray), .string (⟨#[]⟩ : ByteArray), .string (⟨#[]⟩ : ByteArray), .slice none 0 0]) ?_ 5 _ rfl; (with_reducible repeat (first | refine blk_drewN ?_ _ | refine blk_drew ?_ | refine blk_alloc ?_ _)); refine blk_put (cs := #[.int .i64 ((rd_T36 l0 x15_1).f0), .int .i64 ((rd_T36 l0 x15_1).f1), .int .i64 ((rd_T36 l0 x15_1).f2), .int .i64 ((rd_T36 l0 x15_1).f3), .int .i64 0, .string (⟨#[]⟩ : ByteArray), .string (⟨#[]⟩ : ByteArray), .string (⟨#[]⟩ : ByteArray), .slice none 0 0]) ?_ 4 _ rfl; (with_reducible repeat (first | refine blk_drewN ?_ _ | refine blk_drew ?_ | refine blk_alloc ?_ _)); refine blk_put (cs := #[.int .i64 ((rd_T36 l0 x15_1).f0), .int .i64 ((rd_T36 l0 x15_1).f1), .int .i64 ((rd_T36 l0 x15_1).f2), .int .i64 0, .int .i64 0, .string (⟨#[]⟩ : ByteArray), .string (⟨#[]⟩ : ByteArray), .string (⟨#[]⟩ : ByteArray), .slice none 0 0]) ?_ 3 _ rfl; (with_reducible repeat (first | refine blk_drewN ?_ _ | refine blk_drew ?_ | refine blk_alloc ?_ _)); refine blk_put (cs := #[.int .i64 ((rd_T36 l0 x15_1).f0), .int .i64 ((rd_T36 l0 x15_1).f1), .int .i64 0, .int .i64 0, .int .i64 0, .string (⟨#[]⟩ : ByteArray), .string (⟨#[]⟩ : ByteArray), .string (⟨#[]⟩ : ByteArray), .slice none 0 0]) ?_ 2 _ rfl; (with_reducible repeat (first | refine blk_drewN ?_ _ | refine blk_drew ?_ | refine blk_alloc ?_ _)); refine blk_put (cs := #[.int .i64 ((rd_T36 l0 x15_1).f0), .int .i64 0, .int .i64 0, .int .i64 0, .int .i64 0, .string (⟨#[]⟩ : ByteArray), .string (⟨#[]⟩ : ByteArray), .string (⟨#[]⟩ : ByteArray), .slice none 0 0]) ?_ 1 _ rfl; (with_reducible repeat (first | refine blk_drewN ?_ _ | refine blk_drew ?_ | refine blk_alloc ?_ _)); refine blk_put (cs := #[.int .i64 0, .int .i64 0, .int .i64 0, .int .i64 0, .int .i64 0, .string (⟨#[]⟩ : ByteArray), .string (⟨#[]⟩ : ByteArray), .string (⟨#[]⟩ : ByteArray), .slice none 0 0]) ?_ 0 _ rfl; (with_reducible repeat (first | refine blk_drewN ?_ _ | refine blk_drew ?_ | refine blk_alloc ?_ _)); exact BK108.out⟩, ⟨by repeat (first | (with_reducible first | exact HB.out | apply below_alloc | apply pw_below_drewN | apply below_drew1 | refine below_set ?_ GE108.out) | exact HB.out)⟩⟩
              case rest =>
                clear HC6
                try clear c1
                try clear p1
                try clear q1
                try clear hx1
                try clear c2
                try clear c2b0
                try clear c2b1
                try clear c2b2
                try clear p2
                try clear c3
                try clear c3b0
                try clear c4
                try clear c4b0
                try clear c5
                try clear c5b0
                try clear p6
                try clear c9
                try clear c10
                try clear p10
                try clear q10
                try clear hx10
                try clear c11
                try clear c12
                try clear c12b0
                try clear hcz13_0
                try clear hcz13_1
                try clear hcz13_2
                try clear hcz13_3
                try clear hcz13_4
                try clear hcz13_5
                try clear hcz13_6
                try clear hcz13_7
                try clear hcz13_8
                try clear hcz14_0
                try clear hcz14_1
                try clear hcz14_2
                try clear hcz14_3
                try clear hcz14_4
                try clear hcz14_5
                try clear hcz14_6
                try clear hcz14_7
                try clear hcz14_8
                try clear hcz15_0
                try clear hcz15_1
                try clear hcz15_2
                try clear hcz15_3
                try clear hcz15_4
                try clear hcz15_5
                try clear hcz15_6
                try clear hcz15_7
                try clear hcz15_8
                try clear hcz8_0
                try clear hcz8_1
                try clear hcz8_2
                try clear hcz8_3
                try clear hcz8_4
                try clear hcz8_5
                try clear hcz8_6
                try clear hcz8_7
                try clear hcz8_8
                try clear hfz13_0
                try clear hfz13_1
                try clear hfz13_2
                try clear hfz13_3
                try clear hfz13_4
                try clear hfz13_5
                try clear hfz13_6
                try clear hfz13_7
                try clear hfz13_8
                try clear hfz14_0
                try clear hfz14_1
                try clear hfz14_2
                try clear hfz14_3
                try clear hfz14_4
                try clear hfz14_5
                try clear hfz14_6
                try clear hfz14_7
                try clear hfz14_8
                try clear hfz15_0
                try clear hfz15_1
                try clear hfz15_2
                try clear hfz15_3
                try clear hfz15_4
                try clear hfz15_5
                try clear hfz15_6
                try clear hfz15_7
                try clear hfz15_8
                try clear hfz8_0
                try clear hfz8_1
                try clear hfz8_2
                try clear hfz8_3
                try clear hfz8_4
                try clear hfz8_5
                try clear hfz8_6
                try clear hfz8_7
                try clear hfz8_8
                try clear hx107_0
                try clear hx107_1
                try clear hx107_2
                try clear hx107_3
                try clear hx107_4
                try clear hx107_5
                try clear hx107_6
                try clear hx107_7
                try clear hx107_8
                try clear p107
                try clear p2
                try clear q107
                obtain ⟨kq, x20_5, rfl, HA, HJ5, BK108, HB⟩ := hcut
                cases kq with
                | zero => exact absurd HA.out (by simp [flow_Check.j1])
                | succ kj5 =>
                  have H := HA.out
                  clear HA
                  simp only [flow_Check.j1] at H
                  by_cases c16 : x20_5 = true
                  · subst c16
                    have H1 : (some (12, x15_1)) = some (r1, r2) := by rw [if_pos rfl] at H; exact H
                    clear H
                    have H := H1
                    clear H1
                    simp only [Option.some.injEq, Prod.mk.injEq] at H
                    obtain ⟨rfl, rfl⟩ := H
                    go_wp2
                    go_ret2
                    exact ⟨by first | rfl | (simp [errW_none, errW_some] <;> rfl) | (simp [*, errW_none, errW_some] <;> rfl), by repeat (first | (with_reducible first | exact HB.out | apply below_alloc | apply pw_below_drewN | apply below_drew1 | refine below_set ?_ GE108.out) | exact HB.out)⟩
                  · replace c16 := Bool.eq_false_iff.mpr c16
                    subst c16
                    have H1 : (if x15_1 = (wrap64 ((l0.length : Int) - 1)) then ((op_Falls.f ((rd_T36 l0 x15_1).f0)).bind fun t111 => (if t111 = true then (some (2, x15_1)) else (flow_Check.l0 kj5 l0 (wrap64 ((l0.length : Int) - 1)) l0 (l0.length : Int) (wrap64 (x15_1 + 1))))) else (flow_Check.l0 kj5 l0 (wrap64 ((l0.length : Int) - 1)) l0 (l0.length : Int) (wrap64 (x15_1 + 1)))) = some (r1, r2) := by rw [if_neg (show ¬ (false = true) by decide)] at H; exact H
                    clear H
                    have H := H1
                    clear H1
                    by_cases c17 : x15_1 = (wrap64 ((l0.length : Int) - 1))
                    · rw [if_pos c17] at H
                      have c17b0 : (x15_1 == (wrap64 ((l0.length : Int) - 1))) = true := beq_iff_eq.mpr c17
                      have c17b1 : (x15_1 != (wrap64 ((l0.length : Int) - 1))) = false := bne_eq_false_iff_eq.mpr c17
                      clear c17
                      replace H := Option.bind_eq_some_iff.mp H
                      obtain ⟨t111, A180, H⟩ := H
                      replace H : (if t111 = true then (some (2, x15_1)) else (flow_Check.l0 kj5 l0 (wrap64 ((l0.length : Int) - 1)) l0 (l0.length : Int) (wrap64 (x15_1 + 1)))) = some (r1, r2) := H
                      have A18 := Aside0.mk A180
                      clear A180
                      by_cases c19 : t111 = true
                      · subst c19
                        have H1 : (some (2, x15_1)) = some (r1, r2) := by rw [if_pos rfl] at H; exact H
                        clear H
                        have H := H1
                        clear H1
                        simp only [Option.some.injEq, Prod.mk.injEq] at H
                        obtain ⟨rfl, rfl⟩ := H
                        have hcz20_0 : wc.cell? ⟨gb108, 0, none⟩ = some (.int .i64 ((rd_T36 l0 x15_1).f0)) := (blk_cell BK108.out 0).trans rfl
                        have hcz20_1 : wc.cell? ⟨gb108, 1, none⟩ = some (.int .i64 ((rd_T36 l0 x15_1).f1)) := (blk_cell BK108.out 1).trans rfl
                        have hcz20_2 : wc.cell? ⟨gb108, 2, none⟩ = some (.int .i64 ((rd_T36 l0 x15_1).f2)) := (blk_cell BK108.out 2).trans rfl
                        have hcz20_3 : wc.cell? ⟨gb108, 3, none⟩ = some (.int .i64 ((rd_T36 l0 x15_1).f3)) := (blk_cell BK108.out 3).trans rfl
                        have hcz20_4 : wc.cell? ⟨gb108, 4, none⟩ = some (.int .i64 ((rd_T36 l0 x15_1).f4)) := (blk_cell BK108.out 4).trans rfl
                        have hcz20_5 : wc.cell? ⟨gb108, 5, none⟩ = some (.string ((rd_T36 l0 x15_1).f5)) := (blk_cell BK108.out 5).trans rfl
                        have hcz20_6 : wc.cell? ⟨gb108, 6, none⟩ = some (.string ((rd_T36 l0 x15_1).f6)) := (blk_cell BK108.out 6).trans rfl
                        have hcz20_7 : wc.cell? ⟨gb108, 7, none⟩ = some (.string ((rd_T36 l0 x15_1).f7)) := (blk_cell BK108.out 7).trans rfl
                        have hcz20_8 : wc.cell? ⟨gb108, 8, none⟩ = some (.slice A107_8 ((rd_T36 l0 x15_1).f8).length c107_8) := (blk_cell BK108.out 8).trans rfl
                        have hfz20_0 := blk_frozen BK108.out 0
                        have hfz20_1 := blk_frozen BK108.out 1
                        have hfz20_2 := blk_frozen BK108.out 2
                        have hfz20_3 := blk_frozen BK108.out 3
                        have hfz20_4 := blk_frozen BK108.out 4
                        have hfz20_5 := blk_frozen BK108.out 5
                        have hfz20_6 := blk_frozen BK108.out 6
                        have hfz20_7 := blk_frozen BK108.out 7
                        have hfz20_8 := blk_frozen BK108.out 8
                        go_wp2_with (first | (go_at_call 25; (with_reducible refine (op_Falls.calls ((rd_T36 l0 x15_1).f0) true _ A18.out).mono ?_); rintro e w' ⟨rfl, ⟨nd, rfl⟩⟩))
                        go_ret2
                        exact ⟨by first | rfl | (simp [errW_none, errW_some] <;> rfl) | (simp [*, errW_none, errW_some] <;> rfl), by repeat (first | (with_reducible first | exact HB.out | apply below_alloc | apply pw_below_drewN | apply below_drew1 | refine below_set ?_ GE108.out) | exact HB.out)⟩
                      · replace c19 := Bool.eq_false_iff.mpr c19
                        subst c19
                        have H1 : (flow_Check.l0 kj5 l0 (wrap64 ((l0.length : Int) - 1)) l0 (l0.length : Int) (wrap64 (x15_1 + 1))) = some (r1, r2) := by rw [if_neg (show ¬ (false = true) by decide)] at H; exact H
                        clear H
                        have H := H1
                        clear H1
                        have H' := Aside0.mk H
                        clear H
                        have hcz21_0 : wc.cell? ⟨gb108, 0, none⟩ = some (.int .i64 ((rd_T36 l0 x15_1).f0)) := (blk_cell BK108.out 0).trans rfl
                        have hcz21_1 : wc.cell? ⟨gb108, 1, none⟩ = some (.int .i64 ((rd_T36 l0 x15_1).f1)) := (blk_cell BK108.out 1).trans rfl
                        have hcz21_2 : wc.cell? ⟨gb108, 2, none⟩ = some (.int .i64 ((rd_T36 l0 x15_1).f2)) := (blk_cell BK108.out 2).trans rfl
                        have hcz21_3 : wc.cell? ⟨gb108, 3, none⟩ = some (.int .i64 ((rd_T36 l0 x15_1).f3)) := (blk_cell BK108.out 3).trans rfl
                        have hcz21_4 : wc.cell? ⟨gb108, 4, none⟩ = some (.int .i64 ((rd_T36 l0 x15_1).f4)) := (blk_cell BK108.out 4).trans rfl
                        have hcz21_5 : wc.cell? ⟨gb108, 5, none⟩ = some (.string ((rd_T36 l0 x15_1).f5)) := (blk_cell BK108.out 5).trans rfl
                        have hcz21_6 : wc.cell? ⟨gb108, 6, none⟩ = some (.string ((rd_T36 l0 x15_1).f6)) := (blk_cell BK108.out 6).trans rfl
                        have hcz21_7 : wc.cell? ⟨gb108, 7, none⟩ = some (.string ((rd_T36 l0 x15_1).f7)) := (blk_cell BK108.out 7).trans rfl
                        have hcz21_8 : wc.cell? ⟨gb108, 8, none⟩ = some (.slice A107_8 ((rd_T36 l0 x15_1).f8).length c107_8) := (blk_cell BK108.out 8).trans rfl
                        have hfz21_0 := blk_frozen BK108.out 0
                        have hfz21_1 := blk_frozen BK108.out 1
                        have hfz21_2 := blk_frozen BK108.out 2
                        have hfz21_3 := blk_frozen BK108.out 3
                        have hfz21_4 := blk_frozen BK108.out 4
                        have hfz21_5 := blk_frozen BK108.out 5
                        have hfz21_6 := blk_frozen BK108.out 6
                        have hfz21_7 := blk_frozen BK108.out 7
                        have hfz21_8 := blk_frozen BK108.out 8
                        go_wp2_with (first | (go_at_call 25; (with_reducible refine (op_Falls.calls ((rd_T36 l0 x15_1).f0) false _ A18.out).mono ?_); rintro e w' ⟨rfl, ⟨nd, rfl⟩⟩))
                        go_roundg kj5
                        case measure => have := HK1.out; have := HJ5.out; omega
                        case rel => exact ⟨(wrap64 (x15_1 + 1)), (by first | rfl | (simp; done) | (simp [*]; done)), H', ⟨by have := HK1.out; have := HJ5.out; omega⟩, ⟨by repeat (first | (with_reducible first | exact HB.out | apply below_alloc | apply pw_below_drewN | apply below_drew1 | refine below_set ?_ GE108.out) | exact HB.out)⟩⟩
                    · rw [if_neg c17] at H
                      have c17b0 : (x15_1 == (wrap64 ((l0.length : Int) - 1))) = false := beq_eq_false_iff_ne.mpr c17
                      have c17b1 : (x15_1 != (wrap64 ((l0.length : Int) - 1))) = true := bne_iff_ne.mpr c17
                      have H' := Aside0.mk H
                      clear H
                      go_wp2
                      go_roundg kj5
                      case measure => have := HK1.out; have := HJ5.out; omega
                      case rel => exact ⟨(wrap64 (x15_1 + 1)), (by first | rfl | (simp; done) | (simp [*]; done)), H', ⟨by have := HK1.out; have := HJ5.out; omega⟩, ⟨by repeat (first | (with_reducible first | exact HB.out | apply below_alloc | apply pw_below_drewN | apply below_drew1 | refine below_set ?_ GE108.out) | exact HB.out)⟩⟩
            · rw [if_neg c5] at H
              exact absurd H (by simp)
          · rw [if_neg c4] at H
            exact absurd H (by simp)
        · rw [if_neg c3] at H
          have c3b0 : decide (x15_1 < (l0.length : Int)) = false := decide_eq_false c3
          clear c3
          simp only [Option.some.injEq, Prod.mk.injEq] at H
          obtain ⟨rfl, rfl⟩ := H
          go_wp2
          go_ret2
          exact ⟨by first | rfl | (simp [errW_none, errW_some] <;> rfl) | (simp [*, errW_none, errW_some] <;> rfl), by repeat (first | (with_reducible first | exact HB.out | apply below_alloc | apply pw_below_drewN | apply below_drew1) | exact HB.out)⟩

/-! ### flow_target: function 36 -/
def flow_target.f (l0 : List (S36)) (a1 : Int) : Option (Int × Bool) := if 0 ≤ a1 then (if a1 < (l0.length : Int) then ((op_Target.f ((rd_T36 l0 a1).f0) ((rd_T36 l0 a1).f1) ((rd_T36 l0 a1).f2) ((rd_T36 l0 a1).f3) ((rd_T36 l0 a1).f4) ((rd_T36 l0 a1).f5) ((rd_T36 l0 a1).f6) ((rd_T36 l0 a1).f7) ((rd_T36 l0 a1).f8)).bind fun bt126 => (if bt126.2 = true then (some (bt126.1, decide (bt126.1 < (l0.length : Int)))) else (some (bt126.1, false)))) else (none)) else (none)
set_option maxHeartbeats 8000000 in
set_option maxRecDepth 100000 in
theorem flow_target.calls (A0 : Option Addr) (c0 : Nat) (l0 : List (S36)) (a1 : Int) (r1 : Int) (r2 : Bool) (w : World) (hr0 : Kd.C k36 w A0 l0.length l0) (hc0 : l0.length ≤ c0) (hG : GOk w) (h : flow_target.f l0 a1 = some (r1, r2)) :
    Calls Tryd.prog 36 #[.slice A0 l0.length c0, .int .i64 a1] w fun e w' => e = .returned (.tuple #[.int .i64 r1, .bool r2]) ∧ Below w.heap.size w w' := by
  have hu36 := Tryd.underlying36
  have HR0 := Aside0.mk hr0
  have HC0 := Aside0.mk hc0
  clear hr0 hc0
  have HB := Aside0.mk (Below.refl w.heap.size w)
  have HG := Aside0.mk hG
  clear hG
  have H : (if 0 ≤ a1 then (if a1 < (l0.length : Int) then ((op_Target.f ((rd_T36 l0 a1).f0) ((rd_T36 l0 a1).f1) ((rd_T36 l0 a1).f2) ((rd_T36 l0 a1).f3) ((rd_T36 l0 a1).f4) ((rd_T36 l0 a1).f5) ((rd_T36 l0 a1).f6) ((rd_T36 l0 a1).f7) ((rd_T36 l0 a1).f8)).bind fun bt126 => (if bt126.2 = true then (some (bt126.1, decide (bt126.1 < (l0.length : Int)))) else (some (bt126.1, false)))) else (none)) else (none)) = some (r1, r2) := h
  clear h
  by_cases c3 : 0 ≤ a1
  · rw [if_pos c3] at H
    have c3b0 : decide (0 ≤ a1) = true := decide_eq_true c3
    clear c3
    by_cases c4 : a1 < (l0.length : Int)
    · rw [if_pos c4] at H
      have c4b0 : decide (a1 < (l0.length : Int)) = true := decide_eq_true c4
      clear c4
      replace H := Option.bind_eq_some_iff.mp H
      obtain ⟨⟨t126, t127⟩, A50, H⟩ := H
      replace H : (if t127 = true then (some (t126, decide (t126 < (l0.length : Int)))) else (some (t126, false))) = some (r1, r2) := H
      have A5 := Aside0.mk A50
      clear A50
      by_cases c6 : t127 = true
      · subst c6
        have H1 : (some (t126, decide (t126 < (l0.length : Int)))) = some (r1, r2) := by rw [if_pos rfl] at H; exact H
        clear H
        have H := H1
        clear H1
        simp only [Option.some.injEq, Prod.mk.injEq] at H
        obtain ⟨rfl, rfl⟩ := H
        have p125 : 0 ≤ (a1 : Int) := of_decide_eq_true (by first | (with_reducible assumption) | assumption)
        have q125 : a1 < (l0.length : Int) := of_decide_eq_true (by first | (with_reducible assumption) | assumption)
        obtain ⟨ad125, A125_8, c125_8, e125, hx125_0, hx125_1, hx125_2, hx125_3, hx125_4, hx125_5, hx125_6, hx125_7, hx125_8, hl125_8, hi125_8⟩ := at_T36 HR0.out a1 p125 q125
        cases e125
        have HR125_8 := Aside0.mk hi125_8
        have HC125_8 := Aside0.mk hl125_8
        clear hi125_8 hl125_8
        replace p125 := eq_true p125
        replace q125 := eq_true q125
        go_enter Tryd.func36, Tryd.ntmps36
        go_wp2_with (first | ((with_reducible refine gate_callee (f := 37) rfl ?_); refine goesL_ (some 13) rfl rfl Tryd.func37 (by kernel_rfl) rfl #[.agg #[.int .i64 ((rd_T36 l0 a1).f0), .int .i64 ((rd_T36 l0 a1).f1), .int .i64 ((rd_T36 l0 a1).f2), .int .i64 ((rd_T36 l0 a1).f3), .int .i64 ((rd_T36 l0 a1).f4), .string ((rd_T36 l0 a1).f5), .string ((rd_T36 l0 a1).f6), .string ((rd_T36 l0 a1).f7), .slice A125_8 ((rd_T36 l0 a1).f8).length c125_8]] rfl (by (try simp only [List.map_toArray, List.map_cons, List.map_nil]); first | done | rfl | (simp only [List.length_drop, List.length_take]; rfl)) ?_; (with_reducible refine (op_Target.calls ((rd_T36 l0 a1).f0) ((rd_T36 l0 a1).f1) ((rd_T36 l0 a1).f2) ((rd_T36 l0 a1).f3) ((rd_T36 l0 a1).f4) ((rd_T36 l0 a1).f5) ((rd_T36 l0 a1).f6) ((rd_T36 l0 a1).f7) _ _ ((rd_T36 l0 a1).f8) t126 true _ ?side1 ?side2 ?side3 A5.out).mono ?_); (case side1 => repeat (first | exact HR125_8.out | (with_reducible refine Kd.C_alloc ?_ _) | (with_reducible refine Kd.C_drewN ?_ _) | (with_reducible refine Kd.C_drew ?_))); (case side2 => exact HC125_8.out); (case side3 => exact GOk.below HG.out (by repeat (first | (with_reducible first | exact HB.out | apply below_alloc | apply pw_below_drewN | apply below_drew1) | exact HB.out))); rintro e w7 ⟨rfl, hb⟩; refine ⟨_, rfl, ?_⟩; have n0_ := Aside0.mk (below_step (by repeat (first | (with_reducible first | exact HB.out | apply below_alloc | apply pw_below_drewN | apply below_drew1) | exact HB.out)) hb); clear HB; have HB := n0_; clear n0_; (try clear hb); (try clear hb2); (try clear hk); (try clear hi)))
        go_ret2
        exact ⟨by first | rfl | (simp [errW_none, errW_some] <;> rfl) | (simp [*, errW_none, errW_some] <;> rfl), by repeat (first | (with_reducible first | exact HB.out | apply below_alloc | apply pw_below_drewN | apply below_drew1) | exact HB.out)⟩
      · replace c6 := Bool.eq_false_iff.mpr c6
        subst c6
        have H1 : (some (t126, false)) = some (r1, r2) := by rw [if_neg (show ¬ (false = true) by decide)] at H; exact H
        clear H
        have H := H1
        clear H1
        simp only [Option.some.injEq, Prod.mk.injEq] at H
        obtain ⟨rfl, rfl⟩ := H
        have p125 : 0 ≤ (a1 : Int) := of_decide_eq_true (by first | (with_reducible assumption) | assumption)
        have q125 : a1 < (l0.length : Int) := of_decide_eq_true (by first | (with_reducible assumption) | assumption)
        obtain ⟨ad125, A125_8, c125_8, e125, hx125_0, hx125_1, hx125_2, hx125_3, hx125_4, hx125_5, hx125_6, hx125_7, hx125_8, hl125_8, hi125_8⟩ := at_T36 HR0.out a1 p125 q125
        cases e125
        have HR125_8 := Aside0.mk hi125_8
        have HC125_8 := Aside0.mk hl125_8
        clear hi125_8 hl125_8
        replace p125 := eq_true p125
        replace q125 := eq_true q125
        go_enter Tryd.func36, Tryd.ntmps36
        go_wp2_with (first | ((with_reducible refine gate_callee (f := 37) rfl ?_); refine goesL_ (some 13) rfl rfl Tryd.func37 (by kernel_rfl) rfl #[.agg #[.int .i64 ((rd_T36 l0 a1).f0), .int .i64 ((rd_T36 l0 a1).f1), .int .i64 ((rd_T36 l0 a1).f2), .int .i64 ((rd_T36 l0 a1).f3), .int .i64 ((rd_T36 l0 a1).f4), .string ((rd_T36 l0 a1).f5), .string ((rd_T36 l0 a1).f6), .string ((rd_T36 l0 a1).f7), .slice A125_8 ((rd_T36 l0 a1).f8).length c125_8]] rfl (by (try simp only [List.map_toArray, List.map_cons, List.map_nil]); first | done | rfl | (simp only [List.length_drop, List.length_take]; rfl)) ?_; (with_reducible refine (op_Target.calls ((rd_T36 l0 a1).f0) ((rd_T36 l0 a1).f1) ((rd_T36 l0 a1).f2) ((rd_T36 l0 a1).f3) ((rd_T36 l0 a1).f4) ((rd_T36 l0 a1).f5) ((rd_T36 l0 a1).f6) ((rd_T36 l0 a1).f7) _ _ ((rd_T36 l0 a1).f8) t126 false _ ?side1 ?side2 ?side3 A5.out).mono ?_); (case side1 => repeat (first | exact HR125_8.out | (with_reducible refine Kd.C_alloc ?_ _) | (with_reducible refine Kd.C_drewN ?_ _) | (with_reducible refine Kd.C_drew ?_))); (case side2 => exact HC125_8.out); (case side3 => exact GOk.below HG.out (by repeat (first | (with_reducible first | exact HB.out | apply below_alloc | apply pw_below_drewN | apply below_drew1) | exact HB.out))); rintro e w8 ⟨rfl, hb⟩; refine ⟨_, rfl, ?_⟩; have n0_ := Aside0.mk (below_step (by repeat (first | (with_reducible first | exact HB.out | apply below_alloc | apply pw_below_drewN | apply below_drew1) | exact HB.out)) hb); clear HB; have HB := n0_; clear n0_; (try clear hb); (try clear hb2); (try clear hk); (try clear hi)))
        go_ret2
        exact ⟨by first | rfl | (simp [errW_none, errW_some] <;> rfl) | (simp [*, errW_none, errW_some] <;> rfl), by repeat (first | (with_reducible first | exact HB.out | apply below_alloc | apply pw_below_drewN | apply below_drew1) | exact HB.out)⟩
    · rw [if_neg c4] at H
      exact absurd H (by simp)
  · rw [if_neg c3] at H
    exact absurd H (by simp)

/-! ### flow_Blocks: function 21 -/
mutual
def flow_Blocks.l0 : Nat → List (S36) → List Bool → List (S36) → Int → Int → Option (List Int)
  | 0, _, _, _, _, _ => none
  | k + 1, x0, x3, x19, x20, x21 => if x21 < x20 then (if 0 ≤ x21 then (if x21 < (x19.length : Int) then ((flow_target.f x0 x21).bind fun bt152 => (if bt152.2 = true then (if 0 ≤ bt152.1 then (if bt152.1 < (x3.length : Int) then (flow_Blocks.j1 k x0 (x3.set (bt152.1 : Int).toNat true) x21 x19 x20 x21 ((rd_T36 x19 x21).f0) ((rd_T36 x19 x21).f1) ((rd_T36 x19 x21).f2) ((rd_T36 x19 x21).f3) ((rd_T36 x19 x21).f4) ((rd_T36 x19 x21).f5) ((rd_T36 x19 x21).f6) ((rd_T36 x19 x21).f7) ((rd_T36 x19 x21).f8)) else (none)) else (none)) else (flow_Blocks.j1 k x0 x3 x21 x19 x20 x21 ((rd_T36 x19 x21).f0) ((rd_T36 x19 x21).f1) ((rd_T36 x19 x21).f2) ((rd_T36 x19 x21).f3) ((rd_T36 x19 x21).f4) ((rd_T36 x19 x21).f5) ((rd_T36 x19 x21).f6) ((rd_T36 x19 x21).f7) ((rd_T36 x19 x21).f8)))) else (none)) else (none)) else (if 0 ≤ (x0.length : Int) then (if (x0.length : Int) ≤ (x3.length : Int) then ((some (x3.take ((x0.length : Int) : Int).toNat : List Bool)).bind fun y160 => (flow_Blocks.l1 k ([] : List Int) y160 (y160.length : Int) 0)) else (none)) else (none))
def flow_Blocks.j1 : Nat → List (S36) → List Bool → Int → List (S36) → Int → Int → Int → Int → Int → Int → Int → ByteArray → ByteArray → ByteArray → List Int → Option (List Int)
  | 0, _, _, _, _, _, _, _, _, _, _, _, _, _, _, _ => none
  | k + 1, x0, x3, x4, x19, x20, x21, x152000, x152001, x152002, x152003, x152004, x152005, x152006, x152007, x152008 => (op_Target.f x152000 x152001 x152002 x152003 x152004 x152005 x152006 x152007 x152008).bind fun bt155 => (if bt155.2 = true then (if 0 ≤ (wrap64 (x4 + 1)) then (if (wrap64 (x4 + 1)) < (x3.length : Int) then (flow_Blocks.l0 k x0 (x3.set ((wrap64 (x4 + 1)) : Int).toNat true) x19 x20 (wrap64 (x21 + 1))) else (none)) else (none)) else ((op_Falls.f x152000).bind fun t158 => (if t158 = true then (flow_Blocks.l0 k x0 x3 x19 x20 (wrap64 (x21 + 1))) else (if 0 ≤ (wrap64 (x4 + 1)) then (if (wrap64 (x4 + 1)) < (x3.length : Int) then (flow_Blocks.l0 k x0 (x3.set ((wrap64 (x4 + 1)) : Int).toNat true) x19 x20 (wrap64 (x21 + 1))) else (none)) else (none)))))
def flow_Blocks.l1 : Nat → List Int → List Bool → Int → Int → Option (List Int)
  | 0, _, _, _, _ => none
  | k + 1, x10, x56, x57, x58 => if x58 < x57 then (if 0 ≤ x58 then (if x58 < (x56.length : Int) then (if rdOf false x56 x58 = true then (if x10.length < 17592186044416 then (flow_Blocks.l1 k (x10 ++ [x58]) x56 x57 (wrap64 (x58 + 1))) else (none)) else (flow_Blocks.l1 k x10 x56 x57 (wrap64 (x58 + 1)))) else (none)) else (none)) else (some x10)
end
def flow_Blocks.f (k : Nat) (l0 : List (S36)) : Option (List Int) := if 0 ≤ (wrap64 ((l0.length : Int) + 1)) then (if (wrap64 ((l0.length : Int) + 1) : Int).toNat ≤ 281474976710656 then ((some (List.replicate (wrap64 ((l0.length : Int) + 1) : Int).toNat false : List Bool)).bind fun y146 => (if 0 < (y146.length : Int) then (flow_Blocks.l0 k l0 (y146.set (0 : Int).toNat true) l0 (l0.length : Int) 0) else (none))) else (none)) else (none)
theorem flow_Blocks.mono_l : ∀ k, (∀ y0 y1 y2 y3 y4, LeO (flow_Blocks.l0 k y0 y1 y2 y3 y4) (flow_Blocks.l0 (k + 1) y0 y1 y2 y3 y4)) ∧ (∀ y0 y1 y2 y3 y4 y5 y6 y7 y8 y9 y10 y11 y12 y13 y14, LeO (flow_Blocks.j1 k y0 y1 y2 y3 y4 y5 y6 y7 y8 y9 y10 y11 y12 y13 y14) (flow_Blocks.j1 (k + 1) y0 y1 y2 y3 y4 y5 y6 y7 y8 y9 y10 y11 y12 y13 y14)) ∧ (∀ y0 y1 y2 y3, LeO (flow_Blocks.l1 k y0 y1 y2 y3) (flow_Blocks.l1 (k + 1) y0 y1 y2 y3))
  | 0 => ⟨fun _ _ _ _ _ r h => by simp [flow_Blocks.l0] at h, fun _ _ _ _ _ _ _ _ _ _ _ _ _ _ _ r h => by simp [flow_Blocks.j1] at h, fun _ _ _ _ r h => by simp [flow_Blocks.l1] at h⟩
  | k + 1 => by
    obtain ⟨ih0, ih1, ih2⟩ := flow_Blocks.mono_l k
    refine ⟨?_, ?_, ?_⟩
    · intro y0 y1 y2 y3 y4
      unfold flow_Blocks.l0
      repeat' first
      | (with_reducible exact ih0 _ _ _ _ _)
      | (with_reducible exact ih1 _ _ _ _ _ _ _ _ _ _ _ _ _ _ _)
      | (with_reducible exact ih2 _ _ _ _)
      | (with_reducible exact LeO.refl _)
      | (with_reducible exact LeO.none _)
      | (with_reducible refine LeO.ite ?_ ?_)
      | (with_reducible refine LeO.bind ?_ (fun _ => ?_))
      | exact ih0 _ _ _ _ _
      | exact ih1 _ _ _ _ _ _ _ _ _ _ _ _ _ _ _
      | exact ih2 _ _ _ _
      | exact LeO.none _
      | refine LeO.ite ?_ ?_
      | refine LeO.bind ?_ (fun _ => ?_)
    · intro y0 y1 y2 y3 y4 y5 y6 y7 y8 y9 y10 y11 y12 y13 y14
      unfold flow_Blocks.j1
      repeat' first
      | (with_reducible exact ih0 _ _ _ _ _)
      | (with_reducible exact ih1 _ _ _ _ _ _ _ _ _ _ _ _ _ _ _)
      | (with_reducible exact ih2 _ _ _ _)
      | (with_reducible exact LeO.refl _)
      | (with_reducible exact LeO.none _)
      | (with_reducible refine LeO.ite ?_ ?_)
      | (with_reducible refine LeO.bind ?_ (fun _ => ?_))
      | exact ih0 _ _ _ _ _
      | exact ih1 _ _ _ _ _ _ _ _ _ _ _ _ _ _ _
      | exact ih2 _ _ _ _
      | exact LeO.none _
      | refine LeO.ite ?_ ?_
      | refine LeO.bind ?_ (fun _ => ?_)
    · intro y0 y1 y2 y3
      unfold flow_Blocks.l1
      repeat' first
      | (with_reducible exact ih0 _ _ _ _ _)
      | (with_reducible exact ih1 _ _ _ _ _ _ _ _ _ _ _ _ _ _ _)
      | (with_reducible exact ih2 _ _ _ _)
      | (with_reducible exact LeO.refl _)
      | (with_reducible exact LeO.none _)
      | (with_reducible refine LeO.ite ?_ ?_)
      | (with_reducible refine LeO.bind ?_ (fun _ => ?_))
      | exact ih0 _ _ _ _ _
      | exact ih1 _ _ _ _ _ _ _ _ _ _ _ _ _ _ _
      | exact ih2 _ _ _ _
      | exact LeO.none _
      | refine LeO.ite ?_ ?_
      | refine LeO.bind ?_ (fun _ => ?_)
theorem flow_Blocks.mono : ∀ a0 k, LeO (flow_Blocks.f k a0) (flow_Blocks.f (k + 1) a0) := by
  intro a0 k
  obtain ⟨ih0, ih1, ih2⟩ := flow_Blocks.mono_l k
  unfold flow_Blocks.f
  repeat' first
      | (with_reducible exact ih0 _ _ _ _ _)
      | (with_reducible exact ih1 _ _ _ _ _ _ _ _ _ _ _ _ _ _ _)
      | (with_reducible exact ih2 _ _ _ _)
      | (with_reducible exact LeO.refl _)
      | (with_reducible exact LeO.none _)
      | (with_reducible refine LeO.ite ?_ ?_)
      | (with_reducible refine LeO.bind ?_ (fun _ => ?_))
      | exact ih0 _ _ _ _ _
      | exact ih1 _ _ _ _ _ _ _ _ _ _ _ _ _ _ _
      | exact ih2 _ _ _ _
      | exact LeO.none _
      | refine LeO.ite ?_ ?_
      | refine LeO.bind ?_ (fun _ => ?_)
set_option maxHeartbeats 8000000 in
set_option maxRecDepth 100000 in
theorem flow_Blocks.calls (k : Nat) (A0 : Option Addr) (c0 : Nat) (l0 : List (S36)) (r : List Int) (w : World) (hr0 : Kd.C k36 w A0 l0.length l0) (hc0 : l0.length ≤ c0) (hG : GOk w) (h : flow_Blocks.f k l0 = some r) :
    Calls Tryd.prog 21 #[.slice A0 l0.length c0] w fun e w' => ∃ v0_ : Value, e = .returned (v0_) ∧ Kd.R (Kd.int .i64) 3 w' w.heap.size (fun _ => True) v0_ r ∧ Below w.heap.size w w' := by
  have hu36 := Tryd.underlying36
  have HR0 := Aside0.mk hr0
  have HC0 := Aside0.mk hc0
  clear hr0 hc0
  have HB := Aside0.mk (Below.refl w.heap.size w)
  have HG := Aside0.mk hG
  clear hG
  have H : (if 0 ≤ (wrap64 ((l0.length : Int) + 1)) then (if (wrap64 ((l0.length : Int) + 1) : Int).toNat ≤ 281474976710656 then ((some (List.replicate (wrap64 ((l0.length : Int) + 1) : Int).toNat false : List Bool)).bind fun y146 => (if 0 < (y146.length : Int) then (flow_Blocks.l0 k l0 (y146.set (0 : Int).toNat true) l0 (l0.length : Int) 0) else (none))) else (none)) else (none)) = some r := h
  clear h
  obtain ⟨ji2, hji2⟩ : ∃ j_ : Int, (wrap64 ((l0.length : Int) + 1)) = j_ := ⟨_, rfl⟩
  replace H : (if 0 ≤ (ji2) then (if (ji2 : Int).toNat ≤ 281474976710656 then ((some (List.replicate (ji2 : Int).toNat false : List Bool)).bind fun y146 => (if 0 < (y146.length : Int) then (flow_Blocks.l0 k l0 (y146.set (0 : Int).toNat true) l0 (l0.length : Int) 0) else (none))) else (none)) else (none)) = some r := by first | (rw [hji2] at H; exact H) | (simp only [hji2] at H ⊢; exact H)
  have hji2w : (IntKind.i64.wrap ((l0.length : Int) + 1)) = ji2 := (i64_w _).trans hji2
  by_cases c3 : 0 ≤ (ji2)
  · rw [if_pos c3] at H
    have c3b0 := eq_true c3
    have c3b1 : decide (0 ≤ (ji2)) = true := decide_eq_true c3
    clear c3
    by_cases c4 : (ji2 : Int).toNat ≤ 281474976710656
    · rw [if_pos c4] at H
      have c4b0 := eq_true c4
      have c4b1 : decide ((ji2 : Int).toNat ≤ 281474976710656) = true := decide_eq_true c4
      clear c4
      obtain ⟨y146, hy146⟩ : ∃ y_ : List Bool, y_ = (List.replicate (ji2 : Int).toNat false) := ⟨_, rfl⟩
      replace H : (if 0 < (y146.length : Int) then (flow_Blocks.l0 k l0 (y146.set (0 : Int).toNat true) l0 (l0.length : Int) 0) else (none)) = some r := by first | (rw [hy146]; with_reducible exact H) | (have H2_ := (Option.bind_some _ _).symm.trans H; rw [hy146]; with_reducible exact H2_) | (have H2_ := (Option.bind_some _ _).symm.trans H; with_reducible exact H2_) | with_reducible exact H | (rw [hy146]; exact H) | exact H
      have Ny146 := Aside0.mk hy146
      clear hy146
      by_cases c5 : 0 < (y146.length : Int)
      · rw [if_pos c5] at H
        have c5b0 : decide (0 < (y146.length : Int)) = true := decide_eq_true c5
        have c5b1 : decide (0 < y146.length) = true := decide_eq_true (by omega)
        clear c5
        obtain ⟨y149, hy149⟩ : ∃ y_ : List Bool, y_ = (y146.set (0 : Int).toNat true) := ⟨_, rfl⟩
        replace H : (flow_Blocks.l0 k l0 y149 l0 (l0.length : Int) 0) = some r := by first | (rw [hy149]; with_reducible exact H) | (have H2_ := (Option.bind_some _ _).symm.trans H; rw [hy149]; with_reducible exact H2_) | (have H2_ := (Option.bind_some _ _).symm.trans H; with_reducible exact H2_) | with_reducible exact H | (rw [hy149]; exact H) | exact H
        have Ny149 := Aside0.mk hy149
        clear hy149
        have H' := Aside0.mk H
        clear H
        go_enter Tryd.func21, Tryd.ntmps21
        go_wp2_with (first | ((with_reducible refine gate_dst (N := 16) rfl ?_); refine Kd.R_make Kd.bool _ 4 rfl (N := 16) rfl 50 _ _ rfl ji2 rfl rfl Tryd.underlying50 (.bool false) 1 info4 rfl (by decide) (by omega) false (ok := fun _ => True) (okp := fun _ => True) rfl (fun _ hk => hk) trivial (of_decide_eq_true (by first | (with_reducible assumption) | assumption)) (Nat.le_trans (Nat.mul_le_mul_right _ (of_decide_eq_true (by first | (with_reducible assumption) | assumption) : ji2.toNat ≤ 281474976710656)) (by omega)) (Below.refl _ _) (Nat.le_refl _) ?_; intro v147 w7 ho8 hb hg_ hnew_; clear hg_ hnew_; (first | rw [← Ny146.out] at ho8 | (simp only [Int.reduceToNat] at ho8; rw [← Ny146.out] at ho8)); have n0_ := Aside0.mk (Kd.R_lower ho8 (below_size (by repeat (first | (with_reducible first | exact HB.out | apply below_alloc | apply pw_below_drewN | apply below_drew1) | exact HB.out)))); have n1_ := Aside0.mk (below_step (by repeat (first | (with_reducible first | exact HB.out | apply below_alloc | apply pw_below_drewN | apply below_drew1) | exact HB.out)) hb); clear HB; have HO148 := n0_; have HB := n1_; clear n0_ n1_; clear hb ho8; have p6 : 0 ≤ (0 : Int) := (by omega); have q6 : (0 : Int) < ((y146.length : Int) : Int) := of_decide_eq_true (by first | (with_reducible assumption) | assumption); have qi6 : (0 < y146.length) = True := eq_true (by omega); obtain ⟨go6, co6, eo6, gb6, gl6, cl6, HG6⟩ := Kd.R_form HO148.out (by omega); (first | cases eo6 | (injection eo6 with ea_ en_ ec_; (first | subst ea_ | (injection ea_ with ea_; subst ea_)); subst ec_; clear en_)); have GB6 := Aside0.mk gb6; have GG6 := Aside0.mk HG6; clear gb6 gl6 HG6; obtain ⟨hx6_0, hf6_0⟩ := Kd.R_celln false HO148.out (0 : Int) p6 q6; (try rw [show ((0 : Int)).toNat = 0 from rfl] at hx6_0); (try simp only [Nat.reduceMul, Nat.zero_mul, Nat.zero_add, Nat.reduceAdd] at hx6_0); (try rw [show ((0 : Int)).toNat = 0 from rfl] at hf6_0); (try simp only [Nat.reduceMul, Nat.zero_mul, Nat.zero_add, Nat.reduceAdd] at hf6_0); replace p6 := eq_true p6; replace q6 := eq_true q6; obtain ⟨hy9_, hz9_⟩ := Kd.R_celln false HO148.out (0 : Int) (by omega) (of_decide_eq_true (by first | (with_reducible assumption) | assumption)); (try simp only [Int.reduceToNat, Int.toNat_zero, Int.toNat_ofNat, Nat.reduceMul, Nat.zero_mul, Nat.zero_add] at hy9_ hz9_); (try rw [show ((0 : Int)).toNat = 0 from rfl] at hy9_); (try rw [show ((0 : Int)).toNat = 0 from rfl] at hz9_); have HP9 := Kd.R_putg HO148.out (0 : Int) true) | ((with_reducible refine gate_store (t := 4) (p := 18) rfl ?_); refine store_event (t := 4) (p := 18) (v := ?vo_w10) (w1 := (w7.setCell ⟨go6, (0 : Int).toNat, none⟩ (.bool true))) ?hg ?ho ?hn ?hr ?_; (case ho => rfl); (case hg => rfl); (case hn => rfl); (case hr => first | (go_simp; done) | (go_simp; rfl)); intro w10 hw; have hg : w7.grownBy w10 (some go6) := (by rw [hw]; exact HP9.2); have hp_ : Kd.R Kd.bool 4 w10 w.heap.size (fun _ => True) (.slice (some ⟨go6, 0, none⟩) y146.length co6) y149 := (by rw [hw, Ny149.out]; exact HP9.1); clear HP9; have n0_ := Aside0.mk (hp_); have n1_ := Aside0.mk ((by rw [hw]; exact below_set (HB.out) GB6.out : Below w.heap.size w w10)); clear HO148; clear HB; have HO148 := n0_; have HB := n1_; clear n0_ n1_; clear hg hw hp_))
        (try generalize Value.pointer (some (Addr.add _ _)) = up_)
        go_loopg [21] k (fun kq v21 w' => ∃ (x3_1 : List Bool) (x21_1 : Int), v21 = .int .i64 x21_1 ∧ Aside0 (flow_Blocks.l0 kq l0 x3_1 l0 (l0.length : Int) x21_1 = some r) ∧ Aside0 (kq ≤ k) ∧ Aside0 (Kd.R Kd.bool 4 w' w.heap.size (fun _ => True) (.slice (some ⟨go6, 0, none⟩) y146.length co6) x3_1) ∧ Aside0 (Below w.heap.size w w'))
        case atStart => exact ⟨(y149), (0), (by first | rfl | (simp; done) | (simp [*]; done)), H', ⟨Nat.le_refl _⟩, ⟨by (with_reducible repeat (first | apply Kd.R_alloc | apply Kd.R_drewN | apply Kd.R_drew)); exact HO148.out⟩, ⟨by repeat (first | (with_reducible first | exact HB.out | apply below_alloc | apply pw_below_drewN | apply below_drew1) | exact HB.out)⟩⟩
        case round =>
          clear H'
          try clear c2
          try clear p2
          try clear c3
          try clear c3b0
          try clear c3b1
          try clear c4
          try clear c4b0
          try clear c4b1
          try clear c5
          try clear c5b0
          try clear c5b1
          try clear p6
          try clear q6
          try clear hx6
          try clear qi6
          try clear hf6
          try clear hx6_0
          try clear p6
          try clear q6
          obtain ⟨x3_1, x21_1, rfl, HA, HK1, HO_3, HB⟩ := hrel
          have hl3_1 := (Kd.R_reads' HO_3.out).1
          rw [hl3_1] at HO_3
          (try simp only [hl3_1])
          cases gk with
          | zero => exact absurd HA.out (by simp [flow_Blocks.l0])
          | succ k1 =>
            have H := HA.out
            clear HA
            simp only [flow_Blocks.l0] at H
            by_cases c11 : x21_1 < (l0.length : Int)
            · rw [if_pos c11] at H
              have c11b0 : decide (x21_1 < (l0.length : Int)) = true := decide_eq_true c11
              clear c11
              by_cases c12 : 0 ≤ x21_1
              · rw [if_pos c12] at H
                have c12b0 : decide (0 ≤ x21_1) = true := decide_eq_true c12
                clear c12
                by_cases c13 : x21_1 < (l0.length : Int)
                · rw [if_pos c13] at H
                  have c13b0 : decide (x21_1 < (l0.length : Int)) = true := decide_eq_true c13
                  clear c13
                  replace H := Option.bind_eq_some_iff.mp H
                  obtain ⟨⟨t152, t153⟩, A140, H⟩ := H
                  replace H : (if t153 = true then (if 0 ≤ t152 then (if t152 < (x3_1.length : Int) then (flow_Blocks.j1 k1 l0 (x3_1.set (t152 : Int).toNat true) x21_1 l0 (l0.length : Int) x21_1 ((rd_T36 l0 x21_1).f0) ((rd_T36 l0 x21_1).f1) ((rd_T36 l0 x21_1).f2) ((rd_T36 l0 x21_1).f3) ((rd_T36 l0 x21_1).f4) ((rd_T36 l0 x21_1).f5) ((rd_T36 l0 x21_1).f6) ((rd_T36 l0 x21_1).f7) ((rd_T36 l0 x21_1).f8)) else (none)) else (none)) else (flow_Blocks.j1 k1 l0 x3_1 x21_1 l0 (l0.length : Int) x21_1 ((rd_T36 l0 x21_1).f0) ((rd_T36 l0 x21_1).f1) ((rd_T36 l0 x21_1).f2) ((rd_T36 l0 x21_1).f3) ((rd_T36 l0 x21_1).f4) ((rd_T36 l0 x21_1).f5) ((rd_T36 l0 x21_1).f6) ((rd_T36 l0 x21_1).f7) ((rd_T36 l0 x21_1).f8))) = some r := H
                  have A14 := Aside0.mk A140
                  clear A140
                  have HC15 := Aside0.mk H
                  clear H
                  have p150 : 0 ≤ (x21_1 : Int) := of_decide_eq_true (by first | (with_reducible assumption) | assumption)
                  have q150 : x21_1 < (l0.length : Int) := of_decide_eq_true (by first | (with_reducible assumption) | assumption)
                  obtain ⟨ad150, A150_8, c150_8, e150, hx150_0, hx150_1, hx150_2, hx150_3, hx150_4, hx150_5, hx150_6, hx150_7, hx150_8, hl150_8, hi150_8⟩ := at_T36 HR0.out x21_1 p150 q150
                  cases e150
                  (try replace hx150_0 := (HB.out.cell (World.block_lt_of_cell? w _ hx150_0)).trans hx150_0)
                  (try replace hx150_1 := (HB.out.cell (World.block_lt_of_cell? w _ hx150_1)).trans hx150_1)
                  (try replace hx150_2 := (HB.out.cell (World.block_lt_of_cell? w _ hx150_2)).trans hx150_2)
                  (try replace hx150_3 := (HB.out.cell (World.block_lt_of_cell? w _ hx150_3)).trans hx150_3)
                  (try replace hx150_4 := (HB.out.cell (World.block_lt_of_cell? w _ hx150_4)).trans hx150_4)
                  (try replace hx150_5 := (HB.out.cell (World.block_lt_of_cell? w _ hx150_5)).trans hx150_5)
                  (try replace hx150_6 := (HB.out.cell (World.block_lt_of_cell? w _ hx150_6)).trans hx150_6)
                  (try replace hx150_7 := (HB.out.cell (World.block_lt_of_cell? w _ hx150_7)).trans hx150_7)
                  (try replace hx150_8 := (HB.out.cell (World.block_lt_of_cell? w _ hx150_8)).trans hx150_8)
                  have HR150_8 := Aside0.mk hi150_8
                  have HC150_8 := Aside0.mk hl150_8
                  clear hi150_8 hl150_8
                  replace p150 := eq_true p150
                  replace q150 := eq_true q150
                  go_upto_if 32 with (first | ((with_reducible refine gate_dst (N := 5) rfl ?_); refine box_event ?hg (N := 5) ?hd (cs := #[.int .i64 0, .int .i64 0, .int .i64 0, .int .i64 0, .int .i64 0, .string (⟨#[]⟩ : ByteArray), .string (⟨#[]⟩ : ByteArray), .string (⟨#[]⟩ : ByteArray), .slice none 0 0]) (t := 36) ?hr ?_; (case hd => rfl); (case hg => rfl); (case hr => first | (go_simp; done) | (go_simp; rfl)); intro gb151 hg w16 hbox hb; have n0_ := Aside0.mk (Kd.R_below (by (with_reducible repeat (first | apply Kd.R_alloc | apply Kd.R_drewN | apply Kd.R_drew)); exact HO_3.out) hb); have n1_ := Aside0.mk (below_step (by repeat (first | (with_reducible first | exact HB.out | apply below_alloc | apply pw_below_drewN | apply below_drew1) | exact HB.out)) hb); have n2_ := Aside0.mk (hbox); have n3_ := Aside0.mk ((by rw [hg]; exact (below_size (by repeat (first | (with_reducible first | exact HB.out | apply below_alloc | apply pw_below_drewN | apply below_drew1) | exact HB.out))) : w.heap.size ≤ gb151)); have n4_ := Aside0.mk ((by rw [hg]; exact (below_size (by repeat (first | (with_reducible first | exact HB.out | apply below_alloc | apply pw_below_drewN | apply below_drew1) | exact HB.out))) : w.heap.size ≤ gb151)); clear HO_3; clear HB; have HO_3 := n0_; have HB := n1_; have BK151 := n2_; have GW151 := n3_; have GE151 := n4_; clear n0_ n1_ n2_ n3_ n4_; clear hb hbox hg; have hcz17_0 : w16.cell? ⟨gb151, 0, none⟩ = some (.int .i64 0) := (blk_cell BK151.out 0).trans rfl; have hcz17_1 : w16.cell? ⟨gb151, 1, none⟩ = some (.int .i64 0) := (blk_cell BK151.out 1).trans rfl; have hcz17_2 : w16.cell? ⟨gb151, 2, none⟩ = some (.int .i64 0) := (blk_cell BK151.out 2).trans rfl; have hcz17_3 : w16.cell? ⟨gb151, 3, none⟩ = some (.int .i64 0) := (blk_cell BK151.out 3).trans rfl; have hcz17_4 : w16.cell? ⟨gb151, 4, none⟩ = some (.int .i64 0) := (blk_cell BK151.out 4).trans rfl; have hcz17_5 : w16.cell? ⟨gb151, 5, none⟩ = some (.string (⟨#[]⟩ : ByteArray)) := (blk_cell BK151.out 5).trans rfl; have hcz17_6 : w16.cell? ⟨gb151, 6, none⟩ = some (.string (⟨#[]⟩ : ByteArray)) := (blk_cell BK151.out 6).trans rfl; have hcz17_7 : w16.cell? ⟨gb151, 7, none⟩ = some (.string (⟨#[]⟩ : ByteArray)) := (blk_cell BK151.out 7).trans rfl; have hcz17_8 : w16.cell? ⟨gb151, 8, none⟩ = some (.slice none 0 0) := (blk_cell BK151.out 8).trans rfl; have hfz17_0 := blk_frozen BK151.out 0; have hfz17_1 := blk_frozen BK151.out 1; have hfz17_2 := blk_frozen BK151.out 2; have hfz17_3 := blk_frozen BK151.out 3; have hfz17_4 := blk_frozen BK151.out 4; have hfz17_5 := blk_frozen BK151.out 5; have hfz17_6 := blk_frozen BK151.out 6; have hfz17_7 := blk_frozen BK151.out 7; have hfz17_8 := blk_frozen BK151.out 8) | ((with_reducible refine gate_callee (f := 36) rfl ?_); refine goesL_ (some 29) rfl rfl Tryd.func36 (by kernel_rfl) rfl #[.slice (some ad150) l0.length c0, .int .i64 x21_1] rfl (by (try simp only [List.map_toArray, List.map_cons, List.map_nil]); first | done | rfl | (simp only [List.length_drop, List.length_take]; rfl)) ?_; (with_reducible refine (flow_target.calls _ _ l0 x21_1 t152 t153 _ ?side1 ?side2 ?side3 A14.out).mono ?_); (case side1 => exact Kd.C_below HR0.out (by repeat (first | (with_reducible first | exact HB.out | apply below_alloc | apply pw_below_drewN | apply below_drew1 | refine below_set ?_ GE151.out) | exact HB.out))); (case side2 => exact HC0.out); (case side3 => exact GOk.below HG.out (by repeat (first | (with_reducible first | exact HB.out | apply below_alloc | apply pw_below_drewN | apply below_drew1 | refine below_set ?_ GE151.out) | exact HB.out))); rintro e w18 ⟨rfl, hb⟩; refine ⟨_, rfl, ?_⟩; have n0_ := Aside0.mk (Kd.R_below (by (with_reducible repeat (first | apply Kd.R_alloc | apply Kd.R_drewN | apply Kd.R_drew)); exact (Kd.R_mono (Kd.R_far (p := ⟨gb151, 8, none⟩) (Kd.R_far (p := ⟨gb151, 7, none⟩) (Kd.R_far (p := ⟨gb151, 6, none⟩) (Kd.R_far (p := ⟨gb151, 5, none⟩) (Kd.R_far (p := ⟨gb151, 4, none⟩) (Kd.R_far (p := ⟨gb151, 3, none⟩) (Kd.R_far (p := ⟨gb151, 2, none⟩) (Kd.R_far (p := ⟨gb151, 1, none⟩) (Kd.R_far (p := ⟨gb151, 0, none⟩) (Kd.R_types HO_3.out BK151.out (by decide)) (fun _ hk => hk.2) (.int .i64 ((rd_T36 l0 x21_1).f0))) (fun _ hk => hk.2) (.int .i64 ((rd_T36 l0 x21_1).f1))) (fun _ hk => hk.2) (.int .i64 ((rd_T36 l0 x21_1).f2))) (fun _ hk => hk.2) (.int .i64 ((rd_T36 l0 x21_1).f3))) (fun _ hk => hk.2) (.int .i64 ((rd_T36 l0 x21_1).f4))) (fun _ hk => hk.2) (.string ((rd_T36 l0 x21_1).f5))) (fun _ hk => hk.2) (.string ((rd_T36 l0 x21_1).f6))) (fun _ hk => hk.2) (.string ((rd_T36 l0 x21_1).f7))) (fun _ hk => hk.2) (.slice A150_8 ((rd_T36 l0 x21_1).f8).length c150_8)) (fun _ h_ => h_.1))) hb); have n1_ := Aside0.mk (blk_below (g := gb151) (o := .cells #[.int .i64 ((rd_T36 l0 x21_1).f0), .int .i64 ((rd_T36 l0 x21_1).f1), .int .i64 ((rd_T36 l0 x21_1).f2), .int .i64 ((rd_T36 l0 x21_1).f3), .int .i64 ((rd_T36 l0 x21_1).f4), .string ((rd_T36 l0 x21_1).f5), .string ((rd_T36 l0 x21_1).f6), .string ((rd_T36 l0 x21_1).f7), .slice A150_8 ((rd_T36 l0 x21_1).f8).length c150_8] 36 (0, 0)) (by (with_reducible repeat (first | refine blk_drewN ?_ _ | refine blk_drew ?_ | refine blk_alloc ?_ _)); refine blk_put (cs := #[.int .i64 ((rd_T36 l0 x21_1).f0), .int .i64 ((rd_T36 l0 x21_1).f1), .int .i64 ((rd_T36 l0 x21_1).f2), .int .i64 ((rd_T36 l0 x21_1).f3), .int .i64 ((rd_T36 l0 x21_1).f4), .string ((rd_T36 l0 x21_1).f5), .string ((rd_T36 l0 x21_1).f6), .string ((rd_T36 l0 x21_1).f7), .slice none 0 0]) ?_ 8 _ rfl; (with_reducible repeat (first | refine blk_drewN ?_ _ | refine blk_drew ?_ | refine blk_alloc ?_ _)); refine blk_put (cs := #[.int .i64 ((rd_T36 l0 x21_1).f0), .int .i64 ((rd_T36 l0 x21_1).f1), .int .i64 ((rd_T36 l0 x21_1).f2), .int .i64 ((rd_T36 l0 x21_1).f3), .int .i64 ((rd_T36 l0 x21_1).f4), .string ((rd_T36 l0 x21_1).f5), .string ((rd_T36 l0 x21_1).f6), .string (⟨#[]⟩ : ByteArray), .slice none 0 0]) ?_ 7 _ rfl; (with_reducible repeat (first | refine blk_drewN ?_ _ | refine blk_drew ?_ | refine blk_alloc ?_ _)); refine blk_put (cs := #[.int .i64 ((rd_T36 l0 x21_1).f0), .int .i64 ((rd_T36 l0 x21_1).f1), .int .i64 ((rd_T36 l0 x21_1).f2), .int .i64 ((rd_T36 l0 x21_1).f3), .int .i64 ((rd_T36 l0 x21_1).f4), .string ((rd_T36 l0 x21_1).f5), .string (⟨#[]⟩ : ByteArray), .string (⟨#[]⟩ : ByteArray), .slice none 0 0]) ?_ 6 _ rfl; (with_reducible repeat (first | refine blk_drewN ?_ _ | refine blk_drew ?_ | refine blk_alloc ?_ _)); refine blk_put (cs := #[.int .i64 ((rd_T36 l0 x21_1).f0), .int .i64 ((rd_T36 l0 x21_1).f1), .int .i64 ((rd_T36 l0 x21_1).f2), .int .i64 ((rd_T36 l0 x21_1).f3), .int .i64 ((rd_T36 l0 x21_1).f4), .string (⟨#[]⟩ : ByteArray), .string (⟨#[]⟩ : ByteArray), .string (⟨#[]⟩ : ByteArray), .slice none 0 0]) ?_ 5 _ rfl; (with_reducible repeat (first | refine blk_drewN ?_ _ | refine blk_drew ?_ | refine blk_alloc ?_ _)); refine blk_put (cs := #[.int .i64 ((rd_T36 l0 x21_1).f0), .int .i64 ((rd_T36 l0 x21_1).f1), .int .i64 ((rd_T36 l0 x21_1).f2), .int .i64 ((rd_T36 l0 x21_1).f3), .int .i64 0, .string (⟨#[]⟩ : ByteArray), .string (⟨#[]⟩ : ByteArray), .string (⟨#[]⟩ : ByteArray), .slice none 0 0]) ?_ 4 _ rfl; (with_reducible repeat (first | refine blk_drewN ?_ _ | refine blk_drew ?_ | refine blk_alloc ?_ _)); refine blk_put (cs := #[.int .i64 ((rd_T36 l0 x21_1).f0), .int .i64 ((rd_T36 l0 x21_1).f1), .int .i64 ((rd_T36 l0 x21_1).f2), .int .i64 0, .int .i64 0, .string (⟨#[]⟩ : ByteArray), .string (⟨#[]⟩ : ByteArray), .string (⟨#[]⟩ : ByteArray), .slice none 0 0]) ?_ 3 _ rfl; (with_reducible repeat (first | refine blk_drewN ?_ _ | refine blk_drew ?_ | refine blk_alloc ?_ _)); refine blk_put (cs := #[.int .i64 ((rd_T36 l0 x21_1).f0), .int .i64 ((rd_T36 l0 x21_1).f1), .int .i64 0, .int .i64 0, .int .i64 0, .string (⟨#[]⟩ : ByteArray), .string (⟨#[]⟩ : ByteArray), .string (⟨#[]⟩ : ByteArray), .slice none 0 0]) ?_ 2 _ rfl; (with_reducible repeat (first | refine blk_drewN ?_ _ | refine blk_drew ?_ | refine blk_alloc ?_ _)); refine blk_put (cs := #[.int .i64 ((rd_T36 l0 x21_1).f0), .int .i64 0, .int .i64 0, .int .i64 0, .int .i64 0, .string (⟨#[]⟩ : ByteArray), .string (⟨#[]⟩ : ByteArray), .string (⟨#[]⟩ : ByteArray), .slice none 0 0]) ?_ 1 _ rfl; (with_reducible repeat (first | refine blk_drewN ?_ _ | refine blk_drew ?_ | refine blk_alloc ?_ _)); refine blk_put (cs := #[.int .i64 0, .int .i64 0, .int .i64 0, .int .i64 0, .int .i64 0, .string (⟨#[]⟩ : ByteArray), .string (⟨#[]⟩ : ByteArray), .string (⟨#[]⟩ : ByteArray), .slice none 0 0]) ?_ 0 _ rfl; (with_reducible repeat (first | refine blk_drewN ?_ _ | refine blk_drew ?_ | refine blk_alloc ?_ _)); exact BK151.out) hb); have n2_ := Aside0.mk (below_step (by repeat (first | (with_reducible first | exact HB.out | apply below_alloc | apply pw_below_drewN | apply below_drew1 | refine below_set ?_ GE151.out) | exact HB.out)) hb); clear HO_3; clear BK151; clear HB; have HO_3 := n0_; have BK151 := n1_; have HB := n2_; clear n0_ n1_ n2_; (try clear hb); (try clear hb2); (try clear hk); (try clear hi)))
                  (try simp only [Act.put, List.setIfInBounds_toArray, List.set_cons_zero, List.set_cons_succ])
                  go_cut [] (fun wc => ∃ (kq : Nat) (x3_14 : List Bool), Aside0 (flow_Blocks.j1 kq l0 x3_14 x21_1 l0 (l0.length : Int) x21_1 ((rd_T36 l0 x21_1).f0) ((rd_T36 l0 x21_1).f1) ((rd_T36 l0 x21_1).f2) ((rd_T36 l0 x21_1).f3) ((rd_T36 l0 x21_1).f4) ((rd_T36 l0 x21_1).f5) ((rd_T36 l0 x21_1).f6) ((rd_T36 l0 x21_1).f7) ((rd_T36 l0 x21_1).f8) = some r) ∧ Aside0 (kq ≤ k1) ∧ Aside0 (Kd.R Kd.bool 4 wc w.heap.size (fun _ => True) (.slice (some ⟨go6, 0, none⟩) x3_1.length co6) x3_14) ∧ Aside0 (wc.heap[gb151]? = some (.cells #[.int .i64 ((rd_T36 l0 x21_1).f0), .int .i64 ((rd_T36 l0 x21_1).f1), .int .i64 ((rd_T36 l0 x21_1).f2), .int .i64 ((rd_T36 l0 x21_1).f3), .int .i64 ((rd_T36 l0 x21_1).f4), .string ((rd_T36 l0 x21_1).f5), .string ((rd_T36 l0 x21_1).f6), .string ((rd_T36 l0 x21_1).f7), (.slice A150_8 ((rd_T36 l0 x21_1).f8).length c150_8)] 36 (0, 0))) ∧ Aside0 (Below w.heap.size w wc))
                  case first =>
                    have H := HC15.out
                    clear HC15
                    by_cases c19 : t153 = true
                    · subst c19
                      have H1 : (if 0 ≤ t152 then (if t152 < (x3_1.length : Int) then (flow_Blocks.j1 k1 l0 (x3_1.set (t152 : Int).toNat true) x21_1 l0 (l0.length : Int) x21_1 ((rd_T36 l0 x21_1).f0) ((rd_T36 l0 x21_1).f1) ((rd_T36 l0 x21_1).f2) ((rd_T36 l0 x21_1).f3) ((rd_T36 l0 x21_1).f4) ((rd_T36 l0 x21_1).f5) ((rd_T36 l0 x21_1).f6) ((rd_T36 l0 x21_1).f7) ((rd_T36 l0 x21_1).f8)) else (none)) else (none)) = some r := by rw [if_pos rfl] at H; exact H
                      clear H
                      have H := H1
                      clear H1
                      by_cases c20 : 0 ≤ t152
                      · rw [if_pos c20] at H
                        have c20b0 : decide (0 ≤ t152) = true := decide_eq_true c20
                        clear c20
                        (first | rw [c20b0] | (simp only [i64_w, i32_w]; rw [c20b0]) | rw [c20b1] | skip)
                        by_cases c21 : t152 < (x3_1.length : Int)
                        · rw [if_pos c21] at H
                          have c21b0 : decide (t152 < (x3_1.length : Int)) = true := decide_eq_true c21
                          clear c21
                          obtain ⟨y154, hy154⟩ : ∃ y_ : List Bool, y_ = (x3_1.set (t152 : Int).toNat true) := ⟨_, rfl⟩
                          replace H : (flow_Blocks.j1 k1 l0 y154 x21_1 l0 (l0.length : Int) x21_1 ((rd_T36 l0 x21_1).f0) ((rd_T36 l0 x21_1).f1) ((rd_T36 l0 x21_1).f2) ((rd_T36 l0 x21_1).f3) ((rd_T36 l0 x21_1).f4) ((rd_T36 l0 x21_1).f5) ((rd_T36 l0 x21_1).f6) ((rd_T36 l0 x21_1).f7) ((rd_T36 l0 x21_1).f8)) = some r := by first | (rw [hy154]; with_reducible exact H) | (have H2_ := (Option.bind_some _ _).symm.trans H; rw [hy154]; with_reducible exact H2_) | (have H2_ := (Option.bind_some _ _).symm.trans H; with_reducible exact H2_) | with_reducible exact H | (rw [hy154]; exact H) | exact H
                          have Ny154 := Aside0.mk hy154
                          clear hy154
                          have H' := Aside0.mk H
                          clear H
                          have p22 : 0 ≤ (t152 : Int) := of_decide_eq_true (by first | (with_reducible assumption) | assumption)
                          have q22 : (t152 : Int) < ((x3_1.length : Int) : Int) := of_decide_eq_true (by first | (with_reducible assumption) | assumption)
                          obtain ⟨hx22_0, hf22_0⟩ := Kd.R_celln false HO_3.out (t152 : Int) p22 q22
                          replace p22 := eq_true p22
                          replace q22 := eq_true q22
                          have HP23 := Kd.R_putg HO_3.out (t152 : Int) true
                          go_wp2_with (first | ((with_reducible refine gate_store (t := 4) (p := 35) rfl ?_); refine store_event (t := 4) (p := 35) (v := ?vo_w24) (w1 := (w18.setCell ⟨go6, (t152 : Int).toNat, none⟩ (.bool true))) ?hg ?ho ?hn ?hr ?_; (case ho => rfl); (case hg => rfl); (case hn => rfl); (case hr => first | (go_simp; done) | (go_simp; rfl)); intro w24 hw; have hg : w18.grownBy w24 (some go6) := (by rw [hw]; exact HP23.2); have hp_ : Kd.R Kd.bool 4 w24 w.heap.size (fun _ => True) (.slice (some ⟨go6, 0, none⟩) x3_1.length co6) y154 := (by rw [hw, Ny154.out]; exact HP23.1); clear HP23; have n0_ := Aside0.mk (hp_); have n1_ := Aside0.mk (blk_grown (g := gb151) (o := .cells #[.int .i64 ((rd_T36 l0 x21_1).f0), .int .i64 ((rd_T36 l0 x21_1).f1), .int .i64 ((rd_T36 l0 x21_1).f2), .int .i64 ((rd_T36 l0 x21_1).f3), .int .i64 ((rd_T36 l0 x21_1).f4), .string ((rd_T36 l0 x21_1).f5), .string ((rd_T36 l0 x21_1).f6), .string ((rd_T36 l0 x21_1).f7), .slice A150_8 ((rd_T36 l0 x21_1).f8).length c150_8] 36 (0, 0)) (by (with_reducible repeat (first | refine blk_drewN ?_ _ | refine blk_drew ?_ | refine blk_alloc ?_ _)); exact BK151.out) hg (Kd.R_ne HO_3.out BK151.out (by decide))); have n2_ := Aside0.mk ((by rw [hw]; exact below_set (HB.out) GB6.out : Below w.heap.size w w24)); clear HO_3; clear BK151; clear HB; have HO_3 := n0_; have BK151 := n1_; have HB := n2_; clear n0_ n1_ n2_; clear hg hw hp_))
                          go_meet
                          case rel => exact ⟨_, (y154), H', ⟨by have := HK1.out; first | omega | exact Nat.le_refl _⟩, ⟨by (try simp only [hl3_1]); (with_reducible repeat (first | apply Kd.R_alloc | apply Kd.R_drewN | apply Kd.R_drew)); exact HO_3.out⟩, ⟨by (try simp only [hl3_1]); (with_reducible repeat (first | refine blk_drewN ?_ _ | refine blk_drew ?_ | refine blk_alloc ?_ _)); exact BK151.out⟩, ⟨by repeat (first | (with_reducible first | exact HB.out | apply below_alloc | apply pw_below_drewN | apply below_drew1 | refine below_set ?_ GE151.out) | exact HB.out)⟩⟩
                        · rw [if_neg c21] at H
                          exact absurd H (by simp)
                      · rw [if_neg c20] at H
                        exact absurd H (by simp)
                    · replace c19 := Bool.eq_false_iff.mpr c19
                      subst c19
                      have H1 : (flow_Blocks.j1 k1 l0 x3_1 x21_1 l0 (l0.length : Int) x21_1 ((rd_T36 l0 x21_1).f0) ((rd_T36 l0 x21_1).f1) ((rd_T36 l0 x21_1).f2) ((rd_T36 l0 x21_1).f3) ((rd_T36 l0 x21_1).f4) ((rd_T36 l0 x21_1).f5) ((rd_T36 l0 x21_1).f6) ((rd_T36 l0 x21_1).f7) ((rd_T36 l0 x21_1).f8)) = some r := by rw [if_neg (show ¬ (false = true) by decide)] at H; exact H
                      clear H
                      have H := H1
                      clear H1
                      have H' := Aside0.mk H
                      clear H
                      go_wp2
                      go_meet
                      case rel => exact ⟨_, (x3_1), H', ⟨by have := HK1.out; first | omega | exact Nat.le_refl _⟩, ⟨by (try simp only [hl3_1]); (with_reducible repeat (first | apply Kd.R_alloc | apply Kd.R_drewN | apply Kd.R_drew)); exact HO_3.out⟩, ⟨by (try simp only [hl3_1]); (with_reducible repeat (first | refine blk_drewN ?_ _ | refine blk_drew ?_ | refine blk_alloc ?_ _)); exact BK151.out⟩, ⟨by repeat (first | (with_reducible first | exact HB.out | apply below_alloc | apply pw_below_drewN | apply below_drew1 | refine below_set ?_ GE151.out) | exact HB.out)⟩⟩
                  case rest =>
                    clear HC15
                    try clear c1
                    try clear p1
                    try clear q1
                    try clear hx1
                    try clear c2
                    try clear p2
                    try clear q2
                    try clear hx2
                    try clear hf2
                    try clear c3
                    try clear c3b0
                    try clear c3b1
                    try clear c4
                    try clear c4b0
                    try clear c4b1
                    try clear c5
                    try clear c5b0
                    try clear c5b1
                    try clear p6
                    try clear q6
                    try clear hx6
                    try clear qi6
                    try clear hf6
                    try clear c11
                    try clear c11b0
                    try clear c12
                    try clear c12b0
                    try clear c13
                    try clear c13b0
                    try clear c15
                    try clear p15
                    try clear q15
                    try clear hx15
                    try clear c19
                    try clear c20
                    try clear c20b0
                    try clear c21
                    try clear c21b0
                    try clear p22
                    try clear q22
                    try clear hx22
                    try clear hf22
                    try clear hcz17_0
                    try clear hcz17_1
                    try clear hcz17_2
                    try clear hcz17_3
                    try clear hcz17_4
                    try clear hcz17_5
                    try clear hcz17_6
                    try clear hcz17_7
                    try clear hcz17_8
                    try clear hfz17_0
                    try clear hfz17_1
                    try clear hfz17_2
                    try clear hfz17_3
                    try clear hfz17_4
                    try clear hfz17_5
                    try clear hfz17_6
                    try clear hfz17_7
                    try clear hfz17_8
                    try clear hx150_0
                    try clear hx150_1
                    try clear hx150_2
                    try clear hx150_3
                    try clear hx150_4
                    try clear hx150_5
                    try clear hx150_6
                    try clear hx150_7
                    try clear hx150_8
                    try clear hx22_0
                    try clear hx6_0
                    try clear p150
                    try clear p2
                    try clear p22
                    try clear p6
                    try clear q150
                    try clear q22
                    try clear q6
                    obtain ⟨kq, x3_14, HA, HJ14, HO_3, BK151, HB⟩ := hcut
                    have hl3_14 := (Kd.R_reads' HO_3.out).1
                    rw [hl3_14] at HO_3
                    (try simp only [hl3_14])
                    (try simp only [hl3_14] at BK151)
                    cases kq with
                    | zero => exact absurd HA.out (by simp [flow_Blocks.j1])
                    | succ kj14 =>
                      have H := HA.out
                      clear HA
                      simp only [flow_Blocks.j1] at H
                      replace H := Option.bind_eq_some_iff.mp H
                      obtain ⟨⟨t155, t156⟩, A250, H⟩ := H
                      replace H : (if t156 = true then (if 0 ≤ (wrap64 (x21_1 + 1)) then (if (wrap64 (x21_1 + 1)) < (x3_14.length : Int) then (flow_Blocks.l0 kj14 l0 (x3_14.set ((wrap64 (x21_1 + 1)) : Int).toNat true) l0 (l0.length : Int) (wrap64 (x21_1 + 1))) else (none)) else (none)) else ((op_Falls.f ((rd_T36 l0 x21_1).f0)).bind fun t158 => (if t158 = true then (flow_Blocks.l0 kj14 l0 x3_14 l0 (l0.length : Int) (wrap64 (x21_1 + 1))) else (if 0 ≤ (wrap64 (x21_1 + 1)) then (if (wrap64 (x21_1 + 1)) < (x3_14.length : Int) then (flow_Blocks.l0 kj14 l0 (x3_14.set ((wrap64 (x21_1 + 1)) : Int).toNat true) l0 (l0.length : Int) (wrap64 (x21_1 + 1))) else (none)) else (none))))) = some r := H
                      have A25 := Aside0.mk A250
                      clear A250
                      by_cases c26 : t156 = true
                      · subst c26
                        have H1 : (if 0 ≤ (wrap64 (x21_1 + 1)) then (if (wrap64 (x21_1 + 1)) < (x3_14.length : Int) then (flow_Blocks.l0 kj14 l0 (x3_14.set ((wrap64 (x21_1 + 1)) : Int).toNat true) l0 (l0.length : Int) (wrap64 (x21_1 + 1))) else (none)) else (none)) = some r := by rw [if_pos rfl] at H; exact H
                        clear H
                        have H := H1
                        clear H1
                        obtain ⟨ji27, hji27⟩ : ∃ j_ : Int, (wrap64 (x21_1 + 1)) = j_ := ⟨_, rfl⟩
                        replace H : (if 0 ≤ (ji27) then (if (ji27) < (x3_14.length : Int) then (flow_Blocks.l0 kj14 l0 (x3_14.set ((ji27) : Int).toNat true) l0 (l0.length : Int) ji27) else (none)) else (none)) = some r := by first | (rw [hji27] at H; exact H) | (simp only [hji27] at H ⊢; exact H)
                        (try rw [hji27] at A25)
                        have hji27w : (IntKind.i64.wrap (x21_1 + 1)) = ji27 := (i64_w _).trans hji27
                        by_cases c28 : 0 ≤ (ji27)
                        · rw [if_pos c28] at H
                          have c28b0 : decide (0 ≤ (ji27)) = true := decide_eq_true c28
                          clear c28
                          by_cases c29 : (ji27) < (x3_14.length : Int)
                          · rw [if_pos c29] at H
                            have c29b0 : decide ((ji27) < (x3_14.length : Int)) = true := decide_eq_true c29
                            clear c29
                            obtain ⟨y157, hy157⟩ : ∃ y_ : List Bool, y_ = (x3_14.set ((ji27) : Int).toNat true) := ⟨_, rfl⟩
                            replace H : (flow_Blocks.l0 kj14 l0 y157 l0 (l0.length : Int) ji27) = some r := by first | (rw [hy157]; with_reducible exact H) | (have H2_ := (Option.bind_some _ _).symm.trans H; rw [hy157]; with_reducible exact H2_) | (have H2_ := (Option.bind_some _ _).symm.trans H; with_reducible exact H2_) | with_reducible exact H | (rw [hy157]; exact H) | exact H
                            have Ny157 := Aside0.mk hy157
                            clear hy157
                            have H' := Aside0.mk H
                            clear H
                            have hcz31_0 : wc.cell? ⟨gb151, 0, none⟩ = some (.int .i64 ((rd_T36 l0 x21_1).f0)) := (blk_cell BK151.out 0).trans rfl
                            have hcz31_1 : wc.cell? ⟨gb151, 1, none⟩ = some (.int .i64 ((rd_T36 l0 x21_1).f1)) := (blk_cell BK151.out 1).trans rfl
                            have hcz31_2 : wc.cell? ⟨gb151, 2, none⟩ = some (.int .i64 ((rd_T36 l0 x21_1).f2)) := (blk_cell BK151.out 2).trans rfl
                            have hcz31_3 : wc.cell? ⟨gb151, 3, none⟩ = some (.int .i64 ((rd_T36 l0 x21_1).f3)) := (blk_cell BK151.out 3).trans rfl
                            have hcz31_4 : wc.cell? ⟨gb151, 4, none⟩ = some (.int .i64 ((rd_T36 l0 x21_1).f4)) := (blk_cell BK151.out 4).trans rfl
                            have hcz31_5 : wc.cell? ⟨gb151, 5, none⟩ = some (.string ((rd_T36 l0 x21_1).f5)) := (blk_cell BK151.out 5).trans rfl
                            have hcz31_6 : wc.cell? ⟨gb151, 6, none⟩ = some (.string ((rd_T36 l0 x21_1).f6)) := (blk_cell BK151.out 6).trans rfl
                            have hcz31_7 : wc.cell? ⟨gb151, 7, none⟩ = some (.string ((rd_T36 l0 x21_1).f7)) := (blk_cell BK151.out 7).trans rfl
                            have hcz31_8 : wc.cell? ⟨gb151, 8, none⟩ = some (.slice A150_8 ((rd_T36 l0 x21_1).f8).length c150_8) := (blk_cell BK151.out 8).trans rfl
                            have hfz31_0 := blk_frozen BK151.out 0
                            have hfz31_1 := blk_frozen BK151.out 1
                            have hfz31_2 := blk_frozen BK151.out 2
                            have hfz31_3 := blk_frozen BK151.out 3
                            have hfz31_4 := blk_frozen BK151.out 4
                            have hfz31_5 := blk_frozen BK151.out 5
                            have hfz31_6 := blk_frozen BK151.out 6
                            have hfz31_7 := blk_frozen BK151.out 7
                            have hfz31_8 := blk_frozen BK151.out 8
                            go_wp2_with (first | ((with_reducible refine gate_callee (f := 37) rfl ?_); refine goesL_ (some 38) rfl rfl Tryd.func37 (by kernel_rfl) rfl #[.agg #[.int .i64 ((rd_T36 l0 x21_1).f0), .int .i64 ((rd_T36 l0 x21_1).f1), .int .i64 ((rd_T36 l0 x21_1).f2), .int .i64 ((rd_T36 l0 x21_1).f3), .int .i64 ((rd_T36 l0 x21_1).f4), .string ((rd_T36 l0 x21_1).f5), .string ((rd_T36 l0 x21_1).f6), .string ((rd_T36 l0 x21_1).f7), .slice A150_8 ((rd_T36 l0 x21_1).f8).length c150_8]] rfl (by (try simp only [List.map_toArray, List.map_cons, List.map_nil]); first | done | rfl | (simp only [List.length_drop, List.length_take]; rfl)) ?_; (with_reducible refine (op_Target.calls ((rd_T36 l0 x21_1).f0) ((rd_T36 l0 x21_1).f1) ((rd_T36 l0 x21_1).f2) ((rd_T36 l0 x21_1).f3) ((rd_T36 l0 x21_1).f4) ((rd_T36 l0 x21_1).f5) ((rd_T36 l0 x21_1).f6) ((rd_T36 l0 x21_1).f7) _ _ ((rd_T36 l0 x21_1).f8) t155 true _ ?side1 ?side2 ?side3 A25.out).mono ?_); (case side1 => repeat (first | exact (Kd.C_below HR150_8.out HB.out) | (with_reducible refine Kd.C_alloc ?_ _) | (with_reducible refine Kd.C_drewN ?_ _) | (with_reducible refine Kd.C_drew ?_))); (case side2 => exact HC150_8.out); (case side3 => exact GOk.below HG.out (by repeat (first | (with_reducible first | exact HB.out | apply below_alloc | apply pw_below_drewN | apply below_drew1 | refine below_set ?_ GE151.out) | exact HB.out))); rintro e w32 ⟨rfl, hb⟩; refine ⟨_, rfl, ?_⟩; have n0_ := Aside0.mk (Kd.R_below (by (with_reducible repeat (first | apply Kd.R_alloc | apply Kd.R_drewN | apply Kd.R_drew)); exact HO_3.out) hb); have n1_ := Aside0.mk (blk_below (g := gb151) (o := .cells #[.int .i64 ((rd_T36 l0 x21_1).f0), .int .i64 ((rd_T36 l0 x21_1).f1), .int .i64 ((rd_T36 l0 x21_1).f2), .int .i64 ((rd_T36 l0 x21_1).f3), .int .i64 ((rd_T36 l0 x21_1).f4), .string ((rd_T36 l0 x21_1).f5), .string ((rd_T36 l0 x21_1).f6), .string ((rd_T36 l0 x21_1).f7), .slice A150_8 ((rd_T36 l0 x21_1).f8).length c150_8] 36 (0, 0)) (by (with_reducible repeat (first | refine blk_drewN ?_ _ | refine blk_drew ?_ | refine blk_alloc ?_ _)); exact BK151.out) hb); have n2_ := Aside0.mk (below_step (by repeat (first | (with_reducible first | exact HB.out | apply below_alloc | apply pw_below_drewN | apply below_drew1 | refine below_set ?_ GE151.out) | exact HB.out)) hb); clear HO_3; clear BK151; clear HB; have HO_3 := n0_; have BK151 := n1_; have HB := n2_; clear n0_ n1_ n2_; (try clear hb); (try clear hb2); (try clear hk); (try clear hi); have p30 : 0 ≤ ((ji27) : Int) := of_decide_eq_true (by first | (with_reducible assumption) | assumption); have q30 : ((ji27) : Int) < ((x3_14.length : Int) : Int) := of_decide_eq_true (by first | (with_reducible assumption) | assumption); obtain ⟨hx30_0, hf30_0⟩ := Kd.R_celln false HO_3.out ((ji27) : Int) p30 q30; replace p30 := eq_true p30; replace q30 := eq_true q30; obtain ⟨hy33_, hz33_⟩ := Kd.R_celln false HO_3.out ((ji27) : Int) (of_decide_eq_true (by first | (with_reducible assumption) | assumption)) (of_decide_eq_true (by first | (with_reducible assumption) | assumption)); have HP33 := Kd.R_putg HO_3.out ((ji27) : Int) true) | ((with_reducible refine gate_store (t := 4) (p := 51) rfl ?_); refine store_event (t := 4) (p := 51) (v := ?vo_w34) (w1 := (w32.setCell ⟨go6, ((ji27) : Int).toNat, none⟩ (.bool true))) ?hg ?ho ?hn ?hr ?_; (case ho => rfl); (case hg => rfl); (case hn => rfl); (case hr => first | (go_simp; done) | (go_simp; rfl)); intro w34 hw; have hg : w32.grownBy w34 (some go6) := (by rw [hw]; exact HP33.2); have hp_ : Kd.R Kd.bool 4 w34 w.heap.size (fun _ => True) (.slice (some ⟨go6, 0, none⟩) x3_14.length co6) y157 := (by rw [hw, Ny157.out]; exact HP33.1); clear HP33; have n0_ := Aside0.mk (hp_); have n1_ := Aside0.mk (blk_grown (g := gb151) (o := .cells #[.int .i64 ((rd_T36 l0 x21_1).f0), .int .i64 ((rd_T36 l0 x21_1).f1), .int .i64 ((rd_T36 l0 x21_1).f2), .int .i64 ((rd_T36 l0 x21_1).f3), .int .i64 ((rd_T36 l0 x21_1).f4), .string ((rd_T36 l0 x21_1).f5), .string ((rd_T36 l0 x21_1).f6), .string ((rd_T36 l0 x21_1).f7), .slice A150_8 ((rd_T36 l0 x21_1).f8).length c150_8] 36 (0, 0)) (by (with_reducible repeat (first | refine blk_drewN ?_ _ | refine blk_drew ?_ | refine blk_alloc ?_ _)); exact BK151.out) hg (Kd.R_ne HO_3.out BK151.out (by decide))); have n2_ := Aside0.mk ((by rw [hw]; exact below_set (HB.out) GB6.out : Below w.heap.size w w34)); clear HO_3; clear BK151; clear HB; have HO_3 := n0_; have BK151 := n1_; have HB := n2_; clear n0_ n1_ n2_; clear hg hw hp_))
                            (try simp only [← hl3_1, ← hl3_14])
                            go_roundg kj14
                            case measure => have := HK1.out; have := HJ14.out; omega
                            case rel => exact ⟨(y157), (ji27), (by first | rfl | (simp; done) | (simp only [← hji27] <;> (first | rfl | simp)) | (simp [*]; done)), H', ⟨by have := HK1.out; have := HJ14.out; omega⟩, ⟨by (try simp only [hl3_1]); (try simp only [hl3_14]); (with_reducible repeat (first | apply Kd.R_alloc | apply Kd.R_drewN | apply Kd.R_drew)); exact HO_3.out⟩, ⟨by repeat (first | (with_reducible first | exact HB.out | apply below_alloc | apply pw_below_drewN | apply below_drew1 | refine below_set ?_ GE151.out) | exact HB.out)⟩⟩
                          · rw [if_neg c29] at H
                            exact absurd H (by simp)
                        · rw [if_neg c28] at H
                          exact absurd H (by simp)
                      · replace c26 := Bool.eq_false_iff.mpr c26
                        subst c26
                        have H1 : ((op_Falls.f ((rd_T36 l0 x21_1).f0)).bind fun t158 => (if t158 = true then (flow_Blocks.l0 kj14 l0 x3_14 l0 (l0.length : Int) (wrap64 (x21_1 + 1))) else (if 0 ≤ (wrap64 (x21_1 + 1)) then (if (wrap64 (x21_1 + 1)) < (x3_14.length : Int) then (flow_Blocks.l0 kj14 l0 (x3_14.set ((wrap64 (x21_1 + 1)) : Int).toNat true) l0 (l0.length : Int) (wrap64 (x21_1 + 1))) else (none)) else (none)))) = some r := by rw [if_neg (show ¬ (false = true) by decide)] at H; exact H
                        clear H
                        have H := H1
                        clear H1
                        replace H := Option.bind_eq_some_iff.mp H
                        obtain ⟨t158, A350, H⟩ := H
                        replace H : (if t158 = true then (flow_Blocks.l0 kj14 l0 x3_14 l0 (l0.length : Int) (wrap64 (x21_1 + 1))) else (if 0 ≤ (wrap64 (x21_1 + 1)) then (if (wrap64 (x21_1 + 1)) < (x3_14.length : Int) then (flow_Blocks.l0 kj14 l0 (x3_14.set ((wrap64 (x21_1 + 1)) : Int).toNat true) l0 (l0.length : Int) (wrap64 (x21_1 + 1))) else (none)) else (none))) = some r := H
                        have A35 := Aside0.mk A350
                        clear A350
                        by_cases c36 : t158 = true
                        · subst c36
                          have H1 : (flow_Blocks.l0 kj14 l0 x3_14 l0 (l0.length : Int) (wrap64 (x21_1 + 1))) = some r := by rw [if_pos rfl] at H; exact H
                          clear H
                          have H := H1
                          clear H1
                          have H' := Aside0.mk H
                          clear H
                          have hcz37_0 : wc.cell? ⟨gb151, 0, none⟩ = some (.int .i64 ((rd_T36 l0 x21_1).f0)) := (blk_cell BK151.out 0).trans rfl
                          have hcz37_1 : wc.cell? ⟨gb151, 1, none⟩ = some (.int .i64 ((rd_T36 l0 x21_1).f1)) := (blk_cell BK151.out 1).trans rfl
                          have hcz37_2 : wc.cell? ⟨gb151, 2, none⟩ = some (.int .i64 ((rd_T36 l0 x21_1).f2)) := (blk_cell BK151.out 2).trans rfl
                          have hcz37_3 : wc.cell? ⟨gb151, 3, none⟩ = some (.int .i64 ((rd_T36 l0 x21_1).f3)) := (blk_cell BK151.out 3).trans rfl
                          have hcz37_4 : wc.cell? ⟨gb151, 4, none⟩ = some (.int .i64 ((rd_T36 l0 x21_1).f4)) := (blk_cell BK151.out 4).trans rfl
                          have hcz37_5 : wc.cell? ⟨gb151, 5, none⟩ = some (.string ((rd_T36 l0 x21_1).f5)) := (blk_cell BK151.out 5).trans rfl
                          have hcz37_6 : wc.cell? ⟨gb151, 6, none⟩ = some (.string ((rd_T36 l0 x21_1).f6)) := (blk_cell BK151.out 6).trans rfl
                          have hcz37_7 : wc.cell? ⟨gb151, 7, none⟩ = some (.string ((rd_T36 l0 x21_1).f7)) := (blk_cell BK151.out 7).trans rfl
                          have hcz37_8 : wc.cell? ⟨gb151, 8, none⟩ = some (.slice A150_8 ((rd_T36 l0 x21_1).f8).length c150_8) := (blk_cell BK151.out 8).trans rfl
                          have hfz37_0 := blk_frozen BK151.out 0
                          have hfz37_1 := blk_frozen BK151.out 1
                          have hfz37_2 := blk_frozen BK151.out 2
                          have hfz37_3 := blk_frozen BK151.out 3
                          have hfz37_4 := blk_frozen BK151.out 4
                          have hfz37_5 := blk_frozen BK151.out 5
                          have hfz37_6 := blk_frozen BK151.out 6
                          have hfz37_7 := blk_frozen BK151.out 7
                          have hfz37_8 := blk_frozen BK151.out 8
                          go_wp2_with (first | ((with_reducible refine gate_callee (f := 37) rfl ?_); refine goesL_ (some 38) rfl rfl Tryd.func37 (by kernel_rfl) rfl #[.agg #[.int .i64 ((rd_T36 l0 x21_1).f0), .int .i64 ((rd_T36 l0 x21_1).f1), .int .i64 ((rd_T36 l0 x21_1).f2), .int .i64 ((rd_T36 l0 x21_1).f3), .int .i64 ((rd_T36 l0 x21_1).f4), .string ((rd_T36 l0 x21_1).f5), .string ((rd_T36 l0 x21_1).f6), .string ((rd_T36 l0 x21_1).f7), .slice A150_8 ((rd_T36 l0 x21_1).f8).length c150_8]] rfl (by (try simp only [List.map_toArray, List.map_cons, List.map_nil]); first | done | rfl | (simp only [List.length_drop, List.length_take]; rfl)) ?_; (with_reducible refine (op_Target.calls ((rd_T36 l0 x21_1).f0) ((rd_T36 l0 x21_1).f1) ((rd_T36 l0 x21_1).f2) ((rd_T36 l0 x21_1).f3) ((rd_T36 l0 x21_1).f4) ((rd_T36 l0 x21_1).f5) ((rd_T36 l0 x21_1).f6) ((rd_T36 l0 x21_1).f7) _ _ ((rd_T36 l0 x21_1).f8) t155 false _ ?side1 ?side2 ?side3 A25.out).mono ?_); (case side1 => repeat (first | exact (Kd.C_below HR150_8.out HB.out) | (with_reducible refine Kd.C_alloc ?_ _) | (with_reducible refine Kd.C_drewN ?_ _) | (with_reducible refine Kd.C_drew ?_))); (case side2 => exact HC150_8.out); (case side3 => exact GOk.below HG.out (by repeat (first | (with_reducible first | exact HB.out | apply below_alloc | apply pw_below_drewN | apply below_drew1 | refine below_set ?_ GE151.out) | exact HB.out))); rintro e w38 ⟨rfl, hb⟩; refine ⟨_, rfl, ?_⟩; have n0_ := Aside0.mk (Kd.R_below (by (with_reducible repeat (first | apply Kd.R_alloc | apply Kd.R_drewN | apply Kd.R_drew)); exact HO_3.out) hb); have n1_ := Aside0.mk (blk_below (g := gb151) (o := .cells #[.int .i64 ((rd_T36 l0 x21_1).f0), .int .i64 ((rd_T36 l0 x21_1).f1), .int .i64 ((rd_T36 l0 x21_1).f2), .int .i64 ((rd_T36 l0 x21_1).f3), .int .i64 ((rd_T36 l0 x21_1).f4), .string ((rd_T36 l0 x21_1).f5), .string ((rd_T36 l0 x21_1).f6), .string ((rd_T36 l0 x21_1).f7), .slice A150_8 ((rd_T36 l0 x21_1).f8).length c150_8] 36 (0, 0)) (by (with_reducible repeat (first | refine blk_drewN ?_ _ | refine blk_drew ?_ | refine blk_alloc ?_ _)); exact BK151.out) hb); have n2_ := Aside0.mk (below_step (by repeat (first | (with_reducible first | exact HB.out | apply below_alloc | apply pw_below_drewN | apply below_drew1 | refine below_set ?_ GE151.out) | exact HB.out)) hb); clear HO_3; clear BK151; clear HB; have HO_3 := n0_; have BK151 := n1_; have HB := n2_; clear n0_ n1_ n2_; (try clear hb); (try clear hb2); (try clear hk); (try clear hi); have hcz39_0 : w38.cell? ⟨gb151, 0, none⟩ = some (.int .i64 ((rd_T36 l0 x21_1).f0)) := (blk_cell BK151.out 0).trans rfl; have hcz39_1 : w38.cell? ⟨gb151, 1, none⟩ = some (.int .i64 ((rd_T36 l0 x21_1).f1)) := (blk_cell BK151.out 1).trans rfl; have hcz39_2 : w38.cell? ⟨gb151, 2, none⟩ = some (.int .i64 ((rd_T36 l0 x21_1).f2)) := (blk_cell BK151.out 2).trans rfl; have hcz39_3 : w38.cell? ⟨gb151, 3, none⟩ = some (.int .i64 ((rd_T36 l0 x21_1).f3)) := (blk_cell BK151.out 3).trans rfl; have hcz39_4 : w38.cell? ⟨gb151, 4, none⟩ = some (.int .i64 ((rd_T36 l0 x21_1).f4)) := (blk_cell BK151.out 4).trans rfl; have hcz39_5 : w38.cell? ⟨gb151, 5, none⟩ = some (.string ((rd_T36 l0 x21_1).f5)) := (blk_cell BK151.out 5).trans rfl; have hcz39_6 : w38.cell? ⟨gb151, 6, none⟩ = some (.string ((rd_T36 l0 x21_1).f6)) := (blk_cell BK151.out 6).trans rfl; have hcz39_7 : w38.cell? ⟨gb151, 7, none⟩ = some (.string ((rd_T36 l0 x21_1).f7)) := (blk_cell BK151.out 7).trans rfl; have hcz39_8 : w38.cell? ⟨gb151, 8, none⟩ = some (.slice A150_8 ((rd_T36 l0 x21_1).f8).length c150_8) := (blk_cell BK151.out 8).trans rfl; have hfz39_0 := blk_frozen BK151.out 0; have hfz39_1 := blk_frozen BK151.out 1; have hfz39_2 := blk_frozen BK151.out 2; have hfz39_3 := blk_frozen BK151.out 3; have hfz39_4 := blk_frozen BK151.out 4; have hfz39_5 := blk_frozen BK151.out 5; have hfz39_6 := blk_frozen BK151.out 6; have hfz39_7 := blk_frozen BK151.out 7; have hfz39_8 := blk_frozen BK151.out 8) | (go_at_call 25; (with_reducible refine (op_Falls.calls ((rd_T36 l0 x21_1).f0) true _ A35.out).mono ?_); rintro e w' ⟨rfl, ⟨nd, rfl⟩⟩))
                          (try simp only [← hl3_1, ← hl3_14])
                          go_roundg kj14
                          case measure => have := HK1.out; have := HJ14.out; omega
                          case rel => exact ⟨(x3_14), (wrap64 (x21_1 + 1)), (by first | rfl | (simp; done) | (simp [*]; done)), H', ⟨by have := HK1.out; have := HJ14.out; omega⟩, ⟨by (try simp only [hl3_1]); (try simp only [hl3_14]); (with_reducible repeat (first | apply Kd.R_alloc | apply Kd.R_drewN | apply Kd.R_drew)); exact HO_3.out⟩, ⟨by repeat (first | (with_reducible first | exact HB.out | apply below_alloc | apply pw_below_drewN | apply below_drew1 | refine below_set ?_ GE151.out) | exact HB.out)⟩⟩
                        · replace c36 := Bool.eq_false_iff.mpr c36
                          subst c36
                          have H1 : (if 0 ≤ (wrap64 (x21_1 + 1)) then (if (wrap64 (x21_1 + 1)) < (x3_14.length : Int) then (flow_Blocks.l0 kj14 l0 (x3_14.set ((wrap64 (x21_1 + 1)) : Int).toNat true) l0 (l0.length : Int) (wrap64 (x21_1 + 1))) else (none)) else (none)) = some r := by rw [if_neg (show ¬ (false = true) by decide)] at H; exact H
                          clear H
                          have H := H1
                          clear H1
                          obtain ⟨ji40, hji40⟩ : ∃ j_ : Int, (wrap64 (x21_1 + 1)) = j_ := ⟨_, rfl⟩
                          replace H : (if 0 ≤ (ji40) then (if (ji40) < (x3_14.length : Int) then (flow_Blocks.l0 kj14 l0 (x3_14.set ((ji40) : Int).toNat true) l0 (l0.length : Int) ji40) else (none)) else (none)) = some r := by first | (rw [hji40] at H; exact H) | (simp only [hji40] at H ⊢; exact H)
                          (try rw [hji40] at A25)
                          (try rw [hji40] at A35)
                          have hji40w : (IntKind.i64.wrap (x21_1 + 1)) = ji40 := (i64_w _).trans hji40
                          by_cases c41 : 0 ≤ (ji40)
                          · rw [if_pos c41] at H
                            have c41b0 : decide (0 ≤ (ji40)) = true := decide_eq_true c41
                            clear c41
                            by_cases c42 : (ji40) < (x3_14.length : Int)
                            · rw [if_pos c42] at H
                              have c42b0 : decide ((ji40) < (x3_14.length : Int)) = true := decide_eq_true c42
                              clear c42
                              obtain ⟨y159, hy159⟩ : ∃ y_ : List Bool, y_ = (x3_14.set ((ji40) : Int).toNat true) := ⟨_, rfl⟩
                              replace H : (flow_Blocks.l0 kj14 l0 y159 l0 (l0.length : Int) ji40) = some r := by first | (rw [hy159]; with_reducible exact H) | (have H2_ := (Option.bind_some _ _).symm.trans H; rw [hy159]; with_reducible exact H2_) | (have H2_ := (Option.bind_some _ _).symm.trans H; with_reducible exact H2_) | with_reducible exact H | (rw [hy159]; exact H) | exact H
                              have Ny159 := Aside0.mk hy159
                              clear hy159
                              have H' := Aside0.mk H
                              clear H
                              have hcz44_0 : wc.cell? ⟨gb151, 0, none⟩ = some (.int .i64 ((rd_T36 l0 x21_1).f0)) := (blk_cell BK151.out 0).trans rfl
                              have hcz44_1 : wc.cell? ⟨gb151, 1, none⟩ = some (.int .i64 ((rd_T36 l0 x21_1).f1)) := (blk_cell BK151.out 1).trans rfl
                              have hcz44_2 : wc.cell? ⟨gb151, 2, none⟩ = some (.int .i64 ((rd_T36 l0 x21_1).f2)) := (blk_cell BK151.out 2).trans rfl
                              have hcz44_3 : wc.cell? ⟨gb151, 3, none⟩ = some (.int .i64 ((rd_T36 l0 x21_1).f3)) := (blk_cell BK151.out 3).trans rfl
                              have hcz44_4 : wc.cell? ⟨gb151, 4, none⟩ = some (.int .i64 ((rd_T36 l0 x21_1).f4)) := (blk_cell BK151.out 4).trans rfl
                              have hcz44_5 : wc.cell? ⟨gb151, 5, none⟩ = some (.string ((rd_T36 l0 x21_1).f5)) := (blk_cell BK151.out 5).trans rfl
                              have hcz44_6 : wc.cell? ⟨gb151, 6, none⟩ = some (.string ((rd_T36 l0 x21_1).f6)) := (blk_cell BK151.out 6).trans rfl
                              have hcz44_7 : wc.cell? ⟨gb151, 7, none⟩ = some (.string ((rd_T36 l0 x21_1).f7)) := (blk_cell BK151.out 7).trans rfl
                              have hcz44_8 : wc.cell? ⟨gb151, 8, none⟩ = some (.slice A150_8 ((rd_T36 l0 x21_1).f8).length c150_8) := (blk_cell BK151.out 8).trans rfl
                              have hfz44_0 := blk_frozen BK151.out 0
                              have hfz44_1 := blk_frozen BK151.out 1
                              have hfz44_2 := blk_frozen BK151.out 2
                              have hfz44_3 := blk_frozen BK151.out 3
                              have hfz44_4 := blk_frozen BK151.out 4
                              have hfz44_5 := blk_frozen BK151.out 5
                              have hfz44_6 := blk_frozen BK151.out 6
                              have hfz44_7 := blk_frozen BK151.out 7
                              have hfz44_8 := blk_frozen BK151.out 8
                              go_wp2_with (first | ((with_reducible refine gate_callee (f := 37) rfl ?_); refine goesL_ (some 38) rfl rfl Tryd.func37 (by kernel_rfl) rfl #[.agg #[.int .i64 ((rd_T36 l0 x21_1).f0), .int .i64 ((rd_T36 l0 x21_1).f1), .int .i64 ((rd_T36 l0 x21_1).f2), .int .i64 ((rd_T36 l0 x21_1).f3), .int .i64 ((rd_T36 l0 x21_1).f4), .string ((rd_T36 l0 x21_1).f5), .string ((rd_T36 l0 x21_1).f6), .string ((rd_T36 l0 x21_1).f7), .slice A150_8 ((rd_T36 l0 x21_1).f8).length c150_8]] rfl (by (try simp only [List.map_toArray, List.map_cons, List.map_nil]); first | done | rfl | (simp only [List.length_drop, List.length_take]; rfl)) ?_; (with_reducible refine (op_Target.calls ((rd_T36 l0 x21_1).f0) ((rd_T36 l0 x21_1).f1) ((rd_T36 l0 x21_1).f2) ((rd_T36 l0 x21_1).f3) ((rd_T36 l0 x21_1).f4) ((rd_T36 l0 x21_1).f5) ((rd_T36 l0 x21_1).f6) ((rd_T36 l0 x21_1).f7) _ _ ((rd_T36 l0 x21_1).f8) t155 false _ ?side1 ?side2 ?side3 A25.out).mono ?_); (case side1 => repeat (first | exact (Kd.C_below HR150_8.out HB.out) | (with_reducible refine Kd.C_alloc ?_ _) | (with_reducible refine Kd.C_drewN ?_ _) | (with_reducible refine Kd.C_drew ?_))); (case side2 => exact HC150_8.out); (case side3 => exact GOk.below HG.out (by repeat (first | (with_reducible first | exact HB.out | apply below_alloc | apply pw_below_drewN | apply below_drew1 | refine below_set ?_ GE151.out) | exact HB.out))); rintro e w45 ⟨rfl, hb⟩; refine ⟨_, rfl, ?_⟩; have n0_ := Aside0.mk (Kd.R_below (by (with_reducible repeat (first | apply Kd.R_alloc | apply Kd.R_drewN | apply Kd.R_drew)); exact HO_3.out) hb); have n1_ := Aside0.mk (blk_below (g := gb151) (o := .cells #[.int .i64 ((rd_T36 l0 x21_1).f0), .int .i64 ((rd_T36 l0 x21_1).f1), .int .i64 ((rd_T36 l0 x21_1).f2), .int .i64 ((rd_T36 l0 x21_1).f3), .int .i64 ((rd_T36 l0 x21_1).f4), .string ((rd_T36 l0 x21_1).f5), .string ((rd_T36 l0 x21_1).f6), .string ((rd_T36 l0 x21_1).f7), .slice A150_8 ((rd_T36 l0 x21_1).f8).length c150_8] 36 (0, 0)) (by (with_reducible repeat (first | refine blk_drewN ?_ _ | refine blk_drew ?_ | refine blk_alloc ?_ _)); exact BK151.out) hb); have n2_ := Aside0.mk (below_step (by repeat (first | (with_reducible first | exact HB.out | apply below_alloc | apply pw_below_drewN | apply below_drew1 | refine below_set ?_ GE151.out) | exact HB.out)) hb); clear HO_3; clear BK151; clear HB; have HO_3 := n0_; have BK151 := n1_; have HB := n2_; clear n0_ n1_ n2_; (try clear hb); (try clear hb2); (try clear hk); (try clear hi); have hcz46_0 : w45.cell? ⟨gb151, 0, none⟩ = some (.int .i64 ((rd_T36 l0 x21_1).f0)) := (blk_cell BK151.out 0).trans rfl; have hcz46_1 : w45.cell? ⟨gb151, 1, none⟩ = some (.int .i64 ((rd_T36 l0 x21_1).f1)) := (blk_cell BK151.out 1).trans rfl; have hcz46_2 : w45.cell? ⟨gb151, 2, none⟩ = some (.int .i64 ((rd_T36 l0 x21_1).f2)) := (blk_cell BK151.out 2).trans rfl; have hcz46_3 : w45.cell? ⟨gb151, 3, none⟩ = some (.int .i64 ((rd_T36 l0 x21_1).f3)) := (blk_cell BK151.out 3).trans rfl; have hcz46_4 : w45.cell? ⟨gb151, 4, none⟩ = some (.int .i64 ((rd_T36 l0 x21_1).f4)) := (blk_cell BK151.out 4).trans rfl; have hcz46_5 : w45.cell? ⟨gb151, 5, none⟩ = some (.string ((rd_T36 l0 x21_1).f5)) := (blk_cell BK151.out 5).trans rfl; have hcz46_6 : w45.cell? ⟨gb151, 6, none⟩ = some (.string ((rd_T36 l0 x21_1).f6)) := (blk_cell BK151.out 6).trans rfl; have hcz46_7 : w45.cell? ⟨gb151, 7, none⟩ = some (.string ((rd_T36 l0 x21_1).f7)) := (blk_cell BK151.out 7).trans rfl; have hcz46_8 : w45.cell? ⟨gb151, 8, none⟩ = some (.slice A150_8 ((rd_T36 l0 x21_1).f8).length c150_8) := (blk_cell BK151.out 8).trans rfl; have hfz46_0 := blk_frozen BK151.out 0; have hfz46_1 := blk_frozen BK151.out 1; have hfz46_2 := blk_frozen BK151.out 2; have hfz46_3 := blk_frozen BK151.out 3; have hfz46_4 := blk_frozen BK151.out 4; have hfz46_5 := blk_frozen BK151.out 5; have hfz46_6 := blk_frozen BK151.out 6; have hfz46_7 := blk_frozen BK151.out 7; have hfz46_8 := blk_frozen BK151.out 8) | (go_at_call 25; (with_reducible refine (op_Falls.calls ((rd_T36 l0 x21_1).f0) false _ A35.out).mono ?_); rintro e w' ⟨rfl, ⟨nd, rfl⟩⟩; (try (rw [drewN_self w45]; generalize hq_ : World.drewN w45 _ = w45; have n0_ : Aside0 (Kd.R Kd.bool 4 w45 w.heap.size (fun _ => True) (.slice (some ⟨go6, 0, none⟩) x3_14.length co6) x3_14) := ⟨by rw [← hq_]; exact (by (with_reducible repeat (first | apply Kd.R_alloc | apply Kd.R_drewN | apply Kd.R_drew)); exact HO_3.out)⟩; have n1_ : Aside0 (w45.heap[gb151]? = some (.cells #[.int .i64 ((rd_T36 l0 x21_1).f0), .int .i64 ((rd_T36 l0 x21_1).f1), .int .i64 ((rd_T36 l0 x21_1).f2), .int .i64 ((rd_T36 l0 x21_1).f3), .int .i64 ((rd_T36 l0 x21_1).f4), .string ((rd_T36 l0 x21_1).f5), .string ((rd_T36 l0 x21_1).f6), .string ((rd_T36 l0 x21_1).f7), .slice A150_8 ((rd_T36 l0 x21_1).f8).length c150_8] 36 (0, 0))) := ⟨by rw [← hq_]; exact (by (with_reducible repeat (first | refine blk_drewN ?_ _ | refine blk_drew ?_ | refine blk_alloc ?_ _)); exact BK151.out)⟩; have n2_ : Aside0 (Below w.heap.size w w45) := ⟨by rw [← hq_]; exact (by repeat (first | (with_reducible first | exact HB.out | apply below_alloc | apply pw_below_drewN | apply below_drew1 | refine below_set ?_ GE151.out) | exact HB.out))⟩; clear HO_3 BK151 HB hq_; have HO_3 := n0_; have BK151 := n1_; have HB := n2_; clear n0_ n1_ n2_)); have p43 : 0 ≤ ((ji40) : Int) := of_decide_eq_true (by first | (with_reducible assumption) | assumption); have q43 : ((ji40) : Int) < ((x3_14.length : Int) : Int) := of_decide_eq_true (by first | (with_reducible assumption) | assumption); obtain ⟨hx43_0, hf43_0⟩ := Kd.R_celln false HO_3.out ((ji40) : Int) p43 q43; replace p43 := eq_true p43; replace q43 := eq_true q43; obtain ⟨hy47_, hz47_⟩ := Kd.R_celln false HO_3.out ((ji40) : Int) (of_decide_eq_true (by first | (with_reducible assumption) | assumption)) (of_decide_eq_true (by first | (with_reducible assumption) | assumption)); have HP47 := Kd.R_putg HO_3.out ((ji40) : Int) true) | ((with_reducible refine gate_store (t := 4) (p := 51) rfl ?_); refine store_event (t := 4) (p := 51) (v := ?vo_w48) (w1 := (w45.setCell ⟨go6, ((ji40) : Int).toNat, none⟩ (.bool true))) ?hg ?ho ?hn ?hr ?_; (case ho => rfl); (case hg => rfl); (case hn => rfl); (case hr => first | (go_simp; done) | (go_simp; rfl)); intro w48 hw; have hg : w45.grownBy w48 (some go6) := (by rw [hw]; exact HP47.2); have hp_ : Kd.R Kd.bool 4 w48 w.heap.size (fun _ => True) (.slice (some ⟨go6, 0, none⟩) x3_14.length co6) y159 := (by rw [hw, Ny159.out]; exact HP47.1); clear HP47; have n0_ := Aside0.mk (hp_); have n1_ := Aside0.mk (blk_grown (g := gb151) (o := .cells #[.int .i64 ((rd_T36 l0 x21_1).f0), .int .i64 ((rd_T36 l0 x21_1).f1), .int .i64 ((rd_T36 l0 x21_1).f2), .int .i64 ((rd_T36 l0 x21_1).f3), .int .i64 ((rd_T36 l0 x21_1).f4), .string ((rd_T36 l0 x21_1).f5), .string ((rd_T36 l0 x21_1).f6), .string ((rd_T36 l0 x21_1).f7), .slice A150_8 ((rd_T36 l0 x21_1).f8).length c150_8] 36 (0, 0)) (by (with_reducible repeat (first | refine blk_drewN ?_ _ | refine blk_drew ?_ | refine blk_alloc ?_ _)); exact BK151.out) hg (Kd.R_ne HO_3.out BK151.out (by decide))); have n2_ := Aside0.mk ((by rw [hw]; exact below_set (HB.out) GB6.out : Below w.heap.size w w48)); clear HO_3; clear BK151; clear HB; have HO_3 := n0_; have BK151 := n1_; have HB := n2_; clear n0_ n1_ n2_; clear hg hw hp_))
                              (try simp only [← hl3_1, ← hl3_14])
                              go_roundg kj14
                              case measure => have := HK1.out; have := HJ14.out; omega
                              case rel => exact ⟨(y159), (ji40), (by first | rfl | (simp; done) | (simp only [← hji40] <;> (first | rfl | simp)) | (simp [*]; done)), H', ⟨by have := HK1.out; have := HJ14.out; omega⟩, ⟨by (try simp only [hl3_1]); (try simp only [hl3_14]); (with_reducible repeat (first | apply Kd.R_alloc | apply Kd.R_drewN | apply Kd.R_drew)); exact HO_3.out⟩, ⟨by repeat (first | (with_reducible first | exact HB.out | apply below_alloc | apply pw_below_drewN | apply below_drew1 | refine below_set ?_ GE151.out) | exact HB.out)⟩⟩
                            · rw [if_neg c42] at H
                              exact absurd H (by simp)
                          · rw [if_neg c41] at H
                            exact absurd H (by simp)
                · rw [if_neg c13] at H
                  exact absurd H (by simp)
              · rw [if_neg c12] at H
                exact absurd H (by simp)
            · rw [if_neg c11] at H
              have c11b0 : decide (x21_1 < (l0.length : Int)) = false := decide_eq_false c11
              clear c11
              by_cases c49 : 0 ≤ (l0.length : Int)
              · rw [if_pos c49] at H
                have c49b0 := eq_true c49
                have c49b1 : decide (0 ≤ (l0.length : Int)) = true := decide_eq_true c49
                clear c49
                by_cases c50 : (l0.length : Int) ≤ (x3_1.length : Int)
                · rw [if_pos c50] at H
                  have c50b0 := eq_true c50
                  have c50b1 : decide ((l0.length : Int) ≤ (x3_1.length : Int)) = true := decide_eq_true c50
                  clear c50
                  obtain ⟨y160, hy160⟩ : ∃ y_ : List Bool, y_ = (x3_1.take ((l0.length : Int) : Int).toNat) := ⟨_, rfl⟩
                  replace H : (flow_Blocks.l1 k1 ([] : List Int) y160 (y160.length : Int) 0) = some r := by first | (rw [hy160]; with_reducible exact H) | (have H2_ := (Option.bind_some _ _).symm.trans H; rw [hy160]; with_reducible exact H2_) | (have H2_ := (Option.bind_some _ _).symm.trans H; with_reducible exact H2_) | with_reducible exact H | (rw [hy160]; exact H) | exact H
                  have Ny160 := Aside0.mk hy160
                  clear hy160
                  have H' := Aside0.mk H
                  clear H
                  have q51 : ((l0.length : Int) : Int) ≤ ((x3_1.length : Int) : Int) := of_decide_eq_true (by first | (with_reducible assumption) | assumption)
                  obtain ⟨i051, hi051, _, hsz51, _⟩ := info_parts info4
                  have hroom51 : x3_1.length ≤ co6 := (Kd.R_reads' HO_3.out).2.1
                  have hC51 : Kd.F Kd.bool _ _ (some ⟨go6, 0, none⟩) x3_1.length x3_1 := (Kd.V_at (base := w.heap.size) (Kd.R_V HO_3.out)).2.2
                  have hcut51 := cut_to (P := Tryd.prog) 50 4 .i64 Tryd.underlying50 hi051 (some ⟨go6, 0, none⟩) x3_1.length co6 (l0.length : Int) (of_decide_eq_true (by first | (with_reducible assumption) | assumption)) q51 hroom51
                  have hr51 := Kd.F_take (m := ((l0.length : Int) : Int).toNat) hC51 (by omega)
                  have hy51 : y160.length = ((l0.length : Int) : Int).toNat := (by rw [Ny160.out, List.length_take]; omega)
                  rw [← Ny160.out] at hr51
                  rw [← hy51] at hcut51
                  have HO164 := Aside0.mk (show Kd.V Kd.bool 4 _ w.heap.size _ (.slice (some ⟨go6, 0, none⟩) y160.length co6) y160 from Kd.V_mk (by omega) hr51)
                  have HC164 := Aside0.mk (show y160.length ≤ co6 from by omega)
                  clear hr51 hC51 hroom51 hi051 hsz51
                  have KY51 := Aside0.mk hy51
                  clear hy51
                  replace q51 := eq_true q51
                  go_wp2
                  (try generalize Value.pointer (some (Addr.add _ _)) = up_)
                  go_loopg [10, 58] k1 (fun kq v10 v58 w' => ∃ (x10_2 : List Int) (x58_2 : Int), v58 = .int .i64 x58_2 ∧ Aside0 (flow_Blocks.l1 kq x10_2 y160 (y160.length : Int) x58_2 = some r) ∧ Aside0 (kq ≤ k1) ∧ Aside0 (Kd.R (Kd.int .i64) 3 w' w.heap.size (fun _ => True) v10 x10_2) ∧ Aside0 (Kd.V Kd.bool 4 w' w.heap.size (fun k_ => some k_ ≠ (v10 : Value).ownBlock) (.slice (some ⟨go6, 0, none⟩) y160.length co6) y160) ∧ Aside0 (Below w.heap.size w w'))
                  case atStart => exact ⟨(([] : List Int)), (0), (by first | rfl | (simp; done) | (simp [*]; done)), H', ⟨Nat.le_refl _⟩, ⟨by (try simp only [hl3_1]); first | exact Kd.R_nil _ _ _ _ _ | exact Kd.N_nil _ _ _ _ _ | exact Kd.V_nil _ _ _ _ _ | exact Kd.Q_nil _ _ _ _ _ | exact Kd.S_nil _ _ _ _ _⟩, ⟨by (try simp only [hl3_1]); (with_reducible repeat (first | apply Kd.V_alloc | apply Kd.V_drewN | apply Kd.V_drew)); exact Kd.V_mono HO164.out (fun _ hk => (by simp [Value.ownBlock]))⟩, ⟨by repeat (first | (with_reducible first | exact HB.out | apply below_alloc | apply pw_below_drewN | apply below_drew1) | exact HB.out)⟩⟩
                  case round =>
                    clear H'
                    try clear c1
                    try clear p1
                    try clear q1
                    try clear hx1
                    try clear c2
                    try clear p2
                    try clear q2
                    try clear hx2
                    try clear hf2
                    try clear c3
                    try clear c3b0
                    try clear c3b1
                    try clear p3
                    try clear q3
                    try clear hx3
                    try clear hf3
                    try clear c4
                    try clear c4b0
                    try clear c4b1
                    try clear p4
                    try clear q4
                    try clear hx4
                    try clear hf4
                    try clear c5
                    try clear c5b0
                    try clear c5b1
                    try clear q5
                    try clear p6
                    try clear q6
                    try clear hx6
                    try clear qi6
                    try clear hf6
                    try clear c11
                    try clear c11b0
                    try clear c12
                    try clear c12b0
                    try clear c13
                    try clear c13b0
                    try clear c15
                    try clear p15
                    try clear q15
                    try clear hx15
                    try clear c19
                    try clear c20
                    try clear c20b0
                    try clear c21
                    try clear c21b0
                    try clear p22
                    try clear q22
                    try clear hx22
                    try clear hf22
                    try clear c26
                    try clear c28
                    try clear c28b0
                    try clear c29
                    try clear c29b0
                    try clear p30
                    try clear q30
                    try clear hx30
                    try clear hf30
                    try clear c36
                    try clear c37
                    try clear c41
                    try clear c41b0
                    try clear c42
                    try clear c42b0
                    try clear p43
                    try clear q43
                    try clear hx43
                    try clear hf43
                    try clear c49
                    try clear c49b0
                    try clear c49b1
                    try clear c50
                    try clear c50b0
                    try clear c50b1
                    try clear q51
                    try clear hcz17_0
                    try clear hcz17_1
                    try clear hcz17_2
                    try clear hcz17_3
                    try clear hcz17_4
                    try clear hcz17_5
                    try clear hcz17_6
                    try clear hcz17_7
                    try clear hcz17_8
                    try clear hcz31_0
                    try clear hcz31_1
                    try clear hcz31_2
                    try clear hcz31_3
                    try clear hcz31_4
                    try clear hcz31_5
                    try clear hcz31_6
                    try clear hcz31_7
                    try clear hcz31_8
                    try clear hcz37_0
                    try clear hcz37_1
                    try clear hcz37_2
                    try clear hcz37_3
                    try clear hcz37_4
                    try clear hcz37_5
                    try clear hcz37_6
                    try clear hcz37_7
                    try clear hcz37_8
                    try clear hcz39_0
                    try clear hcz39_1
                    try clear hcz39_2
                    try clear hcz39_3
                    try clear hcz39_4
                    try clear hcz39_5
                    try clear hcz39_6
                    try clear hcz39_7
                    try clear hcz39_8
                    try clear hcz44_0
                    try clear hcz44_1
                    try clear hcz44_2
                    try clear hcz44_3
                    try clear hcz44_4
                    try clear hcz44_5
                    try clear hcz44_6
                    try clear hcz44_7
                    try clear hcz44_8
                    try clear hcz46_0
                    try clear hcz46_1
                    try clear hcz46_2
                    try clear hcz46_3
                    try clear hcz46_4
                    try clear hcz46_5
                    try clear hcz46_6
                    try clear hcz46_7
                    try clear hcz46_8
                    try clear hfz17_0
                    try clear hfz17_1
                    try clear hfz17_2
                    try clear hfz17_3
                    try clear hfz17_4
                    try clear hfz17_5
                    try clear hfz17_6
                    try clear hfz17_7
                    try clear hfz17_8
                    try clear hfz31_0
                    try clear hfz31_1
                    try clear hfz31_2
                    try clear hfz31_3
                    try clear hfz31_4
                    try clear hfz31_5
                    try clear hfz31_6
                    try clear hfz31_7
                    try clear hfz31_8
                    try clear hfz37_0
                    try clear hfz37_1
                    try clear hfz37_2
                    try clear hfz37_3
                    try clear hfz37_4
                    try clear hfz37_5
                    try clear hfz37_6
                    try clear hfz37_7
                    try clear hfz37_8
                    try clear hfz39_0
                    try clear hfz39_1
                    try clear hfz39_2
                    try clear hfz39_3
                    try clear hfz39_4
                    try clear hfz39_5
                    try clear hfz39_6
                    try clear hfz39_7
                    try clear hfz39_8
                    try clear hfz44_0
                    try clear hfz44_1
                    try clear hfz44_2
                    try clear hfz44_3
                    try clear hfz44_4
                    try clear hfz44_5
                    try clear hfz44_6
                    try clear hfz44_7
                    try clear hfz44_8
                    try clear hfz46_0
                    try clear hfz46_1
                    try clear hfz46_2
                    try clear hfz46_3
                    try clear hfz46_4
                    try clear hfz46_5
                    try clear hfz46_6
                    try clear hfz46_7
                    try clear hfz46_8
                    try clear hx150_0
                    try clear hx150_1
                    try clear hx150_2
                    try clear hx150_3
                    try clear hx150_4
                    try clear hx150_5
                    try clear hx150_6
                    try clear hx150_7
                    try clear hx150_8
                    try clear hx22_0
                    try clear hx30_0
                    try clear hx43_0
                    try clear hx6_0
                    try clear p1
                    try clear p15
                    try clear p150
                    try clear p2
                    try clear p22
                    try clear p30
                    try clear p43
                    try clear p6
                    try clear q1
                    try clear q15
                    try clear q150
                    try clear q2
                    try clear q22
                    try clear q30
                    try clear q43
                    try clear q51
                    try clear q6
                    obtain ⟨x10_2, x58_2, rfl, HA, HK2, HO_10, HO_56, HB⟩ := hrel
                    cases gk with
                    | zero => exact absurd HA.out (by simp [flow_Blocks.l1])
                    | succ k2 =>
                      have H := HA.out
                      clear HA
                      simp only [flow_Blocks.l1] at H
                      by_cases c52 : x58_2 < (y160.length : Int)
                      · rw [if_pos c52] at H
                        have c52b0 : decide (x58_2 < (y160.length : Int)) = true := decide_eq_true c52
                        clear c52
                        by_cases c53 : 0 ≤ x58_2
                        · rw [if_pos c53] at H
                          have c53b0 : decide (0 ≤ x58_2) = true := decide_eq_true c53
                          clear c53
                          by_cases c54 : x58_2 < (y160.length : Int)
                          · rw [if_pos c54] at H
                            have c54b0 : decide (x58_2 < (y160.length : Int)) = true := decide_eq_true c54
                            clear c54
                            obtain ⟨bq55, hbq55⟩ : ∃ b_ : Bool, b_ = (rdOf false y160 x58_2) := ⟨_, rfl⟩
                            replace H : (if bq55 = true then (if x10_2.length < 17592186044416 then (flow_Blocks.l1 k2 (x10_2 ++ [x58_2]) y160 (y160.length : Int) (wrap64 (x58_2 + 1))) else (none)) else (flow_Blocks.l1 k2 x10_2 y160 (y160.length : Int) (wrap64 (x58_2 + 1)))) = some r := by rw [← hbq55] at H; exact H
                            have Nbq55 := Aside0.mk hbq55
                            clear hbq55
                            by_cases c56 : bq55 = true
                            · subst c56
                              have H1 : (if x10_2.length < 17592186044416 then (flow_Blocks.l1 k2 (x10_2 ++ [x58_2]) y160 (y160.length : Int) (wrap64 (x58_2 + 1))) else (none)) = some r := by rw [if_pos rfl] at H; exact H
                              clear H
                              have H := H1
                              clear H1
                              by_cases c57 : x10_2.length < 17592186044416
                              · rw [if_pos c57] at H
                                have LMc57 := Aside0.mk c57
                                clear c57
                                obtain ⟨y166, hy166⟩ : ∃ y_ : List Int, y_ = (x10_2 ++ [x58_2]) := ⟨_, rfl⟩
                                replace H : (flow_Blocks.l1 k2 y166 y160 (y160.length : Int) (wrap64 (x58_2 + 1))) = some r := by first | (rw [hy166]; with_reducible exact H) | (have H2_ := (Option.bind_some _ _).symm.trans H; rw [hy166]; with_reducible exact H2_) | (have H2_ := (Option.bind_some _ _).symm.trans H; with_reducible exact H2_) | with_reducible exact H | (rw [hy166]; exact H) | exact H
                                have Ny166 := Aside0.mk hy166
                                clear hy166
                                have H' := Aside0.mk H
                                clear H
                                have p165 : 0 ≤ (x58_2 : Int) := of_decide_eq_true (by first | (with_reducible assumption) | assumption)
                                have q165 : x58_2 < (y160.length : Int) := of_decide_eq_true (by first | (with_reducible assumption) | assumption)
                                obtain ⟨ad165, e165, hx165_0⟩ := Kd.at_bool (Kd.V_reads' HO_56.out).2.2 x58_2 p165 q165
                                (try rw [← Nbq55.out] at hx165_0)
                                obtain rfl : (⟨go6, 0, none⟩ : Addr) = ad165 := (by injection e165)
                                (first | simp only [add_plain] at hx165_0 | simp only [add_at] at hx165_0 | simp only [Addr.add, Nat.zero_add] at hx165_0 | skip)
                                replace p165 := eq_true p165
                                replace q165 := eq_true q165
                                go_wp2_with (first | ((with_reducible refine gate_builtin (b := .append) (xs := #[.tmp 64, .tmp 66]) rfl ?_); at_builtin; refine Kd.R_append (Kd.int .i64) (w0 := w) w.heap.size rfl (.tmp 64) (.tmp 66) 29 3 (.int .i64 0) 8 rfl Tryd.underlying29 info3 rfl (by decide) (by omega) u10 x10_2 x58_2 [.int .i64 x58_2] (fun _ => True) (fun _ => False) rfl rfl ?aP (fun _ hk => hk.elim) ?aF ?aO ?aB ?aS ?aL ?_; (case aP => exact rfl); (case aB => exact (by repeat (first | (with_reducible first | exact HB.out | apply below_alloc | apply pw_below_drewN | apply below_drew1) | exact HB.out))); (case aF => exact (fun _ _ => trivial)); (case aO => exact (by (with_reducible repeat (first | apply Kd.R_alloc | apply Kd.R_drewN | apply Kd.R_drew)); exact HO_10.out)); (case aS => exact (below_size (by repeat (first | (with_reducible first | exact HB.out | apply below_alloc | apply pw_below_drewN | apply below_drew1) | exact HB.out)))); (case aL => have := LMc57.out; omega); intro v167 w58 ho hb hg hat; rw [← Ny166.out] at ho; have n0_ := Aside0.mk (Kd.V_afterv (ok := (fun _ => True)) (by (with_reducible repeat (first | apply Kd.V_alloc | apply Kd.V_drewN | apply Kd.V_drew)); exact Kd.V_mono HO_56.out (fun _ hk => ⟨trivial, hk⟩)) hg hat); have n1_ := Aside0.mk (hb); have n2_ := Aside0.mk (ho); clear HO_56; clear HB; clear HO_10; have HO_56 := n0_; have HB := n1_; have HO168 := n2_; clear n0_ n1_ n2_; clear ho hb hg hat))
                                go_roundg k2
                                case measure => have := HK1.out; have := HK2.out; omega
                                case rel => exact ⟨(y166), (wrap64 (x58_2 + 1)), (by first | rfl | (simp; done) | (simp [*]; done)), H', ⟨by have := HK1.out; have := HK2.out; omega⟩, ⟨by (try simp only [hl3_1]); (with_reducible repeat (first | apply Kd.R_alloc | apply Kd.R_drewN | apply Kd.R_drew)); exact HO168.out⟩, ⟨by (try simp only [hl3_1]); (with_reducible repeat (first | apply Kd.V_alloc | apply Kd.V_drewN | apply Kd.V_drew)); exact Kd.V_mono HO_56.out (fun _ hk => hk.2)⟩, ⟨by repeat (first | (with_reducible first | exact HB.out | apply below_alloc | apply pw_below_drewN | apply below_drew1) | exact HB.out)⟩⟩
                              · rw [if_neg c57] at H
                                exact absurd H (by simp)
                            · replace c56 := Bool.eq_false_iff.mpr c56
                              subst c56
                              have H1 : (flow_Blocks.l1 k2 x10_2 y160 (y160.length : Int) (wrap64 (x58_2 + 1))) = some r := by rw [if_neg (show ¬ (false = true) by decide)] at H; exact H
                              clear H
                              have H := H1
                              clear H1
                              have H' := Aside0.mk H
                              clear H
                              have p165 : 0 ≤ (x58_2 : Int) := of_decide_eq_true (by first | (with_reducible assumption) | assumption)
                              have q165 : x58_2 < (y160.length : Int) := of_decide_eq_true (by first | (with_reducible assumption) | assumption)
                              obtain ⟨ad165, e165, hx165_0⟩ := Kd.at_bool (Kd.V_reads' HO_56.out).2.2 x58_2 p165 q165
                              (try rw [← Nbq55.out] at hx165_0)
                              obtain rfl : (⟨go6, 0, none⟩ : Addr) = ad165 := (by injection e165)
                              (first | simp only [add_plain] at hx165_0 | simp only [add_at] at hx165_0 | simp only [Addr.add, Nat.zero_add] at hx165_0 | skip)
                              replace p165 := eq_true p165
                              replace q165 := eq_true q165
                              go_wp2
                              go_roundg k2
                              case measure => have := HK1.out; have := HK2.out; omega
                              case rel => exact ⟨(x10_2), (wrap64 (x58_2 + 1)), (by first | rfl | (simp; done) | (simp [*]; done)), H', ⟨by have := HK1.out; have := HK2.out; omega⟩, ⟨by (try simp only [hl3_1]); (with_reducible repeat (first | apply Kd.R_alloc | apply Kd.R_drewN | apply Kd.R_drew)); exact HO_10.out⟩, ⟨by (try simp only [hl3_1]); (with_reducible repeat (first | apply Kd.V_alloc | apply Kd.V_drewN | apply Kd.V_drew)); exact HO_56.out⟩, ⟨by repeat (first | (with_reducible first | exact HB.out | apply below_alloc | apply pw_below_drewN | apply below_drew1) | exact HB.out)⟩⟩
                          · rw [if_neg c54] at H
                            exact absurd H (by simp)
                        · rw [if_neg c53] at H
                          exact absurd H (by simp)
                      · rw [if_neg c52] at H
                        have c52b0 : decide (x58_2 < (y160.length : Int)) = false := decide_eq_false c52
                        clear c52
                        obtain rfl := Option.some.inj H
                        go_wp2
                        go_ret
                        exact ⟨_, by first | rfl | (simp [errW_none, errW_some] <;> rfl) | (simp only [← hji2]; first | rfl | (simp [errW_none, errW_some] <;> rfl)) | (simp [*, errW_none, errW_some] <;> rfl), by (with_reducible repeat (first | apply Kd.R_alloc | apply Kd.R_drewN | apply Kd.R_drew)); exact HO_10.out, by repeat (first | (with_reducible first | exact HB.out | apply below_alloc | apply pw_below_drewN | apply below_drew1) | exact HB.out)⟩
                · rw [if_neg c50] at H
                  exact absurd H (by simp)
              · rw [if_neg c49] at H
                exact absurd H (by simp)
      · rw [if_neg c5] at H
        exact absurd H (by simp)
    · rw [if_neg c4] at H
      exact absurd H (by simp)
  · rw [if_neg c3] at H
    exact absurd H (by simp)

end Go.Proofs.YtciilgcinicdiaaDoor.X
