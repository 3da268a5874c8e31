/- Written by wip/xprint.py (a program of this session's) out of the translation, over the kit's print: each Go function as a Lean function, and that the machine's call does what it says. Not trusted: Lean checks it. -/
import Derived.Test.YtciilgcinicdiaaDoorX0
import Derived.Test.YtciilgcinicdiaaDoorXaflow
import Derived.Test.YtciilgcinicdiaaDoorXag
import Derived.Test.YtciilgcinicdiaaDoorXflowB
import Derived.Test.YtciilgcinicdiaaDoorXsecateurlaw14
import Derived.Test.YtciilgcinicdiaaDoorXsecateurlaw14C
namespace Go.Proofs.YtciilgcinicdiaaDoor.X
open Go.RowKit Go.Proofs.YtciilgcinicdiaaDoorW.PrintWords Go.Proofs.YtciilgcinicdiaaDoorW.PrintLast Go.Proofs.YtciilgcinicdiaaDoorW.PrintMore
attribute [local go_sem] max2_int min2_int max_two min_two max_three min_three max_four min_four   -- for this text's walks alone
set_option linter.unusedVariables false
set_option linter.unusedSimpArgs false

/-! ### secateurlaw14_FlowEnds: function 7 -/
mutual
def secateurlaw14_FlowEnds.l0 : Nat → List (S36) → Int → Int → Option (Bool)
  | 0, _, _, _ => none
  | k + 1, x0, x3, x5 => if x5 < (x0.length : Int) then (secateurlaw14_FlowEnds.j1 k x0 x3 x5 (x3 == 0)) else (secateurlaw14_FlowEnds.j1 k x0 x3 x5 false)
def secateurlaw14_FlowEnds.j1 : Nat → List (S36) → Int → Int → Bool → Option (Bool)
  | 0, _, _, _, _ => none
  | k + 1, x0, x3, x5, x22 => if x22 = true then (if 0 ≤ x5 then (if x5 < (x0.length : Int) then (if ((rd_T36 x0 x5).f0) = 22 then ((flow_Next.f x0 x5).bind fun t368 => (if (true != ((t368.length : Int) == 0)) = true then (none) else (secateurlaw14_FlowEnds.l0 k x0 x3 (wrap64 (x5 + 1))))) else (if ((rd_T36 x0 x5).f0) = 23 then ((flow_Next.f x0 x5).bind fun t371 => (if (true != ((t371.length : Int) == 0)) = true then (none) else (secateurlaw14_FlowEnds.l0 k x0 x3 (wrap64 (x5 + 1))))) else (if ((rd_T36 x0 x5).f0) = 30 then ((flow_Next.f x0 x5).bind fun t374 => (if (true != ((t374.length : Int) == 0)) = true then (none) else (secateurlaw14_FlowEnds.l0 k x0 x3 (wrap64 (x5 + 1))))) else (if ((rd_T36 x0 x5).f0) < 1 then ((flow_Next.f x0 x5).bind fun t377 => (if (true != ((t377.length : Int) == 0)) = true then (none) else (secateurlaw14_FlowEnds.l0 k x0 x3 (wrap64 (x5 + 1))))) else ((flow_Next.f x0 x5).bind fun t380 => (if ((decide (((rd_T36 x0 x5).f0) > 32)) != ((t380.length : Int) == 0)) = true then (none) else (secateurlaw14_FlowEnds.l0 k x0 x3 (wrap64 (x5 + 1))))))))) else (none)) else (none)) else ((secateurlaw14_live.f k).bind fun t383 => (some t383))
end
def secateurlaw14_FlowEnds.f (k : Nat) (l0 : List (S36)) : Option (Bool) := (secateurlaw14_few.f l0).bind fun t362 => ((flow_Check.f k t362).bind fun bt365 => (secateurlaw14_FlowEnds.l0 k t362 bt365.1 0))
theorem secateurlaw14_FlowEnds.mono_l : ∀ k, (∀ y0 y1 y2, LeO (secateurlaw14_FlowEnds.l0 k y0 y1 y2) (secateurlaw14_FlowEnds.l0 (k + 1) y0 y1 y2)) ∧ (∀ y0 y1 y2 y3, LeO (secateurlaw14_FlowEnds.j1 k y0 y1 y2 y3) (secateurlaw14_FlowEnds.j1 (k + 1) y0 y1 y2 y3))
  | 0 => ⟨fun _ _ _ r h => by simp [secateurlaw14_FlowEnds.l0] at h, fun _ _ _ _ r h => by simp [secateurlaw14_FlowEnds.j1] at h⟩
  | k + 1 => by
    obtain ⟨ih0, ih1⟩ := secateurlaw14_FlowEnds.mono_l k
    refine ⟨?_, ?_⟩
    · intro y0 y1 y2
      unfold secateurlaw14_FlowEnds.l0
      repeat' first
      | (with_reducible exact ih0 _ _ _)
      | (with_reducible exact ih1 _ _ _ _)
      | (with_reducible exact flow_Check.mono _ _)
      | (with_reducible exact secateurlaw14_live.mono _)
      | (with_reducible exact LeO.refl _)
      | (with_reducible exact LeO.none _)
      | (with_reducible refine LeO.ite ?_ ?_)
      | (with_reducible refine LeO.bind ?_ (fun _ => ?_))
      | exact ih0 _ _ _
      | exact ih1 _ _ _ _
      | exact flow_Check.mono _ _
      | exact secateurlaw14_live.mono _
      | exact LeO.none _
      | refine LeO.ite ?_ ?_
      | refine LeO.bind ?_ (fun _ => ?_)
    · intro y0 y1 y2 y3
      unfold secateurlaw14_FlowEnds.j1
      repeat' first
      | (with_reducible exact ih0 _ _ _)
      | (with_reducible exact ih1 _ _ _ _)
      | (with_reducible exact flow_Check.mono _ _)
      | (with_reducible exact secateurlaw14_live.mono _)
      | (with_reducible exact LeO.refl _)
      | (with_reducible exact LeO.none _)
      | (with_reducible refine LeO.ite ?_ ?_)
      | (with_reducible refine LeO.bind ?_ (fun _ => ?_))
      | exact ih0 _ _ _
      | exact ih1 _ _ _ _
      | exact flow_Check.mono _ _
      | exact secateurlaw14_live.mono _
      | exact LeO.none _
      | refine LeO.ite ?_ ?_
      | refine LeO.bind ?_ (fun _ => ?_)
theorem secateurlaw14_FlowEnds.mono : ∀ a0 k, LeO (secateurlaw14_FlowEnds.f k a0) (secateurlaw14_FlowEnds.f (k + 1) a0) := by
  intro a0 k
  obtain ⟨ih0, ih1⟩ := secateurlaw14_FlowEnds.mono_l k
  unfold secateurlaw14_FlowEnds.f
  repeat' first
      | (with_reducible exact ih0 _ _ _)
      | (with_reducible exact ih1 _ _ _ _)
      | (with_reducible exact flow_Check.mono _ _)
      | (with_reducible exact secateurlaw14_live.mono _)
      | (with_reducible exact LeO.refl _)
      | (with_reducible exact LeO.none _)
      | (with_reducible refine LeO.ite ?_ ?_)
      | (with_reducible refine LeO.bind ?_ (fun _ => ?_))
      | exact ih0 _ _ _
      | exact ih1 _ _ _ _
      | exact flow_Check.mono _ _
      | exact secateurlaw14_live.mono _
      | exact LeO.none _
      | refine LeO.ite ?_ ?_
      | refine LeO.bind ?_ (fun _ => ?_)
set_option maxHeartbeats 8000000 in
set_option maxRecDepth 100000 in
theorem secateurlaw14_FlowEnds.calls (k : Nat) (A0 : Option Addr) (c0 : Nat) (l0 : List (S36)) (r : Bool) (w : World) (hr0 : Kd.C k36 w A0 l0.length l0) (hc0 : l0.length ≤ c0) (hG : GOk w) (h : secateurlaw14_FlowEnds.f k l0 = some r) :
    Calls Tryd.prog 7 #[.slice A0 l0.length c0] w fun e w' => e = .returned (.bool r) ∧ Below w.heap.size w w' := by
  have HR0 := Aside0.mk hr0
  have HC0 := Aside0.mk hc0
  clear hr0 hc0
  have HB := Aside0.mk (Below.refl w.heap.size w)
  have HG := Aside0.mk hG
  clear hG
  have H : ((secateurlaw14_few.f l0).bind fun t362 => ((flow_Check.f k t362).bind fun bt365 => (secateurlaw14_FlowEnds.l0 k t362 bt365.1 0))) = some r := h
  clear h
  replace H := Option.bind_eq_some_iff.mp H
  obtain ⟨t362, A20, H⟩ := H
  replace H : ((flow_Check.f k t362).bind fun bt365 => (secateurlaw14_FlowEnds.l0 k t362 bt365.1 0)) = some r := H
  have A2 := Aside0.mk A20
  clear A20
  replace H := Option.bind_eq_some_iff.mp H
  obtain ⟨⟨t365, t366⟩, A30, H⟩ := H
  replace H : (secateurlaw14_FlowEnds.l0 k t362 t365 0) = some r := H
  have A3 := Aside0.mk A30
  clear A30
  have H' := Aside0.mk H
  clear H
  go_enter Tryd.func7, Tryd.ntmps7
  go_wp2_with (first | ((with_reducible refine gate_callee (f := 8) rfl ?_); refine goesL_ (some 9) rfl rfl Tryd.func8 (by kernel_rfl) rfl #[.slice A0 l0.length c0] rfl (by (try simp only [List.map_toArray, List.map_cons, List.map_nil]); first | done | rfl | (simp only [List.length_drop, List.length_take]; rfl)) ?_; (with_reducible refine (secateurlaw14_few.calls (fun k_ => k_ < w.heap.size) _ _ l0 t362 _ ?side1 A2.out).mono ?_); (case side1 => exact Kd.V_mk HC0.out (Kd.F_below (Kd.C_F k36_heap HR0.out) (by repeat (first | (with_reducible first | exact HB.out | apply below_alloc | apply pw_below_drewN | apply below_drew1) | exact HB.out)))); rintro e w4 ⟨v363, rfl, ho0, hb⟩; refine ⟨_, rfl, ?_⟩; have n0_ := Aside0.mk (Kd.V_lower (Kd.V_mono (ok' := fun k_ => True) ho0 (fun k_ hk_ => trivial)) (below_size (by repeat (first | (with_reducible first | exact HB.out | apply below_alloc | apply pw_below_drewN | apply below_drew1) | exact HB.out)))); have n1_ := Aside0.mk (below_step (by repeat (first | (with_reducible first | exact HB.out | apply below_alloc | apply pw_below_drewN | apply below_drew1) | exact HB.out)) hb); clear HB; have HO364 := n0_; have HB := n1_; clear n0_ n1_; (try clear hb); (try clear hb2); (try clear hk); (try clear hi); (try clear ho0); obtain ⟨Ao5, co5, eo5⟩ := Kd.V_slice HO364.out; subst eo5) | ((with_reducible refine gate_callee (f := 9) rfl ?_); refine goesL_ (some 12) rfl rfl Tryd.func9 (by kernel_rfl) rfl #[.slice Ao5 t362.length co5] rfl (by (try simp only [List.map_toArray, List.map_cons, List.map_nil]); first | done | rfl | (simp only [List.length_drop, List.length_take]; rfl)) ?_; (with_reducible refine (flow_Check.calls k _ _ t362 t365 t366 _ ?side1 ?side2 ?side3 A3.out).mono ?_); (case side1 => repeat (first | exact (Kd.V_reads' HO364.out).2.2 | (with_reducible refine Kd.C_alloc ?_ _) | (with_reducible refine Kd.C_drewN ?_ _) | (with_reducible refine Kd.C_drew ?_))); (case side2 => exact (Kd.V_reads' HO364.out).2.1); (case side3 => exact GOk.below HG.out (by repeat (first | (with_reducible first | exact HB.out | apply below_alloc | apply pw_below_drewN | apply below_drew1) | exact HB.out))); rintro e w6 ⟨rfl, hb⟩; refine ⟨_, rfl, ?_⟩; have n0_ := Aside0.mk (Kd.V_below (by (with_reducible repeat (first | apply Kd.V_alloc | apply Kd.V_drewN | apply Kd.V_drew)); exact HO364.out) hb); have n1_ := Aside0.mk (below_step (by repeat (first | (with_reducible first | exact HB.out | apply below_alloc | apply pw_below_drewN | apply below_drew1) | exact HB.out)) hb); clear HO364; clear HB; have HO364 := n0_; have HB := n1_; clear n0_ n1_; (try clear hb); (try clear hb2); (try clear hk); (try clear hi)))
  (try generalize Value.pointer (some (Addr.add _ _)) = up_)
  go_loopg [5] k (fun kq v5 w' => ∃ (x5_1 : Int), v5 = .int .i64 x5_1 ∧ Aside0 (secateurlaw14_FlowEnds.l0 kq t362 t365 x5_1 = some r) ∧ Aside0 (kq ≤ k) ∧ Aside0 (Kd.V k36 36 w' w.heap.size (fun _ => True) (.slice Ao5 t362.length co5) t362) ∧ Aside0 (Below w.heap.size w w'))
  case atStart => exact ⟨(0), (by first | rfl | (simp; done) | (simp [*]; done)), H', ⟨Nat.le_refl _⟩, ⟨by (with_reducible repeat (first | apply Kd.V_alloc | apply Kd.V_drewN | apply Kd.V_drew)); exact HO364.out⟩, ⟨by repeat (first | (with_reducible first | exact HB.out | apply below_alloc | apply pw_below_drewN | apply below_drew1) | exact HB.out)⟩⟩
  case round =>
    clear H'
    try clear p2
    obtain ⟨x5_1, rfl, HA, HK1, HO_0, HB⟩ := hrel
    cases gk with
    | zero => exact absurd HA.out (by simp [secateurlaw14_FlowEnds.l0])
    | succ k1 =>
      have H := HA.out
      clear HA
      simp only [secateurlaw14_FlowEnds.l0] at H
      have HC7 := Aside0.mk H
      clear H
      go_upto_region 4 with (fail)
      go_cut [22] (fun v22 wc => ∃ (kq : Nat) (x22_6 : Bool), v22 = .bool x22_6 ∧ Aside0 (secateurlaw14_FlowEnds.j1 kq t362 t365 x5_1 x22_6 = some r) ∧ Aside0 (kq ≤ k1) ∧ Aside0 (Kd.V k36 36 wc w.heap.size (fun _ => True) (.slice Ao5 t362.length co5) t362) ∧ Aside0 (Below w.heap.size w wc))
      case first =>
        have H := HC7.out
        clear HC7
        by_cases c8 : x5_1 < (t362.length : Int)
        · rw [if_pos c8] at H
          have c8b0 : decide (x5_1 < (t362.length : Int)) = true := decide_eq_true c8
          clear c8
          (first | rw [c8b0] | (simp only [i64_w, i32_w]; rw [c8b0]) | rw [c8b1] | skip)
          have H' := Aside0.mk H
          clear H
          go_wp2
          go_meet
          case rel => exact ⟨_, ((t365 == 0)), (by first | rfl | (simp; done) | (simp [*]; done)), H', ⟨by have := HK1.out; first | omega | exact Nat.le_refl _⟩, ⟨by (with_reducible repeat (first | apply Kd.V_alloc | apply Kd.V_drewN | apply Kd.V_drew)); exact HO_0.out⟩, ⟨by repeat (first | (with_reducible first | exact HB.out | apply below_alloc | apply pw_below_drewN | apply below_drew1) | exact HB.out)⟩⟩
        · rw [if_neg c8] at H
          have c8b0 : decide (x5_1 < (t362.length : Int)) = false := decide_eq_false c8
          clear c8
          (first | rw [c8b0] | (simp only [i64_w, i32_w]; rw [c8b0]) | rw [c8b1] | skip)
          have H' := Aside0.mk H
          clear H
          go_wp2
          go_meet
          case rel => exact ⟨_, (false), (by first | rfl | (simp; done) | (simp [*]; done)), H', ⟨by have := HK1.out; first | omega | exact Nat.le_refl _⟩, ⟨by (with_reducible repeat (first | apply Kd.V_alloc | apply Kd.V_drewN | apply Kd.V_drew)); exact HO_0.out⟩, ⟨by repeat (first | (with_reducible first | exact HB.out | apply below_alloc | apply pw_below_drewN | apply below_drew1) | exact HB.out)⟩⟩
      case rest =>
        clear HC7
        try clear p2
        try clear c7
        try clear c8
        try clear c8b0
        try clear p2
        obtain ⟨kq, x22_6, rfl, HA, HJ6, HO_0, HB⟩ := hcut
        cases kq with
        | zero => exact absurd HA.out (by simp [secateurlaw14_FlowEnds.j1])
        | succ kj6 =>
          have H := HA.out
          clear HA
          simp only [secateurlaw14_FlowEnds.j1] at H
          by_cases c9 : x22_6 = true
          · subst c9
            have H1 : (if 0 ≤ x5_1 then (if x5_1 < (t362.length : Int) then (if ((rd_T36 t362 x5_1).f0) = 22 then ((flow_Next.f t362 x5_1).bind fun t368 => (if (true != ((t368.length : Int) == 0)) = true then (none) else (secateurlaw14_FlowEnds.l0 kj6 t362 t365 (wrap64 (x5_1 + 1))))) else (if ((rd_T36 t362 x5_1).f0) = 23 then ((flow_Next.f t362 x5_1).bind fun t371 => (if (true != ((t371.length : Int) == 0)) = true then (none) else (secateurlaw14_FlowEnds.l0 kj6 t362 t365 (wrap64 (x5_1 + 1))))) else (if ((rd_T36 t362 x5_1).f0) = 30 then ((flow_Next.f t362 x5_1).bind fun t374 => (if (true != ((t374.length : Int) == 0)) = true then (none) else (secateurlaw14_FlowEnds.l0 kj6 t362 t365 (wrap64 (x5_1 + 1))))) else (if ((rd_T36 t362 x5_1).f0) < 1 then ((flow_Next.f t362 x5_1).bind fun t377 => (if (true != ((t377.length : Int) == 0)) = true then (none) else (secateurlaw14_FlowEnds.l0 kj6 t362 t365 (wrap64 (x5_1 + 1))))) else ((flow_Next.f t362 x5_1).bind fun t380 => (if ((decide (((rd_T36 t362 x5_1).f0) > 32)) != ((t380.length : Int) == 0)) = true then (none) else (secateurlaw14_FlowEnds.l0 kj6 t362 t365 (wrap64 (x5_1 + 1))))))))) else (none)) else (none)) = some r := by rw [if_pos rfl] at H; exact H
            clear H
            have H := H1
            clear H1
            by_cases c10 : 0 ≤ x5_1
            · rw [if_pos c10] at H
              have c10b0 : decide (0 ≤ x5_1) = true := decide_eq_true c10
              clear c10
              by_cases c11 : x5_1 < (t362.length : Int)
              · rw [if_pos c11] at H
                have c11b0 : decide (x5_1 < (t362.length : Int)) = true := decide_eq_true c11
                clear c11
                by_cases c12 : ((rd_T36 t362 x5_1).f0) = 22
                · rw [if_pos c12] at H
                  have c12b0 : (((rd_T36 t362 x5_1).f0) == 22) = true := beq_iff_eq.mpr c12
                  have c12b1 : (((rd_T36 t362 x5_1).f0) != 22) = false := bne_eq_false_iff_eq.mpr c12
                  clear c12
                  replace H := Option.bind_eq_some_iff.mp H
                  obtain ⟨t368, A130, H⟩ := H
                  replace H : (if (true != ((t368.length : Int) == 0)) = true then (none) else (secateurlaw14_FlowEnds.l0 kj6 t362 t365 (wrap64 (x5_1 + 1)))) = some r := H
                  have A13 := Aside0.mk A130
                  clear A130
                  by_cases c14 : (true != ((t368.length : Int) == 0)) = true
                  · rw [if_pos c14] at H
                    exact absurd H (by simp)
                  · rw [if_neg c14] at H
                    have c14b0 : (true != ((t368.length : Int) == 0)) = false := by simpa using c14
                    (try (have c14b1 : decide (true = ((t368.length : Int) == 0)) = true := by simpa using c14))
                    (try (have c14b2 : (true == ((t368.length : Int) == 0)) = true := by simpa using c14))
                    clear c14
                    have H' := Aside0.mk H
                    clear H
                    have p367 : 0 ≤ (x5_1 : Int) := of_decide_eq_true (by first | (with_reducible assumption) | assumption)
                    have q367 : x5_1 < (t362.length : Int) := of_decide_eq_true (by first | (with_reducible assumption) | assumption)
                    obtain ⟨ad367, A367_8, c367_8, e367, hx367_0, hx367_1, hx367_2, hx367_3, hx367_4, hx367_5, hx367_6, hx367_7, hx367_8, hl367_8, hi367_8⟩ := at_T36 (Kd.V_reads' HO_0.out).2.2 x5_1 p367 q367
                    cases e367
                    obtain ⟨ce367, hce367, hMe367, hcc367⟩ := Kd.V_get HO_0.out z36 x5_1 p367 (by first | exact q367 | exact of_decide_eq_true (by first | (with_reducible assumption) | assumption) | (have e_ := (Kd.V_reads' HO_0.out).1; omega))
                    obtain ⟨ua367_8, uc367_8, rfl, ul367_8, ge367_8⟩ := k36_openF hMe367
                    have hv367_8 := hcc367 8 _ rfl
                    rw [add_field _ _ 8 (by omega)] at hv367_8
                    replace hv367_8 := Option.some.inj (hv367_8.symm.trans hx367_8)
                    injection hv367_8 with hva_ hvn_ hvc_
                    rw [hva_] at ge367_8
                    rw [hvc_] at ul367_8
                    have HL367_8 := Aside0.mk (show Kd.V (Kd.int .i64) 3 _ w.heap.size _ _ ((rd_T36 t362 x5_1).f8) from Kd.V_mk ul367_8 ge367_8)
                    clear hva_ hvn_ hvc_ ge367_8 ul367_8
                    clear hcc367 hce367
                    have HR367_8 := Aside0.mk hi367_8
                    have HC367_8 := Aside0.mk hl367_8
                    clear hi367_8 hl367_8
                    replace p367 := eq_true p367
                    replace q367 := eq_true q367
                    go_wp2_with (first | ((with_reducible refine gate_callee (f := 13) rfl ?_); refine goesL_ (some 51) rfl rfl Tryd.func13 (by kernel_rfl) rfl #[.slice (some ad367) t362.length co5, .int .i64 x5_1] rfl (by (try simp only [List.map_toArray, List.map_cons, List.map_nil]); first | done | rfl | (simp only [List.length_drop, List.length_take]; rfl)) ?_; (with_reducible refine (flow_Next.calls _ _ t362 x5_1 t368 _ ?side1 ?side2 ?side3 A13.out).mono ?_); (case side1 => repeat (first | exact (Kd.V_reads' HO_0.out).2.2 | (with_reducible refine Kd.C_alloc ?_ _) | (with_reducible refine Kd.C_drewN ?_ _) | (with_reducible refine Kd.C_drew ?_))); (case side2 => exact (Kd.V_reads' HO_0.out).2.1); (case side3 => exact GOk.below HG.out (by repeat (first | (with_reducible first | exact HB.out | apply below_alloc | apply pw_below_drewN | apply below_drew1) | exact HB.out))); rintro e w15 ⟨v369, rfl, ho0, hb⟩; refine ⟨_, rfl, ?_⟩; have n0_ := Aside0.mk (Kd.V_elder' (by (with_reducible repeat (first | apply Kd.V_alloc | apply Kd.V_drewN | apply Kd.V_drew)); exact HO_0.out) (Kd.R_base ho0) hb); have n1_ := Aside0.mk (Kd.V_elder' (by (with_reducible repeat (first | apply Kd.V_alloc | apply Kd.V_drewN | apply Kd.V_drew)); exact HL367_8.out) (Kd.R_base ho0) hb); have n2_ := Aside0.mk (Kd.R_lower ho0 (below_size (by repeat (first | (with_reducible first | exact HB.out | apply below_alloc | apply pw_below_drewN | apply below_drew1) | exact HB.out)))); have n3_ := Aside0.mk (Kd.C_below (by repeat (first | (with_reducible exact HR367_8.out) | (with_reducible refine Kd.C_alloc ?_ _) | (with_reducible refine Kd.C_drewN ?_ _) | (with_reducible refine Kd.C_drew ?_) | exact HR367_8.out)) hb); have n4_ := Aside0.mk (below_step (by repeat (first | (with_reducible first | exact HB.out | apply below_alloc | apply pw_below_drewN | apply below_drew1) | exact HB.out)) hb); clear HO_0; clear HL367_8; clear HR367_8; clear HB; have HO_0 := n0_; have HL367_8 := n1_; have HO370 := n2_; have HR367_8 := n3_; have HB := n4_; clear n0_ n1_ n2_ n3_ n4_; (try clear hb); (try clear hb2); (try clear hk); (try clear hi); (try clear ho0); obtain ⟨Ao16, co16, eo16⟩ := Kd.R_slice HO370.out; subst eo16))
                    go_roundg kj6
                    case measure => have := HK1.out; have := HJ6.out; omega
                    case rel => exact ⟨(wrap64 (x5_1 + 1)), (by first | rfl | (simp; done) | (simp [*]; done)), H', ⟨by have := HK1.out; have := HJ6.out; omega⟩, ⟨by (with_reducible repeat (first | apply Kd.V_alloc | apply Kd.V_drewN | apply Kd.V_drew)); exact Kd.V_mono HO_0.out (fun _ hk => trivial)⟩, ⟨by repeat (first | (with_reducible first | exact HB.out | apply below_alloc | apply pw_below_drewN | apply below_drew1) | exact HB.out)⟩⟩
                · rw [if_neg c12] at H
                  have c12b0 : (((rd_T36 t362 x5_1).f0) == 22) = false := beq_eq_false_iff_ne.mpr c12
                  have c12b1 : (((rd_T36 t362 x5_1).f0) != 22) = true := bne_iff_ne.mpr c12
                  by_cases c17 : ((rd_T36 t362 x5_1).f0) = 23
                  · rw [if_pos c17] at H
                    have c17b0 : (((rd_T36 t362 x5_1).f0) == 23) = true := beq_iff_eq.mpr c17
                    have c17b1 : (((rd_T36 t362 x5_1).f0) != 23) = false := bne_eq_false_iff_eq.mpr c17
                    clear c17
                    replace H := Option.bind_eq_some_iff.mp H
                    obtain ⟨t371, A180, H⟩ := H
                    replace H : (if (true != ((t371.length : Int) == 0)) = true then (none) else (secateurlaw14_FlowEnds.l0 kj6 t362 t365 (wrap64 (x5_1 + 1)))) = some r := H
                    have A18 := Aside0.mk A180
                    clear A180
                    by_cases c19 : (true != ((t371.length : Int) == 0)) = true
                    · rw [if_pos c19] at H
                      exact absurd H (by simp)
                    · rw [if_neg c19] at H
                      have c19b0 : (true != ((t371.length : Int) == 0)) = false := by simpa using c19
                      (try (have c19b1 : decide (true = ((t371.length : Int) == 0)) = true := by simpa using c19))
                      (try (have c19b2 : (true == ((t371.length : Int) == 0)) = true := by simpa using c19))
                      clear c19
                      have H' := Aside0.mk H
                      clear H
                      have p367 : 0 ≤ (x5_1 : Int) := of_decide_eq_true (by first | (with_reducible assumption) | assumption)
                      have q367 : x5_1 < (t362.length : Int) := of_decide_eq_true (by first | (with_reducible assumption) | assumption)
                      obtain ⟨ad367, A367_8, c367_8, e367, hx367_0, hx367_1, hx367_2, hx367_3, hx367_4, hx367_5, hx367_6, hx367_7, hx367_8, hl367_8, hi367_8⟩ := at_T36 (Kd.V_reads' HO_0.out).2.2 x5_1 p367 q367
                      cases e367
                      obtain ⟨ce367, hce367, hMe367, hcc367⟩ := Kd.V_get HO_0.out z36 x5_1 p367 (by first | exact q367 | exact of_decide_eq_true (by first | (with_reducible assumption) | assumption) | (have e_ := (Kd.V_reads' HO_0.out).1; omega))
                      obtain ⟨ua367_8, uc367_8, rfl, ul367_8, ge367_8⟩ := k36_openF hMe367
                      have hv367_8 := hcc367 8 _ rfl
                      rw [add_field _ _ 8 (by omega)] at hv367_8
                      replace hv367_8 := Option.some.inj (hv367_8.symm.trans hx367_8)
                      injection hv367_8 with hva_ hvn_ hvc_
                      rw [hva_] at ge367_8
                      rw [hvc_] at ul367_8
                      have HL367_8 := Aside0.mk (show Kd.V (Kd.int .i64) 3 _ w.heap.size _ _ ((rd_T36 t362 x5_1).f8) from Kd.V_mk ul367_8 ge367_8)
                      clear hva_ hvn_ hvc_ ge367_8 ul367_8
                      clear hcc367 hce367
                      have HR367_8 := Aside0.mk hi367_8
                      have HC367_8 := Aside0.mk hl367_8
                      clear hi367_8 hl367_8
                      replace p367 := eq_true p367
                      replace q367 := eq_true q367
                      go_wp2_with (first | ((with_reducible refine gate_callee (f := 13) rfl ?_); refine goesL_ (some 51) rfl rfl Tryd.func13 (by kernel_rfl) rfl #[.slice (some ad367) t362.length co5, .int .i64 x5_1] rfl (by (try simp only [List.map_toArray, List.map_cons, List.map_nil]); first | done | rfl | (simp only [List.length_drop, List.length_take]; rfl)) ?_; (with_reducible refine (flow_Next.calls _ _ t362 x5_1 t371 _ ?side1 ?side2 ?side3 A18.out).mono ?_); (case side1 => repeat (first | exact (Kd.V_reads' HO_0.out).2.2 | (with_reducible refine Kd.C_alloc ?_ _) | (with_reducible refine Kd.C_drewN ?_ _) | (with_reducible refine Kd.C_drew ?_))); (case side2 => exact (Kd.V_reads' HO_0.out).2.1); (case side3 => exact GOk.below HG.out (by repeat (first | (with_reducible first | exact HB.out | apply below_alloc | apply pw_below_drewN | apply below_drew1) | exact HB.out))); rintro e w20 ⟨v372, rfl, ho0, hb⟩; refine ⟨_, rfl, ?_⟩; have n0_ := Aside0.mk (Kd.V_elder' (by (with_reducible repeat (first | apply Kd.V_alloc | apply Kd.V_drewN | apply Kd.V_drew)); exact HO_0.out) (Kd.R_base ho0) hb); have n1_ := Aside0.mk (Kd.V_elder' (by (with_reducible repeat (first | apply Kd.V_alloc | apply Kd.V_drewN | apply Kd.V_drew)); exact HL367_8.out) (Kd.R_base ho0) hb); have n2_ := Aside0.mk (Kd.R_lower ho0 (below_size (by repeat (first | (with_reducible first | exact HB.out | apply below_alloc | apply pw_below_drewN | apply below_drew1) | exact HB.out)))); have n3_ := Aside0.mk (Kd.C_below (by repeat (first | (with_reducible exact HR367_8.out) | (with_reducible refine Kd.C_alloc ?_ _) | (with_reducible refine Kd.C_drewN ?_ _) | (with_reducible refine Kd.C_drew ?_) | exact HR367_8.out)) hb); have n4_ := Aside0.mk (below_step (by repeat (first | (with_reducible first | exact HB.out | apply below_alloc | apply pw_below_drewN | apply below_drew1) | exact HB.out)) hb); clear HO_0; clear HL367_8; clear HR367_8; clear HB; have HO_0 := n0_; have HL367_8 := n1_; have HO373 := n2_; have HR367_8 := n3_; have HB := n4_; clear n0_ n1_ n2_ n3_ n4_; (try clear hb); (try clear hb2); (try clear hk); (try clear hi); (try clear ho0); obtain ⟨Ao21, co21, eo21⟩ := Kd.R_slice HO373.out; subst eo21))
                      go_roundg kj6
                      case measure => have := HK1.out; have := HJ6.out; omega
                      case rel => exact ⟨(wrap64 (x5_1 + 1)), (by first | rfl | (simp; done) | (simp [*]; done)), H', ⟨by have := HK1.out; have := HJ6.out; omega⟩, ⟨by (with_reducible repeat (first | apply Kd.V_alloc | apply Kd.V_drewN | apply Kd.V_drew)); exact Kd.V_mono HO_0.out (fun _ hk => trivial)⟩, ⟨by repeat (first | (with_reducible first | exact HB.out | apply below_alloc | apply pw_below_drewN | apply below_drew1) | exact HB.out)⟩⟩
                  · rw [if_neg c17] at H
                    have c17b0 : (((rd_T36 t362 x5_1).f0) == 23) = false := beq_eq_false_iff_ne.mpr c17
                    have c17b1 : (((rd_T36 t362 x5_1).f0) != 23) = true := bne_iff_ne.mpr c17
                    by_cases c22 : ((rd_T36 t362 x5_1).f0) = 30
                    · rw [if_pos c22] at H
                      have c22b0 : (((rd_T36 t362 x5_1).f0) == 30) = true := beq_iff_eq.mpr c22
                      have c22b1 : (((rd_T36 t362 x5_1).f0) != 30) = false := bne_eq_false_iff_eq.mpr c22
                      clear c22
                      replace H := Option.bind_eq_some_iff.mp H
                      obtain ⟨t374, A230, H⟩ := H
                      replace H : (if (true != ((t374.length : Int) == 0)) = true then (none) else (secateurlaw14_FlowEnds.l0 kj6 t362 t365 (wrap64 (x5_1 + 1)))) = some r := H
                      have A23 := Aside0.mk A230
                      clear A230
                      by_cases c24 : (true != ((t374.length : Int) == 0)) = true
                      · rw [if_pos c24] at H
                        exact absurd H (by simp)
                      · rw [if_neg c24] at H
                        have c24b0 : (true != ((t374.length : Int) == 0)) = false := by simpa using c24
                        (try (have c24b1 : decide (true = ((t374.length : Int) == 0)) = true := by simpa using c24))
                        (try (have c24b2 : (true == ((t374.length : Int) == 0)) = true := by simpa using c24))
                        clear c24
                        have H' := Aside0.mk H
                        clear H
                        have p367 : 0 ≤ (x5_1 : Int) := of_decide_eq_true (by first | (with_reducible assumption) | assumption)
                        have q367 : x5_1 < (t362.length : Int) := of_decide_eq_true (by first | (with_reducible assumption) | assumption)
                        obtain ⟨ad367, A367_8, c367_8, e367, hx367_0, hx367_1, hx367_2, hx367_3, hx367_4, hx367_5, hx367_6, hx367_7, hx367_8, hl367_8, hi367_8⟩ := at_T36 (Kd.V_reads' HO_0.out).2.2 x5_1 p367 q367
                        cases e367
                        obtain ⟨ce367, hce367, hMe367, hcc367⟩ := Kd.V_get HO_0.out z36 x5_1 p367 (by first | exact q367 | exact of_decide_eq_true (by first | (with_reducible assumption) | assumption) | (have e_ := (Kd.V_reads' HO_0.out).1; omega))
                        obtain ⟨ua367_8, uc367_8, rfl, ul367_8, ge367_8⟩ := k36_openF hMe367
                        have hv367_8 := hcc367 8 _ rfl
                        rw [add_field _ _ 8 (by omega)] at hv367_8
                        replace hv367_8 := Option.some.inj (hv367_8.symm.trans hx367_8)
                        injection hv367_8 with hva_ hvn_ hvc_
                        rw [hva_] at ge367_8
                        rw [hvc_] at ul367_8
                        have HL367_8 := Aside0.mk (show Kd.V (Kd.int .i64) 3 _ w.heap.size _ _ ((rd_T36 t362 x5_1).f8) from Kd.V_mk ul367_8 ge367_8)
                        clear hva_ hvn_ hvc_ ge367_8 ul367_8
                        clear hcc367 hce367
                        have HR367_8 := Aside0.mk hi367_8
                        have HC367_8 := Aside0.mk hl367_8
                        clear hi367_8 hl367_8
                        replace p367 := eq_true p367
                        replace q367 := eq_true q367
                        go_wp2_with (first | ((with_reducible refine gate_callee (f := 13) rfl ?_); refine goesL_ (some 51) rfl rfl Tryd.func13 (by kernel_rfl) rfl #[.slice (some ad367) t362.length co5, .int .i64 x5_1] rfl (by (try simp only [List.map_toArray, List.map_cons, List.map_nil]); first | done | rfl | (simp only [List.length_drop, List.length_take]; rfl)) ?_; (with_reducible refine (flow_Next.calls _ _ t362 x5_1 t374 _ ?side1 ?side2 ?side3 A23.out).mono ?_); (case side1 => repeat (first | exact (Kd.V_reads' HO_0.out).2.2 | (with_reducible refine Kd.C_alloc ?_ _) | (with_reducible refine Kd.C_drewN ?_ _) | (with_reducible refine Kd.C_drew ?_))); (case side2 => exact (Kd.V_reads' HO_0.out).2.1); (case side3 => exact GOk.below HG.out (by repeat (first | (with_reducible first | exact HB.out | apply below_alloc | apply pw_below_drewN | apply below_drew1) | exact HB.out))); rintro e w25 ⟨v375, rfl, ho0, hb⟩; refine ⟨_, rfl, ?_⟩; have n0_ := Aside0.mk (Kd.V_elder' (by (with_reducible repeat (first | apply Kd.V_alloc | apply Kd.V_drewN | apply Kd.V_drew)); exact HO_0.out) (Kd.R_base ho0) hb); have n1_ := Aside0.mk (Kd.V_elder' (by (with_reducible repeat (first | apply Kd.V_alloc | apply Kd.V_drewN | apply Kd.V_drew)); exact HL367_8.out) (Kd.R_base ho0) hb); have n2_ := Aside0.mk (Kd.R_lower ho0 (below_size (by repeat (first | (with_reducible first | exact HB.out | apply below_alloc | apply pw_below_drewN | apply below_drew1) | exact HB.out)))); have n3_ := Aside0.mk (Kd.C_below (by repeat (first | (with_reducible exact HR367_8.out) | (with_reducible refine Kd.C_alloc ?_ _) | (with_reducible refine Kd.C_drewN ?_ _) | (with_reducible refine Kd.C_drew ?_) | exact HR367_8.out)) hb); have n4_ := Aside0.mk (below_step (by repeat (first | (with_reducible first | exact HB.out | apply below_alloc | apply pw_below_drewN | apply below_drew1) | exact HB.out)) hb); clear HO_0; clear HL367_8; clear HR367_8; clear HB; have HO_0 := n0_; have HL367_8 := n1_; have HO376 := n2_; have HR367_8 := n3_; have HB := n4_; clear n0_ n1_ n2_ n3_ n4_; (try clear hb); (try clear hb2); (try clear hk); (try clear hi); (try clear ho0); obtain ⟨Ao26, co26, eo26⟩ := Kd.R_slice HO376.out; subst eo26))
                        go_roundg kj6
                        case measure => have := HK1.out; have := HJ6.out; omega
                        case rel => exact ⟨(wrap64 (x5_1 + 1)), (by first | rfl | (simp; done) | (simp [*]; done)), H', ⟨by have := HK1.out; have := HJ6.out; omega⟩, ⟨by (with_reducible repeat (first | apply Kd.V_alloc | apply Kd.V_drewN | apply Kd.V_drew)); exact Kd.V_mono HO_0.out (fun _ hk => trivial)⟩, ⟨by repeat (first | (with_reducible first | exact HB.out | apply below_alloc | apply pw_below_drewN | apply below_drew1) | exact HB.out)⟩⟩
                    · rw [if_neg c22] at H
                      have c22b0 : (((rd_T36 t362 x5_1).f0) == 30) = false := beq_eq_false_iff_ne.mpr c22
                      have c22b1 : (((rd_T36 t362 x5_1).f0) != 30) = true := bne_iff_ne.mpr c22
                      by_cases c27 : ((rd_T36 t362 x5_1).f0) < 1
                      · rw [if_pos c27] at H
                        have c27b0 : decide (((rd_T36 t362 x5_1).f0) < 1) = true := decide_eq_true c27
                        clear c27
                        replace H := Option.bind_eq_some_iff.mp H
                        obtain ⟨t377, A280, H⟩ := H
                        replace H : (if (true != ((t377.length : Int) == 0)) = true then (none) else (secateurlaw14_FlowEnds.l0 kj6 t362 t365 (wrap64 (x5_1 + 1)))) = some r := H
                        have A28 := Aside0.mk A280
                        clear A280
                        by_cases c29 : (true != ((t377.length : Int) == 0)) = true
                        · rw [if_pos c29] at H
                          exact absurd H (by simp)
                        · rw [if_neg c29] at H
                          have c29b0 : (true != ((t377.length : Int) == 0)) = false := by simpa using c29
                          (try (have c29b1 : decide (true = ((t377.length : Int) == 0)) = true := by simpa using c29))
                          (try (have c29b2 : (true == ((t377.length : Int) == 0)) = true := by simpa using c29))
                          clear c29
                          have H' := Aside0.mk H
                          clear H
                          have p367 : 0 ≤ (x5_1 : Int) := of_decide_eq_true (by first | (with_reducible assumption) | assumption)
                          have q367 : x5_1 < (t362.length : Int) := of_decide_eq_true (by first | (with_reducible assumption) | assumption)
                          obtain ⟨ad367, A367_8, c367_8, e367, hx367_0, hx367_1, hx367_2, hx367_3, hx367_4, hx367_5, hx367_6, hx367_7, hx367_8, hl367_8, hi367_8⟩ := at_T36 (Kd.V_reads' HO_0.out).2.2 x5_1 p367 q367
                          cases e367
                          obtain ⟨ce367, hce367, hMe367, hcc367⟩ := Kd.V_get HO_0.out z36 x5_1 p367 (by first | exact q367 | exact of_decide_eq_true (by first | (with_reducible assumption) | assumption) | (have e_ := (Kd.V_reads' HO_0.out).1; omega))
                          obtain ⟨ua367_8, uc367_8, rfl, ul367_8, ge367_8⟩ := k36_openF hMe367
                          have hv367_8 := hcc367 8 _ rfl
                          rw [add_field _ _ 8 (by omega)] at hv367_8
                          replace hv367_8 := Option.some.inj (hv367_8.symm.trans hx367_8)
                          injection hv367_8 with hva_ hvn_ hvc_
                          rw [hva_] at ge367_8
                          rw [hvc_] at ul367_8
                          have HL367_8 := Aside0.mk (show Kd.V (Kd.int .i64) 3 _ w.heap.size _ _ ((rd_T36 t362 x5_1).f8) from Kd.V_mk ul367_8 ge367_8)
                          clear hva_ hvn_ hvc_ ge367_8 ul367_8
                          clear hcc367 hce367
                          have HR367_8 := Aside0.mk hi367_8
                          have HC367_8 := Aside0.mk hl367_8
                          clear hi367_8 hl367_8
                          replace p367 := eq_true p367
                          replace q367 := eq_true q367
                          go_wp2_with (first | ((with_reducible refine gate_callee (f := 13) rfl ?_); refine goesL_ (some 51) rfl rfl Tryd.func13 (by kernel_rfl) rfl #[.slice (some ad367) t362.length co5, .int .i64 x5_1] rfl (by (try simp only [List.map_toArray, List.map_cons, List.map_nil]); first | done | rfl | (simp only [List.length_drop, List.length_take]; rfl)) ?_; (with_reducible refine (flow_Next.calls _ _ t362 x5_1 t377 _ ?side1 ?side2 ?side3 A28.out).mono ?_); (case side1 => repeat (first | exact (Kd.V_reads' HO_0.out).2.2 | (with_reducible refine Kd.C_alloc ?_ _) | (with_reducible refine Kd.C_drewN ?_ _) | (with_reducible refine Kd.C_drew ?_))); (case side2 => exact (Kd.V_reads' HO_0.out).2.1); (case side3 => exact GOk.below HG.out (by repeat (first | (with_reducible first | exact HB.out | apply below_alloc | apply pw_below_drewN | apply below_drew1) | exact HB.out))); rintro e w30 ⟨v378, rfl, ho0, hb⟩; refine ⟨_, rfl, ?_⟩; have n0_ := Aside0.mk (Kd.V_elder' (by (with_reducible repeat (first | apply Kd.V_alloc | apply Kd.V_drewN | apply Kd.V_drew)); exact HO_0.out) (Kd.R_base ho0) hb); have n1_ := Aside0.mk (Kd.V_elder' (by (with_reducible repeat (first | apply Kd.V_alloc | apply Kd.V_drewN | apply Kd.V_drew)); exact HL367_8.out) (Kd.R_base ho0) hb); have n2_ := Aside0.mk (Kd.R_lower ho0 (below_size (by repeat (first | (with_reducible first | exact HB.out | apply below_alloc | apply pw_below_drewN | apply below_drew1) | exact HB.out)))); have n3_ := Aside0.mk (Kd.C_below (by repeat (first | (with_reducible exact HR367_8.out) | (with_reducible refine Kd.C_alloc ?_ _) | (with_reducible refine Kd.C_drewN ?_ _) | (with_reducible refine Kd.C_drew ?_) | exact HR367_8.out)) hb); have n4_ := Aside0.mk (below_step (by repeat (first | (with_reducible first | exact HB.out | apply below_alloc | apply pw_below_drewN | apply below_drew1) | exact HB.out)) hb); clear HO_0; clear HL367_8; clear HR367_8; clear HB; have HO_0 := n0_; have HL367_8 := n1_; have HO379 := n2_; have HR367_8 := n3_; have HB := n4_; clear n0_ n1_ n2_ n3_ n4_; (try clear hb); (try clear hb2); (try clear hk); (try clear hi); (try clear ho0); obtain ⟨Ao31, co31, eo31⟩ := Kd.R_slice HO379.out; subst eo31))
                          go_roundg kj6
                          case measure => have := HK1.out; have := HJ6.out; omega
                          case rel => exact ⟨(wrap64 (x5_1 + 1)), (by first | rfl | (simp; done) | (simp [*]; done)), H', ⟨by have := HK1.out; have := HJ6.out; omega⟩, ⟨by (with_reducible repeat (first | apply Kd.V_alloc | apply Kd.V_drewN | apply Kd.V_drew)); exact Kd.V_mono HO_0.out (fun _ hk => trivial)⟩, ⟨by repeat (first | (with_reducible first | exact HB.out | apply below_alloc | apply pw_below_drewN | apply below_drew1) | exact HB.out)⟩⟩
                      · rw [if_neg c27] at H
                        have c27b0 : decide (((rd_T36 t362 x5_1).f0) < 1) = false := decide_eq_false c27
                        clear c27
                        replace H := Option.bind_eq_some_iff.mp H
                        obtain ⟨t380, A320, H⟩ := H
                        replace H : (if ((decide (((rd_T36 t362 x5_1).f0) > 32)) != ((t380.length : Int) == 0)) = true then (none) else (secateurlaw14_FlowEnds.l0 kj6 t362 t365 (wrap64 (x5_1 + 1)))) = some r := H
                        have A32 := Aside0.mk A320
                        clear A320
                        by_cases c33 : ((decide (((rd_T36 t362 x5_1).f0) > 32)) != ((t380.length : Int) == 0)) = true
                        · rw [if_pos c33] at H
                          exact absurd H (by simp)
                        · rw [if_neg c33] at H
                          have c33b0 : ((decide (((rd_T36 t362 x5_1).f0) > 32)) != ((t380.length : Int) == 0)) = false := by simpa using c33
                          (try (have c33b1 : decide ((decide (((rd_T36 t362 x5_1).f0) > 32)) = ((t380.length : Int) == 0)) = true := by simpa using c33))
                          (try (have c33b2 : ((decide (((rd_T36 t362 x5_1).f0) > 32)) == ((t380.length : Int) == 0)) = true := by simpa using c33))
                          clear c33
                          have H' := Aside0.mk H
                          clear H
                          have p367 : 0 ≤ (x5_1 : Int) := of_decide_eq_true (by first | (with_reducible assumption) | assumption)
                          have q367 : x5_1 < (t362.length : Int) := of_decide_eq_true (by first | (with_reducible assumption) | assumption)
                          obtain ⟨ad367, A367_8, c367_8, e367, hx367_0, hx367_1, hx367_2, hx367_3, hx367_4, hx367_5, hx367_6, hx367_7, hx367_8, hl367_8, hi367_8⟩ := at_T36 (Kd.V_reads' HO_0.out).2.2 x5_1 p367 q367
                          cases e367
                          obtain ⟨ce367, hce367, hMe367, hcc367⟩ := Kd.V_get HO_0.out z36 x5_1 p367 (by first | exact q367 | exact of_decide_eq_true (by first | (with_reducible assumption) | assumption) | (have e_ := (Kd.V_reads' HO_0.out).1; omega))
                          obtain ⟨ua367_8, uc367_8, rfl, ul367_8, ge367_8⟩ := k36_openF hMe367
                          have hv367_8 := hcc367 8 _ rfl
                          rw [add_field _ _ 8 (by omega)] at hv367_8
                          replace hv367_8 := Option.some.inj (hv367_8.symm.trans hx367_8)
                          injection hv367_8 with hva_ hvn_ hvc_
                          rw [hva_] at ge367_8
                          rw [hvc_] at ul367_8
                          have HL367_8 := Aside0.mk (show Kd.V (Kd.int .i64) 3 _ w.heap.size _ _ ((rd_T36 t362 x5_1).f8) from Kd.V_mk ul367_8 ge367_8)
                          clear hva_ hvn_ hvc_ ge367_8 ul367_8
                          clear hcc367 hce367
                          have HR367_8 := Aside0.mk hi367_8
                          have HC367_8 := Aside0.mk hl367_8
                          clear hi367_8 hl367_8
                          replace p367 := eq_true p367
                          replace q367 := eq_true q367
                          go_wp2_with (first | ((with_reducible refine gate_callee (f := 13) rfl ?_); refine goesL_ (some 51) rfl rfl Tryd.func13 (by kernel_rfl) rfl #[.slice (some ad367) t362.length co5, .int .i64 x5_1] rfl (by (try simp only [List.map_toArray, List.map_cons, List.map_nil]); first | done | rfl | (simp only [List.length_drop, List.length_take]; rfl)) ?_; (with_reducible refine (flow_Next.calls _ _ t362 x5_1 t380 _ ?side1 ?side2 ?side3 A32.out).mono ?_); (case side1 => repeat (first | exact (Kd.V_reads' HO_0.out).2.2 | (with_reducible refine Kd.C_alloc ?_ _) | (with_reducible refine Kd.C_drewN ?_ _) | (with_reducible refine Kd.C_drew ?_))); (case side2 => exact (Kd.V_reads' HO_0.out).2.1); (case side3 => exact GOk.below HG.out (by repeat (first | (with_reducible first | exact HB.out | apply below_alloc | apply pw_below_drewN | apply below_drew1) | exact HB.out))); rintro e w34 ⟨v381, rfl, ho0, hb⟩; refine ⟨_, rfl, ?_⟩; have n0_ := Aside0.mk (Kd.V_elder' (by (with_reducible repeat (first | apply Kd.V_alloc | apply Kd.V_drewN | apply Kd.V_drew)); exact HO_0.out) (Kd.R_base ho0) hb); have n1_ := Aside0.mk (Kd.V_elder' (by (with_reducible repeat (first | apply Kd.V_alloc | apply Kd.V_drewN | apply Kd.V_drew)); exact HL367_8.out) (Kd.R_base ho0) hb); have n2_ := Aside0.mk (Kd.R_lower ho0 (below_size (by repeat (first | (with_reducible first | exact HB.out | apply below_alloc | apply pw_below_drewN | apply below_drew1) | exact HB.out)))); have n3_ := Aside0.mk (Kd.C_below (by repeat (first | (with_reducible exact HR367_8.out) | (with_reducible refine Kd.C_alloc ?_ _) | (with_reducible refine Kd.C_drewN ?_ _) | (with_reducible refine Kd.C_drew ?_) | exact HR367_8.out)) hb); have n4_ := Aside0.mk (below_step (by repeat (first | (with_reducible first | exact HB.out | apply below_alloc | apply pw_below_drewN | apply below_drew1) | exact HB.out)) hb); clear HO_0; clear HL367_8; clear HR367_8; clear HB; have HO_0 := n0_; have HL367_8 := n1_; have HO382 := n2_; have HR367_8 := n3_; have HB := n4_; clear n0_ n1_ n2_ n3_ n4_; (try clear hb); (try clear hb2); (try clear hk); (try clear hi); (try clear ho0); obtain ⟨Ao35, co35, eo35⟩ := Kd.R_slice HO382.out; subst eo35))
                          go_roundg kj6
                          case measure => have := HK1.out; have := HJ6.out; omega
                          case rel => exact ⟨(wrap64 (x5_1 + 1)), (by first | rfl | (simp; done) | (simp [*]; done)), H', ⟨by have := HK1.out; have := HJ6.out; omega⟩, ⟨by (with_reducible repeat (first | apply Kd.V_alloc | apply Kd.V_drewN | apply Kd.V_drew)); exact Kd.V_mono HO_0.out (fun _ hk => trivial)⟩, ⟨by repeat (first | (with_reducible first | exact HB.out | apply below_alloc | apply pw_below_drewN | apply below_drew1) | exact HB.out)⟩⟩
              · rw [if_neg c11] at H
                exact absurd H (by simp)
            · rw [if_neg c10] at H
              exact absurd H (by simp)
          · replace c9 := Bool.eq_false_iff.mpr c9
            subst c9
            have H1 : ((secateurlaw14_live.f kj6).bind fun t383 => (some t383)) = some r := by rw [if_neg (show ¬ (false = true) by decide)] at H; exact H
            clear H
            have H := H1
            clear H1
            replace H := Option.bind_eq_some_iff.mp H
            obtain ⟨t383, A360, H⟩ := H
            replace H : (some t383) = some r := H
            have A36 := Aside0.mk A360
            clear A360
            obtain rfl := Option.some.inj H
            go_wp2_with (first | ((with_reducible refine gate_callee (f := 11) rfl ?_); refine goesL_ (some 55) rfl rfl Tryd.func11 (by kernel_rfl) rfl #[] rfl (by (try simp only [List.map_toArray, List.map_cons, List.map_nil]); first | done | rfl | (simp only [List.length_drop, List.length_take]; rfl)) ?_; (with_reducible refine (secateurlaw14_live.calls kj6  t383 _ ?side1 A36.out).mono ?_); (case side1 => exact GOk.below HG.out (by repeat (first | (with_reducible first | exact HB.out | apply below_alloc | apply pw_below_drewN | apply below_drew1) | exact HB.out))); rintro e w37 ⟨rfl, hb⟩; refine ⟨_, rfl, ?_⟩; have n0_ := Aside0.mk (Kd.V_below (by (with_reducible repeat (first | apply Kd.V_alloc | apply Kd.V_drewN | apply Kd.V_drew)); exact HO_0.out) hb); have n1_ := Aside0.mk (below_step (by repeat (first | (with_reducible first | exact HB.out | apply below_alloc | apply pw_below_drewN | apply below_drew1) | exact HB.out)) hb); clear HO_0; clear HB; have HO_0 := n0_; have HB := n1_; clear n0_ n1_; (try clear hb); (try clear hb2); (try clear hk); (try clear hi)))
            go_ret
            exact ⟨by first | rfl | (simp [errW_none, errW_some] <;> rfl) | (simp [*, errW_none, errW_some] <;> rfl), by repeat (first | (with_reducible first | exact HB.out | apply below_alloc | apply pw_below_drewN | apply below_drew1) | exact HB.out)⟩

end Go.Proofs.YtciilgcinicdiaaDoor.X
