/- Written by wip/xprint.py (a program of this session's) out of the translation, over the kit's print: each Go function as a Lean function, and that the machine's call does what it says. Not trusted: Lean checks it. -/
import Derived.Test.YtciilgcinicdiaaDoorX0
import Derived.Test.YtciilgcinicdiaaDoorXadist
import Derived.Test.YtciilgcinicdiaaDoorXag
import Derived.Test.YtciilgcinicdiaaDoorXflowB
import Derived.Test.YtciilgcinicdiaaDoorXflowC
import Derived.Test.YtciilgcinicdiaaDoorXsecateurlaw14
import Derived.Test.YtciilgcinicdiaaDoorXsecateurlaw14C
import Derived.Test.YtciilgcinicdiaaDoorXsecateurref01
import Derived.Test.YtciilgcinicdiaaDoorXsecateurref14
namespace Go.Proofs.YtciilgcinicdiaaDoor.X
open Go.RowKit Go.Proofs.YtciilgcinicdiaaDoorW.PrintWords Go.Proofs.YtciilgcinicdiaaDoorW.PrintLast Go.Proofs.YtciilgcinicdiaaDoorW.PrintMore
attribute [local go_sem] max2_int min2_int max_two min_two max_three min_three max_four min_four   -- for this text's walks alone
set_option linter.unusedVariables false
set_option linter.unusedSimpArgs false

/-! ### secateurlaw14_FlowReaches: function 4 -/
def secateurlaw14_FlowReaches.f (k : Nat) (l0 : List (S36)) : Option (Bool) := (secateurlaw14_few.f l0).bind fun t288 => ((secateurlaw14_live.f k).bind fun t291 => (if t291 = true then ((flow_Dist.f t288).bind fun t292 => ((secateurref14_Dist.f k t288).bind fun t295 => ((secateurref01_SameInts.f k t292 t295).bind fun t298 => (if t298 = true then ((flow_Dead.f k t288).bind fun t299 => ((secateurref14_Dead.f k t288).bind fun t302 => ((secateurref01_SameInts.f k t299 t302).bind fun t305 => (if t305 = true then ((flow_Blocks.f k t288).bind fun t306 => ((secateurref14_Blocks.f k t288).bind fun t309 => ((secateurref01_SameInts.f k t306 t309).bind fun t312 => (some t312)))) else (none))))) else (none))))) else (none)))
theorem secateurlaw14_FlowReaches.mono : ∀ a0 k, LeO (secateurlaw14_FlowReaches.f k a0) (secateurlaw14_FlowReaches.f (k + 1) a0) := by
  intro a0 k
  unfold secateurlaw14_FlowReaches.f
  repeat' first
      | (with_reducible exact flow_Blocks.mono _ _)
      | (with_reducible exact flow_Dead.mono _ _)
      | (with_reducible exact secateurlaw14_live.mono _)
      | (with_reducible exact secateurref01_SameInts.mono _ _ _)
      | (with_reducible exact secateurref14_Blocks.mono _ _)
      | (with_reducible exact secateurref14_Dead.mono _ _)
      | (with_reducible exact secateurref14_Dist.mono _ _)
      | (with_reducible exact LeO.refl _)
      | (with_reducible exact LeO.none _)
      | (with_reducible refine LeO.ite ?_ ?_)
      | (with_reducible refine LeO.bind ?_ (fun _ => ?_))
      | exact flow_Blocks.mono _ _
      | exact flow_Dead.mono _ _
      | exact secateurlaw14_live.mono _
      | exact secateurref01_SameInts.mono _ _ _
      | exact secateurref14_Blocks.mono _ _
      | exact secateurref14_Dead.mono _ _
      | exact secateurref14_Dist.mono _ _
      | exact LeO.none _
      | refine LeO.ite ?_ ?_
      | refine LeO.bind ?_ (fun _ => ?_)
set_option maxHeartbeats 8000000 in
set_option maxRecDepth 100000 in
theorem secateurlaw14_FlowReaches.calls (k : Nat) (A0 : Option Addr) (c0 : Nat) (l0 : List (S36)) (r : Bool) (w : World) (hr0 : Kd.C k36 w A0 l0.length l0) (hc0 : l0.length ≤ c0) (hG : GOk w) (h : secateurlaw14_FlowReaches.f k l0 = some r) :
    Calls Tryd.prog 4 #[.slice A0 l0.length c0] w fun e w' => e = .returned (.bool r) ∧ Below w.heap.size w w' := by
  have HR0 := Aside0.mk hr0
  have HC0 := Aside0.mk hc0
  clear hr0 hc0
  have HB := Aside0.mk (Below.refl w.heap.size w)
  have HG := Aside0.mk hG
  clear hG
  have H : ((secateurlaw14_few.f l0).bind fun t288 => ((secateurlaw14_live.f k).bind fun t291 => (if t291 = true then ((flow_Dist.f t288).bind fun t292 => ((secateurref14_Dist.f k t288).bind fun t295 => ((secateurref01_SameInts.f k t292 t295).bind fun t298 => (if t298 = true then ((flow_Dead.f k t288).bind fun t299 => ((secateurref14_Dead.f k t288).bind fun t302 => ((secateurref01_SameInts.f k t299 t302).bind fun t305 => (if t305 = true then ((flow_Blocks.f k t288).bind fun t306 => ((secateurref14_Blocks.f k t288).bind fun t309 => ((secateurref01_SameInts.f k t306 t309).bind fun t312 => (some t312)))) else (none))))) else (none))))) else (none)))) = some r := h
  clear h
  replace H := Option.bind_eq_some_iff.mp H
  obtain ⟨t288, A20, H⟩ := H
  replace H : ((secateurlaw14_live.f k).bind fun t291 => (if t291 = true then ((flow_Dist.f t288).bind fun t292 => ((secateurref14_Dist.f k t288).bind fun t295 => ((secateurref01_SameInts.f k t292 t295).bind fun t298 => (if t298 = true then ((flow_Dead.f k t288).bind fun t299 => ((secateurref14_Dead.f k t288).bind fun t302 => ((secateurref01_SameInts.f k t299 t302).bind fun t305 => (if t305 = true then ((flow_Blocks.f k t288).bind fun t306 => ((secateurref14_Blocks.f k t288).bind fun t309 => ((secateurref01_SameInts.f k t306 t309).bind fun t312 => (some t312)))) else (none))))) else (none))))) else (none))) = some r := H
  have A2 := Aside0.mk A20
  clear A20
  replace H := Option.bind_eq_some_iff.mp H
  obtain ⟨t291, A30, H⟩ := H
  replace H : (if t291 = true then ((flow_Dist.f t288).bind fun t292 => ((secateurref14_Dist.f k t288).bind fun t295 => ((secateurref01_SameInts.f k t292 t295).bind fun t298 => (if t298 = true then ((flow_Dead.f k t288).bind fun t299 => ((secateurref14_Dead.f k t288).bind fun t302 => ((secateurref01_SameInts.f k t299 t302).bind fun t305 => (if t305 = true then ((flow_Blocks.f k t288).bind fun t306 => ((secateurref14_Blocks.f k t288).bind fun t309 => ((secateurref01_SameInts.f k t306 t309).bind fun t312 => (some t312)))) else (none))))) else (none))))) else (none)) = some r := H
  have A3 := Aside0.mk A30
  clear A30
  by_cases c4 : t291 = true
  · subst c4
    have H1 : ((flow_Dist.f t288).bind fun t292 => ((secateurref14_Dist.f k t288).bind fun t295 => ((secateurref01_SameInts.f k t292 t295).bind fun t298 => (if t298 = true then ((flow_Dead.f k t288).bind fun t299 => ((secateurref14_Dead.f k t288).bind fun t302 => ((secateurref01_SameInts.f k t299 t302).bind fun t305 => (if t305 = true then ((flow_Blocks.f k t288).bind fun t306 => ((secateurref14_Blocks.f k t288).bind fun t309 => ((secateurref01_SameInts.f k t306 t309).bind fun t312 => (some t312)))) else (none))))) else (none))))) = some r := by rw [if_pos rfl] at H; exact H
    clear H
    have H := H1
    clear H1
    replace H := Option.bind_eq_some_iff.mp H
    obtain ⟨t292, A50, H⟩ := H
    replace H : ((secateurref14_Dist.f k t288).bind fun t295 => ((secateurref01_SameInts.f k t292 t295).bind fun t298 => (if t298 = true then ((flow_Dead.f k t288).bind fun t299 => ((secateurref14_Dead.f k t288).bind fun t302 => ((secateurref01_SameInts.f k t299 t302).bind fun t305 => (if t305 = true then ((flow_Blocks.f k t288).bind fun t306 => ((secateurref14_Blocks.f k t288).bind fun t309 => ((secateurref01_SameInts.f k t306 t309).bind fun t312 => (some t312)))) else (none))))) else (none)))) = some r := H
    have A5 := Aside0.mk A50
    clear A50
    replace H := Option.bind_eq_some_iff.mp H
    obtain ⟨t295, A60, H⟩ := H
    replace H : ((secateurref01_SameInts.f k t292 t295).bind fun t298 => (if t298 = true then ((flow_Dead.f k t288).bind fun t299 => ((secateurref14_Dead.f k t288).bind fun t302 => ((secateurref01_SameInts.f k t299 t302).bind fun t305 => (if t305 = true then ((flow_Blocks.f k t288).bind fun t306 => ((secateurref14_Blocks.f k t288).bind fun t309 => ((secateurref01_SameInts.f k t306 t309).bind fun t312 => (some t312)))) else (none))))) else (none))) = some r := H
    have A6 := Aside0.mk A60
    clear A60
    replace H := Option.bind_eq_some_iff.mp H
    obtain ⟨t298, A70, H⟩ := H
    replace H : (if t298 = true then ((flow_Dead.f k t288).bind fun t299 => ((secateurref14_Dead.f k t288).bind fun t302 => ((secateurref01_SameInts.f k t299 t302).bind fun t305 => (if t305 = true then ((flow_Blocks.f k t288).bind fun t306 => ((secateurref14_Blocks.f k t288).bind fun t309 => ((secateurref01_SameInts.f k t306 t309).bind fun t312 => (some t312)))) else (none))))) else (none)) = some r := H
    have A7 := Aside0.mk A70
    clear A70
    by_cases c8 : t298 = true
    · subst c8
      have H1 : ((flow_Dead.f k t288).bind fun t299 => ((secateurref14_Dead.f k t288).bind fun t302 => ((secateurref01_SameInts.f k t299 t302).bind fun t305 => (if t305 = true then ((flow_Blocks.f k t288).bind fun t306 => ((secateurref14_Blocks.f k t288).bind fun t309 => ((secateurref01_SameInts.f k t306 t309).bind fun t312 => (some t312)))) else (none))))) = some r := by rw [if_pos rfl] at H; exact H
      clear H
      have H := H1
      clear H1
      replace H := Option.bind_eq_some_iff.mp H
      obtain ⟨t299, A90, H⟩ := H
      replace H : ((secateurref14_Dead.f k t288).bind fun t302 => ((secateurref01_SameInts.f k t299 t302).bind fun t305 => (if t305 = true then ((flow_Blocks.f k t288).bind fun t306 => ((secateurref14_Blocks.f k t288).bind fun t309 => ((secateurref01_SameInts.f k t306 t309).bind fun t312 => (some t312)))) else (none)))) = some r := H
      have A9 := Aside0.mk A90
      clear A90
      replace H := Option.bind_eq_some_iff.mp H
      obtain ⟨t302, A100, H⟩ := H
      replace H : ((secateurref01_SameInts.f k t299 t302).bind fun t305 => (if t305 = true then ((flow_Blocks.f k t288).bind fun t306 => ((secateurref14_Blocks.f k t288).bind fun t309 => ((secateurref01_SameInts.f k t306 t309).bind fun t312 => (some t312)))) else (none))) = some r := H
      have A10 := Aside0.mk A100
      clear A100
      replace H := Option.bind_eq_some_iff.mp H
      obtain ⟨t305, A110, H⟩ := H
      replace H : (if t305 = true then ((flow_Blocks.f k t288).bind fun t306 => ((secateurref14_Blocks.f k t288).bind fun t309 => ((secateurref01_SameInts.f k t306 t309).bind fun t312 => (some t312)))) else (none)) = some r := H
      have A11 := Aside0.mk A110
      clear A110
      by_cases c12 : t305 = true
      · subst c12
        have H1 : ((flow_Blocks.f k t288).bind fun t306 => ((secateurref14_Blocks.f k t288).bind fun t309 => ((secateurref01_SameInts.f k t306 t309).bind fun t312 => (some t312)))) = some r := by rw [if_pos rfl] at H; exact H
        clear H
        have H := H1
        clear H1
        replace H := Option.bind_eq_some_iff.mp H
        obtain ⟨t306, A130, H⟩ := H
        replace H : ((secateurref14_Blocks.f k t288).bind fun t309 => ((secateurref01_SameInts.f k t306 t309).bind fun t312 => (some t312))) = some r := H
        have A13 := Aside0.mk A130
        clear A130
        replace H := Option.bind_eq_some_iff.mp H
        obtain ⟨t309, A140, H⟩ := H
        replace H : ((secateurref01_SameInts.f k t306 t309).bind fun t312 => (some t312)) = some r := H
        have A14 := Aside0.mk A140
        clear A140
        replace H := Option.bind_eq_some_iff.mp H
        obtain ⟨t312, A150, H⟩ := H
        replace H : (some t312) = some r := H
        have A15 := Aside0.mk A150
        clear A150
        obtain rfl := Option.some.inj H
        go_enter Tryd.func4, Tryd.ntmps4
        go_wp2_with (first | ((with_reducible refine gate_callee (f := 8) rfl ?_); refine goesL_ (some 4) rfl rfl Tryd.func8 (by kernel_rfl) rfl #[.slice A0 l0.length c0] rfl (by (try simp only [List.map_toArray, List.map_cons, List.map_nil]); first | done | rfl | (simp only [List.length_drop, List.length_take]; rfl)) ?_; (with_reducible refine (secateurlaw14_few.calls (fun k_ => k_ < w.heap.size) _ _ l0 t288 _ ?side1 A2.out).mono ?_); (case side1 => exact Kd.V_mk HC0.out (Kd.F_below (Kd.C_F k36_heap HR0.out) (by repeat (first | (with_reducible first | exact HB.out | apply below_alloc | apply pw_below_drewN | apply below_drew1) | exact HB.out)))); rintro e w16 ⟨v289, rfl, ho0, hb⟩; refine ⟨_, rfl, ?_⟩; have n0_ := Aside0.mk (Kd.V_lower (Kd.V_mono (ok' := fun k_ => True) ho0 (fun k_ hk_ => trivial)) (below_size (by repeat (first | (with_reducible first | exact HB.out | apply below_alloc | apply pw_below_drewN | apply below_drew1) | exact HB.out)))); have n1_ := Aside0.mk (below_step (by repeat (first | (with_reducible first | exact HB.out | apply below_alloc | apply pw_below_drewN | apply below_drew1) | exact HB.out)) hb); clear HB; have HO290 := n0_; have HB := n1_; clear n0_ n1_; (try clear hb); (try clear hb2); (try clear hk); (try clear hi); (try clear ho0)) | ((with_reducible refine gate_callee (f := 11) rfl ?_); refine goesL_ (some 5) rfl rfl Tryd.func11 (by kernel_rfl) rfl #[] rfl (by (try simp only [List.map_toArray, List.map_cons, List.map_nil]); first | done | rfl | (simp only [List.length_drop, List.length_take]; rfl)) ?_; (with_reducible refine (secateurlaw14_live.calls k  true _ ?side1 A3.out).mono ?_); (case side1 => exact GOk.below HG.out (by repeat (first | (with_reducible first | exact HB.out | apply below_alloc | apply pw_below_drewN | apply below_drew1) | exact HB.out))); rintro e w17 ⟨rfl, hb⟩; refine ⟨_, rfl, ?_⟩; have n0_ := Aside0.mk (Kd.V_below (by (with_reducible repeat (first | apply Kd.V_alloc | apply Kd.V_drewN | apply Kd.V_drew)); exact HO290.out) hb); have n1_ := Aside0.mk (below_step (by repeat (first | (with_reducible first | exact HB.out | apply below_alloc | apply pw_below_drewN | apply below_drew1) | exact HB.out)) hb); clear HO290; clear HB; have HO290 := n0_; have HB := n1_; clear n0_ n1_; (try clear hb); (try clear hb2); (try clear hk); (try clear hi); obtain ⟨Ao18, co18, eo18⟩ := Kd.V_slice HO290.out; subst eo18) | (go_at_call 17; (with_reducible refine (flow_Dist.calls _ _ t288 t292 _ ?side1 ?side2 ?side3 A5.out).mono ?_); (case side1 => repeat (first | exact (Kd.V_reads' HO290.out).2.2 | (with_reducible refine Kd.C_alloc ?_ _) | (with_reducible refine Kd.C_drewN ?_ _) | (with_reducible refine Kd.C_drew ?_))); (case side2 => exact (Kd.V_reads' HO290.out).2.1); (case side3 => exact GOk.below HG.out (by repeat (first | (with_reducible first | exact HB.out | apply below_alloc | apply pw_below_drewN | apply below_drew1) | exact HB.out))); rintro e w19 ⟨v293, rfl, ho0, hb⟩; have n0_ := Aside0.mk (Kd.V_elder' (by (with_reducible repeat (first | apply Kd.V_alloc | apply Kd.V_drewN | apply Kd.V_drew)); exact HO290.out) (Kd.R_base ho0) hb); have n1_ := Aside0.mk (Kd.R_lower ho0 (below_size (by repeat (first | (with_reducible first | exact HB.out | apply below_alloc | apply pw_below_drewN | apply below_drew1) | exact HB.out)))); have n2_ := Aside0.mk (below_step (by repeat (first | (with_reducible first | exact HB.out | apply below_alloc | apply pw_below_drewN | apply below_drew1) | exact HB.out)) hb); clear HO290; clear HB; have HO290 := n0_; have HO294 := n1_; have HB := n2_; clear n0_ n1_ n2_; (try clear hb); (try clear hb2); (try clear hk); (try clear hi); (try clear ho0)) | (go_at_call 18; (with_reducible refine (secateurref14_Dist.calls k _ _ t288 t295 _ ?side1 ?side2 A6.out).mono ?_); (case side1 => repeat (first | exact (Kd.V_reads' HO290.out).2.2 | (with_reducible refine Kd.C_alloc ?_ _) | (with_reducible refine Kd.C_drewN ?_ _) | (with_reducible refine Kd.C_drew ?_))); (case side2 => exact (Kd.V_reads' HO290.out).2.1); rintro e w20 ⟨v296, rfl, ho0, hb⟩; have n0_ := Aside0.mk (Kd.V_elder' (by (with_reducible repeat (first | apply Kd.V_alloc | apply Kd.V_drewN | apply Kd.V_drew)); exact HO290.out) (Kd.R_base ho0) hb); have n1_ := Aside0.mk (Kd.R_elder' (by (with_reducible repeat (first | apply Kd.R_alloc | apply Kd.R_drewN | apply Kd.R_drew)); exact HO294.out) (Kd.R_base ho0) hb); have n2_ := Aside0.mk (Kd.R_lower (Kd.R_new' ho0 (Kd.R_lt (by (with_reducible repeat (first | apply Kd.R_alloc | apply Kd.R_drewN | apply Kd.R_drew)); exact HO294.out))) (below_size (by repeat (first | (with_reducible first | exact HB.out | apply below_alloc | apply pw_below_drewN | apply below_drew1) | exact HB.out)))); have n3_ := Aside0.mk (below_step (by repeat (first | (with_reducible first | exact HB.out | apply below_alloc | apply pw_below_drewN | apply below_drew1) | exact HB.out)) hb); clear HO290; clear HO294; clear HB; have HO290 := n0_; have HO294 := n1_; have HO297 := n2_; have HB := n3_; clear n0_ n1_ n2_ n3_; (try clear hb); (try clear hb2); (try clear hk); (try clear hi); (try clear ho0); obtain ⟨Ao21, co21, eo21⟩ := Kd.R_slice HO294.out; subst eo21; obtain ⟨Ao22, co22, eo22⟩ := Kd.R_slice HO297.out; subst eo22) | (go_at_call 12; (with_reducible refine (secateurref01_SameInts.calls k _ _ t292 _ _ t295 true _ ?side1 ?side2 ?side3 ?side4 A7.out).mono ?_); (case side1 => repeat (first | exact (Kd.R_reads' HO294.out).2.2 | (with_reducible refine Kd.C_alloc ?_ _) | (with_reducible refine Kd.C_drewN ?_ _) | (with_reducible refine Kd.C_drew ?_))); (case side2 => exact (Kd.R_reads' HO294.out).2.1); (case side3 => repeat (first | exact (Kd.R_reads' HO297.out).2.2 | (with_reducible refine Kd.C_alloc ?_ _) | (with_reducible refine Kd.C_drewN ?_ _) | (with_reducible refine Kd.C_drew ?_))); (case side4 => exact (Kd.R_reads' HO297.out).2.1); rintro e w' ⟨rfl, ⟨nd, rfl⟩⟩) | (go_at_call 19; (with_reducible refine (flow_Dead.calls k _ _ t288 t299 _ ?side1 ?side2 ?side3 A9.out).mono ?_); (case side1 => repeat (first | exact (Kd.V_reads' HO290.out).2.2 | (with_reducible refine Kd.C_alloc ?_ _) | (with_reducible refine Kd.C_drewN ?_ _) | (with_reducible refine Kd.C_drew ?_))); (case side2 => exact (Kd.V_reads' HO290.out).2.1); (case side3 => exact GOk.below HG.out (by repeat (first | (with_reducible first | exact HB.out | apply below_alloc | apply pw_below_drewN | apply below_drew1) | exact HB.out))); rintro e w23 ⟨v300, rfl, ho0, hb⟩; have n0_ := Aside0.mk (Kd.V_elder' (by (with_reducible repeat (first | apply Kd.V_alloc | apply Kd.V_drewN | apply Kd.V_drew)); exact HO290.out) (Kd.R_base ho0) hb); have n1_ := Aside0.mk (Kd.R_elder' (by (with_reducible repeat (first | apply Kd.R_alloc | apply Kd.R_drewN | apply Kd.R_drew)); exact HO294.out) (Kd.R_base ho0) hb); have n2_ := Aside0.mk (Kd.R_elder' (by (with_reducible repeat (first | apply Kd.R_alloc | apply Kd.R_drewN | apply Kd.R_drew)); exact HO297.out) (Kd.R_base ho0) hb); have n3_ := Aside0.mk (Kd.R_lower (Kd.R_new' (Kd.R_new' ho0 (Kd.R_lt (by (with_reducible repeat (first | apply Kd.R_alloc | apply Kd.R_drewN | apply Kd.R_drew)); exact HO294.out))) (Kd.R_lt (by (with_reducible repeat (first | apply Kd.R_alloc | apply Kd.R_drewN | apply Kd.R_drew)); exact HO297.out))) (below_size (by repeat (first | (with_reducible first | exact HB.out | apply below_alloc | apply pw_below_drewN | apply below_drew1) | exact HB.out)))); have n4_ := Aside0.mk (below_step (by repeat (first | (with_reducible first | exact HB.out | apply below_alloc | apply pw_below_drewN | apply below_drew1) | exact HB.out)) hb); clear HO290; clear HO294; clear HO297; clear HB; have HO290 := n0_; have HO294 := n1_; have HO297 := n2_; have HO301 := n3_; have HB := n4_; clear n0_ n1_ n2_ n3_ n4_; (try clear hb); (try clear hb2); (try clear hk); (try clear hi); (try clear ho0)) | (go_at_call 20; (with_reducible refine (secateurref14_Dead.calls k _ _ t288 t302 _ ?side1 ?side2 A10.out).mono ?_); (case side1 => repeat (first | exact (Kd.V_reads' HO290.out).2.2 | (with_reducible refine Kd.C_alloc ?_ _) | (with_reducible refine Kd.C_drewN ?_ _) | (with_reducible refine Kd.C_drew ?_))); (case side2 => exact (Kd.V_reads' HO290.out).2.1); rintro e w24 ⟨v303, rfl, ho0, hb⟩; have n0_ := Aside0.mk (Kd.V_elder' (by (with_reducible repeat (first | apply Kd.V_alloc | apply Kd.V_drewN | apply Kd.V_drew)); exact HO290.out) (Kd.R_base ho0) hb); have n1_ := Aside0.mk (Kd.R_elder' (by (with_reducible repeat (first | apply Kd.R_alloc | apply Kd.R_drewN | apply Kd.R_drew)); exact HO294.out) (Kd.R_base ho0) hb); have n2_ := Aside0.mk (Kd.R_elder' (by (with_reducible repeat (first | apply Kd.R_alloc | apply Kd.R_drewN | apply Kd.R_drew)); exact HO297.out) (Kd.R_base ho0) hb); have n3_ := Aside0.mk (Kd.R_elder' (by (with_reducible repeat (first | apply Kd.R_alloc | apply Kd.R_drewN | apply Kd.R_drew)); exact HO301.out) (Kd.R_base ho0) hb); have n4_ := Aside0.mk (Kd.R_lower (Kd.R_new' (Kd.R_new' (Kd.R_new' ho0 (Kd.R_lt (by (with_reducible repeat (first | apply Kd.R_alloc | apply Kd.R_drewN | apply Kd.R_drew)); exact HO294.out))) (Kd.R_lt (by (with_reducible repeat (first | apply Kd.R_alloc | apply Kd.R_drewN | apply Kd.R_drew)); exact HO297.out))) (Kd.R_lt (by (with_reducible repeat (first | apply Kd.R_alloc | apply Kd.R_drewN | apply Kd.R_drew)); exact HO301.out))) (below_size (by repeat (first | (with_reducible first | exact HB.out | apply below_alloc | apply pw_below_drewN | apply below_drew1) | exact HB.out)))); have n5_ := Aside0.mk (below_step (by repeat (first | (with_reducible first | exact HB.out | apply below_alloc | apply pw_below_drewN | apply below_drew1) | exact HB.out)) hb); clear HO290; clear HO294; clear HO297; clear HO301; clear HB; have HO290 := n0_; have HO294 := n1_; have HO297 := n2_; have HO301 := n3_; have HO304 := n4_; have HB := n5_; clear n0_ n1_ n2_ n3_ n4_ n5_; (try clear hb); (try clear hb2); (try clear hk); (try clear hi); (try clear ho0); obtain ⟨Ao25, co25, eo25⟩ := Kd.R_slice HO301.out; subst eo25; obtain ⟨Ao26, co26, eo26⟩ := Kd.R_slice HO304.out; subst eo26) | (go_at_call 12; (with_reducible refine (secateurref01_SameInts.calls k _ _ t299 _ _ t302 true _ ?side1 ?side2 ?side3 ?side4 A11.out).mono ?_); (case side1 => repeat (first | exact (Kd.R_reads' HO301.out).2.2 | (with_reducible refine Kd.C_alloc ?_ _) | (with_reducible refine Kd.C_drewN ?_ _) | (with_reducible refine Kd.C_drew ?_))); (case side2 => exact (Kd.R_reads' HO301.out).2.1); (case side3 => repeat (first | exact (Kd.R_reads' HO304.out).2.2 | (with_reducible refine Kd.C_alloc ?_ _) | (with_reducible refine Kd.C_drewN ?_ _) | (with_reducible refine Kd.C_drew ?_))); (case side4 => exact (Kd.R_reads' HO304.out).2.1); rintro e w' ⟨rfl, ⟨nd, rfl⟩⟩) | (go_at_call 21; (with_reducible refine (flow_Blocks.calls k _ _ t288 t306 _ ?side1 ?side2 ?side3 A13.out).mono ?_); (case side1 => repeat (first | exact (Kd.V_reads' HO290.out).2.2 | (with_reducible refine Kd.C_alloc ?_ _) | (with_reducible refine Kd.C_drewN ?_ _) | (with_reducible refine Kd.C_drew ?_))); (case side2 => exact (Kd.V_reads' HO290.out).2.1); (case side3 => exact GOk.below HG.out (by repeat (first | (with_reducible first | exact HB.out | apply below_alloc | apply pw_below_drewN | apply below_drew1) | exact HB.out))); rintro e w27 ⟨v307, rfl, ho0, hb⟩; have n0_ := Aside0.mk (Kd.V_elder' (by (with_reducible repeat (first | apply Kd.V_alloc | apply Kd.V_drewN | apply Kd.V_drew)); exact HO290.out) (Kd.R_base ho0) hb); have n1_ := Aside0.mk (Kd.R_elder' (by (with_reducible repeat (first | apply Kd.R_alloc | apply Kd.R_drewN | apply Kd.R_drew)); exact HO294.out) (Kd.R_base ho0) hb); have n2_ := Aside0.mk (Kd.R_elder' (by (with_reducible repeat (first | apply Kd.R_alloc | apply Kd.R_drewN | apply Kd.R_drew)); exact HO297.out) (Kd.R_base ho0) hb); have n3_ := Aside0.mk (Kd.R_elder' (by (with_reducible repeat (first | apply Kd.R_alloc | apply Kd.R_drewN | apply Kd.R_drew)); exact HO301.out) (Kd.R_base ho0) hb); have n4_ := Aside0.mk (Kd.R_elder' (by (with_reducible repeat (first | apply Kd.R_alloc | apply Kd.R_drewN | apply Kd.R_drew)); exact HO304.out) (Kd.R_base ho0) hb); have n5_ := Aside0.mk (Kd.R_lower (Kd.R_new' (Kd.R_new' (Kd.R_new' (Kd.R_new' ho0 (Kd.R_lt (by (with_reducible repeat (first | apply Kd.R_alloc | apply Kd.R_drewN | apply Kd.R_drew)); exact HO294.out))) (Kd.R_lt (by (with_reducible repeat (first | apply Kd.R_alloc | apply Kd.R_drewN | apply Kd.R_drew)); exact HO297.out))) (Kd.R_lt (by (with_reducible repeat (first | apply Kd.R_alloc | apply Kd.R_drewN | apply Kd.R_drew)); exact HO301.out))) (Kd.R_lt (by (with_reducible repeat (first | apply Kd.R_alloc | apply Kd.R_drewN | apply Kd.R_drew)); exact HO304.out))) (below_size (by repeat (first | (with_reducible first | exact HB.out | apply below_alloc | apply pw_below_drewN | apply below_drew1) | exact HB.out)))); have n6_ := Aside0.mk (below_step (by repeat (first | (with_reducible first | exact HB.out | apply below_alloc | apply pw_below_drewN | apply below_drew1) | exact HB.out)) hb); clear HO290; clear HO294; clear HO297; clear HO301; clear HO304; clear HB; have HO290 := n0_; have HO294 := n1_; have HO297 := n2_; have HO301 := n3_; have HO304 := n4_; have HO308 := n5_; have HB := n6_; clear n0_ n1_ n2_ n3_ n4_ n5_ n6_; (try clear hb); (try clear hb2); (try clear hk); (try clear hi); (try clear ho0)) | (go_at_call 22; (with_reducible refine (secateurref14_Blocks.calls k _ _ t288 t309 _ ?side1 ?side2 A14.out).mono ?_); (case side1 => repeat (first | exact (Kd.V_reads' HO290.out).2.2 | (with_reducible refine Kd.C_alloc ?_ _) | (with_reducible refine Kd.C_drewN ?_ _) | (with_reducible refine Kd.C_drew ?_))); (case side2 => exact (Kd.V_reads' HO290.out).2.1); rintro e w28 ⟨v310, rfl, ho0, hb⟩; have n0_ := Aside0.mk (Kd.V_elder' (by (with_reducible repeat (first | apply Kd.V_alloc | apply Kd.V_drewN | apply Kd.V_drew)); exact HO290.out) (Kd.R_base ho0) hb); have n1_ := Aside0.mk (Kd.R_elder' (by (with_reducible repeat (first | apply Kd.R_alloc | apply Kd.R_drewN | apply Kd.R_drew)); exact HO294.out) (Kd.R_base ho0) hb); have n2_ := Aside0.mk (Kd.R_elder' (by (with_reducible repeat (first | apply Kd.R_alloc | apply Kd.R_drewN | apply Kd.R_drew)); exact HO297.out) (Kd.R_base ho0) hb); have n3_ := Aside0.mk (Kd.R_elder' (by (with_reducible repeat (first | apply Kd.R_alloc | apply Kd.R_drewN | apply Kd.R_drew)); exact HO301.out) (Kd.R_base ho0) hb); have n4_ := Aside0.mk (Kd.R_elder' (by (with_reducible repeat (first | apply Kd.R_alloc | apply Kd.R_drewN | apply Kd.R_drew)); exact HO304.out) (Kd.R_base ho0) hb); have n5_ := Aside0.mk (Kd.R_elder' (by (with_reducible repeat (first | apply Kd.R_alloc | apply Kd.R_drewN | apply Kd.R_drew)); exact HO308.out) (Kd.R_base ho0) hb); have n6_ := Aside0.mk (Kd.R_lower (Kd.R_new' (Kd.R_new' (Kd.R_new' (Kd.R_new' (Kd.R_new' ho0 (Kd.R_lt (by (with_reducible repeat (first | apply Kd.R_alloc | apply Kd.R_drewN | apply Kd.R_drew)); exact HO294.out))) (Kd.R_lt (by (with_reducible repeat (first | apply Kd.R_alloc | apply Kd.R_drewN | apply Kd.R_drew)); exact HO297.out))) (Kd.R_lt (by (with_reducible repeat (first | apply Kd.R_alloc | apply Kd.R_drewN | apply Kd.R_drew)); exact HO301.out))) (Kd.R_lt (by (with_reducible repeat (first | apply Kd.R_alloc | apply Kd.R_drewN | apply Kd.R_drew)); exact HO304.out))) (Kd.R_lt (by (with_reducible repeat (first | apply Kd.R_alloc | apply Kd.R_drewN | apply Kd.R_drew)); exact HO308.out))) (below_size (by repeat (first | (with_reducible first | exact HB.out | apply below_alloc | apply pw_below_drewN | apply below_drew1) | exact HB.out)))); have n7_ := Aside0.mk (below_step (by repeat (first | (with_reducible first | exact HB.out | apply below_alloc | apply pw_below_drewN | apply below_drew1) | exact HB.out)) hb); clear HO290; clear HO294; clear HO297; clear HO301; clear HO304; clear HO308; clear HB; have HO290 := n0_; have HO294 := n1_; have HO297 := n2_; have HO301 := n3_; have HO304 := n4_; have HO308 := n5_; have HO311 := n6_; have HB := n7_; clear n0_ n1_ n2_ n3_ n4_ n5_ n6_ n7_; (try clear hb); (try clear hb2); (try clear hk); (try clear hi); (try clear ho0); obtain ⟨Ao29, co29, eo29⟩ := Kd.R_slice HO308.out; subst eo29; obtain ⟨Ao30, co30, eo30⟩ := Kd.R_slice HO311.out; subst eo30) | (go_at_call 12; (with_reducible refine (secateurref01_SameInts.calls k _ _ t306 _ _ t309 t312 _ ?side1 ?side2 ?side3 ?side4 A15.out).mono ?_); (case side1 => repeat (first | exact (Kd.R_reads' HO308.out).2.2 | (with_reducible refine Kd.C_alloc ?_ _) | (with_reducible refine Kd.C_drewN ?_ _) | (with_reducible refine Kd.C_drew ?_))); (case side2 => exact (Kd.R_reads' HO308.out).2.1); (case side3 => repeat (first | exact (Kd.R_reads' HO311.out).2.2 | (with_reducible refine Kd.C_alloc ?_ _) | (with_reducible refine Kd.C_drewN ?_ _) | (with_reducible refine Kd.C_drew ?_))); (case side4 => exact (Kd.R_reads' HO311.out).2.1); rintro e w' ⟨rfl, ⟨nd, rfl⟩⟩))
        go_ret
        exact ⟨by first | rfl | (simp [errW_none, errW_some] <;> rfl) | (simp [*, errW_none, errW_some] <;> rfl), by repeat (first | (with_reducible first | exact HB.out | apply below_alloc | apply pw_below_drewN | apply below_drew1) | exact HB.out)⟩
      · replace c12 := Bool.eq_false_iff.mpr c12
        subst c12
        have H1 : (none) = some r := by rw [if_neg (show ¬ (false = true) by decide)] at H; exact H
        clear H
        have H := H1
        clear H1
        exact absurd H (by simp)
    · replace c8 := Bool.eq_false_iff.mpr c8
      subst c8
      have H1 : (none) = some r := by rw [if_neg (show ¬ (false = true) by decide)] at H; exact H
      clear H
      have H := H1
      clear H1
      exact absurd H (by simp)
  · replace c4 := Bool.eq_false_iff.mpr c4
    subst c4
    have H1 : (none) = some r := by rw [if_neg (show ¬ (false = true) by decide)] at H; exact H
    clear H
    have H := H1
    clear H1
    exact absurd H (by simp)

end Go.Proofs.YtciilgcinicdiaaDoor.X
