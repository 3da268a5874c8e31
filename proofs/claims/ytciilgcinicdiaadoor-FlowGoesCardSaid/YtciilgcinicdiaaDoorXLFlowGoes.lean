/- Written by wip/xprint.py (a program of this session's) out of the translation, over the kit's print: each Go function as a Lean function, and that the machine's call does what it says. Not trusted: Lean checks it. -/
import Derived.Test.YtciilgcinicdiaaDoorX0
import Derived.Test.YtciilgcinicdiaaDoorXaflow
import Derived.Test.YtciilgcinicdiaaDoorXag
import Derived.Test.YtciilgcinicdiaaDoorXflowB
import Derived.Test.YtciilgcinicdiaaDoorXflowC
import Derived.Test.YtciilgcinicdiaaDoorXsecateurlaw14
import Derived.Test.YtciilgcinicdiaaDoorXsecateurlaw14C
import Derived.Test.YtciilgcinicdiaaDoorXsecateurref01
import Derived.Test.YtciilgcinicdiaaDoorXsecateurref14
namespace Go.Proofs.YtciilgcinicdiaaDoor.X
open Go.RowKit Go.Proofs.YtciilgcinicdiaaDoorW.PrintWords Go.Proofs.YtciilgcinicdiaaDoorW.PrintLast Go.Proofs.YtciilgcinicdiaaDoorW.PrintMore
attribute [local go_sem] max2_int min2_int max_two min_two max_three min_three max_four min_four   -- for this text's walks alone
set_option linter.unusedVariables false
set_option linter.unusedSimpArgs false

/-! ### secateurlaw14_FlowGoes: function 3 -/
def secateurlaw14_FlowGoes.f (k : Nat) (l0 : List (S36)) (a1 : Int) : Option (Bool) := (secateurlaw14_few.f l0).bind fun t238 => ((flow_Check.f k t238).bind fun bt241 => ((secateurref14_Check.f k t238).bind fun bt243 => ((secateurlaw14_live.f k).bind fun t245 => (if t245 = true then ((flow_Next.f t238 a1).bind fun t246 => ((secateurref14_Next.f k t238 a1).bind fun t249 => ((secateurref01_SameInts.f k t246 t249).bind fun t252 => (if t252 = true then ((flow_Back.f k t238 a1).bind fun t253 => ((secateurref14_Back.f k t238 a1).bind fun t256 => ((secateurref01_SameInts.f k t253 t256).bind fun t259 => (if t259 = true then (if bt241.1 = bt243.1 then (some (bt241.2 == bt243.2)) else (none)) else (none))))) else (none))))) else (none)))))
theorem secateurlaw14_FlowGoes.mono : ∀ a0 a1 k, LeO (secateurlaw14_FlowGoes.f k a0 a1) (secateurlaw14_FlowGoes.f (k + 1) a0 a1) := by
  intro a0 a1 k
  unfold secateurlaw14_FlowGoes.f
  repeat' first
      | (with_reducible exact flow_Back.mono _ _ _)
      | (with_reducible exact flow_Check.mono _ _)
      | (with_reducible exact secateurlaw14_live.mono _)
      | (with_reducible exact secateurref01_SameInts.mono _ _ _)
      | (with_reducible exact secateurref14_Back.mono _ _ _)
      | (with_reducible exact secateurref14_Check.mono _ _)
      | (with_reducible exact secateurref14_Next.mono _ _ _)
      | (with_reducible exact LeO.refl _)
      | (with_reducible exact LeO.none _)
      | (with_reducible refine LeO.ite ?_ ?_)
      | (with_reducible refine LeO.bind ?_ (fun _ => ?_))
      | exact flow_Back.mono _ _ _
      | exact flow_Check.mono _ _
      | exact secateurlaw14_live.mono _
      | exact secateurref01_SameInts.mono _ _ _
      | exact secateurref14_Back.mono _ _ _
      | exact secateurref14_Check.mono _ _
      | exact secateurref14_Next.mono _ _ _
      | exact LeO.none _
      | refine LeO.ite ?_ ?_
      | refine LeO.bind ?_ (fun _ => ?_)
set_option maxHeartbeats 8000000 in
set_option maxRecDepth 100000 in
theorem secateurlaw14_FlowGoes.calls (k : Nat) (A0 : Option Addr) (c0 : Nat) (l0 : List (S36)) (a1 : Int) (r : Bool) (w : World) (hr0 : Kd.C k36 w A0 l0.length l0) (hc0 : l0.length ≤ c0) (hG : GOk w) (h : secateurlaw14_FlowGoes.f k l0 a1 = some r) :
    Calls Tryd.prog 3 #[.slice A0 l0.length c0, .int .i64 a1] w fun e w' => e = .returned (.bool r) ∧ Below w.heap.size w w' := by
  have HR0 := Aside0.mk hr0
  have HC0 := Aside0.mk hc0
  clear hr0 hc0
  have HB := Aside0.mk (Below.refl w.heap.size w)
  have HG := Aside0.mk hG
  clear hG
  have H : ((secateurlaw14_few.f l0).bind fun t238 => ((flow_Check.f k t238).bind fun bt241 => ((secateurref14_Check.f k t238).bind fun bt243 => ((secateurlaw14_live.f k).bind fun t245 => (if t245 = true then ((flow_Next.f t238 a1).bind fun t246 => ((secateurref14_Next.f k t238 a1).bind fun t249 => ((secateurref01_SameInts.f k t246 t249).bind fun t252 => (if t252 = true then ((flow_Back.f k t238 a1).bind fun t253 => ((secateurref14_Back.f k t238 a1).bind fun t256 => ((secateurref01_SameInts.f k t253 t256).bind fun t259 => (if t259 = true then (if bt241.1 = bt243.1 then (some (bt241.2 == bt243.2)) else (none)) else (none))))) else (none))))) else (none)))))) = some r := h
  clear h
  replace H := Option.bind_eq_some_iff.mp H
  obtain ⟨t238, A30, H⟩ := H
  replace H : ((flow_Check.f k t238).bind fun bt241 => ((secateurref14_Check.f k t238).bind fun bt243 => ((secateurlaw14_live.f k).bind fun t245 => (if t245 = true then ((flow_Next.f t238 a1).bind fun t246 => ((secateurref14_Next.f k t238 a1).bind fun t249 => ((secateurref01_SameInts.f k t246 t249).bind fun t252 => (if t252 = true then ((flow_Back.f k t238 a1).bind fun t253 => ((secateurref14_Back.f k t238 a1).bind fun t256 => ((secateurref01_SameInts.f k t253 t256).bind fun t259 => (if t259 = true then (if bt241.1 = bt243.1 then (some (bt241.2 == bt243.2)) else (none)) else (none))))) else (none))))) else (none))))) = some r := H
  have A3 := Aside0.mk A30
  clear A30
  replace H := Option.bind_eq_some_iff.mp H
  obtain ⟨⟨t241, t242⟩, A40, H⟩ := H
  replace H : ((secateurref14_Check.f k t238).bind fun bt243 => ((secateurlaw14_live.f k).bind fun t245 => (if t245 = true then ((flow_Next.f t238 a1).bind fun t246 => ((secateurref14_Next.f k t238 a1).bind fun t249 => ((secateurref01_SameInts.f k t246 t249).bind fun t252 => (if t252 = true then ((flow_Back.f k t238 a1).bind fun t253 => ((secateurref14_Back.f k t238 a1).bind fun t256 => ((secateurref01_SameInts.f k t253 t256).bind fun t259 => (if t259 = true then (if t241 = bt243.1 then (some (t242 == bt243.2)) else (none)) else (none))))) else (none))))) else (none)))) = some r := H
  have A4 := Aside0.mk A40
  clear A40
  replace H := Option.bind_eq_some_iff.mp H
  obtain ⟨⟨t243, t244⟩, A50, H⟩ := H
  replace H : ((secateurlaw14_live.f k).bind fun t245 => (if t245 = true then ((flow_Next.f t238 a1).bind fun t246 => ((secateurref14_Next.f k t238 a1).bind fun t249 => ((secateurref01_SameInts.f k t246 t249).bind fun t252 => (if t252 = true then ((flow_Back.f k t238 a1).bind fun t253 => ((secateurref14_Back.f k t238 a1).bind fun t256 => ((secateurref01_SameInts.f k t253 t256).bind fun t259 => (if t259 = true then (if t241 = t243 then (some (t242 == t244)) else (none)) else (none))))) else (none))))) else (none))) = some r := H
  have A5 := Aside0.mk A50
  clear A50
  replace H := Option.bind_eq_some_iff.mp H
  obtain ⟨t245, A60, H⟩ := H
  replace H : (if t245 = true then ((flow_Next.f t238 a1).bind fun t246 => ((secateurref14_Next.f k t238 a1).bind fun t249 => ((secateurref01_SameInts.f k t246 t249).bind fun t252 => (if t252 = true then ((flow_Back.f k t238 a1).bind fun t253 => ((secateurref14_Back.f k t238 a1).bind fun t256 => ((secateurref01_SameInts.f k t253 t256).bind fun t259 => (if t259 = true then (if t241 = t243 then (some (t242 == t244)) else (none)) else (none))))) else (none))))) else (none)) = some r := H
  have A6 := Aside0.mk A60
  clear A60
  by_cases c7 : t245 = true
  · subst c7
    have H1 : ((flow_Next.f t238 a1).bind fun t246 => ((secateurref14_Next.f k t238 a1).bind fun t249 => ((secateurref01_SameInts.f k t246 t249).bind fun t252 => (if t252 = true then ((flow_Back.f k t238 a1).bind fun t253 => ((secateurref14_Back.f k t238 a1).bind fun t256 => ((secateurref01_SameInts.f k t253 t256).bind fun t259 => (if t259 = true then (if t241 = t243 then (some (t242 == t244)) else (none)) else (none))))) else (none))))) = some r := by rw [if_pos rfl] at H; exact H
    clear H
    have H := H1
    clear H1
    replace H := Option.bind_eq_some_iff.mp H
    obtain ⟨t246, A80, H⟩ := H
    replace H : ((secateurref14_Next.f k t238 a1).bind fun t249 => ((secateurref01_SameInts.f k t246 t249).bind fun t252 => (if t252 = true then ((flow_Back.f k t238 a1).bind fun t253 => ((secateurref14_Back.f k t238 a1).bind fun t256 => ((secateurref01_SameInts.f k t253 t256).bind fun t259 => (if t259 = true then (if t241 = t243 then (some (t242 == t244)) else (none)) else (none))))) else (none)))) = some r := H
    have A8 := Aside0.mk A80
    clear A80
    replace H := Option.bind_eq_some_iff.mp H
    obtain ⟨t249, A90, H⟩ := H
    replace H : ((secateurref01_SameInts.f k t246 t249).bind fun t252 => (if t252 = true then ((flow_Back.f k t238 a1).bind fun t253 => ((secateurref14_Back.f k t238 a1).bind fun t256 => ((secateurref01_SameInts.f k t253 t256).bind fun t259 => (if t259 = true then (if t241 = t243 then (some (t242 == t244)) else (none)) else (none))))) else (none))) = some r := H
    have A9 := Aside0.mk A90
    clear A90
    replace H := Option.bind_eq_some_iff.mp H
    obtain ⟨t252, A100, H⟩ := H
    replace H : (if t252 = true then ((flow_Back.f k t238 a1).bind fun t253 => ((secateurref14_Back.f k t238 a1).bind fun t256 => ((secateurref01_SameInts.f k t253 t256).bind fun t259 => (if t259 = true then (if t241 = t243 then (some (t242 == t244)) else (none)) else (none))))) else (none)) = some r := H
    have A10 := Aside0.mk A100
    clear A100
    by_cases c11 : t252 = true
    · subst c11
      have H1 : ((flow_Back.f k t238 a1).bind fun t253 => ((secateurref14_Back.f k t238 a1).bind fun t256 => ((secateurref01_SameInts.f k t253 t256).bind fun t259 => (if t259 = true then (if t241 = t243 then (some (t242 == t244)) else (none)) else (none))))) = some r := by rw [if_pos rfl] at H; exact H
      clear H
      have H := H1
      clear H1
      replace H := Option.bind_eq_some_iff.mp H
      obtain ⟨t253, A120, H⟩ := H
      replace H : ((secateurref14_Back.f k t238 a1).bind fun t256 => ((secateurref01_SameInts.f k t253 t256).bind fun t259 => (if t259 = true then (if t241 = t243 then (some (t242 == t244)) else (none)) else (none)))) = some r := H
      have A12 := Aside0.mk A120
      clear A120
      replace H := Option.bind_eq_some_iff.mp H
      obtain ⟨t256, A130, H⟩ := H
      replace H : ((secateurref01_SameInts.f k t253 t256).bind fun t259 => (if t259 = true then (if t241 = t243 then (some (t242 == t244)) else (none)) else (none))) = some r := H
      have A13 := Aside0.mk A130
      clear A130
      replace H := Option.bind_eq_some_iff.mp H
      obtain ⟨t259, A140, H⟩ := H
      replace H : (if t259 = true then (if t241 = t243 then (some (t242 == t244)) else (none)) else (none)) = some r := H
      have A14 := Aside0.mk A140
      clear A140
      by_cases c15 : t259 = true
      · subst c15
        have H1 : (if t241 = t243 then (some (t242 == t244)) else (none)) = some r := by rw [if_pos rfl] at H; exact H
        clear H
        have H := H1
        clear H1
        by_cases c16 : t241 = t243
        · rw [if_pos c16] at H
          have c16b0 : (t241 == t243) = true := beq_iff_eq.mpr c16
          have c16b1 : (t241 != t243) = false := bne_eq_false_iff_eq.mpr c16
          clear c16
          obtain rfl := Option.some.inj H
          go_enter Tryd.func3, Tryd.ntmps3
          go_wp2_with (first | ((with_reducible refine gate_callee (f := 8) rfl ?_); refine goesL_ (some 10) rfl rfl Tryd.func8 (by kernel_rfl) rfl #[.slice A0 l0.length c0] rfl (by (try simp only [List.map_toArray, List.map_cons, List.map_nil]); first | done | rfl | (simp only [List.length_drop, List.length_take]; rfl)) ?_; (with_reducible refine (secateurlaw14_few.calls (fun k_ => k_ < w.heap.size) _ _ l0 t238 _ ?side1 A3.out).mono ?_); (case side1 => exact Kd.V_mk HC0.out (Kd.F_below (Kd.C_F k36_heap HR0.out) (by repeat (first | (with_reducible first | exact HB.out | apply below_alloc | apply pw_below_drewN | apply below_drew1) | exact HB.out)))); rintro e w17 ⟨v239, rfl, ho0, hb⟩; refine ⟨_, rfl, ?_⟩; have n0_ := Aside0.mk (Kd.V_lower (Kd.V_mono (ok' := fun k_ => True) ho0 (fun k_ hk_ => trivial)) (below_size (by repeat (first | (with_reducible first | exact HB.out | apply below_alloc | apply pw_below_drewN | apply below_drew1) | exact HB.out)))); have n1_ := Aside0.mk (below_step (by repeat (first | (with_reducible first | exact HB.out | apply below_alloc | apply pw_below_drewN | apply below_drew1) | exact HB.out)) hb); clear HB; have HO240 := n0_; have HB := n1_; clear n0_ n1_; (try clear hb); (try clear hb2); (try clear hk); (try clear hi); (try clear ho0); obtain ⟨Ao18, co18, eo18⟩ := Kd.V_slice HO240.out; subst eo18) | ((with_reducible refine gate_callee (f := 9) rfl ?_); refine goesL_ (some 13) rfl rfl Tryd.func9 (by kernel_rfl) rfl #[.slice Ao18 t238.length co18] rfl (by (try simp only [List.map_toArray, List.map_cons, List.map_nil]); first | done | rfl | (simp only [List.length_drop, List.length_take]; rfl)) ?_; (with_reducible refine (flow_Check.calls k _ _ t238 t241 t242 _ ?side1 ?side2 ?side3 A4.out).mono ?_); (case side1 => repeat (first | exact (Kd.V_reads' HO240.out).2.2 | (with_reducible refine Kd.C_alloc ?_ _) | (with_reducible refine Kd.C_drewN ?_ _) | (with_reducible refine Kd.C_drew ?_))); (case side2 => exact (Kd.V_reads' HO240.out).2.1); (case side3 => exact GOk.below HG.out (by repeat (first | (with_reducible first | exact HB.out | apply below_alloc | apply pw_below_drewN | apply below_drew1) | exact HB.out))); rintro e w19 ⟨rfl, hb⟩; refine ⟨_, rfl, ?_⟩; have n0_ := Aside0.mk (Kd.V_below (by (with_reducible repeat (first | apply Kd.V_alloc | apply Kd.V_drewN | apply Kd.V_drew)); exact HO240.out) hb); have n1_ := Aside0.mk (below_step (by repeat (first | (with_reducible first | exact HB.out | apply below_alloc | apply pw_below_drewN | apply below_drew1) | exact HB.out)) hb); clear HO240; clear HB; have HO240 := n0_; have HB := n1_; clear n0_ n1_; (try clear hb); (try clear hb2); (try clear hk); (try clear hi)) | ((with_reducible refine gate_callee (f := 10) rfl ?_); refine goesL_ (some 18) rfl rfl Tryd.func10 (by kernel_rfl) rfl #[.slice Ao18 t238.length co18] rfl (by (try simp only [List.map_toArray, List.map_cons, List.map_nil]); first | done | rfl | (simp only [List.length_drop, List.length_take]; rfl)) ?_; (with_reducible refine (secateurref14_Check.calls k _ _ t238 t243 t244 _ ?side1 ?side2 A5.out).mono ?_); (case side1 => repeat (first | exact (Kd.V_reads' HO240.out).2.2 | (with_reducible refine Kd.C_alloc ?_ _) | (with_reducible refine Kd.C_drewN ?_ _) | (with_reducible refine Kd.C_drew ?_))); (case side2 => exact (Kd.V_reads' HO240.out).2.1); rintro e w' ⟨rfl, ⟨nd, rfl⟩⟩; refine ⟨_, rfl, ?_⟩) | ((with_reducible refine gate_callee (f := 11) rfl ?_); refine goesL_ (some 21) rfl rfl Tryd.func11 (by kernel_rfl) rfl #[] rfl (by (try simp only [List.map_toArray, List.map_cons, List.map_nil]); first | done | rfl | (simp only [List.length_drop, List.length_take]; rfl)) ?_; (with_reducible refine (secateurlaw14_live.calls k  true _ ?side1 A6.out).mono ?_); (case side1 => exact GOk.below HG.out (by repeat (first | (with_reducible first | exact HB.out | apply below_alloc | apply pw_below_drewN | apply below_drew1) | exact HB.out))); rintro e w20 ⟨rfl, hb⟩; refine ⟨_, rfl, ?_⟩; have n0_ := Aside0.mk (Kd.V_below (by (with_reducible repeat (first | apply Kd.V_alloc | apply Kd.V_drewN | apply Kd.V_drew)); exact HO240.out) hb); have n1_ := Aside0.mk (below_step (by repeat (first | (with_reducible first | exact HB.out | apply below_alloc | apply pw_below_drewN | apply below_drew1) | exact HB.out)) hb); clear HO240; clear HB; have HO240 := n0_; have HB := n1_; clear n0_ n1_; (try clear hb); (try clear hb2); (try clear hk); (try clear hi)) | (go_at_call 13; (with_reducible refine (flow_Next.calls _ _ t238 a1 t246 _ ?side1 ?side2 ?side3 A8.out).mono ?_); (case side1 => repeat (first | exact (Kd.V_reads' HO240.out).2.2 | (with_reducible refine Kd.C_alloc ?_ _) | (with_reducible refine Kd.C_drewN ?_ _) | (with_reducible refine Kd.C_drew ?_))); (case side2 => exact (Kd.V_reads' HO240.out).2.1); (case side3 => exact GOk.below HG.out (by repeat (first | (with_reducible first | exact HB.out | apply below_alloc | apply pw_below_drewN | apply below_drew1) | exact HB.out))); rintro e w21 ⟨v247, rfl, ho0, hb⟩; have n0_ := Aside0.mk (Kd.V_elder' (by (with_reducible repeat (first | apply Kd.V_alloc | apply Kd.V_drewN | apply Kd.V_drew)); exact HO240.out) (Kd.R_base ho0) hb); have n1_ := Aside0.mk (Kd.R_lower ho0 (below_size (by repeat (first | (with_reducible first | exact HB.out | apply below_alloc | apply pw_below_drewN | apply below_drew1) | exact HB.out)))); have n2_ := Aside0.mk (below_step (by repeat (first | (with_reducible first | exact HB.out | apply below_alloc | apply pw_below_drewN | apply below_drew1) | exact HB.out)) hb); clear HO240; clear HB; have HO240 := n0_; have HO248 := n1_; have HB := n2_; clear n0_ n1_ n2_; (try clear hb); (try clear hb2); (try clear hk); (try clear hi); (try clear ho0)) | (go_at_call 14; (with_reducible refine (secateurref14_Next.calls k _ _ t238 a1 t249 _ ?side1 ?side2 A9.out).mono ?_); (case side1 => repeat (first | exact (Kd.V_reads' HO240.out).2.2 | (with_reducible refine Kd.C_alloc ?_ _) | (with_reducible refine Kd.C_drewN ?_ _) | (with_reducible refine Kd.C_drew ?_))); (case side2 => exact (Kd.V_reads' HO240.out).2.1); rintro e w22 ⟨v250, rfl, ho0, hb⟩; have n0_ := Aside0.mk (Kd.V_elder' (by (with_reducible repeat (first | apply Kd.V_alloc | apply Kd.V_drewN | apply Kd.V_drew)); exact HO240.out) (Kd.R_base ho0) hb); have n1_ := Aside0.mk (Kd.R_elder' (by (with_reducible repeat (first | apply Kd.R_alloc | apply Kd.R_drewN | apply Kd.R_drew)); exact HO248.out) (Kd.R_base ho0) hb); have n2_ := Aside0.mk (Kd.R_lower (Kd.R_new' ho0 (Kd.R_lt (by (with_reducible repeat (first | apply Kd.R_alloc | apply Kd.R_drewN | apply Kd.R_drew)); exact HO248.out))) (below_size (by repeat (first | (with_reducible first | exact HB.out | apply below_alloc | apply pw_below_drewN | apply below_drew1) | exact HB.out)))); have n3_ := Aside0.mk (below_step (by repeat (first | (with_reducible first | exact HB.out | apply below_alloc | apply pw_below_drewN | apply below_drew1) | exact HB.out)) hb); clear HO240; clear HO248; clear HB; have HO240 := n0_; have HO248 := n1_; have HO251 := n2_; have HB := n3_; clear n0_ n1_ n2_ n3_; (try clear hb); (try clear hb2); (try clear hk); (try clear hi); (try clear ho0); obtain ⟨Ao23, co23, eo23⟩ := Kd.R_slice HO248.out; subst eo23; obtain ⟨Ao24, co24, eo24⟩ := Kd.R_slice HO251.out; subst eo24) | (go_at_call 12; (with_reducible refine (secateurref01_SameInts.calls k _ _ t246 _ _ t249 true _ ?side1 ?side2 ?side3 ?side4 A10.out).mono ?_); (case side1 => repeat (first | exact (Kd.R_reads' HO248.out).2.2 | (with_reducible refine Kd.C_alloc ?_ _) | (with_reducible refine Kd.C_drewN ?_ _) | (with_reducible refine Kd.C_drew ?_))); (case side2 => exact (Kd.R_reads' HO248.out).2.1); (case side3 => repeat (first | exact (Kd.R_reads' HO251.out).2.2 | (with_reducible refine Kd.C_alloc ?_ _) | (with_reducible refine Kd.C_drewN ?_ _) | (with_reducible refine Kd.C_drew ?_))); (case side4 => exact (Kd.R_reads' HO251.out).2.1); rintro e w' ⟨rfl, ⟨nd, rfl⟩⟩) | (go_at_call 15; (with_reducible refine (flow_Back.calls k _ _ t238 a1 t253 _ ?side1 ?side2 ?side3 A12.out).mono ?_); (case side1 => repeat (first | exact (Kd.V_reads' HO240.out).2.2 | (with_reducible refine Kd.C_alloc ?_ _) | (with_reducible refine Kd.C_drewN ?_ _) | (with_reducible refine Kd.C_drew ?_))); (case side2 => exact (Kd.V_reads' HO240.out).2.1); (case side3 => exact GOk.below HG.out (by repeat (first | (with_reducible first | exact HB.out | apply below_alloc | apply pw_below_drewN | apply below_drew1) | exact HB.out))); rintro e w25 ⟨v254, rfl, ho0, hb⟩; have n0_ := Aside0.mk (Kd.V_elder' (by (with_reducible repeat (first | apply Kd.V_alloc | apply Kd.V_drewN | apply Kd.V_drew)); exact HO240.out) (Kd.R_base ho0) hb); have n1_ := Aside0.mk (Kd.R_elder' (by (with_reducible repeat (first | apply Kd.R_alloc | apply Kd.R_drewN | apply Kd.R_drew)); exact HO248.out) (Kd.R_base ho0) hb); have n2_ := Aside0.mk (Kd.R_elder' (by (with_reducible repeat (first | apply Kd.R_alloc | apply Kd.R_drewN | apply Kd.R_drew)); exact HO251.out) (Kd.R_base ho0) hb); have n3_ := Aside0.mk (Kd.R_lower (Kd.R_new' (Kd.R_new' ho0 (Kd.R_lt (by (with_reducible repeat (first | apply Kd.R_alloc | apply Kd.R_drewN | apply Kd.R_drew)); exact HO248.out))) (Kd.R_lt (by (with_reducible repeat (first | apply Kd.R_alloc | apply Kd.R_drewN | apply Kd.R_drew)); exact HO251.out))) (below_size (by repeat (first | (with_reducible first | exact HB.out | apply below_alloc | apply pw_below_drewN | apply below_drew1) | exact HB.out)))); have n4_ := Aside0.mk (below_step (by repeat (first | (with_reducible first | exact HB.out | apply below_alloc | apply pw_below_drewN | apply below_drew1) | exact HB.out)) hb); clear HO240; clear HO248; clear HO251; clear HB; have HO240 := n0_; have HO248 := n1_; have HO251 := n2_; have HO255 := n3_; have HB := n4_; clear n0_ n1_ n2_ n3_ n4_; (try clear hb); (try clear hb2); (try clear hk); (try clear hi); (try clear ho0)) | (go_at_call 16; (with_reducible refine (secateurref14_Back.calls k _ _ t238 a1 t256 _ ?side1 ?side2 A13.out).mono ?_); (case side1 => repeat (first | exact (Kd.V_reads' HO240.out).2.2 | (with_reducible refine Kd.C_alloc ?_ _) | (with_reducible refine Kd.C_drewN ?_ _) | (with_reducible refine Kd.C_drew ?_))); (case side2 => exact (Kd.V_reads' HO240.out).2.1); rintro e w26 ⟨v257, rfl, ho0, hb⟩; have n0_ := Aside0.mk (Kd.V_elder' (by (with_reducible repeat (first | apply Kd.V_alloc | apply Kd.V_drewN | apply Kd.V_drew)); exact HO240.out) (Kd.R_base ho0) hb); have n1_ := Aside0.mk (Kd.R_elder' (by (with_reducible repeat (first | apply Kd.R_alloc | apply Kd.R_drewN | apply Kd.R_drew)); exact HO248.out) (Kd.R_base ho0) hb); have n2_ := Aside0.mk (Kd.R_elder' (by (with_reducible repeat (first | apply Kd.R_alloc | apply Kd.R_drewN | apply Kd.R_drew)); exact HO251.out) (Kd.R_base ho0) hb); have n3_ := Aside0.mk (Kd.R_elder' (by (with_reducible repeat (first | apply Kd.R_alloc | apply Kd.R_drewN | apply Kd.R_drew)); exact HO255.out) (Kd.R_base ho0) hb); have n4_ := Aside0.mk (Kd.R_lower (Kd.R_new' (Kd.R_new' (Kd.R_new' ho0 (Kd.R_lt (by (with_reducible repeat (first | apply Kd.R_alloc | apply Kd.R_drewN | apply Kd.R_drew)); exact HO248.out))) (Kd.R_lt (by (with_reducible repeat (first | apply Kd.R_alloc | apply Kd.R_drewN | apply Kd.R_drew)); exact HO251.out))) (Kd.R_lt (by (with_reducible repeat (first | apply Kd.R_alloc | apply Kd.R_drewN | apply Kd.R_drew)); exact HO255.out))) (below_size (by repeat (first | (with_reducible first | exact HB.out | apply below_alloc | apply pw_below_drewN | apply below_drew1) | exact HB.out)))); have n5_ := Aside0.mk (below_step (by repeat (first | (with_reducible first | exact HB.out | apply below_alloc | apply pw_below_drewN | apply below_drew1) | exact HB.out)) hb); clear HO240; clear HO248; clear HO251; clear HO255; clear HB; have HO240 := n0_; have HO248 := n1_; have HO251 := n2_; have HO255 := n3_; have HO258 := n4_; have HB := n5_; clear n0_ n1_ n2_ n3_ n4_ n5_; (try clear hb); (try clear hb2); (try clear hk); (try clear hi); (try clear ho0); obtain ⟨Ao27, co27, eo27⟩ := Kd.R_slice HO255.out; subst eo27; obtain ⟨Ao28, co28, eo28⟩ := Kd.R_slice HO258.out; subst eo28) | (go_at_call 12; (with_reducible refine (secateurref01_SameInts.calls k _ _ t253 _ _ t256 true _ ?side1 ?side2 ?side3 ?side4 A14.out).mono ?_); (case side1 => repeat (first | exact (Kd.R_reads' HO255.out).2.2 | (with_reducible refine Kd.C_alloc ?_ _) | (with_reducible refine Kd.C_drewN ?_ _) | (with_reducible refine Kd.C_drew ?_))); (case side2 => exact (Kd.R_reads' HO255.out).2.1); (case side3 => repeat (first | exact (Kd.R_reads' HO258.out).2.2 | (with_reducible refine Kd.C_alloc ?_ _) | (with_reducible refine Kd.C_drewN ?_ _) | (with_reducible refine Kd.C_drew ?_))); (case side4 => exact (Kd.R_reads' HO258.out).2.1); rintro e w' ⟨rfl, ⟨nd, rfl⟩⟩))
          go_ret
          exact ⟨by first | rfl | (simp [errW_none, errW_some] <;> rfl) | (simp [*, errW_none, errW_some] <;> rfl), by repeat (first | (with_reducible first | exact HB.out | apply below_alloc | apply pw_below_drewN | apply below_drew1) | exact HB.out)⟩
        · rw [if_neg c16] at H
          exact absurd H (by simp)
      · replace c15 := Bool.eq_false_iff.mpr c15
        subst c15
        have H1 : (none) = some r := by rw [if_neg (show ¬ (false = true) by decide)] at H; exact H
        clear H
        have H := H1
        clear H1
        exact absurd H (by simp)
    · replace c11 := Bool.eq_false_iff.mpr c11
      subst c11
      have H1 : (none) = some r := by rw [if_neg (show ¬ (false = true) by decide)] at H; exact H
      clear H
      have H := H1
      clear H1
      exact absurd H (by simp)
  · replace c7 := Bool.eq_false_iff.mpr c7
    subst c7
    have H1 : (none) = some r := by rw [if_neg (show ¬ (false = true) by decide)] at H; exact H
    clear H
    have H := H1
    clear H1
    exact absurd H (by simp)

end Go.Proofs.YtciilgcinicdiaaDoor.X
