/- Written by wip/xprint.py (a program of this session's) out of the translation, over the kit's print: each Go function as a Lean function, and that the machine's call does what it says. Not trusted: Lean checks it. -/
import Derived.Test.YtciilgcinicdiaaDoorX0
namespace Go.Proofs.YtciilgcinicdiaaDoor.X
open Go.RowKit Go.Proofs.YtciilgcinicdiaaDoorW.PrintWords Go.Proofs.YtciilgcinicdiaaDoorW.PrintLast Go.Proofs.YtciilgcinicdiaaDoorW.PrintMore
attribute [local go_sem] max2_int min2_int max_two min_two max_three min_three max_four min_four   -- for this text's walks alone
set_option linter.unusedVariables false
set_option linter.unusedSimpArgs false

/-! ### secateurref07_Has: function 26 -/
def secateurref07_Has.l0 : Nat → ByteArray → Int → Int → Option (Bool)
  | 0, _, _, _ => none
  | k + 1, x0, x1, x5 => if x5 < (x0.size : Int) then (if 0 ≤ x5 then (if (bt x0 x5) = x1 then (some true) else (secateurref07_Has.l0 k x0 x1 (wrap64 (x5 + 1)))) else (none)) else (some false)
def secateurref07_Has.f (k : Nat) (a0 : ByteArray) (a1 : Int) : Option (Bool) := secateurref07_Has.l0 k a0 a1 0
theorem secateurref07_Has.mono_l : ∀ k, (∀ y0 y1 y2, LeO (secateurref07_Has.l0 k y0 y1 y2) (secateurref07_Has.l0 (k + 1) y0 y1 y2))
  | 0 => fun _ _ _ r h => by simp [secateurref07_Has.l0] at h
  | k + 1 => by
    have ih0 := secateurref07_Has.mono_l k
    · intro y0 y1 y2
      unfold secateurref07_Has.l0
      repeat' first
      | (with_reducible exact ih0 _ _ _)
      | (with_reducible exact LeO.refl _)
      | (with_reducible exact LeO.none _)
      | (with_reducible refine LeO.ite ?_ ?_)
      | (with_reducible refine LeO.bind ?_ (fun _ => ?_))
      | exact ih0 _ _ _
      | exact LeO.none _
      | refine LeO.ite ?_ ?_
      | refine LeO.bind ?_ (fun _ => ?_)
theorem secateurref07_Has.mono : ∀ a0 a1 k, LeO (secateurref07_Has.f k a0 a1) (secateurref07_Has.f (k + 1) a0 a1) := by
  intro a0 a1 k
  have ih0 := secateurref07_Has.mono_l k
  unfold secateurref07_Has.f
  repeat' first
      | (with_reducible exact ih0 _ _ _)
      | (with_reducible exact LeO.refl _)
      | (with_reducible exact LeO.none _)
      | (with_reducible refine LeO.ite ?_ ?_)
      | (with_reducible refine LeO.bind ?_ (fun _ => ?_))
      | exact ih0 _ _ _
      | exact LeO.none _
      | refine LeO.ite ?_ ?_
      | refine LeO.bind ?_ (fun _ => ?_)
set_option maxHeartbeats 8000000 in
set_option maxRecDepth 100000 in
theorem secateurref07_Has.calls (k : Nat) (a0 : ByteArray) (a1 : Int) (r : Bool) (w : World) (h : secateurref07_Has.f k a0 a1 = some r) :
    Calls Tryd.prog 26 #[.string a0, .int .u8 a1] w fun e w' => e = .returned (.bool r) ∧ Drawn0 w w' := by
  have H : (secateurref07_Has.l0 k a0 a1 0) = some r := h
  clear h
  have H' := Aside0.mk H
  clear H
  go_enter Tryd.func26, Tryd.ntmps26
  go_wp2
  (try generalize Value.pointer (some (Addr.add _ _)) = up_)
  go_loopg [5] k (fun kq v5 w' => ∃ (x5_1 : Int), v5 = .int .i64 x5_1 ∧ Aside0 (secateurref07_Has.l0 kq a0 a1 x5_1 = some r) ∧ Aside0 (kq ≤ k) ∧ Drawn0 w w')
  case atStart => exact ⟨(0), (by first | rfl | (simp; done) | (simp [*]; done)), H', ⟨Nat.le_refl _⟩, by repeat (first | exact Drawn0.refl _ | apply Drawn0.step)⟩
  case round =>
    clear H'
    try clear c2
    try clear p2
    obtain ⟨x5_1, rfl, HA, HK1, ⟨m1, rfl⟩⟩ := hrel
    cases gk with
    | zero => exact absurd HA.out (by simp [secateurref07_Has.l0])
    | succ k1 =>
      have H := HA.out
      clear HA
      simp only [secateurref07_Has.l0] at H
      by_cases c3 : x5_1 < (a0.size : Int)
      · rw [if_pos c3] at H
        have c3b0 : decide (x5_1 < (a0.size : Int)) = true := decide_eq_true c3
        clear c3
        by_cases c4 : 0 ≤ x5_1
        · rw [if_pos c4] at H
          have c4b0 : decide (0 ≤ x5_1) = true := decide_eq_true c4
          clear c4
          by_cases c6 : (bt a0 x5_1) = a1
          · rw [if_pos c6] at H
            have c6b0 : ((bt a0 x5_1) == a1) = true := beq_iff_eq.mpr c6
            have c6b1 : ((bt a0 x5_1) != a1) = false := bne_eq_false_iff_eq.mpr c6
            clear c6
            obtain rfl := Option.some.inj H
            have p5 : 0 ≤ (x5_1 : Int) := of_decide_eq_true (by first | (with_reducible assumption) | assumption)
            have q5 : x5_1 < (a0.size : Int) := of_decide_eq_true (by first | (with_reducible assumption) | assumption)
            have hx5 := bt_at a0 x5_1
            replace p5 := eq_true p5
            replace q5 := eq_true q5
            go_wp2
            go_ret
            exact ⟨by first | rfl | (simp; done) | (simp [*]; done), by repeat (first | exact Drawn0.refl _ | apply Drawn0.step)⟩
          · rw [if_neg c6] at H
            have c6b0 : ((bt a0 x5_1) == a1) = false := beq_eq_false_iff_ne.mpr c6
            have c6b1 : ((bt a0 x5_1) != a1) = true := bne_iff_ne.mpr c6
            have H' := Aside0.mk H
            clear H
            have p5 : 0 ≤ (x5_1 : Int) := of_decide_eq_true (by first | (with_reducible assumption) | assumption)
            have q5 : x5_1 < (a0.size : Int) := of_decide_eq_true (by first | (with_reducible assumption) | assumption)
            have hx5 := bt_at a0 x5_1
            replace p5 := eq_true p5
            replace q5 := eq_true q5
            go_wp2
            go_roundg k1
            case measure => have := HK1.out; omega
            case rel => exact ⟨(wrap64 (x5_1 + 1)), (by first | rfl | (simp; done) | (simp [*]; done)), H', ⟨by have := HK1.out; omega⟩, by repeat (first | exact Drawn0.refl _ | apply Drawn0.step)⟩
        · rw [if_neg c4] at H
          exact absurd H (by simp)
      · rw [if_neg c3] at H
        have c3b0 : decide (x5_1 < (a0.size : Int)) = false := decide_eq_false c3
        clear c3
        obtain rfl := Option.some.inj H
        go_wp2
        go_ret
        exact ⟨by first | rfl | (simp; done) | (simp [*]; done), by repeat (first | exact Drawn0.refl _ | apply Drawn0.step)⟩

/-! ### secateurref07_Shape: function 27 -/
mutual
def secateurref07_Shape.j0 : Nat → Int → Bool → Option (ByteArray)
  | 0, _, _ => none
  | k + 1, x3, x6 => if x6 = true then (some (⟨#[97]⟩ : ByteArray)) else (if x3 = 4 then (secateurref07_Shape.j1 k x3 (x3 == 4)) else (if x3 = 10 then (secateurref07_Shape.j1 k x3 (x3 == 10)) else (if x3 = 12 then (secateurref07_Shape.j1 k x3 (x3 == 12)) else (if x3 = 28 then (secateurref07_Shape.j1 k x3 (x3 == 28)) else (secateurref07_Shape.j1 k x3 (x3 == 29))))))
def secateurref07_Shape.j1 : Nat → Int → Bool → Option (ByteArray)
  | 0, _, _ => none
  | k + 1, x3, x9 => if x9 = true then (some (⟨#[97, 98]⟩ : ByteArray)) else (if x3 = 5 then (some (⟨#[97, 98, 99, 114]⟩ : ByteArray)) else (if x3 = 6 then (some (⟨#[116]⟩ : ByteArray)) else (if x3 = 7 then (secateurref07_Shape.j2 k x3 (x3 == 7)) else (secateurref07_Shape.j2 k x3 (x3 == 8)))))
def secateurref07_Shape.j2 : Nat → Int → Bool → Option (ByteArray)
  | 0, _, _ => none
  | k + 1, x3, x19 => if x19 = true then (some (⟨#[98, 116]⟩ : ByteArray)) else (if x3 = 9 then (some (⟨#[97, 67]⟩ : ByteArray)) else (if x3 = 11 then (secateurref07_Shape.j3 k x3 (x3 == 11)) else (if x3 = 24 then (secateurref07_Shape.j3 k x3 (x3 == 24)) else (secateurref07_Shape.j3 k x3 (x3 == 25)))))
def secateurref07_Shape.j3 : Nat → Int → Bool → Option (ByteArray)
  | 0, _, _ => none
  | k + 1, x3, x24 => if x24 = true then (some (⟨#[97, 98, 67]⟩ : ByteArray)) else (if x3 = 13 then (secateurref07_Shape.j4 k x3 (x3 == 13)) else (secateurref07_Shape.j4 k x3 (x3 == 14)))
def secateurref07_Shape.j4 : Nat → Int → Bool → Option (ByteArray)
  | 0, _, _ => none
  | k + 1, x3, x28 => if x28 = true then (some (⟨#[97, 98, 99]⟩ : ByteArray)) else (if x3 = 15 then (some (⟨#[97, 98, 70]⟩ : ByteArray)) else (if x3 = 16 then (some (⟨#[98, 99, 70]⟩ : ByteArray)) else (if x3 = 17 then (some (⟨#[97, 70]⟩ : ByteArray)) else (if x3 = 18 then (some (⟨#[99, 70]⟩ : ByteArray)) else (if x3 = 19 then (secateurref07_Shape.j5 k x3 (x3 == 19)) else (if x3 = 20 then (secateurref07_Shape.j5 k x3 (x3 == 20)) else (secateurref07_Shape.j5 k x3 (x3 == 21))))))))
def secateurref07_Shape.j5 : Nat → Int → Bool → Option (ByteArray)
  | 0, _, _ => none
  | k + 1, x3, x39 => if x39 = true then (some (⟨#[97, 77, 118]⟩ : ByteArray)) else (if x3 = 22 then (secateurref07_Shape.j6 k x3 (x3 == 22)) else (if x3 = 27 then (secateurref07_Shape.j6 k x3 (x3 == 27)) else (secateurref07_Shape.j6 k x3 (x3 == 31))))
def secateurref07_Shape.j6 : Nat → Int → Bool → Option (ByteArray)
  | 0, _, _ => none
  | k + 1, x3, x43 => if x43 = true then (some (⟨#[98]⟩ : ByteArray)) else (if x3 = 30 then (some (⟨#[107]⟩ : ByteArray)) else (if x3 = 32 then (some (⟨#[67]⟩ : ByteArray)) else (some (⟨#[]⟩ : ByteArray))))
end
def secateurref07_Shape.f (k : Nat) (a0 : Int) : Option (ByteArray) := if a0 = 2 then (some (⟨#[97, 107]⟩ : ByteArray)) else (if a0 = 3 then (secateurref07_Shape.j0 k a0 (a0 == 3)) else (secateurref07_Shape.j0 k a0 (a0 == 26)))
theorem secateurref07_Shape.mono_l : ∀ k, (∀ y0 y1, LeO (secateurref07_Shape.j0 k y0 y1) (secateurref07_Shape.j0 (k + 1) y0 y1)) ∧ (∀ y0 y1, LeO (secateurref07_Shape.j1 k y0 y1) (secateurref07_Shape.j1 (k + 1) y0 y1)) ∧ (∀ y0 y1, LeO (secateurref07_Shape.j2 k y0 y1) (secateurref07_Shape.j2 (k + 1) y0 y1)) ∧ (∀ y0 y1, LeO (secateurref07_Shape.j3 k y0 y1) (secateurref07_Shape.j3 (k + 1) y0 y1)) ∧ (∀ y0 y1, LeO (secateurref07_Shape.j4 k y0 y1) (secateurref07_Shape.j4 (k + 1) y0 y1)) ∧ (∀ y0 y1, LeO (secateurref07_Shape.j5 k y0 y1) (secateurref07_Shape.j5 (k + 1) y0 y1)) ∧ (∀ y0 y1, LeO (secateurref07_Shape.j6 k y0 y1) (secateurref07_Shape.j6 (k + 1) y0 y1))
  | 0 => ⟨fun _ _ r h => by simp [secateurref07_Shape.j0] at h, fun _ _ r h => by simp [secateurref07_Shape.j1] at h, fun _ _ r h => by simp [secateurref07_Shape.j2] at h, fun _ _ r h => by simp [secateurref07_Shape.j3] at h, fun _ _ r h => by simp [secateurref07_Shape.j4] at h, fun _ _ r h => by simp [secateurref07_Shape.j5] at h, fun _ _ r h => by simp [secateurref07_Shape.j6] at h⟩
  | k + 1 => by
    obtain ⟨ih0, ih1, ih2, ih3, ih4, ih5, ih6⟩ := secateurref07_Shape.mono_l k
    refine ⟨?_, ?_, ?_, ?_, ?_, ?_, ?_⟩
    · intro y0 y1
      unfold secateurref07_Shape.j0
      repeat' first
      | (with_reducible exact ih0 _ _)
      | (with_reducible exact ih1 _ _)
      | (with_reducible exact ih2 _ _)
      | (with_reducible exact ih3 _ _)
      | (with_reducible exact ih4 _ _)
      | (with_reducible exact ih5 _ _)
      | (with_reducible exact ih6 _ _)
      | (with_reducible exact LeO.refl _)
      | (with_reducible exact LeO.none _)
      | (with_reducible refine LeO.ite ?_ ?_)
      | (with_reducible refine LeO.bind ?_ (fun _ => ?_))
      | exact ih0 _ _
      | exact ih1 _ _
      | exact ih2 _ _
      | exact ih3 _ _
      | exact ih4 _ _
      | exact ih5 _ _
      | exact ih6 _ _
      | exact LeO.none _
      | refine LeO.ite ?_ ?_
      | refine LeO.bind ?_ (fun _ => ?_)
    · intro y0 y1
      unfold secateurref07_Shape.j1
      repeat' first
      | (with_reducible exact ih0 _ _)
      | (with_reducible exact ih1 _ _)
      | (with_reducible exact ih2 _ _)
      | (with_reducible exact ih3 _ _)
      | (with_reducible exact ih4 _ _)
      | (with_reducible exact ih5 _ _)
      | (with_reducible exact ih6 _ _)
      | (with_reducible exact LeO.refl _)
      | (with_reducible exact LeO.none _)
      | (with_reducible refine LeO.ite ?_ ?_)
      | (with_reducible refine LeO.bind ?_ (fun _ => ?_))
      | exact ih0 _ _
      | exact ih1 _ _
      | exact ih2 _ _
      | exact ih3 _ _
      | exact ih4 _ _
      | exact ih5 _ _
      | exact ih6 _ _
      | exact LeO.none _
      | refine LeO.ite ?_ ?_
      | refine LeO.bind ?_ (fun _ => ?_)
    · intro y0 y1
      unfold secateurref07_Shape.j2
      repeat' first
      | (with_reducible exact ih0 _ _)
      | (with_reducible exact ih1 _ _)
      | (with_reducible exact ih2 _ _)
      | (with_reducible exact ih3 _ _)
      | (with_reducible exact ih4 _ _)
      | (with_reducible exact ih5 _ _)
      | (with_reducible exact ih6 _ _)
      | (with_reducible exact LeO.refl _)
      | (with_reducible exact LeO.none _)
      | (with_reducible refine LeO.ite ?_ ?_)
      | (with_reducible refine LeO.bind ?_ (fun _ => ?_))
      | exact ih0 _ _
      | exact ih1 _ _
      | exact ih2 _ _
      | exact ih3 _ _
      | exact ih4 _ _
      | exact ih5 _ _
      | exact ih6 _ _
      | exact LeO.none _
      | refine LeO.ite ?_ ?_
      | refine LeO.bind ?_ (fun _ => ?_)
    · intro y0 y1
      unfold secateurref07_Shape.j3
      repeat' first
      | (with_reducible exact ih0 _ _)
      | (with_reducible exact ih1 _ _)
      | (with_reducible exact ih2 _ _)
      | (with_reducible exact ih3 _ _)
      | (with_reducible exact ih4 _ _)
      | (with_reducible exact ih5 _ _)
      | (with_reducible exact ih6 _ _)
      | (with_reducible exact LeO.refl _)
      | (with_reducible exact LeO.none _)
      | (with_reducible refine LeO.ite ?_ ?_)
      | (with_reducible refine LeO.bind ?_ (fun _ => ?_))
      | exact ih0 _ _
      | exact ih1 _ _
      | exact ih2 _ _
      | exact ih3 _ _
      | exact ih4 _ _
      | exact ih5 _ _
      | exact ih6 _ _
      | exact LeO.none _
      | refine LeO.ite ?_ ?_
      | refine LeO.bind ?_ (fun _ => ?_)
    · intro y0 y1
      unfold secateurref07_Shape.j4
      repeat' first
      | (with_reducible exact ih0 _ _)
      | (with_reducible exact ih1 _ _)
      | (with_reducible exact ih2 _ _)
      | (with_reducible exact ih3 _ _)
      | (with_reducible exact ih4 _ _)
      | (with_reducible exact ih5 _ _)
      | (with_reducible exact ih6 _ _)
      | (with_reducible exact LeO.refl _)
      | (with_reducible exact LeO.none _)
      | (with_reducible refine LeO.ite ?_ ?_)
      | (with_reducible refine LeO.bind ?_ (fun _ => ?_))
      | exact ih0 _ _
      | exact ih1 _ _
      | exact ih2 _ _
      | exact ih3 _ _
      | exact ih4 _ _
      | exact ih5 _ _
      | exact ih6 _ _
      | exact LeO.none _
      | refine LeO.ite ?_ ?_
      | refine LeO.bind ?_ (fun _ => ?_)
    · intro y0 y1
      unfold secateurref07_Shape.j5
      repeat' first
      | (with_reducible exact ih0 _ _)
      | (with_reducible exact ih1 _ _)
      | (with_reducible exact ih2 _ _)
      | (with_reducible exact ih3 _ _)
      | (with_reducible exact ih4 _ _)
      | (with_reducible exact ih5 _ _)
      | (with_reducible exact ih6 _ _)
      | (with_reducible exact LeO.refl _)
      | (with_reducible exact LeO.none _)
      | (with_reducible refine LeO.ite ?_ ?_)
      | (with_reducible refine LeO.bind ?_ (fun _ => ?_))
      | exact ih0 _ _
      | exact ih1 _ _
      | exact ih2 _ _
      | exact ih3 _ _
      | exact ih4 _ _
      | exact ih5 _ _
      | exact ih6 _ _
      | exact LeO.none _
      | refine LeO.ite ?_ ?_
      | refine LeO.bind ?_ (fun _ => ?_)
    · intro y0 y1
      unfold secateurref07_Shape.j6
      repeat' first
      | (with_reducible exact ih0 _ _)
      | (with_reducible exact ih1 _ _)
      | (with_reducible exact ih2 _ _)
      | (with_reducible exact ih3 _ _)
      | (with_reducible exact ih4 _ _)
      | (with_reducible exact ih5 _ _)
      | (with_reducible exact ih6 _ _)
      | (with_reducible exact LeO.refl _)
      | (with_reducible exact LeO.none _)
      | (with_reducible refine LeO.ite ?_ ?_)
      | (with_reducible refine LeO.bind ?_ (fun _ => ?_))
      | exact ih0 _ _
      | exact ih1 _ _
      | exact ih2 _ _
      | exact ih3 _ _
      | exact ih4 _ _
      | exact ih5 _ _
      | exact ih6 _ _
      | exact LeO.none _
      | refine LeO.ite ?_ ?_
      | refine LeO.bind ?_ (fun _ => ?_)
theorem secateurref07_Shape.mono : ∀ a0 k, LeO (secateurref07_Shape.f k a0) (secateurref07_Shape.f (k + 1) a0) := by
  intro a0 k
  obtain ⟨ih0, ih1, ih2, ih3, ih4, ih5, ih6⟩ := secateurref07_Shape.mono_l k
  unfold secateurref07_Shape.f
  repeat' first
      | (with_reducible exact ih0 _ _)
      | (with_reducible exact ih1 _ _)
      | (with_reducible exact ih2 _ _)
      | (with_reducible exact ih3 _ _)
      | (with_reducible exact ih4 _ _)
      | (with_reducible exact ih5 _ _)
      | (with_reducible exact ih6 _ _)
      | (with_reducible exact LeO.refl _)
      | (with_reducible exact LeO.none _)
      | (with_reducible refine LeO.ite ?_ ?_)
      | (with_reducible refine LeO.bind ?_ (fun _ => ?_))
      | exact ih0 _ _
      | exact ih1 _ _
      | exact ih2 _ _
      | exact ih3 _ _
      | exact ih4 _ _
      | exact ih5 _ _
      | exact ih6 _ _
      | exact LeO.none _
      | refine LeO.ite ?_ ?_
      | refine LeO.bind ?_ (fun _ => ?_)
set_option maxHeartbeats 8000000 in
set_option maxRecDepth 100000 in
theorem secateurref07_Shape.calls (k : Nat) (a0 : Int) (r : ByteArray) (w : World) (h : secateurref07_Shape.f k a0 = some r) :
    Calls Tryd.prog 27 #[.int .i64 a0] w fun e w' => e = .returned (.string r) ∧ Drawn0 w w' := by
  have H : (if a0 = 2 then (some (⟨#[97, 107]⟩ : ByteArray)) else (if a0 = 3 then (secateurref07_Shape.j0 k a0 (a0 == 3)) else (secateurref07_Shape.j0 k a0 (a0 == 26)))) = some r := h
  clear h
  by_cases c2 : a0 = 2
  · rw [if_pos c2] at H
    have c2b0 : (a0 == 2) = true := beq_iff_eq.mpr c2
    have c2b1 : (a0 != 2) = false := bne_eq_false_iff_eq.mpr c2
    clear c2
    obtain rfl := Option.some.inj H
    go_enter Tryd.func27, Tryd.ntmps27
    go_wp2
    go_ret
    exact ⟨by first | rfl | (simp; done) | (simp [*]; done), by repeat (first | exact Drawn0.refl _ | apply Drawn0.step)⟩
  · rw [if_neg c2] at H
    have c2b0 : (a0 == 2) = false := beq_eq_false_iff_ne.mpr c2
    have c2b1 : (a0 != 2) = true := bne_iff_ne.mpr c2
    have HC3 := Aside0.mk H
    clear H
    go_enter Tryd.func27, Tryd.ntmps27
    go_upto_if 6 with (fail)
    go_cut [6] (fun v6 wc => ∃ (kq : Nat) (x6_2 : Bool), v6 = .bool x6_2 ∧ Aside0 (secateurref07_Shape.j0 kq a0 x6_2 = some r) ∧ Aside0 (kq ≤ k) ∧ Drawn0 w wc)
    case first =>
      have H := HC3.out
      clear HC3
      by_cases c4 : a0 = 3
      · rw [if_pos c4] at H
        have c4b0 : (a0 == 3) = true := beq_iff_eq.mpr c4
        have c4b1 : (a0 != 3) = false := bne_eq_false_iff_eq.mpr c4
        clear c4
        (first | rw [c4b0] | (simp only [i64_w, i32_w]; rw [c4b0]) | rw [c4b1] | skip)
        have H' := Aside0.mk H
        clear H
        go_wp2
        go_meet
        case rel => exact ⟨_, ((a0 == 3)), (by first | rfl | (simp; done) | (simp [*]; done)), H', ⟨by first | omega | exact Nat.le_refl _⟩, by repeat (first | exact Drawn0.refl _ | apply Drawn0.step)⟩
      · rw [if_neg c4] at H
        have c4b0 : (a0 == 3) = false := beq_eq_false_iff_ne.mpr c4
        have c4b1 : (a0 != 3) = true := bne_iff_ne.mpr c4
        (first | rw [c4b0] | (simp only [i64_w, i32_w]; rw [c4b0]) | rw [c4b1] | skip)
        have H' := Aside0.mk H
        clear H
        go_wp2
        go_meet
        case rel => exact ⟨_, ((a0 == 26)), (by first | rfl | (simp; done) | (simp [*]; done)), H', ⟨by first | omega | exact Nat.le_refl _⟩, by repeat (first | exact Drawn0.refl _ | apply Drawn0.step)⟩
    case rest =>
      clear HC3
      try clear c2
      try clear c2b0
      try clear c2b1
      try clear p2
      try clear c4
      try clear c4b0
      try clear c4b1
      obtain ⟨kq, x6_2, rfl, HA, HJ2, ⟨mc2, rfl⟩⟩ := hcut
      cases kq with
      | zero => exact absurd HA.out (by simp [secateurref07_Shape.j0])
      | succ kj2 =>
        have H := HA.out
        clear HA
        simp only [secateurref07_Shape.j0] at H
        by_cases c5 : x6_2 = true
        · subst c5
          have H1 : (some (⟨#[97]⟩ : ByteArray)) = some r := by rw [if_pos rfl] at H; exact H
          clear H
          have H := H1
          clear H1
          obtain rfl := Option.some.inj H
          go_wp2
          go_ret
          exact ⟨by first | rfl | (simp; done) | (simp [*]; done), by repeat (first | exact Drawn0.refl _ | apply Drawn0.step)⟩
        · replace c5 := Bool.eq_false_iff.mpr c5
          subst c5
          have H1 : (if a0 = 4 then (secateurref07_Shape.j1 kj2 a0 (a0 == 4)) else (if a0 = 10 then (secateurref07_Shape.j1 kj2 a0 (a0 == 10)) else (if a0 = 12 then (secateurref07_Shape.j1 kj2 a0 (a0 == 12)) else (if a0 = 28 then (secateurref07_Shape.j1 kj2 a0 (a0 == 28)) else (secateurref07_Shape.j1 kj2 a0 (a0 == 29)))))) = some r := by rw [if_neg (show ¬ (false = true) by decide)] at H; exact H
          clear H
          have H := H1
          clear H1
          have HC6 := Aside0.mk H
          clear H
          go_upto_if 9 with (fail)
          go_cut [9] (fun v9 wc => ∃ (kq : Nat) (x9_5 : Bool), v9 = .bool x9_5 ∧ Aside0 (secateurref07_Shape.j1 kq a0 x9_5 = some r) ∧ Aside0 (kq ≤ kj2) ∧ Drawn0 w wc)
          case first =>
            have H := HC6.out
            clear HC6
            by_cases c7 : a0 = 4
            · rw [if_pos c7] at H
              have c7b0 : (a0 == 4) = true := beq_iff_eq.mpr c7
              have c7b1 : (a0 != 4) = false := bne_eq_false_iff_eq.mpr c7
              clear c7
              (first | rw [c7b0] | (simp only [i64_w, i32_w]; rw [c7b0]) | rw [c7b1] | skip)
              have H' := Aside0.mk H
              clear H
              go_wp2
              go_meet
              case rel => exact ⟨_, ((a0 == 4)), (by first | rfl | (simp; done) | (simp [*]; done)), H', ⟨by have := HJ2.out; first | omega | exact Nat.le_refl _⟩, by repeat (first | exact Drawn0.refl _ | apply Drawn0.step)⟩
            · rw [if_neg c7] at H
              have c7b0 : (a0 == 4) = false := beq_eq_false_iff_ne.mpr c7
              have c7b1 : (a0 != 4) = true := bne_iff_ne.mpr c7
              (first | rw [c7b0] | (simp only [i64_w, i32_w]; rw [c7b0]) | rw [c7b1] | skip)
              by_cases c8 : a0 = 10
              · rw [if_pos c8] at H
                have c8b0 : (a0 == 10) = true := beq_iff_eq.mpr c8
                have c8b1 : (a0 != 10) = false := bne_eq_false_iff_eq.mpr c8
                clear c8
                have H' := Aside0.mk H
                clear H
                go_wp2
                go_meet
                case rel => exact ⟨_, ((a0 == 10)), (by first | rfl | (simp; done) | (simp [*]; done)), H', ⟨by have := HJ2.out; first | omega | exact Nat.le_refl _⟩, by repeat (first | exact Drawn0.refl _ | apply Drawn0.step)⟩
              · rw [if_neg c8] at H
                have c8b0 : (a0 == 10) = false := beq_eq_false_iff_ne.mpr c8
                have c8b1 : (a0 != 10) = true := bne_iff_ne.mpr c8
                by_cases c9 : a0 = 12
                · rw [if_pos c9] at H
                  have c9b0 : (a0 == 12) = true := beq_iff_eq.mpr c9
                  have c9b1 : (a0 != 12) = false := bne_eq_false_iff_eq.mpr c9
                  clear c9
                  have H' := Aside0.mk H
                  clear H
                  go_wp2
                  go_meet
                  case rel => exact ⟨_, ((a0 == 12)), (by first | rfl | (simp; done) | (simp [*]; done)), H', ⟨by have := HJ2.out; first | omega | exact Nat.le_refl _⟩, by repeat (first | exact Drawn0.refl _ | apply Drawn0.step)⟩
                · rw [if_neg c9] at H
                  have c9b0 : (a0 == 12) = false := beq_eq_false_iff_ne.mpr c9
                  have c9b1 : (a0 != 12) = true := bne_iff_ne.mpr c9
                  by_cases c10 : a0 = 28
                  · rw [if_pos c10] at H
                    have c10b0 : (a0 == 28) = true := beq_iff_eq.mpr c10
                    have c10b1 : (a0 != 28) = false := bne_eq_false_iff_eq.mpr c10
                    clear c10
                    have H' := Aside0.mk H
                    clear H
                    go_wp2
                    go_meet
                    case rel => exact ⟨_, ((a0 == 28)), (by first | rfl | (simp; done) | (simp [*]; done)), H', ⟨by have := HJ2.out; first | omega | exact Nat.le_refl _⟩, by repeat (first | exact Drawn0.refl _ | apply Drawn0.step)⟩
                  · rw [if_neg c10] at H
                    have c10b0 : (a0 == 28) = false := beq_eq_false_iff_ne.mpr c10
                    have c10b1 : (a0 != 28) = true := bne_iff_ne.mpr c10
                    have H' := Aside0.mk H
                    clear H
                    go_wp2
                    go_meet
                    case rel => exact ⟨_, ((a0 == 29)), (by first | rfl | (simp; done) | (simp [*]; done)), H', ⟨by have := HJ2.out; first | omega | exact Nat.le_refl _⟩, by repeat (first | exact Drawn0.refl _ | apply Drawn0.step)⟩
          case rest =>
            clear HC6
            try clear c1
            try clear c2
            try clear c2b0
            try clear c2b1
            try clear p2
            try clear c4
            try clear c4b0
            try clear c4b1
            try clear c5
            try clear c7
            try clear c7b0
            try clear c7b1
            try clear c8
            try clear c8b0
            try clear c8b1
            try clear c9
            try clear c9b0
            try clear c9b1
            try clear c10
            try clear c10b0
            try clear c10b1
            try clear p2
            obtain ⟨kq, x9_5, rfl, HA, HJ5, ⟨mc5, rfl⟩⟩ := hcut
            cases kq with
            | zero => exact absurd HA.out (by simp [secateurref07_Shape.j1])
            | succ kj5 =>
              have H := HA.out
              clear HA
              simp only [secateurref07_Shape.j1] at H
              by_cases c11 : x9_5 = true
              · subst c11
                have H1 : (some (⟨#[97, 98]⟩ : ByteArray)) = some r := by rw [if_pos rfl] at H; exact H
                clear H
                have H := H1
                clear H1
                obtain rfl := Option.some.inj H
                go_wp2
                go_ret
                exact ⟨by first | rfl | (simp; done) | (simp [*]; done), by repeat (first | exact Drawn0.refl _ | apply Drawn0.step)⟩
              · replace c11 := Bool.eq_false_iff.mpr c11
                subst c11
                have H1 : (if a0 = 5 then (some (⟨#[97, 98, 99, 114]⟩ : ByteArray)) else (if a0 = 6 then (some (⟨#[116]⟩ : ByteArray)) else (if a0 = 7 then (secateurref07_Shape.j2 kj5 a0 (a0 == 7)) else (secateurref07_Shape.j2 kj5 a0 (a0 == 8))))) = some r := by rw [if_neg (show ¬ (false = true) by decide)] at H; exact H
                clear H
                have H := H1
                clear H1
                by_cases c12 : a0 = 5
                · rw [if_pos c12] at H
                  have c12b0 : (a0 == 5) = true := beq_iff_eq.mpr c12
                  have c12b1 : (a0 != 5) = false := bne_eq_false_iff_eq.mpr c12
                  clear c12
                  obtain rfl := Option.some.inj H
                  go_wp2
                  go_ret
                  exact ⟨by first | rfl | (simp; done) | (simp [*]; done), by repeat (first | exact Drawn0.refl _ | apply Drawn0.step)⟩
                · rw [if_neg c12] at H
                  have c12b0 : (a0 == 5) = false := beq_eq_false_iff_ne.mpr c12
                  have c12b1 : (a0 != 5) = true := bne_iff_ne.mpr c12
                  by_cases c13 : a0 = 6
                  · rw [if_pos c13] at H
                    have c13b0 : (a0 == 6) = true := beq_iff_eq.mpr c13
                    have c13b1 : (a0 != 6) = false := bne_eq_false_iff_eq.mpr c13
                    clear c13
                    obtain rfl := Option.some.inj H
                    go_wp2
                    go_ret
                    exact ⟨by first | rfl | (simp; done) | (simp [*]; done), by repeat (first | exact Drawn0.refl _ | apply Drawn0.step)⟩
                  · rw [if_neg c13] at H
                    have c13b0 : (a0 == 6) = false := beq_eq_false_iff_ne.mpr c13
                    have c13b1 : (a0 != 6) = true := bne_iff_ne.mpr c13
                    have HC14 := Aside0.mk H
                    clear H
                    go_upto_if 19 with (fail)
                    go_cut [19] (fun v19 wc => ∃ (kq : Nat) (x19_13 : Bool), v19 = .bool x19_13 ∧ Aside0 (secateurref07_Shape.j2 kq a0 x19_13 = some r) ∧ Aside0 (kq ≤ kj5) ∧ Drawn0 w wc)
                    case first =>
                      have H := HC14.out
                      clear HC14
                      by_cases c15 : a0 = 7
                      · rw [if_pos c15] at H
                        have c15b0 : (a0 == 7) = true := beq_iff_eq.mpr c15
                        have c15b1 : (a0 != 7) = false := bne_eq_false_iff_eq.mpr c15
                        clear c15
                        (first | rw [c15b0] | (simp only [i64_w, i32_w]; rw [c15b0]) | rw [c15b1] | skip)
                        have H' := Aside0.mk H
                        clear H
                        go_wp2
                        go_meet
                        case rel => exact ⟨_, ((a0 == 7)), (by first | rfl | (simp; done) | (simp [*]; done)), H', ⟨by have := HJ2.out; have := HJ5.out; first | omega | exact Nat.le_refl _⟩, by repeat (first | exact Drawn0.refl _ | apply Drawn0.step)⟩
                      · rw [if_neg c15] at H
                        have c15b0 : (a0 == 7) = false := beq_eq_false_iff_ne.mpr c15
                        have c15b1 : (a0 != 7) = true := bne_iff_ne.mpr c15
                        (first | rw [c15b0] | (simp only [i64_w, i32_w]; rw [c15b0]) | rw [c15b1] | skip)
                        have H' := Aside0.mk H
                        clear H
                        go_wp2
                        go_meet
                        case rel => exact ⟨_, ((a0 == 8)), (by first | rfl | (simp; done) | (simp [*]; done)), H', ⟨by have := HJ2.out; have := HJ5.out; first | omega | exact Nat.le_refl _⟩, by repeat (first | exact Drawn0.refl _ | apply Drawn0.step)⟩
                    case rest =>
                      clear HC14
                      try clear c1
                      try clear c2
                      try clear c2b0
                      try clear c2b1
                      try clear p2
                      try clear c4
                      try clear c4b0
                      try clear c4b1
                      try clear c5
                      try clear c7
                      try clear c7b0
                      try clear c7b1
                      try clear c8
                      try clear c8b0
                      try clear c8b1
                      try clear c9
                      try clear c9b0
                      try clear c9b1
                      try clear c10
                      try clear c10b0
                      try clear c10b1
                      try clear c11
                      try clear c12
                      try clear c12b0
                      try clear c12b1
                      try clear c13
                      try clear c13b0
                      try clear c13b1
                      try clear c15
                      try clear c15b0
                      try clear c15b1
                      try clear p2
                      obtain ⟨kq, x19_13, rfl, HA, HJ13, ⟨mc13, rfl⟩⟩ := hcut
                      cases kq with
                      | zero => exact absurd HA.out (by simp [secateurref07_Shape.j2])
                      | succ kj13 =>
                        have H := HA.out
                        clear HA
                        simp only [secateurref07_Shape.j2] at H
                        by_cases c16 : x19_13 = true
                        · subst c16
                          have H1 : (some (⟨#[98, 116]⟩ : ByteArray)) = some r := by rw [if_pos rfl] at H; exact H
                          clear H
                          have H := H1
                          clear H1
                          obtain rfl := Option.some.inj H
                          go_wp2
                          go_ret
                          exact ⟨by first | rfl | (simp; done) | (simp [*]; done), by repeat (first | exact Drawn0.refl _ | apply Drawn0.step)⟩
                        · replace c16 := Bool.eq_false_iff.mpr c16
                          subst c16
                          have H1 : (if a0 = 9 then (some (⟨#[97, 67]⟩ : ByteArray)) else (if a0 = 11 then (secateurref07_Shape.j3 kj13 a0 (a0 == 11)) else (if a0 = 24 then (secateurref07_Shape.j3 kj13 a0 (a0 == 24)) else (secateurref07_Shape.j3 kj13 a0 (a0 == 25))))) = some r := by rw [if_neg (show ¬ (false = true) by decide)] at H; exact H
                          clear H
                          have H := H1
                          clear H1
                          by_cases c17 : a0 = 9
                          · rw [if_pos c17] at H
                            have c17b0 : (a0 == 9) = true := beq_iff_eq.mpr c17
                            have c17b1 : (a0 != 9) = false := bne_eq_false_iff_eq.mpr c17
                            clear c17
                            obtain rfl := Option.some.inj H
                            go_wp2
                            go_ret
                            exact ⟨by first | rfl | (simp; done) | (simp [*]; done), by repeat (first | exact Drawn0.refl _ | apply Drawn0.step)⟩
                          · rw [if_neg c17] at H
                            have c17b0 : (a0 == 9) = false := beq_eq_false_iff_ne.mpr c17
                            have c17b1 : (a0 != 9) = true := bne_iff_ne.mpr c17
                            have HC18 := Aside0.mk H
                            clear H
                            go_upto_if 24 with (fail)
                            go_cut [24] (fun v24 wc => ∃ (kq : Nat) (x24_17 : Bool), v24 = .bool x24_17 ∧ Aside0 (secateurref07_Shape.j3 kq a0 x24_17 = some r) ∧ Aside0 (kq ≤ kj13) ∧ Drawn0 w wc)
                            case first =>
                              have H := HC18.out
                              clear HC18
                              by_cases c19 : a0 = 11
                              · rw [if_pos c19] at H
                                have c19b0 : (a0 == 11) = true := beq_iff_eq.mpr c19
                                have c19b1 : (a0 != 11) = false := bne_eq_false_iff_eq.mpr c19
                                clear c19
                                (first | rw [c19b0] | (simp only [i64_w, i32_w]; rw [c19b0]) | rw [c19b1] | skip)
                                have H' := Aside0.mk H
                                clear H
                                go_wp2
                                go_meet
                                case rel => exact ⟨_, ((a0 == 11)), (by first | rfl | (simp; done) | (simp [*]; done)), H', ⟨by have := HJ2.out; have := HJ5.out; have := HJ13.out; first | omega | exact Nat.le_refl _⟩, by repeat (first | exact Drawn0.refl _ | apply Drawn0.step)⟩
                              · rw [if_neg c19] at H
                                have c19b0 : (a0 == 11) = false := beq_eq_false_iff_ne.mpr c19
                                have c19b1 : (a0 != 11) = true := bne_iff_ne.mpr c19
                                (first | rw [c19b0] | (simp only [i64_w, i32_w]; rw [c19b0]) | rw [c19b1] | skip)
                                by_cases c20 : a0 = 24
                                · rw [if_pos c20] at H
                                  have c20b0 : (a0 == 24) = true := beq_iff_eq.mpr c20
                                  have c20b1 : (a0 != 24) = false := bne_eq_false_iff_eq.mpr c20
                                  clear c20
                                  have H' := Aside0.mk H
                                  clear H
                                  go_wp2
                                  go_meet
                                  case rel => exact ⟨_, ((a0 == 24)), (by first | rfl | (simp; done) | (simp [*]; done)), H', ⟨by have := HJ2.out; have := HJ5.out; have := HJ13.out; first | omega | exact Nat.le_refl _⟩, by repeat (first | exact Drawn0.refl _ | apply Drawn0.step)⟩
                                · rw [if_neg c20] at H
                                  have c20b0 : (a0 == 24) = false := beq_eq_false_iff_ne.mpr c20
                                  have c20b1 : (a0 != 24) = true := bne_iff_ne.mpr c20
                                  have H' := Aside0.mk H
                                  clear H
                                  go_wp2
                                  go_meet
                                  case rel => exact ⟨_, ((a0 == 25)), (by first | rfl | (simp; done) | (simp [*]; done)), H', ⟨by have := HJ2.out; have := HJ5.out; have := HJ13.out; first | omega | exact Nat.le_refl _⟩, by repeat (first | exact Drawn0.refl _ | apply Drawn0.step)⟩
                            case rest =>
                              clear HC18
                              try clear c1
                              try clear c2
                              try clear c2b0
                              try clear c2b1
                              try clear p2
                              try clear c4
                              try clear c4b0
                              try clear c4b1
                              try clear c5
                              try clear c7
                              try clear c7b0
                              try clear c7b1
                              try clear c8
                              try clear c8b0
                              try clear c8b1
                              try clear c9
                              try clear c9b0
                              try clear c9b1
                              try clear c10
                              try clear c10b0
                              try clear c10b1
                              try clear c11
                              try clear c12
                              try clear c12b0
                              try clear c12b1
                              try clear c13
                              try clear c13b0
                              try clear c13b1
                              try clear c15
                              try clear c15b0
                              try clear c15b1
                              try clear c16
                              try clear c17
                              try clear c17b0
                              try clear c17b1
                              try clear c19
                              try clear c19b0
                              try clear c19b1
                              try clear c20
                              try clear c20b0
                              try clear c20b1
                              try clear p2
                              obtain ⟨kq, x24_17, rfl, HA, HJ17, ⟨mc17, rfl⟩⟩ := hcut
                              cases kq with
                              | zero => exact absurd HA.out (by simp [secateurref07_Shape.j3])
                              | succ kj17 =>
                                have H := HA.out
                                clear HA
                                simp only [secateurref07_Shape.j3] at H
                                by_cases c21 : x24_17 = true
                                · subst c21
                                  have H1 : (some (⟨#[97, 98, 67]⟩ : ByteArray)) = some r := by rw [if_pos rfl] at H; exact H
                                  clear H
                                  have H := H1
                                  clear H1
                                  obtain rfl := Option.some.inj H
                                  go_wp2
                                  go_ret
                                  exact ⟨by first | rfl | (simp; done) | (simp [*]; done), by repeat (first | exact Drawn0.refl _ | apply Drawn0.step)⟩
                                · replace c21 := Bool.eq_false_iff.mpr c21
                                  subst c21
                                  have H1 : (if a0 = 13 then (secateurref07_Shape.j4 kj17 a0 (a0 == 13)) else (secateurref07_Shape.j4 kj17 a0 (a0 == 14))) = some r := by rw [if_neg (show ¬ (false = true) by decide)] at H; exact H
                                  clear H
                                  have H := H1
                                  clear H1
                                  have HC22 := Aside0.mk H
                                  clear H
                                  go_upto_if 28 with (fail)
                                  go_cut [28] (fun v28 wc => ∃ (kq : Nat) (x28_21 : Bool), v28 = .bool x28_21 ∧ Aside0 (secateurref07_Shape.j4 kq a0 x28_21 = some r) ∧ Aside0 (kq ≤ kj17) ∧ Drawn0 w wc)
                                  case first =>
                                    have H := HC22.out
                                    clear HC22
                                    by_cases c23 : a0 = 13
                                    · rw [if_pos c23] at H
                                      have c23b0 : (a0 == 13) = true := beq_iff_eq.mpr c23
                                      have c23b1 : (a0 != 13) = false := bne_eq_false_iff_eq.mpr c23
                                      clear c23
                                      (first | rw [c23b0] | (simp only [i64_w, i32_w]; rw [c23b0]) | rw [c23b1] | skip)
                                      have H' := Aside0.mk H
                                      clear H
                                      go_wp2
                                      go_meet
                                      case rel => exact ⟨_, ((a0 == 13)), (by first | rfl | (simp; done) | (simp [*]; done)), H', ⟨by have := HJ2.out; have := HJ5.out; have := HJ13.out; have := HJ17.out; first | omega | exact Nat.le_refl _⟩, by repeat (first | exact Drawn0.refl _ | apply Drawn0.step)⟩
                                    · rw [if_neg c23] at H
                                      have c23b0 : (a0 == 13) = false := beq_eq_false_iff_ne.mpr c23
                                      have c23b1 : (a0 != 13) = true := bne_iff_ne.mpr c23
                                      (first | rw [c23b0] | (simp only [i64_w, i32_w]; rw [c23b0]) | rw [c23b1] | skip)
                                      have H' := Aside0.mk H
                                      clear H
                                      go_wp2
                                      go_meet
                                      case rel => exact ⟨_, ((a0 == 14)), (by first | rfl | (simp; done) | (simp [*]; done)), H', ⟨by have := HJ2.out; have := HJ5.out; have := HJ13.out; have := HJ17.out; first | omega | exact Nat.le_refl _⟩, by repeat (first | exact Drawn0.refl _ | apply Drawn0.step)⟩
                                  case rest =>
                                    clear HC22
                                    try clear c1
                                    try clear c2
                                    try clear c2b0
                                    try clear c2b1
                                    try clear p2
                                    try clear c4
                                    try clear c4b0
                                    try clear c4b1
                                    try clear c5
                                    try clear c7
                                    try clear c7b0
                                    try clear c7b1
                                    try clear c8
                                    try clear c8b0
                                    try clear c8b1
                                    try clear c9
                                    try clear c9b0
                                    try clear c9b1
                                    try clear c10
                                    try clear c10b0
                                    try clear c10b1
                                    try clear c11
                                    try clear c12
                                    try clear c12b0
                                    try clear c12b1
                                    try clear c13
                                    try clear c13b0
                                    try clear c13b1
                                    try clear c15
                                    try clear c15b0
                                    try clear c15b1
                                    try clear c16
                                    try clear c17
                                    try clear c17b0
                                    try clear c17b1
                                    try clear c19
                                    try clear c19b0
                                    try clear c19b1
                                    try clear c20
                                    try clear c20b0
                                    try clear c20b1
                                    try clear c21
                                    try clear c23
                                    try clear c23b0
                                    try clear c23b1
                                    try clear p2
                                    obtain ⟨kq, x28_21, rfl, HA, HJ21, ⟨mc21, rfl⟩⟩ := hcut
                                    cases kq with
                                    | zero => exact absurd HA.out (by simp [secateurref07_Shape.j4])
                                    | succ kj21 =>
                                      have H := HA.out
                                      clear HA
                                      simp only [secateurref07_Shape.j4] at H
                                      by_cases c24 : x28_21 = true
                                      · subst c24
                                        have H1 : (some (⟨#[97, 98, 99]⟩ : ByteArray)) = some r := by rw [if_pos rfl] at H; exact H
                                        clear H
                                        have H := H1
                                        clear H1
                                        obtain rfl := Option.some.inj H
                                        go_wp2
                                        go_ret
                                        exact ⟨by first | rfl | (simp; done) | (simp [*]; done), by repeat (first | exact Drawn0.refl _ | apply Drawn0.step)⟩
                                      · replace c24 := Bool.eq_false_iff.mpr c24
                                        subst c24
                                        have H1 : (if a0 = 15 then (some (⟨#[97, 98, 70]⟩ : ByteArray)) else (if a0 = 16 then (some (⟨#[98, 99, 70]⟩ : ByteArray)) else (if a0 = 17 then (some (⟨#[97, 70]⟩ : ByteArray)) else (if a0 = 18 then (some (⟨#[99, 70]⟩ : ByteArray)) else (if a0 = 19 then (secateurref07_Shape.j5 kj21 a0 (a0 == 19)) else (if a0 = 20 then (secateurref07_Shape.j5 kj21 a0 (a0 == 20)) else (secateurref07_Shape.j5 kj21 a0 (a0 == 21)))))))) = some r := by rw [if_neg (show ¬ (false = true) by decide)] at H; exact H
                                        clear H
                                        have H := H1
                                        clear H1
                                        by_cases c25 : a0 = 15
                                        · rw [if_pos c25] at H
                                          have c25b0 : (a0 == 15) = true := beq_iff_eq.mpr c25
                                          have c25b1 : (a0 != 15) = false := bne_eq_false_iff_eq.mpr c25
                                          clear c25
                                          obtain rfl := Option.some.inj H
                                          go_wp2
                                          go_ret
                                          exact ⟨by first | rfl | (simp; done) | (simp [*]; done), by repeat (first | exact Drawn0.refl _ | apply Drawn0.step)⟩
                                        · rw [if_neg c25] at H
                                          have c25b0 : (a0 == 15) = false := beq_eq_false_iff_ne.mpr c25
                                          have c25b1 : (a0 != 15) = true := bne_iff_ne.mpr c25
                                          by_cases c26 : a0 = 16
                                          · rw [if_pos c26] at H
                                            have c26b0 : (a0 == 16) = true := beq_iff_eq.mpr c26
                                            have c26b1 : (a0 != 16) = false := bne_eq_false_iff_eq.mpr c26
                                            clear c26
                                            obtain rfl := Option.some.inj H
                                            go_wp2
                                            go_ret
                                            exact ⟨by first | rfl | (simp; done) | (simp [*]; done), by repeat (first | exact Drawn0.refl _ | apply Drawn0.step)⟩
                                          · rw [if_neg c26] at H
                                            have c26b0 : (a0 == 16) = false := beq_eq_false_iff_ne.mpr c26
                                            have c26b1 : (a0 != 16) = true := bne_iff_ne.mpr c26
                                            by_cases c27 : a0 = 17
                                            · rw [if_pos c27] at H
                                              have c27b0 : (a0 == 17) = true := beq_iff_eq.mpr c27
                                              have c27b1 : (a0 != 17) = false := bne_eq_false_iff_eq.mpr c27
                                              clear c27
                                              obtain rfl := Option.some.inj H
                                              go_wp2
                                              go_ret
                                              exact ⟨by first | rfl | (simp; done) | (simp [*]; done), by repeat (first | exact Drawn0.refl _ | apply Drawn0.step)⟩
                                            · rw [if_neg c27] at H
                                              have c27b0 : (a0 == 17) = false := beq_eq_false_iff_ne.mpr c27
                                              have c27b1 : (a0 != 17) = true := bne_iff_ne.mpr c27
                                              by_cases c28 : a0 = 18
                                              · rw [if_pos c28] at H
                                                have c28b0 : (a0 == 18) = true := beq_iff_eq.mpr c28
                                                have c28b1 : (a0 != 18) = false := bne_eq_false_iff_eq.mpr c28
                                                clear c28
                                                obtain rfl := Option.some.inj H
                                                go_wp2
                                                go_ret
                                                exact ⟨by first | rfl | (simp; done) | (simp [*]; done), by repeat (first | exact Drawn0.refl _ | apply Drawn0.step)⟩
                                              · rw [if_neg c28] at H
                                                have c28b0 : (a0 == 18) = false := beq_eq_false_iff_ne.mpr c28
                                                have c28b1 : (a0 != 18) = true := bne_iff_ne.mpr c28
                                                have HC29 := Aside0.mk H
                                                clear H
                                                go_upto_if 39 with (fail)
                                                go_cut [39] (fun v39 wc => ∃ (kq : Nat) (x39_28 : Bool), v39 = .bool x39_28 ∧ Aside0 (secateurref07_Shape.j5 kq a0 x39_28 = some r) ∧ Aside0 (kq ≤ kj21) ∧ Drawn0 w wc)
                                                case first =>
                                                  have H := HC29.out
                                                  clear HC29
                                                  by_cases c30 : a0 = 19
                                                  · rw [if_pos c30] at H
                                                    have c30b0 : (a0 == 19) = true := beq_iff_eq.mpr c30
                                                    have c30b1 : (a0 != 19) = false := bne_eq_false_iff_eq.mpr c30
                                                    clear c30
                                                    (first | rw [c30b0] | (simp only [i64_w, i32_w]; rw [c30b0]) | rw [c30b1] | skip)
                                                    have H' := Aside0.mk H
                                                    clear H
                                                    go_wp2
                                                    go_meet
                                                    case rel => exact ⟨_, ((a0 == 19)), (by first | rfl | (simp; done) | (simp [*]; done)), H', ⟨by have := HJ2.out; have := HJ5.out; have := HJ13.out; have := HJ17.out; have := HJ21.out; first | omega | exact Nat.le_refl _⟩, by repeat (first | exact Drawn0.refl _ | apply Drawn0.step)⟩
                                                  · rw [if_neg c30] at H
                                                    have c30b0 : (a0 == 19) = false := beq_eq_false_iff_ne.mpr c30
                                                    have c30b1 : (a0 != 19) = true := bne_iff_ne.mpr c30
                                                    (first | rw [c30b0] | (simp only [i64_w, i32_w]; rw [c30b0]) | rw [c30b1] | skip)
                                                    by_cases c31 : a0 = 20
                                                    · rw [if_pos c31] at H
                                                      have c31b0 : (a0 == 20) = true := beq_iff_eq.mpr c31
                                                      have c31b1 : (a0 != 20) = false := bne_eq_false_iff_eq.mpr c31
                                                      clear c31
                                                      have H' := Aside0.mk H
                                                      clear H
                                                      go_wp2
                                                      go_meet
                                                      case rel => exact ⟨_, ((a0 == 20)), (by first | rfl | (simp; done) | (simp [*]; done)), H', ⟨by have := HJ2.out; have := HJ5.out; have := HJ13.out; have := HJ17.out; have := HJ21.out; first | omega | exact Nat.le_refl _⟩, by repeat (first | exact Drawn0.refl _ | apply Drawn0.step)⟩
                                                    · rw [if_neg c31] at H
                                                      have c31b0 : (a0 == 20) = false := beq_eq_false_iff_ne.mpr c31
                                                      have c31b1 : (a0 != 20) = true := bne_iff_ne.mpr c31
                                                      have H' := Aside0.mk H
                                                      clear H
                                                      go_wp2
                                                      go_meet
                                                      case rel => exact ⟨_, ((a0 == 21)), (by first | rfl | (simp; done) | (simp [*]; done)), H', ⟨by have := HJ2.out; have := HJ5.out; have := HJ13.out; have := HJ17.out; have := HJ21.out; first | omega | exact Nat.le_refl _⟩, by repeat (first | exact Drawn0.refl _ | apply Drawn0.step)⟩
                                                case rest =>
                                                  clear HC29
                                                  try clear c1
                                                  try clear c2
                                                  try clear c2b0
                                                  try clear c2b1
                                                  try clear p2
                                                  try clear c3
                                                  try clear c4
                                                  try clear c4b0
                                                  try clear c4b1
                                                  try clear c5
                                                  try clear c7
                                                  try clear c7b0
                                                  try clear c7b1
                                                  try clear c8
                                                  try clear c8b0
                                                  try clear c8b1
                                                  try clear c9
                                                  try clear c9b0
                                                  try clear c9b1
                                                  try clear c10
                                                  try clear c10b0
                                                  try clear c10b1
                                                  try clear c11
                                                  try clear c12
                                                  try clear c12b0
                                                  try clear c12b1
                                                  try clear c13
                                                  try clear c13b0
                                                  try clear c13b1
                                                  try clear c15
                                                  try clear c15b0
                                                  try clear c15b1
                                                  try clear c16
                                                  try clear c17
                                                  try clear c17b0
                                                  try clear c17b1
                                                  try clear c19
                                                  try clear c19b0
                                                  try clear c19b1
                                                  try clear c20
                                                  try clear c20b0
                                                  try clear c20b1
                                                  try clear c21
                                                  try clear c23
                                                  try clear c23b0
                                                  try clear c23b1
                                                  try clear c24
                                                  try clear c25
                                                  try clear c25b0
                                                  try clear c25b1
                                                  try clear c26
                                                  try clear c26b0
                                                  try clear c26b1
                                                  try clear c27
                                                  try clear c27b0
                                                  try clear c27b1
                                                  try clear c28
                                                  try clear c28b0
                                                  try clear c28b1
                                                  try clear c30
                                                  try clear c30b0
                                                  try clear c30b1
                                                  try clear c31
                                                  try clear c31b0
                                                  try clear c31b1
                                                  try clear p2
                                                  obtain ⟨kq, x39_28, rfl, HA, HJ28, ⟨mc28, rfl⟩⟩ := hcut
                                                  cases kq with
                                                  | zero => exact absurd HA.out (by simp [secateurref07_Shape.j5])
                                                  | succ kj28 =>
                                                    have H := HA.out
                                                    clear HA
                                                    simp only [secateurref07_Shape.j5] at H
                                                    by_cases c32 : x39_28 = true
                                                    · subst c32
                                                      have H1 : (some (⟨#[97, 77, 118]⟩ : ByteArray)) = some r := by rw [if_pos rfl] at H; exact H
                                                      clear H
                                                      have H := H1
                                                      clear H1
                                                      obtain rfl := Option.some.inj H
                                                      go_wp2
                                                      go_ret
                                                      exact ⟨by first | rfl | (simp; done) | (simp [*]; done), by repeat (first | exact Drawn0.refl _ | apply Drawn0.step)⟩
                                                    · replace c32 := Bool.eq_false_iff.mpr c32
                                                      subst c32
                                                      have H1 : (if a0 = 22 then (secateurref07_Shape.j6 kj28 a0 (a0 == 22)) else (if a0 = 27 then (secateurref07_Shape.j6 kj28 a0 (a0 == 27)) else (secateurref07_Shape.j6 kj28 a0 (a0 == 31)))) = some r := by rw [if_neg (show ¬ (false = true) by decide)] at H; exact H
                                                      clear H
                                                      have H := H1
                                                      clear H1
                                                      have HC33 := Aside0.mk H
                                                      clear H
                                                      go_upto_if 43 with (fail)
                                                      go_cut [43] (fun v43 wc => ∃ (kq : Nat) (x43_32 : Bool), v43 = .bool x43_32 ∧ Aside0 (secateurref07_Shape.j6 kq a0 x43_32 = some r) ∧ Aside0 (kq ≤ kj28) ∧ Drawn0 w wc)
                                                      case first =>
                                                        have H := HC33.out
                                                        clear HC33
                                                        by_cases c34 : a0 = 22
                                                        · rw [if_pos c34] at H
                                                          have c34b0 : (a0 == 22) = true := beq_iff_eq.mpr c34
                                                          have c34b1 : (a0 != 22) = false := bne_eq_false_iff_eq.mpr c34
                                                          clear c34
                                                          (first | rw [c34b0] | (simp only [i64_w, i32_w]; rw [c34b0]) | rw [c34b1] | skip)
                                                          have H' := Aside0.mk H
                                                          clear H
                                                          go_wp2
                                                          go_meet
                                                          case rel => exact ⟨_, ((a0 == 22)), (by first | rfl | (simp; done) | (simp [*]; done)), H', ⟨by have := HJ2.out; have := HJ5.out; have := HJ13.out; have := HJ17.out; have := HJ21.out; have := HJ28.out; first | omega | exact Nat.le_refl _⟩, by repeat (first | exact Drawn0.refl _ | apply Drawn0.step)⟩
                                                        · rw [if_neg c34] at H
                                                          have c34b0 : (a0 == 22) = false := beq_eq_false_iff_ne.mpr c34
                                                          have c34b1 : (a0 != 22) = true := bne_iff_ne.mpr c34
                                                          (first | rw [c34b0] | (simp only [i64_w, i32_w]; rw [c34b0]) | rw [c34b1] | skip)
                                                          by_cases c35 : a0 = 27
                                                          · rw [if_pos c35] at H
                                                            have c35b0 : (a0 == 27) = true := beq_iff_eq.mpr c35
                                                            have c35b1 : (a0 != 27) = false := bne_eq_false_iff_eq.mpr c35
                                                            clear c35
                                                            have H' := Aside0.mk H
                                                            clear H
                                                            go_wp2
                                                            go_meet
                                                            case rel => exact ⟨_, ((a0 == 27)), (by first | rfl | (simp; done) | (simp [*]; done)), H', ⟨by have := HJ2.out; have := HJ5.out; have := HJ13.out; have := HJ17.out; have := HJ21.out; have := HJ28.out; first | omega | exact Nat.le_refl _⟩, by repeat (first | exact Drawn0.refl _ | apply Drawn0.step)⟩
                                                          · rw [if_neg c35] at H
                                                            have c35b0 : (a0 == 27) = false := beq_eq_false_iff_ne.mpr c35
                                                            have c35b1 : (a0 != 27) = true := bne_iff_ne.mpr c35
                                                            have H' := Aside0.mk H
                                                            clear H
                                                            go_wp2
                                                            go_meet
                                                            case rel => exact ⟨_, ((a0 == 31)), (by first | rfl | (simp; done) | (simp [*]; done)), H', ⟨by have := HJ2.out; have := HJ5.out; have := HJ13.out; have := HJ17.out; have := HJ21.out; have := HJ28.out; first | omega | exact Nat.le_refl _⟩, by repeat (first | exact Drawn0.refl _ | apply Drawn0.step)⟩
                                                      case rest =>
                                                        clear HC33
                                                        try clear c1
                                                        try clear c2
                                                        try clear c2b0
                                                        try clear c2b1
                                                        try clear p2
                                                        try clear c3
                                                        try clear c4
                                                        try clear c4b0
                                                        try clear c4b1
                                                        try clear c5
                                                        try clear c7
                                                        try clear c7b0
                                                        try clear c7b1
                                                        try clear c8
                                                        try clear c8b0
                                                        try clear c8b1
                                                        try clear c9
                                                        try clear c9b0
                                                        try clear c9b1
                                                        try clear c10
                                                        try clear c10b0
                                                        try clear c10b1
                                                        try clear c11
                                                        try clear c12
                                                        try clear c12b0
                                                        try clear c12b1
                                                        try clear c13
                                                        try clear c13b0
                                                        try clear c13b1
                                                        try clear c15
                                                        try clear c15b0
                                                        try clear c15b1
                                                        try clear c16
                                                        try clear c17
                                                        try clear c17b0
                                                        try clear c17b1
                                                        try clear c19
                                                        try clear c19b0
                                                        try clear c19b1
                                                        try clear c20
                                                        try clear c20b0
                                                        try clear c20b1
                                                        try clear c21
                                                        try clear c23
                                                        try clear c23b0
                                                        try clear c23b1
                                                        try clear c24
                                                        try clear c25
                                                        try clear c25b0
                                                        try clear c25b1
                                                        try clear c26
                                                        try clear c26b0
                                                        try clear c26b1
                                                        try clear c27
                                                        try clear c27b0
                                                        try clear c27b1
                                                        try clear c28
                                                        try clear c28b0
                                                        try clear c28b1
                                                        try clear c30
                                                        try clear c30b0
                                                        try clear c30b1
                                                        try clear c31
                                                        try clear c31b0
                                                        try clear c31b1
                                                        try clear c32
                                                        try clear c34
                                                        try clear c34b0
                                                        try clear c34b1
                                                        try clear c35
                                                        try clear c35b0
                                                        try clear c35b1
                                                        try clear p2
                                                        obtain ⟨kq, x43_32, rfl, HA, HJ32, ⟨mc32, rfl⟩⟩ := hcut
                                                        cases kq with
                                                        | zero => exact absurd HA.out (by simp [secateurref07_Shape.j6])
                                                        | succ kj32 =>
                                                          have H := HA.out
                                                          clear HA
                                                          simp only [secateurref07_Shape.j6] at H
                                                          by_cases c36 : x43_32 = true
                                                          · subst c36
                                                            have H1 : (some (⟨#[98]⟩ : ByteArray)) = some r := by rw [if_pos rfl] at H; exact H
                                                            clear H
                                                            have H := H1
                                                            clear H1
                                                            obtain rfl := Option.some.inj H
                                                            go_wp2
                                                            go_ret
                                                            exact ⟨by first | rfl | (simp; done) | (simp [*]; done), by repeat (first | exact Drawn0.refl _ | apply Drawn0.step)⟩
                                                          · replace c36 := Bool.eq_false_iff.mpr c36
                                                            subst c36
                                                            have H1 : (if a0 = 30 then (some (⟨#[107]⟩ : ByteArray)) else (if a0 = 32 then (some (⟨#[67]⟩ : ByteArray)) else (some (⟨#[]⟩ : ByteArray)))) = some r := by rw [if_neg (show ¬ (false = true) by decide)] at H; exact H
                                                            clear H
                                                            have H := H1
                                                            clear H1
                                                            by_cases c37 : a0 = 30
                                                            · rw [if_pos c37] at H
                                                              have c37b0 : (a0 == 30) = true := beq_iff_eq.mpr c37
                                                              have c37b1 : (a0 != 30) = false := bne_eq_false_iff_eq.mpr c37
                                                              clear c37
                                                              obtain rfl := Option.some.inj H
                                                              go_wp2
                                                              go_ret
                                                              exact ⟨by first | rfl | (simp; done) | (simp [*]; done), by repeat (first | exact Drawn0.refl _ | apply Drawn0.step)⟩
                                                            · rw [if_neg c37] at H
                                                              have c37b0 : (a0 == 30) = false := beq_eq_false_iff_ne.mpr c37
                                                              have c37b1 : (a0 != 30) = true := bne_iff_ne.mpr c37
                                                              by_cases c38 : a0 = 32
                                                              · rw [if_pos c38] at H
                                                                have c38b0 : (a0 == 32) = true := beq_iff_eq.mpr c38
                                                                have c38b1 : (a0 != 32) = false := bne_eq_false_iff_eq.mpr c38
                                                                clear c38
                                                                obtain rfl := Option.some.inj H
                                                                go_wp2
                                                                go_ret
                                                                exact ⟨by first | rfl | (simp; done) | (simp [*]; done), by repeat (first | exact Drawn0.refl _ | apply Drawn0.step)⟩
                                                              · rw [if_neg c38] at H
                                                                have c38b0 : (a0 == 32) = false := beq_eq_false_iff_ne.mpr c38
                                                                have c38b1 : (a0 != 32) = true := bne_iff_ne.mpr c38
                                                                obtain rfl := Option.some.inj H
                                                                go_wp2
                                                                go_ret
                                                                exact ⟨by first | rfl | (simp; done) | (simp [*]; done), by repeat (first | exact Drawn0.refl _ | apply Drawn0.step)⟩

/-! ### secateurref07_Falls: function 28 -/
def secateurref07_Falls.f (a0 : Int) : Option (Bool) := if a0 ≥ 1 then (if a0 ≤ 32 then (if a0 = 6 then (some false) else (if a0 = 22 then (some false) else (if a0 = 23 then (some false) else (some (a0 != 30))))) else (some false)) else (some false)
set_option maxHeartbeats 8000000 in
set_option maxRecDepth 100000 in
theorem secateurref07_Falls.calls (a0 : Int) (r : Bool) (w : World) (h : secateurref07_Falls.f a0 = some r) :
    Calls Tryd.prog 28 #[.int .i64 a0] w fun e w' => e = .returned (.bool r) ∧ Drawn0 w w' := by
  have H : (if a0 ≥ 1 then (if a0 ≤ 32 then (if a0 = 6 then (some false) else (if a0 = 22 then (some false) else (if a0 = 23 then (some false) else (some (a0 != 30))))) else (some false)) else (some false)) = some r := h
  clear h
  by_cases c2 : a0 ≥ 1
  · rw [if_pos c2] at H
    have c2b0 : decide (1 ≤ a0) = true := decide_eq_true c2
    clear c2
    by_cases c3 : a0 ≤ 32
    · rw [if_pos c3] at H
      have c3b0 : decide (a0 ≤ 32) = true := decide_eq_true c3
      clear c3
      by_cases c4 : a0 = 6
      · rw [if_pos c4] at H
        have c4b0 : (a0 == 6) = true := beq_iff_eq.mpr c4
        have c4b1 : (a0 != 6) = false := bne_eq_false_iff_eq.mpr c4
        clear c4
        obtain rfl := Option.some.inj H
        go_enter Tryd.func28, Tryd.ntmps28
        go_wp2
        go_ret
        exact ⟨by first | rfl | (simp; done) | (simp [*]; done), by repeat (first | exact Drawn0.refl _ | apply Drawn0.step)⟩
      · rw [if_neg c4] at H
        have c4b0 : (a0 == 6) = false := beq_eq_false_iff_ne.mpr c4
        have c4b1 : (a0 != 6) = true := bne_iff_ne.mpr c4
        by_cases c5 : a0 = 22
        · rw [if_pos c5] at H
          have c5b0 : (a0 == 22) = true := beq_iff_eq.mpr c5
          have c5b1 : (a0 != 22) = false := bne_eq_false_iff_eq.mpr c5
          clear c5
          obtain rfl := Option.some.inj H
          go_enter Tryd.func28, Tryd.ntmps28
          go_wp2
          go_ret
          exact ⟨by first | rfl | (simp; done) | (simp [*]; done), by repeat (first | exact Drawn0.refl _ | apply Drawn0.step)⟩
        · rw [if_neg c5] at H
          have c5b0 : (a0 == 22) = false := beq_eq_false_iff_ne.mpr c5
          have c5b1 : (a0 != 22) = true := bne_iff_ne.mpr c5
          by_cases c6 : a0 = 23
          · rw [if_pos c6] at H
            have c6b0 : (a0 == 23) = true := beq_iff_eq.mpr c6
            have c6b1 : (a0 != 23) = false := bne_eq_false_iff_eq.mpr c6
            clear c6
            obtain rfl := Option.some.inj H
            go_enter Tryd.func28, Tryd.ntmps28
            go_wp2
            go_ret
            exact ⟨by first | rfl | (simp; done) | (simp [*]; done), by repeat (first | exact Drawn0.refl _ | apply Drawn0.step)⟩
          · rw [if_neg c6] at H
            have c6b0 : (a0 == 23) = false := beq_eq_false_iff_ne.mpr c6
            have c6b1 : (a0 != 23) = true := bne_iff_ne.mpr c6
            obtain rfl := Option.some.inj H
            go_enter Tryd.func28, Tryd.ntmps28
            go_wp2
            go_ret
            exact ⟨by first | rfl | (simp; done) | (simp [*]; done), by repeat (first | exact Drawn0.refl _ | apply Drawn0.step)⟩
    · rw [if_neg c3] at H
      have c3b0 : decide (a0 ≤ 32) = false := decide_eq_false c3
      clear c3
      obtain rfl := Option.some.inj H
      go_enter Tryd.func28, Tryd.ntmps28
      go_wp2
      go_ret
      exact ⟨by first | rfl | (simp; done) | (simp [*]; done), by repeat (first | exact Drawn0.refl _ | apply Drawn0.step)⟩
  · rw [if_neg c2] at H
    have c2b0 : decide (1 ≤ a0) = false := decide_eq_false c2
    clear c2
    obtain rfl := Option.some.inj H
    go_enter Tryd.func28, Tryd.ntmps28
    go_wp2
    go_ret
    exact ⟨by first | rfl | (simp; done) | (simp [*]; done), by repeat (first | exact Drawn0.refl _ | apply Drawn0.step)⟩

/-! ### secateurref07_Target: function 32 -/
def secateurref07_Target.f (a0_0 : Int) (a0_1 : Int) (a0_2 : Int) (a0_3 : Int) (a0_4 : Int) (a0_5 : ByteArray) (a0_6 : ByteArray) (a0_7 : ByteArray) (l0_8 : List Int) : Option (Int × Bool) := if a0_0 = 6 then (if a0_4 ≥ 0 then (if a0_4 ≤ 256 then (some (a0_4, true)) else (some (0, false))) else (some (0, false))) else (if a0_0 = 7 then (if a0_4 ≥ 0 then (if a0_4 ≤ 256 then (some (a0_4, true)) else (some (0, false))) else (some (0, false))) else (if a0_0 = 8 then (if a0_4 ≥ 0 then (if a0_4 ≤ 256 then (some (a0_4, true)) else (some (0, false))) else (some (0, false))) else (some (0, false))))
set_option maxHeartbeats 8000000 in
set_option maxRecDepth 100000 in
theorem secateurref07_Target.calls (a0_0 : Int) (a0_1 : Int) (a0_2 : Int) (a0_3 : Int) (a0_4 : Int) (a0_5 : ByteArray) (a0_6 : ByteArray) (a0_7 : ByteArray) (A0_8 : Option Addr) (c0_8 : Nat) (l0_8 : List Int) (r1 : Int) (r2 : Bool) (w : World) (hr0_8 : Kd.C (Kd.int .i64) w A0_8 l0_8.length l0_8) (hc0_8 : l0_8.length ≤ c0_8) (h : secateurref07_Target.f a0_0 a0_1 a0_2 a0_3 a0_4 a0_5 a0_6 a0_7 l0_8 = some (r1, r2)) :
    Calls Tryd.prog 32 #[.agg #[.int .i64 a0_0, .int .i64 a0_1, .int .i64 a0_2, .int .i64 a0_3, .int .i64 a0_4, .string a0_5, .string a0_6, .string a0_7, .slice A0_8 l0_8.length c0_8]] w fun e w' => e = .returned (.tuple #[.int .i64 r1, .bool r2]) ∧ Below w.heap.size w w' := by
  have hu36 := Tryd.underlying36
  have HR0_8 := Aside0.mk hr0_8
  have HC0_8 := Aside0.mk hc0_8
  clear hr0_8 hc0_8
  have HB := Aside0.mk (Below.refl w.heap.size w)
  have H : (if a0_0 = 6 then (if a0_4 ≥ 0 then (if a0_4 ≤ 256 then (some (a0_4, true)) else (some (0, false))) else (some (0, false))) else (if a0_0 = 7 then (if a0_4 ≥ 0 then (if a0_4 ≤ 256 then (some (a0_4, true)) else (some (0, false))) else (some (0, false))) else (if a0_0 = 8 then (if a0_4 ≥ 0 then (if a0_4 ≤ 256 then (some (a0_4, true)) else (some (0, false))) else (some (0, false))) else (some (0, false))))) = some (r1, r2) := h
  clear h
  by_cases c2 : a0_0 = 6
  · rw [if_pos c2] at H
    have c2b0 : (a0_0 == 6) = true := beq_iff_eq.mpr c2
    have c2b1 : (a0_0 != 6) = false := bne_eq_false_iff_eq.mpr c2
    clear c2
    by_cases c3 : a0_4 ≥ 0
    · rw [if_pos c3] at H
      have c3b0 : decide (0 ≤ a0_4) = true := decide_eq_true c3
      clear c3
      by_cases c4 : a0_4 ≤ 256
      · rw [if_pos c4] at H
        have c4b0 : decide (a0_4 ≤ 256) = true := decide_eq_true c4
        clear c4
        simp only [Option.some.injEq, Prod.mk.injEq] at H
        obtain ⟨rfl, rfl⟩ := H
        go_enter Tryd.func32, Tryd.ntmps32
        go_wp2_with (first | ((with_reducible refine gate_dst (N := 1) rfl ?_); refine box_event ?hg (N := 1) ?hd (cs := #[.int .i64 a0_0, .int .i64 a0_1, .int .i64 a0_2, .int .i64 a0_3, .int .i64 a0_4, .string a0_5, .string a0_6, .string a0_7, .slice A0_8 l0_8.length c0_8]) (t := 36) ?hr ?_; (case hd => rfl); (case hg => rfl); (case hr => first | (go_simp; done) | (go_simp; rfl)); intro gb215 hg w5 hbox hb; have n0_ := Aside0.mk (below_step (by repeat (first | (with_reducible first | exact HB.out | apply below_alloc | apply pw_below_drewN | apply below_drew1) | exact HB.out)) hb); have n1_ := Aside0.mk (hbox); have n2_ := Aside0.mk ((by rw [hg]; exact (below_size (by repeat (first | (with_reducible first | exact HB.out | apply below_alloc | apply pw_below_drewN | apply below_drew1) | exact HB.out))) : w.heap.size ≤ gb215)); have n3_ := Aside0.mk ((by rw [hg]; exact (below_size (by repeat (first | (with_reducible first | exact HB.out | apply below_alloc | apply pw_below_drewN | apply below_drew1) | exact HB.out))) : w.heap.size ≤ gb215)); clear HB; have HB := n0_; have BK215 := n1_; have GW215 := n2_; have GE215 := n3_; clear n0_ n1_ n2_ n3_; clear hb hbox hg; have hcz6_0 : w5.cell? ⟨gb215, 0, none⟩ = some (.int .i64 a0_0) := (blk_cell BK215.out 0).trans rfl; have hcz6_1 : w5.cell? ⟨gb215, 1, none⟩ = some (.int .i64 a0_1) := (blk_cell BK215.out 1).trans rfl; have hcz6_2 : w5.cell? ⟨gb215, 2, none⟩ = some (.int .i64 a0_2) := (blk_cell BK215.out 2).trans rfl; have hcz6_3 : w5.cell? ⟨gb215, 3, none⟩ = some (.int .i64 a0_3) := (blk_cell BK215.out 3).trans rfl; have hcz6_4 : w5.cell? ⟨gb215, 4, none⟩ = some (.int .i64 a0_4) := (blk_cell BK215.out 4).trans rfl; have hcz6_5 : w5.cell? ⟨gb215, 5, none⟩ = some (.string a0_5) := (blk_cell BK215.out 5).trans rfl; have hcz6_6 : w5.cell? ⟨gb215, 6, none⟩ = some (.string a0_6) := (blk_cell BK215.out 6).trans rfl; have hcz6_7 : w5.cell? ⟨gb215, 7, none⟩ = some (.string a0_7) := (blk_cell BK215.out 7).trans rfl; have hcz6_8 : w5.cell? ⟨gb215, 8, none⟩ = some (.slice A0_8 l0_8.length c0_8) := (blk_cell BK215.out 8).trans rfl; have hfz6_0 := blk_frozen BK215.out 0; have hfz6_1 := blk_frozen BK215.out 1; have hfz6_2 := blk_frozen BK215.out 2; have hfz6_3 := blk_frozen BK215.out 3; have hfz6_4 := blk_frozen BK215.out 4; have hfz6_5 := blk_frozen BK215.out 5; have hfz6_6 := blk_frozen BK215.out 6; have hfz6_7 := blk_frozen BK215.out 7; have hfz6_8 := blk_frozen BK215.out 8))
        go_ret2
        exact ⟨by first | rfl | (simp [errW_none, errW_some] <;> rfl) | (simp [*, errW_none, errW_some] <;> rfl), by repeat (first | (with_reducible first | exact HB.out | apply below_alloc | apply pw_below_drewN | apply below_drew1 | refine below_set ?_ GE215.out) | exact HB.out)⟩
      · rw [if_neg c4] at H
        have c4b0 : decide (a0_4 ≤ 256) = false := decide_eq_false c4
        clear c4
        simp only [Option.some.injEq, Prod.mk.injEq] at H
        obtain ⟨rfl, rfl⟩ := H
        go_enter Tryd.func32, Tryd.ntmps32
        go_wp2_with (first | ((with_reducible refine gate_dst (N := 1) rfl ?_); refine box_event ?hg (N := 1) ?hd (cs := #[.int .i64 a0_0, .int .i64 a0_1, .int .i64 a0_2, .int .i64 a0_3, .int .i64 a0_4, .string a0_5, .string a0_6, .string a0_7, .slice A0_8 l0_8.length c0_8]) (t := 36) ?hr ?_; (case hd => rfl); (case hg => rfl); (case hr => first | (go_simp; done) | (go_simp; rfl)); intro gb215 hg w7 hbox hb; have n0_ := Aside0.mk (below_step (by repeat (first | (with_reducible first | exact HB.out | apply below_alloc | apply pw_below_drewN | apply below_drew1) | exact HB.out)) hb); have n1_ := Aside0.mk (hbox); have n2_ := Aside0.mk ((by rw [hg]; exact (below_size (by repeat (first | (with_reducible first | exact HB.out | apply below_alloc | apply pw_below_drewN | apply below_drew1) | exact HB.out))) : w.heap.size ≤ gb215)); have n3_ := Aside0.mk ((by rw [hg]; exact (below_size (by repeat (first | (with_reducible first | exact HB.out | apply below_alloc | apply pw_below_drewN | apply below_drew1) | exact HB.out))) : w.heap.size ≤ gb215)); clear HB; have HB := n0_; have BK215 := n1_; have GW215 := n2_; have GE215 := n3_; clear n0_ n1_ n2_ n3_; clear hb hbox hg; have hcz8_0 : w7.cell? ⟨gb215, 0, none⟩ = some (.int .i64 a0_0) := (blk_cell BK215.out 0).trans rfl; have hcz8_1 : w7.cell? ⟨gb215, 1, none⟩ = some (.int .i64 a0_1) := (blk_cell BK215.out 1).trans rfl; have hcz8_2 : w7.cell? ⟨gb215, 2, none⟩ = some (.int .i64 a0_2) := (blk_cell BK215.out 2).trans rfl; have hcz8_3 : w7.cell? ⟨gb215, 3, none⟩ = some (.int .i64 a0_3) := (blk_cell BK215.out 3).trans rfl; have hcz8_4 : w7.cell? ⟨gb215, 4, none⟩ = some (.int .i64 a0_4) := (blk_cell BK215.out 4).trans rfl; have hcz8_5 : w7.cell? ⟨gb215, 5, none⟩ = some (.string a0_5) := (blk_cell BK215.out 5).trans rfl; have hcz8_6 : w7.cell? ⟨gb215, 6, none⟩ = some (.string a0_6) := (blk_cell BK215.out 6).trans rfl; have hcz8_7 : w7.cell? ⟨gb215, 7, none⟩ = some (.string a0_7) := (blk_cell BK215.out 7).trans rfl; have hcz8_8 : w7.cell? ⟨gb215, 8, none⟩ = some (.slice A0_8 l0_8.length c0_8) := (blk_cell BK215.out 8).trans rfl; have hfz8_0 := blk_frozen BK215.out 0; have hfz8_1 := blk_frozen BK215.out 1; have hfz8_2 := blk_frozen BK215.out 2; have hfz8_3 := blk_frozen BK215.out 3; have hfz8_4 := blk_frozen BK215.out 4; have hfz8_5 := blk_frozen BK215.out 5; have hfz8_6 := blk_frozen BK215.out 6; have hfz8_7 := blk_frozen BK215.out 7; have hfz8_8 := blk_frozen BK215.out 8))
        go_ret2
        exact ⟨by first | rfl | (simp [errW_none, errW_some] <;> rfl) | (simp [*, errW_none, errW_some] <;> rfl), by repeat (first | (with_reducible first | exact HB.out | apply below_alloc | apply pw_below_drewN | apply below_drew1 | refine below_set ?_ GE215.out) | exact HB.out)⟩
    · rw [if_neg c3] at H
      have c3b0 : decide (0 ≤ a0_4) = false := decide_eq_false c3
      clear c3
      simp only [Option.some.injEq, Prod.mk.injEq] at H
      obtain ⟨rfl, rfl⟩ := H
      go_enter Tryd.func32, Tryd.ntmps32
      go_wp2_with (first | ((with_reducible refine gate_dst (N := 1) rfl ?_); refine box_event ?hg (N := 1) ?hd (cs := #[.int .i64 a0_0, .int .i64 a0_1, .int .i64 a0_2, .int .i64 a0_3, .int .i64 a0_4, .string a0_5, .string a0_6, .string a0_7, .slice A0_8 l0_8.length c0_8]) (t := 36) ?hr ?_; (case hd => rfl); (case hg => rfl); (case hr => first | (go_simp; done) | (go_simp; rfl)); intro gb215 hg w9 hbox hb; have n0_ := Aside0.mk (below_step (by repeat (first | (with_reducible first | exact HB.out | apply below_alloc | apply pw_below_drewN | apply below_drew1) | exact HB.out)) hb); have n1_ := Aside0.mk (hbox); have n2_ := Aside0.mk ((by rw [hg]; exact (below_size (by repeat (first | (with_reducible first | exact HB.out | apply below_alloc | apply pw_below_drewN | apply below_drew1) | exact HB.out))) : w.heap.size ≤ gb215)); have n3_ := Aside0.mk ((by rw [hg]; exact (below_size (by repeat (first | (with_reducible first | exact HB.out | apply below_alloc | apply pw_below_drewN | apply below_drew1) | exact HB.out))) : w.heap.size ≤ gb215)); clear HB; have HB := n0_; have BK215 := n1_; have GW215 := n2_; have GE215 := n3_; clear n0_ n1_ n2_ n3_; clear hb hbox hg; have hcz10_0 : w9.cell? ⟨gb215, 0, none⟩ = some (.int .i64 a0_0) := (blk_cell BK215.out 0).trans rfl; have hcz10_1 : w9.cell? ⟨gb215, 1, none⟩ = some (.int .i64 a0_1) := (blk_cell BK215.out 1).trans rfl; have hcz10_2 : w9.cell? ⟨gb215, 2, none⟩ = some (.int .i64 a0_2) := (blk_cell BK215.out 2).trans rfl; have hcz10_3 : w9.cell? ⟨gb215, 3, none⟩ = some (.int .i64 a0_3) := (blk_cell BK215.out 3).trans rfl; have hcz10_4 : w9.cell? ⟨gb215, 4, none⟩ = some (.int .i64 a0_4) := (blk_cell BK215.out 4).trans rfl; have hcz10_5 : w9.cell? ⟨gb215, 5, none⟩ = some (.string a0_5) := (blk_cell BK215.out 5).trans rfl; have hcz10_6 : w9.cell? ⟨gb215, 6, none⟩ = some (.string a0_6) := (blk_cell BK215.out 6).trans rfl; have hcz10_7 : w9.cell? ⟨gb215, 7, none⟩ = some (.string a0_7) := (blk_cell BK215.out 7).trans rfl; have hcz10_8 : w9.cell? ⟨gb215, 8, none⟩ = some (.slice A0_8 l0_8.length c0_8) := (blk_cell BK215.out 8).trans rfl; have hfz10_0 := blk_frozen BK215.out 0; have hfz10_1 := blk_frozen BK215.out 1; have hfz10_2 := blk_frozen BK215.out 2; have hfz10_3 := blk_frozen BK215.out 3; have hfz10_4 := blk_frozen BK215.out 4; have hfz10_5 := blk_frozen BK215.out 5; have hfz10_6 := blk_frozen BK215.out 6; have hfz10_7 := blk_frozen BK215.out 7; have hfz10_8 := blk_frozen BK215.out 8))
      go_ret2
      exact ⟨by first | rfl | (simp [errW_none, errW_some] <;> rfl) | (simp [*, errW_none, errW_some] <;> rfl), by repeat (first | (with_reducible first | exact HB.out | apply below_alloc | apply pw_below_drewN | apply below_drew1 | refine below_set ?_ GE215.out) | exact HB.out)⟩
  · rw [if_neg c2] at H
    have c2b0 : (a0_0 == 6) = false := beq_eq_false_iff_ne.mpr c2
    have c2b1 : (a0_0 != 6) = true := bne_iff_ne.mpr c2
    by_cases c11 : a0_0 = 7
    · rw [if_pos c11] at H
      have c11b0 : (a0_0 == 7) = true := beq_iff_eq.mpr c11
      have c11b1 : (a0_0 != 7) = false := bne_eq_false_iff_eq.mpr c11
      clear c11
      by_cases c12 : a0_4 ≥ 0
      · rw [if_pos c12] at H
        have c12b0 : decide (0 ≤ a0_4) = true := decide_eq_true c12
        clear c12
        by_cases c13 : a0_4 ≤ 256
        · rw [if_pos c13] at H
          have c13b0 : decide (a0_4 ≤ 256) = true := decide_eq_true c13
          clear c13
          simp only [Option.some.injEq, Prod.mk.injEq] at H
          obtain ⟨rfl, rfl⟩ := H
          go_enter Tryd.func32, Tryd.ntmps32
          go_wp2_with (first | ((with_reducible refine gate_dst (N := 1) rfl ?_); refine box_event ?hg (N := 1) ?hd (cs := #[.int .i64 a0_0, .int .i64 a0_1, .int .i64 a0_2, .int .i64 a0_3, .int .i64 a0_4, .string a0_5, .string a0_6, .string a0_7, .slice A0_8 l0_8.length c0_8]) (t := 36) ?hr ?_; (case hd => rfl); (case hg => rfl); (case hr => first | (go_simp; done) | (go_simp; rfl)); intro gb215 hg w14 hbox hb; have n0_ := Aside0.mk (below_step (by repeat (first | (with_reducible first | exact HB.out | apply below_alloc | apply pw_below_drewN | apply below_drew1) | exact HB.out)) hb); have n1_ := Aside0.mk (hbox); have n2_ := Aside0.mk ((by rw [hg]; exact (below_size (by repeat (first | (with_reducible first | exact HB.out | apply below_alloc | apply pw_below_drewN | apply below_drew1) | exact HB.out))) : w.heap.size ≤ gb215)); have n3_ := Aside0.mk ((by rw [hg]; exact (below_size (by repeat (first | (with_reducible first | exact HB.out | apply below_alloc | apply pw_below_drewN | apply below_drew1) | exact HB.out))) : w.heap.size ≤ gb215)); clear HB; have HB := n0_; have BK215 := n1_; have GW215 := n2_; have GE215 := n3_; clear n0_ n1_ n2_ n3_; clear hb hbox hg; have hcz15_0 : w14.cell? ⟨gb215, 0, none⟩ = some (.int .i64 a0_0) := (blk_cell BK215.out 0).trans rfl; have hcz15_1 : w14.cell? ⟨gb215, 1, none⟩ = some (.int .i64 a0_1) := (blk_cell BK215.out 1).trans rfl; have hcz15_2 : w14.cell? ⟨gb215, 2, none⟩ = some (.int .i64 a0_2) := (blk_cell BK215.out 2).trans rfl; have hcz15_3 : w14.cell? ⟨gb215, 3, none⟩ = some (.int .i64 a0_3) := (blk_cell BK215.out 3).trans rfl; have hcz15_4 : w14.cell? ⟨gb215, 4, none⟩ = some (.int .i64 a0_4) := (blk_cell BK215.out 4).trans rfl; have hcz15_5 : w14.cell? ⟨gb215, 5, none⟩ = some (.string a0_5) := (blk_cell BK215.out 5).trans rfl; have hcz15_6 : w14.cell? ⟨gb215, 6, none⟩ = some (.string a0_6) := (blk_cell BK215.out 6).trans rfl; have hcz15_7 : w14.cell? ⟨gb215, 7, none⟩ = some (.string a0_7) := (blk_cell BK215.out 7).trans rfl; have hcz15_8 : w14.cell? ⟨gb215, 8, none⟩ = some (.slice A0_8 l0_8.length c0_8) := (blk_cell BK215.out 8).trans rfl; have hfz15_0 := blk_frozen BK215.out 0; have hfz15_1 := blk_frozen BK215.out 1; have hfz15_2 := blk_frozen BK215.out 2; have hfz15_3 := blk_frozen BK215.out 3; have hfz15_4 := blk_frozen BK215.out 4; have hfz15_5 := blk_frozen BK215.out 5; have hfz15_6 := blk_frozen BK215.out 6; have hfz15_7 := blk_frozen BK215.out 7; have hfz15_8 := blk_frozen BK215.out 8))
          go_ret2
          exact ⟨by first | rfl | (simp [errW_none, errW_some] <;> rfl) | (simp [*, errW_none, errW_some] <;> rfl), by repeat (first | (with_reducible first | exact HB.out | apply below_alloc | apply pw_below_drewN | apply below_drew1 | refine below_set ?_ GE215.out) | exact HB.out)⟩
        · rw [if_neg c13] at H
          have c13b0 : decide (a0_4 ≤ 256) = false := decide_eq_false c13
          clear c13
          simp only [Option.some.injEq, Prod.mk.injEq] at H
          obtain ⟨rfl, rfl⟩ := H
          go_enter Tryd.func32, Tryd.ntmps32
          go_wp2_with (first | ((with_reducible refine gate_dst (N := 1) rfl ?_); refine box_event ?hg (N := 1) ?hd (cs := #[.int .i64 a0_0, .int .i64 a0_1, .int .i64 a0_2, .int .i64 a0_3, .int .i64 a0_4, .string a0_5, .string a0_6, .string a0_7, .slice A0_8 l0_8.length c0_8]) (t := 36) ?hr ?_; (case hd => rfl); (case hg => rfl); (case hr => first | (go_simp; done) | (go_simp; rfl)); intro gb215 hg w16 hbox hb; have n0_ := Aside0.mk (below_step (by repeat (first | (with_reducible first | exact HB.out | apply below_alloc | apply pw_below_drewN | apply below_drew1) | exact HB.out)) hb); have n1_ := Aside0.mk (hbox); have n2_ := Aside0.mk ((by rw [hg]; exact (below_size (by repeat (first | (with_reducible first | exact HB.out | apply below_alloc | apply pw_below_drewN | apply below_drew1) | exact HB.out))) : w.heap.size ≤ gb215)); have n3_ := Aside0.mk ((by rw [hg]; exact (below_size (by repeat (first | (with_reducible first | exact HB.out | apply below_alloc | apply pw_below_drewN | apply below_drew1) | exact HB.out))) : w.heap.size ≤ gb215)); clear HB; have HB := n0_; have BK215 := n1_; have GW215 := n2_; have GE215 := n3_; clear n0_ n1_ n2_ n3_; clear hb hbox hg; have hcz17_0 : w16.cell? ⟨gb215, 0, none⟩ = some (.int .i64 a0_0) := (blk_cell BK215.out 0).trans rfl; have hcz17_1 : w16.cell? ⟨gb215, 1, none⟩ = some (.int .i64 a0_1) := (blk_cell BK215.out 1).trans rfl; have hcz17_2 : w16.cell? ⟨gb215, 2, none⟩ = some (.int .i64 a0_2) := (blk_cell BK215.out 2).trans rfl; have hcz17_3 : w16.cell? ⟨gb215, 3, none⟩ = some (.int .i64 a0_3) := (blk_cell BK215.out 3).trans rfl; have hcz17_4 : w16.cell? ⟨gb215, 4, none⟩ = some (.int .i64 a0_4) := (blk_cell BK215.out 4).trans rfl; have hcz17_5 : w16.cell? ⟨gb215, 5, none⟩ = some (.string a0_5) := (blk_cell BK215.out 5).trans rfl; have hcz17_6 : w16.cell? ⟨gb215, 6, none⟩ = some (.string a0_6) := (blk_cell BK215.out 6).trans rfl; have hcz17_7 : w16.cell? ⟨gb215, 7, none⟩ = some (.string a0_7) := (blk_cell BK215.out 7).trans rfl; have hcz17_8 : w16.cell? ⟨gb215, 8, none⟩ = some (.slice A0_8 l0_8.length c0_8) := (blk_cell BK215.out 8).trans rfl; have hfz17_0 := blk_frozen BK215.out 0; have hfz17_1 := blk_frozen BK215.out 1; have hfz17_2 := blk_frozen BK215.out 2; have hfz17_3 := blk_frozen BK215.out 3; have hfz17_4 := blk_frozen BK215.out 4; have hfz17_5 := blk_frozen BK215.out 5; have hfz17_6 := blk_frozen BK215.out 6; have hfz17_7 := blk_frozen BK215.out 7; have hfz17_8 := blk_frozen BK215.out 8))
          go_ret2
          exact ⟨by first | rfl | (simp [errW_none, errW_some] <;> rfl) | (simp [*, errW_none, errW_some] <;> rfl), by repeat (first | (with_reducible first | exact HB.out | apply below_alloc | apply pw_below_drewN | apply below_drew1 | refine below_set ?_ GE215.out) | exact HB.out)⟩
      · rw [if_neg c12] at H
        have c12b0 : decide (0 ≤ a0_4) = false := decide_eq_false c12
        clear c12
        simp only [Option.some.injEq, Prod.mk.injEq] at H
        obtain ⟨rfl, rfl⟩ := H
        go_enter Tryd.func32, Tryd.ntmps32
        go_wp2_with (first | ((with_reducible refine gate_dst (N := 1) rfl ?_); refine box_event ?hg (N := 1) ?hd (cs := #[.int .i64 a0_0, .int .i64 a0_1, .int .i64 a0_2, .int .i64 a0_3, .int .i64 a0_4, .string a0_5, .string a0_6, .string a0_7, .slice A0_8 l0_8.length c0_8]) (t := 36) ?hr ?_; (case hd => rfl); (case hg => rfl); (case hr => first | (go_simp; done) | (go_simp; rfl)); intro gb215 hg w18 hbox hb; have n0_ := Aside0.mk (below_step (by repeat (first | (with_reducible first | exact HB.out | apply below_alloc | apply pw_below_drewN | apply below_drew1) | exact HB.out)) hb); have n1_ := Aside0.mk (hbox); have n2_ := Aside0.mk ((by rw [hg]; exact (below_size (by repeat (first | (with_reducible first | exact HB.out | apply below_alloc | apply pw_below_drewN | apply below_drew1) | exact HB.out))) : w.heap.size ≤ gb215)); have n3_ := Aside0.mk ((by rw [hg]; exact (below_size (by repeat (first | (with_reducible first | exact HB.out | apply below_alloc | apply pw_below_drewN | apply below_drew1) | exact HB.out))) : w.heap.size ≤ gb215)); clear HB; have HB := n0_; have BK215 := n1_; have GW215 := n2_; have GE215 := n3_; clear n0_ n1_ n2_ n3_; clear hb hbox hg; have hcz19_0 : w18.cell? ⟨gb215, 0, none⟩ = some (.int .i64 a0_0) := (blk_cell BK215.out 0).trans rfl; have hcz19_1 : w18.cell? ⟨gb215, 1, none⟩ = some (.int .i64 a0_1) := (blk_cell BK215.out 1).trans rfl; have hcz19_2 : w18.cell? ⟨gb215, 2, none⟩ = some (.int .i64 a0_2) := (blk_cell BK215.out 2).trans rfl; have hcz19_3 : w18.cell? ⟨gb215, 3, none⟩ = some (.int .i64 a0_3) := (blk_cell BK215.out 3).trans rfl; have hcz19_4 : w18.cell? ⟨gb215, 4, none⟩ = some (.int .i64 a0_4) := (blk_cell BK215.out 4).trans rfl; have hcz19_5 : w18.cell? ⟨gb215, 5, none⟩ = some (.string a0_5) := (blk_cell BK215.out 5).trans rfl; have hcz19_6 : w18.cell? ⟨gb215, 6, none⟩ = some (.string a0_6) := (blk_cell BK215.out 6).trans rfl; have hcz19_7 : w18.cell? ⟨gb215, 7, none⟩ = some (.string a0_7) := (blk_cell BK215.out 7).trans rfl; have hcz19_8 : w18.cell? ⟨gb215, 8, none⟩ = some (.slice A0_8 l0_8.length c0_8) := (blk_cell BK215.out 8).trans rfl; have hfz19_0 := blk_frozen BK215.out 0; have hfz19_1 := blk_frozen BK215.out 1; have hfz19_2 := blk_frozen BK215.out 2; have hfz19_3 := blk_frozen BK215.out 3; have hfz19_4 := blk_frozen BK215.out 4; have hfz19_5 := blk_frozen BK215.out 5; have hfz19_6 := blk_frozen BK215.out 6; have hfz19_7 := blk_frozen BK215.out 7; have hfz19_8 := blk_frozen BK215.out 8))
        go_ret2
        exact ⟨by first | rfl | (simp [errW_none, errW_some] <;> rfl) | (simp [*, errW_none, errW_some] <;> rfl), by repeat (first | (with_reducible first | exact HB.out | apply below_alloc | apply pw_below_drewN | apply below_drew1 | refine below_set ?_ GE215.out) | exact HB.out)⟩
    · rw [if_neg c11] at H
      have c11b0 : (a0_0 == 7) = false := beq_eq_false_iff_ne.mpr c11
      have c11b1 : (a0_0 != 7) = true := bne_iff_ne.mpr c11
      by_cases c20 : a0_0 = 8
      · rw [if_pos c20] at H
        have c20b0 : (a0_0 == 8) = true := beq_iff_eq.mpr c20
        have c20b1 : (a0_0 != 8) = false := bne_eq_false_iff_eq.mpr c20
        clear c20
        by_cases c21 : a0_4 ≥ 0
        · rw [if_pos c21] at H
          have c21b0 : decide (0 ≤ a0_4) = true := decide_eq_true c21
          clear c21
          by_cases c22 : a0_4 ≤ 256
          · rw [if_pos c22] at H
            have c22b0 : decide (a0_4 ≤ 256) = true := decide_eq_true c22
            clear c22
            simp only [Option.some.injEq, Prod.mk.injEq] at H
            obtain ⟨rfl, rfl⟩ := H
            go_enter Tryd.func32, Tryd.ntmps32
            go_wp2_with (first | ((with_reducible refine gate_dst (N := 1) rfl ?_); refine box_event ?hg (N := 1) ?hd (cs := #[.int .i64 a0_0, .int .i64 a0_1, .int .i64 a0_2, .int .i64 a0_3, .int .i64 a0_4, .string a0_5, .string a0_6, .string a0_7, .slice A0_8 l0_8.length c0_8]) (t := 36) ?hr ?_; (case hd => rfl); (case hg => rfl); (case hr => first | (go_simp; done) | (go_simp; rfl)); intro gb215 hg w23 hbox hb; have n0_ := Aside0.mk (below_step (by repeat (first | (with_reducible first | exact HB.out | apply below_alloc | apply pw_below_drewN | apply below_drew1) | exact HB.out)) hb); have n1_ := Aside0.mk (hbox); have n2_ := Aside0.mk ((by rw [hg]; exact (below_size (by repeat (first | (with_reducible first | exact HB.out | apply below_alloc | apply pw_below_drewN | apply below_drew1) | exact HB.out))) : w.heap.size ≤ gb215)); have n3_ := Aside0.mk ((by rw [hg]; exact (below_size (by repeat (first | (with_reducible first | exact HB.out | apply below_alloc | apply pw_below_drewN | apply below_drew1) | exact HB.out))) : w.heap.size ≤ gb215)); clear HB; have HB := n0_; have BK215 := n1_; have GW215 := n2_; have GE215 := n3_; clear n0_ n1_ n2_ n3_; clear hb hbox hg; have hcz24_0 : w23.cell? ⟨gb215, 0, none⟩ = some (.int .i64 a0_0) := (blk_cell BK215.out 0).trans rfl; have hcz24_1 : w23.cell? ⟨gb215, 1, none⟩ = some (.int .i64 a0_1) := (blk_cell BK215.out 1).trans rfl; have hcz24_2 : w23.cell? ⟨gb215, 2, none⟩ = some (.int .i64 a0_2) := (blk_cell BK215.out 2).trans rfl; have hcz24_3 : w23.cell? ⟨gb215, 3, none⟩ = some (.int .i64 a0_3) := (blk_cell BK215.out 3).trans rfl; have hcz24_4 : w23.cell? ⟨gb215, 4, none⟩ = some (.int .i64 a0_4) := (blk_cell BK215.out 4).trans rfl; have hcz24_5 : w23.cell? ⟨gb215, 5, none⟩ = some (.string a0_5) := (blk_cell BK215.out 5).trans rfl; have hcz24_6 : w23.cell? ⟨gb215, 6, none⟩ = some (.string a0_6) := (blk_cell BK215.out 6).trans rfl; have hcz24_7 : w23.cell? ⟨gb215, 7, none⟩ = some (.string a0_7) := (blk_cell BK215.out 7).trans rfl; have hcz24_8 : w23.cell? ⟨gb215, 8, none⟩ = some (.slice A0_8 l0_8.length c0_8) := (blk_cell BK215.out 8).trans rfl; have hfz24_0 := blk_frozen BK215.out 0; have hfz24_1 := blk_frozen BK215.out 1; have hfz24_2 := blk_frozen BK215.out 2; have hfz24_3 := blk_frozen BK215.out 3; have hfz24_4 := blk_frozen BK215.out 4; have hfz24_5 := blk_frozen BK215.out 5; have hfz24_6 := blk_frozen BK215.out 6; have hfz24_7 := blk_frozen BK215.out 7; have hfz24_8 := blk_frozen BK215.out 8))
            go_ret2
            exact ⟨by first | rfl | (simp [errW_none, errW_some] <;> rfl) | (simp [*, errW_none, errW_some] <;> rfl), by repeat (first | (with_reducible first | exact HB.out | apply below_alloc | apply pw_below_drewN | apply below_drew1 | refine below_set ?_ GE215.out) | exact HB.out)⟩
          · rw [if_neg c22] at H
            have c22b0 : decide (a0_4 ≤ 256) = false := decide_eq_false c22
            clear c22
            simp only [Option.some.injEq, Prod.mk.injEq] at H
            obtain ⟨rfl, rfl⟩ := H
            go_enter Tryd.func32, Tryd.ntmps32
            go_wp2_with (first | ((with_reducible refine gate_dst (N := 1) rfl ?_); refine box_event ?hg (N := 1) ?hd (cs := #[.int .i64 a0_0, .int .i64 a0_1, .int .i64 a0_2, .int .i64 a0_3, .int .i64 a0_4, .string a0_5, .string a0_6, .string a0_7, .slice A0_8 l0_8.length c0_8]) (t := 36) ?hr ?_; (case hd => rfl); (case hg => rfl); (case hr => first | (go_simp; done) | (go_simp; rfl)); intro gb215 hg w25 hbox hb; have n0_ := Aside0.mk (below_step (by repeat (first | (with_reducible first | exact HB.out | apply below_alloc | apply pw_below_drewN | apply below_drew1) | exact HB.out)) hb); have n1_ := Aside0.mk (hbox); have n2_ := Aside0.mk ((by rw [hg]; exact (below_size (by repeat (first | (with_reducible first | exact HB.out | apply below_alloc | apply pw_below_drewN | apply below_drew1) | exact HB.out))) : w.heap.size ≤ gb215)); have n3_ := Aside0.mk ((by rw [hg]; exact (below_size (by repeat (first | (with_reducible first | exact HB.out | apply below_alloc | apply pw_below_drewN | apply below_drew1) | exact HB.out))) : w.heap.size ≤ gb215)); clear HB; have HB := n0_; have BK215 := n1_; have GW215 := n2_; have GE215 := n3_; clear n0_ n1_ n2_ n3_; clear hb hbox hg; have hcz26_0 : w25.cell? ⟨gb215, 0, none⟩ = some (.int .i64 a0_0) := (blk_cell BK215.out 0).trans rfl; have hcz26_1 : w25.cell? ⟨gb215, 1, none⟩ = some (.int .i64 a0_1) := (blk_cell BK215.out 1).trans rfl; have hcz26_2 : w25.cell? ⟨gb215, 2, none⟩ = some (.int .i64 a0_2) := (blk_cell BK215.out 2).trans rfl; have hcz26_3 : w25.cell? ⟨gb215, 3, none⟩ = some (.int .i64 a0_3) := (blk_cell BK215.out 3).trans rfl; have hcz26_4 : w25.cell? ⟨gb215, 4, none⟩ = some (.int .i64 a0_4) := (blk_cell BK215.out 4).trans rfl; have hcz26_5 : w25.cell? ⟨gb215, 5, none⟩ = some (.string a0_5) := (blk_cell BK215.out 5).trans rfl; have hcz26_6 : w25.cell? ⟨gb215, 6, none⟩ = some (.string a0_6) := (blk_cell BK215.out 6).trans rfl; have hcz26_7 : w25.cell? ⟨gb215, 7, none⟩ = some (.string a0_7) := (blk_cell BK215.out 7).trans rfl; have hcz26_8 : w25.cell? ⟨gb215, 8, none⟩ = some (.slice A0_8 l0_8.length c0_8) := (blk_cell BK215.out 8).trans rfl; have hfz26_0 := blk_frozen BK215.out 0; have hfz26_1 := blk_frozen BK215.out 1; have hfz26_2 := blk_frozen BK215.out 2; have hfz26_3 := blk_frozen BK215.out 3; have hfz26_4 := blk_frozen BK215.out 4; have hfz26_5 := blk_frozen BK215.out 5; have hfz26_6 := blk_frozen BK215.out 6; have hfz26_7 := blk_frozen BK215.out 7; have hfz26_8 := blk_frozen BK215.out 8))
            go_ret2
            exact ⟨by first | rfl | (simp [errW_none, errW_some] <;> rfl) | (simp [*, errW_none, errW_some] <;> rfl), by repeat (first | (with_reducible first | exact HB.out | apply below_alloc | apply pw_below_drewN | apply below_drew1 | refine below_set ?_ GE215.out) | exact HB.out)⟩
        · rw [if_neg c21] at H
          have c21b0 : decide (0 ≤ a0_4) = false := decide_eq_false c21
          clear c21
          simp only [Option.some.injEq, Prod.mk.injEq] at H
          obtain ⟨rfl, rfl⟩ := H
          go_enter Tryd.func32, Tryd.ntmps32
          go_wp2_with (first | ((with_reducible refine gate_dst (N := 1) rfl ?_); refine box_event ?hg (N := 1) ?hd (cs := #[.int .i64 a0_0, .int .i64 a0_1, .int .i64 a0_2, .int .i64 a0_3, .int .i64 a0_4, .string a0_5, .string a0_6, .string a0_7, .slice A0_8 l0_8.length c0_8]) (t := 36) ?hr ?_; (case hd => rfl); (case hg => rfl); (case hr => first | (go_simp; done) | (go_simp; rfl)); intro gb215 hg w27 hbox hb; have n0_ := Aside0.mk (below_step (by repeat (first | (with_reducible first | exact HB.out | apply below_alloc | apply pw_below_drewN | apply below_drew1) | exact HB.out)) hb); have n1_ := Aside0.mk (hbox); have n2_ := Aside0.mk ((by rw [hg]; exact (below_size (by repeat (first | (with_reducible first | exact HB.out | apply below_alloc | apply pw_below_drewN | apply below_drew1) | exact HB.out))) : w.heap.size ≤ gb215)); have n3_ := Aside0.mk ((by rw [hg]; exact (below_size (by repeat (first | (with_reducible first | exact HB.out | apply below_alloc | apply pw_below_drewN | apply below_drew1) | exact HB.out))) : w.heap.size ≤ gb215)); clear HB; have HB := n0_; have BK215 := n1_; have GW215 := n2_; have GE215 := n3_; clear n0_ n1_ n2_ n3_; clear hb hbox hg; have hcz28_0 : w27.cell? ⟨gb215, 0, none⟩ = some (.int .i64 a0_0) := (blk_cell BK215.out 0).trans rfl; have hcz28_1 : w27.cell? ⟨gb215, 1, none⟩ = some (.int .i64 a0_1) := (blk_cell BK215.out 1).trans rfl; have hcz28_2 : w27.cell? ⟨gb215, 2, none⟩ = some (.int .i64 a0_2) := (blk_cell BK215.out 2).trans rfl; have hcz28_3 : w27.cell? ⟨gb215, 3, none⟩ = some (.int .i64 a0_3) := (blk_cell BK215.out 3).trans rfl; have hcz28_4 : w27.cell? ⟨gb215, 4, none⟩ = some (.int .i64 a0_4) := (blk_cell BK215.out 4).trans rfl; have hcz28_5 : w27.cell? ⟨gb215, 5, none⟩ = some (.string a0_5) := (blk_cell BK215.out 5).trans rfl; have hcz28_6 : w27.cell? ⟨gb215, 6, none⟩ = some (.string a0_6) := (blk_cell BK215.out 6).trans rfl; have hcz28_7 : w27.cell? ⟨gb215, 7, none⟩ = some (.string a0_7) := (blk_cell BK215.out 7).trans rfl; have hcz28_8 : w27.cell? ⟨gb215, 8, none⟩ = some (.slice A0_8 l0_8.length c0_8) := (blk_cell BK215.out 8).trans rfl; have hfz28_0 := blk_frozen BK215.out 0; have hfz28_1 := blk_frozen BK215.out 1; have hfz28_2 := blk_frozen BK215.out 2; have hfz28_3 := blk_frozen BK215.out 3; have hfz28_4 := blk_frozen BK215.out 4; have hfz28_5 := blk_frozen BK215.out 5; have hfz28_6 := blk_frozen BK215.out 6; have hfz28_7 := blk_frozen BK215.out 7; have hfz28_8 := blk_frozen BK215.out 8))
          go_ret2
          exact ⟨by first | rfl | (simp [errW_none, errW_some] <;> rfl) | (simp [*, errW_none, errW_some] <;> rfl), by repeat (first | (with_reducible first | exact HB.out | apply below_alloc | apply pw_below_drewN | apply below_drew1 | refine below_set ?_ GE215.out) | exact HB.out)⟩
      · rw [if_neg c20] at H
        have c20b0 : (a0_0 == 8) = false := beq_eq_false_iff_ne.mpr c20
        have c20b1 : (a0_0 != 8) = true := bne_iff_ne.mpr c20
        simp only [Option.some.injEq, Prod.mk.injEq] at H
        obtain ⟨rfl, rfl⟩ := H
        go_enter Tryd.func32, Tryd.ntmps32
        go_wp2_with (first | ((with_reducible refine gate_dst (N := 1) rfl ?_); refine box_event ?hg (N := 1) ?hd (cs := #[.int .i64 a0_0, .int .i64 a0_1, .int .i64 a0_2, .int .i64 a0_3, .int .i64 a0_4, .string a0_5, .string a0_6, .string a0_7, .slice A0_8 l0_8.length c0_8]) (t := 36) ?hr ?_; (case hd => rfl); (case hg => rfl); (case hr => first | (go_simp; done) | (go_simp; rfl)); intro gb215 hg w29 hbox hb; have n0_ := Aside0.mk (below_step (by repeat (first | (with_reducible first | exact HB.out | apply below_alloc | apply pw_below_drewN | apply below_drew1) | exact HB.out)) hb); have n1_ := Aside0.mk (hbox); have n2_ := Aside0.mk ((by rw [hg]; exact (below_size (by repeat (first | (with_reducible first | exact HB.out | apply below_alloc | apply pw_below_drewN | apply below_drew1) | exact HB.out))) : w.heap.size ≤ gb215)); have n3_ := Aside0.mk ((by rw [hg]; exact (below_size (by repeat (first | (with_reducible first | exact HB.out | apply below_alloc | apply pw_below_drewN | apply below_drew1) | exact HB.out))) : w.heap.size ≤ gb215)); clear HB; have HB := n0_; have BK215 := n1_; have GW215 := n2_; have GE215 := n3_; clear n0_ n1_ n2_ n3_; clear hb hbox hg; have hcz30_0 : w29.cell? ⟨gb215, 0, none⟩ = some (.int .i64 a0_0) := (blk_cell BK215.out 0).trans rfl; have hcz30_1 : w29.cell? ⟨gb215, 1, none⟩ = some (.int .i64 a0_1) := (blk_cell BK215.out 1).trans rfl; have hcz30_2 : w29.cell? ⟨gb215, 2, none⟩ = some (.int .i64 a0_2) := (blk_cell BK215.out 2).trans rfl; have hcz30_3 : w29.cell? ⟨gb215, 3, none⟩ = some (.int .i64 a0_3) := (blk_cell BK215.out 3).trans rfl; have hcz30_4 : w29.cell? ⟨gb215, 4, none⟩ = some (.int .i64 a0_4) := (blk_cell BK215.out 4).trans rfl; have hcz30_5 : w29.cell? ⟨gb215, 5, none⟩ = some (.string a0_5) := (blk_cell BK215.out 5).trans rfl; have hcz30_6 : w29.cell? ⟨gb215, 6, none⟩ = some (.string a0_6) := (blk_cell BK215.out 6).trans rfl; have hcz30_7 : w29.cell? ⟨gb215, 7, none⟩ = some (.string a0_7) := (blk_cell BK215.out 7).trans rfl; have hcz30_8 : w29.cell? ⟨gb215, 8, none⟩ = some (.slice A0_8 l0_8.length c0_8) := (blk_cell BK215.out 8).trans rfl; have hfz30_0 := blk_frozen BK215.out 0; have hfz30_1 := blk_frozen BK215.out 1; have hfz30_2 := blk_frozen BK215.out 2; have hfz30_3 := blk_frozen BK215.out 3; have hfz30_4 := blk_frozen BK215.out 4; have hfz30_5 := blk_frozen BK215.out 5; have hfz30_6 := blk_frozen BK215.out 6; have hfz30_7 := blk_frozen BK215.out 7; have hfz30_8 := blk_frozen BK215.out 8))
        go_ret2
        exact ⟨by first | rfl | (simp [errW_none, errW_some] <;> rfl) | (simp [*, errW_none, errW_some] <;> rfl), by repeat (first | (with_reducible first | exact HB.out | apply below_alloc | apply pw_below_drewN | apply below_drew1 | refine below_set ?_ GE215.out) | exact HB.out)⟩

end Go.Proofs.YtciilgcinicdiaaDoor.X
