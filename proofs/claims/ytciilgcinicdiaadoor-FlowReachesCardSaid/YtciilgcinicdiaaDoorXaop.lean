/- op.Shape and op.hasAny. -/
import Derived.Test.YtciilgcinicdiaaDoorXag
import Derived.Test.YtciilgcinicdiaaDoorXop
import Derived.Laws.RangeAny
import Derived.Laws.RangeString
import Derived.Lib.OthersKept
import Derived.WalkSmall
import Derived.LoopTactic
namespace Go.Proofs.YtciilgcinicdiaaDoor.X
open Go.RowKit Go.Proofs.YtciilgcinicdiaaDoorW.PrintWords Go.Proofs.YtciilgcinicdiaaDoorW.PrintLast Go.Proofs.YtciilgcinicdiaaDoorW.PrintMore
set_option linter.unusedVariables false
set_option linter.unusedSimpArgs false

def op_Shape.f (a0 : Int) : Option ByteArray := if a0 > 0 ∧ a0 ≤ 32 then some (rdOf ByteArray.empty opShapes a0) else some ⟨#[]⟩
set_option maxRecDepth 100000 in
theorem op_Shape.calls (a0 : Int) (r : ByteArray) (w : World) (hG : GOk w) (h : op_Shape.f a0 = some r) :
    Calls Tryd.prog 24 #[.int .i64 a0] w fun e w' => e = .returned (.string r) ∧ Drawn0 w w' := by
  by_cases hr : a0 > 0 ∧ a0 ≤ 32
  · have hf : op_right.f a0 = some true := by simp [op_right.f, hr.1, hr.2]
    have hs : rdOf ByteArray.empty opShapes a0 = r := by simpa [op_Shape.f, hr.1, hr.2] using h
    have hg := GOk.int hG a0 (by omega) (by omega)
    rw [hs] at hg
    have h0 : 0 ≤ a0 := by omega
    have h1 : a0 < 33 := by omega
    clear h hG hs
    go_enter Tryd.func24, Tryd.ntmps24
    go_wp2_with fail
    refine (op_right.calls a0 true w hf).mono ?_
    rintro e w1 ⟨rfl, ⟨nd, rfl⟩⟩
    have hg1 : (w.drewN nd).cell? ⟨shapesAt, a0.toNat, none⟩ = some (.string r) := hg
    unfold shapesAt at hg1
    go_wp2
    go_ret
    exact ⟨rfl, ⟨nd, rfl⟩⟩
  · have hf : op_right.f a0 = some false := by
      unfold op_right.f
      split
      · rw [decide_eq_false (by omega)]
      · rfl
    have hs : (⟨#[]⟩ : ByteArray) = r := by simpa [op_Shape.f, hr] using h
    subst hs
    go_enter Tryd.func24, Tryd.ntmps24
    go_wp2_with fail
    refine (op_right.calls a0 false w hf).mono ?_
    rintro e w1 ⟨rfl, ⟨nd, rfl⟩⟩
    go_wp2
    go_ret
    exact ⟨rfl, ⟨nd, rfl⟩⟩

/-! ### one of some runes -/
def hasRune (s : ByteArray) (c : Int) : Nat → Nat → Bool
  | 0, _ => false
  | k + 1, pos => if pos < s.size then (if c = ((Utf8.decode s pos).1 : Int) then true else hasRune s c k (pos + (Utf8.decode s pos).2)) else false
def hasRunes (s t : ByteArray) : Nat → Nat → Bool
  | 0, _ => false
  | k + 1, pos => if pos < s.size then (if hasRune t ((Utf8.decode s pos).1 : Int) t.size 0 then true else hasRunes s t k (pos + (Utf8.decode s pos).2)) else false
def op_hasAny.f (a0 a1 : ByteArray) : Option Bool := some (hasRunes a0 a1 a0.size 0)
theorem rwidth_pos (s : ByteArray) (pos : Nat) (h : pos < s.size) : 1 ≤ (Utf8.decode s pos).2 := by
  by_cases ha : (s[pos]'h).toNat < 128
  · rw [decode_ascii s pos h ha]
    exact Nat.le_refl _
  · exact (decode_high s pos h (by omega)).2
theorem hasRune_end (s : ByteArray) (c : Int) (k pos : Nat) (h : ¬ pos < s.size) : hasRune s c k pos = false := by
  cases k <;> simp [hasRune, h]
theorem hasRunes_end (s t : ByteArray) (k pos : Nat) (h : ¬ pos < s.size) : hasRunes s t k pos = false := by
  cases k <;> simp [hasRunes, h]

set_option maxRecDepth 100000 in
set_option maxHeartbeats 1000000 in
theorem op_hasAny.calls (a0 a1 : ByteArray) (r : Bool) (w : World) (h : op_hasAny.f a0 a1 = some r) :
    Calls Tryd.prog 53 #[.string a0, .string a1] w fun e w' => e = .returned (.bool r) ∧ Below w.heap.size w w' := by
  have H : Aside0 (hasRunes a0 a1 a0.size 0 = r) := ⟨by simpa [op_hasAny.f] using h⟩
  clear h
  go_enter Tryd.func53, Tryd.ntmps53
  go_wp2
  go_loopw [] (fun wr => ∃ (pos fuel : Nat), wr.heap[w.heap.size]? = some (.stringIter a0 pos) ∧ Below w.heap.size w wr ∧ Aside0 (hasRunes a0 a1 fuel pos = r) ∧ a0.size ≤ pos + fuel) (fun wr => a0.size - wr.iterPos w.heap.size)
  case atStart => exact ⟨0, a0.size, World.iter_heap w a0 0, (Below.refl _ _).alloc (Nat.le_refl _) _, H, by omega⟩
  case round =>
    obtain ⟨pos, fuel, hit, hbw, HS, hb⟩ := hrel
    have hpos0 := iterPos_of hit
    by_cases hp : pos < a0.size
    · have hnx : ∀ ty, (Instr.next (.pointer (some ⟨w.heap.size, 0, none⟩)) true ty).run Tryd.prog wr = _ := fun ty => Lib.run_next_any_at wr w.heap.size a0 pos ty hit hp
      have hwd := rwidth_pos a0 pos hp
      obtain ⟨fuel, rfl⟩ : ∃ f', fuel = f' + 1 := ⟨fuel - 1, by omega⟩
      have hit2 := Lib.iterAt_heap wr w.heap.size a0 pos (pos + (Utf8.decode a0 pos).2) hit
      have hbw2 := Lib.below_iterAt hbw (k := w.heap.size) (Nat.le_refl _) a0 (pos + (Utf8.decode a0 pos).2)
      have hpos2 := iterPos_of hit2
      obtain ⟨W1, hW1⟩ : ∃ W1, W1 = wr.iterAt w.heap.size a0 (pos + (Utf8.decode a0 pos).2) := ⟨_, rfl⟩
      rw [← hW1] at hnx hit2 hbw2 hpos2
      have hBlt : w.heap.size < W1.heap.size := (Array.getElem?_eq_some_iff.1 hit2).1
      clear hW1 hit hbw
      obtain ⟨cc, hcc⟩ : ∃ cc : Int, cc = ((Utf8.decode a0 pos).1 : Int) := ⟨_, rfl⟩
      have HSS : Aside0 ((if hasRune a1 cc a1.size 0 then true else hasRunes a0 a1 fuel (pos + (Utf8.decode a0 pos).2)) = r) := ⟨by rw [hcc, ← HS.out]; simp [hasRunes, hp]⟩
      rw [← hcc] at hnx
      go_wp2
      go_loopw [] (fun wi => ∃ (pos2 fuel2 : Nat), wi.heap[W1.heap.size]? = some (.stringIter a1 pos2) ∧ wi.heap[w.heap.size]? = some (.stringIter a0 (pos + (Utf8.decode a0 pos).2)) ∧ Below w.heap.size w wi ∧ Aside0 (hasRune a1 cc fuel2 pos2 = hasRune a1 cc a1.size 0) ∧ a1.size ≤ pos2 + fuel2) (fun wi => a1.size - wi.iterPos W1.heap.size)
      case atStart => exact ⟨0, a1.size, World.iter_heap W1 a1 0, ((Below.refl _ W1).alloc (Nat.le_refl _) (.stringIter a1 0)).block _ hBlt |>.trans hit2, hbw2.alloc (by omega) _, ⟨rfl⟩, by omega⟩
      case round =>
        obtain ⟨p2, f2, hi1, hi2, hbi, HI, hb2⟩ := hrel
        have hq0 := iterPos_of hi1
        by_cases hp2 : p2 < a1.size
        · have hnx2 : ∀ ty, (Instr.next (.pointer (some ⟨W1.heap.size, 0, none⟩)) true ty).run Tryd.prog wr = _ := fun ty => Lib.run_next_any_at wr W1.heap.size a1 p2 ty hi1 hp2
          have hwd2 := rwidth_pos a1 p2 hp2
          obtain ⟨f2, rfl⟩ : ∃ f', f2 = f' + 1 := ⟨f2 - 1, by omega⟩
          have hj1 := Lib.iterAt_heap wr W1.heap.size a1 p2 (p2 + (Utf8.decode a1 p2).2) hi1
          have hj2 := (Lib.iterAt_other wr W1.heap.size w.heap.size a1 (p2 + (Utf8.decode a1 p2).2) (by omega)).trans hi2
          have hbj := Lib.below_iterAt hbi (k := W1.heap.size) (by omega) a1 (p2 + (Utf8.decode a1 p2).2)
          have hpj := iterPos_of hj1
          obtain ⟨W2, hW2⟩ : ∃ W2, W2 = wr.iterAt W1.heap.size a1 (p2 + (Utf8.decode a1 p2).2) := ⟨_, rfl⟩
          rw [← hW2] at hnx2 hj1 hj2 hbj hpj
          clear hW2 hi1 hi2 hbi
          obtain ⟨dd, hdd⟩ : ∃ dd : Int, dd = ((Utf8.decode a1 p2).1 : Int) := ⟨_, rfl⟩
          have HII : Aside0 ((if cc = dd then true else hasRune a1 cc f2 (p2 + (Utf8.decode a1 p2).2)) = hasRune a1 cc a1.size 0) := ⟨by rw [hdd, ← HI.out]; simp [hasRune, hp2]⟩
          rw [← hdd] at hnx2
          by_cases he : cc = dd
          · have hr : r = true := by
              have h1 := HII.out
              rw [if_pos he] at h1
              have h2 := HSS.out
              rw [← h1] at h2
              simpa using h2.symm
            subst he
            go_wp2
            go_ret
            exact ⟨by first | rfl | (rw [hr]; done) | (rw [hr]; rfl), hbj⟩
          · have HI2 : Aside0 (hasRune a1 cc f2 (p2 + (Utf8.decode a1 p2).2) = hasRune a1 cc a1.size 0) := ⟨by have := HII.out; rwa [if_neg he] at this⟩
            go_wp2
            go_roundw
            case rel => exact ⟨_, f2, hj1, hj2, hbj, HI2, by omega⟩
            case measure => rw [hpj, hq0]; omega
        · have hnx2 : ∀ ty, (Instr.next (.pointer (some ⟨W1.heap.size, 0, none⟩)) true ty).run Tryd.prog wr = _ := fun ty => Lib.run_next_end_at wr W1.heap.size a1 p2 ty hi1 hp2
          have HN : Aside0 (hasRunes a0 a1 fuel (pos + (Utf8.decode a0 pos).2) = r) := ⟨by
            have h2 := HSS.out
            rw [← HI.out, hasRune_end a1 cc f2 p2 hp2] at h2
            simpa using h2⟩
          have hpi := iterPos_of hi2
          go_wp2
          go_roundw
          case rel => exact ⟨_, fuel, hi2, hbi, HN, by omega⟩
          case measure => rw [hpi, hpos0]; omega
    · have hnx : ∀ ty, (Instr.next (.pointer (some ⟨w.heap.size, 0, none⟩)) true ty).run Tryd.prog wr = _ := fun ty => Lib.run_next_end_at wr w.heap.size a0 pos ty hit hp
      have hr : r = false := by rw [← HS.out, hasRunes_end a0 a1 fuel pos hp]
      go_wp2
      go_ret
      exact ⟨by first | rfl | (rw [hr]; done) | (rw [hr]; rfl), hbw⟩
end Go.Proofs.YtciilgcinicdiaaDoor.X
