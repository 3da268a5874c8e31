/- What must be whatever is asked: it is. -/
import Derived.Test.YtciilgcinicdiaaDoorXpuref
import Derived.Test.YtciilgcinicdiaaDoorXsecateurlaw14C
namespace Go.Proofs.YtciilgcinicdiaaDoor.X
open Go.RowKit Go.Proofs.YtciilgcinicdiaaDoorW.PrintWords Go.Proofs.YtciilgcinicdiaaDoorW.PrintLast Go.Proofs.YtciilgcinicdiaaDoorW.PrintMore
set_option linter.unusedVariables false
set_option linter.unusedSimpArgs false

def liveC : List S36 := [(⟨6, 0, 0, 0, 2, (⟨#[]⟩ : ByteArray), (⟨#[]⟩ : ByteArray), (⟨#[]⟩ : ByteArray), ([] : List Int)⟩ : S36), (⟨1, 0, 0, 0, 0, (⟨#[]⟩ : ByteArray), (⟨#[]⟩ : ByteArray), (⟨#[]⟩ : ByteArray), ([] : List Int)⟩ : S36), (⟨23, 0, 0, 0, 0, (⟨#[]⟩ : ByteArray), (⟨#[]⟩ : ByteArray), (⟨#[]⟩ : ByteArray), ([] : List Int)⟩ : S36)]
theorem live_len : liveC.length ≤ 1000 := by decide
theorem live_dist : flow_Dist.f liveC = some [0, -1, 1] := by decide +kernel
theorem live_dead : deadL [0, -1, 1] = [1] := by decide +kernel
theorem live_blocks : blocksL liveC = [0, 1, 2] := by decide +kernel
theorem live_next : nxt liveC 0 = [2] := by decide +kernel
theorem live_back : backL liveC 2 = [0, 1] := by decide +kernel
theorem live_chk : chkL liveC = (0, 0) := by decide +kernel
theorem live_chk2 : chkL (liveC.take 2) = (12, 0) := by decide +kernel
theorem live_eq : Ev (fun k => secateurlaw14_live.f k) true := by
  have c2 := Check_eq (l := liveC.take 2) (by decide)
  rw [live_chk2] at c2
  have c3 := Check_eq (l := liveC) live_len
  rw [live_chk] at c3
  have cd := Dead_of live_dist (by decide)
  rw [live_dead] at cd
  have cb := Blocks_eq (l := liveC) live_len
  rw [live_blocks] at cb
  have cn := Next_eq (l := liveC) live_len 0
  rw [live_next] at cn
  have ck := Back_eq (l := liveC) live_len 2
  rw [live_back] at ck
  refine Ev.eq (fun k => by unfold secateurlaw14_live.f; rfl) (Ev.cbind (a := liveC) rfl (Ev.pos (show 2 ≤ (liveC.length : Int) by decide) (Ev.bind c2 (Ev.bind c3 (Ev.cbind live_dist (Ev.bind (sameInts [0, -1, 1] (by decide)) (Ev.pos rfl (Ev.bind cd (Ev.bind (sameInts [1] (by decide)) (Ev.pos rfl (Ev.bind cb (Ev.bind (sameInts [0, 1, 2] (by decide)) (Ev.pos rfl (Ev.cbind cn (Ev.bind (sameInts [2] (by decide)) (Ev.pos rfl (Ev.bind ck (Ev.bind (sameInts [0, 1] (by decide)) (Ev.pos rfl (Ev.pos rfl (Ev.pos rfl (Ev.pure true))))))))))))))))))))))
end Go.Proofs.YtciilgcinicdiaaDoor.X
