/- FlowReaches, in plain Lean. -/
import Derived.Test.YtciilgcinicdiaaDoorXlive
import Derived.Test.YtciilgcinicdiaaDoorXprefd
import Derived.Test.YtciilgcinicdiaaDoorXLFlowReaches
namespace Go.Proofs.YtciilgcinicdiaaDoor.X
open Go.RowKit Go.Proofs.YtciilgcinicdiaaDoorW.PrintWords Go.Proofs.YtciilgcinicdiaaDoorW.PrintLast Go.Proofs.YtciilgcinicdiaaDoorW.PrintMore
set_option linter.unusedVariables false
set_option linter.unusedSimpArgs false

theorem FlowReaches_true (l0 : List S36) : ∃ k, secateurlaw14_FlowReaches.f k l0 = some true := by
  have hl := few_len l0
  have h1 : (fewL l0).length ≤ 1000 := by omega
  obtain ⟨d, hd1, hd2⟩ := Dist_ok h1
  have hdl : d.length ≤ 1000000 := by rw [hd2.len]; omega
  have hde : (deadL d).length ≤ 1000000 := Nat.le_trans (deadL_len_le d) hdl
  have hbl : (blocksL (fewL l0)).length ≤ 1000000 := Nat.le_trans (filter_upTo_len _ _) (by omega)
  exact (Ev.eq (F := fun k => secateurlaw14_FlowReaches.f k l0) (fun k => rfl) (Ev.cbind (few_eq l0) (Ev.bind live_eq (Ev.pos rfl (Ev.cbind hd1 (Ev.bind (refDist_eq h1 hd2) (Ev.bind (sameInts d hdl) (Ev.pos rfl (Ev.bind (Dead_of hd1 hdl) (Ev.bind (refDead_eq h1 hd2) (Ev.bind (sameInts _ hde) (Ev.pos rfl (Ev.bind (Blocks_eq h1) (Ev.bind (refBlocks_eq h1) (Ev.bind (sameInts _ hbl) (Ev.pure _))))))))))))))) ).get
end Go.Proofs.YtciilgcinicdiaaDoor.X
