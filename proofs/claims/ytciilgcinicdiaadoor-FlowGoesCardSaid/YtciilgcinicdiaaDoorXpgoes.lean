/- FlowGoes, in plain Lean. -/
import Derived.Test.YtciilgcinicdiaaDoorXlive
import Derived.Test.YtciilgcinicdiaaDoorXpref
import Derived.Test.YtciilgcinicdiaaDoorXLFlowGoes
namespace Go.Proofs.YtciilgcinicdiaaDoor.X
open Go.RowKit Go.Proofs.YtciilgcinicdiaaDoorW.PrintWords Go.Proofs.YtciilgcinicdiaaDoorW.PrintLast Go.Proofs.YtciilgcinicdiaaDoorW.PrintMore
set_option linter.unusedVariables false
set_option linter.unusedSimpArgs false

theorem FlowGoes_true (l0 : List S36) (a1 : Int) : ∃ k, secateurlaw14_FlowGoes.f k l0 a1 = some true := by
  have hl := few_len l0
  have h1 : (fewL l0).length ≤ 1000 := by omega
  have hb : (backL (fewL l0) a1).length ≤ 1000000 := Nat.le_trans (filter_upTo_len _ _) (by omega)
  have he : ((chkL (fewL l0)).2 == (chkL (fewL l0)).2) = true := by simp
  refine (Ev.eq (F := fun k => secateurlaw14_FlowGoes.f k l0 a1) (fun k => rfl) (Ev.cbind (few_eq l0) (Ev.bind (Check_eq h1) (Ev.bind (refCheck_eq h1) (Ev.bind live_eq (Ev.pos rfl (Ev.cbind (Next_eq h1 a1) (Ev.bind (refNext_eq h1 a1) (Ev.bind (sameInts _ (Nat.le_trans (nxt_len _ _) (by omega))) (Ev.pos rfl (Ev.bind (Back_eq h1 a1) (Ev.bind (refBack_eq h1 a1) (Ev.bind (sameInts _ hb) (Ev.pos rfl (Ev.pos rfl ?_)))))))))))))) ).get
  rw [he]
  exact Ev.pure _
end Go.Proofs.YtciilgcinicdiaaDoor.X
