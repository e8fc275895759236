/- The plain law of ReadRfc3339: both sides answer the same. Conditions: none. -/
import Derived.Test.YtccnidlkpinpgaaRFnExactReadRfc3339
namespace Go.Proofs.Ytccnidlkpinpgaa.Pure
open Go.RowKit Go.Proofs.Ytccnidlkpinpgaa.QFnExactReadRfc3339 Go.Proofs.YtccnidlkpinpgaaW.PrintWords Go.Proofs.YtccnidlkpinpgaaW.PrintLast Go.Proofs.YtccnidlkpinpgaaW.PrintMore Go.Proofs.Ytccnidlkpinpgaa.Evx Go.Proofs.Ytccnidlkpinpgaa.RQFnExactReadRfc3339
set_option linter.unusedSimpArgs false
set_option linter.unusedVariables false
theorem FnExactReadRfc3339 : laws_FnExactReadRfc3339.Pure := by
  intro s _
  refine Ev.rounds (g := fun k => laws_FnExactReadRfc3339.f k s) ?_
  unfold laws_FnExactReadRfc3339.f
  refine Evx.ite (fun _ => Ev.now _) (fun hl => ?_)
  exact Ev.bind (spec_read s (by omega)) (Evx.bindc (impl_read s (by omega)) (Evx.pos rfl (Evx.pos rfl (Ev.now _))))
end Go.Proofs.Ytccnidlkpinpgaa.Pure
