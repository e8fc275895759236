/- The plain law of ReadRfc822: both sides answer the same. Conditions: none. -/
import Derived.Test.YtccnidlkpinpgaaRFnExactReadRfc822
namespace Go.Proofs.Ytccnidlkpinpgaa.Pure
open Go.RowKit Go.Proofs.Ytccnidlkpinpgaa.QFnExactReadRfc822 Go.Proofs.YtccnidlkpinpgaaW.PrintWords Go.Proofs.YtccnidlkpinpgaaW.PrintLast Go.Proofs.YtccnidlkpinpgaaW.PrintMore Go.Proofs.Ytccnidlkpinpgaa.Evx Go.Proofs.Ytccnidlkpinpgaa.RQFnExactReadRfc822
set_option linter.unusedSimpArgs false
set_option linter.unusedVariables false
theorem FnExactReadRfc822 : laws_FnExactReadRfc822.Pure := by
  intro s _
  refine Ev.rounds (g := fun k => laws_FnExactReadRfc822.f k s) ?_
  unfold laws_FnExactReadRfc822.f
  refine Evx.ite (fun _ => Ev.now _) (fun hl => ?_)
  exact Ev.bind (spec_read s (by omega)) (Evx.bindc (impl_read s (by omega)) (Evx.pos rfl (Evx.pos rfl (Ev.now _))))
end Go.Proofs.Ytccnidlkpinpgaa.Pure
