/- The plain law of LongestLine: both counts give the longest of the lines. Conditions: none. -/
import Derived.Test.YtebmhicdlamnbaaDoorLFnExactLongestLine
namespace Go.Proofs.YtebmhicdlamnbaaDoor.Pure
open Go.RowKit Go.Proofs.YtebmhicdlamnbaaDoor.QFnExactLongestLine Go.Proofs.YtebmhicdlamnbaaDoorW.PrintWords Go.Proofs.YtebmhicdlamnbaaDoorW.PrintLast Go.Proofs.YtebmhicdlamnbaaDoorW.PrintMore Go.Proofs.YtebmhicdlamnbaaDoor.LQFnExactLongestLine
set_option linter.unusedSimpArgs false
set_option linter.unusedVariables false
theorem FnExactLongestLine : laws_FnExactLongestLine.Pure := by
  intro s _
  refine Ev.rounds (g := fun k => laws_FnExactLongestLine.f k s) ?_
  unfold laws_FnExactLongestLine.f
  refine Evx.ite (fun _ => Ev.now _) (fun hl => ?_)
  refine Ev.bind (spec_longest s (by omega)) (Ev.bind (impl_longest s (by omega)) ?_)
  exact Evx.pos rfl (Ev.now _)
end Go.Proofs.YtebmhicdlamnbaaDoor.Pure
