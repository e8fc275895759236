/- The plain law of SafeValue: both tests say the same. Conditions: none. -/
import Derived.Test.YtebmhicdlamnbaaDoorVFnExactSafeValue
namespace Go.Proofs.YtebmhicdlamnbaaDoor.Pure
open Go.RowKit Go.Proofs.YtebmhicdlamnbaaDoor.QFnExactSafeValue Go.Proofs.YtebmhicdlamnbaaDoorW.PrintWords Go.Proofs.YtebmhicdlamnbaaDoorW.PrintLast Go.Proofs.YtebmhicdlamnbaaDoorW.PrintMore Go.Proofs.YtebmhicdlamnbaaDoor.VQFnExactSafeValue
set_option linter.unusedSimpArgs false
set_option linter.unusedVariables false
theorem FnExactSafeValue : laws_FnExactSafeValue.Pure := by
  intro s _
  refine Ev.rounds (g := fun k => laws_FnExactSafeValue.f k s) ?_
  unfold laws_FnExactSafeValue.f
  refine Evx.ite (fun _ => Ev.now _) (fun hl => ?_)
  refine Ev.bind (spec_safe s (by omega)) (Ev.bind (impl_safe s (by omega)) ?_)
  exact Evx.neg (by simp) (Ev.now _)
end Go.Proofs.YtebmhicdlamnbaaDoor.Pure
