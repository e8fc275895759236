/- The plain law of EncodeWords: both sides answer the same. Conditions: none. -/
import Derived.Test.YtebmhicdlamnbaaDoorEFnExactEncodeWords
namespace Go.Proofs.YtebmhicdlamnbaaDoor.Pure
open Go.RowKit Go.Proofs.YtebmhicdlamnbaaDoor.QFnExactEncodeWords Go.Proofs.YtebmhicdlamnbaaDoorW.PrintWords Go.Proofs.YtebmhicdlamnbaaDoorW.PrintLast Go.Proofs.YtebmhicdlamnbaaDoorW.PrintMore Go.Proofs.YtebmhicdlamnbaaDoor.Evx Go.Proofs.YtebmhicdlamnbaaDoor.EQFnExactEncodeWords
set_option linter.unusedSimpArgs false
set_option linter.unusedVariables false
theorem FnExactEncodeWords : laws_FnExactEncodeWords.Pure := by
  intro s _
  refine Ev.rounds (g := fun k => laws_FnExactEncodeWords.f k s) ?_
  unfold laws_FnExactEncodeWords.f
  refine Evx.ite (fun _ => Ev.now _) (fun hl => ?_)
  obtain ⟨r, h1, h2⟩ := both s (by omega)
  exact Ev.bind h1 (Ev.bind h2 (Evx.pos rfl (Evx.pos rfl (Ev.now _))))
end Go.Proofs.YtebmhicdlamnbaaDoor.Pure
