/- For every number the program's Rfc822Text answers as the reference's. Conditions: none. -/
import Derived.Test.YtccnidlkpinpgaaDoorTFnExactRfc822Text
namespace Go.Proofs.YtccnidlkpinpgaaDoor.Pure
open Go.RowKit Go.Proofs.YtccnidlkpinpgaaDoor.QFnExactRfc822Text Go.Proofs.YtccnidlkpinpgaaDoorW.PrintWords Go.Proofs.YtccnidlkpinpgaaDoorW.PrintLast Go.Proofs.YtccnidlkpinpgaaDoorW.PrintMore Go.Proofs.YtccnidlkpinpgaaDoor.Evx Go.Proofs.YtccnidlkpinpgaaDoor.TQFnExactRfc822Text
set_option linter.unusedSimpArgs false
set_option linter.unusedVariables false
theorem FnExactRfc822Text : laws_FnExactRfc822Text.Pure := by
  intro s _
  refine Ev.rounds (g := fun k => laws_FnExactRfc822Text.f k s) ?_
  unfold laws_FnExactRfc822Text.f
  exact Ev.bind (spec_text822 s) (Ev.bind (impl_text822 s) (Evx.pos rfl (Evx.pos rfl (Ev.now _))))
end Go.Proofs.YtccnidlkpinpgaaDoor.Pure
