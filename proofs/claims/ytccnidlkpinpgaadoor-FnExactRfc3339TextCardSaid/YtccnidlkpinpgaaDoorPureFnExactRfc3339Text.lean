/- For every number the program's Rfc3339Text answers as the reference's. Conditions: none. -/
import Derived.Test.YtccnidlkpinpgaaDoorTFnExactRfc3339Text
namespace Go.Proofs.YtccnidlkpinpgaaDoor.Pure
open Go.RowKit Go.Proofs.YtccnidlkpinpgaaDoor.QFnExactRfc3339Text Go.Proofs.YtccnidlkpinpgaaDoorW.PrintWords Go.Proofs.YtccnidlkpinpgaaDoorW.PrintLast Go.Proofs.YtccnidlkpinpgaaDoorW.PrintMore Go.Proofs.YtccnidlkpinpgaaDoor.Evx Go.Proofs.YtccnidlkpinpgaaDoor.TQFnExactRfc3339Text
set_option linter.unusedSimpArgs false
set_option linter.unusedVariables false
theorem FnExactRfc3339Text : laws_FnExactRfc3339Text.Pure := by
  intro s _
  refine Ev.rounds (g := fun k => laws_FnExactRfc3339Text.f k s) ?_
  unfold laws_FnExactRfc3339Text.f
  exact Ev.bind (spec_text s) (Ev.bind (impl_text s) (Evx.pos rfl (Evx.pos rfl (Ev.now _))))
end Go.Proofs.YtccnidlkpinpgaaDoor.Pure
