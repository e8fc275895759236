/- The plain law of OneLine: both sides answer the same. Conditions: none. -/
import Derived.Test.YteknchhlineciaaOFnExactOneLine
namespace Go.Proofs.Yteknchhlineciaa.Pure
open Go.RowKit Go.Proofs.Yteknchhlineciaa.QFnExactOneLine Go.Proofs.YteknchhlineciaaW.PrintWords Go.Proofs.YteknchhlineciaaW.PrintLast Go.Proofs.YteknchhlineciaaW.PrintMore Go.Proofs.Yteknchhlineciaa.Evx Go.Proofs.Yteknchhlineciaa.OQFnExactOneLine
set_option linter.unusedSimpArgs false
set_option linter.unusedVariables false
theorem both (s : ByteArray) : ∃ r, Ev (fun k => spec_OneLine.f k s) r ∧ impl_OneLine.f s = some r := by
  unfold spec_OneLine.f impl_OneLine.f
  by_cases h : (s.size : Int) > 65536
  · exact ⟨_, Evx.pos h (Ev.now _), if_pos h⟩
  · obtain ⟨t, h1, h2, _⟩ := line s (by omega)
    refine ⟨(t, 0), Evx.neg h (Ev.bind h2 (Ev.now _)), ?_⟩
    rw [if_neg h, h1]
    rfl
theorem FnExactOneLine : laws_FnExactOneLine.Pure := by
  intro s _
  refine Ev.rounds (g := fun k => laws_FnExactOneLine.f k s) ?_
  unfold laws_FnExactOneLine.f
  refine Evx.ite (fun _ => Ev.now _) (fun hl => ?_)
  obtain ⟨r, e1, e2⟩ := both s
  refine Ev.bind e1 (Evx.bindc e2 ?_)
  exact Evx.pos rfl (Evx.pos rfl (Ev.now _))
end Go.Proofs.Yteknchhlineciaa.Pure
