/- The plain law of EscapeXml: both say the same. Conditions: none. -/
import Derived.Test.YteknchhlineciaaDoorRFnExactEscapeXml
import Derived.Test.YteknchhlineciaaDoorSFnExactEscapeXml
namespace Go.Proofs.YteknchhlineciaaDoor.Pure
open Go.RowKit Go.Proofs.YteknchhlineciaaDoor.QFnExactEscapeXml Go.Proofs.YteknchhlineciaaDoorW.PrintWords Go.Proofs.YteknchhlineciaaDoorW.PrintLast Go.Proofs.YteknchhlineciaaDoorW.PrintMore Go.Proofs.YteknchhlineciaaDoor.Evx Go.Proofs.YteknchhlineciaaDoor.RQFnExactEscapeXml Go.Proofs.YteknchhlineciaaDoor.SQFnExactEscapeXml
set_option linter.unusedSimpArgs false
set_option linter.unusedVariables false
theorem FnExactEscapeXml : laws_FnExactEscapeXml.Pure := by
  intro s _
  refine Ev.rounds (g := fun k => laws_FnExactEscapeXml.f k s) ?_
  unfold laws_FnExactEscapeXml.f
  refine Evx.ite (fun _ => Ev.now _) (fun hl => ?_)
  by_cases h1 : (s.size : Int) > 8192
  · refine Ev.bind (g := fun k => spec_EscapeXml.f k s) (a := (⟨#[]⟩, 2)) ?_ ?_
    · unfold spec_EscapeXml.f
      exact Evx.pos h1 (Ev.now _)
    · refine Evx.bindc (b := (⟨#[]⟩, 2)) (by unfold impl_EscapeXml.f; rw [if_pos h1]) ?_
      exact Evx.pos rfl (Evx.pos rfl (Ev.now _))
  · obtain ⟨v, f1, f2⟩ := fault s (by omega)
    by_cases h2 : v ≥ 0
    · refine Ev.bind (g := fun k => spec_EscapeXml.f k s) (a := (⟨#[]⟩, 3)) ?_ ?_
      · unfold spec_EscapeXml.f
        exact Evx.neg h1 (Ev.bind f2 (Evx.pos h2 (Ev.now _)))
      · refine Evx.bindc (b := (⟨#[]⟩, 3)) (by unfold impl_EscapeXml.f; rw [if_neg h1, f1]; simp only [Option.bind_some]; rw [if_pos h2]) ?_
        exact Evx.pos rfl (Evx.pos rfl (Ev.now _))
    · obtain ⟨u, e1, e2⟩ := escape_eq s (by omega)
      refine Ev.bind (g := fun k => spec_EscapeXml.f k s) (a := (u, 0)) ?_ ?_
      · unfold spec_EscapeXml.f
        exact Evx.neg h1 (Ev.bind f2 (Evx.neg h2 (Ev.bind e2 (Ev.now _))))
      · refine Evx.bindc (b := (u, 0)) (by unfold impl_EscapeXml.f; rw [if_neg h1, f1]; simp only [Option.bind_some]; rw [if_neg h2, e1]; rfl) ?_
        exact Evx.pos rfl (Evx.pos rfl (Ev.now _))
end Go.Proofs.YteknchhlineciaaDoor.Pure
