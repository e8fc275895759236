/- The plain law of UnfoldHeader: both sides answer the same. Conditions: none. -/
import Derived.Test.YtebmhicdlamnbaaDoorUFnExactUnfoldHeader
namespace Go.Proofs.YtebmhicdlamnbaaDoor.Pure
open Go.RowKit Go.Proofs.YtebmhicdlamnbaaDoor.QFnExactUnfoldHeader Go.Proofs.YtebmhicdlamnbaaDoorW.PrintWords Go.Proofs.YtebmhicdlamnbaaDoorW.PrintLast Go.Proofs.YtebmhicdlamnbaaDoorW.PrintMore Go.Proofs.YtebmhicdlamnbaaDoor.Evx Go.Proofs.YtebmhicdlamnbaaDoor.UQFnExactUnfoldHeader
set_option linter.unusedSimpArgs false
set_option linter.unusedVariables false
theorem both (s : ByteArray) : ∃ r, Ev (fun k => spec_UnfoldHeader.f k s) r ∧ Ev (fun k => impl_UnfoldHeader.f k s) r := by
  by_cases h1 : (s.size : Int) > 65536
  · refine ⟨(⟨#[]⟩, ⟨#[]⟩, 2), ?_, ?_⟩
    · unfold spec_UnfoldHeader.f
      exact Evx.pos h1 (Ev.now _)
    · unfold impl_UnfoldHeader.f
      exact Evx.pos h1 (Ev.now _)
  obtain ⟨r, a1, a2, a3⟩ := spec_unfold_eq s (by omega)
  obtain ⟨b, b1, b2⟩ := impl_unfold_eq s (by omega)
  refine ⟨if b = true then (s.extract 0 (nm (bs s)).length, strOfNums (val (bs s)), 0) else (⟨#[]⟩, ⟨#[]⟩, 3), ?_, ?_⟩
  · unfold spec_UnfoldHeader.f
    refine Evx.neg h1 (Ev.bind a3 ?_)
    by_cases hb : b = true
    · have hr := a2 (a1.2 (b1.1 hb))
      rw [if_pos hb, hr]
      exact Evx.pos rfl (Ev.now _)
    · rw [if_neg hb]
      exact Evx.neg (fun e => hb (b1.2 (a1.1 e))) (Ev.now _)
  · unfold impl_UnfoldHeader.f
    refine Evx.neg h1 (Ev.bind b2 ?_)
    by_cases hb : b = true
    · rw [if_pos hb, if_pos hb]
      exact Evx.pos rfl (Ev.now _)
    · rw [if_neg hb, if_neg hb]
      exact Evx.neg (by simp) (Ev.now _)
theorem FnExactUnfoldHeader : laws_FnExactUnfoldHeader.Pure := by
  intro s _
  refine Ev.rounds (g := fun k => laws_FnExactUnfoldHeader.f k s) ?_
  unfold laws_FnExactUnfoldHeader.f
  refine Evx.ite (fun _ => Ev.now _) (fun hl => ?_)
  obtain ⟨r, e1, e2⟩ := both s
  refine Ev.bind e1 (Ev.bind e2 ?_)
  exact Evx.pos rfl (Evx.pos rfl (Evx.pos rfl (Ev.now _)))
end Go.Proofs.YtebmhicdlamnbaaDoor.Pure
