/- The plain law of DecodeWords: both sides answer the same. Conditions: none. -/
import Derived.Test.YtebmhicdlamnbaaDoorEFnExactDecodeWords
namespace Go.Proofs.YtebmhicdlamnbaaDoor.Pure
open Go.RowKit Go.Proofs.YtebmhicdlamnbaaDoor.QFnExactDecodeWords Go.Proofs.YtebmhicdlamnbaaDoorW.PrintWords Go.Proofs.YtebmhicdlamnbaaDoorW.PrintLast Go.Proofs.YtebmhicdlamnbaaDoorW.PrintMore Go.Proofs.YtebmhicdlamnbaaDoor.Evx Go.Proofs.YtebmhicdlamnbaaDoor.EQFnExactDecodeWords Go.Proofs.YtebmhicdlamnbaaDoor.VQFnExactDecodeWords
set_option linter.unusedSimpArgs false
set_option linter.unusedVariables false
theorem FnExactDecodeWords : laws_FnExactDecodeWords.Pure := by
  intro s _
  refine Ev.rounds (g := fun k => laws_FnExactDecodeWords.f k s) ?_
  unfold laws_FnExactDecodeWords.f
  refine Evx.ite (fun _ => Ev.now _) (fun hl => ?_)
  have both : ∃ r, Ev (fun k => spec_DecodeWords.f k s) r ∧ Ev (fun k => impl_DecodeWords.f k s) r := by
    by_cases h1 : (s.size : Int) > 65536
    · refine ⟨(⟨#[]⟩, 2), ?_, ?_⟩
      · unfold spec_DecodeWords.f
        exact Evx.pos h1 (Ev.now _)
      · unfold impl_DecodeWords.f
        exact Evx.pos h1 (Ev.now _)
    obtain ⟨r, e1, e2⟩ := decode_both s (by omega)
    refine ⟨if decide (safe (bs s)) = true then (r, 0) else (⟨#[]⟩, 3), ?_, ?_⟩
    · unfold spec_DecodeWords.f
      refine Evx.neg h1 (Ev.bind (spec_safe s (by omega)) (Evx.ite (fun a => ?_) (fun a => ?_)))
      · rw [if_pos a]; exact Ev.bind e2 (Ev.now _)
      · rw [if_neg a]; exact Ev.now _
    · unfold impl_DecodeWords.f
      refine Evx.neg h1 (Ev.bind (impl_safe s (by omega)) (Evx.ite (fun a => ?_) (fun a => ?_)))
      · rw [if_pos a]; exact Ev.bind e1 (Ev.now _)
      · rw [if_neg a]; exact Ev.now _
  obtain ⟨r, h1, h2⟩ := both
  exact Ev.bind h1 (Ev.bind h2 (Evx.pos rfl (Evx.pos rfl (Ev.now _))))
end Go.Proofs.YtebmhicdlamnbaaDoor.Pure
