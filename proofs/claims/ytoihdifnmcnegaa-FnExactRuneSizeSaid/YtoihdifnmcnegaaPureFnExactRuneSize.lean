/- For every number the program's RuneSize answers as the reference's. Conditions: none. -/
import Derived.Test.YtoihdifnmcnegaaPFnExactRuneSizex1
import Derived.Test.YtoihdifnmcnegaaEvx
namespace Go.Proofs.Ytoihdifnmcnegaa.Pure
open Go.RowKit Go.Proofs.Ytoihdifnmcnegaa.PFnExactRuneSize Go.Proofs.YtoihdifnmcnegaaW.PrintWords Go.Proofs.YtoihdifnmcnegaaW.PrintLast
set_option linter.unusedSimpArgs false
set_option linter.unusedVariables false

theorem within_eq (a b c : Int) : impl_within.f a b c = some (decide (b ≤ a ∧ a ≤ c)) := by
  unfold impl_within.f
  split <;> simp <;> omega
theorem in_eq (a b c : Int) : spec_l01In.f a b c = some (decide (b ≤ a ∧ a ≤ c)) := by
  unfold spec_l01In.f
  split <;> simp <;> omega
/-- A number is a scalar value. -/
def sc (a : Int) : Bool := decide ((0 ≤ a ∧ a ≤ 55295) ∨ (57344 ≤ a ∧ a ≤ 1114111))
theorem scalar_eq (a : Int) : spec_l01Scalar.f a = some (sc a) := by
  unfold spec_l01Scalar.f sc
  simp only [in_eq, Option.bind_some]
  by_cases h : 0 ≤ a ∧ a ≤ 55295 <;> simp [h]
theorem rune_eq (a : Int) : impl_isRune.f a = some (sc a) := by
  unfold impl_isRune.f sc
  simp only [within_eq, Option.bind_some]
  by_cases h : 0 ≤ a ∧ a ≤ 1114111
  · simp [h]; rw [Bool.eq_iff_iff]; simp; omega
  · simp [h]; omega

theorem FnExactRuneSize : laws_FnExactRuneSize.Pure := by
  intro a0 h
  unfold laws_FnExactRuneSize.f impl_RuneSize.f utf8_RuneLen.f spec_RuneSize.f
  refine ⟨1, ?_⟩
  simp only [utf8_RuneLen.j0, scalar_eq, rune_eq, Option.bind_some]
  by_cases hs : sc a0 = true
  · have hs' := hs
    simp only [sc, decide_eq_true_eq] at hs'
    simp only [hs, if_true]
    rw [Evx.w32 (by omega) (by omega)]
    repeat' split
    all_goals first | omega | (simp_all; omega) | simp_all
  · simp [hs]

end Go.Proofs.Ytoihdifnmcnegaa.Pure
