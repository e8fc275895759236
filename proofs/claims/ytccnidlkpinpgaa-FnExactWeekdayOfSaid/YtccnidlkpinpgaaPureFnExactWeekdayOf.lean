/- For every number the program's WeekdayOf answers as the reference's. Conditions: none. -/
import Derived.Test.YtccnidlkpinpgaaPFnExactWeekdayOfx1
import Derived.Test.YtccnidlkpinpgaaEvx
namespace Go.Proofs.Ytccnidlkpinpgaa.Pure
open Go.RowKit Go.Proofs.Ytccnidlkpinpgaa.PFnExactWeekdayOf Go.Proofs.YtccnidlkpinpgaaW.PrintWords Go.Proofs.YtccnidlkpinpgaaW.PrintLast
set_option linter.unusedSimpArgs false
set_option linter.unusedVariables false

theorem within_eq (a b c : Int) : impl_within.f a b c = some (decide (b ≤ a ∧ a ≤ c)) := by
  unfold impl_within.f
  split <;> simp <;> omega
theorem in_eq (a b c : Int) : spec_l01In.f a b c = some (decide (b ≤ a ∧ a ≤ c)) := by
  unfold spec_l01In.f
  split <;> simp <;> omega

theorem FnExactWeekdayOf : laws_FnExactWeekdayOf.Pure := by
  intro a0 h
  unfold laws_FnExactWeekdayOf.f spec_WeekdayOf.f impl_WeekdayOf.f impl_isStamp.f impl_weekday.f
  simp only [within_eq, in_eq, Option.bind_some]
  by_cases hd : (0 ≤ a0 ∧ a0 ≤ 4102444799) <;> simp [hd]

end Go.Proofs.Ytccnidlkpinpgaa.Pure
