/- For every number the program's code word is the reference's. Conditions: none. -/
import Derived.Test.YtoihdifnmcnegaaPFnExactCodeWordx1
import Derived.Test.YtoihdifnmcnegaaEvx
namespace Go.Proofs.Ytoihdifnmcnegaa.Pure
open Go.RowKit Go.Proofs.Ytoihdifnmcnegaa.PFnExactCodeWord Go.Proofs.YtoihdifnmcnegaaW.PrintWords Go.Proofs.YtoihdifnmcnegaaW.PrintLast
set_option linter.unusedSimpArgs false
set_option linter.unusedVariables false

theorem within_eq (a b c : Int) : impl_within.f a b c = some (decide (b ≤ a ∧ a ≤ c)) := by
  unfold impl_within.f
  split <;> simp <;> omega
/-- The twenty code words. -/
def words : List ByteArray := (impl_codeWords.f).getD []
theorem words_length : words.length = 20 := rfl
theorem spec_word (a0 : Int) : spec_CodeWord.f a0 = (if a0 < 0 then (some (⟨#[]⟩ : ByteArray)) else (if a0 ≥ (words.length : Int) then (some (⟨#[]⟩ : ByteArray)) else (if 0 ≤ a0 then (if a0 < (words.length : Int) then (some (rdOf ByteArray.empty words a0)) else (none)) else (none)))) := rfl
theorem impl_word (a0 : Int) : impl_codeWords.f = some words := rfl

theorem FnExactCodeWord : laws_FnExactCodeWord.Pure := by
  intro a0 h
  have hb := Evx.wf64 h
  have hw := words_length
  have hs := spec_word a0
  have hi := impl_word a0
  have hc : impl_codeWords.f = some words := rfl
  rw [hw] at hs
  unfold laws_FnExactCodeWord.f
  rw [hs]
  unfold impl_CodeWord.f
  rw [hc]
  simp only [Option.bind_some, within_eq, hw]
  have e : wrap64 (((20 : Nat) : Int) - 1) = 19 := by unfold wrap64; omega
  simp only [e]
  by_cases h0 : a0 < 0
  · simp [h0, show ¬ (0 ≤ a0) by omega]
  · by_cases h1 : a0 ≥ 20
    · simp [h0, show ¬ (a0 ≤ 19) by omega, show (20 : Int) ≤ a0 by omega]
    · simp [h0, show (a0 ≤ 19) by omega, show ¬ (20 : Int) ≤ a0 by omega, show 0 ≤ a0 by omega, show a0 < 20 by omega]

end Go.Proofs.Ytoihdifnmcnegaa.Pure
