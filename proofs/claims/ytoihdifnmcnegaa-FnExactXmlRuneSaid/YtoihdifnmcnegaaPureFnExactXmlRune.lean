/- For every number the program's XmlRune answers as the reference's. Conditions: none. -/
import Derived.Test.YtoihdifnmcnegaaPFnExactXmlRunex1
import Derived.Test.YtoihdifnmcnegaaEvx
namespace Go.Proofs.Ytoihdifnmcnegaa.Pure
open Go.RowKit Go.Proofs.Ytoihdifnmcnegaa.PFnExactXmlRune Go.Proofs.YtoihdifnmcnegaaW.PrintWords Go.Proofs.YtoihdifnmcnegaaW.PrintLast
set_option linter.unusedSimpArgs false
set_option linter.unusedVariables false

theorem within_eq (a b c : Int) : impl_within.f a b c = some (decide (b ≤ a ∧ a ≤ c)) := by
  unfold impl_within.f
  split <;> simp <;> omega
theorem in_eq (a b c : Int) : spec_l01In.f a b c = some (decide (b ≤ a ∧ a ≤ c)) := by
  unfold spec_l01In.f
  split <;> simp <;> omega
/-- A number is a scalar value. -/
def sc (a : Int) : Bool := decide ((0 ≤ a ∧ a ≤ 55295) ∨ (57344 ≤ a ∧ a ≤ 1114111))
theorem scalar_eq (a : Int) : spec_l01Scalar.f a = some (sc a) := by
  unfold spec_l01Scalar.f sc
  simp only [in_eq, Option.bind_some]
  by_cases h : 0 ≤ a ∧ a ≤ 55295 <;> simp [h]
theorem rune_eq (a : Int) : impl_isRune.f a = some (sc a) := by
  unfold impl_isRune.f sc
  simp only [within_eq, Option.bind_some]
  by_cases h : 0 ≤ a ∧ a ≤ 1114111
  · simp [h]; rw [Bool.eq_iff_iff]; simp; omega
  · simp [h]; omega
/-- What both sides answer. -/
def isXml (a : Int) : Bool := decide (a = 9 ∨ a = 10 ∨ a = 13) || (decide (32 ≤ a) && sc a && decide (a ≠ 65534 ∧ a ≠ 65535))
theorem spec_xml (a : Int) : spec_XmlRune.f a = some (isXml a) := by
  unfold spec_XmlRune.f isXml
  simp only [scalar_eq, Option.bind_some]
  generalize sc a = b
  by_cases h1 : a = 9
  · simp [h1]
  by_cases h2 : a = 10
  · simp [h2]
  by_cases h3 : a = 13
  · simp [h3]
  by_cases h4 : 32 ≤ a
  · cases b
    · simp [h1, h2, h3, h4]
    · by_cases h5 : a = 65534 <;> simp [h1, h2, h3, h4, h5]
      rw [Bool.eq_iff_iff]; simp
  · simp [h1, h2, h3, h4]
theorem impl_xml (a : Int) : impl_XmlRune.f a = some (isXml a) := by
  unfold impl_XmlRune.f isXml
  simp only [rune_eq, Option.bind_some]
  generalize sc a = b
  by_cases h1 : a = 9
  · simp [h1]
  by_cases h2 : a = 10
  · simp [h2]
  by_cases h3 : a = 13
  · simp [h3]
  by_cases h4 : 32 ≤ a
  · cases b
    · simp [h1, h2, h3, h4]
    · by_cases h5 : a = 65534 <;> simp [h1, h2, h3, h4, h5]
      rw [Bool.eq_iff_iff]; simp
  · simp [h1, h2, h3, h4]

theorem FnExactXmlRune : laws_FnExactXmlRune.Pure := by
  intro a0 h
  unfold laws_FnExactXmlRune.f
  rw [spec_xml, impl_xml]
  simp

end Go.Proofs.Ytoihdifnmcnegaa.Pure
