/- The law of folds at each of the drawn names and values. Conditions: none. -/
import Derived.Test.YtebmhicdlamnbaaDoorQFnFoldsx
namespace Go.Proofs.YtebmhicdlamnbaaDoor.TQFnFolds
open Go.RowKit Go.Proofs.YtebmhicdlamnbaaDoor.QFnFolds Go.Proofs.YtebmhicdlamnbaaDoorW.PrintWords Go.Proofs.YtebmhicdlamnbaaDoorW.PrintLast Go.Proofs.YtebmhicdlamnbaaDoorW.PrintMore
/-- What the law asks of a name and a value. -/
def tail (k : Nat) (n v : ByteArray) : Option Bool := ((impl_FoldHeader.f k n v).bind fun bt205 => ((spec_FoldHeader.f k n v).bind fun bt207 => ((impl_UnfoldHeader.f k bt205.1).bind fun bt209 => (if bt205.2 = 0 then (if bt205.1.toList = bt207.1.toList then (if bt209.2.2 = 0 then (if bt209.1.toList = n.toList then (if bt209.2.1.toList = v.toList then ((impl_HeaderNameOK.f k n).bind fun t212 => (laws_FnFolds.j1 k n v bt205.1 (!t212))) else (laws_FnFolds.j1 k n v bt205.1 true)) else (laws_FnFolds.j1 k n v bt205.1 true)) else (laws_FnFolds.j1 k n v bt205.1 true)) else (laws_FnFolds.j1 k n v bt205.1 true)) else (laws_FnFolds.j1 k n v bt205.1 true)))))
abbrev NAMES : List ByteArray := [(⟨#[83, 117, 98, 106, 101, 99, 116]⟩ : ByteArray), (⟨#[88, 45, 76, 111, 110, 103, 45, 78, 97, 109, 101, 45, 79, 102, 45, 65, 45, 70, 105, 101, 108, 100]⟩ : ByteArray), (⟨#[65]⟩ : ByteArray)]
abbrev VALS : List ByteArray := [(⟨#[]⟩ : ByteArray), (⟨#[97, 32, 118, 97, 108, 117, 101]⟩ : ByteArray), (⟨#[111, 110, 101, 32, 116, 119, 111, 32, 116, 104, 114, 101, 101]⟩ : ByteArray), (⟨#[120]⟩ : ByteArray), (⟨#[97, 61, 63, 98]⟩ : ByteArray), (⟨#[97, 32, 118, 97, 108, 117, 101, 32, 116, 104, 97, 116, 32, 105, 115, 32, 115, 111, 32, 108, 111, 110, 103, 32, 116, 104, 97, 116, 32, 105, 116, 32, 109, 117, 115, 116, 32, 98, 101, 32, 102, 111, 108, 100, 101, 100, 32, 105, 110, 116, 111, 32, 108, 105, 110, 101, 115, 32, 111, 102, 32, 115, 101, 118, 101, 110, 116, 121, 32, 101, 105, 103, 104, 116, 32, 99, 104, 97, 114, 97, 99, 116, 101, 114, 115, 44, 32, 97, 116, 32, 108, 101, 97, 115, 116, 32, 116, 119, 111]⟩ : ByteArray), (⟨#[61, 63, 117, 116, 102, 45, 56, 63, 66, 63, 119, 54, 81, 61, 63, 61, 32, 97, 110, 100, 32, 61, 63, 117, 116, 102, 45, 56, 63, 66, 63, 119, 54, 81, 61, 63, 61, 32, 61, 63, 117, 116, 102, 45, 56, 63, 66, 63, 119, 55, 89, 61, 63, 61]⟩ : ByteArray), (⟨#[119, 111, 114, 100]⟩ : ByteArray)]
theorem s0 : spec_SafeValue.f 300 (⟨#[]⟩ : ByteArray) = some true := by decide +kernel
theorem s1 : spec_SafeValue.f 300 (⟨#[97, 32, 118, 97, 108, 117, 101]⟩ : ByteArray) = some true := by decide +kernel
theorem s2 : spec_SafeValue.f 300 (⟨#[111, 110, 101, 32, 116, 119, 111, 32, 116, 104, 114, 101, 101]⟩ : ByteArray) = some true := by decide +kernel
theorem s3 : spec_SafeValue.f 300 (⟨#[120]⟩ : ByteArray) = some true := by decide +kernel
theorem s4 : spec_SafeValue.f 300 (⟨#[97, 61, 63, 98]⟩ : ByteArray) = some true := by decide +kernel
theorem s5 : spec_SafeValue.f 300 (⟨#[97, 32, 118, 97, 108, 117, 101, 32, 116, 104, 97, 116, 32, 105, 115, 32, 115, 111, 32, 108, 111, 110, 103, 32, 116, 104, 97, 116, 32, 105, 116, 32, 109, 117, 115, 116, 32, 98, 101, 32, 102, 111, 108, 100, 101, 100, 32, 105, 110, 116, 111, 32, 108, 105, 110, 101, 115, 32, 111, 102, 32, 115, 101, 118, 101, 110, 116, 121, 32, 101, 105, 103, 104, 116, 32, 99, 104, 97, 114, 97, 99, 116, 101, 114, 115, 44, 32, 97, 116, 32, 108, 101, 97, 115, 116, 32, 116, 119, 111]⟩ : ByteArray) = some true := by decide +kernel
theorem s6 : spec_SafeValue.f 300 (⟨#[61, 63, 117, 116, 102, 45, 56, 63, 66, 63, 119, 54, 81, 61, 63, 61, 32, 97, 110, 100, 32, 61, 63, 117, 116, 102, 45, 56, 63, 66, 63, 119, 54, 81, 61, 63, 61, 32, 61, 63, 117, 116, 102, 45, 56, 63, 66, 63, 119, 55, 89, 61, 63, 61]⟩ : ByteArray) = some true := by decide +kernel
theorem s7 : spec_SafeValue.f 300 (⟨#[119, 111, 114, 100]⟩ : ByteArray) = some true := by decide +kernel
theorem c0_0 : tail 300 (⟨#[83, 117, 98, 106, 101, 99, 116]⟩ : ByteArray) (⟨#[]⟩ : ByteArray) = some true := by decide +kernel
theorem c0_1 : tail 300 (⟨#[83, 117, 98, 106, 101, 99, 116]⟩ : ByteArray) (⟨#[97, 32, 118, 97, 108, 117, 101]⟩ : ByteArray) = some true := by decide +kernel
theorem c0_2 : tail 300 (⟨#[83, 117, 98, 106, 101, 99, 116]⟩ : ByteArray) (⟨#[111, 110, 101, 32, 116, 119, 111, 32, 116, 104, 114, 101, 101]⟩ : ByteArray) = some true := by decide +kernel
theorem c0_3 : tail 300 (⟨#[83, 117, 98, 106, 101, 99, 116]⟩ : ByteArray) (⟨#[120]⟩ : ByteArray) = some true := by decide +kernel
theorem c0_4 : tail 300 (⟨#[83, 117, 98, 106, 101, 99, 116]⟩ : ByteArray) (⟨#[97, 61, 63, 98]⟩ : ByteArray) = some true := by decide +kernel
theorem c0_5 : tail 300 (⟨#[83, 117, 98, 106, 101, 99, 116]⟩ : ByteArray) (⟨#[97, 32, 118, 97, 108, 117, 101, 32, 116, 104, 97, 116, 32, 105, 115, 32, 115, 111, 32, 108, 111, 110, 103, 32, 116, 104, 97, 116, 32, 105, 116, 32, 109, 117, 115, 116, 32, 98, 101, 32, 102, 111, 108, 100, 101, 100, 32, 105, 110, 116, 111, 32, 108, 105, 110, 101, 115, 32, 111, 102, 32, 115, 101, 118, 101, 110, 116, 121, 32, 101, 105, 103, 104, 116, 32, 99, 104, 97, 114, 97, 99, 116, 101, 114, 115, 44, 32, 97, 116, 32, 108, 101, 97, 115, 116, 32, 116, 119, 111]⟩ : ByteArray) = some true := by decide +kernel
theorem c0_6 : tail 300 (⟨#[83, 117, 98, 106, 101, 99, 116]⟩ : ByteArray) (⟨#[61, 63, 117, 116, 102, 45, 56, 63, 66, 63, 119, 54, 81, 61, 63, 61, 32, 97, 110, 100, 32, 61, 63, 117, 116, 102, 45, 56, 63, 66, 63, 119, 54, 81, 61, 63, 61, 32, 61, 63, 117, 116, 102, 45, 56, 63, 66, 63, 119, 55, 89, 61, 63, 61]⟩ : ByteArray) = some true := by decide +kernel
theorem c0_7 : tail 300 (⟨#[83, 117, 98, 106, 101, 99, 116]⟩ : ByteArray) (⟨#[119, 111, 114, 100]⟩ : ByteArray) = some true := by decide +kernel
theorem c1_0 : tail 300 (⟨#[88, 45, 76, 111, 110, 103, 45, 78, 97, 109, 101, 45, 79, 102, 45, 65, 45, 70, 105, 101, 108, 100]⟩ : ByteArray) (⟨#[]⟩ : ByteArray) = some true := by decide +kernel
theorem c1_1 : tail 300 (⟨#[88, 45, 76, 111, 110, 103, 45, 78, 97, 109, 101, 45, 79, 102, 45, 65, 45, 70, 105, 101, 108, 100]⟩ : ByteArray) (⟨#[97, 32, 118, 97, 108, 117, 101]⟩ : ByteArray) = some true := by decide +kernel
theorem c1_2 : tail 300 (⟨#[88, 45, 76, 111, 110, 103, 45, 78, 97, 109, 101, 45, 79, 102, 45, 65, 45, 70, 105, 101, 108, 100]⟩ : ByteArray) (⟨#[111, 110, 101, 32, 116, 119, 111, 32, 116, 104, 114, 101, 101]⟩ : ByteArray) = some true := by decide +kernel
theorem c1_3 : tail 300 (⟨#[88, 45, 76, 111, 110, 103, 45, 78, 97, 109, 101, 45, 79, 102, 45, 65, 45, 70, 105, 101, 108, 100]⟩ : ByteArray) (⟨#[120]⟩ : ByteArray) = some true := by decide +kernel
theorem c1_4 : tail 300 (⟨#[88, 45, 76, 111, 110, 103, 45, 78, 97, 109, 101, 45, 79, 102, 45, 65, 45, 70, 105, 101, 108, 100]⟩ : ByteArray) (⟨#[97, 61, 63, 98]⟩ : ByteArray) = some true := by decide +kernel
theorem c1_5 : tail 300 (⟨#[88, 45, 76, 111, 110, 103, 45, 78, 97, 109, 101, 45, 79, 102, 45, 65, 45, 70, 105, 101, 108, 100]⟩ : ByteArray) (⟨#[97, 32, 118, 97, 108, 117, 101, 32, 116, 104, 97, 116, 32, 105, 115, 32, 115, 111, 32, 108, 111, 110, 103, 32, 116, 104, 97, 116, 32, 105, 116, 32, 109, 117, 115, 116, 32, 98, 101, 32, 102, 111, 108, 100, 101, 100, 32, 105, 110, 116, 111, 32, 108, 105, 110, 101, 115, 32, 111, 102, 32, 115, 101, 118, 101, 110, 116, 121, 32, 101, 105, 103, 104, 116, 32, 99, 104, 97, 114, 97, 99, 116, 101, 114, 115, 44, 32, 97, 116, 32, 108, 101, 97, 115, 116, 32, 116, 119, 111]⟩ : ByteArray) = some true := by decide +kernel
theorem c1_6 : tail 300 (⟨#[88, 45, 76, 111, 110, 103, 45, 78, 97, 109, 101, 45, 79, 102, 45, 65, 45, 70, 105, 101, 108, 100]⟩ : ByteArray) (⟨#[61, 63, 117, 116, 102, 45, 56, 63, 66, 63, 119, 54, 81, 61, 63, 61, 32, 97, 110, 100, 32, 61, 63, 117, 116, 102, 45, 56, 63, 66, 63, 119, 54, 81, 61, 63, 61, 32, 61, 63, 117, 116, 102, 45, 56, 63, 66, 63, 119, 55, 89, 61, 63, 61]⟩ : ByteArray) = some true := by decide +kernel
theorem c1_7 : tail 300 (⟨#[88, 45, 76, 111, 110, 103, 45, 78, 97, 109, 101, 45, 79, 102, 45, 65, 45, 70, 105, 101, 108, 100]⟩ : ByteArray) (⟨#[119, 111, 114, 100]⟩ : ByteArray) = some true := by decide +kernel
theorem c2_0 : tail 300 (⟨#[65]⟩ : ByteArray) (⟨#[]⟩ : ByteArray) = some true := by decide +kernel
theorem c2_1 : tail 300 (⟨#[65]⟩ : ByteArray) (⟨#[97, 32, 118, 97, 108, 117, 101]⟩ : ByteArray) = some true := by decide +kernel
theorem c2_2 : tail 300 (⟨#[65]⟩ : ByteArray) (⟨#[111, 110, 101, 32, 116, 119, 111, 32, 116, 104, 114, 101, 101]⟩ : ByteArray) = some true := by decide +kernel
theorem c2_3 : tail 300 (⟨#[65]⟩ : ByteArray) (⟨#[120]⟩ : ByteArray) = some true := by decide +kernel
theorem c2_4 : tail 300 (⟨#[65]⟩ : ByteArray) (⟨#[97, 61, 63, 98]⟩ : ByteArray) = some true := by decide +kernel
theorem c2_5 : tail 300 (⟨#[65]⟩ : ByteArray) (⟨#[97, 32, 118, 97, 108, 117, 101, 32, 116, 104, 97, 116, 32, 105, 115, 32, 115, 111, 32, 108, 111, 110, 103, 32, 116, 104, 97, 116, 32, 105, 116, 32, 109, 117, 115, 116, 32, 98, 101, 32, 102, 111, 108, 100, 101, 100, 32, 105, 110, 116, 111, 32, 108, 105, 110, 101, 115, 32, 111, 102, 32, 115, 101, 118, 101, 110, 116, 121, 32, 101, 105, 103, 104, 116, 32, 99, 104, 97, 114, 97, 99, 116, 101, 114, 115, 44, 32, 97, 116, 32, 108, 101, 97, 115, 116, 32, 116, 119, 111]⟩ : ByteArray) = some true := by decide +kernel
theorem c2_6 : tail 300 (⟨#[65]⟩ : ByteArray) (⟨#[61, 63, 117, 116, 102, 45, 56, 63, 66, 63, 119, 54, 81, 61, 63, 61, 32, 97, 110, 100, 32, 61, 63, 117, 116, 102, 45, 56, 63, 66, 63, 119, 54, 81, 61, 63, 61, 32, 61, 63, 117, 116, 102, 45, 56, 63, 66, 63, 119, 55, 89, 61, 63, 61]⟩ : ByteArray) = some true := by decide +kernel
theorem c2_7 : tail 300 (⟨#[65]⟩ : ByteArray) (⟨#[119, 111, 114, 100]⟩ : ByteArray) = some true := by decide +kernel
theorem safe : ∀ v ∈ VALS, spec_SafeValue.f 300 v = some true := by
  intro v hv
  simp only [VALS, List.mem_cons, List.mem_nil_iff, or_false] at hv
  rcases hv with rfl | rfl | rfl | rfl | rfl | rfl | rfl | rfl
  · exact s0
  · exact s1
  · exact s2
  · exact s3
  · exact s4
  · exact s5
  · exact s6
  · exact s7
theorem all : ∀ n ∈ NAMES, ∀ v ∈ VALS, tail 300 n v = some true := by
  intro n hn v hv
  simp only [VALS, List.mem_cons, List.mem_nil_iff, or_false] at hv
  simp only [NAMES, List.mem_cons, List.mem_nil_iff, or_false] at hn
  rcases hn with rfl | rfl | rfl <;> rcases hv with rfl | rfl | rfl | rfl | rfl | rfl | rfl | rfl
  · exact c0_0
  · exact c0_1
  · exact c0_2
  · exact c0_3
  · exact c0_4
  · exact c0_5
  · exact c0_6
  · exact c0_7
  · exact c1_0
  · exact c1_1
  · exact c1_2
  · exact c1_3
  · exact c1_4
  · exact c1_5
  · exact c1_6
  · exact c1_7
  · exact c2_0
  · exact c2_1
  · exact c2_2
  · exact c2_3
  · exact c2_4
  · exact c2_5
  · exact c2_6
  · exact c2_7
end Go.Proofs.YtebmhicdlamnbaaDoor.TQFnFolds
