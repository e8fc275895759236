/- The source of draws: a byte and a number below n always come. Conditions: codes of at most 1048576 bytes, at most a million draws. -/
import Derived.Test.YtebmhicdlamnbaaDoorQFnFoldsx
import Derived.Test.YtebmhicdlamnbaaDoorEvx
namespace Go.Proofs.YtebmhicdlamnbaaDoor.SQFnFolds
open Go.RowKit Go.Proofs.YtebmhicdlamnbaaDoor.QFnFolds Go.Proofs.YtebmhicdlamnbaaDoorW.PrintWords Go.Proofs.YtebmhicdlamnbaaDoorW.PrintLast Go.Proofs.YtebmhicdlamnbaaDoorW.PrintMore
set_option linter.unusedSimpArgs false
set_option linter.unusedVariables false
/-- A code of bytes. -/
def Code (l : List Int) : Prop := l.length ≤ 1048576 ∧ ∀ x ∈ l, 0 ≤ x ∧ x < 256
theorem byte_ok {l : List Int} (hl : Code l) {a s : Int} (ha : 0 ≤ a ∧ a ≤ 1000000) (hs : 0 ≤ s ∧ s ≤ 2147483647) :
    ∃ r s', spec_l00Src_byte.f l a s = some (r, a + 1, s') ∧ (0 ≤ r ∧ r ≤ 255) ∧ (0 ≤ s' ∧ s' ≤ 2147483647) := by
  have h1 := hl.1
  unfold spec_l00Src_byte.f
  rw [if_pos ⟨ha.1, ha.2, hs.1, hs.2, by omega⟩]
  by_cases h2 : a < (l.length : Int)
  · have hb : 0 ≤ rd l a ∧ rd l a ≤ 255 := by
      have hm : rd l a ∈ l := by
        unfold rd
        rw [List.getD_eq_getElem?_getD, List.getElem?_eq_getElem (by omega)]
        exact List.getElem_mem _
      have := hl.2 _ hm
      omega
    rw [if_pos h2, if_pos hb]
    exact ⟨_, _, rfl, hb, by omega, by omega⟩
  · rw [if_neg h2]
    by_cases h3 : 3000 < a + 1
    · rw [if_pos h3]
      exact ⟨_, _, rfl, by omega, hs⟩
    · rw [if_neg h3]
      exact ⟨_, _, rfl, by omega, by omega, by omega⟩
theorem next_ok {l : List Int} (hl : Code l) {a s n : Int} (ha : 0 ≤ a ∧ a ≤ 999990) (hs : 0 ≤ s ∧ s ≤ 2147483647) (hn : n ≤ 2147483647) :
    ∃ r a' s', spec_l00Src_next.f l a s n = some (r, a', s') ∧ (0 ≤ r ∧ (1 ≤ n → r < n)) ∧ (a ≤ a' ∧ a' ≤ a + 3) ∧ (0 ≤ s' ∧ s' ≤ 2147483647) := by
  unfold spec_l00Src_next.f
  by_cases h1 : n ≤ 1
  · rw [if_pos h1]
    exact ⟨_, _, _, rfl, ⟨by omega, by omega⟩, by omega, hs⟩
  rw [if_neg h1]
  obtain ⟨r1, s1, e1, b1, c1⟩ := byte_ok hl (a := a) (by omega) hs
  by_cases h2 : n ≤ 256
  · rw [if_pos h2, e1]
    simp only [Option.bind_some]
    rw [if_neg (by omega), Int.tmod_eq_emod_of_nonneg b1.1]
    exact ⟨_, _, _, rfl, ⟨Int.emod_nonneg _ (by omega), fun _ => Int.emod_lt_of_pos _ (by omega)⟩, by omega, c1⟩
  · obtain ⟨r2, s2, e2, b2, c2⟩ := byte_ok hl (a := a + 1) (by omega) c1
    obtain ⟨r3, s3, e3, b3, c3⟩ := byte_ok hl (a := a + 1 + 1) (by omega) c2
    rw [if_neg h2, e1]
    simp only [Option.bind_some]
    rw [e2]
    simp only [Option.bind_some]
    rw [e3]
    simp only [Option.bind_some]
    rw [if_neg (by omega), Evx.w64 (i := r1 * 65536) (by omega) (by omega), Evx.w64 (i := r2 * 256) (by omega) (by omega), Evx.w64 (i := r1 * 65536 + r2 * 256) (by omega) (by omega), Evx.w64 (i := r1 * 65536 + r2 * 256 + r3) (by omega) (by omega), Int.tmod_eq_emod_of_nonneg (by omega)]
    exact ⟨_, _, _, rfl, ⟨Int.emod_nonneg _ (by omega), fun _ => Int.emod_lt_of_pos _ (by omega)⟩, by omega, c3⟩
end Go.Proofs.YtebmhicdlamnbaaDoor.SQFnFolds
