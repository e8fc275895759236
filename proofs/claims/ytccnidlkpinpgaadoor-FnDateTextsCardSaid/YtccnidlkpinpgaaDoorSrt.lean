/- A drawn stamp is a right one. Conditions: codes of at most 1048576 bytes. -/
import Derived.Test.YtccnidlkpinpgaaDoorSrd
namespace Go.Proofs.YtccnidlkpinpgaaDoor.SQFnDateTexts
open Go.RowKit Go.Proofs.YtccnidlkpinpgaaDoor.QFnDateTexts Go.Proofs.YtccnidlkpinpgaaDoorW.PrintWords Go.Proofs.YtccnidlkpinpgaaDoorW.PrintLast Go.Proofs.YtccnidlkpinpgaaDoorW.PrintMore
set_option linter.unusedSimpArgs false
set_option linter.unusedVariables false
theorem stamp_ok {l : List Int} (hl : Code l) : ∃ r, spec_StampOf2.f l = some r ∧ 0 ≤ r ∧ r ≤ 4102444799 := by
  have h1 := hl.1
  unfold spec_StampOf2.f spec_l00Source.f
  simp only [Option.bind_some]
  unfold spec_l00Src_stamp.f
  obtain ⟨r1, a1, s1, e1, b1, c1, d1⟩ := next_ok hl (a := 0) (s := (l.length : Int) % 1000) (n := 1000000) (by omega) (by omega) (by omega)
  obtain ⟨r2, a2, s2, e2, b2, c2, d2⟩ := next_ok hl (a := a1) (s := s1) (n := 1000000) (by omega) d1 (by omega)
  obtain ⟨r3, a3, s3, e3, b3, c3, d3⟩ := next_ok hl (a := a2) (s := s2) (n := 6) (by omega) d2 (by omega)
  have q1 := b1.2 (by omega)
  have q2 := b2.2 (by omega)
  have q3 := b3.2 (by omega)
  rw [e1]
  simp only [Option.bind_some]
  rw [e2]
  simp only [Option.bind_some]
  rw [e3]
  simp only [Option.bind_some]
  rw [if_pos b3.1, if_pos (by simp only [List.length_cons, List.length_nil]; omega), Evx.w64 (i := r1 * 4102) (by omega) (by omega), Evx.w64 (i := r2 * 4000) (by omega) (by omega), Evx.w64 (i := r2 * 4000 + 86399) (by omega) (by omega)]
  simp only [Option.bind_some]
  refine ⟨_, rfl, ?_⟩
  have h6 : r3 = 0 ∨ r3 = 1 ∨ r3 = 2 ∨ r3 = 3 ∨ r3 = 4 ∨ r3 = 5 := by omega
  rcases h6 with rfl | rfl | rfl | rfl | rfl | rfl <;> simp only [rd, Int.reduceToNat, List.getD_cons_zero, List.getD_cons_succ] <;> omega
end Go.Proofs.YtccnidlkpinpgaaDoor.SQFnDateTexts
