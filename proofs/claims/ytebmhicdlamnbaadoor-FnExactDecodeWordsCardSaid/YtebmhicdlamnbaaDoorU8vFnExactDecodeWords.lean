/- The reference's test of a valid text agrees with Go's own. Conditions: texts of at most 65536 bytes. -/
import Derived.Test.YtebmhicdlamnbaaDoorU8FnExactDecodeWords
namespace Go.Proofs.YtebmhicdlamnbaaDoor.U8QFnExactDecodeWords
open Go.RowKit Go.Proofs.YtebmhicdlamnbaaDoor.QFnExactDecodeWords Go.Proofs.YtebmhicdlamnbaaDoorW.PrintWords Go.Proofs.YtebmhicdlamnbaaDoorW.PrintLast
theorem valid_loop (s : ByteArray) (hs : s.size ≤ 65536) : ∀ (d p : Nat), s.size - p ≤ d → p ≤ s.size → Ev (fun k => spec_ValidText.l0 k s (p : Int)) (Go.Lib.validD (s.data.toList.drop p))
  | 0, p, hd, hp => by
    refine Ev.step (fun k => by rw [spec_ValidText.l0]) ?_
    refine Evx.neg (by omega) (Evx.eq (Ev.now _) ?_)
    rw [List.drop_of_length_le (by rw [← Evx.size_eq]; omega), Go.Lib.validD_nil]
  | d + 1, p, hd, hp => by
    refine Ev.step (fun k => by rw [spec_ValidText.l0]) ?_
    by_cases h : p < s.size
    · have hw := dec_width h
      refine Evx.pos (by omega) (Ev.bind (rune (by omega) h) ?_)
      have hne : s.data.toList.drop p ≠ [] := by
        intro e
        have := congrArg List.length e
        rw [List.length_drop, ← Evx.size_eq, List.length_nil] at this
        omega
      rw [Go.Lib.validD_step _ hne, decL h, List.drop_drop]
      unfold out
      by_cases q : (dec s p).1 = 65533 ∧ (dec s p).2 = 1
      · rw [if_pos q, if_pos q]
        exact Evx.neg (by simp) (Ev.now _)
      · rw [if_neg q, if_neg q]
        refine Evx.pos rfl ?_
        have e : wrap64 ((p : Int) + ((dec s p).2 : Int)) = ((p + (dec s p).2 : Nat) : Int) := by
          rw [Evx.w64 (by omega) (by omega)]; omega
        show Ev (fun k => spec_ValidText.l0 k s (wrap64 ((p : Int) + ((dec s p).2 : Int)))) _
        rw [e]
        clear e
        exact valid_loop s hs d (p + (dec s p).2) (by omega) (by omega)
    · refine Evx.neg (by omega) (Evx.eq (Ev.now _) ?_)
      rw [List.drop_of_length_le (by rw [← Evx.size_eq]; omega), Go.Lib.validD_nil]
theorem valid_eq (s : ByteArray) (hs : s.size ≤ 65536) : Ev (fun k => spec_ValidText.f k s) (Go.Lib.validD s.data.toList) := by
  unfold spec_ValidText.f
  exact Evx.neg (by omega) (valid_loop s hs _ 0 (Nat.le_refl _) (by omega))
end Go.Proofs.YtebmhicdlamnbaaDoor.U8QFnExactDecodeWords
