/- The plain law of ValidText: the reference's loop over runes answers as Go's own test of a valid text. Conditions: none. -/
import Derived.Test.YtoihdifnmcnegaaDoorU8FnExactValidText
namespace Go.Proofs.YtoihdifnmcnegaaDoor.Pure
open Go.RowKit Go.Proofs.YtoihdifnmcnegaaDoor.QFnExactValidText Go.Proofs.YtoihdifnmcnegaaDoor.U8QFnExactValidText Go.Proofs.YtoihdifnmcnegaaDoorW.PrintWords Go.Proofs.YtoihdifnmcnegaaDoorW.PrintLast
theorem valid_loop (s : ByteArray) (hs : s.size ≤ 65536) : ∀ (d p : Nat), s.size - p ≤ d → p ≤ s.size → Ev (fun k => spec_ValidText.l0 k s (p : Int)) (Go.Lib.validD (s.data.toList.drop p))
  | 0, p, hd, hp => by
    refine Ev.step (fun k => by rw [spec_ValidText.l0]) ?_
    refine Evx.neg (by omega) (Evx.eq (Ev.now _) ?_)
    rw [List.drop_of_length_le (by rw [← Evx.size_eq]; omega), Go.Lib.validD_nil]
  | d + 1, p, hd, hp => by
    refine Ev.step (fun k => by rw [spec_ValidText.l0]) ?_
    by_cases h : p < s.size
    · have hw := dec_width h
      refine Evx.pos (by omega) (Ev.bind (rune (by omega) h) ?_)
      have hne : s.data.toList.drop p ≠ [] := by
        intro e
        have := congrArg List.length e
        rw [List.length_drop, ← Evx.size_eq, List.length_nil] at this
        omega
      rw [Go.Lib.validD_step _ hne, decL h, List.drop_drop]
      unfold out
      by_cases q : (dec s p).1 = 65533 ∧ (dec s p).2 = 1
      · rw [if_pos q, if_pos q]
        exact Evx.neg (by simp) (Ev.now _)
      · rw [if_neg q, if_neg q]
        refine Evx.pos rfl ?_
        have e : wrap64 ((p : Int) + ((dec s p).2 : Int)) = ((p + (dec s p).2 : Nat) : Int) := by
          rw [Evx.w64 (by omega) (by omega)]; omega
        show Ev (fun k => spec_ValidText.l0 k s (wrap64 ((p : Int) + ((dec s p).2 : Int)))) _
        rw [e]
        clear e
        exact valid_loop s hs d (p + (dec s p).2) (by omega) (by omega)
    · refine Evx.neg (by omega) (Evx.eq (Ev.now _) ?_)
      rw [List.drop_of_length_le (by rw [← Evx.size_eq]; omega), Go.Lib.validD_nil]
theorem FnExactValidText : laws_FnExactValidText.Pure := by
  intro a0 _
  refine Ev.rounds ?_
  unfold laws_FnExactValidText.f spec_ValidText.f impl_ValidText.f utf8_ValidString.f
  by_cases h1 : (a0.size : Int) > 1048576
  · exact Evx.pos h1 (Ev.now _)
  refine Evx.neg h1 ?_
  by_cases h2 : (a0.size : Int) > 65536
  · refine Ev.bind (a := false) (Evx.pos h2 (Ev.now _)) (Evx.bindc (b := false) (if_neg (by omega)) (Evx.neg (by simp) (Ev.now _)))
  · refine Ev.bind (a := Go.Lib.validD a0.data.toList) (Evx.neg h2 (valid_loop a0 (by omega) _ 0 (Nat.le_refl _) (by omega))) ?_
    refine Evx.bindc (b := Go.Lib.validD a0.data.toList) ?_ (Evx.neg (by simp) (Ev.now _))
    rw [if_pos (by omega), if_pos (by omega)]
    rfl
end Go.Proofs.YtoihdifnmcnegaaDoor.Pure
