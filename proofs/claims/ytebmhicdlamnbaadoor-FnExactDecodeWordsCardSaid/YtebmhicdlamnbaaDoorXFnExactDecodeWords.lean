/- Beginnings and ends of texts taken away, told on lists of numbers. Conditions: none. -/
import Derived.Test.YtebmhicdlamnbaaDoorQFnExactDecodeWordsx
import Derived.Test.YtebmhicdlamnbaaDoorBsx
namespace Go.Proofs.YtebmhicdlamnbaaDoor.XQFnExactDecodeWords
open Go.RowKit Go.Proofs.YtebmhicdlamnbaaDoor.QFnExactDecodeWords Go.Proofs.YtebmhicdlamnbaaDoorW.PrintWords Go.Proofs.YtebmhicdlamnbaaDoorW.PrintLast Go.Proofs.YtebmhicdlamnbaaDoorW.PrintMore
open Go.Proofs.YtebmhicdlamnbaaDoor.Evx Go.Proofs.YtebmhicdlamnbaaDoor.Bsx
set_option linter.unusedSimpArgs false
set_option linter.unusedVariables false
theorem lite_prefix (s t : ByteArray) : stringslite_HasPrefix.f s t = some (decide ((bs s).take t.size = bs t)) := by
  unfold stringslite_HasPrefix.f
  have l1 := bs_length s
  have l2 := bs_length t
  by_cases h : (s.size : Int) ≥ (t.size : Int)
  · rw [if_pos h, if_pos (by omega), if_pos (by omega), toList_beq, bs_take, Int.toNat_natCast]
  · rw [if_neg h]
    refine congrArg some (decide_eq_false (fun e => ?_)).symm
    have := congrArg List.length e
    rw [List.length_take] at this
    omega
theorem cut_prefix (s t : ByteArray) : strings_CutPrefix.f s t = some (if (bs s).take t.size = bs t then (s.extract t.size s.size, true) else (s, false)) := by
  unfold strings_CutPrefix.f stringslite_CutPrefix.f
  rw [lite_prefix]
  simp only [Option.bind_some]
  by_cases h : (bs s).take t.size = bs t
  · have hl : t.size ≤ s.size := by
      have := congrArg List.length h
      rw [List.length_take, bs_length, bs_length] at this
      omega
    rw [if_pos (decide_eq_true h), if_pos (by omega), if_pos (by omega), if_pos h]
    simp only [Option.bind_some, Int.toNat_natCast]
  · rw [if_neg (by simpa using h), if_neg h]
    rfl
theorem lite_suffix (s t : ByteArray) (hs : s.size ≤ 4611686018427387904) : stringslite_HasSuffix.f s t = some (decide (t.size ≤ s.size ∧ (bs s).drop (s.size - t.size) = bs t)) := by
  unfold stringslite_HasSuffix.f
  by_cases h : (s.size : Int) ≥ (t.size : Int)
  · have e : wrap64 ((s.size : Int) - (t.size : Int)) = ((s.size - t.size : Nat) : Int) := by rw [Evx.w64 (by omega) (by omega)]; omega
    rw [if_pos h, e, if_pos (by omega), if_pos (by omega), toList_beq, Int.toNat_natCast, bs_drop s _ _ (Nat.le_refl _)]
    refine congrArg some (decide_eq_decide.2 ?_)
    exact ⟨fun x => ⟨by omega, x⟩, fun x => x.2⟩
  · rw [if_neg h]
    exact congrArg some (decide_eq_false (fun e => by omega)).symm
theorem cut_suffix (s t : ByteArray) (hs : s.size ≤ 4611686018427387904) : strings_CutSuffix.f s t = some (if t.size ≤ s.size ∧ (bs s).drop (s.size - t.size) = bs t then (s.extract 0 (s.size - t.size), true) else (s, false)) := by
  unfold strings_CutSuffix.f stringslite_CutSuffix.f
  rw [lite_suffix s t hs]
  simp only [Option.bind_some]
  by_cases h : t.size ≤ s.size ∧ (bs s).drop (s.size - t.size) = bs t
  · have e : wrap64 ((s.size : Int) - (t.size : Int)) = ((s.size - t.size : Nat) : Int) := by rw [Evx.w64 (by omega) (by omega)]; omega
    rw [if_pos (decide_eq_true h), e, if_pos (by omega), if_pos (by omega), if_pos h]
    simp only [Option.bind_some, Int.toNat_natCast]
  · rw [if_neg (by simpa using h), if_neg h]
    rfl
end Go.Proofs.YtebmhicdlamnbaaDoor.XQFnExactDecodeWords
