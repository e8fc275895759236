/- The first byte in no right rune: the reference's pass and the program's give the same place. Conditions: texts of at most 1048576 bytes. -/
import Derived.Test.YteknchhlineciaaDoorU8FnExactEscapeXml
namespace Go.Proofs.YteknchhlineciaaDoor.RQFnExactEscapeXml
open Go.RowKit Go.Proofs.YteknchhlineciaaDoor.QFnExactEscapeXml Go.Proofs.YteknchhlineciaaDoor.U8QFnExactEscapeXml Go.Proofs.YteknchhlineciaaDoorW.PrintWords Go.Proofs.YteknchhlineciaaDoorW.PrintLast
set_option linter.unusedSimpArgs false
set_option linter.unusedVariables false
theorem within_eq (a b c : Int) : impl_within.f a b c = some (decide (b ≤ a ∧ a ≤ c)) := by
  unfold impl_within.f
  split <;> simp <;> omega
theorem scalar_eq (a : Int) : impl_isRune.f a = spec_l01Scalar.f a := by
  have e1 : impl_isRune.f a = some (decide ((0 ≤ a ∧ a ≤ 1114111) ∧ ¬ (55296 ≤ a ∧ a ≤ 57343))) := by
    unfold impl_isRune.f
    simp only [within_eq, Option.bind_some]
    by_cases h1 : 0 ≤ a ∧ a ≤ 1114111
    · by_cases h2 : 55296 ≤ a ∧ a ≤ 57343 <;> simp [h1, h2]
    · simp [h1]
  have e2 : spec_l01Scalar.f a = some (decide ((0 ≤ a ∧ a ≤ 55295) ∨ (57344 ≤ a ∧ a ≤ 1114111))) := by
    unfold spec_l01Scalar.f
    simp only [in_eq, Option.bind_some]
    by_cases h1 : 0 ≤ a ∧ a ≤ 55295
    · simp [h1]
    · by_cases h2 : 57344 ≤ a ∧ a ≤ 1114111 <;> simp [h1, h2]
  rw [e1, e2]
  exact congrArg some (decide_eq_decide.2 (by omega))
theorem xml_eq (a : Int) : impl_XmlRune.f a = spec_XmlRune.f a := by
  unfold impl_XmlRune.f spec_XmlRune.f
  rw [scalar_eq]
theorem xml_some (a : Int) : ∃ b, spec_XmlRune.f a = some b := by
  have h : ∃ b, spec_l01Scalar.f a = some b := by
    unfold spec_l01Scalar.f
    simp only [in_eq, Option.bind_some]
    split <;> exact ⟨_, rfl⟩
  obtain ⟨b, hb⟩ := h
  unfold spec_XmlRune.f
  rw [hb]
  simp only [Option.bind_some]
  repeat' split
  all_goals exact ⟨_, rfl⟩
theorem fault_loop (s : ByteArray) (hs : s.size ≤ 1048576) : ∀ (d p : Nat), s.size - p ≤ d → p ≤ s.size → ∃ v, impl_xmlFault.go s d p = some v ∧ Ev (fun k => spec_l05Runes.l0 k s (p : Int)) v := by
  intro d
  induction d with
  | zero =>
    intro p hd hp
    refine ⟨-1, rfl, Ev.step (fun k => by rw [spec_l05Runes.l0]) ?_⟩
    exact Evx.neg (by omega) (Ev.now _)
  | succ d ih =>
    intro p hd hp
    by_cases h : p < s.size
    · have hw := dec_width h
      have eg : impl_xmlFault.go s (d + 1) p = if (dec s p).1 = 65533 ∧ (dec s p).2 = 1 then some (p : Int) else (impl_XmlRune.f ((dec s p).1 : Int)).bind fun t => if t = true then impl_xmlFault.go s d (p + (dec s p).2) else some (p : Int) := by
        rw [impl_xmlFault.go, if_pos h, ← decode_eq]
      rw [eg, xml_eq]
      have st : ∀ v, Ev (fun k => if (out (dec s p)).2.2 = true then ((spec_XmlRune.f (out (dec s p)).1).bind fun t => if t = true then spec_l05Runes.l0 k s (wrap64 ((p : Int) + (out (dec s p)).2.1)) else some (p : Int)) else some (p : Int)) v → Ev (fun k => spec_l05Runes.l0 k s (p : Int)) v := by
        intro v hv
        refine Ev.step (fun k => by rw [spec_l05Runes.l0]) ?_
        exact Evx.pos (by omega) (Ev.bind (rune (by omega) h) hv)
      unfold out at st
      by_cases q : (dec s p).1 = 65533 ∧ (dec s p).2 = 1
      · rw [if_pos q] at st ⊢
        exact ⟨_, rfl, st _ (Evx.neg (by simp) (Ev.now _))⟩
      · rw [if_neg q] at st ⊢
        obtain ⟨b, hb⟩ := xml_some ((dec s p).1 : Int)
        rw [hb]
        cases b with
        | false => exact ⟨_, rfl, st _ (Evx.pos rfl (Evx.bindc hb (Evx.neg (by simp) (Ev.now _))))⟩
        | true =>
          obtain ⟨v, h1, h2⟩ := ih (p + (dec s p).2) (by omega) (by omega)
          refine ⟨v, by simpa using h1, st _ (Evx.pos rfl (Evx.bindc hb (Evx.pos rfl ?_)))⟩
          refine Evx.fn h2 ?_
          funext k
          congr 1
          show ((p + (dec s p).2 : Nat) : Int) = wrap64 ((p : Int) + ((dec s p).2 : Int))
          rw [Evx.w64 (by omega) (by omega)]
          omega
    · refine ⟨-1, by rw [impl_xmlFault.go, if_neg h], Ev.step (fun k => by rw [spec_l05Runes.l0]) ?_⟩
      exact Evx.neg (by omega) (Ev.now _)
theorem fault (s : ByteArray) (hs : s.size ≤ 1048576) : ∃ v, impl_xmlFault.f s = some v ∧ Ev (fun k => spec_l05Runes.f k s) v := by
  obtain ⟨v, h1, h2⟩ := fault_loop s hs s.size 0 (by omega) (by omega)
  refine ⟨v, by unfold impl_xmlFault.f; rw [if_pos (by omega)]; exact h1, ?_⟩
  unfold spec_l05Runes.f
  exact h2
end Go.Proofs.YteknchhlineciaaDoor.RQFnExactEscapeXml
