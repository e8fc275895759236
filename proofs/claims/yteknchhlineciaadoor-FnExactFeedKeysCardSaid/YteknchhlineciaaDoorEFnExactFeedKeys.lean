/- A right entry: the reference's test and the program's say the same. Conditions: texts of at most 1048576 bytes. -/
import Derived.Test.YteknchhlineciaaDoorRFnExactFeedKeys
import Derived.Test.YteknchhlineciaaDoorOFnExactFeedKeys
namespace Go.Proofs.YteknchhlineciaaDoor.EQFnExactFeedKeys
open Go.RowKit Go.Proofs.YteknchhlineciaaDoor.QFnExactFeedKeys Go.Proofs.YteknchhlineciaaDoorW.PrintWords Go.Proofs.YteknchhlineciaaDoorW.PrintLast Go.Proofs.YteknchhlineciaaDoorW.PrintMore
open Go.Proofs.YteknchhlineciaaDoor.RQFnExactFeedKeys Go.Proofs.YteknchhlineciaaDoor.OQFnExactFeedKeys
set_option linter.unusedSimpArgs false
set_option linter.unusedVariables false
theorem field (s : ByteArray) (hs : s.size ≤ 1048576) : ∃ b, impl_lineOK.f s = some b ∧ Ev (fun k => spec_l06Field.f k s) b := by
  obtain ⟨v, f1, f2⟩ := fault s hs
  obtain ⟨t, l1, l2, _⟩ := line s hs
  unfold impl_lineOK.f spec_l06Field.f
  by_cases h : (s.size : Int) ≤ 200
  · rw [if_pos h, f1]
    simp only [Option.bind_some]
    by_cases hv : v < 0
    · rw [if_pos hv, l1]
      simp only [Option.bind_some]
      exact ⟨_, rfl, Evx.pos h (Ev.bind f2 (Evx.pos hv (Ev.bind l2 (Ev.now _))))⟩
    · rw [if_neg hv]
      exact ⟨_, rfl, Evx.pos h (Ev.bind f2 (Evx.neg hv (Ev.now _)))⟩
  · rw [if_neg h]
    exact ⟨_, rfl, Evx.neg h (Ev.now _)⟩
theorem stamp_in (a : Int) : spec_l01In.f a 0 4102444799 = some (decide (0 ≤ a ∧ a ≤ 4102444799)) := by
  unfold spec_l01In.f
  split <;> simp <;> omega
theorem stamp_is (a : Int) : impl_isStamp.f a = some (decide (0 ≤ a ∧ a ≤ 4102444799)) := by
  unfold impl_isStamp.f
  rw [within_eq]
  rfl
theorem entry (a0 a1 a2 a3 : ByteArray) (a4 : Int) (a5 : ByteArray) (h0 : a0.size ≤ 1048576) (h1 : a1.size ≤ 1048576) (h2 : a2.size ≤ 1048576) (h3 : a3.size ≤ 1048576) (h5 : a5.size ≤ 1048576) :
    ∃ b, Ev (fun k => spec_EntryOK.f k a0 a1 a2 a3 a4 a5) b ∧ Ev (fun k => impl_EntryOK.f k a0 a1 a2 a3 a4 a5) b := by
  obtain ⟨b0, i0, s0⟩ := field a0 h0
  obtain ⟨b1, i1, s1⟩ := field a1 h1
  obtain ⟨b2, i2, s2⟩ := field a2 h2
  obtain ⟨b3, i3, s3⟩ := field a3 h3
  obtain ⟨v, f1, f2⟩ := fault a5 h5
  have bad : Ev (fun k => impl_EntryOK.j0 k true a0 a1 a2 a3 a4 a5) false := by
    refine Ev.step (fun k => by rw [impl_EntryOK.j0]) ?_
    exact Evx.pos rfl (Ev.now _)
  unfold spec_EntryOK.f impl_EntryOK.f
  by_cases e : a0.toList = ([] : List UInt8)
  · exact ⟨false, Evx.pos e (Ev.now _), Evx.pos e bad⟩
  cases b0 with
  | false => exact ⟨false, Evx.neg e (Ev.bind s0 (Evx.neg (by simp) (Ev.now _))), Evx.neg e (Evx.bindc i0 (Evx.neg (by simp) bad))⟩
  | true =>
  cases b1 with
  | false => exact ⟨false, Evx.neg e (Ev.bind s0 (Evx.pos rfl (Ev.bind s1 (Evx.neg (by simp) (Ev.now _))))), Evx.neg e (Evx.bindc i0 (Evx.pos rfl (Evx.bindc i1 (Evx.neg (by simp) bad))))⟩
  | true =>
  cases b2 with
  | false => exact ⟨false, Evx.neg e (Ev.bind s0 (Evx.pos rfl (Ev.bind s1 (Evx.pos rfl (Ev.bind s2 (Evx.neg (by simp) (Ev.now _))))))), Evx.neg e (Evx.bindc i0 (Evx.pos rfl (Evx.bindc i1 (Evx.pos rfl (Evx.bindc i2 (Evx.neg (by simp) bad))))))⟩
  | true =>
  cases b3 with
  | false => exact ⟨false, Evx.neg e (Ev.bind s0 (Evx.pos rfl (Ev.bind s1 (Evx.pos rfl (Ev.bind s2 (Evx.pos rfl (Ev.bind s3 (Evx.neg (by simp) (Ev.now _))))))))), Evx.neg e (Evx.bindc i0 (Evx.pos rfl (Evx.bindc i1 (Evx.pos rfl (Evx.bindc i2 (Evx.pos rfl (Evx.bindc i3 bad)))))))⟩
  | true =>
  have go : ∀ b, Ev (fun k => impl_EntryOK.j0 k false a0 a1 a2 a3 a4 a5) b → Ev (fun k => (spec_l01In.f a4 0 4102444799).bind fun t137 => if t137 = true then (if (a5.size : Int) ≤ 1000 then ((spec_l05Runes.f k a5).bind fun t138 => (some (decide (t138 < 0)))) else (some false)) else (some false)) b →
      ∃ b, Ev (fun k => if a0.toList = ([] : List UInt8) then (some false) else ((spec_l06Field.f k a0).bind fun t133 => (if t133 = true then ((spec_l06Field.f k a1).bind fun t134 => (if t134 = true then ((spec_l06Field.f k a2).bind fun t135 => (if t135 = true then ((spec_l06Field.f k a3).bind fun t136 => (if t136 = true then ((spec_l01In.f a4 0 4102444799).bind fun t137 => (if t137 = true then (if (a5.size : Int) ≤ 1000 then ((spec_l05Runes.f k a5).bind fun t138 => (some (decide (t138 < 0)))) else (some false)) else (some false))) else (some false))) else (some false))) else (some false))) else (some false)))) b ∧
        Ev (fun k => if a0.toList = ([] : List UInt8) then (impl_EntryOK.j0 k true a0 a1 a2 a3 a4 a5) else ((impl_lineOK.f a0).bind fun t149 => (if t149 = true then ((impl_lineOK.f a1).bind fun t150 => (if t150 = true then ((impl_lineOK.f a2).bind fun t151 => (if t151 = true then ((impl_lineOK.f a3).bind fun t152 => (impl_EntryOK.j0 k (!t152) a0 a1 a2 a3 a4 a5)) else (impl_EntryOK.j0 k true a0 a1 a2 a3 a4 a5))) else (impl_EntryOK.j0 k true a0 a1 a2 a3 a4 a5))) else (impl_EntryOK.j0 k true a0 a1 a2 a3 a4 a5)))) b := by
    intro b hi hs
    exact ⟨b, Evx.neg e (Ev.bind s0 (Evx.pos rfl (Ev.bind s1 (Evx.pos rfl (Ev.bind s2 (Evx.pos rfl (Ev.bind s3 (Evx.pos rfl hs)))))))), Evx.neg e (Evx.bindc i0 (Evx.pos rfl (Evx.bindc i1 (Evx.pos rfl (Evx.bindc i2 (Evx.pos rfl (Evx.bindc i3 hi)))))))⟩
  have jn : ∀ b, Ev (fun k => if (a5.size : Int) ≤ 1000 then ((impl_xmlFault.f a5).bind fun t153 => (if t153 < 0 then ((impl_isStamp.f a4).bind fun t154 => (some t154)) else (some false))) else (some false)) b → Ev (fun k => impl_EntryOK.j0 k false a0 a1 a2 a3 a4 a5) b := by
    intro b hb
    refine Ev.step (fun k => by rw [impl_EntryOK.j0]) ?_
    exact Evx.neg (by simp) hb
  by_cases hz : (a5.size : Int) ≤ 1000
  · by_cases hv : v < 0
    · by_cases ht : 0 ≤ a4 ∧ a4 ≤ 4102444799
      · exact go true (jn _ (Evx.pos hz (Evx.bindc f1 (Evx.pos hv (Evx.bindc (stamp_is a4) (Evx.eq (Ev.now _) (decide_eq_true ht))))))) (Evx.bindc (stamp_in a4) (Evx.pos (decide_eq_true ht) (Evx.pos hz (Ev.bind f2 (Evx.eq (Ev.now _) (decide_eq_true hv))))))
      · exact go false (jn _ (Evx.pos hz (Evx.bindc f1 (Evx.pos hv (Evx.bindc (stamp_is a4) (Evx.eq (Ev.now _) (decide_eq_false ht))))))) (Evx.bindc (stamp_in a4) (Evx.neg (by simpa using ht) (Ev.now _)))
    · refine go false (jn _ (Evx.pos hz (Evx.bindc f1 (Evx.neg hv (Ev.now _))))) (Evx.bindc (stamp_in a4) ?_)
      exact Evx.ite (fun _ => Evx.pos hz (Ev.bind f2 (Evx.eq (Ev.now _) (decide_eq_false hv)))) (fun _ => Ev.now _)
  · refine go false (jn _ (Evx.neg hz (Ev.now _))) (Evx.bindc (stamp_in a4) ?_)
    exact Evx.ite (fun _ => Evx.neg hz (Ev.now _)) (fun _ => Ev.now _)
theorem sz (a0 a1 a2 a3 : ByteArray) (a4 : Int) (a5 : ByteArray) (m : Int) (hm : 0 ≤ m ∧ m ≤ 1048576) (w0 : a0.size ≤ 140737488351232) (w1 : a1.size ≤ 140737488351232) (w2 : a2.size ≤ 140737488351232) (w3 : a3.size ≤ 140737488351232) (w5 : a5.size ≤ 140737488351232) :
    ∃ t, laws_szEntry.f a0 a1 a2 a3 a4 a5 m = some t ∧ -1 ≤ t ∧ (0 ≤ t → t = m - a0.size - a1.size - a2.size - a3.size - a5.size) := by
  unfold laws_szEntry.f
  rw [Evx.w64 (i := m - (a0.size : Int)) (by omega) (by omega)]
  by_cases c0 : m - (a0.size : Int) < 0
  · rw [if_pos c0]; exact ⟨_, rfl, by omega, by omega⟩
  rw [if_neg c0, Evx.w64 (i := m - (a0.size : Int) - (a1.size : Int)) (by omega) (by omega)]
  by_cases c1 : m - (a0.size : Int) - (a1.size : Int) < 0
  · rw [if_pos c1]; exact ⟨_, rfl, by omega, by omega⟩
  rw [if_neg c1, Evx.w64 (i := m - (a0.size : Int) - (a1.size : Int) - (a2.size : Int)) (by omega) (by omega)]
  by_cases c2 : m - (a0.size : Int) - (a1.size : Int) - (a2.size : Int) < 0
  · rw [if_pos c2]; exact ⟨_, rfl, by omega, by omega⟩
  rw [if_neg c2, Evx.w64 (i := m - (a0.size : Int) - (a1.size : Int) - (a2.size : Int) - (a3.size : Int)) (by omega) (by omega)]
  by_cases c3 : m - (a0.size : Int) - (a1.size : Int) - (a2.size : Int) - (a3.size : Int) < 0
  · rw [if_pos c3]; exact ⟨_, rfl, by omega, by omega⟩
  rw [if_neg c3, Evx.w64 (i := m - (a0.size : Int) - (a1.size : Int) - (a2.size : Int) - (a3.size : Int) - (a5.size : Int)) (by omega) (by omega)]
  by_cases c5 : m - (a0.size : Int) - (a1.size : Int) - (a2.size : Int) - (a3.size : Int) - (a5.size : Int) < 0
  · rw [if_pos c5]; exact ⟨_, rfl, by omega, by omega⟩
  rw [if_neg c5]
  exact ⟨_, rfl, by omega, by omega⟩
end Go.Proofs.YteknchhlineciaaDoor.EQFnExactFeedKeys
