/- A text in one line: the reference and the program give the same. Conditions: texts of at most 1048576 bytes. -/
import Derived.Test.YteknchhlineciaaDoorQFnExactFeedKeysx
import Derived.Test.YteknchhlineciaaDoorFld
namespace Go.Proofs.YteknchhlineciaaDoor.OQFnExactFeedKeys
open Go.RowKit Go.Proofs.YteknchhlineciaaDoor.QFnExactFeedKeys Go.Proofs.YteknchhlineciaaDoorW.PrintWords Go.Proofs.YteknchhlineciaaDoorW.PrintLast Go.Proofs.YteknchhlineciaaDoorW.PrintMore
open Go.Proofs.YteknchhlineciaaDoor.Evx Go.Proofs.YteknchhlineciaaDoor.Bsx Go.Proofs.YteknchhlineciaaDoor.Fld
set_option linter.unusedSimpArgs false
set_option linter.unusedVariables false
theorem blank_eq (c : Int) : spec_l05Blank.f c = some (decide (bl c)) := by
  unfold spec_l05Blank.f bl
  by_cases h1 : c = 32
  · rw [if_pos h1]; simp [h1]
  by_cases h2 : c = 9
  · rw [if_neg h1, if_pos h2]; simp [h2]
  by_cases h3 : c = 10
  · rw [if_neg h1, if_neg h2, if_pos h3]; simp [h3]
  · rw [if_neg h1, if_neg h2, if_neg h3]
    refine congrArg some ?_
    by_cases h4 : c = 13
    · simp [h4]
    · simp [h1, h2, h3, h4]
theorem rd_last {out : List Int} (h : out ≠ []) : out.getLast? = some (rd out ((out.length - 1 : Nat) : Int)) := by
  unfold rd
  rw [Int.toNat_natCast, List.getD_eq_getElem?_getD, List.getLast?_eq_getElem?]
  have : 0 < out.length := List.length_pos_iff.2 h
  rw [List.getElem?_eq_getElem (by omega)]
  rfl
theorem wn1 (p : Nat) (h : p ≤ 4000000) : wrap64 ((p : Int) + 1) = ((p + 1 : Nat) : Int) := by unfold wrap64; omega
theorem wm1 (p : Nat) (h : 1 ≤ p) (h2 : p ≤ 4000000) : wrap64 ((p : Int) - 1) = ((p - 1 : Nat) : Int) := by unfold wrap64; omega
theorem line_loop (s : ByteArray) (hs : s.size ≤ 1048576) (n : Nat) : ∀ (l : List Int) (i : Nat) (out : List Int), l.length ≤ n → (bs s).drop i = l → out.length ≤ i → i ≤ s.size → Ev (fun k => spec_l06Line.l0 k s out (i : Int)) (strOfNums (lin l out)) := by
  have fin : ∀ (i : Nat) (out : List Int), (bs s).drop i = [] → out.length ≤ i → i ≤ s.size → Ev (fun k => spec_l06Line.l0 k s out (i : Int)) (strOfNums (lin [] out)) := by
    intro i out h ho hi
    have := drop_nil h
    refine Ev.step (fun k => by rw [spec_l06Line.l0]) ?_
    refine Evx.neg (by omega) ?_
    rw [lin]
    by_cases h0 : out = []
    · subst h0
      exact Evx.neg (by simp) (Evx.eq (Ev.now _) (by rw [if_neg (fun e => e.1 rfl)]))
    · have hp : 0 < out.length := List.length_pos_iff.2 h0
      rw [wm1 out.length (by omega) (by omega), rd_last h0]
      refine Evx.pos (by omega) (Evx.pos (by omega) (Evx.pos (by omega) ?_))
      refine Evx.ite (fun a => ?_) (fun a => Evx.eq (Ev.now _) (by rw [if_neg (fun e => a (Option.some.inj e.2))]))
      refine Evx.pos (by omega) (Evx.eq (Ev.now _) ?_)
      rw [if_pos ⟨h0, by rw [a]⟩, Int.toNat_natCast, List.dropLast_eq_take]
  induction n with
  | zero =>
    intro l i out hn h ho hi
    obtain rfl : l = [] := List.eq_nil_of_length_eq_zero (by omega)
    exact fin i out h ho hi
  | succ n ih =>
    intro l i out hn h ho hi
    cases l with
    | nil => exact fin i out h ho hi
    | cons c r =>
      obtain ⟨g1, g2, g3, g4, g5⟩ := drop_cons h
      refine Ev.step (fun k => by rw [spec_l06Line.l0]) ?_
      rw [g1, wn1 i (by omega)]
      refine Evx.pos (by omega) (Evx.pos (by omega) (Evx.bindc (blank_eq c) ?_))
      rw [lin]
      by_cases hb : bl c
      · rw [if_pos hb]
        refine Evx.pos (decide_eq_true hb) ?_
        by_cases h0 : out = []
        · subst h0
          rw [if_neg (fun e => e.1 rfl)]
          exact Evx.neg (by simp) (ih r (i + 1) [] (by simpa using hn) g2 (by simp) (by omega))
        · have hp : 0 < out.length := List.length_pos_iff.2 h0
          rw [wm1 out.length (by omega) (by omega), rd_last h0]
          refine Evx.pos (by omega) (Evx.pos (by omega) (Evx.pos (by omega) ?_))
          refine Evx.ite (fun a => ?_) (fun a => ?_)
          · rw [if_neg (fun e => e.2 (by rw [a]))]
            exact ih r (i + 1) out (by simpa using hn) g2 (by omega) (by omega)
          · rw [if_pos ⟨h0, fun e => a (Option.some.inj e)⟩]
            exact Evx.pos (by omega) (ih r (i + 1) (out ++ [32]) (by simpa using hn) g2 (by simp; omega) (by omega))
      · rw [if_neg hb]
        refine Evx.neg (by simpa using hb) (Evx.pos (by omega) ?_)
        exact ih r (i + 1) (out ++ [c]) (by simpa using hn) g2 (by simp; omega) (by omega)
theorem join_len (x : Int) : ∀ (l cur : List Int), (joinI x (fld l cur)).length ≤ l.length + cur.length ∧ (fld l cur).length ≤ l.length + cur.length
  | [], cur => by
    rw [fld]
    by_cases h : cur = []
    · rw [if_pos h]; simp [joinI]
    · rw [if_neg h]
      have : 0 < cur.length := List.length_pos_iff.2 h
      refine ⟨by simp [joinI], by simp; omega⟩
  | c :: l, cur => by
    rw [fld]
    by_cases hb : bl c
    · rw [if_pos hb]
      have ih := join_len x l []
      simp only [List.length_nil, Nat.add_zero] at ih
      by_cases h : cur = []
      · rw [if_pos h]
        exact ⟨by simp only [List.length_cons]; omega, by simp only [List.length_cons]; omega⟩
      · rw [if_neg h]
        have : 0 < cur.length := List.length_pos_iff.2 h
        refine ⟨?_, by simp only [List.length_cons]; omega⟩
        cases hf : fld l [] with
        | nil => simp only [joinI, List.length_cons]; omega
        | cons q qs =>
          rw [hf] at ih
          simp only [joinI, List.length_append, List.length_cons] at ih ⊢
          omega
    · rw [if_neg hb]
      have ih := join_len x l (cur ++ [c])
      simp only [List.length_append, List.length_singleton] at ih
      exact ⟨by simp only [List.length_cons]; omega, by simp only [List.length_cons]; omega⟩
theorem nums_back (t : ByteArray) : strOfNums (bs t) = t := bs_inj (bs_strOfNums (bs_range t))
theorem line (s : ByteArray) (hs : s.size ≤ 1048576) : ∃ t, impl_oneLine.f s = some t ∧ Ev (fun k => spec_l06Line.f k s) t ∧ t.size ≤ s.size := by
  have e1 := fields_eq s impl_oneLine.p (fun r => rfl)
  have e2 := join_bs (Go.Lib.goFieldsP impl_oneLine.p s) 32
  rw [e1] at e2
  have hl := join_len 32 (bs s) []
  simp only [List.length_nil, Nat.add_zero] at hl
  rw [bs_length] at hl
  obtain ⟨t, ht⟩ : ∃ t : ByteArray, t = ⟨(Go.Lib.join ((Go.Lib.goFieldsP impl_oneLine.p s).map (·.data.toList)) [32]).toArray⟩ := ⟨_, rfl⟩
  have hbt : bs t = joinI 32 (fld (bs s) []) := by rw [ht]; exact e2
  have htz : t.size = (joinI 32 (fld (bs s) [])).length := by rw [← bs_length, hbt]
  refine ⟨t, ?_, ?_, by omega⟩
  · unfold impl_oneLine.f strings_Join.f
    have l1 : (Go.Lib.goFieldsP impl_oneLine.p s).length = (fld (bs s) []).length := by rw [← e1, List.length_map]
    have l2 : (Go.Lib.join ((Go.Lib.goFieldsP impl_oneLine.p s).map (·.data.toList)) [32]).length = t.size := by rw [ht, size_eq]
    rw [if_pos (by omega), if_pos ⟨by omega, by show (Go.Lib.join ((Go.Lib.goFieldsP impl_oneLine.p s).map (·.data.toList)) [32]).length ≤ _; omega⟩, ht]
  · unfold spec_l06Line.f
    have := line_loop s hs s.size (bs s) 0 [] (by rw [bs_length]; omega) (by rw [List.drop_zero]) (by simp) (by omega)
    rw [lin_fields, ← hbt, nums_back] at this
    exact this
end Go.Proofs.YteknchhlineciaaDoor.OQFnExactFeedKeys
