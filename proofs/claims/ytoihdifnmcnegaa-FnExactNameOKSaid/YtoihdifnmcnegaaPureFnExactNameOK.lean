/- For every text the program's NameOK answers as the reference's. Conditions: none. -/
import Derived.Test.YtoihdifnmcnegaaPFnExactNameOKx1
import Derived.Test.YtoihdifnmcnegaaEvx
namespace Go.Proofs.Ytoihdifnmcnegaa.Pure
open Go.RowKit Go.Proofs.Ytoihdifnmcnegaa.PFnExactNameOK Go.Proofs.YtoihdifnmcnegaaW.PrintWords Go.Proofs.YtoihdifnmcnegaaW.PrintLast
set_option linter.unusedSimpArgs false
set_option linter.unusedVariables false

theorem within_eq (a b c : Int) : impl_within.f a b c = some (decide (b ≤ a ∧ a ≤ c)) := by
  unfold impl_within.f
  split <;> simp <;> omega
/-- A letter or the low line. -/
def let_ (c : Int) : Bool := decide ((97 ≤ c ∧ c ≤ 122) ∨ (65 ≤ c ∧ c ≤ 90) ∨ c = 95)
/-- A digit. -/
def dig (c : Int) : Bool := decide (48 ≤ c ∧ c ≤ 57)
theorem let_dig (c : Int) (h : dig c = true) : let_ c = false := by
  unfold dig at h; unfold let_; simp at *; omega
theorem letter1 (c : Int) : spec_l00Letter.f c = some (let_ c) := by
  unfold spec_l00Letter.f let_
  repeat' split
  all_goals (apply congrArg some; rw [Bool.eq_iff_iff]; simp only [decide_eq_true_eq, beq_iff_eq, true_iff, iff_true]; omega)
theorem digit1 (c : Int) : spec_l00Digit.f c = some (dig c) := by
  unfold spec_l00Digit.f dig
  split <;> simp <;> omega
theorem letter2 (c : Int) : impl_isLetter.f c = some (decide ((97 ≤ c ∧ c ≤ 122) ∨ (65 ≤ c ∧ c ≤ 90))) := by
  unfold impl_isLetter.f
  repeat' split
  all_goals (apply congrArg some; rw [Bool.eq_iff_iff]; simp only [decide_eq_true_eq, beq_iff_eq, true_iff, iff_true, Bool.false_eq_true, false_iff]; omega)
theorem digit2 (c : Int) : impl_isDigit.f c = some (dig c) := by
  unfold impl_isDigit.f dig
  split <;> simp <;> omega
/-- All of d bytes from i on are letters, digits or low lines. -/
def okFrom (s : ByteArray) : Int → Nat → Bool
  | _, 0 => true
  | i, d + 1 => (let_ (bt s i) || dig (bt s i)) && okFrom s (i + 1) d
/-- What both sides answer. -/
def good (s : ByteArray) : Bool := decide (1 ≤ (s.size : Int) ∧ (s.size : Int) ≤ 40) && (let_ (bt s 0) && okFrom s 1 (s.size - 1))
theorem spec_loop (s : ByteArray) (hs : s.size ≤ 140737488351232) (d : Nat) : ∀ i : Int, 0 ≤ i → (s.size : Int) - i = d → Ev (fun k => spec_l00Word.l0 k s i) (okFrom s i d) := by
  induction d with
  | zero =>
    intro i h0 hd
    refine Ev.step (fun k => by rw [spec_l00Word.l0]) ?_
    exact Evx.neg (by omega) (Ev.now _)
  | succ d ih =>
    intro i h0 hd
    refine Ev.step (fun k => by rw [spec_l00Word.l0]) ?_
    refine Evx.pos (by omega) (Evx.pos h0 (Evx.bindc (letter1 _) ?_))
    have next := ih (i + 1) (by omega) (by omega)
    rw [Evx.w64 (by omega) (by omega)]
    simp only [okFrom]
    refine Evx.ite (fun h => ?_) (fun h => Evx.bindc (digit1 _) (Evx.ite (fun h2 => ?_) (fun h2 => ?_)))
    · rw [h]; simpa using next
    · rw [h2]; simpa using next
    · exact Evx.eq (Ev.now _) (by simp [h, h2])
theorem impl_loop (s : ByteArray) (hs : s.size ≤ 140737488351232) (d : Nat) : ∀ i : Int, 0 ≤ i → (s.size : Int) - i = d → Ev (fun k => impl_NameOK.l0 k s (s.size : Int) i) (okFrom s i d) := by
  induction d with
  | zero =>
    intro i h0 hd
    refine Ev.step (fun k => by rw [impl_NameOK.l0]) ?_
    exact Evx.neg (by omega) (Ev.now _)
  | succ d ih =>
    intro i h0 hd
    refine Ev.step (fun k => by rw [impl_NameOK.l0]) ?_
    refine Evx.pos (by omega) (Evx.pos h0 (Evx.pos (by omega) (Evx.bindc (letter2 _) ?_)))
    have next := ih (i + 1) (by omega) (by omega)
    rw [Evx.w64 (by omega) (by omega)]
    simp only [okFrom]
    refine Evx.ite (fun h => ?_) (fun h => Evx.bindc (digit2 _) (Evx.ite (fun h2 => ?_) (fun h2 => Evx.ite (fun h3 => ?_) (fun h3 => ?_))))
    · have : let_ (bt s i) = true := by unfold let_; simp at h; simp; omega
      rw [this]; simpa using next
    · rw [h2]; simpa using next
    · have : let_ (bt s i) = true := by unfold let_; simp; omega
      rw [this]; simpa using next
    · have : let_ (bt s i) = false := by unfold let_; simp at h; simp; omega
      exact Evx.eq (Ev.now _) (by simp [this, h2])

theorem FnExactNameOK : laws_FnExactNameOK.Pure := by
  intro s hs
  refine Ev.rounds (g := fun k => laws_FnExactNameOK.f k s) ?_
  unfold laws_FnExactNameOK.f
  refine Evx.ite (fun _ => Ev.now _) (fun hl => ?_)
  have key : Ev (fun k => spec_NameOK.f k s) (good s) ∧ Ev (fun k => impl_NameOK.f k s) (good s) := by
    have hsz : (s.size : Int) ≤ 1048576 := by omega
    constructor
    · unfold spec_NameOK.f
      refine Ev.bind (a := good s) ?_ (Ev.now _)
      unfold spec_l00Word.f good
      refine Evx.ite (fun h => ?_) (fun h => Evx.ite (fun h2 => ?_) (fun h2 => Evx.pos (by omega) ?_))
      · refine Ev.step (fun k => by rw [spec_l00Word.j0]) ?_
        refine Evx.pos rfl (Evx.eq (Ev.now _) ?_)
        simp; omega
      · refine Ev.step (fun k => by rw [spec_l00Word.j0]) ?_
        refine Evx.pos rfl (Evx.eq (Ev.now _) ?_)
        simp; omega
      · refine Evx.bindc (letter1 _) (Ev.step (fun k => by rw [spec_l00Word.j0]) ?_)
        have hd : decide (1 ≤ (s.size : Int) ∧ (s.size : Int) ≤ 40) = true := by simp; omega
        rw [hd]
        cases hb : let_ (bt s 0)
        · exact Evx.pos rfl (Evx.eq (Ev.now _) (by simp))
        · refine Evx.neg (by simp) (Evx.eq (spec_loop s hs (s.size - 1) 1 (by omega) (by omega)) ?_)
          simp
    · unfold impl_NameOK.f good
      refine Evx.bindc (within_eq _ _ _) ?_
      by_cases hd : decide (1 ≤ (s.size : Int) ∧ (s.size : Int) ≤ 40) = true
      · have hd' := hd
        rw [decide_eq_true_eq] at hd'
        refine Evx.pos hd (Evx.pos (by omega) (Evx.bindc (digit2 _) (Ev.step (fun k => by rw [impl_NameOK.j0]) ?_)))
        rw [hd]
        cases hb : dig (bt s 0)
        · refine Evx.neg (by simp) (Evx.eq (impl_loop s hs s.size 0 (by omega) (by omega)) ?_)
          obtain ⟨d, hd2⟩ : ∃ d, s.size = d + 1 := ⟨s.size - 1, by omega⟩
          rw [hd2]
          simp only [okFrom, hb, Bool.or_false, Bool.true_and, Nat.add_sub_cancel, Int.zero_add]
        · refine Evx.pos rfl (Evx.eq (Ev.now _) ?_)
          rw [let_dig _ hb]; simp
      · refine Evx.neg hd (Ev.step (fun k => by rw [impl_NameOK.j0]) (Evx.pos rfl (Evx.eq (Ev.now _) ?_)))
        have : decide (1 ≤ (s.size : Int) ∧ (s.size : Int) ≤ 40) = false := by simpa using hd
        rw [this]; rfl
  refine Ev.bind key.1 (Ev.bind key.2 ?_)
  exact Evx.neg (by simp) (Ev.now _)

end Go.Proofs.Ytoihdifnmcnegaa.Pure
