/- For every text the program's XmlNameOK answers as the reference's. Conditions: none. -/
import Derived.Test.YteknchhlineciaaPFnExactXmlNameOKx2
import Derived.Test.YteknchhlineciaaEvx
namespace Go.Proofs.Yteknchhlineciaa.Pure
open Go.RowKit Go.Proofs.Yteknchhlineciaa.PFnExactXmlNameOK Go.Proofs.YteknchhlineciaaW.PrintWords Go.Proofs.YteknchhlineciaaW.PrintLast
set_option linter.unusedSimpArgs false
set_option linter.unusedVariables false

theorem within_eq (a b c : Int) : impl_within.f a b c = some (decide (b ≤ a ∧ a ≤ c)) := by
  unfold impl_within.f
  split <;> simp <;> omega
theorem in_eq (a b c : Int) : spec_l01In.f a b c = some (decide (b ≤ a ∧ a ≤ c)) := by
  unfold spec_l01In.f
  split <;> simp <;> omega
/-- A letter or the low line. -/
def let_ (c : Int) : Bool := decide ((97 ≤ c ∧ c ≤ 122) ∨ (65 ≤ c ∧ c ≤ 90) ∨ c = 95)
/-- What else may stand behind it. -/
def mor (c : Int) : Bool := decide ((48 ≤ c ∧ c ≤ 57) ∨ c = 45 ∨ c = 46 ∨ c = 58)
theorem letter1 (c : Int) : spec_l05Letter.f c = some (let_ c) := by
  unfold spec_l05Letter.f let_
  repeat' split
  all_goals (apply congrArg some; rw [Bool.eq_iff_iff]; simp only [decide_eq_true_eq, beq_iff_eq, true_iff, iff_true]; omega)
theorem more1 (c : Int) : spec_l05More.f c = some (mor c) := by
  unfold spec_l05More.f mor
  repeat' split
  all_goals (apply congrArg some; rw [Bool.eq_iff_iff]; simp only [decide_eq_true_eq, beq_iff_eq, true_iff, iff_true]; omega)
theorem letter2 (c : Int) : impl_isLetter.f c = some (decide ((97 ≤ c ∧ c ≤ 122) ∨ (65 ≤ c ∧ c ≤ 90))) := by
  unfold impl_isLetter.f
  repeat' split
  all_goals (apply congrArg some; rw [Bool.eq_iff_iff]; simp only [decide_eq_true_eq, beq_iff_eq, true_iff, iff_true, Bool.false_eq_true, false_iff]; omega)
theorem digit2 (c : Int) : impl_isDigit.f c = some (decide (48 ≤ c ∧ c ≤ 57)) := by
  unfold impl_isDigit.f
  split <;> simp <;> omega
theorem name2 (c : Int) : impl_nameByte.f c = some (let_ c || mor c) := by
  unfold impl_nameByte.f let_ mor
  simp only [letter2, digit2, Option.bind_some]
  repeat' split
  all_goals (apply congrArg some; rw [Bool.eq_iff_iff]; simp only [decide_eq_true_eq, Bool.or_eq_true, beq_iff_eq, true_iff, iff_true] at *; omega)
/-- All of d bytes from i on may stand in a name. -/
def okFrom (s : ByteArray) : Int → Nat → Bool
  | _, 0 => true
  | i, d + 1 => (let_ (bt s i) || mor (bt s i)) && okFrom s (i + 1) d
/-- Where the bytes that may stand in a name end. -/
def runLen (s : ByteArray) : Int → Nat → Int
  | i, 0 => i
  | i, d + 1 => if (let_ (bt s i) || mor (bt s i)) = true then runLen s (i + 1) d else i
theorem runLen_le (s : ByteArray) (d : Nat) : ∀ i : Int, i ≤ runLen s i d ∧ runLen s i d ≤ i + d := by
  induction d with
  | zero => intro i; simp [runLen]
  | succ d ih =>
    intro i
    have := ih (i + 1)
    simp only [runLen]
    split <;> omega
theorem runLen_all (s : ByteArray) (d : Nat) : ∀ i : Int, runLen s i d = i + d ↔ okFrom s i d = true := by
  induction d with
  | zero => intro i; simp [runLen, okFrom]
  | succ d ih =>
    intro i
    have hi := ih (i + 1)
    have hr := runLen_le s d (i + 1)
    by_cases h : (let_ (bt s i) || mor (bt s i)) = true
    · have e : runLen s i (d + 1) = runLen s (i + 1) d := by rw [runLen, if_pos h]
      have e2 : okFrom s i (d + 1) = okFrom s (i + 1) d := by rw [okFrom, h, Bool.true_and]
      rw [e, e2, ← hi]; omega
    · have h' : (let_ (bt s i) || mor (bt s i)) = false := by simpa using h
      have e : runLen s i (d + 1) = i := by rw [runLen, if_neg h]
      have e2 : okFrom s i (d + 1) = false := by rw [okFrom, h', Bool.false_and]
      rw [e, e2]; simp; omega
/-- What both sides answer. -/
def good (s : ByteArray) : Bool := decide (1 ≤ (s.size : Int) ∧ (s.size : Int) ≤ 40) && (let_ (bt s 0) && okFrom s 1 (s.size - 1))
theorem spec_loop (s : ByteArray) (hs : s.size ≤ 140737488351232) (d : Nat) : ∀ i : Int, 1 ≤ i → (s.size : Int) - i = d → Ev (fun k => spec_XmlNameOK.l0 k s i) (okFrom s i d) := by
  induction d with
  | zero =>
    intro i h0 hd
    refine Ev.step (fun k => by rw [spec_XmlNameOK.l0]) ?_
    exact Evx.neg (by omega) (Ev.now _)
  | succ d ih =>
    intro i h0 hd
    refine Ev.step (fun k => by rw [spec_XmlNameOK.l0]) ?_
    refine Evx.pos (by omega) (Evx.pos (by omega) (Evx.bindc (letter1 _) ?_))
    have next := ih (i + 1) (by omega) (by omega)
    rw [Evx.w64 (by omega) (by omega)]
    simp only [okFrom]
    refine Evx.ite (fun h => ?_) (fun h => Evx.neg (by omega) (Evx.bindc (more1 _) (Evx.ite (fun h2 => ?_) (fun h2 => ?_))))
    · rw [h]; simpa using next
    · rw [h2]; simpa using next
    · exact Evx.eq (Ev.now _) (by simp [h, h2])
theorem at_loop (s : ByteArray) (hs : s.size ≤ 140737488351232) (d : Nat) : ∀ i : Int, 0 ≤ i → (s.size : Int) - i = d → Ev (fun k => impl_nameAt.l0 k s i) (s.extract 0 (runLen s i d).toNat) := by
  induction d with
  | zero =>
    intro i h0 hd
    refine Ev.step (fun k => by rw [impl_nameAt.l0]) ?_
    exact Evx.neg (by omega) (Evx.pos h0 (Evx.pos (by omega) (Ev.now _)))
  | succ d ih =>
    intro i h0 hd
    refine Ev.step (fun k => by rw [impl_nameAt.l0]) ?_
    refine Evx.pos (by omega) (Evx.pos (by omega) (Evx.bindc (name2 _) ?_))
    have next := ih (i + 1) (by omega) (by omega)
    rw [Evx.w64 (by omega) (by omega)]
    simp only [runLen]
    refine Evx.ite (fun h => ?_) (fun h => ?_)
    · rw [if_pos h]; exact next
    · rw [if_neg h]; exact Evx.pos (by omega) (Ev.now _)

theorem FnExactXmlNameOK : laws_FnExactXmlNameOK.Pure := by
  intro s hs
  refine Ev.rounds (g := fun k => laws_FnExactXmlNameOK.f k s) ?_
  unfold laws_FnExactXmlNameOK.f
  refine Evx.ite (fun _ => Ev.now _) (fun hl => ?_)
  have hsz : (s.size : Int) ≤ 1048576 := by omega
  have k1 : Ev (fun k => spec_XmlNameOK.f k s) (good s) := by
    unfold spec_XmlNameOK.f good
    refine Evx.ite (fun h => Evx.eq (Ev.now _) (by simp; omega)) (fun h => Evx.bindc (in_eq _ _ _) ?_)
    by_cases hd : 1 ≤ (s.size : Int) ∧ (s.size : Int) ≤ 40
    · refine Evx.pos (by simpa using hd) ?_
      rw [decide_eq_true hd, Bool.true_and]
      obtain ⟨d, hd2⟩ : ∃ d, s.size = d + 1 := ⟨s.size - 1, by omega⟩
      refine Ev.step (fun k => by rw [spec_XmlNameOK.l0]) ?_
      refine Evx.pos (by omega) (Evx.pos (by omega) (Evx.bindc (letter1 _) ?_))
      have next := spec_loop s hs d 1 (by omega) (by omega)
      rw [Evx.w64 (by omega) (by omega), hd2]
      refine Evx.ite (fun h2 => ?_) (fun h2 => Evx.pos rfl (Evx.eq (Ev.now _) ?_))
      · rw [h2]; exact Evx.eq next (by simp)
      · have : let_ (bt s 0) = false := by simpa using h2
        rw [this]; rfl
    · refine Evx.neg (by simpa using hd) (Evx.eq (Ev.now _) ?_)
      rw [decide_eq_false hd]; rfl
  have k2 : Ev (fun k => impl_XmlNameOK.f k s) (good s) := by
    unfold impl_XmlNameOK.f good
    refine Evx.bindc (within_eq _ _ _) ?_
    by_cases hd : 1 ≤ (s.size : Int) ∧ (s.size : Int) ≤ 40
    · refine Evx.pos (by simpa using hd) (Evx.pos (by omega) (Evx.bindc (letter2 _) ?_))
      rw [decide_eq_true hd, Bool.true_and]
      obtain ⟨d, hd2⟩ : ∃ d, s.size = d + 1 := ⟨s.size - 1, by omega⟩
      have na : Ev (fun k => impl_nameAt.f k s) (s.extract 0 (runLen s 0 s.size).toNat) := by
        unfold impl_nameAt.f
        exact at_loop s hs s.size 0 (by omega) (by omega)
      have hr := runLen_le s s.size 0
      have hrs : ((s.extract 0 (runLen s 0 s.size).toNat).size : Int) = runLen s 0 s.size := by
        rw [ByteArray.size_extract]; omega
      have hall : let_ (bt s 0) = true → okFrom s 0 s.size = okFrom s 1 (s.size - 1) := by
        intro h; rw [hd2]; simp [okFrom, h]
      have fin : let_ (bt s 0) = true → Ev (fun k => (impl_nameAt.f k s).bind fun t109 => (some ((t109.size : Int) == (s.size : Int)))) (let_ (bt s 0) && okFrom s 1 (s.size - 1)) := by
        intro h
        refine Ev.bind na (Evx.eq (Ev.now _) ?_)
        have hr2 : (((s.extract 0 (runLen s 0 s.size).toNat).size : Int) == (s.size : Int)) = okFrom s 0 s.size := by
          rw [hrs, Bool.eq_iff_iff, ← runLen_all s s.size 0, beq_iff_eq]
          omega
        rw [hr2, hall h, h]; rfl
      refine Evx.ite (fun h => fin ?_) (fun h => Evx.ite (fun h2 => fin ?_) (fun h2 => Evx.eq (Ev.now _) ?_))
      · rw [decide_eq_true_eq] at h; exact decide_eq_true (by omega)
      · exact decide_eq_true (by omega)
      · rw [decide_eq_true_eq] at h
        have : let_ (bt s 0) = false := decide_eq_false (by omega)
        rw [this]; rfl
    · refine Evx.neg (by simpa using hd) (Evx.eq (Ev.now _) ?_)
      rw [decide_eq_false hd]; rfl
  refine Ev.bind k1 (Ev.bind k2 ?_)
  exact Evx.neg (by simp) (Ev.now _)

end Go.Proofs.Yteknchhlineciaa.Pure
