/- For every day and clock the program's CivilOK answers as the reference's. Conditions: none. -/
import Derived.Test.YtccnidlkpinpgaaQFnExactCivilOKx
import Derived.Test.YtccnidlkpinpgaaDates
namespace Go.Proofs.Ytccnidlkpinpgaa.Pure
open Go.RowKit Go.Proofs.Ytccnidlkpinpgaa.QFnExactCivilOK Go.Proofs.YtccnidlkpinpgaaW.PrintWords Go.Proofs.YtccnidlkpinpgaaW.PrintLast Go.Proofs.YtccnidlkpinpgaaW.PrintMore
set_option linter.unusedSimpArgs false
set_option linter.unusedVariables false
open Go.Proofs.Ytccnidlkpinpgaa.Dates
theorem tmod_nn {a b : Int} (h : 0 ≤ a) : Int.tmod a b = a % b := Int.tmod_eq_emod_of_nonneg h
theorem tdiv_nn {a b : Int} (h : 0 ≤ a) : Int.tdiv a b = a / b := Int.tdiv_eq_ediv_of_nonneg h
theorem leap1 {y : Int} (h : 0 ≤ y) : spec_l04Leap.f y = some (lp y) := by
  unfold spec_l04Leap.f lp
  rw [tmod_nn h, tmod_nn h, tmod_nn h]
  repeat' split
  all_goals (apply congrArg some; rw [Bool.eq_iff_iff]; simp only [decide_eq_true_eq, beq_iff_eq, true_iff, iff_true, Bool.false_eq_true, false_iff]; omega)
theorem leap2 {y : Int} (h : 0 ≤ y) : impl_leap.f y = some (lp y) := by
  unfold impl_leap.f lp
  rw [tmod_nn h, tmod_nn h, tmod_nn h]
  repeat' split
  all_goals (apply congrArg some; rw [Bool.eq_iff_iff]; simp only [decide_eq_true_eq, beq_iff_eq, true_iff, iff_true, Bool.false_eq_true, false_iff]; omega)
theorem bit1 (b : Bool) : spec_l01Bit.f b = some (if b = true then 1 else 0) := by
  unfold spec_l01Bit.f
  split <;> rfl
theorem days1 {y : Int} (m : Int) (h : 0 ≤ y) : spec_l04Days.f y m = some (dm y m) := by
  unfold spec_l04Days.f dm
  rw [leap1 h]
  simp only [Option.bind_some, bit1]
  by_cases h2 : m = 2
  · rw [if_pos h2, if_pos h2]
    cases lp y
    · exact congrArg some (Evx.w64 (i := 28 + 0) (by omega) (by omega))
    · exact congrArg some (Evx.w64 (i := 28 + 1) (by omega) (by omega))
  · rw [if_neg h2, if_neg h2]
    repeat' split
    all_goals first | rfl | omega
theorem days2 {y : Int} (m : Int) (h : 0 ≤ y) : impl_daysOf.f y m = some (dm y m) := by
  unfold impl_daysOf.f dm
  rw [leap2 h]
  simp only [Option.bind_some]
  by_cases h2 : m = 2
  · rw [if_pos h2, if_pos h2]
    cases lp y <;> rfl
  · rw [if_neg h2, if_neg h2]
    repeat' split
    all_goals first | rfl | omega
theorem within_eq (a b c : Int) : impl_within.f a b c = some (decide (b ≤ a ∧ a ≤ c)) := by
  unfold impl_within.f
  split <;> simp <;> omega
theorem in_eq (a b c : Int) : spec_l01In.f a b c = some (decide (b ≤ a ∧ a ≤ c)) := by
  unfold spec_l01In.f
  split <;> simp <;> omega
theorem spec_ok (y m d h i s : Int) : spec_CivilOK.f y m d h i s = some (okc y m d h i s) := by
  unfold spec_CivilOK.f okc
  simp only [in_eq, Option.bind_some]
  by_cases h1 : 1970 ≤ y ∧ y ≤ 2099
  · by_cases h2 : 1 ≤ m ∧ m ≤ 12
    · rw [if_pos (decide_eq_true h1), if_pos (decide_eq_true h2), days1 m (by omega)]
      simp only [Option.bind_some]
      by_cases h3 : 1 ≤ d ∧ d ≤ dm y m
      · by_cases h4 : 0 ≤ h ∧ h ≤ 23
        · by_cases h5 : 0 ≤ i ∧ i ≤ 59
          · simp [h1, h2, h3, h4, h5]
          · simp [h3, h4, h5]
        · simp [h3, h4]
      · simp [h3]
    · simp [h1, h2]
  · simp [h1]
theorem impl_ok (y m d h i s : Int) : Ev (fun k => impl_CivilOK.f k y m d h i s) (okc y m d h i s) := by
  unfold impl_CivilOK.f okc
  refine Evx.bindc (within_eq _ _ _) (Evx.ite (fun a => ?_) (fun a => ?_))
  · rw [decide_eq_true_eq] at a
    refine Evx.bindc (within_eq _ _ _) (Evx.ite (fun b => ?_) (fun b => ?_))
    · rw [decide_eq_true_eq] at b
      refine Evx.bindc (days2 m (by omega)) (Evx.bindc (within_eq _ _ _) ?_)
      refine Ev.step (fun k => by rw [impl_CivilOK.j0]) ?_
      by_cases h3 : 1 ≤ d ∧ d ≤ dm y m
      · refine Evx.neg (by simp [h3]) (Evx.bindc (within_eq _ _ _) (Evx.ite (fun c => ?_) (fun c => ?_)))
        · refine Evx.bindc (within_eq _ _ _) (Evx.ite (fun e => ?_) (fun e => ?_))
          · refine Evx.bindc (within_eq _ _ _) (Evx.eq (Ev.now _) ?_)
            rw [decide_eq_true_eq] at c e
            rw [Bool.eq_iff_iff]; simp only [decide_eq_true_eq]; exact ⟨fun x => ⟨a, b, h3, c, e, x⟩, fun x => x.2.2.2.2.2⟩
          · rw [decide_eq_true_eq] at e
            exact Evx.eq (Ev.now _) (decide_eq_false (fun x => e x.2.2.2.2.1)).symm
        · rw [decide_eq_true_eq] at c
          exact Evx.eq (Ev.now _) (decide_eq_false (fun x => c x.2.2.2.1)).symm
      · refine Evx.pos (by simp [h3]) (Evx.eq (Ev.now _) (decide_eq_false (fun x => h3 x.2.2.1)).symm)
    · rw [decide_eq_true_eq] at b
      refine Ev.step (fun k => by rw [impl_CivilOK.j0]) ?_
      exact Evx.pos rfl (Evx.eq (Ev.now _) (decide_eq_false (fun x => b x.2.1)).symm)
  · rw [decide_eq_true_eq] at a
    refine Ev.step (fun k => by rw [impl_CivilOK.j0]) ?_
    exact Evx.pos rfl (Evx.eq (Ev.now _) (decide_eq_false (fun x => a x.1)).symm)

theorem civilOK (x0 x1 x2 x3 x4 x5 : Int) (w0 : (Lit.int .i64 x0).wf = true) (w1 : (Lit.int .i64 x1).wf = true) (w2 : (Lit.int .i64 x2).wf = true) (w3 : (Lit.int .i64 x3).wf = true) (w4 : (Lit.int .i64 x4).wf = true) (w5 : (Lit.int .i64 x5).wf = true) : ∃ k, laws_FnExactCivilOK.f k x0 x1 x2 x3 x4 x5 = some true := by
  refine Ev.rounds (g := fun k => laws_FnExactCivilOK.f k x0 x1 x2 x3 x4 x5) ?_
  unfold laws_FnExactCivilOK.f laws_toCivil.f
  simp only [Option.bind_some, spec_ok]
  refine Ev.bind (impl_ok _ _ _ _ _ _) ?_
  exact Evx.neg (by simp) (Ev.now _)

end Go.Proofs.Ytccnidlkpinpgaa.Pure
