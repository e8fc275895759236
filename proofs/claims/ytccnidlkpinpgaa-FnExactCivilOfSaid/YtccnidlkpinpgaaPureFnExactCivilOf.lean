/- For every number the program's CivilOf answers as the reference's. Conditions: none. -/
import Derived.Test.YtccnidlkpinpgaaQFnExactCivilOfx2
import Derived.Test.YtccnidlkpinpgaaEvx
import Derived.Test.YtccnidlkpinpgaaDates
namespace Go.Proofs.Ytccnidlkpinpgaa.Pure
open Go.RowKit Go.Proofs.Ytccnidlkpinpgaa.QFnExactCivilOf Go.Proofs.YtccnidlkpinpgaaW.PrintWords Go.Proofs.YtccnidlkpinpgaaW.PrintLast
set_option linter.unusedSimpArgs false
set_option linter.unusedVariables false

open Go.Proofs.Ytccnidlkpinpgaa.Dates
theorem tmod_nn {a b : Int} (h : 0 ≤ a) : Int.tmod a b = a % b := Int.tmod_eq_emod_of_nonneg h
theorem tdiv_nn {a b : Int} (h : 0 ≤ a) : Int.tdiv a b = a / b := Int.tdiv_eq_ediv_of_nonneg h
theorem leap1 {y : Int} (h : 0 ≤ y) : spec_l04Leap.f y = some (lp y) := by
  unfold spec_l04Leap.f lp
  rw [tmod_nn h, tmod_nn h, tmod_nn h]
  repeat' split
  all_goals (apply congrArg some; rw [Bool.eq_iff_iff]; simp only [decide_eq_true_eq, beq_iff_eq, true_iff, iff_true, Bool.false_eq_true, false_iff]; omega)
theorem leap2 {y : Int} (h : 0 ≤ y) : impl_leap.f y = some (lp y) := by
  unfold impl_leap.f lp
  rw [tmod_nn h, tmod_nn h, tmod_nn h]
  repeat' split
  all_goals (apply congrArg some; rw [Bool.eq_iff_iff]; simp only [decide_eq_true_eq, beq_iff_eq, true_iff, iff_true, Bool.false_eq_true, false_iff]; omega)
theorem bit1 (b : Bool) : spec_l01Bit.f b = some (if b = true then 1 else 0) := by
  unfold spec_l01Bit.f
  split <;> rfl
theorem days1 {y : Int} (m : Int) (h : 0 ≤ y) : spec_l04Days.f y m = some (dm y m) := by
  unfold spec_l04Days.f dm
  rw [leap1 h]
  simp only [Option.bind_some, bit1]
  by_cases h2 : m = 2
  · rw [if_pos h2, if_pos h2]
    cases lp y
    · exact congrArg some (Evx.w64 (i := 28 + 0) (by omega) (by omega))
    · exact congrArg some (Evx.w64 (i := 28 + 1) (by omega) (by omega))
  · rw [if_neg h2, if_neg h2]
    repeat' split
    all_goals first | rfl | omega
theorem days2 {y : Int} (m : Int) (h : 0 ≤ y) : impl_daysOf.f y m = some (dm y m) := by
  unfold impl_daysOf.f dm
  rw [leap2 h]
  simp only [Option.bind_some]
  by_cases h2 : m = 2
  · rw [if_pos h2, if_pos h2]
    cases lp y <;> rfl
  · rw [if_neg h2, if_neg h2]
    repeat' split
    all_goals first | rfl | omega
theorem ydays2 {y : Int} (h : 0 ≤ y) : impl_yearDays.f y = some (yl y) := by
  unfold impl_yearDays.f yl
  rw [leap2 h]
  simp only [Option.bind_some]
  split <;> rfl
theorem within_eq (a b c : Int) : impl_within.f a b c = some (decide (b ≤ a ∧ a ≤ c)) := by
  unfold impl_within.f
  split <;> simp <;> omega
theorem in_eq (a b c : Int) : spec_l01In.f a b c = some (decide (b ≤ a ∧ a ≤ c)) := by
  unfold spec_l01In.f
  split <;> simp <;> omega
theorem spec_months {y c3 c4 c5 c2 : Int} (hy : 0 ≤ y ∧ y ≤ 10000) (n : Nat) : ∀ d m : Int, 0 ≤ d → d < 28 * n → d ≤ 100000 → 0 ≤ m → m ≤ 10000 - n → Ev (fun k => spec_l04Civil.l1 k d y m c2 c3 c4 c5) (y, (months n d y m).2, (months n d y m).1 + 1, c3, c4, c5) := by
  induction n with
  | zero => intro d m h0 h1; omega
  | succ n ih =>
    intro d m h0 h1 h2 h3 h4
    have hd := dm_range y m
    refine Ev.step (fun k => by rw [spec_l04Civil.l1]) ?_
    refine Evx.bindc (days1 m hy.1) (Evx.ite (fun a => Evx.bindc (days1 m hy.1) ?_) (fun a => ?_))
    · rw [Evx.w64 (i := d - dm y m) (by omega) (by omega), Evx.w64 (i := m + 1) (by omega) (by omega)]
      simp only [months]
      rw [if_pos a]
      exact ih _ _ (by omega) (by omega) (by omega) (by omega) (by omega)
    · rw [Evx.w64 (i := d + 1) (by omega) (by omega)]
      simp only [months]
      rw [if_neg a]
      exact Ev.now _
theorem impl_months {y c3 c4 c5 c2 : Int} (hy : 0 ≤ y ∧ y ≤ 10000) (n : Nat) : ∀ d m : Int, 0 ≤ d → d < 28 * n → d ≤ 100000 → 0 ≤ m → m ≤ 10000 - n → Ev (fun k => impl_civilOf.l1 k d y m c2 c3 c4 c5) (y, (months n d y m).2, (months n d y m).1 + 1, c3, c4, c5) := by
  induction n with
  | zero => intro d m h0 h1; omega
  | succ n ih =>
    intro d m h0 h1 h2 h3 h4
    have hd := dm_range y m
    refine Ev.step (fun k => by rw [impl_civilOf.l1]) ?_
    refine Evx.bindc (days2 m hy.1) (Evx.ite (fun a => Evx.bindc (days2 m hy.1) ?_) (fun a => ?_))
    · rw [Evx.w64 (i := d - dm y m) (by omega) (by omega), Evx.w64 (i := m + 1) (by omega) (by omega)]
      simp only [months]
      rw [if_pos a]
      exact ih _ _ (by omega) (by omega) (by omega) (by omega) (by omega)
    · rw [Evx.w64 (i := d + 1) (by omega) (by omega)]
      simp only [months]
      rw [if_neg a]
      exact Ev.now _
/-- What is left of a whole number of days, told by a bound on the rounds. -/
def full (n : Nat) (d y c3 c4 c5 : Int) : Int × Int × Int × Int × Int × Int :=
  ((years n d y).2, (months 20 (years n d y).1 (years n d y).2 1).2, (months 20 (years n d y).1 (years n d y).2 1).1 + 1, c3, c4, c5)
theorem spec_years {c3 c4 c5 c2 : Int} (n : Nat) : ∀ d y : Int, 0 ≤ d → d < 365 * n → d ≤ 100000 → 0 ≤ y → y ≤ 10000 - n → Ev (fun k => spec_l04Civil.l0 k d y 1 c2 c3 c4 c5) (full n d y c3 c4 c5) := by
  induction n with
  | zero => intro d y h0 h1; omega
  | succ n ih =>
    intro d y h0 h1 h2 h3 h4
    have hy := yl_range y
    have e : wrap64 (365 + (if lp y = true then 1 else 0)) = yl y := by unfold yl wrap64; split <;> rfl
    refine Ev.step (fun k => by rw [spec_l04Civil.l0]) ?_
    refine Evx.bindc (leap1 h3) (Evx.bindc (bit1 _) ?_)
    rw [e]
    clear e
    refine Evx.ite (fun a => Evx.bindc (leap1 h3) (Evx.bindc (bit1 _) ?_)) (fun a => ?_)
    · have e : wrap64 (365 + (if lp y = true then 1 else 0)) = yl y := by unfold yl wrap64; split <;> rfl
      rw [e]
      clear e
      rw [Evx.w64 (i := d - yl y) (by omega) (by omega), Evx.w64 (i := y + 1) (by omega) (by omega)]
      simp only [full, years]
      rw [if_pos a]
      exact ih _ _ (by omega) (by omega) (by omega) (by omega) (by omega)
    · simp only [full, years]
      rw [if_neg a]
      exact spec_months ⟨h3, by omega⟩ 20 d 1 h0 (by omega) h2 (by omega) (by omega)
theorem impl_years {c3 c4 c5 c2 : Int} (n : Nat) : ∀ d y : Int, 0 ≤ d → d < 365 * n → d ≤ 100000 → 0 ≤ y → y ≤ 10000 - n → Ev (fun k => impl_civilOf.l0 k d y 1 c2 c3 c4 c5) (full n d y c3 c4 c5) := by
  induction n with
  | zero => intro d y h0 h1; omega
  | succ n ih =>
    intro d y h0 h1 h2 h3 h4
    have hy := yl_range y
    refine Ev.step (fun k => by rw [impl_civilOf.l0]) ?_
    refine Evx.bindc (ydays2 h3) (Evx.ite (fun a => Evx.bindc (ydays2 h3) ?_) (fun a => ?_))
    · rw [Evx.w64 (i := d - yl y) (by omega) (by omega), Evx.w64 (i := y + 1) (by omega) (by omega)]
      simp only [full, years]
      rw [if_pos a]
      exact ih _ _ (by omega) (by omega) (by omega) (by omega) (by omega)
    · simp only [full, years]
      rw [if_neg a]
      exact impl_months ⟨h3, by omega⟩ 20 d 1 h0 (by omega) h2 (by omega) (by omega)
theorem full_civ (s : Int) : full 200 (s / 86400) 1970 (s % 86400 / 3600) (s / 60 % 60) (s % 60) = civ s := rfl
theorem spec_civ {s : Int} (h : 0 ≤ s ∧ s ≤ 4102444799) : Ev (fun k => spec_l04Civil.f k s) (civ s) := by
  unfold spec_l04Civil.f
  rw [tdiv_nn h.1, tdiv_nn h.1, tdiv_nn h.1, tmod_nn h.1, Evx.w64 (i := s / 86400) (by omega) (by omega), Evx.w64 (i := s / 3600) (by omega) (by omega), Evx.w64 (i := s / 60) (by omega) (by omega), tmod_nn (a := s / 3600) (by omega), tmod_nn (a := s / 60) (by omega)]
  rw [← full_civ, show s / 3600 % 24 = s % 86400 / 3600 by omega]
  exact spec_years 200 _ _ (by omega) (by omega) (by omega) (by omega) (by omega)
theorem impl_civ {s : Int} (h : 0 ≤ s ∧ s ≤ 4102444799) : Ev (fun k => impl_civilOf.f k s) (civ s) := by
  unfold impl_civilOf.f
  rw [tdiv_nn h.1, tmod_nn (a := s) h.1, tmod_nn (a := s) h.1, tdiv_nn (a := s % 86400) (by omega), tdiv_nn (a := s % 86400) (by omega), Evx.w64 (i := s / 86400) (by omega) (by omega), Evx.w64 (i := s % 86400 / 3600) (by omega) (by omega), Evx.w64 (i := s % 86400 / 60) (by omega) (by omega), tmod_nn (a := s % 86400 / 60) (by omega)]
  rw [← full_civ, show s % 86400 / 60 % 60 = s / 60 % 60 by omega]
  exact impl_years 200 _ _ (by omega) (by omega) (by omega) (by omega) (by omega)
/-- What both sides answer. -/
def ans (s : Int) : Int × Int × Int × Int × Int × Int × Int := if 0 ≤ s ∧ s ≤ 4102444799 then ((civ s).1, (civ s).2.1, (civ s).2.2.1, (civ s).2.2.2.1, (civ s).2.2.2.2.1, (civ s).2.2.2.2.2, 0) else (0, 0, 0, 0, 0, 0, 4)

theorem FnExactCivilOf : laws_FnExactCivilOf.Pure := by
  intro s hw
  refine Ev.rounds (g := fun k => laws_FnExactCivilOf.f k s) ?_
  unfold laws_FnExactCivilOf.f
  have k1 : Ev (fun k => spec_CivilOf.f k s) (ans s) := by
    unfold spec_CivilOf.f ans
    refine Evx.bindc (in_eq _ _ _) (Evx.ite (fun h => ?_) (fun h => ?_))
    · rw [decide_eq_true_eq] at h
      rw [if_pos h]; exact Ev.bind (spec_civ h) (Ev.now _)
    · rw [decide_eq_true_eq] at h
      rw [if_neg h]; exact Ev.now _
  have k2 : Ev (fun k => impl_CivilOf.f k s) (ans s) := by
    unfold impl_CivilOf.f impl_isStamp.f ans
    refine Evx.bindc (by rw [within_eq]; rfl) (Evx.ite (fun h => ?_) (fun h => ?_))
    · rw [decide_eq_true_eq] at h
      rw [if_pos h]; exact Ev.bind (impl_civ h) (Ev.now _)
    · rw [decide_eq_true_eq] at h
      rw [if_neg h]; exact Ev.now _
  refine Ev.bind k1 (Ev.bind k2 ?_)
  have e : ∀ a b c d e f : Int, laws_eqCivil.f a b c d e f a b c d e f = some true := by
    intro a b c d e f
    unfold laws_eqCivil.f
    rw [if_pos rfl, if_pos rfl, if_pos rfl, if_pos rfl, if_pos rfl, if_pos rfl]
  exact Evx.bindc (e _ _ _ _ _ _) (Evx.pos rfl (Evx.pos rfl (Ev.now _)))

end Go.Proofs.Ytccnidlkpinpgaa.Pure
