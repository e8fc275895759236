/- A stamp's day and clock lead back to it, and the next day is the next one of the week. Conditions: none. -/
import Derived.Test.YtccnidlkpinpgaaQFnDatesx5
import Derived.Test.YtccnidlkpinpgaaEvx
import Derived.Test.YtccnidlkpinpgaaDates
import Derived.Test.YtccnidlkpinpgaaSrs
namespace Go.Proofs.Ytccnidlkpinpgaa.Pure
open Go.RowKit Go.Proofs.Ytccnidlkpinpgaa.QFnDates Go.Proofs.YtccnidlkpinpgaaW.PrintWords Go.Proofs.YtccnidlkpinpgaaW.PrintLast
set_option linter.unusedSimpArgs false
set_option linter.unusedVariables false

open Go.Proofs.Ytccnidlkpinpgaa.Dates
open Go.Proofs.Ytccnidlkpinpgaa.SQFnDates
theorem tmod_nn {a b : Int} (h : 0 ≤ a) : Int.tmod a b = a % b := Int.tmod_eq_emod_of_nonneg h
theorem tdiv_nn {a b : Int} (h : 0 ≤ a) : Int.tdiv a b = a / b := Int.tdiv_eq_ediv_of_nonneg h
theorem leap1 {y : Int} (h : 0 ≤ y) : spec_l04Leap.f y = some (lp y) := by
  unfold spec_l04Leap.f lp
  rw [tmod_nn h, tmod_nn h, tmod_nn h]
  repeat' split
  all_goals (apply congrArg some; rw [Bool.eq_iff_iff]; simp only [decide_eq_true_eq, beq_iff_eq, true_iff, iff_true, Bool.false_eq_true, false_iff]; omega)
theorem leap2 {y : Int} (h : 0 ≤ y) : impl_leap.f y = some (lp y) := by
  unfold impl_leap.f lp
  rw [tmod_nn h, tmod_nn h, tmod_nn h]
  repeat' split
  all_goals (apply congrArg some; rw [Bool.eq_iff_iff]; simp only [decide_eq_true_eq, beq_iff_eq, true_iff, iff_true, Bool.false_eq_true, false_iff]; omega)
theorem bit1 (b : Bool) : spec_l01Bit.f b = some (if b = true then 1 else 0) := by
  unfold spec_l01Bit.f
  split <;> rfl
theorem days1 {y : Int} (m : Int) (h : 0 ≤ y) : spec_l04Days.f y m = some (dm y m) := by
  unfold spec_l04Days.f dm
  rw [leap1 h]
  simp only [Option.bind_some, bit1]
  by_cases h2 : m = 2
  · rw [if_pos h2, if_pos h2]
    cases lp y
    · exact congrArg some (Evx.w64 (i := 28 + 0) (by omega) (by omega))
    · exact congrArg some (Evx.w64 (i := 28 + 1) (by omega) (by omega))
  · rw [if_neg h2, if_neg h2]
    repeat' split
    all_goals first | rfl | omega
theorem days2 {y : Int} (m : Int) (h : 0 ≤ y) : impl_daysOf.f y m = some (dm y m) := by
  unfold impl_daysOf.f dm
  rw [leap2 h]
  simp only [Option.bind_some]
  by_cases h2 : m = 2
  · rw [if_pos h2, if_pos h2]
    cases lp y <;> rfl
  · rw [if_neg h2, if_neg h2]
    repeat' split
    all_goals first | rfl | omega
theorem ydays2 {y : Int} (h : 0 ≤ y) : impl_yearDays.f y = some (yl y) := by
  unfold impl_yearDays.f yl
  rw [leap2 h]
  simp only [Option.bind_some]
  split <;> rfl
theorem within_eq (a b c : Int) : impl_within.f a b c = some (decide (b ≤ a ∧ a ≤ c)) := by
  unfold impl_within.f
  split <;> simp <;> omega
theorem in_eq (a b c : Int) : spec_l01In.f a b c = some (decide (b ≤ a ∧ a ≤ c)) := by
  unfold spec_l01In.f
  split <;> simp <;> omega
theorem spec_months {y c3 c4 c5 c2 : Int} (hy : 0 ≤ y ∧ y ≤ 10000) (n : Nat) : ∀ d m : Int, 0 ≤ d → d < 28 * n → d ≤ 100000 → 0 ≤ m → m ≤ 10000 - n → Ev (fun k => spec_l04Civil.l1 k d y m c2 c3 c4 c5) (y, (months n d y m).2, (months n d y m).1 + 1, c3, c4, c5) := by
  induction n with
  | zero => intro d m h0 h1; omega
  | succ n ih =>
    intro d m h0 h1 h2 h3 h4
    have hd := dm_range y m
    refine Ev.step (fun k => by rw [spec_l04Civil.l1]) ?_
    refine Evx.bindc (days1 m hy.1) (Evx.ite (fun a => Evx.bindc (days1 m hy.1) ?_) (fun a => ?_))
    · rw [Evx.w64 (i := d - dm y m) (by omega) (by omega), Evx.w64 (i := m + 1) (by omega) (by omega)]
      simp only [months]
      rw [if_pos a]
      exact ih _ _ (by omega) (by omega) (by omega) (by omega) (by omega)
    · rw [Evx.w64 (i := d + 1) (by omega) (by omega)]
      simp only [months]
      rw [if_neg a]
      exact Ev.now _
theorem impl_months {y c3 c4 c5 c2 : Int} (hy : 0 ≤ y ∧ y ≤ 10000) (n : Nat) : ∀ d m : Int, 0 ≤ d → d < 28 * n → d ≤ 100000 → 0 ≤ m → m ≤ 10000 - n → Ev (fun k => impl_civilOf.l1 k d y m c2 c3 c4 c5) (y, (months n d y m).2, (months n d y m).1 + 1, c3, c4, c5) := by
  induction n with
  | zero => intro d m h0 h1; omega
  | succ n ih =>
    intro d m h0 h1 h2 h3 h4
    have hd := dm_range y m
    refine Ev.step (fun k => by rw [impl_civilOf.l1]) ?_
    refine Evx.bindc (days2 m hy.1) (Evx.ite (fun a => Evx.bindc (days2 m hy.1) ?_) (fun a => ?_))
    · rw [Evx.w64 (i := d - dm y m) (by omega) (by omega), Evx.w64 (i := m + 1) (by omega) (by omega)]
      simp only [months]
      rw [if_pos a]
      exact ih _ _ (by omega) (by omega) (by omega) (by omega) (by omega)
    · rw [Evx.w64 (i := d + 1) (by omega) (by omega)]
      simp only [months]
      rw [if_neg a]
      exact Ev.now _
/-- What is left of a whole number of days, told by a bound on the rounds. -/
def full (n : Nat) (d y c3 c4 c5 : Int) : Int × Int × Int × Int × Int × Int :=
  ((years n d y).2, (months 20 (years n d y).1 (years n d y).2 1).2, (months 20 (years n d y).1 (years n d y).2 1).1 + 1, c3, c4, c5)
theorem spec_years {c3 c4 c5 c2 : Int} (n : Nat) : ∀ d y : Int, 0 ≤ d → d < 365 * n → d ≤ 100000 → 0 ≤ y → y ≤ 10000 - n → Ev (fun k => spec_l04Civil.l0 k d y 1 c2 c3 c4 c5) (full n d y c3 c4 c5) := by
  induction n with
  | zero => intro d y h0 h1; omega
  | succ n ih =>
    intro d y h0 h1 h2 h3 h4
    have hy := yl_range y
    have e : wrap64 (365 + (if lp y = true then 1 else 0)) = yl y := by unfold yl wrap64; split <;> rfl
    refine Ev.step (fun k => by rw [spec_l04Civil.l0]) ?_
    refine Evx.bindc (leap1 h3) (Evx.bindc (bit1 _) ?_)
    rw [e]
    clear e
    refine Evx.ite (fun a => Evx.bindc (leap1 h3) (Evx.bindc (bit1 _) ?_)) (fun a => ?_)
    · have e : wrap64 (365 + (if lp y = true then 1 else 0)) = yl y := by unfold yl wrap64; split <;> rfl
      rw [e]
      clear e
      rw [Evx.w64 (i := d - yl y) (by omega) (by omega), Evx.w64 (i := y + 1) (by omega) (by omega)]
      simp only [full, years]
      rw [if_pos a]
      exact ih _ _ (by omega) (by omega) (by omega) (by omega) (by omega)
    · simp only [full, years]
      rw [if_neg a]
      exact spec_months ⟨h3, by omega⟩ 20 d 1 h0 (by omega) h2 (by omega) (by omega)
theorem impl_years {c3 c4 c5 c2 : Int} (n : Nat) : ∀ d y : Int, 0 ≤ d → d < 365 * n → d ≤ 100000 → 0 ≤ y → y ≤ 10000 - n → Ev (fun k => impl_civilOf.l0 k d y 1 c2 c3 c4 c5) (full n d y c3 c4 c5) := by
  induction n with
  | zero => intro d y h0 h1; omega
  | succ n ih =>
    intro d y h0 h1 h2 h3 h4
    have hy := yl_range y
    refine Ev.step (fun k => by rw [impl_civilOf.l0]) ?_
    refine Evx.bindc (ydays2 h3) (Evx.ite (fun a => Evx.bindc (ydays2 h3) ?_) (fun a => ?_))
    · rw [Evx.w64 (i := d - yl y) (by omega) (by omega), Evx.w64 (i := y + 1) (by omega) (by omega)]
      simp only [full, years]
      rw [if_pos a]
      exact ih _ _ (by omega) (by omega) (by omega) (by omega) (by omega)
    · simp only [full, years]
      rw [if_neg a]
      exact impl_months ⟨h3, by omega⟩ 20 d 1 h0 (by omega) h2 (by omega) (by omega)
theorem full_civ (s : Int) : full 200 (s / 86400) 1970 (s % 86400 / 3600) (s / 60 % 60) (s % 60) = civ s := rfl
theorem spec_civ {s : Int} (h : 0 ≤ s ∧ s ≤ 4102444799) : Ev (fun k => spec_l04Civil.f k s) (civ s) := by
  unfold spec_l04Civil.f
  rw [tdiv_nn h.1, tdiv_nn h.1, tdiv_nn h.1, tmod_nn h.1, Evx.w64 (i := s / 86400) (by omega) (by omega), Evx.w64 (i := s / 3600) (by omega) (by omega), Evx.w64 (i := s / 60) (by omega) (by omega), tmod_nn (a := s / 3600) (by omega), tmod_nn (a := s / 60) (by omega)]
  rw [← full_civ, show s / 3600 % 24 = s % 86400 / 3600 by omega]
  exact spec_years 200 _ _ (by omega) (by omega) (by omega) (by omega) (by omega)
theorem impl_civ {s : Int} (h : 0 ≤ s ∧ s ≤ 4102444799) : Ev (fun k => impl_civilOf.f k s) (civ s) := by
  unfold impl_civilOf.f
  rw [tdiv_nn h.1, tmod_nn (a := s) h.1, tmod_nn (a := s) h.1, tdiv_nn (a := s % 86400) (by omega), tdiv_nn (a := s % 86400) (by omega), Evx.w64 (i := s / 86400) (by omega) (by omega), Evx.w64 (i := s % 86400 / 3600) (by omega) (by omega), Evx.w64 (i := s % 86400 / 60) (by omega) (by omega), tmod_nn (a := s % 86400 / 60) (by omega)]
  rw [← full_civ, show s % 86400 / 60 % 60 = s / 60 % 60 by omega]
  exact impl_years 200 _ _ (by omega) (by omega) (by omega) (by omega) (by omega)
theorem impl_ok (y m d h i s : Int) : Ev (fun k => impl_CivilOK.f k y m d h i s) (okc y m d h i s) := by
  unfold impl_CivilOK.f okc
  refine Evx.bindc (within_eq _ _ _) (Evx.ite (fun a => ?_) (fun a => ?_))
  · rw [decide_eq_true_eq] at a
    refine Evx.bindc (within_eq _ _ _) (Evx.ite (fun b => ?_) (fun b => ?_))
    · rw [decide_eq_true_eq] at b
      refine Evx.bindc (days2 m (by omega)) (Evx.bindc (within_eq _ _ _) ?_)
      refine Ev.step (fun k => by rw [impl_CivilOK.j0]) ?_
      by_cases h3 : 1 ≤ d ∧ d ≤ dm y m
      · refine Evx.neg (by simp [h3]) (Evx.bindc (within_eq _ _ _) (Evx.ite (fun c => ?_) (fun c => ?_)))
        · refine Evx.bindc (within_eq _ _ _) (Evx.ite (fun e => ?_) (fun e => ?_))
          · refine Evx.bindc (within_eq _ _ _) (Evx.eq (Ev.now _) ?_)
            rw [decide_eq_true_eq] at c e
            rw [Bool.eq_iff_iff]; simp only [decide_eq_true_eq]; exact ⟨fun x => ⟨a, b, h3, c, e, x⟩, fun x => x.2.2.2.2.2⟩
          · rw [decide_eq_true_eq] at e
            exact Evx.eq (Ev.now _) (decide_eq_false (fun x => e x.2.2.2.2.1)).symm
        · rw [decide_eq_true_eq] at c
          exact Evx.eq (Ev.now _) (decide_eq_false (fun x => c x.2.2.2.1)).symm
      · refine Evx.pos (by simp [h3]) (Evx.eq (Ev.now _) (decide_eq_false (fun x => h3 x.2.2.1)).symm)
    · rw [decide_eq_true_eq] at b
      refine Ev.step (fun k => by rw [impl_CivilOK.j0]) ?_
      exact Evx.pos rfl (Evx.eq (Ev.now _) (decide_eq_false (fun x => b x.2.1)).symm)
  · rw [decide_eq_true_eq] at a
    refine Ev.step (fun k => by rw [impl_CivilOK.j0]) ?_
    exact Evx.pos rfl (Evx.eq (Ev.now _) (decide_eq_false (fun x => a x.1)).symm)
theorem impl_mon {y m d h i s a0 : Int} (hy : 0 ≤ y) (hc : (0 ≤ h ∧ h ≤ 23) ∧ (0 ≤ i ∧ i ≤ 59) ∧ (0 ≤ s ∧ s ≤ 59)) (hm : m ≤ 12) (n : Nat) : ∀ (a j : Int), j + n = m → 1 ≤ j → 0 ≤ a → a ≤ 1000000 + 31 * j → Ev (fun k => impl_stampOf.l1 k a j y m d h i s) (addM n a y j * 86400 + h * 3600 + i * 60 + s) := by
  induction n with
  | zero =>
    intro a j hj h1 h2 h3
    refine Ev.step (fun k => by rw [impl_stampOf.l1]) ?_
    refine Evx.neg (by omega) (Evx.eq (Ev.now _) ?_)
    rw [Evx.w64 (i := a * 86400) (by omega) (by omega), Evx.w64 (i := h * 3600) (by omega) (by omega), Evx.w64 (i := a * 86400 + h * 3600) (by omega) (by omega), Evx.w64 (i := i * 60) (by omega) (by omega), Evx.w64 (i := a * 86400 + h * 3600 + i * 60) (by omega) (by omega), Evx.w64 (i := a * 86400 + h * 3600 + i * 60 + s) (by omega) (by omega)]
    simp only [addM]
  | succ n ih =>
    intro a j hj h1 h2 h3
    have hd := dm_range y j
    refine Ev.step (fun k => by rw [impl_stampOf.l1]) ?_
    refine Evx.pos (by omega) (Evx.bindc (days2 j hy) ?_)
    rw [Evx.w64 (i := a + dm y j) (by omega) (by omega), Evx.w64 (i := j + 1) (by omega) (by omega)]
    simp only [addM]
    exact ih _ _ (by omega) (by omega) (by omega) (by omega)
theorem impl_yr {y m d h i s R : Int} (hy : y ≤ 2099) (n : Nat) : ∀ (a j : Int), j + n = y → 1970 ≤ j → 0 ≤ a → a ≤ 366 * (j - 1969) → Ev (fun k => impl_stampOf.l1 k (addY n a j) 1 y m d h i s) R → Ev (fun k => impl_stampOf.l0 k a j y m d h i s) R := by
  induction n with
  | zero =>
    intro a j hj h1 h2 h3 hR
    refine Ev.step (fun k => by rw [impl_stampOf.l0]) ?_
    exact Evx.neg (by omega) hR
  | succ n ih =>
    intro a j hj h1 h2 h3 hR
    have hd := yl_range j
    refine Ev.step (fun k => by rw [impl_stampOf.l0]) ?_
    refine Evx.pos (by omega) (Evx.bindc (ydays2 (by omega)) ?_)
    rw [Evx.w64 (i := a + yl j) (by omega) (by omega), Evx.w64 (i := j + 1) (by omega) (by omega)]
    exact ih _ _ (by omega) (by omega) (by omega) (by omega) hR
theorem impl_stv {y m d h i s : Int} (hk : okc y m d h i s = true) : Ev (fun k => impl_stampOf.f k y m d h i s) (stv y m d h i s) := by
  have hc := of_decide_eq_true hk
  have hdm := dm_range y m
  unfold impl_stampOf.f
  rw [Evx.w64 (i := d - 1) (by omega) (by omega)]
  have ha := addY_range (y - 1970).toNat (d - 1) 1970
  refine impl_yr (by omega) (y - 1970).toNat (d - 1) 1970 (by omega) (by omega) (by omega) (by omega) ?_
  exact impl_mon (a0 := 0) (by omega) hc.2.2.2 (by omega) (m - 1).toNat _ 1 (by omega) (by omega) (by omega) (by omega)
theorem spec_CivilOf_ok {s : Int} (h : 0 ≤ s ∧ s ≤ 4102444799) : Ev (fun k => spec_CivilOf.f k s) ((civ s).1, (civ s).2.1, (civ s).2.2.1, (civ s).2.2.2.1, (civ s).2.2.2.2.1, (civ s).2.2.2.2.2, 0) := by
  unfold spec_CivilOf.f
  refine Evx.bindc (in_eq _ _ _) (Evx.pos (decide_eq_true h) (Ev.bind (spec_civ h) (Ev.now _)))
theorem impl_CivilOf_ok {s : Int} (h : 0 ≤ s ∧ s ≤ 4102444799) : Ev (fun k => impl_CivilOf.f k s) ((civ s).1, (civ s).2.1, (civ s).2.2.1, (civ s).2.2.2.1, (civ s).2.2.2.2.1, (civ s).2.2.2.2.2, 0) := by
  unfold impl_CivilOf.f impl_isStamp.f
  refine Evx.bindc (by rw [within_eq]; rfl) (Evx.pos (decide_eq_true h) (Ev.bind (impl_civ h) (Ev.now _)))
theorem week_ok {s : Int} (h : 0 ≤ s ∧ s ≤ 4102444799) : impl_WeekdayOf.f s = some ((s / 86400 + 4) % 7, 0) := by
  unfold impl_WeekdayOf.f impl_isStamp.f impl_weekday.f
  rw [within_eq, decide_eq_true h]
  simp only [Option.bind_some, if_true]
  rw [tdiv_nn h.1, Evx.w64 (i := s / 86400) (by omega) (by omega), Evx.w64 (i := s / 86400 + 4) (by omega) (by omega), tmod_nn (by omega)]

theorem FnDates : laws_FnDates.Pure := by
  intro l0 hm hs hw
  refine Ev.rounds (g := fun k => laws_FnDates.f k l0) ?_
  unfold laws_FnDates.f
  refine Evx.ite (fun _ => Ev.now _) (fun hl => ?_)
  have hcode : Go.Proofs.Ytccnidlkpinpgaa.SQFnDates.Code l0 := ⟨by omega, fun x h => by
    have := hw x h
    simp [Lit.wf, IntKind.min, IntKind.max, IntKind.signed, IntKind.bits] at this
    omega⟩
  obtain ⟨n, en, n0, n1⟩ := stamp_ok hcode
  have hn : 0 ≤ n ∧ n ≤ 4102444799 := ⟨n0, n1⟩
  have hok := civ_okc hn
  have k2 := impl_CivilOf_ok hn
  have k1 := spec_CivilOf_ok hn
  have k3 : Ev (fun k => impl_StampOf.f k (civ n).1 (civ n).2.1 (civ n).2.2.1 (civ n).2.2.2.1 (civ n).2.2.2.2.1 (civ n).2.2.2.2.2) (n, 0) := by
    unfold impl_StampOf.f
    refine Ev.bind (impl_ok _ _ _ _ _ _) (Evx.pos hok (Ev.bind (impl_stv hok) (Evx.eq (Ev.now _) ?_)))
    rw [civ_stv hn]
  refine Evx.bindc en (Ev.bind k2 (Ev.bind k1 (Ev.bind k3 (Evx.pos rfl (Evx.neg (by simp) (Evx.pos rfl (Evx.pos rfl (Ev.bind (impl_ok _ _ _ _ _ _) ?_))))))))
  simp only [hok]
  refine Ev.step (fun k => by rw [laws_FnDates.j0]) ?_
  rw [Evx.w64 (i := n + 86400) (by omega) (by omega)]
  refine Evx.neg (by simp) (Evx.ite (fun _ => Ev.now _) (fun h86 => ?_))
  have hn2 : 0 ≤ n + 86400 ∧ n + 86400 ≤ 4102444799 := by omega
  refine Evx.bindc (week_ok hn) (Evx.bindc (week_ok hn2) (Ev.bind (impl_CivilOf_ok hn2) ?_))
  have hnx := civ_next (s := n) (by omega)
  have hd := (civ_parts hn).2.2.2.1
  have hdm := dm_range (years 200 (n / 86400) 1970).2 (months 20 (years 200 (n / 86400) 1970).1 (years 200 (n / 86400) 1970).2 1).2
  have hday : 1 ≤ (civ n).2.2.1 ∧ (civ n).2.2.1 ≤ 32 := by
    simp only [civ]
    omega
  refine Evx.pos rfl (Evx.pos rfl (Evx.pos ?_ (Evx.pos rfl (Evx.pos ?_ (Evx.pos ?_ ?_)))))
  · simp only
    rw [Evx.w64 (i := (n / 86400 + 4) % 7 + 1) (by omega) (by omega), Int.tmod_eq_emod_of_nonneg (by omega)]
    omega
  · simp only [civ]; omega
  · simp only [civ]; omega
  · rw [Evx.w64 (i := (civ n).2.2.1 + 1) (by omega) (by omega)]
    refine Evx.ite (fun _ => Ev.now _) (fun h => Evx.eq (Ev.now _) ?_)
    rcases hnx with e | e
    · exact absurd e h
    · simp only at e ⊢
      rw [e]; rfl

end Go.Proofs.Ytccnidlkpinpgaa.Pure
