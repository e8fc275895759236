/- For every day and clock the program's StampOf answers as the reference's. Conditions: none. -/
import Derived.Test.YtccnidlkpinpgaaQFnExactStampOfx
import Derived.Test.YtccnidlkpinpgaaDates
namespace Go.Proofs.Ytccnidlkpinpgaa.Pure
open Go.RowKit Go.Proofs.Ytccnidlkpinpgaa.QFnExactStampOf Go.Proofs.YtccnidlkpinpgaaW.PrintWords Go.Proofs.YtccnidlkpinpgaaW.PrintLast Go.Proofs.YtccnidlkpinpgaaW.PrintMore
set_option linter.unusedSimpArgs false
set_option linter.unusedVariables false
open Go.Proofs.Ytccnidlkpinpgaa.Dates
theorem tmod_nn {a b : Int} (h : 0 ≤ a) : Int.tmod a b = a % b := Int.tmod_eq_emod_of_nonneg h
theorem tdiv_nn {a b : Int} (h : 0 ≤ a) : Int.tdiv a b = a / b := Int.tdiv_eq_ediv_of_nonneg h
theorem leap1 {y : Int} (h : 0 ≤ y) : spec_l04Leap.f y = some (lp y) := by
  unfold spec_l04Leap.f lp
  rw [tmod_nn h, tmod_nn h, tmod_nn h]
  repeat' split
  all_goals (apply congrArg some; rw [Bool.eq_iff_iff]; simp only [decide_eq_true_eq, beq_iff_eq, true_iff, iff_true, Bool.false_eq_true, false_iff]; omega)
theorem leap2 {y : Int} (h : 0 ≤ y) : impl_leap.f y = some (lp y) := by
  unfold impl_leap.f lp
  rw [tmod_nn h, tmod_nn h, tmod_nn h]
  repeat' split
  all_goals (apply congrArg some; rw [Bool.eq_iff_iff]; simp only [decide_eq_true_eq, beq_iff_eq, true_iff, iff_true, Bool.false_eq_true, false_iff]; omega)
theorem bit1 (b : Bool) : spec_l01Bit.f b = some (if b = true then 1 else 0) := by
  unfold spec_l01Bit.f
  split <;> rfl
theorem days1 {y : Int} (m : Int) (h : 0 ≤ y) : spec_l04Days.f y m = some (dm y m) := by
  unfold spec_l04Days.f dm
  rw [leap1 h]
  simp only [Option.bind_some, bit1]
  by_cases h2 : m = 2
  · rw [if_pos h2, if_pos h2]
    cases lp y
    · exact congrArg some (Evx.w64 (i := 28 + 0) (by omega) (by omega))
    · exact congrArg some (Evx.w64 (i := 28 + 1) (by omega) (by omega))
  · rw [if_neg h2, if_neg h2]
    repeat' split
    all_goals first | rfl | omega
theorem days2 {y : Int} (m : Int) (h : 0 ≤ y) : impl_daysOf.f y m = some (dm y m) := by
  unfold impl_daysOf.f dm
  rw [leap2 h]
  simp only [Option.bind_some]
  by_cases h2 : m = 2
  · rw [if_pos h2, if_pos h2]
    cases lp y <;> rfl
  · rw [if_neg h2, if_neg h2]
    repeat' split
    all_goals first | rfl | omega
theorem ydays2 {y : Int} (h : 0 ≤ y) : impl_yearDays.f y = some (yl y) := by
  unfold impl_yearDays.f yl
  rw [leap2 h]
  simp only [Option.bind_some]
  split <;> rfl
theorem within_eq (a b c : Int) : impl_within.f a b c = some (decide (b ≤ a ∧ a ≤ c)) := by
  unfold impl_within.f
  split <;> simp <;> omega
theorem in_eq (a b c : Int) : spec_l01In.f a b c = some (decide (b ≤ a ∧ a ≤ c)) := by
  unfold spec_l01In.f
  split <;> simp <;> omega
theorem spec_ok (y m d h i s : Int) : spec_CivilOK.f y m d h i s = some (okc y m d h i s) := by
  unfold spec_CivilOK.f okc
  simp only [in_eq, Option.bind_some]
  by_cases h1 : 1970 ≤ y ∧ y ≤ 2099
  · by_cases h2 : 1 ≤ m ∧ m ≤ 12
    · rw [if_pos (decide_eq_true h1), if_pos (decide_eq_true h2), days1 m (by omega)]
      simp only [Option.bind_some]
      by_cases h3 : 1 ≤ d ∧ d ≤ dm y m
      · by_cases h4 : 0 ≤ h ∧ h ≤ 23
        · by_cases h5 : 0 ≤ i ∧ i ≤ 59
          · simp [h1, h2, h3, h4, h5]
          · simp [h3, h4, h5]
        · simp [h3, h4]
      · simp [h3]
    · simp [h1, h2]
  · simp [h1]
theorem impl_ok (y m d h i s : Int) : Ev (fun k => impl_CivilOK.f k y m d h i s) (okc y m d h i s) := by
  unfold impl_CivilOK.f okc
  refine Evx.bindc (within_eq _ _ _) (Evx.ite (fun a => ?_) (fun a => ?_))
  · rw [decide_eq_true_eq] at a
    refine Evx.bindc (within_eq _ _ _) (Evx.ite (fun b => ?_) (fun b => ?_))
    · rw [decide_eq_true_eq] at b
      refine Evx.bindc (days2 m (by omega)) (Evx.bindc (within_eq _ _ _) ?_)
      refine Ev.step (fun k => by rw [impl_CivilOK.j0]) ?_
      by_cases h3 : 1 ≤ d ∧ d ≤ dm y m
      · refine Evx.neg (by simp [h3]) (Evx.bindc (within_eq _ _ _) (Evx.ite (fun c => ?_) (fun c => ?_)))
        · refine Evx.bindc (within_eq _ _ _) (Evx.ite (fun e => ?_) (fun e => ?_))
          · refine Evx.bindc (within_eq _ _ _) (Evx.eq (Ev.now _) ?_)
            rw [decide_eq_true_eq] at c e
            rw [Bool.eq_iff_iff]; simp only [decide_eq_true_eq]; exact ⟨fun x => ⟨a, b, h3, c, e, x⟩, fun x => x.2.2.2.2.2⟩
          · rw [decide_eq_true_eq] at e
            exact Evx.eq (Ev.now _) (decide_eq_false (fun x => e x.2.2.2.2.1)).symm
        · rw [decide_eq_true_eq] at c
          exact Evx.eq (Ev.now _) (decide_eq_false (fun x => c x.2.2.2.1)).symm
      · refine Evx.pos (by simp [h3]) (Evx.eq (Ev.now _) (decide_eq_false (fun x => h3 x.2.2.1)).symm)
    · rw [decide_eq_true_eq] at b
      refine Ev.step (fun k => by rw [impl_CivilOK.j0]) ?_
      exact Evx.pos rfl (Evx.eq (Ev.now _) (decide_eq_false (fun x => b x.2.1)).symm)
  · rw [decide_eq_true_eq] at a
    refine Ev.step (fun k => by rw [impl_CivilOK.j0]) ?_
    exact Evx.pos rfl (Evx.eq (Ev.now _) (decide_eq_false (fun x => a x.1)).symm)
theorem spec_mon {y m d h i s a0 : Int} (hy : 0 ≤ y) (hc : (0 ≤ h ∧ h ≤ 23) ∧ (0 ≤ i ∧ i ≤ 59) ∧ (0 ≤ s ∧ s ≤ 59)) (hm : m ≤ 12) (n : Nat) : ∀ (a j : Int), j + n = m → 1 ≤ j → 0 ≤ a → a ≤ 1000000 + 31 * j → Ev (fun k => spec_l04Stamp.l1 k a j y m d h i s) (addM n a y j * 86400 + h * 3600 + i * 60 + s) := by
  induction n with
  | zero =>
    intro a j hj h1 h2 h3
    refine Ev.step (fun k => by rw [spec_l04Stamp.l1]) ?_
    refine Evx.neg (by omega) (Evx.eq (Ev.now _) ?_)
    rw [Evx.w64 (i := a * 24) (by omega) (by omega), Evx.w64 (i := a * 24 + h) (by omega) (by omega), Evx.w64 (i := (a * 24 + h) * 60) (by omega) (by omega), Evx.w64 (i := (a * 24 + h) * 60 + i) (by omega) (by omega), Evx.w64 (i := ((a * 24 + h) * 60 + i) * 60) (by omega) (by omega), Evx.w64 (i := ((a * 24 + h) * 60 + i) * 60 + s) (by omega) (by omega)]
    simp only [addM]; omega
  | succ n ih =>
    intro a j hj h1 h2 h3
    have hd := dm_range y j
    refine Ev.step (fun k => by rw [spec_l04Stamp.l1]) ?_
    refine Evx.pos (by omega) (Evx.bindc (days1 j hy) ?_)
    rw [Evx.w64 (i := a + dm y j) (by omega) (by omega), Evx.w64 (i := j + 1) (by omega) (by omega)]
    simp only [addM]
    exact ih _ _ (by omega) (by omega) (by omega) (by omega)
theorem impl_mon {y m d h i s a0 : Int} (hy : 0 ≤ y) (hc : (0 ≤ h ∧ h ≤ 23) ∧ (0 ≤ i ∧ i ≤ 59) ∧ (0 ≤ s ∧ s ≤ 59)) (hm : m ≤ 12) (n : Nat) : ∀ (a j : Int), j + n = m → 1 ≤ j → 0 ≤ a → a ≤ 1000000 + 31 * j → Ev (fun k => impl_stampOf.l1 k a j y m d h i s) (addM n a y j * 86400 + h * 3600 + i * 60 + s) := by
  induction n with
  | zero =>
    intro a j hj h1 h2 h3
    refine Ev.step (fun k => by rw [impl_stampOf.l1]) ?_
    refine Evx.neg (by omega) (Evx.eq (Ev.now _) ?_)
    rw [Evx.w64 (i := a * 86400) (by omega) (by omega), Evx.w64 (i := h * 3600) (by omega) (by omega), Evx.w64 (i := a * 86400 + h * 3600) (by omega) (by omega), Evx.w64 (i := i * 60) (by omega) (by omega), Evx.w64 (i := a * 86400 + h * 3600 + i * 60) (by omega) (by omega), Evx.w64 (i := a * 86400 + h * 3600 + i * 60 + s) (by omega) (by omega)]
    simp only [addM]
  | succ n ih =>
    intro a j hj h1 h2 h3
    have hd := dm_range y j
    refine Ev.step (fun k => by rw [impl_stampOf.l1]) ?_
    refine Evx.pos (by omega) (Evx.bindc (days2 j hy) ?_)
    rw [Evx.w64 (i := a + dm y j) (by omega) (by omega), Evx.w64 (i := j + 1) (by omega) (by omega)]
    simp only [addM]
    exact ih _ _ (by omega) (by omega) (by omega) (by omega)
theorem spec_yr {y m d h i s R : Int} (hy : y ≤ 2099) (n : Nat) : ∀ (a j : Int), j + n = y → 1970 ≤ j → 0 ≤ a → a ≤ 366 * (j - 1969) → Ev (fun k => spec_l04Stamp.l1 k (addY n a j) 1 y m d h i s) R → Ev (fun k => spec_l04Stamp.l0 k a j y m d h i s) R := by
  induction n with
  | zero =>
    intro a j hj h1 h2 h3 hR
    refine Ev.step (fun k => by rw [spec_l04Stamp.l0]) ?_
    exact Evx.neg (by omega) hR
  | succ n ih =>
    intro a j hj h1 h2 h3 hR
    have hd := yl_range j
    have e : wrap64 (365 + (if lp j = true then 1 else 0)) = yl j := by unfold yl wrap64; split <;> rfl
    refine Ev.step (fun k => by rw [spec_l04Stamp.l0]) ?_
    refine Evx.pos (by clear e; omega) (Evx.bindc (leap1 (by clear e; omega)) (Evx.bindc (bit1 _) ?_))
    rw [e]
    clear e
    rw [Evx.w64 (i := a + yl j) (by omega) (by omega), Evx.w64 (i := j + 1) (by omega) (by omega)]
    exact ih _ _ (by omega) (by omega) (by omega) (by omega) hR
theorem impl_yr {y m d h i s R : Int} (hy : y ≤ 2099) (n : Nat) : ∀ (a j : Int), j + n = y → 1970 ≤ j → 0 ≤ a → a ≤ 366 * (j - 1969) → Ev (fun k => impl_stampOf.l1 k (addY n a j) 1 y m d h i s) R → Ev (fun k => impl_stampOf.l0 k a j y m d h i s) R := by
  induction n with
  | zero =>
    intro a j hj h1 h2 h3 hR
    refine Ev.step (fun k => by rw [impl_stampOf.l0]) ?_
    exact Evx.neg (by omega) hR
  | succ n ih =>
    intro a j hj h1 h2 h3 hR
    have hd := yl_range j
    refine Ev.step (fun k => by rw [impl_stampOf.l0]) ?_
    refine Evx.pos (by omega) (Evx.bindc (ydays2 (by omega)) ?_)
    rw [Evx.w64 (i := a + yl j) (by omega) (by omega), Evx.w64 (i := j + 1) (by omega) (by omega)]
    exact ih _ _ (by omega) (by omega) (by omega) (by omega) hR
theorem spec_stv {y m d h i s : Int} (hk : okc y m d h i s = true) : Ev (fun k => spec_l04Stamp.f k y m d h i s) (stv y m d h i s) := by
  have hc := of_decide_eq_true hk
  have hdm := dm_range y m
  unfold spec_l04Stamp.f
  rw [Evx.w64 (i := d - 1) (by omega) (by omega)]
  have ha := addY_range (y - 1970).toNat (d - 1) 1970
  refine spec_yr (by omega) (y - 1970).toNat (d - 1) 1970 (by omega) (by omega) (by omega) (by omega) ?_
  exact spec_mon (a0 := 0) (by omega) hc.2.2.2 (by omega) (m - 1).toNat _ 1 (by omega) (by omega) (by omega) (by omega)
theorem impl_stv {y m d h i s : Int} (hk : okc y m d h i s = true) : Ev (fun k => impl_stampOf.f k y m d h i s) (stv y m d h i s) := by
  have hc := of_decide_eq_true hk
  have hdm := dm_range y m
  unfold impl_stampOf.f
  rw [Evx.w64 (i := d - 1) (by omega) (by omega)]
  have ha := addY_range (y - 1970).toNat (d - 1) 1970
  refine impl_yr (by omega) (y - 1970).toNat (d - 1) 1970 (by omega) (by omega) (by omega) (by omega) ?_
  exact impl_mon (a0 := 0) (by omega) hc.2.2.2 (by omega) (m - 1).toNat _ 1 (by omega) (by omega) (by omega) (by omega)
/-- What both sides answer. -/
def ans (y m d h i s : Int) : Int × Int := if okc y m d h i s = true then (stv y m d h i s, 0) else (0, 1)

theorem stampOf (x0 x1 x2 x3 x4 x5 : Int) (w0 : (Lit.int .i64 x0).wf = true) (w1 : (Lit.int .i64 x1).wf = true) (w2 : (Lit.int .i64 x2).wf = true) (w3 : (Lit.int .i64 x3).wf = true) (w4 : (Lit.int .i64 x4).wf = true) (w5 : (Lit.int .i64 x5).wf = true) : ∃ k, laws_FnExactStampOf.f k x0 x1 x2 x3 x4 x5 = some true := by
  refine Ev.rounds (g := fun k => laws_FnExactStampOf.f k x0 x1 x2 x3 x4 x5) ?_
  unfold laws_FnExactStampOf.f laws_toCivil.f
  simp only [Option.bind_some]
  have k1 : Ev (fun k => spec_StampOf.f k x0 x1 x2 x3 x4 x5) (ans x0 x1 x2 x3 x4 x5) := by
    unfold spec_StampOf.f ans
    refine Evx.bindc (spec_ok _ _ _ _ _ _) (Evx.ite (fun h => ?_) (fun h => ?_))
    · rw [if_pos h]; exact Ev.bind (spec_stv h) (Ev.now _)
    · rw [if_neg h]; exact Ev.now _
  have k2 : Ev (fun k => impl_StampOf.f k x0 x1 x2 x3 x4 x5) (ans x0 x1 x2 x3 x4 x5) := by
    unfold impl_StampOf.f ans
    refine Ev.bind (impl_ok _ _ _ _ _ _) (Evx.ite (fun h => ?_) (fun h => ?_))
    · rw [if_pos h]; exact Ev.bind (impl_stv h) (Ev.now _)
    · rw [if_neg h]; exact Ev.now _
  exact Ev.bind k1 (Ev.bind k2 (Evx.pos rfl (Evx.pos rfl (Ev.now _))))

end Go.Proofs.Ytccnidlkpinpgaa.Pure
