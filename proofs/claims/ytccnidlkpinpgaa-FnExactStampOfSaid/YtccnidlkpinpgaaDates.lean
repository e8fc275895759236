/- Plain dates: leap years, months' days, a stamp's day and clock and back. Conditions: as each lemma states. -/
import Derived.Test.YtccnidlkpinpgaaEvx
namespace Go.Proofs.Ytccnidlkpinpgaa.Dates
set_option linter.unusedVariables false
/-- A leap year. -/
def lp (y : Int) : Bool := decide (y % 4 = 0 ∧ (y % 100 ≠ 0 ∨ y % 400 = 0))
/-- A year's days. -/
def yl (y : Int) : Int := if lp y = true then 366 else 365
/-- A month's days. -/
def dm (y m : Int) : Int := if m = 2 then (if lp y = true then 29 else 28) else if m = 4 ∨ m = 6 ∨ m = 9 ∨ m = 11 then 30 else 31
theorem yl_range (y : Int) : 365 ≤ yl y ∧ yl y ≤ 366 := by unfold yl; split <;> omega
theorem dm_range (y m : Int) : 28 ≤ dm y m ∧ dm y m ≤ 31 := by unfold dm; repeat' split <;> omega
/-- Years are taken off days; n bounds how many. -/
def years : Nat → Int → Int → Int × Int
  | 0, d, y => (d, y)
  | n + 1, d, y => if d ≥ yl y then years n (d - yl y) (y + 1) else (d, y)
/-- Months are taken off days. -/
def months : Nat → Int → Int → Int → Int × Int
  | 0, d, _, m => (d, m)
  | n + 1, d, y, m => if d ≥ dm y m then months n (d - dm y m) y (m + 1) else (d, m)
theorem years_ok (n : Nat) : ∀ d y : Int, 0 ≤ d → d < 365 * n → 0 ≤ (years n d y).1 ∧ (years n d y).1 < yl (years n d y).2 ∧ y ≤ (years n d y).2 ∧ (years n d y).2 ≤ y + n ∧ (years n d y).1 ≤ d := by
  induction n with
  | zero => intro d y h0 h1; omega
  | succ n ih =>
    intro d y h0 h1
    have hy := yl_range y
    simp only [years]
    split
    · rename_i h
      have := ih (d - yl y) (y + 1) (by omega) (by omega)
      refine ⟨this.1, this.2.1, by omega, by omega, by omega⟩
    · rename_i h
      exact ⟨h0, Int.not_le.1 h, Int.le_refl _, by omega, Int.le_refl _⟩
theorem months_ok (n : Nat) : ∀ d y m : Int, 0 ≤ d → d < 28 * n → 0 ≤ (months n d y m).1 ∧ (months n d y m).1 < dm y (months n d y m).2 ∧ m ≤ (months n d y m).2 ∧ (months n d y m).2 ≤ m + n := by
  induction n with
  | zero => intro d y m h0 h1; omega
  | succ n ih =>
    intro d y m h0 h1
    have hy := dm_range y m
    simp only [months]
    split
    · rename_i h
      have := ih (d - dm y m) y (m + 1) (by omega) (by omega)
      refine ⟨this.1, this.2.1, by omega, by omega⟩
    · rename_i h
      exact ⟨h0, Int.not_le.1 h, Int.le_refl _, by omega⟩
/-- A stamp's day and clock. -/
def civ (s : Int) : Int × Int × Int × Int × Int × Int :=
  let a := years 200 (s / 86400) 1970
  let b := months 20 a.1 a.2 1
  (a.2, b.2, b.1 + 1, s % 86400 / 3600, s / 60 % 60, s % 60)
/-- The days of n years from y on, behind a. -/
def addY : Nat → Int → Int → Int
  | 0, a, _ => a
  | n + 1, a, y => addY n (a + yl y) (y + 1)
/-- The days of n months from m on, behind a. -/
def addM : Nat → Int → Int → Int → Int
  | 0, a, _, _ => a
  | n + 1, a, y, m => addM n (a + dm y m) y (m + 1)
theorem addY_range (n : Nat) : ∀ a y : Int, a ≤ addY n a y ∧ addY n a y ≤ a + 366 * n := by
  induction n with
  | zero => intro a y; simp [addY]
  | succ n ih =>
    intro a y
    have := ih (a + yl y) (y + 1)
    have hy := yl_range y
    simp only [addY]
    omega
theorem addM_range (n : Nat) : ∀ a y m : Int, a ≤ addM n a y m ∧ addM n a y m ≤ a + 31 * n := by
  induction n with
  | zero => intro a y m; simp [addM]
  | succ n ih =>
    intro a y m
    have := ih (a + dm y m) y (m + 1)
    have hy := dm_range y m
    simp only [addM]
    omega
/-- A right day and clock. -/
def okc (y m d h i s : Int) : Bool := decide ((1970 ≤ y ∧ y ≤ 2099) ∧ (1 ≤ m ∧ m ≤ 12) ∧ (1 ≤ d ∧ d ≤ dm y m) ∧ (0 ≤ h ∧ h ≤ 23) ∧ (0 ≤ i ∧ i ≤ 59) ∧ (0 ≤ s ∧ s ≤ 59))
/-- The days ahead of a day. -/
def dayOf (y m d : Int) : Int := addM (m - 1).toNat (addY (y - 1970).toNat (d - 1) 1970) y 1
/-- The stamp of a right day and clock. -/
def stv (y m d h i s : Int) : Int := dayOf y m d * 86400 + h * 3600 + i * 60 + s
end Go.Proofs.Ytccnidlkpinpgaa.Dates
