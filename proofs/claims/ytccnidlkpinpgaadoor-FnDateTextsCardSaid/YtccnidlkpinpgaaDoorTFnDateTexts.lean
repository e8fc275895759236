/- The texts of dates: two digits, a year's four digits, a clock; both sides write the same. Conditions: stamps from 0 to the greatest. -/
import Derived.Test.YtccnidlkpinpgaaDoorQFnDateTextsx
import Derived.Test.YtccnidlkpinpgaaDoorEvx
import Derived.Test.YtccnidlkpinpgaaDoorDates
namespace Go.Proofs.YtccnidlkpinpgaaDoor.TQFnDateTexts
open Go.RowKit Go.Proofs.YtccnidlkpinpgaaDoor.QFnDateTexts Go.Proofs.YtccnidlkpinpgaaDoorW.PrintWords Go.Proofs.YtccnidlkpinpgaaDoorW.PrintLast Go.Proofs.YtccnidlkpinpgaaDoorW.PrintMore
open Go.Proofs.YtccnidlkpinpgaaDoor.Evx Go.Proofs.YtccnidlkpinpgaaDoor.Dates
set_option linter.unusedSimpArgs false
set_option linter.unusedVariables false
theorem tmod_nn {a b : Int} (h : 0 ≤ a) : Int.tmod a b = a % b := Int.tmod_eq_emod_of_nonneg h
theorem tdiv_nn {a b : Int} (h : 0 ≤ a) : Int.tdiv a b = a / b := Int.tdiv_eq_ediv_of_nonneg h
theorem leap1 {y : Int} (h : 0 ≤ y) : spec_l04Leap.f y = some (lp y) := by
  unfold spec_l04Leap.f lp
  rw [tmod_nn h, tmod_nn h, tmod_nn h]
  repeat' split
  all_goals (apply congrArg some; rw [Bool.eq_iff_iff]; simp only [decide_eq_true_eq, beq_iff_eq, true_iff, iff_true, Bool.false_eq_true, false_iff]; omega)
theorem leap2 {y : Int} (h : 0 ≤ y) : impl_leap.f y = some (lp y) := by
  unfold impl_leap.f lp
  rw [tmod_nn h, tmod_nn h, tmod_nn h]
  repeat' split
  all_goals (apply congrArg some; rw [Bool.eq_iff_iff]; simp only [decide_eq_true_eq, beq_iff_eq, true_iff, iff_true, Bool.false_eq_true, false_iff]; omega)
theorem bit1 (b : Bool) : spec_l01Bit.f b = some (if b = true then 1 else 0) := by
  unfold spec_l01Bit.f
  split <;> rfl
theorem days1 {y : Int} (m : Int) (h : 0 ≤ y) : spec_l04Days.f y m = some (dm y m) := by
  unfold spec_l04Days.f dm
  rw [leap1 h]
  simp only [Option.bind_some, bit1]
  by_cases h2 : m = 2
  · rw [if_pos h2, if_pos h2]
    cases lp y
    · exact congrArg some (Evx.w64 (i := 28 + 0) (by omega) (by omega))
    · exact congrArg some (Evx.w64 (i := 28 + 1) (by omega) (by omega))
  · rw [if_neg h2, if_neg h2]
    repeat' split
    all_goals first | rfl | omega
theorem days2 {y : Int} (m : Int) (h : 0 ≤ y) : impl_daysOf.f y m = some (dm y m) := by
  unfold impl_daysOf.f dm
  rw [leap2 h]
  simp only [Option.bind_some]
  by_cases h2 : m = 2
  · rw [if_pos h2, if_pos h2]
    cases lp y <;> rfl
  · rw [if_neg h2, if_neg h2]
    repeat' split
    all_goals first | rfl | omega
theorem ydays2 {y : Int} (h : 0 ≤ y) : impl_yearDays.f y = some (yl y) := by
  unfold impl_yearDays.f yl
  rw [leap2 h]
  simp only [Option.bind_some]
  split <;> rfl
theorem within_eq (a b c : Int) : impl_within.f a b c = some (decide (b ≤ a ∧ a ≤ c)) := by
  unfold impl_within.f
  split <;> simp <;> omega
theorem in_eq (a b c : Int) : spec_l01In.f a b c = some (decide (b ≤ a ∧ a ≤ c)) := by
  unfold spec_l01In.f
  split <;> simp <;> omega
theorem spec_months {y c3 c4 c5 c2 : Int} (hy : 0 ≤ y ∧ y ≤ 10000) (n : Nat) : ∀ d m : Int, 0 ≤ d → d < 28 * n → d ≤ 100000 → 0 ≤ m → m ≤ 10000 - n → Ev (fun k => spec_l04Civil.l1 k d y m c2 c3 c4 c5) (y, (months n d y m).2, (months n d y m).1 + 1, c3, c4, c5) := by
  induction n with
  | zero => intro d m h0 h1; omega
  | succ n ih =>
    intro d m h0 h1 h2 h3 h4
    have hd := dm_range y m
    refine Ev.step (fun k => by rw [spec_l04Civil.l1]) ?_
    refine Evx.bindc (days1 m hy.1) (Evx.ite (fun a => Evx.bindc (days1 m hy.1) ?_) (fun a => ?_))
    · rw [Evx.w64 (i := d - dm y m) (by omega) (by omega), Evx.w64 (i := m + 1) (by omega) (by omega)]
      simp only [months]
      rw [if_pos a]
      exact ih _ _ (by omega) (by omega) (by omega) (by omega) (by omega)
    · rw [Evx.w64 (i := d + 1) (by omega) (by omega)]
      simp only [months]
      rw [if_neg a]
      exact Ev.now _
theorem impl_months {y c3 c4 c5 c2 : Int} (hy : 0 ≤ y ∧ y ≤ 10000) (n : Nat) : ∀ d m : Int, 0 ≤ d → d < 28 * n → d ≤ 100000 → 0 ≤ m → m ≤ 10000 - n → Ev (fun k => impl_civilOf.l1 k d y m c2 c3 c4 c5) (y, (months n d y m).2, (months n d y m).1 + 1, c3, c4, c5) := by
  induction n with
  | zero => intro d m h0 h1; omega
  | succ n ih =>
    intro d m h0 h1 h2 h3 h4
    have hd := dm_range y m
    refine Ev.step (fun k => by rw [impl_civilOf.l1]) ?_
    refine Evx.bindc (days2 m hy.1) (Evx.ite (fun a => Evx.bindc (days2 m hy.1) ?_) (fun a => ?_))
    · rw [Evx.w64 (i := d - dm y m) (by omega) (by omega), Evx.w64 (i := m + 1) (by omega) (by omega)]
      simp only [months]
      rw [if_pos a]
      exact ih _ _ (by omega) (by omega) (by omega) (by omega) (by omega)
    · rw [Evx.w64 (i := d + 1) (by omega) (by omega)]
      simp only [months]
      rw [if_neg a]
      exact Ev.now _
/-- What is left of a whole number of days, told by a bound on the rounds. -/
def full (n : Nat) (d y c3 c4 c5 : Int) : Int × Int × Int × Int × Int × Int :=
  ((years n d y).2, (months 20 (years n d y).1 (years n d y).2 1).2, (months 20 (years n d y).1 (years n d y).2 1).1 + 1, c3, c4, c5)
theorem spec_years {c3 c4 c5 c2 : Int} (n : Nat) : ∀ d y : Int, 0 ≤ d → d < 365 * n → d ≤ 100000 → 0 ≤ y → y ≤ 10000 - n → Ev (fun k => spec_l04Civil.l0 k d y 1 c2 c3 c4 c5) (full n d y c3 c4 c5) := by
  induction n with
  | zero => intro d y h0 h1; omega
  | succ n ih =>
    intro d y h0 h1 h2 h3 h4
    have hy := yl_range y
    have e : wrap64 (365 + (if lp y = true then 1 else 0)) = yl y := by unfold yl wrap64; split <;> rfl
    refine Ev.step (fun k => by rw [spec_l04Civil.l0]) ?_
    refine Evx.bindc (leap1 h3) (Evx.bindc (bit1 _) ?_)
    rw [e]
    clear e
    refine Evx.ite (fun a => Evx.bindc (leap1 h3) (Evx.bindc (bit1 _) ?_)) (fun a => ?_)
    · have e : wrap64 (365 + (if lp y = true then 1 else 0)) = yl y := by unfold yl wrap64; split <;> rfl
      rw [e]
      clear e
      rw [Evx.w64 (i := d - yl y) (by omega) (by omega), Evx.w64 (i := y + 1) (by omega) (by omega)]
      simp only [full, years]
      rw [if_pos a]
      exact ih _ _ (by omega) (by omega) (by omega) (by omega) (by omega)
    · simp only [full, years]
      rw [if_neg a]
      exact spec_months ⟨h3, by omega⟩ 20 d 1 h0 (by omega) h2 (by omega) (by omega)
theorem impl_years {c3 c4 c5 c2 : Int} (n : Nat) : ∀ d y : Int, 0 ≤ d → d < 365 * n → d ≤ 100000 → 0 ≤ y → y ≤ 10000 - n → Ev (fun k => impl_civilOf.l0 k d y 1 c2 c3 c4 c5) (full n d y c3 c4 c5) := by
  induction n with
  | zero => intro d y h0 h1; omega
  | succ n ih =>
    intro d y h0 h1 h2 h3 h4
    have hy := yl_range y
    refine Ev.step (fun k => by rw [impl_civilOf.l0]) ?_
    refine Evx.bindc (ydays2 h3) (Evx.ite (fun a => Evx.bindc (ydays2 h3) ?_) (fun a => ?_))
    · rw [Evx.w64 (i := d - yl y) (by omega) (by omega), Evx.w64 (i := y + 1) (by omega) (by omega)]
      simp only [full, years]
      rw [if_pos a]
      exact ih _ _ (by omega) (by omega) (by omega) (by omega) (by omega)
    · simp only [full, years]
      rw [if_neg a]
      exact impl_months ⟨h3, by omega⟩ 20 d 1 h0 (by omega) h2 (by omega) (by omega)
theorem full_civ (s : Int) : full 200 (s / 86400) 1970 (s % 86400 / 3600) (s / 60 % 60) (s % 60) = civ s := rfl
theorem spec_civ {s : Int} (h : 0 ≤ s ∧ s ≤ 4102444799) : Ev (fun k => spec_l04Civil.f k s) (civ s) := by
  unfold spec_l04Civil.f
  rw [tdiv_nn h.1, tdiv_nn h.1, tdiv_nn h.1, tmod_nn h.1, Evx.w64 (i := s / 86400) (by omega) (by omega), Evx.w64 (i := s / 3600) (by omega) (by omega), Evx.w64 (i := s / 60) (by omega) (by omega), tmod_nn (a := s / 3600) (by omega), tmod_nn (a := s / 60) (by omega)]
  rw [← full_civ, show s / 3600 % 24 = s % 86400 / 3600 by omega]
  exact spec_years 200 _ _ (by omega) (by omega) (by omega) (by omega) (by omega)
theorem impl_civ {s : Int} (h : 0 ≤ s ∧ s ≤ 4102444799) : Ev (fun k => impl_civilOf.f k s) (civ s) := by
  unfold impl_civilOf.f
  rw [tdiv_nn h.1, tmod_nn (a := s) h.1, tmod_nn (a := s) h.1, tdiv_nn (a := s % 86400) (by omega), tdiv_nn (a := s % 86400) (by omega), Evx.w64 (i := s / 86400) (by omega) (by omega), Evx.w64 (i := s % 86400 / 3600) (by omega) (by omega), Evx.w64 (i := s % 86400 / 60) (by omega) (by omega), tmod_nn (a := s % 86400 / 60) (by omega)]
  rw [← full_civ, show s % 86400 / 60 % 60 = s / 60 % 60 by omega]
  exact impl_years 200 _ _ (by omega) (by omega) (by omega) (by omega) (by omega)

/-- A number below 100 with two digits. -/
def tw (n : Int) : ByteArray := strOfNums [48 + n / 10, 48 + n % 10]
/-- A year with four digits. -/
def yr (n : Int) : ByteArray := strOfNums [48 + n / 1000, 48 + n / 100 % 10, 48 + n / 10 % 10, 48 + n % 10]
theorem tw_size (n : Int) : (tw n).size = 2 := size_strOfNums _
theorem yr_size (n : Int) : (yr n).size = 4 := size_strOfNums _
theorem tw_bs {n : Int} (h : 0 ≤ n ∧ n < 100) : bs (tw n) = [48 + n / 10, 48 + n % 10] := bs_strOfNums (by
  intro x hx
  simp only [List.mem_cons, List.not_mem_nil, or_false] at hx
  omega)
theorem yr_bs {n : Int} (h : 1000 ≤ n ∧ n ≤ 9999) : bs (yr n) = [48 + n / 1000, 48 + n / 100 % 10, 48 + n / 10 % 10, 48 + n % 10] := bs_strOfNums (by
  intro x hx
  simp only [List.mem_cons, List.not_mem_nil, or_false] at hx
  omega)
theorem two1 {n : Int} (h : 0 ≤ n ∧ n < 100) : spec_l04Two.f n = some (tw n) := by
  unfold spec_l04Two.f tw
  rw [tdiv_nn h.1, tmod_nn h.1, Evx.w64 (i := n / 10) (by omega) (by omega), tmod_nn (a := n / 10) (by omega), Evx.w64 (i := 48 + n / 10 % 10) (by omega) (by omega), Evx.w64 (i := 48 + n % 10) (by omega) (by omega)]
  rw [show (48 + n / 10 % 10) % 256 = 48 + n / 10 by omega, show (48 + n % 10) % 256 = 48 + n % 10 by omega]
theorem two2 {n : Int} (h : 0 ≤ n ∧ n < 100) : impl_two.f n = some (tw n) := by
  unfold impl_two.f tw
  rw [tdiv_nn h.1, tmod_nn h.1, Evx.w64 (i := n / 10) (by omega) (by omega)]
  rw [show (48 + n / 10 % 256) % 256 = 48 + n / 10 by omega, show (48 + n % 10 % 256) % 256 = 48 + n % 10 by omega]
theorem cat_nums (xs ys : List Int) : strOfNums xs ++ strOfNums ys = strOfNums (xs ++ ys) := by
  apply ByteArray.ext
  rw [ByteArray.data_append]
  simp [strOfNums]
theorem digs1 {n : Int} (h : 0 ≤ n ∧ n < 10) : Ev (fun k => spec_l00Digits.f k n) (strOfNums [48 + n]) := by
  refine Ev.step (fun k => by rw [spec_l00Digits.f]) ?_
  refine Evx.neg (by omega) (Evx.neg (by omega) (Evx.pos h.2 (Evx.eq (Ev.now _) ?_)))
  rw [Evx.w64 (by omega) (by omega), show (48 + n) % 256 = 48 + n by omega]
theorem digs_more {n : Int} (h : 10 ≤ n ∧ n ≤ 9999) {xs : List Int} (hx : xs.length ≤ 10) (e : Ev (fun k => spec_l00Digits.f k (n / 10)) (strOfNums xs)) : Ev (fun k => spec_l00Digits.f k n) (strOfNums (xs ++ [48 + n % 10])) := by
  refine Ev.step (fun k => by rw [spec_l00Digits.f]) ?_
  refine Evx.neg (by omega) (Evx.neg (by omega) (Evx.neg (by omega) ?_))
  rw [tdiv_nn (by omega), tmod_nn (by omega), Evx.w64 (i := n / 10) (by omega) (by omega), Evx.w64 (i := 48 + n % 10) (by omega) (by omega), show (48 + n % 10) % 256 = 48 + n % 10 by omega]
  refine Ev.bind e (Evx.pos ?_ (Evx.eq (Ev.now _) (cat_nums _ _)))
  rw [size_strOfNums, size_strOfNums]
  simp only [List.length_cons, List.length_nil]
  omega
theorem digs_year {n : Int} (h : 1000 ≤ n ∧ n ≤ 9999) : Ev (fun k => spec_l00Digits.f k n) (yr n) := by
  have h1 := digs1 (n := n / 10 / 10 / 10) (by omega)
  have h2 := digs_more (n := n / 10 / 10) (by omega) (by simp) h1
  have h3 := digs_more (n := n / 10) (by omega) (by simp) h2
  have h4 := digs_more (n := n) (by omega) (by simp) h3
  refine Evx.eq h4 ?_
  unfold yr
  rw [show n / 10 / 10 / 10 = n / 1000 by omega, show n / 10 / 10 % 10 = n / 100 % 10 by omega]
  rfl
theorem dec_more {u : Nat} (h : 10 ≤ u) : Lib.decDigits u = Lib.decDigits (u / 10) ++ [UInt8.ofNat (48 + u % 10)] := by rw [Lib.decDigits, dif_neg (by omega)]
theorem itoa_year {n : Int} (h : 1000 ≤ n ∧ n ≤ 9999) : strconv_Itoa.f n = some (yr n) := by
  unfold strconv_Itoa.f
  rw [if_pos (by omega)]
  obtain ⟨u, rfl⟩ : ∃ u : Nat, n = u := ⟨n.toNat, by omega⟩
  have e : Lib.itoa (u : Int) = [UInt8.ofNat (48 + u / 1000), UInt8.ofNat (48 + u / 100 % 10), UInt8.ofNat (48 + u / 10 % 10), UInt8.ofNat (48 + u % 10)] := by
    unfold Lib.itoa
    rw [if_neg (by omega), Int.toNat_natCast, dec_more (u := u) (by omega), dec_more (u := u / 10) (by omega), dec_more (u := u / 10 / 10) (by omega), Lib.decDigits, dif_pos (by omega)]
    rw [show u / 10 / 10 / 10 = u / 1000 by omega, show u / 10 / 10 % 10 = u / 100 % 10 by omega]
    rfl
  rw [e]
  unfold yr strOfNums
  simp only [List.map_cons, List.map_nil]
  rw [show (48 + (u : Int) / 1000).toNat = 48 + u / 1000 by omega, show (48 + (u : Int) / 100 % 10).toNat = 48 + u / 100 % 10 by omega, show (48 + (u : Int) / 10 % 10).toNat = 48 + u / 10 % 10 by omega, show (48 + (u : Int) % 10).toNat = 48 + u % 10 by omega]
/-- A clock. -/
def clk (h i s : Int) : ByteArray := tw h ++ (⟨#[58]⟩ : ByteArray) ++ tw i ++ (⟨#[58]⟩ : ByteArray) ++ tw s
theorem sz1 (c : UInt8) : (⟨#[c]⟩ : ByteArray).size = 1 := rfl
theorem sz2 (c d : UInt8) : (⟨#[c, d]⟩ : ByteArray).size = 2 := rfl
theorem sz6 (c d e f g h : UInt8) : (⟨#[c, d, e, f, g, h]⟩ : ByteArray).size = 6 := rfl
theorem clk_size (h i s : Int) : (clk h i s).size = 8 := by
  unfold clk
  simp only [ByteArray.size_append, tw_size, sz1]
theorem clock1 {y m d h i s : Int} (hh : 0 ≤ h ∧ h ≤ 23) (hi : 0 ≤ i ∧ i ≤ 59) (hs : 0 ≤ s ∧ s ≤ 59) : spec_l04Clock.f y m d h i s = some (clk h i s) := by
  unfold spec_l04Clock.f
  rw [two1 (by omega), two1 (n := i) (by omega), two1 (n := s) (by omega)]
  simp only [Option.bind_some, ByteArray.size_append, tw_size, sz1]
  rfl
theorem clock2 {y m d h i s : Int} (hh : 0 ≤ h ∧ h ≤ 23) (hi : 0 ≤ i ∧ i ≤ 59) (hs : 0 ≤ s ∧ s ≤ 59) : impl_Civil_clock.f y m d h i s = some (clk h i s) := by
  unfold impl_Civil_clock.f
  rw [two2 (by omega), two2 (n := i) (by omega), two2 (n := s) (by omega)]
  simp only [Option.bind_some, ByteArray.size_append, tw_size, sz1]
  rfl
theorem parts {s : Int} (h : 0 ≤ s ∧ s ≤ 4102444799) : (1970 ≤ (civ s).1 ∧ (civ s).1 ≤ 2099) ∧ (1 ≤ (civ s).2.1 ∧ (civ s).2.1 ≤ 12) ∧ (1 ≤ (civ s).2.2.1 ∧ (civ s).2.2.1 ≤ 31) ∧ (0 ≤ (civ s).2.2.2.1 ∧ (civ s).2.2.2.1 ≤ 23) ∧ (0 ≤ (civ s).2.2.2.2.1 ∧ (civ s).2.2.2.2.1 ≤ 59) ∧ (0 ≤ (civ s).2.2.2.2.2 ∧ (civ s).2.2.2.2.2 ≤ 59) := by
  have h1 := of_decide_eq_true (civ_okc h)
  have h2 := dm_range (civ s).1 (civ s).2.1
  refine ⟨h1.1, h1.2.1, ⟨h1.2.2.1.1, ?_⟩, h1.2.2.2⟩
  have := h1.2.2.1.2
  omega
/-- The text of a stamp after RFC 3339. -/
def t3339 (s : Int) : ByteArray := yr (civ s).1 ++ (⟨#[45]⟩ : ByteArray) ++ tw (civ s).2.1 ++ (⟨#[45]⟩ : ByteArray) ++ tw (civ s).2.2.1 ++ (⟨#[84]⟩ : ByteArray) ++ clk (civ s).2.2.2.1 (civ s).2.2.2.2.1 (civ s).2.2.2.2.2 ++ (⟨#[90]⟩ : ByteArray)
theorem spec_text (s : Int) : Ev (fun k => spec_Rfc3339Text.f k s) (if 0 ≤ s ∧ s ≤ 4102444799 then (t3339 s, 0) else (⟨#[]⟩, 4)) := by
  unfold spec_Rfc3339Text.f
  refine Evx.bindc (in_eq _ _ _) ?_
  by_cases h : 0 ≤ s ∧ s ≤ 4102444799
  · rw [if_pos h]
    obtain ⟨p1, p2, p3, p4, p5, p6⟩ := parts h
    refine Evx.pos (decide_eq_true h) (Ev.bind (spec_civ h) (Ev.bind (digs_year (by omega)) (Evx.const ?_)))
    rw [two1 (by omega), two1 (n := (civ s).2.2.1) (by omega), clock1 p4 p5 p6]
    simp only [Option.bind_some, ByteArray.size_append, tw_size, yr_size, clk_size, sz1]
    rfl
  · rw [if_neg h]
    exact Evx.neg (by simpa using h) (Ev.now _)
theorem impl_text (s : Int) : Ev (fun k => impl_Rfc3339Text.f k s) (if 0 ≤ s ∧ s ≤ 4102444799 then (t3339 s, 0) else (⟨#[]⟩, 4)) := by
  unfold impl_Rfc3339Text.f impl_isStamp.f
  rw [within_eq]
  refine Evx.bindc (b := decide (0 ≤ s ∧ s ≤ 4102444799)) rfl ?_
  by_cases h : 0 ≤ s ∧ s ≤ 4102444799
  · rw [if_pos h]
    obtain ⟨p1, p2, p3, p4, p5, p6⟩ := parts h
    refine Evx.pos (decide_eq_true h) (Ev.bind (impl_civ h) (Evx.const ?_))
    rw [itoa_year (by omega), two2 (by omega), two2 (n := (civ s).2.2.1) (by omega), clock2 p4 p5 p6]
    simp only [Option.bind_some, ByteArray.size_append, tw_size, yr_size, clk_size, sz1]
    rfl
  · rw [if_neg h]
    exact Evx.neg (by simpa using h) (Ev.now _)
/-- The names of the days of the week, and of the months. -/
def wds : List ByteArray := [(⟨#[83, 117, 110]⟩ : ByteArray), (⟨#[77, 111, 110]⟩ : ByteArray), (⟨#[84, 117, 101]⟩ : ByteArray), (⟨#[87, 101, 100]⟩ : ByteArray), (⟨#[84, 104, 117]⟩ : ByteArray), (⟨#[70, 114, 105]⟩ : ByteArray), (⟨#[83, 97, 116]⟩ : ByteArray)]
def mns : List ByteArray := [(⟨#[74, 97, 110]⟩ : ByteArray), (⟨#[70, 101, 98]⟩ : ByteArray), (⟨#[77, 97, 114]⟩ : ByteArray), (⟨#[65, 112, 114]⟩ : ByteArray), (⟨#[77, 97, 121]⟩ : ByteArray), (⟨#[74, 117, 110]⟩ : ByteArray), (⟨#[74, 117, 108]⟩ : ByteArray), (⟨#[65, 117, 103]⟩ : ByteArray), (⟨#[83, 101, 112]⟩ : ByteArray), (⟨#[79, 99, 116]⟩ : ByteArray), (⟨#[78, 111, 118]⟩ : ByteArray), (⟨#[68, 101, 99]⟩ : ByteArray)]
def wd (i : Int) : ByteArray := rdOf ByteArray.empty wds i
def mn (m : Int) : ByteArray := rdOf ByteArray.empty mns (m - 1)
theorem wd_size {i : Int} (h : 0 ≤ i ∧ i < 7) : (wd i).size = 3 := by
  obtain ⟨k, rfl⟩ : ∃ k : Nat, i = k := ⟨i.toNat, by omega⟩
  have hk : k < 7 := by omega
  clear h
  revert k
  decide
theorem mn_size {m : Int} (h : 1 ≤ m ∧ m ≤ 12) : (mn m).size = 3 := by
  obtain ⟨k, rfl⟩ : ∃ k : Nat, m = (k : Int) + 1 := ⟨(m - 1).toNat, by omega⟩
  have hk : k < 12 := by omega
  clear h
  have e : (k : Int) + 1 - 1 = k := by omega
  unfold mn
  rw [e]
  clear e
  revert k
  decide
/-- The day of the week of a stamp. -/
def wdi (s : Int) : Int := (s / 86400 + 4) % 7
theorem week_idx {s : Int} (h : 0 ≤ s ∧ s ≤ 4102444799) : Int.tmod (wrap64 ((wrap64 (Int.tdiv s 86400)) + 4)) 7 = wdi s := by
  rw [tdiv_nn h.1, Evx.w64 (i := s / 86400) (by omega) (by omega), Evx.w64 (i := s / 86400 + 4) (by omega) (by omega), tmod_nn (by omega)]
  rfl
theorem wdi_range (s : Int) : 0 ≤ wdi s ∧ wdi s < 7 := by unfold wdi; omega
theorem weekday1 {i : Int} (h : 0 ≤ i ∧ i < 7) : spec_l04Weekday.f i = some (wd i) := by
  unfold spec_l04Weekday.f
  simp only [Option.bind_some]
  rw [if_pos h.1]
  exact (if_pos h.2).trans rfl
theorem month1 {m : Int} (h : 1 ≤ m ∧ m ≤ 12) : spec_l04Month.f m = some (mn m) := by
  unfold spec_l04Month.f
  simp only [Option.bind_some]
  rw [Evx.w64 (i := m - 1) (by omega) (by omega), if_pos (by omega)]
  exact (if_pos (show m - 1 < 12 by omega)).trans rfl
theorem weekdays2 : impl_weekdays.f = some wds := rfl
theorem months2 : impl_months.f = some mns := rfl
theorem weekday2 {s : Int} (h : 0 ≤ s ∧ s ≤ 4102444799) : impl_weekday.f s = some (wdi s) := by
  unfold impl_weekday.f
  rw [week_idx h]
/-- The text of a stamp after RFC 822. -/
def t822 (s : Int) : ByteArray := wd (wdi s) ++ (⟨#[44, 32]⟩ : ByteArray) ++ tw (civ s).2.2.1 ++ (⟨#[32]⟩ : ByteArray) ++ mn (civ s).2.1 ++ (⟨#[32]⟩ : ByteArray) ++ yr (civ s).1 ++ (⟨#[32]⟩ : ByteArray) ++ clk (civ s).2.2.2.1 (civ s).2.2.2.2.1 (civ s).2.2.2.2.2 ++ (⟨#[32, 43, 48, 48, 48, 48]⟩ : ByteArray)
theorem spec_text822 (s : Int) : Ev (fun k => spec_Rfc822Text.f k s) (if 0 ≤ s ∧ s ≤ 4102444799 then (t822 s, 0) else (⟨#[]⟩, 4)) := by
  unfold spec_Rfc822Text.f
  refine Evx.bindc (in_eq _ _ _) ?_
  by_cases h : 0 ≤ s ∧ s ≤ 4102444799
  · rw [if_pos h]
    obtain ⟨p1, p2, p3, p4, p5, p6⟩ := parts h
    refine Evx.pos (decide_eq_true h) (Ev.bind (a := t822 s) ?_ (Ev.now _))
    unfold spec_l04Rfc822.f
    refine Ev.bind (spec_civ h) ?_
    rw [week_idx h]
    refine Evx.bindc (weekday1 (wdi_range s)) ?_
    have sw := wd_size (wdi_range s)
    have sm := mn_size p2
    refine Evx.pos (by omega) (Evx.bindc (two1 (by omega)) (Evx.pos (by simp only [ByteArray.size_append, sw, tw_size, sz2]; omega) (Evx.pos (by simp only [ByteArray.size_append, sw, tw_size, sz2]; omega) (Evx.bindc (month1 p2) (Evx.pos (by simp only [ByteArray.size_append, sw, sm, tw_size, sz2, sz1]; omega) (Evx.pos (by simp only [ByteArray.size_append, sw, sm, tw_size, sz2, sz1]; omega) (Ev.bind (digs_year (by omega)) ?_)))))))
    refine Evx.pos (by simp only [ByteArray.size_append, sw, sm, tw_size, yr_size, sz2, sz1]; omega) (Evx.pos (by simp only [ByteArray.size_append, sw, sm, tw_size, yr_size, sz2, sz1]; omega) (Evx.bindc (clock1 p4 p5 p6) ?_))
    refine Evx.pos (by simp only [ByteArray.size_append, sw, sm, tw_size, yr_size, clk_size, sz2, sz1]; omega) (Evx.pos (by simp only [ByteArray.size_append, sw, sm, tw_size, yr_size, clk_size, sz2, sz1]; omega) (Ev.now _))
  · rw [if_neg h]
    exact Evx.neg (by simpa using h) (Ev.now _)
theorem impl_text822 (s : Int) : Ev (fun k => impl_Rfc822Text.f k s) (if 0 ≤ s ∧ s ≤ 4102444799 then (t822 s, 0) else (⟨#[]⟩, 4)) := by
  unfold impl_Rfc822Text.f impl_isStamp.f
  rw [within_eq]
  refine Evx.bindc (b := decide (0 ≤ s ∧ s ≤ 4102444799)) rfl ?_
  by_cases h : 0 ≤ s ∧ s ≤ 4102444799
  · rw [if_pos h]
    obtain ⟨p1, p2, p3, p4, p5, p6⟩ := parts h
    have sw := wd_size (wdi_range s)
    have sm := mn_size p2
    have wr := wdi_range s
    refine Evx.pos (decide_eq_true h) (Ev.bind (impl_civ h) (Evx.bindc weekdays2 (Evx.bindc (weekday2 h) ?_)))
    rw [Evx.w64 (i := (civ s).2.1 - 1) (by omega) (by omega)]
    have ew : rdOf ByteArray.empty wds (wdi s) = wd (wdi s) := rfl
    have em : rdOf ByteArray.empty mns ((civ s).2.1 - 1) = mn (civ s).2.1 := rfl
    rw [ew]
    refine Evx.pos wr.1 (Evx.pos wr.2 (Evx.pos (by omega) (Evx.bindc (two2 (by omega)) (Evx.pos (by simp only [ByteArray.size_append, sw, tw_size, sz2]; omega) (Evx.pos (by simp only [ByteArray.size_append, sw, tw_size, sz2]; omega) (Evx.bindc months2 ?_))))))
    rw [em]
    refine Evx.pos (by omega) (Evx.pos (by show (civ s).2.1 - 1 < 12; omega) (Evx.pos (by simp only [ByteArray.size_append, sw, sm, tw_size, sz2, sz1]; omega) (Evx.pos (by simp only [ByteArray.size_append, sw, sm, tw_size, sz2, sz1]; omega) (Evx.bindc (itoa_year (by omega)) ?_))))
    refine Evx.pos (by simp only [ByteArray.size_append, sw, sm, tw_size, yr_size, sz2, sz1]; omega) (Evx.pos (by simp only [ByteArray.size_append, sw, sm, tw_size, yr_size, sz2, sz1]; omega) (Evx.bindc (clock2 p4 p5 p6) ?_))
    refine Evx.pos (by simp only [ByteArray.size_append, sw, sm, tw_size, yr_size, clk_size, sz2, sz1]; omega) (Evx.pos (by simp only [ByteArray.size_append, sw, sm, tw_size, yr_size, clk_size, sz2, sz1]; omega) (Ev.now _))
  · rw [if_neg h]
    exact Evx.neg (by simpa using h) (Ev.now _)
end Go.Proofs.YtccnidlkpinpgaaDoor.TQFnDateTexts
