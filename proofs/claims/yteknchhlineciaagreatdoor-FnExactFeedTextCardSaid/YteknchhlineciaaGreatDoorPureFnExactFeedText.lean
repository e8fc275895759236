/- The texts of dates: two digits, a year's four digits, a clock; both sides write the same. Conditions: stamps from 0 to the greatest. The reference's escape says what the program's does. Conditions: texts of at most 100000 bytes. A feed's text: the reference writes what the program writes. Conditions: entries that are right, as both tests say. The plain law of FeedText: both say the same. Conditions: none. -/
import Derived.Test.YteknchhlineciaaGreatDoorQFnExactFeedTextx
import Derived.Test.YteknchhlineciaaGreatDoorEvx
import Derived.Test.YteknchhlineciaaGreatDoorRpl4
import Derived.Lib.SlFresh
import Derived.Test.YteknchhlineciaaGreatDoorNFnExactFeedText
namespace Go.Proofs.YteknchhlineciaaGreatDoor.TQFnExactFeedText
open Go.RowKit Go.Proofs.YteknchhlineciaaGreatDoor.QFnExactFeedText Go.Proofs.YteknchhlineciaaGreatDoorW.PrintWords Go.Proofs.YteknchhlineciaaGreatDoorW.PrintLast Go.Proofs.YteknchhlineciaaGreatDoorW.PrintMore
open Go.Proofs.YteknchhlineciaaGreatDoor.Evx Go.Proofs.YteknchhlineciaaGreatDoor.Dates
set_option linter.unusedSimpArgs false
set_option linter.unusedVariables false
theorem tmod_nn {a b : Int} (h : 0 ≤ a) : Int.tmod a b = a % b := Int.tmod_eq_emod_of_nonneg h
theorem tdiv_nn {a b : Int} (h : 0 ≤ a) : Int.tdiv a b = a / b := Int.tdiv_eq_ediv_of_nonneg h
theorem leap1 {y : Int} (h : 0 ≤ y) : spec_l04Leap.f y = some (lp y) := by
  unfold spec_l04Leap.f lp
  rw [tmod_nn h, tmod_nn h, tmod_nn h]
  repeat' split
  all_goals (apply congrArg some; rw [Bool.eq_iff_iff]; simp only [decide_eq_true_eq, beq_iff_eq, true_iff, iff_true, Bool.false_eq_true, false_iff]; omega)
theorem leap2 {y : Int} (h : 0 ≤ y) : impl_leap.f y = some (lp y) := by
  unfold impl_leap.f lp
  rw [tmod_nn h, tmod_nn h, tmod_nn h]
  repeat' split
  all_goals (apply congrArg some; rw [Bool.eq_iff_iff]; simp only [decide_eq_true_eq, beq_iff_eq, true_iff, iff_true, Bool.false_eq_true, false_iff]; omega)
theorem bit1 (b : Bool) : spec_l01Bit.f b = some (if b = true then 1 else 0) := by
  unfold spec_l01Bit.f
  split <;> rfl
theorem days1 {y : Int} (m : Int) (h : 0 ≤ y) : spec_l04Days.f y m = some (dm y m) := by
  unfold spec_l04Days.f dm
  rw [leap1 h]
  simp only [Option.bind_some, bit1]
  by_cases h2 : m = 2
  · rw [if_pos h2, if_pos h2]
    cases lp y
    · exact congrArg some (Evx.w64 (i := 28 + 0) (by omega) (by omega))
    · exact congrArg some (Evx.w64 (i := 28 + 1) (by omega) (by omega))
  · rw [if_neg h2, if_neg h2]
    repeat' split
    all_goals first | rfl | omega
theorem days2 {y : Int} (m : Int) (h : 0 ≤ y) : impl_daysOf.f y m = some (dm y m) := by
  unfold impl_daysOf.f dm
  rw [leap2 h]
  simp only [Option.bind_some]
  by_cases h2 : m = 2
  · rw [if_pos h2, if_pos h2]
    cases lp y <;> rfl
  · rw [if_neg h2, if_neg h2]
    repeat' split
    all_goals first | rfl | omega
theorem ydays2 {y : Int} (h : 0 ≤ y) : impl_yearDays.f y = some (yl y) := by
  unfold impl_yearDays.f yl
  rw [leap2 h]
  simp only [Option.bind_some]
  split <;> rfl
theorem within_eq (a b c : Int) : impl_within.f a b c = some (decide (b ≤ a ∧ a ≤ c)) := by
  unfold impl_within.f
  split <;> simp <;> omega
theorem in_eq (a b c : Int) : spec_l01In.f a b c = some (decide (b ≤ a ∧ a ≤ c)) := by
  unfold spec_l01In.f
  split <;> simp <;> omega
theorem spec_months {y c3 c4 c5 c2 : Int} (hy : 0 ≤ y ∧ y ≤ 10000) (n : Nat) : ∀ d m : Int, 0 ≤ d → d < 28 * n → d ≤ 100000 → 0 ≤ m → m ≤ 10000 - n → Ev (fun k => spec_l04Civil.l1 k d y m c2 c3 c4 c5) (y, (months n d y m).2, (months n d y m).1 + 1, c3, c4, c5) := by
  induction n with
  | zero => intro d m h0 h1; omega
  | succ n ih =>
    intro d m h0 h1 h2 h3 h4
    have hd := dm_range y m
    refine Ev.step (fun k => by rw [spec_l04Civil.l1]) ?_
    refine Evx.bindc (days1 m hy.1) (Evx.ite (fun a => Evx.bindc (days1 m hy.1) ?_) (fun a => ?_))
    · rw [Evx.w64 (i := d - dm y m) (by omega) (by omega), Evx.w64 (i := m + 1) (by omega) (by omega)]
      simp only [months]
      rw [if_pos a]
      exact ih _ _ (by omega) (by omega) (by omega) (by omega) (by omega)
    · rw [Evx.w64 (i := d + 1) (by omega) (by omega)]
      simp only [months]
      rw [if_neg a]
      exact Ev.now _
theorem impl_months {y c3 c4 c5 c2 : Int} (hy : 0 ≤ y ∧ y ≤ 10000) (n : Nat) : ∀ d m : Int, 0 ≤ d → d < 28 * n → d ≤ 100000 → 0 ≤ m → m ≤ 10000 - n → Ev (fun k => impl_civilOf.l1 k d y m c2 c3 c4 c5) (y, (months n d y m).2, (months n d y m).1 + 1, c3, c4, c5) := by
  induction n with
  | zero => intro d m h0 h1; omega
  | succ n ih =>
    intro d m h0 h1 h2 h3 h4
    have hd := dm_range y m
    refine Ev.step (fun k => by rw [impl_civilOf.l1]) ?_
    refine Evx.bindc (days2 m hy.1) (Evx.ite (fun a => Evx.bindc (days2 m hy.1) ?_) (fun a => ?_))
    · rw [Evx.w64 (i := d - dm y m) (by omega) (by omega), Evx.w64 (i := m + 1) (by omega) (by omega)]
      simp only [months]
      rw [if_pos a]
      exact ih _ _ (by omega) (by omega) (by omega) (by omega) (by omega)
    · rw [Evx.w64 (i := d + 1) (by omega) (by omega)]
      simp only [months]
      rw [if_neg a]
      exact Ev.now _
/-- What is left of a whole number of days, told by a bound on the rounds. -/
def full (n : Nat) (d y c3 c4 c5 : Int) : Int × Int × Int × Int × Int × Int :=
  ((years n d y).2, (months 20 (years n d y).1 (years n d y).2 1).2, (months 20 (years n d y).1 (years n d y).2 1).1 + 1, c3, c4, c5)
theorem spec_years {c3 c4 c5 c2 : Int} (n : Nat) : ∀ d y : Int, 0 ≤ d → d < 365 * n → d ≤ 100000 → 0 ≤ y → y ≤ 10000 - n → Ev (fun k => spec_l04Civil.l0 k d y 1 c2 c3 c4 c5) (full n d y c3 c4 c5) := by
  induction n with
  | zero => intro d y h0 h1; omega
  | succ n ih =>
    intro d y h0 h1 h2 h3 h4
    have hy := yl_range y
    have e : wrap64 (365 + (if lp y = true then 1 else 0)) = yl y := by unfold yl wrap64; split <;> rfl
    refine Ev.step (fun k => by rw [spec_l04Civil.l0]) ?_
    refine Evx.bindc (leap1 h3) (Evx.bindc (bit1 _) ?_)
    rw [e]
    clear e
    refine Evx.ite (fun a => Evx.bindc (leap1 h3) (Evx.bindc (bit1 _) ?_)) (fun a => ?_)
    · have e : wrap64 (365 + (if lp y = true then 1 else 0)) = yl y := by unfold yl wrap64; split <;> rfl
      rw [e]
      clear e
      rw [Evx.w64 (i := d - yl y) (by omega) (by omega), Evx.w64 (i := y + 1) (by omega) (by omega)]
      simp only [full, years]
      rw [if_pos a]
      exact ih _ _ (by omega) (by omega) (by omega) (by omega) (by omega)
    · simp only [full, years]
      rw [if_neg a]
      exact spec_months ⟨h3, by omega⟩ 20 d 1 h0 (by omega) h2 (by omega) (by omega)
theorem impl_years {c3 c4 c5 c2 : Int} (n : Nat) : ∀ d y : Int, 0 ≤ d → d < 365 * n → d ≤ 100000 → 0 ≤ y → y ≤ 10000 - n → Ev (fun k => impl_civilOf.l0 k d y 1 c2 c3 c4 c5) (full n d y c3 c4 c5) := by
  induction n with
  | zero => intro d y h0 h1; omega
  | succ n ih =>
    intro d y h0 h1 h2 h3 h4
    have hy := yl_range y
    refine Ev.step (fun k => by rw [impl_civilOf.l0]) ?_
    refine Evx.bindc (ydays2 h3) (Evx.ite (fun a => Evx.bindc (ydays2 h3) ?_) (fun a => ?_))
    · rw [Evx.w64 (i := d - yl y) (by omega) (by omega), Evx.w64 (i := y + 1) (by omega) (by omega)]
      simp only [full, years]
      rw [if_pos a]
      exact ih _ _ (by omega) (by omega) (by omega) (by omega) (by omega)
    · simp only [full, years]
      rw [if_neg a]
      exact impl_months ⟨h3, by omega⟩ 20 d 1 h0 (by omega) h2 (by omega) (by omega)
theorem full_civ (s : Int) : full 200 (s / 86400) 1970 (s % 86400 / 3600) (s / 60 % 60) (s % 60) = civ s := rfl
theorem spec_civ {s : Int} (h : 0 ≤ s ∧ s ≤ 4102444799) : Ev (fun k => spec_l04Civil.f k s) (civ s) := by
  unfold spec_l04Civil.f
  rw [tdiv_nn h.1, tdiv_nn h.1, tdiv_nn h.1, tmod_nn h.1, Evx.w64 (i := s / 86400) (by omega) (by omega), Evx.w64 (i := s / 3600) (by omega) (by omega), Evx.w64 (i := s / 60) (by omega) (by omega), tmod_nn (a := s / 3600) (by omega), tmod_nn (a := s / 60) (by omega)]
  rw [← full_civ, show s / 3600 % 24 = s % 86400 / 3600 by omega]
  exact spec_years 200 _ _ (by omega) (by omega) (by omega) (by omega) (by omega)
theorem impl_civ {s : Int} (h : 0 ≤ s ∧ s ≤ 4102444799) : Ev (fun k => impl_civilOf.f k s) (civ s) := by
  unfold impl_civilOf.f
  rw [tdiv_nn h.1, tmod_nn (a := s) h.1, tmod_nn (a := s) h.1, tdiv_nn (a := s % 86400) (by omega), tdiv_nn (a := s % 86400) (by omega), Evx.w64 (i := s / 86400) (by omega) (by omega), Evx.w64 (i := s % 86400 / 3600) (by omega) (by omega), Evx.w64 (i := s % 86400 / 60) (by omega) (by omega), tmod_nn (a := s % 86400 / 60) (by omega)]
  rw [← full_civ, show s % 86400 / 60 % 60 = s / 60 % 60 by omega]
  exact impl_years 200 _ _ (by omega) (by omega) (by omega) (by omega) (by omega)

/-- A number below 100 with two digits. -/
def tw (n : Int) : ByteArray := strOfNums [48 + n / 10, 48 + n % 10]
/-- A year with four digits. -/
def yr (n : Int) : ByteArray := strOfNums [48 + n / 1000, 48 + n / 100 % 10, 48 + n / 10 % 10, 48 + n % 10]
theorem tw_size (n : Int) : (tw n).size = 2 := size_strOfNums _
theorem yr_size (n : Int) : (yr n).size = 4 := size_strOfNums _
theorem tw_bs {n : Int} (h : 0 ≤ n ∧ n < 100) : bs (tw n) = [48 + n / 10, 48 + n % 10] := bs_strOfNums (by
  intro x hx
  simp only [List.mem_cons, List.not_mem_nil, or_false] at hx
  omega)
theorem yr_bs {n : Int} (h : 1000 ≤ n ∧ n ≤ 9999) : bs (yr n) = [48 + n / 1000, 48 + n / 100 % 10, 48 + n / 10 % 10, 48 + n % 10] := bs_strOfNums (by
  intro x hx
  simp only [List.mem_cons, List.not_mem_nil, or_false] at hx
  omega)
theorem two1 {n : Int} (h : 0 ≤ n ∧ n < 100) : spec_l04Two.f n = some (tw n) := by
  unfold spec_l04Two.f tw
  rw [tdiv_nn h.1, tmod_nn h.1, Evx.w64 (i := n / 10) (by omega) (by omega), tmod_nn (a := n / 10) (by omega), Evx.w64 (i := 48 + n / 10 % 10) (by omega) (by omega), Evx.w64 (i := 48 + n % 10) (by omega) (by omega)]
  rw [show (48 + n / 10 % 10) % 256 = 48 + n / 10 by omega, show (48 + n % 10) % 256 = 48 + n % 10 by omega]
theorem two2 {n : Int} (h : 0 ≤ n ∧ n < 100) : impl_two.f n = some (tw n) := by
  unfold impl_two.f tw
  rw [tdiv_nn h.1, tmod_nn h.1, Evx.w64 (i := n / 10) (by omega) (by omega)]
  rw [show (48 + n / 10 % 256) % 256 = 48 + n / 10 by omega, show (48 + n % 10 % 256) % 256 = 48 + n % 10 by omega]
theorem cat_nums (xs ys : List Int) : strOfNums xs ++ strOfNums ys = strOfNums (xs ++ ys) := by
  apply ByteArray.ext
  rw [ByteArray.data_append]
  simp [strOfNums]
theorem digs1 {n : Int} (h : 0 ≤ n ∧ n < 10) : Ev (fun k => spec_l00Digits.f k n) (strOfNums [48 + n]) := by
  refine Ev.step (fun k => by rw [spec_l00Digits.f]) ?_
  refine Evx.neg (by omega) (Evx.neg (by omega) (Evx.pos h.2 (Evx.eq (Ev.now _) ?_)))
  rw [Evx.w64 (by omega) (by omega), show (48 + n) % 256 = 48 + n by omega]
theorem digs_more {n : Int} (h : 10 ≤ n ∧ n ≤ 9999) {xs : List Int} (hx : xs.length ≤ 10) (e : Ev (fun k => spec_l00Digits.f k (n / 10)) (strOfNums xs)) : Ev (fun k => spec_l00Digits.f k n) (strOfNums (xs ++ [48 + n % 10])) := by
  refine Ev.step (fun k => by rw [spec_l00Digits.f]) ?_
  refine Evx.neg (by omega) (Evx.neg (by omega) (Evx.neg (by omega) ?_))
  rw [tdiv_nn (by omega), tmod_nn (by omega), Evx.w64 (i := n / 10) (by omega) (by omega), Evx.w64 (i := 48 + n % 10) (by omega) (by omega), show (48 + n % 10) % 256 = 48 + n % 10 by omega]
  refine Ev.bind e (Evx.pos ?_ (Evx.eq (Ev.now _) (cat_nums _ _)))
  rw [size_strOfNums, size_strOfNums]
  simp only [List.length_cons, List.length_nil]
  omega
theorem digs_year {n : Int} (h : 1000 ≤ n ∧ n ≤ 9999) : Ev (fun k => spec_l00Digits.f k n) (yr n) := by
  have h1 := digs1 (n := n / 10 / 10 / 10) (by omega)
  have h2 := digs_more (n := n / 10 / 10) (by omega) (by simp) h1
  have h3 := digs_more (n := n / 10) (by omega) (by simp) h2
  have h4 := digs_more (n := n) (by omega) (by simp) h3
  refine Evx.eq h4 ?_
  unfold yr
  rw [show n / 10 / 10 / 10 = n / 1000 by omega, show n / 10 / 10 % 10 = n / 100 % 10 by omega]
  rfl
theorem dec_more {u : Nat} (h : 10 ≤ u) : Lib.decDigits u = Lib.decDigits (u / 10) ++ [UInt8.ofNat (48 + u % 10)] := by rw [Lib.decDigits, dif_neg (by omega)]
theorem itoa_year {n : Int} (h : 1000 ≤ n ∧ n ≤ 9999) : strconv_Itoa.f n = some (yr n) := by
  unfold strconv_Itoa.f
  rw [if_pos (by omega)]
  obtain ⟨u, rfl⟩ : ∃ u : Nat, n = u := ⟨n.toNat, by omega⟩
  have e : Lib.itoa (u : Int) = [UInt8.ofNat (48 + u / 1000), UInt8.ofNat (48 + u / 100 % 10), UInt8.ofNat (48 + u / 10 % 10), UInt8.ofNat (48 + u % 10)] := by
    unfold Lib.itoa
    rw [if_neg (by omega), Int.toNat_natCast, dec_more (u := u) (by omega), dec_more (u := u / 10) (by omega), dec_more (u := u / 10 / 10) (by omega), Lib.decDigits, dif_pos (by omega)]
    rw [show u / 10 / 10 / 10 = u / 1000 by omega, show u / 10 / 10 % 10 = u / 100 % 10 by omega]
    rfl
  rw [e]
  unfold yr strOfNums
  simp only [List.map_cons, List.map_nil]
  rw [show (48 + (u : Int) / 1000).toNat = 48 + u / 1000 by omega, show (48 + (u : Int) / 100 % 10).toNat = 48 + u / 100 % 10 by omega, show (48 + (u : Int) / 10 % 10).toNat = 48 + u / 10 % 10 by omega, show (48 + (u : Int) % 10).toNat = 48 + u % 10 by omega]
/-- A clock. -/
def clk (h i s : Int) : ByteArray := tw h ++ (⟨#[58]⟩ : ByteArray) ++ tw i ++ (⟨#[58]⟩ : ByteArray) ++ tw s
theorem sz1 (c : UInt8) : (⟨#[c]⟩ : ByteArray).size = 1 := rfl
theorem sz2 (c d : UInt8) : (⟨#[c, d]⟩ : ByteArray).size = 2 := rfl
theorem sz6 (c d e f g h : UInt8) : (⟨#[c, d, e, f, g, h]⟩ : ByteArray).size = 6 := rfl
theorem clk_size (h i s : Int) : (clk h i s).size = 8 := by
  unfold clk
  simp only [ByteArray.size_append, tw_size, sz1]
theorem clock1 {y m d h i s : Int} (hh : 0 ≤ h ∧ h ≤ 23) (hi : 0 ≤ i ∧ i ≤ 59) (hs : 0 ≤ s ∧ s ≤ 59) : spec_l04Clock.f y m d h i s = some (clk h i s) := by
  unfold spec_l04Clock.f
  rw [two1 (by omega), two1 (n := i) (by omega), two1 (n := s) (by omega)]
  simp only [Option.bind_some, ByteArray.size_append, tw_size, sz1]
  rfl
theorem clock2 {y m d h i s : Int} (hh : 0 ≤ h ∧ h ≤ 23) (hi : 0 ≤ i ∧ i ≤ 59) (hs : 0 ≤ s ∧ s ≤ 59) : impl_Civil_clock.f y m d h i s = some (clk h i s) := by
  unfold impl_Civil_clock.f
  rw [two2 (by omega), two2 (n := i) (by omega), two2 (n := s) (by omega)]
  simp only [Option.bind_some, ByteArray.size_append, tw_size, sz1]
  rfl
theorem parts {s : Int} (h : 0 ≤ s ∧ s ≤ 4102444799) : (1970 ≤ (civ s).1 ∧ (civ s).1 ≤ 2099) ∧ (1 ≤ (civ s).2.1 ∧ (civ s).2.1 ≤ 12) ∧ (1 ≤ (civ s).2.2.1 ∧ (civ s).2.2.1 ≤ 31) ∧ (0 ≤ (civ s).2.2.2.1 ∧ (civ s).2.2.2.1 ≤ 23) ∧ (0 ≤ (civ s).2.2.2.2.1 ∧ (civ s).2.2.2.2.1 ≤ 59) ∧ (0 ≤ (civ s).2.2.2.2.2 ∧ (civ s).2.2.2.2.2 ≤ 59) := by
  have h1 := of_decide_eq_true (civ_okc h)
  have h2 := dm_range (civ s).1 (civ s).2.1
  refine ⟨h1.1, h1.2.1, ⟨h1.2.2.1.1, ?_⟩, h1.2.2.2⟩
  have := h1.2.2.1.2
  omega
/-- The text of a stamp after RFC 3339. -/
def t3339 (s : Int) : ByteArray := yr (civ s).1 ++ (⟨#[45]⟩ : ByteArray) ++ tw (civ s).2.1 ++ (⟨#[45]⟩ : ByteArray) ++ tw (civ s).2.2.1 ++ (⟨#[84]⟩ : ByteArray) ++ clk (civ s).2.2.2.1 (civ s).2.2.2.2.1 (civ s).2.2.2.2.2 ++ (⟨#[90]⟩ : ByteArray)
theorem spec_text (s : Int) : Ev (fun k => spec_Rfc3339Text.f k s) (if 0 ≤ s ∧ s ≤ 4102444799 then (t3339 s, 0) else (⟨#[]⟩, 4)) := by
  unfold spec_Rfc3339Text.f
  refine Evx.bindc (in_eq _ _ _) ?_
  by_cases h : 0 ≤ s ∧ s ≤ 4102444799
  · rw [if_pos h]
    obtain ⟨p1, p2, p3, p4, p5, p6⟩ := parts h
    refine Evx.pos (decide_eq_true h) (Ev.bind (spec_civ h) (Ev.bind (digs_year (by omega)) (Evx.const ?_)))
    rw [two1 (by omega), two1 (n := (civ s).2.2.1) (by omega), clock1 p4 p5 p6]
    simp only [Option.bind_some, ByteArray.size_append, tw_size, yr_size, clk_size, sz1]
    rfl
  · rw [if_neg h]
    exact Evx.neg (by simpa using h) (Ev.now _)
theorem impl_text (s : Int) : Ev (fun k => impl_Rfc3339Text.f k s) (if 0 ≤ s ∧ s ≤ 4102444799 then (t3339 s, 0) else (⟨#[]⟩, 4)) := by
  unfold impl_Rfc3339Text.f impl_isStamp.f
  rw [within_eq]
  refine Evx.bindc (b := decide (0 ≤ s ∧ s ≤ 4102444799)) rfl ?_
  by_cases h : 0 ≤ s ∧ s ≤ 4102444799
  · rw [if_pos h]
    obtain ⟨p1, p2, p3, p4, p5, p6⟩ := parts h
    refine Evx.pos (decide_eq_true h) (Ev.bind (impl_civ h) (Evx.const ?_))
    rw [itoa_year (by omega), two2 (by omega), two2 (n := (civ s).2.2.1) (by omega), clock2 p4 p5 p6]
    simp only [Option.bind_some, ByteArray.size_append, tw_size, yr_size, clk_size, sz1]
    rfl
  · rw [if_neg h]
    exact Evx.neg (by simpa using h) (Ev.now _)
/-- The names of the days of the week, and of the months. -/
def wds : List ByteArray := [(⟨#[83, 117, 110]⟩ : ByteArray), (⟨#[77, 111, 110]⟩ : ByteArray), (⟨#[84, 117, 101]⟩ : ByteArray), (⟨#[87, 101, 100]⟩ : ByteArray), (⟨#[84, 104, 117]⟩ : ByteArray), (⟨#[70, 114, 105]⟩ : ByteArray), (⟨#[83, 97, 116]⟩ : ByteArray)]
def mns : List ByteArray := [(⟨#[74, 97, 110]⟩ : ByteArray), (⟨#[70, 101, 98]⟩ : ByteArray), (⟨#[77, 97, 114]⟩ : ByteArray), (⟨#[65, 112, 114]⟩ : ByteArray), (⟨#[77, 97, 121]⟩ : ByteArray), (⟨#[74, 117, 110]⟩ : ByteArray), (⟨#[74, 117, 108]⟩ : ByteArray), (⟨#[65, 117, 103]⟩ : ByteArray), (⟨#[83, 101, 112]⟩ : ByteArray), (⟨#[79, 99, 116]⟩ : ByteArray), (⟨#[78, 111, 118]⟩ : ByteArray), (⟨#[68, 101, 99]⟩ : ByteArray)]
def wd (i : Int) : ByteArray := rdOf ByteArray.empty wds i
def mn (m : Int) : ByteArray := rdOf ByteArray.empty mns (m - 1)
theorem wd_size {i : Int} (h : 0 ≤ i ∧ i < 7) : (wd i).size = 3 := by
  obtain ⟨k, rfl⟩ : ∃ k : Nat, i = k := ⟨i.toNat, by omega⟩
  have hk : k < 7 := by omega
  clear h
  revert k
  decide
theorem mn_size {m : Int} (h : 1 ≤ m ∧ m ≤ 12) : (mn m).size = 3 := by
  obtain ⟨k, rfl⟩ : ∃ k : Nat, m = (k : Int) + 1 := ⟨(m - 1).toNat, by omega⟩
  have hk : k < 12 := by omega
  clear h
  have e : (k : Int) + 1 - 1 = k := by omega
  unfold mn
  rw [e]
  clear e
  revert k
  decide
/-- The day of the week of a stamp. -/
def wdi (s : Int) : Int := (s / 86400 + 4) % 7
theorem week_idx {s : Int} (h : 0 ≤ s ∧ s ≤ 4102444799) : Int.tmod (wrap64 ((wrap64 (Int.tdiv s 86400)) + 4)) 7 = wdi s := by
  rw [tdiv_nn h.1, Evx.w64 (i := s / 86400) (by omega) (by omega), Evx.w64 (i := s / 86400 + 4) (by omega) (by omega), tmod_nn (by omega)]
  rfl
theorem wdi_range (s : Int) : 0 ≤ wdi s ∧ wdi s < 7 := by unfold wdi; omega
theorem weekday1 {i : Int} (h : 0 ≤ i ∧ i < 7) : spec_l04Weekday.f i = some (wd i) := by
  unfold spec_l04Weekday.f
  simp only [Option.bind_some]
  rw [if_pos h.1]
  exact (if_pos h.2).trans rfl
theorem month1 {m : Int} (h : 1 ≤ m ∧ m ≤ 12) : spec_l04Month.f m = some (mn m) := by
  unfold spec_l04Month.f
  simp only [Option.bind_some]
  rw [Evx.w64 (i := m - 1) (by omega) (by omega), if_pos (by omega)]
  exact (if_pos (show m - 1 < 12 by omega)).trans rfl
theorem weekdays2 : impl_weekdays.f = some wds := rfl
theorem months2 : impl_months.f = some mns := rfl
theorem weekday2 {s : Int} (h : 0 ≤ s ∧ s ≤ 4102444799) : impl_weekday.f s = some (wdi s) := by
  unfold impl_weekday.f
  rw [week_idx h]
/-- The text of a stamp after RFC 822. -/
def t822 (s : Int) : ByteArray := wd (wdi s) ++ (⟨#[44, 32]⟩ : ByteArray) ++ tw (civ s).2.2.1 ++ (⟨#[32]⟩ : ByteArray) ++ mn (civ s).2.1 ++ (⟨#[32]⟩ : ByteArray) ++ yr (civ s).1 ++ (⟨#[32]⟩ : ByteArray) ++ clk (civ s).2.2.2.1 (civ s).2.2.2.2.1 (civ s).2.2.2.2.2 ++ (⟨#[32, 43, 48, 48, 48, 48]⟩ : ByteArray)
theorem spec_r822 {s : Int} (h : 0 ≤ s ∧ s ≤ 4102444799) : Ev (fun k => spec_l04Rfc822.f k s) (t822 s) := by
  obtain ⟨p1, p2, p3, p4, p5, p6⟩ := parts h
  unfold spec_l04Rfc822.f
  refine Ev.bind (spec_civ h) ?_
  rw [week_idx h]
  refine Evx.bindc (weekday1 (wdi_range s)) ?_
  have sw := wd_size (wdi_range s)
  have sm := mn_size p2
  refine Evx.pos (by omega) (Evx.bindc (two1 (by omega)) (Evx.pos (by simp only [ByteArray.size_append, sw, tw_size, sz2]; omega) (Evx.pos (by simp only [ByteArray.size_append, sw, tw_size, sz2]; omega) (Evx.bindc (month1 p2) (Evx.pos (by simp only [ByteArray.size_append, sw, sm, tw_size, sz2, sz1]; omega) (Evx.pos (by simp only [ByteArray.size_append, sw, sm, tw_size, sz2, sz1]; omega) (Ev.bind (digs_year (by omega)) ?_)))))))
  refine Evx.pos (by simp only [ByteArray.size_append, sw, sm, tw_size, yr_size, sz2, sz1]; omega) (Evx.pos (by simp only [ByteArray.size_append, sw, sm, tw_size, yr_size, sz2, sz1]; omega) (Evx.bindc (clock1 p4 p5 p6) ?_))
  refine Evx.pos (by simp only [ByteArray.size_append, sw, sm, tw_size, yr_size, clk_size, sz2, sz1]; omega) (Evx.pos (by simp only [ByteArray.size_append, sw, sm, tw_size, yr_size, clk_size, sz2, sz1]; omega) (Ev.now _))
theorem impl_text822 (s : Int) : Ev (fun k => impl_Rfc822Text.f k s) (if 0 ≤ s ∧ s ≤ 4102444799 then (t822 s, 0) else (⟨#[]⟩, 4)) := by
  unfold impl_Rfc822Text.f impl_isStamp.f
  rw [within_eq]
  refine Evx.bindc (b := decide (0 ≤ s ∧ s ≤ 4102444799)) rfl ?_
  by_cases h : 0 ≤ s ∧ s ≤ 4102444799
  · rw [if_pos h]
    obtain ⟨p1, p2, p3, p4, p5, p6⟩ := parts h
    have sw := wd_size (wdi_range s)
    have sm := mn_size p2
    have wr := wdi_range s
    refine Evx.pos (decide_eq_true h) (Ev.bind (impl_civ h) (Evx.bindc weekdays2 (Evx.bindc (weekday2 h) ?_)))
    rw [Evx.w64 (i := (civ s).2.1 - 1) (by omega) (by omega)]
    have ew : rdOf ByteArray.empty wds (wdi s) = wd (wdi s) := rfl
    have em : rdOf ByteArray.empty mns ((civ s).2.1 - 1) = mn (civ s).2.1 := rfl
    rw [ew]
    refine Evx.pos wr.1 (Evx.pos wr.2 (Evx.pos (by omega) (Evx.bindc (two2 (by omega)) (Evx.pos (by simp only [ByteArray.size_append, sw, tw_size, sz2]; omega) (Evx.pos (by simp only [ByteArray.size_append, sw, tw_size, sz2]; omega) (Evx.bindc months2 ?_))))))
    rw [em]
    refine Evx.pos (by omega) (Evx.pos (by show (civ s).2.1 - 1 < 12; omega) (Evx.pos (by simp only [ByteArray.size_append, sw, sm, tw_size, sz2, sz1]; omega) (Evx.pos (by simp only [ByteArray.size_append, sw, sm, tw_size, sz2, sz1]; omega) (Evx.bindc (itoa_year (by omega)) ?_))))
    refine Evx.pos (by simp only [ByteArray.size_append, sw, sm, tw_size, yr_size, sz2, sz1]; omega) (Evx.pos (by simp only [ByteArray.size_append, sw, sm, tw_size, yr_size, sz2, sz1]; omega) (Evx.bindc (clock2 p4 p5 p6) ?_))
    refine Evx.pos (by simp only [ByteArray.size_append, sw, sm, tw_size, yr_size, clk_size, sz2, sz1]; omega) (Evx.pos (by simp only [ByteArray.size_append, sw, sm, tw_size, yr_size, clk_size, sz2, sz1]; omega) (Ev.now _))
  · rw [if_neg h]
    exact Evx.neg (by simpa using h) (Ev.now _)
end Go.Proofs.YteknchhlineciaaGreatDoor.TQFnExactFeedText
namespace Go.Proofs.YteknchhlineciaaGreatDoor.SQFnExactFeedText
open Go.RowKit Go.Proofs.YteknchhlineciaaGreatDoor.QFnExactFeedText Go.Proofs.YteknchhlineciaaGreatDoorW.PrintWords Go.Proofs.YteknchhlineciaaGreatDoorW.PrintLast Go.Proofs.YteknchhlineciaaGreatDoor.Rpl Go.Proofs.YteknchhlineciaaGreatDoor.Evx
set_option linter.unusedSimpArgs false
set_option linter.unusedVariables false
theorem nums_append (l m : List UInt8) : Lib.numsL (l ++ m) = Lib.numsL l ++ Lib.numsL m := by unfold Lib.numsL; rw [List.map_append]
theorem nums_str (l : List UInt8) : strOfNums (Lib.numsL l) = ⟨l.toArray⟩ := by
  show (⟨(Lib.bytesOf (Lib.numsL l)).toArray⟩ : ByteArray) = _
  rw [Lib.bytesOf_numsL]
theorem e1_other : ∀ n : Fin 256, n.val ≠ 38 → n.val ≠ 60 → n.val ≠ 62 → n.val ≠ 34 → n.val ≠ 13 → e1 (UInt8.ofNat n.val) = [UInt8.ofNat n.val] := by decide +kernel
theorem loop (s : ByteArray) (hs : s.size ≤ 100000) : ∀ (d i : Nat), s.size - i ≤ d → i ≤ s.size → Ev (fun k => spec_l05Escape.l0 k s (Lib.numsL (esc (s.data.toList.take i))) (i : Int)) ⟨(esc s.data.toList).toArray⟩ := by
  intro d
  induction d with
  | zero =>
    intro i hd hi
    obtain rfl : i = s.size := by omega
    refine Ev.step (fun k => by rw [spec_l05Escape.l0]) ?_
    have h0 : s.data.toList.take s.size = s.data.toList := by
      have h3 : s.data.toList.length = s.size := rfl
      rw [← h3, List.take_length]
    refine Evx.neg (by omega) ?_
    rw [h0, nums_str]
    exact Ev.now _
  | succ d ih =>
    intro i hd hi
    by_cases h : i < s.size
    · obtain ⟨b, hb⟩ : ∃ b, s.data.toList[i]? = some b := ⟨_, List.getElem?_eq_getElem (show i < s.data.toList.length from h)⟩
      have hbt : bt s (i : Int) = (b.toNat : Int) := by
        rw [bt_bs]
        unfold bs
        rw [List.getD_eq_getElem?_getD, List.getElem?_map, Int.toNat_natCast, hb]
        rfl
      have htk : esc (s.data.toList.take (i + 1)) = esc (s.data.toList.take i) ++ e1 b := by
        rw [List.take_add_one, hb, esc_append]
        simp [esc]
      have hl := (esc_len (s.data.toList.take i)).2
      have hl2 : (s.data.toList.take i).length ≤ i := by rw [List.length_take]; omega
      have hl3 : (Lib.numsL (esc (s.data.toList.take i))).length ≤ 600000 := by rw [Lib.numsL_length]; omega
      have nx := ih (i + 1) (by omega) (by omega)
      have hw : wrap64 ((i : Int) + 1) = ((i + 1 : Nat) : Int) := by rw [Evx.w64 (by omega) (by omega)]; omega
      rw [htk, nums_append] at nx
      have go : ∀ t : List Int, Lib.numsL (e1 b) = t → Ev (fun k => spec_l05Escape.l0 k s (Lib.numsL (esc (s.data.toList.take i)) ++ t) (wrap64 ((i : Int) + 1))) ⟨(esc s.data.toList).toArray⟩ := by
        intro t ht
        rw [hw, ← ht]
        exact nx
      clear nx hw htk ih
      generalize Lib.numsL (esc (s.data.toList.take i)) = acc at *
      have hbb : b = UInt8.ofNat b.toNat := UInt8.ofNat_toNat.symm
      refine Ev.step (fun k => by rw [spec_l05Escape.l0]) ?_
      refine Evx.pos (by omega) (Evx.pos (by omega) ?_)
      rw [hbt]
      by_cases h38 : b.toNat = 38
      · refine Evx.pos (by omega) (Evx.pos (by omega) (go _ ?_))
        rw [hbb, h38]
        rfl
      refine Evx.neg (by omega) ?_
      by_cases h60 : b.toNat = 60
      · refine Evx.pos (by omega) (Evx.pos (by omega) (go _ ?_))
        rw [hbb, h60]
        rfl
      refine Evx.neg (by omega) ?_
      by_cases h62 : b.toNat = 62
      · refine Evx.pos (by omega) (Evx.pos (by omega) (go _ ?_))
        rw [hbb, h62]
        rfl
      refine Evx.neg (by omega) ?_
      by_cases h34 : b.toNat = 34
      · refine Evx.pos (by omega) (Evx.pos (by omega) (go _ ?_))
        rw [hbb, h34]
        rfl
      refine Evx.neg (by omega) ?_
      by_cases h13 : b.toNat = 13
      · refine Evx.pos (by omega) (Evx.pos (by omega) (go _ ?_))
        rw [hbb, h13]
        rfl
      refine Evx.neg (by omega) (Evx.pos (by omega) (go _ ?_))
      have h1 := e1_other ⟨b.toNat, UInt8.toNat_lt b⟩ h38 h60 h62 h34 h13
      simp only [UInt8.ofNat_toNat] at h1
      rw [h1]
      rfl
    · obtain rfl : i = s.size := by omega
      refine Ev.step (fun k => by rw [spec_l05Escape.l0]) ?_
      have h0 : s.data.toList.take s.size = s.data.toList := by
        have h3 : s.data.toList.length = s.size := rfl
        rw [← h3, List.take_length]
      refine Evx.neg (by omega) ?_
      rw [h0, nums_str]
      exact Ev.now _
theorem escape_eq (s : ByteArray) (hs : s.size ≤ 100000) : ∃ v, impl_escapeXml.f s = some v ∧ Ev (fun k => spec_l05Escape.f k s) v := by
  refine ⟨_, by unfold impl_escapeXml.f; rw [if_pos hs], ?_⟩
  unfold spec_l05Escape.f
  exact loop s hs s.size 0 (by omega) (by omega)
end Go.Proofs.YteknchhlineciaaGreatDoor.SQFnExactFeedText
namespace Go.Proofs.YteknchhlineciaaGreatDoor.FQFnExactFeedText
open Go.RowKit Go.Proofs.YteknchhlineciaaGreatDoor.QFnExactFeedText Go.Proofs.YteknchhlineciaaGreatDoorW.PrintWords Go.Proofs.YteknchhlineciaaGreatDoorW.PrintLast Go.Proofs.YteknchhlineciaaGreatDoor.Rpl Go.Proofs.YteknchhlineciaaGreatDoor.Evx Go.Proofs.YteknchhlineciaaGreatDoor.NQFnExactFeedText
open Go.Proofs.YteknchhlineciaaGreatDoor.TQFnExactFeedText (t3339 t822 spec_text impl_text spec_r822 impl_text822 tw_size yr_size clk_size wd_size mn_size wdi_range parts)
set_option linter.unusedSimpArgs false
set_option linter.unusedVariables false
def escB (v : ByteArray) : ByteArray := ⟨(esc v.data.toList).toArray⟩
theorem escB_size (v : ByteArray) : (escB v).size ≤ 6 * v.size := (esc_len v.data.toList).2
theorem szl (a : Array UInt8) : (⟨a⟩ : ByteArray).size = a.size := rfl
theorem esc_impl {v : ByteArray} (h : v.size ≤ 10000) : Ev (fun _ : Nat => impl_escapeXml.f v) (escB v) := by
  refine Evx.const ?_
  unfold impl_escapeXml.f
  rw [if_pos (by omega)]
  rfl
theorem esc_spec {v : ByteArray} (h : v.size ≤ 10000) : Ev (fun k => spec_l05Escape.f k v) (escB v) := by
  unfold spec_l05Escape.f
  exact SQFnExactFeedText.loop v (by omega) v.size 0 (by omega) (by omega)
/-- An element. -/
def tag (n v : ByteArray) : ByteArray := ((((((⟨#[60]⟩ : ByteArray) ++ n) ++ (⟨#[62]⟩ : ByteArray)) ++ escB v) ++ (⟨#[60, 47]⟩ : ByteArray)) ++ n) ++ (⟨#[62]⟩ : ByteArray)
theorem tag_size {n v : ByteArray} (hn : n.size ≤ 20) (hv : v.size ≤ 10000) : (tag n v).size ≤ 61000 := by
  have h := escB_size v
  unfold tag
  simp only [ByteArray.size_append, szl, List.size_toArray, List.length_cons, List.length_nil]
  omega
theorem tag_impl {n v : ByteArray} (hn : n.size ≤ 20) (hv : v.size ≤ 10000) : Ev (fun _ : Nat => impl_element.f n v) (tag n v) := by
  have h := escB_size v
  unfold impl_element.f
  refine Evx.pos (by omega) (Evx.pos ?_ (Ev.bind (esc_impl hv) (Evx.pos ?_ (Evx.pos ?_ (Evx.pos ?_ (Evx.pos ?_ (Ev.now _)))))))
  all_goals (simp only [ByteArray.size_append, szl, List.size_toArray, List.length_cons, List.length_nil]; omega)
theorem tag_spec {n v : ByteArray} (hn : n.size ≤ 20) (hv : v.size ≤ 10000) : Ev (fun k => spec_l06Tag.f k n v) (tag n v) := by
  have h := escB_size v
  unfold spec_l06Tag.f
  refine Evx.pos (by omega) (Evx.pos ?_ (Ev.bind (esc_spec hv) (Evx.pos ?_ (Evx.pos ?_ (Evx.pos ?_ (Evx.pos ?_ (Ev.now _)))))))
  all_goals (simp only [ByteArray.size_append, szl, List.size_toArray, List.length_cons, List.length_nil]; omega)
theorem t822_size {s : Int} (h : 0 ≤ s ∧ s ≤ 4102444799) : (t822 s).size ≤ 100 := by
  obtain ⟨p1, p2, p3, p4, p5, p6⟩ := parts h
  unfold t822
  have sw := wd_size (wdi_range s)
  have sm := mn_size p2
  simp only [ByteArray.size_append, tw_size, yr_size, clk_size, sw, sm, szl, List.size_toArray, List.length_cons, List.length_nil]
  omega
theorem t3339_size (s : Int) : (t3339 s).size ≤ 100 := by
  unfold t3339
  simp only [ByteArray.size_append, tw_size, yr_size, clk_size, szl, List.size_toArray, List.length_cons, List.length_nil]
  omega
/-- An entry that is right. -/
structure Ok (x : S49) : Prop where
  z0 : x.f0.size ≤ 10000
  z1 : x.f1.size ≤ 10000
  z2 : x.f2.size ≤ 10000
  z3 : x.f3.size ≤ 10000
  z5 : x.f5.size ≤ 10000
  st : 0 ≤ x.f4 ∧ x.f4 ≤ 4102444799
def rss (x : S49) : ByteArray := (((((((⟨#[60, 105, 116, 101, 109, 62]⟩ : ByteArray) ++ tag (⟨#[103, 117, 105, 100]⟩ : ByteArray) x.f0) ++ tag (⟨#[116, 105, 116, 108, 101]⟩ : ByteArray) x.f1) ++ tag (⟨#[108, 105, 110, 107]⟩ : ByteArray) x.f2) ++ tag (⟨#[97, 117, 116, 104, 111, 114]⟩ : ByteArray) x.f3) ++ tag (⟨#[112, 117, 98, 68, 97, 116, 101]⟩ : ByteArray) (t822 x.f4)) ++ tag (⟨#[100, 101, 115, 99, 114, 105, 112, 116, 105, 111, 110]⟩ : ByteArray) x.f5) ++ (⟨#[60, 47, 105, 116, 101, 109, 62]⟩ : ByteArray)
theorem le20 : (⟨#[103, 117, 105, 100]⟩ : ByteArray).size ≤ 20 ∧ (⟨#[116, 105, 116, 108, 101]⟩ : ByteArray).size ≤ 20 ∧ (⟨#[108, 105, 110, 107]⟩ : ByteArray).size ≤ 20 ∧ (⟨#[97, 117, 116, 104, 111, 114]⟩ : ByteArray).size ≤ 20 ∧ (⟨#[112, 117, 98, 68, 97, 116, 101]⟩ : ByteArray).size ≤ 20 ∧ (⟨#[100, 101, 115, 99, 114, 105, 112, 116, 105, 111, 110]⟩ : ByteArray).size ≤ 20 ∧ (⟨#[105, 100]⟩ : ByteArray).size ≤ 20 ∧ (⟨#[110, 97, 109, 101]⟩ : ByteArray).size ≤ 20 ∧ (⟨#[117, 112, 100, 97, 116, 101, 100]⟩ : ByteArray).size ≤ 20 ∧ (⟨#[99, 111, 110, 116, 101, 110, 116]⟩ : ByteArray).size ≤ 20 := by decide
theorem rss_both {x : S49} (h : Ok x) : Ev (fun k => impl_rssItem.f k x.f0 x.f1 x.f2 x.f3 x.f4 x.f5) (rss x) ∧ Ev (fun k => spec_l06Rss.f k x.f0 x.f1 x.f2 x.f3 x.f4 x.f5) (rss x) ∧ (rss x).size ≤ 500000 := by
  obtain ⟨n1, n2, n3, n4, n5, n6, n7, n8, n9, n10⟩ := le20
  have hd := t822_size h.st
  have d1 := tag_size n1 h.z0
  have d2 := tag_size n2 h.z1
  have d3 := tag_size n3 h.z2
  have d4 := tag_size n4 h.z3
  have d5 := tag_size n5 (v := t822 x.f4) (by omega)
  have d6 := tag_size n6 h.z5
  have di := impl_text822 x.f4
  rw [if_pos h.st] at di
  refine ⟨?_, ?_, ?_⟩
  · unfold impl_rssItem.f
    refine Ev.bind di (Ev.bind (tag_impl n1 h.z0) (Evx.pos (by omega) (Ev.bind (tag_impl n2 h.z1) (Evx.pos ?_ (Ev.bind (tag_impl n3 h.z2) (Evx.pos ?_ (Ev.bind (tag_impl n4 h.z3) (Evx.pos ?_ (Ev.bind (tag_impl n5 (by show (t822 x.f4).size ≤ 10000; omega)) (Evx.pos ?_ (Ev.bind (tag_impl n6 h.z5) (Evx.pos ?_ (Evx.pos ?_ (Ev.now _))))))))))))))
    all_goals (simp only [ByteArray.size_append, szl, List.size_toArray, List.length_cons, List.length_nil]; omega)
  · unfold spec_l06Rss.f
    refine Ev.bind (tag_spec n1 h.z0) (Evx.pos (by omega) (Ev.bind (tag_spec n2 h.z1) (Evx.pos ?_ (Ev.bind (tag_spec n3 h.z2) (Evx.pos ?_ (Ev.bind (tag_spec n4 h.z3) (Evx.pos ?_ (Ev.bind (spec_r822 h.st) (Ev.bind (tag_spec n5 (by omega)) (Evx.pos ?_ (Ev.bind (tag_spec n6 h.z5) (Evx.pos ?_ (Evx.pos ?_ (Ev.now _))))))))))))))
    all_goals (simp only [ByteArray.size_append, szl, List.size_toArray, List.length_cons, List.length_nil]; omega)
  · unfold rss
    simp only [ByteArray.size_append, szl, List.size_toArray, List.length_cons, List.length_nil]
    omega
def atom (x : S49) : ByteArray := ((((((((((⟨#[60, 101, 110, 116, 114, 121, 62]⟩ : ByteArray) ++ tag (⟨#[105, 100]⟩ : ByteArray) x.f0) ++ tag (⟨#[116, 105, 116, 108, 101]⟩ : ByteArray) x.f1) ++ (⟨#[60, 108, 105, 110, 107, 32, 104, 114, 101, 102, 61, 34]⟩ : ByteArray)) ++ escB x.f2) ++ (⟨#[34, 47, 62, 60, 97, 117, 116, 104, 111, 114, 62]⟩ : ByteArray)) ++ tag (⟨#[110, 97, 109, 101]⟩ : ByteArray) x.f3) ++ (⟨#[60, 47, 97, 117, 116, 104, 111, 114, 62]⟩ : ByteArray)) ++ tag (⟨#[117, 112, 100, 97, 116, 101, 100]⟩ : ByteArray) (t3339 x.f4)) ++ tag (⟨#[99, 111, 110, 116, 101, 110, 116]⟩ : ByteArray) x.f5) ++ (⟨#[60, 47, 101, 110, 116, 114, 121, 62]⟩ : ByteArray)
theorem atom_both {x : S49} (h : Ok x) : Ev (fun k => impl_atomEntry.f k x.f0 x.f1 x.f2 x.f3 x.f4 x.f5) (atom x) ∧ Ev (fun k => spec_l06Atom.f k x.f0 x.f1 x.f2 x.f3 x.f4 x.f5) (atom x) ∧ (atom x).size ≤ 500000 := by
  obtain ⟨n1, n2, n3, n4, n5, n6, n7, n8, n9, n10⟩ := le20
  have hd := t3339_size x.f4
  have d1 := tag_size n7 h.z0
  have d2 := tag_size n2 h.z1
  have d3 := escB_size x.f2
  have z2 := h.z2
  have d4 := tag_size n8 h.z3
  have d5 := tag_size n9 (v := t3339 x.f4) (by omega)
  have d6 := tag_size n10 h.z5
  have di := impl_text x.f4
  have ds := spec_text x.f4
  rw [if_pos h.st] at di ds
  refine ⟨?_, ?_, ?_⟩
  · unfold impl_atomEntry.f
    refine Ev.bind di (Ev.bind (tag_impl n7 h.z0) (Evx.pos (by omega) (Ev.bind (tag_impl n2 h.z1) (Evx.pos ?_ (Evx.pos ?_ (Ev.bind (esc_impl h.z2) (Evx.pos ?_ (Evx.pos ?_ (Ev.bind (tag_impl n8 h.z3) (Evx.pos ?_ (Evx.pos ?_ (Ev.bind (tag_impl n9 (by show (t3339 x.f4).size ≤ 10000; omega)) (Evx.pos ?_ (Ev.bind (tag_impl n10 h.z5) (Evx.pos ?_ (Evx.pos ?_ (Ev.now _)))))))))))))))))
    all_goals (simp only [ByteArray.size_append, szl, List.size_toArray, List.length_cons, List.length_nil]; omega)
  · unfold spec_l06Atom.f
    refine Ev.bind ds (Ev.bind (tag_spec n7 h.z0) (Evx.pos (by omega) (Ev.bind (tag_spec n2 h.z1) (Evx.pos ?_ (Evx.pos ?_ (Ev.bind (esc_spec h.z2) (Evx.pos ?_ (Evx.pos ?_ (Ev.bind (tag_spec n8 h.z3) (Evx.pos ?_ (Evx.pos ?_ (Ev.bind (tag_spec n9 (by show (t3339 x.f4).size ≤ 10000; omega)) (Evx.pos ?_ (Ev.bind (tag_spec n10 h.z5) (Evx.pos ?_ (Evx.pos ?_ (Ev.now _)))))))))))))))))
    all_goals (simp only [ByteArray.size_append, szl, List.size_toArray, List.length_cons, List.length_nil]; omega)
  · unfold atom
    simp only [ByteArray.size_append, szl, List.size_toArray, List.length_cons, List.length_nil]
    omega
theorem and_bind {x y : Option Bool} (h : (x.bind fun t => if t = true then y else some false) = some true) : x = some true ∧ y = some true := by
  obtain ⟨b, e, h⟩ := Option.bind_eq_some_iff.mp h
  cases b with
  | false => cases h
  | true => exact ⟨e, h⟩
theorem field_true {k : Nat} {a : ByteArray} (h : spec_l06Field.f k a = some true) : a.size ≤ 200 := by
  unfold spec_l06Field.f at h
  by_cases hs : (a.size : Int) ≤ 200
  · omega
  · rw [if_neg hs] at h
    cases h
theorem entry_true {k : Nat} {x : S49} (h : spec_EntryOK.f k x.f0 x.f1 x.f2 x.f3 x.f4 x.f5 = some true) : Ok x := by
  unfold spec_EntryOK.f at h
  by_cases h0 : x.f0.toList = ([] : List UInt8)
  · rw [if_pos h0] at h
    cases h
  rw [if_neg h0] at h
  obtain ⟨e0, h⟩ := and_bind h
  obtain ⟨e1, h⟩ := and_bind h
  obtain ⟨e2, h⟩ := and_bind h
  obtain ⟨e3, h⟩ := and_bind h
  obtain ⟨e4, h⟩ := and_bind h
  have g0 := field_true e0
  have g1 := field_true e1
  have g2 := field_true e2
  have g3 := field_true e3
  rw [TQFnExactFeedText.in_eq] at e4
  have g4 := of_decide_eq_true (Option.some.inj e4)
  by_cases hs : (x.f5.size : Int) ≤ 1000
  · exact ⟨by omega, by omega, by omega, by omega, by omega, g4⟩
  · rw [if_neg hs] at h
    cases h
theorem loop_true (a0 : Bool) (a1 : ByteArray) (m : List S49) (hm : m.length ≤ 1048576) : ∀ (k i : Nat), spec_FeedOK.l0 k (i : Int) a0 a1 m = some true → ∀ j, i ≤ j → (hj : j < m.length) → Ok m[j] := by
  intro k
  induction k with
  | zero => intro i h; simp [spec_FeedOK.l0] at h
  | succ k ih =>
    intro i h j hij hj
    rw [spec_FeedOK.l0, if_pos (by omega), if_pos (by omega), rd49 m i (by omega)] at h
    obtain ⟨e, h⟩ := and_bind h
    by_cases he : i = j
    · subst he
      exact entry_true e
    · rw [Evx.w64 (by omega) (by omega)] at h
      exact ih (i + 1) h j (by omega) hj
theorem feed_true (a0 : Bool) (a1 : ByteArray) (m : List S49) (hm : m.length ≤ 1048576) (h : Ev (fun k => spec_FeedOK.f k a0 a1 m) true) : a1.size ≤ 200 ∧ m.length ≤ 20 ∧ ∀ x ∈ m, Ok x := by
  obtain ⟨k, h⟩ := Ev.rounds h
  unfold spec_FeedOK.f at h
  obtain ⟨b, e, h⟩ := Option.bind_eq_some_iff.mp h
  cases k with
  | zero => cases b <;> simp [spec_FeedOK.j0] at h
  | succ k =>
    cases b with
    | false =>
      rw [if_neg (by simp), spec_FeedOK.j0, if_pos rfl] at h
      cases h
    | true =>
      rw [if_pos rfl, spec_FeedOK.j0] at h
      by_cases hl : (m.length : Int) > 20
      · rw [if_pos (decide_eq_true hl)] at h
        cases h
      · rw [if_neg (by simpa using hl)] at h
        refine ⟨field_true e, by omega, fun x hx => ?_⟩
        obtain ⟨j, hj, rfl⟩ := List.getElem_of_mem hx
        exact loop_true a0 a1 m hm k 0 h j (Nat.zero_le _) hj
theorem cat_list (x y : ByteArray) : (x ++ y).data.toList = x.data.toList ++ y.data.toList := by
  rw [ByteArray.data_append, Array.toList_append]
theorem beg_size (a : Bool) : (impl_FeedText.beg a).size ≤ 100 := by cases a <;> decide
theorem text_loop (a0 : Bool) (a1 : ByteArray) (m : List S49) (hm : m.length ≤ 20) (hok : ∀ x ∈ m, Ok x) (d : Nat) : ∀ i : Nat, i + d = m.length → ∀ X : ByteArray, X.size ≤ 500000 * (i + 1) →
    ∃ Y, Ev (fun k => impl_FeedText.go k a0 (m.drop i) ((impl_FeedText.beg a0).data.toList ++ X.data.toList)) ((impl_FeedText.beg a0).data.toList ++ Y.data.toList) ∧ Ev (fun k => spec_l06Text.l0 k X (i : Int) a0 a1 m) ((impl_FeedText.beg a0 ++ Y) ++ impl_FeedText.end_ a0) ∧ Y.size ≤ 500000 * 21 := by
  induction d with
  | zero =>
    intro i hi X hX
    have hX2 : X.size ≤ 500000 * 21 := Nat.le_trans hX (Nat.mul_le_mul_left _ (by omega))
    refine ⟨X, ?_, ?_, hX2⟩
    · rw [List.drop_eq_nil_of_le (by omega)]
      exact Evx.fn (f := fun _ => some ((impl_FeedText.beg a0).data.toList ++ X.data.toList)) (Ev.now _) (by funext k; rw [impl_FeedText.go])
    · refine Ev.step (fun k => by rw [spec_l06Text.l0]) ?_
      refine Evx.neg (by omega) ?_
      cases a0 with
      | true =>
        refine Evx.pos rfl (Evx.pos (by omega) (Evx.pos ?_ (Ev.now _)))
        simp only [ByteArray.size_append, szl, List.size_toArray, List.length_cons, List.length_nil]
        omega
      | false =>
        refine Evx.neg (by simp) (Evx.pos (by omega) (Evx.pos ?_ (Ev.now _)))
        simp only [ByteArray.size_append, szl, List.size_toArray, List.length_cons, List.length_nil]
        omega
  | succ d ih =>
    intro i hi X hX
    have hil : i < m.length := by omega
    have hX2 : X.size ≤ 500000 * 21 := Nat.le_trans hX (Nat.mul_le_mul_left _ (by omega))
    have hx := hok m[i] (List.getElem_mem hil)
    have er := rd49 m i hil
    rw [List.drop_eq_getElem_cons hil]
    generalize m[i] = x at hx er ⊢
    have hb := beg_size a0
    have key : ∀ t : ByteArray, t.size ≤ 500000 → Ev (fun k => impl_FeedText.each k a0 x) t → (∀ r, Ev (fun k => spec_l06Text.l0 k (X ++ t) (wrap64 ((i : Int) + 1)) a0 a1 m) r → Ev (fun k => spec_l06Text.l0 k X (i : Int) a0 a1 m) r) →
        ∃ Y, Ev (fun k => impl_FeedText.go k a0 (x :: m.drop (i + 1)) ((impl_FeedText.beg a0).data.toList ++ X.data.toList)) ((impl_FeedText.beg a0).data.toList ++ Y.data.toList) ∧ Ev (fun k => spec_l06Text.l0 k X (i : Int) a0 a1 m) ((impl_FeedText.beg a0 ++ Y) ++ impl_FeedText.end_ a0) ∧ Y.size ≤ 500000 * 21 := by
      intro t ht he hs
      obtain ⟨Y, h1, h2, h3⟩ := ih (i + 1) (by omega) (X ++ t) (by rw [ByteArray.size_append]; omega)
      refine ⟨Y, ?_, hs _ (by rw [Evx.w64 (by omega) (by omega)]; exact h2), h3⟩
      refine Evx.fn (f := fun k => (impl_FeedText.each k a0 x).bind fun t => if ((impl_FeedText.beg a0).data.toList ++ X.data.toList).length + t.size ≤ 100000000 then impl_FeedText.go k a0 (m.drop (i + 1)) (((impl_FeedText.beg a0).data.toList ++ X.data.toList) ++ t.data.toList) else none) ?_ (by funext k; rw [impl_FeedText.go])
      refine Ev.bind he (Evx.pos ?_ ?_)
      · rw [List.length_append]
        have e1 : (impl_FeedText.beg a0).data.toList.length = (impl_FeedText.beg a0).size := rfl
        have e2 : X.data.toList.length = X.size := rfl
        omega
      · rw [List.append_assoc, ← cat_list]
        exact h1
    cases a0 with
    | true =>
      obtain ⟨e1, e2, e3⟩ := atom_both hx
      refine key (atom x) e3 (by unfold impl_FeedText.each; exact Evx.pos rfl e1) (fun r hr => ?_)
      refine Ev.step (fun k => by rw [spec_l06Text.l0]) ?_
      refine Evx.pos (by omega) (Evx.pos rfl (Evx.pos (by omega) ?_))
      rw [er]
      exact Ev.bind e2 (Evx.pos (by omega) hr)
    | false =>
      obtain ⟨e1, e2, e3⟩ := rss_both hx
      refine key (rss x) e3 (by unfold impl_FeedText.each; exact Evx.neg (by simp) e1) (fun r hr => ?_)
      refine Ev.step (fun k => by rw [spec_l06Text.l0]) ?_
      refine Evx.pos (by omega) (Evx.neg (by simp) (Evx.pos (by omega) ?_))
      rw [er]
      exact Ev.bind e2 (Evx.pos (by omega) hr)
/-- A feed's text is the same on both sides. -/
theorem feedtext (a0 : Bool) (a1 : ByteArray) (m : List S49) (h1 : a1.size ≤ 1048576) (hm : m.length ≤ 1048576) (hok : ∀ x ∈ m, UptoC 1048576 x) :
    ∃ r, Ev (fun k => spec_FeedText.f k a0 a1 m) r ∧ Ev (fun k => impl_FeedText.f k a0 a1 m) r := by
  obtain ⟨b, s1, i1⟩ := feed a0 a1 m h1 hm hok
  unfold spec_FeedText.f impl_FeedText.f
  cases b with
  | false => exact ⟨(⟨#[]⟩, 1), Ev.bind s1 (Evx.neg (by simp) (Ev.now _)), Ev.bind i1 (Evx.neg (by simp) (Ev.now _))⟩
  | true =>
    obtain ⟨t1, t2, t3⟩ := feed_true a0 a1 m hm s1
    have n2 : (⟨#[116, 105, 116, 108, 101]⟩ : ByteArray).size ≤ 20 := by decide
    have z := tag_size n2 (v := a1) (by omega)
    obtain ⟨Y, g1, g2, g3⟩ := text_loop a0 a1 m t2 t3 m.length 0 (by omega) (tag (⟨#[116, 105, 116, 108, 101]⟩ : ByteArray) a1) (by omega)
    rw [List.drop_zero, ← cat_list] at g1
    have hb := beg_size a0
    have ht : Ev (fun k => spec_l06Text.f k a0 a1 m) ((impl_FeedText.beg a0 ++ Y) ++ impl_FeedText.end_ a0) := by
      unfold spec_l06Text.f
      exact Ev.bind (tag_spec n2 (by omega)) g2
    have eo : impl_FeedText.out ((impl_FeedText.beg a0).data.toList ++ Y.data.toList ++ (impl_FeedText.end_ a0).data.toList) = if (((impl_FeedText.beg a0 ++ Y) ++ impl_FeedText.end_ a0).size : Int) > 65536 then (⟨#[]⟩, 7) else ((impl_FeedText.beg a0 ++ Y) ++ impl_FeedText.end_ a0, 0) := by
      rw [← cat_list, ← cat_list]
      generalize (impl_FeedText.beg a0 ++ Y) ++ impl_FeedText.end_ a0 = Z
      unfold impl_FeedText.out
      have e : Z.data.toList.length = Z.size := rfl
      rw [e]
      by_cases h : Z.size > 65536
      · rw [if_pos h, if_pos (by omega)]
      · rw [if_neg h, if_neg (by omega)]
    refine ⟨if (((impl_FeedText.beg a0 ++ Y) ++ impl_FeedText.end_ a0).size : Int) > 65536 then (⟨#[]⟩, 7) else ((impl_FeedText.beg a0 ++ Y) ++ impl_FeedText.end_ a0, 0), ?_, ?_⟩
    · refine Ev.bind s1 (Evx.pos rfl (Ev.bind ht ?_))
      by_cases h : (((impl_FeedText.beg a0 ++ Y) ++ impl_FeedText.end_ a0).size : Int) > 65536
      · simp only [if_pos h]
        exact Ev.now _
      · simp only [if_neg h]
        exact Ev.now _
    · refine Ev.bind i1 (Evx.pos rfl (Ev.bind (tag_impl n2 (by omega)) (Evx.pos (by omega) (Ev.bind g1 (Evx.pos ?_ ?_)))))
      · rw [List.length_append]
        have e1 : (impl_FeedText.beg a0).data.toList.length = (impl_FeedText.beg a0).size := rfl
        have e2 : Y.data.toList.length = Y.size := rfl
        omega
      · rw [eo]
        exact Ev.now _
end Go.Proofs.YteknchhlineciaaGreatDoor.FQFnExactFeedText
namespace Go.Proofs.YteknchhlineciaaGreatDoor.Pure
open Go.RowKit Go.Proofs.YteknchhlineciaaGreatDoor.QFnExactFeedText Go.Proofs.YteknchhlineciaaGreatDoorW.PrintWords Go.Proofs.YteknchhlineciaaGreatDoorW.PrintLast Go.Proofs.YteknchhlineciaaGreatDoorW.PrintMore Go.Proofs.YteknchhlineciaaGreatDoor.Evx Go.Proofs.YteknchhlineciaaGreatDoor.NQFnExactFeedText Go.Proofs.YteknchhlineciaaGreatDoor.FQFnExactFeedText
set_option linter.unusedSimpArgs false
set_option linter.unusedVariables false
theorem FnExactFeedText (a0 : Bool) (a1 : ByteArray) (l : List S54) (hl : l.length ≤ 9223372036854775807) (h1 : a1.size ≤ 140737488351232) (hw : ∀ x ∈ l, Upto 140737488351232 x) :
    ∃ k, laws_FnExactFeedText.f k a0 a1 l = some true := by
  refine Ev.rounds (g := fun k => laws_FnExactFeedText.f k a0 a1 l) ?_
  unfold laws_FnExactFeedText.f
  obtain ⟨z, hz, hz2⟩ := sz_feed a0 a1 l hl hw h1
  refine Ev.bind hz (Evx.ite (fun _ => Ev.now _) (fun hn => ?_))
  obtain ⟨g1, g2, g3⟩ := hz2 (by omega)
  have hc := copied a0 a1 l g2
  have hml : (l.map conv).length ≤ 1048576 := by rw [List.length_map]; exact g2
  have hms := conv_ok g3
  generalize l.map conv = m at hc hml hms
  obtain ⟨r, hr1, hr2⟩ := feedtext a0 a1 m g1 hml hms
  refine Ev.bind hc (Ev.bind hr1 (Ev.bind hc (Ev.bind hr2 (Evx.pos rfl ?_))))
  refine Ev.step (fun k => by rw [laws_FnExactFeedText.j0]) ?_
  exact Evx.neg (by simp) (Ev.bind hc (Ev.bind (same a0 a1 m hml) (Evx.pos rfl (Ev.now _))))
end Go.Proofs.YteknchhlineciaaGreatDoor.Pure
