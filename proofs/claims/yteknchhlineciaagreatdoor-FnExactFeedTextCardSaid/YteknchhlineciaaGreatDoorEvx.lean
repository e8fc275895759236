/- Small plain lemmas on bounded rounds, on 64-bit sums and on texts as lists of numbers, for this seat's proofs. Conditions: as each lemma states. Texts as lists of numbers: cuts, equality, single bytes, a byte's place in a text. Conditions: as each lemma states. Plain dates: leap years, months' days, a stamp's day and clock and back. Conditions: as each lemma states. -/
import Derived.Test.YteknchhlineciaaGreatDoorWMore
import Derived.Laws.Strings
import Derived.Lib.Bytealg
namespace Go.Proofs.YteknchhlineciaaGreatDoor.Evx
open Go.RowKit Go.Proofs.YteknchhlineciaaGreatDoorW.PrintWords
set_option linter.unusedVariables false
section
variable {α β : Type} {f g : Nat → Option α} {r : α} {c : Prop} [Decidable c]
theorem pos (h : c) (k : Ev f r) : Ev (fun n => if c then f n else g n) r := Ev.congr (fun _ => if_pos h) k
theorem neg (h : ¬ c) (k : Ev g r) : Ev (fun n => if c then f n else g n) r := Ev.congr (fun _ => if_neg h) k
theorem ite (h1 : c → Ev f r) (h2 : ¬ c → Ev g r) : Ev (fun n => if c then f n else g n) r := by
  by_cases h : c
  · exact pos h (h1 h)
  · exact neg h (h2 h)
theorem bindc {x : Option β} {b : β} {f : Nat → β → Option α} (h : x = some b) (k : Ev (fun n => f n b) r) : Ev (fun n => x.bind (f n)) r :=
  Ev.congr (fun n => by rw [h]; rfl) k
theorem const {x : Option α} (h : x = some r) : Ev (fun _ => x) r := Ev.congr (fun _ => h) (Ev.now r)
theorem eq {r' : α} (h : Ev f r') (e : r' = r) : Ev f r := e ▸ h
theorem fn {f' : Nat → Option α} (h : Ev f r) (e : f = f') : Ev f' r := e ▸ h
end
theorem w64 {i : Int} (h0 : -9223372036854775808 ≤ i) (h1 : i ≤ 9223372036854775807) : wrap64 i = i := by unfold wrap64; omega
theorem w32 {i : Int} (h0 : -2147483648 ≤ i) (h1 : i ≤ 2147483647) : wrap32 i = i := by unfold wrap32; omega
theorem wf64 {x : Int} (h : (Lit.int .i64 x).wf = true) : -9223372036854775808 ≤ x ∧ x ≤ 9223372036854775807 := by
  simpa [Lit.wf, IntKind.min, IntKind.max, IntKind.signed, IntKind.bits] using h
/-- A text's bytes as numbers. -/
def bs (s : ByteArray) : List Int := s.data.toList.map fun b => (b.toNat : Int)
theorem size_eq (s : ByteArray) : s.size = s.data.toList.length := by rw [Array.length_toList]; rfl
theorem bs_length (s : ByteArray) : (bs s).length = s.size := by rw [bs, List.length_map, size_eq]
theorem bt_bs (s : ByteArray) (i : Int) : bt s i = (bs s).getD i.toNat 0 := by
  unfold bt bs
  by_cases h : i.toNat < s.size
  · rw [dif_pos h, List.getD_eq_getElem?_getD, List.getElem?_map, List.getElem?_eq_getElem (by rw [← size_eq]; exact h)]
    rfl
  · rw [dif_neg h, List.getD_eq_getElem?_getD, List.getElem?_eq_none (by rw [List.length_map, ← size_eq]; omega)]
    rfl
theorem bs_range (s : ByteArray) : ∀ x ∈ bs s, 0 ≤ x ∧ x < 256 := by
  intro x hx
  obtain ⟨b, _, rfl⟩ := List.mem_map.1 hx
  have := b.toNat_lt
  constructor <;> omega
theorem bs_inj {s t : ByteArray} (h : bs s = bs t) : s = t := by
  have h1 : s.data.toList = t.data.toList := by
    refine List.map_inj_right (f := fun b : UInt8 => (b.toNat : Int)) (fun a b hab => ?_) |>.1 h
    exact UInt8.toNat_inj.1 (by omega)
  cases s; cases t
  simp only [ByteArray.mk.injEq]
  exact Array.toList_inj.1 h1
theorem bs_strOfNums {xs : List Int} (h : ∀ x ∈ xs, 0 ≤ x ∧ x < 256) : bs (strOfNums xs) = xs := by
  unfold bs strOfNums
  simp only [List.map_map]
  conv => rhs; rw [← List.map_id xs]
  refine List.map_congr_left fun x hx => ?_
  have := h x hx
  simp only [Function.comp, id, UInt8.toNat_ofNat']
  omega
theorem size_strOfNums (xs : List Int) : (strOfNums xs).size = xs.length := by rw [size_eq]; simp [strOfNums]
end Go.Proofs.YteknchhlineciaaGreatDoor.Evx
namespace Go.Proofs.YteknchhlineciaaGreatDoor.Bsx
open Go.RowKit Go.Proofs.YteknchhlineciaaGreatDoorW.PrintWords Go.Proofs.YteknchhlineciaaGreatDoor.Evx
set_option linter.unusedVariables false
theorem toList_data (s : ByteArray) : s.toList = s.data.toList := ByteArray.toList_eq s
theorem toList_iff (s t : ByteArray) : s.toList = t.toList ↔ bs s = bs t := by
  rw [toList_data, toList_data]
  constructor
  · intro h; unfold bs; rw [h]
  · intro h; rw [bs_inj h]
theorem toList_nil (s : ByteArray) : s.toList = ([] : List UInt8) ↔ bs s = [] := by
  rw [toList_data]; unfold bs; simp
theorem toList_beq (s t : ByteArray) : (s.toList == t.toList) = decide (bs s = bs t) := by
  rw [Bool.eq_iff_iff, beq_iff_eq, decide_eq_true_eq, toList_iff]
theorem extract_toList (s : ByteArray) (a b : Nat) : (s.extract a b).data.toList = (s.data.toList.take b).drop a := by
  rw [ByteArray.data_extract, Array.toList_extract, List.extract_eq_take_drop, List.drop_take]
theorem bs_extract (s : ByteArray) (a b : Nat) : bs (s.extract a b) = ((bs s).take b).drop a := by
  unfold bs
  rw [extract_toList, List.map_drop, List.map_take]
theorem bs_drop (s : ByteArray) (a b : Nat) (h : s.size ≤ b) : bs (s.extract a b) = (bs s).drop a := by
  rw [bs_extract, List.take_of_length_le (by rw [bs_length]; exact h)]
theorem bs_take (s : ByteArray) (b : Nat) : bs (s.extract 0 b) = (bs s).take b := by
  rw [bs_extract, List.drop_zero]
theorem bs_append (s t : ByteArray) : bs (s ++ t) = bs s ++ bs t := by
  unfold bs
  rw [show (s ++ t).data = s.data ++ t.data from ByteArray.data_append]
  simp
theorem bt_getD (s : ByteArray) (i : Int) (p j : Nat) (h : i = (p : Int) + (j : Int)) : bt s i = ((bs s).drop p).getD j 0 := by
  rw [bt_bs, h, show ((p : Int) + (j : Int)).toNat = p + j by omega, List.getD_eq_getElem?_getD, List.getD_eq_getElem?_getD, List.getElem?_drop]
theorem bt_lt (s : ByteArray) (i : Int) : 0 ≤ bt s i ∧ bt s i < 256 := by
  have := bt_range s i
  omega
theorem drop_cons {s : ByteArray} {p : Nat} {c : Int} {r : List Int} (h : (bs s).drop p = c :: r) : bt s (p : Int) = c ∧ (bs s).drop (p + 1) = r ∧ p < s.size ∧ 0 ≤ c ∧ c < 256 := by
  have hl : p < (bs s).length := by
    rcases Nat.lt_or_ge p (bs s).length with h1 | h1
    · exact h1
    · rw [List.drop_eq_nil_of_le h1] at h; cases h
  have e : bt s (p : Int) = c := by rw [bt_getD s _ p 0 (by simp), h]; rfl
  refine ⟨e, ?_, by rw [bs_length] at hl; exact hl, ?_⟩
  · rw [← List.tail_drop, h]; rfl
  · rw [← e]; exact bt_lt s _
theorem drop_nil {s : ByteArray} {p : Nat} (h : (bs s).drop p = []) : s.size ≤ p := by
  rw [← bs_length]
  rcases Nat.lt_or_ge p (bs s).length with h1 | h1
  · have := congrArg List.length h
    simp only [List.length_drop, List.length_nil] at this
    omega
  · exact h1
theorem drop_len (s : ByteArray) (p : Nat) : ((bs s).drop p).length = s.size - p := by rw [List.length_drop, bs_length]
theorem index_ge (l : List UInt8) (c : UInt8) : -1 ≤ Lib.indexByte l c := by
  induction l with
  | nil => exact Int.le_refl _
  | cons b l ih =>
    rw [Lib.indexByte]
    split
    · omega
    · split <;> omega
theorem index_mem (l : List UInt8) (c : UInt8) : 0 ≤ Lib.indexByte l c ↔ c ∈ l := by
  induction l with
  | nil => simp [Lib.indexByte]
  | cons b l ih =>
    rw [Lib.indexByte, List.mem_cons, ← ih]
    have h5 := index_ge l c
    by_cases h : b = c
    · subst h; simp
    · have h1 : (b == c) = false := by simpa using h
      rw [h1]
      have h2 : ¬ c = b := fun e => h e.symm
      simp only [Bool.false_eq_true, if_false, h2, false_or]
      by_cases h3 : Lib.indexByte l c = -1
      · simp [h3]
      · have h4 : (Lib.indexByte l c == -1) = false := by simpa using h3
        rw [h4]
        simp only [Bool.false_eq_true, if_false]
        omega
theorem mem_bs (s : ByteArray) (c : UInt8) : c ∈ s.data.toList ↔ (c.toNat : Int) ∈ bs s := by
  unfold bs
  rw [List.mem_map]
  constructor
  · intro h; exact ⟨c, h, rfl⟩
  · rintro ⟨b, hb, e⟩
    have : b = c := UInt8.toNat_inj.1 (by omega)
    rw [← this]; exact hb
end Go.Proofs.YteknchhlineciaaGreatDoor.Bsx
namespace Go.Proofs.YteknchhlineciaaGreatDoor.Dates
set_option linter.unusedVariables false
/-- A leap year. -/
def lp (y : Int) : Bool := decide (y % 4 = 0 ∧ (y % 100 ≠ 0 ∨ y % 400 = 0))
/-- A year's days. -/
def yl (y : Int) : Int := if lp y = true then 366 else 365
/-- A month's days. -/
def dm (y m : Int) : Int := if m = 2 then (if lp y = true then 29 else 28) else if m = 4 ∨ m = 6 ∨ m = 9 ∨ m = 11 then 30 else 31
theorem yl_range (y : Int) : 365 ≤ yl y ∧ yl y ≤ 366 := by unfold yl; split <;> omega
theorem dm_range (y m : Int) : 28 ≤ dm y m ∧ dm y m ≤ 31 := by unfold dm; repeat' split <;> omega
/-- Years are taken off days; n bounds how many. -/
def years : Nat → Int → Int → Int × Int
  | 0, d, y => (d, y)
  | n + 1, d, y => if d ≥ yl y then years n (d - yl y) (y + 1) else (d, y)
/-- Months are taken off days. -/
def months : Nat → Int → Int → Int → Int × Int
  | 0, d, _, m => (d, m)
  | n + 1, d, y, m => if d ≥ dm y m then months n (d - dm y m) y (m + 1) else (d, m)
theorem years_ok (n : Nat) : ∀ d y : Int, 0 ≤ d → d < 365 * n → 0 ≤ (years n d y).1 ∧ (years n d y).1 < yl (years n d y).2 ∧ y ≤ (years n d y).2 ∧ (years n d y).2 ≤ y + n ∧ (years n d y).1 ≤ d := by
  induction n with
  | zero => intro d y h0 h1; omega
  | succ n ih =>
    intro d y h0 h1
    have hy := yl_range y
    simp only [years]
    split
    · rename_i h
      have := ih (d - yl y) (y + 1) (by omega) (by omega)
      refine ⟨this.1, this.2.1, by omega, by omega, by omega⟩
    · rename_i h
      exact ⟨h0, Int.not_le.1 h, Int.le_refl _, by omega, Int.le_refl _⟩
theorem months_ok (n : Nat) : ∀ d y m : Int, 0 ≤ d → d < 28 * n → 0 ≤ (months n d y m).1 ∧ (months n d y m).1 < dm y (months n d y m).2 ∧ m ≤ (months n d y m).2 ∧ (months n d y m).2 ≤ m + n := by
  induction n with
  | zero => intro d y m h0 h1; omega
  | succ n ih =>
    intro d y m h0 h1
    have hy := dm_range y m
    simp only [months]
    split
    · rename_i h
      have := ih (d - dm y m) y (m + 1) (by omega) (by omega)
      refine ⟨this.1, this.2.1, by omega, by omega⟩
    · rename_i h
      exact ⟨h0, Int.not_le.1 h, Int.le_refl _, by omega⟩
/-- A stamp's day and clock. -/
def civ (s : Int) : Int × Int × Int × Int × Int × Int :=
  let a := years 200 (s / 86400) 1970
  let b := months 20 a.1 a.2 1
  (a.2, b.2, b.1 + 1, s % 86400 / 3600, s / 60 % 60, s % 60)
/-- The days of n years from y on, behind a. -/
def addY : Nat → Int → Int → Int
  | 0, a, _ => a
  | n + 1, a, y => addY n (a + yl y) (y + 1)
/-- The days of n months from m on, behind a. -/
def addM : Nat → Int → Int → Int → Int
  | 0, a, _, _ => a
  | n + 1, a, y, m => addM n (a + dm y m) y (m + 1)
theorem addY_range (n : Nat) : ∀ a y : Int, a ≤ addY n a y ∧ addY n a y ≤ a + 366 * n := by
  induction n with
  | zero => intro a y; simp [addY]
  | succ n ih =>
    intro a y
    have := ih (a + yl y) (y + 1)
    have hy := yl_range y
    simp only [addY]
    omega
theorem addM_range (n : Nat) : ∀ a y m : Int, a ≤ addM n a y m ∧ addM n a y m ≤ a + 31 * n := by
  induction n with
  | zero => intro a y m; simp [addM]
  | succ n ih =>
    intro a y m
    have := ih (a + dm y m) y (m + 1)
    have hy := dm_range y m
    simp only [addM]
    omega
/-- A right day and clock. -/
def okc (y m d h i s : Int) : Bool := decide ((1970 ≤ y ∧ y ≤ 2099) ∧ (1 ≤ m ∧ m ≤ 12) ∧ (1 ≤ d ∧ d ≤ dm y m) ∧ (0 ≤ h ∧ h ≤ 23) ∧ (0 ≤ i ∧ i ≤ 59) ∧ (0 ≤ s ∧ s ≤ 59))
/-- The days ahead of a day. -/
def dayOf (y m d : Int) : Int := addM (m - 1).toNat (addY (y - 1970).toNat (d - 1) 1970) y 1
/-- The stamp of a right day and clock. -/
def stv (y m d h i s : Int) : Int := dayOf y m d * 86400 + h * 3600 + i * 60 + s
theorem addY_shift (n : Nat) : ∀ a b y : Int, addY n (a + b) y = addY n a y + b := by
  induction n with
  | zero => intro a b y; rfl
  | succ n ih => intro a b y; simp only [addY]; rw [show a + b + yl y = (a + yl y) + b by omega, ih]
theorem addM_shift (n : Nat) : ∀ a b y m : Int, addM n (a + b) y m = addM n a y m + b := by
  induction n with
  | zero => intro a b y m; rfl
  | succ n ih => intro a b y m; simp only [addM]; rw [show a + b + dm y m = (a + dm y m) + b by omega, ih]
/-- What years take off comes back by adding. -/
theorem years_add (n : Nat) : ∀ d y a : Int, addY ((years n d y).2 - y).toNat a y = a + (d - (years n d y).1) ∧ y ≤ (years n d y).2 := by
  induction n with
  | zero => intro d y a; simp [years, addY]
  | succ n ih =>
    intro d y a
    by_cases h : d ≥ yl y
    · have e : years (n + 1) d y = years n (d - yl y) (y + 1) := by rw [years, if_pos h]
      obtain ⟨h1, h2⟩ := ih (d - yl y) (y + 1) (a + yl y)
      rw [e]
      refine ⟨?_, by omega⟩
      rw [show ((years n (d - yl y) (y + 1)).2 - y).toNat = ((years n (d - yl y) (y + 1)).2 - (y + 1)).toNat + 1 by omega, addY, h1]
      omega
    · have e : years (n + 1) d y = (d, y) := by rw [years, if_neg h]
      rw [e]; simp [addY]
theorem months_add (n : Nat) : ∀ d y m a : Int, addM ((months n d y m).2 - m).toNat a y m = a + (d - (months n d y m).1) ∧ m ≤ (months n d y m).2 := by
  induction n with
  | zero => intro d y m a; simp [months, addM]
  | succ n ih =>
    intro d y m a
    by_cases h : d ≥ dm y m
    · have e : months (n + 1) d y m = months n (d - dm y m) y (m + 1) := by rw [months, if_pos h]
      obtain ⟨h1, h2⟩ := ih (d - dm y m) y (m + 1) (a + dm y m)
      rw [e]
      refine ⟨?_, by omega⟩
      rw [show ((months n (d - dm y m) y (m + 1)).2 - m).toNat = ((months n (d - dm y m) y (m + 1)).2 - (m + 1)).toNat + 1 by omega, addM, h1]
      omega
    · have e : months (n + 1) d y m = (d, m) := by rw [months, if_neg h]
      rw [e]; simp [addM]
theorem addY_more (n k : Nat) : ∀ a y : Int, addY n a y ≤ addY (n + k) a y := by
  induction n with
  | zero => intro a y; rw [Nat.zero_add]; exact (addY_range k a y).1
  | succ n ih => intro a y; rw [Nat.add_right_comm]; exact ih _ _
theorem addM_more (n k : Nat) : ∀ a y m : Int, addM n a y m ≤ addM (n + k) a y m := by
  induction n with
  | zero => intro a y m; rw [Nat.zero_add]; exact (addM_range k a y m).1
  | succ n ih => intro a y m; rw [Nat.add_right_comm]; exact ih _ _ _
theorem all_years : addY 130 0 1970 = 47482 := by decide +kernel
theorem all_months (y : Int) : addM 12 0 y 1 = yl y := by
  simp only [addM, dm, yl]
  cases lp y <;> decide
/-- A right stamp's parts. -/
theorem civ_parts {s : Int} (h : 0 ≤ s ∧ s ≤ 4102444799) :
    let a := years 200 (s / 86400) 1970
    let b := months 20 a.1 a.2 1
    (1970 ≤ a.2 ∧ a.2 ≤ 2099) ∧ (0 ≤ a.1 ∧ a.1 < yl a.2) ∧ (1 ≤ b.2 ∧ b.2 ≤ 12) ∧ (0 ≤ b.1 ∧ b.1 < dm a.2 b.2) ∧ dayOf a.2 b.2 (b.1 + 1) = s / 86400 := by
  intro a b
  have hy := years_ok 200 (s / 86400) 1970 (by omega) (by omega)
  have hya := years_add 200 (s / 86400) 1970 0
  have hyl := yl_range a.2
  have hm := months_ok 20 a.1 a.2 1 hy.1 (show a.1 < 28 * ((20 : Nat) : Int) from by have h7 : a.1 < yl a.2 := hy.2.1; omega)
  have hma := months_add 20 a.1 a.2 1
  have y1 : a.2 ≤ 2099 := by
    rcases Int.lt_or_le 2099 a.2 with h1 | h1
    · have := addY_more 130 ((a.2 - 1970).toNat - 130) 0 1970
      rw [show 130 + ((a.2 - 1970).toNat - 130) = (a.2 - 1970).toNat by omega, all_years, hya.1] at this
      have := hy.1
      omega
    · exact h1
  have m1 : b.2 ≤ 12 := by
    rcases Int.lt_or_le 12 b.2 with h1 | h1
    · have := addM_more 12 ((b.2 - 1).toNat - 12) 0 a.2 1
      rw [show 12 + ((b.2 - 1).toNat - 12) = (b.2 - 1).toNat by omega, all_months, (hma 0).1] at this
      have := hm.1
      have := hy.2.1
      have h5 : a.1 < yl a.2 := hy.2.1
      have h6 : 0 ≤ b.1 := hm.1
      omega
    · exact h1
  refine ⟨⟨hy.2.2.1, y1⟩, ⟨hy.1, hy.2.1⟩, ⟨hm.2.2.1, m1⟩, ⟨hm.1, hm.2.1⟩, ?_⟩
  unfold dayOf
  rw [show b.1 + 1 - 1 = 0 + b.1 by omega, addY_shift, (hya).1]
  have := (hma (0 + (s / 86400 - a.1) + b.1)).1
  have e : addM (b.2 - 1).toNat (0 + (s / 86400 - (years 200 (s / 86400) 1970).1) + b.1) a.2 1 = 0 + (s / 86400 - a.1) + b.1 + (a.1 - b.1) := this
  rw [e]; omega
theorem civ_okc {s : Int} (h : 0 ≤ s ∧ s ≤ 4102444799) : okc (civ s).1 (civ s).2.1 (civ s).2.2.1 (civ s).2.2.2.1 (civ s).2.2.2.2.1 (civ s).2.2.2.2.2 = true := by
  obtain ⟨h1, h2, h3, h4, h5⟩ := civ_parts h
  refine decide_eq_true ⟨h1, h3, ⟨?_, ?_⟩, ⟨?_, ?_⟩, ⟨?_, ?_⟩, ?_, ?_⟩ <;> simp only [civ]
  · have := h4.1; omega
  · have := h4.2; omega
  all_goals omega
theorem civ_stv {s : Int} (h : 0 ≤ s ∧ s ≤ 4102444799) : stv (civ s).1 (civ s).2.1 (civ s).2.2.1 (civ s).2.2.2.1 (civ s).2.2.2.2.1 (civ s).2.2.2.2.2 = s := by
  have h5 := (civ_parts h).2.2.2.2
  unfold stv
  have e : dayOf (civ s).1 (civ s).2.1 (civ s).2.2.1 = s / 86400 := h5
  rw [e]
  simp only [civ]
  omega
/-- One day more. -/
theorem years_next (n : Nat) : ∀ d y : Int, 0 ≤ d → d + 1 < 365 * n → years n (d + 1) y = (if (years n d y).1 + 1 < yl (years n d y).2 then ((years n d y).1 + 1, (years n d y).2) else (0, (years n d y).2 + 1)) := by
  induction n with
  | zero => intro d y h0 h1; omega
  | succ n ih =>
    intro d y h0 h1
    have hy := yl_range y
    by_cases h : d ≥ yl y
    · have e : years (n + 1) d y = years n (d - yl y) (y + 1) := by rw [years, if_pos h]
      have e2 : years (n + 1) (d + 1) y = years n (d - yl y + 1) (y + 1) := by rw [years, if_pos (by omega), show d + 1 - yl y = d - yl y + 1 by omega]
      rw [e, e2, ih _ _ (by omega) (by omega)]
    · have e : years (n + 1) d y = (d, y) := by rw [years, if_neg h]
      rw [e]
      by_cases h2 : d + 1 < yl y
      · rw [if_pos h2, years, if_neg (by omega)]
      · rw [if_neg h2, years, if_pos (by omega), show d + 1 - yl y = 0 by omega]
        have hy2 := yl_range (y + 1)
        cases n with
        | zero => omega
        | succ n => rw [years, if_neg (by omega)]
theorem months_next (n : Nat) : ∀ d y m : Int, 0 ≤ d → d + 1 < 28 * n → months n (d + 1) y m = (if (months n d y m).1 + 1 < dm y (months n d y m).2 then ((months n d y m).1 + 1, (months n d y m).2) else (0, (months n d y m).2 + 1)) := by
  induction n with
  | zero => intro d y m h0 h1; omega
  | succ n ih =>
    intro d y m h0 h1
    have hy := dm_range y m
    by_cases h : d ≥ dm y m
    · have e : months (n + 1) d y m = months n (d - dm y m) y (m + 1) := by rw [months, if_pos h]
      have e2 : months (n + 1) (d + 1) y m = months n (d - dm y m + 1) y (m + 1) := by rw [months, if_pos (by omega), show d + 1 - dm y m = d - dm y m + 1 by omega]
      rw [e, e2, ih _ _ _ (by omega) (by omega)]
    · have e : months (n + 1) d y m = (d, m) := by rw [months, if_neg h]
      rw [e]
      by_cases h2 : d + 1 < dm y m
      · rw [if_pos h2, months, if_neg (by omega)]
      · rw [if_neg h2, months, if_pos (by omega), show d + 1 - dm y m = 0 by omega]
        have hy2 := dm_range y (m + 1)
        cases n with
        | zero => omega
        | succ n => rw [months, if_neg (by omega)]
theorem civ_next {s : Int} (h : 0 ≤ s ∧ s + 86400 ≤ 4102444799) : (civ (s + 86400)).2.2.1 = (civ s).2.2.1 + 1 ∨ (civ (s + 86400)).2.2.1 = 1 := by
  obtain ⟨h1, h2, h3, h4, h5⟩ := civ_parts (s := s) (by omega)
  have e0 : (s + 86400) / 86400 = s / 86400 + 1 := by omega
  have ey := years_next 200 (s / 86400) 1970 (by omega) (by omega)
  have hyl := yl_range (years 200 (s / 86400) 1970).2
  simp only [civ]
  rw [e0, ey]
  by_cases c : (years 200 (s / 86400) 1970).1 + 1 < yl (years 200 (s / 86400) 1970).2
  · rw [if_pos c]
    have em := months_next 20 (years 200 (s / 86400) 1970).1 (years 200 (s / 86400) 1970).2 1 h2.1 (by omega)
    simp only
    rw [em]
    split
    · left; rfl
    · right; rfl
  · rw [if_neg c]
    right
    have : months 20 0 ((years 200 (s / 86400) 1970).2 + 1) 1 = (0, 1) := by
      have hd := dm_range ((years 200 (s / 86400) 1970).2 + 1) 1
      rw [months, if_neg (by omega)]
    simp only
    rw [this]; rfl
end Go.Proofs.YteknchhlineciaaGreatDoor.Dates
