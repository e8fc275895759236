/- Dates read: what the reader's steps come to on lists of numbers, on both sides. Conditions: as each lemma states. -/
import Derived.Test.YtccnidlkpinpgaaQFnExactReadRfc822x
import Derived.Test.YtccnidlkpinpgaaBsx
import Derived.Test.YtccnidlkpinpgaaDates
import Derived.Test.YtccnidlkpinpgaaCFnExactReadRfc822
namespace Go.Proofs.Ytccnidlkpinpgaa.RQFnExactReadRfc822
open Go.RowKit Go.Proofs.Ytccnidlkpinpgaa.QFnExactReadRfc822 Go.Proofs.YtccnidlkpinpgaaW.PrintWords Go.Proofs.YtccnidlkpinpgaaW.PrintLast Go.Proofs.YtccnidlkpinpgaaW.PrintMore
open Go.Proofs.Ytccnidlkpinpgaa.Evx Go.Proofs.Ytccnidlkpinpgaa.Bsx Go.Proofs.Ytccnidlkpinpgaa.Dates
set_option linter.unusedSimpArgs false
set_option linter.unusedVariables false
theorem tmod_nn {a b : Int} (h : 0 ≤ a) : Int.tmod a b = a % b := Int.tmod_eq_emod_of_nonneg h
theorem tdiv_nn {a b : Int} (h : 0 ≤ a) : Int.tdiv a b = a / b := Int.tdiv_eq_ediv_of_nonneg h
theorem leap1 {y : Int} (h : 0 ≤ y) : spec_l04Leap.f y = some (lp y) := by
  unfold spec_l04Leap.f lp
  rw [tmod_nn h, tmod_nn h, tmod_nn h]
  repeat' split
  all_goals (apply congrArg some; rw [Bool.eq_iff_iff]; simp only [decide_eq_true_eq, beq_iff_eq, true_iff, iff_true, Bool.false_eq_true, false_iff]; omega)
theorem leap2 {y : Int} (h : 0 ≤ y) : impl_leap.f y = some (lp y) := by
  unfold impl_leap.f lp
  rw [tmod_nn h, tmod_nn h, tmod_nn h]
  repeat' split
  all_goals (apply congrArg some; rw [Bool.eq_iff_iff]; simp only [decide_eq_true_eq, beq_iff_eq, true_iff, iff_true, Bool.false_eq_true, false_iff]; omega)
theorem bit1 (b : Bool) : spec_l01Bit.f b = some (if b = true then 1 else 0) := by
  unfold spec_l01Bit.f
  split <;> rfl
theorem days1 {y : Int} (m : Int) (h : 0 ≤ y) : spec_l04Days.f y m = some (dm y m) := by
  unfold spec_l04Days.f dm
  rw [leap1 h]
  simp only [Option.bind_some, bit1]
  by_cases h2 : m = 2
  · rw [if_pos h2, if_pos h2]
    cases lp y
    · exact congrArg some (Evx.w64 (i := 28 + 0) (by omega) (by omega))
    · exact congrArg some (Evx.w64 (i := 28 + 1) (by omega) (by omega))
  · rw [if_neg h2, if_neg h2]
    repeat' split
    all_goals first | rfl | omega
theorem days2 {y : Int} (m : Int) (h : 0 ≤ y) : impl_daysOf.f y m = some (dm y m) := by
  unfold impl_daysOf.f dm
  rw [leap2 h]
  simp only [Option.bind_some]
  by_cases h2 : m = 2
  · rw [if_pos h2, if_pos h2]
    cases lp y <;> rfl
  · rw [if_neg h2, if_neg h2]
    repeat' split
    all_goals first | rfl | omega
theorem ydays2 {y : Int} (h : 0 ≤ y) : impl_yearDays.f y = some (yl y) := by
  unfold impl_yearDays.f yl
  rw [leap2 h]
  simp only [Option.bind_some]
  split <;> rfl
theorem within_eq (a b c : Int) : impl_within.f a b c = some (decide (b ≤ a ∧ a ≤ c)) := by
  unfold impl_within.f
  split <;> simp <;> omega
theorem in_eq (a b c : Int) : spec_l01In.f a b c = some (decide (b ≤ a ∧ a ≤ c)) := by
  unfold spec_l01In.f
  split <;> simp <;> omega
theorem spec_ok (y m d h i s : Int) : spec_CivilOK.f y m d h i s = some (okc y m d h i s) := by
  unfold spec_CivilOK.f okc
  simp only [in_eq, Option.bind_some]
  by_cases h1 : 1970 ≤ y ∧ y ≤ 2099
  · by_cases h2 : 1 ≤ m ∧ m ≤ 12
    · rw [if_pos (decide_eq_true h1), if_pos (decide_eq_true h2), days1 m (by omega)]
      simp only [Option.bind_some]
      by_cases h3 : 1 ≤ d ∧ d ≤ dm y m
      · by_cases h4 : 0 ≤ h ∧ h ≤ 23
        · by_cases h5 : 0 ≤ i ∧ i ≤ 59
          · simp [h1, h2, h3, h4, h5]
          · simp [h3, h4, h5]
        · simp [h3, h4]
      · simp [h3]
    · simp [h1, h2]
  · simp [h1]
theorem impl_ok (y m d h i s : Int) : Ev (fun k => impl_CivilOK.f k y m d h i s) (okc y m d h i s) := by
  unfold impl_CivilOK.f okc
  refine Evx.bindc (within_eq _ _ _) (Evx.ite (fun a => ?_) (fun a => ?_))
  · rw [decide_eq_true_eq] at a
    refine Evx.bindc (within_eq _ _ _) (Evx.ite (fun b => ?_) (fun b => ?_))
    · rw [decide_eq_true_eq] at b
      refine Evx.bindc (days2 m (by omega)) (Evx.bindc (within_eq _ _ _) ?_)
      refine Ev.step (fun k => by rw [impl_CivilOK.j0]) ?_
      by_cases h3 : 1 ≤ d ∧ d ≤ dm y m
      · refine Evx.neg (by simp [h3]) (Evx.bindc (within_eq _ _ _) (Evx.ite (fun c => ?_) (fun c => ?_)))
        · refine Evx.bindc (within_eq _ _ _) (Evx.ite (fun e => ?_) (fun e => ?_))
          · refine Evx.bindc (within_eq _ _ _) (Evx.eq (Ev.now _) ?_)
            rw [decide_eq_true_eq] at c e
            rw [Bool.eq_iff_iff]; simp only [decide_eq_true_eq]; exact ⟨fun x => ⟨a, b, h3, c, e, x⟩, fun x => x.2.2.2.2.2⟩
          · rw [decide_eq_true_eq] at e
            exact Evx.eq (Ev.now _) (decide_eq_false (fun x => e x.2.2.2.2.1)).symm
        · rw [decide_eq_true_eq] at c
          exact Evx.eq (Ev.now _) (decide_eq_false (fun x => c x.2.2.2.1)).symm
      · refine Evx.pos (by simp [h3]) (Evx.eq (Ev.now _) (decide_eq_false (fun x => h3 x.2.2.1)).symm)
    · rw [decide_eq_true_eq] at b
      refine Ev.step (fun k => by rw [impl_CivilOK.j0]) ?_
      exact Evx.pos rfl (Evx.eq (Ev.now _) (decide_eq_false (fun x => b x.2.1)).symm)
  · rw [decide_eq_true_eq] at a
    refine Ev.step (fun k => by rw [impl_CivilOK.j0]) ?_
    exact Evx.pos rfl (Evx.eq (Ev.now _) (decide_eq_false (fun x => a x.1)).symm)
theorem spec_mon {y m d h i s a0 : Int} (hy : 0 ≤ y) (hc : (0 ≤ h ∧ h ≤ 23) ∧ (0 ≤ i ∧ i ≤ 59) ∧ (0 ≤ s ∧ s ≤ 59)) (hm : m ≤ 12) (n : Nat) : ∀ (a j : Int), j + n = m → 1 ≤ j → 0 ≤ a → a ≤ 1000000 + 31 * j → Ev (fun k => spec_l04Stamp.l1 k a j y m d h i s) (addM n a y j * 86400 + h * 3600 + i * 60 + s) := by
  induction n with
  | zero =>
    intro a j hj h1 h2 h3
    refine Ev.step (fun k => by rw [spec_l04Stamp.l1]) ?_
    refine Evx.neg (by omega) (Evx.eq (Ev.now _) ?_)
    rw [Evx.w64 (i := a * 24) (by omega) (by omega), Evx.w64 (i := a * 24 + h) (by omega) (by omega), Evx.w64 (i := (a * 24 + h) * 60) (by omega) (by omega), Evx.w64 (i := (a * 24 + h) * 60 + i) (by omega) (by omega), Evx.w64 (i := ((a * 24 + h) * 60 + i) * 60) (by omega) (by omega), Evx.w64 (i := ((a * 24 + h) * 60 + i) * 60 + s) (by omega) (by omega)]
    simp only [addM]; omega
  | succ n ih =>
    intro a j hj h1 h2 h3
    have hd := dm_range y j
    refine Ev.step (fun k => by rw [spec_l04Stamp.l1]) ?_
    refine Evx.pos (by omega) (Evx.bindc (days1 j hy) ?_)
    rw [Evx.w64 (i := a + dm y j) (by omega) (by omega), Evx.w64 (i := j + 1) (by omega) (by omega)]
    simp only [addM]
    exact ih _ _ (by omega) (by omega) (by omega) (by omega)
theorem impl_mon {y m d h i s a0 : Int} (hy : 0 ≤ y) (hc : (0 ≤ h ∧ h ≤ 23) ∧ (0 ≤ i ∧ i ≤ 59) ∧ (0 ≤ s ∧ s ≤ 59)) (hm : m ≤ 12) (n : Nat) : ∀ (a j : Int), j + n = m → 1 ≤ j → 0 ≤ a → a ≤ 1000000 + 31 * j → Ev (fun k => impl_stampOf.l1 k a j y m d h i s) (addM n a y j * 86400 + h * 3600 + i * 60 + s) := by
  induction n with
  | zero =>
    intro a j hj h1 h2 h3
    refine Ev.step (fun k => by rw [impl_stampOf.l1]) ?_
    refine Evx.neg (by omega) (Evx.eq (Ev.now _) ?_)
    rw [Evx.w64 (i := a * 86400) (by omega) (by omega), Evx.w64 (i := h * 3600) (by omega) (by omega), Evx.w64 (i := a * 86400 + h * 3600) (by omega) (by omega), Evx.w64 (i := i * 60) (by omega) (by omega), Evx.w64 (i := a * 86400 + h * 3600 + i * 60) (by omega) (by omega), Evx.w64 (i := a * 86400 + h * 3600 + i * 60 + s) (by omega) (by omega)]
    simp only [addM]
  | succ n ih =>
    intro a j hj h1 h2 h3
    have hd := dm_range y j
    refine Ev.step (fun k => by rw [impl_stampOf.l1]) ?_
    refine Evx.pos (by omega) (Evx.bindc (days2 j hy) ?_)
    rw [Evx.w64 (i := a + dm y j) (by omega) (by omega), Evx.w64 (i := j + 1) (by omega) (by omega)]
    simp only [addM]
    exact ih _ _ (by omega) (by omega) (by omega) (by omega)
theorem spec_yr {y m d h i s R : Int} (hy : y ≤ 2099) (n : Nat) : ∀ (a j : Int), j + n = y → 1970 ≤ j → 0 ≤ a → a ≤ 366 * (j - 1969) → Ev (fun k => spec_l04Stamp.l1 k (addY n a j) 1 y m d h i s) R → Ev (fun k => spec_l04Stamp.l0 k a j y m d h i s) R := by
  induction n with
  | zero =>
    intro a j hj h1 h2 h3 hR
    refine Ev.step (fun k => by rw [spec_l04Stamp.l0]) ?_
    exact Evx.neg (by omega) hR
  | succ n ih =>
    intro a j hj h1 h2 h3 hR
    have hd := yl_range j
    have e : wrap64 (365 + (if lp j = true then 1 else 0)) = yl j := by unfold yl wrap64; split <;> rfl
    refine Ev.step (fun k => by rw [spec_l04Stamp.l0]) ?_
    refine Evx.pos (by clear e; omega) (Evx.bindc (leap1 (by clear e; omega)) (Evx.bindc (bit1 _) ?_))
    rw [e]
    clear e
    rw [Evx.w64 (i := a + yl j) (by omega) (by omega), Evx.w64 (i := j + 1) (by omega) (by omega)]
    exact ih _ _ (by omega) (by omega) (by omega) (by omega) hR
theorem impl_yr {y m d h i s R : Int} (hy : y ≤ 2099) (n : Nat) : ∀ (a j : Int), j + n = y → 1970 ≤ j → 0 ≤ a → a ≤ 366 * (j - 1969) → Ev (fun k => impl_stampOf.l1 k (addY n a j) 1 y m d h i s) R → Ev (fun k => impl_stampOf.l0 k a j y m d h i s) R := by
  induction n with
  | zero =>
    intro a j hj h1 h2 h3 hR
    refine Ev.step (fun k => by rw [impl_stampOf.l0]) ?_
    exact Evx.neg (by omega) hR
  | succ n ih =>
    intro a j hj h1 h2 h3 hR
    have hd := yl_range j
    refine Ev.step (fun k => by rw [impl_stampOf.l0]) ?_
    refine Evx.pos (by omega) (Evx.bindc (ydays2 (by omega)) ?_)
    rw [Evx.w64 (i := a + yl j) (by omega) (by omega), Evx.w64 (i := j + 1) (by omega) (by omega)]
    exact ih _ _ (by omega) (by omega) (by omega) (by omega) hR
theorem spec_stv {y m d h i s : Int} (hk : okc y m d h i s = true) : Ev (fun k => spec_l04Stamp.f k y m d h i s) (stv y m d h i s) := by
  have hc := of_decide_eq_true hk
  have hdm := dm_range y m
  unfold spec_l04Stamp.f
  rw [Evx.w64 (i := d - 1) (by omega) (by omega)]
  have ha := addY_range (y - 1970).toNat (d - 1) 1970
  refine spec_yr (by omega) (y - 1970).toNat (d - 1) 1970 (by omega) (by omega) (by omega) (by omega) ?_
  exact spec_mon (a0 := 0) (by omega) hc.2.2.2 (by omega) (m - 1).toNat _ 1 (by omega) (by omega) (by omega) (by omega)
theorem impl_stv {y m d h i s : Int} (hk : okc y m d h i s = true) : Ev (fun k => impl_stampOf.f k y m d h i s) (stv y m d h i s) := by
  have hc := of_decide_eq_true hk
  have hdm := dm_range y m
  unfold impl_stampOf.f
  rw [Evx.w64 (i := d - 1) (by omega) (by omega)]
  have ha := addY_range (y - 1970).toNat (d - 1) 1970
  refine impl_yr (by omega) (y - 1970).toNat (d - 1) 1970 (by omega) (by omega) (by omega) (by omega) ?_
  exact impl_mon (a0 := 0) (by omega) hc.2.2.2 (by omega) (m - 1).toNat _ 1 (by omega) (by omega) (by omega) (by omega)

def digB (c : Int) : Bool := decide (48 ≤ c ∧ c ≤ 57)
def okd (l : List Int) : Bool := l.all digB
/-- The number that some digits are, behind another. -/
def vl : List Int → Int → Int
  | [], v => v
  | c :: l, v => vl l (10 * v + (c - 48) % 256)
def bd : Nat → Int
  | 0 => 0
  | i + 1 => 10 * bd i + 255
theorem bd_ge : ∀ i, 0 ≤ bd i
  | 0 => Int.le_refl _
  | i + 1 => by have := bd_ge i; rw [bd]; omega
theorem bd_le {i : Nat} (h : i ≤ 4) : bd i ≤ 300000 := by
  match i, h with
  | 0, _ => decide
  | 1, _ => decide
  | 2, _ => decide
  | 3, _ => decide
  | 4, _ => decide
theorem isDigit_eq (c : Int) : impl_isDigit.f c = some (digB c) := by
  unfold impl_isDigit.f digB
  split <;> simp <;> omega
theorem dg_loop (s : ByteArray) (n : Nat) (hn : n ≤ s.size) (h4 : n ≤ 4) : ∀ (d i : Nat) (v : Int) (b : Bool), i + d = n → 0 ≤ v → v ≤ bd i → Ev (fun k => impl_dateReader_digits.l0 k (n : Int) v (n : Int) (i : Int) s b) (vl (((bs s).drop i).take d) v, s.extract n s.size, b || !okd (((bs s).drop i).take d))
  | 0, i, v, b, h, h0, h1 => by
    refine Ev.step (fun k => by rw [impl_dateReader_digits.l0]) ?_
    refine Evx.neg (by omega) (Evx.pos (by omega) (Evx.pos (by omega) (Evx.eq (Ev.now _) ?_)))
    simp [vl, okd]
  | d + 1, i, v, b, h, h0, h1 => by
    have hi : i < (bs s).length := by rw [bs_length]; omega
    have hd : ((bs s).drop i).take (d + 1) = (bs s)[i] :: ((bs s).drop (i + 1)).take d := by rw [List.drop_eq_getElem_cons hi, List.take_succ_cons]
    have hb : bt s (i : Int) = (bs s)[i] := by rw [bt_bs, Int.toNat_natCast, List.getD_eq_getElem?_getD, List.getElem?_eq_getElem hi]; rfl
    have hr := bs_range s _ (List.getElem_mem hi)
    have hb4 := bd_le (i := i) (by omega)
    refine Ev.step (fun k => by rw [impl_dateReader_digits.l0]) ?_
    rw [hb, hd]
    generalize (bs s)[i] = c at *
    rw [Evx.w64 (i := 10 * v) (by omega) (by omega), Evx.w64 (i := 10 * v + (c - 48) % 256) (by omega) (by omega), Evx.w64 (i := (i : Int) + 1) (by omega) (by omega)]
    have hv : 10 * v + (c - 48) % 256 ≤ bd (i + 1) := by rw [bd]; omega
    refine Evx.pos (by omega) (Evx.ite (fun hbt => ?_) (fun hbt => ?_))
    · refine Evx.pos (by omega) (Evx.pos (by omega) (Evx.eq (dg_loop s n hn h4 d (i + 1) _ true (by omega) (by omega) hv) ?_))
      simp [vl, hbt]
    · have hbf : b = false := by simpa using hbt
      refine Evx.pos (by omega) (Evx.pos (by omega) (Evx.bindc (isDigit_eq c) (Evx.eq (dg_loop s n hn h4 d (i + 1) _ _ (by omega) (by omega) hv) ?_)))
      simp [vl, hbf, okd]
theorem dg_eq (s : ByteArray) (b : Bool) {n : Nat} (h4 : n ≤ 4) : Ev (fun k => impl_dateReader_digits.f k s b (n : Int)) (if s.size < n then (0, s, true) else (vl ((bs s).take n) 0, s.extract n s.size, b || !okd ((bs s).take n))) := by
  unfold impl_dateReader_digits.f
  refine Evx.ite (fun h => by rw [if_pos (by omega)]; exact Ev.now _) (fun h => ?_)
  rw [if_neg (by omega)]
  exact Evx.eq (dg_loop s n (by omega) h4 n 0 0 b (by omega) (Int.le_refl _) (Int.le_refl _)) (by rw [List.drop_zero])
theorem dg_good {s : ByteArray} {n : Nat} (h4 : n ≤ 4) (h : n ≤ (bs s).length ∧ okd ((bs s).take n) = true) : ∃ s', bs s' = (bs s).drop n ∧ Ev (fun k => impl_dateReader_digits.f k s false (n : Int)) (vl ((bs s).take n) 0, s', false) := by
  rw [bs_length] at h
  refine ⟨s.extract n s.size, bs_drop s n s.size (Nat.le_refl _), Evx.eq (dg_eq s false h4) ?_⟩
  rw [if_neg (by omega), h.2]
  rfl
theorem dg_bad {s : ByteArray} {n : Nat} (h4 : n ≤ 4) (h : ¬ (n ≤ (bs s).length ∧ okd ((bs s).take n) = true)) : ∃ v s', Ev (fun k => impl_dateReader_digits.f k s false (n : Int)) (v, s', true) := by
  rw [bs_length] at h
  by_cases hl : s.size < n
  · exact ⟨0, s, Evx.eq (dg_eq s false h4) (by rw [if_pos hl])⟩
  · refine ⟨vl ((bs s).take n) 0, s.extract n s.size, Evx.eq (dg_eq s false h4) ?_⟩
    rw [if_neg hl]
    have : okd ((bs s).take n) = false := by
      cases ho : okd ((bs s).take n) with
      | false => rfl
      | true => exact absurd ⟨by omega, ho⟩ h
    rw [this]
    rfl
theorem dg_bad' (s : ByteArray) {n : Nat} (h4 : n ≤ 4) : ∃ v s', Ev (fun k => impl_dateReader_digits.f k s true (n : Int)) (v, s', true) := by
  by_cases hl : s.size < n
  · exact ⟨0, s, Evx.eq (dg_eq s true h4) (by rw [if_pos hl])⟩
  · exact ⟨_, _, Evx.eq (dg_eq s true h4) (by rw [if_neg hl]; rfl)⟩
/-- Whether a text begins with another. -/
def pfx (s t : ByteArray) : Bool := decide ((bs s).take t.size = bs t)
theorem hasPrefix_eq (s t : ByteArray) : stringslite_HasPrefix.f s t = some (pfx s t) := by
  unfold stringslite_HasPrefix.f pfx
  by_cases h : (s.size : Int) ≥ (t.size : Int)
  · rw [if_pos h, if_pos (by omega), if_pos (by omega)]
    rw [toList_beq, Int.toNat_natCast, bs_take]
  · rw [if_neg h]
    refine congrArg some (decide_eq_false (fun e => ?_)).symm
    have := congrArg List.length e
    rw [List.length_take, bs_length, bs_length] at this
    omega
theorem pfx_le {s t : ByteArray} (h : pfx s t = true) : t.size ≤ s.size := by
  have := congrArg List.length (of_decide_eq_true h)
  rw [List.length_take, bs_length, bs_length] at this
  omega
theorem is_eq (s : ByteArray) (b : Bool) (t : ByteArray) : impl_dateReader_is.f s b t = some (pfx s t, if pfx s t = true then s.extract t.size s.size else s, b) := by
  unfold impl_dateReader_is.f strings_CutPrefix.f stringslite_CutPrefix.f
  rw [hasPrefix_eq]
  simp only [Option.bind_some]
  by_cases h : pfx s t = true
  · have := pfx_le h
    rw [if_pos h, if_pos (by omega), if_pos (by omega), if_pos h, h]
    rfl
  · rw [if_neg h, if_neg h]
    have : pfx s t = false := by simpa using h
    rw [this]
    rfl
theorem is_yes {s t : ByteArray} (b : Bool) (h : (bs s).take t.size = bs t) : ∃ s', bs s' = (bs s).drop t.size ∧ impl_dateReader_is.f s b t = some (true, s', b) := by
  have hp : pfx s t = true := decide_eq_true h
  refine ⟨s.extract t.size s.size, bs_drop s _ s.size (Nat.le_refl _), ?_⟩
  rw [is_eq, if_pos hp, hp]
theorem is_no {s t : ByteArray} (b : Bool) (h : ¬ (bs s).take t.size = bs t) : impl_dateReader_is.f s b t = some (false, s, b) := by
  have hp : pfx s t = false := decide_eq_false h
  rw [is_eq, if_neg (by rw [hp]; simp), hp]
theorem nd_good {s t : ByteArray} (h : (bs s).take t.size = bs t) : ∃ s', bs s' = (bs s).drop t.size ∧ impl_dateReader_need.f s false t = some (s', false) := by
  obtain ⟨s', h1, h2⟩ := is_yes false h
  exact ⟨s', h1, by unfold impl_dateReader_need.f; rw [h2]; rfl⟩
theorem nd_bad {s t : ByteArray} (h : ¬ (bs s).take t.size = bs t) : ∃ s', impl_dateReader_need.f s false t = some (s', true) := ⟨s, by unfold impl_dateReader_need.f; rw [is_no false h]; rfl⟩
theorem nd_bad' (s t : ByteArray) : ∃ s', impl_dateReader_need.f s true t = some (s', true) := by
  by_cases h : (bs s).take t.size = bs t
  · obtain ⟨s', h1, h2⟩ := is_yes true h
    exact ⟨s', by unfold impl_dateReader_need.f; rw [h2]; rfl⟩
  · exact ⟨s, by unfold impl_dateReader_need.f; rw [is_no true h]; rfl⟩
/-- How many digits lead. -/
def lead (l : List Int) : Nat := (l.takeWhile digB).length
theorem lead_le (l : List Int) : lead l ≤ l.length := by
  unfold lead
  induction l with
  | nil => simp
  | cons c l ih =>
    rw [List.takeWhile_cons]
    split
    · simp only [List.length_cons]; omega
    · simp
theorem here_loop (s : ByteArray) (b : Bool) (hs : s.size ≤ 1048576) : ∀ (d i : Nat), i + d = s.size → Ev (fun k => impl_dateReader_digitsHere.l0 k (i : Int) s b) (((i + lead ((bs s).drop i) : Nat) : Int), s, b)
  | 0, i, h => by
    refine Ev.step (fun k => by rw [impl_dateReader_digitsHere.l0]) ?_
    refine Evx.neg (by omega) (Evx.eq (Ev.now _) ?_)
    rw [List.drop_eq_nil_of_le (by rw [bs_length]; omega)]
    rfl
  | d + 1, i, h => by
    have hi : i < (bs s).length := by rw [bs_length]; omega
    have hb : bt s (i : Int) = (bs s)[i] := by rw [bt_bs, Int.toNat_natCast, List.getD_eq_getElem?_getD, List.getElem?_eq_getElem hi]; rfl
    refine Ev.step (fun k => by rw [impl_dateReader_digitsHere.l0]) ?_
    rw [hb, List.drop_eq_getElem_cons hi]
    have hl : lead ((bs s)[i] :: (bs s).drop (i + 1)) = if digB (bs s)[i] = true then lead ((bs s).drop (i + 1)) + 1 else 0 := by
      unfold lead
      rw [List.takeWhile_cons]
      split <;> rfl
    rw [hl, Evx.w64 (i := (i : Int) + 1) (by omega) (by omega)]
    refine Evx.pos (by omega) (Evx.pos (by omega) (Evx.bindc (isDigit_eq _) (Evx.ite (fun h1 => ?_) (fun h1 => ?_))))
    · rw [if_pos h1]
      refine Evx.eq (here_loop s b hs d (i + 1) (by omega)) ?_
      rw [show i + 1 + lead ((bs s).drop (i + 1)) = i + (lead ((bs s).drop (i + 1)) + 1) by omega]
    · rw [if_neg h1]
      exact Ev.now _
theorem here_eq (s : ByteArray) (b : Bool) (hs : s.size ≤ 1048576) : Ev (fun k => impl_dateReader_digitsHere.f k s b) ((lead (bs s) : Int), s, b) := by
  unfold impl_dateReader_digitsHere.f
  refine Evx.eq (here_loop s b hs s.size 0 (by omega)) ?_
  rw [List.drop_zero, Nat.zero_add]
theorem vl_two {a b : Int} (ha : digB a = true) (hb : digB b = true) : vl [a, b] 0 = 10 * (a - 48) + (b - 48) ∧ 0 ≤ vl [a, b] 0 ∧ vl [a, b] 0 ≤ 99 := by
  have h1 := of_decide_eq_true ha
  have h2 := of_decide_eq_true hb
  simp only [vl]
  omega
/-- A zone read: how far it is ahead, and what is left. -/
def zp (r t : List Int) : Option (Int × List Int) := match r with
  | sg :: a :: b :: r1 => match r1.drop t.length with
    | c :: d :: r2 => if (sg = 43 ∨ sg = 45) ∧ digB a = true ∧ digB b = true ∧ r1.take t.length = t ∧ digB c = true ∧ digB d = true ∧ vl [a, b] 0 ≤ 23 ∧ vl [c, d] 0 ≤ 59 then some ((if sg = 45 then -(vl [a, b] 0 * 3600 + vl [c, d] 0 * 60) else vl [a, b] 0 * 3600 + vl [c, d] 0 * 60), r2) else none
    | _ => none
  | _ => none
/-- The digits and the rest of a zone, behind its sign. -/
theorem zn_rest (s t : ByteArray) (sgn : Int) (hsg : sgn = 1 ∨ sgn = -1) : 
    (∀ a b c d r2 r1, bs s = a :: b :: r1 → r1.take t.size = bs t → r1.drop t.size = c :: d :: r2 → digB a = true → digB b = true → digB c = true → digB d = true → vl [a, b] 0 ≤ 23 → vl [c, d] 0 ≤ 59 → ∃ s', bs s' = r2 ∧ Ev (fun k => (impl_dateReader_digits.f k s false 2).bind fun bt151 => ((impl_dateReader_need.f bt151.2.1 bt151.2.2 t).bind fun bt154 => ((impl_dateReader_digits.f k bt154.1 bt154.2 2).bind fun bt156 => (if bt156.2.2 = true then (some (wrap64 (sgn * (wrap64 ((wrap64 (bt151.1 * 3600)) + (wrap64 (bt156.1 * 60))))), bt156.2.1, true)) else (if bt151.1 > 23 then (some (wrap64 (sgn * (wrap64 ((wrap64 (bt151.1 * 3600)) + (wrap64 (bt156.1 * 60))))), bt156.2.1, true)) else (some (wrap64 (sgn * (wrap64 ((wrap64 (bt151.1 * 3600)) + (wrap64 (bt156.1 * 60))))), bt156.2.1, decide (bt156.1 > 59)))))))) (sgn * (vl [a, b] 0 * 3600 + vl [c, d] 0 * 60), s', false)) ∧
    ((¬ ∃ a b c d r2 r1, bs s = a :: b :: r1 ∧ r1.take t.size = bs t ∧ r1.drop t.size = c :: d :: r2 ∧ digB a = true ∧ digB b = true ∧ digB c = true ∧ digB d = true ∧ vl [a, b] 0 ≤ 23 ∧ vl [c, d] 0 ≤ 59) → ∃ q s', Ev (fun k => (impl_dateReader_digits.f k s false 2).bind fun bt151 => ((impl_dateReader_need.f bt151.2.1 bt151.2.2 t).bind fun bt154 => ((impl_dateReader_digits.f k bt154.1 bt154.2 2).bind fun bt156 => (if bt156.2.2 = true then (some (wrap64 (sgn * (wrap64 ((wrap64 (bt151.1 * 3600)) + (wrap64 (bt156.1 * 60))))), bt156.2.1, true)) else (if bt151.1 > 23 then (some (wrap64 (sgn * (wrap64 ((wrap64 (bt151.1 * 3600)) + (wrap64 (bt156.1 * 60))))), bt156.2.1, true)) else (some (wrap64 (sgn * (wrap64 ((wrap64 (bt151.1 * 3600)) + (wrap64 (bt156.1 * 60))))), bt156.2.1, decide (bt156.1 > 59)))))))) (q, s', true)) := by
  constructor
  · intro a b c d r2 r1 e1 e2 e3 ha hb hc hd h23 h59
    obtain ⟨s1, g1, k1⟩ := dg_good (s := s) (n := 2) (by omega) ⟨by rw [e1]; simp, by rw [e1]; simp [okd, ha, hb]⟩
    rw [e1] at g1 k1
    have g1' : bs s1 = r1 := g1
    obtain ⟨s2, g2, k2⟩ := nd_good (s := s1) (t := t) (by rw [g1']; exact e2)
    rw [g1', e3] at g2
    obtain ⟨s3, g3, k3⟩ := dg_good (s := s2) (n := 2) (by omega) ⟨by rw [g2]; simp, by rw [g2]; simp [okd, hc, hd]⟩
    rw [g2] at g3 k3
    have v1 := vl_two ha hb
    have v2 := vl_two hc hd
    refine ⟨s3, g3, Ev.bind k1 (Evx.bindc k2 (Ev.bind k3 (Evx.neg (by simp) (Evx.neg (by show ¬ vl [a, b] 0 > 23; omega) (Evx.eq (Ev.now _) ?_)))))⟩
    show (wrap64 (sgn * (wrap64 ((wrap64 (vl [a, b] 0 * 3600)) + (wrap64 (vl [c, d] 0 * 60))))), s3, decide (vl [c, d] 0 > 59)) = _
    have e1 := v1.2; have e2 := v2.2
    generalize vl [a, b] 0 = x at *
    generalize vl [c, d] 0 = y at *
    rw [Evx.w64 (i := x * 3600) (by omega) (by omega), Evx.w64 (i := y * 60) (by omega) (by omega), Evx.w64 (i := x * 3600 + y * 60) (by omega) (by omega), Evx.w64 (i := sgn * (x * 3600 + y * 60)) (by rcases hsg with rfl | rfl <;> omega) (by rcases hsg with rfl | rfl <;> omega), decide_eq_false (by omega)]
  · intro hno
    have fin : ∀ (x y : Int) (u : ByteArray), Ev (fun _ => (some (wrap64 (sgn * (wrap64 ((wrap64 (x * 3600)) + (wrap64 (y * 60))))), u, true) : Option (Int × ByteArray × Bool))) (wrap64 (sgn * (wrap64 ((wrap64 (x * 3600)) + (wrap64 (y * 60))))), u, true) := fun x y u => Ev.now _
    by_cases h1 : 2 ≤ (bs s).length ∧ okd ((bs s).take 2) = true
    · obtain ⟨s1, g1, k1⟩ := dg_good (s := s) (n := 2) (by omega) h1
      obtain ⟨a, b, r1, e1⟩ : ∃ a b r1, bs s = a :: b :: r1 := by
        match h : bs s, h1 with
        | [], h1 => simp at h1
        | [a], h1 => simp at h1
        | a :: b :: r1, _ => exact ⟨a, b, r1, rfl⟩
      rw [e1] at g1 k1 h1
      have g1' : bs s1 = r1 := g1
      have hab : digB a = true ∧ digB b = true := by have := h1.2; simpa [okd] using this
      by_cases h2 : (bs s1).take t.size = bs t
      · obtain ⟨s2, g2, k2⟩ := nd_good (s := s1) (t := t) h2
        by_cases h3 : 2 ≤ (bs s2).length ∧ okd ((bs s2).take 2) = true
        · obtain ⟨s3, g3, k3⟩ := dg_good (s := s2) (n := 2) (by omega) h3
          obtain ⟨c, d, r2, e2⟩ : ∃ c d r2, bs s2 = c :: d :: r2 := by
            match h : bs s2, h3 with
            | [], h3 => simp at h3
            | [a], h3 => simp at h3
            | a :: b :: r1, _ => exact ⟨a, b, r1, rfl⟩
          rw [e2] at g3 k3 h3
          have hcd : digB c = true ∧ digB d = true := by have := h3.2; simpa [okd] using this
          rw [g1'] at h2 g2
          by_cases h23 : vl [a, b] 0 > 23
          · exact ⟨_, s3, Ev.bind k1 (Evx.bindc k2 (Ev.bind k3 (Evx.neg (by simp) (Evx.pos h23 (fin _ _ _)))))⟩
          · have h59 : vl [c, d] 0 > 59 := by
              rcases Int.lt_or_le 59 (vl [c, d] 0) with h | h
              · exact h
              · exact absurd ⟨a, b, c, d, r2, r1, e1, h2, by rw [← g2]; exact e2, hab.1, hab.2, hcd.1, hcd.2, by omega, h⟩ hno
            refine ⟨wrap64 (sgn * (wrap64 ((wrap64 (vl [a, b] 0 * 3600)) + (wrap64 (vl [c, d] 0 * 60))))), s3, Ev.bind k1 (Evx.bindc k2 (Ev.bind k3 (Evx.neg (by simp) (Evx.neg h23 (Evx.eq (Ev.now _) ?_)))))⟩
            show (wrap64 (sgn * (wrap64 ((wrap64 (vl [a, b] 0 * 3600)) + (wrap64 (vl [c, d] 0 * 60))))), s3, decide (vl [c, d] 0 > 59)) = _
            rw [decide_eq_true h59]
        · obtain ⟨v, s3, k3⟩ := dg_bad (s := s2) (n := 2) (by omega) h3
          exact ⟨_, s3, Ev.bind k1 (Evx.bindc k2 (Ev.bind k3 (Evx.pos rfl (fin _ _ _))))⟩
      · obtain ⟨s2, k2⟩ := nd_bad (s := s1) (t := t) h2
        obtain ⟨v, s3, k3⟩ := dg_bad' s2 (n := 2) (by omega)
        exact ⟨_, s3, Ev.bind k1 (Evx.bindc k2 (Ev.bind k3 (Evx.pos rfl (fin _ _ _))))⟩
    · obtain ⟨v, s1, k1⟩ := dg_bad (s := s) (n := 2) (by omega) h1
      obtain ⟨s2, k2⟩ := nd_bad' s1 t
      obtain ⟨v3, s3, k3⟩ := dg_bad' s2 (n := 2) (by omega)
      exact ⟨_, s3, Ev.bind k1 (Evx.bindc k2 (Ev.bind k3 (Evx.pos rfl (fin _ _ _))))⟩
theorem zn_bad' (s t : ByteArray) : ∃ q s', Ev (fun k => impl_dateReader_zone.f k s true t) (q, s', true) := by
  unfold impl_dateReader_zone.f
  have ex : ∀ (sgn : Int) (s : ByteArray), ∃ q s', Ev (fun k => (impl_dateReader_digits.f k s true 2).bind fun bt151 => ((impl_dateReader_need.f bt151.2.1 bt151.2.2 t).bind fun bt154 => ((impl_dateReader_digits.f k bt154.1 bt154.2 2).bind fun bt156 => (if bt156.2.2 = true then (some (wrap64 (sgn * (wrap64 ((wrap64 (bt151.1 * 3600)) + (wrap64 (bt156.1 * 60))))), bt156.2.1, true)) else (if bt151.1 > 23 then (some (wrap64 (sgn * (wrap64 ((wrap64 (bt151.1 * 3600)) + (wrap64 (bt156.1 * 60))))), bt156.2.1, true)) else (some (wrap64 (sgn * (wrap64 ((wrap64 (bt151.1 * 3600)) + (wrap64 (bt156.1 * 60))))), bt156.2.1, decide (bt156.1 > 59)))))))) (q, s', true) := by
    intro sgn s
    obtain ⟨v, s1, k1⟩ := dg_bad' s (n := 2) (by omega)
    obtain ⟨s2, k2⟩ := nd_bad' s1 t
    obtain ⟨v3, s3, k3⟩ := dg_bad' s2 (n := 2) (by omega)
    exact ⟨_, s3, Ev.bind k1 (Evx.bindc k2 (Ev.bind k3 (Evx.pos rfl (Ev.now _))))⟩
  by_cases h : (bs s).take (⟨#[45]⟩ : ByteArray).size = bs ⟨#[45]⟩
  · obtain ⟨s1, g1, k1⟩ := is_yes true h
    obtain ⟨q, s2, k2⟩ := ex (-1) s1
    exact ⟨q, s2, Evx.bindc k1 (Evx.pos rfl k2)⟩
  · have k1 := is_no (s := s) (t := ⟨#[45]⟩) true h
    obtain ⟨s1, k2⟩ := nd_bad' s ⟨#[43]⟩
    obtain ⟨q, s2, k3⟩ := ex 1 s1
    exact ⟨q, s2, Evx.bindc k1 (Evx.neg (by simp) (Evx.bindc k2 k3))⟩
theorem take_one {l : List Int} {c : UInt8} : l.take (⟨#[c]⟩ : ByteArray).size = bs ⟨#[c]⟩ ↔ ∃ r, l = (c.toNat : Int) :: r := by
  have e : bs (⟨#[c]⟩ : ByteArray) = [(c.toNat : Int)] := rfl
  have e1 : (⟨#[c]⟩ : ByteArray).size = 1 := rfl
  rw [e, e1]
  constructor
  · intro h
    cases l with
    | nil => simp at h
    | cons a r => exact ⟨r, by rw [show a = (c.toNat : Int) by simpa using h]⟩
  · rintro ⟨r, rfl⟩
    rfl
theorem zn_good {s t : ByteArray} {q : Int} {r2 : List Int} (h : zp (bs s) (bs t) = some (q, r2)) : ∃ s', bs s' = r2 ∧ Ev (fun k => impl_dateReader_zone.f k s false t) (q, s', false) := by
  unfold zp at h
  split at h
  · rename_i sg a b r1 heq
    split at h
    · rename_i c d r2' heq2
      split at h
      · rename_i hc
        simp only [Option.some.injEq, Prod.mk.injEq] at h
        obtain ⟨rfl, rfl⟩ := h
        obtain ⟨h1, h2, h3, h4, h5, h6, h7, h8⟩ := hc
        rw [bs_length] at h4 heq2
        unfold impl_dateReader_zone.f
        by_cases hm : sg = 45
        · subst hm
          obtain ⟨s1, g1, k1⟩ := is_yes (s := s) (t := ⟨#[45]⟩) false (take_one.2 ⟨_, heq⟩)
          have g1' : bs s1 = a :: b :: r1 := by rw [g1, heq]; rfl
          obtain ⟨s2, g2, k2⟩ := (zn_rest s1 t (-1) (Or.inr rfl)).1 a b c d r2' r1 g1' h4 heq2 h2 h3 h5 h6 h7 h8
          refine ⟨s2, g2, Evx.bindc k1 (Evx.pos rfl (Evx.eq k2 ?_))⟩
          rw [if_pos rfl, Int.neg_one_mul]
        · have hp : sg = 43 := h1.resolve_right hm
          subst hp
          have k1 := is_no (s := s) (t := ⟨#[45]⟩) false (fun e => by obtain ⟨r, hr⟩ := take_one.1 e; rw [heq] at hr; have := (List.cons.inj hr).1; simp at this)
          obtain ⟨s1, g1, k2⟩ := nd_good (s := s) (t := ⟨#[43]⟩) (take_one.2 ⟨_, heq⟩)
          have g1' : bs s1 = a :: b :: r1 := by rw [g1, heq]; rfl
          obtain ⟨s2, g2, k3⟩ := (zn_rest s1 t 1 (Or.inl rfl)).1 a b c d r2' r1 g1' h4 heq2 h2 h3 h5 h6 h7 h8
          refine ⟨s2, g2, Evx.bindc k1 (Evx.neg (by simp) (Evx.bindc k2 (Evx.eq k3 ?_)))⟩
          rw [if_neg (by omega), Int.one_mul]
      · cases h
    · cases h
  · cases h
theorem zn_bad {s t : ByteArray} (h : zp (bs s) (bs t) = none) : ∃ q s', Ev (fun k => impl_dateReader_zone.f k s false t) (q, s', true) := by
  have key : ∀ (sg : Int) (s1 : ByteArray), (sg = 43 ∨ sg = 45) → bs s = sg :: bs s1 → ¬ ∃ a b c d r2 r1, bs s1 = a :: b :: r1 ∧ r1.take t.size = bs t ∧ r1.drop t.size = c :: d :: r2 ∧ digB a = true ∧ digB b = true ∧ digB c = true ∧ digB d = true ∧ vl [a, b] 0 ≤ 23 ∧ vl [c, d] 0 ≤ 59 := by
    rintro sg s1 hsg e ⟨a, b, c, d, r2, r1, e1, h2, h3, h4, h5, h6, h7, h8, h9⟩
    rw [e, e1] at h
    unfold zp at h
    rw [← bs_length t] at h2 h3
    simp only [h3] at h
    rw [if_pos ⟨hsg, h4, h5, h2, h6, h7, h8, h9⟩] at h
    cases h
  unfold impl_dateReader_zone.f
  by_cases hm : (bs s).take (⟨#[45]⟩ : ByteArray).size = bs ⟨#[45]⟩
  · obtain ⟨s1, g1, k1⟩ := is_yes (s := s) (t := ⟨#[45]⟩) false hm
    obtain ⟨r, hr⟩ := take_one.1 hm
    have g1' : bs s = 45 :: bs s1 := by rw [g1, hr]; rfl
    obtain ⟨q, s2, k2⟩ := (zn_rest s1 t (-1) (Or.inr rfl)).2 (key 45 s1 (Or.inr rfl) g1')
    exact ⟨q, s2, Evx.bindc k1 (Evx.pos rfl k2)⟩
  · have k1 := is_no (s := s) (t := ⟨#[45]⟩) false hm
    by_cases hp : (bs s).take (⟨#[43]⟩ : ByteArray).size = bs ⟨#[43]⟩
    · obtain ⟨s1, g1, k2⟩ := nd_good (s := s) (t := ⟨#[43]⟩) hp
      obtain ⟨r, hr⟩ := take_one.1 hp
      have g1' : bs s = 43 :: bs s1 := by rw [g1, hr]; rfl
      obtain ⟨q, s2, k3⟩ := (zn_rest s1 t 1 (Or.inl rfl)).2 (key 43 s1 (Or.inl rfl) g1')
      exact ⟨q, s2, Evx.bindc k1 (Evx.neg (by simp) (Evx.bindc k2 k3))⟩
    · obtain ⟨s1, k2⟩ := nd_bad (s := s) (t := ⟨#[43]⟩) hp
      have ex : ∃ q s', Ev (fun k => (impl_dateReader_digits.f k s1 true 2).bind fun bt151 => ((impl_dateReader_need.f bt151.2.1 bt151.2.2 t).bind fun bt154 => ((impl_dateReader_digits.f k bt154.1 bt154.2 2).bind fun bt156 => (if bt156.2.2 = true then (some (wrap64 (1 * (wrap64 ((wrap64 (bt151.1 * 3600)) + (wrap64 (bt156.1 * 60))))), bt156.2.1, true)) else (if bt151.1 > 23 then (some (wrap64 (1 * (wrap64 ((wrap64 (bt151.1 * 3600)) + (wrap64 (bt156.1 * 60))))), bt156.2.1, true)) else (some (wrap64 (1 * (wrap64 ((wrap64 (bt151.1 * 3600)) + (wrap64 (bt156.1 * 60))))), bt156.2.1, decide (bt156.1 > 59)))))))) (q, s', true) := by
        obtain ⟨v, s2, k1⟩ := dg_bad' s1 (n := 2) (by omega)
        obtain ⟨s3, k2⟩ := nd_bad' s2 t
        obtain ⟨v3, s4, k3⟩ := dg_bad' s3 (n := 2) (by omega)
        exact ⟨_, s4, Ev.bind k1 (Evx.bindc k2 (Ev.bind k3 (Evx.pos rfl (Ev.now _))))⟩
      obtain ⟨q, s2, k3⟩ := ex
      exact ⟨q, s2, Evx.bindc k1 (Evx.neg (by simp) (Evx.bindc k2 k3))⟩
theorem zp_bound {r t : List Int} {q : Int} {r2 : List Int} (h : zp r t = some (q, r2)) : -100000 ≤ q ∧ q ≤ 100000 ∧ r.length = 5 + t.length + r2.length := by
  unfold zp at h
  split at h
  · split at h
    · rename_i sg a b r1 _ c d r2' heq2
      split at h
      · rename_i hc
        simp only [Option.some.injEq, Prod.mk.injEq] at h
        obtain ⟨rfl, rfl⟩ := h
        obtain ⟨h1, h2, h3, h4, h5, h6, h7, h8⟩ := hc
        have v1 := (vl_two h2 h3).2
        have v2 := (vl_two h5 h6).2
        have hl := congrArg List.length heq2
        have ht := congrArg List.length h4
        rw [List.length_drop, List.length_cons, List.length_cons] at hl
        rw [List.length_take] at ht
        refine ⟨?_, ?_, by simp only [List.length_cons]; omega⟩ <;> split <;> omega
      · cases h
    · cases h
  · cases h
/-- What a stamp comes to. -/
def en (y m d h i c q : Int) : Int × Int := if okc y m d h i c = true then (if 0 ≤ stv y m d h i c - q ∧ stv y m d h i c - q ≤ 4102444799 then (stv y m d h i c - q, 0) else (0, 4)) else (0, 3)
theorem stv_bound {y m d h i c : Int} (hk : okc y m d h i c = true) : -10000000000 ≤ stv y m d h i c ∧ stv y m d h i c ≤ 10000000000 := by
  have hc := of_decide_eq_true hk
  have hdm := dm_range y m
  have h1 := addY_range (y - 1970).toNat (d - 1) 1970
  have h2 := addM_range (m - 1).toNat (addY (y - 1970).toNat (d - 1) 1970) y 1
  unfold stv dayOf
  omega
theorem st_bad (s : ByteArray) (y m d h i c q : Int) : Ev (fun k => impl_dateReader_stamp.f k s true y m d h i c q) (0, 3, s, true) := by
  unfold impl_dateReader_stamp.f
  refine Evx.pos rfl (Ev.step (fun k => by rw [impl_dateReader_stamp.j0]) (Evx.pos rfl (Ev.now _)))
theorem st_good (s : ByteArray) {y m d h i c q : Int} (hq : -100000 ≤ q ∧ q ≤ 100000) : Ev (fun k => impl_dateReader_stamp.f k s false y m d h i c q) (if bs s = [] then ((en y m d h i c q).1, (en y m d h i c q).2, s, false) else (0, 3, s, false)) := by
  unfold impl_dateReader_stamp.f
  refine Evx.neg (by simp) (Evx.ite (fun h1 => ?_) (fun h1 => ?_))
  · rw [if_pos ((toList_nil s).1 h1)]
    refine Ev.bind (impl_ok _ _ _ _ _ _) (Ev.step (fun k => by rw [impl_dateReader_stamp.j0]) ?_)
    unfold en
    by_cases hk : okc y m d h i c = true
    · have hb := stv_bound hk
      rw [if_pos hk]
      refine Evx.neg (by simp [hk]) (Ev.bind (impl_stv hk) ?_)
      rw [Evx.w64 (i := stv y m d h i c - q) (by omega) (by omega)]
      unfold impl_isStamp.f
      rw [within_eq]
      refine Evx.bindc (b := decide (0 ≤ stv y m d h i c - q ∧ stv y m d h i c - q ≤ 4102444799)) rfl (Evx.ite (fun h2 => ?_) (fun h2 => ?_))
      · rw [if_pos (of_decide_eq_true h2)]
        exact Ev.now _
      · rw [if_neg (fun e => h2 (decide_eq_true e))]
        exact Ev.now _
    · rw [if_neg hk]
      refine Evx.pos (by simpa using hk) (Ev.now _)
  · rw [if_neg (fun e => h1 ((toList_nil s).2 e))]
    exact Ev.step (fun k => by rw [impl_dateReader_stamp.j0]) (Evx.pos rfl (Ev.now _))
/-- The clock. -/
def ckP (r : List Int) : Prop := (2 ≤ r.length ∧ okd (r.take 2) = true) ∧ (r.drop 2).take 1 = [58] ∧ (2 ≤ (r.drop 3).length ∧ okd ((r.drop 3).take 2) = true) ∧ (r.drop 5).take 1 = [58] ∧ (2 ≤ (r.drop 6).length ∧ okd ((r.drop 6).take 2) = true)
instance (r : List Int) : Decidable (ckP r) := by unfold ckP; infer_instance
theorem ck_bad' (s : ByteArray) : ∃ a b c s', Ev (fun k => impl_ReadRfc822.clk k s true) (a, b, c, s', true) := by
  obtain ⟨v1, s1, k1⟩ := dg_bad' s (n := 2) (by omega)
  obtain ⟨s2, k2⟩ := nd_bad' s1 ⟨#[58]⟩
  obtain ⟨v3, s3, k3⟩ := dg_bad' s2 (n := 2) (by omega)
  obtain ⟨s4, k4⟩ := nd_bad' s3 ⟨#[58]⟩
  obtain ⟨v5, s5, k5⟩ := dg_bad' s4 (n := 2) (by omega)
  exact ⟨v1, v3, v5, s5, by unfold impl_ReadRfc822.clk; exact Ev.bind k1 (Evx.bindc k2 (Ev.bind k3 (Evx.bindc k4 (Ev.bind k5 (Ev.now _)))))⟩
theorem ck_good {s : ByteArray} (h : ckP (bs s)) : ∃ s', bs s' = (bs s).drop 8 ∧ Ev (fun k => impl_ReadRfc822.clk k s false) (vl ((bs s).take 2) 0, vl (((bs s).drop 3).take 2) 0, vl (((bs s).drop 6).take 2) 0, s', false) := by
  obtain ⟨h1, h2, h3, h4, h5⟩ := h
  obtain ⟨s1, g1, k1⟩ := dg_good (s := s) (n := 2) (by omega) h1
  obtain ⟨s2, g2, k2⟩ := nd_good (s := s1) (t := ⟨#[58]⟩) (by rw [g1]; exact h2)
  have g2' : bs s2 = (bs s).drop 3 := by rw [g2, g1, List.drop_drop]; rfl
  obtain ⟨s3, g3, k3⟩ := dg_good (s := s2) (n := 2) (by omega) (by rw [g2']; exact h3)
  have g3' : bs s3 = (bs s).drop 5 := by rw [g3, g2', List.drop_drop]
  obtain ⟨s4, g4, k4⟩ := nd_good (s := s3) (t := ⟨#[58]⟩) (by rw [g3']; exact h4)
  have g4' : bs s4 = (bs s).drop 6 := by rw [g4, g3', List.drop_drop]; rfl
  obtain ⟨s5, g5, k5⟩ := dg_good (s := s4) (n := 2) (by omega) (by rw [g4']; exact h5)
  rw [g2'] at k3
  rw [g4'] at k5
  refine ⟨s5, by rw [g5, g4', List.drop_drop], ?_⟩
  unfold impl_ReadRfc822.clk
  exact Ev.bind k1 (Evx.bindc k2 (Ev.bind k3 (Evx.bindc k4 (Ev.bind k5 (Ev.now _)))))
theorem ck_bad {s : ByteArray} (h : ¬ ckP (bs s)) : ∃ a b c s', Ev (fun k => impl_ReadRfc822.clk k s false) (a, b, c, s', true) := by
  unfold impl_ReadRfc822.clk
  by_cases h1 : 2 ≤ (bs s).length ∧ okd ((bs s).take 2) = true
  · obtain ⟨s1, g1, k1⟩ := dg_good (s := s) (n := 2) (by omega) h1
    by_cases h2 : ((bs s).drop 2).take 1 = [58]
    · obtain ⟨s2, g2, k2⟩ := nd_good (s := s1) (t := ⟨#[58]⟩) (by rw [g1]; exact h2)
      have g2' : bs s2 = (bs s).drop 3 := by rw [g2, g1, List.drop_drop]; rfl
      by_cases h3 : 2 ≤ ((bs s).drop 3).length ∧ okd (((bs s).drop 3).take 2) = true
      · obtain ⟨s3, g3, k3⟩ := dg_good (s := s2) (n := 2) (by omega) (by rw [g2']; exact h3)
        have g3' : bs s3 = (bs s).drop 5 := by rw [g3, g2', List.drop_drop]
        by_cases h4 : ((bs s).drop 5).take 1 = [58]
        · obtain ⟨s4, g4, k4⟩ := nd_good (s := s3) (t := ⟨#[58]⟩) (by rw [g3']; exact h4)
          have g4' : bs s4 = (bs s).drop 6 := by rw [g4, g3', List.drop_drop]; rfl
          obtain ⟨v5, s5, k5⟩ := dg_bad (s := s4) (n := 2) (by omega) (by rw [g4']; exact fun h5 => h ⟨h1, h2, h3, h4, h5⟩)
          exact ⟨_, _, _, _, Ev.bind k1 (Evx.bindc k2 (Ev.bind k3 (Evx.bindc k4 (Ev.bind k5 (Ev.now _)))))⟩
        · obtain ⟨s4, k4⟩ := nd_bad (s := s3) (t := ⟨#[58]⟩) (by rw [g3']; exact h4)
          obtain ⟨v5, s5, k5⟩ := dg_bad' s4 (n := 2) (by omega)
          exact ⟨_, _, _, _, Ev.bind k1 (Evx.bindc k2 (Ev.bind k3 (Evx.bindc k4 (Ev.bind k5 (Ev.now _)))))⟩
      · obtain ⟨v3, s3, k3⟩ := dg_bad (s := s2) (n := 2) (by omega) (by rw [g2']; exact h3)
        obtain ⟨s4, k4⟩ := nd_bad' s3 ⟨#[58]⟩
        obtain ⟨v5, s5, k5⟩ := dg_bad' s4 (n := 2) (by omega)
        exact ⟨_, _, _, _, Ev.bind k1 (Evx.bindc k2 (Ev.bind k3 (Evx.bindc k4 (Ev.bind k5 (Ev.now _)))))⟩
    · obtain ⟨s2, k2⟩ := nd_bad (s := s1) (t := ⟨#[58]⟩) (by rw [g1]; exact h2)
      obtain ⟨v3, s3, k3⟩ := dg_bad' s2 (n := 2) (by omega)
      obtain ⟨s4, k4⟩ := nd_bad' s3 ⟨#[58]⟩
      obtain ⟨v5, s5, k5⟩ := dg_bad' s4 (n := 2) (by omega)
      exact ⟨_, _, _, _, Ev.bind k1 (Evx.bindc k2 (Ev.bind k3 (Evx.bindc k4 (Ev.bind k5 (Ev.now _)))))⟩
  · obtain ⟨v1, s1, k1⟩ := dg_bad (s := s) (n := 2) (by omega) h1
    obtain ⟨s2, k2⟩ := nd_bad' s1 ⟨#[58]⟩
    obtain ⟨v3, s3, k3⟩ := dg_bad' s2 (n := 2) (by omega)
    obtain ⟨s4, k4⟩ := nd_bad' s3 ⟨#[58]⟩
    obtain ⟨v5, s5, k5⟩ := dg_bad' s4 (n := 2) (by omega)
    exact ⟨_, _, _, _, Ev.bind k1 (Evx.bindc k2 (Ev.bind k3 (Evx.bindc k4 (Ev.bind k5 (Ev.now _)))))⟩
/-- The reference's number: -1 where something is no digit. -/
def num (l : List Int) : Int := if okd l = true then vl l 0 else -1
theorem num_loop (s : ByteArray) (hs : s.size ≤ 4) : ∀ (d i : Nat) (v : Int), i + d = s.size → 0 ≤ v → v ≤ bd i → Ev (fun k => spec_l04Number.l0 k s v (i : Int)) (if okd ((bs s).drop i) = true then vl ((bs s).drop i) v else -1)
  | 0, i, v, h, h0, h1 => by
    refine Ev.step (fun k => by rw [spec_l04Number.l0]) ?_
    refine Evx.neg (by omega) (Evx.eq (Ev.now _) ?_)
    rw [List.drop_eq_nil_of_le (by rw [bs_length]; omega)]
    rfl
  | d + 1, i, v, h, h0, h1 => by
    have hi : i < (bs s).length := by rw [bs_length]; omega
    have hb : bt s (i : Int) = (bs s)[i] := by rw [bt_bs, Int.toNat_natCast, List.getD_eq_getElem?_getD, List.getElem?_eq_getElem hi]; rfl
    have hb4 := bd_le (i := i) (by omega)
    refine Ev.step (fun k => by rw [spec_l04Number.l0]) ?_
    rw [hb, List.drop_eq_getElem_cons hi]
    generalize (bs s)[i] = c at *
    refine Evx.pos (by omega) (Evx.pos (by omega) (Evx.ite (fun h1 => ?_) (fun h1 => Evx.ite (fun h2 => ?_) (fun h2 => ?_))))
    · have e : okd (c :: (bs s).drop (i + 1)) = false := by
        unfold okd
        rw [List.all_cons, show digB c = false from decide_eq_false (by omega)]
        rfl
      rw [e]
      exact Ev.now _
    · have e : okd (c :: (bs s).drop (i + 1)) = false := by
        unfold okd
        rw [List.all_cons, show digB c = false from decide_eq_false (by omega)]
        rfl
      rw [e]
      exact Ev.now _
    · have e : okd (c :: (bs s).drop (i + 1)) = okd ((bs s).drop (i + 1)) := by
        unfold okd
        rw [List.all_cons, show digB c = true from decide_eq_true (by omega)]
        rfl
      rw [e, vl, Evx.w64 (i := v * 10) (by omega) (by omega), Evx.w64 (i := v * 10 + (c - 48) % 256) (by omega) (by omega), Evx.w64 (i := (i : Int) + 1) (by omega) (by omega), show v * 10 + (c - 48) % 256 = 10 * v + (c - 48) % 256 by omega]
      exact num_loop s hs d (i + 1) _ (by omega) (by omega) (by rw [bd]; omega)
theorem num_eq {s : ByteArray} (hs : s.size ≤ 4) : Ev (fun k => spec_l04Number.f k s) (num (bs s)) := by
  unfold spec_l04Number.f
  refine Evx.eq (num_loop s hs s.size 0 0 (by omega) (Int.le_refl _) (Int.le_refl _)) ?_
  rw [List.drop_zero]
  rfl
theorem num_two (a b : Int) : (0 ≤ num [a, b] ↔ digB a = true ∧ digB b = true) ∧ -1 ≤ num [a, b] ∧ num [a, b] ≤ 99 := by
  have e : okd [a, b] = true ↔ digB a = true ∧ digB b = true := by simp [okd]
  unfold num
  by_cases h : okd [a, b] = true
  · have h' := e.1 h
    have hv := vl_two h'.1 h'.2
    rw [if_pos h]
    exact ⟨⟨fun _ => h', fun _ => hv.2.1⟩, by omega, hv.2.2⟩
  · rw [if_neg h]
    exact ⟨⟨fun x => by omega, fun x => absurd (e.2 x) h⟩, by omega, by omega⟩
theorem num_vl {a b : Int} (ha : digB a = true) (hb : digB b = true) : num [a, b] = vl [a, b] 0 := by
  unfold num
  rw [if_pos (by simp [okd, ha, hb])]
theorem end_eq {y m d h i c q : Int} (hq : -100000 ≤ q ∧ q ≤ 100000) : Ev (fun k => spec_l04End.f k y m d h i c q) (en y m d h i c q) := by
  unfold spec_l04End.f en
  refine Evx.bindc (spec_ok _ _ _ _ _ _) ?_
  by_cases hk : okc y m d h i c = true
  · have hb := stv_bound hk
    rw [if_pos hk]
    refine Evx.pos hk (Ev.bind (spec_stv hk) ?_)
    rw [Evx.w64 (i := stv y m d h i c - q) (by omega) (by omega)]
    refine Evx.bindc (in_eq _ _ _) (Evx.ite (fun h2 => ?_) (fun h2 => ?_))
    · rw [if_pos (of_decide_eq_true h2)]
      exact Ev.now _
    · rw [if_neg (fun e => h2 (decide_eq_true e))]
      exact Ev.now _
  · rw [if_neg hk]
    exact Evx.neg hk (Ev.now _)
theorem zone_eq {sg : Int} {s1 s2 : ByteArray} {a b c d : Int} (h1 : bs s1 = [a, b]) (h2 : bs s2 = [c, d]) : Ev (fun k => spec_l04Zone.f k sg s1 s2) (if (sg = 43 ∨ sg = 45) ∧ digB a = true ∧ digB b = true ∧ digB c = true ∧ digB d = true ∧ vl [a, b] 0 ≤ 23 ∧ vl [c, d] 0 ≤ 59 then ((if sg = 45 then -(vl [a, b] 0 * 3600 + vl [c, d] 0 * 60) else vl [a, b] 0 * 3600 + vl [c, d] 0 * 60), true) else (0, false)) := by
  have z1 : s1.size = 2 := by rw [← bs_length, h1]; rfl
  have z2 : s2.size = 2 := by rw [← bs_length, h2]; rfl
  have n1 := num_eq (s := s1) (by omega)
  have n2 := num_eq (s := s2) (by omega)
  rw [h1] at n1
  rw [h2] at n2
  have m1 := num_two a b
  have m2 := num_two c d
  unfold spec_l04Zone.f
  refine Ev.bind n1 (Ev.bind n2 ?_)
  have last : ∀ bad : Bool, (bad = false → (sg = 43 ∨ sg = 45) ∧ (0 ≤ num [a, b] ∧ num [a, b] ≤ 23) ∧ (0 ≤ num [c, d] ∧ num [c, d] ≤ 59)) → (bad = true → ¬ ((sg = 43 ∨ sg = 45) ∧ (0 ≤ num [a, b] ∧ num [a, b] ≤ 23) ∧ (0 ≤ num [c, d] ∧ num [c, d] ≤ 59))) → Ev (fun k => spec_l04Zone.j0 k sg (num [a, b]) (num [c, d]) bad) (if (sg = 43 ∨ sg = 45) ∧ digB a = true ∧ digB b = true ∧ digB c = true ∧ digB d = true ∧ vl [a, b] 0 ≤ 23 ∧ vl [c, d] 0 ≤ 59 then ((if sg = 45 then -(vl [a, b] 0 * 3600 + vl [c, d] 0 * 60) else vl [a, b] 0 * 3600 + vl [c, d] 0 * 60), true) else (0, false)) := by
    intro bad hg hb
    refine Ev.step (fun k => by rw [spec_l04Zone.j0]) ?_
    cases bad with
    | true =>
      have h0 := hb rfl
      have hc : ¬ ((sg = 43 ∨ sg = 45) ∧ digB a = true ∧ digB b = true ∧ digB c = true ∧ digB d = true ∧ vl [a, b] 0 ≤ 23 ∧ vl [c, d] 0 ≤ 59) := by
        rintro ⟨e1, e2, e3, e4, e5, e6, e7⟩
        have v1 := num_vl e2 e3
        have w1 := (vl_two e2 e3).2
        have v2 := num_vl e4 e5
        have w2 := (vl_two e4 e5).2
        exact h0 ⟨e1, by omega, by omega⟩
      rw [if_neg hc]
      exact Evx.pos rfl (Ev.now _)
    | false =>
      obtain ⟨g1, g2, g3⟩ := hg rfl
      have d1 := m1.1.1 g2.1
      have d2 := m2.1.1 g3.1
      have v1 := num_vl d1.1 d1.2
      have v2 := num_vl d2.1 d2.2
      rw [v1] at g2
      rw [v2] at g3
      have hc : (sg = 43 ∨ sg = 45) ∧ digB a = true ∧ digB b = true ∧ digB c = true ∧ digB d = true ∧ vl [a, b] 0 ≤ 23 ∧ vl [c, d] 0 ≤ 59 := ⟨g1, d1.1, d1.2, d2.1, d2.2, g2.2, g3.2⟩
      rw [if_pos hc, v1, v2]
      refine Evx.neg (by simp) ?_
      rw [Evx.w64 (i := vl [a, b] 0 * 3600) (by omega) (by omega), Evx.w64 (i := vl [c, d] 0 * 60) (by omega) (by omega), Evx.w64 (i := vl [a, b] 0 * 3600 + vl [c, d] 0 * 60) (by omega) (by omega), Evx.w64 (i := -(vl [a, b] 0 * 3600 + vl [c, d] 0 * 60)) (by omega) (by omega)]
      refine Evx.ite (fun e => ?_) (fun e => ?_)
      · rw [if_pos e]; exact Ev.now _
      · rw [if_neg e]; exact Ev.now _
  have two : ∀ (g : sg = 43 ∨ sg = 45), Ev (fun k => (spec_l01In.f (num [a, b]) 0 23).bind fun t121 => (if t121 = true then ((spec_l01In.f (num [c, d]) 0 59).bind fun t122 => (spec_l04Zone.j0 k sg (num [a, b]) (num [c, d]) (!t122))) else (spec_l04Zone.j0 k sg (num [a, b]) (num [c, d]) true))) (if (sg = 43 ∨ sg = 45) ∧ digB a = true ∧ digB b = true ∧ digB c = true ∧ digB d = true ∧ vl [a, b] 0 ≤ 23 ∧ vl [c, d] 0 ≤ 59 then ((if sg = 45 then -(vl [a, b] 0 * 3600 + vl [c, d] 0 * 60) else vl [a, b] 0 * 3600 + vl [c, d] 0 * 60), true) else (0, false)) := by
    intro g
    refine Evx.bindc (in_eq _ _ _) (Evx.ite (fun h3 => Evx.bindc (in_eq _ _ _) (last _ ?_ ?_)) (fun h3 => last _ ?_ ?_))
    · intro e
      have e' : decide (0 ≤ num [c, d] ∧ num [c, d] ≤ 59) = true := by rw [Bool.not_eq_false'] at e; exact e
      exact ⟨g, of_decide_eq_true h3, of_decide_eq_true e'⟩
    · intro e
      have e' : decide (0 ≤ num [c, d] ∧ num [c, d] ≤ 59) = false := by rw [Bool.not_eq_true'] at e; exact e
      exact fun x => of_decide_eq_false e' x.2.2
    · intro e; cases e
    · exact fun _ x => h3 (decide_eq_true x.2.1)
  refine Evx.ite (fun e => two (Or.inl e)) (fun e => Evx.ite (fun e2 => two (Or.inr e2)) (fun e2 => last _ (fun x => by cases x) (fun _ x => x.1.elim e e2)))
theorem en_bad {y m d h i c q : Int} (hk : okc y m d h i c = false) : en y m d h i c q = (0, 3) := by
  unfold en
  rw [if_neg (by rw [hk]; simp)]
theorem cut_bs {s : ByteArray} {a b : Nat} : bs (s.extract a b) = ((bs s).drop a).take (b - a) := by rw [bs_extract, List.drop_take]
theorem le_of_drop {s s' : ByteArray} {n : Nat} (h : bs s' = (bs s).drop n) (hs : s.size ≤ 1048576) : s'.size ≤ 1048576 := by
  rw [← bs_length, h, List.length_drop, bs_length]
  omega
theorem ev_one {α : Type} {g : Nat → Option α} {a b : α} (h : Ev g a) (k : Ev g b) : a = b := by
  obtain ⟨K1, h1⟩ := h
  obtain ⟨K2, h2⟩ := k
  exact Option.some.inj ((h1 (max K1 K2) (Nat.le_max_left _ _)).symm.trans (h2 (max K1 K2) (Nat.le_max_right _ _)))
theorem dg_all (s : ByteArray) (b : Bool) {n : Nat} (h4 : n ≤ 4) : ∃ v s' b', s'.size ≤ s.size ∧ Ev (fun k => impl_dateReader_digits.f k s b (n : Int)) (v, s', b') := by
  by_cases hl : s.size < n
  · exact ⟨0, s, true, Nat.le_refl _, Evx.eq (dg_eq s b h4) (by rw [if_pos hl])⟩
  · exact ⟨vl ((bs s).take n) 0, s.extract n s.size, b || !okd ((bs s).take n), by rw [ByteArray.size_extract]; omega, Evx.eq (dg_eq s b h4) (by rw [if_neg hl])⟩
theorem dg_size {s s' : ByteArray} {b b' : Bool} {n : Nat} {v : Int} (h4 : n ≤ 4) (h : Ev (fun k => impl_dateReader_digits.f k s b (n : Int)) (v, s', b')) : s'.size ≤ s.size := by
  obtain ⟨v1, s1, b1, h1, h2⟩ := dg_all s b h4
  have := ev_one h h2
  simp only [Prod.mk.injEq] at this
  rw [this.2.1]
  exact h1
theorem nd_size {s s' t : ByteArray} {b b' : Bool} (h : impl_dateReader_need.f s b t = some (s', b')) : s'.size ≤ s.size := by
  unfold impl_dateReader_need.f at h
  rw [is_eq] at h
  simp only [Option.bind_some] at h
  by_cases hp : pfx s t = true
  · rw [if_pos hp, if_pos hp] at h
    simp only [Option.some.injEq, Prod.mk.injEq] at h
    rw [← h.1, ByteArray.size_extract]
    omega
  · rw [if_neg hp, if_neg hp] at h
    simp only [Option.some.injEq, Prod.mk.injEq] at h
    rw [← h.1]
    exact Nat.le_refl _
theorem nd_all (s t : ByteArray) (b : Bool) : ∃ s' b', impl_dateReader_need.f s b t = some (s', b') := by
  unfold impl_dateReader_need.f
  rw [is_eq]
  simp only [Option.bind_some]
  by_cases hp : pfx s t = true
  · exact ⟨_, _, by rw [if_pos hp]⟩
  · exact ⟨_, _, by rw [if_neg hp]⟩
theorem ck_all (s : ByteArray) (b : Bool) : ∃ x y z s' b', Ev (fun k => impl_ReadRfc822.clk k s b) (x, y, z, s', b') := by
  obtain ⟨v1, s1, b1, h1, k1⟩ := dg_all s b (n := 2) (by omega)
  obtain ⟨s2, b2, k2⟩ := nd_all s1 ⟨#[58]⟩ b1
  obtain ⟨v3, s3, b3, h3, k3⟩ := dg_all s2 b2 (n := 2) (by omega)
  obtain ⟨s4, b4, k4⟩ := nd_all s3 ⟨#[58]⟩ b3
  obtain ⟨v5, s5, b5, h5, k5⟩ := dg_all s4 b4 (n := 2) (by omega)
  refine ⟨v1, v3, v5, s5, b5, ?_⟩
  unfold impl_ReadRfc822.clk
  exact Ev.bind k1 (Evx.bindc k2 (Ev.bind k3 (Evx.bindc k4 (Ev.bind k5 (Ev.now _)))))
theorem ck_size {s s' : ByteArray} {b b' : Bool} {x y z : Int} (h : Ev (fun k => impl_ReadRfc822.clk k s b) (x, y, z, s', b')) : s'.size ≤ s.size := by
  obtain ⟨v1, s1, b1, h1, k1⟩ := dg_all s b (n := 2) (by omega)
  obtain ⟨s2, b2, k2⟩ := nd_all s1 ⟨#[58]⟩ b1
  obtain ⟨v3, s3, b3, h3, k3⟩ := dg_all s2 b2 (n := 2) (by omega)
  obtain ⟨s4, b4, k4⟩ := nd_all s3 ⟨#[58]⟩ b3
  obtain ⟨v5, s5, b5, h5, k5⟩ := dg_all s4 b4 (n := 2) (by omega)
  have h2 := nd_size k2
  have h4 := nd_size k4
  have e : Ev (fun k => impl_ReadRfc822.clk k s b) (v1, v3, v5, s5, b5) := by
    unfold impl_ReadRfc822.clk
    exact Ev.bind k1 (Evx.bindc k2 (Ev.bind k3 (Evx.bindc k4 (Ev.bind k5 (Ev.now _)))))
  have := ev_one h e
  simp only [Prod.mk.injEq] at this
  rw [this.2.2.2.1]
  omega
open Go.Proofs.Ytccnidlkpinpgaa.Spl (sp1 sp1_ne putOn)
theorem sp1_none {x : Int} : ∀ {a : List Int}, x ∉ a → sp1 x a = [a]
  | [], _ => rfl
  | c :: l, h => by
    rw [sp1, if_neg (fun e => h (by simp [e])), sp1_none (fun e => h (List.mem_cons_of_mem _ e))]
    rfl
theorem sp1_app {x : Int} {b : List Int} : ∀ {a : List Int}, x ∉ a → sp1 x (a ++ x :: b) = a :: sp1 x b
  | [], _ => by rw [List.nil_append, sp1, if_pos rfl]
  | c :: l, h => by
    rw [List.cons_append, sp1, if_neg (fun e => h (by simp [e])), sp1_app (fun e => h (List.mem_cons_of_mem _ e))]
    rfl
theorem sp1_inv {x : Int} : ∀ {l p : List Int} {ps : List (List Int)}, sp1 x l = p :: ps → x ∉ p ∧ ((ps = [] ∧ l = p) ∨ ∃ l', l = p ++ x :: l' ∧ sp1 x l' = ps)
  | [], p, ps, h => by
    rw [sp1] at h
    obtain ⟨rfl, rfl⟩ := List.cons.inj h
    exact ⟨by simp, Or.inl ⟨rfl, rfl⟩⟩
  | c :: l, p, ps, h => by
    rw [sp1] at h
    by_cases hc : c = x
    · rw [if_pos hc] at h
      obtain ⟨rfl, rfl⟩ := List.cons.inj h
      exact ⟨by simp, Or.inr ⟨l, by rw [hc]; rfl, rfl⟩⟩
    · rw [if_neg hc] at h
      obtain ⟨p1, ps1, e⟩ : ∃ p1 ps1, sp1 x l = p1 :: ps1 := by
        cases h2 : sp1 x l with
        | nil => exact absurd h2 (sp1_ne x l)
        | cons p ps => exact ⟨p, ps, rfl⟩
      rw [e] at h
      obtain ⟨rfl, rfl⟩ := List.cons.inj h
      obtain ⟨h1, h2⟩ := sp1_inv e
      refine ⟨?_, ?_⟩
      · intro hm
        rcases List.mem_cons.1 hm with e1 | e1
        · exact hc e1.symm
        · exact h1 e1
      · rcases h2 with ⟨e1, e2⟩ | ⟨l', e1, e2⟩
        · exact Or.inl ⟨e1, by rw [e2]; rfl⟩
        · exact Or.inr ⟨l', by rw [e1]; rfl, e2⟩
/-- The names of the months and of the days of the week, as lists. -/
def mnl : List (List Int) := [[74, 97, 110], [70, 101, 98], [77, 97, 114], [65, 112, 114], [77, 97, 121], [74, 117, 110], [74, 117, 108], [65, 117, 103], [83, 101, 112], [79, 99, 116], [78, 111, 118], [68, 101, 99]]
def wdl : List (List Int) := [[83, 117, 110], [77, 111, 110], [84, 117, 101], [87, 101, 100], [84, 104, 117], [70, 114, 105], [83, 97, 116]]
theorem mns_bs : impl_ReadRfc822.mns.map bs = mnl := rfl
theorem wds_bs : impl_ReadRfc822.wds.map bs = wdl := rfl
/-- The place of the first of some lists that is a given one. -/
def fi : List (List Int) → Int → List Int → Int
  | [], _, _ => -1
  | t :: ts, j, u => if u = t then j else fi ts (j + 1) u
/-- The last place. -/
def la : List (List Int) → Int → Int → List Int → Int
  | [], _, x, _ => x
  | t :: ts, j, x, u => la ts (j + 1) (if t = u then j else x) u
theorem fi_ge : ∀ (ts : List (List Int)) (j : Int) (u : List Int), 0 ≤ j → (fi ts j u = -1 ∧ u ∉ ts) ∨ (j ≤ fi ts j u ∧ fi ts j u ≤ j + ts.length ∧ u ∈ ts)
  | [], j, u, _ => Or.inl ⟨rfl, by simp⟩
  | t :: ts, j, u, h => by
    rw [fi]
    by_cases e : u = t
    · rw [if_pos e]
      exact Or.inr ⟨Int.le_refl _, by simp only [List.length_cons]; omega, by rw [e]; simp⟩
    · rw [if_neg e]
      rcases fi_ge ts (j + 1) u (by omega) with h1 | h1
      · exact Or.inl ⟨h1.1, by simp [e, h1.2]⟩
      · exact Or.inr ⟨by omega, by simp only [List.length_cons]; omega, List.mem_cons_of_mem _ h1.2.2⟩
theorem la_fi : ∀ (ts : List (List Int)) (j x : Int) (u : List Int), 0 ≤ j → ts.Nodup → la ts j x u = if u ∈ ts then fi ts j u else x
  | [], j, x, u, _, _ => rfl
  | t :: ts, j, x, u, h, hn => by
    have hn' := List.nodup_cons.1 hn
    rw [la, la_fi ts (j + 1) _ u (by omega) hn'.2, fi]
    by_cases e : u = t
    · subst e
      rw [if_neg hn'.1, if_pos rfl, if_pos (by simp), if_pos rfl]
    · by_cases hm : u ∈ ts
      · rw [if_pos hm, if_pos (List.mem_cons_of_mem _ hm), if_neg e]
      · rw [if_neg hm, if_neg (fun e2 : t = u => e e2.symm), if_neg (by simp [e, hm])]
theorem la_mn (u : List Int) : la mnl 1 0 u = fi mnl 0 u + 1 := by
  rw [la_fi mnl 1 0 u (by omega) (by decide)]
  have sh : ∀ (ts : List (List Int)) (j : Int), u ∈ ts → fi ts (j + 1) u = fi ts j u + 1 := by
    intro ts
    induction ts with
    | nil => intro j h; cases h
    | cons t ts ih =>
      intro j h
      rw [fi, fi]
      by_cases e : u = t
      · rw [if_pos e, if_pos e]
      · rw [if_neg e, if_neg e]
        exact ih (j + 1) ((List.mem_cons.1 h).resolve_left e)
  by_cases hm : u ∈ mnl
  · rw [if_pos hm]
    exact sh mnl 0 hm
  · rw [if_neg hm]
    rcases fi_ge mnl 0 u (Int.le_refl _) with h | h
    · omega
    · exact absurd h.2.2 hm
theorem la_wd (u : List Int) : la wdl 0 (-1) u = fi wdl 0 u := by
  rw [la_fi wdl 0 (-1) u (by omega) (by decide)]
  by_cases hm : u ∈ wdl
  · rw [if_pos hm]
  · rw [if_neg hm]
    rcases fi_ge wdl 0 u (Int.le_refl _) with h | h
    · exact h.1.symm
    · exact absurd h.2.2 hm
theorem ix_eq : ∀ (ts : List ByteArray) (j : Int) (s : ByteArray) (b : Bool), 0 ≤ j → (∀ t ∈ ts, t.size = 3) → ∃ s', bs s' = (if 0 ≤ fi (ts.map bs) j ((bs s).take 3) then (bs s).drop 3 else bs s) ∧ impl_ReadRfc822.ix ts j s b = some (fi (ts.map bs) j ((bs s).take 3), s', b)
  | [], j, s, b, _, _ => ⟨s, rfl, rfl⟩
  | t :: ts, j, s, b, hj, h3 => by
    have ht : t.size = 3 := h3 t (by simp)
    rw [List.map_cons, fi, impl_ReadRfc822.ix]
    by_cases e : (bs s).take 3 = bs t
    · obtain ⟨s', g, k⟩ := is_yes (s := s) (t := t) b (by rw [ht]; exact e)
      rw [if_pos e, if_pos hj, k]
      exact ⟨s', by rw [g, ht], rfl⟩
    · have k := is_no (s := s) (t := t) b (by rw [ht]; exact e)
      rw [if_neg e, k]
      exact ix_eq ts (j + 1) s b (by omega) (fun u hu => h3 u (List.mem_cons_of_mem _ hu))
/-- The day of the week of a stamp, as both sides write it. -/
def wk (st : Int) : Int := Int.tmod (wrap64 ((wrap64 (Int.tdiv st 86400)) + 4)) 7
/-- What a date comes to. -/
def fin8 (day y m d h i c q : Int) : Int × Int := if okc y m d h i c = true then (if 0 ≤ day ∧ wk (stv y m d h i c) ≠ day then (0, 3) else en y m d h i c q) else (0, 3)
/-- The zone. -/
def zr (r : List Int) : Option Int := if r = [71, 77, 84] then some 0 else if r = [85, 84] then some 0 else match zp r [] with
  | some (q, []) => some q
  | _ => none
def val8 (day y m d h i c : Int) (r : List Int) : Int × Int := match zr r with
  | some q => fin8 day y m d h i c q
  | none => (0, 3)
theorem z4_good (day y m d h i c q : Int) (hq : -100000 ≤ q ∧ q ≤ 100000) (s : ByteArray) : Ev (fun k => impl_ReadRfc822.z4 k day y m d h i c s false q) (if bs s = [] then fin8 day y m d h i c q else (0, 3)) := by
  unfold impl_ReadRfc822.z4
  have st : Ev (fun k => (impl_dateReader_stamp.f k s false y m d h i c q).bind fun x => some (x.1, x.2.1)) (if bs s = [] then en y m d h i c q else (0, 3)) := by
    refine Ev.bind (st_good s hq) ?_
    by_cases h0 : bs s = []
    · rw [if_pos h0, if_pos h0]; exact Ev.now _
    · rw [if_neg h0, if_neg h0]; exact Ev.now _
  by_cases hd : 0 ≤ day
  · refine Evx.pos hd (Ev.bind (impl_ok _ _ _ _ _ _) ?_)
    by_cases hk : okc y m d h i c = true
    · refine Evx.pos hk (Ev.bind (impl_stv hk) (Evx.bindc (b := wk (stv y m d h i c)) rfl ?_))
      by_cases hw : wk (stv y m d h i c) = day
      · have e8 : fin8 day y m d h i c q = en y m d h i c q := by
          unfold fin8
          rw [if_pos hk, if_neg (fun e => e.2 hw)]
        rw [e8]
        exact Evx.pos hw st
      · have e8 : fin8 day y m d h i c q = (0, 3) := by
          unfold fin8
          rw [if_pos hk, if_pos ⟨hd, hw⟩]
        rw [e8]
        refine Evx.neg hw (Evx.eq (Ev.now _) ?_)
        split <;> rfl
    · have e8 : fin8 day y m d h i c q = (0, 3) := by
        unfold fin8
        rw [if_neg hk]
      refine Evx.neg hk (Evx.eq st ?_)
      rw [e8, en_bad (by simpa using hk)]
  · have e8 : fin8 day y m d h i c q = en y m d h i c q := by
      unfold fin8
      by_cases hk : okc y m d h i c = true
      · rw [if_pos hk, if_neg (fun e => hd e.1)]
      · rw [if_neg hk, en_bad (by simpa using hk)]
    rw [e8]
    exact Evx.neg hd st
theorem z4_bad (day y m d h i c q : Int) (s : ByteArray) : Ev (fun k => impl_ReadRfc822.z4 k day y m d h i c s true q) (0, 3) := by
  unfold impl_ReadRfc822.z4
  have st : Ev (fun k => (impl_dateReader_stamp.f k s true y m d h i c q).bind fun x => some (x.1, x.2.1)) (0, 3) := Ev.bind (st_bad _ _ _ _ _ _ _ _) (Ev.now _)
  refine Evx.ite (fun hd => Ev.bind (impl_ok _ _ _ _ _ _) (Evx.ite (fun hk => ?_) (fun hk => st))) (fun hd => st)
  exact Ev.bind (impl_stv hk) (Evx.bindc (b := wk (stv y m d h i c)) rfl (Evx.ite (fun _ => st) (fun _ => Ev.now _)))
theorem z4_nok {day y m d h i c q : Int} (hk : okc y m d h i c = false) (s : ByteArray) (b : Bool) : Ev (fun k => impl_ReadRfc822.z4 k day y m d h i c s b q) (0, 3) := by
  unfold impl_ReadRfc822.z4
  have st : Ev (fun k => (impl_dateReader_stamp.f k s b y m d h i c q).bind fun x => some (x.1, x.2.1)) (0, 3) := by
    unfold impl_dateReader_stamp.f
    cases b with
    | true => exact Ev.bind (Evx.pos rfl (Ev.step (fun k => by rw [impl_dateReader_stamp.j0]) (Evx.pos rfl (Ev.now _)))) (Ev.now _)
    | false =>
      by_cases h1 : s.toList = ([] : List UInt8)
      · exact Ev.bind (Evx.neg (by simp) (Evx.pos h1 (Ev.bind (impl_ok _ _ _ _ _ _) (Ev.step (fun k => by rw [impl_dateReader_stamp.j0]) (Evx.pos (by rw [hk]; rfl) (Ev.now _)))))) (Ev.now _)
      · exact Ev.bind (Evx.neg (by simp) (Evx.neg h1 (Ev.step (fun k => by rw [impl_dateReader_stamp.j0]) (Evx.pos rfl (Ev.now _))))) (Ev.now _)
  refine Evx.ite (fun hd => Ev.bind (impl_ok _ _ _ _ _ _) (Evx.neg (by rw [hk]; simp) st)) (fun hd => st)
theorem z3_nok {day y m d h i c : Int} (hk : okc y m d h i c = false) (s : ByteArray) (b : Bool) : Ev (fun k => impl_ReadRfc822.z3 k day y m d h i c s b) (0, 3) := by
  have zz : ∀ (fl : Bool) (s : ByteArray) (b : Bool), Ev (fun k => impl_ReadRfc822.z3z k day y m d h i c fl s b) (0, 3) := by
    intro fl s b
    unfold impl_ReadRfc822.z3z
    refine Evx.ite (fun _ => ?_) (fun _ => z4_nok hk s b)
    cases b with
    | true =>
      obtain ⟨q, s2, k2⟩ := zn_bad' s ⟨#[]⟩
      exact Ev.bind k2 (z4_nok hk _ _)
    | false =>
      cases hzp : zp (bs s) (bs ⟨#[]⟩) with
      | none =>
        obtain ⟨q, s2, k2⟩ := zn_bad hzp
        exact Ev.bind k2 (z4_nok hk _ _)
      | some v =>
        obtain ⟨s2, g2, k2⟩ := zn_good hzp
        exact Ev.bind k2 (z4_nok hk _ _)
  unfold impl_ReadRfc822.z3
  refine Evx.bindc (is_eq s b _) (Evx.ite (fun _ => zz _ _ _) (fun _ => Evx.bindc (is_eq _ _ _) (zz _ _ _)))
theorem z3_bad (day y m d h i c : Int) (s : ByteArray) : Ev (fun k => impl_ReadRfc822.z3 k day y m d h i c s true) (0, 3) := by
  have zz : ∀ (fl : Bool) (s : ByteArray), Ev (fun k => impl_ReadRfc822.z3z k day y m d h i c fl s true) (0, 3) := by
    intro fl s
    unfold impl_ReadRfc822.z3z
    refine Evx.ite (fun _ => ?_) (fun _ => z4_bad _ _ _ _ _ _ _ _ s)
    obtain ⟨q, s2, k2⟩ := zn_bad' s ⟨#[]⟩
    exact Ev.bind k2 (z4_bad _ _ _ _ _ _ _ _ _)
  unfold impl_ReadRfc822.z3
  refine Evx.bindc (is_eq s true _) (Evx.ite (fun _ => zz _ _) (fun _ => Evx.bindc (is_eq _ _ _) (zz _ _)))
theorem bsGMT : bs ⟨#[71, 77, 84]⟩ = [71, 77, 84] := rfl
theorem bsUT : bs ⟨#[85, 84]⟩ = [85, 84] := rfl
theorem zp_sign {r t : List Int} {a : Int} {l : List Int} (h : r = a :: l) (ha : a ≠ 43 ∧ a ≠ 45) : zp r t = none := by
  subst h
  unfold zp
  split
  · rename_i sg a' b r1 heq
    split
    · rw [if_neg]
      intro e
      have := (List.cons.inj heq).1
      rcases e.1 with e1 | e1 <;> omega
    · rfl
  · rfl
theorem z3_good (day y m d h i c : Int) (s : ByteArray) : Ev (fun k => impl_ReadRfc822.z3 k day y m d h i c s false) (val8 day y m d h i c (bs s)) := by
  unfold impl_ReadRfc822.z3
  by_cases hg : (bs s).take 3 = [71, 77, 84]
  · obtain ⟨s1, g1, k1⟩ := is_yes (s := s) (t := ⟨#[71, 77, 84]⟩) false hg
    have g1' : bs s1 = (bs s).drop 3 := g1
    refine Evx.bindc k1 (Evx.pos rfl ?_)
    unfold impl_ReadRfc822.z3z
    refine Evx.neg (by simp) (Evx.eq (z4_good day y m d h i c 0 (by omega) s1) ?_)
    have hr : bs s = 71 :: 77 :: 84 :: bs s1 := by
      rw [g1']
      have := List.take_append_drop 3 (bs s)
      rw [hg] at this
      exact this.symm
    unfold val8 zr
    rw [hr]
    by_cases h0 : bs s1 = []
    · rw [if_pos h0, h0, if_pos rfl]
    · rw [if_neg h0, if_neg (by simp [h0]), if_neg (by simp), zp_sign rfl (by omega)]
  · have k1 := is_no (s := s) (t := ⟨#[71, 77, 84]⟩) false hg
    refine Evx.bindc k1 (Evx.neg (by simp) ?_)
    have ng : ¬ bs s = [71, 77, 84] := fun e => hg (by rw [e]; rfl)
    by_cases hu : (bs s).take 2 = [85, 84]
    · obtain ⟨s1, g1, k2⟩ := is_yes (s := s) (t := ⟨#[85, 84]⟩) false hu
      have g1' : bs s1 = (bs s).drop 2 := g1
      refine Evx.bindc k2 ?_
      unfold impl_ReadRfc822.z3z
      refine Evx.neg (by simp) (Evx.eq (z4_good day y m d h i c 0 (by omega) s1) ?_)
      have hr : bs s = 85 :: 84 :: bs s1 := by
        rw [g1']
        have := List.take_append_drop 2 (bs s)
        rw [hu] at this
        exact this.symm
      unfold val8 zr
      rw [if_neg ng, hr]
      by_cases h0 : bs s1 = []
      · rw [if_pos h0, h0, if_pos rfl]
      · rw [if_neg h0, if_neg (by simp [h0]), zp_sign rfl (by omega)]
    · have k2 := is_no (s := s) (t := ⟨#[85, 84]⟩) false hu
      have nu : ¬ bs s = [85, 84] := fun e => hu (by rw [e]; rfl)
      refine Evx.bindc k2 ?_
      unfold impl_ReadRfc822.z3z val8 zr
      rw [if_neg ng, if_neg nu]
      refine Evx.pos (by simp) ?_
      cases hzp : zp (bs s) [] with
      | none =>
        obtain ⟨q, s2, k3⟩ := zn_bad (s := s) (t := ⟨#[]⟩) hzp
        exact Ev.bind k3 (z4_bad _ _ _ _ _ _ _ _ _)
      | some v =>
        obtain ⟨q, r2⟩ := v
        obtain ⟨s2, g2, k3⟩ := zn_good (s := s) (t := ⟨#[]⟩) hzp
        have hb := zp_bound hzp
        refine Ev.bind k3 (Evx.eq (z4_good day y m d h i c q ⟨hb.1, hb.2.1⟩ s2) ?_)
        rw [g2]
        cases r2 with
        | nil => rw [if_pos rfl]
        | cons a r => rw [if_neg (by simp)]
/-- Behind the day's digits. -/
def G2 (l : List Int) : Prop := l.take 1 = [32] ∧ 0 ≤ fi mnl 0 ((l.drop 1).take 3) ∧ (l.drop 4).take 1 = [32] ∧ (4 ≤ (l.drop 5).length ∧ okd ((l.drop 5).take 4) = true) ∧ (l.drop 9).take 1 = [32] ∧ ckP (l.drop 10) ∧ (l.drop 18).take 1 = [32]
instance (l : List Int) : Decidable (G2 l) := by unfold G2; infer_instance
def z2ans (day d : Int) (l : List Int) : Int × Int := if G2 l then val8 day (vl ((l.drop 5).take 4) 0) (fi mnl 0 ((l.drop 1).take 3) + 1) d (vl ((l.drop 10).take 2) 0) (vl ((l.drop 13).take 2) 0) (vl ((l.drop 16).take 2) 0) (l.drop 19) else (0, 3)
theorem ans2_no {day d : Int} {l : List Int} (h : ¬ G2 l) : z2ans day d l = (0, 3) := by unfold z2ans; rw [if_neg h]
theorem fi_mn (u : List Int) : fi mnl 0 u ≤ 100 ∧ -1 ≤ fi mnl 0 u := by
  rcases fi_ge mnl 0 u (Int.le_refl _) with h | h
  · omega
  · have : (mnl.length : Int) = 12 := rfl
    omega
/-- The steps behind the month. -/
def y5 (k : Nat) (day d m y h i c : Int) (s : ByteArray) (b : Bool) : Option (Int × Int) := (impl_dateReader_need.f s b ⟨#[32]⟩).bind fun n4 => impl_ReadRfc822.z3 k day y (m + 1) d h i c n4.1 n4.2
def y4 (k : Nat) (day d m y : Int) (s : ByteArray) (b : Bool) : Option (Int × Int) := (impl_ReadRfc822.clk k s b).bind fun c => y5 k day d m y c.1 c.2.1 c.2.2.1 c.2.2.2.1 c.2.2.2.2
def y3 (k : Nat) (day d m y : Int) (s : ByteArray) (b : Bool) : Option (Int × Int) := (impl_dateReader_need.f s b ⟨#[32]⟩).bind fun n3 => y4 k day d m y n3.1 n3.2
def y2 (k : Nat) (day d m : Int) (s : ByteArray) (b : Bool) : Option (Int × Int) := (impl_dateReader_digits.f k s b 4).bind fun y => y3 k day d m y.1 y.2.1 y.2.2
def y1 (k : Nat) (day d m : Int) (s : ByteArray) (b : Bool) : Option (Int × Int) := (impl_dateReader_need.f s b ⟨#[32]⟩).bind fun n2 => y2 k day d m n2.1 n2.2
theorem z2_eq (k : Nat) (day d : Int) (s : ByteArray) (b : Bool) : impl_ReadRfc822.z2 k day d s b = (impl_dateReader_need.f s b ⟨#[32]⟩).bind fun n1 => (impl_ReadRfc822.ix impl_ReadRfc822.mns 0 n1.1 n1.2).bind fun m => if m.1 ≤ 100 ∧ -1 ≤ m.1 then y1 k day d m.1 m.2.1 m.2.2 else none := rfl
theorem y5b (day d m y h i c : Int) (s : ByteArray) : Ev (fun k => y5 k day d m y h i c s true) (0, 3) := by
  obtain ⟨s', k1⟩ := nd_bad' s ⟨#[32]⟩
  exact Evx.bindc k1 (z3_bad _ _ _ _ _ _ _ _)
theorem y4b (day d m y : Int) (s : ByteArray) : Ev (fun k => y4 k day d m y s true) (0, 3) := by
  obtain ⟨a, b, c, s', k1⟩ := ck_bad' s
  exact Ev.bind k1 (y5b _ _ _ _ _ _ _ _)
theorem y3b (day d m y : Int) (s : ByteArray) : Ev (fun k => y3 k day d m y s true) (0, 3) := by
  obtain ⟨s', k1⟩ := nd_bad' s ⟨#[32]⟩
  exact Evx.bindc k1 (y4b _ _ _ _ _)
theorem y2b (day d m : Int) (s : ByteArray) : Ev (fun k => y2 k day d m s true) (0, 3) := by
  obtain ⟨v, s', k1⟩ := dg_bad' s (n := 4) (by omega)
  exact Ev.bind k1 (y3b _ _ _ _ _)
theorem y1b (day d m : Int) (s : ByteArray) : Ev (fun k => y1 k day d m s true) (0, 3) := by
  obtain ⟨s', k1⟩ := nd_bad' s ⟨#[32]⟩
  exact Evx.bindc k1 (y2b _ _ _ _)
theorem okc_m0 (y d h i c : Int) : okc y (-1 + 1) d h i c = false := decide_eq_false (fun e => by omega)
/-- Without a month. -/
theorem y1n (day d : Int) (s : ByteArray) (b : Bool) : Ev (fun k => y1 k day d (-1) s b) (0, 3) := by
  obtain ⟨s1, b1, k1⟩ := nd_all s ⟨#[32]⟩ b
  obtain ⟨v2, s2, b2, _, k2⟩ := dg_all s1 b1 (n := 4) (by omega)
  obtain ⟨s3, b3, k3⟩ := nd_all s2 ⟨#[32]⟩ b2
  obtain ⟨x, y, z, s4, b4, k4⟩ := ck_all s3 b3
  obtain ⟨s5, b5, k5⟩ := nd_all s4 ⟨#[32]⟩ b4
  exact Evx.bindc k1 (Ev.bind k2 (Evx.bindc k3 (Ev.bind k4 (Evx.bindc k5 (z3_nok (okc_m0 _ _ _ _ _) _ _)))))
theorem z2b (day d : Int) (s : ByteArray) : Ev (fun k => impl_ReadRfc822.z2 k day d s true) (0, 3) := by
  refine Ev.congr (fun k => z2_eq k day d s true) ?_
  obtain ⟨s1, k1⟩ := nd_bad' s ⟨#[32]⟩
  obtain ⟨s2, g2, k2⟩ := ix_eq impl_ReadRfc822.mns 0 s1 true (Int.le_refl _) (by decide)
  exact Evx.bindc k1 (Evx.bindc k2 (Evx.pos (by rw [mns_bs]; exact fi_mn _) (y1b _ _ _ _)))
theorem z2g (day d : Int) (s : ByteArray) : Ev (fun k => impl_ReadRfc822.z2 k day d s false) (z2ans day d (bs s)) := by
  refine Ev.congr (fun k => z2_eq k day d s false) ?_
  by_cases h1 : (bs s).take 1 = [32]
  rotate_left
  · obtain ⟨s1, k1⟩ := nd_bad (s := s) (t := ⟨#[32]⟩) h1
    obtain ⟨s2, g2, k2⟩ := ix_eq impl_ReadRfc822.mns 0 s1 true (Int.le_refl _) (by decide)
    rw [ans2_no (fun hp => h1 hp.1)]
    exact Evx.bindc k1 (Evx.bindc k2 (Evx.pos (by rw [mns_bs]; exact fi_mn _) (y1b _ _ _ _)))
  obtain ⟨s1, g1, k1⟩ := nd_good (s := s) (t := ⟨#[32]⟩) h1
  have g1' : bs s1 = (bs s).drop 1 := g1
  obtain ⟨s2, g2, k2⟩ := ix_eq impl_ReadRfc822.mns 0 s1 false (Int.le_refl _) (by decide)
  rw [mns_bs, g1'] at g2 k2
  refine Evx.bindc k1 (Evx.bindc k2 (Evx.pos (fi_mn _) ?_))
  by_cases h2 : 0 ≤ fi mnl 0 (((bs s).drop 1).take 3)
  rotate_left
  · have e : fi mnl 0 (((bs s).drop 1).take 3) = -1 := by have := fi_mn (((bs s).drop 1).take 3); omega
    rw [ans2_no (fun hp => h2 hp.2.1)]
    simp only [e]
    exact y1n day d s2 false
  rw [if_pos h2] at g2
  have g2' : bs s2 = (bs s).drop 4 := by rw [g2, List.drop_drop]
  by_cases h3 : ((bs s).drop 4).take 1 = [32]
  rotate_left
  · obtain ⟨s3, k3⟩ := nd_bad (s := s2) (t := ⟨#[32]⟩) (by rw [g2']; exact h3)
    rw [ans2_no (fun hp => h3 hp.2.2.1)]
    exact Evx.bindc k3 (y2b _ _ _ _)
  obtain ⟨s3, g3, k3⟩ := nd_good (s := s2) (t := ⟨#[32]⟩) (by rw [g2']; exact h3)
  have g3' : bs s3 = (bs s).drop 5 := by rw [g3, g2', List.drop_drop]; rfl
  by_cases h4 : 4 ≤ ((bs s).drop 5).length ∧ okd (((bs s).drop 5).take 4) = true
  rotate_left
  · obtain ⟨v, s4, k4⟩ := dg_bad (s := s3) (n := 4) (by omega) (by rw [g3']; exact h4)
    rw [ans2_no (fun hp => h4 hp.2.2.2.1)]
    exact Evx.bindc k3 (Ev.bind k4 (y3b _ _ _ _ _))
  obtain ⟨s4, g4, k4⟩ := dg_good (s := s3) (n := 4) (by omega) (by rw [g3']; exact h4)
  have g4' : bs s4 = (bs s).drop 9 := by rw [g4, g3', List.drop_drop]
  rw [g3'] at k4
  by_cases h5 : ((bs s).drop 9).take 1 = [32]
  rotate_left
  · obtain ⟨s5, k5⟩ := nd_bad (s := s4) (t := ⟨#[32]⟩) (by rw [g4']; exact h5)
    rw [ans2_no (fun hp => h5 hp.2.2.2.2.1)]
    exact Evx.bindc k3 (Ev.bind k4 (Evx.bindc k5 (y4b _ _ _ _ _)))
  obtain ⟨s5, g5, k5⟩ := nd_good (s := s4) (t := ⟨#[32]⟩) (by rw [g4']; exact h5)
  have g5' : bs s5 = (bs s).drop 10 := by rw [g5, g4', List.drop_drop]; rfl
  by_cases h6 : ckP ((bs s).drop 10)
  rotate_left
  · obtain ⟨x, y, z, s6, k6⟩ := ck_bad (s := s5) (by rw [g5']; exact h6)
    rw [ans2_no (fun hp => h6 hp.2.2.2.2.2.1)]
    exact Evx.bindc k3 (Ev.bind k4 (Evx.bindc k5 (Ev.bind k6 (y5b _ _ _ _ _ _ _ _))))
  obtain ⟨s6, g6, k6⟩ := ck_good (s := s5) (by rw [g5']; exact h6)
  have g6' : bs s6 = (bs s).drop 18 := by rw [g6, g5', List.drop_drop]
  rw [g5', List.drop_drop, List.drop_drop] at k6
  by_cases h7 : ((bs s).drop 18).take 1 = [32]
  rotate_left
  · obtain ⟨s7, k7⟩ := nd_bad (s := s6) (t := ⟨#[32]⟩) (by rw [g6']; exact h7)
    rw [ans2_no (fun hp => h7 hp.2.2.2.2.2.2)]
    exact Evx.bindc k3 (Ev.bind k4 (Evx.bindc k5 (Ev.bind k6 (Evx.bindc k7 (z3_bad _ _ _ _ _ _ _ _)))))
  obtain ⟨s7, g7, k7⟩ := nd_good (s := s6) (t := ⟨#[32]⟩) (by rw [g6']; exact h7)
  have g7' : bs s7 = (bs s).drop 19 := by rw [g7, g6', List.drop_drop]; rfl
  unfold z2ans
  rw [if_pos ⟨h1, h2, h3, h4, h5, h6, h7⟩]
  refine Evx.bindc k3 (Ev.bind k4 (Evx.bindc k5 (Ev.bind k6 (Evx.bindc k7 (Evx.eq (z3_good _ _ _ _ _ _ _ s7) ?_)))))
  rw [g7']
def z1ans (day : Int) (l : List Int) : Int × Int := if lead l = 1 then z2ans day (vl (l.take 1) 0) (l.drop 1) else if 2 ≤ l.length ∧ okd (l.take 2) = true then z2ans day (vl (l.take 2) 0) (l.drop 2) else (0, 3)
theorem lead_one {l : List Int} (h : lead l = 1) : 1 ≤ l.length ∧ okd (l.take 1) = true := by
  cases l with
  | nil => simp [lead] at h
  | cons a r =>
    refine ⟨by simp, ?_⟩
    unfold lead at h
    rw [List.takeWhile_cons] at h
    by_cases ha : digB a = true
    · simp [okd, ha]
    · rw [if_neg ha] at h
      simp at h
theorem z1g (day : Int) (s : ByteArray) (hs : s.size ≤ 1048576) : Ev (fun k => impl_ReadRfc822.z1 k day s false) (z1ans day (bs s)) := by
  unfold impl_ReadRfc822.z1 z1ans
  refine Ev.bind (here_eq s false hs) ?_
  by_cases h1 : lead (bs s) = 1
  · rw [if_pos h1]
    obtain ⟨s1, g1, k1⟩ := dg_good (s := s) (n := 1) (by omega) (lead_one h1)
    refine Evx.pos (by simp only; omega) (Ev.bind k1 (Evx.eq (z2g day _ s1) ?_))
    rw [g1]
  · rw [if_neg h1]
    refine Evx.neg (by simp only; omega) ?_
    by_cases h2 : 2 ≤ (bs s).length ∧ okd ((bs s).take 2) = true
    · rw [if_pos h2]
      obtain ⟨s1, g1, k1⟩ := dg_good (s := s) (n := 2) (by omega) h2
      refine Ev.bind k1 (Evx.eq (z2g day _ s1) ?_)
      rw [g1]
    · rw [if_neg h2]
      obtain ⟨v, s1, k1⟩ := dg_bad (s := s) (n := 2) (by omega) h2
      exact Ev.bind k1 (z2b day v s1)
theorem z1b (day : Int) (s : ByteArray) (hs : s.size ≤ 1048576) : Ev (fun k => impl_ReadRfc822.z1 k day s true) (0, 3) := by
  unfold impl_ReadRfc822.z1
  refine Ev.bind (here_eq s true hs) (Evx.ite (fun _ => ?_) (fun _ => ?_))
  · obtain ⟨v, s1, k1⟩ := dg_bad' s (n := 1) (by omega)
    exact Ev.bind k1 (z2b day v s1)
  · obtain ⟨v, s1, k1⟩ := dg_bad' s (n := 2) (by omega)
    exact Ev.bind k1 (z2b day v s1)
/-- What the program answers to a text that is not too long. -/
def ans8 (l : List Int) : Int × Int := if 0 ≤ fi wdl 0 (l.take 3) then (if (l.drop 3).take 2 = [44, 32] then z1ans (fi wdl 0 (l.take 3)) (l.drop 5) else (0, 3)) else z1ans (-1) l
theorem fi_wd (u : List Int) : fi wdl 0 u ≤ 7 ∧ -1 ≤ fi wdl 0 u := by
  rcases fi_ge wdl 0 u (Int.le_refl _) with h | h
  · omega
  · have : (wdl.length : Int) = 7 := rfl
    omega
theorem impl_read (s : ByteArray) (hs : s.size ≤ 1048576) : impl_ReadRfc822.f s = some (if (s.size : Int) > 65536 then (0, 2) else ans8 (bs s)) := by
  refine impl_ReadRfc822.f_of ?_
  unfold impl_ReadRfc822.fk
  refine Evx.ite (fun h => by rw [if_pos h]; exact Ev.now _) (fun h => ?_)
  rw [if_neg h]
  obtain ⟨s1, g1, k1⟩ := ix_eq impl_ReadRfc822.wds 0 s false (Int.le_refl _) (by decide)
  rw [wds_bs] at g1 k1
  refine Evx.bindc k1 ?_
  unfold ans8
  by_cases hd : 0 ≤ fi wdl 0 ((bs s).take 3)
  · rw [if_pos hd] at g1
    rw [if_pos hd]
    refine Evx.pos hd ?_
    have z1 := le_of_drop g1 hs
    by_cases h2 : ((bs s).drop 3).take 2 = [44, 32]
    · obtain ⟨s2, g2, k2⟩ := nd_good (s := s1) (t := ⟨#[44, 32]⟩) (by rw [g1]; exact h2)
      have g2' : bs s2 = (bs s).drop 5 := by rw [g2, g1, List.drop_drop]; rfl
      rw [if_pos h2]
      refine Evx.bindc k2 (Evx.eq (z1g _ s2 (le_of_drop g2' hs)) ?_)
      rw [g2']
    · obtain ⟨s2, k2⟩ := nd_bad (s := s1) (t := ⟨#[44, 32]⟩) (by rw [g1]; exact h2)
      have := nd_size k2
      rw [if_neg h2]
      exact Evx.bindc k2 (z1b _ s2 (by omega))
  · rw [if_neg hd] at g1
    rw [if_neg hd]
    have e : fi wdl 0 ((bs s).take 3) = -1 := by have := fi_wd ((bs s).take 3); omega
    refine Evx.neg hd ?_
    simp only [e]
    refine Evx.eq (z1g (-1) s1 (by rw [← bs_length, g1, bs_length]; exact hs)) ?_
    rw [g1]
def tl8 (k : Nat) (x4 : Int) (x6 : List ByteArray) (x7 : Int) : Option (Int × Int) := (if 2 < (x6.length : Int) then ((spec_l04Number.f k (rdOf ByteArray.empty x6 2)).bind fun t155 => (if 0 < (x6.length : Int) then ((spec_l04Number.f k (rdOf ByteArray.empty x6 0)).bind fun t157 => (if 3 < (x6.length : Int) then (if 2 ≤ ((rdOf ByteArray.empty x6 3).size : Int) then ((spec_l04Number.f k ((rdOf ByteArray.empty x6 3).extract 0 2)).bind fun t159 => (if 5 ≤ ((rdOf ByteArray.empty x6 3).size : Int) then ((spec_l04Number.f k ((rdOf ByteArray.empty x6 3).extract 3 5)).bind fun t161 => (if 8 ≤ ((rdOf ByteArray.empty x6 3).size : Int) then ((spec_l04Number.f k ((rdOf ByteArray.empty x6 3).extract 6 8)).bind fun t163 => (if 4 < (x6.length : Int) then (if (rdOf ByteArray.empty x6 4).toList = ([71, 77, 84] : List UInt8) then (spec_ReadRfc822.j5 k x4 x6 0 false t155 x7 t157 t159 t161 t163) else (spec_ReadRfc822.j5 k x4 x6 0 ((rdOf ByteArray.empty x6 4).toList != ([85, 84] : List UInt8)) t155 x7 t157 t159 t161 t163)) else (none))) else (none))) else (none))) else (none)) else (none))) else (none))) else (none))
theorem month_at {i : Nat} (h1 : 1 ≤ i) (h2 : i ≤ 12) : ∃ b, spec_l04Month.f (i : Int) = some b ∧ mnl.drop (i - 1) = bs b :: mnl.drop i := by
  match i, h1, h2 with
  | 1, _, _ => exact ⟨⟨#[74, 97, 110]⟩, by unfold spec_l04Month.f; simp only [Option.bind_some]; rw [Evx.w64 (i := ((1 : Nat) : Int) - 1) (by omega) (by omega)]; rfl, rfl⟩
  | 2, _, _ => exact ⟨⟨#[70, 101, 98]⟩, by unfold spec_l04Month.f; simp only [Option.bind_some]; rw [Evx.w64 (i := ((2 : Nat) : Int) - 1) (by omega) (by omega)]; rfl, rfl⟩
  | 3, _, _ => exact ⟨⟨#[77, 97, 114]⟩, by unfold spec_l04Month.f; simp only [Option.bind_some]; rw [Evx.w64 (i := ((3 : Nat) : Int) - 1) (by omega) (by omega)]; rfl, rfl⟩
  | 4, _, _ => exact ⟨⟨#[65, 112, 114]⟩, by unfold spec_l04Month.f; simp only [Option.bind_some]; rw [Evx.w64 (i := ((4 : Nat) : Int) - 1) (by omega) (by omega)]; rfl, rfl⟩
  | 5, _, _ => exact ⟨⟨#[77, 97, 121]⟩, by unfold spec_l04Month.f; simp only [Option.bind_some]; rw [Evx.w64 (i := ((5 : Nat) : Int) - 1) (by omega) (by omega)]; rfl, rfl⟩
  | 6, _, _ => exact ⟨⟨#[74, 117, 110]⟩, by unfold spec_l04Month.f; simp only [Option.bind_some]; rw [Evx.w64 (i := ((6 : Nat) : Int) - 1) (by omega) (by omega)]; rfl, rfl⟩
  | 7, _, _ => exact ⟨⟨#[74, 117, 108]⟩, by unfold spec_l04Month.f; simp only [Option.bind_some]; rw [Evx.w64 (i := ((7 : Nat) : Int) - 1) (by omega) (by omega)]; rfl, rfl⟩
  | 8, _, _ => exact ⟨⟨#[65, 117, 103]⟩, by unfold spec_l04Month.f; simp only [Option.bind_some]; rw [Evx.w64 (i := ((8 : Nat) : Int) - 1) (by omega) (by omega)]; rfl, rfl⟩
  | 9, _, _ => exact ⟨⟨#[83, 101, 112]⟩, by unfold spec_l04Month.f; simp only [Option.bind_some]; rw [Evx.w64 (i := ((9 : Nat) : Int) - 1) (by omega) (by omega)]; rfl, rfl⟩
  | 10, _, _ => exact ⟨⟨#[79, 99, 116]⟩, by unfold spec_l04Month.f; simp only [Option.bind_some]; rw [Evx.w64 (i := ((10 : Nat) : Int) - 1) (by omega) (by omega)]; rfl, rfl⟩
  | 11, _, _ => exact ⟨⟨#[78, 111, 118]⟩, by unfold spec_l04Month.f; simp only [Option.bind_some]; rw [Evx.w64 (i := ((11 : Nat) : Int) - 1) (by omega) (by omega)]; rfl, rfl⟩
  | 12, _, _ => exact ⟨⟨#[68, 101, 99]⟩, by unfold spec_l04Month.f; simp only [Option.bind_some]; rw [Evx.w64 (i := ((12 : Nat) : Int) - 1) (by omega) (by omega)]; rfl, rfl⟩
theorem weekday_at {i : Nat} (h2 : i ≤ 6) : ∃ b, spec_l04Weekday.f (i : Int) = some b ∧ wdl.drop i = bs b :: wdl.drop (i + 1) := by
  match i, h2 with
  | 0, _ => exact ⟨⟨#[83, 117, 110]⟩, rfl, rfl⟩
  | 1, _ => exact ⟨⟨#[77, 111, 110]⟩, rfl, rfl⟩
  | 2, _ => exact ⟨⟨#[84, 117, 101]⟩, rfl, rfl⟩
  | 3, _ => exact ⟨⟨#[87, 101, 100]⟩, rfl, rfl⟩
  | 4, _ => exact ⟨⟨#[84, 104, 117]⟩, rfl, rfl⟩
  | 5, _ => exact ⟨⟨#[70, 114, 105]⟩, rfl, rfl⟩
  | 6, _ => exact ⟨⟨#[83, 97, 116]⟩, rfl, rfl⟩
theorem mloop (day : Int) (w0 w1 w2 w3 w4 : ByteArray) {R : Int × Int} : ∀ (d i : Nat) (x : Int), i + d = 13 → 1 ≤ i → Ev (fun k => tl8 k day [w0, w1, w2, w3, w4] (la (mnl.drop (i - 1)) (i : Int) x (bs w1))) R → Ev (fun k => spec_ReadRfc822.l1 k day [w0, w1, w2, w3, w4] x (i : Int)) R
  | 0, i, x, h, h1, hR => by
    obtain rfl : i = 13 := by omega
    refine Ev.step (fun k => by rw [spec_ReadRfc822.l1]) ?_
    exact Evx.neg (by omega) hR
  | d + 1, i, x, h, h1, hR => by
    obtain ⟨b, e1, e2⟩ := month_at h1 (by omega)
    rw [e2, la] at hR
    refine Ev.step (fun k => by rw [spec_ReadRfc822.l1]) ?_
    rw [Evx.w64 (i := (i : Int) + 1) (by omega) (by omega)]
    have hb : rdOf ByteArray.empty [w0, w1, w2, w3, w4] 1 = w1 := rfl
    have hi : (i : Int) + 1 = ((i + 1 : Nat) : Int) := by omega
    rw [hb]
    refine Evx.pos (by omega) (Evx.bindc e1 (Evx.pos (by simp) ?_))
    rw [hi] at hR ⊢
    refine Evx.ite (fun e => mloop day w0 w1 w2 w3 w4 d (i + 1) _ (by omega) (by omega) ?_) (fun e => mloop day w0 w1 w2 w3 w4 d (i + 1) _ (by omega) (by omega) ?_)
    · rw [if_pos ((toList_iff _ _).1 e)] at hR
      exact hR
    · rw [if_neg (fun e2 => e ((toList_iff _ _).2 e2))] at hR
      exact hR
theorem j6_eq {day y m d h i c q : Int} (hq : -100000 ≤ q ∧ q ≤ 100000) : Ev (fun k => spec_ReadRfc822.j6 k day q y m d h i c) (fin8 day y m d h i c q) := by
  refine Ev.step (fun k => by rw [spec_ReadRfc822.j6]) ?_
  refine Evx.bindc (spec_ok _ _ _ _ _ _) ?_
  unfold fin8
  by_cases hk : okc y m d h i c = true
  · rw [if_pos hk]
    refine Evx.pos hk (Evx.ite (fun hd => ?_) (fun hd => ?_))
    · refine Ev.bind (spec_stv hk) ?_
      by_cases hw : wk (stv y m d h i c) = day
      · rw [if_neg (fun e => e.2 hw)]
        exact Evx.pos hw (Ev.bind (end_eq hq) (Ev.now _))
      · rw [if_pos ⟨hd, hw⟩]
        exact Evx.neg hw (Ev.now _)
    · rw [if_neg (fun e => hd e.1)]
      exact Ev.bind (end_eq hq) (Ev.now _)
  · rw [if_neg hk]
    exact Evx.neg hk (Ev.now _)
theorem toLw {s : ByteArray} {l : List UInt8} : s.toList = l ↔ bs s = bs ⟨l.toArray⟩ := by
  have e : l = (⟨l.toArray⟩ : ByteArray).toList := by rw [toList_data]
  constructor
  · intro h
    rw [e] at h
    exact (toList_iff _ _).1 h
  · intro h
    rw [e]
    exact (toList_iff _ _).2 h
theorem val8_nok {day y m d h i c : Int} (hk : okc y m d h i c = false) (r : List Int) : val8 day y m d h i c r = (0, 3) := by
  unfold val8
  split
  · unfold fin8
    rw [if_neg (by rw [hk]; simp)]
  · rfl
theorem tl8_eq (day x7 : Int) (w0 w1 w2 w3 w4 : ByteArray) (h0 : w0.size ≤ 2) (h2 : w2.size = 4) (h3 : w3.size = 8) :
    Ev (fun k => tl8 k day [w0, w1, w2, w3, w4] x7) (val8 day (num (bs w2)) x7 (num (bs w0)) (num ((bs w3).take 2)) (num (((bs w3).drop 3).take 2)) (num (((bs w3).drop 6).take 2)) (bs w4)) := by
  unfold tl8
  have r0 : rdOf ByteArray.empty [w0, w1, w2, w3, w4] 0 = w0 := rfl
  have r2 : rdOf ByteArray.empty [w0, w1, w2, w3, w4] 2 = w2 := rfl
  have r3 : rdOf ByteArray.empty [w0, w1, w2, w3, w4] 3 = w3 := rfl
  have r4 : rdOf ByteArray.empty [w0, w1, w2, w3, w4] 4 = w4 := rfl
  rw [r0, r2, r3, r4]
  have z : ∀ a b, b ≤ w3.size → (w3.extract a b).size = b - a := fun a b hb => by rw [ByteArray.size_extract]; omega
  have n2 := num_eq (s := w2) (by omega)
  have n0 := num_eq (s := w0) (by omega)
  have n3 := num_eq (s := w3.extract 0 2) (by rw [z 0 2 (by omega)]; omega)
  have n4 := num_eq (s := w3.extract 3 5) (by rw [z 3 5 (by omega)]; omega)
  have n5 := num_eq (s := w3.extract 6 8) (by rw [z 6 8 (by omega)]; omega)
  rw [cut_bs] at n3 n4 n5
  rw [List.drop_zero] at n3
  refine Evx.pos (by simp) (Ev.bind n2 (Evx.pos (by simp) (Ev.bind n0 (Evx.pos (by simp) (Evx.pos (by omega) (Ev.bind n3 (Evx.pos (by omega) (Ev.bind n4 (Evx.pos (by omega) (Ev.bind n5 (Evx.pos (by simp) ?_)))))))))))
  show Ev _ (val8 day (num (bs w2)) x7 (num (bs w0)) (num ((bs w3).take (2 - 0))) (num (((bs w3).drop 3).take (5 - 3))) (num (((bs w3).drop 6).take (8 - 6))) (bs w4))
  generalize num (bs w2) = y
  generalize num (bs w0) = d
  generalize num ((bs w3).take (2 - 0)) = h
  generalize num (((bs w3).drop 3).take (5 - 3)) = i
  generalize num (((bs w3).drop 6).take (8 - 6)) = c
  have j5f : Ev (fun k => spec_ReadRfc822.j5 k day [w0, w1, w2, w3, w4] 0 false y x7 d h i c) (fin8 day y x7 d h i c 0) := by
    refine Ev.step (fun k => by rw [spec_ReadRfc822.j5]) ?_
    exact Evx.neg (by simp) (j6_eq (by omega))
  have eG : bs (⟨([71, 77, 84] : List UInt8).toArray⟩ : ByteArray) = [71, 77, 84] := rfl
  have eU : bs (⟨([85, 84] : List UInt8).toArray⟩ : ByteArray) = [85, 84] := rfl
  unfold val8 zr
  refine Evx.ite (fun e => ?_) (fun e => ?_)
  · have e := toLw.1 e
    rw [eG] at e
    rw [if_pos e]
    exact j5f
  · have e : ¬ bs w4 = [71, 77, 84] := fun x => e (toLw.2 (by rw [eG]; exact x))
    rw [if_neg e]
    by_cases hu : bs w4 = [85, 84]
    · have hb : (w4.toList != ([85, 84] : List UInt8)) = false := by
        have := toLw.2 (hu.trans eU.symm)
        rw [this]
        simp
      rw [if_pos hu, hb]
      exact j5f
    · have hb : (w4.toList != ([85, 84] : List UInt8)) = true := bne_iff_ne.2 (fun x => hu (by have := toLw.1 x; rwa [eU] at this))
      rw [if_neg hu, hb]
      refine Ev.step (fun k => by rw [spec_ReadRfc822.j5]) ?_
      rw [r4]
      refine Evx.pos rfl (Evx.pos (by simp) (Evx.ite (fun h5 => ?_) (fun h5 => ?_)))
      · have hl : (bs w4).length = 5 := by rw [bs_length]; omega
        obtain ⟨sg, a, b, c', d', hr⟩ : ∃ sg a b c' d', bs w4 = [sg, a, b, c', d'] := by
          match bs w4, hl with
          | [sg, a, b, c', d'], _ => exact ⟨sg, a, b, c', d', rfl⟩
        have b0 : bt w4 0 = sg := by rw [bt_bs, hr]; rfl
        have x1 : bs (w4.extract 1 3) = [a, b] := by rw [bs_extract, hr]; rfl
        have x2 : bs (w4.extract 3 5) = [c', d'] := by rw [bs_extract, hr]; rfl
        rw [b0, hr]
        refine Evx.pos (by omega) (Evx.pos (by omega) (Evx.pos (by omega) (Ev.bind (zone_eq x1 x2) ?_)))
        by_cases hc : (sg = 43 ∨ sg = 45) ∧ digB a = true ∧ digB b = true ∧ digB c' = true ∧ digB d' = true ∧ vl [a, b] 0 ≤ 23 ∧ vl [c', d'] 0 ≤ 59
        · have hz : zp [sg, a, b, c', d'] [] = some ((if sg = 45 then -(vl [a, b] 0 * 3600 + vl [c', d'] 0 * 60) else vl [a, b] 0 * 3600 + vl [c', d'] 0 * 60), []) := by
            unfold zp
            simp only [List.length_nil, List.drop_zero]
            rw [if_pos ⟨hc.1, hc.2.1, hc.2.2.1, rfl, hc.2.2.2.1, hc.2.2.2.2.1, hc.2.2.2.2.2.1, hc.2.2.2.2.2.2⟩]
          have hb := zp_bound hz
          rw [hz, if_pos hc]
          exact Evx.pos rfl (j6_eq ⟨hb.1, hb.2.1⟩)
        · have hz : zp [sg, a, b, c', d'] [] = none := by
            unfold zp
            simp only [List.length_nil, List.drop_zero]
            rw [if_neg (fun e => hc ⟨e.1, e.2.1, e.2.2.1, e.2.2.2.2.1, e.2.2.2.2.2.1, e.2.2.2.2.2.2.1, e.2.2.2.2.2.2.2⟩)]
          rw [hz, if_neg hc]
          exact Evx.neg (by simp) (Ev.now _)
      · have hz : (match zp (bs w4) [] with
          | some (q, []) => some q
          | _ => none) = none := by
          split
          · rename_i q hq
            have := (zp_bound hq).2.2
            rw [bs_length] at this
            simp at this
            omega
          · rfl
        rw [hz]
        exact Ev.now _
/-- The words' sizes, and the clock's colons. -/
def C5 (w0 w2 w3 : ByteArray) : Prop := (1 ≤ w0.size ∧ w0.size ≤ 2) ∧ w2.size = 4 ∧ w3.size = 8 ∧ bt w3 2 = 58 ∧ bt w3 5 = 58
instance (w0 w2 w3 : ByteArray) : Decidable (C5 w0 w2 w3) := by unfold C5; infer_instance
def s5 (day : Int) (w0 w1 w2 w3 w4 : ByteArray) : Int × Int := if C5 w0 w2 w3 then val8 day (num (bs w2)) (fi mnl 0 (bs w1) + 1) (num (bs w0)) (num ((bs w3).take 2)) (num (((bs w3).drop 3).take 2)) (num (((bs w3).drop 6).take 2)) (bs w4) else (0, 3)
theorem j3t (day : Int) (ws : List ByteArray) : Ev (fun k => spec_ReadRfc822.j3 k day ws true) (0, 3) := Ev.step (fun k => by rw [spec_ReadRfc822.j3]) (Evx.pos rfl (Ev.now _))
theorem j2_five (s : ByteArray) (day : Int) (w0 w1 w2 w3 w4 : ByteArray) (hc : Ev (fun k => spec_l00Cut.f k s 32) [w0, w1, w2, w3, w4]) : Ev (fun k => spec_ReadRfc822.j2 k s day) (s5 day w0 w1 w2 w3 w4) := by
  refine Ev.step (fun k => by rw [spec_ReadRfc822.j2]) ?_
  have r0 : rdOf ByteArray.empty [w0, w1, w2, w3, w4] 0 = w0 := rfl
  have r2 : rdOf ByteArray.empty [w0, w1, w2, w3, w4] 2 = w2 := rfl
  have r3 : rdOf ByteArray.empty [w0, w1, w2, w3, w4] 3 = w3 := rfl
  refine Ev.bind hc (Evx.pos (by simp) (Evx.pos (by simp) ?_))
  rw [r0, r2, r3]
  have no : ¬ C5 w0 w2 w3 → Ev (fun k => spec_ReadRfc822.j3 k day [w0, w1, w2, w3, w4] true) (s5 day w0 w1 w2 w3 w4) := fun h => by
    unfold s5
    rw [if_neg h]
    exact j3t _ _
  refine Evx.bindc (in_eq _ _ _) (Evx.ite (fun e0 => ?_) (fun e0 => no (fun e => e0 (decide_eq_true (by have := e.1; omega)))))
  have e0 := of_decide_eq_true e0
  refine Evx.pos (by simp) (Evx.ite (fun e2 => ?_) (fun e2 => no (fun e => e2 (by have := e.2.1; omega))))
  refine Evx.pos (by simp) (Evx.ite (fun e3 => ?_) (fun e3 => no (fun e => e3 (by have := e.2.2.1; omega))))
  refine Evx.pos (by omega) (Evx.ite (fun e4 => ?_) (fun e4 => no (fun e => e4 e.2.2.2.1)))
  refine Evx.pos (by omega) ?_
  by_cases e5 : bt w3 5 = 58
  rotate_left
  · rw [show (bt w3 5 != 58) = true by simpa using e5]
    exact no (fun e => e5 e.2.2.2.2)
  rw [show (bt w3 5 != 58) = false by simp [e5]]
  refine Ev.step (fun k => by rw [spec_ReadRfc822.j3]) ?_
  unfold s5
  rw [if_pos ⟨by omega, by omega, by omega, e4, e5⟩]
  refine Evx.neg (by simp) (mloop day w0 w1 w2 w3 w4 12 1 0 (by omega) (Nat.le_refl _) ?_)
  have e : la (mnl.drop (1 - 1)) ((1 : Nat) : Int) 0 (bs w1) = fi mnl 0 (bs w1) + 1 := la_mn (bs w1)
  rw [e]
  exact tl8_eq day _ w0 w1 w2 w3 w4 (by omega) (by omega) (by omega)
/-- A date told by its words. -/
structure Form (l ds mn ys r : List Int) (c1 c2 c4 c5 c7 c8 : Int) : Prop where
  eq : l = ds ++ 32 :: (mn ++ 32 :: (ys ++ 32 :: ([c1, c2, 58, c4, c5, 58, c7, c8] ++ 32 :: r)))
  d1 : ds.length = 1 ∨ ds.length = 2
  d2 : okd ds = true
  m1 : 0 ≤ fi mnl 0 mn
  m2 : mn.length = 3
  y1 : ys.length = 4
  y2 : okd ys = true
  c : digB c1 = true ∧ digB c2 = true ∧ digB c4 = true ∧ digB c5 = true ∧ digB c7 = true ∧ digB c8 = true
theorem fi_mem {u : List Int} (h : 0 ≤ fi mnl 0 u) : u ∈ mnl := by
  rcases fi_ge mnl 0 u (Int.le_refl _) with h1 | h1
  · omega
  · exact h1.2.2
theorem mn_len : ∀ u ∈ mnl, u.length = 3 ∧ (32 : Int) ∉ u := by decide
theorem okd_no {l : List Int} (h : okd l = true) : (32 : Int) ∉ l := by
  intro hm
  have := List.all_eq_true.1 h 32 hm
  cases this
theorem Form.pieces {l ds mn ys r : List Int} {c1 c2 c4 c5 c7 c8 : Int} (f : Form l ds mn ys r c1 c2 c4 c5 c7 c8) : sp1 32 l = ds :: mn :: ys :: [c1, c2, 58, c4, c5, 58, c7, c8] :: sp1 32 r := by
  have nd : ∀ {c : Int}, digB c = true → ¬ c = 32 := fun h e => by have := of_decide_eq_true h; omega
  obtain ⟨k1, k2, k3, k4, k5, k6⟩ := f.c
  rw [f.eq, sp1_app (okd_no f.d2), sp1_app (mn_len _ (fi_mem f.m1)).2, sp1_app (okd_no f.y2), sp1_app (by
    intro hm
    simp only [List.mem_cons, List.not_mem_nil, or_false] at hm
    rcases hm with e | e | e | e | e | e | e | e
    · exact nd k1 e.symm
    · exact nd k2 e.symm
    · omega
    · exact nd k3 e.symm
    · exact nd k4 e.symm
    · omega
    · exact nd k5 e.symm
    · exact nd k6 e.symm)]
theorem Form.ans {l ds mn ys r : List Int} {c1 c2 c4 c5 c7 c8 : Int} (f : Form l ds mn ys r c1 c2 c4 c5 c7 c8) (day : Int) : z1ans day l = val8 day (vl ys 0) (fi mnl 0 mn + 1) (vl ds 0) (vl [c1, c2] 0) (vl [c4, c5] 0) (vl [c7, c8] 0) r := by
  obtain ⟨k1, k2, k3, k4, k5, k6⟩ := f.c
  have h3 := f.m2
  have h4 := f.y1
  obtain ⟨m1, m2, m3, rfl⟩ : ∃ m1 m2 m3, mn = [m1, m2, m3] := by
    match mn, h3 with
    | [m1, m2, m3], _ => exact ⟨m1, m2, m3, rfl⟩
  obtain ⟨y1, y2, y3, y4, rfl⟩ : ∃ y1 y2 y3 y4, ys = [y1, y2, y3, y4] := by
    match ys, h4 with
    | [y1, y2, y3, y4], _ => exact ⟨y1, y2, y3, y4, rfl⟩
  have hy := f.y2
  have g2 : ∀ d, z2ans day d (32 :: m1 :: m2 :: m3 :: 32 :: y1 :: y2 :: y3 :: y4 :: 32 :: c1 :: c2 :: 58 :: c4 :: c5 :: 58 :: c7 :: c8 :: 32 :: r) = val8 day (vl [y1, y2, y3, y4] 0) (fi mnl 0 [m1, m2, m3] + 1) d (vl [c1, c2] 0) (vl [c4, c5] 0) (vl [c7, c8] 0) r := by
    intro d
    unfold z2ans
    rw [if_pos ⟨rfl, f.m1, rfl, ⟨by simp, hy⟩, rfl, ⟨⟨by simp, by simp [okd, k1, k2]⟩, rfl, ⟨by simp, by simp [okd, k3, k4]⟩, rfl, ⟨by simp, by simp [okd, k5, k6]⟩⟩, rfl⟩]
    rfl
  unfold z1ans
  rcases f.d1 with hd | hd
  · obtain ⟨a, rfl⟩ : ∃ a, ds = [a] := by
      match ds, hd with
      | [a], _ => exact ⟨a, rfl⟩
    have ha : digB a = true := by have := f.d2; simpa [okd] using this
    rw [f.eq]
    have hl : lead ([a] ++ 32 :: ([m1, m2, m3] ++ 32 :: ([y1, y2, y3, y4] ++ 32 :: ([c1, c2, 58, c4, c5, 58, c7, c8] ++ 32 :: r)))) = 1 := by
      unfold lead
      rw [List.cons_append, List.takeWhile_cons, if_pos ha, List.nil_append, List.takeWhile_cons, if_neg (by decide)]
      rfl
    rw [if_pos hl]
    exact g2 _
  · obtain ⟨a, b, rfl⟩ : ∃ a b, ds = [a, b] := by
      match ds, hd with
      | [a, b], _ => exact ⟨a, b, rfl⟩
    have hab : digB a = true ∧ digB b = true := by have := f.d2; simpa [okd] using this
    rw [f.eq]
    have hl : ¬ lead ([a, b] ++ 32 :: ([m1, m2, m3] ++ 32 :: ([y1, y2, y3, y4] ++ 32 :: ([c1, c2, 58, c4, c5, 58, c7, c8] ++ 32 :: r)))) = 1 := by
      unfold lead
      rw [List.cons_append, List.takeWhile_cons, if_pos hab.1, List.cons_append, List.takeWhile_cons, if_pos hab.2]
      simp
    rw [if_neg hl, if_pos ⟨by simp, by simp [okd, hab.1, hab.2]⟩]
    exact g2 _
theorem form_of {day d : Int} {l : List Int} (ds : List Int) (hd : ds.length = 1 ∨ ds.length = 2) (ho : okd ds = true) (h : G2 l) : ∃ mn ys r c1 c2 c4 c5 c7 c8, Form (ds ++ l) ds mn ys r c1 c2 c4 c5 c7 c8 := by
  obtain ⟨h1, h2, h3, h4, h5, ⟨k1, k2, k3, k4, k5⟩, h7⟩ := h
  have hlen : 19 ≤ l.length := by
    have := congrArg List.length h7
    rw [List.length_take, List.length_drop] at this
    simp at this
    omega
  obtain ⟨x0, x1, x2, x3, x4, x5, x6, x7, x8, x9, x10, x11, x12, x13, x14, x15, x16, x17, x18, r, rfl⟩ : ∃ x0 x1 x2 x3 x4 x5 x6 x7 x8 x9 x10 x11 x12 x13 x14 x15 x16 x17 x18 r, l = x0 :: x1 :: x2 :: x3 :: x4 :: x5 :: x6 :: x7 :: x8 :: x9 :: x10 :: x11 :: x12 :: x13 :: x14 :: x15 :: x16 :: x17 :: x18 :: r := by
    match l, hlen with
    | x0 :: x1 :: x2 :: x3 :: x4 :: x5 :: x6 :: x7 :: x8 :: x9 :: x10 :: x11 :: x12 :: x13 :: x14 :: x15 :: x16 :: x17 :: x18 :: r, _ => exact ⟨_, _, _, _, _, _, _, _, _, _, _, _, _, _, _, _, _, _, _, r, rfl⟩
  have e0 : x0 = 32 := by simpa using h1
  have e4 : x4 = 32 := by simpa using h3
  have e9 : x9 = 32 := by simpa using h5
  have e18 : x18 = 32 := by simpa using h7
  have e12 : x12 = 58 := by simpa using k2
  have e15 : x15 = 58 := by simpa using k4
  subst e0 e4 e9 e18 e12 e15
  have a1 : digB x10 = true ∧ digB x11 = true := by have := k1.2; simpa [okd] using this
  have a2 : digB x13 = true ∧ digB x14 = true := by have := k3.2; simpa [okd] using this
  have a3 : digB x16 = true ∧ digB x17 = true := by have := k5.2; simpa [okd] using this
  exact ⟨[x1, x2, x3], [x5, x6, x7, x8], r, x10, x11, x13, x14, x16, x17, ⟨rfl, hd, ho, h2, rfl, rfl, h4.2, a1.1, a1.2, a2.1, a2.2, a3.1, a3.2⟩⟩
theorem form_or (day : Int) (l : List Int) : z1ans day l = (0, 3) ∨ ∃ ds mn ys r c1 c2 c4 c5 c7 c8, Form l ds mn ys r c1 c2 c4 c5 c7 c8 := by
  unfold z1ans
  by_cases h1 : lead l = 1
  · rw [if_pos h1]
    by_cases hg : G2 (l.drop 1)
    · have hl := lead_one h1
      obtain ⟨mn, ys, r, c1, c2, c4, c5, c7, c8, f⟩ := form_of (day := day) (d := 0) (l.take 1) (Or.inl (by rw [List.length_take]; omega)) hl.2 hg
      rw [List.take_append_drop] at f
      exact Or.inr ⟨_, _, _, _, _, _, _, _, _, _, f⟩
    · exact Or.inl (ans2_no hg)
  · rw [if_neg h1]
    by_cases h2 : 2 ≤ l.length ∧ okd (l.take 2) = true
    · rw [if_pos h2]
      by_cases hg : G2 (l.drop 2)
      · obtain ⟨mn, ys, r, c1, c2, c4, c5, c7, c8, f⟩ := form_of (day := day) (d := 0) (l.take 2) (Or.inr (by rw [List.length_take]; omega)) h2.2 hg
        rw [List.take_append_drop] at f
        exact Or.inr ⟨_, _, _, _, _, _, _, _, _, _, f⟩
      · exact Or.inl (ans2_no hg)
    · rw [if_neg h2]
      exact Or.inl rfl
theorem zr_32 {r : List Int} (h : (32 : Int) ∈ r) : zr r = none := by
  unfold zr
  rw [if_neg (fun e => by rw [e] at h; simp at h), if_neg (fun e => by rw [e] at h; simp at h)]
  split
  · rename_i q hq
    exfalso
    unfold zp at hq
    split at hq
    · rename_i sg a b r1
      split at hq
      · rename_i c d r2 heq2
        simp only [List.length_nil, List.drop_zero] at heq2
        subst heq2
        split at hq
        · rename_i hc
          simp only [Option.some.injEq, Prod.mk.injEq] at hq
          obtain ⟨_, rfl⟩ := hq
          obtain ⟨k1, k2, k3, _, k5, k6, _, _⟩ := hc
          have d1 := of_decide_eq_true k2
          have d2 := of_decide_eq_true k3
          have d3 := of_decide_eq_true k5
          have d4 := of_decide_eq_true k6
          simp only [List.mem_cons, List.not_mem_nil, or_false] at h
          omega
        · cases hq
      · cases hq
    · cases hq
  · rfl
theorem num_ok {l : List Int} (h : okd l = true) : num l = vl l 0 := by unfold num; rw [if_pos h]
theorem num_no {l : List Int} (h : ¬ okd l = true) : num l = -1 := by unfold num; rw [if_neg h]
theorem spec_j2 (s : ByteArray) (hs : s.size ≤ 1048576) (day : Int) : Ev (fun k => spec_ReadRfc822.j2 k s day) (z1ans day (bs s)) := by
  obtain ⟨R, e1, e2⟩ := Go.Proofs.Ytccnidlkpinpgaa.CQFnExactReadRfc822.cut_loop s hs 32 s.size (bs s) 0 0 [] (by rw [bs_length]; omega) (by rw [List.drop_zero]) (Nat.le_refl _) (Nat.zero_le _) (by simp)
  rw [List.take_zero, List.drop_nil, Go.Proofs.Ytccnidlkpinpgaa.CQFnExactReadRfc822.front_nil (sp1_ne _ _), List.map_nil, List.nil_append] at e2
  have hcut : Ev (fun k => spec_l00Cut.f k s 32) R := by unfold spec_l00Cut.f; exact e1
  by_cases h5 : R.length = 5
  · obtain ⟨w0, w1, w2, w3, w4, rfl⟩ : ∃ w0 w1 w2 w3 w4, R = [w0, w1, w2, w3, w4] := by
      match R, h5 with
      | [w0, w1, w2, w3, w4], _ => exact ⟨w0, w1, w2, w3, w4, rfl⟩
    refine Evx.eq (j2_five s day w0 w1 w2 w3 w4 hcut) ?_
    have e3 : sp1 32 (bs s) = [bs w0, bs w1, bs w2, bs w3, bs w4] := e2.symm
    obtain ⟨n0, h⟩ := sp1_inv e3
    obtain ⟨l1, q1, e4⟩ := h.resolve_left (fun x => by cases x.1)
    obtain ⟨n1, h⟩ := sp1_inv e4
    obtain ⟨l2, q2, e5⟩ := h.resolve_left (fun x => by cases x.1)
    obtain ⟨n2, h⟩ := sp1_inv e5
    obtain ⟨l3, q3, e6⟩ := h.resolve_left (fun x => by cases x.1)
    obtain ⟨n3, h⟩ := sp1_inv e6
    obtain ⟨l4, q4, e7⟩ := h.resolve_left (fun x => by cases x.1)
    obtain ⟨n4, h⟩ := sp1_inv e7
    have q5 : l4 = bs w4 := by
      rcases h with h | ⟨l', _, h⟩
      · exact h.2
      · exact absurd h (sp1_ne _ _)
    have hl : bs s = bs w0 ++ 32 :: (bs w1 ++ 32 :: (bs w2 ++ 32 :: (bs w3 ++ 32 :: bs w4))) := by rw [q1, q2, q3, q4, q5]
    unfold s5
    by_cases hc : C5 w0 w2 w3
    · rw [if_pos hc]
      obtain ⟨c0, c2, c3, c4, c5⟩ := hc
      have hl3 : (bs w3).length = 8 := by rw [bs_length]; exact c3
      obtain ⟨a1, a2, a3, a4, a5, a6, a7, a8, hr3⟩ : ∃ a1 a2 a3 a4 a5 a6 a7 a8, bs w3 = [a1, a2, a3, a4, a5, a6, a7, a8] := by
        match bs w3, hl3 with
        | [a1, a2, a3, a4, a5, a6, a7, a8], _ => exact ⟨a1, a2, a3, a4, a5, a6, a7, a8, rfl⟩
      have x3 : a3 = 58 := by rw [bt_bs, hr3] at c4; exact c4
      have x6 : a6 = 58 := by rw [bt_bs, hr3] at c5; exact c5
      subst x3 x6
      rw [hr3] at hl ⊢
      show val8 day (num (bs w2)) (fi mnl 0 (bs w1) + 1) (num (bs w0)) (num [a1, a2]) (num [a4, a5]) (num [a7, a8]) (bs w4) = _
      by_cases hg : okd (bs w2) = true ∧ 0 ≤ fi mnl 0 (bs w1) ∧ okd (bs w0) = true ∧ okd [a1, a2] = true ∧ okd [a4, a5] = true ∧ okd [a7, a8] = true
      · obtain ⟨g1, g2, g3, g4, g5, g6⟩ := hg
        have t1 : digB a1 = true ∧ digB a2 = true := by simpa [okd] using g4
        have t2 : digB a4 = true ∧ digB a5 = true := by simpa [okd] using g5
        have t3 : digB a7 = true ∧ digB a8 = true := by simpa [okd] using g6
        have f : Form (bs s) (bs w0) (bs w1) (bs w2) (bs w4) a1 a2 a4 a5 a7 a8 := ⟨hl, by rw [bs_length]; omega, g3, g2, (mn_len _ (fi_mem g2)).1, by rw [bs_length]; exact c2, g1, t1.1, t1.2, t2.1, t2.2, t3.1, t3.2⟩
        rw [f.ans day, num_ok g1, num_ok g3, num_ok g4, num_ok g5, num_ok g6]
      · have hz : z1ans day (bs s) = (0, 3) := by
          rcases form_or day (bs s) with h | ⟨ds, mn, ys, r, b1, b2, b4, b5, b7, b8, f⟩
          · exact h
          · exfalso
            have fp := f.pieces
            rw [e3] at fp
            simp only [List.cons.injEq] at fp
            obtain ⟨p0, p1, p2, p3, p4⟩ := fp
            rw [hr3] at p3
            simp only [List.cons.injEq, and_true] at p3
            obtain ⟨r1, r2, _, r4, r5, _, r7, r8⟩ := p3
            obtain ⟨k1, k2, k3, k4, k5, k6⟩ := f.c
            refine hg ⟨by rw [p2]; exact f.y2, by rw [p1]; exact f.m1, by rw [p0]; exact f.d2, ?_, ?_, ?_⟩
            · rw [r1, r2]; simp [okd, k1, k2]
            · rw [r4, r5]; simp [okd, k3, k4]
            · rw [r7, r8]; simp [okd, k5, k6]
        rw [hz]
        refine val8_nok (decide_eq_false (fun e => hg ⟨?_, ?_, ?_, ?_, ?_, ?_⟩)) _
        · exact Classical.byContradiction fun hx => by have := num_no hx; omega
        · exact Classical.byContradiction fun hx => by have := fi_mn (bs w1); omega
        · exact Classical.byContradiction fun hx => by have := num_no hx; omega
        · exact Classical.byContradiction fun hx => by have := num_no hx; omega
        · exact Classical.byContradiction fun hx => by have := num_no hx; omega
        · exact Classical.byContradiction fun hx => by have := num_no hx; omega
    · rw [if_neg hc]
      rcases form_or day (bs s) with h | ⟨ds, mn, ys, r, b1, b2, b4, b5, b7, b8, f⟩
      · exact h.symm
      · exfalso
        have fp := f.pieces
        rw [e3] at fp
        simp only [List.cons.injEq] at fp
        obtain ⟨p0, p1, p2, p3, p4⟩ := fp
        have l0 := congrArg List.length p0
        have l2' := congrArg List.length p2
        have l3' := congrArg List.length p3
        rw [bs_length] at l0 l2' l3'
        refine hc ⟨by have := f.d1; omega, by rw [l2']; exact f.y1, l3', ?_, ?_⟩
        · rw [bt_bs, p3]; rfl
        · rw [bt_bs, p3]; rfl
  · have sp : Ev (fun k => spec_ReadRfc822.j2 k s day) (0, 3) := by
      refine Ev.step (fun k => by rw [spec_ReadRfc822.j2]) ?_
      exact Ev.bind hcut (Evx.neg (by omega) (j3t _ _))
    refine Evx.eq sp ?_
    rcases form_or day (bs s) with h | ⟨ds, mn, ys, r, b1, b2, b4, b5, b7, b8, f⟩
    · exact h.symm
    · by_cases hm : (32 : Int) ∈ r
      · rw [f.ans day]
        unfold val8
        rw [zr_32 hm]
      · exfalso
        have fp := f.pieces
        rw [sp1_none hm] at fp
        rw [fp] at e2
        have := congrArg List.length e2
        rw [List.length_map] at this
        exact h5 this
/-- A text whose first sign is no digit is no date. -/
theorem z1_letter {day : Int} {l : List Int} (h : digB (l.headD 0) = false) : z1ans day l = (0, 3) := by
  rcases form_or day l with h1 | ⟨ds, mn, ys, r, b1, b2, b4, b5, b7, b8, f⟩
  · exact h1
  · exfalso
    have h2 := f.d2
    rw [f.eq] at h
    cases ds with
    | nil => rcases f.d1 with e | e <;> simp at e
    | cons a t =>
      have ha : digB a = true := by
        unfold okd at h2
        rw [List.all_cons, Bool.and_eq_true] at h2
        exact h2.1
      simp only [List.cons_append, List.headD_cons] at h
      rw [ha] at h
      cases h
/-- Nor one whose fourth sign is a comma. -/
theorem z1_comma {day : Int} {l : List Int} (h : l.getD 3 0 = 44) : z1ans day l = (0, 3) := by
  rcases form_or day l with h1 | ⟨ds, mn, ys, r, b1, b2, b4, b5, b7, b8, f⟩
  · exact h1
  · exfalso
    have hm := fi_mem f.m1
    have h3 := f.m2
    rw [f.eq] at h
    obtain ⟨m1, m2, m3, rfl⟩ : ∃ m1 m2 m3, mn = [m1, m2, m3] := by
      match mn, h3 with
      | [m1, m2, m3], _ => exact ⟨m1, m2, m3, rfl⟩
    have nc : ∀ u ∈ mnl, (44 : Int) ∉ u := by decide
    have h44 := nc _ hm
    rcases f.d1 with hd | hd
    · match ds, hd with
      | [a], _ =>
        simp only [List.cons_append, List.nil_append, List.getD_cons_succ, List.getD_cons_zero] at h
        exact h44 (by simp [h])
    · match ds, hd with
      | [a, b], _ =>
        simp only [List.cons_append, List.nil_append, List.getD_cons_succ, List.getD_cons_zero] at h
        exact h44 (by simp [h])
theorem wloop (s : ByteArray) (h5 : 5 < s.size) {R : Int × Int} : ∀ (d i : Nat) (x : Int), i + d = 7 → (∀ x', x' = la (wdl.drop i) (i : Int) x ((bs s).take 3) → Ev (fun k => if x' < 0 then (some (0, 3)) else (if 5 ≤ (s.size : Int) then (spec_ReadRfc822.j2 k (s.extract 5 s.size) x') else (none))) R) → Ev (fun k => spec_ReadRfc822.l0 k s x (i : Int)) R
  | 0, i, x, h, hR => by
    obtain rfl : i = 7 := by omega
    refine Ev.step (fun k => by rw [spec_ReadRfc822.l0]) ?_
    exact Evx.neg (by omega) (hR x rfl)
  | d + 1, i, x, h, hR => by
    obtain ⟨b, e1, e2⟩ := weekday_at (i := i) (by omega)
    rw [e2] at hR
    simp only [la] at hR
    refine Ev.step (fun k => by rw [spec_ReadRfc822.l0]) ?_
    rw [Evx.w64 (i := (i : Int) + 1) (by omega) (by omega)]
    have hi : (i : Int) + 1 = ((i + 1 : Nat) : Int) := by omega
    have hb : bs (s.extract 0 3) = (bs s).take 3 := bs_take s 3
    refine Evx.pos (by omega) (Evx.bindc e1 (Evx.pos (by omega) ?_))
    rw [hi] at hR ⊢
    refine Evx.ite (fun e => wloop s h5 d (i + 1) _ (by omega) ?_) (fun e => wloop s h5 d (i + 1) _ (by omega) ?_)
    · rw [if_pos ((toList_iff _ _).1 e |>.trans hb)] at hR
      exact hR
    · rw [if_neg (fun e2 => e ((toList_iff _ _).2 (e2.trans hb.symm)))] at hR
      exact hR
theorem wd_letter : ∀ u ∈ wdl, u.length = 3 ∧ digB (u.headD 0) = false := by decide
theorem spec_read (s : ByteArray) (hs : s.size ≤ 1048576) : Ev (fun k => spec_ReadRfc822.f k s) (if (s.size : Int) > 65536 then (0, 2) else ans8 (bs s)) := by
  unfold spec_ReadRfc822.f
  refine Evx.ite (fun h => by rw [if_pos h]; exact Ev.now _) (fun h => ?_)
  rw [if_neg h]
  have hll : (bs s).length = s.size := bs_length s
  -- without a comma and a blank
  have plain : ¬ (5 < s.size ∧ ((bs s).drop 3).take 2 = [44, 32]) → Ev (fun k => spec_ReadRfc822.j0 k s (-1) false) (ans8 (bs s)) := by
    intro hn
    refine Ev.step (fun k => by rw [spec_ReadRfc822.j0]) (Evx.neg (by simp) (Evx.eq (spec_j2 s hs (-1)) ?_))
    unfold ans8
    by_cases hd : 0 ≤ fi wdl 0 ((bs s).take 3)
    · rw [if_pos hd]
      have hm : (bs s).take 3 ∈ wdl := by
        rcases fi_ge wdl 0 ((bs s).take 3) (Int.le_refl _) with h1 | h1
        · omega
        · exact h1.2.2
      have hw := wd_letter _ hm
      have hhd : (bs s).headD 0 = ((bs s).take 3).headD 0 := by
        cases bs s with
        | nil => rfl
        | cons a r => rfl
      rw [z1_letter (by rw [hhd]; exact hw.2)]
      by_cases hc : ((bs s).drop 3).take 2 = [44, 32]
      · have h5 : ¬ 5 < s.size := fun x => hn ⟨x, hc⟩
        have hnil : (bs s).drop 5 = [] := List.drop_eq_nil_of_le (by omega)
        rw [if_pos hc, hnil, z1_letter (by decide)]
      · rw [if_neg hc]
    · rw [if_neg hd]
  have b3 : 5 < s.size → bt s 3 = (bs s).getD 3 0 ∧ bt s 4 = (bs s).getD 4 0 ∧ ((bs s).drop 3).take 2 = [(bs s).getD 3 0, (bs s).getD 4 0] := by
    intro h5
    refine ⟨bt_bs s 3, bt_bs s 4, ?_⟩
    have h5' : 5 < (bs s).length := by omega
    match bs s, h5' with
    | a :: b :: c :: d :: e :: f :: r, _ => rfl
  refine Evx.ite (fun h5 => ?_) (fun h5 => plain (fun x => h5 (by omega)))
  obtain ⟨q3, q4, q5⟩ := b3 (by omega)
  refine Evx.pos (by omega) (Evx.ite (fun h44 => Evx.pos (by omega) ?_) (fun h44 => plain (fun x => h44 (by rw [q3]; have := x.2; rw [q5] at this; exact (List.cons.inj this).1))))
  by_cases h32 : bt s 4 = 32
  rotate_left
  · rw [show (bt s 4 == 32) = false from beq_eq_false_iff_ne.2 h32]
    exact plain (fun x => h32 (by rw [q4]; have := x.2; rw [q5] at this; exact (List.cons.inj (List.cons.inj this).2).1))
  rw [show (bt s 4 == 32) = true from beq_iff_eq.2 h32]
  refine Ev.step (fun k => by rw [spec_ReadRfc822.j0]) (Evx.pos rfl ?_)
  refine wloop s (by omega) 7 0 (-1) (by omega) (fun x' hx' => ?_)
  have ex : x' = fi wdl 0 ((bs s).take 3) := hx'.trans (la_wd _)
  subst ex
  have hsep : ((bs s).drop 3).take 2 = [44, 32] := by rw [q5, ← q3, ← q4, h44, h32]
  unfold ans8
  refine Evx.ite (fun hneg => ?_) (fun hneg => ?_)
  · rw [if_neg (by omega), z1_comma (by rw [← q3]; exact h44)]
    exact Ev.now _
  · rw [if_pos (by omega), if_pos hsep]
    refine Evx.pos (by omega) (Evx.eq (spec_j2 (s.extract 5 s.size) (by rw [ByteArray.size_extract]; omega) _) ?_)
    rw [bs_drop _ _ _ (Nat.le_refl _)]

end Go.Proofs.Ytccnidlkpinpgaa.RQFnExactReadRfc822
