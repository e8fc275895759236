/- Dates read: what the reader's steps come to on lists of numbers, on both sides. Conditions: as each lemma states. -/
import Derived.Test.YtccnidlkpinpgaaQFnExactReadRfc3339x
import Derived.Test.YtccnidlkpinpgaaBsx
import Derived.Test.YtccnidlkpinpgaaDates
namespace Go.Proofs.Ytccnidlkpinpgaa.RQFnExactReadRfc3339
open Go.RowKit Go.Proofs.Ytccnidlkpinpgaa.QFnExactReadRfc3339 Go.Proofs.YtccnidlkpinpgaaW.PrintWords Go.Proofs.YtccnidlkpinpgaaW.PrintLast Go.Proofs.YtccnidlkpinpgaaW.PrintMore
open Go.Proofs.Ytccnidlkpinpgaa.Evx Go.Proofs.Ytccnidlkpinpgaa.Bsx Go.Proofs.Ytccnidlkpinpgaa.Dates
set_option linter.unusedSimpArgs false
set_option linter.unusedVariables false
theorem tmod_nn {a b : Int} (h : 0 ≤ a) : Int.tmod a b = a % b := Int.tmod_eq_emod_of_nonneg h
theorem tdiv_nn {a b : Int} (h : 0 ≤ a) : Int.tdiv a b = a / b := Int.tdiv_eq_ediv_of_nonneg h
theorem leap1 {y : Int} (h : 0 ≤ y) : spec_l04Leap.f y = some (lp y) := by
  unfold spec_l04Leap.f lp
  rw [tmod_nn h, tmod_nn h, tmod_nn h]
  repeat' split
  all_goals (apply congrArg some; rw [Bool.eq_iff_iff]; simp only [decide_eq_true_eq, beq_iff_eq, true_iff, iff_true, Bool.false_eq_true, false_iff]; omega)
theorem leap2 {y : Int} (h : 0 ≤ y) : impl_leap.f y = some (lp y) := by
  unfold impl_leap.f lp
  rw [tmod_nn h, tmod_nn h, tmod_nn h]
  repeat' split
  all_goals (apply congrArg some; rw [Bool.eq_iff_iff]; simp only [decide_eq_true_eq, beq_iff_eq, true_iff, iff_true, Bool.false_eq_true, false_iff]; omega)
theorem bit1 (b : Bool) : spec_l01Bit.f b = some (if b = true then 1 else 0) := by
  unfold spec_l01Bit.f
  split <;> rfl
theorem days1 {y : Int} (m : Int) (h : 0 ≤ y) : spec_l04Days.f y m = some (dm y m) := by
  unfold spec_l04Days.f dm
  rw [leap1 h]
  simp only [Option.bind_some, bit1]
  by_cases h2 : m = 2
  · rw [if_pos h2, if_pos h2]
    cases lp y
    · exact congrArg some (Evx.w64 (i := 28 + 0) (by omega) (by omega))
    · exact congrArg some (Evx.w64 (i := 28 + 1) (by omega) (by omega))
  · rw [if_neg h2, if_neg h2]
    repeat' split
    all_goals first | rfl | omega
theorem days2 {y : Int} (m : Int) (h : 0 ≤ y) : impl_daysOf.f y m = some (dm y m) := by
  unfold impl_daysOf.f dm
  rw [leap2 h]
  simp only [Option.bind_some]
  by_cases h2 : m = 2
  · rw [if_pos h2, if_pos h2]
    cases lp y <;> rfl
  · rw [if_neg h2, if_neg h2]
    repeat' split
    all_goals first | rfl | omega
theorem ydays2 {y : Int} (h : 0 ≤ y) : impl_yearDays.f y = some (yl y) := by
  unfold impl_yearDays.f yl
  rw [leap2 h]
  simp only [Option.bind_some]
  split <;> rfl
theorem within_eq (a b c : Int) : impl_within.f a b c = some (decide (b ≤ a ∧ a ≤ c)) := by
  unfold impl_within.f
  split <;> simp <;> omega
theorem in_eq (a b c : Int) : spec_l01In.f a b c = some (decide (b ≤ a ∧ a ≤ c)) := by
  unfold spec_l01In.f
  split <;> simp <;> omega
theorem spec_ok (y m d h i s : Int) : spec_CivilOK.f y m d h i s = some (okc y m d h i s) := by
  unfold spec_CivilOK.f okc
  simp only [in_eq, Option.bind_some]
  by_cases h1 : 1970 ≤ y ∧ y ≤ 2099
  · by_cases h2 : 1 ≤ m ∧ m ≤ 12
    · rw [if_pos (decide_eq_true h1), if_pos (decide_eq_true h2), days1 m (by omega)]
      simp only [Option.bind_some]
      by_cases h3 : 1 ≤ d ∧ d ≤ dm y m
      · by_cases h4 : 0 ≤ h ∧ h ≤ 23
        · by_cases h5 : 0 ≤ i ∧ i ≤ 59
          · simp [h1, h2, h3, h4, h5]
          · simp [h3, h4, h5]
        · simp [h3, h4]
      · simp [h3]
    · simp [h1, h2]
  · simp [h1]
theorem impl_ok (y m d h i s : Int) : Ev (fun k => impl_CivilOK.f k y m d h i s) (okc y m d h i s) := by
  unfold impl_CivilOK.f okc
  refine Evx.bindc (within_eq _ _ _) (Evx.ite (fun a => ?_) (fun a => ?_))
  · rw [decide_eq_true_eq] at a
    refine Evx.bindc (within_eq _ _ _) (Evx.ite (fun b => ?_) (fun b => ?_))
    · rw [decide_eq_true_eq] at b
      refine Evx.bindc (days2 m (by omega)) (Evx.bindc (within_eq _ _ _) ?_)
      refine Ev.step (fun k => by rw [impl_CivilOK.j0]) ?_
      by_cases h3 : 1 ≤ d ∧ d ≤ dm y m
      · refine Evx.neg (by simp [h3]) (Evx.bindc (within_eq _ _ _) (Evx.ite (fun c => ?_) (fun c => ?_)))
        · refine Evx.bindc (within_eq _ _ _) (Evx.ite (fun e => ?_) (fun e => ?_))
          · refine Evx.bindc (within_eq _ _ _) (Evx.eq (Ev.now _) ?_)
            rw [decide_eq_true_eq] at c e
            rw [Bool.eq_iff_iff]; simp only [decide_eq_true_eq]; exact ⟨fun x => ⟨a, b, h3, c, e, x⟩, fun x => x.2.2.2.2.2⟩
          · rw [decide_eq_true_eq] at e
            exact Evx.eq (Ev.now _) (decide_eq_false (fun x => e x.2.2.2.2.1)).symm
        · rw [decide_eq_true_eq] at c
          exact Evx.eq (Ev.now _) (decide_eq_false (fun x => c x.2.2.2.1)).symm
      · refine Evx.pos (by simp [h3]) (Evx.eq (Ev.now _) (decide_eq_false (fun x => h3 x.2.2.1)).symm)
    · rw [decide_eq_true_eq] at b
      refine Ev.step (fun k => by rw [impl_CivilOK.j0]) ?_
      exact Evx.pos rfl (Evx.eq (Ev.now _) (decide_eq_false (fun x => b x.2.1)).symm)
  · rw [decide_eq_true_eq] at a
    refine Ev.step (fun k => by rw [impl_CivilOK.j0]) ?_
    exact Evx.pos rfl (Evx.eq (Ev.now _) (decide_eq_false (fun x => a x.1)).symm)
theorem spec_mon {y m d h i s a0 : Int} (hy : 0 ≤ y) (hc : (0 ≤ h ∧ h ≤ 23) ∧ (0 ≤ i ∧ i ≤ 59) ∧ (0 ≤ s ∧ s ≤ 59)) (hm : m ≤ 12) (n : Nat) : ∀ (a j : Int), j + n = m → 1 ≤ j → 0 ≤ a → a ≤ 1000000 + 31 * j → Ev (fun k => spec_l04Stamp.l1 k a j y m d h i s) (addM n a y j * 86400 + h * 3600 + i * 60 + s) := by
  induction n with
  | zero =>
    intro a j hj h1 h2 h3
    refine Ev.step (fun k => by rw [spec_l04Stamp.l1]) ?_
    refine Evx.neg (by omega) (Evx.eq (Ev.now _) ?_)
    rw [Evx.w64 (i := a * 24) (by omega) (by omega), Evx.w64 (i := a * 24 + h) (by omega) (by omega), Evx.w64 (i := (a * 24 + h) * 60) (by omega) (by omega), Evx.w64 (i := (a * 24 + h) * 60 + i) (by omega) (by omega), Evx.w64 (i := ((a * 24 + h) * 60 + i) * 60) (by omega) (by omega), Evx.w64 (i := ((a * 24 + h) * 60 + i) * 60 + s) (by omega) (by omega)]
    simp only [addM]; omega
  | succ n ih =>
    intro a j hj h1 h2 h3
    have hd := dm_range y j
    refine Ev.step (fun k => by rw [spec_l04Stamp.l1]) ?_
    refine Evx.pos (by omega) (Evx.bindc (days1 j hy) ?_)
    rw [Evx.w64 (i := a + dm y j) (by omega) (by omega), Evx.w64 (i := j + 1) (by omega) (by omega)]
    simp only [addM]
    exact ih _ _ (by omega) (by omega) (by omega) (by omega)
theorem impl_mon {y m d h i s a0 : Int} (hy : 0 ≤ y) (hc : (0 ≤ h ∧ h ≤ 23) ∧ (0 ≤ i ∧ i ≤ 59) ∧ (0 ≤ s ∧ s ≤ 59)) (hm : m ≤ 12) (n : Nat) : ∀ (a j : Int), j + n = m → 1 ≤ j → 0 ≤ a → a ≤ 1000000 + 31 * j → Ev (fun k => impl_stampOf.l1 k a j y m d h i s) (addM n a y j * 86400 + h * 3600 + i * 60 + s) := by
  induction n with
  | zero =>
    intro a j hj h1 h2 h3
    refine Ev.step (fun k => by rw [impl_stampOf.l1]) ?_
    refine Evx.neg (by omega) (Evx.eq (Ev.now _) ?_)
    rw [Evx.w64 (i := a * 86400) (by omega) (by omega), Evx.w64 (i := h * 3600) (by omega) (by omega), Evx.w64 (i := a * 86400 + h * 3600) (by omega) (by omega), Evx.w64 (i := i * 60) (by omega) (by omega), Evx.w64 (i := a * 86400 + h * 3600 + i * 60) (by omega) (by omega), Evx.w64 (i := a * 86400 + h * 3600 + i * 60 + s) (by omega) (by omega)]
    simp only [addM]
  | succ n ih =>
    intro a j hj h1 h2 h3
    have hd := dm_range y j
    refine Ev.step (fun k => by rw [impl_stampOf.l1]) ?_
    refine Evx.pos (by omega) (Evx.bindc (days2 j hy) ?_)
    rw [Evx.w64 (i := a + dm y j) (by omega) (by omega), Evx.w64 (i := j + 1) (by omega) (by omega)]
    simp only [addM]
    exact ih _ _ (by omega) (by omega) (by omega) (by omega)
theorem spec_yr {y m d h i s R : Int} (hy : y ≤ 2099) (n : Nat) : ∀ (a j : Int), j + n = y → 1970 ≤ j → 0 ≤ a → a ≤ 366 * (j - 1969) → Ev (fun k => spec_l04Stamp.l1 k (addY n a j) 1 y m d h i s) R → Ev (fun k => spec_l04Stamp.l0 k a j y m d h i s) R := by
  induction n with
  | zero =>
    intro a j hj h1 h2 h3 hR
    refine Ev.step (fun k => by rw [spec_l04Stamp.l0]) ?_
    exact Evx.neg (by omega) hR
  | succ n ih =>
    intro a j hj h1 h2 h3 hR
    have hd := yl_range j
    have e : wrap64 (365 + (if lp j = true then 1 else 0)) = yl j := by unfold yl wrap64; split <;> rfl
    refine Ev.step (fun k => by rw [spec_l04Stamp.l0]) ?_
    refine Evx.pos (by clear e; omega) (Evx.bindc (leap1 (by clear e; omega)) (Evx.bindc (bit1 _) ?_))
    rw [e]
    clear e
    rw [Evx.w64 (i := a + yl j) (by omega) (by omega), Evx.w64 (i := j + 1) (by omega) (by omega)]
    exact ih _ _ (by omega) (by omega) (by omega) (by omega) hR
theorem impl_yr {y m d h i s R : Int} (hy : y ≤ 2099) (n : Nat) : ∀ (a j : Int), j + n = y → 1970 ≤ j → 0 ≤ a → a ≤ 366 * (j - 1969) → Ev (fun k => impl_stampOf.l1 k (addY n a j) 1 y m d h i s) R → Ev (fun k => impl_stampOf.l0 k a j y m d h i s) R := by
  induction n with
  | zero =>
    intro a j hj h1 h2 h3 hR
    refine Ev.step (fun k => by rw [impl_stampOf.l0]) ?_
    exact Evx.neg (by omega) hR
  | succ n ih =>
    intro a j hj h1 h2 h3 hR
    have hd := yl_range j
    refine Ev.step (fun k => by rw [impl_stampOf.l0]) ?_
    refine Evx.pos (by omega) (Evx.bindc (ydays2 (by omega)) ?_)
    rw [Evx.w64 (i := a + yl j) (by omega) (by omega), Evx.w64 (i := j + 1) (by omega) (by omega)]
    exact ih _ _ (by omega) (by omega) (by omega) (by omega) hR
theorem spec_stv {y m d h i s : Int} (hk : okc y m d h i s = true) : Ev (fun k => spec_l04Stamp.f k y m d h i s) (stv y m d h i s) := by
  have hc := of_decide_eq_true hk
  have hdm := dm_range y m
  unfold spec_l04Stamp.f
  rw [Evx.w64 (i := d - 1) (by omega) (by omega)]
  have ha := addY_range (y - 1970).toNat (d - 1) 1970
  refine spec_yr (by omega) (y - 1970).toNat (d - 1) 1970 (by omega) (by omega) (by omega) (by omega) ?_
  exact spec_mon (a0 := 0) (by omega) hc.2.2.2 (by omega) (m - 1).toNat _ 1 (by omega) (by omega) (by omega) (by omega)
theorem impl_stv {y m d h i s : Int} (hk : okc y m d h i s = true) : Ev (fun k => impl_stampOf.f k y m d h i s) (stv y m d h i s) := by
  have hc := of_decide_eq_true hk
  have hdm := dm_range y m
  unfold impl_stampOf.f
  rw [Evx.w64 (i := d - 1) (by omega) (by omega)]
  have ha := addY_range (y - 1970).toNat (d - 1) 1970
  refine impl_yr (by omega) (y - 1970).toNat (d - 1) 1970 (by omega) (by omega) (by omega) (by omega) ?_
  exact impl_mon (a0 := 0) (by omega) hc.2.2.2 (by omega) (m - 1).toNat _ 1 (by omega) (by omega) (by omega) (by omega)

def digB (c : Int) : Bool := decide (48 ≤ c ∧ c ≤ 57)
def okd (l : List Int) : Bool := l.all digB
/-- The number that some digits are, behind another. -/
def vl : List Int → Int → Int
  | [], v => v
  | c :: l, v => vl l (10 * v + (c - 48) % 256)
def bd : Nat → Int
  | 0 => 0
  | i + 1 => 10 * bd i + 255
theorem bd_ge : ∀ i, 0 ≤ bd i
  | 0 => Int.le_refl _
  | i + 1 => by have := bd_ge i; rw [bd]; omega
theorem bd_le {i : Nat} (h : i ≤ 4) : bd i ≤ 300000 := by
  match i, h with
  | 0, _ => decide
  | 1, _ => decide
  | 2, _ => decide
  | 3, _ => decide
  | 4, _ => decide
theorem isDigit_eq (c : Int) : impl_isDigit.f c = some (digB c) := by
  unfold impl_isDigit.f digB
  split <;> simp <;> omega
theorem dg_loop (s : ByteArray) (n : Nat) (hn : n ≤ s.size) (h4 : n ≤ 4) : ∀ (d i : Nat) (v : Int) (b : Bool), i + d = n → 0 ≤ v → v ≤ bd i → Ev (fun k => impl_dateReader_digits.l0 k (n : Int) v (n : Int) (i : Int) s b) (vl (((bs s).drop i).take d) v, s.extract n s.size, b || !okd (((bs s).drop i).take d))
  | 0, i, v, b, h, h0, h1 => by
    refine Ev.step (fun k => by rw [impl_dateReader_digits.l0]) ?_
    refine Evx.neg (by omega) (Evx.pos (by omega) (Evx.pos (by omega) (Evx.eq (Ev.now _) ?_)))
    simp [vl, okd]
  | d + 1, i, v, b, h, h0, h1 => by
    have hi : i < (bs s).length := by rw [bs_length]; omega
    have hd : ((bs s).drop i).take (d + 1) = (bs s)[i] :: ((bs s).drop (i + 1)).take d := by rw [List.drop_eq_getElem_cons hi, List.take_succ_cons]
    have hb : bt s (i : Int) = (bs s)[i] := by rw [bt_bs, Int.toNat_natCast, List.getD_eq_getElem?_getD, List.getElem?_eq_getElem hi]; rfl
    have hr := bs_range s _ (List.getElem_mem hi)
    have hb4 := bd_le (i := i) (by omega)
    refine Ev.step (fun k => by rw [impl_dateReader_digits.l0]) ?_
    rw [hb, hd]
    generalize (bs s)[i] = c at *
    rw [Evx.w64 (i := 10 * v) (by omega) (by omega), Evx.w64 (i := 10 * v + (c - 48) % 256) (by omega) (by omega), Evx.w64 (i := (i : Int) + 1) (by omega) (by omega)]
    have hv : 10 * v + (c - 48) % 256 ≤ bd (i + 1) := by rw [bd]; omega
    refine Evx.pos (by omega) (Evx.ite (fun hbt => ?_) (fun hbt => ?_))
    · refine Evx.pos (by omega) (Evx.pos (by omega) (Evx.eq (dg_loop s n hn h4 d (i + 1) _ true (by omega) (by omega) hv) ?_))
      simp [vl, hbt]
    · have hbf : b = false := by simpa using hbt
      refine Evx.pos (by omega) (Evx.pos (by omega) (Evx.bindc (isDigit_eq c) (Evx.eq (dg_loop s n hn h4 d (i + 1) _ _ (by omega) (by omega) hv) ?_)))
      simp [vl, hbf, okd]
theorem dg_eq (s : ByteArray) (b : Bool) {n : Nat} (h4 : n ≤ 4) : Ev (fun k => impl_dateReader_digits.f k s b (n : Int)) (if s.size < n then (0, s, true) else (vl ((bs s).take n) 0, s.extract n s.size, b || !okd ((bs s).take n))) := by
  unfold impl_dateReader_digits.f
  refine Evx.ite (fun h => by rw [if_pos (by omega)]; exact Ev.now _) (fun h => ?_)
  rw [if_neg (by omega)]
  exact Evx.eq (dg_loop s n (by omega) h4 n 0 0 b (by omega) (Int.le_refl _) (Int.le_refl _)) (by rw [List.drop_zero])
theorem dg_good {s : ByteArray} {n : Nat} (h4 : n ≤ 4) (h : n ≤ (bs s).length ∧ okd ((bs s).take n) = true) : ∃ s', bs s' = (bs s).drop n ∧ Ev (fun k => impl_dateReader_digits.f k s false (n : Int)) (vl ((bs s).take n) 0, s', false) := by
  rw [bs_length] at h
  refine ⟨s.extract n s.size, bs_drop s n s.size (Nat.le_refl _), Evx.eq (dg_eq s false h4) ?_⟩
  rw [if_neg (by omega), h.2]
  rfl
theorem dg_bad {s : ByteArray} {n : Nat} (h4 : n ≤ 4) (h : ¬ (n ≤ (bs s).length ∧ okd ((bs s).take n) = true)) : ∃ v s', Ev (fun k => impl_dateReader_digits.f k s false (n : Int)) (v, s', true) := by
  rw [bs_length] at h
  by_cases hl : s.size < n
  · exact ⟨0, s, Evx.eq (dg_eq s false h4) (by rw [if_pos hl])⟩
  · refine ⟨vl ((bs s).take n) 0, s.extract n s.size, Evx.eq (dg_eq s false h4) ?_⟩
    rw [if_neg hl]
    have : okd ((bs s).take n) = false := by
      cases ho : okd ((bs s).take n) with
      | false => rfl
      | true => exact absurd ⟨by omega, ho⟩ h
    rw [this]
    rfl
theorem dg_bad' (s : ByteArray) {n : Nat} (h4 : n ≤ 4) : ∃ v s', Ev (fun k => impl_dateReader_digits.f k s true (n : Int)) (v, s', true) := by
  by_cases hl : s.size < n
  · exact ⟨0, s, Evx.eq (dg_eq s true h4) (by rw [if_pos hl])⟩
  · exact ⟨_, _, Evx.eq (dg_eq s true h4) (by rw [if_neg hl]; rfl)⟩
/-- Whether a text begins with another. -/
def pfx (s t : ByteArray) : Bool := decide ((bs s).take t.size = bs t)
theorem hasPrefix_eq (s t : ByteArray) : stringslite_HasPrefix.f s t = some (pfx s t) := by
  unfold stringslite_HasPrefix.f pfx
  by_cases h : (s.size : Int) ≥ (t.size : Int)
  · rw [if_pos h, if_pos (by omega), if_pos (by omega)]
    rw [toList_beq, Int.toNat_natCast, bs_take]
  · rw [if_neg h]
    refine congrArg some (decide_eq_false (fun e => ?_)).symm
    have := congrArg List.length e
    rw [List.length_take, bs_length, bs_length] at this
    omega
theorem pfx_le {s t : ByteArray} (h : pfx s t = true) : t.size ≤ s.size := by
  have := congrArg List.length (of_decide_eq_true h)
  rw [List.length_take, bs_length, bs_length] at this
  omega
theorem is_eq (s : ByteArray) (b : Bool) (t : ByteArray) : impl_dateReader_is.f s b t = some (pfx s t, if pfx s t = true then s.extract t.size s.size else s, b) := by
  unfold impl_dateReader_is.f strings_CutPrefix.f stringslite_CutPrefix.f
  rw [hasPrefix_eq]
  simp only [Option.bind_some]
  by_cases h : pfx s t = true
  · have := pfx_le h
    rw [if_pos h, if_pos (by omega), if_pos (by omega), if_pos h, h]
    rfl
  · rw [if_neg h, if_neg h]
    have : pfx s t = false := by simpa using h
    rw [this]
    rfl
theorem is_yes {s t : ByteArray} (b : Bool) (h : (bs s).take t.size = bs t) : ∃ s', bs s' = (bs s).drop t.size ∧ impl_dateReader_is.f s b t = some (true, s', b) := by
  have hp : pfx s t = true := decide_eq_true h
  refine ⟨s.extract t.size s.size, bs_drop s _ s.size (Nat.le_refl _), ?_⟩
  rw [is_eq, if_pos hp, hp]
theorem is_no {s t : ByteArray} (b : Bool) (h : ¬ (bs s).take t.size = bs t) : impl_dateReader_is.f s b t = some (false, s, b) := by
  have hp : pfx s t = false := decide_eq_false h
  rw [is_eq, if_neg (by rw [hp]; simp), hp]
theorem nd_good {s t : ByteArray} (h : (bs s).take t.size = bs t) : ∃ s', bs s' = (bs s).drop t.size ∧ impl_dateReader_need.f s false t = some (s', false) := by
  obtain ⟨s', h1, h2⟩ := is_yes false h
  exact ⟨s', h1, by unfold impl_dateReader_need.f; rw [h2]; rfl⟩
theorem nd_bad {s t : ByteArray} (h : ¬ (bs s).take t.size = bs t) : ∃ s', impl_dateReader_need.f s false t = some (s', true) := ⟨s, by unfold impl_dateReader_need.f; rw [is_no false h]; rfl⟩
theorem nd_bad' (s t : ByteArray) : ∃ s', impl_dateReader_need.f s true t = some (s', true) := by
  by_cases h : (bs s).take t.size = bs t
  · obtain ⟨s', h1, h2⟩ := is_yes true h
    exact ⟨s', by unfold impl_dateReader_need.f; rw [h2]; rfl⟩
  · exact ⟨s, by unfold impl_dateReader_need.f; rw [is_no true h]; rfl⟩
/-- How many digits lead. -/
def lead (l : List Int) : Nat := (l.takeWhile digB).length
theorem lead_le (l : List Int) : lead l ≤ l.length := by
  unfold lead
  induction l with
  | nil => simp
  | cons c l ih =>
    rw [List.takeWhile_cons]
    split
    · simp only [List.length_cons]; omega
    · simp
theorem here_loop (s : ByteArray) (b : Bool) (hs : s.size ≤ 1048576) : ∀ (d i : Nat), i + d = s.size → Ev (fun k => impl_dateReader_digitsHere.l0 k (i : Int) s b) (((i + lead ((bs s).drop i) : Nat) : Int), s, b)
  | 0, i, h => by
    refine Ev.step (fun k => by rw [impl_dateReader_digitsHere.l0]) ?_
    refine Evx.neg (by omega) (Evx.eq (Ev.now _) ?_)
    rw [List.drop_eq_nil_of_le (by rw [bs_length]; omega)]
    rfl
  | d + 1, i, h => by
    have hi : i < (bs s).length := by rw [bs_length]; omega
    have hb : bt s (i : Int) = (bs s)[i] := by rw [bt_bs, Int.toNat_natCast, List.getD_eq_getElem?_getD, List.getElem?_eq_getElem hi]; rfl
    refine Ev.step (fun k => by rw [impl_dateReader_digitsHere.l0]) ?_
    rw [hb, List.drop_eq_getElem_cons hi]
    have hl : lead ((bs s)[i] :: (bs s).drop (i + 1)) = if digB (bs s)[i] = true then lead ((bs s).drop (i + 1)) + 1 else 0 := by
      unfold lead
      rw [List.takeWhile_cons]
      split <;> rfl
    rw [hl, Evx.w64 (i := (i : Int) + 1) (by omega) (by omega)]
    refine Evx.pos (by omega) (Evx.pos (by omega) (Evx.bindc (isDigit_eq _) (Evx.ite (fun h1 => ?_) (fun h1 => ?_))))
    · rw [if_pos h1]
      refine Evx.eq (here_loop s b hs d (i + 1) (by omega)) ?_
      rw [show i + 1 + lead ((bs s).drop (i + 1)) = i + (lead ((bs s).drop (i + 1)) + 1) by omega]
    · rw [if_neg h1]
      exact Ev.now _
theorem here_eq (s : ByteArray) (b : Bool) (hs : s.size ≤ 1048576) : Ev (fun k => impl_dateReader_digitsHere.f k s b) ((lead (bs s) : Int), s, b) := by
  unfold impl_dateReader_digitsHere.f
  refine Evx.eq (here_loop s b hs s.size 0 (by omega)) ?_
  rw [List.drop_zero, Nat.zero_add]
theorem vl_two {a b : Int} (ha : digB a = true) (hb : digB b = true) : vl [a, b] 0 = 10 * (a - 48) + (b - 48) ∧ 0 ≤ vl [a, b] 0 ∧ vl [a, b] 0 ≤ 99 := by
  have h1 := of_decide_eq_true ha
  have h2 := of_decide_eq_true hb
  simp only [vl]
  omega
/-- A zone read: how far it is ahead, and what is left. -/
def zp (r t : List Int) : Option (Int × List Int) := match r with
  | sg :: a :: b :: r1 => match r1.drop t.length with
    | c :: d :: r2 => if (sg = 43 ∨ sg = 45) ∧ digB a = true ∧ digB b = true ∧ r1.take t.length = t ∧ digB c = true ∧ digB d = true ∧ vl [a, b] 0 ≤ 23 ∧ vl [c, d] 0 ≤ 59 then some ((if sg = 45 then -(vl [a, b] 0 * 3600 + vl [c, d] 0 * 60) else vl [a, b] 0 * 3600 + vl [c, d] 0 * 60), r2) else none
    | _ => none
  | _ => none
/-- The digits and the rest of a zone, behind its sign. -/
theorem zn_rest (s t : ByteArray) (sgn : Int) (hsg : sgn = 1 ∨ sgn = -1) : 
    (∀ a b c d r2 r1, bs s = a :: b :: r1 → r1.take t.size = bs t → r1.drop t.size = c :: d :: r2 → digB a = true → digB b = true → digB c = true → digB d = true → vl [a, b] 0 ≤ 23 → vl [c, d] 0 ≤ 59 → ∃ s', bs s' = r2 ∧ Ev (fun k => (impl_dateReader_digits.f k s false 2).bind fun bt151 => ((impl_dateReader_need.f bt151.2.1 bt151.2.2 t).bind fun bt154 => ((impl_dateReader_digits.f k bt154.1 bt154.2 2).bind fun bt156 => (if bt156.2.2 = true then (some (wrap64 (sgn * (wrap64 ((wrap64 (bt151.1 * 3600)) + (wrap64 (bt156.1 * 60))))), bt156.2.1, true)) else (if bt151.1 > 23 then (some (wrap64 (sgn * (wrap64 ((wrap64 (bt151.1 * 3600)) + (wrap64 (bt156.1 * 60))))), bt156.2.1, true)) else (some (wrap64 (sgn * (wrap64 ((wrap64 (bt151.1 * 3600)) + (wrap64 (bt156.1 * 60))))), bt156.2.1, decide (bt156.1 > 59)))))))) (sgn * (vl [a, b] 0 * 3600 + vl [c, d] 0 * 60), s', false)) ∧
    ((¬ ∃ a b c d r2 r1, bs s = a :: b :: r1 ∧ r1.take t.size = bs t ∧ r1.drop t.size = c :: d :: r2 ∧ digB a = true ∧ digB b = true ∧ digB c = true ∧ digB d = true ∧ vl [a, b] 0 ≤ 23 ∧ vl [c, d] 0 ≤ 59) → ∃ q s', Ev (fun k => (impl_dateReader_digits.f k s false 2).bind fun bt151 => ((impl_dateReader_need.f bt151.2.1 bt151.2.2 t).bind fun bt154 => ((impl_dateReader_digits.f k bt154.1 bt154.2 2).bind fun bt156 => (if bt156.2.2 = true then (some (wrap64 (sgn * (wrap64 ((wrap64 (bt151.1 * 3600)) + (wrap64 (bt156.1 * 60))))), bt156.2.1, true)) else (if bt151.1 > 23 then (some (wrap64 (sgn * (wrap64 ((wrap64 (bt151.1 * 3600)) + (wrap64 (bt156.1 * 60))))), bt156.2.1, true)) else (some (wrap64 (sgn * (wrap64 ((wrap64 (bt151.1 * 3600)) + (wrap64 (bt156.1 * 60))))), bt156.2.1, decide (bt156.1 > 59)))))))) (q, s', true)) := by
  constructor
  · intro a b c d r2 r1 e1 e2 e3 ha hb hc hd h23 h59
    obtain ⟨s1, g1, k1⟩ := dg_good (s := s) (n := 2) (by omega) ⟨by rw [e1]; simp, by rw [e1]; simp [okd, ha, hb]⟩
    rw [e1] at g1 k1
    have g1' : bs s1 = r1 := g1
    obtain ⟨s2, g2, k2⟩ := nd_good (s := s1) (t := t) (by rw [g1']; exact e2)
    rw [g1', e3] at g2
    obtain ⟨s3, g3, k3⟩ := dg_good (s := s2) (n := 2) (by omega) ⟨by rw [g2]; simp, by rw [g2]; simp [okd, hc, hd]⟩
    rw [g2] at g3 k3
    have v1 := vl_two ha hb
    have v2 := vl_two hc hd
    refine ⟨s3, g3, Ev.bind k1 (Evx.bindc k2 (Ev.bind k3 (Evx.neg (by simp) (Evx.neg (by show ¬ vl [a, b] 0 > 23; omega) (Evx.eq (Ev.now _) ?_)))))⟩
    show (wrap64 (sgn * (wrap64 ((wrap64 (vl [a, b] 0 * 3600)) + (wrap64 (vl [c, d] 0 * 60))))), s3, decide (vl [c, d] 0 > 59)) = _
    have e1 := v1.2; have e2 := v2.2
    generalize vl [a, b] 0 = x at *
    generalize vl [c, d] 0 = y at *
    rw [Evx.w64 (i := x * 3600) (by omega) (by omega), Evx.w64 (i := y * 60) (by omega) (by omega), Evx.w64 (i := x * 3600 + y * 60) (by omega) (by omega), Evx.w64 (i := sgn * (x * 3600 + y * 60)) (by rcases hsg with rfl | rfl <;> omega) (by rcases hsg with rfl | rfl <;> omega), decide_eq_false (by omega)]
  · intro hno
    have fin : ∀ (x y : Int) (u : ByteArray), Ev (fun _ => (some (wrap64 (sgn * (wrap64 ((wrap64 (x * 3600)) + (wrap64 (y * 60))))), u, true) : Option (Int × ByteArray × Bool))) (wrap64 (sgn * (wrap64 ((wrap64 (x * 3600)) + (wrap64 (y * 60))))), u, true) := fun x y u => Ev.now _
    by_cases h1 : 2 ≤ (bs s).length ∧ okd ((bs s).take 2) = true
    · obtain ⟨s1, g1, k1⟩ := dg_good (s := s) (n := 2) (by omega) h1
      obtain ⟨a, b, r1, e1⟩ : ∃ a b r1, bs s = a :: b :: r1 := by
        match h : bs s, h1 with
        | [], h1 => simp at h1
        | [a], h1 => simp at h1
        | a :: b :: r1, _ => exact ⟨a, b, r1, rfl⟩
      rw [e1] at g1 k1 h1
      have g1' : bs s1 = r1 := g1
      have hab : digB a = true ∧ digB b = true := by have := h1.2; simpa [okd] using this
      by_cases h2 : (bs s1).take t.size = bs t
      · obtain ⟨s2, g2, k2⟩ := nd_good (s := s1) (t := t) h2
        by_cases h3 : 2 ≤ (bs s2).length ∧ okd ((bs s2).take 2) = true
        · obtain ⟨s3, g3, k3⟩ := dg_good (s := s2) (n := 2) (by omega) h3
          obtain ⟨c, d, r2, e2⟩ : ∃ c d r2, bs s2 = c :: d :: r2 := by
            match h : bs s2, h3 with
            | [], h3 => simp at h3
            | [a], h3 => simp at h3
            | a :: b :: r1, _ => exact ⟨a, b, r1, rfl⟩
          rw [e2] at g3 k3 h3
          have hcd : digB c = true ∧ digB d = true := by have := h3.2; simpa [okd] using this
          rw [g1'] at h2 g2
          by_cases h23 : vl [a, b] 0 > 23
          · exact ⟨_, s3, Ev.bind k1 (Evx.bindc k2 (Ev.bind k3 (Evx.neg (by simp) (Evx.pos h23 (fin _ _ _)))))⟩
          · have h59 : vl [c, d] 0 > 59 := by
              rcases Int.lt_or_le 59 (vl [c, d] 0) with h | h
              · exact h
              · exact absurd ⟨a, b, c, d, r2, r1, e1, h2, by rw [← g2]; exact e2, hab.1, hab.2, hcd.1, hcd.2, by omega, h⟩ hno
            refine ⟨wrap64 (sgn * (wrap64 ((wrap64 (vl [a, b] 0 * 3600)) + (wrap64 (vl [c, d] 0 * 60))))), s3, Ev.bind k1 (Evx.bindc k2 (Ev.bind k3 (Evx.neg (by simp) (Evx.neg h23 (Evx.eq (Ev.now _) ?_)))))⟩
            show (wrap64 (sgn * (wrap64 ((wrap64 (vl [a, b] 0 * 3600)) + (wrap64 (vl [c, d] 0 * 60))))), s3, decide (vl [c, d] 0 > 59)) = _
            rw [decide_eq_true h59]
        · obtain ⟨v, s3, k3⟩ := dg_bad (s := s2) (n := 2) (by omega) h3
          exact ⟨_, s3, Ev.bind k1 (Evx.bindc k2 (Ev.bind k3 (Evx.pos rfl (fin _ _ _))))⟩
      · obtain ⟨s2, k2⟩ := nd_bad (s := s1) (t := t) h2
        obtain ⟨v, s3, k3⟩ := dg_bad' s2 (n := 2) (by omega)
        exact ⟨_, s3, Ev.bind k1 (Evx.bindc k2 (Ev.bind k3 (Evx.pos rfl (fin _ _ _))))⟩
    · obtain ⟨v, s1, k1⟩ := dg_bad (s := s) (n := 2) (by omega) h1
      obtain ⟨s2, k2⟩ := nd_bad' s1 t
      obtain ⟨v3, s3, k3⟩ := dg_bad' s2 (n := 2) (by omega)
      exact ⟨_, s3, Ev.bind k1 (Evx.bindc k2 (Ev.bind k3 (Evx.pos rfl (fin _ _ _))))⟩
theorem zn_bad' (s t : ByteArray) : ∃ q s', Ev (fun k => impl_dateReader_zone.f k s true t) (q, s', true) := by
  unfold impl_dateReader_zone.f
  have ex : ∀ (sgn : Int) (s : ByteArray), ∃ q s', Ev (fun k => (impl_dateReader_digits.f k s true 2).bind fun bt151 => ((impl_dateReader_need.f bt151.2.1 bt151.2.2 t).bind fun bt154 => ((impl_dateReader_digits.f k bt154.1 bt154.2 2).bind fun bt156 => (if bt156.2.2 = true then (some (wrap64 (sgn * (wrap64 ((wrap64 (bt151.1 * 3600)) + (wrap64 (bt156.1 * 60))))), bt156.2.1, true)) else (if bt151.1 > 23 then (some (wrap64 (sgn * (wrap64 ((wrap64 (bt151.1 * 3600)) + (wrap64 (bt156.1 * 60))))), bt156.2.1, true)) else (some (wrap64 (sgn * (wrap64 ((wrap64 (bt151.1 * 3600)) + (wrap64 (bt156.1 * 60))))), bt156.2.1, decide (bt156.1 > 59)))))))) (q, s', true) := by
    intro sgn s
    obtain ⟨v, s1, k1⟩ := dg_bad' s (n := 2) (by omega)
    obtain ⟨s2, k2⟩ := nd_bad' s1 t
    obtain ⟨v3, s3, k3⟩ := dg_bad' s2 (n := 2) (by omega)
    exact ⟨_, s3, Ev.bind k1 (Evx.bindc k2 (Ev.bind k3 (Evx.pos rfl (Ev.now _))))⟩
  by_cases h : (bs s).take (⟨#[45]⟩ : ByteArray).size = bs ⟨#[45]⟩
  · obtain ⟨s1, g1, k1⟩ := is_yes true h
    obtain ⟨q, s2, k2⟩ := ex (-1) s1
    exact ⟨q, s2, Evx.bindc k1 (Evx.pos rfl k2)⟩
  · have k1 := is_no (s := s) (t := ⟨#[45]⟩) true h
    obtain ⟨s1, k2⟩ := nd_bad' s ⟨#[43]⟩
    obtain ⟨q, s2, k3⟩ := ex 1 s1
    exact ⟨q, s2, Evx.bindc k1 (Evx.neg (by simp) (Evx.bindc k2 k3))⟩
theorem take_one {l : List Int} {c : UInt8} : l.take (⟨#[c]⟩ : ByteArray).size = bs ⟨#[c]⟩ ↔ ∃ r, l = (c.toNat : Int) :: r := by
  have e : bs (⟨#[c]⟩ : ByteArray) = [(c.toNat : Int)] := rfl
  have e1 : (⟨#[c]⟩ : ByteArray).size = 1 := rfl
  rw [e, e1]
  constructor
  · intro h
    cases l with
    | nil => simp at h
    | cons a r => exact ⟨r, by rw [show a = (c.toNat : Int) by simpa using h]⟩
  · rintro ⟨r, rfl⟩
    rfl
theorem zn_good {s t : ByteArray} {q : Int} {r2 : List Int} (h : zp (bs s) (bs t) = some (q, r2)) : ∃ s', bs s' = r2 ∧ Ev (fun k => impl_dateReader_zone.f k s false t) (q, s', false) := by
  unfold zp at h
  split at h
  · rename_i sg a b r1 heq
    split at h
    · rename_i c d r2' heq2
      split at h
      · rename_i hc
        simp only [Option.some.injEq, Prod.mk.injEq] at h
        obtain ⟨rfl, rfl⟩ := h
        obtain ⟨h1, h2, h3, h4, h5, h6, h7, h8⟩ := hc
        rw [bs_length] at h4 heq2
        unfold impl_dateReader_zone.f
        by_cases hm : sg = 45
        · subst hm
          obtain ⟨s1, g1, k1⟩ := is_yes (s := s) (t := ⟨#[45]⟩) false (take_one.2 ⟨_, heq⟩)
          have g1' : bs s1 = a :: b :: r1 := by rw [g1, heq]; rfl
          obtain ⟨s2, g2, k2⟩ := (zn_rest s1 t (-1) (Or.inr rfl)).1 a b c d r2' r1 g1' h4 heq2 h2 h3 h5 h6 h7 h8
          refine ⟨s2, g2, Evx.bindc k1 (Evx.pos rfl (Evx.eq k2 ?_))⟩
          rw [if_pos rfl, Int.neg_one_mul]
        · have hp : sg = 43 := h1.resolve_right hm
          subst hp
          have k1 := is_no (s := s) (t := ⟨#[45]⟩) false (fun e => by obtain ⟨r, hr⟩ := take_one.1 e; rw [heq] at hr; have := (List.cons.inj hr).1; simp at this)
          obtain ⟨s1, g1, k2⟩ := nd_good (s := s) (t := ⟨#[43]⟩) (take_one.2 ⟨_, heq⟩)
          have g1' : bs s1 = a :: b :: r1 := by rw [g1, heq]; rfl
          obtain ⟨s2, g2, k3⟩ := (zn_rest s1 t 1 (Or.inl rfl)).1 a b c d r2' r1 g1' h4 heq2 h2 h3 h5 h6 h7 h8
          refine ⟨s2, g2, Evx.bindc k1 (Evx.neg (by simp) (Evx.bindc k2 (Evx.eq k3 ?_)))⟩
          rw [if_neg (by omega), Int.one_mul]
      · cases h
    · cases h
  · cases h
theorem zn_bad {s t : ByteArray} (h : zp (bs s) (bs t) = none) : ∃ q s', Ev (fun k => impl_dateReader_zone.f k s false t) (q, s', true) := by
  have key : ∀ (sg : Int) (s1 : ByteArray), (sg = 43 ∨ sg = 45) → bs s = sg :: bs s1 → ¬ ∃ a b c d r2 r1, bs s1 = a :: b :: r1 ∧ r1.take t.size = bs t ∧ r1.drop t.size = c :: d :: r2 ∧ digB a = true ∧ digB b = true ∧ digB c = true ∧ digB d = true ∧ vl [a, b] 0 ≤ 23 ∧ vl [c, d] 0 ≤ 59 := by
    rintro sg s1 hsg e ⟨a, b, c, d, r2, r1, e1, h2, h3, h4, h5, h6, h7, h8, h9⟩
    rw [e, e1] at h
    unfold zp at h
    rw [← bs_length t] at h2 h3
    simp only [h3] at h
    rw [if_pos ⟨hsg, h4, h5, h2, h6, h7, h8, h9⟩] at h
    cases h
  unfold impl_dateReader_zone.f
  by_cases hm : (bs s).take (⟨#[45]⟩ : ByteArray).size = bs ⟨#[45]⟩
  · obtain ⟨s1, g1, k1⟩ := is_yes (s := s) (t := ⟨#[45]⟩) false hm
    obtain ⟨r, hr⟩ := take_one.1 hm
    have g1' : bs s = 45 :: bs s1 := by rw [g1, hr]; rfl
    obtain ⟨q, s2, k2⟩ := (zn_rest s1 t (-1) (Or.inr rfl)).2 (key 45 s1 (Or.inr rfl) g1')
    exact ⟨q, s2, Evx.bindc k1 (Evx.pos rfl k2)⟩
  · have k1 := is_no (s := s) (t := ⟨#[45]⟩) false hm
    by_cases hp : (bs s).take (⟨#[43]⟩ : ByteArray).size = bs ⟨#[43]⟩
    · obtain ⟨s1, g1, k2⟩ := nd_good (s := s) (t := ⟨#[43]⟩) hp
      obtain ⟨r, hr⟩ := take_one.1 hp
      have g1' : bs s = 43 :: bs s1 := by rw [g1, hr]; rfl
      obtain ⟨q, s2, k3⟩ := (zn_rest s1 t 1 (Or.inl rfl)).2 (key 43 s1 (Or.inl rfl) g1')
      exact ⟨q, s2, Evx.bindc k1 (Evx.neg (by simp) (Evx.bindc k2 k3))⟩
    · obtain ⟨s1, k2⟩ := nd_bad (s := s) (t := ⟨#[43]⟩) hp
      have ex : ∃ q s', Ev (fun k => (impl_dateReader_digits.f k s1 true 2).bind fun bt151 => ((impl_dateReader_need.f bt151.2.1 bt151.2.2 t).bind fun bt154 => ((impl_dateReader_digits.f k bt154.1 bt154.2 2).bind fun bt156 => (if bt156.2.2 = true then (some (wrap64 (1 * (wrap64 ((wrap64 (bt151.1 * 3600)) + (wrap64 (bt156.1 * 60))))), bt156.2.1, true)) else (if bt151.1 > 23 then (some (wrap64 (1 * (wrap64 ((wrap64 (bt151.1 * 3600)) + (wrap64 (bt156.1 * 60))))), bt156.2.1, true)) else (some (wrap64 (1 * (wrap64 ((wrap64 (bt151.1 * 3600)) + (wrap64 (bt156.1 * 60))))), bt156.2.1, decide (bt156.1 > 59)))))))) (q, s', true) := by
        obtain ⟨v, s2, k1⟩ := dg_bad' s1 (n := 2) (by omega)
        obtain ⟨s3, k2⟩ := nd_bad' s2 t
        obtain ⟨v3, s4, k3⟩ := dg_bad' s3 (n := 2) (by omega)
        exact ⟨_, s4, Ev.bind k1 (Evx.bindc k2 (Ev.bind k3 (Evx.pos rfl (Ev.now _))))⟩
      obtain ⟨q, s2, k3⟩ := ex
      exact ⟨q, s2, Evx.bindc k1 (Evx.neg (by simp) (Evx.bindc k2 k3))⟩
theorem zp_bound {r t : List Int} {q : Int} {r2 : List Int} (h : zp r t = some (q, r2)) : -100000 ≤ q ∧ q ≤ 100000 ∧ r.length = 5 + t.length + r2.length := by
  unfold zp at h
  split at h
  · split at h
    · rename_i sg a b r1 _ c d r2' heq2
      split at h
      · rename_i hc
        simp only [Option.some.injEq, Prod.mk.injEq] at h
        obtain ⟨rfl, rfl⟩ := h
        obtain ⟨h1, h2, h3, h4, h5, h6, h7, h8⟩ := hc
        have v1 := (vl_two h2 h3).2
        have v2 := (vl_two h5 h6).2
        have hl := congrArg List.length heq2
        have ht := congrArg List.length h4
        rw [List.length_drop, List.length_cons, List.length_cons] at hl
        rw [List.length_take] at ht
        refine ⟨?_, ?_, by simp only [List.length_cons]; omega⟩ <;> split <;> omega
      · cases h
    · cases h
  · cases h
/-- What a stamp comes to. -/
def en (y m d h i c q : Int) : Int × Int := if okc y m d h i c = true then (if 0 ≤ stv y m d h i c - q ∧ stv y m d h i c - q ≤ 4102444799 then (stv y m d h i c - q, 0) else (0, 4)) else (0, 3)
theorem stv_bound {y m d h i c : Int} (hk : okc y m d h i c = true) : -10000000000 ≤ stv y m d h i c ∧ stv y m d h i c ≤ 10000000000 := by
  have hc := of_decide_eq_true hk
  have hdm := dm_range y m
  have h1 := addY_range (y - 1970).toNat (d - 1) 1970
  have h2 := addM_range (m - 1).toNat (addY (y - 1970).toNat (d - 1) 1970) y 1
  unfold stv dayOf
  omega
theorem st_bad (s : ByteArray) (y m d h i c q : Int) : Ev (fun k => impl_dateReader_stamp.f k s true y m d h i c q) (0, 3, s, true) := by
  unfold impl_dateReader_stamp.f
  refine Evx.pos rfl (Ev.step (fun k => by rw [impl_dateReader_stamp.j0]) (Evx.pos rfl (Ev.now _)))
theorem st_good (s : ByteArray) {y m d h i c q : Int} (hq : -100000 ≤ q ∧ q ≤ 100000) : Ev (fun k => impl_dateReader_stamp.f k s false y m d h i c q) (if bs s = [] then ((en y m d h i c q).1, (en y m d h i c q).2, s, false) else (0, 3, s, false)) := by
  unfold impl_dateReader_stamp.f
  refine Evx.neg (by simp) (Evx.ite (fun h1 => ?_) (fun h1 => ?_))
  · rw [if_pos ((toList_nil s).1 h1)]
    refine Ev.bind (impl_ok _ _ _ _ _ _) (Ev.step (fun k => by rw [impl_dateReader_stamp.j0]) ?_)
    unfold en
    by_cases hk : okc y m d h i c = true
    · have hb := stv_bound hk
      rw [if_pos hk]
      refine Evx.neg (by simp [hk]) (Ev.bind (impl_stv hk) ?_)
      rw [Evx.w64 (i := stv y m d h i c - q) (by omega) (by omega)]
      unfold impl_isStamp.f
      rw [within_eq]
      refine Evx.bindc (b := decide (0 ≤ stv y m d h i c - q ∧ stv y m d h i c - q ≤ 4102444799)) rfl (Evx.ite (fun h2 => ?_) (fun h2 => ?_))
      · rw [if_pos (of_decide_eq_true h2)]
        exact Ev.now _
      · rw [if_neg (fun e => h2 (decide_eq_true e))]
        exact Ev.now _
    · rw [if_neg hk]
      refine Evx.pos (by simpa using hk) (Ev.now _)
  · rw [if_neg (fun e => h1 ((toList_nil s).2 e))]
    exact Ev.step (fun k => by rw [impl_dateReader_stamp.j0]) (Evx.pos rfl (Ev.now _))
/-- The clock. -/
def ckP (r : List Int) : Prop := (2 ≤ r.length ∧ okd (r.take 2) = true) ∧ (r.drop 2).take 1 = [58] ∧ (2 ≤ (r.drop 3).length ∧ okd ((r.drop 3).take 2) = true) ∧ (r.drop 5).take 1 = [58] ∧ (2 ≤ (r.drop 6).length ∧ okd ((r.drop 6).take 2) = true)
instance (r : List Int) : Decidable (ckP r) := by unfold ckP; infer_instance
theorem ck_bad' (s : ByteArray) : ∃ a b c s', Ev (fun k => impl_ReadRfc3339.clk k s true) (a, b, c, s', true) := by
  obtain ⟨v1, s1, k1⟩ := dg_bad' s (n := 2) (by omega)
  obtain ⟨s2, k2⟩ := nd_bad' s1 ⟨#[58]⟩
  obtain ⟨v3, s3, k3⟩ := dg_bad' s2 (n := 2) (by omega)
  obtain ⟨s4, k4⟩ := nd_bad' s3 ⟨#[58]⟩
  obtain ⟨v5, s5, k5⟩ := dg_bad' s4 (n := 2) (by omega)
  exact ⟨v1, v3, v5, s5, by unfold impl_ReadRfc3339.clk; exact Ev.bind k1 (Evx.bindc k2 (Ev.bind k3 (Evx.bindc k4 (Ev.bind k5 (Ev.now _)))))⟩
theorem ck_good {s : ByteArray} (h : ckP (bs s)) : ∃ s', bs s' = (bs s).drop 8 ∧ Ev (fun k => impl_ReadRfc3339.clk k s false) (vl ((bs s).take 2) 0, vl (((bs s).drop 3).take 2) 0, vl (((bs s).drop 6).take 2) 0, s', false) := by
  obtain ⟨h1, h2, h3, h4, h5⟩ := h
  obtain ⟨s1, g1, k1⟩ := dg_good (s := s) (n := 2) (by omega) h1
  obtain ⟨s2, g2, k2⟩ := nd_good (s := s1) (t := ⟨#[58]⟩) (by rw [g1]; exact h2)
  have g2' : bs s2 = (bs s).drop 3 := by rw [g2, g1, List.drop_drop]; rfl
  obtain ⟨s3, g3, k3⟩ := dg_good (s := s2) (n := 2) (by omega) (by rw [g2']; exact h3)
  have g3' : bs s3 = (bs s).drop 5 := by rw [g3, g2', List.drop_drop]
  obtain ⟨s4, g4, k4⟩ := nd_good (s := s3) (t := ⟨#[58]⟩) (by rw [g3']; exact h4)
  have g4' : bs s4 = (bs s).drop 6 := by rw [g4, g3', List.drop_drop]; rfl
  obtain ⟨s5, g5, k5⟩ := dg_good (s := s4) (n := 2) (by omega) (by rw [g4']; exact h5)
  rw [g2'] at k3
  rw [g4'] at k5
  refine ⟨s5, by rw [g5, g4', List.drop_drop], ?_⟩
  unfold impl_ReadRfc3339.clk
  exact Ev.bind k1 (Evx.bindc k2 (Ev.bind k3 (Evx.bindc k4 (Ev.bind k5 (Ev.now _)))))
theorem ck_bad {s : ByteArray} (h : ¬ ckP (bs s)) : ∃ a b c s', Ev (fun k => impl_ReadRfc3339.clk k s false) (a, b, c, s', true) := by
  unfold impl_ReadRfc3339.clk
  by_cases h1 : 2 ≤ (bs s).length ∧ okd ((bs s).take 2) = true
  · obtain ⟨s1, g1, k1⟩ := dg_good (s := s) (n := 2) (by omega) h1
    by_cases h2 : ((bs s).drop 2).take 1 = [58]
    · obtain ⟨s2, g2, k2⟩ := nd_good (s := s1) (t := ⟨#[58]⟩) (by rw [g1]; exact h2)
      have g2' : bs s2 = (bs s).drop 3 := by rw [g2, g1, List.drop_drop]; rfl
      by_cases h3 : 2 ≤ ((bs s).drop 3).length ∧ okd (((bs s).drop 3).take 2) = true
      · obtain ⟨s3, g3, k3⟩ := dg_good (s := s2) (n := 2) (by omega) (by rw [g2']; exact h3)
        have g3' : bs s3 = (bs s).drop 5 := by rw [g3, g2', List.drop_drop]
        by_cases h4 : ((bs s).drop 5).take 1 = [58]
        · obtain ⟨s4, g4, k4⟩ := nd_good (s := s3) (t := ⟨#[58]⟩) (by rw [g3']; exact h4)
          have g4' : bs s4 = (bs s).drop 6 := by rw [g4, g3', List.drop_drop]; rfl
          obtain ⟨v5, s5, k5⟩ := dg_bad (s := s4) (n := 2) (by omega) (by rw [g4']; exact fun h5 => h ⟨h1, h2, h3, h4, h5⟩)
          exact ⟨_, _, _, _, Ev.bind k1 (Evx.bindc k2 (Ev.bind k3 (Evx.bindc k4 (Ev.bind k5 (Ev.now _)))))⟩
        · obtain ⟨s4, k4⟩ := nd_bad (s := s3) (t := ⟨#[58]⟩) (by rw [g3']; exact h4)
          obtain ⟨v5, s5, k5⟩ := dg_bad' s4 (n := 2) (by omega)
          exact ⟨_, _, _, _, Ev.bind k1 (Evx.bindc k2 (Ev.bind k3 (Evx.bindc k4 (Ev.bind k5 (Ev.now _)))))⟩
      · obtain ⟨v3, s3, k3⟩ := dg_bad (s := s2) (n := 2) (by omega) (by rw [g2']; exact h3)
        obtain ⟨s4, k4⟩ := nd_bad' s3 ⟨#[58]⟩
        obtain ⟨v5, s5, k5⟩ := dg_bad' s4 (n := 2) (by omega)
        exact ⟨_, _, _, _, Ev.bind k1 (Evx.bindc k2 (Ev.bind k3 (Evx.bindc k4 (Ev.bind k5 (Ev.now _)))))⟩
    · obtain ⟨s2, k2⟩ := nd_bad (s := s1) (t := ⟨#[58]⟩) (by rw [g1]; exact h2)
      obtain ⟨v3, s3, k3⟩ := dg_bad' s2 (n := 2) (by omega)
      obtain ⟨s4, k4⟩ := nd_bad' s3 ⟨#[58]⟩
      obtain ⟨v5, s5, k5⟩ := dg_bad' s4 (n := 2) (by omega)
      exact ⟨_, _, _, _, Ev.bind k1 (Evx.bindc k2 (Ev.bind k3 (Evx.bindc k4 (Ev.bind k5 (Ev.now _)))))⟩
  · obtain ⟨v1, s1, k1⟩ := dg_bad (s := s) (n := 2) (by omega) h1
    obtain ⟨s2, k2⟩ := nd_bad' s1 ⟨#[58]⟩
    obtain ⟨v3, s3, k3⟩ := dg_bad' s2 (n := 2) (by omega)
    obtain ⟨s4, k4⟩ := nd_bad' s3 ⟨#[58]⟩
    obtain ⟨v5, s5, k5⟩ := dg_bad' s4 (n := 2) (by omega)
    exact ⟨_, _, _, _, Ev.bind k1 (Evx.bindc k2 (Ev.bind k3 (Evx.bindc k4 (Ev.bind k5 (Ev.now _)))))⟩
/-- The reference's number: -1 where something is no digit. -/
def num (l : List Int) : Int := if okd l = true then vl l 0 else -1
theorem num_loop (s : ByteArray) (hs : s.size ≤ 4) : ∀ (d i : Nat) (v : Int), i + d = s.size → 0 ≤ v → v ≤ bd i → Ev (fun k => spec_l04Number.l0 k s v (i : Int)) (if okd ((bs s).drop i) = true then vl ((bs s).drop i) v else -1)
  | 0, i, v, h, h0, h1 => by
    refine Ev.step (fun k => by rw [spec_l04Number.l0]) ?_
    refine Evx.neg (by omega) (Evx.eq (Ev.now _) ?_)
    rw [List.drop_eq_nil_of_le (by rw [bs_length]; omega)]
    rfl
  | d + 1, i, v, h, h0, h1 => by
    have hi : i < (bs s).length := by rw [bs_length]; omega
    have hb : bt s (i : Int) = (bs s)[i] := by rw [bt_bs, Int.toNat_natCast, List.getD_eq_getElem?_getD, List.getElem?_eq_getElem hi]; rfl
    have hb4 := bd_le (i := i) (by omega)
    refine Ev.step (fun k => by rw [spec_l04Number.l0]) ?_
    rw [hb, List.drop_eq_getElem_cons hi]
    generalize (bs s)[i] = c at *
    refine Evx.pos (by omega) (Evx.pos (by omega) (Evx.ite (fun h1 => ?_) (fun h1 => Evx.ite (fun h2 => ?_) (fun h2 => ?_))))
    · have e : okd (c :: (bs s).drop (i + 1)) = false := by
        unfold okd
        rw [List.all_cons, show digB c = false from decide_eq_false (by omega)]
        rfl
      rw [e]
      exact Ev.now _
    · have e : okd (c :: (bs s).drop (i + 1)) = false := by
        unfold okd
        rw [List.all_cons, show digB c = false from decide_eq_false (by omega)]
        rfl
      rw [e]
      exact Ev.now _
    · have e : okd (c :: (bs s).drop (i + 1)) = okd ((bs s).drop (i + 1)) := by
        unfold okd
        rw [List.all_cons, show digB c = true from decide_eq_true (by omega)]
        rfl
      rw [e, vl, Evx.w64 (i := v * 10) (by omega) (by omega), Evx.w64 (i := v * 10 + (c - 48) % 256) (by omega) (by omega), Evx.w64 (i := (i : Int) + 1) (by omega) (by omega), show v * 10 + (c - 48) % 256 = 10 * v + (c - 48) % 256 by omega]
      exact num_loop s hs d (i + 1) _ (by omega) (by omega) (by rw [bd]; omega)
theorem num_eq {s : ByteArray} (hs : s.size ≤ 4) : Ev (fun k => spec_l04Number.f k s) (num (bs s)) := by
  unfold spec_l04Number.f
  refine Evx.eq (num_loop s hs s.size 0 0 (by omega) (Int.le_refl _) (Int.le_refl _)) ?_
  rw [List.drop_zero]
  rfl
theorem num_two (a b : Int) : (0 ≤ num [a, b] ↔ digB a = true ∧ digB b = true) ∧ -1 ≤ num [a, b] ∧ num [a, b] ≤ 99 := by
  have e : okd [a, b] = true ↔ digB a = true ∧ digB b = true := by simp [okd]
  unfold num
  by_cases h : okd [a, b] = true
  · have h' := e.1 h
    have hv := vl_two h'.1 h'.2
    rw [if_pos h]
    exact ⟨⟨fun _ => h', fun _ => hv.2.1⟩, by omega, hv.2.2⟩
  · rw [if_neg h]
    exact ⟨⟨fun x => by omega, fun x => absurd (e.2 x) h⟩, by omega, by omega⟩
theorem num_vl {a b : Int} (ha : digB a = true) (hb : digB b = true) : num [a, b] = vl [a, b] 0 := by
  unfold num
  rw [if_pos (by simp [okd, ha, hb])]
theorem end_eq {y m d h i c q : Int} (hq : -100000 ≤ q ∧ q ≤ 100000) : Ev (fun k => spec_l04End.f k y m d h i c q) (en y m d h i c q) := by
  unfold spec_l04End.f en
  refine Evx.bindc (spec_ok _ _ _ _ _ _) ?_
  by_cases hk : okc y m d h i c = true
  · have hb := stv_bound hk
    rw [if_pos hk]
    refine Evx.pos hk (Ev.bind (spec_stv hk) ?_)
    rw [Evx.w64 (i := stv y m d h i c - q) (by omega) (by omega)]
    refine Evx.bindc (in_eq _ _ _) (Evx.ite (fun h2 => ?_) (fun h2 => ?_))
    · rw [if_pos (of_decide_eq_true h2)]
      exact Ev.now _
    · rw [if_neg (fun e => h2 (decide_eq_true e))]
      exact Ev.now _
  · rw [if_neg hk]
    exact Evx.neg hk (Ev.now _)
theorem zone_eq {sg : Int} {s1 s2 : ByteArray} {a b c d : Int} (h1 : bs s1 = [a, b]) (h2 : bs s2 = [c, d]) : Ev (fun k => spec_l04Zone.f k sg s1 s2) (if (sg = 43 ∨ sg = 45) ∧ digB a = true ∧ digB b = true ∧ digB c = true ∧ digB d = true ∧ vl [a, b] 0 ≤ 23 ∧ vl [c, d] 0 ≤ 59 then ((if sg = 45 then -(vl [a, b] 0 * 3600 + vl [c, d] 0 * 60) else vl [a, b] 0 * 3600 + vl [c, d] 0 * 60), true) else (0, false)) := by
  have z1 : s1.size = 2 := by rw [← bs_length, h1]; rfl
  have z2 : s2.size = 2 := by rw [← bs_length, h2]; rfl
  have n1 := num_eq (s := s1) (by omega)
  have n2 := num_eq (s := s2) (by omega)
  rw [h1] at n1
  rw [h2] at n2
  have m1 := num_two a b
  have m2 := num_two c d
  unfold spec_l04Zone.f
  refine Ev.bind n1 (Ev.bind n2 ?_)
  have last : ∀ bad : Bool, (bad = false → (sg = 43 ∨ sg = 45) ∧ (0 ≤ num [a, b] ∧ num [a, b] ≤ 23) ∧ (0 ≤ num [c, d] ∧ num [c, d] ≤ 59)) → (bad = true → ¬ ((sg = 43 ∨ sg = 45) ∧ (0 ≤ num [a, b] ∧ num [a, b] ≤ 23) ∧ (0 ≤ num [c, d] ∧ num [c, d] ≤ 59))) → Ev (fun k => spec_l04Zone.j0 k sg (num [a, b]) (num [c, d]) bad) (if (sg = 43 ∨ sg = 45) ∧ digB a = true ∧ digB b = true ∧ digB c = true ∧ digB d = true ∧ vl [a, b] 0 ≤ 23 ∧ vl [c, d] 0 ≤ 59 then ((if sg = 45 then -(vl [a, b] 0 * 3600 + vl [c, d] 0 * 60) else vl [a, b] 0 * 3600 + vl [c, d] 0 * 60), true) else (0, false)) := by
    intro bad hg hb
    refine Ev.step (fun k => by rw [spec_l04Zone.j0]) ?_
    cases bad with
    | true =>
      have h0 := hb rfl
      have hc : ¬ ((sg = 43 ∨ sg = 45) ∧ digB a = true ∧ digB b = true ∧ digB c = true ∧ digB d = true ∧ vl [a, b] 0 ≤ 23 ∧ vl [c, d] 0 ≤ 59) := by
        rintro ⟨e1, e2, e3, e4, e5, e6, e7⟩
        have v1 := num_vl e2 e3
        have w1 := (vl_two e2 e3).2
        have v2 := num_vl e4 e5
        have w2 := (vl_two e4 e5).2
        exact h0 ⟨e1, by omega, by omega⟩
      rw [if_neg hc]
      exact Evx.pos rfl (Ev.now _)
    | false =>
      obtain ⟨g1, g2, g3⟩ := hg rfl
      have d1 := m1.1.1 g2.1
      have d2 := m2.1.1 g3.1
      have v1 := num_vl d1.1 d1.2
      have v2 := num_vl d2.1 d2.2
      rw [v1] at g2
      rw [v2] at g3
      have hc : (sg = 43 ∨ sg = 45) ∧ digB a = true ∧ digB b = true ∧ digB c = true ∧ digB d = true ∧ vl [a, b] 0 ≤ 23 ∧ vl [c, d] 0 ≤ 59 := ⟨g1, d1.1, d1.2, d2.1, d2.2, g2.2, g3.2⟩
      rw [if_pos hc, v1, v2]
      refine Evx.neg (by simp) ?_
      rw [Evx.w64 (i := vl [a, b] 0 * 3600) (by omega) (by omega), Evx.w64 (i := vl [c, d] 0 * 60) (by omega) (by omega), Evx.w64 (i := vl [a, b] 0 * 3600 + vl [c, d] 0 * 60) (by omega) (by omega), Evx.w64 (i := -(vl [a, b] 0 * 3600 + vl [c, d] 0 * 60)) (by omega) (by omega)]
      refine Evx.ite (fun e => ?_) (fun e => ?_)
      · rw [if_pos e]; exact Ev.now _
      · rw [if_neg e]; exact Ev.now _
  have two : ∀ (g : sg = 43 ∨ sg = 45), Ev (fun k => (spec_l01In.f (num [a, b]) 0 23).bind fun t121 => (if t121 = true then ((spec_l01In.f (num [c, d]) 0 59).bind fun t122 => (spec_l04Zone.j0 k sg (num [a, b]) (num [c, d]) (!t122))) else (spec_l04Zone.j0 k sg (num [a, b]) (num [c, d]) true))) (if (sg = 43 ∨ sg = 45) ∧ digB a = true ∧ digB b = true ∧ digB c = true ∧ digB d = true ∧ vl [a, b] 0 ≤ 23 ∧ vl [c, d] 0 ≤ 59 then ((if sg = 45 then -(vl [a, b] 0 * 3600 + vl [c, d] 0 * 60) else vl [a, b] 0 * 3600 + vl [c, d] 0 * 60), true) else (0, false)) := by
    intro g
    refine Evx.bindc (in_eq _ _ _) (Evx.ite (fun h3 => Evx.bindc (in_eq _ _ _) (last _ ?_ ?_)) (fun h3 => last _ ?_ ?_))
    · intro e
      have e' : decide (0 ≤ num [c, d] ∧ num [c, d] ≤ 59) = true := by rw [Bool.not_eq_false'] at e; exact e
      exact ⟨g, of_decide_eq_true h3, of_decide_eq_true e'⟩
    · intro e
      have e' : decide (0 ≤ num [c, d] ∧ num [c, d] ≤ 59) = false := by rw [Bool.not_eq_true'] at e; exact e
      exact fun x => of_decide_eq_false e' x.2.2
    · intro e; cases e
    · exact fun _ x => h3 (decide_eq_true x.2.1)
  refine Evx.ite (fun e => two (Or.inl e)) (fun e => Evx.ite (fun e2 => two (Or.inr e2)) (fun e2 => last _ (fun x => by cases x) (fun _ x => x.1.elim e e2)))
/-- The end of a date answered. -/
def tlans (y m d h i c : Int) (r : List Int) : Int × Int := if r = [90] then en y m d h i c 0 else match zp r [58] with
  | some (q, []) => en y m d h i c q
  | _ => (0, 3)
theorem en_bad {y m d h i c q : Int} (hk : okc y m d h i c = false) : en y m d h i c q = (0, 3) := by
  unfold en
  rw [if_neg (by rw [hk]; simp)]
theorem tlans_bad {y m d h i c : Int} (hk : okc y m d h i c = false) (r : List Int) : tlans y m d h i c r = (0, 3) := by
  unfold tlans
  split
  · exact en_bad hk
  · split
    · exact en_bad hk
    · rfl
theorem toL90 (s : ByteArray) : s.toList = ([90] : List UInt8) ↔ bs s = [90] := by
  have e : ([90] : List UInt8) = (⟨#[90]⟩ : ByteArray).toList := by rw [toList_data]
  rw [e, toList_iff]
  rfl
theorem spec_j3t (x5 : ByteArray) (y m d h i c : Int) : Ev (fun k => spec_ReadRfc3339.j3 k x5 true y m d h i c) (0, 3) := Ev.step (fun k => by rw [spec_ReadRfc3339.j3]) (Evx.pos rfl (Ev.now _))
theorem spec_j2 (x5 : ByteArray) (y m d h i c : Int) : Ev (fun k => spec_ReadRfc3339.j2 k x5 y m d h i c) (tlans y m d h i c (bs x5)) := by
  refine Ev.step (fun k => by rw [spec_ReadRfc3339.j2]) ?_
  refine Evx.ite (fun h1 => ?_) (fun h1 => ?_)
  · have e := (toL90 x5).1 h1
    unfold tlans
    rw [if_pos e]
    exact Ev.bind (end_eq (by omega)) (Ev.now _)
  · have e : ¬ bs x5 = [90] := fun e => h1 ((toL90 x5).2 e)
    unfold tlans
    rw [if_neg e]
    refine Evx.ite (fun h6 => ?_) (fun h6 => ?_)
    · have hl : (bs x5).length = 6 := by rw [bs_length]; omega
      obtain ⟨sg, a, b, c3, c', d', hr⟩ : ∃ sg a b c3 c' d', bs x5 = [sg, a, b, c3, c', d'] := by
        match bs x5, hl with
        | [sg, a, b, c3, c', d'], _ => exact ⟨sg, a, b, c3, c', d', rfl⟩
      have b0 : bt x5 0 = sg := by rw [bt_bs, hr]; rfl
      have b3 : bt x5 3 = c3 := by rw [bt_bs, hr]; rfl
      refine Evx.pos (by omega) ?_
      rw [b3, hr]
      by_cases h58 : c3 = 58
      · subst h58
        refine Ev.step (fun k => by rw [spec_ReadRfc3339.j3]) ?_
        have x1 : bs (x5.extract 1 3) = [a, b] := by rw [bs_extract, hr]; rfl
        have x2 : bs (x5.extract 4 6) = [c', d'] := by rw [bs_extract, hr]; rfl
        rw [b0]
        refine Evx.neg (by simp) (Evx.pos (by omega) (Evx.pos (by omega) (Evx.pos (by omega) (Ev.bind (zone_eq x1 x2) ?_))))
        by_cases hc : (sg = 43 ∨ sg = 45) ∧ digB a = true ∧ digB b = true ∧ digB c' = true ∧ digB d' = true ∧ vl [a, b] 0 ≤ 23 ∧ vl [c', d'] 0 ≤ 59
        · have hz : zp [sg, a, b, 58, c', d'] [58] = some ((if sg = 45 then -(vl [a, b] 0 * 3600 + vl [c', d'] 0 * 60) else vl [a, b] 0 * 3600 + vl [c', d'] 0 * 60), []) := by
            unfold zp
            simp only [List.length_singleton, List.drop_succ_cons, List.drop_zero]
            rw [if_pos ⟨hc.1, hc.2.1, hc.2.2.1, rfl, hc.2.2.2.1, hc.2.2.2.2.1, hc.2.2.2.2.2.1, hc.2.2.2.2.2.2⟩]
          have hb := zp_bound hz
          rw [hz, if_pos hc]
          exact Evx.pos rfl (Ev.bind (end_eq ⟨hb.1, hb.2.1⟩) (Ev.now _))
        · have hz : zp [sg, a, b, 58, c', d'] [58] = none := by
            unfold zp
            simp only [List.length_singleton, List.drop_succ_cons, List.drop_zero]
            rw [if_neg (fun e => hc ⟨e.1, e.2.1, e.2.2.1, e.2.2.2.2.1, e.2.2.2.2.2.1, e.2.2.2.2.2.2.1, e.2.2.2.2.2.2.2⟩)]
          rw [hz, if_neg hc]
          exact Evx.neg (by simp) (Ev.now _)
      · have hz : zp [sg, a, b, c3, c', d'] [58] = none := by
          unfold zp
          simp only [List.length_singleton, List.drop_succ_cons, List.drop_zero]
          rw [if_neg (fun e => h58 (by have := e.2.2.2.1; simpa using this))]
        rw [hz, show (c3 != 58) = true by simpa using h58]
        exact spec_j3t x5 y m d h i c
    · have hz : (match zp (bs x5) [58] with
        | some (q, []) => en y m d h i c q
        | _ => (0, 3)) = (0, 3) := by
        split
        · rename_i q hq
          have := (zp_bound hq).2.2
          rw [bs_length] at this
          simp at this
          omega
        · rfl
      rw [hz]
      exact spec_j3t x5 y m d h i c
theorem impl_tl_bad (s : ByteArray) (y m d h i c : Int) : Ev (fun k => impl_ReadRfc3339.tl k y m d h i c s true) (0, 3) := by
  unfold impl_ReadRfc3339.tl
  by_cases hz : (bs s).take (⟨#[90]⟩ : ByteArray).size = bs ⟨#[90]⟩
  · obtain ⟨s1, g1, k1⟩ := is_yes true hz
    exact Evx.bindc k1 (Evx.pos rfl (Ev.bind (st_bad _ _ _ _ _ _ _ _) (Ev.now _)))
  · obtain ⟨q, s2, k2⟩ := zn_bad' s ⟨#[58]⟩
    exact Evx.bindc (is_no true hz) (Evx.neg (by simp) (Ev.bind k2 (Ev.bind (st_bad _ _ _ _ _ _ _ _) (Ev.now _))))
theorem impl_tl (s : ByteArray) (y m d h i c : Int) : Ev (fun k => impl_ReadRfc3339.tl k y m d h i c s false) (tlans y m d h i c (bs s)) := by
  unfold impl_ReadRfc3339.tl tlans
  by_cases hz : (bs s).take (⟨#[90]⟩ : ByteArray).size = bs ⟨#[90]⟩
  · obtain ⟨s1, g1, k1⟩ := is_yes false hz
    obtain ⟨r, hr⟩ := take_one.1 hz
    have g1' : bs s1 = r := by rw [g1, hr]; rfl
    have hr' : bs s = 90 :: r := hr
    refine Evx.bindc k1 (Evx.pos rfl (Ev.bind (st_good s1 (by omega)) ?_))
    rw [g1']
    by_cases h0 : r = []
    · rw [if_pos h0, if_pos (by rw [hr', h0])]
      exact Ev.now _
    · have hzp : zp (bs s) [58] = none := by
        rw [hr']
        unfold zp
        split
        · rename_i sg a b r1 heq
          split
          · rw [if_neg]
            intro e
            have := (List.cons.inj heq).1
            rcases e.1 with e1 | e1 <;> omega
          · rfl
        · rfl
      rw [if_neg h0, if_neg (by rw [hr']; simp [h0]), hzp]
      exact Ev.now _
  · have hne : ¬ bs s = [90] := fun e => hz (take_one.2 ⟨[], e⟩)
    rw [if_neg hne]
    refine Evx.bindc (is_no false hz) (Evx.neg (by simp) ?_)
    cases hzp : zp (bs s) [58] with
    | none =>
      obtain ⟨q, s2, k2⟩ := zn_bad (s := s) (t := ⟨#[58]⟩) hzp
      exact Ev.bind k2 (Ev.bind (st_bad _ _ _ _ _ _ _ _) (Ev.now _))
    | some v =>
      obtain ⟨q, r2⟩ := v
      obtain ⟨s2, g2, k2⟩ := zn_good (s := s) (t := ⟨#[58]⟩) hzp
      have hb := zp_bound hzp
      refine Ev.bind k2 (Ev.bind (st_good s2 ⟨hb.1, hb.2.1⟩) ?_)
      rw [g2]
      cases r2 with
      | nil => rw [if_pos rfl]; exact Ev.now _
      | cons a r => rw [if_neg (by simp)]; exact Ev.now _
/-- What stands behind the seconds. -/
def p7ans (y m d h i c : Int) : List Int → Int × Int
  | [] => tlans y m d h i c []
  | a :: r => if a = 46 then (if lead r = 0 then (0, 3) else tlans y m d h i c (r.drop (lead r))) else tlans y m d h i c (a :: r)
theorem p7_bad {y m d h i c : Int} (hk : okc y m d h i c = false) (r : List Int) : p7ans y m d h i c r = (0, 3) := by
  unfold p7ans
  split
  · exact tlans_bad hk _
  · split
    · split
      · rfl
      · exact tlans_bad hk _
    · exact tlans_bad hk _
theorem frac_loop (x5 : ByteArray) (hs : x5.size ≤ 1048576) (y m d h i c : Int) : ∀ (n j : Nat), j + n = x5.size → 1 ≤ j → Ev (fun k => spec_ReadRfc3339.l0 k x5 (j : Int) y m d h i c) (if j + lead ((bs x5).drop j) = 1 then (0, 3) else tlans y m d h i c ((bs x5).drop (j + lead ((bs x5).drop j))))
  | 0, j, hj, h1 => by
    refine Ev.step (fun k => by rw [spec_ReadRfc3339.l0]) ?_
    have hl : lead ((bs x5).drop j) = 0 := by rw [List.drop_eq_nil_of_le (by rw [bs_length]; omega)]; rfl
    rw [hl, Nat.add_zero]
    refine Evx.neg (by omega) (Evx.ite (fun e => ?_) (fun e => ?_))
    · rw [if_pos (by omega)]; exact Ev.now _
    · rw [if_neg (by omega)]
      refine Evx.pos (by omega) (Evx.pos (by omega) (Evx.eq (spec_j2 _ y m d h i c) ?_))
      rw [Int.toNat_natCast, bs_drop _ _ _ (Nat.le_refl _)]
  | n + 1, j, hj, h1 => by
    have hi : j < (bs x5).length := by rw [bs_length]; omega
    have hb : bt x5 (j : Int) = (bs x5)[j] := by rw [bt_bs, Int.toNat_natCast, List.getD_eq_getElem?_getD, List.getElem?_eq_getElem hi]; rfl
    have hl : lead ((bs x5).drop j) = if digB (bs x5)[j] = true then lead ((bs x5).drop (j + 1)) + 1 else 0 := by
      rw [List.drop_eq_getElem_cons hi]
      unfold lead
      rw [List.takeWhile_cons]
      split <;> rfl
    refine Ev.step (fun k => by rw [spec_ReadRfc3339.l0]) ?_
    rw [hb, hl, Evx.w64 (i := (j : Int) + 1) (by omega) (by omega)]
    have stop : ¬ (48 ≤ (bs x5)[j] ∧ (bs x5)[j] ≤ 57) → Ev (fun k => if (j : Int) = 1 then (some (0, 3)) else (if (j : Int) ≤ (x5.size : Int) then (spec_ReadRfc3339.j2 k (x5.extract (j : Int).toNat x5.size) y m d h i c) else (none))) (if j + (if digB (bs x5)[j] = true then lead ((bs x5).drop (j + 1)) + 1 else 0) = 1 then (0, 3) else tlans y m d h i c ((bs x5).drop (j + (if digB (bs x5)[j] = true then lead ((bs x5).drop (j + 1)) + 1 else 0)))) := by
      intro hd
      rw [if_neg (c := digB (bs x5)[j] = true) (fun e => hd (of_decide_eq_true e)), Nat.add_zero]
      refine Evx.ite (fun e => ?_) (fun e => ?_)
      · rw [if_pos (by omega)]; exact Ev.now _
      · rw [if_neg (by omega)]
        refine Evx.pos (by omega) (Evx.eq (spec_j2 _ y m d h i c) ?_)
        rw [Int.toNat_natCast, bs_drop _ _ _ (Nat.le_refl _)]
    refine Evx.pos (by omega) (Evx.pos (by omega) (Evx.ite (fun e1 => Evx.ite (fun e2 => ?_) (fun e2 => stop (fun e => e2 e.2))) (fun e1 => stop (fun e => e1 e.1))))
    rw [if_pos (c := digB (bs x5)[j] = true) (decide_eq_true ⟨e1, e2⟩)]
    refine Evx.eq (frac_loop x5 hs y m d h i c n (j + 1) (by omega) (by omega)) ?_
    rw [show j + (lead ((bs x5).drop (j + 1)) + 1) = j + 1 + lead ((bs x5).drop (j + 1)) by omega]
theorem spec_p7 (x5 : ByteArray) (hs : x5.size ≤ 1048576) (y m d h i c : Int) (h0 : 0 < (x5.size : Int)) : Ev (fun k => if (bt x5 0) = 46 then (spec_ReadRfc3339.l0 k x5 1 y m d h i c) else (spec_ReadRfc3339.j2 k x5 y m d h i c)) (p7ans y m d h i c (bs x5)) := by
  obtain ⟨a, r, hr⟩ : ∃ a r, bs x5 = a :: r := by
    cases h : bs x5 with
    | nil => have := bs_length x5; rw [h] at this; simp at this; omega
    | cons a r => exact ⟨a, r, rfl⟩
  have b0 : bt x5 0 = a := by rw [bt_bs, hr]; rfl
  rw [b0]
  refine Evx.ite (fun e => ?_) (fun e => ?_)
  · refine Evx.eq (frac_loop x5 hs y m d h i c (x5.size - 1) 1 (by omega) (Nat.le_refl _)) ?_
    have e1 : (bs x5).drop 1 = r := by rw [hr]; rfl
    rw [e1, hr, p7ans, if_pos e]
    by_cases hl : lead r = 0
    · rw [if_pos (by omega), if_pos hl]
    · rw [if_neg (by omega), if_neg hl, Nat.add_comm 1, List.drop_succ_cons]
  · refine Evx.eq (spec_j2 x5 y m d h i c) ?_
    rw [hr, p7ans, if_neg e]
/-- The date up to its seconds. -/
def P19 (l : List Int) : Prop := (4 ≤ l.length ∧ okd (l.take 4) = true) ∧ (l.drop 4).take 1 = [45] ∧ (2 ≤ (l.drop 5).length ∧ okd ((l.drop 5).take 2) = true) ∧ (l.drop 7).take 1 = [45] ∧ (2 ≤ (l.drop 8).length ∧ okd ((l.drop 8).take 2) = true) ∧ (l.drop 10).take 1 = [84] ∧ ckP (l.drop 11)
instance (l : List Int) : Decidable (P19 l) := by unfold P19; infer_instance
/-- What both sides answer to a text that is not too long. -/
def ans (l : List Int) : Int × Int := if P19 l then p7ans (vl (l.take 4) 0) (vl ((l.drop 5).take 2) 0) (vl ((l.drop 8).take 2) 0) (vl ((l.drop 11).take 2) 0) (vl ((l.drop 14).take 2) 0) (vl ((l.drop 17).take 2) 0) (l.drop 19) else (0, 3)
theorem sep_iff {s : ByteArray} {n : Nat} {c : Int} (h : n < s.size) : bt s (n : Int) = c ↔ ((bs s).drop n).take 1 = [c] := by
  have hi : n < (bs s).length := by rw [bs_length]; exact h
  have e1 : ((bs s).drop n).take 1 = [(bs s)[n]] := by rw [List.drop_eq_getElem_cons hi]; rfl
  rw [bt_bs, Int.toNat_natCast, List.getD_eq_getElem?_getD, List.getElem?_eq_getElem hi, e1]
  exact ⟨fun h => by rw [← h]; rfl, fun h => by simpa using h⟩
theorem cut_bs {s : ByteArray} {a b : Nat} : bs (s.extract a b) = ((bs s).drop a).take (b - a) := by rw [bs_extract, List.drop_take]
theorem ans_no {l : List Int} (h : ¬ P19 l) : ans l = (0, 3) := by unfold ans; rw [if_neg h]
theorem spec_j0t (s : ByteArray) : Ev (fun k => spec_ReadRfc3339.j0 k s true) (0, 3) := Ev.step (fun k => by rw [spec_ReadRfc3339.j0]) (Evx.pos rfl (Ev.now _))
theorem spec_read (s : ByteArray) (hs : s.size ≤ 1048576) : Ev (fun k => spec_ReadRfc3339.f k s) (if (s.size : Int) > 65536 then (0, 2) else ans (bs s)) := by
  unfold spec_ReadRfc3339.f
  refine Evx.ite (fun h => by rw [if_pos h]; exact Ev.now _) (fun h => ?_)
  rw [if_neg h]
  refine Evx.ite (fun h20 => ?_) (fun h20 => ?_)
  · refine Evx.eq (spec_j0t s) ?_
    unfold ans
    by_cases hp : P19 (bs s)
    · have hl : (bs s).drop 19 = [] := List.drop_eq_nil_of_le (by rw [bs_length]; omega)
      rw [if_pos hp, hl]
      rfl
    · rw [if_neg hp]
  · refine Evx.pos (by omega) (Evx.ite (fun c4 => ?_) (fun c4 => ?_))
    rotate_left
    · exact Evx.eq (spec_j0t s) (ans_no (fun hp => c4 ((sep_iff (n := 4) (by omega)).2 hp.2.1))).symm
    refine Evx.pos (by omega) (Evx.ite (fun c7 => ?_) (fun c7 => ?_))
    rotate_left
    · exact Evx.eq (spec_j0t s) (ans_no (fun hp => c7 ((sep_iff (n := 7) (by omega)).2 hp.2.2.2.1))).symm
    refine Evx.pos (by omega) (Evx.ite (fun c10 => ?_) (fun c10 => ?_))
    rotate_left
    · exact Evx.eq (spec_j0t s) (ans_no (fun hp => c10 ((sep_iff (n := 10) (by omega)).2 hp.2.2.2.2.2.1))).symm
    refine Evx.pos (by omega) (Evx.ite (fun c13 => ?_) (fun c13 => ?_))
    rotate_left
    · exact Evx.eq (spec_j0t s) (ans_no (fun hp => c13 ((sep_iff (n := 13) (by omega)).2 (by have := hp.2.2.2.2.2.2.2.1; rw [List.drop_drop] at this; exact this)))).symm
    refine Evx.pos (by omega) ?_
    by_cases c16 : bt s 16 = 58
    rotate_left
    · rw [show (bt s 16 != 58) = true by simpa using c16]
      exact Evx.eq (spec_j0t s) (ans_no (fun hp => c16 ((sep_iff (n := 16) (by omega)).2 (by have := hp.2.2.2.2.2.2.2.2.2.1; rw [List.drop_drop] at this; exact this)))).symm
    rw [show (bt s 16 != 58) = false by simp [c16]]
    refine Ev.step (fun k => by rw [spec_ReadRfc3339.j0]) ?_
    have z : ∀ a b, b ≤ s.size → (s.extract a b).size = b - a := fun a b hb => by rw [ByteArray.size_extract]; omega
    have n1 := num_eq (s := s.extract 0 4) (by rw [z 0 4 (by omega)]; omega)
    have n2 := num_eq (s := s.extract 5 7) (by rw [z 5 7 (by omega)]; omega)
    have n3 := num_eq (s := s.extract 8 10) (by rw [z 8 10 (by omega)]; omega)
    have n4 := num_eq (s := s.extract 11 13) (by rw [z 11 13 (by omega)]; omega)
    have n5 := num_eq (s := s.extract 14 16) (by rw [z 14 16 (by omega)]; omega)
    have n6 := num_eq (s := s.extract 17 19) (by rw [z 17 19 (by omega)]; omega)
    rw [cut_bs] at n1 n2 n3 n4 n5 n6
    have hx5 : bs (s.extract 19 s.size) = (bs s).drop 19 := bs_drop _ _ _ (Nat.le_refl _)
    have hz5 := z 19 s.size (Nat.le_refl _)
    refine Evx.neg (by simp) (Evx.pos (by omega) (Ev.bind n1 (Evx.pos (by omega) (Ev.bind n2 (Evx.pos (by omega) (Ev.bind n3 (Evx.pos (by omega) (Ev.bind n4 (Evx.pos (by omega) (Ev.bind n5 (Evx.pos (by omega) (Ev.bind n6 (Evx.pos (by omega) ?_)))))))))))))
    refine Evx.eq (spec_p7 (s.extract 19 s.size) (by omega) _ _ _ _ _ _ (by omega)) ?_
    rw [hx5, List.drop_zero]
    have hll : (bs s).length = s.size := bs_length s
    show p7ans (num ((bs s).take 4)) (num (((bs s).drop 5).take 2)) (num (((bs s).drop 8).take 2)) (num (((bs s).drop 11).take 2)) (num (((bs s).drop 14).take 2)) (num (((bs s).drop 17).take 2)) ((bs s).drop 19) = ans (bs s)
    generalize hl : bs s = l at *
    by_cases hk : okd (l.take 4) = true ∧ okd ((l.drop 5).take 2) = true ∧ okd ((l.drop 8).take 2) = true ∧ okd ((l.drop 11).take 2) = true ∧ okd ((l.drop 14).take 2) = true ∧ okd ((l.drop 17).take 2) = true
    · obtain ⟨k1, k2, k3, k4, k5, k6⟩ := hk
      have hP : P19 l := by
        refine ⟨⟨by omega, k1⟩, ?_, ⟨by rw [List.length_drop]; omega, k2⟩, ?_, ⟨by rw [List.length_drop]; omega, k3⟩, ?_, ⟨by rw [List.length_drop]; omega, k4⟩, ?_, ⟨by simp only [List.length_drop]; omega, by rw [List.drop_drop]; exact k5⟩, ?_, ⟨by simp only [List.length_drop]; omega, by rw [List.drop_drop]; exact k6⟩⟩
        · rw [← hl]; exact (sep_iff (n := 4) (by omega)).1 c4
        · rw [← hl]; exact (sep_iff (n := 7) (by omega)).1 c7
        · rw [← hl]; exact (sep_iff (n := 10) (by omega)).1 c10
        · rw [List.drop_drop, ← hl]; exact (sep_iff (n := 13) (by omega)).1 c13
        · rw [List.drop_drop, ← hl]; exact (sep_iff (n := 16) (by omega)).1 c16
      unfold ans
      rw [if_pos hP]
      unfold num
      rw [if_pos k1, if_pos k2, if_pos k3, if_pos k4, if_pos k5, if_pos k6]
    · have hP : ¬ P19 l := fun hp => hk ⟨hp.1.2, hp.2.2.1.2, hp.2.2.2.2.1.2, hp.2.2.2.2.2.2.1.2, by have := hp.2.2.2.2.2.2.2.2.1.2; rw [List.drop_drop] at this; exact this, by have := hp.2.2.2.2.2.2.2.2.2.2.2; rw [List.drop_drop] at this; exact this⟩
      rw [ans_no hP]
      refine p7_bad ?_ _
      have nb : ∀ x : List Int, ¬ okd x = true → num x = -1 := fun x hx => by unfold num; rw [if_neg hx]
      refine decide_eq_false (fun e => hk ⟨?_, ?_, ?_, ?_, ?_, ?_⟩)
      · exact Classical.byContradiction fun hx => by have := nb _ hx; omega
      · exact Classical.byContradiction fun hx => by have := nb _ hx; omega
      · exact Classical.byContradiction fun hx => by have := nb _ hx; omega
      · exact Classical.byContradiction fun hx => by have := nb _ hx; omega
      · exact Classical.byContradiction fun hx => by have := nb _ hx; omega
      · exact Classical.byContradiction fun hx => by have := nb _ hx; omega
/-- The steps of the program's reader, from one on. -/
def p7 (k : Nat) (y m d h i c : Int) (s : ByteArray) (b : Bool) : Option (Int × Int) := (impl_dateReader_is.f s b ⟨#[46]⟩).bind fun p => if p.1 = true then (impl_dateReader_digitsHere.f k p.2.1 p.2.2).bind fun q => if 0 ≤ q.1 ∧ q.1 ≤ (q.2.1.size : Int) then impl_ReadRfc3339.tl k y m d h i c (q.2.1.extract q.1.toNat q.2.1.size) (if q.2.2 = true then true else q.1 == 0) else none else impl_ReadRfc3339.tl k y m d h i c p.2.1 p.2.2
def p6 (k : Nat) (y m d : Int) (s : ByteArray) (b : Bool) : Option (Int × Int) := (impl_ReadRfc3339.clk k s b).bind fun c => p7 k y m d c.1 c.2.1 c.2.2.1 c.2.2.2.1 c.2.2.2.2
def p5 (k : Nat) (y m d : Int) (s : ByteArray) (b : Bool) : Option (Int × Int) := (impl_dateReader_need.f s b ⟨#[84]⟩).bind fun n => p6 k y m d n.1 n.2
def p4 (k : Nat) (y m : Int) (s : ByteArray) (b : Bool) : Option (Int × Int) := (impl_dateReader_digits.f k s b 2).bind fun d => p5 k y m d.1 d.2.1 d.2.2
def p3 (k : Nat) (y m : Int) (s : ByteArray) (b : Bool) : Option (Int × Int) := (impl_dateReader_need.f s b ⟨#[45]⟩).bind fun n => p4 k y m n.1 n.2
def p2 (k : Nat) (y : Int) (s : ByteArray) (b : Bool) : Option (Int × Int) := (impl_dateReader_digits.f k s b 2).bind fun m => p3 k y m.1 m.2.1 m.2.2
def p1 (k : Nat) (y : Int) (s : ByteArray) (b : Bool) : Option (Int × Int) := (impl_dateReader_need.f s b ⟨#[45]⟩).bind fun n => p2 k y n.1 n.2
def p0 (k : Nat) (s : ByteArray) (b : Bool) : Option (Int × Int) := (impl_dateReader_digits.f k s b 4).bind fun y => p1 k y.1 y.2.1 y.2.2
theorem fk_p0 (k : Nat) (s : ByteArray) : impl_ReadRfc3339.fk k s = if (s.size : Int) > 65536 then some (0, 2) else p0 k s false := rfl
theorem b7 (y m d h i c : Int) (s : ByteArray) (hs : s.size ≤ 1048576) : Ev (fun k => p7 k y m d h i c s true) (0, 3) := by
  unfold p7
  by_cases hz : (bs s).take (⟨#[46]⟩ : ByteArray).size = bs ⟨#[46]⟩
  · obtain ⟨s1, g1, k1⟩ := is_yes true hz
    have hs1 : s1.size ≤ 1048576 := by rw [← bs_length, g1, List.length_drop, bs_length]; omega
    have hl := lead_le (bs s1)
    rw [bs_length] at hl
    refine Evx.bindc k1 (Evx.pos rfl (Ev.bind (here_eq s1 true hs1) (Evx.pos ⟨by simp, by simp only; omega⟩ ?_)))
    exact impl_tl_bad _ y m d h i c
  · exact Evx.bindc (is_no true hz) (Evx.neg (by simp) (impl_tl_bad s y m d h i c))
theorem g7 (y m d h i c : Int) (s : ByteArray) (hs : s.size ≤ 1048576) : Ev (fun k => p7 k y m d h i c s false) (p7ans y m d h i c (bs s)) := by
  unfold p7
  by_cases hz : (bs s).take (⟨#[46]⟩ : ByteArray).size = bs ⟨#[46]⟩
  · obtain ⟨s1, g1, k1⟩ := is_yes false hz
    obtain ⟨r, hr⟩ := take_one.1 hz
    have hr' : bs s = 46 :: r := hr
    have g1' : bs s1 = r := by rw [g1, hr]; rfl
    have hs1 : s1.size ≤ 1048576 := by rw [← bs_length, g1, List.length_drop, bs_length]; omega
    have hl := lead_le (bs s1)
    rw [bs_length] at hl
    refine Evx.bindc k1 (Evx.pos rfl (Ev.bind (here_eq s1 false hs1) (Evx.pos ⟨by simp, by simp only; omega⟩ ?_)))
    rw [hr', p7ans, if_pos rfl, g1']
    simp only [Int.toNat_natCast]
    by_cases h0 : lead r = 0
    · rw [if_pos h0, h0]
      exact impl_tl_bad _ y m d h i c
    · rw [if_neg h0]
      have e : ((lead r : Int) == 0) = false := by rw [beq_eq_false_iff_ne]; omega
      refine Evx.fn (Evx.eq (impl_tl (s1.extract (lead r) s1.size) y m d h i c) ?_) ?_
      · rw [bs_drop _ _ _ (Nat.le_refl _), g1']
      · funext k
        simp only [e]
        rfl
  · refine Evx.bindc (is_no false hz) (Evx.neg (by simp) (Evx.eq (impl_tl s y m d h i c) ?_))
    cases hb : bs s with
    | nil => rfl
    | cons a r =>
      rw [p7ans, if_neg (fun e => hz (take_one.2 ⟨r, by rw [hb, e]; rfl⟩))]
theorem le_of_drop {s s' : ByteArray} {n : Nat} (h : bs s' = (bs s).drop n) (hs : s.size ≤ 1048576) : s'.size ≤ 1048576 := by
  rw [← bs_length, h, List.length_drop, bs_length]
  omega
theorem ev_one {α : Type} {g : Nat → Option α} {a b : α} (h : Ev g a) (k : Ev g b) : a = b := by
  obtain ⟨K1, h1⟩ := h
  obtain ⟨K2, h2⟩ := k
  exact Option.some.inj ((h1 (max K1 K2) (Nat.le_max_left _ _)).symm.trans (h2 (max K1 K2) (Nat.le_max_right _ _)))
theorem dg_all (s : ByteArray) (b : Bool) {n : Nat} (h4 : n ≤ 4) : ∃ v s' b', s'.size ≤ s.size ∧ Ev (fun k => impl_dateReader_digits.f k s b (n : Int)) (v, s', b') := by
  by_cases hl : s.size < n
  · exact ⟨0, s, true, Nat.le_refl _, Evx.eq (dg_eq s b h4) (by rw [if_pos hl])⟩
  · exact ⟨vl ((bs s).take n) 0, s.extract n s.size, b || !okd ((bs s).take n), by rw [ByteArray.size_extract]; omega, Evx.eq (dg_eq s b h4) (by rw [if_neg hl])⟩
theorem dg_size {s s' : ByteArray} {b b' : Bool} {n : Nat} {v : Int} (h4 : n ≤ 4) (h : Ev (fun k => impl_dateReader_digits.f k s b (n : Int)) (v, s', b')) : s'.size ≤ s.size := by
  obtain ⟨v1, s1, b1, h1, h2⟩ := dg_all s b h4
  have := ev_one h h2
  simp only [Prod.mk.injEq] at this
  rw [this.2.1]
  exact h1
theorem nd_size {s s' t : ByteArray} {b b' : Bool} (h : impl_dateReader_need.f s b t = some (s', b')) : s'.size ≤ s.size := by
  unfold impl_dateReader_need.f at h
  rw [is_eq] at h
  simp only [Option.bind_some] at h
  by_cases hp : pfx s t = true
  · rw [if_pos hp, if_pos hp] at h
    simp only [Option.some.injEq, Prod.mk.injEq] at h
    rw [← h.1, ByteArray.size_extract]
    omega
  · rw [if_neg hp, if_neg hp] at h
    simp only [Option.some.injEq, Prod.mk.injEq] at h
    rw [← h.1]
    exact Nat.le_refl _
theorem nd_all (s t : ByteArray) (b : Bool) : ∃ s' b', impl_dateReader_need.f s b t = some (s', b') := by
  unfold impl_dateReader_need.f
  rw [is_eq]
  simp only [Option.bind_some]
  by_cases hp : pfx s t = true
  · exact ⟨_, _, by rw [if_pos hp]⟩
  · exact ⟨_, _, by rw [if_neg hp]⟩
theorem ck_size {s s' : ByteArray} {b b' : Bool} {x y z : Int} (h : Ev (fun k => impl_ReadRfc3339.clk k s b) (x, y, z, s', b')) : s'.size ≤ s.size := by
  obtain ⟨v1, s1, b1, h1, k1⟩ := dg_all s b (n := 2) (by omega)
  obtain ⟨s2, b2, k2⟩ := nd_all s1 ⟨#[58]⟩ b1
  obtain ⟨v3, s3, b3, h3, k3⟩ := dg_all s2 b2 (n := 2) (by omega)
  obtain ⟨s4, b4, k4⟩ := nd_all s3 ⟨#[58]⟩ b3
  obtain ⟨v5, s5, b5, h5, k5⟩ := dg_all s4 b4 (n := 2) (by omega)
  have h2 := nd_size k2
  have h4 := nd_size k4
  have e : Ev (fun k => impl_ReadRfc3339.clk k s b) (v1, v3, v5, s5, b5) := by
    unfold impl_ReadRfc3339.clk
    exact Ev.bind k1 (Evx.bindc k2 (Ev.bind k3 (Evx.bindc k4 (Ev.bind k5 (Ev.now _)))))
  have := ev_one h e
  simp only [Prod.mk.injEq] at this
  rw [this.2.2.2.1]
  omega
theorem b6 (y m d : Int) (s : ByteArray) (hs : s.size ≤ 1048576) : Ev (fun k => p6 k y m d s true) (0, 3) := by
  obtain ⟨a, b, c, s', k1⟩ := ck_bad' s
  have := ck_size k1
  exact Ev.bind k1 (b7 y m d a b c s' (by omega))
theorem b5 (y m d : Int) (s : ByteArray) (hs : s.size ≤ 1048576) : Ev (fun k => p5 k y m d s true) (0, 3) := by
  obtain ⟨s', k1⟩ := nd_bad' s ⟨#[84]⟩
  have := nd_size k1
  exact Evx.bindc k1 (b6 y m d s' (by omega))
theorem b4 (y m : Int) (s : ByteArray) (hs : s.size ≤ 1048576) : Ev (fun k => p4 k y m s true) (0, 3) := by
  obtain ⟨v, s', k1⟩ := dg_bad' s (n := 2) (by omega)
  have := dg_size (by omega) k1
  exact Ev.bind k1 (b5 y m v s' (by omega))
theorem b3 (y m : Int) (s : ByteArray) (hs : s.size ≤ 1048576) : Ev (fun k => p3 k y m s true) (0, 3) := by
  obtain ⟨s', k1⟩ := nd_bad' s ⟨#[45]⟩
  have := nd_size k1
  exact Evx.bindc k1 (b4 y m s' (by omega))
theorem b2 (y : Int) (s : ByteArray) (hs : s.size ≤ 1048576) : Ev (fun k => p2 k y s true) (0, 3) := by
  obtain ⟨v, s', k1⟩ := dg_bad' s (n := 2) (by omega)
  have := dg_size (by omega) k1
  exact Ev.bind k1 (b3 y v s' (by omega))
theorem b1 (y : Int) (s : ByteArray) (hs : s.size ≤ 1048576) : Ev (fun k => p1 k y s true) (0, 3) := by
  obtain ⟨s', k1⟩ := nd_bad' s ⟨#[45]⟩
  have := nd_size k1
  exact Evx.bindc k1 (b2 y s' (by omega))
theorem impl_p0 (s : ByteArray) (hs : s.size ≤ 1048576) : Ev (fun k => p0 k s false) (ans (bs s)) := by
  by_cases h1 : 4 ≤ (bs s).length ∧ okd ((bs s).take 4) = true
  rotate_left
  · obtain ⟨v, s1, k1⟩ := dg_bad (n := 4) (by omega) h1
    have := dg_size (by omega) k1
    rw [ans_no (fun hp => h1 hp.1)]
    exact Ev.bind k1 (b1 v s1 (by omega))
  obtain ⟨s1, g1, k1⟩ := dg_good (n := 4) (by omega) h1
  have z1 := le_of_drop g1 hs
  by_cases h2 : ((bs s).drop 4).take 1 = [45]
  rotate_left
  · obtain ⟨s2, k2⟩ := nd_bad (s := s1) (t := ⟨#[45]⟩) (by rw [g1]; exact h2)
    have := nd_size k2
    rw [ans_no (fun hp => h2 hp.2.1)]
    exact Ev.bind k1 (Evx.bindc k2 (b2 _ s2 (by omega)))
  obtain ⟨s2, g2, k2⟩ := nd_good (s := s1) (t := ⟨#[45]⟩) (by rw [g1]; exact h2)
  have g2' : bs s2 = (bs s).drop 5 := by rw [g2, g1, List.drop_drop]; rfl
  have z2 := le_of_drop g2' hs
  by_cases h3 : 2 ≤ ((bs s).drop 5).length ∧ okd (((bs s).drop 5).take 2) = true
  rotate_left
  · obtain ⟨v, s3, k3⟩ := dg_bad (s := s2) (n := 2) (by omega) (by rw [g2']; exact h3)
    have := dg_size (by omega) k3
    rw [ans_no (fun hp => h3 hp.2.2.1)]
    exact Ev.bind k1 (Evx.bindc k2 (Ev.bind k3 (b3 _ _ s3 (by omega))))
  obtain ⟨s3, g3, k3⟩ := dg_good (s := s2) (n := 2) (by omega) (by rw [g2']; exact h3)
  have g3' : bs s3 = (bs s).drop 7 := by rw [g3, g2', List.drop_drop]
  have z3 := le_of_drop g3' hs
  rw [g2'] at k3
  by_cases h4 : ((bs s).drop 7).take 1 = [45]
  rotate_left
  · obtain ⟨s4, k4⟩ := nd_bad (s := s3) (t := ⟨#[45]⟩) (by rw [g3']; exact h4)
    have := nd_size k4
    rw [ans_no (fun hp => h4 hp.2.2.2.1)]
    exact Ev.bind k1 (Evx.bindc k2 (Ev.bind k3 (Evx.bindc k4 (b4 _ _ s4 (by omega)))))
  obtain ⟨s4, g4, k4⟩ := nd_good (s := s3) (t := ⟨#[45]⟩) (by rw [g3']; exact h4)
  have g4' : bs s4 = (bs s).drop 8 := by rw [g4, g3', List.drop_drop]; rfl
  have z4 := le_of_drop g4' hs
  by_cases h5 : 2 ≤ ((bs s).drop 8).length ∧ okd (((bs s).drop 8).take 2) = true
  rotate_left
  · obtain ⟨v, s5, k5⟩ := dg_bad (s := s4) (n := 2) (by omega) (by rw [g4']; exact h5)
    have := dg_size (by omega) k5
    rw [ans_no (fun hp => h5 hp.2.2.2.2.1)]
    exact Ev.bind k1 (Evx.bindc k2 (Ev.bind k3 (Evx.bindc k4 (Ev.bind k5 (b5 _ _ _ s5 (by omega))))))
  obtain ⟨s5, g5, k5⟩ := dg_good (s := s4) (n := 2) (by omega) (by rw [g4']; exact h5)
  have g5' : bs s5 = (bs s).drop 10 := by rw [g5, g4', List.drop_drop]
  have z5 := le_of_drop g5' hs
  rw [g4'] at k5
  by_cases h6 : ((bs s).drop 10).take 1 = [84]
  rotate_left
  · obtain ⟨s6, k6⟩ := nd_bad (s := s5) (t := ⟨#[84]⟩) (by rw [g5']; exact h6)
    have := nd_size k6
    rw [ans_no (fun hp => h6 hp.2.2.2.2.2.1)]
    exact Ev.bind k1 (Evx.bindc k2 (Ev.bind k3 (Evx.bindc k4 (Ev.bind k5 (Evx.bindc k6 (b6 _ _ _ s6 (by omega)))))))
  obtain ⟨s6, g6, k6⟩ := nd_good (s := s5) (t := ⟨#[84]⟩) (by rw [g5']; exact h6)
  have g6' : bs s6 = (bs s).drop 11 := by rw [g6, g5', List.drop_drop]; rfl
  have z6 := le_of_drop g6' hs
  by_cases h7 : ckP ((bs s).drop 11)
  rotate_left
  · obtain ⟨x, y, z, s7, k7⟩ := ck_bad (s := s6) (by rw [g6']; exact h7)
    have := ck_size k7
    rw [ans_no (fun hp => h7 hp.2.2.2.2.2.2)]
    exact Ev.bind k1 (Evx.bindc k2 (Ev.bind k3 (Evx.bindc k4 (Ev.bind k5 (Evx.bindc k6 (Ev.bind k7 (b7 _ _ _ _ _ _ s7 (by omega))))))))
  obtain ⟨s7, g7_, k7⟩ := ck_good (s := s6) (by rw [g6']; exact h7)
  have g7' : bs s7 = (bs s).drop 19 := by rw [g7_, g6', List.drop_drop]
  have z7 := le_of_drop g7' hs
  rw [g6', List.drop_drop, List.drop_drop] at k7
  unfold ans
  rw [if_pos ⟨h1, h2, h3, h4, h5, h6, h7⟩]
  refine Ev.bind k1 (Evx.bindc k2 (Ev.bind k3 (Evx.bindc k4 (Ev.bind k5 (Evx.bindc k6 (Ev.bind k7 (Evx.eq (g7 _ _ _ _ _ _ s7 z7) ?_)))))))
  rw [g7']
theorem impl_read (s : ByteArray) (hs : s.size ≤ 1048576) : impl_ReadRfc3339.f s = some (if (s.size : Int) > 65536 then (0, 2) else ans (bs s)) := by
  refine impl_ReadRfc3339.f_of ?_
  refine Ev.congr (fun k => fk_p0 k s) ?_
  by_cases h : (s.size : Int) > 65536
  · rw [if_pos h]; exact Evx.pos h (Ev.now _)
  · rw [if_neg h]; exact Evx.neg h (impl_p0 s hs)

end Go.Proofs.Ytccnidlkpinpgaa.RQFnExactReadRfc3339
