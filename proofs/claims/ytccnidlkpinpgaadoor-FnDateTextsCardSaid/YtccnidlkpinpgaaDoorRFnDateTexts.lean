/- Dates read: what the reader's steps come to on lists of numbers, on both sides. Conditions: as each lemma states. -/
import Derived.Test.YtccnidlkpinpgaaDoorQFnDateTextsx
import Derived.Test.YtccnidlkpinpgaaDoorBsx
import Derived.Test.YtccnidlkpinpgaaDoorDates
namespace Go.Proofs.YtccnidlkpinpgaaDoor.RQFnDateTexts
open Go.RowKit Go.Proofs.YtccnidlkpinpgaaDoor.QFnDateTexts Go.Proofs.YtccnidlkpinpgaaDoorW.PrintWords Go.Proofs.YtccnidlkpinpgaaDoorW.PrintLast Go.Proofs.YtccnidlkpinpgaaDoorW.PrintMore
open Go.Proofs.YtccnidlkpinpgaaDoor.Evx Go.Proofs.YtccnidlkpinpgaaDoor.Bsx Go.Proofs.YtccnidlkpinpgaaDoor.Dates
set_option linter.unusedSimpArgs false
set_option linter.unusedVariables false
theorem tmod_nn {a b : Int} (h : 0 ≤ a) : Int.tmod a b = a % b := Int.tmod_eq_emod_of_nonneg h
theorem tdiv_nn {a b : Int} (h : 0 ≤ a) : Int.tdiv a b = a / b := Int.tdiv_eq_ediv_of_nonneg h
theorem leap1 {y : Int} (h : 0 ≤ y) : spec_l04Leap.f y = some (lp y) := by
  unfold spec_l04Leap.f lp
  rw [tmod_nn h, tmod_nn h, tmod_nn h]
  repeat' split
  all_goals (apply congrArg some; rw [Bool.eq_iff_iff]; simp only [decide_eq_true_eq, beq_iff_eq, true_iff, iff_true, Bool.false_eq_true, false_iff]; omega)
theorem leap2 {y : Int} (h : 0 ≤ y) : impl_leap.f y = some (lp y) := by
  unfold impl_leap.f lp
  rw [tmod_nn h, tmod_nn h, tmod_nn h]
  repeat' split
  all_goals (apply congrArg some; rw [Bool.eq_iff_iff]; simp only [decide_eq_true_eq, beq_iff_eq, true_iff, iff_true, Bool.false_eq_true, false_iff]; omega)
theorem bit1 (b : Bool) : spec_l01Bit.f b = some (if b = true then 1 else 0) := by
  unfold spec_l01Bit.f
  split <;> rfl
theorem days1 {y : Int} (m : Int) (h : 0 ≤ y) : spec_l04Days.f y m = some (dm y m) := by
  unfold spec_l04Days.f dm
  rw [leap1 h]
  simp only [Option.bind_some, bit1]
  by_cases h2 : m = 2
  · rw [if_pos h2, if_pos h2]
    cases lp y
    · exact congrArg some (Evx.w64 (i := 28 + 0) (by omega) (by omega))
    · exact congrArg some (Evx.w64 (i := 28 + 1) (by omega) (by omega))
  · rw [if_neg h2, if_neg h2]
    repeat' split
    all_goals first | rfl | omega
theorem days2 {y : Int} (m : Int) (h : 0 ≤ y) : impl_daysOf.f y m = some (dm y m) := by
  unfold impl_daysOf.f dm
  rw [leap2 h]
  simp only [Option.bind_some]
  by_cases h2 : m = 2
  · rw [if_pos h2, if_pos h2]
    cases lp y <;> rfl
  · rw [if_neg h2, if_neg h2]
    repeat' split
    all_goals first | rfl | omega
theorem ydays2 {y : Int} (h : 0 ≤ y) : impl_yearDays.f y = some (yl y) := by
  unfold impl_yearDays.f yl
  rw [leap2 h]
  simp only [Option.bind_some]
  split <;> rfl
theorem within_eq (a b c : Int) : impl_within.f a b c = some (decide (b ≤ a ∧ a ≤ c)) := by
  unfold impl_within.f
  split <;> simp <;> omega
theorem in_eq (a b c : Int) : spec_l01In.f a b c = some (decide (b ≤ a ∧ a ≤ c)) := by
  unfold spec_l01In.f
  split <;> simp <;> omega
theorem impl_ok (y m d h i s : Int) : Ev (fun k => impl_CivilOK.f k y m d h i s) (okc y m d h i s) := by
  unfold impl_CivilOK.f okc
  refine Evx.bindc (within_eq _ _ _) (Evx.ite (fun a => ?_) (fun a => ?_))
  · rw [decide_eq_true_eq] at a
    refine Evx.bindc (within_eq _ _ _) (Evx.ite (fun b => ?_) (fun b => ?_))
    · rw [decide_eq_true_eq] at b
      refine Evx.bindc (days2 m (by omega)) (Evx.bindc (within_eq _ _ _) ?_)
      refine Ev.step (fun k => by rw [impl_CivilOK.j0]) ?_
      by_cases h3 : 1 ≤ d ∧ d ≤ dm y m
      · refine Evx.neg (by simp [h3]) (Evx.bindc (within_eq _ _ _) (Evx.ite (fun c => ?_) (fun c => ?_)))
        · refine Evx.bindc (within_eq _ _ _) (Evx.ite (fun e => ?_) (fun e => ?_))
          · refine Evx.bindc (within_eq _ _ _) (Evx.eq (Ev.now _) ?_)
            rw [decide_eq_true_eq] at c e
            rw [Bool.eq_iff_iff]; simp only [decide_eq_true_eq]; exact ⟨fun x => ⟨a, b, h3, c, e, x⟩, fun x => x.2.2.2.2.2⟩
          · rw [decide_eq_true_eq] at e
            exact Evx.eq (Ev.now _) (decide_eq_false (fun x => e x.2.2.2.2.1)).symm
        · rw [decide_eq_true_eq] at c
          exact Evx.eq (Ev.now _) (decide_eq_false (fun x => c x.2.2.2.1)).symm
      · refine Evx.pos (by simp [h3]) (Evx.eq (Ev.now _) (decide_eq_false (fun x => h3 x.2.2.1)).symm)
    · rw [decide_eq_true_eq] at b
      refine Ev.step (fun k => by rw [impl_CivilOK.j0]) ?_
      exact Evx.pos rfl (Evx.eq (Ev.now _) (decide_eq_false (fun x => b x.2.1)).symm)
  · rw [decide_eq_true_eq] at a
    refine Ev.step (fun k => by rw [impl_CivilOK.j0]) ?_
    exact Evx.pos rfl (Evx.eq (Ev.now _) (decide_eq_false (fun x => a x.1)).symm)
theorem impl_mon {y m d h i s a0 : Int} (hy : 0 ≤ y) (hc : (0 ≤ h ∧ h ≤ 23) ∧ (0 ≤ i ∧ i ≤ 59) ∧ (0 ≤ s ∧ s ≤ 59)) (hm : m ≤ 12) (n : Nat) : ∀ (a j : Int), j + n = m → 1 ≤ j → 0 ≤ a → a ≤ 1000000 + 31 * j → Ev (fun k => impl_stampOf.l1 k a j y m d h i s) (addM n a y j * 86400 + h * 3600 + i * 60 + s) := by
  induction n with
  | zero =>
    intro a j hj h1 h2 h3
    refine Ev.step (fun k => by rw [impl_stampOf.l1]) ?_
    refine Evx.neg (by omega) (Evx.eq (Ev.now _) ?_)
    rw [Evx.w64 (i := a * 86400) (by omega) (by omega), Evx.w64 (i := h * 3600) (by omega) (by omega), Evx.w64 (i := a * 86400 + h * 3600) (by omega) (by omega), Evx.w64 (i := i * 60) (by omega) (by omega), Evx.w64 (i := a * 86400 + h * 3600 + i * 60) (by omega) (by omega), Evx.w64 (i := a * 86400 + h * 3600 + i * 60 + s) (by omega) (by omega)]
    simp only [addM]
  | succ n ih =>
    intro a j hj h1 h2 h3
    have hd := dm_range y j
    refine Ev.step (fun k => by rw [impl_stampOf.l1]) ?_
    refine Evx.pos (by omega) (Evx.bindc (days2 j hy) ?_)
    rw [Evx.w64 (i := a + dm y j) (by omega) (by omega), Evx.w64 (i := j + 1) (by omega) (by omega)]
    simp only [addM]
    exact ih _ _ (by omega) (by omega) (by omega) (by omega)
theorem impl_yr {y m d h i s R : Int} (hy : y ≤ 2099) (n : Nat) : ∀ (a j : Int), j + n = y → 1970 ≤ j → 0 ≤ a → a ≤ 366 * (j - 1969) → Ev (fun k => impl_stampOf.l1 k (addY n a j) 1 y m d h i s) R → Ev (fun k => impl_stampOf.l0 k a j y m d h i s) R := by
  induction n with
  | zero =>
    intro a j hj h1 h2 h3 hR
    refine Ev.step (fun k => by rw [impl_stampOf.l0]) ?_
    exact Evx.neg (by omega) hR
  | succ n ih =>
    intro a j hj h1 h2 h3 hR
    have hd := yl_range j
    refine Ev.step (fun k => by rw [impl_stampOf.l0]) ?_
    refine Evx.pos (by omega) (Evx.bindc (ydays2 (by omega)) ?_)
    rw [Evx.w64 (i := a + yl j) (by omega) (by omega), Evx.w64 (i := j + 1) (by omega) (by omega)]
    exact ih _ _ (by omega) (by omega) (by omega) (by omega) hR
theorem impl_stv {y m d h i s : Int} (hk : okc y m d h i s = true) : Ev (fun k => impl_stampOf.f k y m d h i s) (stv y m d h i s) := by
  have hc := of_decide_eq_true hk
  have hdm := dm_range y m
  unfold impl_stampOf.f
  rw [Evx.w64 (i := d - 1) (by omega) (by omega)]
  have ha := addY_range (y - 1970).toNat (d - 1) 1970
  refine impl_yr (by omega) (y - 1970).toNat (d - 1) 1970 (by omega) (by omega) (by omega) (by omega) ?_
  exact impl_mon (a0 := 0) (by omega) hc.2.2.2 (by omega) (m - 1).toNat _ 1 (by omega) (by omega) (by omega) (by omega)

def digB (c : Int) : Bool := decide (48 ≤ c ∧ c ≤ 57)
def okd (l : List Int) : Bool := l.all digB
/-- The number that some digits are, behind another. -/
def vl : List Int → Int → Int
  | [], v => v
  | c :: l, v => vl l (10 * v + (c - 48) % 256)
def bd : Nat → Int
  | 0 => 0
  | i + 1 => 10 * bd i + 255
theorem bd_ge : ∀ i, 0 ≤ bd i
  | 0 => Int.le_refl _
  | i + 1 => by have := bd_ge i; rw [bd]; omega
theorem bd_le {i : Nat} (h : i ≤ 4) : bd i ≤ 300000 := by
  match i, h with
  | 0, _ => decide
  | 1, _ => decide
  | 2, _ => decide
  | 3, _ => decide
  | 4, _ => decide
theorem isDigit_eq (c : Int) : impl_isDigit.f c = some (digB c) := by
  unfold impl_isDigit.f digB
  split <;> simp <;> omega
theorem dg_loop (s : ByteArray) (n : Nat) (hn : n ≤ s.size) (h4 : n ≤ 4) : ∀ (d i : Nat) (v : Int) (b : Bool), i + d = n → 0 ≤ v → v ≤ bd i → Ev (fun k => impl_dateReader_digits.l0 k (n : Int) v (n : Int) (i : Int) s b) (vl (((bs s).drop i).take d) v, s.extract n s.size, b || !okd (((bs s).drop i).take d))
  | 0, i, v, b, h, h0, h1 => by
    refine Ev.step (fun k => by rw [impl_dateReader_digits.l0]) ?_
    refine Evx.neg (by omega) (Evx.pos (by omega) (Evx.pos (by omega) (Evx.eq (Ev.now _) ?_)))
    simp [vl, okd]
  | d + 1, i, v, b, h, h0, h1 => by
    have hi : i < (bs s).length := by rw [bs_length]; omega
    have hd : ((bs s).drop i).take (d + 1) = (bs s)[i] :: ((bs s).drop (i + 1)).take d := by rw [List.drop_eq_getElem_cons hi, List.take_succ_cons]
    have hb : bt s (i : Int) = (bs s)[i] := by rw [bt_bs, Int.toNat_natCast, List.getD_eq_getElem?_getD, List.getElem?_eq_getElem hi]; rfl
    have hr := bs_range s _ (List.getElem_mem hi)
    have hb4 := bd_le (i := i) (by omega)
    refine Ev.step (fun k => by rw [impl_dateReader_digits.l0]) ?_
    rw [hb, hd]
    generalize (bs s)[i] = c at *
    rw [Evx.w64 (i := 10 * v) (by omega) (by omega), Evx.w64 (i := 10 * v + (c - 48) % 256) (by omega) (by omega), Evx.w64 (i := (i : Int) + 1) (by omega) (by omega)]
    have hv : 10 * v + (c - 48) % 256 ≤ bd (i + 1) := by rw [bd]; omega
    refine Evx.pos (by omega) (Evx.ite (fun hbt => ?_) (fun hbt => ?_))
    · refine Evx.pos (by omega) (Evx.pos (by omega) (Evx.eq (dg_loop s n hn h4 d (i + 1) _ true (by omega) (by omega) hv) ?_))
      simp [vl, hbt]
    · have hbf : b = false := by simpa using hbt
      refine Evx.pos (by omega) (Evx.pos (by omega) (Evx.bindc (isDigit_eq c) (Evx.eq (dg_loop s n hn h4 d (i + 1) _ _ (by omega) (by omega) hv) ?_)))
      simp [vl, hbf, okd]
theorem dg_eq (s : ByteArray) (b : Bool) {n : Nat} (h4 : n ≤ 4) : Ev (fun k => impl_dateReader_digits.f k s b (n : Int)) (if s.size < n then (0, s, true) else (vl ((bs s).take n) 0, s.extract n s.size, b || !okd ((bs s).take n))) := by
  unfold impl_dateReader_digits.f
  refine Evx.ite (fun h => by rw [if_pos (by omega)]; exact Ev.now _) (fun h => ?_)
  rw [if_neg (by omega)]
  exact Evx.eq (dg_loop s n (by omega) h4 n 0 0 b (by omega) (Int.le_refl _) (Int.le_refl _)) (by rw [List.drop_zero])
theorem dg_good {s : ByteArray} {n : Nat} (h4 : n ≤ 4) (h : n ≤ (bs s).length ∧ okd ((bs s).take n) = true) : ∃ s', bs s' = (bs s).drop n ∧ Ev (fun k => impl_dateReader_digits.f k s false (n : Int)) (vl ((bs s).take n) 0, s', false) := by
  rw [bs_length] at h
  refine ⟨s.extract n s.size, bs_drop s n s.size (Nat.le_refl _), Evx.eq (dg_eq s false h4) ?_⟩
  rw [if_neg (by omega), h.2]
  rfl
theorem dg_bad {s : ByteArray} {n : Nat} (h4 : n ≤ 4) (h : ¬ (n ≤ (bs s).length ∧ okd ((bs s).take n) = true)) : ∃ v s', Ev (fun k => impl_dateReader_digits.f k s false (n : Int)) (v, s', true) := by
  rw [bs_length] at h
  by_cases hl : s.size < n
  · exact ⟨0, s, Evx.eq (dg_eq s false h4) (by rw [if_pos hl])⟩
  · refine ⟨vl ((bs s).take n) 0, s.extract n s.size, Evx.eq (dg_eq s false h4) ?_⟩
    rw [if_neg hl]
    have : okd ((bs s).take n) = false := by
      cases ho : okd ((bs s).take n) with
      | false => rfl
      | true => exact absurd ⟨by omega, ho⟩ h
    rw [this]
    rfl
theorem dg_bad' (s : ByteArray) {n : Nat} (h4 : n ≤ 4) : ∃ v s', Ev (fun k => impl_dateReader_digits.f k s true (n : Int)) (v, s', true) := by
  by_cases hl : s.size < n
  · exact ⟨0, s, Evx.eq (dg_eq s true h4) (by rw [if_pos hl])⟩
  · exact ⟨_, _, Evx.eq (dg_eq s true h4) (by rw [if_neg hl]; rfl)⟩
/-- Whether a text begins with another. -/
def pfx (s t : ByteArray) : Bool := decide ((bs s).take t.size = bs t)
theorem hasPrefix_eq (s t : ByteArray) : stringslite_HasPrefix.f s t = some (pfx s t) := by
  unfold stringslite_HasPrefix.f pfx
  by_cases h : (s.size : Int) ≥ (t.size : Int)
  · rw [if_pos h, if_pos (by omega), if_pos (by omega)]
    rw [toList_beq, Int.toNat_natCast, bs_take]
  · rw [if_neg h]
    refine congrArg some (decide_eq_false (fun e => ?_)).symm
    have := congrArg List.length e
    rw [List.length_take, bs_length, bs_length] at this
    omega
theorem pfx_le {s t : ByteArray} (h : pfx s t = true) : t.size ≤ s.size := by
  have := congrArg List.length (of_decide_eq_true h)
  rw [List.length_take, bs_length, bs_length] at this
  omega
theorem is_eq (s : ByteArray) (b : Bool) (t : ByteArray) : impl_dateReader_is.f s b t = some (pfx s t, if pfx s t = true then s.extract t.size s.size else s, b) := by
  unfold impl_dateReader_is.f strings_CutPrefix.f stringslite_CutPrefix.f
  rw [hasPrefix_eq]
  simp only [Option.bind_some]
  by_cases h : pfx s t = true
  · have := pfx_le h
    rw [if_pos h, if_pos (by omega), if_pos (by omega), if_pos h, h]
    rfl
  · rw [if_neg h, if_neg h]
    have : pfx s t = false := by simpa using h
    rw [this]
    rfl
theorem is_yes {s t : ByteArray} (b : Bool) (h : (bs s).take t.size = bs t) : ∃ s', bs s' = (bs s).drop t.size ∧ impl_dateReader_is.f s b t = some (true, s', b) := by
  have hp : pfx s t = true := decide_eq_true h
  refine ⟨s.extract t.size s.size, bs_drop s _ s.size (Nat.le_refl _), ?_⟩
  rw [is_eq, if_pos hp, hp]
theorem is_no {s t : ByteArray} (b : Bool) (h : ¬ (bs s).take t.size = bs t) : impl_dateReader_is.f s b t = some (false, s, b) := by
  have hp : pfx s t = false := decide_eq_false h
  rw [is_eq, if_neg (by rw [hp]; simp), hp]
theorem nd_good {s t : ByteArray} (h : (bs s).take t.size = bs t) : ∃ s', bs s' = (bs s).drop t.size ∧ impl_dateReader_need.f s false t = some (s', false) := by
  obtain ⟨s', h1, h2⟩ := is_yes false h
  exact ⟨s', h1, by unfold impl_dateReader_need.f; rw [h2]; rfl⟩
theorem nd_bad {s t : ByteArray} (h : ¬ (bs s).take t.size = bs t) : ∃ s', impl_dateReader_need.f s false t = some (s', true) := ⟨s, by unfold impl_dateReader_need.f; rw [is_no false h]; rfl⟩
theorem nd_bad' (s t : ByteArray) : ∃ s', impl_dateReader_need.f s true t = some (s', true) := by
  by_cases h : (bs s).take t.size = bs t
  · obtain ⟨s', h1, h2⟩ := is_yes true h
    exact ⟨s', by unfold impl_dateReader_need.f; rw [h2]; rfl⟩
  · exact ⟨s, by unfold impl_dateReader_need.f; rw [is_no true h]; rfl⟩
/-- How many digits lead. -/
def lead (l : List Int) : Nat := (l.takeWhile digB).length
theorem lead_le (l : List Int) : lead l ≤ l.length := by
  unfold lead
  induction l with
  | nil => simp
  | cons c l ih =>
    rw [List.takeWhile_cons]
    split
    · simp only [List.length_cons]; omega
    · simp
theorem here_loop (s : ByteArray) (b : Bool) (hs : s.size ≤ 1048576) : ∀ (d i : Nat), i + d = s.size → Ev (fun k => impl_dateReader_digitsHere.l0 k (i : Int) s b) (((i + lead ((bs s).drop i) : Nat) : Int), s, b)
  | 0, i, h => by
    refine Ev.step (fun k => by rw [impl_dateReader_digitsHere.l0]) ?_
    refine Evx.neg (by omega) (Evx.eq (Ev.now _) ?_)
    rw [List.drop_eq_nil_of_le (by rw [bs_length]; omega)]
    rfl
  | d + 1, i, h => by
    have hi : i < (bs s).length := by rw [bs_length]; omega
    have hb : bt s (i : Int) = (bs s)[i] := by rw [bt_bs, Int.toNat_natCast, List.getD_eq_getElem?_getD, List.getElem?_eq_getElem hi]; rfl
    refine Ev.step (fun k => by rw [impl_dateReader_digitsHere.l0]) ?_
    rw [hb, List.drop_eq_getElem_cons hi]
    have hl : lead ((bs s)[i] :: (bs s).drop (i + 1)) = if digB (bs s)[i] = true then lead ((bs s).drop (i + 1)) + 1 else 0 := by
      unfold lead
      rw [List.takeWhile_cons]
      split <;> rfl
    rw [hl, Evx.w64 (i := (i : Int) + 1) (by omega) (by omega)]
    refine Evx.pos (by omega) (Evx.pos (by omega) (Evx.bindc (isDigit_eq _) (Evx.ite (fun h1 => ?_) (fun h1 => ?_))))
    · rw [if_pos h1]
      refine Evx.eq (here_loop s b hs d (i + 1) (by omega)) ?_
      rw [show i + 1 + lead ((bs s).drop (i + 1)) = i + (lead ((bs s).drop (i + 1)) + 1) by omega]
    · rw [if_neg h1]
      exact Ev.now _
theorem here_eq (s : ByteArray) (b : Bool) (hs : s.size ≤ 1048576) : Ev (fun k => impl_dateReader_digitsHere.f k s b) ((lead (bs s) : Int), s, b) := by
  unfold impl_dateReader_digitsHere.f
  refine Evx.eq (here_loop s b hs s.size 0 (by omega)) ?_
  rw [List.drop_zero, Nat.zero_add]
theorem vl_two {a b : Int} (ha : digB a = true) (hb : digB b = true) : vl [a, b] 0 = 10 * (a - 48) + (b - 48) ∧ 0 ≤ vl [a, b] 0 ∧ vl [a, b] 0 ≤ 99 := by
  have h1 := of_decide_eq_true ha
  have h2 := of_decide_eq_true hb
  simp only [vl]
  omega
/-- A zone read: how far it is ahead, and what is left. -/
def zp (r t : List Int) : Option (Int × List Int) := match r with
  | sg :: a :: b :: r1 => match r1.drop t.length with
    | c :: d :: r2 => if (sg = 43 ∨ sg = 45) ∧ digB a = true ∧ digB b = true ∧ r1.take t.length = t ∧ digB c = true ∧ digB d = true ∧ vl [a, b] 0 ≤ 23 ∧ vl [c, d] 0 ≤ 59 then some ((if sg = 45 then -(vl [a, b] 0 * 3600 + vl [c, d] 0 * 60) else vl [a, b] 0 * 3600 + vl [c, d] 0 * 60), r2) else none
    | _ => none
  | _ => none
/-- The digits and the rest of a zone, behind its sign. -/
theorem zn_rest (s t : ByteArray) (sgn : Int) (hsg : sgn = 1 ∨ sgn = -1) : 
    (∀ a b c d r2 r1, bs s = a :: b :: r1 → r1.take t.size = bs t → r1.drop t.size = c :: d :: r2 → digB a = true → digB b = true → digB c = true → digB d = true → vl [a, b] 0 ≤ 23 → vl [c, d] 0 ≤ 59 → ∃ s', bs s' = r2 ∧ Ev (fun k => (impl_dateReader_digits.f k s false 2).bind fun bt151 => ((impl_dateReader_need.f bt151.2.1 bt151.2.2 t).bind fun bt154 => ((impl_dateReader_digits.f k bt154.1 bt154.2 2).bind fun bt156 => (if bt156.2.2 = true then (some (wrap64 (sgn * (wrap64 ((wrap64 (bt151.1 * 3600)) + (wrap64 (bt156.1 * 60))))), bt156.2.1, true)) else (if bt151.1 > 23 then (some (wrap64 (sgn * (wrap64 ((wrap64 (bt151.1 * 3600)) + (wrap64 (bt156.1 * 60))))), bt156.2.1, true)) else (some (wrap64 (sgn * (wrap64 ((wrap64 (bt151.1 * 3600)) + (wrap64 (bt156.1 * 60))))), bt156.2.1, decide (bt156.1 > 59)))))))) (sgn * (vl [a, b] 0 * 3600 + vl [c, d] 0 * 60), s', false)) ∧
    ((¬ ∃ a b c d r2 r1, bs s = a :: b :: r1 ∧ r1.take t.size = bs t ∧ r1.drop t.size = c :: d :: r2 ∧ digB a = true ∧ digB b = true ∧ digB c = true ∧ digB d = true ∧ vl [a, b] 0 ≤ 23 ∧ vl [c, d] 0 ≤ 59) → ∃ q s', Ev (fun k => (impl_dateReader_digits.f k s false 2).bind fun bt151 => ((impl_dateReader_need.f bt151.2.1 bt151.2.2 t).bind fun bt154 => ((impl_dateReader_digits.f k bt154.1 bt154.2 2).bind fun bt156 => (if bt156.2.2 = true then (some (wrap64 (sgn * (wrap64 ((wrap64 (bt151.1 * 3600)) + (wrap64 (bt156.1 * 60))))), bt156.2.1, true)) else (if bt151.1 > 23 then (some (wrap64 (sgn * (wrap64 ((wrap64 (bt151.1 * 3600)) + (wrap64 (bt156.1 * 60))))), bt156.2.1, true)) else (some (wrap64 (sgn * (wrap64 ((wrap64 (bt151.1 * 3600)) + (wrap64 (bt156.1 * 60))))), bt156.2.1, decide (bt156.1 > 59)))))))) (q, s', true)) := by
  constructor
  · intro a b c d r2 r1 e1 e2 e3 ha hb hc hd h23 h59
    obtain ⟨s1, g1, k1⟩ := dg_good (s := s) (n := 2) (by omega) ⟨by rw [e1]; simp, by rw [e1]; simp [okd, ha, hb]⟩
    rw [e1] at g1 k1
    have g1' : bs s1 = r1 := g1
    obtain ⟨s2, g2, k2⟩ := nd_good (s := s1) (t := t) (by rw [g1']; exact e2)
    rw [g1', e3] at g2
    obtain ⟨s3, g3, k3⟩ := dg_good (s := s2) (n := 2) (by omega) ⟨by rw [g2]; simp, by rw [g2]; simp [okd, hc, hd]⟩
    rw [g2] at g3 k3
    have v1 := vl_two ha hb
    have v2 := vl_two hc hd
    refine ⟨s3, g3, Ev.bind k1 (Evx.bindc k2 (Ev.bind k3 (Evx.neg (by simp) (Evx.neg (by show ¬ vl [a, b] 0 > 23; omega) (Evx.eq (Ev.now _) ?_)))))⟩
    show (wrap64 (sgn * (wrap64 ((wrap64 (vl [a, b] 0 * 3600)) + (wrap64 (vl [c, d] 0 * 60))))), s3, decide (vl [c, d] 0 > 59)) = _
    have e1 := v1.2; have e2 := v2.2
    generalize vl [a, b] 0 = x at *
    generalize vl [c, d] 0 = y at *
    rw [Evx.w64 (i := x * 3600) (by omega) (by omega), Evx.w64 (i := y * 60) (by omega) (by omega), Evx.w64 (i := x * 3600 + y * 60) (by omega) (by omega), Evx.w64 (i := sgn * (x * 3600 + y * 60)) (by rcases hsg with rfl | rfl <;> omega) (by rcases hsg with rfl | rfl <;> omega), decide_eq_false (by omega)]
  · intro hno
    have fin : ∀ (x y : Int) (u : ByteArray), Ev (fun _ => (some (wrap64 (sgn * (wrap64 ((wrap64 (x * 3600)) + (wrap64 (y * 60))))), u, true) : Option (Int × ByteArray × Bool))) (wrap64 (sgn * (wrap64 ((wrap64 (x * 3600)) + (wrap64 (y * 60))))), u, true) := fun x y u => Ev.now _
    by_cases h1 : 2 ≤ (bs s).length ∧ okd ((bs s).take 2) = true
    · obtain ⟨s1, g1, k1⟩ := dg_good (s := s) (n := 2) (by omega) h1
      obtain ⟨a, b, r1, e1⟩ : ∃ a b r1, bs s = a :: b :: r1 := by
        match h : bs s, h1 with
        | [], h1 => simp at h1
        | [a], h1 => simp at h1
        | a :: b :: r1, _ => exact ⟨a, b, r1, rfl⟩
      rw [e1] at g1 k1 h1
      have g1' : bs s1 = r1 := g1
      have hab : digB a = true ∧ digB b = true := by have := h1.2; simpa [okd] using this
      by_cases h2 : (bs s1).take t.size = bs t
      · obtain ⟨s2, g2, k2⟩ := nd_good (s := s1) (t := t) h2
        by_cases h3 : 2 ≤ (bs s2).length ∧ okd ((bs s2).take 2) = true
        · obtain ⟨s3, g3, k3⟩ := dg_good (s := s2) (n := 2) (by omega) h3
          obtain ⟨c, d, r2, e2⟩ : ∃ c d r2, bs s2 = c :: d :: r2 := by
            match h : bs s2, h3 with
            | [], h3 => simp at h3
            | [a], h3 => simp at h3
            | a :: b :: r1, _ => exact ⟨a, b, r1, rfl⟩
          rw [e2] at g3 k3 h3
          have hcd : digB c = true ∧ digB d = true := by have := h3.2; simpa [okd] using this
          rw [g1'] at h2 g2
          by_cases h23 : vl [a, b] 0 > 23
          · exact ⟨_, s3, Ev.bind k1 (Evx.bindc k2 (Ev.bind k3 (Evx.neg (by simp) (Evx.pos h23 (fin _ _ _)))))⟩
          · have h59 : vl [c, d] 0 > 59 := by
              rcases Int.lt_or_le 59 (vl [c, d] 0) with h | h
              · exact h
              · exact absurd ⟨a, b, c, d, r2, r1, e1, h2, by rw [← g2]; exact e2, hab.1, hab.2, hcd.1, hcd.2, by omega, h⟩ hno
            refine ⟨wrap64 (sgn * (wrap64 ((wrap64 (vl [a, b] 0 * 3600)) + (wrap64 (vl [c, d] 0 * 60))))), s3, Ev.bind k1 (Evx.bindc k2 (Ev.bind k3 (Evx.neg (by simp) (Evx.neg h23 (Evx.eq (Ev.now _) ?_)))))⟩
            show (wrap64 (sgn * (wrap64 ((wrap64 (vl [a, b] 0 * 3600)) + (wrap64 (vl [c, d] 0 * 60))))), s3, decide (vl [c, d] 0 > 59)) = _
            rw [decide_eq_true h59]
        · obtain ⟨v, s3, k3⟩ := dg_bad (s := s2) (n := 2) (by omega) h3
          exact ⟨_, s3, Ev.bind k1 (Evx.bindc k2 (Ev.bind k3 (Evx.pos rfl (fin _ _ _))))⟩
      · obtain ⟨s2, k2⟩ := nd_bad (s := s1) (t := t) h2
        obtain ⟨v, s3, k3⟩ := dg_bad' s2 (n := 2) (by omega)
        exact ⟨_, s3, Ev.bind k1 (Evx.bindc k2 (Ev.bind k3 (Evx.pos rfl (fin _ _ _))))⟩
    · obtain ⟨v, s1, k1⟩ := dg_bad (s := s) (n := 2) (by omega) h1
      obtain ⟨s2, k2⟩ := nd_bad' s1 t
      obtain ⟨v3, s3, k3⟩ := dg_bad' s2 (n := 2) (by omega)
      exact ⟨_, s3, Ev.bind k1 (Evx.bindc k2 (Ev.bind k3 (Evx.pos rfl (fin _ _ _))))⟩
theorem zn_bad' (s t : ByteArray) : ∃ q s', Ev (fun k => impl_dateReader_zone.f k s true t) (q, s', true) := by
  unfold impl_dateReader_zone.f
  have ex : ∀ (sgn : Int) (s : ByteArray), ∃ q s', Ev (fun k => (impl_dateReader_digits.f k s true 2).bind fun bt151 => ((impl_dateReader_need.f bt151.2.1 bt151.2.2 t).bind fun bt154 => ((impl_dateReader_digits.f k bt154.1 bt154.2 2).bind fun bt156 => (if bt156.2.2 = true then (some (wrap64 (sgn * (wrap64 ((wrap64 (bt151.1 * 3600)) + (wrap64 (bt156.1 * 60))))), bt156.2.1, true)) else (if bt151.1 > 23 then (some (wrap64 (sgn * (wrap64 ((wrap64 (bt151.1 * 3600)) + (wrap64 (bt156.1 * 60))))), bt156.2.1, true)) else (some (wrap64 (sgn * (wrap64 ((wrap64 (bt151.1 * 3600)) + (wrap64 (bt156.1 * 60))))), bt156.2.1, decide (bt156.1 > 59)))))))) (q, s', true) := by
    intro sgn s
    obtain ⟨v, s1, k1⟩ := dg_bad' s (n := 2) (by omega)
    obtain ⟨s2, k2⟩ := nd_bad' s1 t
    obtain ⟨v3, s3, k3⟩ := dg_bad' s2 (n := 2) (by omega)
    exact ⟨_, s3, Ev.bind k1 (Evx.bindc k2 (Ev.bind k3 (Evx.pos rfl (Ev.now _))))⟩
  by_cases h : (bs s).take (⟨#[45]⟩ : ByteArray).size = bs ⟨#[45]⟩
  · obtain ⟨s1, g1, k1⟩ := is_yes true h
    obtain ⟨q, s2, k2⟩ := ex (-1) s1
    exact ⟨q, s2, Evx.bindc k1 (Evx.pos rfl k2)⟩
  · have k1 := is_no (s := s) (t := ⟨#[45]⟩) true h
    obtain ⟨s1, k2⟩ := nd_bad' s ⟨#[43]⟩
    obtain ⟨q, s2, k3⟩ := ex 1 s1
    exact ⟨q, s2, Evx.bindc k1 (Evx.neg (by simp) (Evx.bindc k2 k3))⟩
theorem take_one {l : List Int} {c : UInt8} : l.take (⟨#[c]⟩ : ByteArray).size = bs ⟨#[c]⟩ ↔ ∃ r, l = (c.toNat : Int) :: r := by
  have e : bs (⟨#[c]⟩ : ByteArray) = [(c.toNat : Int)] := rfl
  have e1 : (⟨#[c]⟩ : ByteArray).size = 1 := rfl
  rw [e, e1]
  constructor
  · intro h
    cases l with
    | nil => simp at h
    | cons a r => exact ⟨r, by rw [show a = (c.toNat : Int) by simpa using h]⟩
  · rintro ⟨r, rfl⟩
    rfl
theorem zn_good {s t : ByteArray} {q : Int} {r2 : List Int} (h : zp (bs s) (bs t) = some (q, r2)) : ∃ s', bs s' = r2 ∧ Ev (fun k => impl_dateReader_zone.f k s false t) (q, s', false) := by
  unfold zp at h
  split at h
  · rename_i sg a b r1 heq
    split at h
    · rename_i c d r2' heq2
      split at h
      · rename_i hc
        simp only [Option.some.injEq, Prod.mk.injEq] at h
        obtain ⟨rfl, rfl⟩ := h
        obtain ⟨h1, h2, h3, h4, h5, h6, h7, h8⟩ := hc
        rw [bs_length] at h4 heq2
        unfold impl_dateReader_zone.f
        by_cases hm : sg = 45
        · subst hm
          obtain ⟨s1, g1, k1⟩ := is_yes (s := s) (t := ⟨#[45]⟩) false (take_one.2 ⟨_, heq⟩)
          have g1' : bs s1 = a :: b :: r1 := by rw [g1, heq]; rfl
          obtain ⟨s2, g2, k2⟩ := (zn_rest s1 t (-1) (Or.inr rfl)).1 a b c d r2' r1 g1' h4 heq2 h2 h3 h5 h6 h7 h8
          refine ⟨s2, g2, Evx.bindc k1 (Evx.pos rfl (Evx.eq k2 ?_))⟩
          rw [if_pos rfl, Int.neg_one_mul]
        · have hp : sg = 43 := h1.resolve_right hm
          subst hp
          have k1 := is_no (s := s) (t := ⟨#[45]⟩) false (fun e => by obtain ⟨r, hr⟩ := take_one.1 e; rw [heq] at hr; have := (List.cons.inj hr).1; simp at this)
          obtain ⟨s1, g1, k2⟩ := nd_good (s := s) (t := ⟨#[43]⟩) (take_one.2 ⟨_, heq⟩)
          have g1' : bs s1 = a :: b :: r1 := by rw [g1, heq]; rfl
          obtain ⟨s2, g2, k3⟩ := (zn_rest s1 t 1 (Or.inl rfl)).1 a b c d r2' r1 g1' h4 heq2 h2 h3 h5 h6 h7 h8
          refine ⟨s2, g2, Evx.bindc k1 (Evx.neg (by simp) (Evx.bindc k2 (Evx.eq k3 ?_)))⟩
          rw [if_neg (by omega), Int.one_mul]
      · cases h
    · cases h
  · cases h
theorem zn_bad {s t : ByteArray} (h : zp (bs s) (bs t) = none) : ∃ q s', Ev (fun k => impl_dateReader_zone.f k s false t) (q, s', true) := by
  have key : ∀ (sg : Int) (s1 : ByteArray), (sg = 43 ∨ sg = 45) → bs s = sg :: bs s1 → ¬ ∃ a b c d r2 r1, bs s1 = a :: b :: r1 ∧ r1.take t.size = bs t ∧ r1.drop t.size = c :: d :: r2 ∧ digB a = true ∧ digB b = true ∧ digB c = true ∧ digB d = true ∧ vl [a, b] 0 ≤ 23 ∧ vl [c, d] 0 ≤ 59 := by
    rintro sg s1 hsg e ⟨a, b, c, d, r2, r1, e1, h2, h3, h4, h5, h6, h7, h8, h9⟩
    rw [e, e1] at h
    unfold zp at h
    rw [← bs_length t] at h2 h3
    simp only [h3] at h
    rw [if_pos ⟨hsg, h4, h5, h2, h6, h7, h8, h9⟩] at h
    cases h
  unfold impl_dateReader_zone.f
  by_cases hm : (bs s).take (⟨#[45]⟩ : ByteArray).size = bs ⟨#[45]⟩
  · obtain ⟨s1, g1, k1⟩ := is_yes (s := s) (t := ⟨#[45]⟩) false hm
    obtain ⟨r, hr⟩ := take_one.1 hm
    have g1' : bs s = 45 :: bs s1 := by rw [g1, hr]; rfl
    obtain ⟨q, s2, k2⟩ := (zn_rest s1 t (-1) (Or.inr rfl)).2 (key 45 s1 (Or.inr rfl) g1')
    exact ⟨q, s2, Evx.bindc k1 (Evx.pos rfl k2)⟩
  · have k1 := is_no (s := s) (t := ⟨#[45]⟩) false hm
    by_cases hp : (bs s).take (⟨#[43]⟩ : ByteArray).size = bs ⟨#[43]⟩
    · obtain ⟨s1, g1, k2⟩ := nd_good (s := s) (t := ⟨#[43]⟩) hp
      obtain ⟨r, hr⟩ := take_one.1 hp
      have g1' : bs s = 43 :: bs s1 := by rw [g1, hr]; rfl
      obtain ⟨q, s2, k3⟩ := (zn_rest s1 t 1 (Or.inl rfl)).2 (key 43 s1 (Or.inl rfl) g1')
      exact ⟨q, s2, Evx.bindc k1 (Evx.neg (by simp) (Evx.bindc k2 k3))⟩
    · obtain ⟨s1, k2⟩ := nd_bad (s := s) (t := ⟨#[43]⟩) hp
      have ex : ∃ q s', Ev (fun k => (impl_dateReader_digits.f k s1 true 2).bind fun bt151 => ((impl_dateReader_need.f bt151.2.1 bt151.2.2 t).bind fun bt154 => ((impl_dateReader_digits.f k bt154.1 bt154.2 2).bind fun bt156 => (if bt156.2.2 = true then (some (wrap64 (1 * (wrap64 ((wrap64 (bt151.1 * 3600)) + (wrap64 (bt156.1 * 60))))), bt156.2.1, true)) else (if bt151.1 > 23 then (some (wrap64 (1 * (wrap64 ((wrap64 (bt151.1 * 3600)) + (wrap64 (bt156.1 * 60))))), bt156.2.1, true)) else (some (wrap64 (1 * (wrap64 ((wrap64 (bt151.1 * 3600)) + (wrap64 (bt156.1 * 60))))), bt156.2.1, decide (bt156.1 > 59)))))))) (q, s', true) := by
        obtain ⟨v, s2, k1⟩ := dg_bad' s1 (n := 2) (by omega)
        obtain ⟨s3, k2⟩ := nd_bad' s2 t
        obtain ⟨v3, s4, k3⟩ := dg_bad' s3 (n := 2) (by omega)
        exact ⟨_, s4, Ev.bind k1 (Evx.bindc k2 (Ev.bind k3 (Evx.pos rfl (Ev.now _))))⟩
      obtain ⟨q, s2, k3⟩ := ex
      exact ⟨q, s2, Evx.bindc k1 (Evx.neg (by simp) (Evx.bindc k2 k3))⟩
theorem zp_bound {r t : List Int} {q : Int} {r2 : List Int} (h : zp r t = some (q, r2)) : -100000 ≤ q ∧ q ≤ 100000 ∧ r.length = 5 + t.length + r2.length := by
  unfold zp at h
  split at h
  · split at h
    · rename_i sg a b r1 _ c d r2' heq2
      split at h
      · rename_i hc
        simp only [Option.some.injEq, Prod.mk.injEq] at h
        obtain ⟨rfl, rfl⟩ := h
        obtain ⟨h1, h2, h3, h4, h5, h6, h7, h8⟩ := hc
        have v1 := (vl_two h2 h3).2
        have v2 := (vl_two h5 h6).2
        have hl := congrArg List.length heq2
        have ht := congrArg List.length h4
        rw [List.length_drop, List.length_cons, List.length_cons] at hl
        rw [List.length_take] at ht
        refine ⟨?_, ?_, by simp only [List.length_cons]; omega⟩ <;> split <;> omega
      · cases h
    · cases h
  · cases h
/-- What a stamp comes to. -/
def en (y m d h i c q : Int) : Int × Int := if okc y m d h i c = true then (if 0 ≤ stv y m d h i c - q ∧ stv y m d h i c - q ≤ 4102444799 then (stv y m d h i c - q, 0) else (0, 4)) else (0, 3)
theorem stv_bound {y m d h i c : Int} (hk : okc y m d h i c = true) : -10000000000 ≤ stv y m d h i c ∧ stv y m d h i c ≤ 10000000000 := by
  have hc := of_decide_eq_true hk
  have hdm := dm_range y m
  have h1 := addY_range (y - 1970).toNat (d - 1) 1970
  have h2 := addM_range (m - 1).toNat (addY (y - 1970).toNat (d - 1) 1970) y 1
  unfold stv dayOf
  omega
theorem st_bad (s : ByteArray) (y m d h i c q : Int) : Ev (fun k => impl_dateReader_stamp.f k s true y m d h i c q) (0, 3, s, true) := by
  unfold impl_dateReader_stamp.f
  refine Evx.pos rfl (Ev.step (fun k => by rw [impl_dateReader_stamp.j0]) (Evx.pos rfl (Ev.now _)))
theorem st_good (s : ByteArray) {y m d h i c q : Int} (hq : -100000 ≤ q ∧ q ≤ 100000) : Ev (fun k => impl_dateReader_stamp.f k s false y m d h i c q) (if bs s = [] then ((en y m d h i c q).1, (en y m d h i c q).2, s, false) else (0, 3, s, false)) := by
  unfold impl_dateReader_stamp.f
  refine Evx.neg (by simp) (Evx.ite (fun h1 => ?_) (fun h1 => ?_))
  · rw [if_pos ((toList_nil s).1 h1)]
    refine Ev.bind (impl_ok _ _ _ _ _ _) (Ev.step (fun k => by rw [impl_dateReader_stamp.j0]) ?_)
    unfold en
    by_cases hk : okc y m d h i c = true
    · have hb := stv_bound hk
      rw [if_pos hk]
      refine Evx.neg (by simp [hk]) (Ev.bind (impl_stv hk) ?_)
      rw [Evx.w64 (i := stv y m d h i c - q) (by omega) (by omega)]
      unfold impl_isStamp.f
      rw [within_eq]
      refine Evx.bindc (b := decide (0 ≤ stv y m d h i c - q ∧ stv y m d h i c - q ≤ 4102444799)) rfl (Evx.ite (fun h2 => ?_) (fun h2 => ?_))
      · rw [if_pos (of_decide_eq_true h2)]
        exact Ev.now _
      · rw [if_neg (fun e => h2 (decide_eq_true e))]
        exact Ev.now _
    · rw [if_neg hk]
      refine Evx.pos (by simpa using hk) (Ev.now _)
  · rw [if_neg (fun e => h1 ((toList_nil s).2 e))]
    exact Ev.step (fun k => by rw [impl_dateReader_stamp.j0]) (Evx.pos rfl (Ev.now _))
/-- The clock. -/
def ckP (r : List Int) : Prop := (2 ≤ r.length ∧ okd (r.take 2) = true) ∧ (r.drop 2).take 1 = [58] ∧ (2 ≤ (r.drop 3).length ∧ okd ((r.drop 3).take 2) = true) ∧ (r.drop 5).take 1 = [58] ∧ (2 ≤ (r.drop 6).length ∧ okd ((r.drop 6).take 2) = true)
instance (r : List Int) : Decidable (ckP r) := by unfold ckP; infer_instance
theorem ck_bad' (s : ByteArray) : ∃ a b c s', Ev (fun k => impl_ReadRfc3339.clk k s true) (a, b, c, s', true) := by
  obtain ⟨v1, s1, k1⟩ := dg_bad' s (n := 2) (by omega)
  obtain ⟨s2, k2⟩ := nd_bad' s1 ⟨#[58]⟩
  obtain ⟨v3, s3, k3⟩ := dg_bad' s2 (n := 2) (by omega)
  obtain ⟨s4, k4⟩ := nd_bad' s3 ⟨#[58]⟩
  obtain ⟨v5, s5, k5⟩ := dg_bad' s4 (n := 2) (by omega)
  exact ⟨v1, v3, v5, s5, by unfold impl_ReadRfc3339.clk; exact Ev.bind k1 (Evx.bindc k2 (Ev.bind k3 (Evx.bindc k4 (Ev.bind k5 (Ev.now _)))))⟩
theorem ck_good {s : ByteArray} (h : ckP (bs s)) : ∃ s', bs s' = (bs s).drop 8 ∧ Ev (fun k => impl_ReadRfc3339.clk k s false) (vl ((bs s).take 2) 0, vl (((bs s).drop 3).take 2) 0, vl (((bs s).drop 6).take 2) 0, s', false) := by
  obtain ⟨h1, h2, h3, h4, h5⟩ := h
  obtain ⟨s1, g1, k1⟩ := dg_good (s := s) (n := 2) (by omega) h1
  obtain ⟨s2, g2, k2⟩ := nd_good (s := s1) (t := ⟨#[58]⟩) (by rw [g1]; exact h2)
  have g2' : bs s2 = (bs s).drop 3 := by rw [g2, g1, List.drop_drop]; rfl
  obtain ⟨s3, g3, k3⟩ := dg_good (s := s2) (n := 2) (by omega) (by rw [g2']; exact h3)
  have g3' : bs s3 = (bs s).drop 5 := by rw [g3, g2', List.drop_drop]
  obtain ⟨s4, g4, k4⟩ := nd_good (s := s3) (t := ⟨#[58]⟩) (by rw [g3']; exact h4)
  have g4' : bs s4 = (bs s).drop 6 := by rw [g4, g3', List.drop_drop]; rfl
  obtain ⟨s5, g5, k5⟩ := dg_good (s := s4) (n := 2) (by omega) (by rw [g4']; exact h5)
  rw [g2'] at k3
  rw [g4'] at k5
  refine ⟨s5, by rw [g5, g4', List.drop_drop], ?_⟩
  unfold impl_ReadRfc3339.clk
  exact Ev.bind k1 (Evx.bindc k2 (Ev.bind k3 (Evx.bindc k4 (Ev.bind k5 (Ev.now _)))))
theorem ck_bad {s : ByteArray} (h : ¬ ckP (bs s)) : ∃ a b c s', Ev (fun k => impl_ReadRfc3339.clk k s false) (a, b, c, s', true) := by
  unfold impl_ReadRfc3339.clk
  by_cases h1 : 2 ≤ (bs s).length ∧ okd ((bs s).take 2) = true
  · obtain ⟨s1, g1, k1⟩ := dg_good (s := s) (n := 2) (by omega) h1
    by_cases h2 : ((bs s).drop 2).take 1 = [58]
    · obtain ⟨s2, g2, k2⟩ := nd_good (s := s1) (t := ⟨#[58]⟩) (by rw [g1]; exact h2)
      have g2' : bs s2 = (bs s).drop 3 := by rw [g2, g1, List.drop_drop]; rfl
      by_cases h3 : 2 ≤ ((bs s).drop 3).length ∧ okd (((bs s).drop 3).take 2) = true
      · obtain ⟨s3, g3, k3⟩ := dg_good (s := s2) (n := 2) (by omega) (by rw [g2']; exact h3)
        have g3' : bs s3 = (bs s).drop 5 := by rw [g3, g2', List.drop_drop]
        by_cases h4 : ((bs s).drop 5).take 1 = [58]
        · obtain ⟨s4, g4, k4⟩ := nd_good (s := s3) (t := ⟨#[58]⟩) (by rw [g3']; exact h4)
          have g4' : bs s4 = (bs s).drop 6 := by rw [g4, g3', List.drop_drop]; rfl
          obtain ⟨v5, s5, k5⟩ := dg_bad (s := s4) (n := 2) (by omega) (by rw [g4']; exact fun h5 => h ⟨h1, h2, h3, h4, h5⟩)
          exact ⟨_, _, _, _, Ev.bind k1 (Evx.bindc k2 (Ev.bind k3 (Evx.bindc k4 (Ev.bind k5 (Ev.now _)))))⟩
        · obtain ⟨s4, k4⟩ := nd_bad (s := s3) (t := ⟨#[58]⟩) (by rw [g3']; exact h4)
          obtain ⟨v5, s5, k5⟩ := dg_bad' s4 (n := 2) (by omega)
          exact ⟨_, _, _, _, Ev.bind k1 (Evx.bindc k2 (Ev.bind k3 (Evx.bindc k4 (Ev.bind k5 (Ev.now _)))))⟩
      · obtain ⟨v3, s3, k3⟩ := dg_bad (s := s2) (n := 2) (by omega) (by rw [g2']; exact h3)
        obtain ⟨s4, k4⟩ := nd_bad' s3 ⟨#[58]⟩
        obtain ⟨v5, s5, k5⟩ := dg_bad' s4 (n := 2) (by omega)
        exact ⟨_, _, _, _, Ev.bind k1 (Evx.bindc k2 (Ev.bind k3 (Evx.bindc k4 (Ev.bind k5 (Ev.now _)))))⟩
    · obtain ⟨s2, k2⟩ := nd_bad (s := s1) (t := ⟨#[58]⟩) (by rw [g1]; exact h2)
      obtain ⟨v3, s3, k3⟩ := dg_bad' s2 (n := 2) (by omega)
      obtain ⟨s4, k4⟩ := nd_bad' s3 ⟨#[58]⟩
      obtain ⟨v5, s5, k5⟩ := dg_bad' s4 (n := 2) (by omega)
      exact ⟨_, _, _, _, Ev.bind k1 (Evx.bindc k2 (Ev.bind k3 (Evx.bindc k4 (Ev.bind k5 (Ev.now _)))))⟩
  · obtain ⟨v1, s1, k1⟩ := dg_bad (s := s) (n := 2) (by omega) h1
    obtain ⟨s2, k2⟩ := nd_bad' s1 ⟨#[58]⟩
    obtain ⟨v3, s3, k3⟩ := dg_bad' s2 (n := 2) (by omega)
    obtain ⟨s4, k4⟩ := nd_bad' s3 ⟨#[58]⟩
    obtain ⟨v5, s5, k5⟩ := dg_bad' s4 (n := 2) (by omega)
    exact ⟨_, _, _, _, Ev.bind k1 (Evx.bindc k2 (Ev.bind k3 (Evx.bindc k4 (Ev.bind k5 (Ev.now _)))))⟩
/-- The end of a date answered. -/
def tlans (y m d h i c : Int) (r : List Int) : Int × Int := if r = [90] then en y m d h i c 0 else match zp r [58] with
  | some (q, []) => en y m d h i c q
  | _ => (0, 3)
theorem en_bad {y m d h i c q : Int} (hk : okc y m d h i c = false) : en y m d h i c q = (0, 3) := by
  unfold en
  rw [if_neg (by rw [hk]; simp)]
theorem tlans_bad {y m d h i c : Int} (hk : okc y m d h i c = false) (r : List Int) : tlans y m d h i c r = (0, 3) := by
  unfold tlans
  split
  · exact en_bad hk
  · split
    · exact en_bad hk
    · rfl
theorem impl_tl_bad (s : ByteArray) (y m d h i c : Int) : Ev (fun k => impl_ReadRfc3339.tl k y m d h i c s true) (0, 3) := by
  unfold impl_ReadRfc3339.tl
  by_cases hz : (bs s).take (⟨#[90]⟩ : ByteArray).size = bs ⟨#[90]⟩
  · obtain ⟨s1, g1, k1⟩ := is_yes true hz
    exact Evx.bindc k1 (Evx.pos rfl (Ev.bind (st_bad _ _ _ _ _ _ _ _) (Ev.now _)))
  · obtain ⟨q, s2, k2⟩ := zn_bad' s ⟨#[58]⟩
    exact Evx.bindc (is_no true hz) (Evx.neg (by simp) (Ev.bind k2 (Ev.bind (st_bad _ _ _ _ _ _ _ _) (Ev.now _))))
theorem impl_tl (s : ByteArray) (y m d h i c : Int) : Ev (fun k => impl_ReadRfc3339.tl k y m d h i c s false) (tlans y m d h i c (bs s)) := by
  unfold impl_ReadRfc3339.tl tlans
  by_cases hz : (bs s).take (⟨#[90]⟩ : ByteArray).size = bs ⟨#[90]⟩
  · obtain ⟨s1, g1, k1⟩ := is_yes false hz
    obtain ⟨r, hr⟩ := take_one.1 hz
    have g1' : bs s1 = r := by rw [g1, hr]; rfl
    have hr' : bs s = 90 :: r := hr
    refine Evx.bindc k1 (Evx.pos rfl (Ev.bind (st_good s1 (by omega)) ?_))
    rw [g1']
    by_cases h0 : r = []
    · rw [if_pos h0, if_pos (by rw [hr', h0])]
      exact Ev.now _
    · have hzp : zp (bs s) [58] = none := by
        rw [hr']
        unfold zp
        split
        · rename_i sg a b r1 heq
          split
          · rw [if_neg]
            intro e
            have := (List.cons.inj heq).1
            rcases e.1 with e1 | e1 <;> omega
          · rfl
        · rfl
      rw [if_neg h0, if_neg (by rw [hr']; simp [h0]), hzp]
      exact Ev.now _
  · have hne : ¬ bs s = [90] := fun e => hz (take_one.2 ⟨[], e⟩)
    rw [if_neg hne]
    refine Evx.bindc (is_no false hz) (Evx.neg (by simp) ?_)
    cases hzp : zp (bs s) [58] with
    | none =>
      obtain ⟨q, s2, k2⟩ := zn_bad (s := s) (t := ⟨#[58]⟩) hzp
      exact Ev.bind k2 (Ev.bind (st_bad _ _ _ _ _ _ _ _) (Ev.now _))
    | some v =>
      obtain ⟨q, r2⟩ := v
      obtain ⟨s2, g2, k2⟩ := zn_good (s := s) (t := ⟨#[58]⟩) hzp
      have hb := zp_bound hzp
      refine Ev.bind k2 (Ev.bind (st_good s2 ⟨hb.1, hb.2.1⟩) ?_)
      rw [g2]
      cases r2 with
      | nil => rw [if_pos rfl]; exact Ev.now _
      | cons a r => rw [if_neg (by simp)]; exact Ev.now _
/-- What stands behind the seconds. -/
def p7ans (y m d h i c : Int) : List Int → Int × Int
  | [] => tlans y m d h i c []
  | a :: r => if a = 46 then (if lead r = 0 then (0, 3) else tlans y m d h i c (r.drop (lead r))) else tlans y m d h i c (a :: r)
theorem p7_bad {y m d h i c : Int} (hk : okc y m d h i c = false) (r : List Int) : p7ans y m d h i c r = (0, 3) := by
  unfold p7ans
  split
  · exact tlans_bad hk _
  · split
    · split
      · rfl
      · exact tlans_bad hk _
    · exact tlans_bad hk _
/-- The date up to its seconds. -/
def P19 (l : List Int) : Prop := (4 ≤ l.length ∧ okd (l.take 4) = true) ∧ (l.drop 4).take 1 = [45] ∧ (2 ≤ (l.drop 5).length ∧ okd ((l.drop 5).take 2) = true) ∧ (l.drop 7).take 1 = [45] ∧ (2 ≤ (l.drop 8).length ∧ okd ((l.drop 8).take 2) = true) ∧ (l.drop 10).take 1 = [84] ∧ ckP (l.drop 11)
instance (l : List Int) : Decidable (P19 l) := by unfold P19; infer_instance
/-- What both sides answer to a text that is not too long. -/
def ans (l : List Int) : Int × Int := if P19 l then p7ans (vl (l.take 4) 0) (vl ((l.drop 5).take 2) 0) (vl ((l.drop 8).take 2) 0) (vl ((l.drop 11).take 2) 0) (vl ((l.drop 14).take 2) 0) (vl ((l.drop 17).take 2) 0) (l.drop 19) else (0, 3)
theorem sep_iff {s : ByteArray} {n : Nat} {c : Int} (h : n < s.size) : bt s (n : Int) = c ↔ ((bs s).drop n).take 1 = [c] := by
  have hi : n < (bs s).length := by rw [bs_length]; exact h
  have e1 : ((bs s).drop n).take 1 = [(bs s)[n]] := by rw [List.drop_eq_getElem_cons hi]; rfl
  rw [bt_bs, Int.toNat_natCast, List.getD_eq_getElem?_getD, List.getElem?_eq_getElem hi, e1]
  exact ⟨fun h => by rw [← h]; rfl, fun h => by simpa using h⟩
theorem cut_bs {s : ByteArray} {a b : Nat} : bs (s.extract a b) = ((bs s).drop a).take (b - a) := by rw [bs_extract, List.drop_take]
theorem ans_no {l : List Int} (h : ¬ P19 l) : ans l = (0, 3) := by unfold ans; rw [if_neg h]
/-- The steps of the program's reader, from one on. -/
def p7 (k : Nat) (y m d h i c : Int) (s : ByteArray) (b : Bool) : Option (Int × Int) := (impl_dateReader_is.f s b ⟨#[46]⟩).bind fun p => if p.1 = true then (impl_dateReader_digitsHere.f k p.2.1 p.2.2).bind fun q => if 0 ≤ q.1 ∧ q.1 ≤ (q.2.1.size : Int) then impl_ReadRfc3339.tl k y m d h i c (q.2.1.extract q.1.toNat q.2.1.size) (if q.2.2 = true then true else q.1 == 0) else none else impl_ReadRfc3339.tl k y m d h i c p.2.1 p.2.2
def p6 (k : Nat) (y m d : Int) (s : ByteArray) (b : Bool) : Option (Int × Int) := (impl_ReadRfc3339.clk k s b).bind fun c => p7 k y m d c.1 c.2.1 c.2.2.1 c.2.2.2.1 c.2.2.2.2
def p5 (k : Nat) (y m d : Int) (s : ByteArray) (b : Bool) : Option (Int × Int) := (impl_dateReader_need.f s b ⟨#[84]⟩).bind fun n => p6 k y m d n.1 n.2
def p4 (k : Nat) (y m : Int) (s : ByteArray) (b : Bool) : Option (Int × Int) := (impl_dateReader_digits.f k s b 2).bind fun d => p5 k y m d.1 d.2.1 d.2.2
def p3 (k : Nat) (y m : Int) (s : ByteArray) (b : Bool) : Option (Int × Int) := (impl_dateReader_need.f s b ⟨#[45]⟩).bind fun n => p4 k y m n.1 n.2
def p2 (k : Nat) (y : Int) (s : ByteArray) (b : Bool) : Option (Int × Int) := (impl_dateReader_digits.f k s b 2).bind fun m => p3 k y m.1 m.2.1 m.2.2
def p1 (k : Nat) (y : Int) (s : ByteArray) (b : Bool) : Option (Int × Int) := (impl_dateReader_need.f s b ⟨#[45]⟩).bind fun n => p2 k y n.1 n.2
def p0 (k : Nat) (s : ByteArray) (b : Bool) : Option (Int × Int) := (impl_dateReader_digits.f k s b 4).bind fun y => p1 k y.1 y.2.1 y.2.2
theorem fk_p0 (k : Nat) (s : ByteArray) : impl_ReadRfc3339.fk k s = if (s.size : Int) > 65536 then some (0, 2) else p0 k s false := rfl
theorem b7 (y m d h i c : Int) (s : ByteArray) (hs : s.size ≤ 1048576) : Ev (fun k => p7 k y m d h i c s true) (0, 3) := by
  unfold p7
  by_cases hz : (bs s).take (⟨#[46]⟩ : ByteArray).size = bs ⟨#[46]⟩
  · obtain ⟨s1, g1, k1⟩ := is_yes true hz
    have hs1 : s1.size ≤ 1048576 := by rw [← bs_length, g1, List.length_drop, bs_length]; omega
    have hl := lead_le (bs s1)
    rw [bs_length] at hl
    refine Evx.bindc k1 (Evx.pos rfl (Ev.bind (here_eq s1 true hs1) (Evx.pos ⟨by simp, by simp only; omega⟩ ?_)))
    exact impl_tl_bad _ y m d h i c
  · exact Evx.bindc (is_no true hz) (Evx.neg (by simp) (impl_tl_bad s y m d h i c))
theorem g7 (y m d h i c : Int) (s : ByteArray) (hs : s.size ≤ 1048576) : Ev (fun k => p7 k y m d h i c s false) (p7ans y m d h i c (bs s)) := by
  unfold p7
  by_cases hz : (bs s).take (⟨#[46]⟩ : ByteArray).size = bs ⟨#[46]⟩
  · obtain ⟨s1, g1, k1⟩ := is_yes false hz
    obtain ⟨r, hr⟩ := take_one.1 hz
    have hr' : bs s = 46 :: r := hr
    have g1' : bs s1 = r := by rw [g1, hr]; rfl
    have hs1 : s1.size ≤ 1048576 := by rw [← bs_length, g1, List.length_drop, bs_length]; omega
    have hl := lead_le (bs s1)
    rw [bs_length] at hl
    refine Evx.bindc k1 (Evx.pos rfl (Ev.bind (here_eq s1 false hs1) (Evx.pos ⟨by simp, by simp only; omega⟩ ?_)))
    rw [hr', p7ans, if_pos rfl, g1']
    simp only [Int.toNat_natCast]
    by_cases h0 : lead r = 0
    · rw [if_pos h0, h0]
      exact impl_tl_bad _ y m d h i c
    · rw [if_neg h0]
      have e : ((lead r : Int) == 0) = false := by rw [beq_eq_false_iff_ne]; omega
      refine Evx.fn (Evx.eq (impl_tl (s1.extract (lead r) s1.size) y m d h i c) ?_) ?_
      · rw [bs_drop _ _ _ (Nat.le_refl _), g1']
      · funext k
        simp only [e]
        rfl
  · refine Evx.bindc (is_no false hz) (Evx.neg (by simp) (Evx.eq (impl_tl s y m d h i c) ?_))
    cases hb : bs s with
    | nil => rfl
    | cons a r =>
      rw [p7ans, if_neg (fun e => hz (take_one.2 ⟨r, by rw [hb, e]; rfl⟩))]
theorem le_of_drop {s s' : ByteArray} {n : Nat} (h : bs s' = (bs s).drop n) (hs : s.size ≤ 1048576) : s'.size ≤ 1048576 := by
  rw [← bs_length, h, List.length_drop, bs_length]
  omega
theorem ev_one {α : Type} {g : Nat → Option α} {a b : α} (h : Ev g a) (k : Ev g b) : a = b := by
  obtain ⟨K1, h1⟩ := h
  obtain ⟨K2, h2⟩ := k
  exact Option.some.inj ((h1 (max K1 K2) (Nat.le_max_left _ _)).symm.trans (h2 (max K1 K2) (Nat.le_max_right _ _)))
theorem dg_all (s : ByteArray) (b : Bool) {n : Nat} (h4 : n ≤ 4) : ∃ v s' b', s'.size ≤ s.size ∧ Ev (fun k => impl_dateReader_digits.f k s b (n : Int)) (v, s', b') := by
  by_cases hl : s.size < n
  · exact ⟨0, s, true, Nat.le_refl _, Evx.eq (dg_eq s b h4) (by rw [if_pos hl])⟩
  · exact ⟨vl ((bs s).take n) 0, s.extract n s.size, b || !okd ((bs s).take n), by rw [ByteArray.size_extract]; omega, Evx.eq (dg_eq s b h4) (by rw [if_neg hl])⟩
theorem dg_size {s s' : ByteArray} {b b' : Bool} {n : Nat} {v : Int} (h4 : n ≤ 4) (h : Ev (fun k => impl_dateReader_digits.f k s b (n : Int)) (v, s', b')) : s'.size ≤ s.size := by
  obtain ⟨v1, s1, b1, h1, h2⟩ := dg_all s b h4
  have := ev_one h h2
  simp only [Prod.mk.injEq] at this
  rw [this.2.1]
  exact h1
theorem nd_size {s s' t : ByteArray} {b b' : Bool} (h : impl_dateReader_need.f s b t = some (s', b')) : s'.size ≤ s.size := by
  unfold impl_dateReader_need.f at h
  rw [is_eq] at h
  simp only [Option.bind_some] at h
  by_cases hp : pfx s t = true
  · rw [if_pos hp, if_pos hp] at h
    simp only [Option.some.injEq, Prod.mk.injEq] at h
    rw [← h.1, ByteArray.size_extract]
    omega
  · rw [if_neg hp, if_neg hp] at h
    simp only [Option.some.injEq, Prod.mk.injEq] at h
    rw [← h.1]
    exact Nat.le_refl _
theorem nd_all (s t : ByteArray) (b : Bool) : ∃ s' b', impl_dateReader_need.f s b t = some (s', b') := by
  unfold impl_dateReader_need.f
  rw [is_eq]
  simp only [Option.bind_some]
  by_cases hp : pfx s t = true
  · exact ⟨_, _, by rw [if_pos hp]⟩
  · exact ⟨_, _, by rw [if_neg hp]⟩
theorem ck_all (s : ByteArray) (b : Bool) : ∃ x y z s' b', Ev (fun k => impl_ReadRfc3339.clk k s b) (x, y, z, s', b') := by
  obtain ⟨v1, s1, b1, h1, k1⟩ := dg_all s b (n := 2) (by omega)
  obtain ⟨s2, b2, k2⟩ := nd_all s1 ⟨#[58]⟩ b1
  obtain ⟨v3, s3, b3, h3, k3⟩ := dg_all s2 b2 (n := 2) (by omega)
  obtain ⟨s4, b4, k4⟩ := nd_all s3 ⟨#[58]⟩ b3
  obtain ⟨v5, s5, b5, h5, k5⟩ := dg_all s4 b4 (n := 2) (by omega)
  refine ⟨v1, v3, v5, s5, b5, ?_⟩
  unfold impl_ReadRfc3339.clk
  exact Ev.bind k1 (Evx.bindc k2 (Ev.bind k3 (Evx.bindc k4 (Ev.bind k5 (Ev.now _)))))
theorem ck_size {s s' : ByteArray} {b b' : Bool} {x y z : Int} (h : Ev (fun k => impl_ReadRfc3339.clk k s b) (x, y, z, s', b')) : s'.size ≤ s.size := by
  obtain ⟨v1, s1, b1, h1, k1⟩ := dg_all s b (n := 2) (by omega)
  obtain ⟨s2, b2, k2⟩ := nd_all s1 ⟨#[58]⟩ b1
  obtain ⟨v3, s3, b3, h3, k3⟩ := dg_all s2 b2 (n := 2) (by omega)
  obtain ⟨s4, b4, k4⟩ := nd_all s3 ⟨#[58]⟩ b3
  obtain ⟨v5, s5, b5, h5, k5⟩ := dg_all s4 b4 (n := 2) (by omega)
  have h2 := nd_size k2
  have h4 := nd_size k4
  have e : Ev (fun k => impl_ReadRfc3339.clk k s b) (v1, v3, v5, s5, b5) := by
    unfold impl_ReadRfc3339.clk
    exact Ev.bind k1 (Evx.bindc k2 (Ev.bind k3 (Evx.bindc k4 (Ev.bind k5 (Ev.now _)))))
  have := ev_one h e
  simp only [Prod.mk.injEq] at this
  rw [this.2.2.2.1]
  omega
theorem b6 (y m d : Int) (s : ByteArray) (hs : s.size ≤ 1048576) : Ev (fun k => p6 k y m d s true) (0, 3) := by
  obtain ⟨a, b, c, s', k1⟩ := ck_bad' s
  have := ck_size k1
  exact Ev.bind k1 (b7 y m d a b c s' (by omega))
theorem b5 (y m d : Int) (s : ByteArray) (hs : s.size ≤ 1048576) : Ev (fun k => p5 k y m d s true) (0, 3) := by
  obtain ⟨s', k1⟩ := nd_bad' s ⟨#[84]⟩
  have := nd_size k1
  exact Evx.bindc k1 (b6 y m d s' (by omega))
theorem b4 (y m : Int) (s : ByteArray) (hs : s.size ≤ 1048576) : Ev (fun k => p4 k y m s true) (0, 3) := by
  obtain ⟨v, s', k1⟩ := dg_bad' s (n := 2) (by omega)
  have := dg_size (by omega) k1
  exact Ev.bind k1 (b5 y m v s' (by omega))
theorem b3 (y m : Int) (s : ByteArray) (hs : s.size ≤ 1048576) : Ev (fun k => p3 k y m s true) (0, 3) := by
  obtain ⟨s', k1⟩ := nd_bad' s ⟨#[45]⟩
  have := nd_size k1
  exact Evx.bindc k1 (b4 y m s' (by omega))
theorem b2 (y : Int) (s : ByteArray) (hs : s.size ≤ 1048576) : Ev (fun k => p2 k y s true) (0, 3) := by
  obtain ⟨v, s', k1⟩ := dg_bad' s (n := 2) (by omega)
  have := dg_size (by omega) k1
  exact Ev.bind k1 (b3 y v s' (by omega))
theorem b1 (y : Int) (s : ByteArray) (hs : s.size ≤ 1048576) : Ev (fun k => p1 k y s true) (0, 3) := by
  obtain ⟨s', k1⟩ := nd_bad' s ⟨#[45]⟩
  have := nd_size k1
  exact Evx.bindc k1 (b2 y s' (by omega))
theorem impl_p0 (s : ByteArray) (hs : s.size ≤ 1048576) : Ev (fun k => p0 k s false) (ans (bs s)) := by
  by_cases h1 : 4 ≤ (bs s).length ∧ okd ((bs s).take 4) = true
  rotate_left
  · obtain ⟨v, s1, k1⟩ := dg_bad (n := 4) (by omega) h1
    have := dg_size (by omega) k1
    rw [ans_no (fun hp => h1 hp.1)]
    exact Ev.bind k1 (b1 v s1 (by omega))
  obtain ⟨s1, g1, k1⟩ := dg_good (n := 4) (by omega) h1
  have z1 := le_of_drop g1 hs
  by_cases h2 : ((bs s).drop 4).take 1 = [45]
  rotate_left
  · obtain ⟨s2, k2⟩ := nd_bad (s := s1) (t := ⟨#[45]⟩) (by rw [g1]; exact h2)
    have := nd_size k2
    rw [ans_no (fun hp => h2 hp.2.1)]
    exact Ev.bind k1 (Evx.bindc k2 (b2 _ s2 (by omega)))
  obtain ⟨s2, g2, k2⟩ := nd_good (s := s1) (t := ⟨#[45]⟩) (by rw [g1]; exact h2)
  have g2' : bs s2 = (bs s).drop 5 := by rw [g2, g1, List.drop_drop]; rfl
  have z2 := le_of_drop g2' hs
  by_cases h3 : 2 ≤ ((bs s).drop 5).length ∧ okd (((bs s).drop 5).take 2) = true
  rotate_left
  · obtain ⟨v, s3, k3⟩ := dg_bad (s := s2) (n := 2) (by omega) (by rw [g2']; exact h3)
    have := dg_size (by omega) k3
    rw [ans_no (fun hp => h3 hp.2.2.1)]
    exact Ev.bind k1 (Evx.bindc k2 (Ev.bind k3 (b3 _ _ s3 (by omega))))
  obtain ⟨s3, g3, k3⟩ := dg_good (s := s2) (n := 2) (by omega) (by rw [g2']; exact h3)
  have g3' : bs s3 = (bs s).drop 7 := by rw [g3, g2', List.drop_drop]
  have z3 := le_of_drop g3' hs
  rw [g2'] at k3
  by_cases h4 : ((bs s).drop 7).take 1 = [45]
  rotate_left
  · obtain ⟨s4, k4⟩ := nd_bad (s := s3) (t := ⟨#[45]⟩) (by rw [g3']; exact h4)
    have := nd_size k4
    rw [ans_no (fun hp => h4 hp.2.2.2.1)]
    exact Ev.bind k1 (Evx.bindc k2 (Ev.bind k3 (Evx.bindc k4 (b4 _ _ s4 (by omega)))))
  obtain ⟨s4, g4, k4⟩ := nd_good (s := s3) (t := ⟨#[45]⟩) (by rw [g3']; exact h4)
  have g4' : bs s4 = (bs s).drop 8 := by rw [g4, g3', List.drop_drop]; rfl
  have z4 := le_of_drop g4' hs
  by_cases h5 : 2 ≤ ((bs s).drop 8).length ∧ okd (((bs s).drop 8).take 2) = true
  rotate_left
  · obtain ⟨v, s5, k5⟩ := dg_bad (s := s4) (n := 2) (by omega) (by rw [g4']; exact h5)
    have := dg_size (by omega) k5
    rw [ans_no (fun hp => h5 hp.2.2.2.2.1)]
    exact Ev.bind k1 (Evx.bindc k2 (Ev.bind k3 (Evx.bindc k4 (Ev.bind k5 (b5 _ _ _ s5 (by omega))))))
  obtain ⟨s5, g5, k5⟩ := dg_good (s := s4) (n := 2) (by omega) (by rw [g4']; exact h5)
  have g5' : bs s5 = (bs s).drop 10 := by rw [g5, g4', List.drop_drop]
  have z5 := le_of_drop g5' hs
  rw [g4'] at k5
  by_cases h6 : ((bs s).drop 10).take 1 = [84]
  rotate_left
  · obtain ⟨s6, k6⟩ := nd_bad (s := s5) (t := ⟨#[84]⟩) (by rw [g5']; exact h6)
    have := nd_size k6
    rw [ans_no (fun hp => h6 hp.2.2.2.2.2.1)]
    exact Ev.bind k1 (Evx.bindc k2 (Ev.bind k3 (Evx.bindc k4 (Ev.bind k5 (Evx.bindc k6 (b6 _ _ _ s6 (by omega)))))))
  obtain ⟨s6, g6, k6⟩ := nd_good (s := s5) (t := ⟨#[84]⟩) (by rw [g5']; exact h6)
  have g6' : bs s6 = (bs s).drop 11 := by rw [g6, g5', List.drop_drop]; rfl
  have z6 := le_of_drop g6' hs
  by_cases h7 : ckP ((bs s).drop 11)
  rotate_left
  · obtain ⟨x, y, z, s7, k7⟩ := ck_bad (s := s6) (by rw [g6']; exact h7)
    have := ck_size k7
    rw [ans_no (fun hp => h7 hp.2.2.2.2.2.2)]
    exact Ev.bind k1 (Evx.bindc k2 (Ev.bind k3 (Evx.bindc k4 (Ev.bind k5 (Evx.bindc k6 (Ev.bind k7 (b7 _ _ _ _ _ _ s7 (by omega))))))))
  obtain ⟨s7, g7_, k7⟩ := ck_good (s := s6) (by rw [g6']; exact h7)
  have g7' : bs s7 = (bs s).drop 19 := by rw [g7_, g6', List.drop_drop]
  have z7 := le_of_drop g7' hs
  rw [g6', List.drop_drop, List.drop_drop] at k7
  unfold ans
  rw [if_pos ⟨h1, h2, h3, h4, h5, h6, h7⟩]
  refine Ev.bind k1 (Evx.bindc k2 (Ev.bind k3 (Evx.bindc k4 (Ev.bind k5 (Evx.bindc k6 (Ev.bind k7 (Evx.eq (g7 _ _ _ _ _ _ s7 z7) ?_)))))))
  rw [g7']
theorem impl_read (s : ByteArray) (hs : s.size ≤ 1048576) : impl_ReadRfc3339.f s = some (if (s.size : Int) > 65536 then (0, 2) else ans (bs s)) := by
  refine impl_ReadRfc3339.f_of ?_
  refine Ev.congr (fun k => fk_p0 k s) ?_
  by_cases h : (s.size : Int) > 65536
  · rw [if_pos h]; exact Evx.pos h (Ev.now _)
  · rw [if_neg h]; exact Evx.neg h (impl_p0 s hs)
/-- The names of the months and of the days of the week, as lists. -/
def mnl : List (List Int) := [[74, 97, 110], [70, 101, 98], [77, 97, 114], [65, 112, 114], [77, 97, 121], [74, 117, 110], [74, 117, 108], [65, 117, 103], [83, 101, 112], [79, 99, 116], [78, 111, 118], [68, 101, 99]]
def wdl : List (List Int) := [[83, 117, 110], [77, 111, 110], [84, 117, 101], [87, 101, 100], [84, 104, 117], [70, 114, 105], [83, 97, 116]]
theorem mns_bs : impl_ReadRfc822.mns.map bs = mnl := rfl
theorem wds_bs : impl_ReadRfc822.wds.map bs = wdl := rfl
/-- The place of the first of some lists that is a given one. -/
def fi : List (List Int) → Int → List Int → Int
  | [], _, _ => -1
  | t :: ts, j, u => if u = t then j else fi ts (j + 1) u
/-- The last place. -/
def la : List (List Int) → Int → Int → List Int → Int
  | [], _, x, _ => x
  | t :: ts, j, x, u => la ts (j + 1) (if t = u then j else x) u
theorem fi_ge : ∀ (ts : List (List Int)) (j : Int) (u : List Int), 0 ≤ j → (fi ts j u = -1 ∧ u ∉ ts) ∨ (j ≤ fi ts j u ∧ fi ts j u ≤ j + ts.length ∧ u ∈ ts)
  | [], j, u, _ => Or.inl ⟨rfl, by simp⟩
  | t :: ts, j, u, h => by
    rw [fi]
    by_cases e : u = t
    · rw [if_pos e]
      exact Or.inr ⟨Int.le_refl _, by simp only [List.length_cons]; omega, by rw [e]; simp⟩
    · rw [if_neg e]
      rcases fi_ge ts (j + 1) u (by omega) with h1 | h1
      · exact Or.inl ⟨h1.1, by simp [e, h1.2]⟩
      · exact Or.inr ⟨by omega, by simp only [List.length_cons]; omega, List.mem_cons_of_mem _ h1.2.2⟩
theorem la_fi : ∀ (ts : List (List Int)) (j x : Int) (u : List Int), 0 ≤ j → ts.Nodup → la ts j x u = if u ∈ ts then fi ts j u else x
  | [], j, x, u, _, _ => rfl
  | t :: ts, j, x, u, h, hn => by
    have hn' := List.nodup_cons.1 hn
    rw [la, la_fi ts (j + 1) _ u (by omega) hn'.2, fi]
    by_cases e : u = t
    · subst e
      rw [if_neg hn'.1, if_pos rfl, if_pos (by simp), if_pos rfl]
    · by_cases hm : u ∈ ts
      · rw [if_pos hm, if_pos (List.mem_cons_of_mem _ hm), if_neg e]
      · rw [if_neg hm, if_neg (fun e2 : t = u => e e2.symm), if_neg (by simp [e, hm])]
theorem la_mn (u : List Int) : la mnl 1 0 u = fi mnl 0 u + 1 := by
  rw [la_fi mnl 1 0 u (by omega) (by decide)]
  have sh : ∀ (ts : List (List Int)) (j : Int), u ∈ ts → fi ts (j + 1) u = fi ts j u + 1 := by
    intro ts
    induction ts with
    | nil => intro j h; cases h
    | cons t ts ih =>
      intro j h
      rw [fi, fi]
      by_cases e : u = t
      · rw [if_pos e, if_pos e]
      · rw [if_neg e, if_neg e]
        exact ih (j + 1) ((List.mem_cons.1 h).resolve_left e)
  by_cases hm : u ∈ mnl
  · rw [if_pos hm]
    exact sh mnl 0 hm
  · rw [if_neg hm]
    rcases fi_ge mnl 0 u (Int.le_refl _) with h | h
    · omega
    · exact absurd h.2.2 hm
theorem la_wd (u : List Int) : la wdl 0 (-1) u = fi wdl 0 u := by
  rw [la_fi wdl 0 (-1) u (by omega) (by decide)]
  by_cases hm : u ∈ wdl
  · rw [if_pos hm]
  · rw [if_neg hm]
    rcases fi_ge wdl 0 u (Int.le_refl _) with h | h
    · exact h.1.symm
    · exact absurd h.2.2 hm
theorem ix_eq : ∀ (ts : List ByteArray) (j : Int) (s : ByteArray) (b : Bool), 0 ≤ j → (∀ t ∈ ts, t.size = 3) → ∃ s', bs s' = (if 0 ≤ fi (ts.map bs) j ((bs s).take 3) then (bs s).drop 3 else bs s) ∧ impl_ReadRfc822.ix ts j s b = some (fi (ts.map bs) j ((bs s).take 3), s', b)
  | [], j, s, b, _, _ => ⟨s, rfl, rfl⟩
  | t :: ts, j, s, b, hj, h3 => by
    have ht : t.size = 3 := h3 t (by simp)
    rw [List.map_cons, fi, impl_ReadRfc822.ix]
    by_cases e : (bs s).take 3 = bs t
    · obtain ⟨s', g, k⟩ := is_yes (s := s) (t := t) b (by rw [ht]; exact e)
      rw [if_pos e, if_pos hj, k]
      exact ⟨s', by rw [g, ht], rfl⟩
    · have k := is_no (s := s) (t := t) b (by rw [ht]; exact e)
      rw [if_neg e, k]
      exact ix_eq ts (j + 1) s b (by omega) (fun u hu => h3 u (List.mem_cons_of_mem _ hu))
/-- The day of the week of a stamp, as both sides write it. -/
def wk (st : Int) : Int := Int.tmod (wrap64 ((wrap64 (Int.tdiv st 86400)) + 4)) 7
/-- What a date comes to. -/
def fin8 (day y m d h i c q : Int) : Int × Int := if okc y m d h i c = true then (if 0 ≤ day ∧ wk (stv y m d h i c) ≠ day then (0, 3) else en y m d h i c q) else (0, 3)
/-- The zone. -/
def zr (r : List Int) : Option Int := if r = [71, 77, 84] then some 0 else if r = [85, 84] then some 0 else match zp r [] with
  | some (q, []) => some q
  | _ => none
def val8 (day y m d h i c : Int) (r : List Int) : Int × Int := match zr r with
  | some q => fin8 day y m d h i c q
  | none => (0, 3)
theorem z4_good (day y m d h i c q : Int) (hq : -100000 ≤ q ∧ q ≤ 100000) (s : ByteArray) : Ev (fun k => impl_ReadRfc822.z4 k day y m d h i c s false q) (if bs s = [] then fin8 day y m d h i c q else (0, 3)) := by
  unfold impl_ReadRfc822.z4
  have st : Ev (fun k => (impl_dateReader_stamp.f k s false y m d h i c q).bind fun x => some (x.1, x.2.1)) (if bs s = [] then en y m d h i c q else (0, 3)) := by
    refine Ev.bind (st_good s hq) ?_
    by_cases h0 : bs s = []
    · rw [if_pos h0, if_pos h0]; exact Ev.now _
    · rw [if_neg h0, if_neg h0]; exact Ev.now _
  by_cases hd : 0 ≤ day
  · refine Evx.pos hd (Ev.bind (impl_ok _ _ _ _ _ _) ?_)
    by_cases hk : okc y m d h i c = true
    · refine Evx.pos hk (Ev.bind (impl_stv hk) (Evx.bindc (b := wk (stv y m d h i c)) rfl ?_))
      by_cases hw : wk (stv y m d h i c) = day
      · have e8 : fin8 day y m d h i c q = en y m d h i c q := by
          unfold fin8
          rw [if_pos hk, if_neg (fun e => e.2 hw)]
        rw [e8]
        exact Evx.pos hw st
      · have e8 : fin8 day y m d h i c q = (0, 3) := by
          unfold fin8
          rw [if_pos hk, if_pos ⟨hd, hw⟩]
        rw [e8]
        refine Evx.neg hw (Evx.eq (Ev.now _) ?_)
        split <;> rfl
    · have e8 : fin8 day y m d h i c q = (0, 3) := by
        unfold fin8
        rw [if_neg hk]
      refine Evx.neg hk (Evx.eq st ?_)
      rw [e8, en_bad (by simpa using hk)]
  · have e8 : fin8 day y m d h i c q = en y m d h i c q := by
      unfold fin8
      by_cases hk : okc y m d h i c = true
      · rw [if_pos hk, if_neg (fun e => hd e.1)]
      · rw [if_neg hk, en_bad (by simpa using hk)]
    rw [e8]
    exact Evx.neg hd st
theorem z4_bad (day y m d h i c q : Int) (s : ByteArray) : Ev (fun k => impl_ReadRfc822.z4 k day y m d h i c s true q) (0, 3) := by
  unfold impl_ReadRfc822.z4
  have st : Ev (fun k => (impl_dateReader_stamp.f k s true y m d h i c q).bind fun x => some (x.1, x.2.1)) (0, 3) := Ev.bind (st_bad _ _ _ _ _ _ _ _) (Ev.now _)
  refine Evx.ite (fun hd => Ev.bind (impl_ok _ _ _ _ _ _) (Evx.ite (fun hk => ?_) (fun hk => st))) (fun hd => st)
  exact Ev.bind (impl_stv hk) (Evx.bindc (b := wk (stv y m d h i c)) rfl (Evx.ite (fun _ => st) (fun _ => Ev.now _)))
theorem z4_nok {day y m d h i c q : Int} (hk : okc y m d h i c = false) (s : ByteArray) (b : Bool) : Ev (fun k => impl_ReadRfc822.z4 k day y m d h i c s b q) (0, 3) := by
  unfold impl_ReadRfc822.z4
  have st : Ev (fun k => (impl_dateReader_stamp.f k s b y m d h i c q).bind fun x => some (x.1, x.2.1)) (0, 3) := by
    unfold impl_dateReader_stamp.f
    cases b with
    | true => exact Ev.bind (Evx.pos rfl (Ev.step (fun k => by rw [impl_dateReader_stamp.j0]) (Evx.pos rfl (Ev.now _)))) (Ev.now _)
    | false =>
      by_cases h1 : s.toList = ([] : List UInt8)
      · exact Ev.bind (Evx.neg (by simp) (Evx.pos h1 (Ev.bind (impl_ok _ _ _ _ _ _) (Ev.step (fun k => by rw [impl_dateReader_stamp.j0]) (Evx.pos (by rw [hk]; rfl) (Ev.now _)))))) (Ev.now _)
      · exact Ev.bind (Evx.neg (by simp) (Evx.neg h1 (Ev.step (fun k => by rw [impl_dateReader_stamp.j0]) (Evx.pos rfl (Ev.now _))))) (Ev.now _)
  refine Evx.ite (fun hd => Ev.bind (impl_ok _ _ _ _ _ _) (Evx.neg (by rw [hk]; simp) st)) (fun hd => st)
theorem z3_nok {day y m d h i c : Int} (hk : okc y m d h i c = false) (s : ByteArray) (b : Bool) : Ev (fun k => impl_ReadRfc822.z3 k day y m d h i c s b) (0, 3) := by
  have zz : ∀ (fl : Bool) (s : ByteArray) (b : Bool), Ev (fun k => impl_ReadRfc822.z3z k day y m d h i c fl s b) (0, 3) := by
    intro fl s b
    unfold impl_ReadRfc822.z3z
    refine Evx.ite (fun _ => ?_) (fun _ => z4_nok hk s b)
    cases b with
    | true =>
      obtain ⟨q, s2, k2⟩ := zn_bad' s ⟨#[]⟩
      exact Ev.bind k2 (z4_nok hk _ _)
    | false =>
      cases hzp : zp (bs s) (bs ⟨#[]⟩) with
      | none =>
        obtain ⟨q, s2, k2⟩ := zn_bad hzp
        exact Ev.bind k2 (z4_nok hk _ _)
      | some v =>
        obtain ⟨s2, g2, k2⟩ := zn_good hzp
        exact Ev.bind k2 (z4_nok hk _ _)
  unfold impl_ReadRfc822.z3
  refine Evx.bindc (is_eq s b _) (Evx.ite (fun _ => zz _ _ _) (fun _ => Evx.bindc (is_eq _ _ _) (zz _ _ _)))
theorem z3_bad (day y m d h i c : Int) (s : ByteArray) : Ev (fun k => impl_ReadRfc822.z3 k day y m d h i c s true) (0, 3) := by
  have zz : ∀ (fl : Bool) (s : ByteArray), Ev (fun k => impl_ReadRfc822.z3z k day y m d h i c fl s true) (0, 3) := by
    intro fl s
    unfold impl_ReadRfc822.z3z
    refine Evx.ite (fun _ => ?_) (fun _ => z4_bad _ _ _ _ _ _ _ _ s)
    obtain ⟨q, s2, k2⟩ := zn_bad' s ⟨#[]⟩
    exact Ev.bind k2 (z4_bad _ _ _ _ _ _ _ _ _)
  unfold impl_ReadRfc822.z3
  refine Evx.bindc (is_eq s true _) (Evx.ite (fun _ => zz _ _) (fun _ => Evx.bindc (is_eq _ _ _) (zz _ _)))
theorem bsGMT : bs ⟨#[71, 77, 84]⟩ = [71, 77, 84] := rfl
theorem bsUT : bs ⟨#[85, 84]⟩ = [85, 84] := rfl
theorem zp_sign {r t : List Int} {a : Int} {l : List Int} (h : r = a :: l) (ha : a ≠ 43 ∧ a ≠ 45) : zp r t = none := by
  subst h
  unfold zp
  split
  · rename_i sg a' b r1 heq
    split
    · rw [if_neg]
      intro e
      have := (List.cons.inj heq).1
      rcases e.1 with e1 | e1 <;> omega
    · rfl
  · rfl
theorem z3_good (day y m d h i c : Int) (s : ByteArray) : Ev (fun k => impl_ReadRfc822.z3 k day y m d h i c s false) (val8 day y m d h i c (bs s)) := by
  unfold impl_ReadRfc822.z3
  by_cases hg : (bs s).take 3 = [71, 77, 84]
  · obtain ⟨s1, g1, k1⟩ := is_yes (s := s) (t := ⟨#[71, 77, 84]⟩) false hg
    have g1' : bs s1 = (bs s).drop 3 := g1
    refine Evx.bindc k1 (Evx.pos rfl ?_)
    unfold impl_ReadRfc822.z3z
    refine Evx.neg (by simp) (Evx.eq (z4_good day y m d h i c 0 (by omega) s1) ?_)
    have hr : bs s = 71 :: 77 :: 84 :: bs s1 := by
      rw [g1']
      have := List.take_append_drop 3 (bs s)
      rw [hg] at this
      exact this.symm
    unfold val8 zr
    rw [hr]
    by_cases h0 : bs s1 = []
    · rw [if_pos h0, h0, if_pos rfl]
    · rw [if_neg h0, if_neg (by simp [h0]), if_neg (by simp), zp_sign rfl (by omega)]
  · have k1 := is_no (s := s) (t := ⟨#[71, 77, 84]⟩) false hg
    refine Evx.bindc k1 (Evx.neg (by simp) ?_)
    have ng : ¬ bs s = [71, 77, 84] := fun e => hg (by rw [e]; rfl)
    by_cases hu : (bs s).take 2 = [85, 84]
    · obtain ⟨s1, g1, k2⟩ := is_yes (s := s) (t := ⟨#[85, 84]⟩) false hu
      have g1' : bs s1 = (bs s).drop 2 := g1
      refine Evx.bindc k2 ?_
      unfold impl_ReadRfc822.z3z
      refine Evx.neg (by simp) (Evx.eq (z4_good day y m d h i c 0 (by omega) s1) ?_)
      have hr : bs s = 85 :: 84 :: bs s1 := by
        rw [g1']
        have := List.take_append_drop 2 (bs s)
        rw [hu] at this
        exact this.symm
      unfold val8 zr
      rw [if_neg ng, hr]
      by_cases h0 : bs s1 = []
      · rw [if_pos h0, h0, if_pos rfl]
      · rw [if_neg h0, if_neg (by simp [h0]), zp_sign rfl (by omega)]
    · have k2 := is_no (s := s) (t := ⟨#[85, 84]⟩) false hu
      have nu : ¬ bs s = [85, 84] := fun e => hu (by rw [e]; rfl)
      refine Evx.bindc k2 ?_
      unfold impl_ReadRfc822.z3z val8 zr
      rw [if_neg ng, if_neg nu]
      refine Evx.pos (by simp) ?_
      cases hzp : zp (bs s) [] with
      | none =>
        obtain ⟨q, s2, k3⟩ := zn_bad (s := s) (t := ⟨#[]⟩) hzp
        exact Ev.bind k3 (z4_bad _ _ _ _ _ _ _ _ _)
      | some v =>
        obtain ⟨q, r2⟩ := v
        obtain ⟨s2, g2, k3⟩ := zn_good (s := s) (t := ⟨#[]⟩) hzp
        have hb := zp_bound hzp
        refine Ev.bind k3 (Evx.eq (z4_good day y m d h i c q ⟨hb.1, hb.2.1⟩ s2) ?_)
        rw [g2]
        cases r2 with
        | nil => rw [if_pos rfl]
        | cons a r => rw [if_neg (by simp)]
/-- Behind the day's digits. -/
def G2 (l : List Int) : Prop := l.take 1 = [32] ∧ 0 ≤ fi mnl 0 ((l.drop 1).take 3) ∧ (l.drop 4).take 1 = [32] ∧ (4 ≤ (l.drop 5).length ∧ okd ((l.drop 5).take 4) = true) ∧ (l.drop 9).take 1 = [32] ∧ ckP (l.drop 10) ∧ (l.drop 18).take 1 = [32]
instance (l : List Int) : Decidable (G2 l) := by unfold G2; infer_instance
def z2ans (day d : Int) (l : List Int) : Int × Int := if G2 l then val8 day (vl ((l.drop 5).take 4) 0) (fi mnl 0 ((l.drop 1).take 3) + 1) d (vl ((l.drop 10).take 2) 0) (vl ((l.drop 13).take 2) 0) (vl ((l.drop 16).take 2) 0) (l.drop 19) else (0, 3)
theorem ans2_no {day d : Int} {l : List Int} (h : ¬ G2 l) : z2ans day d l = (0, 3) := by unfold z2ans; rw [if_neg h]
theorem fi_mn (u : List Int) : fi mnl 0 u ≤ 100 ∧ -1 ≤ fi mnl 0 u := by
  rcases fi_ge mnl 0 u (Int.le_refl _) with h | h
  · omega
  · have : (mnl.length : Int) = 12 := rfl
    omega
/-- The steps behind the month. -/
def y5 (k : Nat) (day d m y h i c : Int) (s : ByteArray) (b : Bool) : Option (Int × Int) := (impl_dateReader_need.f s b ⟨#[32]⟩).bind fun n4 => impl_ReadRfc822.z3 k day y (m + 1) d h i c n4.1 n4.2
def y4 (k : Nat) (day d m y : Int) (s : ByteArray) (b : Bool) : Option (Int × Int) := (impl_ReadRfc822.clk k s b).bind fun c => y5 k day d m y c.1 c.2.1 c.2.2.1 c.2.2.2.1 c.2.2.2.2
def y3 (k : Nat) (day d m y : Int) (s : ByteArray) (b : Bool) : Option (Int × Int) := (impl_dateReader_need.f s b ⟨#[32]⟩).bind fun n3 => y4 k day d m y n3.1 n3.2
def y2 (k : Nat) (day d m : Int) (s : ByteArray) (b : Bool) : Option (Int × Int) := (impl_dateReader_digits.f k s b 4).bind fun y => y3 k day d m y.1 y.2.1 y.2.2
def y1 (k : Nat) (day d m : Int) (s : ByteArray) (b : Bool) : Option (Int × Int) := (impl_dateReader_need.f s b ⟨#[32]⟩).bind fun n2 => y2 k day d m n2.1 n2.2
theorem z2_eq (k : Nat) (day d : Int) (s : ByteArray) (b : Bool) : impl_ReadRfc822.z2 k day d s b = (impl_dateReader_need.f s b ⟨#[32]⟩).bind fun n1 => (impl_ReadRfc822.ix impl_ReadRfc822.mns 0 n1.1 n1.2).bind fun m => if m.1 ≤ 100 ∧ -1 ≤ m.1 then y1 k day d m.1 m.2.1 m.2.2 else none := rfl
theorem y5b (day d m y h i c : Int) (s : ByteArray) : Ev (fun k => y5 k day d m y h i c s true) (0, 3) := by
  obtain ⟨s', k1⟩ := nd_bad' s ⟨#[32]⟩
  exact Evx.bindc k1 (z3_bad _ _ _ _ _ _ _ _)
theorem y4b (day d m y : Int) (s : ByteArray) : Ev (fun k => y4 k day d m y s true) (0, 3) := by
  obtain ⟨a, b, c, s', k1⟩ := ck_bad' s
  exact Ev.bind k1 (y5b _ _ _ _ _ _ _ _)
theorem y3b (day d m y : Int) (s : ByteArray) : Ev (fun k => y3 k day d m y s true) (0, 3) := by
  obtain ⟨s', k1⟩ := nd_bad' s ⟨#[32]⟩
  exact Evx.bindc k1 (y4b _ _ _ _ _)
theorem y2b (day d m : Int) (s : ByteArray) : Ev (fun k => y2 k day d m s true) (0, 3) := by
  obtain ⟨v, s', k1⟩ := dg_bad' s (n := 4) (by omega)
  exact Ev.bind k1 (y3b _ _ _ _ _)
theorem y1b (day d m : Int) (s : ByteArray) : Ev (fun k => y1 k day d m s true) (0, 3) := by
  obtain ⟨s', k1⟩ := nd_bad' s ⟨#[32]⟩
  exact Evx.bindc k1 (y2b _ _ _ _)
theorem okc_m0 (y d h i c : Int) : okc y (-1 + 1) d h i c = false := decide_eq_false (fun e => by omega)
/-- Without a month. -/
theorem y1n (day d : Int) (s : ByteArray) (b : Bool) : Ev (fun k => y1 k day d (-1) s b) (0, 3) := by
  obtain ⟨s1, b1, k1⟩ := nd_all s ⟨#[32]⟩ b
  obtain ⟨v2, s2, b2, _, k2⟩ := dg_all s1 b1 (n := 4) (by omega)
  obtain ⟨s3, b3, k3⟩ := nd_all s2 ⟨#[32]⟩ b2
  obtain ⟨x, y, z, s4, b4, k4⟩ := ck_all s3 b3
  obtain ⟨s5, b5, k5⟩ := nd_all s4 ⟨#[32]⟩ b4
  exact Evx.bindc k1 (Ev.bind k2 (Evx.bindc k3 (Ev.bind k4 (Evx.bindc k5 (z3_nok (okc_m0 _ _ _ _ _) _ _)))))
theorem z2b (day d : Int) (s : ByteArray) : Ev (fun k => impl_ReadRfc822.z2 k day d s true) (0, 3) := by
  refine Ev.congr (fun k => z2_eq k day d s true) ?_
  obtain ⟨s1, k1⟩ := nd_bad' s ⟨#[32]⟩
  obtain ⟨s2, g2, k2⟩ := ix_eq impl_ReadRfc822.mns 0 s1 true (Int.le_refl _) (by decide)
  exact Evx.bindc k1 (Evx.bindc k2 (Evx.pos (by rw [mns_bs]; exact fi_mn _) (y1b _ _ _ _)))
theorem z2g (day d : Int) (s : ByteArray) : Ev (fun k => impl_ReadRfc822.z2 k day d s false) (z2ans day d (bs s)) := by
  refine Ev.congr (fun k => z2_eq k day d s false) ?_
  by_cases h1 : (bs s).take 1 = [32]
  rotate_left
  · obtain ⟨s1, k1⟩ := nd_bad (s := s) (t := ⟨#[32]⟩) h1
    obtain ⟨s2, g2, k2⟩ := ix_eq impl_ReadRfc822.mns 0 s1 true (Int.le_refl _) (by decide)
    rw [ans2_no (fun hp => h1 hp.1)]
    exact Evx.bindc k1 (Evx.bindc k2 (Evx.pos (by rw [mns_bs]; exact fi_mn _) (y1b _ _ _ _)))
  obtain ⟨s1, g1, k1⟩ := nd_good (s := s) (t := ⟨#[32]⟩) h1
  have g1' : bs s1 = (bs s).drop 1 := g1
  obtain ⟨s2, g2, k2⟩ := ix_eq impl_ReadRfc822.mns 0 s1 false (Int.le_refl _) (by decide)
  rw [mns_bs, g1'] at g2 k2
  refine Evx.bindc k1 (Evx.bindc k2 (Evx.pos (fi_mn _) ?_))
  by_cases h2 : 0 ≤ fi mnl 0 (((bs s).drop 1).take 3)
  rotate_left
  · have e : fi mnl 0 (((bs s).drop 1).take 3) = -1 := by have := fi_mn (((bs s).drop 1).take 3); omega
    rw [ans2_no (fun hp => h2 hp.2.1)]
    simp only [e]
    exact y1n day d s2 false
  rw [if_pos h2] at g2
  have g2' : bs s2 = (bs s).drop 4 := by rw [g2, List.drop_drop]
  by_cases h3 : ((bs s).drop 4).take 1 = [32]
  rotate_left
  · obtain ⟨s3, k3⟩ := nd_bad (s := s2) (t := ⟨#[32]⟩) (by rw [g2']; exact h3)
    rw [ans2_no (fun hp => h3 hp.2.2.1)]
    exact Evx.bindc k3 (y2b _ _ _ _)
  obtain ⟨s3, g3, k3⟩ := nd_good (s := s2) (t := ⟨#[32]⟩) (by rw [g2']; exact h3)
  have g3' : bs s3 = (bs s).drop 5 := by rw [g3, g2', List.drop_drop]; rfl
  by_cases h4 : 4 ≤ ((bs s).drop 5).length ∧ okd (((bs s).drop 5).take 4) = true
  rotate_left
  · obtain ⟨v, s4, k4⟩ := dg_bad (s := s3) (n := 4) (by omega) (by rw [g3']; exact h4)
    rw [ans2_no (fun hp => h4 hp.2.2.2.1)]
    exact Evx.bindc k3 (Ev.bind k4 (y3b _ _ _ _ _))
  obtain ⟨s4, g4, k4⟩ := dg_good (s := s3) (n := 4) (by omega) (by rw [g3']; exact h4)
  have g4' : bs s4 = (bs s).drop 9 := by rw [g4, g3', List.drop_drop]
  rw [g3'] at k4
  by_cases h5 : ((bs s).drop 9).take 1 = [32]
  rotate_left
  · obtain ⟨s5, k5⟩ := nd_bad (s := s4) (t := ⟨#[32]⟩) (by rw [g4']; exact h5)
    rw [ans2_no (fun hp => h5 hp.2.2.2.2.1)]
    exact Evx.bindc k3 (Ev.bind k4 (Evx.bindc k5 (y4b _ _ _ _ _)))
  obtain ⟨s5, g5, k5⟩ := nd_good (s := s4) (t := ⟨#[32]⟩) (by rw [g4']; exact h5)
  have g5' : bs s5 = (bs s).drop 10 := by rw [g5, g4', List.drop_drop]; rfl
  by_cases h6 : ckP ((bs s).drop 10)
  rotate_left
  · obtain ⟨x, y, z, s6, k6⟩ := ck_bad (s := s5) (by rw [g5']; exact h6)
    rw [ans2_no (fun hp => h6 hp.2.2.2.2.2.1)]
    exact Evx.bindc k3 (Ev.bind k4 (Evx.bindc k5 (Ev.bind k6 (y5b _ _ _ _ _ _ _ _))))
  obtain ⟨s6, g6, k6⟩ := ck_good (s := s5) (by rw [g5']; exact h6)
  have g6' : bs s6 = (bs s).drop 18 := by rw [g6, g5', List.drop_drop]
  rw [g5', List.drop_drop, List.drop_drop] at k6
  by_cases h7 : ((bs s).drop 18).take 1 = [32]
  rotate_left
  · obtain ⟨s7, k7⟩ := nd_bad (s := s6) (t := ⟨#[32]⟩) (by rw [g6']; exact h7)
    rw [ans2_no (fun hp => h7 hp.2.2.2.2.2.2)]
    exact Evx.bindc k3 (Ev.bind k4 (Evx.bindc k5 (Ev.bind k6 (Evx.bindc k7 (z3_bad _ _ _ _ _ _ _ _)))))
  obtain ⟨s7, g7, k7⟩ := nd_good (s := s6) (t := ⟨#[32]⟩) (by rw [g6']; exact h7)
  have g7' : bs s7 = (bs s).drop 19 := by rw [g7, g6', List.drop_drop]; rfl
  unfold z2ans
  rw [if_pos ⟨h1, h2, h3, h4, h5, h6, h7⟩]
  refine Evx.bindc k3 (Ev.bind k4 (Evx.bindc k5 (Ev.bind k6 (Evx.bindc k7 (Evx.eq (z3_good _ _ _ _ _ _ _ s7) ?_)))))
  rw [g7']
def z1ans (day : Int) (l : List Int) : Int × Int := if lead l = 1 then z2ans day (vl (l.take 1) 0) (l.drop 1) else if 2 ≤ l.length ∧ okd (l.take 2) = true then z2ans day (vl (l.take 2) 0) (l.drop 2) else (0, 3)
theorem lead_one {l : List Int} (h : lead l = 1) : 1 ≤ l.length ∧ okd (l.take 1) = true := by
  cases l with
  | nil => simp [lead] at h
  | cons a r =>
    refine ⟨by simp, ?_⟩
    unfold lead at h
    rw [List.takeWhile_cons] at h
    by_cases ha : digB a = true
    · simp [okd, ha]
    · rw [if_neg ha] at h
      simp at h
theorem z1g (day : Int) (s : ByteArray) (hs : s.size ≤ 1048576) : Ev (fun k => impl_ReadRfc822.z1 k day s false) (z1ans day (bs s)) := by
  unfold impl_ReadRfc822.z1 z1ans
  refine Ev.bind (here_eq s false hs) ?_
  by_cases h1 : lead (bs s) = 1
  · rw [if_pos h1]
    obtain ⟨s1, g1, k1⟩ := dg_good (s := s) (n := 1) (by omega) (lead_one h1)
    refine Evx.pos (by simp only; omega) (Ev.bind k1 (Evx.eq (z2g day _ s1) ?_))
    rw [g1]
  · rw [if_neg h1]
    refine Evx.neg (by simp only; omega) ?_
    by_cases h2 : 2 ≤ (bs s).length ∧ okd ((bs s).take 2) = true
    · rw [if_pos h2]
      obtain ⟨s1, g1, k1⟩ := dg_good (s := s) (n := 2) (by omega) h2
      refine Ev.bind k1 (Evx.eq (z2g day _ s1) ?_)
      rw [g1]
    · rw [if_neg h2]
      obtain ⟨v, s1, k1⟩ := dg_bad (s := s) (n := 2) (by omega) h2
      exact Ev.bind k1 (z2b day v s1)
theorem z1b (day : Int) (s : ByteArray) (hs : s.size ≤ 1048576) : Ev (fun k => impl_ReadRfc822.z1 k day s true) (0, 3) := by
  unfold impl_ReadRfc822.z1
  refine Ev.bind (here_eq s true hs) (Evx.ite (fun _ => ?_) (fun _ => ?_))
  · obtain ⟨v, s1, k1⟩ := dg_bad' s (n := 1) (by omega)
    exact Ev.bind k1 (z2b day v s1)
  · obtain ⟨v, s1, k1⟩ := dg_bad' s (n := 2) (by omega)
    exact Ev.bind k1 (z2b day v s1)
/-- What the program answers to a text that is not too long. -/
def ans8 (l : List Int) : Int × Int := if 0 ≤ fi wdl 0 (l.take 3) then (if (l.drop 3).take 2 = [44, 32] then z1ans (fi wdl 0 (l.take 3)) (l.drop 5) else (0, 3)) else z1ans (-1) l
theorem fi_wd (u : List Int) : fi wdl 0 u ≤ 7 ∧ -1 ≤ fi wdl 0 u := by
  rcases fi_ge wdl 0 u (Int.le_refl _) with h | h
  · omega
  · have : (wdl.length : Int) = 7 := rfl
    omega
theorem impl_read8 (s : ByteArray) (hs : s.size ≤ 1048576) : impl_ReadRfc822.f s = some (if (s.size : Int) > 65536 then (0, 2) else ans8 (bs s)) := by
  refine impl_ReadRfc822.f_of ?_
  unfold impl_ReadRfc822.fk
  refine Evx.ite (fun h => by rw [if_pos h]; exact Ev.now _) (fun h => ?_)
  rw [if_neg h]
  obtain ⟨s1, g1, k1⟩ := ix_eq impl_ReadRfc822.wds 0 s false (Int.le_refl _) (by decide)
  rw [wds_bs] at g1 k1
  refine Evx.bindc k1 ?_
  unfold ans8
  by_cases hd : 0 ≤ fi wdl 0 ((bs s).take 3)
  · rw [if_pos hd] at g1
    rw [if_pos hd]
    refine Evx.pos hd ?_
    have z1 := le_of_drop g1 hs
    by_cases h2 : ((bs s).drop 3).take 2 = [44, 32]
    · obtain ⟨s2, g2, k2⟩ := nd_good (s := s1) (t := ⟨#[44, 32]⟩) (by rw [g1]; exact h2)
      have g2' : bs s2 = (bs s).drop 5 := by rw [g2, g1, List.drop_drop]; rfl
      rw [if_pos h2]
      refine Evx.bindc k2 (Evx.eq (z1g _ s2 (le_of_drop g2' hs)) ?_)
      rw [g2']
    · obtain ⟨s2, k2⟩ := nd_bad (s := s1) (t := ⟨#[44, 32]⟩) (by rw [g1]; exact h2)
      have := nd_size k2
      rw [if_neg h2]
      exact Evx.bindc k2 (z1b _ s2 (by omega))
  · rw [if_neg hd] at g1
    rw [if_neg hd]
    have e : fi wdl 0 ((bs s).take 3) = -1 := by have := fi_wd ((bs s).take 3); omega
    refine Evx.neg hd ?_
    simp only [e]
    refine Evx.eq (z1g (-1) s1 (by rw [← bs_length, g1, bs_length]; exact hs)) ?_
    rw [g1]
/-- A date told by its words. -/
structure Form (l ds mn ys r : List Int) (c1 c2 c4 c5 c7 c8 : Int) : Prop where
  eq : l = ds ++ 32 :: (mn ++ 32 :: (ys ++ 32 :: ([c1, c2, 58, c4, c5, 58, c7, c8] ++ 32 :: r)))
  d1 : ds.length = 1 ∨ ds.length = 2
  d2 : okd ds = true
  m1 : 0 ≤ fi mnl 0 mn
  m2 : mn.length = 3
  y1 : ys.length = 4
  y2 : okd ys = true
  c : digB c1 = true ∧ digB c2 = true ∧ digB c4 = true ∧ digB c5 = true ∧ digB c7 = true ∧ digB c8 = true
theorem Form.ans {l ds mn ys r : List Int} {c1 c2 c4 c5 c7 c8 : Int} (f : Form l ds mn ys r c1 c2 c4 c5 c7 c8) (day : Int) : z1ans day l = val8 day (vl ys 0) (fi mnl 0 mn + 1) (vl ds 0) (vl [c1, c2] 0) (vl [c4, c5] 0) (vl [c7, c8] 0) r := by
  obtain ⟨k1, k2, k3, k4, k5, k6⟩ := f.c
  have h3 := f.m2
  have h4 := f.y1
  obtain ⟨m1, m2, m3, rfl⟩ : ∃ m1 m2 m3, mn = [m1, m2, m3] := by
    match mn, h3 with
    | [m1, m2, m3], _ => exact ⟨m1, m2, m3, rfl⟩
  obtain ⟨y1, y2, y3, y4, rfl⟩ : ∃ y1 y2 y3 y4, ys = [y1, y2, y3, y4] := by
    match ys, h4 with
    | [y1, y2, y3, y4], _ => exact ⟨y1, y2, y3, y4, rfl⟩
  have hy := f.y2
  have g2 : ∀ d, z2ans day d (32 :: m1 :: m2 :: m3 :: 32 :: y1 :: y2 :: y3 :: y4 :: 32 :: c1 :: c2 :: 58 :: c4 :: c5 :: 58 :: c7 :: c8 :: 32 :: r) = val8 day (vl [y1, y2, y3, y4] 0) (fi mnl 0 [m1, m2, m3] + 1) d (vl [c1, c2] 0) (vl [c4, c5] 0) (vl [c7, c8] 0) r := by
    intro d
    unfold z2ans
    rw [if_pos ⟨rfl, f.m1, rfl, ⟨by simp, hy⟩, rfl, ⟨⟨by simp, by simp [okd, k1, k2]⟩, rfl, ⟨by simp, by simp [okd, k3, k4]⟩, rfl, ⟨by simp, by simp [okd, k5, k6]⟩⟩, rfl⟩]
    rfl
  unfold z1ans
  rcases f.d1 with hd | hd
  · obtain ⟨a, rfl⟩ : ∃ a, ds = [a] := by
      match ds, hd with
      | [a], _ => exact ⟨a, rfl⟩
    have ha : digB a = true := by have := f.d2; simpa [okd] using this
    rw [f.eq]
    have hl : lead ([a] ++ 32 :: ([m1, m2, m3] ++ 32 :: ([y1, y2, y3, y4] ++ 32 :: ([c1, c2, 58, c4, c5, 58, c7, c8] ++ 32 :: r)))) = 1 := by
      unfold lead
      rw [List.cons_append, List.takeWhile_cons, if_pos ha, List.nil_append, List.takeWhile_cons, if_neg (by decide)]
      rfl
    rw [if_pos hl]
    exact g2 _
  · obtain ⟨a, b, rfl⟩ : ∃ a b, ds = [a, b] := by
      match ds, hd with
      | [a, b], _ => exact ⟨a, b, rfl⟩
    have hab : digB a = true ∧ digB b = true := by have := f.d2; simpa [okd] using this
    rw [f.eq]
    have hl : ¬ lead ([a, b] ++ 32 :: ([m1, m2, m3] ++ 32 :: ([y1, y2, y3, y4] ++ 32 :: ([c1, c2, 58, c4, c5, 58, c7, c8] ++ 32 :: r)))) = 1 := by
      unfold lead
      rw [List.cons_append, List.takeWhile_cons, if_pos hab.1, List.cons_append, List.takeWhile_cons, if_pos hab.2]
      simp
    rw [if_neg hl, if_pos ⟨by simp, by simp [okd, hab.1, hab.2]⟩]
    exact g2 _
theorem dgt {x : Int} (h : 0 ≤ x ∧ x ≤ 9) : digB (48 + x) = true := decide_eq_true (by omega)
theorem vl2 {a b : Int} (ha : 0 ≤ a ∧ a ≤ 9) (hb : 0 ≤ b ∧ b ≤ 9) : vl [48 + a, 48 + b] 0 = 10 * a + b := by
  simp only [vl]
  omega
theorem vl4 {a b c d : Int} (ha : 0 ≤ a ∧ a ≤ 9) (hb : 0 ≤ b ∧ b ≤ 9) (hc : 0 ≤ c ∧ c ≤ 9) (hd : 0 ≤ d ∧ d ≤ 9) : vl [48 + a, 48 + b, 48 + c, 48 + d] 0 = 1000 * a + 100 * b + 10 * c + d := by
  simp only [vl]
  omega
theorem tw_vl {n : Int} (h : 0 ≤ n ∧ n ≤ 99) : vl [48 + n / 10, 48 + n % 10] 0 = n := by
  rw [vl2 (by omega) (by omega)]
  omega
theorem yr_vl {n : Int} (h : 1000 ≤ n ∧ n ≤ 9999) : vl [48 + n / 1000, 48 + n / 100 % 10, 48 + n / 10 % 10, 48 + n % 10] 0 = n := by
  rw [vl4 (by omega) (by omega) (by omega) (by omega)]
  omega
/-- A date's text up to its seconds is read. -/
theorem ans_of {y m d h i c : Int} (hy : 1000 ≤ y ∧ y ≤ 9999) (hm : 0 ≤ m ∧ m ≤ 99) (hd : 0 ≤ d ∧ d ≤ 99) (hh : 0 ≤ h ∧ h ≤ 99) (hi : 0 ≤ i ∧ i ≤ 99) (hc : 0 ≤ c ∧ c ≤ 99) (r : List Int) :
    ans ((48 + y / 1000) :: (48 + y / 100 % 10) :: (48 + y / 10 % 10) :: (48 + y % 10) :: 45 :: (48 + m / 10) :: (48 + m % 10) :: 45 :: (48 + d / 10) :: (48 + d % 10) :: 84 :: (48 + h / 10) :: (48 + h % 10) :: 58 :: (48 + i / 10) :: (48 + i % 10) :: 58 :: (48 + c / 10) :: (48 + c % 10) :: r) = p7ans y m d h i c r := by
  have two : ∀ {n : Int}, 0 ≤ n ∧ n ≤ 99 → okd [48 + n / 10, 48 + n % 10] = true := fun h => by
    unfold okd
    rw [List.all_cons, List.all_cons, dgt (by omega), dgt (by omega)]
    rfl
  have four : okd [48 + y / 1000, 48 + y / 100 % 10, 48 + y / 10 % 10, 48 + y % 10] = true := by
    unfold okd
    rw [List.all_cons, List.all_cons, List.all_cons, List.all_cons, dgt (by omega), dgt (by omega), dgt (by omega), dgt (by omega)]
    rfl
  unfold ans
  rw [if_pos ⟨⟨by simp, four⟩, rfl, ⟨by simp, two hm⟩, rfl, ⟨by simp, two hd⟩, rfl, ⟨⟨by simp, two hh⟩, rfl, ⟨by simp, two hi⟩, rfl, ⟨by simp, two hc⟩⟩⟩]
  show p7ans (vl [48 + y / 1000, 48 + y / 100 % 10, 48 + y / 10 % 10, 48 + y % 10] 0) (vl [48 + m / 10, 48 + m % 10] 0) (vl [48 + d / 10, 48 + d % 10] 0) (vl [48 + h / 10, 48 + h % 10] 0) (vl [48 + i / 10, 48 + i % 10] 0) (vl [48 + c / 10, 48 + c % 10] 0) r = _
  rw [yr_vl hy, tw_vl hm, tw_vl hd, tw_vl hh, tw_vl hi, tw_vl hc]
theorem p7_Z (y m d h i c : Int) : p7ans y m d h i c [90] = en y m d h i c 0 := by
  rw [p7ans, if_neg (by decide)]
  unfold tlans
  rw [if_pos rfl]
theorem p7_ahead (y m d h i c : Int) {z : Int} (hz : 0 ≤ z ∧ z ≤ 23) : p7ans y m d h i c [43, 48 + z / 10, 48 + z % 10, 58, 48, 48] = en y m d h i c (z * 3600) := by
  rw [p7ans, if_neg (by decide)]
  unfold tlans
  rw [if_neg (by simp)]
  have e : zp [43, 48 + z / 10, 48 + z % 10, 58, 48, 48] [58] = some (z * 3600, []) := by
    unfold zp
    simp only [List.length_singleton, List.drop_succ_cons, List.drop_zero]
    rw [if_pos ⟨Or.inl (by first | trivial | rfl), dgt (by omega), dgt (by omega), by first | trivial | rfl, by decide, by decide, by rw [tw_vl (by omega)]; omega, by decide⟩, tw_vl (by omega), if_neg (by first | decide | simp)]
    have : vl [48, 48] 0 = 0 := by decide
    rw [this]
    simp
  rw [e]
theorem en_ok {y m d h i c q n : Int} (hk : okc y m d h i c = true) (hs : stv y m d h i c = n + q) (hn : 0 ≤ n ∧ n ≤ 4102444799) : en y m d h i c q = (n, 0) := by
  unfold en
  rw [if_pos hk, hs, show n + q - q = n by omega, if_pos hn]

end Go.Proofs.YtccnidlkpinpgaaDoor.RQFnDateTexts
