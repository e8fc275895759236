/- A right mail: the reference's pass and the program's test say the same. Conditions: texts of at most 1048576 bytes. -/
import Derived.Test.YteknchhlineciaaDoorQFnExactMailOKx
import Derived.Test.YteknchhlineciaaDoorBsx
import Derived.Test.YteknchhlineciaaDoorSpl
namespace Go.Proofs.YteknchhlineciaaDoor.MQFnExactMailOK
open Go.RowKit Go.Proofs.YteknchhlineciaaDoor.QFnExactMailOK Go.Proofs.YteknchhlineciaaDoorW.PrintWords Go.Proofs.YteknchhlineciaaDoorW.PrintLast Go.Proofs.YteknchhlineciaaDoorW.PrintMore
open Go.Proofs.YteknchhlineciaaDoor.Evx Go.Proofs.YteknchhlineciaaDoor.Bsx Go.Proofs.YteknchhlineciaaDoor.Spl
set_option linter.unusedSimpArgs false
set_option linter.unusedVariables false
/-- All numbers lie between two. -/
def within (lo hi : Int) (l : List Int) : Prop := ∀ c ∈ l, lo ≤ c ∧ c ≤ hi
instance (lo hi : Int) (l : List Int) : Decidable (within lo hi l) := by unfold within; infer_instance
theorem within_cons {lo hi c : Int} {l : List Int} : within lo hi (c :: l) ↔ (lo ≤ c ∧ c ≤ hi) ∧ within lo hi l := by simp [within]
theorem all_loop (s : ByteArray) (hs : s.size ≤ 1048576) (lo hi : Int) : ∀ (n : Nat) (l : List Int) (p : Nat), l.length ≤ n → (bs s).drop p = l → Ev (fun k => impl_allWithin.l0 k s lo hi (s.size : Int) (p : Int)) (decide (within lo hi l))
  | _, [], p, _, h => by
    have := drop_nil h
    refine Ev.step (fun k => by rw [impl_allWithin.l0]) ?_
    exact Evx.neg (by omega) (Evx.eq (Ev.now _) (decide_eq_true (by simp [within])).symm)
  | 0, _ :: _, _, h, _ => by simp at h
  | n + 1, c :: r, p, hn, h => by
    obtain ⟨g1, g2, g3, g4, g5⟩ := drop_cons h
    refine Ev.step (fun k => by rw [impl_allWithin.l0]) ?_
    rw [g1, Evx.w64 (by omega) (by omega)]
    refine Evx.pos (by omega) (Evx.pos (by omega) (Evx.pos (by omega) ?_))
    refine Evx.ite (fun a => Evx.eq (Ev.now _) (decide_eq_false (fun e => by have := (within_cons.1 e).1; omega)).symm) (fun a => ?_)
    refine Evx.ite (fun b => Evx.eq (Ev.now _) (decide_eq_false (fun e => by have := (within_cons.1 e).1; omega)).symm) (fun b => ?_)
    refine Evx.eq (all_loop s hs lo hi n r (p + 1) (by simpa using hn) g2) (decide_eq_decide.2 ?_)
    rw [within_cons]
    exact ⟨fun e => ⟨by omega, e⟩, fun e => e.2⟩
theorem all_within (s : ByteArray) (hs : s.size ≤ 1048576) (lo hi : Int) : Ev (fun k => impl_allWithin.f k s lo hi) (decide (within lo hi (bs s))) := by
  unfold impl_allWithin.f
  exact all_loop s hs lo hi s.size (bs s) 0 (by rw [bs_length]; omega) (by rw [List.drop_zero])
/-- The signs of a line. -/
def sig (c : Int) : Prop := (1 ≤ c ∧ c ≤ 127) ∧ c ≠ 13 ∧ c ≠ 10
instance (c : Int) : Decidable (sig c) := by unfold sig; infer_instance
/-- A right line. -/
def okl (p : List Int) : Prop := p.length ≤ 998 ∧ ∀ c ∈ p, sig c
instance (p : List Int) : Decidable (okl p) := by unfold okl; infer_instance
/-- The text ends its last line. -/
def ended (l : List Int) : Prop := l = [] ∨ ∃ V, l = V ++ [13, 10]
/-- The last piece is empty. -/
def lastNo (ps : List (List Int)) : Prop := ps.getLast? = some []
theorem sp2_single : ∀ {r : List Int}, sp2 r = [[]] → r = []
  | [], _ => rfl
  | c :: r, h => by
    by_cases hc : c = 13 ∧ 1 ≤ r.length ∧ r.getD 0 0 = 10
    · obtain ⟨r', rfl⟩ : ∃ r', r = 10 :: r' := by
        cases r with
        | nil => simp at hc
        | cons d r' => exact ⟨r', by rw [show d = 10 by simpa using hc.2.2]⟩
      rw [hc.1, sp2_end] at h
      have := sp2_ne r'
      simp at h
      exact absurd h this
    · rw [sp2_one hc] at h
      simp [putOn] at h
theorem ended_end {r : List Int} : ended (13 :: 10 :: r) ↔ ended r := by
  unfold ended
  constructor
  · rintro (h | ⟨V, h⟩)
    · cases h
    · rcases V with _ | ⟨x, _ | ⟨y, V⟩⟩
      · left; simpa using h
      · simp only [List.cons_append, List.nil_append, List.cons.injEq] at h
        omega
      · right; exact ⟨V, by simpa using (List.cons.inj (List.cons.inj h).2).2⟩
  · rintro (rfl | ⟨V, rfl⟩)
    · right; exact ⟨[], rfl⟩
    · right; exact ⟨13 :: 10 :: V, by simp⟩
theorem ended_one {c : Int} {r : List Int} (h : ¬ (c = 13 ∧ 1 ≤ r.length ∧ r.getD 0 0 = 10)) (hr : r ≠ []) : ended (c :: r) ↔ ended r := by
  unfold ended
  constructor
  · rintro (e | ⟨V, e⟩)
    · cases e
    · cases V with
      | nil =>
        exfalso; apply h
        simp only [List.nil_append, List.cons.injEq] at e
        obtain ⟨e1, e2⟩ := e
        subst e2
        exact ⟨e1, by simp, rfl⟩
      | cons x V => right; exact ⟨V, by simpa using (List.cons.inj e).2⟩
  · rintro (e | ⟨V, e⟩)
    · exact absurd e hr
    · right; exact ⟨c :: V, by rw [e]; rfl⟩
theorem last_ended : ∀ (n : Nat) (l : List Int), l.length ≤ n → (lastNo (sp2 l) ↔ ended l)
  | _, [], _ => by simp [lastNo, sp2, ended]
  | 0, _ :: _, h => by simp at h
  | n + 1, c :: r, hn => by
    have hrn : r.length ≤ n := by simpa using hn
    by_cases hc : c = 13 ∧ 1 ≤ r.length ∧ r.getD 0 0 = 10
    · obtain ⟨r', rfl⟩ : ∃ r', r = 10 :: r' := by
        cases r with
        | nil => simp at hc
        | cons d r' => exact ⟨r', by rw [show d = 10 by simpa using hc.2.2]⟩
      rw [hc.1, sp2_end, ended_end, ← last_ended n r' (by simp only [List.length_cons] at hrn; omega)]
      unfold lastNo
      cases h : sp2 r' with
      | nil => exact absurd h (sp2_ne r')
      | cons q qs => rw [List.getLast?_cons_cons]
    · rw [sp2_one hc]
      by_cases hr : r = []
      · subst hr
        constructor
        · intro h; simp [lastNo, sp2, putOn] at h
        · rintro (e | ⟨V, e⟩)
          · cases e
          · have := congrArg List.length e
            simp at this
      · rw [ended_one hc hr, ← last_ended n r hrn]
        unfold lastNo
        cases h : sp2 r with
        | nil => exact absurd h (sp2_ne r)
        | cons q qs =>
          cases qs with
          | nil =>
            constructor
            · intro e; simp [putOn] at e
            · intro e
              have : q = [] := by simpa using e
              rw [this] at h
              exact absurd (sp2_single h) hr
          | cons q2 qs =>
            simp only [putOn, List.headD_cons, List.tail_cons, List.getLast?_cons_cons]
/-- Right mails. -/
def mail (l : List Int) : Prop := l.length ≤ 65536 ∧ ended l ∧ ∀ p ∈ sp2 l, okl p
/-- The pass from a line that has so many signs already. -/
def good (w : Int) : List (List Int) → Prop
  | [] => False
  | p :: ps => (w + (p.length : Int) ≤ 998 ∧ (∀ c ∈ p, sig c)) ∧ (∀ q ∈ ps, okl q) ∧ (if ps = [] then w + (p.length : Int) = 0 else lastNo ps)
theorem good_putOn {w c : Int} {ps : List (List Int)} (h : ps ≠ []) (hw : 0 ≤ w) (hc : sig c) : good w (putOn c ps) ↔ good (w + 1) ps := by
  cases ps with
  | nil => exact absurd rfl h
  | cons p ps =>
    simp only [good, putOn, List.headD_cons, List.tail_cons, List.length_cons, List.forall_mem_cons]
    have e : (w + ((p.length + 1 : Nat) : Int)) = w + 1 + (p.length : Int) := by omega
    rw [e]
    exact ⟨fun ⟨⟨a, b⟩, d⟩ => ⟨⟨a, b.2⟩, d⟩, fun ⟨⟨a, b⟩, d⟩ => ⟨⟨a, hc, b⟩, d⟩⟩
theorem good_zero {ps : List (List Int)} (h : ps ≠ []) : good 0 ps ↔ (∀ p ∈ ps, okl p) ∧ lastNo ps := by
  cases ps with
  | nil => exact absurd rfl h
  | cons p ps =>
    have hl : (if ps = [] then (0 : Int) + (p.length : Int) = 0 else lastNo ps) ↔ lastNo (p :: ps) := by
      cases ps with
      | nil =>
        rw [if_pos rfl]
        unfold lastNo
        cases p with
        | nil => simp
        | cons x p => simp; omega
      | cons q qs =>
        rw [if_neg (by simp)]
        unfold lastNo
        rw [List.getLast?_cons_cons]
    simp only [good, List.forall_mem_cons, hl, okl]
    constructor
    · rintro ⟨⟨a, b⟩, d, e⟩; exact ⟨⟨⟨by omega, b⟩, d⟩, e⟩
    · rintro ⟨⟨⟨a, b⟩, d⟩, e⟩; exact ⟨⟨by omega, b⟩, d, e⟩
theorem wn1 (p : Nat) (h : p ≤ 4000000) : wrap64 ((p : Int) + 1) = ((p + 1 : Nat) : Int) := by unfold wrap64; omega
set_option maxHeartbeats 800000 in
theorem spec_loop (s : ByteArray) (hs : s.size ≤ 1048576) (n : Nat) : ∀ (l : List Int) (p : Nat) (w : Int) (b : Bool), l.length ≤ n → (bs s).drop p = l → 0 ≤ w → w ≤ 998 → (b = true ↔ good w (sp2 l)) → Ev (fun k => spec_MailOK.l0 k s w (p : Int)) b := by
  have fin : ∀ (p : Nat) (w : Int) (b : Bool), (bs s).drop p = [] → 0 ≤ w → w ≤ 998 → (b = true ↔ good w (sp2 [])) → Ev (fun k => spec_MailOK.l0 k s w (p : Int)) b := by
    intro p w b h h0 h1 hb
    have := drop_nil h
    refine Ev.step (fun k => by rw [spec_MailOK.l0]) ?_
    refine Evx.neg (by omega) (Evx.eq (Ev.now _) ?_)
    have e : good w (sp2 []) ↔ w = 0 := by
      simp only [sp2, good, List.length_nil]
      constructor
      · intro q; have := q.2.2; simp at this; omega
      · intro q; subst q; refine ⟨⟨by simp, fun c hc => by cases hc⟩, (fun q hq => by cases hq), by simp⟩
    rw [e] at hb
    rw [Bool.eq_iff_iff, hb, beq_iff_eq]
  induction n with
  | zero =>
    intro l p w b hn h h0 h1 hb
    obtain rfl : l = [] := List.eq_nil_of_length_eq_zero (by omega)
    exact fin p w b h h0 h1 hb
  | succ n ih =>
    intro l p w b hn h h0 h1 hb
    cases l with
    | nil => exact fin p w b h h0 h1 hb
    | cons c r =>
      obtain ⟨g1, g2, g3, g4, g5⟩ := drop_cons h
      have hrl : r.length + p + 1 = s.size := by
        have := congrArg List.length h
        rw [drop_len, List.length_cons] at this
        omega
      have hb1 : bt s ((p + 1 : Nat) : Int) = r.getD 0 0 := by
        rw [bt_getD s _ (p + 1) 0 (by omega), g2]
      have one : ¬ (c = 13 ∧ 1 ≤ r.length ∧ r.getD 0 0 = 10) → Ev (fun k => spec_MailOK.j1 k s w (p : Int) c false) b := by
        intro hc
        rw [sp2_one hc] at hb
        have no : ¬ sig c ∨ 998 < w + 1 → Ev (fun _ => some false) b := by
          intro hq
          cases b with
          | false => exact Ev.now _
          | true =>
            exfalso
            have := hb.1 rfl
            revert this
            cases h : sp2 r with
            | nil => exact fun _ => sp2_ne r h
            | cons q qs =>
              simp only [putOn, good, List.headD_cons, List.tail_cons, List.length_cons, List.forall_mem_cons]
              rintro ⟨⟨x, y, _⟩, _⟩
              rcases hq with hq | hq
              · exact hq y
              · omega
        refine Ev.step (fun k => by rw [spec_MailOK.j1]) ?_
        rw [wn1 p (by omega), Evx.w64 (i := w + 1) (by omega) (by omega)]
        refine Evx.neg (by simp) ?_
        refine Evx.ite (fun a => no (Or.inl (fun q => q.2.1 a))) (fun a => ?_)
        refine Evx.ite (fun a => no (Or.inl (fun q => q.2.2 a))) (fun a2 => ?_)
        refine Evx.ite (fun a => no (Or.inl (fun q => by have := q.1; omega))) (fun a3 => ?_)
        refine Evx.ite (fun a => no (Or.inl (fun q => by have := q.1; omega))) (fun a4 => ?_)
        refine Evx.ite (fun a => no (Or.inr (by omega))) (fun a5 => ?_)
        rw [good_putOn (sp2_ne r) h0 ⟨by omega, a, a2⟩] at hb
        exact ih r (p + 1) (w + 1) b (by simpa using hn) g2 (by omega) (by omega) hb
      refine Ev.step (fun k => by rw [spec_MailOK.l0]) ?_
      rw [g1, wn1 p (by omega), hb1]
      refine Evx.pos (by omega) (Evx.pos (by omega) ?_)
      refine Evx.ite (fun hc => ?_) (fun hc => one (fun e => hc e.1))
      refine Evx.ite (fun hp => ?_) (fun hp => one (fun e => by omega))
      refine Evx.pos (by omega) ?_
      by_cases hd : r.getD 0 0 = 10
      · obtain ⟨r', rfl⟩ : ∃ r', r = 10 :: r' := by
          cases r with
          | nil => simp at hd
          | cons x r' => exact ⟨r', by rw [show x = 10 by simpa using hd]⟩
        rw [show ((10 :: r' : List Int).getD 0 0 == 10) = true from rfl]
        refine Ev.step (fun k => by rw [spec_MailOK.j1]) ?_
        rw [wn1 p (by omega), wn1 (p + 1) (by omega)]
        refine Evx.pos rfl ?_
        have h3 : (bs s).drop (p + 1 + 1) = r' := by rw [← List.tail_drop, g2]; rfl
        refine ih r' (p + 1 + 1) 0 b (by simp only [List.length_cons] at hn; omega) h3 (by omega) (by omega) ?_
        rw [hb, hc, sp2_end, good_zero (sp2_ne r')]
        simp only [good, List.length_nil]
        rw [if_neg (sp2_ne r')]
        constructor
        · rintro ⟨_, x, y⟩; exact ⟨x, y⟩
        · rintro ⟨x, y⟩; exact ⟨⟨by omega, fun c hc => by cases hc⟩, x, y⟩
      · rw [show (r.getD 0 0 == 10) = false by simpa using hd]
        exact one (fun e => hd e.2.2)
theorem mail_dec (l : List Int) : ∃ b : Bool, b = true ↔ mail l := by
  rcases Classical.em (mail l) with h | h
  · exact ⟨true, by simp [h]⟩
  · exact ⟨false, by simp [h]⟩
theorem spec_mail (s : ByteArray) (hs : s.size ≤ 1048576) (b : Bool) (hb : b = true ↔ mail (bs s)) : Ev (fun k => spec_MailOK.f k s) b := by
  have hbl := bs_length s
  unfold spec_MailOK.f
  refine Evx.ite (fun h => ?_) (fun h => ?_)
  · cases b with
    | false => exact Ev.now _
    | true => have := (hb.1 rfl).1; omega
  refine spec_loop s hs s.size (bs s) 0 0 b (by rw [bs_length]; omega) (by rw [List.drop_zero]) (by omega) (by omega) ?_
  rw [hb, good_zero (sp2_ne _), last_ended _ _ (Nat.le_refl _)]
  exact ⟨fun e => ⟨e.2.2, e.2.1⟩, fun e => ⟨by omega, e.2, e.1⟩⟩
theorem any_crlf : ∀ (l : List UInt8), Lib.containsAny l [13, 10] = decide ((13 : UInt8) ∈ l ∨ (10 : UInt8) ∈ l) := by
  have key : ∀ l : List UInt8, 0 ≤ Lib.indexAny l [13, 10] ↔ ((13 : UInt8) ∈ l ∨ (10 : UInt8) ∈ l) := by
    intro l
    induction l with
    | nil => simp [Lib.indexAny]
    | cons x l ih =>
      have hg := Lib.indexAny_ge [13, 10] l
      rw [Lib.indexAny]
      by_cases hx : x = 13 ∨ x = 10
      · rcases hx with rfl | rfl <;> simp
      · have h1 : x ≠ 13 := fun e => hx (Or.inl e)
        have h2 : x ≠ 10 := fun e => hx (Or.inr e)
        have h3 : ¬ (13 : UInt8) = x := fun e => h1 e.symm
        have h4 : ¬ (10 : UInt8) = x := fun e => h2 e.symm
        simp only [List.mem_cons, h3, h4, false_or, ← ih]
        simp [h1, h2]
        split <;> omega
  intro l
  unfold Lib.containsAny
  exact decide_eq_decide.2 (key l)
theorem line_loop (ps : List ByteArray) (hl : ps.length ≤ 2000000) (hz : ∀ p ∈ ps, p.size ≤ 1048576) : ∀ (d i : Nat), i + d = ps.length → Ev (fun k => impl_MailOK.l0 k ps (ps.length : Int) (i : Int)) (decide (∀ p ∈ (ps.drop i).map bs, okl p))
  | 0, i, h => by
    refine Ev.step (fun k => by rw [impl_MailOK.l0]) ?_
    refine Evx.neg (by omega) (Evx.eq (Ev.now _) (decide_eq_true ?_).symm)
    rw [List.drop_eq_nil_of_le (by omega)]
    intro p hp
    cases hp
  | d + 1, i, h => by
    have hi : i < ps.length := by omega
    have e : rdOf ByteArray.empty ps (i : Int) = ps[i] := by
      unfold rdOf
      rw [Int.toNat_natCast, List.getD_eq_getElem?_getD, List.getElem?_eq_getElem hi]
      rfl
    have hzi := hz ps[i] (List.getElem_mem hi)
    refine Ev.step (fun k => by rw [impl_MailOK.l0]) ?_
    refine Evx.pos (by omega) (Evx.pos (by omega) (Evx.pos (by omega) ?_))
    rw [Evx.w64 (by omega) (by omega), e, List.drop_eq_getElem_cons hi, List.map_cons]
    refine Evx.ite (fun a => Evx.eq (Ev.now _) (decide_eq_false (fun x => ?_)).symm) (fun a => ?_)
    · have := (x _ List.mem_cons_self).1
      rw [bs_length] at this
      omega
    refine Ev.bind (all_within ps[i] hzi 1 127) ?_
    refine Evx.ite (fun w => ?_) (fun w => Evx.eq (Ev.now _) (decide_eq_false (fun x => w (decide_eq_true (fun c hc => ((x _ List.mem_cons_self).2 c hc).1)))).symm)
    rw [decide_eq_true_eq] at w
    have c1 : strings_ContainsAny.f ps[i] (⟨#[13, 10]⟩ : ByteArray) = some (decide ((13 : Int) ∈ bs ps[i] ∨ (10 : Int) ∈ bs ps[i])) := by
      unfold strings_ContainsAny.f
      rw [if_pos ⟨⟨by omega, by decide⟩, fun b hb => by have := (w _ (List.mem_map.2 ⟨b, hb, rfl⟩)).2; omega, by decide⟩]
      refine congrArg some ((any_crlf _).trans (decide_eq_decide.2 ?_))
      rw [mem_bs, mem_bs]
      rfl
    refine Evx.bindc c1 ?_
    refine Evx.ite (fun q => Evx.eq (Ev.now _) (decide_eq_false (fun x => ?_)).symm) (fun q => ?_)
    · rw [decide_eq_true_eq] at q
      rcases q with q | q
      · exact ((x _ List.mem_cons_self).2 _ q).2.1 rfl
      · exact ((x _ List.mem_cons_self).2 _ q).2.2 rfl
    rw [decide_eq_true_eq] at q
    refine Evx.eq (line_loop ps hl hz d (i + 1) (by omega)) (decide_eq_decide.2 ?_)
    constructor
    · intro x p hp
      rcases List.mem_cons.1 hp with rfl | hp
      · exact ⟨by rw [bs_length]; omega, fun c hc => ⟨w c hc, fun e => q (Or.inl (e ▸ hc)), fun e => q (Or.inr (e ▸ hc))⟩⟩
      · exact x p hp
    · intro x p hp
      exact x p (List.mem_cons_of_mem _ hp)
theorem suffix (s : ByteArray) (hs : s.size ≤ 1048576) (b : Bool) (hb : b = true ↔ ∃ V, bs s = V ++ [13, 10]) : strings_HasSuffix.f s (⟨#[13, 10]⟩ : ByteArray) = some b := by
  have hbl := bs_length s
  unfold strings_HasSuffix.f stringslite_HasSuffix.f
  by_cases h : (s.size : Int) ≥ (((⟨#[13, 10]⟩ : ByteArray).size : Nat) : Int)
  · have h2 : 2 ≤ s.size := by
      have : (s.size : Int) ≥ ((2 : Nat) : Int) := h
      omega
    have e : wrap64 ((s.size : Int) - (((⟨#[13, 10]⟩ : ByteArray).size : Nat) : Int)) = ((s.size - 2 : Nat) : Int) := by
      show wrap64 ((s.size : Int) - ((2 : Nat) : Int)) = _
      rw [Evx.w64 (by omega) (by omega)]; omega
    rw [if_pos h, e, if_pos (by omega), if_pos (by omega), toList_beq, Int.toNat_natCast, bs_drop s _ _ (Nat.le_refl _)]
    simp only [Option.bind_some]
    refine congrArg some ?_
    rw [Bool.eq_iff_iff, hb, decide_eq_true_eq]
    constructor
    · intro q
      exact ⟨(bs s).take (s.size - 2), by
        have : (bs s).drop (s.size - 2) = [13, 10] := q
        rw [← this, List.take_append_drop]⟩
    · rintro ⟨V, hV⟩
      have hl := congrArg List.length hV
      rw [bs_length, List.length_append] at hl
      have : s.size - 2 = V.length := by simp at hl; omega
      rw [this, hV, List.drop_left]
      rfl
  · rw [if_neg h]
    simp only [Option.bind_some]
    refine congrArg some ?_
    cases b with
    | false => rfl
    | true =>
      obtain ⟨V, hV⟩ := hb.1 rfl
      have hl := congrArg List.length hV
      rw [bs_length, List.length_append] at hl
      exfalso; apply h
      show (s.size : Int) ≥ ((2 : Nat) : Int)
      simp at hl
      omega
theorem impl_mail (s : ByteArray) (hs : s.size ≤ 1048576) (b : Bool) (hb : b = true ↔ mail (bs s)) : Ev (fun k => impl_MailOK.f k s) b := by
  have hbl := bs_length s
  have no : ¬ mail (bs s) → Ev (fun k => impl_MailOK.j0 k s true) b := by
    intro h
    refine Ev.step (fun k => by rw [impl_MailOK.j0]) ?_
    refine Evx.pos rfl ?_
    cases b with
    | false => exact Ev.now _
    | true => exact absurd (hb.1 rfl) h
  have yes : s.size ≤ 65536 → ended (bs s) → Ev (fun k => impl_MailOK.j0 k s false) b := by
    intro h0 h1
    refine Ev.step (fun k => by rw [impl_MailOK.j0]) ?_
    refine Evx.neg (by simp) ?_
    have hle := Go.Lib.countB_le ⟨#[13, 10]⟩ (by decide) s.size s (Nat.le_refl _)
    have hl := Go.Lib.splitB_all ⟨#[13, 10]⟩ (by decide) 0 _ s rfl
    have e : strings_Split.f s (⟨#[13, 10]⟩ : ByteArray) = some (Go.Lib.splitB ⟨#[13, 10]⟩ 0 (Go.Lib.countB s ⟨#[13, 10]⟩) s) := by
      unfold strings_Split.f
      rw [if_pos ⟨by omega, by decide⟩]
    refine Evx.bindc e (Evx.eq (line_loop _ (by omega) (fun p hp => Nat.le_trans (Glob.split_le _ _ _ p hp) hs) _ 0 (Nat.zero_add _)) ?_)
    rw [List.drop_zero, pieces2, Bool.eq_iff_iff, hb, decide_eq_true_eq]
    exact ⟨fun x => ⟨by omega, h1, x⟩, fun x => x.2.2⟩
  unfold impl_MailOK.f
  refine Evx.ite (fun h => no (fun e => by have := e.1; omega)) (fun h => ?_)
  refine Evx.ite (fun h1 => yes (by omega) (Or.inl ((toList_nil _).1 h1))) (fun h1 => ?_)
  rcases Classical.em (∃ V, bs s = V ++ [13, 10]) with hV | hV
  · exact Evx.bindc (suffix s hs true (by simp [hV])) (yes (by omega) (Or.inr hV))
  · refine Evx.bindc (suffix s hs false (by simp [hV])) (no (fun e => ?_))
    rcases e.2.1 with q | q
    · exact h1 ((toList_nil _).2 q)
    · exact hV q
end Go.Proofs.YteknchhlineciaaDoor.MQFnExactMailOK
