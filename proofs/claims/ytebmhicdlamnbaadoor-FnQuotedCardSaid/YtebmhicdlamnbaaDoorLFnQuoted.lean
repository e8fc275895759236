/- The longest line: the reference's count and the program's both give the longest of the pieces between ends of lines. Conditions: texts of at most 1048576 bytes. -/
import Derived.Test.YtebmhicdlamnbaaDoorQFnQuotedx
import Derived.Test.YtebmhicdlamnbaaDoorBsx
import Derived.Test.YtebmhicdlamnbaaDoorSpl
namespace Go.Proofs.YtebmhicdlamnbaaDoor.LQFnQuoted
open Go.RowKit Go.Proofs.YtebmhicdlamnbaaDoor.QFnQuoted Go.Proofs.YtebmhicdlamnbaaDoorW.PrintWords Go.Proofs.YtebmhicdlamnbaaDoorW.PrintLast Go.Proofs.YtebmhicdlamnbaaDoorW.PrintMore
open Go.Proofs.YtebmhicdlamnbaaDoor.Evx Go.Proofs.YtebmhicdlamnbaaDoor.Bsx Go.Proofs.YtebmhicdlamnbaaDoor.Spl
set_option linter.unusedSimpArgs false
set_option linter.unusedVariables false
/-- The most of a number and some lengths. -/
def mxl (m : Int) : List (List Int) → Int
  | [] => m
  | p :: ps => mxl (mx m (p.length : Int)) ps
theorem mxl_ge (ps : List (List Int)) : ∀ m, m ≤ mxl m ps ∧ ∀ p ∈ ps, (p.length : Int) ≤ mxl m ps := by
  induction ps with
  | nil => intro m; exact ⟨Int.le_refl _, fun p hp => by cases hp⟩
  | cons q qs ih =>
    intro m
    have h := ih (mx m (q.length : Int))
    have h1 : m ≤ mx m (q.length : Int) ∧ (q.length : Int) ≤ mx m (q.length : Int) := by unfold mx; omega
    rw [mxl]
    refine ⟨by omega, fun p hp => ?_⟩
    rcases List.mem_cons.1 hp with rfl | hp
    · omega
    · exact h.2 p hp
theorem mxl_le (ps : List (List Int)) : ∀ (m b : Int), m ≤ b → (∀ p ∈ ps, (p.length : Int) ≤ b) → mxl m ps ≤ b := by
  induction ps with
  | nil => intro m b h _; exact h
  | cons q qs ih =>
    intro m b h hp
    have hq := hp q (by simp)
    rw [mxl]
    exact ih _ b (by unfold mx; omega) (fun p hh => hp p (by simp [hh]))
/-- The longest line of a list of numbers. -/
def longest (l : List Int) : Int := mxl 0 (sp2 l)
/-- What the count comes to from a place on. -/
def top (b w : Int) : List (List Int) → Int
  | [] => b
  | p :: ps => mxl (mx b (w + (p.length : Int))) ps
theorem top_zero {b : Int} {ps : List (List Int)} (h : ps ≠ []) : top b 0 ps = mxl b ps := by
  cases ps with
  | nil => exact absurd rfl h
  | cons p ps => rw [top, mxl, Int.zero_add]
theorem top_putOn {b w : Int} {c : Int} {ps : List (List Int)} (h : ps ≠ []) : top b w (putOn c ps) = top (mx b (w + 1)) (w + 1) ps := by
  cases ps with
  | nil => exact absurd rfl h
  | cons p ps =>
    simp only [putOn, top, List.headD_cons, List.tail_cons, List.length_cons]
    congr 1
    unfold mx
    omega
theorem spec_loop (s : ByteArray) (hs : s.size ≤ 1048576) (n : Nat) : ∀ (l : List Int) (p : Nat) (b w : Int), l.length ≤ n → (bs s).drop p = l → 0 ≤ w → w ≤ b → w ≤ (p : Int) → Ev (fun k => spec_LongestLine.l0 k s b w (p : Int)) (top b w (sp2 l)) := by
  induction n with
  | zero =>
    intro l p b w hn h h0 h1 h2
    obtain rfl : l = [] := List.eq_nil_of_length_eq_zero (by omega)
    have := drop_nil h
    refine Ev.step (fun k => by rw [spec_LongestLine.l0]) ?_
    refine Evx.neg (by omega) (Evx.eq (Ev.now _) ?_)
    simp only [sp2, top, mxl, List.length_nil]
    unfold mx
    omega
  | succ n ih =>
    intro l p b w hn h h0 h1 h2
    cases l with
    | nil =>
      have := drop_nil h
      refine Ev.step (fun k => by rw [spec_LongestLine.l0]) ?_
      refine Evx.neg (by omega) (Evx.eq (Ev.now _) ?_)
      simp only [sp2, top, mxl, List.length_nil]
      unfold mx
      omega
    | cons c r =>
      obtain ⟨g1, g2, g3, g4, g5⟩ := drop_cons h
      have hrl : r.length + p + 1 = s.size := by
        have := congrArg List.length h
        rw [drop_len, List.length_cons] at this
        omega
      refine Ev.step (fun k => by rw [spec_LongestLine.l0]) ?_
      rw [g1, Evx.w64 (i := (p : Int) + 1) (by omega) (by omega), Evx.w64 (i := w + 1) (by omega) (by omega)]
      have one : ¬ (c = 13 ∧ 1 ≤ r.length ∧ r.getD 0 0 = 10) → Ev (fun k => spec_LongestLine.l0 k s (mx b (w + 1)) (w + 1) ((p : Int) + 1)) (top b w (sp2 (c :: r))) := by
        intro hc
        rw [sp2_one hc, top_putOn (sp2_ne r)]
        exact ih r (p + 1) _ _ (by simpa using hn) g2 (by omega) (by unfold mx; omega) (by omega)
      refine Evx.pos (by omega) (Evx.pos (by omega) ?_)
      refine Evx.ite (fun hc => ?_) (fun hc => one (fun e => hc e.1))
      refine Evx.ite (fun hp => ?_) (fun hp => one (fun e => by omega))
      refine Evx.pos (by omega) ?_
      have hb1 : bt s ((p : Int) + 1) = r.getD 0 0 := by
        have := bt_getD s ((p : Int) + 1) (p + 1) 0 (by omega)
        rw [this, g2]
      rw [hb1]
      refine Evx.ite (fun hd => ?_) (fun hd => one (fun e => hd e.2.2))
      obtain ⟨r', rfl⟩ : ∃ r', r = 10 :: r' := by
        cases r with
        | nil => simp at hd
        | cons x r' => exact ⟨r', by rw [show x = 10 by simpa using hd]⟩
      rw [Evx.w64 (by omega) (by omega), hc, sp2_end]
      have e : top b w ([] :: sp2 r') = top b 0 (sp2 r') := by
        rw [top_zero (sp2_ne r'), top]
        congr 1
        simp only [List.length_nil]
        unfold mx
        omega
      rw [e]
      have h3 : (bs s).drop (p + 1 + 1) = r' := by rw [← List.tail_drop, g2]; rfl
      exact ih r' (p + 1 + 1) b 0 (by simp only [List.length_cons] at hn; omega) h3 (by omega) (by omega) (by omega)
theorem spec_longest (s : ByteArray) (hs : s.size ≤ 1048576) : Ev (fun k => spec_LongestLine.f k s) (if (s.size : Int) > 65536 then 0 else longest (bs s)) := by
  unfold spec_LongestLine.f
  refine Evx.ite (fun h => by rw [if_pos h]; exact Ev.now _) (fun h => ?_)
  rw [if_neg h]
  refine Evx.eq (spec_loop s hs s.size (bs s) 0 0 0 (by rw [bs_length]; omega) (by rw [List.drop_zero]) (by omega) (by omega) (by omega)) ?_
  exact top_zero (sp2_ne _)
theorem impl_loop (ps : List ByteArray) (hl : ps.length ≤ 2000000) : ∀ (d i : Nat) (m : Int), i + d = ps.length → Ev (fun k => impl_LongestLine.l0 k m ps (ps.length : Int) (i : Int)) (mxl m ((ps.drop i).map bs))
  | 0, i, m, h => by
    refine Ev.step (fun k => by rw [impl_LongestLine.l0]) ?_
    refine Evx.neg (by omega) (Evx.eq (Ev.now _) ?_)
    rw [List.drop_eq_nil_of_le (by omega)]
    rfl
  | d + 1, i, m, h => by
    have hi : i < ps.length := by omega
    have e : rdOf ByteArray.empty ps (i : Int) = ps[i] := by
      unfold rdOf
      rw [Int.toNat_natCast, List.getD_eq_getElem?_getD, List.getElem?_eq_getElem hi]
      rfl
    refine Ev.step (fun k => by rw [impl_LongestLine.l0]) ?_
    refine Evx.pos (by omega) (Evx.pos (by omega) (Evx.pos (by omega) ?_))
    rw [Evx.w64 (by omega) (by omega), e, List.drop_eq_getElem_cons hi, List.map_cons, mxl, bs_length]
    exact impl_loop ps hl d (i + 1) _ (by omega)
theorem impl_longest (s : ByteArray) (hs : s.size ≤ 1048576) : Ev (fun k => impl_LongestLine.f k s) (if (s.size : Int) > 65536 then 0 else longest (bs s)) := by
  unfold impl_LongestLine.f
  refine Evx.ite (fun h => by rw [if_pos h]; exact Ev.now _) (fun h => ?_)
  rw [if_neg h]
  have hle := Go.Lib.countB_le ⟨#[13, 10]⟩ (by decide) s.size s (Nat.le_refl _)
  have hl := Go.Lib.splitB_all ⟨#[13, 10]⟩ (by decide) 0 _ s rfl
  have e : strings_Split.f s (⟨#[13, 10]⟩ : ByteArray) = some (Go.Lib.splitB ⟨#[13, 10]⟩ 0 (Go.Lib.countB s ⟨#[13, 10]⟩) s) := by
    unfold strings_Split.f
    rw [if_pos ⟨by omega, by decide⟩]
  refine Evx.bindc e (Evx.eq (impl_loop _ (by omega) _ 0 0 (Nat.zero_add _)) ?_)
  rw [List.drop_zero, pieces2]
  rfl
end Go.Proofs.YtebmhicdlamnbaaDoor.LQFnQuoted
