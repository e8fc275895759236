/- For every text the program's HeaderNameOK answers as the reference's. Conditions: none. -/
import Derived.Test.YtebmhicdlamnbaaQFnExactHeaderNameOKx1
import Derived.Test.YtebmhicdlamnbaaEvx
import Derived.Test.YtebmhicdlamnbaaBsx
namespace Go.Proofs.Ytebmhicdlamnbaa.Pure
open Go.RowKit Go.Proofs.Ytebmhicdlamnbaa.QFnExactHeaderNameOK Go.Proofs.YtebmhicdlamnbaaW.PrintWords Go.Proofs.YtebmhicdlamnbaaW.PrintLast
set_option linter.unusedSimpArgs false
set_option linter.unusedVariables false

open Go.Proofs.Ytebmhicdlamnbaa.Evx Go.Proofs.Ytebmhicdlamnbaa.Bsx
theorem within_eq (a b c : Int) : impl_within.f a b c = some (decide (b ≤ a ∧ a ≤ c)) := by
  unfold impl_within.f
  split <;> simp <;> omega
theorem in_eq (a b c : Int) : spec_l01In.f a b c = some (decide (b ≤ a ∧ a ≤ c)) := by
  unfold spec_l01In.f
  split <;> simp <;> omega
/-- What both sides answer. -/
def good (s : ByteArray) : Bool := decide (1 ≤ (s.size : Int) ∧ (s.size : Int) ≤ 40) && (bs s).all fun c => decide (33 ≤ c ∧ c ≤ 126 ∧ c ≠ 58)
theorem index_any (s : ByteArray) : decide (0 ≤ Lib.indexByte s.data.toList 58) = (bs s).any fun c => decide (c = 58) := by
  rw [Bool.eq_iff_iff, decide_eq_true_eq, index_mem, mem_bs, List.any_eq_true]
  constructor
  · intro h; exact ⟨_, h, rfl⟩
  · rintro ⟨c, hc, e⟩
    have : c = 58 := of_decide_eq_true e
    subst this; exact hc
theorem all_split (l : List Int) (h : (l.all fun c => decide (33 ≤ c ∧ c ≤ 126)) = true) : (!l.any fun c => decide (c = 58)) = l.all fun c => decide (33 ≤ c ∧ c ≤ 126 ∧ c ≠ 58) := by
  induction l with
  | nil => rfl
  | cons c l ih =>
    simp only [List.all_cons, Bool.and_eq_true, decide_eq_true_eq] at h
    simp only [List.any_cons, List.all_cons, Bool.not_or, ih h.2]
    congr 1
    rw [Bool.eq_iff_iff]; simp; omega
theorem all_false (l : List Int) (h : (l.all fun c => decide (33 ≤ c ∧ c ≤ 126)) = false) : (l.all fun c => decide (33 ≤ c ∧ c ≤ 126 ∧ c ≠ 58)) = false := by
  rw [Bool.eq_false_iff] at h ⊢
  intro h2
  refine h (List.all_eq_true.2 fun c hc => ?_)
  have := List.all_eq_true.1 h2 c hc
  simp at this ⊢
  omega
theorem spec_loop (s : ByteArray) (hs : s.size ≤ 1048576) (l : List Int) : ∀ i : Nat, (bs s).drop i = l → Ev (fun k => spec_HeaderNameOK.l0 k s (i : Int)) (l.all fun c => decide (33 ≤ c ∧ c ≤ 126 ∧ c ≠ 58)) := by
  induction l with
  | nil =>
    intro i h
    have := drop_nil h
    refine Ev.step (fun k => by rw [spec_HeaderNameOK.l0]) ?_
    exact Evx.neg (by omega) (Ev.now _)
  | cons c l ih =>
    intro i h
    obtain ⟨h1, h2, h3, h4, h5⟩ := drop_cons h
    have next := ih (i + 1) h2
    refine Ev.step (fun k => by rw [spec_HeaderNameOK.l0]) ?_
    rw [h1, Evx.w64 (i := c) (by omega) (by omega), Evx.w64 (i := (i : Int) + 1) (by omega) (by omega)]
    refine Evx.pos (by omega) (Evx.pos (by omega) (Evx.bindc (in_eq _ _ _) (Evx.ite (fun a => Evx.ite (fun b => ?_) (fun b => ?_)) (fun a => ?_))))
    · refine Evx.eq (Ev.now _) ?_
      simp [b]
    · refine Evx.eq (Evx.fn next rfl) ?_
      simp at a
      simp [a, b]
    · refine Evx.eq (Ev.now _) ?_
      simp at a ⊢
      intro x y; omega
theorem impl_loop (s : ByteArray) (hs : s.size ≤ 1048576) (l : List Int) : ∀ i : Nat, (bs s).drop i = l → Ev (fun k => impl_allWithin.l0 k s 33 126 (s.size : Int) (i : Int)) (l.all fun c => decide (33 ≤ c ∧ c ≤ 126)) := by
  induction l with
  | nil =>
    intro i h
    have := drop_nil h
    refine Ev.step (fun k => by rw [impl_allWithin.l0]) ?_
    exact Evx.neg (by omega) (Ev.now _)
  | cons c l ih =>
    intro i h
    obtain ⟨h1, h2, h3, h4, h5⟩ := drop_cons h
    have next := ih (i + 1) h2
    refine Ev.step (fun k => by rw [impl_allWithin.l0]) ?_
    rw [h1, Evx.w64 (i := (i : Int) + 1) (by omega) (by omega)]
    refine Evx.pos (by omega) (Evx.pos (by omega) (Evx.pos (by omega) (Evx.ite (fun a => ?_) (fun a => Evx.ite (fun b => ?_) (fun b => ?_)))))
    · refine Evx.eq (Ev.now _) ?_
      simp; omega
    · refine Evx.eq (Ev.now _) ?_
      simp; omega
    · refine Evx.eq (Evx.fn next rfl) ?_
      rw [List.all_cons, decide_eq_true (by omega), Bool.true_and]

theorem FnExactHeaderNameOK : laws_FnExactHeaderNameOK.Pure := by
  intro s hs
  refine Ev.rounds (g := fun k => laws_FnExactHeaderNameOK.f k s) ?_
  unfold laws_FnExactHeaderNameOK.f
  refine Evx.ite (fun _ => Ev.now _) (fun hl => ?_)
  have hl' : s.size ≤ 1048576 := by omega
  have k1 : Ev (fun k => spec_HeaderNameOK.f k s) (good s) := by
    unfold spec_HeaderNameOK.f good
    refine Evx.ite (fun h => Evx.eq (Ev.now _) (by simp; omega)) (fun h => Evx.bindc (in_eq _ _ _) ?_)
    by_cases hd : 1 ≤ (s.size : Int) ∧ (s.size : Int) ≤ 40
    · refine Evx.pos (by simpa using hd) ?_
      rw [decide_eq_true hd, Bool.true_and]
      exact spec_loop s hl' (bs s) 0 rfl
    · refine Evx.neg (by simpa using hd) (Evx.eq (Ev.now _) ?_)
      rw [decide_eq_false hd]; rfl
  have k2 : Ev (fun k => impl_HeaderNameOK.f k s) (good s) := by
    unfold impl_HeaderNameOK.f good
    refine Evx.bindc (within_eq _ _ _) ?_
    by_cases hd : 1 ≤ (s.size : Int) ∧ (s.size : Int) ≤ 40
    · refine Evx.pos (by simpa using hd) ?_
      rw [decide_eq_true hd, Bool.true_and]
      have h1 : Ev (fun k => impl_allWithin.f k s 33 126) ((bs s).all fun c => decide (33 ≤ c ∧ c ≤ 126)) := by
        unfold impl_allWithin.f
        exact impl_loop s hl' (bs s) 0 rfl
      refine Ev.bind h1 (Evx.ite (fun h2 => ?_) (fun h2 => ?_))
      · have hc : strings_Contains.f s (⟨#[58]⟩ : ByteArray) = some (decide (0 ≤ Lib.indexByte s.data.toList 58)) := rfl
        refine Evx.bindc hc (Evx.eq (Ev.now _) ?_)
        have e1 : decide (0 ≤ Lib.indexByte s.data.toList 58) = (bs s).any fun c => decide (c = 58) := index_any _
        rw [e1]
        exact all_split _ h2
      · refine Evx.eq (Ev.now _) ?_
        have h3 : ((bs s).all fun c => decide (33 ≤ c ∧ c ≤ 126)) = false := by simpa using h2
        exact (all_false _ h3).symm
    · refine Evx.neg (by simpa using hd) (Evx.eq (Ev.now _) ?_)
      rw [decide_eq_false hd]; rfl
  refine Ev.bind k1 (Ev.bind k2 ?_)
  exact Evx.neg (by simp) (Ev.now _)

end Go.Proofs.Ytebmhicdlamnbaa.Pure
