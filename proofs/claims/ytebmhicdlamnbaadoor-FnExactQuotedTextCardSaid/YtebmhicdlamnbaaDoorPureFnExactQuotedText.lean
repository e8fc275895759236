/- The plain law of QuotedText: both sides answer the same. Conditions: none. -/
import Derived.Test.YtebmhicdlamnbaaDoorQFnExactQuotedTexty
namespace Go.Proofs.YtebmhicdlamnbaaDoor.Pure
open Go.RowKit Go.Proofs.YtebmhicdlamnbaaDoor.QFnExactQuotedText Go.Proofs.YtebmhicdlamnbaaDoorW.PrintWords Go.Proofs.YtebmhicdlamnbaaDoorW.PrintLast Go.Proofs.YtebmhicdlamnbaaDoorW.PrintMore Go.Proofs.YtebmhicdlamnbaaDoor.Evx Go.Proofs.YtebmhicdlamnbaaDoor.QQFnExactQuotedText
set_option linter.unusedSimpArgs false
set_option linter.unusedVariables false
theorem copy_loop (l : List Int) (hl : l.length ≤ 1048576) (d : Nat) : ∀ (i : Nat) (x : List Int), i + d = l.length → x.length = l.length → x.take i = l.take i → Ev (fun k => laws_toByteS.l0 k l x (i : Int)) l := by
  induction d with
  | zero =>
    intro i x hi hx ht
    refine Ev.step (fun k => by rw [laws_toByteS.l0]) ?_
    refine Evx.neg (by omega) (Evx.eq (Ev.now _) ?_)
    rw [List.take_of_length_le (by omega), List.take_of_length_le (by omega)] at ht
    exact ht
  | succ d ih =>
    intro i x hi hx ht
    refine Ev.step (fun k => by rw [laws_toByteS.l0]) ?_
    refine Evx.pos (by omega) (Evx.pos (by omega) (Evx.pos (by omega) ?_))
    rw [Evx.w64 (by omega) (by omega)]
    refine Evx.fn (ih (i + 1) (x.set i (rd l (i : Int))) (by omega) (by rw [List.length_set]; exact hx) ?_) (by rw [Int.toNat_natCast]; rfl)
    rw [List.take_add_one, List.take_add_one, List.take_set_of_le (Nat.le_refl _), ht, List.getElem?_set_self (by omega), List.getElem?_eq_getElem (by omega)]
    unfold rd
    rw [Int.toNat_natCast, List.getD_eq_getElem?_getD, List.getElem?_eq_getElem (by omega)]
    rfl
theorem copied (l : List Int) (hl : l.length ≤ 1048576) : Ev (fun k => laws_toByteS.f k l) l := by
  unfold laws_toByteS.f
  refine Evx.pos (by omega) (Evx.pos (by rw [Int.toNat_natCast]; omega) ?_)
  refine copy_loop l hl l.length 0 _ (by omega) (by simp) (by simp)
theorem eq_loop (l : List Int) (hl : l.length ≤ 1048576) (d : Nat) : ∀ i : Nat, i + d = l.length → Ev (fun k => laws_eqByteS.l0 k l l (i : Int)) true := by
  induction d with
  | zero =>
    intro i hi
    refine Ev.step (fun k => by rw [laws_eqByteS.l0]) ?_
    exact Evx.neg (by omega) (Ev.now _)
  | succ d ih =>
    intro i hi
    refine Ev.step (fun k => by rw [laws_eqByteS.l0]) ?_
    refine Evx.pos (by omega) (Evx.pos (by omega) (Evx.pos (by omega) (Evx.pos rfl ?_)))
    rw [Evx.w64 (by omega) (by omega)]
    exact ih (i + 1) (by omega)
theorem same (l : List Int) (hl : l.length ≤ 1048576) : Ev (fun k => laws_eqByteS.f k l l) true := by
  unfold laws_eqByteS.f
  exact Evx.pos rfl (eq_loop l hl l.length 0 (by omega))
theorem FnExactQuotedText : laws_FnExactQuotedText.Pure := by
  intro l0 hm hs hw
  refine Ev.rounds (g := fun k => laws_FnExactQuotedText.f k l0) ?_
  unfold laws_FnExactQuotedText.f
  refine Evx.ite (fun _ => Ev.now _) (fun hl => ?_)
  have hx : ∀ x ∈ l0, 0 ≤ x ∧ x < 256 := fun x h => by
    have := hw x h
    simp [Lit.wf, IntKind.min, IntKind.max, IntKind.signed, IntKind.bits] at this
    omega
  have hl' : l0.length ≤ 1048576 := by omega
  refine Ev.bind (copied l0 hl') (Ev.bind (spec_text hx hl') (Ev.bind (copied l0 hl') (Evx.bindc (impl_text hx) (Evx.pos rfl ?_))))
  refine Ev.step (fun k => by rw [laws_FnExactQuotedText.j0]) ?_
  exact Evx.neg (by simp) (Ev.bind (copied l0 hl') (Ev.bind (same l0 hl') (Evx.pos rfl (Ev.now _))))
end Go.Proofs.YtebmhicdlamnbaaDoor.Pure
