/- The plain law of quoted texts: bytes are read back, lines and signs are right. Conditions: none. -/
import Derived.Test.YtebmhicdlamnbaaDoorBFnQuoted
namespace Go.Proofs.YtebmhicdlamnbaaDoor.Pure
open Go.RowKit Go.Proofs.YtebmhicdlamnbaaDoor.QFnQuoted Go.Proofs.YtebmhicdlamnbaaDoorW.PrintWords Go.Proofs.YtebmhicdlamnbaaDoorW.PrintLast Go.Proofs.YtebmhicdlamnbaaDoorW.PrintMore Go.Proofs.YtebmhicdlamnbaaDoor.Evx Go.Proofs.YtebmhicdlamnbaaDoor.BQFnQuoted
set_option linter.unusedSimpArgs false
set_option linter.unusedVariables false
theorem FnQuoted : laws_FnQuoted.Pure := by
  intro l0 hm hs hw
  refine Ev.rounds (g := fun k => laws_FnQuoted.f k l0) ?_
  unfold laws_FnQuoted.f
  refine Evx.ite (fun _ => Ev.now _) (fun hl => ?_)
  have hx : ∀ x ∈ l0, 0 ≤ x ∧ x < 256 := fun x h => by
    have := hw x h
    simp [Lit.wf, IntKind.min, IntKind.max, IntKind.signed, IntKind.bits] at this
    omega
  obtain ⟨b, hb1, hb2, hb3⟩ := body (l := l0) ⟨by omega, hx⟩
  have hg := gen_qt b
  have hq := gen_rng hg hb3
  have hlen := gen_len hg
  have e1 : impl_QuotedText.f b = some (strOfNums (QQFnQuoted.qt b), 0) := by rw [QQFnQuoted.impl_text hb3, if_neg (by omega)]
  have e2 : Ev (fun k => spec_QuotedText.f k b) (strOfNums (QQFnQuoted.qt b), 0) := by
    have := QQFnQuoted.spec_text hb3 (by omega)
    rw [if_neg (by omega)] at this
    exact this
  have hbs := bs_strOfNums hq
  have hsz := size_strOfNums (QQFnQuoted.qt b)
  generalize ht : strOfNums (QQFnQuoted.qt b) = t at e1 e2 hbs hsz
  have e3 : Ev (fun k => impl_ReadQuoted.f k t) (b, 0) := by
    unfold impl_ReadQuoted.f
    refine Evx.neg (by omega) (Ev.bind (a := (b, true)) ?_ (Evx.pos rfl (Ev.now _)))
    have := UQFnQuoted.impl_read t (by omega)
    rw [hbs, unq_gen hg hb3 t.size [] (by omega)] at this
    exact this
  have e4 : Ev (fun k => impl_LongestLine.f k t) (LQFnQuoted.longest (QQFnQuoted.qt b)) := by
    have := LQFnQuoted.impl_longest t (by omega)
    rw [if_neg (by omega), hbs] at this
    exact this
  have e5 : Ev (fun k => spec_LongestLine.f k t) (LQFnQuoted.longest (QQFnQuoted.qt b)) := by
    have := LQFnQuoted.spec_longest t (by omega)
    rw [if_neg (by omega), hbs] at this
    exact this
  have h76 := longest_qt b hb3
  refine Ev.bind hb1 (Evx.bindc e1 (Ev.bind e2 (Ev.bind e3 (Evx.pos rfl (Evx.pos rfl (Evx.pos rfl (Evx.pos rfl (Ev.bind e4 (Evx.neg (by omega) (Ev.bind e4 (Ev.bind e5 ?_)))))))))))
  refine Ev.step (fun k => by rw [laws_FnQuoted.j0]) ?_
  refine Evx.neg (by simp) ?_
  refine signs t (by omega) t.size (bs t) 0 (by rw [bs_length]; exact Nat.le_refl _) List.drop_zero ?_
  rw [hbs]
  exact sig_gen hg hb3 _
end Go.Proofs.YtebmhicdlamnbaaDoor.Pure
