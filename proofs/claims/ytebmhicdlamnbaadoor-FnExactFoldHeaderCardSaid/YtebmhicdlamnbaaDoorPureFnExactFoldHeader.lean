/- The plain law of FoldHeader: both sides answer the same. Conditions: none. -/
import Derived.Test.YtebmhicdlamnbaaDoorVFnExactFoldHeader
import Derived.Test.YtebmhicdlamnbaaDoorHFnExactFoldHeader
import Derived.Test.YtebmhicdlamnbaaDoorCFnExactFoldHeader
import Derived.Test.YtebmhicdlamnbaaDoorFFnExactFoldHeader
namespace Go.Proofs.YtebmhicdlamnbaaDoor.Pure
open Go.RowKit Go.Proofs.YtebmhicdlamnbaaDoor.QFnExactFoldHeader Go.Proofs.YtebmhicdlamnbaaDoorW.PrintWords Go.Proofs.YtebmhicdlamnbaaDoorW.PrintLast Go.Proofs.YtebmhicdlamnbaaDoorW.PrintMore Go.Proofs.YtebmhicdlamnbaaDoor.Evx Go.Proofs.YtebmhicdlamnbaaDoor.VQFnExactFoldHeader Go.Proofs.YtebmhicdlamnbaaDoor.HQFnExactFoldHeader Go.Proofs.YtebmhicdlamnbaaDoor.FQFnExactFoldHeader
set_option linter.unusedSimpArgs false
set_option linter.unusedVariables false
/-- What both sides answer. -/
theorem both (s t : ByteArray) (hs : s.size ≤ 1048576) (ht : t.size ≤ 1048576) : ∃ r, Ev (fun k => spec_FoldHeader.f k s t) r ∧ Ev (fun k => impl_FoldHeader.f k s t) r := by
  by_cases h1 : (s.size : Int) > 65536
  · refine ⟨(⟨#[]⟩, 2), ?_, ?_⟩
    · unfold spec_FoldHeader.f
      refine Evx.pos h1 (Ev.step (fun k => by rw [spec_FoldHeader.j0]) ?_)
      exact Evx.pos rfl (Ev.now _)
    · unfold impl_FoldHeader.f
      refine Evx.pos h1 (Ev.step (fun k => by rw [impl_FoldHeader.j0]) ?_)
      exact Evx.pos rfl (Ev.now _)
  by_cases h2 : (t.size : Int) > 65536
  · refine ⟨(⟨#[]⟩, 2), ?_, ?_⟩
    · unfold spec_FoldHeader.f
      refine Evx.neg h1 (Ev.step (fun k => by rw [spec_FoldHeader.j0]) ?_)
      exact Evx.pos (decide_eq_true h2) (Ev.now _)
    · unfold impl_FoldHeader.f
      refine Evx.neg h1 (Ev.step (fun k => by rw [impl_FoldHeader.j0]) ?_)
      exact Evx.pos (decide_eq_true h2) (Ev.now _)
  obtain ⟨r, e1, e2⟩ := spec_fold s t (by omega) (by omega)
  refine ⟨if hname (bs s) ∧ safe (bs t) then (r, 0) else (⟨#[]⟩, 1), ?_, ?_⟩
  · unfold spec_FoldHeader.f
    refine Evx.neg h1 (Ev.step (fun k => by rw [spec_FoldHeader.j0]) ?_)
    refine Evx.neg (by simpa using h2) (Ev.bind (spec_hname s hs) ?_)
    refine Evx.ite (fun a => ?_) (fun a => Evx.eq (Ev.now _) (if_neg (fun e => a (decide_eq_true e.1))).symm)
    refine Ev.bind (spec_safe t ht) ?_
    refine Evx.ite (fun b => ?_) (fun b => Evx.eq (Ev.now _) (if_neg (fun e => b (decide_eq_true e.2))).symm)
    refine Ev.bind e2 (Evx.eq (Ev.now _) (if_pos ⟨of_decide_eq_true a, of_decide_eq_true b⟩).symm)
  · unfold impl_FoldHeader.f
    refine Evx.neg h1 (Ev.step (fun k => by rw [impl_FoldHeader.j0]) ?_)
    refine Evx.neg (by simpa using h2) (Ev.bind (impl_hname s hs) ?_)
    refine Evx.ite (fun a => ?_) (fun a => Evx.eq (Ev.now _) (if_neg (fun e => a (decide_eq_true e.1))).symm)
    refine Ev.bind (impl_safe t ht) ?_
    refine Evx.ite (fun b => ?_) (fun b => Evx.eq (Ev.now _) (if_neg (fun e => b (decide_eq_true e.2))).symm)
    refine Evx.bindc e1 (Evx.eq (Ev.now _) (if_pos ⟨of_decide_eq_true a, of_decide_eq_true b⟩).symm)
theorem FnExactFoldHeader : laws_FnExactFoldHeader.Pure := by
  intro s t _ _
  refine Ev.rounds (g := fun k => laws_FnExactFoldHeader.f k s t) ?_
  unfold laws_FnExactFoldHeader.f
  refine Evx.ite (fun _ => Ev.now _) (fun hl => Evx.ite (fun _ => Ev.now _) (fun hl2 => ?_))
  obtain ⟨r, e1, e2⟩ := both s t (by omega) (by omega)
  refine Ev.bind e1 (Ev.bind e2 ?_)
  exact Evx.pos rfl (Evx.pos rfl (Ev.now _))
end Go.Proofs.YtebmhicdlamnbaaDoor.Pure
