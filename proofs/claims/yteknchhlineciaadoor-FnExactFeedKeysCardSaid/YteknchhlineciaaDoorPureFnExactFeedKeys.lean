/- The plain law of FeedKeys: both sides make the same list. Conditions: none. -/
import Derived.Test.YteknchhlineciaaDoorKFnExactFeedKeys
namespace Go.Proofs.YteknchhlineciaaDoor.Pure
open Go.RowKit Go.Proofs.YteknchhlineciaaDoor.QFnExactFeedKeys Go.Proofs.YteknchhlineciaaDoorW.PrintWords Go.Proofs.YteknchhlineciaaDoorW.PrintLast Go.Proofs.YteknchhlineciaaDoorW.PrintMore Go.Proofs.YteknchhlineciaaDoor.Evx Go.Proofs.YteknchhlineciaaDoor.NQFnExactFeedKeys Go.Proofs.YteknchhlineciaaDoor.KQFnExactFeedKeys
set_option linter.unusedSimpArgs false
set_option linter.unusedVariables false
theorem FnExactFeedKeys (a0 : Bool) (a1 : ByteArray) (l : List S23) (hl : l.length ≤ 9223372036854775807) (h1 : a1.size ≤ 140737488351232) (hw : ∀ x ∈ l, Upto 140737488351232 x) :
    ∃ k, laws_FnExactFeedKeys.f k a0 a1 l = some true := by
  refine Ev.rounds (g := fun k => laws_FnExactFeedKeys.f k a0 a1 l) ?_
  unfold laws_FnExactFeedKeys.f
  obtain ⟨z, hz, hz2⟩ := sz_feed a0 a1 l hl hw h1
  refine Ev.bind hz (Evx.ite (fun _ => Ev.now _) (fun hn => ?_))
  obtain ⟨g1, g2, g3⟩ := hz2 (by omega)
  have hc := copied a0 a1 l g2
  have hml : (l.map conv).length ≤ 1048576 := by rw [List.length_map]; exact g2
  have hms := conv_ok g3
  generalize l.map conv = m at hc hml hms
  obtain ⟨g, c, k1, k2, k3⟩ := keys a0 a1 m g1 hml hms
  obtain ⟨n, l', m1, m2⟩ := mark_feed a0 a1 m hml
  refine Ev.bind hc (Ev.bind k1 (Ev.bind hc (Ev.bind k2 (Ev.bind (same_texts g k3) (Evx.pos rfl ?_)))))
  refine Ev.step (fun k => by rw [laws_FnExactFeedKeys.j0]) ?_
  refine Evx.neg (by simp) (Ev.bind hc (Ev.bind (same a0 a1 m hml) (Evx.pos rfl (Ev.bind m1 (Evx.neg (by show ¬ n < 0; omega) (Ev.bind (same_texts g k3) (Evx.pos rfl ?_)))))))
  refine Ev.step (fun k => by rw [laws_FnExactFeedKeys.j1]) ?_
  refine Evx.neg (by simp) (Ev.bind (mark_row g k3) (Ev.bind (held_row g.length k3) (Evx.neg (by omega) (Evx.pos rfl (Ev.bind hc (Ev.bind k2 (Ev.bind (same_texts g k3) (Evx.pos rfl ?_))))))))
  refine Ev.step (fun k => by rw [laws_FnExactFeedKeys.j2]) ?_
  exact Evx.neg (by simp) (Ev.bind (held_row g.length k3) (Evx.neg (by omega) (Evx.pos rfl (Ev.now _))))
end Go.Proofs.YteknchhlineciaaDoor.Pure
