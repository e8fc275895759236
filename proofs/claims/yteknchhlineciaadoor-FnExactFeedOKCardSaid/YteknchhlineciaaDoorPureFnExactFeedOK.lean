/- The plain law of FeedOK: both tests say the same. Conditions: none. -/
import Derived.Test.YteknchhlineciaaDoorNFnExactFeedOK
namespace Go.Proofs.YteknchhlineciaaDoor.Pure
open Go.RowKit Go.Proofs.YteknchhlineciaaDoor.QFnExactFeedOK Go.Proofs.YteknchhlineciaaDoorW.PrintWords Go.Proofs.YteknchhlineciaaDoorW.PrintLast Go.Proofs.YteknchhlineciaaDoorW.PrintMore Go.Proofs.YteknchhlineciaaDoor.Evx Go.Proofs.YteknchhlineciaaDoor.NQFnExactFeedOK
set_option linter.unusedSimpArgs false
set_option linter.unusedVariables false
theorem FnExactFeedOK (a0 : Bool) (a1 : ByteArray) (l : List S23) (hl : l.length ≤ 9223372036854775807) (h1 : a1.size ≤ 140737488351232) (hw : ∀ x ∈ l, Upto 140737488351232 x) :
    ∃ k, laws_FnExactFeedOK.f k a0 a1 l = some true := by
  refine Ev.rounds (g := fun k => laws_FnExactFeedOK.f k a0 a1 l) ?_
  unfold laws_FnExactFeedOK.f
  obtain ⟨z, hz, hz2⟩ := sz_feed a0 a1 l hl hw h1
  refine Ev.bind hz (Evx.ite (fun _ => Ev.now _) (fun hn => ?_))
  obtain ⟨g1, g2, g3⟩ := hz2 (by omega)
  have hc := copied a0 a1 l g2
  have hml : (l.map conv).length ≤ 1048576 := by rw [List.length_map]; exact g2
  have hms := conv_ok g3
  generalize l.map conv = m at hc hml hms
  obtain ⟨b, hb1, hb2⟩ := feed a0 a1 m g1 hml hms
  refine Ev.bind hc (Ev.bind hb1 (Ev.bind hc (Ev.bind hb2 (Evx.neg (by simp) (Ev.bind hc (Ev.bind (same a0 a1 m hml) (Evx.pos rfl (Ev.now _))))))))
end Go.Proofs.YteknchhlineciaaDoor.Pure
