/- The plain law of EntryOK: both tests say the same. Conditions: none. -/
import Derived.Test.YteknchhlineciaaDoorEFnExactEntryOK
namespace Go.Proofs.YteknchhlineciaaDoor.Pure
open Go.RowKit Go.Proofs.YteknchhlineciaaDoor.QFnExactEntryOK Go.Proofs.YteknchhlineciaaDoorW.PrintWords Go.Proofs.YteknchhlineciaaDoorW.PrintLast Go.Proofs.YteknchhlineciaaDoorW.PrintMore Go.Proofs.YteknchhlineciaaDoor.Evx Go.Proofs.YteknchhlineciaaDoor.EQFnExactEntryOK
set_option linter.unusedSimpArgs false
set_option linter.unusedVariables false
theorem FnExactEntryOK (a0 a1 a2 a3 : ByteArray) (a4 : Int) (a5 : ByteArray) (w0 : a0.size ≤ 140737488351232) (w1 : a1.size ≤ 140737488351232) (w2 : a2.size ≤ 140737488351232) (w3 : a3.size ≤ 140737488351232) (w5 : a5.size ≤ 140737488351232) :
    ∃ k, laws_FnExactEntryOK.f k a0 a1 a2 a3 a4 a5 = some true := by
  refine Ev.rounds (g := fun k => laws_FnExactEntryOK.f k a0 a1 a2 a3 a4 a5) ?_
  unfold laws_FnExactEntryOK.f
  obtain ⟨t, ht, h1, h2⟩ := sz a0 a1 a2 a3 a4 a5 1048576 (by omega) w0 w1 w2 w3 w5
  refine Evx.bindc ht (Evx.ite (fun _ => Ev.now _) (fun hn => ?_))
  have h3 := h2 (by omega)
  obtain ⟨b, e1, e2⟩ := entry a0 a1 a2 a3 a4 a5 (by omega) (by omega) (by omega) (by omega) (by omega)
  refine Evx.bindc rfl (Ev.bind e1 (Evx.bindc rfl (Ev.bind e2 ?_)))
  exact Evx.neg (by simp) (Ev.now _)
end Go.Proofs.YteknchhlineciaaDoor.Pure
