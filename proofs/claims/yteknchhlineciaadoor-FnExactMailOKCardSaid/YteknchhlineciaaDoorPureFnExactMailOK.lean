/- The plain law of MailOK: both tests say the same. Conditions: none. -/
import Derived.Test.YteknchhlineciaaDoorMFnExactMailOK
namespace Go.Proofs.YteknchhlineciaaDoor.Pure
open Go.RowKit Go.Proofs.YteknchhlineciaaDoor.QFnExactMailOK Go.Proofs.YteknchhlineciaaDoorW.PrintWords Go.Proofs.YteknchhlineciaaDoorW.PrintLast Go.Proofs.YteknchhlineciaaDoorW.PrintMore Go.Proofs.YteknchhlineciaaDoor.Evx Go.Proofs.YteknchhlineciaaDoor.MQFnExactMailOK
set_option linter.unusedSimpArgs false
set_option linter.unusedVariables false
theorem FnExactMailOK : laws_FnExactMailOK.Pure := by
  intro s _
  refine Ev.rounds (g := fun k => laws_FnExactMailOK.f k s) ?_
  unfold laws_FnExactMailOK.f
  refine Evx.ite (fun _ => Ev.now _) (fun hl => ?_)
  obtain ⟨b, hb⟩ := mail_dec (bs s)
  refine Ev.bind (spec_mail s (by omega) b hb) (Ev.bind (impl_mail s (by omega) b hb) ?_)
  exact Evx.neg (by simp) (Ev.now _)
end Go.Proofs.YteknchhlineciaaDoor.Pure
