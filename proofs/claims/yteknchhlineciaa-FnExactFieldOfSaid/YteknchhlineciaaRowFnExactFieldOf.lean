/- The row of FnExactFieldOf: for every input the law answers true and leaves its arguments alone. Conditions: none. -/
import Derived.Test.YteknchhlineciaaRows
import Derived.Test.YteknchhlineciaaQFnExactFieldOfx
import Derived.Test.YteknchhlineciaaPureFnExactFieldOf
import Derived.Test.YteknchhlineciaaAggFFnExactFieldOf
import Derived.WalkKit
import Derived.ProofKit
import Derived.OpenShut
import Derived.ShutString
import Derived.ChangeOld
import Derived.Below
import Derived.SizedLaws
namespace Go.Proofs.Yteknchhlineciaa.fnExactFieldOf
open Go.ChangeShapes Go.WideShapes Go.ChangeAt Go.RowKit
open Go.ChangeMaps (open_string shut_string)
set_option linter.unusedVariables false
theorem own : ownKnob Try.prog.godebug = none := by kernel_rfl
theorem laidOut : laidOutB Try.prog = true := by kernel_rfl
set_option maxRecDepth 100000 in
theorem lifted (os : Os) (started : os.Started) (H : Type) (enc : TypeId × Value → H) :
    ReturnsInHanded {} Try.checked os 6 .any (Rows.fnExactFieldOfSpec.pre6 enc Try.prog Try.f6 Rows.fnExactFieldOfRow.domain false) (Rows.fnExactFieldOfSpec.post enc Try.prog Try.f6 false true false false) := by
  refine returnsInHanded_of_change_sized (C := Try.checked) own started (by kernel_rfl) Try.func6
    (ChangeSpec.witness6 (enc := enc) (C := Try.checked) false ⟨#[], #[.agg #[.slice none 0 0, .string ByteArray.empty], .string ByteArray.empty], []⟩ 8 (by kernel_rfl) (by kernel_rfl) (by kernel_rfl) (by kernel_rfl)) ?_
  intro W base args ds gs before hval0 hW hcnd hsz0 _
  have hsz : (DataW.weightsEach Try.prog (Try.f6.params.toList ++ Rows.fnExactFieldOfSpec.plain.varTypes Try.prog) (ds ++ gs)).all (· ≤ reachBytes) = true := hsz0
  have hval : ∀ (j : Nat) t v, Try.f6.params[j]? = some t → args[j]? = some v → Value.okWide Try.prog W .any base t v := hval0
  have hW' := hW
  obtain ⟨p, q, hA0, hV, rfl, hfz, hnd⟩ := hW
  have hA : DataW.TrodAll enc Try.prog W 0 (fun _ => true) true Try.f6.params.toList args.toList ds p := hA0
  rw [Try.params6] at hA hval hsz
  obtain ⟨v0, vs0, d0, ds0, p0, q0, hargs, rfl, rfl, h0, r0⟩ := trodAll_cons hA
  obtain ⟨v1, vs1, d1, ds1, p1, q1, rfl, rfl, rfl, h1, r1⟩ := trodAll_cons r0
  obtain ⟨rfl, rfl, rfl⟩ := trodAll_nil r1
  obtain rfl : args = #[v0, v1] := by cases args; simp_all
  obtain ⟨rfl, rfl⟩ := trodVars_none hV
  have k0 := h0
  have lt0 : ∀ x ∈ p0, x.block < W.heap.size := by obtain ⟨m, hm⟩ := k0; exact DataW.trod_lt m _ _ _ hm
  have k1 := h1
  have lt1 : ∀ x ∈ p1, x.block < W.heap.size := by obtain ⟨m, hm⟩ := k1; exact DataW.trod_lt m _ _ _ hm
  obtain ⟨A, l, c, x1, d0_, rfl, hcap, hK, rfl, hQ⟩ := AggF.open_mail Try.underlying38 Try.underlying9 (by kernel_rfl) (by kernel_rfl) (by rfl) Try.underlying36 Try.underlying74 (by kernel_rfl) (by kernel_rfl) (by rfl) (hval 0 38 _ rfl rfl) h0
  have e9 : reachBytes = 140737488351232 := by decide
  have z := AggF.sized_mail (s := 9) (t' := 36) (e := 74) hsz (j := 0) (t := 38) rfl rfl Try.underlying38 (by rfl) Try.underlying74 (by rfl)
  rw [e9] at z
  have w1 : x1.size ≤ 140737488351232 := by have z1 := z.1; rw [Array.length_toList] at z1; exact z1
  have ws : ∀ x ∈ l, x.f0.size ≤ 140737488351232 := fun x hx => by
    obtain ⟨dx, hd1, hd2⟩ := hQ x hx
    have z2 := (z.2 x dx hd1 hd2).1
    rw [Array.length_toList] at z2
    exact z2
  obtain ⟨b0, rfl, rfl, rfl, y1⟩ := open_string Try.underlying9 (hval 1 9 v1 rfl rfl) h1
  obtain ⟨k, hk⟩ := Pure.FnExactFieldOf l x1 b0 hK.2.1 w1 ws
  clear hA0 hval0 hsz0 hsz
  refine (QFnExactFieldOf.laws_FnExactFieldOf.calls k A c l x1 b0 true W hK hcap hk).mono fun e W' ⟨he, bel⟩ => ?_
  subst he
  exact ⟨_, rfl, _, _, _, [], _, [], hW', trodAll_mk1 (shut_bool Try.underlying4 _), (trodAll_cons_mk (Below.trod laidOut (by kernel_rfl) (of_decide_eq_true (by kernel_rfl)) k0 bel lt0) (trodAll_cons_mk (Below.trod laidOut (by kernel_rfl) (of_decide_eq_true (by kernel_rfl)) k1 bel lt1) trodAll_mk0)), rfl, bel.frame _, fun h => by cases h⟩
theorem over : Rows.fnExactFieldOfRow.holds Try.pinned (OpenSpec.ofChange Rows.fnExactFieldOfSpec) :=
  OpenClaim.holds_of_wide 6 Try.f6 rfl rfl rfl rfl rfl rfl rfl ⟨rfl, rfl, rfl, rfl, rfl⟩ rfl rfl rfl rfl rfl (by kernel_rfl) Try.func6 (by kernel_rfl)
    (of_decide_eq_true (by kernel_rfl)) (by unfold Func.isWrapper; first | (rw [if_pos (by decide +kernel)]; kernel_rfl) | (rw [if_neg (by decide +kernel)]; exact ⟨rfl, rfl⟩))
    (fun os started H enc _ => lifted os started H enc)
theorem proved : Rows.FnExactFieldOfSaid := over
#print axioms proved
end Go.Proofs.Yteknchhlineciaa.fnExactFieldOf
namespace Go.Proofs.Yteknchhlineciaa
/-- The row, under a short name, for the claim. -/
theorem fnExactFieldOf_holds : Rows.FnExactFieldOfSaid := fnExactFieldOf.proved
end Go.Proofs.Yteknchhlineciaa
