/- The row of FnExactAttrOf: for every input the law answers true and leaves its arguments alone. Conditions: none. -/
import Derived.Test.YteknchhlineciaaRows
import Derived.Test.YteknchhlineciaaQFnExactAttrOfx
import Derived.Test.YteknchhlineciaaPureFnExactAttrOf
import Derived.Test.YteknchhlineciaaAggTFnExactAttrOf
import Derived.WalkKit
import Derived.ProofKit
import Derived.OpenShut
import Derived.ShutString
import Derived.ChangeOld
import Derived.Below
import Derived.SizedLaws
namespace Go.Proofs.Yteknchhlineciaa.fnExactAttrOf
open Go.ChangeShapes Go.WideShapes Go.ChangeAt Go.RowKit
open Go.ChangeMaps (open_string shut_string)
set_option linter.unusedVariables false
theorem own : ownKnob Try.prog.godebug = none := by kernel_rfl
theorem laidOut : laidOutB Try.prog = true := by kernel_rfl
set_option maxRecDepth 100000 in
theorem lifted (os : Os) (started : os.Started) (H : Type) (enc : TypeId × Value → H) :
    ReturnsInHanded {} Try.checked os 4 .any (Rows.fnExactAttrOfSpec.pre6 enc Try.prog Try.f4 Rows.fnExactAttrOfRow.domain false) (Rows.fnExactAttrOfSpec.post enc Try.prog Try.f4 false true false false) := by
  refine returnsInHanded_of_change_sized (C := Try.checked) own started (by kernel_rfl) Try.func4
    (ChangeSpec.witness6 (enc := enc) (C := Try.checked) false ⟨#[], #[.agg #[.int .i64 0, .string ByteArray.empty, .slice none 0 0, .string ByteArray.empty], .string ByteArray.empty], []⟩ 8 (by kernel_rfl) (by kernel_rfl) (by kernel_rfl) (by kernel_rfl)) ?_
  intro W base args ds gs before hval0 hW hcnd hsz0 _
  have hsz : (DataW.weightsEach Try.prog (Try.f4.params.toList ++ Rows.fnExactAttrOfSpec.plain.varTypes Try.prog) (ds ++ gs)).all (· ≤ reachBytes) = true := hsz0
  have hval : ∀ (j : Nat) t v, Try.f4.params[j]? = some t → args[j]? = some v → Value.okWide Try.prog W .any base t v := hval0
  have hW' := hW
  obtain ⟨p, q, hA0, hV, rfl, hfz, hnd⟩ := hW
  have hA : DataW.TrodAll enc Try.prog W 0 (fun _ => true) true Try.f4.params.toList args.toList ds p := hA0
  rw [Try.params4] at hA hval hsz
  obtain ⟨v0, vs0, d0, ds0, p0, q0, hargs, rfl, rfl, h0, r0⟩ := trodAll_cons hA
  obtain ⟨v1, vs1, d1, ds1, p1, q1, rfl, rfl, rfl, h1, r1⟩ := trodAll_cons r0
  obtain ⟨rfl, rfl, rfl⟩ := trodAll_nil r1
  obtain rfl : args = #[v0, v1] := by cases args; simp_all
  obtain ⟨rfl, rfl⟩ := trodVars_none hV
  have k0 := h0
  have lt0 : ∀ x ∈ p0, x.block < W.heap.size := by obtain ⟨m, hm⟩ := k0; exact DataW.trod_lt m _ _ _ hm
  have k1 := h1
  have lt1 : ∀ x ∈ p1, x.block < W.heap.size := by obtain ⟨m, hm⟩ := k1; exact DataW.trod_lt m _ _ _ hm
  obtain ⟨x0, x1, A, l, c, x3, d0_, d2_, d3_, rfl, hcap, hK, rfl⟩ := AggT.open_token Try.underlying25 Try.underlying3 Try.underlying9 (by kernel_rfl) (by kernel_rfl) (by rfl) Try.underlying23 Try.underlying63 (by kernel_rfl) (by kernel_rfl) (by rfl) (hval 0 25 _ rfl rfl) h0
  have w1 : x1.size ≤ 140737488351232 := by
    have z := AggT.sized_token (i := 3) (s := 9) (t' := 23) hsz (j := 0) (t := 25) rfl rfl Try.underlying25 (by rfl)
    rw [Array.length_toList] at z
    exact z
  obtain ⟨b0, rfl, rfl, rfl, y1⟩ := open_string Try.underlying9 (hval 1 9 v1 rfl rfl) h1
  obtain ⟨k, hk⟩ := Pure.FnExactAttrOf x0 x1 l x3 b0 w1 hK.2.1
  clear hA0 hval0 hsz0 hsz
  refine (QFnExactAttrOf.laws_FnExactAttrOf.calls k x0 x1 A c l x3 b0 true W hK hcap hk).mono fun e W' ⟨he, bel⟩ => ?_
  subst he
  exact ⟨_, rfl, _, _, _, [], _, [], hW', trodAll_mk1 (shut_bool Try.underlying4 _), (trodAll_cons_mk (Below.trod laidOut (by kernel_rfl) (of_decide_eq_true (by kernel_rfl)) k0 bel lt0) (trodAll_cons_mk (Below.trod laidOut (by kernel_rfl) (of_decide_eq_true (by kernel_rfl)) k1 bel lt1) trodAll_mk0)), rfl, bel.frame _, fun h => by cases h⟩
theorem over : Rows.fnExactAttrOfRow.holds Try.pinned (OpenSpec.ofChange Rows.fnExactAttrOfSpec) :=
  OpenClaim.holds_of_wide 4 Try.f4 rfl rfl rfl rfl rfl rfl rfl ⟨rfl, rfl, rfl, rfl, rfl⟩ rfl rfl rfl rfl rfl (by kernel_rfl) Try.func4 (by kernel_rfl)
    (of_decide_eq_true (by kernel_rfl)) (by unfold Func.isWrapper; first | (rw [if_pos (by decide +kernel)]; kernel_rfl) | (rw [if_neg (by decide +kernel)]; exact ⟨rfl, rfl⟩))
    (fun os started H enc _ => lifted os started H enc)
theorem proved : Rows.FnExactAttrOfSaid := over
#print axioms proved
end Go.Proofs.Yteknchhlineciaa.fnExactAttrOf
namespace Go.Proofs.Yteknchhlineciaa
/-- The row, under a short name, for the claim. -/
theorem fnExactAttrOf_holds : Rows.FnExactAttrOfSaid := fnExactAttrOf.proved
end Go.Proofs.Yteknchhlineciaa
