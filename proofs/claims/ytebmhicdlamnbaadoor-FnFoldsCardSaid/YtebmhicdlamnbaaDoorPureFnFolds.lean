/- The plain law of folds: a field is unfolded to its name and value, and its lines are short. Conditions: none. -/
import Derived.Test.YtebmhicdlamnbaaDoorTFnFolds
import Derived.Test.YtebmhicdlamnbaaDoorSFnFolds
namespace Go.Proofs.YtebmhicdlamnbaaDoor.Pure
open Go.RowKit Go.Proofs.YtebmhicdlamnbaaDoor.QFnFolds Go.Proofs.YtebmhicdlamnbaaDoorW.PrintWords Go.Proofs.YtebmhicdlamnbaaDoorW.PrintLast Go.Proofs.YtebmhicdlamnbaaDoorW.PrintMore Go.Proofs.YtebmhicdlamnbaaDoor.Evx Go.Proofs.YtebmhicdlamnbaaDoor.SQFnFolds Go.Proofs.YtebmhicdlamnbaaDoor.TQFnFolds
set_option linter.unusedSimpArgs false
set_option linter.unusedVariables false
theorem mem_ok (list : List ByteArray) (i : Int) (h0 : 0 ≤ i) (h1 : i < (list.length : Int)) : rdOf ByteArray.empty list i ∈ list := by
  unfold rdOf
  rw [List.getD_eq_getElem?_getD, List.getElem?_eq_getElem (by omega)]
  exact List.getElem_mem _
theorem at_ok (l : List Int) (hl : l.length ≤ 1048576) (hx : ∀ x ∈ l, 0 ≤ x ∧ x < 256) : ∃ t, laws_at.f l 0 3 = some t ∧ 0 ≤ t ∧ t < 3 := by
  have hr : ∀ i : Int, 0 ≤ i → i < (l.length : Int) → 0 ≤ rd l i ∧ rd l i < 256 := by
    intro i h0 h1
    unfold rd
    rw [List.getD_eq_getElem?_getD, List.getElem?_eq_getElem (by omega)]
    exact hx _ (List.getElem_mem _)
  unfold laws_at.f
  rw [if_neg (by omega)]
  by_cases h : (l.length : Int) = 0
  · rw [if_pos h, if_neg (by omega)]
    have e7 : wrap64 (0 * 7) = 0 := by unfold wrap64; omega
    rw [e7]
    exact ⟨_, rfl, by decide, by decide⟩
  · have e0 : Int.tmod 0 (l.length : Int) = 0 := Int.zero_tmod _
    have e1 : Int.tdiv 0 (l.length : Int) = 0 := Int.zero_tdiv _
    have e2 : wrap64 (0 + 1) = 1 := by unfold wrap64; omega
    have p1 : 0 ≤ Int.tmod 1 (l.length : Int) ∧ Int.tmod 1 (l.length : Int) < (l.length : Int) := ⟨Int.tmod_nonneg _ (by omega), Int.tmod_lt_of_pos _ (by omega)⟩
    have r0 := hr 0 (by omega) (by omega)
    have r1 := hr _ p1.1 p1.2
    rw [if_neg h, e0, e2, if_pos (by omega), if_pos (by omega), if_pos p1.1, if_pos p1.2, if_neg (by omega), e1]
    generalize rd l 0 = a at r0 ⊢
    generalize rd l (Int.tmod 1 (l.length : Int)) = b at r1 ⊢
    rw [Evx.w64 (i := a) (by omega) (by omega), Evx.w64 (i := b) (by omega) (by omega), Evx.w64 (i := a * 31) (by omega) (by omega), Evx.w64 (i := a * 31 + b) (by omega) (by omega), Evx.w64 (i := 0) (by omega) (by omega), Evx.w64 (i := a * 31 + b + 0) (by omega) (by omega)]
    exact ⟨_, rfl, Int.tmod_nonneg _ (by omega), Int.tmod_lt_of_pos _ (by omega)⟩
theorem value_ok {l : List Int} (hl : SQFnFolds.Code l) : ∃ v, spec_ValueOf.f 300 l = some v ∧ v ∈ VALS := by
  obtain ⟨r, a', s', e, h1, h2, h3⟩ := next_ok hl (a := 0) (s := (l.length : Int) % 1000) (n := 8) (by omega) (by omega) (by omega)
  have hm := mem_ok VALS r h1.1 (h1.2 (by omega))
  have hp : spec_l00Src_pick.f l 0 ((l.length : Int) % 1000) VALS = some (rdOf ByteArray.empty VALS r, a', s') := by
    unfold spec_l00Src_pick.f
    have e' : spec_l00Src_next.f l 0 ((l.length : Int) % 1000) ((VALS.length : Nat) : Int) = some (r, a', s') := e
    rw [if_neg (by decide), e', Option.bind_some, if_pos h1.1, if_pos (show (r, a', s').fst < ((VALS.length : Nat) : Int) from h1.2 (by omega))]
  have hv : spec_l00Src_value.f l 0 ((l.length : Int) % 1000) = some (rdOf ByteArray.empty VALS r, a', s') := by
    unfold spec_l00Src_value.f
    exact Option.bind_eq_some_iff.mpr ⟨_, hp, rfl⟩
  refine ⟨_, ?_, hm⟩
  unfold spec_ValueOf.f
  refine Option.bind_eq_some_iff.mpr ⟨_, rfl, Option.bind_eq_some_iff.mpr ⟨_, hv, Option.bind_eq_some_iff.mpr ⟨true, safe _ hm, ?_⟩⟩⟩
  rw [if_pos rfl]
theorem FnFolds : laws_FnFolds.Pure := by
  intro l0 l1 hm0 hs0 hw0 hm1 hs1 hw1
  have hx : ∀ (l : List Int), (∀ x ∈ l, (Lit.int .u8 x).wf = true) → ∀ x ∈ l, 0 ≤ x ∧ x < 256 := fun l hw x h => by
    have := hw x h
    simp [Lit.wf, IntKind.min, IntKind.max, IntKind.signed, IntKind.bits] at this
    omega
  refine ⟨301, ?_⟩
  unfold laws_FnFolds.f
  have tr : laws_FnFolds.j0 301 l0 l1 true = some true := by
    show laws_FnFolds.j0 (300 + 1) l0 l1 true = some true
    rw [laws_FnFolds.j0, if_pos rfl]
  by_cases h0 : (l0.length : Int) > 1048576
  · rw [if_pos h0]
    exact tr
  · rw [if_neg h0]
    by_cases h1 : (l1.length : Int) > 1048576
    · rw [decide_eq_true h1]
      exact tr
    · rw [decide_eq_false h1]
      obtain ⟨t, ht, t0, t3⟩ := at_ok l1 (by omega) (hx l1 hw1)
      obtain ⟨v, hv, hvm⟩ := value_ok (l := l0) ⟨by omega, hx l0 hw0⟩
      have hn := mem_ok NAMES t t0 t3
      have hall := all _ hn v hvm
      show laws_FnFolds.j0 (300 + 1) l0 l1 false = some true
      rw [laws_FnFolds.j0, if_neg (by simp)]
      refine Option.bind_eq_some_iff.mpr ⟨_, rfl, Option.bind_eq_some_iff.mpr ⟨_, ht, ?_⟩⟩
      rw [if_pos t0]
      refine Eq.trans (if_pos (show t < ((NAMES.length : Nat) : Int) from t3)) ?_
      refine Option.bind_eq_some_iff.mpr ⟨_, hv, ?_⟩
      exact hall
end Go.Proofs.YtebmhicdlamnbaaDoor.Pure
