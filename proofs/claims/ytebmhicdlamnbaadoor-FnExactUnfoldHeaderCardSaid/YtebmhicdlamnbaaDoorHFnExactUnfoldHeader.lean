/- A field's name: the reference's test and the program's say the same. Conditions: texts of at most 1048576 bytes. -/
import Derived.Test.YtebmhicdlamnbaaDoorVFnExactUnfoldHeader
namespace Go.Proofs.YtebmhicdlamnbaaDoor.HQFnExactUnfoldHeader
open Go.RowKit Go.Proofs.YtebmhicdlamnbaaDoor.QFnExactUnfoldHeader Go.Proofs.YtebmhicdlamnbaaDoorW.PrintWords Go.Proofs.YtebmhicdlamnbaaDoorW.PrintLast Go.Proofs.YtebmhicdlamnbaaDoorW.PrintMore
open Go.Proofs.YtebmhicdlamnbaaDoor.Evx Go.Proofs.YtebmhicdlamnbaaDoor.Bsx Go.Proofs.YtebmhicdlamnbaaDoor.Spl Go.Proofs.YtebmhicdlamnbaaDoor.VQFnExactUnfoldHeader
set_option linter.unusedSimpArgs false
set_option linter.unusedVariables false
/-- Right names of fields. -/
def hname (l : List Int) : Prop := (1 ≤ l.length ∧ l.length ≤ 40) ∧ within 33 126 l ∧ ¬ (58 : Int) ∈ l
instance (l : List Int) : Decidable (hname l) := by unfold hname; infer_instance
theorem index_one (c : UInt8) : ∀ l : List UInt8, Lib.index l [c] = Lib.indexByte l c
  | [] => rfl
  | b :: l => by
    by_cases h : b = c
    · subst h
      rw [Lib.index, Lib.indexByte, if_pos (by simp [List.isPrefixOf]), if_pos (by simp)]
    · have h1 : ([c] : List UInt8).isPrefixOf (b :: l) = false := by simp [List.isPrefixOf]; exact fun e => h e.symm
      have h2 : (b == c) = false := by simpa using h
      rw [Lib.index, Lib.indexByte, index_one c l, h1, h2]
      first | done | simp only [Bool.false_eq_true, if_false] | rfl
theorem colon_at (s : ByteArray) (hs : s.size ≤ 1048576) : strings_Contains.f s (⟨#[58]⟩ : ByteArray) = some (decide ((58 : Int) ∈ bs s)) := by
  unfold strings_Contains.f strings_Index.f stringslite_Index.f
  rw [if_pos (by omega)]
  simp only [Option.bind_some]
  refine congrArg some (decide_eq_decide.2 ?_)
  rw [index_one]
  exact (index_mem _ _).trans (mem_bs s 58)
theorem impl_hname (s : ByteArray) (hs : s.size ≤ 1048576) : Ev (fun k => impl_HeaderNameOK.f k s) (decide (hname (bs s))) := by
  have hbl := bs_length s
  unfold impl_HeaderNameOK.f
  have hw : impl_within.f (s.size : Int) 1 40 = some (decide (1 ≤ s.size ∧ s.size ≤ 40)) := by
    unfold impl_within.f
    split
    · refine congrArg some (decide_eq_decide.2 ?_); omega
    · exact congrArg some (decide_eq_false (by omega)).symm
  refine Evx.bindc hw ?_
  refine Evx.ite (fun a => ?_) (fun a => Evx.eq (Ev.now _) (decide_eq_false (fun e => a (decide_eq_true (by have := e.1; omega)))).symm)
  rw [decide_eq_true_eq] at a
  refine Ev.bind (all_within s hs 33 126) ?_
  refine Evx.ite (fun b => ?_) (fun b => Evx.eq (Ev.now _) (decide_eq_false (fun e => b (decide_eq_true e.2.1))).symm)
  rw [decide_eq_true_eq] at b
  refine Evx.bindc (colon_at s hs) (Evx.eq (Ev.now _) ?_)
  by_cases hc : (58 : Int) ∈ bs s
  · rw [decide_eq_true hc, decide_eq_false (fun e => e.2.2 hc)]; rfl
  · rw [decide_eq_false hc, decide_eq_true ⟨by omega, b, hc⟩]; rfl
theorem spec_hloop (s : ByteArray) (hs : s.size ≤ 1048576) : ∀ (n : Nat) (l : List Int) (p : Nat), l.length ≤ n → (bs s).drop p = l → Ev (fun k => spec_HeaderNameOK.l0 k s (p : Int)) (decide (within 33 126 l ∧ ¬ (58 : Int) ∈ l))
  | _, [], p, _, h => by
    have := drop_nil h
    refine Ev.step (fun k => by rw [spec_HeaderNameOK.l0]) ?_
    exact Evx.neg (by omega) (Evx.eq (Ev.now _) (decide_eq_true (by simp [within])).symm)
  | 0, _ :: _, _, h, _ => by simp at h
  | n + 1, c :: r, p, hn, h => by
    obtain ⟨g1, g2, g3, g4, g5⟩ := drop_cons h
    refine Ev.step (fun k => by rw [spec_HeaderNameOK.l0]) ?_
    rw [g1, Evx.w64 (i := (p : Int) + 1) (by omega) (by omega), Evx.w64 (i := c) (by omega) (by omega)]
    refine Evx.pos (by omega) (Evx.pos (by omega) (Evx.bindc (in_eq _ _ _) ?_))
    refine Evx.ite (fun a => ?_) (fun a => Evx.eq (Ev.now _) (decide_eq_false (fun e => a (decide_eq_true (within_cons.1 e.1).1))).symm)
    rw [decide_eq_true_eq] at a
    refine Evx.ite (fun b => Evx.eq (Ev.now _) (decide_eq_false (fun e => e.2 (by rw [b]; simp))).symm) (fun b => ?_)
    refine Evx.eq (spec_hloop s hs n r (p + 1) (by simpa using hn) g2) (decide_eq_decide.2 ?_)
    rw [within_cons, List.mem_cons]
    constructor
    · rintro ⟨x, y⟩; exact ⟨⟨a, x⟩, fun e => e.elim (fun q => b q.symm) y⟩
    · rintro ⟨x, y⟩; exact ⟨x.2, fun e => y (Or.inr e)⟩
theorem spec_hname (s : ByteArray) (hs : s.size ≤ 1048576) : Ev (fun k => spec_HeaderNameOK.f k s) (decide (hname (bs s))) := by
  have hbl := bs_length s
  unfold spec_HeaderNameOK.f
  refine Evx.ite (fun h => Evx.eq (Ev.now _) (decide_eq_false (fun e => by have := e.1; omega)).symm) (fun h => ?_)
  refine Evx.bindc (in_eq _ _ _) ?_
  refine Evx.ite (fun a => ?_) (fun a => Evx.eq (Ev.now _) (decide_eq_false (fun e => a (decide_eq_true (by have := e.1; omega)))).symm)
  rw [decide_eq_true_eq] at a
  refine Evx.eq (spec_hloop s hs s.size (bs s) 0 (by rw [bs_length]; omega) (by rw [List.drop_zero])) (decide_eq_decide.2 ?_)
  exact ⟨fun e => ⟨by omega, e.1, e.2⟩, fun e => e.2⟩
end Go.Proofs.YtebmhicdlamnbaaDoor.HQFnExactUnfoldHeader
