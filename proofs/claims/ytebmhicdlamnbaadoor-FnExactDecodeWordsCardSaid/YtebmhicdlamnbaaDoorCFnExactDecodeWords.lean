/- The reference's parting of a text at a byte comes to the pieces of strings.Split. Conditions: texts of at most 1048576 bytes. -/
import Derived.Test.YtebmhicdlamnbaaDoorQFnExactDecodeWordsx
import Derived.Test.YtebmhicdlamnbaaDoorBsx
import Derived.Test.YtebmhicdlamnbaaDoorSpl
namespace Go.Proofs.YtebmhicdlamnbaaDoor.CQFnExactDecodeWords
open Go.RowKit Go.Proofs.YtebmhicdlamnbaaDoor.QFnExactDecodeWords Go.Proofs.YtebmhicdlamnbaaDoorW.PrintWords Go.Proofs.YtebmhicdlamnbaaDoorW.PrintLast Go.Proofs.YtebmhicdlamnbaaDoorW.PrintMore
open Go.Proofs.YtebmhicdlamnbaaDoor.Evx Go.Proofs.YtebmhicdlamnbaaDoor.Bsx Go.Proofs.YtebmhicdlamnbaaDoor.Spl
set_option linter.unusedSimpArgs false
set_option linter.unusedVariables false
/-- Numbers put ahead of the first piece. -/
def front (q : List Int) (ps : List (List Int)) : List (List Int) := (q ++ ps.headD []) :: ps.tail
theorem front_putOn {q : List Int} {c : Int} {ps : List (List Int)} : front q (putOn c ps) = front (q ++ [c]) ps := by simp [front, putOn]
theorem front_nil {ps : List (List Int)} (h : ps ≠ []) : front [] ps = ps := by
  cases ps with
  | nil => exact absurd rfl h
  | cons p ps => rfl
theorem bs_map_inj {xs ys : List ByteArray} (h : xs.map bs = ys.map bs) : xs = ys := List.map_inj_right (fun _ _ e => bs_inj e) |>.1 h
theorem cut_loop (s : ByteArray) (hs : s.size ≤ 1048576) (x : Int) (n : Nat) : ∀ (l : List Int) (a i : Nat) (acc : List ByteArray), l.length ≤ n → (bs s).drop i = l → a ≤ i → i ≤ s.size → acc.length ≤ i →
    ∃ R, Ev (fun k => spec_l00Cut.l0 k s x acc (a : Int) (i : Int)) R ∧ R.map bs = acc.map bs ++ front (((bs s).take i).drop a) (sp1 x l) := by
  have fin : ∀ (a i : Nat) (acc : List ByteArray), (bs s).drop i = [] → a ≤ i → i ≤ s.size → acc.length ≤ i →
      ∃ R, Ev (fun k => spec_l00Cut.l0 k s x acc (a : Int) (i : Int)) R ∧ R.map bs = acc.map bs ++ front (((bs s).take i).drop a) (sp1 x []) := by
    intro a i acc h ha hi hl
    have := drop_nil h
    refine ⟨acc ++ [s.extract a s.size], ?_, ?_⟩
    · refine Ev.step (fun k => by rw [spec_l00Cut.l0]) ?_
      refine Evx.neg (by omega) (Evx.pos (by omega) (Evx.pos (by omega) (Evx.pos (by omega) ?_)))
      rw [Int.toNat_natCast]
      exact Ev.now _
    · rw [List.map_append, List.map_singleton, bs_drop s _ _ (Nat.le_refl _), List.take_of_length_le (by rw [bs_length]; omega)]
      simp [front, sp1]
  induction n with
  | zero =>
    intro l a i acc hn h ha hi hl
    obtain rfl : l = [] := List.eq_nil_of_length_eq_zero (by omega)
    exact fin a i acc h ha hi hl
  | succ n ih =>
    intro l a i acc hn h ha hi hl
    cases l with
    | nil => exact fin a i acc h ha hi hl
    | cons c r =>
      obtain ⟨g1, g2, g3, g4, g5⟩ := drop_cons h
      have ht : (bs s).take (i + 1) = (bs s).take i ++ [c] := by
        rw [List.take_add_one]
        have : (bs s)[i]? = some c := by
          have := congrArg List.head? h
          rw [List.head?_drop] at this
          exact this
        rw [this]
        rfl
      by_cases hc : c = x
      · obtain ⟨R, e1, e2⟩ := ih r (i + 1) (i + 1) (acc ++ [s.extract a i]) (by simpa using hn) g2 (Nat.le_refl _) (by omega) (by simp; omega)
        refine ⟨R, ?_, ?_⟩
        · refine Ev.step (fun k => by rw [spec_l00Cut.l0]) ?_
          rw [g1, Evx.w64 (by omega) (by omega)]
          refine Evx.pos (by omega) (Evx.pos (by omega) (Evx.pos hc (Evx.pos (by omega) (Evx.pos (by omega) (Evx.pos (by omega) (Evx.pos (by omega) ?_))))))
          rw [Int.toNat_natCast, Int.toNat_natCast]
          exact e1
        · rw [e2, sp1, if_pos hc, List.drop_eq_nil_of_le (by rw [List.length_take]; omega), front_nil (sp1_ne x r), List.map_append, List.map_singleton, bs_extract]
          simp [front]
      · obtain ⟨R, e1, e2⟩ := ih r a (i + 1) acc (by simpa using hn) g2 (by omega) (by omega) (by omega)
        refine ⟨R, ?_, ?_⟩
        · refine Ev.step (fun k => by rw [spec_l00Cut.l0]) ?_
          rw [g1, Evx.w64 (by omega) (by omega)]
          exact Evx.pos (by omega) (Evx.pos (by omega) (Evx.neg hc e1))
        · rw [e2, sp1, if_neg hc, front_putOn, ht, List.drop_append_of_le_length (by rw [List.length_take, bs_length]; omega)]
theorem cut_eq (s : ByteArray) (hs : s.size ≤ 1048576) (x : UInt8) : Ev (fun k => spec_l00Cut.f k s (x.toNat : Int)) (Go.Lib.splitB ⟨#[x]⟩ 0 (Go.Lib.countB s ⟨#[x]⟩) s) := by
  obtain ⟨R, e1, e2⟩ := cut_loop s hs (x.toNat : Int) s.size (bs s) 0 0 [] (by rw [bs_length]; omega) (by rw [List.drop_zero]) (Nat.le_refl _) (Nat.zero_le _) (by simp)
  have e3 : R = Go.Lib.splitB ⟨#[x]⟩ 0 (Go.Lib.countB s ⟨#[x]⟩) s := by
    apply bs_map_inj
    rw [e2, pieces1, List.take_zero, List.drop_nil, front_nil (sp1_ne _ _)]
    rfl
  rw [← e3]
  unfold spec_l00Cut.f
  exact e1
end Go.Proofs.YtebmhicdlamnbaaDoor.CQFnExactDecodeWords
