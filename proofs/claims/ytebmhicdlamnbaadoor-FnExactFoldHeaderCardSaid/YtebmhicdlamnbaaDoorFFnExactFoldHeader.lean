/- A field folded: the reference writes what the program writes. Conditions: texts of at most 65536 bytes. -/
import Derived.Test.YtebmhicdlamnbaaDoorCFnExactFoldHeader
namespace Go.Proofs.YtebmhicdlamnbaaDoor.FQFnExactFoldHeader
open Go.RowKit Go.Proofs.YtebmhicdlamnbaaDoor.QFnExactFoldHeader Go.Proofs.YtebmhicdlamnbaaDoorW.PrintWords Go.Proofs.YtebmhicdlamnbaaDoorW.PrintLast Go.Proofs.YtebmhicdlamnbaaDoorW.PrintMore
open Go.Proofs.YtebmhicdlamnbaaDoor.Evx Go.Proofs.YtebmhicdlamnbaaDoor.Bsx Go.Proofs.YtebmhicdlamnbaaDoor.Spl Go.Proofs.YtebmhicdlamnbaaDoor.CQFnExactFoldHeader
set_option linter.unusedSimpArgs false
set_option linter.unusedVariables false
/-- The text of bytes. -/
def tx (l : List UInt8) : ByteArray := ⟨l.toArray⟩
theorem tx_size (l : List UInt8) : (tx l).size = l.length := by rw [size_eq]; rfl
theorem tx_append (l m : List UInt8) : tx l ++ tx m = tx (l ++ m) := by
  apply ByteArray.ext
  rw [ByteArray.data_append]
  simp [tx]
theorem tx_data (s : ByteArray) : s = tx s.data.toList := rfl
theorem word (x : ByteArray) : (⟨#[32]⟩ : ByteArray) ++ x = tx (32 :: x.data.toList) := tx_append [32] x.data.toList
set_option maxHeartbeats 1000000 in
theorem spec_loop (xs : List ByteArray) (hl : xs.length ≤ 65537) (hx : ∀ x ∈ xs, x.size ≤ 65536) : ∀ (d i : Nat) (col : Nat) (acc : List UInt8), i + d = xs.length → col ≤ 65537 + i * 65537 → acc.length ≤ 65537 + i * 65539 →
    Ev (fun k => spec_l03Fold.l0 k (tx acc) (col : Int) xs (i : Int)) (tx (impl_fold.go (xs.drop i) (decide (i = 0)) col acc ++ [13, 10]))
  | 0, i, col, acc, h, hc, ha => by
    have : i * 65539 ≤ 65537 * 65539 := Nat.mul_le_mul_right _ (by omega)
    have hz := tx_size acc
    refine Ev.step (fun k => by rw [spec_l03Fold.l0]) ?_
    refine Evx.neg (by omega) (Evx.pos (by omega) (Evx.eq (Ev.now _) ?_))
    rw [List.drop_eq_nil_of_le (by omega), impl_fold.go, ← tx_append]
    rfl
  | d + 1, i, col, acc, h, hc, ha => by
    have hi : i < xs.length := by omega
    have b1 : i * 65539 ≤ 65537 * 65539 := Nat.mul_le_mul_right _ (by omega)
    have b2 : i * 65537 ≤ 65537 * 65537 := Nat.mul_le_mul_right _ (by omega)
    have hz := tx_size acc
    have hxs := hx xs[i] (List.getElem_mem hi)
    have e : rdOf ByteArray.empty xs (i : Int) = xs[i] := by
      unfold rdOf
      rw [Int.toNat_natCast, List.getD_eq_getElem?_getD, List.getElem?_eq_getElem hi]
      rfl
    refine Ev.step (fun k => by rw [spec_l03Fold.l0]) ?_
    rw [e, word, List.drop_eq_getElem_cons hi, Evx.w64 (i := (i : Int) + 1) (by omega) (by omega), Evx.w64 (i := (col : Int) + 1) (by omega) (by omega), Evx.w64 (i := (col : Int) + 1 + (xs[i].size : Int)) (by omega) (by omega), Evx.w64 (i := 1 + (xs[i].size : Int)) (by omega) (by omega), Evx.w64 (i := 0 + (1 + (xs[i].size : Int))) (by omega) (by omega), Evx.w64 (i := (col : Int) + (1 + (xs[i].size : Int))) (by omega) (by omega)]
    have hzl : xs[i].data.toList.length = xs[i].size := (size_eq _).symm
    have stay : ¬ (decide (i = 0) = false ∧ 78 < col + 1 + xs[i].size) → Ev (fun k => if 1 + xs[i].size ≤ 9223372036854775807 then (if (tx acc).size + (tx (32 :: xs[i].data.toList)).size ≤ 9223372036854775807 then (spec_l03Fold.l0 k (tx acc ++ tx (32 :: xs[i].data.toList)) ((col : Int) + (1 + (xs[i].size : Int))) xs ((i : Int) + 1)) else none) else none) (tx (impl_fold.go (xs[i] :: xs.drop (i + 1)) (decide (i = 0)) col acc ++ [13, 10])) := by
      intro hb
      have hz2 := tx_size (32 :: xs[i].data.toList)
      rw [List.length_cons, hzl] at hz2
      refine Evx.pos (by omega) (Evx.pos (by omega) ?_)
      rw [impl_fold.go, if_neg hb, tx_append]
      have := spec_loop xs hl hx d (i + 1) (col + 1 + xs[i].size) (acc ++ 32 :: xs[i].data.toList) (by omega) (by omega) (by rw [List.length_append, List.length_cons, hzl]; omega)
      rw [show decide (i + 1 = 0) = false from decide_eq_false (by omega)] at this
      exact Evx.fn this (by funext k; congr 1; omega)
    refine Evx.pos (by omega) ?_
    refine Evx.ite (fun a => ?_) (fun a => ?_)
    · have hi0 : decide (i = 0) = false := decide_eq_false (by omega)
      refine Evx.pos (by omega) ?_
      refine Evx.ite (fun b => ?_) (fun b => stay (fun q => by have := q.2; omega))
      have hz2 := tx_size (32 :: xs[i].data.toList)
      rw [List.length_cons, hzl] at hz2
      have e2 : tx acc ++ (⟨#[13, 10]⟩ : ByteArray) = tx (acc ++ [13, 10]) := tx_append acc [13, 10]
      have hz3 := tx_size (acc ++ [13, 10])
      rw [List.length_append, List.length_cons, List.length_singleton] at hz3
      rw [e2]
      refine Evx.pos (by omega) (Evx.pos (by omega) (Evx.pos (by omega) ?_))
      rw [impl_fold.go, if_pos ⟨hi0, by omega⟩, tx_append]
      have := spec_loop xs hl hx d (i + 1) (1 + xs[i].size) (acc ++ [13, 10] ++ 32 :: xs[i].data.toList) (by omega) (by omega) (by simp only [List.length_append, List.length_cons, List.length_nil, hzl]; omega)
      rw [show decide (i + 1 = 0) = false from decide_eq_false (by omega)] at this
      exact Evx.fn this (by funext k; congr 1; omega)
    · refine Evx.pos (by omega) (stay (fun q => ?_))
      have := of_decide_eq_false q.1
      omega
theorem spec_fold (s t : ByteArray) (hs : s.size ≤ 65536) (ht : t.size ≤ 65536) : ∃ r, impl_fold.f s t = some r ∧ Ev (fun k => spec_l03Fold.f k s t) r := by
  have hle := Go.Lib.countB_le ⟨#[32]⟩ (by decide) t.size t (Nat.le_refl _)
  have hl := Go.Lib.splitB_all ⟨#[32]⟩ (by decide) 0 _ t rfl
  refine ⟨_, by unfold impl_fold.f; rw [if_pos ⟨by omega, by omega⟩], ?_⟩
  unfold spec_l03Fold.f
  refine Evx.pos (by omega) (Ev.bind (cut_eq t (by omega) 32) ?_)
  have e1 : s ++ (⟨#[58]⟩ : ByteArray) = tx (s.data.toList ++ [58]) := tx_append s.data.toList [58]
  have hz := tx_size (s.data.toList ++ [58])
  rw [List.length_append, ← size_eq, List.length_singleton] at hz
  rw [e1, hz]
  refine Evx.eq (spec_loop _ (by omega) (fun x hx => Nat.le_trans (Glob.split_le _ _ _ x hx) ht) _ 0 (s.size + 1) (s.data.toList ++ [58]) (Nat.zero_add _) (by omega) (by rw [List.length_append, ← size_eq, List.length_singleton]; omega)) ?_
  rfl
end Go.Proofs.YtebmhicdlamnbaaDoor.FQFnExactFoldHeader
