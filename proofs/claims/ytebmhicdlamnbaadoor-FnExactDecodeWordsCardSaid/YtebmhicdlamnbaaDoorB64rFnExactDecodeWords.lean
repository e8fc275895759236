/- The base 64 text of bytes: the reference's function and the program's both give 'enc'. Conditions: bytes, at most 1048576 of them. -/
import Derived.Test.YtebmhicdlamnbaaDoorQFnExactDecodeWordsx
import Derived.Test.YtebmhicdlamnbaaDoorEvx
namespace Go.Proofs.YtebmhicdlamnbaaDoor.BQFnExactDecodeWords
open Go.RowKit Go.Proofs.YtebmhicdlamnbaaDoor.QFnExactDecodeWords Go.Proofs.YtebmhicdlamnbaaDoorW.PrintWords Go.Proofs.YtebmhicdlamnbaaDoorW.PrintLast Go.Proofs.YtebmhicdlamnbaaDoorW.PrintMore
set_option linter.unusedSimpArgs false
set_option linter.unusedVariables false

/-- The sixty-four signs. -/
def signs : ByteArray := (⟨#[65, 66, 67, 68, 69, 70, 71, 72, 73, 74, 75, 76, 77, 78, 79, 80, 81, 82, 83, 84, 85, 86, 87, 88, 89, 90, 97, 98, 99, 100, 101, 102, 103, 104, 105, 106, 107, 108, 109, 110, 111, 112, 113, 114, 115, 116, 117, 118, 119, 120, 121, 122, 48, 49, 50, 51, 52, 53, 54, 55, 56, 57, 43, 47]⟩ : ByteArray)
/-- The sign of a number below 64. -/
def sg (i : Int) : Int := bt signs i
/-- The base 64 text of bytes. -/
def enc : List Int → List Int
  | [] => []
  | [a] => [sg (a / 4), sg (a % 4 * 16), 61, 61]
  | [a, b] => [sg (a / 4), sg (a % 4 * 16 + b / 16), sg (b % 16 * 4), 61]
  | a :: b :: c :: r => sg (a / 4) :: sg (a % 4 * 16 + b / 16) :: sg (b % 16 * 4 + c / 64) :: sg (c % 64) :: enc r
theorem enc_length (l : List Int) : (enc l).length = (l.length + 2) / 3 * 4 := by
  induction l using enc.induct with
  | case1 => rfl
  | case2 => simp [enc]
  | case3 => simp [enc]
  | case4 a b c r ih => simp only [enc, List.length_cons, ih]; omega
theorem and63 (n : Int) (h0 : 0 ≤ n) (h1 : n < 2 ^ 62) : Go.bits .and .i64 n 63 = n % 64 :=
  bits_mask .i64 62 (by decide) (fun n h0 h1 => by rw [IntKind.wrap_i64]; omega) 6 (by decide) n h0 h1
theorem rd_at (pre : List Int) (a : Int) (r : List Int) (j : Nat) (h : j < r.length + 1) : rd (pre ++ a :: r) ((pre.length : Int) + (j : Int)) = (a :: r).getD j 0 := by
  unfold rd
  rw [show ((pre.length : Int) + (j : Int)).toNat = pre.length + j by omega, List.getD_eq_getElem?_getD, List.getElem?_append_right (by omega), List.getD_eq_getElem?_getD]
  simp
section
variable {xs out : List Int} {p n : Int} {r : ByteArray}
theorem i1_in {j : Int} (hl : xs.length ≤ 1048576) (hx : ∀ x ∈ xs, 0 ≤ x ∧ x < 256) (hp : 0 ≤ p) (hj : 0 ≤ j) (hj3 : j < 3) (hn : 0 ≤ n ∧ n < 65536) (hin : p + j < xs.length)
    (h : Ev (fun k => impl_base64Text.l1 k xs out p (n * 256 + rd xs (p + j)) (j + 1)) r) : Ev (fun k => impl_base64Text.l1 k xs out p n j) r := by
  have hb : 0 ≤ rd xs (p + j) ∧ rd xs (p + j) < 256 := by
    unfold rd
    rw [List.getD_eq_getElem?_getD, List.getElem?_eq_getElem (by omega)]
    exact hx _ (List.getElem_mem _)
  refine Ev.step (fun k => by rw [impl_base64Text.l1]) ?_
  rw [Evx.w64 (i := p + j) (by omega) (by omega), Evx.w64 (i := n * 256) (by omega) (by omega), Evx.w64 (i := rd xs (p + j)) (by omega) (by omega), Evx.w64 (i := n * 256 + rd xs (p + j)) (by omega) (by omega), Evx.w64 (i := j + 1) (by omega) (by omega)]
  exact Evx.pos hj3 (Evx.pos hin (Evx.pos (by omega) h))
theorem i1_out {j : Int} (hl : xs.length ≤ 1048576) (hp : 0 ≤ p) (hp2 : p ≤ xs.length) (hj : 0 ≤ j) (hj3 : j < 3) (hn : 0 ≤ n ∧ n < 65536) (hin : ¬ p + j < xs.length)
    (h : Ev (fun k => impl_base64Text.l1 k xs out p (n * 256) (j + 1)) r) : Ev (fun k => impl_base64Text.l1 k xs out p n j) r := by
  refine Ev.step (fun k => by rw [impl_base64Text.l1]) ?_
  rw [Evx.w64 (i := p + j) (by omega) (by omega), Evx.w64 (i := n * 256) (by omega) (by omega), Evx.w64 (i := j + 1) (by omega) (by omega)]
  exact Evx.pos hj3 (Evx.neg hin h)
theorem i1_end (h : Ev (fun k => impl_base64Text.l2 k xs out p n 0) r) : Ev (fun k => impl_base64Text.l1 k xs out p n 3) r := by
  refine Ev.step (fun k => by rw [impl_base64Text.l1]) ?_
  exact Evx.neg (by omega) h
theorem i2_pad {j : Int} (hl : xs.length ≤ 1048576) (hp : 0 ≤ p) (hp2 : p ≤ xs.length) (hj : 0 ≤ j) (hj4 : j < 4) (ho : out.length ≤ 4000000) (hin : p + j > xs.length)
    (h : Ev (fun k => impl_base64Text.l2 k xs (out ++ [61]) p n (j + 1)) r) : Ev (fun k => impl_base64Text.l2 k xs out p n j) r := by
  refine Ev.step (fun k => by rw [impl_base64Text.l2]) ?_
  rw [Evx.w64 (i := p + j) (by omega) (by omega), Evx.w64 (i := j + 1) (by omega) (by omega)]
  exact Evx.pos hj4 (Evx.pos hin (Evx.pos (by omega) h))
theorem i2_sign {j : Int} {m : Int} (hl : xs.length ≤ 1048576) (hp : 0 ≤ p) (hp2 : p ≤ xs.length) (hj : 0 ≤ j) (hj4 : j < 4) (ho : out.length ≤ 4000000) (hn : 0 ≤ n ∧ n < 16777216) (hin : ¬ p + j > xs.length)
    (hm : n / 2 ^ (18 - 6 * j).toNat % 64 = m)
    (h : Ev (fun k => impl_base64Text.l2 k xs (out ++ [sg m]) p n (j + 1)) r) : Ev (fun k => impl_base64Text.l2 k xs out p n j) r := by
  refine Ev.step (fun k => by rw [impl_base64Text.l2]) ?_
  have hw : wrap64 (18 - wrap64 (6 * j)) = 18 - 6 * j := by unfold wrap64; omega
  have hs : shr .i64 n (18 - 6 * j) = n / 2 ^ (18 - 6 * j).toNat := by
    unfold shr
    rw [Nat.min_eq_left (by show (18 - 6 * j).toNat ≤ 64; omega)]
  have hq : 0 ≤ n / 2 ^ (18 - 6 * j).toNat ∧ n / 2 ^ (18 - 6 * j).toNat ≤ n := by
    have hpos : (0 : Int) < 2 ^ (18 - 6 * j).toNat := Int.pow_pos (by decide)
    exact ⟨Int.ediv_nonneg hn.1 (Int.le_of_lt hpos), Int.ediv_le_self _ hn.1⟩
  have hb : Go.bits .and .i64 (shr .i64 n (18 - 6 * j)) 63 = m := by
    rw [hs, and63 _ hq.1 (by omega), hm]
  rw [Evx.w64 (i := p + j) (by omega) (by omega), hw, hb, Evx.w64 (i := j + 1) (by omega) (by omega)]
  have hm2 : 0 ≤ m ∧ m < 64 := by omega
  exact Evx.pos hj4 (Evx.neg hin (Evx.pos (by omega) (Evx.pos hm2.1 (Evx.pos hm2.2 (Evx.pos (by omega) h)))))
theorem i2_end (hp : 0 ≤ p ∧ p ≤ 1048576) (h : Ev (fun k => impl_base64Text.l0 k xs out (p + 3)) r) : Ev (fun k => impl_base64Text.l2 k xs out p n 4) r := by
  refine Ev.step (fun k => by rw [impl_base64Text.l2]) ?_
  rw [Evx.w64 (i := p + 3) (by omega) (by omega)]
  exact Evx.neg (by omega) h
end
theorem impl_from (rest : List Int) : ∀ (pre out : List Int), (pre ++ rest).length ≤ 1048576 → (∀ x ∈ pre ++ rest, 0 ≤ x ∧ x < 256) → out.length ≤ 2 * pre.length →
    Ev (fun k => impl_base64Text.l0 k (pre ++ rest) out (pre.length : Int)) (strOfNums (out ++ enc rest)) := by
  induction rest using enc.induct with
  | case1 =>
    intro pre out hl hx ho
    refine Ev.step (fun k => by rw [impl_base64Text.l0]) ?_
    simp only [List.append_nil, enc]
    exact Evx.neg (by omega) (Ev.now _)
  | case2 a =>
    intro pre out hl hx ho
    have ha := hx a (by simp)
    have hlen : (pre ++ [a]).length = pre.length + 1 := by simp
    refine Ev.step (fun k => by rw [impl_base64Text.l0]) ?_
    refine Evx.pos (by omega) ?_
    refine i1_in hl hx (by omega) (by omega) (by omega) (by omega) (by omega) ?_
    rw [show (pre.length : Int) + 0 = (pre.length : Int) + ((0 : Nat) : Int) from rfl, rd_at _ _ _ 0 (by simp)]
    refine i1_out hl (by omega) (by omega) (by omega) (by omega) (by simp <;> omega) (by omega) ?_
    refine i1_out hl (by omega) (by omega) (by omega) (by omega) (by simp <;> omega) (by omega) ?_
    refine i1_end ?_
    simp only [List.getD_cons_zero]
    refine i2_sign (m := a / 4) hl (by omega) (by omega) (by omega) (by omega) (by omega) (by omega) (by omega) (by simp only [Int.reduceMul, Int.reduceSub, Int.reduceToNat, Int.reducePow]; omega) ?_
    refine i2_sign (m := a % 4 * 16) hl (by omega) (by omega) (by omega) (by omega) (by simp <;> omega) (by omega) (by omega) (by simp only [Int.reduceAdd, Int.reduceMul, Int.reduceSub, Int.reduceToNat, Int.reducePow]; omega) ?_
    refine i2_pad hl (by omega) (by omega) (by omega) (by omega) (by simp <;> omega) (by omega) ?_
    refine i2_pad hl (by omega) (by omega) (by omega) (by omega) (by simp <;> omega) (by omega) ?_
    refine i2_end (by omega) ?_
    refine Ev.step (fun k => by rw [impl_base64Text.l0]) ?_
    refine Evx.neg (by omega) (Evx.eq (Ev.now _) ?_)
    simp [enc]
  | case3 a b =>
    intro pre out hl hx ho
    have ha := hx a (by simp)
    have hb := hx b (by simp)
    have hlen : (pre ++ [a, b]).length = pre.length + 2 := by simp
    refine Ev.step (fun k => by rw [impl_base64Text.l0]) ?_
    refine Evx.pos (by omega) ?_
    refine i1_in hl hx (by omega) (by omega) (by omega) (by omega) (by omega) ?_
    rw [show (pre.length : Int) + 0 = (pre.length : Int) + ((0 : Nat) : Int) from rfl, rd_at _ _ _ 0 (by simp)]
    refine i1_in hl hx (by omega) (by omega) (by omega) (by simp <;> omega) (by omega) ?_
    rw [show (pre.length : Int) + (0 + 1) = (pre.length : Int) + ((1 : Nat) : Int) from rfl, rd_at _ _ _ 1 (by simp)]
    refine i1_out hl (by omega) (by omega) (by omega) (by omega) (by simp <;> omega) (by omega) ?_
    refine i1_end ?_
    simp only [List.getD_cons_zero, List.getD_cons_succ]
    refine i2_sign (m := a / 4) hl (by omega) (by omega) (by omega) (by omega) (by omega) (by omega) (by omega) (by simp only [Int.reduceMul, Int.reduceSub, Int.reduceToNat, Int.reducePow]; omega) ?_
    refine i2_sign (m := a % 4 * 16 + b / 16) hl (by omega) (by omega) (by omega) (by omega) (by simp <;> omega) (by omega) (by omega) (by simp only [Int.reduceAdd, Int.reduceMul, Int.reduceSub, Int.reduceToNat, Int.reducePow]; omega) ?_
    refine i2_sign (m := b % 16 * 4) hl (by omega) (by omega) (by omega) (by omega) (by simp <;> omega) (by omega) (by omega) (by simp only [Int.reduceAdd, Int.reduceMul, Int.reduceSub, Int.reduceToNat, Int.reducePow]; omega) ?_
    refine i2_pad hl (by omega) (by omega) (by omega) (by omega) (by simp <;> omega) (by omega) ?_
    refine i2_end (by omega) ?_
    refine Ev.step (fun k => by rw [impl_base64Text.l0]) ?_
    refine Evx.neg (by omega) (Evx.eq (Ev.now _) ?_)
    simp [enc]
  | case4 a b c r ih =>
    intro pre out hl hx ho
    have ha := hx a (by simp)
    have hb := hx b (by simp)
    have hc := hx c (by simp)
    have hlen : (pre ++ a :: b :: c :: r).length = pre.length + 3 + r.length := by simp; omega
    have hpre : (pre ++ [a, b, c]) ++ r = pre ++ a :: b :: c :: r := by simp
    have next := ih (pre ++ [a, b, c]) (out ++ [sg (a / 4), sg (a % 4 * 16 + b / 16), sg (b % 16 * 4 + c / 64), sg (c % 64)]) (by rw [hpre]; exact hl) (by rw [hpre]; exact hx) (by simp <;> omega)
    rw [hpre] at next
    refine Ev.step (fun k => by rw [impl_base64Text.l0]) ?_
    refine Evx.pos (by omega) ?_
    refine i1_in hl hx (by omega) (by omega) (by omega) (by omega) (by omega) ?_
    rw [show (pre.length : Int) + 0 = (pre.length : Int) + ((0 : Nat) : Int) from rfl, rd_at _ _ _ 0 (by simp)]
    refine i1_in hl hx (by omega) (by omega) (by omega) (by simp <;> omega) (by omega) ?_
    rw [show (pre.length : Int) + (0 + 1) = (pre.length : Int) + ((1 : Nat) : Int) from rfl, rd_at _ _ _ 1 (by simp)]
    refine i1_in hl hx (by omega) (by omega) (by omega) (by simp <;> omega) (by omega) ?_
    rw [show (pre.length : Int) + (0 + 1 + 1) = (pre.length : Int) + ((2 : Nat) : Int) from rfl, rd_at _ _ _ 2 (by simp)]
    refine i1_end ?_
    simp only [List.getD_cons_zero, List.getD_cons_succ]
    refine i2_sign (m := a / 4) hl (by omega) (by omega) (by omega) (by omega) (by omega) (by omega) (by omega) (by simp only [Int.reduceMul, Int.reduceSub, Int.reduceToNat, Int.reducePow]; omega) ?_
    refine i2_sign (m := a % 4 * 16 + b / 16) hl (by omega) (by omega) (by omega) (by omega) (by simp <;> omega) (by omega) (by omega) (by simp only [Int.reduceAdd, Int.reduceMul, Int.reduceSub, Int.reduceToNat, Int.reducePow]; omega) ?_
    refine i2_sign (m := b % 16 * 4 + c / 64) hl (by omega) (by omega) (by omega) (by omega) (by simp <;> omega) (by omega) (by omega) (by simp only [Int.reduceAdd, Int.reduceMul, Int.reduceSub, Int.reduceToNat, Int.reducePow]; omega) ?_
    refine i2_sign (m := c % 64) hl (by omega) (by omega) (by omega) (by omega) (by simp <;> omega) (by omega) (by omega) (by simp only [Int.reduceAdd, Int.reduceMul, Int.reduceSub, Int.reduceToNat, Int.reducePow]; omega) ?_
    refine i2_end (by omega) ?_
    refine Evx.eq (Evx.fn next ?_) ?_
    · simp
    · simp [enc]
theorem impl_b64 (xs : List Int) (hl : xs.length ≤ 1048576) (hx : ∀ x ∈ xs, 0 ≤ x ∧ x < 256) : Ev (fun k => impl_base64Text.f k xs) (strOfNums (enc xs)) := by
  unfold impl_base64Text.f
  exact impl_from xs [] [] hl hx (by simp)
end Go.Proofs.YtebmhicdlamnbaaDoor.BQFnExactDecodeWords
