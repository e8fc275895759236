/- The reference's reader of one rune agrees with the model's decoding. Conditions: texts below 2^62 bytes. -/
import Derived.Test.YteknchhlineciaaDoorQFnExactEscapeXmlx
import Derived.Test.YteknchhlineciaaDoorEvx
import Derived.Lib.ValidLaws
import Derived.Lib.TrimUEq
namespace Go.Proofs.YteknchhlineciaaDoor.U8QFnExactEscapeXml
open Go.RowKit Go.Proofs.YteknchhlineciaaDoor.QFnExactEscapeXml Go.Proofs.YteknchhlineciaaDoorW.PrintWords Go.Proofs.YteknchhlineciaaDoorW.PrintLast
set_option linter.unusedSimpArgs false
set_option linter.unusedVariables false
theorem in_eq (a b c : Int) : spec_l01In.f a b c = some (decide (b ≤ a ∧ a ≤ c)) := by
  unfold spec_l01In.f
  split <;> simp <;> omega
theorem in_yes {a b c : Int} (h : b ≤ a ∧ a ≤ c) : spec_l01In.f a b c = some true := by rw [in_eq, decide_eq_true h]
theorem in_no {a b c : Int} (h : ¬ (b ≤ a ∧ a ≤ c)) : spec_l01In.f a b c = some false := by rw [in_eq, decide_eq_false h]
/-- How many bytes a scalar value takes; 0 at any other number. -/
def rs (a : Int) : Int := if (0 ≤ a ∧ a ≤ 55295) ∨ (57344 ≤ a ∧ a ≤ 1114111) then (if a < 128 then 1 else if a < 2048 then 2 else if a < 65536 then 3 else 4) else 0
theorem size_eq (a : Int) : spec_RuneSize.f a = some (rs a) := by
  unfold spec_RuneSize.f spec_l01Scalar.f rs
  simp only [in_eq, Option.bind_some]
  by_cases h : 0 ≤ a ∧ a ≤ 55295
  · simp [h]; repeat' split
    all_goals rfl
  · by_cases h2 : 57344 ≤ a ∧ a ≤ 1114111
    · simp [h, h2]; repeat' split
      all_goals rfl
    · simp [h, h2]
/-- The byte at a place, as a natural number. -/
def b (s : ByteArray) (i : Nat) : Nat := (s.data.toList.getD i 0).toNat
theorem b_lt (s : ByteArray) (i : Nat) : b s i < 256 := (s.data.toList.getD i 0).toNat_lt
theorem bt_b (s : ByteArray) (i : Nat) : bt s (i : Int) = (b s i : Int) := by
  rw [Evx.bt_bs, Int.toNat_natCast]
  unfold Evx.bs b
  rw [List.getD_eq_getElem?_getD, List.getElem?_map, List.getD_eq_getElem?_getD]
  cases s.data.toList[i]? <;> rfl
theorem w_b (s : ByteArray) (i : Nat) : wrap64 (bt s (i : Int)) = (b s i : Int) := by
  have := b_lt s i
  rw [bt_b, Evx.w64 (by omega) (by omega)]
section
variable {s : ByteArray} {p n : Nat} (hs : s.size ≤ 4611686018427387904)
include hs
/-- One byte further. -/
theorem loop_in {r j : Nat} {R} (hj : j < n) (hn : n ≤ 4) (hp : p + n ≤ s.size) (hr : r ≤ 100000000) (hb : 128 ≤ b s (p + j) ∧ b s (p + j) ≤ 191)
    (k : Ev (fun k => spec_l01Rune.l0 k s p n ((r * 64 + b s (p + j) - 128 : Nat) : Int) ((j + 1 : Nat) : Int)) R) : Ev (fun k => spec_l01Rune.l0 k s p n (r : Int) (j : Int)) R := by
  refine Ev.step (fun k => by rw [spec_l01Rune.l0]) ?_
  have e1 : wrap64 ((p : Int) + (j : Int)) = ((p + j : Nat) : Int) := by rw [Evx.w64 (by omega) (by omega)]; omega
  have e2 : wrap64 (wrap64 (wrap64 ((r : Int) * 64) + (b s (p + j) : Int)) - 128) = ((r * 64 + b s (p + j) - 128 : Nat) : Int) := by
    rw [Evx.w64 (i := (r : Int) * 64) (by omega) (by omega), Evx.w64 (i := (r : Int) * 64 + (b s (p + j) : Int)) (by omega) (by omega), Evx.w64 (by omega) (by omega)]
    omega
  have e3 : wrap64 ((j : Int) + 1) = ((j + 1 : Nat) : Int) := by rw [Evx.w64 (by omega) (by omega)]; omega
  rw [e1, w_b, e2, e3]
  clear e1 e2 e3
  refine Evx.pos (by omega) (Evx.pos (by omega) (Evx.pos (by omega) (Evx.bindc (in_yes (by omega)) (Evx.pos rfl k))))
theorem loop_out {r j : Nat} (hj : j < n) (hn : n ≤ 4) (hp : p + n ≤ s.size) (hb : ¬ (128 ≤ b s (p + j) ∧ b s (p + j) ≤ 191)) :
    Ev (fun k => spec_l01Rune.l0 k s p n (r : Int) (j : Int)) (0, 1, false) := by
  refine Ev.step (fun k => by rw [spec_l01Rune.l0]) ?_
  have e1 : wrap64 ((p : Int) + (j : Int)) = ((p + j : Nat) : Int) := by rw [Evx.w64 (by omega) (by omega)]; omega
  rw [e1, w_b]
  clear e1
  refine Evx.pos (by omega) (Evx.pos (by omega) (Evx.pos (by omega) (Evx.bindc (in_no (by omega)) (Evx.neg (by simp) (Ev.now _)))))
omit hs in
theorem loop_end {r : Nat} : Ev (fun k => spec_l01Rune.l0 k s p n (r : Int) (n : Int)) (if rs r = n then ((r : Int), (n : Int), true) else (0, 1, false)) := by
  refine Ev.step (fun k => by rw [spec_l01Rune.l0]) ?_
  refine Evx.neg (by omega) (Evx.bindc (size_eq _) ?_)
  by_cases h : rs r = n
  · exact Evx.eq (Evx.pos h (Ev.now _)) (if_pos h).symm
  · exact Evx.eq (Evx.neg h (Ev.now _)) (if_neg h).symm
theorem start {r : Nat} {R} (hn : n ≤ 4) (hp : p < s.size) (h1 : p + n ≤ s.size → Ev (fun k => spec_l01Rune.l0 k s p n (r : Int) ((1 : Nat) : Int)) R) (h2 : ¬ p + n ≤ s.size → R = (0, 1, false)) :
    Ev (fun k => spec_l01Rune.j0 k s p n (r : Int)) R := by
  refine Ev.step (fun k => by rw [spec_l01Rune.j0]) ?_
  have e1 : wrap64 ((p : Int) + (n : Int)) = ((p + n : Nat) : Int) := by rw [Evx.w64 (by omega) (by omega)]; omega
  rw [e1]
  clear e1
  by_cases h : p + n ≤ s.size
  · exact Evx.neg (by omega) (h1 h)
  · rw [h2 h]; exact Evx.pos (by omega) (Ev.now _)
end
/-- What the reader answers, of what the model's decoding gives. -/
def out (d : Nat × Nat) : Int × Int × Bool := if d.1 = 65533 ∧ d.2 = 1 then (0, 1, false) else ((d.1 : Int), (d.2 : Int), true)
theorem out_bad : out (65533, 1) = (0, 1, false) := rfl
theorem out_ok {r n : Nat} (h : ¬ (r = 65533 ∧ n = 1)) : out (r, n) = ((r : Int), (n : Int), true) := if_neg h
open Go.Lib in
theorem dec1 {n b0 b1 b2 b3 : Nat} (h : b0 < 128) : decodeN n b0 b1 b2 b3 = (b0, 1) := by unfold decodeN; rw [if_pos h]
open Go.Lib in
set_option maxRecDepth 100000 in
set_option maxHeartbeats 4000000 in
theorem dec2 {n b0 b1 b2 b3 : Nat} (h : 194 ≤ b0 ∧ b0 ≤ 223) (hb1 : b1 < 256) : decodeN n b0 b1 b2 b3 = if 2 ≤ n ∧ 128 ≤ b1 ∧ b1 ≤ 191 then ((b0 - 192) * 64 + b1 - 128, 2) else (65533, 1) := by
  unfold decodeN
  repeat' split
  all_goals first | rfl | (exfalso; omega) | (apply Prod.ext <;> simp only <;> omega)
open Go.Lib in
set_option maxRecDepth 100000 in
set_option maxHeartbeats 4000000 in
theorem dec3 {n b0 b1 b2 b3 : Nat} (h : 224 ≤ b0 ∧ b0 ≤ 239) (hb1 : b1 < 256) (hb2 : b2 < 256) : decodeN n b0 b1 b2 b3 = if 3 ≤ n ∧ (128 ≤ b1 ∧ b1 ≤ 191) ∧ (128 ≤ b2 ∧ b2 ≤ 191) then
    (if rs ((((b0 - 224) * 64 + b1 - 128) * 64 + b2 - 128 : Nat) : Int) = 3 then (((b0 - 224) * 64 + b1 - 128) * 64 + b2 - 128, 3) else (65533, 1)) else (65533, 1) := by
  unfold decodeN rs
  repeat' split
  all_goals first | rfl | (exfalso; omega) | (apply Prod.ext <;> simp only <;> omega)
open Go.Lib in
set_option maxRecDepth 100000 in
set_option maxHeartbeats 4000000 in
theorem dec4 {n b0 b1 b2 b3 : Nat} (h : 240 ≤ b0 ∧ b0 ≤ 244) (hb1 : b1 < 256) (hb2 : b2 < 256) (hb3 : b3 < 256) : decodeN n b0 b1 b2 b3 = if 4 ≤ n ∧ (128 ≤ b1 ∧ b1 ≤ 191) ∧ (128 ≤ b2 ∧ b2 ≤ 191) ∧ (128 ≤ b3 ∧ b3 ≤ 191) then
    (if rs (((((b0 - 240) * 64 + b1 - 128) * 64 + b2 - 128) * 64 + b3 - 128 : Nat) : Int) = 4 then ((((b0 - 240) * 64 + b1 - 128) * 64 + b2 - 128) * 64 + b3 - 128, 4) else (65533, 1)) else (65533, 1) := by
  unfold decodeN rs
  repeat' split
  all_goals first | rfl | (exfalso; omega) | (apply Prod.ext <;> simp only <;> omega)
/-- The model's decoding at a place. -/
def dec (s : ByteArray) (p : Nat) : Nat × Nat := Go.Lib.decodeN (s.size - p) (b s p) (b s (p + 1)) (b s (p + 2)) (b s (p + 3))
set_option maxHeartbeats 2000000 in
theorem rune {s : ByteArray} (hs : s.size ≤ 4611686018427387904) {p : Nat} (hp : p < s.size) : Ev (fun k => spec_l01Rune.f k s (p : Int)) (out (dec s p)) := by
  unfold spec_l01Rune.f dec
  have l0 := b_lt s p
  have l1 := b_lt s (p + 1)
  have l2 := b_lt s (p + 2)
  have l3 := b_lt s (p + 3)
  refine Evx.pos (by omega) (Evx.pos (by omega) ?_)
  rw [w_b]
  have m1 : ∀ c : Nat, 128 ≤ c → c ≤ 300 → c ≤ b s p → wrap64 ((b s p : Int) - (c : Int)) = ((b s p - c : Nat) : Int) := by
    intro c _ _ _
    rw [Evx.w64 (by omega) (by omega)]; omega
  have m192 := m1 192 (by omega) (by omega)
  have m224 := m1 224 (by omega) (by omega)
  have m240 := m1 240 (by omega) (by omega)
  clear m1
  by_cases c1 : b s p < 128
  · rw [dec1 c1, out_ok (by omega)]
    exact Evx.pos (by omega) (Ev.now _)
  refine Evx.neg (by omega) ?_
  by_cases c2 : 194 ≤ b s p ∧ b s p ≤ 223
  · refine Evx.bindc (in_yes (by omega)) (Evx.pos rfl ?_)
    have e := m192 (by omega)
    clear m192 m224 m240
    rw [show ((192 : Nat) : Int) = 192 from rfl] at e
    rw [e]
    clear e
    rw [dec2 c2 l1]
    refine start (n := 2) hs (by omega) hp (fun h => ?_) (fun h => by rw [if_neg (by omega), out_bad])
    by_cases q1 : 128 ≤ b s (p + 1) ∧ b s (p + 1) ≤ 191
    · refine loop_in hs (by omega) (by omega) h (by omega) q1 (Evx.eq (loop_end (n := 2)) ?_)
      have hc : 2 ≤ s.size - p ∧ 128 ≤ b s (p + 1) ∧ b s (p + 1) ≤ 191 := by omega
      have hr : rs (((b s p - 192) * 64 + b s (p + 1) - 128 : Nat) : Int) = 2 := by unfold rs; rw [if_pos (by omega), if_neg (by omega), if_pos (by omega)]
      rw [if_pos hc, out_ok (by omega)]
      exact if_pos hr
    · rw [if_neg (by omega), out_bad]
      exact loop_out hs (by omega) (by omega) h q1
  refine Evx.bindc (in_no (by omega)) (Evx.neg (by simp) ?_)
  by_cases c3 : 224 ≤ b s p ∧ b s p ≤ 239
  · refine Evx.bindc (in_yes (by omega)) (Evx.pos rfl ?_)
    have e := m224 (by omega)
    clear m192 m224 m240
    rw [show ((224 : Nat) : Int) = 224 from rfl] at e
    rw [e]
    clear e
    rw [dec3 c3 l1 l2]
    refine start (n := 3) hs (by omega) hp (fun h => ?_) (fun h => by rw [if_neg (by omega), out_bad])
    by_cases q1 : 128 ≤ b s (p + 1) ∧ b s (p + 1) ≤ 191
    · refine loop_in hs (by omega) (by omega) h (by omega) q1 ?_
      by_cases q2 : 128 ≤ b s (p + 2) ∧ b s (p + 2) ≤ 191
      · refine loop_in hs (by omega) (by omega) h (by omega) q2 (Evx.eq (loop_end (n := 3)) ?_)
        have hc : 3 ≤ s.size - p ∧ (128 ≤ b s (p + 1) ∧ b s (p + 1) ≤ 191) ∧ (128 ≤ b s (p + 2) ∧ b s (p + 2) ≤ 191) := by omega
        rw [if_pos hc]
        by_cases q : rs ((((b s p - 224) * 64 + b s (p + 1) - 128) * 64 + b s (p + 2) - 128 : Nat) : Int) = 3
        · rw [if_pos q, out_ok (by omega)]; exact if_pos q
        · rw [if_neg q, out_bad]; exact if_neg q
      · rw [if_neg (by omega), out_bad]
        exact loop_out hs (by omega) (by omega) h q2
    · rw [if_neg (by omega), out_bad]
      exact loop_out hs (by omega) (by omega) h q1
  refine Evx.bindc (in_no (by omega)) (Evx.neg (by simp) ?_)
  by_cases c4 : 240 ≤ b s p ∧ b s p ≤ 244
  · refine Evx.bindc (in_yes (by omega)) (Evx.pos rfl ?_)
    have e := m240 (by omega)
    clear m192 m224 m240
    rw [show ((240 : Nat) : Int) = 240 from rfl] at e
    rw [e]
    clear e
    rw [dec4 c4 l1 l2 l3]
    refine start (n := 4) hs (by omega) hp (fun h => ?_) (fun h => by rw [if_neg (by omega), out_bad])
    by_cases q1 : 128 ≤ b s (p + 1) ∧ b s (p + 1) ≤ 191
    · refine loop_in hs (by omega) (by omega) h (by omega) q1 ?_
      by_cases q2 : 128 ≤ b s (p + 2) ∧ b s (p + 2) ≤ 191
      · refine loop_in hs (by omega) (by omega) h (by omega) q2 ?_
        by_cases q3 : 128 ≤ b s (p + 3) ∧ b s (p + 3) ≤ 191
        · refine loop_in hs (by omega) (by omega) h (by have := b_lt s (p + (1 + 1)); omega) q3 (Evx.eq (loop_end (n := 4)) ?_)
          have hc : 4 ≤ s.size - p ∧ (128 ≤ b s (p + 1) ∧ b s (p + 1) ≤ 191) ∧ (128 ≤ b s (p + 2) ∧ b s (p + 2) ≤ 191) ∧ (128 ≤ b s (p + 3) ∧ b s (p + 3) ≤ 191) := by omega
          rw [if_pos hc]
          by_cases q : rs (((((b s p - 240) * 64 + b s (p + 1) - 128) * 64 + b s (p + 2) - 128) * 64 + b s (p + 3) - 128 : Nat) : Int) = 4
          · rw [if_pos q, out_ok (by omega)]; exact if_pos q
          · rw [if_neg q, out_bad]; exact if_neg q
        · rw [if_neg (by omega), out_bad]
          exact loop_out hs (by omega) (by omega) h q3
      · rw [if_neg (by omega), out_bad]
        exact loop_out hs (by omega) (by omega) h q2
    · rw [if_neg (by omega), out_bad]
      exact loop_out hs (by omega) (by omega) h q1
  refine Evx.bindc (in_no (by omega)) (Evx.neg (by simp) ?_)
  rw [Go.Lib.decodeN_bad _ _ _ _ _ (by omega), out_bad]
  exact Ev.now _
/-- The width is from 1 to 4, and the text goes so far. -/
theorem dec_width {s : ByteArray} {p : Nat} (hp : p < s.size) : 1 ≤ (dec s p).2 ∧ p + (dec s p).2 ≤ s.size ∧ (dec s p).1 ≤ 1114111 := by
  have l0 := b_lt s p
  have l1 := b_lt s (p + 1)
  have l2 := b_lt s (p + 2)
  have l3 := b_lt s (p + 3)
  unfold dec Go.Lib.decodeN
  repeat' split
  all_goals (simp only; omega)
/-- The kit's decoding of the text behind a place. -/
theorem decL {s : ByteArray} {p : Nat} (hp : p < s.size) : Go.Lib.decodeL (s.data.toList.drop p) = dec s p := by
  rw [Go.Lib.decodeL_N, List.length_drop, ← Evx.size_eq]
  unfold dec b
  simp only [List.getD_eq_getElem?_getD, List.getElem?_drop, Nat.add_zero]
/-- The model's own decoding. -/
theorem decode_eq (s : ByteArray) (p : Nat) : dec s p = Utf8.decode s p := by
  rw [Go.Lib.decode_N, ← Evx.size_eq]
  rfl
end Go.Proofs.YteknchhlineciaaDoor.U8QFnExactEscapeXml
