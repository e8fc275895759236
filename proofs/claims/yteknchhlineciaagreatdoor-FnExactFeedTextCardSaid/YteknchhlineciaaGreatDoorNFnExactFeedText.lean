/- The reference's reader of one rune agrees with the model's decoding. Conditions: texts below 2^62 bytes. The first byte in no right rune: the reference's pass and the program's give the same place. Conditions: texts of at most 1048576 bytes. The fields of a text between blanks: by runes and by bytes; the reference's pass comes to them with one blank between. Conditions: none. A text in one line: the reference and the program give the same. Conditions: texts of at most 1048576 bytes. A right entry: the reference's test and the program's say the same. Conditions: texts of at most 1048576 bytes. Rows of entries: their texts' sizes are told, they are copied as they are, a row is like itself, and a feed's test says the same on both sides. Conditions: as each lemma states. -/
import Derived.Test.YteknchhlineciaaGreatDoorQFnExactFeedTextx
import Derived.Test.YteknchhlineciaaGreatDoorEvx
import Derived.Lib.ValidLaws
import Derived.Lib.TrimUEq
import Derived.Lib.FieldsP
import Derived.Lib.DecodeN
import Derived.Lib.Join
namespace Go.Proofs.YteknchhlineciaaGreatDoor.U8QFnExactFeedText
open Go.RowKit Go.Proofs.YteknchhlineciaaGreatDoor.QFnExactFeedText Go.Proofs.YteknchhlineciaaGreatDoorW.PrintWords Go.Proofs.YteknchhlineciaaGreatDoorW.PrintLast
set_option linter.unusedSimpArgs false
set_option linter.unusedVariables false
theorem in_eq (a b c : Int) : spec_l01In.f a b c = some (decide (b ≤ a ∧ a ≤ c)) := by
  unfold spec_l01In.f
  split <;> simp <;> omega
theorem in_yes {a b c : Int} (h : b ≤ a ∧ a ≤ c) : spec_l01In.f a b c = some true := by rw [in_eq, decide_eq_true h]
theorem in_no {a b c : Int} (h : ¬ (b ≤ a ∧ a ≤ c)) : spec_l01In.f a b c = some false := by rw [in_eq, decide_eq_false h]
/-- How many bytes a scalar value takes; 0 at any other number. -/
def rs (a : Int) : Int := if (0 ≤ a ∧ a ≤ 55295) ∨ (57344 ≤ a ∧ a ≤ 1114111) then (if a < 128 then 1 else if a < 2048 then 2 else if a < 65536 then 3 else 4) else 0
theorem size_eq (a : Int) : spec_RuneSize.f a = some (rs a) := by
  unfold spec_RuneSize.f spec_l01Scalar.f rs
  simp only [in_eq, Option.bind_some]
  by_cases h : 0 ≤ a ∧ a ≤ 55295
  · simp [h]; repeat' split
    all_goals rfl
  · by_cases h2 : 57344 ≤ a ∧ a ≤ 1114111
    · simp [h, h2]; repeat' split
      all_goals rfl
    · simp [h, h2]
/-- The byte at a place, as a natural number. -/
def b (s : ByteArray) (i : Nat) : Nat := (s.data.toList.getD i 0).toNat
theorem b_lt (s : ByteArray) (i : Nat) : b s i < 256 := (s.data.toList.getD i 0).toNat_lt
theorem bt_b (s : ByteArray) (i : Nat) : bt s (i : Int) = (b s i : Int) := by
  rw [Evx.bt_bs, Int.toNat_natCast]
  unfold Evx.bs b
  rw [List.getD_eq_getElem?_getD, List.getElem?_map, List.getD_eq_getElem?_getD]
  cases s.data.toList[i]? <;> rfl
theorem w_b (s : ByteArray) (i : Nat) : wrap64 (bt s (i : Int)) = (b s i : Int) := by
  have := b_lt s i
  rw [bt_b, Evx.w64 (by omega) (by omega)]
section
variable {s : ByteArray} {p n : Nat} (hs : s.size ≤ 4611686018427387904)
include hs
/-- One byte further. -/
theorem loop_in {r j : Nat} {R} (hj : j < n) (hn : n ≤ 4) (hp : p + n ≤ s.size) (hr : r ≤ 100000000) (hb : 128 ≤ b s (p + j) ∧ b s (p + j) ≤ 191)
    (k : Ev (fun k => spec_l01Rune.l0 k s p n ((r * 64 + b s (p + j) - 128 : Nat) : Int) ((j + 1 : Nat) : Int)) R) : Ev (fun k => spec_l01Rune.l0 k s p n (r : Int) (j : Int)) R := by
  refine Ev.step (fun k => by rw [spec_l01Rune.l0]) ?_
  have e1 : wrap64 ((p : Int) + (j : Int)) = ((p + j : Nat) : Int) := by rw [Evx.w64 (by omega) (by omega)]; omega
  have e2 : wrap64 (wrap64 (wrap64 ((r : Int) * 64) + (b s (p + j) : Int)) - 128) = ((r * 64 + b s (p + j) - 128 : Nat) : Int) := by
    rw [Evx.w64 (i := (r : Int) * 64) (by omega) (by omega), Evx.w64 (i := (r : Int) * 64 + (b s (p + j) : Int)) (by omega) (by omega), Evx.w64 (by omega) (by omega)]
    omega
  have e3 : wrap64 ((j : Int) + 1) = ((j + 1 : Nat) : Int) := by rw [Evx.w64 (by omega) (by omega)]; omega
  rw [e1, w_b, e2, e3]
  clear e1 e2 e3
  refine Evx.pos (by omega) (Evx.pos (by omega) (Evx.pos (by omega) (Evx.bindc (in_yes (by omega)) (Evx.pos rfl k))))
theorem loop_out {r j : Nat} (hj : j < n) (hn : n ≤ 4) (hp : p + n ≤ s.size) (hb : ¬ (128 ≤ b s (p + j) ∧ b s (p + j) ≤ 191)) :
    Ev (fun k => spec_l01Rune.l0 k s p n (r : Int) (j : Int)) (0, 1, false) := by
  refine Ev.step (fun k => by rw [spec_l01Rune.l0]) ?_
  have e1 : wrap64 ((p : Int) + (j : Int)) = ((p + j : Nat) : Int) := by rw [Evx.w64 (by omega) (by omega)]; omega
  rw [e1, w_b]
  clear e1
  refine Evx.pos (by omega) (Evx.pos (by omega) (Evx.pos (by omega) (Evx.bindc (in_no (by omega)) (Evx.neg (by simp) (Ev.now _)))))
omit hs in
theorem loop_end {r : Nat} : Ev (fun k => spec_l01Rune.l0 k s p n (r : Int) (n : Int)) (if rs r = n then ((r : Int), (n : Int), true) else (0, 1, false)) := by
  refine Ev.step (fun k => by rw [spec_l01Rune.l0]) ?_
  refine Evx.neg (by omega) (Evx.bindc (size_eq _) ?_)
  by_cases h : rs r = n
  · exact Evx.eq (Evx.pos h (Ev.now _)) (if_pos h).symm
  · exact Evx.eq (Evx.neg h (Ev.now _)) (if_neg h).symm
theorem start {r : Nat} {R} (hn : n ≤ 4) (hp : p < s.size) (h1 : p + n ≤ s.size → Ev (fun k => spec_l01Rune.l0 k s p n (r : Int) ((1 : Nat) : Int)) R) (h2 : ¬ p + n ≤ s.size → R = (0, 1, false)) :
    Ev (fun k => spec_l01Rune.j0 k s p n (r : Int)) R := by
  refine Ev.step (fun k => by rw [spec_l01Rune.j0]) ?_
  have e1 : wrap64 ((p : Int) + (n : Int)) = ((p + n : Nat) : Int) := by rw [Evx.w64 (by omega) (by omega)]; omega
  rw [e1]
  clear e1
  by_cases h : p + n ≤ s.size
  · exact Evx.neg (by omega) (h1 h)
  · rw [h2 h]; exact Evx.pos (by omega) (Ev.now _)
end
/-- What the reader answers, of what the model's decoding gives. -/
def out (d : Nat × Nat) : Int × Int × Bool := if d.1 = 65533 ∧ d.2 = 1 then (0, 1, false) else ((d.1 : Int), (d.2 : Int), true)
theorem out_bad : out (65533, 1) = (0, 1, false) := rfl
theorem out_ok {r n : Nat} (h : ¬ (r = 65533 ∧ n = 1)) : out (r, n) = ((r : Int), (n : Int), true) := if_neg h
open Go.Lib in
theorem dec1 {n b0 b1 b2 b3 : Nat} (h : b0 < 128) : decodeN n b0 b1 b2 b3 = (b0, 1) := by unfold decodeN; rw [if_pos h]
open Go.Lib in
set_option maxRecDepth 100000 in
set_option maxHeartbeats 4000000 in
theorem dec2 {n b0 b1 b2 b3 : Nat} (h : 194 ≤ b0 ∧ b0 ≤ 223) (hb1 : b1 < 256) : decodeN n b0 b1 b2 b3 = if 2 ≤ n ∧ 128 ≤ b1 ∧ b1 ≤ 191 then ((b0 - 192) * 64 + b1 - 128, 2) else (65533, 1) := by
  unfold decodeN
  repeat' split
  all_goals first | rfl | (exfalso; omega) | (apply Prod.ext <;> simp only <;> omega)
open Go.Lib in
set_option maxRecDepth 100000 in
set_option maxHeartbeats 4000000 in
theorem dec3 {n b0 b1 b2 b3 : Nat} (h : 224 ≤ b0 ∧ b0 ≤ 239) (hb1 : b1 < 256) (hb2 : b2 < 256) : decodeN n b0 b1 b2 b3 = if 3 ≤ n ∧ (128 ≤ b1 ∧ b1 ≤ 191) ∧ (128 ≤ b2 ∧ b2 ≤ 191) then
    (if rs ((((b0 - 224) * 64 + b1 - 128) * 64 + b2 - 128 : Nat) : Int) = 3 then (((b0 - 224) * 64 + b1 - 128) * 64 + b2 - 128, 3) else (65533, 1)) else (65533, 1) := by
  unfold decodeN rs
  repeat' split
  all_goals first | rfl | (exfalso; omega) | (apply Prod.ext <;> simp only <;> omega)
open Go.Lib in
set_option maxRecDepth 100000 in
set_option maxHeartbeats 4000000 in
theorem dec4 {n b0 b1 b2 b3 : Nat} (h : 240 ≤ b0 ∧ b0 ≤ 244) (hb1 : b1 < 256) (hb2 : b2 < 256) (hb3 : b3 < 256) : decodeN n b0 b1 b2 b3 = if 4 ≤ n ∧ (128 ≤ b1 ∧ b1 ≤ 191) ∧ (128 ≤ b2 ∧ b2 ≤ 191) ∧ (128 ≤ b3 ∧ b3 ≤ 191) then
    (if rs (((((b0 - 240) * 64 + b1 - 128) * 64 + b2 - 128) * 64 + b3 - 128 : Nat) : Int) = 4 then ((((b0 - 240) * 64 + b1 - 128) * 64 + b2 - 128) * 64 + b3 - 128, 4) else (65533, 1)) else (65533, 1) := by
  unfold decodeN rs
  repeat' split
  all_goals first | rfl | (exfalso; omega) | (apply Prod.ext <;> simp only <;> omega)
/-- The model's decoding at a place. -/
def dec (s : ByteArray) (p : Nat) : Nat × Nat := Go.Lib.decodeN (s.size - p) (b s p) (b s (p + 1)) (b s (p + 2)) (b s (p + 3))
set_option maxHeartbeats 2000000 in
theorem rune {s : ByteArray} (hs : s.size ≤ 4611686018427387904) {p : Nat} (hp : p < s.size) : Ev (fun k => spec_l01Rune.f k s (p : Int)) (out (dec s p)) := by
  unfold spec_l01Rune.f dec
  have l0 := b_lt s p
  have l1 := b_lt s (p + 1)
  have l2 := b_lt s (p + 2)
  have l3 := b_lt s (p + 3)
  refine Evx.pos (by omega) (Evx.pos (by omega) ?_)
  rw [w_b]
  have m1 : ∀ c : Nat, 128 ≤ c → c ≤ 300 → c ≤ b s p → wrap64 ((b s p : Int) - (c : Int)) = ((b s p - c : Nat) : Int) := by
    intro c _ _ _
    rw [Evx.w64 (by omega) (by omega)]; omega
  have m192 := m1 192 (by omega) (by omega)
  have m224 := m1 224 (by omega) (by omega)
  have m240 := m1 240 (by omega) (by omega)
  clear m1
  by_cases c1 : b s p < 128
  · rw [dec1 c1, out_ok (by omega)]
    exact Evx.pos (by omega) (Ev.now _)
  refine Evx.neg (by omega) ?_
  by_cases c2 : 194 ≤ b s p ∧ b s p ≤ 223
  · refine Evx.bindc (in_yes (by omega)) (Evx.pos rfl ?_)
    have e := m192 (by omega)
    clear m192 m224 m240
    rw [show ((192 : Nat) : Int) = 192 from rfl] at e
    rw [e]
    clear e
    rw [dec2 c2 l1]
    refine start (n := 2) hs (by omega) hp (fun h => ?_) (fun h => by rw [if_neg (by omega), out_bad])
    by_cases q1 : 128 ≤ b s (p + 1) ∧ b s (p + 1) ≤ 191
    · refine loop_in hs (by omega) (by omega) h (by omega) q1 (Evx.eq (loop_end (n := 2)) ?_)
      have hc : 2 ≤ s.size - p ∧ 128 ≤ b s (p + 1) ∧ b s (p + 1) ≤ 191 := by omega
      have hr : rs (((b s p - 192) * 64 + b s (p + 1) - 128 : Nat) : Int) = 2 := by unfold rs; rw [if_pos (by omega), if_neg (by omega), if_pos (by omega)]
      rw [if_pos hc, out_ok (by omega)]
      exact if_pos hr
    · rw [if_neg (by omega), out_bad]
      exact loop_out hs (by omega) (by omega) h q1
  refine Evx.bindc (in_no (by omega)) (Evx.neg (by simp) ?_)
  by_cases c3 : 224 ≤ b s p ∧ b s p ≤ 239
  · refine Evx.bindc (in_yes (by omega)) (Evx.pos rfl ?_)
    have e := m224 (by omega)
    clear m192 m224 m240
    rw [show ((224 : Nat) : Int) = 224 from rfl] at e
    rw [e]
    clear e
    rw [dec3 c3 l1 l2]
    refine start (n := 3) hs (by omega) hp (fun h => ?_) (fun h => by rw [if_neg (by omega), out_bad])
    by_cases q1 : 128 ≤ b s (p + 1) ∧ b s (p + 1) ≤ 191
    · refine loop_in hs (by omega) (by omega) h (by omega) q1 ?_
      by_cases q2 : 128 ≤ b s (p + 2) ∧ b s (p + 2) ≤ 191
      · refine loop_in hs (by omega) (by omega) h (by omega) q2 (Evx.eq (loop_end (n := 3)) ?_)
        have hc : 3 ≤ s.size - p ∧ (128 ≤ b s (p + 1) ∧ b s (p + 1) ≤ 191) ∧ (128 ≤ b s (p + 2) ∧ b s (p + 2) ≤ 191) := by omega
        rw [if_pos hc]
        by_cases q : rs ((((b s p - 224) * 64 + b s (p + 1) - 128) * 64 + b s (p + 2) - 128 : Nat) : Int) = 3
        · rw [if_pos q, out_ok (by omega)]; exact if_pos q
        · rw [if_neg q, out_bad]; exact if_neg q
      · rw [if_neg (by omega), out_bad]
        exact loop_out hs (by omega) (by omega) h q2
    · rw [if_neg (by omega), out_bad]
      exact loop_out hs (by omega) (by omega) h q1
  refine Evx.bindc (in_no (by omega)) (Evx.neg (by simp) ?_)
  by_cases c4 : 240 ≤ b s p ∧ b s p ≤ 244
  · refine Evx.bindc (in_yes (by omega)) (Evx.pos rfl ?_)
    have e := m240 (by omega)
    clear m192 m224 m240
    rw [show ((240 : Nat) : Int) = 240 from rfl] at e
    rw [e]
    clear e
    rw [dec4 c4 l1 l2 l3]
    refine start (n := 4) hs (by omega) hp (fun h => ?_) (fun h => by rw [if_neg (by omega), out_bad])
    by_cases q1 : 128 ≤ b s (p + 1) ∧ b s (p + 1) ≤ 191
    · refine loop_in hs (by omega) (by omega) h (by omega) q1 ?_
      by_cases q2 : 128 ≤ b s (p + 2) ∧ b s (p + 2) ≤ 191
      · refine loop_in hs (by omega) (by omega) h (by omega) q2 ?_
        by_cases q3 : 128 ≤ b s (p + 3) ∧ b s (p + 3) ≤ 191
        · refine loop_in hs (by omega) (by omega) h (by have := b_lt s (p + (1 + 1)); omega) q3 (Evx.eq (loop_end (n := 4)) ?_)
          have hc : 4 ≤ s.size - p ∧ (128 ≤ b s (p + 1) ∧ b s (p + 1) ≤ 191) ∧ (128 ≤ b s (p + 2) ∧ b s (p + 2) ≤ 191) ∧ (128 ≤ b s (p + 3) ∧ b s (p + 3) ≤ 191) := by omega
          rw [if_pos hc]
          by_cases q : rs (((((b s p - 240) * 64 + b s (p + 1) - 128) * 64 + b s (p + 2) - 128) * 64 + b s (p + 3) - 128 : Nat) : Int) = 4
          · rw [if_pos q, out_ok (by omega)]; exact if_pos q
          · rw [if_neg q, out_bad]; exact if_neg q
        · rw [if_neg (by omega), out_bad]
          exact loop_out hs (by omega) (by omega) h q3
      · rw [if_neg (by omega), out_bad]
        exact loop_out hs (by omega) (by omega) h q2
    · rw [if_neg (by omega), out_bad]
      exact loop_out hs (by omega) (by omega) h q1
  refine Evx.bindc (in_no (by omega)) (Evx.neg (by simp) ?_)
  rw [Go.Lib.decodeN_bad _ _ _ _ _ (by omega), out_bad]
  exact Ev.now _
/-- The width is from 1 to 4, and the text goes so far. -/
theorem dec_width {s : ByteArray} {p : Nat} (hp : p < s.size) : 1 ≤ (dec s p).2 ∧ p + (dec s p).2 ≤ s.size ∧ (dec s p).1 ≤ 1114111 := by
  have l0 := b_lt s p
  have l1 := b_lt s (p + 1)
  have l2 := b_lt s (p + 2)
  have l3 := b_lt s (p + 3)
  unfold dec Go.Lib.decodeN
  repeat' split
  all_goals (simp only; omega)
/-- The kit's decoding of the text behind a place. -/
theorem decL {s : ByteArray} {p : Nat} (hp : p < s.size) : Go.Lib.decodeL (s.data.toList.drop p) = dec s p := by
  rw [Go.Lib.decodeL_N, List.length_drop, ← Evx.size_eq]
  unfold dec b
  simp only [List.getD_eq_getElem?_getD, List.getElem?_drop, Nat.add_zero]
/-- The model's own decoding. -/
theorem decode_eq (s : ByteArray) (p : Nat) : dec s p = Utf8.decode s p := by
  rw [Go.Lib.decode_N, ← Evx.size_eq]
  rfl
end Go.Proofs.YteknchhlineciaaGreatDoor.U8QFnExactFeedText
namespace Go.Proofs.YteknchhlineciaaGreatDoor.RQFnExactFeedText
open Go.RowKit Go.Proofs.YteknchhlineciaaGreatDoor.QFnExactFeedText Go.Proofs.YteknchhlineciaaGreatDoor.U8QFnExactFeedText Go.Proofs.YteknchhlineciaaGreatDoorW.PrintWords Go.Proofs.YteknchhlineciaaGreatDoorW.PrintLast
set_option linter.unusedSimpArgs false
set_option linter.unusedVariables false
theorem within_eq (a b c : Int) : impl_within.f a b c = some (decide (b ≤ a ∧ a ≤ c)) := by
  unfold impl_within.f
  split <;> simp <;> omega
theorem scalar_eq (a : Int) : impl_isRune.f a = spec_l01Scalar.f a := by
  have e1 : impl_isRune.f a = some (decide ((0 ≤ a ∧ a ≤ 1114111) ∧ ¬ (55296 ≤ a ∧ a ≤ 57343))) := by
    unfold impl_isRune.f
    simp only [within_eq, Option.bind_some]
    by_cases h1 : 0 ≤ a ∧ a ≤ 1114111
    · by_cases h2 : 55296 ≤ a ∧ a ≤ 57343 <;> simp [h1, h2]
    · simp [h1]
  have e2 : spec_l01Scalar.f a = some (decide ((0 ≤ a ∧ a ≤ 55295) ∨ (57344 ≤ a ∧ a ≤ 1114111))) := by
    unfold spec_l01Scalar.f
    simp only [in_eq, Option.bind_some]
    by_cases h1 : 0 ≤ a ∧ a ≤ 55295
    · simp [h1]
    · by_cases h2 : 57344 ≤ a ∧ a ≤ 1114111 <;> simp [h1, h2]
  rw [e1, e2]
  exact congrArg some (decide_eq_decide.2 (by omega))
theorem xml_eq (a : Int) : impl_XmlRune.f a = spec_XmlRune.f a := by
  unfold impl_XmlRune.f spec_XmlRune.f
  rw [scalar_eq]
theorem xml_some (a : Int) : ∃ b, spec_XmlRune.f a = some b := by
  have h : ∃ b, spec_l01Scalar.f a = some b := by
    unfold spec_l01Scalar.f
    simp only [in_eq, Option.bind_some]
    split <;> exact ⟨_, rfl⟩
  obtain ⟨b, hb⟩ := h
  unfold spec_XmlRune.f
  rw [hb]
  simp only [Option.bind_some]
  repeat' split
  all_goals exact ⟨_, rfl⟩
theorem fault_loop (s : ByteArray) (hs : s.size ≤ 1048576) : ∀ (d p : Nat), s.size - p ≤ d → p ≤ s.size → ∃ v, impl_xmlFault.go s d p = some v ∧ Ev (fun k => spec_l05Runes.l0 k s (p : Int)) v := by
  intro d
  induction d with
  | zero =>
    intro p hd hp
    refine ⟨-1, rfl, Ev.step (fun k => by rw [spec_l05Runes.l0]) ?_⟩
    exact Evx.neg (by omega) (Ev.now _)
  | succ d ih =>
    intro p hd hp
    by_cases h : p < s.size
    · have hw := dec_width h
      have eg : impl_xmlFault.go s (d + 1) p = if (dec s p).1 = 65533 ∧ (dec s p).2 = 1 then some (p : Int) else (impl_XmlRune.f ((dec s p).1 : Int)).bind fun t => if t = true then impl_xmlFault.go s d (p + (dec s p).2) else some (p : Int) := by
        rw [impl_xmlFault.go, if_pos h, ← decode_eq]
      rw [eg, xml_eq]
      have st : ∀ v, Ev (fun k => if (out (dec s p)).2.2 = true then ((spec_XmlRune.f (out (dec s p)).1).bind fun t => if t = true then spec_l05Runes.l0 k s (wrap64 ((p : Int) + (out (dec s p)).2.1)) else some (p : Int)) else some (p : Int)) v → Ev (fun k => spec_l05Runes.l0 k s (p : Int)) v := by
        intro v hv
        refine Ev.step (fun k => by rw [spec_l05Runes.l0]) ?_
        exact Evx.pos (by omega) (Ev.bind (rune (by omega) h) hv)
      unfold out at st
      by_cases q : (dec s p).1 = 65533 ∧ (dec s p).2 = 1
      · rw [if_pos q] at st ⊢
        exact ⟨_, rfl, st _ (Evx.neg (by simp) (Ev.now _))⟩
      · rw [if_neg q] at st ⊢
        obtain ⟨b, hb⟩ := xml_some ((dec s p).1 : Int)
        rw [hb]
        cases b with
        | false => exact ⟨_, rfl, st _ (Evx.pos rfl (Evx.bindc hb (Evx.neg (by simp) (Ev.now _))))⟩
        | true =>
          obtain ⟨v, h1, h2⟩ := ih (p + (dec s p).2) (by omega) (by omega)
          refine ⟨v, by simpa using h1, st _ (Evx.pos rfl (Evx.bindc hb (Evx.pos rfl ?_)))⟩
          refine Evx.fn h2 ?_
          funext k
          congr 1
          show ((p + (dec s p).2 : Nat) : Int) = wrap64 ((p : Int) + ((dec s p).2 : Int))
          rw [Evx.w64 (by omega) (by omega)]
          omega
    · refine ⟨-1, by rw [impl_xmlFault.go, if_neg h], Ev.step (fun k => by rw [spec_l05Runes.l0]) ?_⟩
      exact Evx.neg (by omega) (Ev.now _)
theorem fault (s : ByteArray) (hs : s.size ≤ 1048576) : ∃ v, impl_xmlFault.f s = some v ∧ Ev (fun k => spec_l05Runes.f k s) v := by
  obtain ⟨v, h1, h2⟩ := fault_loop s hs s.size 0 (by omega) (by omega)
  refine ⟨v, by unfold impl_xmlFault.f; rw [if_pos (by omega)]; exact h1, ?_⟩
  unfold spec_l05Runes.f
  exact h2
end Go.Proofs.YteknchhlineciaaGreatDoor.RQFnExactFeedText
namespace Go.Proofs.YteknchhlineciaaGreatDoor.Fld
open Go Go.Lib Go.Proofs.YteknchhlineciaaGreatDoor.Evx Go.Proofs.YteknchhlineciaaGreatDoor.Bsx
set_option linter.unusedSimpArgs false
set_option linter.unusedVariables false
/-- A blank: 9, 10, 13, 32. -/
def bl (c : Int) : Prop := c = 9 ∨ c = 10 ∨ c = 13 ∨ c = 32
instance (c : Int) : Decidable (bl c) := by unfold bl; infer_instance
/-- The fields of a list of numbers, between blanks, behind the one that is open. -/
def fld : List Int → List Int → List (List Int)
  | [], cur => if cur = [] then [] else [cur]
  | c :: l, cur => if bl c then (if cur = [] then fld l [] else cur :: fld l []) else fld l (cur ++ [c])
theorem fld_more (l : List Int) : ∀ (q cur : List Int), (∀ c ∈ q, ¬ bl c) → fld (q ++ l) cur = fld l (cur ++ q)
  | [], cur, _ => by simp
  | c :: q, cur, h => by
    rw [List.cons_append, fld, if_neg (h c (by simp)), fld_more l q _ (fun x hx => h x (by simp [hx]))]
    simp
theorem get_bs (s : ByteArray) (i : Nat) (h : i < s.size) : (bs s)[i]? = some ((s.get! i).toNat : Int) := by
  unfold bs
  rw [List.getElem?_map, List.getElem?_eq_getElem (by rw [← Evx.size_eq]; exact h)]
  have : s.get! i = s.data.toList[i]'(by rw [← Evx.size_eq]; exact h) := by
    unfold ByteArray.get!
    exact getElem!_pos s.data i h
  rw [this]
  rfl
theorem dec_low {s : ByteArray} {pos : Nat} (ha : (s.get! pos).toNat < 128) : Utf8.decode s pos = ((s.get! pos).toNat, 1) := by
  rw [decode_at]
  unfold decodeN
  rw [if_pos ha]
set_option maxHeartbeats 1000000 in
theorem dec_high {s : ByteArray} {pos : Nat} (h : pos < s.size) (ha : 128 ≤ (s.get! pos).toNat) :
    128 ≤ (Utf8.decode s pos).1 ∧ 1 ≤ (Utf8.decode s pos).2 ∧ pos + (Utf8.decode s pos).2 ≤ s.size ∧ ∀ j, j < (Utf8.decode s pos).2 → 128 ≤ (s.get! (pos + j)).toNat := by
  rw [decode_at]
  have e0 : 128 ≤ (s.get! (pos + 0)).toNat := ha
  generalize (s.get! pos).toNat = b0 at ha ⊢
  generalize hb1 : (s.get! (pos + 1)).toNat = b1 at *
  generalize hb2 : (s.get! (pos + 2)).toNat = b2 at *
  generalize hb3 : (s.get! (pos + 3)).toNat = b3 at *
  unfold decodeN
  have key : ∀ (m : Nat), (1 < m → 128 ≤ b1) → (2 < m → 128 ≤ b2) → (3 < m → 128 ≤ b3) → m ≤ 4 → ∀ j, j < m → 128 ≤ (s.get! (pos + j)).toNat := by
    intro m h1 h2 h3 h4 j hj
    have : j = 0 ∨ j = 1 ∨ j = 2 ∨ j = 3 := by omega
    rcases this with rfl | rfl | rfl | rfl
    · exact e0
    · rw [hb1]; exact h1 (by omega)
    · rw [hb2]; exact h2 (by omega)
    · rw [hb3]; exact h3 (by omega)
  repeat' split
  all_goals first | (exfalso; omega) | exact ⟨by simp only; omega, by simp only; omega, by simp only; omega, key _ (by simp only; omega) (by simp only; omega) (by simp only; omega) (by simp only; omega)⟩
/-- What is open at a place. -/
def opn (l : List Int) (st : Option Nat) (pos : Nat) : List Int := match st with | some a => (l.drop a).take (pos - a) | none => []
theorem opn_ne (l : List Int) (a pos : Nat) (h : a < pos) (hp : pos ≤ l.length) : opn l (some a) pos ≠ [] := by
  intro e
  have := congrArg List.length e
  simp only [opn, List.length_take, List.length_drop, List.length_nil] at this
  omega
theorem opn_more (l : List Int) (a pos n : Nat) (h : a ≤ pos) : opn l (some a) pos ++ (l.drop pos).take n = opn l (some a) (pos + n) := by
  unfold opn
  have e : l.drop pos = (l.drop a).drop (pos - a) := by rw [List.drop_drop]; congr 1; omega
  simp only
  rw [e, show pos + n - a = (pos - a) + n by omega, List.take_add]
theorem drop_split (l : List Int) (pos n : Nat) : l.drop pos = (l.drop pos).take n ++ l.drop (pos + n) := by
  rw [← List.drop_drop, List.take_append_drop]
/-- THE PASS OVER THE RUNES gives the fields of the bytes. -/
theorem spans_fld (s : ByteArray) (p : Nat → Bool) (hp : ∀ r : Nat, p r = decide (bl (r : Int))) : ∀ (f pos : Nat) (st : Option Nat) (acc : List (Nat × Nat)), s.size ≤ pos + f → pos ≤ s.size → (∀ a, st = some a → a < pos) →
    (closeSpans s (spansFromP p s f pos st acc)).map (fun x => ((bs s).drop x.1).take (x.2 - x.1)) = acc.map (fun x => ((bs s).drop x.1).take (x.2 - x.1)) ++ fld ((bs s).drop pos) (opn (bs s) st pos) := by
  have fin : ∀ (pos : Nat) (st : Option Nat) (acc : List (Nat × Nat)), s.size = pos → (∀ a, st = some a → a < pos) → (closeSpans s (acc, st)).map (fun x => ((bs s).drop x.1).take (x.2 - x.1)) = acc.map (fun x => ((bs s).drop x.1).take (x.2 - x.1)) ++ fld ((bs s).drop pos) (opn (bs s) st pos) := by
    intro pos st acc h hst
    subst h
    rw [show (bs s).drop s.size = [] from List.drop_eq_nil_of_le (by rw [bs_length]; exact Nat.le_refl _), fld]
    cases st with
    | none => simp [closeSpans, opn]
    | some a =>
      have := opn_ne (bs s) a s.size (hst a rfl) (by rw [bs_length]; exact Nat.le_refl _)
      rw [if_neg this]
      simp [closeSpans, opn]
  intro f
  induction f with
  | zero =>
    intro pos st acc h hle hst
    exact fin pos st acc (by omega) hst
  | succ f ih =>
    intro pos st acc h hle hst
    by_cases hlt : pos < s.size
    · have hg := get_bs s pos hlt
      have hcons : (bs s).drop pos = ((s.get! pos).toNat : Int) :: (bs s).drop (pos + 1) := by
        obtain ⟨hl, e⟩ := List.getElem?_eq_some_iff.1 hg
        rw [List.drop_eq_getElem_cons hl, e]
      by_cases ha : (s.get! pos).toNat < 128
      · have hd := dec_low (s := s) (pos := pos) ha
        simp only [spansFromP, if_pos hlt, hd, hp]
        rw [hcons, fld]
        by_cases hb : bl ((s.get! pos).toNat : Int)
        · simp only [decide_eq_true hb, if_true, if_pos hb]
          cases st with
          | none =>
            rw [ih (pos + 1) none acc (by omega) (by omega) (fun a e => by cases e)]
            simp [opn]
          | some a =>
            rw [ih (pos + 1) none _ (by omega) (by omega) (fun a e => by cases e), if_neg (opn_ne (bs s) a pos (hst a rfl) (by rw [bs_length]; omega))]
            simp [opn]
        · simp only [decide_eq_false hb, Bool.false_eq_true, if_false, if_neg hb]
          have e1 : [((s.get! pos).toNat : Int)] = ((bs s).drop pos).take 1 := by rw [hcons]; rfl
          cases st with
          | none =>
            rw [ih (pos + 1) (some pos) acc (by omega) (by omega) (fun a e => by cases e; omega), e1]
            simp [opn]
          | some a =>
            rw [ih (pos + 1) (some a) acc (by omega) (by omega) (fun b e => by cases e; have := hst a rfl; omega), e1, opn_more (bs s) a pos 1 (Nat.le_of_lt (hst a rfl))]
      · obtain ⟨h1, h2, h3, h4⟩ := dec_high hlt (by omega)
        have hnb : ¬ bl ((Utf8.decode s pos).1 : Int) := by unfold bl; omega
        have hq : ∀ c ∈ ((bs s).drop pos).take (Utf8.decode s pos).2, ¬ bl c := by
          intro c hc
          obtain ⟨j, hj, e⟩ := List.getElem_of_mem hc
          rw [List.length_take, List.length_drop, bs_length] at hj
          rw [List.getElem_take, List.getElem_drop] at e
          have := get_bs s (pos + j) (by omega)
          rw [List.getElem?_eq_getElem (by rw [bs_length]; omega), e] at this
          have e2 : c = ((s.get! (pos + j)).toNat : Int) := Option.some.inj this
          have := h4 j (by omega)
          unfold bl
          omega
        simp only [spansFromP, if_pos hlt, hp, decide_eq_false hnb, Bool.false_eq_true, if_false]
        rw [drop_split (bs s) pos (Utf8.decode s pos).2, fld_more _ _ _ hq]
        cases st with
        | none =>
          rw [ih _ (some pos) acc (by omega) h3 (fun a e => by cases e; omega)]
          simp [opn]
        | some a =>
          rw [ih _ (some a) acc (by omega) h3 (fun b e => by cases e; have := hst a rfl; omega), opn_more (bs s) a pos _ (Nat.le_of_lt (hst a rfl))]
    · rw [spansFromP_end p s _ _ _ _ hlt]
      exact fin pos st acc (by omega) hst
theorem fields_eq (s : ByteArray) (p : Nat → Bool) (hp : ∀ r : Nat, p r = decide (bl (r : Int))) : (goFieldsP p s).map bs = fld (bs s) [] := by
  have h := spans_fld s p hp s.size 0 none [] (by omega) (by omega) (fun a e => by cases e)
  rw [List.map_nil, List.nil_append, List.drop_zero] at h
  have e : opn (bs s) none 0 = [] := rfl
  rw [e] at h
  rw [← h]
  unfold goFieldsP spansOfP
  rw [List.map_map]
  apply List.map_congr_left
  intro x _
  simp only [Function.comp]
  rw [bs_extract, List.drop_take]
/-- Lists put together, a number between. -/
def joinI (x : Int) : List (List Int) → List Int
  | [] => []
  | [p] => p
  | p :: q :: r => p ++ x :: joinI x (q :: r)
theorem joinI_snoc (x : Int) (q : List Int) : ∀ ps : List (List Int), joinI x (ps ++ [q]) = if ps = [] then q else joinI x ps ++ x :: q
  | [] => rfl
  | [p] => rfl
  | p :: p2 :: r => by
    have ih := joinI_snoc x q (p2 :: r)
    rw [if_neg (by simp)] at ih ⊢
    show p ++ x :: joinI x (p2 :: r ++ [q]) = (p ++ x :: joinI x (p2 :: r)) ++ x :: q
    rw [ih]
    simp
theorem join_bs (xs : List ByteArray) (x : UInt8) : (Lib.join (xs.map (·.data.toList)) [x]).map (fun b => (b.toNat : Int)) = joinI (x.toNat : Int) (xs.map bs) := by
  match xs with
  | [] => rfl
  | [p] => simp [Lib.join, joinI, bs]
  | p :: q :: r =>
    have ih := join_bs (q :: r) x
    simp only [List.map_cons] at ih ⊢
    simp only [Lib.join, joinI]
    first | (simp only [Lib.join, joinI] at ih; simp [ih, bs]; done) | (rw [← ih]; simp [bs, Lib.join])
/-- The reference's pass. -/
def lin : List Int → List Int → List Int
  | [], out => if out ≠ [] ∧ out.getLast? = some 32 then out.dropLast else out
  | c :: l, out => if bl c then (if out ≠ [] ∧ out.getLast? ≠ some 32 then lin l (out ++ [32]) else lin l out) else lin l (out ++ [c])
/-- It comes to the fields with one blank between. -/
theorem lin_eq : ∀ (l : List Int) (done : List (List Int)) (cur out : List Int), (∀ c ∈ cur, ¬ bl c) →
    (cur ≠ [] → out = joinI 32 (done ++ [cur])) → (cur = [] → (done = [] ∧ out = []) ∨ (done ≠ [] ∧ out = joinI 32 done ++ [32])) →
    lin l out = joinI 32 (done ++ fld l cur)
  | [], done, cur, out, hc, h1, h2 => by
    rw [lin, fld]
    by_cases e : cur = []
    · rw [if_pos e, List.append_nil]
      rcases h2 e with ⟨rfl, rfl⟩ | ⟨_, rfl⟩
      · simp [joinI]
      · rw [if_pos ⟨by simp, by simp⟩]; simp
    · rw [if_neg e, ← h1 e]
      rw [if_neg]
      rintro ⟨_, h⟩
      have hl : ∃ pre c, cur = pre ++ [c] := ⟨cur.dropLast, cur.getLast e, (List.dropLast_concat_getLast e).symm⟩
      obtain ⟨pre, c, rfl⟩ := hl
      rw [h1 e, joinI_snoc] at h
      have : c = 32 := by
        split at h
        · simpa using h
        · rw [show joinI 32 done ++ 32 :: (pre ++ [c]) = (joinI 32 done ++ 32 :: pre) ++ [c] by simp, List.getLast?_concat] at h
          exact Option.some.inj h
      exact hc c (by simp) (by unfold bl; omega)
  | c :: l, done, cur, out, hc, h1, h2 => by
    rw [lin, fld]
    by_cases hb : bl c
    · rw [if_pos hb, if_pos hb]
      by_cases e : cur = []
      · rw [if_pos e]
        subst e
        rw [if_neg]
        · exact lin_eq l done [] out hc h1 h2
        · rintro ⟨a, b⟩
          rcases h2 rfl with ⟨_, rfl⟩ | ⟨_, rfl⟩
          · exact a rfl
          · simp at b
      · rw [if_neg e]
        have hl : ∃ pre d, cur = pre ++ [d] := ⟨cur.dropLast, cur.getLast e, (List.dropLast_concat_getLast e).symm⟩
        have ho := h1 e
        have hne : out ≠ [] ∧ out.getLast? ≠ some 32 := by
          obtain ⟨pre, d, rfl⟩ := hl
          have hd := hc d (by simp)
          rw [ho, joinI_snoc]
          split
          · refine ⟨by simp, fun h => hd ?_⟩
            have : d = 32 := by simpa using h
            unfold bl; omega
          · refine ⟨by simp, fun h => hd ?_⟩
            rw [show joinI 32 done ++ 32 :: (pre ++ [d]) = (joinI 32 done ++ 32 :: pre) ++ [d] by simp, List.getLast?_concat] at h
            have : d = 32 := Option.some.inj h
            unfold bl; omega
        rw [if_pos hne]
        have := lin_eq l (done ++ [cur]) [] (out ++ [32]) (by simp) (fun h => absurd rfl h) (fun _ => Or.inr ⟨by simp, by rw [ho]⟩)
        rw [this, List.append_assoc, List.singleton_append]
    · rw [if_neg hb, if_neg hb]
      refine lin_eq l done (cur ++ [c]) (out ++ [c]) ?_ (fun _ => ?_) (fun h => absurd h (by simp))
      · intro x hx
        rcases List.mem_append.1 hx with hx | hx
        · exact hc x hx
        · rw [List.mem_singleton.1 hx]; exact hb
      · by_cases e : cur = []
        · subst e
          rcases h2 rfl with ⟨rfl, rfl⟩ | ⟨hd, rfl⟩
          · rfl
          · rw [joinI_snoc, if_neg hd]; simp
        · rw [h1 e, joinI_snoc, joinI_snoc]
          split <;> simp
theorem lin_fields (l : List Int) : lin l [] = joinI 32 (fld l []) := by
  have := lin_eq l [] [] [] (by simp) (fun h => absurd rfl h) (fun _ => Or.inl ⟨rfl, rfl⟩)
  simpa using this
end Go.Proofs.YteknchhlineciaaGreatDoor.Fld
namespace Go.Proofs.YteknchhlineciaaGreatDoor.OQFnExactFeedText
open Go.RowKit Go.Proofs.YteknchhlineciaaGreatDoor.QFnExactFeedText Go.Proofs.YteknchhlineciaaGreatDoorW.PrintWords Go.Proofs.YteknchhlineciaaGreatDoorW.PrintLast Go.Proofs.YteknchhlineciaaGreatDoorW.PrintMore
open Go.Proofs.YteknchhlineciaaGreatDoor.Evx Go.Proofs.YteknchhlineciaaGreatDoor.Bsx Go.Proofs.YteknchhlineciaaGreatDoor.Fld
set_option linter.unusedSimpArgs false
set_option linter.unusedVariables false
theorem blank_eq (c : Int) : spec_l05Blank.f c = some (decide (bl c)) := by
  unfold spec_l05Blank.f bl
  by_cases h1 : c = 32
  · rw [if_pos h1]; simp [h1]
  by_cases h2 : c = 9
  · rw [if_neg h1, if_pos h2]; simp [h2]
  by_cases h3 : c = 10
  · rw [if_neg h1, if_neg h2, if_pos h3]; simp [h3]
  · rw [if_neg h1, if_neg h2, if_neg h3]
    refine congrArg some ?_
    by_cases h4 : c = 13
    · simp [h4]
    · simp [h1, h2, h3, h4]
theorem rd_last {out : List Int} (h : out ≠ []) : out.getLast? = some (rd out ((out.length - 1 : Nat) : Int)) := by
  unfold rd
  rw [Int.toNat_natCast, List.getD_eq_getElem?_getD, List.getLast?_eq_getElem?]
  have : 0 < out.length := List.length_pos_iff.2 h
  rw [List.getElem?_eq_getElem (by omega)]
  rfl
theorem wn1 (p : Nat) (h : p ≤ 4000000) : wrap64 ((p : Int) + 1) = ((p + 1 : Nat) : Int) := by unfold wrap64; omega
theorem wm1 (p : Nat) (h : 1 ≤ p) (h2 : p ≤ 4000000) : wrap64 ((p : Int) - 1) = ((p - 1 : Nat) : Int) := by unfold wrap64; omega
theorem line_loop (s : ByteArray) (hs : s.size ≤ 1048576) (n : Nat) : ∀ (l : List Int) (i : Nat) (out : List Int), l.length ≤ n → (bs s).drop i = l → out.length ≤ i → i ≤ s.size → Ev (fun k => spec_l06Line.l0 k s out (i : Int)) (strOfNums (lin l out)) := by
  have fin : ∀ (i : Nat) (out : List Int), (bs s).drop i = [] → out.length ≤ i → i ≤ s.size → Ev (fun k => spec_l06Line.l0 k s out (i : Int)) (strOfNums (lin [] out)) := by
    intro i out h ho hi
    have := drop_nil h
    refine Ev.step (fun k => by rw [spec_l06Line.l0]) ?_
    refine Evx.neg (by omega) ?_
    rw [lin]
    by_cases h0 : out = []
    · subst h0
      exact Evx.neg (by simp) (Evx.eq (Ev.now _) (by rw [if_neg (fun e => e.1 rfl)]))
    · have hp : 0 < out.length := List.length_pos_iff.2 h0
      rw [wm1 out.length (by omega) (by omega), rd_last h0]
      refine Evx.pos (by omega) (Evx.pos (by omega) (Evx.pos (by omega) ?_))
      refine Evx.ite (fun a => ?_) (fun a => Evx.eq (Ev.now _) (by rw [if_neg (fun e => a (Option.some.inj e.2))]))
      refine Evx.pos (by omega) (Evx.eq (Ev.now _) ?_)
      rw [if_pos ⟨h0, by rw [a]⟩, Int.toNat_natCast, List.dropLast_eq_take]
  induction n with
  | zero =>
    intro l i out hn h ho hi
    obtain rfl : l = [] := List.eq_nil_of_length_eq_zero (by omega)
    exact fin i out h ho hi
  | succ n ih =>
    intro l i out hn h ho hi
    cases l with
    | nil => exact fin i out h ho hi
    | cons c r =>
      obtain ⟨g1, g2, g3, g4, g5⟩ := drop_cons h
      refine Ev.step (fun k => by rw [spec_l06Line.l0]) ?_
      rw [g1, wn1 i (by omega)]
      refine Evx.pos (by omega) (Evx.pos (by omega) (Evx.bindc (blank_eq c) ?_))
      rw [lin]
      by_cases hb : bl c
      · rw [if_pos hb]
        refine Evx.pos (decide_eq_true hb) ?_
        by_cases h0 : out = []
        · subst h0
          rw [if_neg (fun e => e.1 rfl)]
          exact Evx.neg (by simp) (ih r (i + 1) [] (by simpa using hn) g2 (by simp) (by omega))
        · have hp : 0 < out.length := List.length_pos_iff.2 h0
          rw [wm1 out.length (by omega) (by omega), rd_last h0]
          refine Evx.pos (by omega) (Evx.pos (by omega) (Evx.pos (by omega) ?_))
          refine Evx.ite (fun a => ?_) (fun a => ?_)
          · rw [if_neg (fun e => e.2 (by rw [a]))]
            exact ih r (i + 1) out (by simpa using hn) g2 (by omega) (by omega)
          · rw [if_pos ⟨h0, fun e => a (Option.some.inj e)⟩]
            exact Evx.pos (by omega) (ih r (i + 1) (out ++ [32]) (by simpa using hn) g2 (by simp; omega) (by omega))
      · rw [if_neg hb]
        refine Evx.neg (by simpa using hb) (Evx.pos (by omega) ?_)
        exact ih r (i + 1) (out ++ [c]) (by simpa using hn) g2 (by simp; omega) (by omega)
theorem join_len (x : Int) : ∀ (l cur : List Int), (joinI x (fld l cur)).length ≤ l.length + cur.length ∧ (fld l cur).length ≤ l.length + cur.length
  | [], cur => by
    rw [fld]
    by_cases h : cur = []
    · rw [if_pos h]; simp [joinI]
    · rw [if_neg h]
      have : 0 < cur.length := List.length_pos_iff.2 h
      refine ⟨by simp [joinI], by simp; omega⟩
  | c :: l, cur => by
    rw [fld]
    by_cases hb : bl c
    · rw [if_pos hb]
      have ih := join_len x l []
      simp only [List.length_nil, Nat.add_zero] at ih
      by_cases h : cur = []
      · rw [if_pos h]
        exact ⟨by simp only [List.length_cons]; omega, by simp only [List.length_cons]; omega⟩
      · rw [if_neg h]
        have : 0 < cur.length := List.length_pos_iff.2 h
        refine ⟨?_, by simp only [List.length_cons]; omega⟩
        cases hf : fld l [] with
        | nil => simp only [joinI, List.length_cons]; omega
        | cons q qs =>
          rw [hf] at ih
          simp only [joinI, List.length_append, List.length_cons] at ih ⊢
          omega
    · rw [if_neg hb]
      have ih := join_len x l (cur ++ [c])
      simp only [List.length_append, List.length_singleton] at ih
      exact ⟨by simp only [List.length_cons]; omega, by simp only [List.length_cons]; omega⟩
theorem nums_back (t : ByteArray) : strOfNums (bs t) = t := bs_inj (bs_strOfNums (bs_range t))
theorem line (s : ByteArray) (hs : s.size ≤ 1048576) : ∃ t, impl_oneLine.f s = some t ∧ Ev (fun k => spec_l06Line.f k s) t ∧ t.size ≤ s.size := by
  have e1 := fields_eq s impl_oneLine.p (fun r => rfl)
  have e2 := join_bs (Go.Lib.goFieldsP impl_oneLine.p s) 32
  rw [e1] at e2
  have hl := join_len 32 (bs s) []
  simp only [List.length_nil, Nat.add_zero] at hl
  rw [bs_length] at hl
  obtain ⟨t, ht⟩ : ∃ t : ByteArray, t = ⟨(Go.Lib.join ((Go.Lib.goFieldsP impl_oneLine.p s).map (·.data.toList)) [32]).toArray⟩ := ⟨_, rfl⟩
  have hbt : bs t = joinI 32 (fld (bs s) []) := by rw [ht]; exact e2
  have htz : t.size = (joinI 32 (fld (bs s) [])).length := by rw [← bs_length, hbt]
  refine ⟨t, ?_, ?_, by omega⟩
  · unfold impl_oneLine.f strings_Join.f
    have l1 : (Go.Lib.goFieldsP impl_oneLine.p s).length = (fld (bs s) []).length := by rw [← e1, List.length_map]
    have l2 : (Go.Lib.join ((Go.Lib.goFieldsP impl_oneLine.p s).map (·.data.toList)) [32]).length = t.size := by rw [ht, size_eq]
    rw [if_pos (by omega), if_pos ⟨by omega, by show (Go.Lib.join ((Go.Lib.goFieldsP impl_oneLine.p s).map (·.data.toList)) [32]).length ≤ _; omega⟩, ht]
  · unfold spec_l06Line.f
    have := line_loop s hs s.size (bs s) 0 [] (by rw [bs_length]; omega) (by rw [List.drop_zero]) (by simp) (by omega)
    rw [lin_fields, ← hbt, nums_back] at this
    exact this
end Go.Proofs.YteknchhlineciaaGreatDoor.OQFnExactFeedText
namespace Go.Proofs.YteknchhlineciaaGreatDoor.EQFnExactFeedText
open Go.RowKit Go.Proofs.YteknchhlineciaaGreatDoor.QFnExactFeedText Go.Proofs.YteknchhlineciaaGreatDoorW.PrintWords Go.Proofs.YteknchhlineciaaGreatDoorW.PrintLast Go.Proofs.YteknchhlineciaaGreatDoorW.PrintMore
open Go.Proofs.YteknchhlineciaaGreatDoor.RQFnExactFeedText Go.Proofs.YteknchhlineciaaGreatDoor.OQFnExactFeedText
set_option linter.unusedSimpArgs false
set_option linter.unusedVariables false
theorem field (s : ByteArray) (hs : s.size ≤ 1048576) : ∃ b, impl_lineOK.f s = some b ∧ Ev (fun k => spec_l06Field.f k s) b := by
  obtain ⟨v, f1, f2⟩ := fault s hs
  obtain ⟨t, l1, l2, _⟩ := line s hs
  unfold impl_lineOK.f spec_l06Field.f
  by_cases h : (s.size : Int) ≤ 200
  · rw [if_pos h, f1]
    simp only [Option.bind_some]
    by_cases hv : v < 0
    · rw [if_pos hv, l1]
      simp only [Option.bind_some]
      exact ⟨_, rfl, Evx.pos h (Ev.bind f2 (Evx.pos hv (Ev.bind l2 (Ev.now _))))⟩
    · rw [if_neg hv]
      exact ⟨_, rfl, Evx.pos h (Ev.bind f2 (Evx.neg hv (Ev.now _)))⟩
  · rw [if_neg h]
    exact ⟨_, rfl, Evx.neg h (Ev.now _)⟩
theorem stamp_in (a : Int) : spec_l01In.f a 0 4102444799 = some (decide (0 ≤ a ∧ a ≤ 4102444799)) := by
  unfold spec_l01In.f
  split <;> simp <;> omega
theorem stamp_is (a : Int) : impl_isStamp.f a = some (decide (0 ≤ a ∧ a ≤ 4102444799)) := by
  unfold impl_isStamp.f
  rw [within_eq]
  rfl
theorem entry (a0 a1 a2 a3 : ByteArray) (a4 : Int) (a5 : ByteArray) (h0 : a0.size ≤ 1048576) (h1 : a1.size ≤ 1048576) (h2 : a2.size ≤ 1048576) (h3 : a3.size ≤ 1048576) (h5 : a5.size ≤ 1048576) :
    ∃ b, Ev (fun k => spec_EntryOK.f k a0 a1 a2 a3 a4 a5) b ∧ Ev (fun k => impl_EntryOK.f k a0 a1 a2 a3 a4 a5) b := by
  obtain ⟨b0, i0, s0⟩ := field a0 h0
  obtain ⟨b1, i1, s1⟩ := field a1 h1
  obtain ⟨b2, i2, s2⟩ := field a2 h2
  obtain ⟨b3, i3, s3⟩ := field a3 h3
  obtain ⟨v, f1, f2⟩ := fault a5 h5
  have bad : Ev (fun k => impl_EntryOK.j0 k true a0 a1 a2 a3 a4 a5) false := by
    refine Ev.step (fun k => by rw [impl_EntryOK.j0]) ?_
    exact Evx.pos rfl (Ev.now _)
  unfold spec_EntryOK.f impl_EntryOK.f
  by_cases e : a0.toList = ([] : List UInt8)
  · exact ⟨false, Evx.pos e (Ev.now _), Evx.pos e bad⟩
  cases b0 with
  | false => exact ⟨false, Evx.neg e (Ev.bind s0 (Evx.neg (by simp) (Ev.now _))), Evx.neg e (Evx.bindc i0 (Evx.neg (by simp) bad))⟩
  | true =>
  cases b1 with
  | false => exact ⟨false, Evx.neg e (Ev.bind s0 (Evx.pos rfl (Ev.bind s1 (Evx.neg (by simp) (Ev.now _))))), Evx.neg e (Evx.bindc i0 (Evx.pos rfl (Evx.bindc i1 (Evx.neg (by simp) bad))))⟩
  | true =>
  cases b2 with
  | false => exact ⟨false, Evx.neg e (Ev.bind s0 (Evx.pos rfl (Ev.bind s1 (Evx.pos rfl (Ev.bind s2 (Evx.neg (by simp) (Ev.now _))))))), Evx.neg e (Evx.bindc i0 (Evx.pos rfl (Evx.bindc i1 (Evx.pos rfl (Evx.bindc i2 (Evx.neg (by simp) bad))))))⟩
  | true =>
  cases b3 with
  | false => exact ⟨false, Evx.neg e (Ev.bind s0 (Evx.pos rfl (Ev.bind s1 (Evx.pos rfl (Ev.bind s2 (Evx.pos rfl (Ev.bind s3 (Evx.neg (by simp) (Ev.now _))))))))), Evx.neg e (Evx.bindc i0 (Evx.pos rfl (Evx.bindc i1 (Evx.pos rfl (Evx.bindc i2 (Evx.pos rfl (Evx.bindc i3 bad)))))))⟩
  | true =>
  have go : ∀ b, Ev (fun k => impl_EntryOK.j0 k false a0 a1 a2 a3 a4 a5) b → Ev (fun k => (spec_l01In.f a4 0 4102444799).bind fun t137 => if t137 = true then (if (a5.size : Int) ≤ 1000 then ((spec_l05Runes.f k a5).bind fun t138 => (some (decide (t138 < 0)))) else (some false)) else (some false)) b →
      ∃ b, Ev (fun k => if a0.toList = ([] : List UInt8) then (some false) else ((spec_l06Field.f k a0).bind fun t133 => (if t133 = true then ((spec_l06Field.f k a1).bind fun t134 => (if t134 = true then ((spec_l06Field.f k a2).bind fun t135 => (if t135 = true then ((spec_l06Field.f k a3).bind fun t136 => (if t136 = true then ((spec_l01In.f a4 0 4102444799).bind fun t137 => (if t137 = true then (if (a5.size : Int) ≤ 1000 then ((spec_l05Runes.f k a5).bind fun t138 => (some (decide (t138 < 0)))) else (some false)) else (some false))) else (some false))) else (some false))) else (some false))) else (some false)))) b ∧
        Ev (fun k => if a0.toList = ([] : List UInt8) then (impl_EntryOK.j0 k true a0 a1 a2 a3 a4 a5) else ((impl_lineOK.f a0).bind fun t149 => (if t149 = true then ((impl_lineOK.f a1).bind fun t150 => (if t150 = true then ((impl_lineOK.f a2).bind fun t151 => (if t151 = true then ((impl_lineOK.f a3).bind fun t152 => (impl_EntryOK.j0 k (!t152) a0 a1 a2 a3 a4 a5)) else (impl_EntryOK.j0 k true a0 a1 a2 a3 a4 a5))) else (impl_EntryOK.j0 k true a0 a1 a2 a3 a4 a5))) else (impl_EntryOK.j0 k true a0 a1 a2 a3 a4 a5)))) b := by
    intro b hi hs
    exact ⟨b, Evx.neg e (Ev.bind s0 (Evx.pos rfl (Ev.bind s1 (Evx.pos rfl (Ev.bind s2 (Evx.pos rfl (Ev.bind s3 (Evx.pos rfl hs)))))))), Evx.neg e (Evx.bindc i0 (Evx.pos rfl (Evx.bindc i1 (Evx.pos rfl (Evx.bindc i2 (Evx.pos rfl (Evx.bindc i3 hi)))))))⟩
  have jn : ∀ b, Ev (fun k => if (a5.size : Int) ≤ 1000 then ((impl_xmlFault.f a5).bind fun t153 => (if t153 < 0 then ((impl_isStamp.f a4).bind fun t154 => (some t154)) else (some false))) else (some false)) b → Ev (fun k => impl_EntryOK.j0 k false a0 a1 a2 a3 a4 a5) b := by
    intro b hb
    refine Ev.step (fun k => by rw [impl_EntryOK.j0]) ?_
    exact Evx.neg (by simp) hb
  by_cases hz : (a5.size : Int) ≤ 1000
  · by_cases hv : v < 0
    · by_cases ht : 0 ≤ a4 ∧ a4 ≤ 4102444799
      · exact go true (jn _ (Evx.pos hz (Evx.bindc f1 (Evx.pos hv (Evx.bindc (stamp_is a4) (Evx.eq (Ev.now _) (decide_eq_true ht))))))) (Evx.bindc (stamp_in a4) (Evx.pos (decide_eq_true ht) (Evx.pos hz (Ev.bind f2 (Evx.eq (Ev.now _) (decide_eq_true hv))))))
      · exact go false (jn _ (Evx.pos hz (Evx.bindc f1 (Evx.pos hv (Evx.bindc (stamp_is a4) (Evx.eq (Ev.now _) (decide_eq_false ht))))))) (Evx.bindc (stamp_in a4) (Evx.neg (by simpa using ht) (Ev.now _)))
    · refine go false (jn _ (Evx.pos hz (Evx.bindc f1 (Evx.neg hv (Ev.now _))))) (Evx.bindc (stamp_in a4) ?_)
      exact Evx.ite (fun _ => Evx.pos hz (Ev.bind f2 (Evx.eq (Ev.now _) (decide_eq_false hv)))) (fun _ => Ev.now _)
  · refine go false (jn _ (Evx.neg hz (Ev.now _))) (Evx.bindc (stamp_in a4) ?_)
    exact Evx.ite (fun _ => Evx.neg hz (Ev.now _)) (fun _ => Ev.now _)
theorem sz (a0 a1 a2 a3 : ByteArray) (a4 : Int) (a5 : ByteArray) (m : Int) (hm : 0 ≤ m ∧ m ≤ 1048576) (w0 : a0.size ≤ 140737488351232) (w1 : a1.size ≤ 140737488351232) (w2 : a2.size ≤ 140737488351232) (w3 : a3.size ≤ 140737488351232) (w5 : a5.size ≤ 140737488351232) :
    ∃ t, laws_szEntry.f a0 a1 a2 a3 a4 a5 m = some t ∧ -1 ≤ t ∧ (0 ≤ t → t = m - a0.size - a1.size - a2.size - a3.size - a5.size) := by
  unfold laws_szEntry.f
  rw [Evx.w64 (i := m - (a0.size : Int)) (by omega) (by omega)]
  by_cases c0 : m - (a0.size : Int) < 0
  · rw [if_pos c0]; exact ⟨_, rfl, by omega, by omega⟩
  rw [if_neg c0, Evx.w64 (i := m - (a0.size : Int) - (a1.size : Int)) (by omega) (by omega)]
  by_cases c1 : m - (a0.size : Int) - (a1.size : Int) < 0
  · rw [if_pos c1]; exact ⟨_, rfl, by omega, by omega⟩
  rw [if_neg c1, Evx.w64 (i := m - (a0.size : Int) - (a1.size : Int) - (a2.size : Int)) (by omega) (by omega)]
  by_cases c2 : m - (a0.size : Int) - (a1.size : Int) - (a2.size : Int) < 0
  · rw [if_pos c2]; exact ⟨_, rfl, by omega, by omega⟩
  rw [if_neg c2, Evx.w64 (i := m - (a0.size : Int) - (a1.size : Int) - (a2.size : Int) - (a3.size : Int)) (by omega) (by omega)]
  by_cases c3 : m - (a0.size : Int) - (a1.size : Int) - (a2.size : Int) - (a3.size : Int) < 0
  · rw [if_pos c3]; exact ⟨_, rfl, by omega, by omega⟩
  rw [if_neg c3, Evx.w64 (i := m - (a0.size : Int) - (a1.size : Int) - (a2.size : Int) - (a3.size : Int) - (a5.size : Int)) (by omega) (by omega)]
  by_cases c5 : m - (a0.size : Int) - (a1.size : Int) - (a2.size : Int) - (a3.size : Int) - (a5.size : Int) < 0
  · rw [if_pos c5]; exact ⟨_, rfl, by omega, by omega⟩
  rw [if_neg c5]
  exact ⟨_, rfl, by omega, by omega⟩
end Go.Proofs.YteknchhlineciaaGreatDoor.EQFnExactFeedText
namespace Go.Proofs.YteknchhlineciaaGreatDoor.NQFnExactFeedText
open Go.RowKit Go.Proofs.YteknchhlineciaaGreatDoor.QFnExactFeedText Go.Proofs.YteknchhlineciaaGreatDoorW.PrintWords Go.Proofs.YteknchhlineciaaGreatDoorW.PrintLast Go.Proofs.YteknchhlineciaaGreatDoorW.PrintMore Go.Proofs.YteknchhlineciaaGreatDoor.Evx
open Go.Proofs.YteknchhlineciaaGreatDoor.RQFnExactFeedText Go.Proofs.YteknchhlineciaaGreatDoor.OQFnExactFeedText Go.Proofs.YteknchhlineciaaGreatDoor.EQFnExactFeedText
set_option linter.unusedSimpArgs false
set_option linter.unusedVariables false
/-- An entry as the other package's. -/
def conv (x : S54) : S49 := ⟨x.f0, x.f1, x.f2, x.f3, x.f4, x.f5⟩
/-- An entry's texts have at most so many bytes. -/
def Upto (n : Nat) (x : S54) : Prop := x.f0.size ≤ n ∧ x.f1.size ≤ n ∧ x.f2.size ≤ n ∧ x.f3.size ≤ n ∧ x.f5.size ≤ n
def UptoC (n : Nat) (x : S49) : Prop := x.f0.size ≤ n ∧ x.f1.size ≤ n ∧ x.f2.size ≤ n ∧ x.f3.size ≤ n ∧ x.f5.size ≤ n
theorem rd54 (l : List S54) (i : Nat) (h : i < l.length) : rd_T54 l (i : Int) = l[i] := by simp [rd_T54, List.getD_eq_getElem?_getD, List.getElem?_eq_getElem h]
theorem rd49 (l : List S49) (i : Nat) (h : i < l.length) : rd_T49 l (i : Int) = l[i] := by simp [rd_T49, List.getD_eq_getElem?_getD, List.getElem?_eq_getElem h]
theorem sz_loop (l : List S54) (hl : l.length ≤ 9223372036854775807) (hw : ∀ x ∈ l, Upto 140737488351232 x) (d : Nat) : ∀ (i : Nat) (n : Int), i + d = l.length → 0 ≤ n → n ≤ 1048576 →
    ∃ z, Ev (fun k => laws_szEntryS.l0 k l n (i : Int)) z ∧ (0 ≤ z → ∀ x ∈ l.drop i, Upto 1048576 x) := by
  induction d with
  | zero =>
    intro i n hi h0 h1
    refine ⟨n, ?_, fun _ x hx => ?_⟩
    · refine Ev.step (fun k => by rw [laws_szEntryS.l0]) ?_
      exact Evx.neg (by omega) (Ev.now _)
    · rw [List.drop_eq_nil_of_le (by omega)] at hx
      cases hx
  | succ d ih =>
    intro i n hi h0 h1
    have hil : i < l.length := by omega
    have hx := hw l[i] (List.getElem_mem hil)
    have er := rd54 l i hil
    obtain ⟨t, ht, ht1, ht2⟩ := sz l[i].f0 l[i].f1 l[i].f2 l[i].f3 l[i].f4 l[i].f5 n ⟨h0, h1⟩ hx.1 hx.2.1 hx.2.2.1 hx.2.2.2.1 hx.2.2.2.2
    rw [← er] at ht
    by_cases hn : t < 0
    · refine ⟨-1, ?_, fun h => absurd h (by omega)⟩
      refine Ev.step (fun k => by rw [laws_szEntryS.l0]) ?_
      exact Evx.pos (by omega) (Evx.pos (by omega) (Evx.bindc ht (Evx.pos hn (Ev.now _))))
    · have h3 := ht2 (by omega)
      obtain ⟨z, hz, hz2⟩ := ih (i + 1) t (by omega) (by omega) (by omega)
      refine ⟨z, ?_, fun h => ?_⟩
      · refine Ev.step (fun k => by rw [laws_szEntryS.l0]) ?_
        refine Evx.pos (by omega) (Evx.pos (by omega) (Evx.bindc ht (Evx.neg hn ?_)))
        rw [Evx.w64 (by omega) (by omega)]
        exact hz
      · intro x hxm
        rw [List.drop_eq_getElem_cons hil] at hxm
        rcases List.mem_cons.1 hxm with rfl | hxm
        · exact ⟨by omega, by omega, by omega, by omega, by omega⟩
        · exact hz2 h x hxm
theorem sz_row (l : List S54) (hl : l.length ≤ 9223372036854775807) (hw : ∀ x ∈ l, Upto 140737488351232 x) (n : Int) (h0 : 0 ≤ n) (h1 : n ≤ 1048576) :
    ∃ z, Ev (fun k => laws_szEntryS.f k l n) z ∧ (0 ≤ z → l.length ≤ 1048576 ∧ ∀ x ∈ l, Upto 1048576 x) := by
  unfold laws_szEntryS.f
  by_cases h : (wrap64 (n - (l.length : Int))) < 0
  · exact ⟨-1, Evx.pos h (Ev.now _), fun h => absurd h (by omega)⟩
  · rw [Evx.w64 (by omega) (by omega)] at h ⊢
    obtain ⟨z, hz, hz2⟩ := sz_loop l hl hw l.length 0 (n - (l.length : Int)) (by omega) (by omega) (by omega)
    exact ⟨z, Evx.neg h hz, fun h => ⟨by omega, hz2 h⟩⟩
theorem sz_feed (a0 : Bool) (a1 : ByteArray) (l : List S54) (hl : l.length ≤ 9223372036854775807) (hw : ∀ x ∈ l, Upto 140737488351232 x) (h1 : a1.size ≤ 140737488351232) :
    ∃ z, Ev (fun k => laws_szFeed.f k a0 a1 l 1048576) z ∧ (0 ≤ z → a1.size ≤ 1048576 ∧ l.length ≤ 1048576 ∧ ∀ x ∈ l, Upto 1048576 x) := by
  unfold laws_szFeed.f
  rw [Evx.w64 (by omega) (by omega)]
  by_cases hn : (1048576 - (a1.size : Int)) < 0
  · exact ⟨-1, Evx.pos hn (Ev.now _), fun h => absurd h (by omega)⟩
  · obtain ⟨z, hz, hz2⟩ := sz_row l hl hw (1048576 - (a1.size : Int)) (by omega) (by omega)
    by_cases h : z < 0
    · exact ⟨-1, Evx.neg hn (Ev.bind hz (Evx.pos h (Ev.now _))), fun h => absurd h (by omega)⟩
    · exact ⟨z, Evx.neg hn (Ev.bind hz (Evx.neg h (Ev.now _))), fun h => ⟨by omega, hz2 h⟩⟩
theorem copy_loop (l : List S54) (hl : l.length ≤ 1048576) (d : Nat) : ∀ (i : Nat) (x : List S49), i + d = l.length → x.length = l.length → x.take i = (l.map conv).take i → Ev (fun k => laws_toEntryS.l0 k l x (i : Int)) (l.map conv) := by
  induction d with
  | zero =>
    intro i x hi hx ht
    refine Ev.step (fun k => by rw [laws_toEntryS.l0]) ?_
    refine Evx.neg (by omega) (Evx.eq (Ev.now _) ?_)
    rw [List.take_of_length_le (by omega), List.take_of_length_le (by rw [List.length_map]; omega)] at ht
    exact ht
  | succ d ih =>
    intro i x hi hx ht
    refine Ev.step (fun k => by rw [laws_toEntryS.l0]) ?_
    refine Evx.pos (by omega) (Evx.pos (by omega) (Evx.bindc (b := ((rd_T54 l (i : Int)).f0, (rd_T54 l (i : Int)).f1, (rd_T54 l (i : Int)).f2, (rd_T54 l (i : Int)).f3, (rd_T54 l (i : Int)).f4, (rd_T54 l (i : Int)).f5)) rfl (Evx.pos (by omega) ?_)))
    rw [Evx.w64 (by omega) (by omega)]
    refine Evx.fn (ih (i + 1) (x.set i (conv (rd_T54 l (i : Int)))) (by omega) (by rw [List.length_set]; exact hx) ?_) (by rw [Int.toNat_natCast]; rfl)
    rw [List.take_add_one, List.take_add_one, List.take_set_of_le (Nat.le_refl _), ht, List.getElem?_set_self (by omega), List.getElem?_map, List.getElem?_eq_getElem (by omega), rd54 l i (by omega)]
    rfl
theorem copied (a0 : Bool) (a1 : ByteArray) (l : List S54) (hl : l.length ≤ 1048576) : Ev (fun k => laws_toFeed.f k a0 a1 l) (a0, a1, l.map conv) := by
  unfold laws_toFeed.f
  refine Ev.bind (a := l.map conv) ?_ (Ev.now _)
  unfold laws_toEntryS.f
  refine Evx.pos (by omega) (Evx.pos (by rw [Int.toNat_natCast]; omega) ?_)
  refine copy_loop l hl l.length 0 _ (by omega) (by simp) (by simp)
theorem eq_loop (l : List S49) (hl : l.length ≤ 1048576) (d : Nat) : ∀ i : Nat, i + d = l.length → Ev (fun k => laws_eqEntryS.l0 k l l (i : Int)) true := by
  induction d with
  | zero =>
    intro i hi
    refine Ev.step (fun k => by rw [laws_eqEntryS.l0]) ?_
    exact Evx.neg (by omega) (Ev.now _)
  | succ d ih =>
    intro i hi
    refine Ev.step (fun k => by rw [laws_eqEntryS.l0]) ?_
    refine Evx.pos (by omega) (Evx.pos (by omega) (Evx.pos (by omega) (Evx.bindc (b := true) (by unfold laws_eqEntry.f; rw [if_pos rfl, if_pos rfl, if_pos rfl, if_pos rfl, if_pos rfl, if_pos rfl]) (Evx.pos rfl ?_))))
    rw [Evx.w64 (by omega) (by omega)]
    exact ih (i + 1) (by omega)
theorem same (a0 : Bool) (a1 : ByteArray) (l : List S49) (hl : l.length ≤ 1048576) : Ev (fun k => laws_eqFeed.f k a0 a1 l a0 a1 l) true := by
  unfold laws_eqFeed.f
  refine Evx.neg (by simp) (Evx.pos rfl (Ev.bind (a := true) ?_ (Evx.pos rfl (Ev.now _))))
  unfold laws_eqEntryS.f
  exact Evx.pos rfl (eq_loop l hl l.length 0 (by omega))
theorem conv_ok {n : Nat} {l : List S54} (h : ∀ x ∈ l, Upto n x) : ∀ x ∈ l.map conv, UptoC n x := by
  intro x hx
  obtain ⟨y, hy, rfl⟩ := List.mem_map.1 hx
  exact h y hy
theorem feed_loop (a0 : Bool) (a1 : ByteArray) (m : List S49) (hm : m.length ≤ 1048576) (hok : ∀ x ∈ m, UptoC 1048576 x) (d : Nat) : ∀ i : Nat, i + d = m.length →
    ∃ j : Int, Ev (fun k => impl_FeedOK.ix k (m.drop i) i) j ∧ Ev (fun k => spec_FeedOK.l0 k (i : Int) a0 a1 m) (decide (j < 0)) := by
  induction d with
  | zero =>
    intro i hi
    refine ⟨-1, ?_, ?_⟩
    · rw [List.drop_eq_nil_of_le (by omega)]
      exact Evx.fn (f := fun _ => some (-1)) (Ev.now _) (by funext k; rw [impl_FeedOK.ix])
    · refine Ev.step (fun k => by rw [spec_FeedOK.l0]) ?_
      exact Evx.neg (by omega) (Evx.eq (Ev.now _) (by decide))
  | succ d ih =>
    intro i hi
    have hil : i < m.length := by omega
    have hx := hok m[i] (List.getElem_mem hil)
    have er := rd49 m i hil
    obtain ⟨b, e1, e2⟩ := entry m[i].f0 m[i].f1 m[i].f2 m[i].f3 m[i].f4 m[i].f5 hx.1 hx.2.1 hx.2.2.1 hx.2.2.2.1 hx.2.2.2.2
    rw [List.drop_eq_getElem_cons hil]
    have go : ∀ j, Ev (fun k => (impl_EntryOK.f k m[i].f0 m[i].f1 m[i].f2 m[i].f3 m[i].f4 m[i].f5).bind fun b => if b = true then impl_FeedOK.ix k (m.drop (i + 1)) (i + 1) else some (i : Int)) j → Ev (fun k => impl_FeedOK.ix k (m[i] :: m.drop (i + 1)) i) j :=
      fun j h => Evx.fn h (by funext k; rw [impl_FeedOK.ix])
    cases b with
    | false =>
      refine ⟨i, go _ (Ev.bind e2 (Evx.neg (by simp) (Ev.now _))), ?_⟩
      refine Ev.step (fun k => by rw [spec_FeedOK.l0]) ?_
      refine Evx.pos (by omega) (Evx.pos (by omega) ?_)
      rw [er]
      refine Ev.bind e1 (Evx.neg (by simp) (Evx.eq (Ev.now _) ?_))
      exact (decide_eq_false (by omega)).symm
    | true =>
      obtain ⟨j, hj1, hj2⟩ := ih (i + 1) (by omega)
      refine ⟨j, go _ (Ev.bind e2 (Evx.pos rfl hj1)), ?_⟩
      refine Ev.step (fun k => by rw [spec_FeedOK.l0]) ?_
      refine Evx.pos (by omega) (Evx.pos (by omega) ?_)
      rw [er]
      refine Ev.bind e1 (Evx.pos rfl ?_)
      rw [Evx.w64 (by omega) (by omega)]
      exact hj2
/-- A feed's test says the same on both sides. -/
theorem feed (a0 : Bool) (a1 : ByteArray) (m : List S49) (h1 : a1.size ≤ 1048576) (hm : m.length ≤ 1048576) (hok : ∀ x ∈ m, UptoC 1048576 x) :
    ∃ b, Ev (fun k => spec_FeedOK.f k a0 a1 m) b ∧ Ev (fun k => impl_FeedOK.f k a0 a1 m) b := by
  obtain ⟨b1, i1, s1⟩ := field a1 h1
  have bad : Ev (fun k => spec_FeedOK.j0 k true a0 a1 m) false := by
    refine Ev.step (fun k => by rw [spec_FeedOK.j0]) ?_
    exact Evx.pos rfl (Ev.now _)
  unfold spec_FeedOK.f impl_FeedOK.f
  cases b1 with
  | false => exact ⟨false, Ev.bind s1 (Evx.neg (by simp) bad), Evx.bindc i1 (Evx.neg (by simp) (Ev.now _))⟩
  | true =>
    by_cases h : m.length ≤ 20
    · obtain ⟨j, hj1, hj2⟩ := feed_loop a0 a1 m hm hok m.length 0 (by omega)
      refine ⟨decide (j < 0), Ev.bind s1 (Evx.pos rfl ?_), Evx.bindc i1 (Evx.pos rfl (Evx.pos h (Ev.bind hj1 (Ev.now _))))⟩
      refine Ev.step (fun k => by rw [spec_FeedOK.j0]) ?_
      exact Evx.neg (by simp; omega) hj2
    · refine ⟨false, Ev.bind s1 (Evx.pos rfl ?_), Evx.bindc i1 (Evx.pos rfl (Evx.neg h (Ev.now _)))⟩
      refine Ev.step (fun k => by rw [spec_FeedOK.j0]) ?_
      exact Evx.pos (by simp; omega) (Ev.now _)
end Go.Proofs.YteknchhlineciaaGreatDoor.NQFnExactFeedText
