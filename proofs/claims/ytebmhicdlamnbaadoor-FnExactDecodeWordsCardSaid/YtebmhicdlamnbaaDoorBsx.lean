/- Texts as lists of numbers: cuts, equality, single bytes, a byte's place in a text. Conditions: as each lemma states. -/
import Derived.Test.YtebmhicdlamnbaaDoorEvx
import Derived.Laws.Strings
import Derived.Lib.Bytealg
namespace Go.Proofs.YtebmhicdlamnbaaDoor.Bsx
open Go.RowKit Go.Proofs.YtebmhicdlamnbaaDoorW.PrintWords Go.Proofs.YtebmhicdlamnbaaDoor.Evx
set_option linter.unusedVariables false
theorem toList_data (s : ByteArray) : s.toList = s.data.toList := ByteArray.toList_eq s
theorem toList_iff (s t : ByteArray) : s.toList = t.toList ↔ bs s = bs t := by
  rw [toList_data, toList_data]
  constructor
  · intro h; unfold bs; rw [h]
  · intro h; rw [bs_inj h]
theorem toList_nil (s : ByteArray) : s.toList = ([] : List UInt8) ↔ bs s = [] := by
  rw [toList_data]; unfold bs; simp
theorem toList_beq (s t : ByteArray) : (s.toList == t.toList) = decide (bs s = bs t) := by
  rw [Bool.eq_iff_iff, beq_iff_eq, decide_eq_true_eq, toList_iff]
theorem extract_toList (s : ByteArray) (a b : Nat) : (s.extract a b).data.toList = (s.data.toList.take b).drop a := by
  rw [ByteArray.data_extract, Array.toList_extract, List.extract_eq_take_drop, List.drop_take]
theorem bs_extract (s : ByteArray) (a b : Nat) : bs (s.extract a b) = ((bs s).take b).drop a := by
  unfold bs
  rw [extract_toList, List.map_drop, List.map_take]
theorem bs_drop (s : ByteArray) (a b : Nat) (h : s.size ≤ b) : bs (s.extract a b) = (bs s).drop a := by
  rw [bs_extract, List.take_of_length_le (by rw [bs_length]; exact h)]
theorem bs_take (s : ByteArray) (b : Nat) : bs (s.extract 0 b) = (bs s).take b := by
  rw [bs_extract, List.drop_zero]
theorem bs_append (s t : ByteArray) : bs (s ++ t) = bs s ++ bs t := by
  unfold bs
  rw [show (s ++ t).data = s.data ++ t.data from ByteArray.data_append]
  simp
theorem bt_getD (s : ByteArray) (i : Int) (p j : Nat) (h : i = (p : Int) + (j : Int)) : bt s i = ((bs s).drop p).getD j 0 := by
  rw [bt_bs, h, show ((p : Int) + (j : Int)).toNat = p + j by omega, List.getD_eq_getElem?_getD, List.getD_eq_getElem?_getD, List.getElem?_drop]
theorem bt_lt (s : ByteArray) (i : Int) : 0 ≤ bt s i ∧ bt s i < 256 := by
  have := bt_range s i
  omega
theorem drop_cons {s : ByteArray} {p : Nat} {c : Int} {r : List Int} (h : (bs s).drop p = c :: r) : bt s (p : Int) = c ∧ (bs s).drop (p + 1) = r ∧ p < s.size ∧ 0 ≤ c ∧ c < 256 := by
  have hl : p < (bs s).length := by
    rcases Nat.lt_or_ge p (bs s).length with h1 | h1
    · exact h1
    · rw [List.drop_eq_nil_of_le h1] at h; cases h
  have e : bt s (p : Int) = c := by rw [bt_getD s _ p 0 (by simp), h]; rfl
  refine ⟨e, ?_, by rw [bs_length] at hl; exact hl, ?_⟩
  · rw [← List.tail_drop, h]; rfl
  · rw [← e]; exact bt_lt s _
theorem drop_nil {s : ByteArray} {p : Nat} (h : (bs s).drop p = []) : s.size ≤ p := by
  rw [← bs_length]
  rcases Nat.lt_or_ge p (bs s).length with h1 | h1
  · have := congrArg List.length h
    simp only [List.length_drop, List.length_nil] at this
    omega
  · exact h1
theorem drop_len (s : ByteArray) (p : Nat) : ((bs s).drop p).length = s.size - p := by rw [List.length_drop, bs_length]
theorem index_ge (l : List UInt8) (c : UInt8) : -1 ≤ Lib.indexByte l c := by
  induction l with
  | nil => exact Int.le_refl _
  | cons b l ih =>
    rw [Lib.indexByte]
    split
    · omega
    · split <;> omega
theorem index_mem (l : List UInt8) (c : UInt8) : 0 ≤ Lib.indexByte l c ↔ c ∈ l := by
  induction l with
  | nil => simp [Lib.indexByte]
  | cons b l ih =>
    rw [Lib.indexByte, List.mem_cons, ← ih]
    have h5 := index_ge l c
    by_cases h : b = c
    · subst h; simp
    · have h1 : (b == c) = false := by simpa using h
      rw [h1]
      have h2 : ¬ c = b := fun e => h e.symm
      simp only [Bool.false_eq_true, if_false, h2, false_or]
      by_cases h3 : Lib.indexByte l c = -1
      · simp [h3]
      · have h4 : (Lib.indexByte l c == -1) = false := by simpa using h3
        rw [h4]
        simp only [Bool.false_eq_true, if_false]
        omega
theorem mem_bs (s : ByteArray) (c : UInt8) : c ∈ s.data.toList ↔ (c.toNat : Int) ∈ bs s := by
  unfold bs
  rw [List.mem_map]
  constructor
  · intro h; exact ⟨c, h, rfl⟩
  · rintro ⟨b, hb, e⟩
    have : b = c := UInt8.toNat_inj.1 (by omega)
    rw [← this]; exact hb
end Go.Proofs.YtebmhicdlamnbaaDoor.Bsx
