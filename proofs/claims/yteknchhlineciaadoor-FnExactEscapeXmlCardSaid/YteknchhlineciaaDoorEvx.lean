/- Small plain lemmas on bounded rounds, on 64-bit sums and on texts as lists of numbers, for this seat's proofs. Conditions: as each lemma states. -/
import Derived.Test.YteknchhlineciaaDoorWMore
namespace Go.Proofs.YteknchhlineciaaDoor.Evx
open Go.RowKit Go.Proofs.YteknchhlineciaaDoorW.PrintWords
set_option linter.unusedVariables false
section
variable {α β : Type} {f g : Nat → Option α} {r : α} {c : Prop} [Decidable c]
theorem pos (h : c) (k : Ev f r) : Ev (fun n => if c then f n else g n) r := Ev.congr (fun _ => if_pos h) k
theorem neg (h : ¬ c) (k : Ev g r) : Ev (fun n => if c then f n else g n) r := Ev.congr (fun _ => if_neg h) k
theorem ite (h1 : c → Ev f r) (h2 : ¬ c → Ev g r) : Ev (fun n => if c then f n else g n) r := by
  by_cases h : c
  · exact pos h (h1 h)
  · exact neg h (h2 h)
theorem bindc {x : Option β} {b : β} {f : Nat → β → Option α} (h : x = some b) (k : Ev (fun n => f n b) r) : Ev (fun n => x.bind (f n)) r :=
  Ev.congr (fun n => by rw [h]; rfl) k
theorem const {x : Option α} (h : x = some r) : Ev (fun _ => x) r := Ev.congr (fun _ => h) (Ev.now r)
theorem eq {r' : α} (h : Ev f r') (e : r' = r) : Ev f r := e ▸ h
theorem fn {f' : Nat → Option α} (h : Ev f r) (e : f = f') : Ev f' r := e ▸ h
end
theorem w64 {i : Int} (h0 : -9223372036854775808 ≤ i) (h1 : i ≤ 9223372036854775807) : wrap64 i = i := by unfold wrap64; omega
theorem w32 {i : Int} (h0 : -2147483648 ≤ i) (h1 : i ≤ 2147483647) : wrap32 i = i := by unfold wrap32; omega
theorem wf64 {x : Int} (h : (Lit.int .i64 x).wf = true) : -9223372036854775808 ≤ x ∧ x ≤ 9223372036854775807 := by
  simpa [Lit.wf, IntKind.min, IntKind.max, IntKind.signed, IntKind.bits] using h
/-- A text's bytes as numbers. -/
def bs (s : ByteArray) : List Int := s.data.toList.map fun b => (b.toNat : Int)
theorem size_eq (s : ByteArray) : s.size = s.data.toList.length := by rw [Array.length_toList]; rfl
theorem bs_length (s : ByteArray) : (bs s).length = s.size := by rw [bs, List.length_map, size_eq]
theorem bt_bs (s : ByteArray) (i : Int) : bt s i = (bs s).getD i.toNat 0 := by
  unfold bt bs
  by_cases h : i.toNat < s.size
  · rw [dif_pos h, List.getD_eq_getElem?_getD, List.getElem?_map, List.getElem?_eq_getElem (by rw [← size_eq]; exact h)]
    rfl
  · rw [dif_neg h, List.getD_eq_getElem?_getD, List.getElem?_eq_none (by rw [List.length_map, ← size_eq]; omega)]
    rfl
theorem bs_range (s : ByteArray) : ∀ x ∈ bs s, 0 ≤ x ∧ x < 256 := by
  intro x hx
  obtain ⟨b, _, rfl⟩ := List.mem_map.1 hx
  have := b.toNat_lt
  constructor <;> omega
theorem bs_inj {s t : ByteArray} (h : bs s = bs t) : s = t := by
  have h1 : s.data.toList = t.data.toList := by
    refine List.map_inj_right (f := fun b : UInt8 => (b.toNat : Int)) (fun a b hab => ?_) |>.1 h
    exact UInt8.toNat_inj.1 (by omega)
  cases s; cases t
  simp only [ByteArray.mk.injEq]
  exact Array.toList_inj.1 h1
theorem bs_strOfNums {xs : List Int} (h : ∀ x ∈ xs, 0 ≤ x ∧ x < 256) : bs (strOfNums xs) = xs := by
  unfold bs strOfNums
  simp only [List.map_map]
  conv => rhs; rw [← List.map_id xs]
  refine List.map_congr_left fun x hx => ?_
  have := h x hx
  simp only [Function.comp, id, UInt8.toNat_ofNat']
  omega
theorem size_strOfNums (xs : List Int) : (strOfNums xs).size = xs.length := by rw [size_eq]; simp [strOfNums]
end Go.Proofs.YteknchhlineciaaDoor.Evx
