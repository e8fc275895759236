/- Each instance of a text in another one replaced, told byte by byte. Conditions: the text that is replaced is not empty, and another one than what replaces it. -/
import Derived.Lib.Replace
import Derived.Test.YtebmhicdlamnbaaDoorEvx
namespace Go.Proofs.YtebmhicdlamnbaaDoor.Rpl
open Go.Lib Go.Proofs.YtebmhicdlamnbaaDoor.Evx
set_option linter.unusedSimpArgs false
set_option linter.unusedVariables false
section
variable {old new : List UInt8} (h1 : old ≠ []) (hne : (old == new) = false)
include hne in
theorem rp_eq (s : List UInt8) : replaceAll s old new = replaceK old new (count s old) s := by
  unfold replaceAll replace replaceNum
  rw [hne]
  simp
include hne in
theorem rp_miss {s : List UInt8} (h : index s old = -1) : replaceAll s old new = s := by
  rw [rp_eq hne, count_miss h]
  rfl
include h1 hne in
theorem rp_hit {s : List UInt8} {j : Nat} (h : index s old = j) : replaceAll s old new = s.take j ++ new ++ replaceAll (s.drop (j + old.length)) old new := by
  rw [rp_eq hne, rp_eq hne, count_hit h1 h, Nat.add_comm 1, replaceK_hit old new _ s j h]
include h1 hne in
theorem rp_nil : replaceAll [] old new = [] := rp_miss hne (by
  unfold index
  cases old with
  | nil => exact absurd rfl h1
  | cons a l => rfl)
include h1 hne in
theorem rp_at {b : UInt8} {l : List UInt8} (h : old.isPrefixOf (b :: l) = true) : replaceAll (b :: l) old new = new ++ replaceAll ((b :: l).drop old.length) old new := by
  have hi : index (b :: l) old = ((0 : Nat) : Int) := by rw [index, if_pos h]; rfl
  rw [rp_hit h1 hne hi]
  simp
include h1 hne in
theorem rp_no {b : UInt8} {l : List UInt8} (h : old.isPrefixOf (b :: l) = false) : replaceAll (b :: l) old new = b :: replaceAll l old new := by
  have hi : index (b :: l) old = if index l old == -1 then -1 else index l old + 1 := by rw [index, if_neg (by rw [h]; simp)]
  by_cases hm : index l old = -1
  · rw [rp_miss hne hm, rp_miss hne (by rw [hi, if_pos (beq_iff_eq.2 hm)])]
  · have hge := index_ge l old
    obtain ⟨j, hj⟩ : ∃ j : Nat, index l old = j := ⟨(index l old).toNat, by omega⟩
    have hi2 : index (b :: l) old = ((j + 1 : Nat) : Int) := by rw [hi, if_neg (fun e => hm (beq_iff_eq.1 e)), hj]; omega
    rw [rp_hit h1 hne hj, rp_hit h1 hne hi2, show j + 1 + old.length = (j + old.length) + 1 by omega, List.drop_succ_cons]
    rfl
end
/-- Ends of lines ahead of blanks taken away. -/
def rep : List Int → List Int
  | [] => []
  | c :: r => if c = 13 ∧ r.take 2 = [10, 32] then 32 :: rep (r.drop 2) else c :: rep r
termination_by l => l.length
decreasing_by all_goals simp only [List.length_cons, List.length_drop]; omega
/-- The same where no 13 is left; nothing where one is. -/
def unf : List Int → Option (List Int)
  | [] => some []
  | c :: r => if c = 13 then (if r.take 2 = [10, 32] then (unf (r.drop 2)).map (32 :: ·) else none) else (unf r).map (c :: ·)
termination_by l => l.length
decreasing_by all_goals simp only [List.length_cons, List.length_drop]; omega
theorem unf_some : ∀ (n : Nat) (l v : List Int), l.length ≤ n → unf l = some v → rep l = v
  | _, [], v, _, h => by rw [unf] at h; cases h; rw [rep]
  | 0, _ :: _, _, h, _ => by simp at h
  | n + 1, c :: r, v, hn, h => by
    have hr : r.length ≤ n := by simpa using hn
    rw [unf] at h
    rw [rep]
    by_cases h1 : c = 13
    · rw [if_pos h1] at h
      by_cases h2 : r.take 2 = [10, 32]
      · rw [if_pos h2] at h
        obtain ⟨u, hu, rfl⟩ := Option.map_eq_some_iff.1 h
        rw [if_pos ⟨h1, h2⟩, unf_some n _ u (by rw [List.length_drop]; omega) hu]
      · rw [if_neg h2] at h; cases h
    · rw [if_neg h1] at h
      obtain ⟨u, hu, rfl⟩ := Option.map_eq_some_iff.1 h
      rw [if_neg (fun e => h1 e.1), unf_some n r u hr hu]
theorem unf_none : ∀ (n : Nat) (l : List Int), l.length ≤ n → unf l = none → (13 : Int) ∈ rep l
  | _, [], _, h => by rw [unf] at h; cases h
  | 0, _ :: _, h, _ => by simp at h
  | n + 1, c :: r, hn, h => by
    have hr : r.length ≤ n := by simpa using hn
    rw [unf] at h
    rw [rep]
    by_cases h1 : c = 13
    · rw [if_pos h1] at h
      by_cases h2 : r.take 2 = [10, 32]
      · rw [if_pos h2] at h
        rw [if_pos ⟨h1, h2⟩]
        exact List.mem_cons_of_mem _ (unf_none n _ (by rw [List.length_drop]; omega) (by simpa using h))
      · rw [if_neg (fun e => h2 e.2), h1]; simp
    · rw [if_neg h1] at h
      rw [if_neg (fun e => h1 e.1)]
      exact List.mem_cons_of_mem _ (unf_none n r hr (by simpa using h))
theorem rep_len : ∀ (n : Nat) (l : List Int), l.length ≤ n → (rep l).length ≤ l.length
  | _, [], _ => by rw [rep]; exact Nat.le_refl _
  | 0, _ :: _, h => by simp at h
  | n + 1, c :: r, hn => by
    have hr : r.length ≤ n := by simpa using hn
    rw [rep]
    split
    · have := rep_len n (r.drop 2) (by rw [List.length_drop]; omega)
      rw [List.length_drop] at this
      simp only [List.length_cons]; omega
    · have := rep_len n r hr
      simp only [List.length_cons]; omega
def upr (l : List UInt8) : List Int := l.map fun b => (b.toNat : Int)
theorem rep_up : ∀ (n : Nat) (l : List UInt8), l.length ≤ n → upr (replaceAll l [13, 10, 32] [32]) = rep (upr l)
  | _, [], _ => by rw [rp_nil (by simp) (by rfl)]; show [] = rep []; rw [rep]
  | 0, _ :: _, h => by simp at h
  | n + 1, b :: l, hn => by
    have hl : l.length ≤ n := by simpa using hn
    have hu : upr (b :: l) = (b.toNat : Int) :: upr l := rfl
    rw [hu, rep]
    by_cases h : b = 13 ∧ ∃ r, l = 10 :: 32 :: r
    · obtain ⟨rfl, r, rfl⟩ := h
      rw [rp_at (by simp) (by rfl) (by rfl), if_pos ⟨rfl, rfl⟩]
      have := rep_up n r (by simp only [List.length_cons] at hl; omega)
      show 32 :: upr (replaceAll r [13, 10, 32] [32]) = 32 :: rep (upr r)
      rw [this]
    · have hp : ([13, 10, 32] : List UInt8).isPrefixOf (b :: l) = false := by
        cases hq : ([13, 10, 32] : List UInt8).isPrefixOf (b :: l) with
        | false => rfl
        | true =>
          exfalso; apply h
          rcases l with _ | ⟨x, _ | ⟨y, r⟩⟩
          · simp [List.isPrefixOf] at hq
          · simp [List.isPrefixOf] at hq
          · simp only [List.isPrefixOf, Bool.and_eq_true, beq_iff_eq, and_true] at hq
            obtain ⟨q1, q2, q3⟩ := hq
            exact ⟨q1.symm, r, by rw [q2, q3]⟩
      rw [rp_no (by simp) (by rfl) hp, if_neg]
      · have := rep_up n l hl
        show (b.toNat : Int) :: upr (replaceAll l [13, 10, 32] [32]) = (b.toNat : Int) :: rep (upr l)
        rw [this]
      · rintro ⟨e1, e2⟩
        apply h
        refine ⟨UInt8.toNat_inj.1 (by show b.toNat = 13; omega), ?_⟩
        rcases l with _ | ⟨x, _ | ⟨y, r⟩⟩
        · simp [upr] at e2
        · simp [upr] at e2
        · simp only [upr, List.map_cons, List.take_succ_cons, List.take_zero, List.cons.injEq, and_true] at e2
          exact ⟨r, by rw [show x = 10 from UInt8.toNat_inj.1 (by show x.toNat = 10; omega), show y = 32 from UInt8.toNat_inj.1 (by show y.toNat = 32; omega)]⟩
theorem rep_bs (s : ByteArray) : bs ⟨(replaceAll s.data.toList [13, 10, 32] [32]).toArray⟩ = rep (bs s) := rep_up _ s.data.toList (Nat.le_refl _)
end Go.Proofs.YtebmhicdlamnbaaDoor.Rpl
