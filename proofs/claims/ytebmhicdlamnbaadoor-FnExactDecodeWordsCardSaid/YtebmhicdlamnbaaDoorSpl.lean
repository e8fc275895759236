/- A text cut at each place of a separator, told byte by byte. Conditions: the separator is not empty. -/
import Derived.Lib.SplitLaws
import Derived.Test.YtebmhicdlamnbaaDoorEvx
namespace Go.Proofs.YtebmhicdlamnbaaDoor.Spl
open Go.Lib Go.Proofs.YtebmhicdlamnbaaDoor.Evx
set_option linter.unusedSimpArgs false
set_option linter.unusedVariables false
theorem sp_miss {sep s : List UInt8} (h : index s sep = -1) : split s sep = [s] := by
  unfold split
  rw [count_miss h]
  rfl
theorem sp_hit {sep s : List UInt8} (h1 : sep ≠ []) {j : Nat} (h : index s sep = j) : split s sep = s.take j :: split (s.drop (j + sep.length)) sep := by
  unfold split
  rw [count_hit h1 h, Nat.add_comm 1, splitK, if_neg (fun e => by rw [h] at e; have := beq_iff_eq.1 e; omega), h]
  simp
theorem sp_nil {sep : List UInt8} (h1 : sep ≠ []) : split [] sep = [[]] := sp_miss (by
  unfold index
  cases sep with
  | nil => exact absurd rfl h1
  | cons a l => rfl)
/-- Where the separator stands at the beginning. -/
theorem sp_at {sep : List UInt8} (h1 : sep ≠ []) {b : UInt8} {l : List UInt8} (h : sep.isPrefixOf (b :: l) = true) : split (b :: l) sep = [] :: split ((b :: l).drop sep.length) sep := by
  have hi : index (b :: l) sep = ((0 : Nat) : Int) := by rw [index, if_pos h]; rfl
  rw [sp_hit h1 hi]
  simp
/-- A byte put ahead of the first piece. -/
def putOn {α : Type} (b : α) (ps : List (List α)) : List (List α) := (b :: ps.headD []) :: ps.tail
/-- Where it does not. -/
theorem sp_no {sep : List UInt8} (h1 : sep ≠ []) {b : UInt8} {l : List UInt8} (h : sep.isPrefixOf (b :: l) = false) : split (b :: l) sep = putOn b (split l sep) := by
  have hi : index (b :: l) sep = if index l sep == -1 then -1 else index l sep + 1 := by rw [index, if_neg (by rw [h]; simp)]
  by_cases hm : index l sep = -1
  · rw [sp_miss hm, sp_miss (by rw [hi, if_pos (beq_iff_eq.2 hm)])]
    rfl
  · have hge := index_ge l sep
    obtain ⟨j, hj⟩ : ∃ j : Nat, index l sep = j := ⟨(index l sep).toNat, by omega⟩
    have hi2 : index (b :: l) sep = ((j + 1 : Nat) : Int) := by rw [hi, if_neg (fun e => hm (beq_iff_eq.1 e)), hj]; omega
    rw [sp_hit h1 hj, sp_hit h1 hi2, show j + 1 + sep.length = (j + sep.length) + 1 by omega, List.drop_succ_cons]
    rfl
/-- A list of numbers cut at each x. -/
def sp1 (x : Int) : List Int → List (List Int)
  | [] => [[]]
  | c :: l => if c = x then [] :: sp1 x l else putOn c (sp1 x l)
/-- A list of numbers cut at each end of line (13, 10). -/
def sp2 : List Int → List (List Int)
  | [] => [[]]
  | [c] => [[c]]
  | c :: d :: l => if c = 13 ∧ d = 10 then [] :: sp2 l else putOn c (sp2 (d :: l))
theorem sp2_end (l : List Int) : sp2 (13 :: 10 :: l) = [] :: sp2 l := by rw [sp2, if_pos ⟨rfl, rfl⟩]
theorem sp2_one {c : Int} {l : List Int} (h : ¬ (c = 13 ∧ 1 ≤ l.length ∧ l.getD 0 0 = 10)) : sp2 (c :: l) = putOn c (sp2 l) := by
  cases l with
  | nil => rfl
  | cons d l => rw [sp2, if_neg (fun e => h ⟨e.1, by simp, by simpa using e.2⟩)]
theorem sp1_ne (x : Int) (l : List Int) : sp1 x l ≠ [] := by
  cases l with
  | nil => simp [sp1]
  | cons c l => rw [sp1]; split <;> simp [putOn]
theorem sp2_ne : ∀ l : List Int, sp2 l ≠ []
  | [] => by simp [sp2]
  | [c] => by simp [sp2]
  | c :: d :: l => by rw [sp2]; split <;> simp [putOn]
theorem putOn_eq {α : Type} {b : α} {p : List α} {ps qs : List (List α)} (h : qs = p :: ps) : putOn b qs = (b :: p) :: ps := by subst h; rfl
theorem putOn_map {α β : Type} (f : α → β) (b : α) (ps : List (List α)) : (putOn b ps).map (List.map f) = putOn (f b) (ps.map (List.map f)) := by
  cases ps <;> rfl
def up (l : List UInt8) : List Int := l.map fun b => (b.toNat : Int)
theorem split_sp1 (x : UInt8) : ∀ l : List UInt8, (split l [x]).map up = sp1 (x.toNat : Int) (up l)
  | [] => by rw [sp_nil (by simp)]; rfl
  | b :: l => by
    have ih := split_sp1 x l
    by_cases h : b = x
    · subst h
      rw [sp_at (by simp) (by simp [List.isPrefixOf])]
      rw [show up (b :: l) = (b.toNat : Int) :: up l from rfl, sp1, if_pos rfl]
      simp only [List.length_singleton, List.drop_succ_cons, List.drop_zero, List.map_cons, ih]
      rfl
    · rw [sp_no (by simp) (by simp [List.isPrefixOf]; exact fun e => h e.symm)]
      rw [show up (b :: l) = (b.toNat : Int) :: up l from rfl, sp1, if_neg (fun e => h (UInt8.toNat_inj.1 (by omega))), ← ih]
      exact putOn_map (fun b : UInt8 => (b.toNat : Int)) b _
theorem split_sp2 : ∀ (n : Nat) (l : List UInt8), l.length ≤ n → (split l [13, 10]).map up = sp2 (up l)
  | _, [], _ => by rw [sp_nil (by simp)]; rfl
  | 0, _ :: _, h => by simp at h
  | n + 1, b :: l, hn => by
    have ih := split_sp2 n l (by simpa using hn)
    by_cases h : ∃ r, b = 13 ∧ l = 10 :: r
    · obtain ⟨r, rfl, rfl⟩ := h
      rw [sp_at (by simp) (by rfl)]
      have ih2 := split_sp2 n r (by simp only [List.length_cons] at hn; omega)
      show [] :: (split r [13, 10]).map up = sp2 (13 :: 10 :: up r)
      rw [sp2_end, ih2]
    · have hp : ([13, 10] : List UInt8).isPrefixOf (b :: l) = false := by
        cases hq : ([13, 10] : List UInt8).isPrefixOf (b :: l) with
        | false => rfl
        | true =>
          exfalso; apply h
          cases l with
          | nil => simp [List.isPrefixOf] at hq
          | cons d r =>
            simp only [List.isPrefixOf, Bool.and_eq_true, beq_iff_eq, and_true] at hq
            exact ⟨r, hq.1.symm, by rw [hq.2]⟩
      rw [sp_no (by simp) hp]
      rw [show up (b :: l) = (b.toNat : Int) :: up l from rfl, sp2_one (fun e => ?_), ← ih]
      · exact putOn_map (fun b : UInt8 => (b.toNat : Int)) b _
      · apply h
        cases l with
        | nil => simp [up] at e
        | cons d r =>
          refine ⟨r, UInt8.toNat_inj.1 (by have := e.1; show b.toNat = 13; omega), ?_⟩
          have e2 : ((d.toNat : Int)) = 10 := by simpa [up] using e.2.2
          rw [show d = 10 from UInt8.toNat_inj.1 (by show d.toNat = 10; omega)]
theorem pieces1 (s : ByteArray) (x : UInt8) : (splitB ⟨#[x]⟩ 0 (countB s ⟨#[x]⟩) s).map bs = sp1 (x.toNat : Int) (bs s) := by
  have h := splitB_data ⟨#[x]⟩ 0 (countB s ⟨#[x]⟩) s
  have e : bs = up ∘ (fun u : ByteArray => u.data.toList) := rfl
  rw [e, ← List.map_map]
  exact (congrArg (List.map up) h).trans (split_sp1 x s.data.toList)
theorem pieces2 (s : ByteArray) : (splitB ⟨#[13, 10]⟩ 0 (countB s ⟨#[13, 10]⟩) s).map bs = sp2 (bs s) := by
  have h := splitB_data ⟨#[13, 10]⟩ 0 (countB s ⟨#[13, 10]⟩) s
  have e : bs = up ∘ (fun u : ByteArray => u.data.toList) := rfl
  rw [e, ← List.map_map]
  exact (congrArg (List.map up) h).trans (split_sp2 _ s.data.toList (Nat.le_refl _))
/-- No piece is longer than the whole. -/
theorem sp1_len (x : Int) : ∀ (l : List Int), (sp1 x l).length ≤ l.length + 1 ∧ ∀ p ∈ sp1 x l, p.length ≤ l.length
  | [] => by simp [sp1]
  | c :: l => by
    have ih := sp1_len x l
    rw [sp1]
    split
    · refine ⟨by simp only [List.length_cons]; omega, fun p hp => ?_⟩
      rcases List.mem_cons.1 hp with rfl | hp
      · simp
      · have := ih.2 p hp; simp only [List.length_cons]; omega
    · obtain ⟨p, ps, e⟩ : ∃ p ps, sp1 x l = p :: ps := by
        cases h : sp1 x l with
        | nil => exact absurd h (sp1_ne x l)
        | cons p ps => exact ⟨p, ps, rfl⟩
      rw [e] at ih ⊢
      refine ⟨by simp only [putOn, List.headD_cons, List.tail_cons, List.length_cons] at *; omega, fun q hq => ?_⟩
      rcases List.mem_cons.1 hq with rfl | hq
      · have := ih.2 p (by simp); simp only [List.headD_cons, List.length_cons]; omega
      · have := ih.2 q (List.mem_cons_of_mem _ hq); simp only [List.length_cons]; omega
theorem sp2_len : ∀ (n : Nat) (l : List Int), l.length ≤ n → (sp2 l).length ≤ l.length + 1 ∧ ∀ p ∈ sp2 l, p.length ≤ l.length
  | _, [], _ => by simp [sp2]
  | 0, _ :: _, h => by simp at h
  | n + 1, c :: l, hn => by
    by_cases h : c = 13 ∧ 1 ≤ l.length ∧ l.getD 0 0 = 10
    · obtain ⟨r, rfl⟩ : ∃ r, l = 10 :: r := by
        cases l with
        | nil => simp at h
        | cons d r => exact ⟨r, by rw [show d = 10 by simpa using h.2.2]⟩
      rw [h.1, sp2_end]
      have ih := sp2_len n r (by simp only [List.length_cons] at hn; omega)
      refine ⟨by simp only [List.length_cons]; omega, fun p hp => ?_⟩
      rcases List.mem_cons.1 hp with rfl | hp
      · simp
      · have := ih.2 p hp; simp only [List.length_cons]; omega
    · rw [sp2_one h]
      have ih := sp2_len n l (by simpa using hn)
      obtain ⟨p, ps, e⟩ : ∃ p ps, sp2 l = p :: ps := by
        cases h : sp2 l with
        | nil => exact absurd h (sp2_ne l)
        | cons p ps => exact ⟨p, ps, rfl⟩
      rw [e] at ih ⊢
      refine ⟨by simp only [putOn, List.headD_cons, List.tail_cons, List.length_cons] at *; omega, fun q hq => ?_⟩
      rcases List.mem_cons.1 hq with rfl | hq
      · have := ih.2 p (by simp); simp only [List.headD_cons, List.length_cons]; omega
      · have := ih.2 q (List.mem_cons_of_mem _ hq); simp only [List.length_cons]; omega
end Go.Proofs.YtebmhicdlamnbaaDoor.Spl
