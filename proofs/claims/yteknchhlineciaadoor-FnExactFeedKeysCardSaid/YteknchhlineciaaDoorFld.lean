/- The fields of a text between blanks: by runes and by bytes; the reference's pass comes to them with one blank between. Conditions: none. -/
import Derived.Lib.FieldsP
import Derived.Lib.DecodeN
import Derived.Lib.Join
import Derived.Test.YteknchhlineciaaDoorBsx
namespace Go.Proofs.YteknchhlineciaaDoor.Fld
open Go Go.Lib Go.Proofs.YteknchhlineciaaDoor.Evx Go.Proofs.YteknchhlineciaaDoor.Bsx
set_option linter.unusedSimpArgs false
set_option linter.unusedVariables false
/-- A blank: 9, 10, 13, 32. -/
def bl (c : Int) : Prop := c = 9 ∨ c = 10 ∨ c = 13 ∨ c = 32
instance (c : Int) : Decidable (bl c) := by unfold bl; infer_instance
/-- The fields of a list of numbers, between blanks, behind the one that is open. -/
def fld : List Int → List Int → List (List Int)
  | [], cur => if cur = [] then [] else [cur]
  | c :: l, cur => if bl c then (if cur = [] then fld l [] else cur :: fld l []) else fld l (cur ++ [c])
theorem fld_more (l : List Int) : ∀ (q cur : List Int), (∀ c ∈ q, ¬ bl c) → fld (q ++ l) cur = fld l (cur ++ q)
  | [], cur, _ => by simp
  | c :: q, cur, h => by
    rw [List.cons_append, fld, if_neg (h c (by simp)), fld_more l q _ (fun x hx => h x (by simp [hx]))]
    simp
theorem get_bs (s : ByteArray) (i : Nat) (h : i < s.size) : (bs s)[i]? = some ((s.get! i).toNat : Int) := by
  unfold bs
  rw [List.getElem?_map, List.getElem?_eq_getElem (by rw [← Evx.size_eq]; exact h)]
  have : s.get! i = s.data.toList[i]'(by rw [← Evx.size_eq]; exact h) := by
    unfold ByteArray.get!
    exact getElem!_pos s.data i h
  rw [this]
  rfl
theorem dec_low {s : ByteArray} {pos : Nat} (ha : (s.get! pos).toNat < 128) : Utf8.decode s pos = ((s.get! pos).toNat, 1) := by
  rw [decode_at]
  unfold decodeN
  rw [if_pos ha]
set_option maxHeartbeats 1000000 in
theorem dec_high {s : ByteArray} {pos : Nat} (h : pos < s.size) (ha : 128 ≤ (s.get! pos).toNat) :
    128 ≤ (Utf8.decode s pos).1 ∧ 1 ≤ (Utf8.decode s pos).2 ∧ pos + (Utf8.decode s pos).2 ≤ s.size ∧ ∀ j, j < (Utf8.decode s pos).2 → 128 ≤ (s.get! (pos + j)).toNat := by
  rw [decode_at]
  have e0 : 128 ≤ (s.get! (pos + 0)).toNat := ha
  generalize (s.get! pos).toNat = b0 at ha ⊢
  generalize hb1 : (s.get! (pos + 1)).toNat = b1 at *
  generalize hb2 : (s.get! (pos + 2)).toNat = b2 at *
  generalize hb3 : (s.get! (pos + 3)).toNat = b3 at *
  unfold decodeN
  have key : ∀ (m : Nat), (1 < m → 128 ≤ b1) → (2 < m → 128 ≤ b2) → (3 < m → 128 ≤ b3) → m ≤ 4 → ∀ j, j < m → 128 ≤ (s.get! (pos + j)).toNat := by
    intro m h1 h2 h3 h4 j hj
    have : j = 0 ∨ j = 1 ∨ j = 2 ∨ j = 3 := by omega
    rcases this with rfl | rfl | rfl | rfl
    · exact e0
    · rw [hb1]; exact h1 (by omega)
    · rw [hb2]; exact h2 (by omega)
    · rw [hb3]; exact h3 (by omega)
  repeat' split
  all_goals first | (exfalso; omega) | exact ⟨by simp only; omega, by simp only; omega, by simp only; omega, key _ (by simp only; omega) (by simp only; omega) (by simp only; omega) (by simp only; omega)⟩
/-- What is open at a place. -/
def opn (l : List Int) (st : Option Nat) (pos : Nat) : List Int := match st with | some a => (l.drop a).take (pos - a) | none => []
theorem opn_ne (l : List Int) (a pos : Nat) (h : a < pos) (hp : pos ≤ l.length) : opn l (some a) pos ≠ [] := by
  intro e
  have := congrArg List.length e
  simp only [opn, List.length_take, List.length_drop, List.length_nil] at this
  omega
theorem opn_more (l : List Int) (a pos n : Nat) (h : a ≤ pos) : opn l (some a) pos ++ (l.drop pos).take n = opn l (some a) (pos + n) := by
  unfold opn
  have e : l.drop pos = (l.drop a).drop (pos - a) := by rw [List.drop_drop]; congr 1; omega
  simp only
  rw [e, show pos + n - a = (pos - a) + n by omega, List.take_add]
theorem drop_split (l : List Int) (pos n : Nat) : l.drop pos = (l.drop pos).take n ++ l.drop (pos + n) := by
  rw [← List.drop_drop, List.take_append_drop]
/-- THE PASS OVER THE RUNES gives the fields of the bytes. -/
theorem spans_fld (s : ByteArray) (p : Nat → Bool) (hp : ∀ r : Nat, p r = decide (bl (r : Int))) : ∀ (f pos : Nat) (st : Option Nat) (acc : List (Nat × Nat)), s.size ≤ pos + f → pos ≤ s.size → (∀ a, st = some a → a < pos) →
    (closeSpans s (spansFromP p s f pos st acc)).map (fun x => ((bs s).drop x.1).take (x.2 - x.1)) = acc.map (fun x => ((bs s).drop x.1).take (x.2 - x.1)) ++ fld ((bs s).drop pos) (opn (bs s) st pos) := by
  have fin : ∀ (pos : Nat) (st : Option Nat) (acc : List (Nat × Nat)), s.size = pos → (∀ a, st = some a → a < pos) → (closeSpans s (acc, st)).map (fun x => ((bs s).drop x.1).take (x.2 - x.1)) = acc.map (fun x => ((bs s).drop x.1).take (x.2 - x.1)) ++ fld ((bs s).drop pos) (opn (bs s) st pos) := by
    intro pos st acc h hst
    subst h
    rw [show (bs s).drop s.size = [] from List.drop_eq_nil_of_le (by rw [bs_length]; exact Nat.le_refl _), fld]
    cases st with
    | none => simp [closeSpans, opn]
    | some a =>
      have := opn_ne (bs s) a s.size (hst a rfl) (by rw [bs_length]; exact Nat.le_refl _)
      rw [if_neg this]
      simp [closeSpans, opn]
  intro f
  induction f with
  | zero =>
    intro pos st acc h hle hst
    exact fin pos st acc (by omega) hst
  | succ f ih =>
    intro pos st acc h hle hst
    by_cases hlt : pos < s.size
    · have hg := get_bs s pos hlt
      have hcons : (bs s).drop pos = ((s.get! pos).toNat : Int) :: (bs s).drop (pos + 1) := by
        obtain ⟨hl, e⟩ := List.getElem?_eq_some_iff.1 hg
        rw [List.drop_eq_getElem_cons hl, e]
      by_cases ha : (s.get! pos).toNat < 128
      · have hd := dec_low (s := s) (pos := pos) ha
        simp only [spansFromP, if_pos hlt, hd, hp]
        rw [hcons, fld]
        by_cases hb : bl ((s.get! pos).toNat : Int)
        · simp only [decide_eq_true hb, if_true, if_pos hb]
          cases st with
          | none =>
            rw [ih (pos + 1) none acc (by omega) (by omega) (fun a e => by cases e)]
            simp [opn]
          | some a =>
            rw [ih (pos + 1) none _ (by omega) (by omega) (fun a e => by cases e), if_neg (opn_ne (bs s) a pos (hst a rfl) (by rw [bs_length]; omega))]
            simp [opn]
        · simp only [decide_eq_false hb, Bool.false_eq_true, if_false, if_neg hb]
          have e1 : [((s.get! pos).toNat : Int)] = ((bs s).drop pos).take 1 := by rw [hcons]; rfl
          cases st with
          | none =>
            rw [ih (pos + 1) (some pos) acc (by omega) (by omega) (fun a e => by cases e; omega), e1]
            simp [opn]
          | some a =>
            rw [ih (pos + 1) (some a) acc (by omega) (by omega) (fun b e => by cases e; have := hst a rfl; omega), e1, opn_more (bs s) a pos 1 (Nat.le_of_lt (hst a rfl))]
      · obtain ⟨h1, h2, h3, h4⟩ := dec_high hlt (by omega)
        have hnb : ¬ bl ((Utf8.decode s pos).1 : Int) := by unfold bl; omega
        have hq : ∀ c ∈ ((bs s).drop pos).take (Utf8.decode s pos).2, ¬ bl c := by
          intro c hc
          obtain ⟨j, hj, e⟩ := List.getElem_of_mem hc
          rw [List.length_take, List.length_drop, bs_length] at hj
          rw [List.getElem_take, List.getElem_drop] at e
          have := get_bs s (pos + j) (by omega)
          rw [List.getElem?_eq_getElem (by rw [bs_length]; omega), e] at this
          have e2 : c = ((s.get! (pos + j)).toNat : Int) := Option.some.inj this
          have := h4 j (by omega)
          unfold bl
          omega
        simp only [spansFromP, if_pos hlt, hp, decide_eq_false hnb, Bool.false_eq_true, if_false]
        rw [drop_split (bs s) pos (Utf8.decode s pos).2, fld_more _ _ _ hq]
        cases st with
        | none =>
          rw [ih _ (some pos) acc (by omega) h3 (fun a e => by cases e; omega)]
          simp [opn]
        | some a =>
          rw [ih _ (some a) acc (by omega) h3 (fun b e => by cases e; have := hst a rfl; omega), opn_more (bs s) a pos _ (Nat.le_of_lt (hst a rfl))]
    · rw [spansFromP_end p s _ _ _ _ hlt]
      exact fin pos st acc (by omega) hst
theorem fields_eq (s : ByteArray) (p : Nat → Bool) (hp : ∀ r : Nat, p r = decide (bl (r : Int))) : (goFieldsP p s).map bs = fld (bs s) [] := by
  have h := spans_fld s p hp s.size 0 none [] (by omega) (by omega) (fun a e => by cases e)
  rw [List.map_nil, List.nil_append, List.drop_zero] at h
  have e : opn (bs s) none 0 = [] := rfl
  rw [e] at h
  rw [← h]
  unfold goFieldsP spansOfP
  rw [List.map_map]
  apply List.map_congr_left
  intro x _
  simp only [Function.comp]
  rw [bs_extract, List.drop_take]
/-- Lists put together, a number between. -/
def joinI (x : Int) : List (List Int) → List Int
  | [] => []
  | [p] => p
  | p :: q :: r => p ++ x :: joinI x (q :: r)
theorem joinI_snoc (x : Int) (q : List Int) : ∀ ps : List (List Int), joinI x (ps ++ [q]) = if ps = [] then q else joinI x ps ++ x :: q
  | [] => rfl
  | [p] => rfl
  | p :: p2 :: r => by
    have ih := joinI_snoc x q (p2 :: r)
    rw [if_neg (by simp)] at ih ⊢
    show p ++ x :: joinI x (p2 :: r ++ [q]) = (p ++ x :: joinI x (p2 :: r)) ++ x :: q
    rw [ih]
    simp
theorem join_bs (xs : List ByteArray) (x : UInt8) : (Lib.join (xs.map (·.data.toList)) [x]).map (fun b => (b.toNat : Int)) = joinI (x.toNat : Int) (xs.map bs) := by
  match xs with
  | [] => rfl
  | [p] => simp [Lib.join, joinI, bs]
  | p :: q :: r =>
    have ih := join_bs (q :: r) x
    simp only [List.map_cons] at ih ⊢
    simp only [Lib.join, joinI]
    first | (simp only [Lib.join, joinI] at ih; simp [ih, bs]; done) | (rw [← ih]; simp [bs, Lib.join])
/-- The reference's pass. -/
def lin : List Int → List Int → List Int
  | [], out => if out ≠ [] ∧ out.getLast? = some 32 then out.dropLast else out
  | c :: l, out => if bl c then (if out ≠ [] ∧ out.getLast? ≠ some 32 then lin l (out ++ [32]) else lin l out) else lin l (out ++ [c])
/-- It comes to the fields with one blank between. -/
theorem lin_eq : ∀ (l : List Int) (done : List (List Int)) (cur out : List Int), (∀ c ∈ cur, ¬ bl c) →
    (cur ≠ [] → out = joinI 32 (done ++ [cur])) → (cur = [] → (done = [] ∧ out = []) ∨ (done ≠ [] ∧ out = joinI 32 done ++ [32])) →
    lin l out = joinI 32 (done ++ fld l cur)
  | [], done, cur, out, hc, h1, h2 => by
    rw [lin, fld]
    by_cases e : cur = []
    · rw [if_pos e, List.append_nil]
      rcases h2 e with ⟨rfl, rfl⟩ | ⟨_, rfl⟩
      · simp [joinI]
      · rw [if_pos ⟨by simp, by simp⟩]; simp
    · rw [if_neg e, ← h1 e]
      rw [if_neg]
      rintro ⟨_, h⟩
      have hl : ∃ pre c, cur = pre ++ [c] := ⟨cur.dropLast, cur.getLast e, (List.dropLast_concat_getLast e).symm⟩
      obtain ⟨pre, c, rfl⟩ := hl
      rw [h1 e, joinI_snoc] at h
      have : c = 32 := by
        split at h
        · simpa using h
        · rw [show joinI 32 done ++ 32 :: (pre ++ [c]) = (joinI 32 done ++ 32 :: pre) ++ [c] by simp, List.getLast?_concat] at h
          exact Option.some.inj h
      exact hc c (by simp) (by unfold bl; omega)
  | c :: l, done, cur, out, hc, h1, h2 => by
    rw [lin, fld]
    by_cases hb : bl c
    · rw [if_pos hb, if_pos hb]
      by_cases e : cur = []
      · rw [if_pos e]
        subst e
        rw [if_neg]
        · exact lin_eq l done [] out hc h1 h2
        · rintro ⟨a, b⟩
          rcases h2 rfl with ⟨_, rfl⟩ | ⟨_, rfl⟩
          · exact a rfl
          · simp at b
      · rw [if_neg e]
        have hl : ∃ pre d, cur = pre ++ [d] := ⟨cur.dropLast, cur.getLast e, (List.dropLast_concat_getLast e).symm⟩
        have ho := h1 e
        have hne : out ≠ [] ∧ out.getLast? ≠ some 32 := by
          obtain ⟨pre, d, rfl⟩ := hl
          have hd := hc d (by simp)
          rw [ho, joinI_snoc]
          split
          · refine ⟨by simp, fun h => hd ?_⟩
            have : d = 32 := by simpa using h
            unfold bl; omega
          · refine ⟨by simp, fun h => hd ?_⟩
            rw [show joinI 32 done ++ 32 :: (pre ++ [d]) = (joinI 32 done ++ 32 :: pre) ++ [d] by simp, List.getLast?_concat] at h
            have : d = 32 := Option.some.inj h
            unfold bl; omega
        rw [if_pos hne]
        have := lin_eq l (done ++ [cur]) [] (out ++ [32]) (by simp) (fun h => absurd rfl h) (fun _ => Or.inr ⟨by simp, by rw [ho]⟩)
        rw [this, List.append_assoc, List.singleton_append]
    · rw [if_neg hb, if_neg hb]
      refine lin_eq l done (cur ++ [c]) (out ++ [c]) ?_ (fun _ => ?_) (fun h => absurd h (by simp))
      · intro x hx
        rcases List.mem_append.1 hx with hx | hx
        · exact hc x hx
        · rw [List.mem_singleton.1 hx]; exact hb
      · by_cases e : cur = []
        · subst e
          rcases h2 rfl with ⟨rfl, rfl⟩ | ⟨hd, rfl⟩
          · rfl
          · rw [joinI_snoc, if_neg hd]; simp
        · rw [h1 e, joinI_snoc, joinI_snoc]
          split <;> simp
theorem lin_fields (l : List Int) : lin l [] = joinI 32 (fld l []) := by
  have := lin_eq l [] [] [] (by simp) (fun h => absurd rfl h) (fun _ => Or.inl ⟨rfl, rfl⟩)
  simpa using this
end Go.Proofs.YteknchhlineciaaDoor.Fld
