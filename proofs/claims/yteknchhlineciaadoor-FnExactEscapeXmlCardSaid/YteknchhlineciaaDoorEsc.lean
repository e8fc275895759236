/- What five bytes are turned into, in plain words, and how long a text becomes. -/
import Derived.Lib.Bytealg
namespace Go.Proofs.YteknchhlineciaaDoor.Rpl
set_option linter.unusedVariables false
/-- The bytes in the order of the build, and what each is turned into. -/
def olds : List ByteArray := [⟨#[13]⟩, ⟨#[34]⟩, ⟨#[62]⟩, ⟨#[60]⟩, ⟨#[38]⟩]
def rep (k x : Nat) : Option ByteArray :=
  if x = 13 ∧ 0 < k then some ⟨#[38, 35, 49, 51, 59]⟩ else if x = 34 ∧ 1 < k then some ⟨#[38, 113, 117, 111, 116, 59]⟩ else if x = 62 ∧ 2 < k then some ⟨#[38, 103, 116, 59]⟩ else if x = 60 ∧ 3 < k then some ⟨#[38, 108, 116, 59]⟩ else if x = 38 ∧ 4 < k then some ⟨#[38, 97, 109, 112, 59]⟩ else none
/-- What a byte turns into. -/
def e1 (b : UInt8) : List UInt8 := match rep 5 b.toNat with
  | none => [b]
  | some t => t.data.toList
def esc (l : List UInt8) : List UInt8 := l.flatMap e1
theorem esc_cons (b : UInt8) (l : List UInt8) : esc (b :: l) = e1 b ++ esc l := by unfold esc; rw [List.flatMap_cons]
theorem esc_append (l m : List UInt8) : esc (l ++ m) = esc l ++ esc m := by unfold esc; rw [List.flatMap_append]
theorem e1_none {b : UInt8} (h : rep 5 b.toNat = none) : e1 b = [b] := by unfold e1; rw [h]
theorem e1_some {b : UInt8} {t : ByteArray} (h : rep 5 b.toNat = some t) : e1 b = t.data.toList := by unfold e1; rw [h]
theorem rep_size {x : Nat} {t : ByteArray} (h : rep 5 x = some t) : 1 ≤ t.size ∧ t.size ≤ 6 := by
  unfold rep at h
  repeat' split at h
  all_goals first | (cases h; done) | (obtain rfl := Option.some.inj h; decide)
theorem e1_len (b : UInt8) : 1 ≤ (e1 b).length ∧ (e1 b).length ≤ 6 := by
  cases h : rep 5 b.toNat with
  | none => rw [e1_none h]; simp
  | some t => rw [e1_some h]; exact rep_size h
theorem esc_len (l : List UInt8) : l.length ≤ (esc l).length ∧ (esc l).length ≤ 6 * l.length := by
  induction l with
  | nil => simp [esc]
  | cons b l ih =>
    rw [esc_cons, List.length_append, List.length_cons]
    have := e1_len b
    omega
/-- The growth, byte for byte. -/
def ng (l : List UInt8) : Nat := (esc l).length - l.length
theorem ng_len (l : List UInt8) : l.length + ng l = (esc l).length := by have := esc_len l; unfold ng; omega
theorem ng_snoc (l : List UInt8) (b : UInt8) : ng (l ++ [b]) = ng l + ((e1 b).length - 1) := by
  have h1 := ng_len l
  have h2 := ng_len (l ++ [b])
  have h3 := e1_len b
  rw [esc_append, List.length_append, List.length_append] at h2
  have h4 : esc [b] = e1 b := by simp [esc]
  rw [h4] at h2
  simp at h2
  omega
/-- Whether a byte is turned. -/
def turns (b : UInt8) : Bool := (rep 5 b.toNat).isSome
theorem esc_same {l : List UInt8} (h : l.any turns = false) : esc l = l := by
  induction l with
  | nil => rfl
  | cons b l ih =>
    simp only [List.any_cons, Bool.or_eq_false_iff] at h
    rw [esc_cons, ih h.2]
    have : rep 5 b.toNat = none := by
      have h1 := h.1
      unfold turns at h1
      cases hr : rep 5 b.toNat with
      | none => rfl
      | some t => rw [hr] at h1; cases h1
    rw [e1_none this]
    rfl
/-- The five, and what each adds. -/
def adds : List (UInt8 × Nat) := [(13, 4), (34, 5), (62, 3), (60, 3), (38, 4)]
def nk (l : List UInt8) (k : Nat) : Nat := ((adds.take k).map fun p => Lib.countByte l p.1 * p.2).sum
def ak (l : List UInt8) (k : Nat) : Bool := (adds.take k).any fun p => decide (Lib.countByte l p.1 ≠ 0)
theorem e1_adds_all : ∀ n : Fin 256, (e1 (UInt8.ofNat n.val)).length = 1 + (((if UInt8.ofNat n.val = 13 then 4 else 0) + (if UInt8.ofNat n.val = 34 then 5 else 0)) + ((if UInt8.ofNat n.val = 62 then 3 else 0) + ((if UInt8.ofNat n.val = 60 then 3 else 0) + (if UInt8.ofNat n.val = 38 then 4 else 0)))) := by decide +kernel
theorem e1_adds (b : UInt8) : (e1 b).length = 1 + (((if b = 13 then 4 else 0) + (if b = 34 then 5 else 0)) + ((if b = 62 then 3 else 0) + ((if b = 60 then 3 else 0) + (if b = 38 then 4 else 0)))) := by
  have h := e1_adds_all ⟨b.toNat, UInt8.toNat_lt b⟩
  simpa using h
theorem count_cons (l : List UInt8) (b x : UInt8) : Lib.countByte (b :: l) x = Lib.countByte l x + (if b = x then 1 else 0) := by
  unfold Lib.countByte
  rw [List.count_cons]
  simp
theorem nk_len (l : List UInt8) : l.length + nk l 5 = (esc l).length := by
  induction l with
  | nil => simp [nk, adds, esc, Lib.countByte]
  | cons b l ih =>
    rw [esc_cons, List.length_append, List.length_cons, ← ih, e1_adds b]
    simp only [nk, adds, List.take_succ_cons, List.take_zero, List.map_cons, List.map_nil, List.sum_cons, List.sum_nil, count_cons]
    split <;> split <;> split <;> split <;> split <;> omega
theorem nk_step0 (l : List UInt8) : nk l 1 = nk l 0 + Lib.countByte l 13 * 4 := by simp [nk, adds]
theorem nk_step1 (l : List UInt8) : nk l 2 = nk l 1 + Lib.countByte l 34 * 5 := by simp [nk, adds]
theorem nk_step2 (l : List UInt8) : nk l 3 = nk l 2 + Lib.countByte l 62 * 3 := by simp [nk, adds]; omega
theorem nk_step3 (l : List UInt8) : nk l 4 = nk l 3 + Lib.countByte l 60 * 3 := by simp [nk, adds]; omega
theorem nk_step4 (l : List UInt8) : nk l 5 = nk l 4 + Lib.countByte l 38 * 4 := by simp [nk, adds]; omega
theorem nk_zero (l : List UInt8) : nk l 0 = 0 := by simp [nk]
theorem ak_zero (l : List UInt8) : ak l 0 = false := by simp [ak]
theorem ak_same {l : List UInt8} (h : ak l 5 = false) : esc l = l := by
  have h1 := nk_len l
  have h2 : nk l 5 = 0 := by
    simp only [ak, adds, List.take_succ_cons, List.take_zero, List.any_cons, List.any_nil, Bool.or_false, Bool.or_eq_false_iff, decide_eq_false_iff_not, Decidable.not_not] at h
    simp [nk, adds, h]
  apply esc_same
  rw [List.any_eq_false]
  intro b hb ht
  have h3 : ∀ m : List UInt8, b ∈ m → turns b = true → m.length < (esc m).length := by
    intro m
    induction m with
    | nil => intro q; cases q
    | cons c m ih =>
      intro hm hb'
      rw [esc_cons, List.length_append, List.length_cons]
      rcases List.mem_cons.1 hm with e | e
      · subst e
        have := esc_len m
        have h5 : 2 ≤ (e1 b).length := by
          unfold turns at hb'
          cases hr : rep 5 b.toNat with
          | none => rw [hr] at hb'; cases hb'
          | some t =>
            rw [e1_some hr]
            unfold rep at hr
            repeat' split at hr
            all_goals first | (cases hr; done) | (obtain rfl := Option.some.inj hr; decide)
        omega
      · have := ih e hb'
        have := e1_len c
        omega
  have := h3 l hb ht
  omega
end Go.Proofs.YteknchhlineciaaDoor.Rpl
