/- For all lists of numbers the program's TextOfRunes answers as the reference's, and leaves them alone. Conditions: none. -/
import Derived.Test.YtoihdifnmcnegaaQFnExactTextOfRunesx2
import Derived.Test.YtoihdifnmcnegaaEvx
namespace Go.Proofs.Ytoihdifnmcnegaa.Pure
open Go.RowKit Go.Proofs.Ytoihdifnmcnegaa.QFnExactTextOfRunes Go.Proofs.YtoihdifnmcnegaaW.PrintWords Go.Proofs.YtoihdifnmcnegaaW.PrintLast
set_option linter.unusedSimpArgs false
set_option linter.unusedVariables false

theorem copy_loop (l : List Int) (hl : l.length ≤ 1048576) (d : Nat) : ∀ (i : Nat) (x : List Int), i + d = l.length → x.length = l.length → x.take i = l.take i → Ev (fun k => laws_toIntS.l0 k l x (i : Int)) l := by
  induction d with
  | zero =>
    intro i x hi hx ht
    refine Ev.step (fun k => by rw [laws_toIntS.l0]) ?_
    refine Evx.neg (by omega) (Evx.eq (Ev.now _) ?_)
    rw [List.take_of_length_le (by omega), List.take_of_length_le (by omega)] at ht
    exact ht
  | succ d ih =>
    intro i x hi hx ht
    refine Ev.step (fun k => by rw [laws_toIntS.l0]) ?_
    refine Evx.pos (by omega) (Evx.pos (by omega) (Evx.pos (by omega) ?_))
    rw [Evx.w64 (by omega) (by omega)]
    refine Evx.fn (ih (i + 1) (x.set i (rd l (i : Int))) (by omega) (by rw [List.length_set]; exact hx) ?_) (by rw [Int.toNat_natCast]; rfl)
    rw [List.take_add_one, List.take_add_one, List.take_set_of_le (Nat.le_refl _), ht, List.getElem?_set_self (by omega), List.getElem?_eq_getElem (by omega)]
    unfold rd
    rw [Int.toNat_natCast, List.getD_eq_getElem?_getD, List.getElem?_eq_getElem (by omega)]
    rfl
theorem copied (l : List Int) (hl : l.length ≤ 1048576) : Ev (fun k => laws_toIntS.f k l) l := by
  unfold laws_toIntS.f
  refine Evx.pos (by omega) (Evx.pos (by rw [Int.toNat_natCast]; omega) ?_)
  refine copy_loop l hl l.length 0 _ (by omega) (by simp) (by simp)
theorem eq_loop (l : List Int) (hl : l.length ≤ 1048576) (d : Nat) : ∀ i : Nat, i + d = l.length → Ev (fun k => laws_eqIntS.l0 k l l (i : Int)) true := by
  induction d with
  | zero =>
    intro i hi
    refine Ev.step (fun k => by rw [laws_eqIntS.l0]) ?_
    exact Evx.neg (by omega) (Ev.now _)
  | succ d ih =>
    intro i hi
    refine Ev.step (fun k => by rw [laws_eqIntS.l0]) ?_
    refine Evx.pos (by omega) (Evx.pos (by omega) (Evx.pos (by omega) (Evx.pos rfl ?_)))
    rw [Evx.w64 (by omega) (by omega)]
    exact ih (i + 1) (by omega)
theorem same (l : List Int) (hl : l.length ≤ 1048576) : Ev (fun k => laws_eqIntS.f k l l) true := by
  unfold laws_eqIntS.f
  exact Evx.pos rfl (eq_loop l hl l.length 0 (by omega))
theorem within_eq (a b c : Int) : impl_within.f a b c = some (decide (b ≤ a ∧ a ≤ c)) := by
  unfold impl_within.f
  split <;> simp <;> omega
theorem in_eq (a b c : Int) : spec_l01In.f a b c = some (decide (b ≤ a ∧ a ≤ c)) := by
  unfold spec_l01In.f
  split <;> simp <;> omega
/-- A number is a scalar value. -/
def sc (a : Int) : Bool := decide ((0 ≤ a ∧ a ≤ 55295) ∨ (57344 ≤ a ∧ a ≤ 1114111))
theorem scalar_eq (a : Int) : spec_l01Scalar.f a = some (sc a) := by
  unfold spec_l01Scalar.f sc
  simp only [in_eq, Option.bind_some]
  by_cases h : 0 ≤ a ∧ a ≤ 55295 <;> simp [h]
theorem rune_eq (a : Int) : impl_isRune.f a = some (sc a) := by
  unfold impl_isRune.f sc
  simp only [within_eq, Option.bind_some]
  by_cases h : 0 ≤ a ∧ a ≤ 1114111
  · simp [h]; rw [Bool.eq_iff_iff]; simp; omega
  · simp [h]; omega
theorem sc_iff {a : Int} (h : sc a = true) : (0 ≤ a ∧ a ≤ 55295) ∨ (57344 ≤ a ∧ a ≤ 1114111) := of_decide_eq_true h
/-- The bytes of a scalar value. -/
def ub (r : Int) : List Int :=
  if r < 128 then [r] else if r < 2048 then [192 + r / 64, 128 + r % 64] else if r < 65536 then [224 + r / 4096, 128 + r / 64 % 64, 128 + r % 64]
  else [240 + r / 262144, 128 + r / 4096 % 64, 128 + r / 64 % 64, 128 + r % 64]
theorem ub_len (r : Int) : (ub r).length ≤ 4 := by unfold ub; split; simp; split; simp; split <;> simp
theorem size_eq {r : Int} (h : sc r = true) : spec_RuneSize.f r = some (if r < 128 then 1 else if r < 2048 then 2 else if r < 65536 then 3 else 4) := by
  unfold spec_RuneSize.f
  rw [scalar_eq, h]
  simp only [Option.bind_some, if_true]
  repeat' split
  all_goals rfl
theorem bytes_eq {r : Int} (h : sc r = true) : spec_l01Bytes.f r = some (ub r) := by
  have hr := sc_iff h
  unfold spec_l01Bytes.f
  rw [size_eq h]
  have q1 : Int.tdiv r 64 = r / 64 := Int.tdiv_eq_ediv_of_nonneg (by omega)
  have q2 : Int.tdiv r 4096 = r / 4096 := Int.tdiv_eq_ediv_of_nonneg (by omega)
  have q3 : Int.tdiv r 262144 = r / 262144 := Int.tdiv_eq_ediv_of_nonneg (by omega)
  have q4 : Int.tmod r 64 = r % 64 := Int.tmod_eq_emod_of_nonneg (by omega)
  have q5 : Int.tmod (r / 64) 64 = r / 64 % 64 := Int.tmod_eq_emod_of_nonneg (by omega)
  have q6 : Int.tmod (r / 4096) 64 = r / 4096 % 64 := Int.tmod_eq_emod_of_nonneg (by omega)
  simp only [Option.bind_some]
  rw [q1, q2, q3, q4, Evx.w64 (i := r / 64) (by omega) (by omega), Evx.w64 (i := r / 4096) (by omega) (by omega), Evx.w64 (i := r / 262144) (by omega) (by omega), q5, q6,
    Evx.w64 (i := 192 + r / 64) (by omega) (by omega), Evx.w64 (i := 128 + r % 64) (by omega) (by omega), Evx.w64 (i := 224 + r / 4096) (by omega) (by omega), Evx.w64 (i := 128 + r / 64 % 64) (by omega) (by omega), Evx.w64 (i := 240 + r / 262144) (by omega) (by omega), Evx.w64 (i := 128 + r / 4096 % 64) (by omega) (by omega)]
  unfold ub
  by_cases h1 : r < 128
  · rw [if_pos h1, if_pos rfl, if_pos h1, show r % 256 = r by omega]
  by_cases h2 : r < 2048
  · rw [if_neg h1, if_pos h2, if_neg (by omega), if_pos rfl, if_neg h1, if_pos h2, show (192 + r / 64) % 256 = 192 + r / 64 by omega, show (128 + r % 64) % 256 = 128 + r % 64 by omega]
  by_cases h3 : r < 65536
  · rw [if_neg h1, if_neg h2, if_pos h3, if_neg (by omega), if_neg (by omega), if_pos rfl, if_neg h1, if_neg h2, if_pos h3, show (224 + r / 4096) % 256 = 224 + r / 4096 by omega, show (128 + r / 64 % 64) % 256 = 128 + r / 64 % 64 by omega, show (128 + r % 64) % 256 = 128 + r % 64 by omega]
  · rw [if_neg h1, if_neg h2, if_neg h3, if_neg (by omega), if_neg (by omega), if_neg (by omega), if_neg h1, if_neg h2, if_neg h3, show (240 + r / 262144) % 256 = 240 + r / 262144 by omega, show (128 + r / 4096 % 64) % 256 = 128 + r / 4096 % 64 by omega, show (128 + r / 64 % 64) % 256 = 128 + r / 64 % 64 by omega, show (128 + r % 64) % 256 = 128 + r % 64 by omega]
theorem or192 (x : Int) (h0 : 0 ≤ x) (h1 : x < 64) : Go.bits .or .u8 192 x = 192 + x := bits_join .u8 8 (by decide) wraps_u8 6 192 x (by decide) (by decide) (by decide) h0 h1 (by omega)
theorem or224 (x : Int) (h0 : 0 ≤ x) (h1 : x < 32) : Go.bits .or .u8 224 x = 224 + x := bits_join .u8 8 (by decide) wraps_u8 5 224 x (by decide) (by decide) (by decide) h0 h1 (by omega)
theorem or240 (x : Int) (h0 : 0 ≤ x) (h1 : x < 16) : Go.bits .or .u8 240 x = 240 + x := bits_join .u8 8 (by decide) wraps_u8 4 240 x (by decide) (by decide) (by decide) h0 h1 (by omega)
theorem append_eq (l : List Int) (hl : l.length ≤ 4000000) {r : Int} (h : sc r = true) : Ev (fun k => utf8_AppendRune.f k l r) (l ++ ub r) := by
  have hr := sc_iff h
  unfold utf8_AppendRune.f
  have hm : r % 4294967296 = r := by omega
  rw [hm]
  by_cases h1 : r < 128
  · refine Evx.pos (by omega) (Evx.pos (by omega) (Evx.eq (Ev.now _) ?_))
    unfold ub
    rw [if_pos h1, show r % 256 = r by omega]
  refine Evx.neg (by omega) (Ev.bind (a := l ++ ub r) ?_ (Ev.now _))
  unfold utf8_appendRuneNonASCII.f
  rw [hm]
  by_cases h2 : r < 2048
  · refine Evx.pos (by omega) (Evx.bindc rfl (Evx.pos (by simp; omega) (Evx.eq (Ev.now _) ?_)))
    unfold ub
    rw [if_neg h1, if_pos h2, show r / 64 % 256 = r / 64 by omega, or192 _ (by omega) (by omega)]
  have e3 : r < 65536 → Ev (fun k => utf8_appendRuneNonASCII.j0 k l r r true) (l ++ ub r) := by
    intro h3
    refine Ev.step (fun k => by rw [utf8_appendRuneNonASCII.j0]) ?_
    refine Evx.pos rfl (Evx.bindc rfl (Evx.pos (by simp; omega) (Evx.eq (Ev.now _) ?_)))
    unfold ub
    rw [if_neg h1, if_neg h2, if_pos h3, show r / 4096 % 256 = r / 4096 by omega, or224 _ (by omega) (by omega)]
  refine Evx.neg (by omega) (Evx.ite (fun a => ?_) (fun a => Evx.pos (by omega) ?_))
  · rw [decide_eq_true a]; exact e3 (by omega)
  · by_cases h3 : r < 65536
    · rw [decide_eq_true (by omega)]; exact e3 h3
    · rw [decide_eq_false (by omega)]
      refine Ev.step (fun k => by rw [utf8_appendRuneNonASCII.j0]) ?_
      refine Evx.neg (by simp) (Evx.pos (by omega) (Evx.pos (by omega) (Evx.bindc rfl (Evx.pos (by simp; omega) (Evx.eq (Ev.now _) ?_)))))
      unfold ub
      rw [if_neg h1, if_neg h2, if_neg h3, show r / 262144 % 256 = r / 262144 by omega, or240 _ (by omega) (by omega)]
/-- What both sides come to. -/
def go : List Int → List Int → ByteArray × Int
  | out, [] => (strOfNums out, 0)
  | out, r :: l => if sc r = true then go (out ++ ub r) l else ((⟨#[]⟩ : ByteArray), 4)
/-- What both sides answer. -/
def ans (l : List Int) : ByteArray × Int := if (l.length : Int) > 4096 then ((⟨#[]⟩ : ByteArray), 2) else go [] l
theorem rd_drop {l : List Int} {i : Nat} {c : Int} {r : List Int} (h : l.drop i = c :: r) : rd l (i : Int) = c ∧ l.drop (i + 1) = r ∧ i < l.length := by
  have hi : i < l.length := by
    rcases Nat.lt_or_ge i l.length with h1 | h1
    · exact h1
    · rw [List.drop_eq_nil_of_le h1] at h; cases h
  have e : rd l (i : Int) = c := by
    unfold rd
    rw [Int.toNat_natCast, List.getD_eq_getElem?_getD, ← Nat.add_zero i, ← List.getElem?_drop, h]; rfl
  exact ⟨e, by rw [← List.tail_drop, h]; rfl, hi⟩
theorem drop_none {l : List Int} {i : Nat} (h : l.drop i = []) : l.length ≤ i := by
  rcases Nat.lt_or_ge i l.length with h1 | h1
  · have := congrArg List.length h; simp at this; omega
  · exact h1
theorem spec_loop (l : List Int) (hl : l.length ≤ 4096) (r : List Int) : ∀ (i : Nat) (out : List Int), l.drop i = r → out.length ≤ 4 * i → Ev (fun k => spec_TextOfRunes.l0 k l out (i : Int)) (go out r) := by
  induction r with
  | nil =>
    intro i out h ho
    have := drop_none h
    refine Ev.step (fun k => by rw [spec_TextOfRunes.l0]) ?_
    exact Evx.neg (by omega) (Ev.now _)
  | cons c r ih =>
    intro i out h ho
    obtain ⟨h1, h2, h3⟩ := rd_drop h
    refine Ev.step (fun k => by rw [spec_TextOfRunes.l0]) ?_
    rw [h1, Evx.w64 (i := (i : Int) + 1) (by omega) (by omega)]
    refine Evx.pos (by omega) (Evx.pos (by omega) (Evx.bindc (scalar_eq c) (Evx.ite (fun a => ?_) (fun a => ?_))))
    · have hu := ub_len c
      refine Evx.bindc (bytes_eq a) (Evx.pos (by omega) ?_)
      rw [go, if_pos a]
      exact ih (i + 1) _ h2 (by rw [List.length_append]; omega)
    · rw [go, if_neg a]; exact Ev.now _
theorem impl_loop (l : List Int) (hl : l.length ≤ 4096) (r : List Int) : ∀ (i : Nat) (out : List Int), l.drop i = r → out.length ≤ 4 * i → Ev (fun k => impl_TextOfRunes.l0 k out l (l.length : Int) (i : Int)) (go out r) := by
  induction r with
  | nil =>
    intro i out h ho
    have := drop_none h
    refine Ev.step (fun k => by rw [impl_TextOfRunes.l0]) ?_
    exact Evx.neg (by omega) (Ev.now _)
  | cons c r ih =>
    intro i out h ho
    obtain ⟨h1, h2, h3⟩ := rd_drop h
    refine Ev.step (fun k => by rw [impl_TextOfRunes.l0]) ?_
    rw [h1, Evx.w64 (i := (i : Int) + 1) (by omega) (by omega)]
    refine Evx.pos (by omega) (Evx.pos (by omega) (Evx.pos (by omega) (Evx.bindc (rune_eq c) (Evx.ite (fun a => ?_) (fun a => ?_)))))
    · have hu := ub_len c
      have hr := sc_iff a
      rw [Evx.w32 (i := c) (by omega) (by omega)]
      refine Ev.bind (append_eq out (by omega) a) ?_
      rw [go, if_pos a]
      exact ih (i + 1) _ h2 (by rw [List.length_append]; omega)
    · rw [go, if_neg a]; exact Ev.now _

theorem FnExactTextOfRunes : laws_FnExactTextOfRunes.Pure := by
  intro l0 hm hs hw
  refine Ev.rounds (g := fun k => laws_FnExactTextOfRunes.f k l0) ?_
  unfold laws_FnExactTextOfRunes.f
  refine Evx.ite (fun _ => Ev.now _) (fun hl => ?_)
  have hl' : l0.length ≤ 1048576 := by omega
  have k1 : Ev (fun k => spec_TextOfRunes.f k l0) (ans l0) := by
    unfold spec_TextOfRunes.f ans
    refine Evx.ite (fun h => ?_) (fun h => ?_)
    · rw [if_pos h]; exact Ev.now _
    · rw [if_neg h]; exact spec_loop l0 (by omega) l0 0 [] rfl (by simp)
  have k2 : Ev (fun k => impl_TextOfRunes.f k l0) (ans l0) := by
    unfold impl_TextOfRunes.f ans
    refine Evx.ite (fun h => ?_) (fun h => ?_)
    · rw [if_pos h]; exact Ev.now _
    · rw [if_neg h]; exact impl_loop l0 (by omega) l0 0 [] rfl (by simp)
  refine Ev.bind (copied l0 hl') (Ev.bind k1 (Ev.bind (copied l0 hl') (Ev.bind k2 (Evx.pos rfl ?_))))
  refine Ev.step (fun k => by rw [laws_FnExactTextOfRunes.j0]) ?_
  refine Evx.neg (by simp) (Ev.bind (copied l0 hl') (Ev.bind (same l0 hl') (Evx.pos rfl (Ev.now _))))

end Go.Proofs.Ytoihdifnmcnegaa.Pure
