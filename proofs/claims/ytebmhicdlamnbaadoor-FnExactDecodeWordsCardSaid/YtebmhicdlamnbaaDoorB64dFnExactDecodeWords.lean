/- Base 64 read: the reference's strict reader and the program's, which holds what it read against its text, agree. Conditions: texts of at most 1048576 bytes. -/
import Derived.Test.YtebmhicdlamnbaaDoorQFnExactDecodeWordsx
import Derived.Test.YtebmhicdlamnbaaDoorBsx
import Derived.Test.YtebmhicdlamnbaaDoorB64rFnExactDecodeWords
namespace Go.Proofs.YtebmhicdlamnbaaDoor.DQFnExactDecodeWords
open Go.RowKit Go.Proofs.YtebmhicdlamnbaaDoor.QFnExactDecodeWords Go.Proofs.YtebmhicdlamnbaaDoorW.PrintWords Go.Proofs.YtebmhicdlamnbaaDoorW.PrintLast Go.Proofs.YtebmhicdlamnbaaDoorW.PrintMore
open Go.Proofs.YtebmhicdlamnbaaDoor.Evx Go.Proofs.YtebmhicdlamnbaaDoor.Bsx Go.Proofs.YtebmhicdlamnbaaDoor.BQFnExactDecodeWords
set_option linter.unusedSimpArgs false
set_option linter.unusedVariables false
/-- The number of a sign; -1 of what is none. -/
def dv (c : Int) : Int := Lib.indexByte signs.data.toList c.toNat.toUInt8
theorem dv_range (c : Int) (h : 0 ≤ c ∧ c < 256) : -1 ≤ dv c ∧ dv c < 64 := by
  have key : ∀ n : Fin 256, -1 ≤ dv (n.val : Int) ∧ dv (n.val : Int) < 64 := by decide +kernel
  have := key ⟨c.toNat, by omega⟩
  simp only at this
  rwa [show ((c.toNat : Nat) : Int) = c by omega] at this
theorem sg_dv (c : Int) (h : 0 ≤ c ∧ c < 256) (h2 : 0 ≤ dv c) : sg (dv c) = c := by
  have key : ∀ n : Fin 256, 0 ≤ dv (n.val : Int) → sg (dv (n.val : Int)) = (n.val : Int) := by decide +kernel
  have := key ⟨c.toNat, by omega⟩
  simp only at this
  rw [show ((c.toNat : Nat) : Int) = c by omega] at this
  exact this h2
theorem dv_sg (i : Int) (h : 0 ≤ i ∧ i < 64) : dv (sg i) = i ∧ sg i ≠ 61 ∧ 0 ≤ sg i ∧ sg i < 256 := by
  have key : ∀ n : Fin 64, dv (sg (n.val : Int)) = (n.val : Int) ∧ sg (n.val : Int) ≠ 61 ∧ 0 ≤ sg (n.val : Int) ∧ sg (n.val : Int) < 256 := by decide +kernel
  have := key ⟨i.toNat, by omega⟩
  simp only at this
  rwa [show ((i.toNat : Nat) : Int) = i by omega] at this
theorem dv_61 : dv 61 = -1 := by decide +kernel
theorem letter_dv (c : Int) (h : 0 ≤ c ∧ c < 256) : Ev (fun k => spec_l02Letter.f k c) (dv c) := by
  have key : ∀ n : Fin 256, spec_l02Letter.f 65 (n.val : Int) = some (dv (n.val : Int)) := by decide +kernel
  have := key ⟨c.toNat, by omega⟩
  simp only at this
  rw [show ((c.toNat : Nat) : Int) = c by omega] at this
  exact Ev.of (g := fun k => spec_l02Letter.f k c) (fun k => spec_l02Letter.mono c k) this
theorem index_dv (c : Int) : strings_IndexByte.f (⟨#[65, 66, 67, 68, 69, 70, 71, 72, 73, 74, 75, 76, 77, 78, 79, 80, 81, 82, 83, 84, 85, 86, 87, 88, 89, 90, 97, 98, 99, 100, 101, 102, 103, 104, 105, 106, 107, 108, 109, 110, 111, 112, 113, 114, 115, 116, 117, 118, 119, 120, 121, 122, 48, 49, 50, 51, 52, 53, 54, 55, 56, 57, 43, 47]⟩ : ByteArray) c = some (dv c) := rfl
/-- The number of four signs. -/
def num (a b c d : Int) : Int := ((a * 64 + b) * 64 + c) * 64 + d
/-- Its three bytes. -/
def three (n : Int) : List Int := [n / 65536 % 256, n / 256 % 256, n % 256]
/-- A whole group read strictly: its bytes, or none. -/
def group (last : Bool) (a b c d : Int) : Option (List Int) :=
  if dv a < 0 ∨ dv b < 0 then none
  else if last = true ∧ c = 61 then (if d = 61 ∧ (dv b * 4096) / 256 % 256 = 0 then some ((three (num (dv a) (dv b) 0 0)).take 1) else none)
  else if dv c < 0 then none
  else if last = true ∧ d = 61 then (if (dv c * 64) % 256 = 0 then some ((three (num (dv a) (dv b) (dv c) 0)).take 2) else none)
  else if dv d < 0 then none else some (three (num (dv a) (dv b) (dv c) (dv d)))
/-- The strict reader. -/
def specR (out : List Int) : List Int → List Int × Bool
  | a :: b :: c :: d :: r => match group r.isEmpty a b c d with
    | none => ([], false)
    | some x => specR (out ++ x) r
  | _ => (out, true)
/-- A sign's number, where the sign that fills is nought. -/
def lv (c : Int) : Int := if c = 61 then 0 else dv c
/-- One sign that fills. -/
def fl (c : Int) : Nat := if c = 61 then 1 else 0
/-- The lax reader. -/
def laxR (out : List Int) : List Int → List Int × Bool
  | [] => (out, true)
  | a :: b :: c :: d :: r => if lv a < 0 ∨ lv b < 0 ∨ lv c < 0 ∨ lv d < 0 ∨ fl a + fl b + fl c + fl d ≥ 3 then ([], false)
    else laxR (out ++ (three (num (lv a) (lv b) (lv c) (lv d))).take (3 - (fl a + fl b + fl c + fl d))) r
  | _ => (out, false)
/-- The numbers of a group's bytes. -/
theorem three_eq {a b c d : Int} (ha : 0 ≤ a ∧ a < 64) (hb : 0 ≤ b ∧ b < 64) (hc : 0 ≤ c ∧ c < 64) (hd : 0 ≤ d ∧ d < 64) : three (num a b c d) = [a * 4 + b / 16, b % 16 * 16 + c / 4, c % 4 * 64 + d] := by
  unfold three num
  rw [show (((a * 64 + b) * 64 + c) * 64 + d) / 65536 % 256 = a * 4 + b / 16 by omega, show (((a * 64 + b) * 64 + c) * 64 + d) / 256 % 256 = b % 16 * 16 + c / 4 by omega, show (((a * 64 + b) * 64 + c) * 64 + d) % 256 = c % 4 * 64 + d by omega]
theorem lv_ok {c : Int} (h : 0 ≤ dv c) : lv c = dv c ∧ fl c = 0 := by
  have : c ≠ 61 := fun e => by rw [e, dv_61] at h; omega
  unfold lv fl
  rw [if_neg this, if_neg this]; exact ⟨rfl, rfl⟩
theorem lv_fill : lv 61 = 0 ∧ fl 61 = 1 := ⟨rfl, rfl⟩
/-- What the strict reader takes, the lax one takes as it, and it is the text of what was read. -/
theorem sg_range (i : Int) : 0 ≤ sg i ∧ sg i < 256 := bt_lt signs i
theorem enc_range (l : List Int) (h : ∀ y ∈ l, 0 ≤ y ∧ y < 256) : ∀ x ∈ enc l, 0 ≤ x ∧ x < 256 := by
  induction l using enc.induct with
  | case1 => intro x hx; simp [enc] at hx
  | case2 a => intro x hx; simp [enc] at hx; rcases hx with rfl | rfl | rfl <;> first | exact sg_range _ | omega
  | case3 a b => intro x hx; simp [enc] at hx; rcases hx with rfl | rfl | rfl | rfl <;> first | exact sg_range _ | omega
  | case4 a b c r ih =>
    intro x hx
    simp only [enc, List.mem_cons] at hx
    rcases hx with rfl | rfl | rfl | rfl | hx
    · exact sg_range _
    · exact sg_range _
    · exact sg_range _
    · exact sg_range _
    · exact ih (fun y hy => h y (by simp [hy])) x hx
theorem group_ok {last : Bool} {a b c d : Int} {x : List Int} (ha : 0 ≤ a ∧ a < 256) (hb : 0 ≤ b ∧ b < 256) (hc : 0 ≤ c ∧ c < 256) (hd : 0 ≤ d ∧ d < 256) (h : group last a b c d = some x) :
    ¬ (lv a < 0 ∨ lv b < 0 ∨ lv c < 0 ∨ lv d < 0 ∨ fl a + fl b + fl c + fl d ≥ 3) ∧ (three (num (lv a) (lv b) (lv c) (lv d))).take (3 - (fl a + fl b + fl c + fl d)) = x ∧ enc x = [a, b, c, d] ∧ (last = false → x.length = 3) ∧ (∀ y ∈ x, 0 ≤ y ∧ y < 256) ∧ x.length ≤ 3 := by
  unfold group at h
  have ra := dv_range a ha
  have rb := dv_range b hb
  have rc := dv_range c hc
  have rd' := dv_range d hd
  by_cases h1 : dv a < 0 ∨ dv b < 0
  · rw [if_pos h1] at h; cases h
  rw [if_neg h1] at h
  have sa := sg_dv a ha (by omega)
  have sb := sg_dv b hb (by omega)
  obtain ⟨la, fa⟩ := lv_ok (c := a) (by omega)
  obtain ⟨lb, fb⟩ := lv_ok (c := b) (by omega)
  rw [la, lb, fa, fb]
  generalize dv a = A at *
  generalize dv b = B at *
  by_cases h2 : last = true ∧ c = 61
  · rw [if_pos h2] at h
    by_cases h3 : d = 61 ∧ (B * 4096) / 256 % 256 = 0
    · rw [if_pos h3] at h
      obtain rfl := Option.some.inj h
      obtain ⟨hl, rfl⟩ := h2
      obtain ⟨rfl, h4⟩ := h3
      rw [lv_fill.1, lv_fill.2, three_eq (by omega) (by omega) (by omega) (by omega)]
      refine ⟨by omega, rfl, ?_, (fun e => by rw [hl] at e; cases e), ?_, by simp⟩
      · simp only [List.take, enc]
        rw [show (A * 4 + B / 16) / 4 = A by omega, show (A * 4 + B / 16) % 4 * 16 = B by omega, sa, sb]
      · intro y hy; simp at hy; omega
    · rw [if_neg h3] at h; cases h
  rw [if_neg h2] at h
  by_cases h3 : dv c < 0
  · rw [if_pos h3] at h; cases h
  rw [if_neg h3] at h
  have sc := sg_dv c hc (by omega)
  obtain ⟨lc, fc⟩ := lv_ok (c := c) (by omega)
  rw [lc, fc]
  generalize dv c = C at *
  by_cases h4 : last = true ∧ d = 61
  · rw [if_pos h4] at h
    by_cases h5 : (C * 64) % 256 = 0
    · rw [if_pos h5] at h
      obtain rfl := Option.some.inj h
      obtain ⟨hl, rfl⟩ := h4
      rw [lv_fill.1, lv_fill.2, three_eq (by omega) (by omega) (by omega) (by omega)]
      refine ⟨by omega, rfl, ?_, (fun e => by rw [hl] at e; cases e), ?_, by simp⟩
      · simp only [List.take, enc]
        rw [show (A * 4 + B / 16) / 4 = A by omega, show (A * 4 + B / 16) % 4 * 16 + (B % 16 * 16 + C / 4) / 16 = B by omega, show (B % 16 * 16 + C / 4) % 16 * 4 = C by omega, sa, sb, sc]
      · intro y hy; simp at hy; omega
    · rw [if_neg h5] at h; cases h
  rw [if_neg h4] at h
  by_cases h5 : dv d < 0
  · rw [if_pos h5] at h; cases h
  rw [if_neg h5] at h
  have sd := sg_dv d hd (by omega)
  obtain ⟨ld, fd⟩ := lv_ok (c := d) (by omega)
  rw [ld, fd]
  generalize dv d = D at *
  obtain rfl := Option.some.inj h
  rw [three_eq (by omega) (by omega) (by omega) (by omega)]
  refine ⟨by omega, rfl, ?_, fun _ => rfl, ?_, by simp⟩
  · simp only [enc]
    rw [show (A * 4 + B / 16) / 4 = A by omega, show (A * 4 + B / 16) % 4 * 16 + (B % 16 * 16 + C / 4) / 16 = B by omega, show (B % 16 * 16 + C / 4) % 16 * 4 + (C % 4 * 64 + D) / 64 = C by omega, show (C % 4 * 64 + D) % 64 = D by omega, sa, sb, sc, sd]
  · intro y hy; simp at hy; omega
theorem enc_three (x r : List Int) (h : x.length = 3) : enc (x ++ r) = enc x ++ enc r := by
  match x, h with
  | [a, b, c], _ => simp [enc]
theorem spec_ok (l : List Int) (out : List Int) : (∀ c ∈ l, 0 ≤ c ∧ c < 256) → l.length % 4 = 0 → (specR out l).2 = true → laxR out l = specR out l ∧ ∃ b, (specR out l).1 = out ++ b ∧ enc b = l ∧ (∀ y ∈ b, 0 ≤ y ∧ y < 256) ∧ b.length ≤ l.length := by
  fun_induction specR out l with
  | case1 out a b c d r hg => intro hx hl h; cases h
  | case2 out a b c d r x hg ih =>
    intro hx hl h
    have hx2 : ∀ c ∈ r, 0 ≤ c ∧ c < 256 := fun y hy => hx y (by simp [hy])
    obtain ⟨g1, g2, g3, g4, g5, g6⟩ := group_ok (hx a (by simp)) (hx b (by simp)) (hx c (by simp)) (hx d (by simp)) hg
    have hl2 : r.length % 4 = 0 := by simp at hl; omega
    obtain ⟨i1, b', i2, i3, i4, i5⟩ := ih hx2 hl2 h
    refine ⟨?_, x ++ b', by rw [i2, List.append_assoc], ?_, ?_, ?_⟩
    · rw [laxR, if_neg g1, g2, i1]
    · cases r with
      | nil =>
        have hb : b' = [] := by
          cases b' with
          | nil => rfl
          | cons y ys => cases ys with
            | nil => simp [enc] at i3
            | cons z zs => cases zs <;> simp [enc] at i3
        rw [hb, List.append_nil, g3]
      | cons y ys =>
        rw [enc_three _ _ (g4 rfl), g3, i3]; rfl
    · intro y hy
      rcases List.mem_append.1 hy with hy | hy
      · exact g5 y hy
      · exact i4 y hy
    · simp only [List.length_append, List.length_cons]; omega
  | case3 l out hl =>
    intro hx h4 h
    have : l = [] := by
      match l, hl with
      | [], _ => rfl
      | [_], _ => simp at h4
      | [_, _], _ => simp at h4
      | [_, _, _], _ => simp at h4
      | a :: b :: c :: d :: r, hl => exact (hl a b c d r rfl).elim
    subst this
    exact ⟨rfl, [], by simp, rfl, by simp, by simp⟩
/-- The text of bytes is read strictly as those bytes. -/
theorem spec_enc (b : List Int) : ∀ out, (∀ y ∈ b, 0 ≤ y ∧ y < 256) → specR out (enc b) = (out ++ b, true) := by
  induction b using enc.induct with
  | case1 => intro out _; simp [enc, specR]
  | case2 a =>
    intro out h
    have ha := h a (by simp)
    have s1 := dv_sg (a / 4) (by omega)
    have s2 := dv_sg (a % 4 * 16) (by omega)
    have g : group ([] : List Int).isEmpty (sg (a / 4)) (sg (a % 4 * 16)) 61 61 = some [a] := by
      unfold group
      rw [s1.1, s2.1, if_neg (by omega), if_pos ⟨rfl, rfl⟩, if_pos ⟨rfl, by omega⟩, three_eq (by omega) (by omega) (by omega) (by omega)]
      rw [show a / 4 * 4 + a % 4 * 16 / 16 = a by omega]; rfl
    rw [enc, specR, g]
    simp [specR]
  | case3 a b =>
    intro out h
    have ha := h a (by simp)
    have hb := h b (by simp)
    have s1 := dv_sg (a / 4) (by omega)
    have s2 := dv_sg (a % 4 * 16 + b / 16) (by omega)
    have s3 := dv_sg (b % 16 * 4) (by omega)
    have g : group ([] : List Int).isEmpty (sg (a / 4)) (sg (a % 4 * 16 + b / 16)) (sg (b % 16 * 4)) 61 = some [a, b] := by
      unfold group
      rw [s1.1, s2.1, s3.1, if_neg (by omega), if_neg (fun x => s3.2.1 x.2), if_neg (by omega), if_pos ⟨rfl, rfl⟩, if_pos (by omega), three_eq (by omega) (by omega) (by omega) (by omega)]
      rw [show a / 4 * 4 + (a % 4 * 16 + b / 16) / 16 = a by omega, show (a % 4 * 16 + b / 16) % 16 * 16 + b % 16 * 4 / 4 = b by omega]; rfl
    rw [enc, specR, g]
    simp [specR]
  | case4 a b c r ih =>
    intro out h
    have ha := h a (by simp)
    have hb := h b (by simp)
    have hc := h c (by simp)
    have s1 := dv_sg (a / 4) (by omega)
    have s2 := dv_sg (a % 4 * 16 + b / 16) (by omega)
    have s3 := dv_sg (b % 16 * 4 + c / 64) (by omega)
    have s4 := dv_sg (c % 64) (by omega)
    have g : ∀ z, group z (sg (a / 4)) (sg (a % 4 * 16 + b / 16)) (sg (b % 16 * 4 + c / 64)) (sg (c % 64)) = some [a, b, c] := by
      intro z
      unfold group
      rw [s1.1, s2.1, s3.1, s4.1, if_neg (by omega), if_neg (fun x => s3.2.1 x.2), if_neg (by omega), if_neg (fun x => s4.2.1 x.2), if_neg (by omega), three_eq (by omega) (by omega) (by omega) (by omega)]
      rw [show a / 4 * 4 + (a % 4 * 16 + b / 16) / 16 = a by omega, show (a % 4 * 16 + b / 16) % 16 * 16 + (b % 16 * 4 + c / 64) / 4 = b by omega, show (b % 16 * 4 + c / 64) % 4 * 64 + c % 64 = c by omega]
    rw [enc, specR, g]
    simp only
    rw [ih (out ++ [a, b, c]) (fun y hy => h y (by simp [hy]))]
    simp
/-- What the lax reader gives are bytes. -/
theorem lax_bytes (l : List Int) (out : List Int) : (∀ y ∈ out, 0 ≤ y ∧ y < 256) → ∀ y ∈ (laxR out l).1, 0 ≤ y ∧ y < 256 := by
  fun_induction laxR out l with
  | case1 out => exact fun h => h
  | case2 out a b c d r h => intro _ y hy; simp at hy
  | case3 out a b c d r h ih =>
    intro ho
    refine ih fun y hy => ?_
    rcases List.mem_append.1 hy with hy | hy
    · exact ho y hy
    · have := List.mem_of_mem_take hy
      unfold three at this
      simp at this
      omega
  | case4 out l h1 h2 => exact fun h => h
theorem lax_len (l : List Int) (out : List Int) : (laxR out l).1.length ≤ out.length + l.length := by
  fun_induction laxR out l with
  | case1 out => simp
  | case2 out a b c d r h => simp
  | case3 out a b c d r h ih =>
    refine Nat.le_trans ih ?_
    simp only [List.length_append, List.length_take, List.length_cons, three, List.length_nil]
    omega
  | case4 out l h1 h2 => simp
end Go.Proofs.YtebmhicdlamnbaaDoor.DQFnExactDecodeWords
