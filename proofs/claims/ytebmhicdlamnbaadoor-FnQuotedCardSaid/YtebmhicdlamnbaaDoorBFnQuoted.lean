/- The quoted text read back, its lines and its signs; the drawn body. Conditions: lists of bytes. -/
import Derived.Test.YtebmhicdlamnbaaDoorQFnQuotedy
import Derived.Test.YtebmhicdlamnbaaDoorUFnQuoted
import Derived.Test.YtebmhicdlamnbaaDoorLFnQuoted
import Derived.Test.YtebmhicdlamnbaaDoorSFnQuoted
namespace Go.Proofs.YtebmhicdlamnbaaDoor.BQFnQuoted
open Go.RowKit Go.Proofs.YtebmhicdlamnbaaDoor.QFnQuoted Go.Proofs.YtebmhicdlamnbaaDoorW.PrintWords Go.Proofs.YtebmhicdlamnbaaDoorW.PrintLast Go.Proofs.YtebmhicdlamnbaaDoorW.PrintMore
open Go.Proofs.YtebmhicdlamnbaaDoor.Evx Go.Proofs.YtebmhicdlamnbaaDoor.Bsx Go.Proofs.YtebmhicdlamnbaaDoor.Spl
open Go.Proofs.YtebmhicdlamnbaaDoor.QQFnQuoted (fin fin_end fin_one qt lastB brk tok_len)
open Go.Proofs.YtebmhicdlamnbaaDoor.UQFnQuoted (unq)
open Go.Proofs.YtebmhicdlamnbaaDoor.LQFnQuoted (top top_zero top_putOn mxl longest)
set_option linter.unusedSimpArgs false
set_option linter.unusedVariables false
/-- A byte that is no end of line's beginning. -/
def lone (c : Int) (r : List Int) : Prop := ¬ (c = 13 ∧ 1 ≤ r.length ∧ r.getD 0 0 = 10)
/-- How a quoted text comes of its bytes, from a column on. -/
inductive Gen : Nat → List Int → List Int → Prop
  | nil (w : Nat) : Gen w [] []
  | lf (w : Nat) (r o : List Int) : Gen 0 r o → Gen w (13 :: 10 :: r) (13 :: 10 :: o)
  | tok (w : Nat) (c : Int) (r o : List Int) : lone c r → ¬ brk w (impl_quotedText.tok c (lastB r)).length (lastB r) → Gen (w + (impl_quotedText.tok c (lastB r)).length) r o → Gen w (c :: r) (impl_quotedText.tok c (lastB r) ++ o)
  | soft (w : Nat) (c : Int) (r o : List Int) : lone c r → brk w (impl_quotedText.tok c (lastB r)).length (lastB r) → Gen (impl_quotedText.tok c (lastB r)).length r o → Gen w (c :: r) (61 :: 13 :: 10 :: (impl_quotedText.tok c (lastB r) ++ o))
theorem gen_fin (n : Nat) : ∀ (r : List Int) (w : Nat) (out : List Int), r.length ≤ n → ∃ o, fin w out (sp2 r) = out ++ o ∧ Gen w r o := by
  induction n with
  | zero =>
    intro r w out h
    obtain rfl : r = [] := List.eq_nil_of_length_eq_zero (by omega)
    exact ⟨[], by simp [fin, sp2, impl_quotedText.lns, impl_quotedText.line], .nil w⟩
  | succ n ih =>
    intro r w out h
    cases r with
    | nil => exact ⟨[], by simp [fin, sp2, impl_quotedText.lns, impl_quotedText.line], .nil w⟩
    | cons c r =>
      simp only [List.length_cons] at h
      by_cases hl : lone c r
      · rw [fin_one hl]
        by_cases hb : brk w (impl_quotedText.tok c (lastB r)).length (lastB r)
        · rw [if_pos hb]
          obtain ⟨o, h1, h2⟩ := ih r (impl_quotedText.tok c (lastB r)).length (out ++ [61, 13, 10] ++ impl_quotedText.tok c (lastB r)) (by omega)
          exact ⟨_, by rw [h1]; simp, .soft w c r o hl hb h2⟩
        · rw [if_neg hb]
          obtain ⟨o, h1, h2⟩ := ih r (w + (impl_quotedText.tok c (lastB r)).length) (out ++ impl_quotedText.tok c (lastB r)) (by omega)
          exact ⟨_, by rw [h1]; simp, .tok w c r o hl hb h2⟩
      · unfold lone at hl
        have hl' := Decidable.not_not.1 hl
        obtain ⟨r', rfl⟩ : ∃ r', r = 10 :: r' := by
          cases r with
          | nil => simp at hl'
          | cons d r' => exact ⟨r', by rw [show d = 10 by simpa using hl'.2.2]⟩
        simp only [List.length_cons] at h
        rw [hl'.1, sp2_end, fin_end]
        obtain ⟨o, h1, h2⟩ := ih r' 0 (out ++ [13, 10]) (by omega)
        exact ⟨_, by rw [h1]; simp, .lf w r' o h2⟩
theorem gen_qt (l : List Int) : Gen 0 l (qt l) := by
  obtain ⟨o, h1, h2⟩ := gen_fin l.length l 0 [] (Nat.le_refl _)
  unfold qt
  rw [h1]
  exact h2
theorem gen_len {w : Nat} {r o : List Int} (h : Gen w r o) : o.length ≤ 6 * r.length := by
  induction h with
  | nil => simp
  | lf w r o h ih => simp only [List.length_cons]; omega
  | tok w c r o _ _ h ih => have := tok_len c (lastB r); simp only [List.length_cons, List.length_append]; omega
  | soft w c r o _ _ h ih => have := tok_len c (lastB r); simp only [List.length_cons, List.length_append]; omega
/-- A sign of sixteen. -/
theorem hexd (d : Int) (h : 0 ≤ d ∧ d ≤ 15) : UQFnQuoted.hx (bt impl_quotedText.hx d) = d ∧ 48 ≤ bt impl_quotedText.hx d ∧ bt impl_quotedText.hx d ≤ 70 := by
  have all : ∀ n : Fin 16, UQFnQuoted.hx (bt impl_quotedText.hx (n.val : Int)) = (n.val : Int) ∧ 48 ≤ bt impl_quotedText.hx (n.val : Int) ∧ bt impl_quotedText.hx (n.val : Int) ≤ 70 := by decide
  have := all ⟨d.toNat, by omega⟩
  simpa [show ((d.toNat : Nat) : Int) = d by omega] using this
theorem tok_cases {c : Int} (hc : 0 ≤ c ∧ c < 256) (la : Bool) : (impl_quotedText.tok c la = [c] ∧ 32 ≤ c ∧ c ≤ 126 ∧ c ≠ 61 ∧ (c = 32 → la = false)) ∨ (∃ a b, impl_quotedText.tok c la = [61, a, b] ∧ UQFnQuoted.hx a = c / 16 ∧ UQFnQuoted.hx b = c % 16 ∧ 48 ≤ a ∧ a ≤ 70 ∧ 48 ≤ b ∧ b ≤ 70) := by
  unfold impl_quotedText.tok
  by_cases h : c < 32 ∨ 126 < c ∨ c = 61 ∨ (c = 32 ∧ la = true)
  · rw [if_pos h]
    obtain ⟨h1, h2, h3⟩ := hexd (c / 16) (by omega)
    obtain ⟨h4, h5, h6⟩ := hexd (c % 16) (by omega)
    exact .inr ⟨_, _, rfl, h1, h4, h2, h3, h5, h6⟩
  · rw [if_neg h]
    refine .inl ⟨rfl, by omega, by omega, by omega, fun e => ?_⟩
    cases la with
    | false => rfl
    | true => exact absurd (.inr (.inr (.inr ⟨e, rfl⟩))) h
theorem unq_tok {c : Int} (hc : 0 ≤ c ∧ c < 256) (la : Bool) (n : Nat) (out o : List Int) (hn : (impl_quotedText.tok c la ++ o).length ≤ n) : ∃ n', o.length ≤ n' ∧ unq n out (impl_quotedText.tok c la ++ o) = unq n' (out ++ [c]) o := by
  rcases tok_cases hc la with ⟨e, h1, h2, h3, _⟩ | ⟨a, b, e, h1, h2, h3, h4, h5, h6⟩
  · rw [e] at hn ⊢
    simp only [List.cons_append, List.nil_append, List.length_cons] at hn ⊢
    obtain ⟨m, rfl⟩ : ∃ m, n = m + 1 := ⟨n - 1, by omega⟩
    refine ⟨m, by omega, ?_⟩
    rw [unq, if_neg h3, if_neg (by omega), if_pos ⟨h1, h2⟩]
  · rw [e] at hn ⊢
    simp only [List.cons_append, List.nil_append, List.length_cons] at hn ⊢
    obtain ⟨m, rfl⟩ : ∃ m, n = m + 1 := ⟨n - 1, by omega⟩
    refine ⟨m, by omega, ?_⟩
    have g0 : (a :: b :: o).getD 0 0 = a := rfl
    have g1 : (a :: b :: o).getD 1 0 = b := rfl
    rw [unq, if_pos rfl, if_neg (by simp only [List.length_cons]; omega), g0, g1, if_neg (by omega), if_neg (by omega), h1, h2]
    congr 2
    simp only [List.cons.injEq, and_true]
    omega
theorem unq_gen {w : Nat} {r o : List Int} (h : Gen w r o) : (∀ x ∈ r, 0 ≤ x ∧ x < 256) → ∀ (n : Nat) (out : List Int), o.length ≤ n → unq n out o = (out ++ r, true) := by
  induction h with
  | nil w =>
    intro _ n out _
    cases n <;> simp [unq]
  | lf w r o h ih =>
    intro hx n out hn
    simp only [List.length_cons] at hn
    obtain ⟨m, rfl⟩ : ∃ m, n = m + 1 := ⟨n - 1, by omega⟩
    rw [unq, if_neg (by omega), if_pos ⟨rfl, by simp, rfl⟩, List.drop_succ_cons, List.drop_zero, ih (fun x h => hx x (by simp [h])) m _ (by omega)]
    simp
  | tok w c r o _ _ h ih =>
    intro hx n out hn
    obtain ⟨n', h1, h2⟩ := unq_tok (hx c (by simp)) (lastB r) n out o hn
    rw [h2, ih (fun x h => hx x (by simp [h])) n' _ h1]
    simp
  | soft w c r o _ _ h ih =>
    intro hx n out hn
    simp only [List.length_cons] at hn
    obtain ⟨m, rfl⟩ : ∃ m, n = m + 1 := ⟨n - 1, by omega⟩
    have g0 : (13 :: 10 :: (impl_quotedText.tok c (lastB r) ++ o)).getD 0 0 = (13 : Int) := rfl
    have g1 : (13 :: 10 :: (impl_quotedText.tok c (lastB r) ++ o)).getD 1 0 = (10 : Int) := rfl
    rw [unq, if_pos rfl, if_neg (by simp only [List.length_cons]; omega), g0, g1, if_pos ⟨rfl, rfl⟩, List.drop_succ_cons, List.drop_succ_cons, List.drop_zero]
    obtain ⟨n', h1, h2⟩ := unq_tok (hx c (by simp)) (lastB r) m out o (by omega)
    rw [h2, ih (fun x h => hx x (by simp [h])) n' _ h1]
    simp
theorem gen_rng {w : Nat} {r o : List Int} (h : Gen w r o) : (∀ x ∈ r, 0 ≤ x ∧ x < 256) → ∀ x ∈ o, 0 ≤ x ∧ x < 256 := by
  have tk : ∀ (c : Int) (la : Bool), 0 ≤ c ∧ c < 256 → ∀ x ∈ impl_quotedText.tok c la, 0 ≤ x ∧ x < 256 := by
    intro c la hc x hx
    rcases tok_cases hc la with ⟨e, h1, h2, h3, _⟩ | ⟨a, b, e, h1, h2, h3, h4, h5, h6⟩
    · rw [e] at hx
      simp only [List.mem_singleton] at hx
      omega
    · rw [e] at hx
      simp only [List.mem_cons, List.mem_nil_iff, or_false] at hx
      omega
  induction h with
  | nil w => intro _ x hx; cases hx
  | lf w r o h ih =>
    intro hr x hx
    simp only [List.mem_cons] at hx
    rcases hx with rfl | rfl | hx
    · omega
    · omega
    · exact ih (fun x h => hr x (by simp [h])) x hx
  | tok w c r o _ _ h ih =>
    intro hr x hx
    rcases List.mem_append.1 hx with hx | hx
    · exact tk c _ (hr c (by simp)) x hx
    · exact ih (fun x h => hr x (by simp [h])) x hx
  | soft w c r o _ _ h ih =>
    intro hr x hx
    simp only [List.mem_cons, List.mem_append] at hx
    rcases hx with rfl | rfl | rfl | hx | hx
    · omega
    · omega
    · omega
    · exact tk c _ (hr c (by simp)) x hx
    · exact ih (fun x h => hr x (by simp [h])) x hx
theorem top_tok (t x : List Int) (ht : ∀ c ∈ t, c ≠ 13) : ∀ (b w : Int), b ≤ 76 → w + (t.length : Int) ≤ 76 → ∃ b', b' ≤ 76 ∧ top b w (sp2 (t ++ x)) = top b' (w + (t.length : Int)) (sp2 x) := by
  induction t with
  | nil => intro b w hb hw; exact ⟨b, hb, by simp⟩
  | cons c t ih =>
    intro b w hb hw
    simp only [List.length_cons] at hw
    have hc := ht c (by simp)
    rw [List.cons_append, sp2_one (fun e => hc e.1), top_putOn (sp2_ne _)]
    obtain ⟨b', h1, h2⟩ := ih (fun d hd => ht d (by simp [hd])) (mx b (w + 1)) (w + 1) (by unfold mx; omega) (by omega)
    refine ⟨b', h1, ?_⟩
    rw [h2]
    congr 1
    simp only [List.length_cons]
    omega
theorem tok_no {c : Int} (hc : 0 ≤ c ∧ c < 256) (la : Bool) : ∀ d ∈ impl_quotedText.tok c la, d ≠ 13 := by
  intro d hd
  rcases tok_cases hc la with ⟨e, h1, h2, h3, _⟩ | ⟨a, b, e, h1, h2, h3, h4, h5, h6⟩
  · rw [e] at hd
    simp only [List.mem_singleton] at hd
    omega
  · rw [e] at hd
    simp only [List.mem_cons, List.mem_nil_iff, or_false] at hd
    omega
theorem last_lone {c : Int} {r : List Int} (h : lastB (c :: r) = true) (hl : lone c r) : False := by
  unfold lastB at h
  have h := of_decide_eq_true h
  refine hl ?_
  rcases h with h | h
  · cases h
  · refine ⟨by simpa using h.1, by have := h.2.1; simp only [List.length_cons] at this; omega, ?_⟩
    have := h.2.2
    cases r with
    | nil => simp at this
    | cons d r => simpa using this
theorem top_gen {w : Nat} {r o : List Int} (h : Gen w r o) : (∀ x ∈ r, 0 ≤ x ∧ x < 256) → (w ≤ 75 ∨ (w ≤ 76 ∧ lastB r = true)) → ∀ b : Int, b ≤ 76 → top b (w : Int) (sp2 o) ≤ 76 := by
  induction h with
  | nil w =>
    intro _ hw b hb
    simp only [sp2, top, mxl, List.length_nil]
    unfold mx
    omega
  | lf w r o h ih =>
    intro hx hw b hb
    rw [sp2_end, top, ← top_zero (sp2_ne o)]
    exact ih (fun x h => hx x (by simp [h])) (by omega) _ (by simp only [List.length_nil]; unfold mx; omega)
  | tok w c r o hl hb h ih =>
    intro hx hw b hb'
    have hc := hx c (by simp)
    have hw' : w ≤ 75 := by
      rcases hw with hw | hw
      · exact hw
      · exact (last_lone hw.2 hl).elim
    have hn : w + (impl_quotedText.tok c (lastB r)).length ≤ 75 ∨ (w + (impl_quotedText.tok c (lastB r)).length ≤ 76 ∧ lastB r = true) := by
      unfold brk at hb
      cases hla : lastB r <;> rw [hla] at hb <;> simp at hb <;> simp <;> omega
    obtain ⟨b', h1, h2⟩ := top_tok (impl_quotedText.tok c (lastB r)) o (tok_no hc _) b (w : Int) hb' (by omega)
    rw [h2]
    have := ih (fun x h => hx x (by simp [h])) hn b' h1
    rw [Int.natCast_add] at this
    exact this
  | soft w c r o hl hb h ih =>
    intro hx hw b hb'
    have hc := hx c (by simp)
    have hw' : w ≤ 75 := by
      rcases hw with hw | hw
      · exact hw
      · exact (last_lone hw.2 hl).elim
    have hln := tok_len c (lastB r)
    rw [sp2_one (fun e => by have := e.1; omega), top_putOn (sp2_ne _), sp2_end, top, ← top_zero (sp2_ne _)]
    obtain ⟨b', h1, h2⟩ := top_tok (impl_quotedText.tok c (lastB r)) o (tok_no hc _) (mx (mx b ((w : Int) + 1)) ((w : Int) + 1 + (([] : List Int).length : Int))) 0 (by simp only [List.length_nil]; unfold mx; omega) (by omega)
    rw [h2]
    have := ih (fun x h => hx x (by simp [h])) (by omega) b' h1
    rw [Int.zero_add]
    exact this
theorem longest_qt (l : List Int) (hx : ∀ x ∈ l, 0 ≤ x ∧ x < 256) : longest (qt l) ≤ 76 := by
  have := top_gen (gen_qt l) hx (by omega) 0 (by omega)
  unfold longest
  rw [← top_zero (sp2_ne _)]
  exact this
/-- The signs of a quoted text, one behind another. -/
def sig (p : Int) : List Int → Prop
  | [] => True
  | c :: r => ((c = 13 ∧ ∃ r', r = 10 :: r') ∨ (c = 10 ∧ p = 13) ∨ (32 ≤ c ∧ c ≤ 126)) ∧ (c = 32 → ∃ d r', r = d :: r' ∧ d ≠ 13) ∧ sig c r
theorem tok_head {c : Int} (hc : 0 ≤ c ∧ c < 256) (la : Bool) (o : List Int) : ∃ d o', impl_quotedText.tok c la ++ o = d :: o' ∧ d ≠ 13 := by
  have := tok_no hc la
  rcases tok_cases hc la with ⟨e, _⟩ | ⟨a, b, e, _⟩
  · rw [e] at this ⊢
    exact ⟨c, o, rfl, this c (by simp)⟩
  · rw [e] at this ⊢
    exact ⟨61, a :: b :: o, rfl, by omega⟩
theorem gen_head {w : Nat} {c : Int} {r o : List Int} (hc : 0 ≤ c ∧ c < 256) (h : Gen w (c :: r) o) (hl : lone c r) : ∃ d o', o = d :: o' ∧ d ≠ 13 := by
  cases h with
  | lf r o h => exact absurd ⟨rfl, by simp, rfl⟩ hl
  | tok c r o h1 h2 h3 => exact tok_head hc _ _
  | soft c r o h1 h2 h3 => exact ⟨61, _, rfl, by omega⟩
theorem sig_tok {c : Int} (hc : 0 ≤ c ∧ c < 256) (la : Bool) (p : Int) (o : List Int) (h : ∀ q, sig q o) (hs : la = false → ∃ d o', o = d :: o' ∧ d ≠ 13) : sig p (impl_quotedText.tok c la ++ o) := by
  rcases tok_cases hc la with ⟨e, h1, h2, h3, h4⟩ | ⟨a, b, e, h1, h2, h3, h4, h5, h6⟩
  · rw [e]
    exact ⟨.inr (.inr ⟨h1, h2⟩), fun e => hs (h4 e), h c⟩
  · rw [e]
    exact ⟨.inr (.inr (by omega)), fun e => by omega, .inr (.inr (by omega)), fun e => by omega, .inr (.inr (by omega)), fun e => by omega, h b⟩
theorem not_last {w : Nat} {r o : List Int} (hx : ∀ x ∈ r, 0 ≤ x ∧ x < 256) (h : Gen w r o) (hl : lastB r = false) : ∃ d o', o = d :: o' ∧ d ≠ 13 := by
  unfold lastB at hl
  have hl := of_decide_eq_false hl
  cases r with
  | nil => exact absurd (.inl rfl) hl
  | cons c r =>
    refine gen_head (hx c (by simp)) h (fun e => hl (.inr ⟨by simpa using e.1, by simp only [List.length_cons]; omega, ?_⟩))
    cases r with
    | nil => simp at e
    | cons d r => simpa using e.2.2
theorem sig_gen {w : Nat} {r o : List Int} (h : Gen w r o) : (∀ x ∈ r, 0 ≤ x ∧ x < 256) → ∀ p, sig p o := by
  induction h with
  | nil w => intro _ p; trivial
  | lf w r o h ih =>
    intro hx p
    exact ⟨.inl ⟨rfl, o, rfl⟩, fun e => by omega, .inr (.inl ⟨rfl, rfl⟩), fun e => by omega, ih (fun x h => hx x (by simp [h])) 10⟩
  | tok w c r o hl hb h ih =>
    intro hx p
    have hr : ∀ x ∈ r, 0 ≤ x ∧ x < 256 := fun x h => hx x (by simp [h])
    exact sig_tok (hx c (by simp)) _ p o (ih hr) (not_last hr h)
  | soft w c r o hl hb h ih =>
    intro hx p
    have hr : ∀ x ∈ r, 0 ≤ x ∧ x < 256 := fun x h => hx x (by simp [h])
    exact ⟨.inr (.inr (by omega)), fun e => by omega, .inl ⟨rfl, _, rfl⟩, fun e => by omega, .inr (.inl ⟨rfl, rfl⟩), fun e => by omega, sig_tok (hx c (by simp)) _ 10 o (ih hr) (not_last hr h)⟩
theorem wn1 (p : Nat) (h : p ≤ 4000000) : wrap64 ((p : Int) + 1) = ((p + 1 : Nat) : Int) := by unfold wrap64; omega
theorem wm1 (p : Nat) (h : 1 ≤ p) (h2 : p ≤ 4000000) : wrap64 ((p : Int) - 1) = ((p - 1 : Nat) : Int) := by unfold wrap64; omega
/-- The law's own look at the signs. -/
theorem signs (s : ByteArray) (hs : s.size ≤ 1048576) (n : Nat) : ∀ (l : List Int) (i : Nat), l.length ≤ n → (bs s).drop i = l → sig (if i = 0 then 0 else bt s ((i - 1 : Nat) : Int)) l → Ev (fun k => laws_FnQuoted.l0 k s (i : Int)) true := by
  induction n with
  | zero =>
    intro l i hn h hg
    obtain rfl : l = [] := List.eq_nil_of_length_eq_zero (by omega)
    have := drop_nil h
    refine Ev.step (fun k => by rw [laws_FnQuoted.l0]) ?_
    exact Evx.neg (by omega) (Ev.now _)
  | succ n ih =>
    intro l i hn h hg
    cases l with
    | nil =>
      have := drop_nil h
      refine Ev.step (fun k => by rw [laws_FnQuoted.l0]) ?_
      exact Evx.neg (by omega) (Ev.now _)
    | cons c r =>
      obtain ⟨e0, e1, hi, c0, c1⟩ := drop_cons h
      simp only [List.length_cons] at hn
      obtain ⟨g1, g2, g3⟩ := hg
      have next : Ev (fun k => laws_FnQuoted.l0 k s ((i + 1 : Nat) : Int)) true := by
        refine ih r (i + 1) (by omega) e1 ?_
        rw [if_neg (by omega), Nat.add_sub_cancel, e0]
        exact g3
      have j3 : Ev (fun k => laws_FnQuoted.j3 k s (i : Int) false) true := by
        refine Ev.step (fun k => by rw [laws_FnQuoted.j3]) ?_
        rw [wn1 i (by omega), e0]
        refine Evx.neg (by simp) (Evx.pos (by omega) (Evx.pos (by omega) (Evx.ite (fun e => ?_) (fun _ => next))))
        obtain ⟨d, r', er, hd⟩ := g2 e
        rw [er] at e1
        obtain ⟨f0, _, f2, _, _⟩ := drop_cons e1
        rw [f0]
        exact Evx.neg (by omega) (Evx.pos (by omega) (Evx.pos (by omega) (Evx.neg hd next)))
      have j2t : ∀ b : Bool, b = true → Ev (fun k => laws_FnQuoted.j2 k s (i : Int) b) true := by
        rintro _ rfl
        refine Ev.step (fun k => by rw [laws_FnQuoted.j2]) ?_
        exact Evx.pos rfl j3
      have j2f : 32 ≤ c ∧ c ≤ 126 → Ev (fun k => laws_FnQuoted.j2 k s (i : Int) false) true := by
        intro hc
        refine Ev.step (fun k => by rw [laws_FnQuoted.j2]) ?_
        rw [e0, decide_eq_false (p := c > 126) (by omega)]
        exact Evx.neg (by simp) (Evx.pos (by omega) (Evx.pos (by omega) (Evx.neg (by omega) j3)))
      refine Ev.step (fun k => by rw [laws_FnQuoted.l0]) ?_
      rw [wn1 i (by omega), e0]
      refine Evx.pos (by omega) (Evx.pos (by omega) ?_)
      by_cases h13 : c = 13
      · obtain ⟨r', er⟩ : ∃ r', r = 10 :: r' := by
          rcases g1 with g | g | g
          · exact g.2
          · omega
          · omega
        rw [er] at e1
        obtain ⟨f0, _, f2, _, _⟩ := drop_cons e1
        rw [f0]
        exact Evx.pos h13 (Evx.pos (by omega) (Evx.pos (by omega) (Evx.pos rfl (j2t true rfl))))
      · refine Evx.neg h13 (Evx.ite (fun h10 => ?_) (fun h10 => j2f (by rcases g1 with g | g | g <;> omega)))
        have hp : (if i = 0 then 0 else bt s ((i - 1 : Nat) : Int)) = 13 := by
          rcases g1 with g | g | g
          · omega
          · exact g.2
          · omega
        by_cases hi0 : i = 0
        · rw [if_pos hi0] at hp
          omega
        · rw [if_neg hi0] at hp
          refine Evx.pos (by omega) ?_
          rw [wm1 i (by omega) (by omega)]
          refine Evx.pos (by omega) (Evx.pos (by omega) (j2t _ ?_))
          rw [hp]
          rfl
/-! The drawn body. -/
open Go.Proofs.YtebmhicdlamnbaaDoor.SQFnQuoted
theorem size_ok (list : List ByteArray) (m : Nat) (h : ∀ x ∈ list, x.size ≤ m) (i : Int) (h0 : 0 ≤ i) (h1 : i < (list.length : Int)) : (rdOf ByteArray.empty list i).size ≤ m := by
  unfold rdOf
  rw [List.getD_eq_getElem?_getD, List.getElem?_eq_getElem (by omega)]
  exact h _ (List.getElem_mem _)
theorem pick_ok {l : List Int} (hl : SQFnQuoted.Code l) (list : List ByteArray) (m : Nat) (h : ∀ x ∈ list, x.size ≤ m) (hne : list.length ≠ 0) (hmx : list.length ≤ 256) {a s : Int} (ha : 0 ≤ a ∧ a ≤ 999990) (hs : 0 ≤ s ∧ s ≤ 2147483647) :
    ∃ t a' s', spec_l00Src_pick.f l a s list = some (t, a', s') ∧ t.size ≤ m ∧ (a ≤ a' ∧ a' ≤ a + 3) ∧ (0 ≤ s' ∧ s' ≤ 2147483647) := by
  unfold spec_l00Src_pick.f
  rw [if_neg (by omega)]
  obtain ⟨r, a', s', e, h1, h2, h3⟩ := next_ok hl ha hs (n := (list.length : Int)) (by omega)
  rw [e, Option.bind_some, if_pos h1.1, if_pos (h1.2 (by omega))]
  exact ⟨_, _, _, rfl, size_ok list m h r h1.1 (h1.2 (by omega)), h2, h3⟩
theorem bytes_rng (t : ByteArray) : ∀ x ∈ bytesOf t, 0 ≤ x ∧ x < 256 := by
  intro x hx
  unfold bytesOf at hx
  obtain ⟨b, _, rfl⟩ := List.mem_map.1 hx
  have := b.toNat_lt
  omega
/-- What a body is drawn of. -/
abbrev BODY : List ByteArray := ([(⟨#[119, 111, 114, 100]⟩ : ByteArray), (⟨#[32]⟩ : ByteArray), (⟨#[13, 10]⟩ : ByteArray), (⟨#[61]⟩ : ByteArray), (⟨#[108, 111, 110, 103]⟩ : ByteArray), (⟨#[195, 164]⟩ : ByteArray), (⟨#[32, 13, 10]⟩ : ByteArray), (⟨#[10]⟩ : ByteArray), (⟨#[13]⟩ : ByteArray), (⟨#[46]⟩ : ByteArray), (⟨#[13, 10, 46]⟩ : ByteArray), (⟨#[48, 49, 50, 51, 52, 53, 54, 55, 56, 57, 48, 49, 50, 51, 52, 53, 54, 55, 56, 57, 48, 49, 50, 51, 52, 53, 54, 55, 56, 57, 48, 49, 50, 51, 52, 53, 54, 55, 56, 57]⟩ : ByteArray)] : List ByteArray)
theorem body_loop {l : List Int} (hl : SQFnQuoted.Code l) (n : Nat) : ∀ (acc : List Int) (a s : Int), n ≤ 7 → acc.length + 40 * n ≤ 280 → (∀ x ∈ acc, 0 ≤ x ∧ x < 256) → 0 ≤ a → a ≤ 100 - 4 * (n : Int) → 0 ≤ s ∧ s ≤ 2147483647 →
    ∃ r a' s', Ev (fun k => spec_l00Src_body.l0 k acc (n : Int) l a s) (r, a', s') ∧ r.length ≤ 280 ∧ (∀ x ∈ r, 0 ≤ x ∧ x < 256) := by
  induction n with
  | zero =>
    intro acc a s hn hacc hx ha ha2 hs
    exact ⟨acc, a, s, Ev.step (fun k => by rw [spec_l00Src_body.l0]) (Evx.neg (by omega) (Ev.now _)), by omega, hx⟩
  | succ n ih =>
    intro acc a s hn hacc hx ha ha2 hs
    have step : ∀ list : List ByteArray, (∀ x ∈ list, x.size ≤ 40) → list.length ≠ 0 → list.length ≤ 256 → ∃ t a' s', spec_l00Src_pick.f l a s list = some (t, a', s') ∧ t.size ≤ 40 ∧ (a ≤ a' ∧ a' ≤ a + 3) ∧ (0 ≤ s' ∧ s' ≤ 2147483647) :=
      fun list h1 h2 h3 => pick_ok hl list 40 h1 h2 h3 ⟨ha, by omega⟩ hs
    obtain ⟨t, a', s', e, ht, ha', hs'⟩ := step _ (by decide +kernel : ∀ x ∈ BODY, x.size ≤ 40) (by decide) (by decide)
    obtain ⟨r, a2, s2, h1, h2, h3⟩ := ih (acc ++ bytesOf t) a' s' (by omega) (by rw [List.length_append, bytesOf_length]; omega) (by
      intro x hx2
      rcases List.mem_append.1 hx2 with h | h
      · exact hx x h
      · exact bytes_rng t x h) (by omega) (by omega) hs'
    refine ⟨r, a2, s2, Ev.step (fun k => by rw [spec_l00Src_body.l0]) ?_, h2, h3⟩
    refine Evx.pos (by omega) (Evx.bindc e (Evx.pos (by show acc.length + t.size < _; omega) ?_))
    rw [Evx.w64 (by omega) (by omega)]
    exact Evx.fn h1 (by funext k; congr 1; omega)
theorem body {l : List Int} (hl : SQFnQuoted.Code l) : ∃ r, Ev (fun k => spec_BodyOf.f k l) r ∧ r.length ≤ 280 ∧ (∀ x ∈ r, 0 ≤ x ∧ x < 256) := by
  obtain ⟨n, a, s, e, h1, h2, h3⟩ := next_ok hl (a := 0) (s := (l.length : Int) % 1000) (n := 8) (by omega) (by omega) (by omega)
  obtain ⟨m, rfl⟩ : ∃ m : Nat, n = (m : Int) := ⟨n.toNat, by omega⟩
  have hm := h1.2 (by omega)
  obtain ⟨r, a', s', g1, g2, g3⟩ := body_loop hl m [] a s (by omega) (by simp only [List.length_nil]; omega) (fun x hx => by cases hx) (by omega) (by omega) h3
  refine ⟨r, ?_, g2, g3⟩
  unfold spec_BodyOf.f
  refine Evx.bindc rfl (Ev.bind (a := (r, a', s')) ?_ (Ev.now _))
  unfold spec_l00Src_body.f
  exact Evx.bindc e g1
end Go.Proofs.YtebmhicdlamnbaaDoor.BQFnQuoted
