/- A safe value: the reference's pass and the program's test both say whether a text is safe. Conditions: texts of at most 1048576 bytes. -/
import Derived.Test.YtebmhicdlamnbaaDoorQFnExactDecodeWordsx
import Derived.Test.YtebmhicdlamnbaaDoorBsx
import Derived.Test.YtebmhicdlamnbaaDoorSpl
namespace Go.Proofs.YtebmhicdlamnbaaDoor.VQFnExactDecodeWords
open Go.RowKit Go.Proofs.YtebmhicdlamnbaaDoor.QFnExactDecodeWords Go.Proofs.YtebmhicdlamnbaaDoorW.PrintWords Go.Proofs.YtebmhicdlamnbaaDoorW.PrintLast Go.Proofs.YtebmhicdlamnbaaDoorW.PrintMore
open Go.Proofs.YtebmhicdlamnbaaDoor.Evx Go.Proofs.YtebmhicdlamnbaaDoor.Bsx Go.Proofs.YtebmhicdlamnbaaDoor.Spl
set_option linter.unusedSimpArgs false
set_option linter.unusedVariables false
/-- All numbers lie between two. -/
def within (lo hi : Int) (l : List Int) : Prop := ∀ c ∈ l, lo ≤ c ∧ c ≤ hi
instance (lo hi : Int) (l : List Int) : Decidable (within lo hi l) := by unfold within; infer_instance
theorem within_cons {lo hi c : Int} {l : List Int} : within lo hi (c :: l) ↔ (lo ≤ c ∧ c ≤ hi) ∧ within lo hi l := by simp [within]
/-- A word that may stand in a safe value. -/
def okw (p : List Int) : Prop := p ≠ [] ∧ p.length ≤ 200
instance (p : List Int) : Decidable (okw p) := by unfold okw; infer_instance
/-- Safe values. -/
def safe (l : List Int) : Prop := l.length ≤ 2000 ∧ within 32 126 l ∧ (l = [] ∨ ∀ p ∈ sp1 32 l, okw p)
instance (l : List Int) : Decidable (safe l) := by unfold safe; infer_instance
theorem in_eq (a b c : Int) : spec_l01In.f a b c = some (decide (b ≤ a ∧ a ≤ c)) := by
  unfold spec_l01In.f
  split <;> simp <;> omega
theorem all_loop (s : ByteArray) (hs : s.size ≤ 1048576) (lo hi : Int) : ∀ (n : Nat) (l : List Int) (p : Nat), l.length ≤ n → (bs s).drop p = l → Ev (fun k => impl_allWithin.l0 k s lo hi (s.size : Int) (p : Int)) (decide (within lo hi l))
  | _, [], p, _, h => by
    have := drop_nil h
    refine Ev.step (fun k => by rw [impl_allWithin.l0]) ?_
    exact Evx.neg (by omega) (Evx.eq (Ev.now _) (decide_eq_true (by simp [within])).symm)
  | 0, _ :: _, _, h, _ => by simp at h
  | n + 1, c :: r, p, hn, h => by
    obtain ⟨g1, g2, g3, g4, g5⟩ := drop_cons h
    refine Ev.step (fun k => by rw [impl_allWithin.l0]) ?_
    rw [g1, Evx.w64 (by omega) (by omega)]
    refine Evx.pos (by omega) (Evx.pos (by omega) (Evx.pos (by omega) ?_))
    refine Evx.ite (fun a => Evx.eq (Ev.now _) (decide_eq_false (fun e => by have := (within_cons.1 e).1; omega)).symm) (fun a => ?_)
    refine Evx.ite (fun b => Evx.eq (Ev.now _) (decide_eq_false (fun e => by have := (within_cons.1 e).1; omega)).symm) (fun b => ?_)
    refine Evx.eq (all_loop s hs lo hi n r (p + 1) (by simpa using hn) g2) (decide_eq_decide.2 ?_)
    rw [within_cons]
    exact ⟨fun e => ⟨by omega, e⟩, fun e => e.2⟩
theorem all_within (s : ByteArray) (hs : s.size ≤ 1048576) (lo hi : Int) : Ev (fun k => impl_allWithin.f k s lo hi) (decide (within lo hi (bs s))) := by
  unfold impl_allWithin.f
  exact all_loop s hs lo hi s.size (bs s) 0 (by rw [bs_length]; omega) (by rw [List.drop_zero])
theorem word_loop (ps : List ByteArray) (hl : ps.length ≤ 2000000) : ∀ (d i : Nat), i + d = ps.length → Ev (fun k => impl_SafeValue.l0 k ps (ps.length : Int) (i : Int)) (decide (∀ p ∈ (ps.drop i).map bs, okw p))
  | 0, i, h => by
    refine Ev.step (fun k => by rw [impl_SafeValue.l0]) ?_
    refine Evx.neg (by omega) (Evx.eq (Ev.now _) (decide_eq_true ?_).symm)
    rw [List.drop_eq_nil_of_le (by omega)]
    intro p hp
    cases hp
  | d + 1, i, h => by
    have hi : i < ps.length := by omega
    have e : rdOf ByteArray.empty ps (i : Int) = ps[i] := by
      unfold rdOf
      rw [Int.toNat_natCast, List.getD_eq_getElem?_getD, List.getElem?_eq_getElem hi]
      rfl
    refine Ev.step (fun k => by rw [impl_SafeValue.l0]) ?_
    refine Evx.pos (by omega) (Evx.pos (by omega) (Evx.pos (by omega) ?_))
    rw [Evx.w64 (by omega) (by omega), e, List.drop_eq_getElem_cons hi, List.map_cons]
    refine Evx.ite (fun a => Evx.eq (Ev.now _) (decide_eq_false (fun x => ?_)).symm) (fun a => ?_)
    · exact (x _ List.mem_cons_self).1 ((toList_nil _).1 a)
    refine Evx.ite (fun b => Evx.eq (Ev.now _) (decide_eq_false (fun x => ?_)).symm) (fun b => ?_)
    · have := (x _ List.mem_cons_self).2
      rw [bs_length] at this
      omega
    refine Evx.eq (word_loop ps hl d (i + 1) (by omega)) (decide_eq_decide.2 ?_)
    constructor
    · intro x p hp
      rcases List.mem_cons.1 hp with rfl | hp
      · exact ⟨fun q => a ((toList_nil _).2 q), by rw [bs_length]; omega⟩
      · exact x p hp
    · intro x p hp
      exact x p (List.mem_cons_of_mem _ hp)
theorem impl_safe (s : ByteArray) (hs : s.size ≤ 1048576) : Ev (fun k => impl_SafeValue.f k s) (decide (safe (bs s))) := by
  have hbl := bs_length s
  unfold impl_SafeValue.f
  refine Evx.ite (fun h => ?_) (fun h => ?_)
  · refine Ev.step (fun k => by rw [impl_SafeValue.j0]) ?_
    exact Evx.pos rfl (Evx.eq (Ev.now _) (decide_eq_false (fun e => by have := e.1; omega)).symm)
  refine Ev.bind (all_within s hs 32 126) ?_
  by_cases hw : within 32 126 (bs s)
  · rw [decide_eq_true hw]
    refine Ev.step (fun k => by rw [impl_SafeValue.j0]) ?_
    refine Evx.neg (by simp) (Evx.ite (fun a => ?_) (fun a => ?_))
    · refine Evx.eq (Ev.now _) (decide_eq_true ⟨by omega, hw, Or.inl ((toList_nil _).1 a)⟩).symm
    · have hle := Go.Lib.countB_le ⟨#[32]⟩ (by decide) s.size s (Nat.le_refl _)
      have hl := Go.Lib.splitB_all ⟨#[32]⟩ (by decide) 0 _ s rfl
      have e : strings_Split.f s (⟨#[32]⟩ : ByteArray) = some (Go.Lib.splitB ⟨#[32]⟩ 0 (Go.Lib.countB s ⟨#[32]⟩) s) := by
        unfold strings_Split.f
        rw [if_pos ⟨by omega, by decide⟩]
      refine Evx.bindc e (Evx.eq (word_loop _ (by omega) _ 0 (Nat.zero_add _)) (decide_eq_decide.2 ?_))
      rw [List.drop_zero, pieces1]
      constructor
      · intro x; exact ⟨by omega, hw, Or.inr x⟩
      · rintro ⟨_, _, x | x⟩
        · exact absurd ((toList_nil _).2 x) a
        · exact x
  · rw [decide_eq_false hw]
    refine Ev.step (fun k => by rw [impl_SafeValue.j0]) ?_
    exact Evx.pos rfl (Evx.eq (Ev.now _) (decide_eq_false (fun e => hw e.2.1)).symm)
/-- The first word goes on from so many signs. -/
def good (w : Int) : List (List Int) → Prop
  | [] => False
  | p :: ps => (1 ≤ w + (p.length : Int) ∧ w + (p.length : Int) ≤ 200) ∧ ∀ q ∈ ps, okw q
theorem good_putOn {w c : Int} {ps : List (List Int)} (h : ps ≠ []) (hw : 0 ≤ w) : good w (putOn c ps) ↔ good (w + 1) ps := by
  cases ps with
  | nil => exact absurd rfl h
  | cons p ps =>
    simp only [good, putOn, List.headD_cons, List.tail_cons, List.length_cons]
    constructor
    · rintro ⟨a, b⟩; exact ⟨by omega, b⟩
    · rintro ⟨a, b⟩; exact ⟨by omega, b⟩
theorem good_zero {ps : List (List Int)} (h : ps ≠ []) : good 0 ps ↔ ∀ p ∈ ps, okw p := by
  cases ps with
  | nil => exact absurd rfl h
  | cons p ps =>
    have hp : (1 ≤ (0 : Int) + (p.length : Int) ∧ (0 : Int) + (p.length : Int) ≤ 200) ↔ okw p := by
      unfold okw
      cases p with
      | nil => simp
      | cons x p => simp only [List.length_cons, ne_eq, reduceCtorEq, not_false_eq_true, true_and]; omega
    simp only [good, List.forall_mem_cons, hp]
theorem spec_loop (s : ByteArray) (hs : s.size ≤ 1048576) (n : Nat) : ∀ (l : List Int) (p : Nat) (w : Int) (b : Bool), l.length ≤ n → (bs s).drop p = l → 0 ≤ w → w ≤ 200 → (b = true ↔ within 32 126 l ∧ (l = [] ∨ good w (sp1 32 l))) → Ev (fun k => spec_SafeValue.l0 k s w (p : Int)) b := by
  induction n with
  | zero =>
    intro l p w b hn h h0 h1 hb
    obtain rfl : l = [] := List.eq_nil_of_length_eq_zero (by omega)
    have := drop_nil h
    refine Ev.step (fun k => by rw [spec_SafeValue.l0]) ?_
    refine Evx.neg (by omega) (Evx.eq (Ev.now _) (hb.2 ⟨by simp [within], Or.inl rfl⟩).symm)
  | succ n ih =>
    intro l p w b hn h h0 h1 hb
    cases l with
    | nil =>
      have := drop_nil h
      refine Ev.step (fun k => by rw [spec_SafeValue.l0]) ?_
      refine Evx.neg (by omega) (Evx.eq (Ev.now _) (hb.2 ⟨by simp [within], Or.inl rfl⟩).symm)
    | cons c r =>
      obtain ⟨g1, g2, g3, g4, g5⟩ := drop_cons h
      have hrl : r.length + p + 1 = s.size := by
        have := congrArg List.length h
        rw [drop_len, List.length_cons] at this
        omega
      have no : ¬ (within 32 126 (c :: r) ∧ (c :: r = [] ∨ good w (sp1 32 (c :: r)))) → Ev (fun _ => some false) b := fun e => by
        cases b with
        | false => exact Ev.now _
        | true => exact absurd (hb.1 rfl) e
      refine Ev.step (fun k => by rw [spec_SafeValue.l0]) ?_
      rw [g1, Evx.w64 (i := (p : Int) + 1) (by omega) (by omega), Evx.w64 (i := w + 1) (by omega) (by omega), Evx.w64 (i := c) (by omega) (by omega)]
      refine Evx.pos (by omega) (Evx.pos (by omega) (Evx.bindc (in_eq _ _ _) ?_))
      refine Evx.ite (fun a => ?_) (fun a => no (fun e => a (decide_eq_true (within_cons.1 e.1).1)))
      rw [decide_eq_true_eq] at a
      refine Evx.ite (fun hc => ?_) (fun hc => ?_)
      · subst hc
        have hsp : sp1 32 (32 :: r) = [] :: sp1 32 r := by rw [sp1, if_pos rfl]
        rw [hsp] at no hb
        refine Evx.ite (fun hw => no (fun e => ?_)) (fun hw => ?_)
        · rcases e.2 with e | e
          · cases e
          · have := e.1; simp only [List.length_nil] at this; omega
        refine Evx.ite (fun hr => no (fun e => ?_)) (fun hr => ?_)
        · obtain rfl : r = [] := List.eq_nil_of_length_eq_zero (by omega)
          rcases e.2 with e | e
          · cases e
          · exact (e.2 [] (by simp [sp1])).1 rfl
        · have hrn : r ≠ [] := fun e => by subst e; simp at hrl; omega
          refine ih r (p + 1) 0 b (by simpa using hn) g2 (by omega) (by omega) ?_
          rw [hb, within_cons, good_zero (sp1_ne 32 r)]
          constructor
          · rintro ⟨⟨_, x⟩, y | y⟩
            · cases y
            · exact ⟨x, Or.inr y.2⟩
          · rintro ⟨x, y | y⟩
            · exact absurd y hrn
            · exact ⟨⟨by omega, x⟩, Or.inr ⟨by simp only [List.length_nil]; omega, y⟩⟩
      · have hsp : sp1 32 (c :: r) = putOn c (sp1 32 r) := by rw [sp1, if_neg hc]
        rw [hsp] at no hb
        refine Evx.ite (fun hw => no (fun e => ?_)) (fun hw => ?_)
        · rcases e.2 with e | e
          · cases e
          · rw [good_putOn (sp1_ne 32 r) h0] at e
            revert e
            cases hq : sp1 32 r with
            | nil => exact fun e => e
            | cons q qs => intro e; have := e.1; omega
        · refine ih r (p + 1) (w + 1) b (by simpa using hn) g2 (by omega) (by omega) ?_
          rw [hb, within_cons, good_putOn (sp1_ne 32 r) h0]
          constructor
          · rintro ⟨⟨_, x⟩, y | y⟩
            · cases y
            · exact ⟨x, Or.inr y⟩
          · rintro ⟨x, y | y⟩
            · subst y
              exact ⟨⟨a, x⟩, Or.inr ⟨by simp only [List.length_nil]; omega, fun q hq => by cases hq⟩⟩
            · exact ⟨⟨a, x⟩, Or.inr y⟩
theorem spec_safe (s : ByteArray) (hs : s.size ≤ 1048576) : Ev (fun k => spec_SafeValue.f k s) (decide (safe (bs s))) := by
  have hbl := bs_length s
  unfold spec_SafeValue.f
  refine Evx.ite (fun h => Evx.eq (Ev.now _) (decide_eq_false (fun e => by have := e.1; omega)).symm) (fun h => ?_)
  refine Evx.ite (fun h => Evx.eq (Ev.now _) (decide_eq_false (fun e => by have := e.1; omega)).symm) (fun h => ?_)
  refine spec_loop s hs s.size (bs s) 0 0 _ (by rw [bs_length]; omega) (by rw [List.drop_zero]) (by omega) (by omega) ?_
  rw [decide_eq_true_eq, good_zero (sp1_ne 32 _)]
  exact ⟨fun e => ⟨e.2.1, e.2.2⟩, fun e => ⟨by omega, e.1, e.2⟩⟩
end Go.Proofs.YtebmhicdlamnbaaDoor.VQFnExactDecodeWords
