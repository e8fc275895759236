/- The plain law of RunesOf: the reference's loop reads the runes that Go's own range reads. Conditions: none. -/
import Derived.Test.YtoihdifnmcnegaaDoorU8FnExactRunesOf
namespace Go.Proofs.YtoihdifnmcnegaaDoor.Pure
open Go.RowKit Go.Proofs.YtoihdifnmcnegaaDoor.QFnExactRunesOf Go.Proofs.YtoihdifnmcnegaaDoor.U8QFnExactRunesOf Go.Proofs.YtoihdifnmcnegaaDoorW.PrintWords Go.Proofs.YtoihdifnmcnegaaDoorW.PrintLast
theorem eq_loop (l : List Int) (hl : l.length ≤ 1048576) (d : Nat) : ∀ i : Nat, i + d = l.length → Ev (fun k => laws_eqIntS.l0 k l l (i : Int)) true := by
  induction d with
  | zero =>
    intro i hi
    refine Ev.step (fun k => by rw [laws_eqIntS.l0]) ?_
    exact Evx.neg (by omega) (Ev.now _)
  | succ d ih =>
    intro i hi
    refine Ev.step (fun k => by rw [laws_eqIntS.l0]) ?_
    refine Evx.pos (by omega) (Evx.pos (by omega) (Evx.pos (by omega) (Evx.pos rfl ?_)))
    rw [Evx.w64 (by omega) (by omega)]
    exact ih (i + 1) (by omega)
theorem same (l : List Int) (hl : l.length ≤ 1048576) : Ev (fun k => laws_eqIntS.f k l l) true := by
  unfold laws_eqIntS.f
  exact Evx.pos rfl (eq_loop l hl l.length 0 (by omega))
/-- The list that marking leaves: as many numbers on. -/
def marks (m : Int) : Nat → List Int
  | 0 => []
  | d + 1 => m :: marks (m + 1) d
theorem marks_length (d : Nat) : ∀ m, (marks m d).length = d := by
  induction d with
  | zero => intro m; rfl
  | succ d ih => intro m; simp [marks, ih]
theorem mark_loop (d : Nat) : ∀ (pre rest : List Int) (m : Int), rest.length = d → (pre ++ rest).length ≤ 1048576 → 0 ≤ m → m ≤ 2 * 1048576 - d →
    Ev (fun k => laws_markIntS.l0 k (pre ++ rest) m (pre.length : Int)) (m + d, pre ++ marks m d) := by
  induction d with
  | zero =>
    intro pre rest m hd hl h0 hm
    obtain rfl : rest = [] := List.eq_nil_of_length_eq_zero hd
    refine Ev.step (fun k => by rw [laws_markIntS.l0]) ?_
    refine Evx.neg (by simp) (Evx.eq (Ev.now _) ?_)
    simp [marks]
  | succ d ih =>
    intro pre rest m hd hl h0 hm
    obtain ⟨c, r, rfl⟩ : ∃ c r, rest = c :: r := by cases rest with | nil => simp at hd | cons c r => exact ⟨c, r, rfl⟩
    have hd' : r.length = d := by simpa using hd
    have hl2 : (pre ++ c :: r).length = pre.length + 1 + d := by simp [hd']; omega
    refine Ev.step (fun k => by rw [laws_markIntS.l0]) ?_
    refine Evx.pos (by omega) (Evx.pos (by omega) ?_)
    rw [Evx.w64 (i := m + 1) (by omega) (by omega), Evx.w64 (i := (pre.length : Int) + 1) (by omega) (by omega)]
    have next := ih (pre ++ [m]) r (m + 1) hd' (by simp; omega) (by omega) (by omega)
    refine Evx.eq (Evx.fn next ?_) ?_
    · have e1 : (pre ++ c :: r).set (pre.length : Int).toNat (m) = pre ++ [m] ++ r := by
        rw [Int.toNat_natCast, List.set_append_right _ _ (Nat.le_refl _), Nat.sub_self]
        simp
      have e2 : ((pre ++ [m]).length : Int) = (pre.length : Int) + 1 := by simp
      rw [e1, e2]
    · simp only [marks, List.append_assoc, List.singleton_append, Prod.mk.injEq, and_true]
      omega
theorem held_loop (d : Nat) : ∀ (pre : List Int) (m : Int), pre.length + d ≤ 1048576 → 0 ≤ m → m ≤ 2 * 1048576 - d →
    Ev (fun k => laws_heldIntS.l0 k (pre ++ marks m d) m (pre.length : Int)) (m + d) := by
  induction d with
  | zero =>
    intro pre m hl h0 hm
    refine Ev.step (fun k => by rw [laws_heldIntS.l0]) ?_
    refine Evx.neg (by simp [marks]) (Evx.eq (Ev.now _) (by omega))
  | succ d ih =>
    intro pre m hl h0 hm
    have hl2 : (pre ++ marks m (d + 1)).length = pre.length + (d + 1) := by rw [List.length_append, marks_length]
    refine Ev.step (fun k => by rw [laws_heldIntS.l0]) ?_
    have e : rd (pre ++ marks m (d + 1)) (pre.length : Int) = m := by
      unfold rd
      rw [Int.toNat_natCast, List.getD_eq_getElem?_getD, List.getElem?_append_right (Nat.le_refl _), Nat.sub_self]
      rfl
    refine Evx.pos (by omega) (Evx.pos (by omega) (Evx.pos e ?_))
    rw [Evx.w64 (i := m + 1) (by omega) (by omega), Evx.w64 (i := (pre.length : Int) + 1) (by omega) (by omega)]
    have next := ih (pre ++ [m]) (m + 1) (by simp; omega) (by omega) (by omega)
    refine Evx.eq (Evx.fn next ?_) (by omega)
    have e2 : ((pre ++ [m]).length : Int) = (pre.length : Int) + 1 := by simp
    rw [e2]
    simp [marks]
theorem marked (l : List Int) (hl : l.length ≤ 1048576) : Ev (fun k => laws_markIntS.f k l 1) (1 + (l.length : Int), marks 1 l.length) := by
  unfold laws_markIntS.f
  exact mark_loop l.length [] l 1 rfl hl (by omega) (by omega)
theorem helds (d : Nat) (hl : d ≤ 1048576) : Ev (fun k => laws_heldIntS.f k (marks 1 d) 1) (1 + (d : Int)) := by
  unfold laws_heldIntS.f
  exact held_loop d [] 1 (by simp; omega) (by omega) (by omega)
theorem runes_loop (s : ByteArray) (hs : s.size ≤ 65536) : ∀ (d p : Nat) (acc : List Int), s.size - p ≤ d → p ≤ s.size → acc.length ≤ p →
    Ev (fun k => spec_RunesOf.l0 k s acc (p : Int)) (if Go.Lib.validD (s.data.toList.drop p) = true then (impl_RunesOf.go s d p acc, 0) else ([], 3)) := by
  intro d
  induction d with
  | zero =>
    intro p acc hd hp _
    refine Ev.step (fun k => by rw [spec_RunesOf.l0]) ?_
    refine Evx.neg (by omega) (Evx.eq (Ev.now _) ?_)
    rw [List.drop_of_length_le (by rw [← Evx.size_eq]; omega), Go.Lib.validD_nil, if_pos rfl]
    rfl
  | succ d ih =>
    intro p acc hd hp ha
    refine Ev.step (fun k => by rw [spec_RunesOf.l0]) ?_
    by_cases h : p < s.size
    · have hw := dec_width h
      refine Evx.pos (by omega) (Ev.bind (rune (by omega) h) ?_)
      have hne : s.data.toList.drop p ≠ [] := by
        intro e
        have := congrArg List.length e
        rw [List.length_drop, ← Evx.size_eq, List.length_nil] at this
        omega
      rw [Go.Lib.validD_step _ hne, decL h, List.drop_drop]
      unfold out
      by_cases q : (dec s p).1 = 65533 ∧ (dec s p).2 = 1
      · rw [if_pos q, if_pos q, if_neg (by simp)]
        exact Evx.neg (by simp) (Ev.now _)
      · rw [if_neg q, if_neg q]
        have e : wrap64 ((p : Int) + ((dec s p).2 : Int)) = ((p + (dec s p).2 : Nat) : Int) := by
          rw [Evx.w64 (by omega) (by omega)]; omega
        have eg : impl_RunesOf.go s (d + 1) p acc = impl_RunesOf.go s d (p + (dec s p).2) (acc ++ [((dec s p).1 : Int)]) := by
          rw [impl_RunesOf.go, if_pos h, ← decode_eq]
        rw [eg]
        refine Evx.pos rfl (Evx.pos (by omega) ?_)
        show Ev (fun k => spec_RunesOf.l0 k s (acc ++ [((dec s p).1 : Int)]) (wrap64 ((p : Int) + ((dec s p).2 : Int)))) _
        rw [e]
        clear e
        exact ih (p + (dec s p).2) _ (by omega) (by omega) (by simp; omega)
    · refine Evx.neg (by omega) (Evx.eq (Ev.now _) ?_)
      rw [List.drop_of_length_le (by rw [← Evx.size_eq]; omega), Go.Lib.validD_nil, if_pos rfl, impl_RunesOf.go, if_neg h]
theorem go_len (s : ByteArray) : ∀ (d p : Nat) (acc : List Int), (impl_RunesOf.go s d p acc).length ≤ acc.length + d := by
  intro d
  induction d with
  | zero => intro p acc; simp [impl_RunesOf.go]
  | succ d ih =>
    intro p acc
    rw [impl_RunesOf.go]
    split
    · have := ih (p + (Utf8.decode s p).2) (acc ++ [((Utf8.decode s p).1 : Int)])
      rw [List.length_append, List.length_singleton] at this
      omega
    · omega
/-- What both sides answer. -/
def ans (s : ByteArray) : List Int × Int := if (s.size : Int) > 65536 then ([], 2) else if Go.Lib.validD s.data.toList = true then (impl_RunesOf.go s s.size 0 [], 0) else ([], 3)
theorem ans_len (s : ByteArray) : (ans s).1.length ≤ 1048576 := by
  unfold ans
  split
  · simp
  split
  · have := go_len s s.size 0 []
    simp at this
    simp only
    omega
  · simp
theorem spec_ans (s : ByteArray) : Ev (fun k => spec_RunesOf.f k s) (ans s) := by
  unfold spec_RunesOf.f ans
  refine Evx.ite (fun h => by rw [if_pos h]; exact Ev.now _) (fun h => ?_)
  rw [if_neg h]
  exact runes_loop s (by omega) s.size 0 [] (by omega) (by omega) (by simp)
theorem impl_ans (s : ByteArray) : impl_RunesOf.f s = some (ans s) := by
  unfold impl_RunesOf.f ans utf8_ValidString.f
  by_cases h : (s.size : Int) > 65536
  · rw [if_pos h, if_pos h]
  rw [if_neg h, if_neg h, if_pos (by omega)]
  simp only [Option.bind_some]
  split <;> rfl
theorem FnExactRunesOf : laws_FnExactRunesOf.Pure := by
  intro s _
  refine Ev.rounds ?_
  unfold laws_FnExactRunesOf.f
  refine Evx.ite (fun _ => Ev.now _) (fun hl => ?_)
  have k1 := spec_ans s
  have k2 := impl_ans s
  have hal := ans_len s
  refine Ev.bind k1 (Evx.bindc k2 (Ev.bind (same _ hal) (Evx.pos rfl ?_)))
  refine Ev.step (fun k => by rw [laws_FnExactRunesOf.j0]) ?_
  refine Evx.neg (by simp) (Ev.bind (marked _ hal) (Ev.bind (helds _ hal) ?_))
  refine Evx.neg (by omega) (Evx.pos rfl (Evx.bindc k2 (Ev.bind (same _ hal) (Evx.pos rfl ?_))))
  refine Ev.step (fun k => by rw [laws_FnExactRunesOf.j1]) ?_
  exact Evx.neg (by simp) (Ev.bind (helds _ hal) (Evx.neg (by omega) (Evx.pos rfl (Ev.now _))))
end Go.Proofs.YtoihdifnmcnegaaDoor.Pure
