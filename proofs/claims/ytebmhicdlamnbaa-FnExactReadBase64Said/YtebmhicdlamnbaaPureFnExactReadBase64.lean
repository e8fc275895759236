/- For every text the program's ReadBase64 answers as the reference's. Conditions: none. -/
import Derived.Test.YtebmhicdlamnbaaQFnExactReadBase64x3
import Derived.Test.YtebmhicdlamnbaaEvx
import Derived.Test.YtebmhicdlamnbaaB64e
namespace Go.Proofs.Ytebmhicdlamnbaa.Pure
open Go.RowKit Go.Proofs.Ytebmhicdlamnbaa.QFnExactReadBase64 Go.Proofs.YtebmhicdlamnbaaW.PrintWords Go.Proofs.YtebmhicdlamnbaaW.PrintLast
set_option linter.unusedSimpArgs false
set_option linter.unusedVariables false

theorem eq_loop (l : List Int) (hl : l.length ≤ 1048576) (d : Nat) : ∀ i : Nat, i + d = l.length → Ev (fun k => laws_eqByteS.l0 k l l (i : Int)) true := by
  induction d with
  | zero =>
    intro i hi
    refine Ev.step (fun k => by rw [laws_eqByteS.l0]) ?_
    exact Evx.neg (by omega) (Ev.now _)
  | succ d ih =>
    intro i hi
    refine Ev.step (fun k => by rw [laws_eqByteS.l0]) ?_
    refine Evx.pos (by omega) (Evx.pos (by omega) (Evx.pos (by omega) (Evx.pos rfl ?_)))
    rw [Evx.w64 (by omega) (by omega)]
    exact ih (i + 1) (by omega)
theorem same (l : List Int) (hl : l.length ≤ 1048576) : Ev (fun k => laws_eqByteS.f k l l) true := by
  unfold laws_eqByteS.f
  exact Evx.pos rfl (eq_loop l hl l.length 0 (by omega))
/-- The list that marking leaves: as many numbers on, each by its low byte. -/
def marks (m : Int) : Nat → List Int
  | 0 => []
  | d + 1 => (m % 256) :: marks (m + 1) d
theorem marks_length (d : Nat) : ∀ m, (marks m d).length = d := by
  induction d with
  | zero => intro m; rfl
  | succ d ih => intro m; simp [marks, ih]
theorem mark_loop (d : Nat) : ∀ (pre rest : List Int) (m : Int), rest.length = d → (pre ++ rest).length ≤ 1048576 → 0 ≤ m → m ≤ 2 * 1048576 - d →
    Ev (fun k => laws_markByteS.l0 k (pre ++ rest) m (pre.length : Int)) (m + d, pre ++ marks m d) := by
  induction d with
  | zero =>
    intro pre rest m hd hl h0 hm
    obtain rfl : rest = [] := List.eq_nil_of_length_eq_zero hd
    refine Ev.step (fun k => by rw [laws_markByteS.l0]) ?_
    refine Evx.neg (by simp) (Evx.eq (Ev.now _) ?_)
    simp [marks]
  | succ d ih =>
    intro pre rest m hd hl h0 hm
    obtain ⟨c, r, rfl⟩ : ∃ c r, rest = c :: r := by cases rest with | nil => simp at hd | cons c r => exact ⟨c, r, rfl⟩
    have hd' : r.length = d := by simpa using hd
    have hl2 : (pre ++ c :: r).length = pre.length + 1 + d := by simp [hd']; omega
    refine Ev.step (fun k => by rw [laws_markByteS.l0]) ?_
    refine Evx.pos (by omega) (Evx.pos (by omega) ?_)
    rw [Evx.w64 (i := m + 1) (by omega) (by omega), Evx.w64 (i := (pre.length : Int) + 1) (by omega) (by omega)]
    have next := ih (pre ++ [m % 256]) r (m + 1) hd' (by simp; omega) (by omega) (by omega)
    refine Evx.eq (Evx.fn next ?_) ?_
    · have e1 : (pre ++ c :: r).set (pre.length : Int).toNat (m % 256) = pre ++ [m % 256] ++ r := by
        rw [Int.toNat_natCast, List.set_append_right _ _ (Nat.le_refl _), Nat.sub_self]
        simp
      have e2 : ((pre ++ [m % 256]).length : Int) = (pre.length : Int) + 1 := by simp
      rw [e1, e2]
    · simp only [marks, List.append_assoc, List.singleton_append, Prod.mk.injEq, and_true]
      omega
theorem held_loop (d : Nat) : ∀ (pre : List Int) (m : Int), pre.length + d ≤ 1048576 → 0 ≤ m → m ≤ 2 * 1048576 - d →
    Ev (fun k => laws_heldByteS.l0 k (pre ++ marks m d) m (pre.length : Int)) (m + d) := by
  induction d with
  | zero =>
    intro pre m hl h0 hm
    refine Ev.step (fun k => by rw [laws_heldByteS.l0]) ?_
    refine Evx.neg (by simp [marks]) (Evx.eq (Ev.now _) (by omega))
  | succ d ih =>
    intro pre m hl h0 hm
    have hl2 : (pre ++ marks m (d + 1)).length = pre.length + (d + 1) := by rw [List.length_append, marks_length]
    refine Ev.step (fun k => by rw [laws_heldByteS.l0]) ?_
    have e : rd (pre ++ marks m (d + 1)) (pre.length : Int) = m % 256 := by
      unfold rd
      rw [Int.toNat_natCast, List.getD_eq_getElem?_getD, List.getElem?_append_right (Nat.le_refl _), Nat.sub_self]
      rfl
    refine Evx.pos (by omega) (Evx.pos (by omega) (Evx.pos e ?_))
    rw [Evx.w64 (i := m + 1) (by omega) (by omega), Evx.w64 (i := (pre.length : Int) + 1) (by omega) (by omega)]
    have next := ih (pre ++ [m % 256]) (m + 1) (by simp; omega) (by omega) (by omega)
    refine Evx.eq (Evx.fn next ?_) (by omega)
    have e2 : ((pre ++ [m % 256]).length : Int) = (pre.length : Int) + 1 := by simp
    rw [e2]
    simp [marks]
theorem marked (l : List Int) (hl : l.length ≤ 1048576) : Ev (fun k => laws_markByteS.f k l 1) (1 + (l.length : Int), marks 1 l.length) := by
  unfold laws_markByteS.f
  exact mark_loop l.length [] l 1 rfl hl (by omega) (by omega)
theorem helds (d : Nat) (hl : d ≤ 1048576) : Ev (fun k => laws_heldByteS.f k (marks 1 d) 1) (1 + (d : Int)) := by
  unfold laws_heldByteS.f
  exact held_loop d [] 1 (by simp; omega) (by omega) (by omega)
open Go.Proofs.Ytebmhicdlamnbaa.DQFnExactReadBase64 Go.Proofs.Ytebmhicdlamnbaa.Bsx Go.Proofs.Ytebmhicdlamnbaa.Evx
/-- What both sides answer. -/
def ans (s : ByteArray) : List Int × Int := if (s.size : Int) > 65536 then ([], 2) else if (rd64 s).2 = true then ((rd64 s).1, 0) else ([], 3)
theorem ans_len (s : ByteArray) (hs : s.size ≤ 1048576) : (ans s).1.length ≤ 1048576 := by
  have := rd64_len s
  unfold ans
  split
  · simp
  · split
    · exact Nat.le_trans this hs
    · simp
theorem spec_ans (s : ByteArray) (hs : s.size ≤ 1048576) : Ev (fun k => spec_ReadBase64.f k s) (ans s) := by
  unfold spec_ReadBase64.f ans
  refine Evx.ite (fun h => ?_) (fun h => ?_)
  · rw [if_pos h]; exact Ev.now _
  · rw [if_neg h]
    refine Ev.bind (spec_rd s hs) (Evx.ite (fun a => ?_) (fun a => ?_))
    · rw [if_pos a]; exact Ev.now _
    · rw [if_neg a]; exact Ev.now _
theorem impl_ans (s : ByteArray) (hs : s.size ≤ 1048576) : Ev (fun k => impl_ReadBase64.f k s) (ans s) := by
  unfold impl_ReadBase64.f ans
  refine Evx.ite (fun h => ?_) (fun h => ?_)
  · rw [if_pos h]; exact Ev.now _
  · rw [if_neg h]
    refine Ev.bind (impl_rd s hs) (Evx.ite (fun a => ?_) (fun a => ?_))
    · rw [if_pos a]; exact Ev.now _
    · rw [if_neg a]; exact Ev.now _

theorem FnExactReadBase64 : laws_FnExactReadBase64.Pure := by
  intro s hs
  refine Ev.rounds (g := fun k => laws_FnExactReadBase64.f k s) ?_
  unfold laws_FnExactReadBase64.f
  refine Evx.ite (fun _ => Ev.now _) (fun hl => ?_)
  have hl' : s.size ≤ 1048576 := by omega
  have k1 := spec_ans s hl'
  have k2 := impl_ans s hl'
  have hal := ans_len s hl'
  refine Ev.bind k1 (Ev.bind k2 (Ev.bind (same _ hal) (Evx.pos rfl ?_)))
  refine Ev.step (fun k => by rw [laws_FnExactReadBase64.j0]) ?_
  refine Evx.neg (by simp) (Ev.bind (marked _ hal) (Ev.bind (helds _ hal) ?_))
  refine Evx.neg (by omega) (Evx.pos rfl (Ev.bind k2 (Ev.bind (same _ hal) (Evx.pos rfl ?_))))
  refine Ev.step (fun k => by rw [laws_FnExactReadBase64.j1]) ?_
  exact Evx.neg (by simp) (Ev.bind (helds _ hal) (Evx.neg (by omega) (Evx.pos rfl (Ev.now _))))

end Go.Proofs.Ytebmhicdlamnbaa.Pure
