/- The plain law of RepairText: the reference's loop writes what the program's writes. Conditions: none. -/
import Derived.Test.YtoihdifnmcnegaaDoorU8FnExactRepairText
import Derived.Lib.MapLaws
namespace Go.Proofs.YtoihdifnmcnegaaDoor.Pure
open Go.RowKit Go.Proofs.YtoihdifnmcnegaaDoor.QFnExactRepairText Go.Proofs.YtoihdifnmcnegaaDoor.U8QFnExactRepairText Go.Proofs.YtoihdifnmcnegaaDoorW.PrintWords Go.Proofs.YtoihdifnmcnegaaDoorW.PrintLast
set_option linter.unusedSimpArgs false
/-- Bytes as numbers. -/
def up (l : List UInt8) : List Int := l.map fun b => (b.toNat : Int)
theorem back (l : List UInt8) : strOfNums (up l) = ⟨l.toArray⟩ := by
  apply Evx.bs_inj
  rw [Evx.bs_strOfNums]
  · rfl
  · intro x hx
    obtain ⟨b, _, rfl⟩ := List.mem_map.1 hx
    have := b.toNat_lt
    constructor <;> omega
theorem enc_bad : Go.Lib.encodeRune ((65533 : Nat) : Int) = [239, 191, 189] := by decide
theorem fix_loop (s : ByteArray) (hs : s.size ≤ 65536) : ∀ (d p : Nat) (acc : List UInt8), s.size - p ≤ d → p ≤ s.size → acc.length ≤ 4 * p →
    Ev (fun k => spec_l01Repair.l0 k s (up acc) (p : Int)) (⟨(impl_RepairText.go s d p acc).toArray⟩ : ByteArray) := by
  intro d
  induction d with
  | zero =>
    intro p acc hd hp _
    refine Ev.step (fun k => by rw [spec_l01Repair.l0]) ?_
    refine Evx.neg (by omega) (Evx.eq (Ev.now _) ?_)
    rw [back]
    rfl
  | succ d ih =>
    intro p acc hd hp ha
    refine Ev.step (fun k => by rw [spec_l01Repair.l0]) ?_
    by_cases h : p < s.size
    · have hw := dec_width h
      have hlen : (up acc).length = acc.length := List.length_map _
      refine Evx.pos (by omega) (Ev.bind (rune (by omega) h) ?_)
      have hne : s.data.toList.drop p ≠ [] := by
        intro e
        have := congrArg List.length e
        rw [List.length_drop, ← Evx.size_eq, List.length_nil] at this
        omega
      have eg : impl_RepairText.go s (d + 1) p acc = impl_RepairText.go s d (p + (dec s p).2) (acc ++ Go.Lib.encodeRune ((dec s p).1 : Int)) := by
        rw [impl_RepairText.go, if_pos h, ← decode_eq]
      rw [eg]
      have e : wrap64 ((p : Int) + ((dec s p).2 : Int)) = ((p + (dec s p).2 : Nat) : Int) := by
        rw [Evx.w64 (by omega) (by omega)]; omega
      unfold out
      by_cases q : (dec s p).1 = 65533 ∧ (dec s p).2 = 1
      · rw [if_pos q]
        refine Evx.neg (by simp) (Evx.bindc rfl (Evx.pos (by simp; omega) ?_))
        rw [q.2] at e ⊢
        show Ev (fun k => spec_l01Repair.l0 k s (up acc ++ [239, 191, 189]) (wrap64 ((p : Int) + ((1 : Nat) : Int)))) _
        rw [e, q.1, enc_bad]
        clear e
        have := ih (p + 1) (acc ++ [239, 191, 189]) (by omega) (by omega) (by simp; omega)
        refine Evx.fn this ?_
        funext k
        rw [show up (acc ++ [239, 191, 189]) = up acc ++ [239, 191, 189] by simp [up]]
      · rw [if_neg q]
        have en : Go.Lib.encodeRune ((dec s p).1 : Int) = (s.data.toList.drop p).take (dec s p).2 := by
          rw [← decL h]
          exact Go.Lib.encode_decode _ hne (by rw [decL h]; exact q)
        refine Evx.pos rfl ?_
        show Ev (fun k => if 0 ≤ (p : Int) then (if (p : Int) ≤ wrap64 ((p : Int) + ((dec s p).2 : Int)) then _ else _) else _) _
        rw [e]
        clear e
        have hx : (s.extract p (p + (dec s p).2)).size = (dec s p).2 := by rw [ByteArray.size_extract]; omega
        refine Evx.pos (by omega) (Evx.pos (by omega) (Evx.pos (by omega) (Evx.pos (by simp only [Int.toNat_natCast]; omega) ?_)))
        simp only [Int.toNat_natCast]
        rw [en]
        have := ih (p + (dec s p).2) (acc ++ (s.data.toList.drop p).take (dec s p).2) (by omega) (by omega) (by rw [List.length_append, List.length_take]; omega)
        refine Evx.fn this ?_
        funext k
        congr 1
        unfold up bytesOf
        rw [List.map_append, ByteArray.data_extract, Array.toList_extract, List.extract_eq_take_drop, Nat.add_sub_cancel_left]
    · refine Evx.neg (by omega) (Evx.eq (Ev.now _) ?_)
      rw [back, impl_RepairText.go, if_neg h]
/-- What both sides answer. -/
def ans (s : ByteArray) : ByteArray × Int := if (s.size : Int) > 65536 then (⟨#[]⟩, 2) else (⟨(impl_RepairText.go s s.size 0 []).toArray⟩, 0)
theorem spec_ans (s : ByteArray) : Ev (fun k => spec_RepairText.f k s) (ans s) := by
  unfold spec_RepairText.f ans
  refine Evx.ite (fun h => by rw [if_pos h]; exact Ev.now _) (fun h => ?_)
  rw [if_neg h]
  refine Ev.bind ?_ (Ev.now _)
  unfold spec_l01Repair.f
  exact fix_loop s (by omega) s.size 0 [] (by omega) (by omega) (by simp)
theorem impl_ans (s : ByteArray) : impl_RepairText.f s = some (ans s) := by
  unfold impl_RepairText.f ans
  by_cases h : (s.size : Int) > 65536
  · rw [if_pos h, if_pos h]
  · rw [if_neg h, if_neg h]
theorem FnExactRepairText : laws_FnExactRepairText.Pure := by
  intro s _
  refine Ev.rounds (g := fun k => laws_FnExactRepairText.f k s) ?_
  unfold laws_FnExactRepairText.f
  refine Evx.ite (fun _ => Ev.now _) (fun hl => ?_)
  refine Ev.bind (spec_ans s) (Evx.bindc (impl_ans s) ?_)
  exact Evx.pos rfl (Evx.pos rfl (Ev.now _))
end Go.Proofs.YtoihdifnmcnegaaDoor.Pure
