/- The reference's escape says what the program's does. Conditions: texts of at most 100000 bytes. -/
import Derived.Test.YteknchhlineciaaDoorQFnExactEscapeXmlx
import Derived.Test.YteknchhlineciaaDoorEvx
import Derived.Test.YteknchhlineciaaDoorEsc
import Derived.Lib.SlFresh
namespace Go.Proofs.YteknchhlineciaaDoor.SQFnExactEscapeXml
open Go.RowKit Go.Proofs.YteknchhlineciaaDoor.QFnExactEscapeXml Go.Proofs.YteknchhlineciaaDoorW.PrintWords Go.Proofs.YteknchhlineciaaDoorW.PrintLast Go.Proofs.YteknchhlineciaaDoor.Rpl Go.Proofs.YteknchhlineciaaDoor.Evx
set_option linter.unusedSimpArgs false
set_option linter.unusedVariables false
theorem nums_append (l m : List UInt8) : Lib.numsL (l ++ m) = Lib.numsL l ++ Lib.numsL m := by unfold Lib.numsL; rw [List.map_append]
theorem nums_str (l : List UInt8) : strOfNums (Lib.numsL l) = ⟨l.toArray⟩ := by
  show (⟨(Lib.bytesOf (Lib.numsL l)).toArray⟩ : ByteArray) = _
  rw [Lib.bytesOf_numsL]
theorem e1_other : ∀ n : Fin 256, n.val ≠ 38 → n.val ≠ 60 → n.val ≠ 62 → n.val ≠ 34 → n.val ≠ 13 → e1 (UInt8.ofNat n.val) = [UInt8.ofNat n.val] := by decide +kernel
theorem loop (s : ByteArray) (hs : s.size ≤ 100000) : ∀ (d i : Nat), s.size - i ≤ d → i ≤ s.size → Ev (fun k => spec_l05Escape.l0 k s (Lib.numsL (esc (s.data.toList.take i))) (i : Int)) ⟨(esc s.data.toList).toArray⟩ := by
  intro d
  induction d with
  | zero =>
    intro i hd hi
    obtain rfl : i = s.size := by omega
    refine Ev.step (fun k => by rw [spec_l05Escape.l0]) ?_
    have h0 : s.data.toList.take s.size = s.data.toList := by
      have h3 : s.data.toList.length = s.size := rfl
      rw [← h3, List.take_length]
    refine Evx.neg (by omega) ?_
    rw [h0, nums_str]
    exact Ev.now _
  | succ d ih =>
    intro i hd hi
    by_cases h : i < s.size
    · obtain ⟨b, hb⟩ : ∃ b, s.data.toList[i]? = some b := ⟨_, List.getElem?_eq_getElem (show i < s.data.toList.length from h)⟩
      have hbt : bt s (i : Int) = (b.toNat : Int) := by
        rw [bt_bs]
        unfold bs
        rw [List.getD_eq_getElem?_getD, List.getElem?_map, Int.toNat_natCast, hb]
        rfl
      have htk : esc (s.data.toList.take (i + 1)) = esc (s.data.toList.take i) ++ e1 b := by
        rw [List.take_add_one, hb, esc_append]
        simp [esc]
      have hl := (esc_len (s.data.toList.take i)).2
      have hl2 : (s.data.toList.take i).length ≤ i := by rw [List.length_take]; omega
      have hl3 : (Lib.numsL (esc (s.data.toList.take i))).length ≤ 600000 := by rw [Lib.numsL_length]; omega
      have nx := ih (i + 1) (by omega) (by omega)
      have hw : wrap64 ((i : Int) + 1) = ((i + 1 : Nat) : Int) := by rw [Evx.w64 (by omega) (by omega)]; omega
      rw [htk, nums_append] at nx
      have go : ∀ t : List Int, Lib.numsL (e1 b) = t → Ev (fun k => spec_l05Escape.l0 k s (Lib.numsL (esc (s.data.toList.take i)) ++ t) (wrap64 ((i : Int) + 1))) ⟨(esc s.data.toList).toArray⟩ := by
        intro t ht
        rw [hw, ← ht]
        exact nx
      clear nx hw htk ih
      generalize Lib.numsL (esc (s.data.toList.take i)) = acc at *
      have hbb : b = UInt8.ofNat b.toNat := UInt8.ofNat_toNat.symm
      refine Ev.step (fun k => by rw [spec_l05Escape.l0]) ?_
      refine Evx.pos (by omega) (Evx.pos (by omega) ?_)
      rw [hbt]
      by_cases h38 : b.toNat = 38
      · refine Evx.pos (by omega) (Evx.pos (by omega) (go _ ?_))
        rw [hbb, h38]
        rfl
      refine Evx.neg (by omega) ?_
      by_cases h60 : b.toNat = 60
      · refine Evx.pos (by omega) (Evx.pos (by omega) (go _ ?_))
        rw [hbb, h60]
        rfl
      refine Evx.neg (by omega) ?_
      by_cases h62 : b.toNat = 62
      · refine Evx.pos (by omega) (Evx.pos (by omega) (go _ ?_))
        rw [hbb, h62]
        rfl
      refine Evx.neg (by omega) ?_
      by_cases h34 : b.toNat = 34
      · refine Evx.pos (by omega) (Evx.pos (by omega) (go _ ?_))
        rw [hbb, h34]
        rfl
      refine Evx.neg (by omega) ?_
      by_cases h13 : b.toNat = 13
      · refine Evx.pos (by omega) (Evx.pos (by omega) (go _ ?_))
        rw [hbb, h13]
        rfl
      refine Evx.neg (by omega) (Evx.pos (by omega) (go _ ?_))
      have h1 := e1_other ⟨b.toNat, UInt8.toNat_lt b⟩ h38 h60 h62 h34 h13
      simp only [UInt8.ofNat_toNat] at h1
      rw [h1]
      rfl
    · obtain rfl : i = s.size := by omega
      refine Ev.step (fun k => by rw [spec_l05Escape.l0]) ?_
      have h0 : s.data.toList.take s.size = s.data.toList := by
        have h3 : s.data.toList.length = s.size := rfl
        rw [← h3, List.take_length]
      refine Evx.neg (by omega) ?_
      rw [h0, nums_str]
      exact Ev.now _
theorem escape_eq (s : ByteArray) (hs : s.size ≤ 100000) : ∃ v, impl_escapeXml.f s = some v ∧ Ev (fun k => spec_l05Escape.f k s) v := by
  refine ⟨_, by unfold impl_escapeXml.f; rw [if_pos hs], ?_⟩
  unfold spec_l05Escape.f
  exact loop s hs s.size 0 (by omega) (by omega)
end Go.Proofs.YteknchhlineciaaDoor.SQFnExactEscapeXml
