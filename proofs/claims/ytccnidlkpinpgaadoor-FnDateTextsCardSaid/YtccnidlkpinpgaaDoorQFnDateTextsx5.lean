/- Printed by a program of this session's own (wip/myprint.py): the functions that FnDateTexts reaches as plain Lean functions, and that Go's calls do what they say. Conditions: as each theorem states. -/
import Derived.Test.YtccnidlkpinpgaaDoorQFnDateTextsx0
import Derived.Test.YtccnidlkpinpgaaDoorQFnDateTextsx2
import Derived.Test.YtccnidlkpinpgaaDoorQFnDateTextsx3
import Derived.Test.YtccnidlkpinpgaaDoorQFnDateTextsx4
namespace Go.Proofs.YtccnidlkpinpgaaDoor.QFnDateTexts
open Go.RowKit Go.Proofs.YtccnidlkpinpgaaDoorW.PrintWords Go.Proofs.YtccnidlkpinpgaaDoorW.PrintLast Go.Proofs.YtccnidlkpinpgaaDoorW.PrintMore
attribute [local go_sem] max2_int min2_int max_two min_two max_three min_three max_four min_four   -- for this text's walks alone
set_option linter.unusedVariables false
set_option linter.unusedSimpArgs false

/-! ### impl_Rfc822Text: function 9 -/
def impl_Rfc822Text.f (k : Nat) (a0 : Int) : Option (ByteArray × Int) := (impl_isStamp.f a0).bind fun t194 => (if t194 = true then ((impl_civilOf.f k a0).bind fun bt195 => ((impl_weekdays.f).bind fun t202 => ((impl_weekday.f a0).bind fun t205 => (if 0 ≤ t205 then (if t205 < (t202.length : Int) then (if (rdOf ByteArray.empty t202 t205).size + 2 ≤ 9223372036854775807 then ((impl_two.f bt195.2.2.1).bind fun t207 => (if ((rdOf ByteArray.empty t202 t205) ++ (⟨#[44, 32]⟩ : ByteArray)).size + t207.size ≤ 9223372036854775807 then (if (((rdOf ByteArray.empty t202 t205) ++ (⟨#[44, 32]⟩ : ByteArray)) ++ t207).size + 1 ≤ 9223372036854775807 then ((impl_months.f).bind fun t208 => (if 0 ≤ (wrap64 (bt195.2.1 - 1)) then (if (wrap64 (bt195.2.1 - 1)) < (t208.length : Int) then (if ((((rdOf ByteArray.empty t202 t205) ++ (⟨#[44, 32]⟩ : ByteArray)) ++ t207) ++ (⟨#[32]⟩ : ByteArray)).size + (rdOf ByteArray.empty t208 (wrap64 (bt195.2.1 - 1))).size ≤ 9223372036854775807 then (if (((((rdOf ByteArray.empty t202 t205) ++ (⟨#[44, 32]⟩ : ByteArray)) ++ t207) ++ (⟨#[32]⟩ : ByteArray)) ++ (rdOf ByteArray.empty t208 (wrap64 (bt195.2.1 - 1)))).size + 1 ≤ 9223372036854775807 then ((strconv_Itoa.f bt195.1).bind fun t212 => (if ((((((rdOf ByteArray.empty t202 t205) ++ (⟨#[44, 32]⟩ : ByteArray)) ++ t207) ++ (⟨#[32]⟩ : ByteArray)) ++ (rdOf ByteArray.empty t208 (wrap64 (bt195.2.1 - 1)))) ++ (⟨#[32]⟩ : ByteArray)).size + t212.size ≤ 9223372036854775807 then (if (((((((rdOf ByteArray.empty t202 t205) ++ (⟨#[44, 32]⟩ : ByteArray)) ++ t207) ++ (⟨#[32]⟩ : ByteArray)) ++ (rdOf ByteArray.empty t208 (wrap64 (bt195.2.1 - 1)))) ++ (⟨#[32]⟩ : ByteArray)) ++ t212).size + 1 ≤ 9223372036854775807 then ((impl_Civil_clock.f bt195.1 bt195.2.1 bt195.2.2.1 bt195.2.2.2.1 bt195.2.2.2.2.1 bt195.2.2.2.2.2).bind fun t213 => (if ((((((((rdOf ByteArray.empty t202 t205) ++ (⟨#[44, 32]⟩ : ByteArray)) ++ t207) ++ (⟨#[32]⟩ : ByteArray)) ++ (rdOf ByteArray.empty t208 (wrap64 (bt195.2.1 - 1)))) ++ (⟨#[32]⟩ : ByteArray)) ++ t212) ++ (⟨#[32]⟩ : ByteArray)).size + t213.size ≤ 9223372036854775807 then (if (((((((((rdOf ByteArray.empty t202 t205) ++ (⟨#[44, 32]⟩ : ByteArray)) ++ t207) ++ (⟨#[32]⟩ : ByteArray)) ++ (rdOf ByteArray.empty t208 (wrap64 (bt195.2.1 - 1)))) ++ (⟨#[32]⟩ : ByteArray)) ++ t212) ++ (⟨#[32]⟩ : ByteArray)) ++ t213).size + 6 ≤ 9223372036854775807 then (some ((((((((((rdOf ByteArray.empty t202 t205) ++ (⟨#[44, 32]⟩ : ByteArray)) ++ t207) ++ (⟨#[32]⟩ : ByteArray)) ++ (rdOf ByteArray.empty t208 (wrap64 (bt195.2.1 - 1)))) ++ (⟨#[32]⟩ : ByteArray)) ++ t212) ++ (⟨#[32]⟩ : ByteArray)) ++ t213) ++ (⟨#[32, 43, 48, 48, 48, 48]⟩ : ByteArray), 0)) else (none)) else (none))) else (none)) else (none))) else (none)) else (none)) else (none)) else (none))) else (none)) else (none))) else (none)) else (none)) else (none))))) else (some ((⟨#[]⟩ : ByteArray), 4)))
theorem impl_Rfc822Text.mono : ∀ a0 k, LeO (impl_Rfc822Text.f k a0) (impl_Rfc822Text.f (k + 1) a0) := by
  intro a0 k
  unfold impl_Rfc822Text.f
  repeat' first
      | (with_reducible exact impl_civilOf.mono _ _)
      | (with_reducible exact LeO.refl _)
      | (with_reducible exact LeO.none _)
      | (with_reducible refine LeO.ite ?_ ?_)
      | (with_reducible refine LeO.bind ?_ (fun _ => ?_))
      | exact impl_civilOf.mono _ _
      | exact LeO.none _
      | refine LeO.ite ?_ ?_
      | refine LeO.bind ?_ (fun _ => ?_)
def impl_Rfc822Text.T4 : Bool × List (List Nat × List Nat) := (true, [([], []), ([], []), ([1, 0], [1]), ([0, 2], [0, 2]), ([3], [3]), ([4], [4]), ([], []), ([6], [6]), ([7, 2], [7]), ([5, 8], [5, 8]), ([9], [9]), ([8], []), ([], []), ([12], [12]), ([13], [13]), ([11, 14], [11, 14]), ([15], [15]), ([10, 16], [10, 16]), ([17], [17]), ([], []), ([19], [19]), ([20, 11], [20]), ([18, 21], [18, 21]), ([22], [22]), ([], []), ([24, 21], [24]), ([23, 25], [23, 25]), ([26], [26]), ([27, 25, 0, 1, 2, 3, 4, 5, 6, 7, 8, 9, 10, 11, 12, 13, 14, 15, 16, 17, 18, 19, 20, 21, 22, 23, 24, 25, 26, 27], [27]), ([28, 0, 1, 2, 3, 4, 5, 6, 7, 8, 9, 10, 11, 12, 13, 14, 15, 16, 17, 18, 19, 20, 21, 22, 23, 24, 25, 26, 27, 28], [])])
def impl_Rfc822Text.B4 : List Nat := [0, 0, 3, 7, 15, 31, 0, 64, 199, 511, 1023, 455, 0, 4096, 12288, 31175, 63943, 131071, 262143, 0, 524288, 1575367, 4194303, 8388607, 0, 20449735, 67108863, 134217727, 268435455, 536870911]
theorem impl_Rfc822Text.tab4 : rtab .any (opsOf Tryd.f9 4) = impl_Rfc822Text.T4 := by kernel_rfl
theorem impl_Rfc822Text.bits4 : waitsOk impl_Rfc822Text.T4.2 impl_Rfc822Text.B4 = true := by kernel_rfl
set_option maxHeartbeats 8000000 in
set_option maxRecDepth 100000 in
theorem impl_Rfc822Text.calls (k : Nat) (a0 : Int) (r1 : ByteArray) (r2 : Int) (w : World) (h : impl_Rfc822Text.f k a0 = some (r1, r2)) (hG : Glob w) :
    Calls Tryd.prog 9 #[.int .i64 a0] w fun e w' => e = .returned (.tuple #[.string r1, .int .i64 r2]) ∧ Below w.heap.size w w' := by
  have HG := Aside0.mk hG
  clear hG
  have hu33 := Tryd.underlying33
  have HB := Aside0.mk (Below.refl w.heap.size w)
  have H : ((impl_isStamp.f a0).bind fun t194 => (if t194 = true then ((impl_civilOf.f k a0).bind fun bt195 => ((impl_weekdays.f).bind fun t202 => ((impl_weekday.f a0).bind fun t205 => (if 0 ≤ t205 then (if t205 < (t202.length : Int) then (if (rdOf ByteArray.empty t202 t205).size + 2 ≤ 9223372036854775807 then ((impl_two.f bt195.2.2.1).bind fun t207 => (if ((rdOf ByteArray.empty t202 t205) ++ (⟨#[44, 32]⟩ : ByteArray)).size + t207.size ≤ 9223372036854775807 then (if (((rdOf ByteArray.empty t202 t205) ++ (⟨#[44, 32]⟩ : ByteArray)) ++ t207).size + 1 ≤ 9223372036854775807 then ((impl_months.f).bind fun t208 => (if 0 ≤ (wrap64 (bt195.2.1 - 1)) then (if (wrap64 (bt195.2.1 - 1)) < (t208.length : Int) then (if ((((rdOf ByteArray.empty t202 t205) ++ (⟨#[44, 32]⟩ : ByteArray)) ++ t207) ++ (⟨#[32]⟩ : ByteArray)).size + (rdOf ByteArray.empty t208 (wrap64 (bt195.2.1 - 1))).size ≤ 9223372036854775807 then (if (((((rdOf ByteArray.empty t202 t205) ++ (⟨#[44, 32]⟩ : ByteArray)) ++ t207) ++ (⟨#[32]⟩ : ByteArray)) ++ (rdOf ByteArray.empty t208 (wrap64 (bt195.2.1 - 1)))).size + 1 ≤ 9223372036854775807 then ((strconv_Itoa.f bt195.1).bind fun t212 => (if ((((((rdOf ByteArray.empty t202 t205) ++ (⟨#[44, 32]⟩ : ByteArray)) ++ t207) ++ (⟨#[32]⟩ : ByteArray)) ++ (rdOf ByteArray.empty t208 (wrap64 (bt195.2.1 - 1)))) ++ (⟨#[32]⟩ : ByteArray)).size + t212.size ≤ 9223372036854775807 then (if (((((((rdOf ByteArray.empty t202 t205) ++ (⟨#[44, 32]⟩ : ByteArray)) ++ t207) ++ (⟨#[32]⟩ : ByteArray)) ++ (rdOf ByteArray.empty t208 (wrap64 (bt195.2.1 - 1)))) ++ (⟨#[32]⟩ : ByteArray)) ++ t212).size + 1 ≤ 9223372036854775807 then ((impl_Civil_clock.f bt195.1 bt195.2.1 bt195.2.2.1 bt195.2.2.2.1 bt195.2.2.2.2.1 bt195.2.2.2.2.2).bind fun t213 => (if ((((((((rdOf ByteArray.empty t202 t205) ++ (⟨#[44, 32]⟩ : ByteArray)) ++ t207) ++ (⟨#[32]⟩ : ByteArray)) ++ (rdOf ByteArray.empty t208 (wrap64 (bt195.2.1 - 1)))) ++ (⟨#[32]⟩ : ByteArray)) ++ t212) ++ (⟨#[32]⟩ : ByteArray)).size + t213.size ≤ 9223372036854775807 then (if (((((((((rdOf ByteArray.empty t202 t205) ++ (⟨#[44, 32]⟩ : ByteArray)) ++ t207) ++ (⟨#[32]⟩ : ByteArray)) ++ (rdOf ByteArray.empty t208 (wrap64 (bt195.2.1 - 1)))) ++ (⟨#[32]⟩ : ByteArray)) ++ t212) ++ (⟨#[32]⟩ : ByteArray)) ++ t213).size + 6 ≤ 9223372036854775807 then (some ((((((((((rdOf ByteArray.empty t202 t205) ++ (⟨#[44, 32]⟩ : ByteArray)) ++ t207) ++ (⟨#[32]⟩ : ByteArray)) ++ (rdOf ByteArray.empty t208 (wrap64 (bt195.2.1 - 1)))) ++ (⟨#[32]⟩ : ByteArray)) ++ t212) ++ (⟨#[32]⟩ : ByteArray)) ++ t213) ++ (⟨#[32, 43, 48, 48, 48, 48]⟩ : ByteArray), 0)) else (none)) else (none))) else (none)) else (none))) else (none)) else (none)) else (none)) else (none))) else (none)) else (none))) else (none)) else (none)) else (none))))) else (some ((⟨#[]⟩ : ByteArray), 4)))) = some (r1, r2) := h
  clear h
  replace H := Option.bind_eq_some_iff.mp H
  obtain ⟨t194, A20, H⟩ := H
  replace H : (if t194 = true then ((impl_civilOf.f k a0).bind fun bt195 => ((impl_weekdays.f).bind fun t202 => ((impl_weekday.f a0).bind fun t205 => (if 0 ≤ t205 then (if t205 < (t202.length : Int) then (if (rdOf ByteArray.empty t202 t205).size + 2 ≤ 9223372036854775807 then ((impl_two.f bt195.2.2.1).bind fun t207 => (if ((rdOf ByteArray.empty t202 t205) ++ (⟨#[44, 32]⟩ : ByteArray)).size + t207.size ≤ 9223372036854775807 then (if (((rdOf ByteArray.empty t202 t205) ++ (⟨#[44, 32]⟩ : ByteArray)) ++ t207).size + 1 ≤ 9223372036854775807 then ((impl_months.f).bind fun t208 => (if 0 ≤ (wrap64 (bt195.2.1 - 1)) then (if (wrap64 (bt195.2.1 - 1)) < (t208.length : Int) then (if ((((rdOf ByteArray.empty t202 t205) ++ (⟨#[44, 32]⟩ : ByteArray)) ++ t207) ++ (⟨#[32]⟩ : ByteArray)).size + (rdOf ByteArray.empty t208 (wrap64 (bt195.2.1 - 1))).size ≤ 9223372036854775807 then (if (((((rdOf ByteArray.empty t202 t205) ++ (⟨#[44, 32]⟩ : ByteArray)) ++ t207) ++ (⟨#[32]⟩ : ByteArray)) ++ (rdOf ByteArray.empty t208 (wrap64 (bt195.2.1 - 1)))).size + 1 ≤ 9223372036854775807 then ((strconv_Itoa.f bt195.1).bind fun t212 => (if ((((((rdOf ByteArray.empty t202 t205) ++ (⟨#[44, 32]⟩ : ByteArray)) ++ t207) ++ (⟨#[32]⟩ : ByteArray)) ++ (rdOf ByteArray.empty t208 (wrap64 (bt195.2.1 - 1)))) ++ (⟨#[32]⟩ : ByteArray)).size + t212.size ≤ 9223372036854775807 then (if (((((((rdOf ByteArray.empty t202 t205) ++ (⟨#[44, 32]⟩ : ByteArray)) ++ t207) ++ (⟨#[32]⟩ : ByteArray)) ++ (rdOf ByteArray.empty t208 (wrap64 (bt195.2.1 - 1)))) ++ (⟨#[32]⟩ : ByteArray)) ++ t212).size + 1 ≤ 9223372036854775807 then ((impl_Civil_clock.f bt195.1 bt195.2.1 bt195.2.2.1 bt195.2.2.2.1 bt195.2.2.2.2.1 bt195.2.2.2.2.2).bind fun t213 => (if ((((((((rdOf ByteArray.empty t202 t205) ++ (⟨#[44, 32]⟩ : ByteArray)) ++ t207) ++ (⟨#[32]⟩ : ByteArray)) ++ (rdOf ByteArray.empty t208 (wrap64 (bt195.2.1 - 1)))) ++ (⟨#[32]⟩ : ByteArray)) ++ t212) ++ (⟨#[32]⟩ : ByteArray)).size + t213.size ≤ 9223372036854775807 then (if (((((((((rdOf ByteArray.empty t202 t205) ++ (⟨#[44, 32]⟩ : ByteArray)) ++ t207) ++ (⟨#[32]⟩ : ByteArray)) ++ (rdOf ByteArray.empty t208 (wrap64 (bt195.2.1 - 1)))) ++ (⟨#[32]⟩ : ByteArray)) ++ t212) ++ (⟨#[32]⟩ : ByteArray)) ++ t213).size + 6 ≤ 9223372036854775807 then (some ((((((((((rdOf ByteArray.empty t202 t205) ++ (⟨#[44, 32]⟩ : ByteArray)) ++ t207) ++ (⟨#[32]⟩ : ByteArray)) ++ (rdOf ByteArray.empty t208 (wrap64 (bt195.2.1 - 1)))) ++ (⟨#[32]⟩ : ByteArray)) ++ t212) ++ (⟨#[32]⟩ : ByteArray)) ++ t213) ++ (⟨#[32, 43, 48, 48, 48, 48]⟩ : ByteArray), 0)) else (none)) else (none))) else (none)) else (none))) else (none)) else (none)) else (none)) else (none))) else (none)) else (none))) else (none)) else (none)) else (none))))) else (some ((⟨#[]⟩ : ByteArray), 4))) = some (r1, r2) := H
  have A2 := Aside0.mk A20
  clear A20
  by_cases c3 : t194 = true
  · subst c3
    have H1 : ((impl_civilOf.f k a0).bind fun bt195 => ((impl_weekdays.f).bind fun t202 => ((impl_weekday.f a0).bind fun t205 => (if 0 ≤ t205 then (if t205 < (t202.length : Int) then (if (rdOf ByteArray.empty t202 t205).size + 2 ≤ 9223372036854775807 then ((impl_two.f bt195.2.2.1).bind fun t207 => (if ((rdOf ByteArray.empty t202 t205) ++ (⟨#[44, 32]⟩ : ByteArray)).size + t207.size ≤ 9223372036854775807 then (if (((rdOf ByteArray.empty t202 t205) ++ (⟨#[44, 32]⟩ : ByteArray)) ++ t207).size + 1 ≤ 9223372036854775807 then ((impl_months.f).bind fun t208 => (if 0 ≤ (wrap64 (bt195.2.1 - 1)) then (if (wrap64 (bt195.2.1 - 1)) < (t208.length : Int) then (if ((((rdOf ByteArray.empty t202 t205) ++ (⟨#[44, 32]⟩ : ByteArray)) ++ t207) ++ (⟨#[32]⟩ : ByteArray)).size + (rdOf ByteArray.empty t208 (wrap64 (bt195.2.1 - 1))).size ≤ 9223372036854775807 then (if (((((rdOf ByteArray.empty t202 t205) ++ (⟨#[44, 32]⟩ : ByteArray)) ++ t207) ++ (⟨#[32]⟩ : ByteArray)) ++ (rdOf ByteArray.empty t208 (wrap64 (bt195.2.1 - 1)))).size + 1 ≤ 9223372036854775807 then ((strconv_Itoa.f bt195.1).bind fun t212 => (if ((((((rdOf ByteArray.empty t202 t205) ++ (⟨#[44, 32]⟩ : ByteArray)) ++ t207) ++ (⟨#[32]⟩ : ByteArray)) ++ (rdOf ByteArray.empty t208 (wrap64 (bt195.2.1 - 1)))) ++ (⟨#[32]⟩ : ByteArray)).size + t212.size ≤ 9223372036854775807 then (if (((((((rdOf ByteArray.empty t202 t205) ++ (⟨#[44, 32]⟩ : ByteArray)) ++ t207) ++ (⟨#[32]⟩ : ByteArray)) ++ (rdOf ByteArray.empty t208 (wrap64 (bt195.2.1 - 1)))) ++ (⟨#[32]⟩ : ByteArray)) ++ t212).size + 1 ≤ 9223372036854775807 then ((impl_Civil_clock.f bt195.1 bt195.2.1 bt195.2.2.1 bt195.2.2.2.1 bt195.2.2.2.2.1 bt195.2.2.2.2.2).bind fun t213 => (if ((((((((rdOf ByteArray.empty t202 t205) ++ (⟨#[44, 32]⟩ : ByteArray)) ++ t207) ++ (⟨#[32]⟩ : ByteArray)) ++ (rdOf ByteArray.empty t208 (wrap64 (bt195.2.1 - 1)))) ++ (⟨#[32]⟩ : ByteArray)) ++ t212) ++ (⟨#[32]⟩ : ByteArray)).size + t213.size ≤ 9223372036854775807 then (if (((((((((rdOf ByteArray.empty t202 t205) ++ (⟨#[44, 32]⟩ : ByteArray)) ++ t207) ++ (⟨#[32]⟩ : ByteArray)) ++ (rdOf ByteArray.empty t208 (wrap64 (bt195.2.1 - 1)))) ++ (⟨#[32]⟩ : ByteArray)) ++ t212) ++ (⟨#[32]⟩ : ByteArray)) ++ t213).size + 6 ≤ 9223372036854775807 then (some ((((((((((rdOf ByteArray.empty t202 t205) ++ (⟨#[44, 32]⟩ : ByteArray)) ++ t207) ++ (⟨#[32]⟩ : ByteArray)) ++ (rdOf ByteArray.empty t208 (wrap64 (bt195.2.1 - 1)))) ++ (⟨#[32]⟩ : ByteArray)) ++ t212) ++ (⟨#[32]⟩ : ByteArray)) ++ t213) ++ (⟨#[32, 43, 48, 48, 48, 48]⟩ : ByteArray), 0)) else (none)) else (none))) else (none)) else (none))) else (none)) else (none)) else (none)) else (none))) else (none)) else (none))) else (none)) else (none)) else (none))))) = some (r1, r2) := by rw [if_pos rfl] at H; exact H
    clear H
    have H := H1
    clear H1
    replace H := Option.bind_eq_some_iff.mp H
    obtain ⟨⟨t195, t196, t197, t198, t199, t200⟩, A40, H⟩ := H
    replace H : ((impl_weekdays.f).bind fun t202 => ((impl_weekday.f a0).bind fun t205 => (if 0 ≤ t205 then (if t205 < (t202.length : Int) then (if (rdOf ByteArray.empty t202 t205).size + 2 ≤ 9223372036854775807 then ((impl_two.f t197).bind fun t207 => (if ((rdOf ByteArray.empty t202 t205) ++ (⟨#[44, 32]⟩ : ByteArray)).size + t207.size ≤ 9223372036854775807 then (if (((rdOf ByteArray.empty t202 t205) ++ (⟨#[44, 32]⟩ : ByteArray)) ++ t207).size + 1 ≤ 9223372036854775807 then ((impl_months.f).bind fun t208 => (if 0 ≤ (wrap64 (t196 - 1)) then (if (wrap64 (t196 - 1)) < (t208.length : Int) then (if ((((rdOf ByteArray.empty t202 t205) ++ (⟨#[44, 32]⟩ : ByteArray)) ++ t207) ++ (⟨#[32]⟩ : ByteArray)).size + (rdOf ByteArray.empty t208 (wrap64 (t196 - 1))).size ≤ 9223372036854775807 then (if (((((rdOf ByteArray.empty t202 t205) ++ (⟨#[44, 32]⟩ : ByteArray)) ++ t207) ++ (⟨#[32]⟩ : ByteArray)) ++ (rdOf ByteArray.empty t208 (wrap64 (t196 - 1)))).size + 1 ≤ 9223372036854775807 then ((strconv_Itoa.f t195).bind fun t212 => (if ((((((rdOf ByteArray.empty t202 t205) ++ (⟨#[44, 32]⟩ : ByteArray)) ++ t207) ++ (⟨#[32]⟩ : ByteArray)) ++ (rdOf ByteArray.empty t208 (wrap64 (t196 - 1)))) ++ (⟨#[32]⟩ : ByteArray)).size + t212.size ≤ 9223372036854775807 then (if (((((((rdOf ByteArray.empty t202 t205) ++ (⟨#[44, 32]⟩ : ByteArray)) ++ t207) ++ (⟨#[32]⟩ : ByteArray)) ++ (rdOf ByteArray.empty t208 (wrap64 (t196 - 1)))) ++ (⟨#[32]⟩ : ByteArray)) ++ t212).size + 1 ≤ 9223372036854775807 then ((impl_Civil_clock.f t195 t196 t197 t198 t199 t200).bind fun t213 => (if ((((((((rdOf ByteArray.empty t202 t205) ++ (⟨#[44, 32]⟩ : ByteArray)) ++ t207) ++ (⟨#[32]⟩ : ByteArray)) ++ (rdOf ByteArray.empty t208 (wrap64 (t196 - 1)))) ++ (⟨#[32]⟩ : ByteArray)) ++ t212) ++ (⟨#[32]⟩ : ByteArray)).size + t213.size ≤ 9223372036854775807 then (if (((((((((rdOf ByteArray.empty t202 t205) ++ (⟨#[44, 32]⟩ : ByteArray)) ++ t207) ++ (⟨#[32]⟩ : ByteArray)) ++ (rdOf ByteArray.empty t208 (wrap64 (t196 - 1)))) ++ (⟨#[32]⟩ : ByteArray)) ++ t212) ++ (⟨#[32]⟩ : ByteArray)) ++ t213).size + 6 ≤ 9223372036854775807 then (some ((((((((((rdOf ByteArray.empty t202 t205) ++ (⟨#[44, 32]⟩ : ByteArray)) ++ t207) ++ (⟨#[32]⟩ : ByteArray)) ++ (rdOf ByteArray.empty t208 (wrap64 (t196 - 1)))) ++ (⟨#[32]⟩ : ByteArray)) ++ t212) ++ (⟨#[32]⟩ : ByteArray)) ++ t213) ++ (⟨#[32, 43, 48, 48, 48, 48]⟩ : ByteArray), 0)) else (none)) else (none))) else (none)) else (none))) else (none)) else (none)) else (none)) else (none))) else (none)) else (none))) else (none)) else (none)) else (none)))) = some (r1, r2) := H
    have A4 := Aside0.mk A40
    clear A40
    replace H := Option.bind_eq_some_iff.mp H
    obtain ⟨t202, A50, H⟩ := H
    replace H : ((impl_weekday.f a0).bind fun t205 => (if 0 ≤ t205 then (if t205 < (t202.length : Int) then (if (rdOf ByteArray.empty t202 t205).size + 2 ≤ 9223372036854775807 then ((impl_two.f t197).bind fun t207 => (if ((rdOf ByteArray.empty t202 t205) ++ (⟨#[44, 32]⟩ : ByteArray)).size + t207.size ≤ 9223372036854775807 then (if (((rdOf ByteArray.empty t202 t205) ++ (⟨#[44, 32]⟩ : ByteArray)) ++ t207).size + 1 ≤ 9223372036854775807 then ((impl_months.f).bind fun t208 => (if 0 ≤ (wrap64 (t196 - 1)) then (if (wrap64 (t196 - 1)) < (t208.length : Int) then (if ((((rdOf ByteArray.empty t202 t205) ++ (⟨#[44, 32]⟩ : ByteArray)) ++ t207) ++ (⟨#[32]⟩ : ByteArray)).size + (rdOf ByteArray.empty t208 (wrap64 (t196 - 1))).size ≤ 9223372036854775807 then (if (((((rdOf ByteArray.empty t202 t205) ++ (⟨#[44, 32]⟩ : ByteArray)) ++ t207) ++ (⟨#[32]⟩ : ByteArray)) ++ (rdOf ByteArray.empty t208 (wrap64 (t196 - 1)))).size + 1 ≤ 9223372036854775807 then ((strconv_Itoa.f t195).bind fun t212 => (if ((((((rdOf ByteArray.empty t202 t205) ++ (⟨#[44, 32]⟩ : ByteArray)) ++ t207) ++ (⟨#[32]⟩ : ByteArray)) ++ (rdOf ByteArray.empty t208 (wrap64 (t196 - 1)))) ++ (⟨#[32]⟩ : ByteArray)).size + t212.size ≤ 9223372036854775807 then (if (((((((rdOf ByteArray.empty t202 t205) ++ (⟨#[44, 32]⟩ : ByteArray)) ++ t207) ++ (⟨#[32]⟩ : ByteArray)) ++ (rdOf ByteArray.empty t208 (wrap64 (t196 - 1)))) ++ (⟨#[32]⟩ : ByteArray)) ++ t212).size + 1 ≤ 9223372036854775807 then ((impl_Civil_clock.f t195 t196 t197 t198 t199 t200).bind fun t213 => (if ((((((((rdOf ByteArray.empty t202 t205) ++ (⟨#[44, 32]⟩ : ByteArray)) ++ t207) ++ (⟨#[32]⟩ : ByteArray)) ++ (rdOf ByteArray.empty t208 (wrap64 (t196 - 1)))) ++ (⟨#[32]⟩ : ByteArray)) ++ t212) ++ (⟨#[32]⟩ : ByteArray)).size + t213.size ≤ 9223372036854775807 then (if (((((((((rdOf ByteArray.empty t202 t205) ++ (⟨#[44, 32]⟩ : ByteArray)) ++ t207) ++ (⟨#[32]⟩ : ByteArray)) ++ (rdOf ByteArray.empty t208 (wrap64 (t196 - 1)))) ++ (⟨#[32]⟩ : ByteArray)) ++ t212) ++ (⟨#[32]⟩ : ByteArray)) ++ t213).size + 6 ≤ 9223372036854775807 then (some ((((((((((rdOf ByteArray.empty t202 t205) ++ (⟨#[44, 32]⟩ : ByteArray)) ++ t207) ++ (⟨#[32]⟩ : ByteArray)) ++ (rdOf ByteArray.empty t208 (wrap64 (t196 - 1)))) ++ (⟨#[32]⟩ : ByteArray)) ++ t212) ++ (⟨#[32]⟩ : ByteArray)) ++ t213) ++ (⟨#[32, 43, 48, 48, 48, 48]⟩ : ByteArray), 0)) else (none)) else (none))) else (none)) else (none))) else (none)) else (none)) else (none)) else (none))) else (none)) else (none))) else (none)) else (none)) else (none))) = some (r1, r2) := H
    have A5 := Aside0.mk A50
    clear A50
    replace H := Option.bind_eq_some_iff.mp H
    obtain ⟨t205, A60, H⟩ := H
    replace H : (if 0 ≤ t205 then (if t205 < (t202.length : Int) then (if (rdOf ByteArray.empty t202 t205).size + 2 ≤ 9223372036854775807 then ((impl_two.f t197).bind fun t207 => (if ((rdOf ByteArray.empty t202 t205) ++ (⟨#[44, 32]⟩ : ByteArray)).size + t207.size ≤ 9223372036854775807 then (if (((rdOf ByteArray.empty t202 t205) ++ (⟨#[44, 32]⟩ : ByteArray)) ++ t207).size + 1 ≤ 9223372036854775807 then ((impl_months.f).bind fun t208 => (if 0 ≤ (wrap64 (t196 - 1)) then (if (wrap64 (t196 - 1)) < (t208.length : Int) then (if ((((rdOf ByteArray.empty t202 t205) ++ (⟨#[44, 32]⟩ : ByteArray)) ++ t207) ++ (⟨#[32]⟩ : ByteArray)).size + (rdOf ByteArray.empty t208 (wrap64 (t196 - 1))).size ≤ 9223372036854775807 then (if (((((rdOf ByteArray.empty t202 t205) ++ (⟨#[44, 32]⟩ : ByteArray)) ++ t207) ++ (⟨#[32]⟩ : ByteArray)) ++ (rdOf ByteArray.empty t208 (wrap64 (t196 - 1)))).size + 1 ≤ 9223372036854775807 then ((strconv_Itoa.f t195).bind fun t212 => (if ((((((rdOf ByteArray.empty t202 t205) ++ (⟨#[44, 32]⟩ : ByteArray)) ++ t207) ++ (⟨#[32]⟩ : ByteArray)) ++ (rdOf ByteArray.empty t208 (wrap64 (t196 - 1)))) ++ (⟨#[32]⟩ : ByteArray)).size + t212.size ≤ 9223372036854775807 then (if (((((((rdOf ByteArray.empty t202 t205) ++ (⟨#[44, 32]⟩ : ByteArray)) ++ t207) ++ (⟨#[32]⟩ : ByteArray)) ++ (rdOf ByteArray.empty t208 (wrap64 (t196 - 1)))) ++ (⟨#[32]⟩ : ByteArray)) ++ t212).size + 1 ≤ 9223372036854775807 then ((impl_Civil_clock.f t195 t196 t197 t198 t199 t200).bind fun t213 => (if ((((((((rdOf ByteArray.empty t202 t205) ++ (⟨#[44, 32]⟩ : ByteArray)) ++ t207) ++ (⟨#[32]⟩ : ByteArray)) ++ (rdOf ByteArray.empty t208 (wrap64 (t196 - 1)))) ++ (⟨#[32]⟩ : ByteArray)) ++ t212) ++ (⟨#[32]⟩ : ByteArray)).size + t213.size ≤ 9223372036854775807 then (if (((((((((rdOf ByteArray.empty t202 t205) ++ (⟨#[44, 32]⟩ : ByteArray)) ++ t207) ++ (⟨#[32]⟩ : ByteArray)) ++ (rdOf ByteArray.empty t208 (wrap64 (t196 - 1)))) ++ (⟨#[32]⟩ : ByteArray)) ++ t212) ++ (⟨#[32]⟩ : ByteArray)) ++ t213).size + 6 ≤ 9223372036854775807 then (some ((((((((((rdOf ByteArray.empty t202 t205) ++ (⟨#[44, 32]⟩ : ByteArray)) ++ t207) ++ (⟨#[32]⟩ : ByteArray)) ++ (rdOf ByteArray.empty t208 (wrap64 (t196 - 1)))) ++ (⟨#[32]⟩ : ByteArray)) ++ t212) ++ (⟨#[32]⟩ : ByteArray)) ++ t213) ++ (⟨#[32, 43, 48, 48, 48, 48]⟩ : ByteArray), 0)) else (none)) else (none))) else (none)) else (none))) else (none)) else (none)) else (none)) else (none))) else (none)) else (none))) else (none)) else (none)) else (none)) = some (r1, r2) := H
    have A6 := Aside0.mk A60
    clear A60
    by_cases c7 : 0 ≤ t205
    · rw [if_pos c7] at H
      have c7b0 : decide (0 ≤ t205) = true := decide_eq_true c7
      clear c7
      by_cases c8 : t205 < (t202.length : Int)
      · rw [if_pos c8] at H
        have c8b0 : decide (t205 < (t202.length : Int)) = true := decide_eq_true c8
        clear c8
        by_cases c9 : (rdOf ByteArray.empty t202 t205).size + 2 ≤ 9223372036854775807
        · rw [if_pos c9] at H
          have c9b0 := eq_true c9
          have c9b1 : decide ((rdOf ByteArray.empty t202 t205).size + 2 ≤ 9223372036854775807) = true := decide_eq_true c9
          try have c9b2 : (9223372036854775807 < (rdOf ByteArray.empty t202 t205).size + 2) = False := eq_false (Nat.not_lt.2 c9)
          replace H := Option.bind_eq_some_iff.mp H
          obtain ⟨t207, A100, H⟩ := H
          replace H : (if ((rdOf ByteArray.empty t202 t205) ++ (⟨#[44, 32]⟩ : ByteArray)).size + t207.size ≤ 9223372036854775807 then (if (((rdOf ByteArray.empty t202 t205) ++ (⟨#[44, 32]⟩ : ByteArray)) ++ t207).size + 1 ≤ 9223372036854775807 then ((impl_months.f).bind fun t208 => (if 0 ≤ (wrap64 (t196 - 1)) then (if (wrap64 (t196 - 1)) < (t208.length : Int) then (if ((((rdOf ByteArray.empty t202 t205) ++ (⟨#[44, 32]⟩ : ByteArray)) ++ t207) ++ (⟨#[32]⟩ : ByteArray)).size + (rdOf ByteArray.empty t208 (wrap64 (t196 - 1))).size ≤ 9223372036854775807 then (if (((((rdOf ByteArray.empty t202 t205) ++ (⟨#[44, 32]⟩ : ByteArray)) ++ t207) ++ (⟨#[32]⟩ : ByteArray)) ++ (rdOf ByteArray.empty t208 (wrap64 (t196 - 1)))).size + 1 ≤ 9223372036854775807 then ((strconv_Itoa.f t195).bind fun t212 => (if ((((((rdOf ByteArray.empty t202 t205) ++ (⟨#[44, 32]⟩ : ByteArray)) ++ t207) ++ (⟨#[32]⟩ : ByteArray)) ++ (rdOf ByteArray.empty t208 (wrap64 (t196 - 1)))) ++ (⟨#[32]⟩ : ByteArray)).size + t212.size ≤ 9223372036854775807 then (if (((((((rdOf ByteArray.empty t202 t205) ++ (⟨#[44, 32]⟩ : ByteArray)) ++ t207) ++ (⟨#[32]⟩ : ByteArray)) ++ (rdOf ByteArray.empty t208 (wrap64 (t196 - 1)))) ++ (⟨#[32]⟩ : ByteArray)) ++ t212).size + 1 ≤ 9223372036854775807 then ((impl_Civil_clock.f t195 t196 t197 t198 t199 t200).bind fun t213 => (if ((((((((rdOf ByteArray.empty t202 t205) ++ (⟨#[44, 32]⟩ : ByteArray)) ++ t207) ++ (⟨#[32]⟩ : ByteArray)) ++ (rdOf ByteArray.empty t208 (wrap64 (t196 - 1)))) ++ (⟨#[32]⟩ : ByteArray)) ++ t212) ++ (⟨#[32]⟩ : ByteArray)).size + t213.size ≤ 9223372036854775807 then (if (((((((((rdOf ByteArray.empty t202 t205) ++ (⟨#[44, 32]⟩ : ByteArray)) ++ t207) ++ (⟨#[32]⟩ : ByteArray)) ++ (rdOf ByteArray.empty t208 (wrap64 (t196 - 1)))) ++ (⟨#[32]⟩ : ByteArray)) ++ t212) ++ (⟨#[32]⟩ : ByteArray)) ++ t213).size + 6 ≤ 9223372036854775807 then (some ((((((((((rdOf ByteArray.empty t202 t205) ++ (⟨#[44, 32]⟩ : ByteArray)) ++ t207) ++ (⟨#[32]⟩ : ByteArray)) ++ (rdOf ByteArray.empty t208 (wrap64 (t196 - 1)))) ++ (⟨#[32]⟩ : ByteArray)) ++ t212) ++ (⟨#[32]⟩ : ByteArray)) ++ t213) ++ (⟨#[32, 43, 48, 48, 48, 48]⟩ : ByteArray), 0)) else (none)) else (none))) else (none)) else (none))) else (none)) else (none)) else (none)) else (none))) else (none)) else (none)) = some (r1, r2) := H
          have A10 := Aside0.mk A100
          clear A100
          by_cases c11 : ((rdOf ByteArray.empty t202 t205) ++ (⟨#[44, 32]⟩ : ByteArray)).size + t207.size ≤ 9223372036854775807
          · rw [if_pos c11] at H
            have c11b0 := eq_true c11
            have c11b1 : decide (((rdOf ByteArray.empty t202 t205) ++ (⟨#[44, 32]⟩ : ByteArray)).size + t207.size ≤ 9223372036854775807) = true := decide_eq_true c11
            try have c11b2 : (9223372036854775807 < ((rdOf ByteArray.empty t202 t205) ++ (⟨#[44, 32]⟩ : ByteArray)).size + t207.size) = False := eq_false (Nat.not_lt.2 c11)
            try have c11b3 : (9223372036854775807 < (rdOf ByteArray.empty t202 t205).size + 2 + t207.size) = False := eq_false (Nat.not_lt.2 (by have h_ := c11; simp only [ByteArray.size_append] at h_; exact h_))
            by_cases c12 : (((rdOf ByteArray.empty t202 t205) ++ (⟨#[44, 32]⟩ : ByteArray)) ++ t207).size + 1 ≤ 9223372036854775807
            · rw [if_pos c12] at H
              have c12b0 := eq_true c12
              have c12b1 : decide ((((rdOf ByteArray.empty t202 t205) ++ (⟨#[44, 32]⟩ : ByteArray)) ++ t207).size + 1 ≤ 9223372036854775807) = true := decide_eq_true c12
              try have c12b2 : (9223372036854775807 < (((rdOf ByteArray.empty t202 t205) ++ (⟨#[44, 32]⟩ : ByteArray)) ++ t207).size + 1) = False := eq_false (Nat.not_lt.2 c12)
              try have c12b3 : (9223372036854775807 < (rdOf ByteArray.empty t202 t205).size + 2 + t207.size + 1) = False := eq_false (Nat.not_lt.2 (by have h_ := c12; simp only [ByteArray.size_append] at h_; exact h_))
              replace H := Option.bind_eq_some_iff.mp H
              obtain ⟨t208, A130, H⟩ := H
              replace H : (if 0 ≤ (wrap64 (t196 - 1)) then (if (wrap64 (t196 - 1)) < (t208.length : Int) then (if ((((rdOf ByteArray.empty t202 t205) ++ (⟨#[44, 32]⟩ : ByteArray)) ++ t207) ++ (⟨#[32]⟩ : ByteArray)).size + (rdOf ByteArray.empty t208 (wrap64 (t196 - 1))).size ≤ 9223372036854775807 then (if (((((rdOf ByteArray.empty t202 t205) ++ (⟨#[44, 32]⟩ : ByteArray)) ++ t207) ++ (⟨#[32]⟩ : ByteArray)) ++ (rdOf ByteArray.empty t208 (wrap64 (t196 - 1)))).size + 1 ≤ 9223372036854775807 then ((strconv_Itoa.f t195).bind fun t212 => (if ((((((rdOf ByteArray.empty t202 t205) ++ (⟨#[44, 32]⟩ : ByteArray)) ++ t207) ++ (⟨#[32]⟩ : ByteArray)) ++ (rdOf ByteArray.empty t208 (wrap64 (t196 - 1)))) ++ (⟨#[32]⟩ : ByteArray)).size + t212.size ≤ 9223372036854775807 then (if (((((((rdOf ByteArray.empty t202 t205) ++ (⟨#[44, 32]⟩ : ByteArray)) ++ t207) ++ (⟨#[32]⟩ : ByteArray)) ++ (rdOf ByteArray.empty t208 (wrap64 (t196 - 1)))) ++ (⟨#[32]⟩ : ByteArray)) ++ t212).size + 1 ≤ 9223372036854775807 then ((impl_Civil_clock.f t195 t196 t197 t198 t199 t200).bind fun t213 => (if ((((((((rdOf ByteArray.empty t202 t205) ++ (⟨#[44, 32]⟩ : ByteArray)) ++ t207) ++ (⟨#[32]⟩ : ByteArray)) ++ (rdOf ByteArray.empty t208 (wrap64 (t196 - 1)))) ++ (⟨#[32]⟩ : ByteArray)) ++ t212) ++ (⟨#[32]⟩ : ByteArray)).size + t213.size ≤ 9223372036854775807 then (if (((((((((rdOf ByteArray.empty t202 t205) ++ (⟨#[44, 32]⟩ : ByteArray)) ++ t207) ++ (⟨#[32]⟩ : ByteArray)) ++ (rdOf ByteArray.empty t208 (wrap64 (t196 - 1)))) ++ (⟨#[32]⟩ : ByteArray)) ++ t212) ++ (⟨#[32]⟩ : ByteArray)) ++ t213).size + 6 ≤ 9223372036854775807 then (some ((((((((((rdOf ByteArray.empty t202 t205) ++ (⟨#[44, 32]⟩ : ByteArray)) ++ t207) ++ (⟨#[32]⟩ : ByteArray)) ++ (rdOf ByteArray.empty t208 (wrap64 (t196 - 1)))) ++ (⟨#[32]⟩ : ByteArray)) ++ t212) ++ (⟨#[32]⟩ : ByteArray)) ++ t213) ++ (⟨#[32, 43, 48, 48, 48, 48]⟩ : ByteArray), 0)) else (none)) else (none))) else (none)) else (none))) else (none)) else (none)) else (none)) else (none)) = some (r1, r2) := H
              have A13 := Aside0.mk A130
              clear A130
              obtain ⟨ji14, hji14⟩ : ∃ j_ : Int, (wrap64 (t196 - 1)) = j_ := ⟨_, rfl⟩
              replace H : (if 0 ≤ (ji14) then (if (ji14) < (t208.length : Int) then (if ((((rdOf ByteArray.empty t202 t205) ++ (⟨#[44, 32]⟩ : ByteArray)) ++ t207) ++ (⟨#[32]⟩ : ByteArray)).size + (rdOf ByteArray.empty t208 (ji14)).size ≤ 9223372036854775807 then (if (((((rdOf ByteArray.empty t202 t205) ++ (⟨#[44, 32]⟩ : ByteArray)) ++ t207) ++ (⟨#[32]⟩ : ByteArray)) ++ (rdOf ByteArray.empty t208 (ji14))).size + 1 ≤ 9223372036854775807 then ((strconv_Itoa.f t195).bind fun t212 => (if ((((((rdOf ByteArray.empty t202 t205) ++ (⟨#[44, 32]⟩ : ByteArray)) ++ t207) ++ (⟨#[32]⟩ : ByteArray)) ++ (rdOf ByteArray.empty t208 (ji14))) ++ (⟨#[32]⟩ : ByteArray)).size + t212.size ≤ 9223372036854775807 then (if (((((((rdOf ByteArray.empty t202 t205) ++ (⟨#[44, 32]⟩ : ByteArray)) ++ t207) ++ (⟨#[32]⟩ : ByteArray)) ++ (rdOf ByteArray.empty t208 (ji14))) ++ (⟨#[32]⟩ : ByteArray)) ++ t212).size + 1 ≤ 9223372036854775807 then ((impl_Civil_clock.f t195 t196 t197 t198 t199 t200).bind fun t213 => (if ((((((((rdOf ByteArray.empty t202 t205) ++ (⟨#[44, 32]⟩ : ByteArray)) ++ t207) ++ (⟨#[32]⟩ : ByteArray)) ++ (rdOf ByteArray.empty t208 (ji14))) ++ (⟨#[32]⟩ : ByteArray)) ++ t212) ++ (⟨#[32]⟩ : ByteArray)).size + t213.size ≤ 9223372036854775807 then (if (((((((((rdOf ByteArray.empty t202 t205) ++ (⟨#[44, 32]⟩ : ByteArray)) ++ t207) ++ (⟨#[32]⟩ : ByteArray)) ++ (rdOf ByteArray.empty t208 (ji14))) ++ (⟨#[32]⟩ : ByteArray)) ++ t212) ++ (⟨#[32]⟩ : ByteArray)) ++ t213).size + 6 ≤ 9223372036854775807 then (some ((((((((((rdOf ByteArray.empty t202 t205) ++ (⟨#[44, 32]⟩ : ByteArray)) ++ t207) ++ (⟨#[32]⟩ : ByteArray)) ++ (rdOf ByteArray.empty t208 (ji14))) ++ (⟨#[32]⟩ : ByteArray)) ++ t212) ++ (⟨#[32]⟩ : ByteArray)) ++ t213) ++ (⟨#[32, 43, 48, 48, 48, 48]⟩ : ByteArray), 0)) else (none)) else (none))) else (none)) else (none))) else (none)) else (none)) else (none)) else (none)) = some (r1, r2) := by first | (rw [hji14] at H; exact H) | (simp only [hji14] at H ⊢; exact H)
              (try rw [hji14] at A2)
              (try rw [hji14] at A4)
              (try rw [hji14] at A5)
              (try rw [hji14] at A6)
              (try rw [hji14] at A10)
              (try rw [hji14] at A13)
              have hji14w : (IntKind.i64.wrap (t196 - 1)) = ji14 := (i64_w _).trans hji14
              by_cases c15 : 0 ≤ (ji14)
              · rw [if_pos c15] at H
                have c15b0 : decide (0 ≤ (ji14)) = true := decide_eq_true c15
                clear c15
                by_cases c16 : (ji14) < (t208.length : Int)
                · rw [if_pos c16] at H
                  have c16b0 : decide ((ji14) < (t208.length : Int)) = true := decide_eq_true c16
                  clear c16
                  by_cases c17 : ((((rdOf ByteArray.empty t202 t205) ++ (⟨#[44, 32]⟩ : ByteArray)) ++ t207) ++ (⟨#[32]⟩ : ByteArray)).size + (rdOf ByteArray.empty t208 (ji14)).size ≤ 9223372036854775807
                  · rw [if_pos c17] at H
                    have c17b0 := eq_true c17
                    have c17b1 : decide (((((rdOf ByteArray.empty t202 t205) ++ (⟨#[44, 32]⟩ : ByteArray)) ++ t207) ++ (⟨#[32]⟩ : ByteArray)).size + (rdOf ByteArray.empty t208 (ji14)).size ≤ 9223372036854775807) = true := decide_eq_true c17
                    try have c17b2 : (9223372036854775807 < ((((rdOf ByteArray.empty t202 t205) ++ (⟨#[44, 32]⟩ : ByteArray)) ++ t207) ++ (⟨#[32]⟩ : ByteArray)).size + (rdOf ByteArray.empty t208 (ji14)).size) = False := eq_false (Nat.not_lt.2 c17)
                    try have c17b3 : (9223372036854775807 < (rdOf ByteArray.empty t202 t205).size + 2 + t207.size + 1 + (rdOf ByteArray.empty t208 (ji14)).size) = False := eq_false (Nat.not_lt.2 (by have h_ := c17; simp only [ByteArray.size_append] at h_; exact h_))
                    by_cases c18 : (((((rdOf ByteArray.empty t202 t205) ++ (⟨#[44, 32]⟩ : ByteArray)) ++ t207) ++ (⟨#[32]⟩ : ByteArray)) ++ (rdOf ByteArray.empty t208 (ji14))).size + 1 ≤ 9223372036854775807
                    · rw [if_pos c18] at H
                      have c18b0 := eq_true c18
                      have c18b1 : decide ((((((rdOf ByteArray.empty t202 t205) ++ (⟨#[44, 32]⟩ : ByteArray)) ++ t207) ++ (⟨#[32]⟩ : ByteArray)) ++ (rdOf ByteArray.empty t208 (ji14))).size + 1 ≤ 9223372036854775807) = true := decide_eq_true c18
                      try have c18b2 : (9223372036854775807 < (((((rdOf ByteArray.empty t202 t205) ++ (⟨#[44, 32]⟩ : ByteArray)) ++ t207) ++ (⟨#[32]⟩ : ByteArray)) ++ (rdOf ByteArray.empty t208 (ji14))).size + 1) = False := eq_false (Nat.not_lt.2 c18)
                      try have c18b3 : (9223372036854775807 < (rdOf ByteArray.empty t202 t205).size + 2 + t207.size + 1 + (rdOf ByteArray.empty t208 (ji14)).size + 1) = False := eq_false (Nat.not_lt.2 (by have h_ := c18; simp only [ByteArray.size_append] at h_; exact h_))
                      replace H := Option.bind_eq_some_iff.mp H
                      obtain ⟨t212, A190, H⟩ := H
                      replace H : (if ((((((rdOf ByteArray.empty t202 t205) ++ (⟨#[44, 32]⟩ : ByteArray)) ++ t207) ++ (⟨#[32]⟩ : ByteArray)) ++ (rdOf ByteArray.empty t208 (ji14))) ++ (⟨#[32]⟩ : ByteArray)).size + t212.size ≤ 9223372036854775807 then (if (((((((rdOf ByteArray.empty t202 t205) ++ (⟨#[44, 32]⟩ : ByteArray)) ++ t207) ++ (⟨#[32]⟩ : ByteArray)) ++ (rdOf ByteArray.empty t208 (ji14))) ++ (⟨#[32]⟩ : ByteArray)) ++ t212).size + 1 ≤ 9223372036854775807 then ((impl_Civil_clock.f t195 t196 t197 t198 t199 t200).bind fun t213 => (if ((((((((rdOf ByteArray.empty t202 t205) ++ (⟨#[44, 32]⟩ : ByteArray)) ++ t207) ++ (⟨#[32]⟩ : ByteArray)) ++ (rdOf ByteArray.empty t208 (ji14))) ++ (⟨#[32]⟩ : ByteArray)) ++ t212) ++ (⟨#[32]⟩ : ByteArray)).size + t213.size ≤ 9223372036854775807 then (if (((((((((rdOf ByteArray.empty t202 t205) ++ (⟨#[44, 32]⟩ : ByteArray)) ++ t207) ++ (⟨#[32]⟩ : ByteArray)) ++ (rdOf ByteArray.empty t208 (ji14))) ++ (⟨#[32]⟩ : ByteArray)) ++ t212) ++ (⟨#[32]⟩ : ByteArray)) ++ t213).size + 6 ≤ 9223372036854775807 then (some ((((((((((rdOf ByteArray.empty t202 t205) ++ (⟨#[44, 32]⟩ : ByteArray)) ++ t207) ++ (⟨#[32]⟩ : ByteArray)) ++ (rdOf ByteArray.empty t208 (ji14))) ++ (⟨#[32]⟩ : ByteArray)) ++ t212) ++ (⟨#[32]⟩ : ByteArray)) ++ t213) ++ (⟨#[32, 43, 48, 48, 48, 48]⟩ : ByteArray), 0)) else (none)) else (none))) else (none)) else (none)) = some (r1, r2) := H
                      have A19 := Aside0.mk A190
                      clear A190
                      by_cases c20 : ((((((rdOf ByteArray.empty t202 t205) ++ (⟨#[44, 32]⟩ : ByteArray)) ++ t207) ++ (⟨#[32]⟩ : ByteArray)) ++ (rdOf ByteArray.empty t208 (ji14))) ++ (⟨#[32]⟩ : ByteArray)).size + t212.size ≤ 9223372036854775807
                      · rw [if_pos c20] at H
                        have c20b0 := eq_true c20
                        have c20b1 : decide (((((((rdOf ByteArray.empty t202 t205) ++ (⟨#[44, 32]⟩ : ByteArray)) ++ t207) ++ (⟨#[32]⟩ : ByteArray)) ++ (rdOf ByteArray.empty t208 (ji14))) ++ (⟨#[32]⟩ : ByteArray)).size + t212.size ≤ 9223372036854775807) = true := decide_eq_true c20
                        try have c20b2 : (9223372036854775807 < ((((((rdOf ByteArray.empty t202 t205) ++ (⟨#[44, 32]⟩ : ByteArray)) ++ t207) ++ (⟨#[32]⟩ : ByteArray)) ++ (rdOf ByteArray.empty t208 (ji14))) ++ (⟨#[32]⟩ : ByteArray)).size + t212.size) = False := eq_false (Nat.not_lt.2 c20)
                        try have c20b3 : (9223372036854775807 < (rdOf ByteArray.empty t202 t205).size + 2 + t207.size + 1 + (rdOf ByteArray.empty t208 (ji14)).size + 1 + t212.size) = False := eq_false (Nat.not_lt.2 (by have h_ := c20; simp only [ByteArray.size_append] at h_; exact h_))
                        by_cases c21 : (((((((rdOf ByteArray.empty t202 t205) ++ (⟨#[44, 32]⟩ : ByteArray)) ++ t207) ++ (⟨#[32]⟩ : ByteArray)) ++ (rdOf ByteArray.empty t208 (ji14))) ++ (⟨#[32]⟩ : ByteArray)) ++ t212).size + 1 ≤ 9223372036854775807
                        · rw [if_pos c21] at H
                          have c21b0 := eq_true c21
                          have c21b1 : decide ((((((((rdOf ByteArray.empty t202 t205) ++ (⟨#[44, 32]⟩ : ByteArray)) ++ t207) ++ (⟨#[32]⟩ : ByteArray)) ++ (rdOf ByteArray.empty t208 (ji14))) ++ (⟨#[32]⟩ : ByteArray)) ++ t212).size + 1 ≤ 9223372036854775807) = true := decide_eq_true c21
                          try have c21b2 : (9223372036854775807 < (((((((rdOf ByteArray.empty t202 t205) ++ (⟨#[44, 32]⟩ : ByteArray)) ++ t207) ++ (⟨#[32]⟩ : ByteArray)) ++ (rdOf ByteArray.empty t208 (ji14))) ++ (⟨#[32]⟩ : ByteArray)) ++ t212).size + 1) = False := eq_false (Nat.not_lt.2 c21)
                          try have c21b3 : (9223372036854775807 < (rdOf ByteArray.empty t202 t205).size + 2 + t207.size + 1 + (rdOf ByteArray.empty t208 (ji14)).size + 1 + t212.size + 1) = False := eq_false (Nat.not_lt.2 (by have h_ := c21; simp only [ByteArray.size_append] at h_; exact h_))
                          replace H := Option.bind_eq_some_iff.mp H
                          obtain ⟨t213, A220, H⟩ := H
                          replace H : (if ((((((((rdOf ByteArray.empty t202 t205) ++ (⟨#[44, 32]⟩ : ByteArray)) ++ t207) ++ (⟨#[32]⟩ : ByteArray)) ++ (rdOf ByteArray.empty t208 (ji14))) ++ (⟨#[32]⟩ : ByteArray)) ++ t212) ++ (⟨#[32]⟩ : ByteArray)).size + t213.size ≤ 9223372036854775807 then (if (((((((((rdOf ByteArray.empty t202 t205) ++ (⟨#[44, 32]⟩ : ByteArray)) ++ t207) ++ (⟨#[32]⟩ : ByteArray)) ++ (rdOf ByteArray.empty t208 (ji14))) ++ (⟨#[32]⟩ : ByteArray)) ++ t212) ++ (⟨#[32]⟩ : ByteArray)) ++ t213).size + 6 ≤ 9223372036854775807 then (some ((((((((((rdOf ByteArray.empty t202 t205) ++ (⟨#[44, 32]⟩ : ByteArray)) ++ t207) ++ (⟨#[32]⟩ : ByteArray)) ++ (rdOf ByteArray.empty t208 (ji14))) ++ (⟨#[32]⟩ : ByteArray)) ++ t212) ++ (⟨#[32]⟩ : ByteArray)) ++ t213) ++ (⟨#[32, 43, 48, 48, 48, 48]⟩ : ByteArray), 0)) else (none)) else (none)) = some (r1, r2) := H
                          have A22 := Aside0.mk A220
                          clear A220
                          by_cases c23 : ((((((((rdOf ByteArray.empty t202 t205) ++ (⟨#[44, 32]⟩ : ByteArray)) ++ t207) ++ (⟨#[32]⟩ : ByteArray)) ++ (rdOf ByteArray.empty t208 (ji14))) ++ (⟨#[32]⟩ : ByteArray)) ++ t212) ++ (⟨#[32]⟩ : ByteArray)).size + t213.size ≤ 9223372036854775807
                          · rw [if_pos c23] at H
                            have c23b0 := eq_true c23
                            have c23b1 : decide (((((((((rdOf ByteArray.empty t202 t205) ++ (⟨#[44, 32]⟩ : ByteArray)) ++ t207) ++ (⟨#[32]⟩ : ByteArray)) ++ (rdOf ByteArray.empty t208 (ji14))) ++ (⟨#[32]⟩ : ByteArray)) ++ t212) ++ (⟨#[32]⟩ : ByteArray)).size + t213.size ≤ 9223372036854775807) = true := decide_eq_true c23
                            try have c23b2 : (9223372036854775807 < ((((((((rdOf ByteArray.empty t202 t205) ++ (⟨#[44, 32]⟩ : ByteArray)) ++ t207) ++ (⟨#[32]⟩ : ByteArray)) ++ (rdOf ByteArray.empty t208 (ji14))) ++ (⟨#[32]⟩ : ByteArray)) ++ t212) ++ (⟨#[32]⟩ : ByteArray)).size + t213.size) = False := eq_false (Nat.not_lt.2 c23)
                            try have c23b3 : (9223372036854775807 < (rdOf ByteArray.empty t202 t205).size + 2 + t207.size + 1 + (rdOf ByteArray.empty t208 (ji14)).size + 1 + t212.size + 1 + t213.size) = False := eq_false (Nat.not_lt.2 (by have h_ := c23; simp only [ByteArray.size_append] at h_; exact h_))
                            by_cases c24 : (((((((((rdOf ByteArray.empty t202 t205) ++ (⟨#[44, 32]⟩ : ByteArray)) ++ t207) ++ (⟨#[32]⟩ : ByteArray)) ++ (rdOf ByteArray.empty t208 (ji14))) ++ (⟨#[32]⟩ : ByteArray)) ++ t212) ++ (⟨#[32]⟩ : ByteArray)) ++ t213).size + 6 ≤ 9223372036854775807
                            · rw [if_pos c24] at H
                              have c24b0 := eq_true c24
                              have c24b1 : decide ((((((((((rdOf ByteArray.empty t202 t205) ++ (⟨#[44, 32]⟩ : ByteArray)) ++ t207) ++ (⟨#[32]⟩ : ByteArray)) ++ (rdOf ByteArray.empty t208 (ji14))) ++ (⟨#[32]⟩ : ByteArray)) ++ t212) ++ (⟨#[32]⟩ : ByteArray)) ++ t213).size + 6 ≤ 9223372036854775807) = true := decide_eq_true c24
                              try have c24b2 : (9223372036854775807 < (((((((((rdOf ByteArray.empty t202 t205) ++ (⟨#[44, 32]⟩ : ByteArray)) ++ t207) ++ (⟨#[32]⟩ : ByteArray)) ++ (rdOf ByteArray.empty t208 (ji14))) ++ (⟨#[32]⟩ : ByteArray)) ++ t212) ++ (⟨#[32]⟩ : ByteArray)) ++ t213).size + 6) = False := eq_false (Nat.not_lt.2 c24)
                              try have c24b3 : (9223372036854775807 < (rdOf ByteArray.empty t202 t205).size + 2 + t207.size + 1 + (rdOf ByteArray.empty t208 (ji14)).size + 1 + t212.size + 1 + t213.size + 6) = False := eq_false (Nat.not_lt.2 (by have h_ := c24; simp only [ByteArray.size_append] at h_; exact h_))
                              simp only [Option.some.injEq, Prod.mk.injEq] at H
                              obtain ⟨rfl, rfl⟩ := H
                              go_enter Tryd.func9, Tryd.ntmps9
                              try go_wp2_with (first | ((with_reducible refine gate_callee (f := 19) rfl ?_); refine goesL_ (some 6) rfl rfl Tryd.func19 (by kernel_rfl) rfl #[.int .i64 a0] rfl (by (try simp only [List.map_toArray, List.map_cons, List.map_nil]); first | done | rfl | (simp only [List.length_drop, List.length_take]; rfl)) ?_; (with_reducible refine (impl_isStamp.calls a0 true _ A2.out).mono ?_); rintro e w' ⟨rfl, ⟨nd, rfl⟩⟩; refine ⟨_, rfl, ?_⟩) | ((with_reducible refine gate_callee (f := 20) rfl ?_); refine goesL_ (some 9) rfl rfl Tryd.func20 (by kernel_rfl) rfl #[.int .i64 a0] rfl (by (try simp only [List.map_toArray, List.map_cons, List.map_nil]); first | done | rfl | (simp only [List.length_drop, List.length_take]; rfl)) ?_; (with_reducible refine (impl_civilOf.calls k a0 t195 t196 t197 t198 t199 t200 _ A4.out).mono ?_); rintro e w25 ⟨rfl, hb⟩; refine ⟨_, rfl, ?_⟩; have n0_ := Aside0.mk (below_step (by repeat (first | (with_reducible first | exact HB.out | apply below_alloc | apply pw_below_drewN | apply below_drew1) | exact HB.out)) hb); clear HB; have HB := n0_; clear n0_; (try clear hb); (try clear hb2); (try clear hk); (try clear hi)) | ((with_reducible refine gate_dst (N := 4) rfl ?_); refine box_event ?hg (N := 4) ?hd (cs := #[.int .i64 0, .int .i64 0, .int .i64 0, .int .i64 0, .int .i64 0, .int .i64 0]) (t := 33) ?hr ?_; (case hd => rfl); (case hg => rfl); (case hr => first | (go_simp; done) | (go_simp; rfl)); intro gb201 hg w26 hbox hb; have n0_ := Aside0.mk (below_step (by repeat (first | (with_reducible first | exact HB.out | apply below_alloc | apply pw_below_drewN | apply below_drew1) | exact HB.out)) hb); have n1_ := Aside0.mk (hbox); have n2_ := Aside0.mk ((by rw [hg]; exact (below_size (by repeat (first | (with_reducible first | exact HB.out | apply below_alloc | apply pw_below_drewN | apply below_drew1) | exact HB.out))) : w.heap.size ≤ gb201)); have n3_ := Aside0.mk ((by rw [hg]; exact (below_size (by repeat (first | (with_reducible first | exact HB.out | apply below_alloc | apply pw_below_drewN | apply below_drew1) | exact HB.out))) : w.heap.size ≤ gb201)); clear HB; have HB := n0_; have BK201 := n1_; have GW201 := n2_; have GE201 := n3_; clear n0_ n1_ n2_ n3_; clear hb hbox hg; have hcz27_0 : w26.cell? ⟨gb201, 0, none⟩ = some (.int .i64 0) := (blk_cell BK201.out 0).trans rfl; have hcz27_1 : w26.cell? ⟨gb201, 1, none⟩ = some (.int .i64 0) := (blk_cell BK201.out 1).trans rfl; have hcz27_2 : w26.cell? ⟨gb201, 2, none⟩ = some (.int .i64 0) := (blk_cell BK201.out 2).trans rfl; have hcz27_3 : w26.cell? ⟨gb201, 3, none⟩ = some (.int .i64 0) := (blk_cell BK201.out 3).trans rfl; have hcz27_4 : w26.cell? ⟨gb201, 4, none⟩ = some (.int .i64 0) := (blk_cell BK201.out 4).trans rfl; have hcz27_5 : w26.cell? ⟨gb201, 5, none⟩ = some (.int .i64 0) := (blk_cell BK201.out 5).trans rfl; have hfz27_0 := blk_frozen BK201.out 0; have hfz27_1 := blk_frozen BK201.out 1; have hfz27_2 := blk_frozen BK201.out 2; have hfz27_3 := blk_frozen BK201.out 3; have hfz27_4 := blk_frozen BK201.out 4; have hfz27_5 := blk_frozen BK201.out 5))
                              have n0_ : Aside0 (((((((w26.setCell ⟨gb201, 0, none⟩ (.int .i64 t195)).setCell ⟨gb201, 1, none⟩ (.int .i64 t196)).setCell ⟨gb201, 2, none⟩ (.int .i64 t197)).setCell ⟨gb201, 3, none⟩ (.int .i64 t198)).setCell ⟨gb201, 4, none⟩ (.int .i64 t199)).setCell ⟨gb201, 5, none⟩ (.int .i64 t200)).heap[gb201]? = some (.cells #[.int .i64 t195, .int .i64 t196, .int .i64 t197, .int .i64 t198, .int .i64 t199, .int .i64 t200] 33 (0, 0))) := ⟨by (with_reducible repeat (first | refine blk_drewN ?_ _ | refine blk_drew ?_ | refine blk_alloc ?_ _)); refine blk_put (cs := #[.int .i64 t195, .int .i64 t196, .int .i64 t197, .int .i64 t198, .int .i64 t199, .int .i64 0]) ?_ 5 _ rfl; (with_reducible repeat (first | refine blk_drewN ?_ _ | refine blk_drew ?_ | refine blk_alloc ?_ _)); refine blk_put (cs := #[.int .i64 t195, .int .i64 t196, .int .i64 t197, .int .i64 t198, .int .i64 0, .int .i64 0]) ?_ 4 _ rfl; (with_reducible repeat (first | refine blk_drewN ?_ _ | refine blk_drew ?_ | refine blk_alloc ?_ _)); refine blk_put (cs := #[.int .i64 t195, .int .i64 t196, .int .i64 t197, .int .i64 0, .int .i64 0, .int .i64 0]) ?_ 3 _ rfl; (with_reducible repeat (first | refine blk_drewN ?_ _ | refine blk_drew ?_ | refine blk_alloc ?_ _)); refine blk_put (cs := #[.int .i64 t195, .int .i64 t196, .int .i64 0, .int .i64 0, .int .i64 0, .int .i64 0]) ?_ 2 _ rfl; (with_reducible repeat (first | refine blk_drewN ?_ _ | refine blk_drew ?_ | refine blk_alloc ?_ _)); refine blk_put (cs := #[.int .i64 t195, .int .i64 0, .int .i64 0, .int .i64 0, .int .i64 0, .int .i64 0]) ?_ 1 _ rfl; (with_reducible repeat (first | refine blk_drewN ?_ _ | refine blk_drew ?_ | refine blk_alloc ?_ _)); refine blk_put (cs := #[.int .i64 0, .int .i64 0, .int .i64 0, .int .i64 0, .int .i64 0, .int .i64 0]) ?_ 0 _ rfl; (with_reducible repeat (first | refine blk_drewN ?_ _ | refine blk_drew ?_ | refine blk_alloc ?_ _)); exact BK201.out⟩
                              have n1_ : Aside0 (Below w.heap.size w ((((((w26.setCell ⟨gb201, 0, none⟩ (.int .i64 t195)).setCell ⟨gb201, 1, none⟩ (.int .i64 t196)).setCell ⟨gb201, 2, none⟩ (.int .i64 t197)).setCell ⟨gb201, 3, none⟩ (.int .i64 t198)).setCell ⟨gb201, 4, none⟩ (.int .i64 t199)).setCell ⟨gb201, 5, none⟩ (.int .i64 t200))) := ⟨by repeat (first | (with_reducible first | exact HB.out | apply below_alloc | apply pw_below_drewN | apply below_drew1 | refine below_set ?_ GE201.out) | exact HB.out)⟩
                              (try clear BK201)
                              (try clear HB)
                              generalize ((((((w26.setCell ⟨gb201, 0, none⟩ (.int .i64 t195)).setCell ⟨gb201, 1, none⟩ (.int .i64 t196)).setCell ⟨gb201, 2, none⟩ (.int .i64 t197)).setCell ⟨gb201, 3, none⟩ (.int .i64 t198)).setCell ⟨gb201, 4, none⟩ (.int .i64 t199)).setCell ⟨gb201, 5, none⟩ (.int .i64 t200)) = w28 at n0_ n1_ ⊢
                              have BK201 := n0_
                              have HB := n1_
                              clear n0_ n1_
                              have n0_ := Aside0.mk (blk_drew BK201.out)
                              have n1_ := Aside0.mk (below_drew1 HB.out)
                              clear BK201
                              clear HB
                              have BK201 := n0_
                              have HB := n1_
                              clear n0_ n1_
                              refine start_ (n := 30) (S := fun w' => w'.cell? ⟨gb201, 0, none⟩ = some (.int .i64 t195) ∧ w'.cell? ⟨gb201, 1, none⟩ = some (.int .i64 t196) ∧ w'.cell? ⟨gb201, 2, none⟩ = some (.int .i64 t197) ∧ w'.cell? ⟨gb201, 3, none⟩ = some (.int .i64 t198) ∧ w'.cell? ⟨gb201, 4, none⟩ = some (.int .i64 t199) ∧ w'.cell? ⟨gb201, 5, none⟩ = some (.int .i64 t200) ∧ True ∧ True) (ds := []) #[false, false, false, false, false, false, false, false, false, false, false, false, false, false, false, false, false, false, false, false, false, false, false, false, false, false, false, false, false, false] (by kernel_rfl) rfl rfl ⟨(blk_cell BK201.out 0).trans rfl, (blk_cell BK201.out 1).trans rfl, (blk_cell BK201.out 2).trans rfl, (blk_cell BK201.out 3).trans rfl, (blk_cell BK201.out 4).trans rfl, (blk_cell BK201.out 5).trans rfl, trivial, trivial⟩ (fun hHeld => ?_); refine with_tabW impl_Rfc822Text.tab4 impl_Rfc822Text.bits4 (fun HT_ HW_ => ?_)
                              generalize w28.drew = w29 at BK201 HB hHeld ⊢
                              refine pure_ (i := 1) (N := some 11) (v := ?_) (a' := ?_) #[false, true, false, false, false, false, false, false, false, false, false, false, false, false, false, false, false, false, false, false, false, false, false, false, false, false, false, false, false, false] rfl rfl (any_of HT_.out (by kernel_rfl)) (fun _ _ _ h => h) (Or.inl ⟨by rfl, ?_⟩) ?_ ?_
                              rotate_left
                              · intro w'
                                go_simp
                                with_reducible rfl
                              rotate_left
                              · simp only [Act.put, List.setIfInBounds_toArray, List.set_cons_zero, List.set_cons_succ, i64_w, i32_w]
                                rfl
                              refine pure_ (i := 6) (N := some 16) (v := ?_) (a' := ?_) #[false, true, false, false, false, false, true, false, false, false, false, false, false, false, false, false, false, false, false, false, false, false, false, false, false, false, false, false, false, false] rfl rfl (any_of HT_.out (by kernel_rfl)) (fun _ _ _ h => h) (Or.inl ⟨by rfl, ?_⟩) ?_ ?_
                              rotate_left
                              · intro w'
                                go_simp
                                with_reducible rfl
                              rotate_left
                              · simp only [Act.put, List.setIfInBounds_toArray, List.set_cons_zero, List.set_cons_succ, i64_w, i32_w]
                                rfl
                              refine pure_ (i := 12) (N := some 22) (v := ?_) (a' := ?_) #[false, true, false, false, false, false, true, false, false, false, false, false, true, false, false, false, false, false, false, false, false, false, false, false, false, false, false, false, false, false] rfl rfl (any_of HT_.out (by kernel_rfl)) (fun _ _ _ h => h) (Or.inl ⟨by rfl, ?_⟩) ?_ ?_
                              rotate_left
                              · intro w'
                                go_simp
                                with_reducible rfl
                              rotate_left
                              · simp only [Act.put, List.setIfInBounds_toArray, List.set_cons_zero, List.set_cons_succ, i64_w, i32_w]
                                rfl
                              refine pure_ (i := 19) (N := some 29) (v := ?_) (a' := ?_) #[false, true, false, false, false, false, true, false, false, false, false, false, true, false, false, false, false, false, false, true, false, false, false, false, false, false, false, false, false, false] rfl rfl (any_of HT_.out (by kernel_rfl)) (fun _ _ _ h => h) (Or.inl ⟨by rfl, ?_⟩) ?_ ?_
                              rotate_left
                              · intro w'
                                go_simp
                                with_reducible rfl
                              rotate_left
                              · simp only [Act.put, List.setIfInBounds_toArray, List.set_cons_zero, List.set_cons_succ, i64_w, i32_w]
                                rfl
                              refine take_ (i := 7) (N := some 17) (v := ?_) (a' := ?_) #[false, true, false, false, false, false, true, true, false, false, false, false, true, false, false, false, false, false, false, true, false, false, false, false, false, false, false, false, false, false] rfl rfl (take_ofW HT_.out HW_.out (by kernel_rfl)) (fun _ _ _ h => h) (Or.inl ⟨by rfl, ?_⟩) hHeld ?_ ?_
                              rotate_left
                              · rintro w' ⟨s0, s1, s2, s3, s4, s5, s6, s7⟩
                                go_simp
                                with_reducible rfl
                              rotate_left
                              · simp only [Act.put, List.setIfInBounds_toArray, List.set_cons_zero, List.set_cons_succ, i64_w, i32_w]
                                rfl
                              refine take_ (i := 13) (N := some 23) (v := ?_) (a' := ?_) #[false, true, false, false, false, false, true, true, false, false, false, false, true, true, false, false, false, false, false, true, false, false, false, false, false, false, false, false, false, false] rfl rfl (take_ofW HT_.out HW_.out (by kernel_rfl)) (fun _ _ _ h => h) (Or.inl ⟨by rfl, ?_⟩) hHeld ?_ ?_
                              rotate_left
                              · rintro w' ⟨s0, s1, s2, s3, s4, s5, s6, s7⟩
                                go_simp
                                with_reducible rfl
                              rotate_left
                              · simp only [Act.put, List.setIfInBounds_toArray, List.set_cons_zero, List.set_cons_succ, i64_w, i32_w]
                                rfl
                              refine pure_ (i := 14) (N := some 24) (v := ?_) (a' := ?_) #[false, true, false, false, false, false, true, true, false, false, false, false, true, true, true, false, false, false, false, true, false, false, false, false, false, false, false, false, false, false] rfl rfl (any_of HT_.out (by kernel_rfl)) (fun _ _ _ h => h) (Or.inl ⟨by rfl, ?_⟩) ?_ ?_
                              rotate_left
                              · intro w'
                                go_simp
                                with_reducible rfl
                              rotate_left
                              · simp only [Act.put, List.setIfInBounds_toArray, List.set_cons_zero, List.set_cons_succ, i64_w, i32_w]
                                rfl
                              refine take_ (i := 20) (N := some 30) (v := ?_) (a' := ?_) #[false, true, false, false, false, false, true, true, false, false, false, false, true, true, true, false, false, false, false, true, true, false, false, false, false, false, false, false, false, false] rfl rfl (take_ofW HT_.out HW_.out (by kernel_rfl)) (fun _ _ _ h => h) (Or.inl ⟨by rfl, ?_⟩) hHeld ?_ ?_
                              rotate_left
                              · rintro w' ⟨s0, s1, s2, s3, s4, s5, s6, s7⟩
                                go_simp
                                with_reducible rfl
                              rotate_left
                              · simp only [Act.put, List.setIfInBounds_toArray, List.set_cons_zero, List.set_cons_succ, i64_w, i32_w]
                                rfl
                              refine take_ (i := 24) (N := some 34) (v := ?_) (a' := ?_) #[false, true, false, false, false, false, true, true, false, false, false, false, true, true, true, false, false, false, false, true, true, false, false, false, true, false, false, false, false, false] rfl rfl (take_ofW HT_.out HW_.out (by kernel_rfl)) (fun _ _ _ h => h) (Or.inl ⟨by rfl, ?_⟩) hHeld ?_ ?_
                              rotate_left
                              · rintro w' ⟨s0, s1, s2, s3, s4, s5, s6, s7⟩
                                go_simp
                                with_reducible rfl
                              rotate_left
                              · simp only [Act.put, List.setIfInBounds_toArray, List.set_cons_zero, List.set_cons_succ, i64_w, i32_w]
                                rfl
                              refine one_ (i := 0) (N := some 10) #[true, true, false, false, false, false, true, true, false, false, false, false, true, true, true, false, false, false, false, true, true, false, false, false, true, false, false, false, false, false] rfl rfl (one_of HT_.out (by kernel_rfl)) (by decide) (fun K hK => ?_)
                              refine goes_ Tryd.func25 (by kernel_rfl) rfl #[] (by rfl) rfl rfl (by (try simp only [List.map_toArray, List.map_cons, List.map_nil]); first | done | rfl | (simp only [List.length_drop, List.length_take]; rfl)) ?_
                              with_reducible refine (impl_weekdays.calls  t202 _ A5.out).mono ?_
                              rintro e w30 ⟨v203, rfl, ho0, hb⟩
                              have HS6_ := trivial
                              have HS7_ := trivial
                              refine ⟨_, rfl, ?_⟩
                              have n0_ := Aside0.mk (Kd.R_lower ho0 (below_size (by repeat (first | (with_reducible first | exact HB.out | apply below_alloc | apply pw_below_drewN | apply below_drew1 | refine below_set ?_ GE201.out) | exact HB.out))))
                              have n1_ := Aside0.mk (blk_below (g := gb201) (o := .cells #[.int .i64 t195, .int .i64 t196, .int .i64 t197, .int .i64 t198, .int .i64 t199, .int .i64 t200] 33 (0, 0)) (by (with_reducible repeat (first | refine blk_drewN ?_ _ | refine blk_drew ?_ | refine blk_alloc ?_ _)); exact BK201.out) hb)
                              have n2_ := Aside0.mk (below_step (by repeat (first | (with_reducible first | exact HB.out | apply below_alloc | apply pw_below_drewN | apply below_drew1 | refine below_set ?_ GE201.out) | exact HB.out)) hb)
                              clear BK201
                              clear HB
                              have HO204 := n0_
                              have BK201 := n1_
                              have HB := n2_
                              clear n0_ n1_ n2_
                              (try clear hb)
                              (try clear hb2)
                              (try clear hk)
                              (try clear hi)
                              (try clear ho0)
                              refine hK.out _ _ ⟨(blk_cell BK201.out 0).trans rfl, (blk_cell BK201.out 1).trans rfl, (blk_cell BK201.out 2).trans rfl, (blk_cell BK201.out 3).trans rfl, (blk_cell BK201.out 4).trans rfl, (blk_cell BK201.out 5).trans rfl, HS6_, HS7_⟩ (fun hHeld => ?_)
                              clear hK K
                              refine norm_ (a' := ?_) ?_ ?_
                              rotate_left
                              · show Act.put _ (some 10) _ = _
                                simp only [Act.put, List.setIfInBounds_toArray, List.set_cons_zero, List.set_cons_succ, i64_w, i32_w]
                                rfl
                              refine one_ (i := 2) (N := some 12) #[true, true, true, false, false, false, true, true, false, false, false, false, true, true, true, false, false, false, false, true, true, false, false, false, true, false, false, false, false, false] rfl rfl (one_of HT_.out (by kernel_rfl)) (by decide) (fun K hK => ?_)
                              refine goes_ Tryd.func26 (by kernel_rfl) rfl #[.int .i64 a0] (by rfl) rfl rfl (by (try simp only [List.map_toArray, List.map_cons, List.map_nil]); first | done | rfl | (simp only [List.length_drop, List.length_take]; rfl)) ?_
                              with_reducible refine (impl_weekday.calls a0 t205 _ A6.out).mono ?_
                              rintro e w' ⟨rfl, ⟨nd, rfl⟩⟩
                              refine ⟨_, rfl, ?_⟩
                              obtain ⟨Ao31, co31, eo31⟩ := Kd.R_slice HO204.out
                              (first | subst eo31 | (injection eo31 with f1_ f2_ f3_; have f4_ := f1_.symm; have f5_ := f3_.symm; clear f1_ f2_ f3_; subst f4_; subst f5_))
                              have p206 : 0 ≤ (t205 : Int) := of_decide_eq_true (by first | (with_reducible assumption) | assumption)
                              have q206 : t205 < (t202.length : Int) := of_decide_eq_true (by first | (with_reducible assumption) | assumption)
                              obtain ⟨ad206, e206, hx206_0⟩ := Kd.at_string (Kd.R_reads' HO204.out).2.2 t205 p206 q206
                              cases e206
                              replace p206 := eq_true p206
                              replace q206 := eq_true q206
                              refine hK.out _ _ ⟨(blk_cell BK201.out 0).trans rfl, (blk_cell BK201.out 1).trans rfl, (blk_cell BK201.out 2).trans rfl, (blk_cell BK201.out 3).trans rfl, (blk_cell BK201.out 4).trans rfl, (blk_cell BK201.out 5).trans rfl, hHeld.2.2.2.2.2.2.1, hHeld.2.2.2.2.2.2.2⟩ (fun hHeld => ?_)
                              refine strong_ (fun w' => w'.cell? ⟨gb201, 0, none⟩ = some (.int .i64 t195) ∧ w'.cell? ⟨gb201, 1, none⟩ = some (.int .i64 t196) ∧ w'.cell? ⟨gb201, 2, none⟩ = some (.int .i64 t197) ∧ w'.cell? ⟨gb201, 3, none⟩ = some (.int .i64 t198) ∧ w'.cell? ⟨gb201, 4, none⟩ = some (.int .i64 t199) ∧ w'.cell? ⟨gb201, 5, none⟩ = some (.int .i64 t200) ∧ w'.cell? (ad206.add (t205).toNat) = some (.string (rdOf ByteArray.empty t202 t205)) ∧ True) (fun w' h_ => ⟨h_.1, h_.2.1, h_.2.2.1, h_.2.2.2.1, h_.2.2.2.2.1, h_.2.2.2.2.2.1, trivial, trivial⟩) ⟨hHeld.1, hHeld.2.1, hHeld.2.2.1, hHeld.2.2.2.1, hHeld.2.2.2.2.1, hHeld.2.2.2.2.2.1, by first | exact hx206_0 | (rw [World.cell?_drewN]; exact hx206_0) | simpa using hx206_0, trivial⟩ (fun hHeld => ?_)
                              clear hK K
                              refine norm_ (a' := ?_) ?_ ?_
                              rotate_left
                              · show Act.put _ (some 12) _ = _
                                simp only [Act.put, List.setIfInBounds_toArray, List.set_cons_zero, List.set_cons_succ, i64_w, i32_w]
                                rfl
                              refine pure_ (i := 3) (N := some 13) (v := ?_) (a' := ?_) #[true, true, true, true, false, false, true, true, false, false, false, false, true, true, true, false, false, false, false, true, true, false, false, false, true, false, false, false, false, false] rfl rfl (any_of HT_.out (by kernel_rfl)) (fun _ _ _ h => h) (Or.inl ⟨by rfl, ?_⟩) ?_ ?_
                              rotate_left
                              · intro w'
                                go_simp
                                with_reducible rfl
                              rotate_left
                              · simp only [Act.put, List.setIfInBounds_toArray, List.set_cons_zero, List.set_cons_succ, i64_w, i32_w]
                                rfl
                              refine take_ (i := 4) (N := some 14) (v := ?_) (a' := ?_) #[true, true, true, true, true, false, true, true, false, false, false, false, true, true, true, false, false, false, false, true, true, false, false, false, true, false, false, false, false, false] rfl rfl (take_ofW HT_.out HW_.out (by kernel_rfl)) (fun _ _ _ h => h) (Or.inl ⟨by rfl, ?_⟩) hHeld ?_ ?_
                              rotate_left
                              · rintro w' ⟨s0, s1, s2, s3, s4, s5, s6, s7⟩
                                go_simp
                                with_reducible rfl
                              rotate_left
                              · simp only [Act.put, List.setIfInBounds_toArray, List.set_cons_zero, List.set_cons_succ, i64_w, i32_w]
                                rfl
                              refine pure_ (i := 5) (N := some 15) (v := ?_) (a' := ?_) #[true, true, true, true, true, true, true, true, false, false, false, false, true, true, true, false, false, false, false, true, true, false, false, false, true, false, false, false, false, false] rfl rfl (any_of HT_.out (by kernel_rfl)) (fun _ _ _ h => h) (Or.inl ⟨by rfl, ?_⟩) ?_ ?_
                              rotate_left
                              · intro w'
                                go_simp
                                with_reducible rfl
                              rotate_left
                              · simp only [Act.put, List.setIfInBounds_toArray, List.set_cons_zero, List.set_cons_succ, i64_w, i32_w]
                                rfl
                              refine one_ (i := 8) (N := some 18) #[true, true, true, true, true, true, true, true, true, false, false, false, true, true, true, false, false, false, false, true, true, false, false, false, true, false, false, false, false, false] rfl rfl (one_of HT_.out (by kernel_rfl)) (by decide) (fun K hK => ?_)
                              refine goes_ Tryd.func22 (by kernel_rfl) rfl #[.int .i64 t197] (by rfl) rfl rfl (by (try simp only [List.map_toArray, List.map_cons, List.map_nil]); first | done | rfl | (simp only [List.length_drop, List.length_take]; rfl)) ?_
                              with_reducible refine (impl_two.calls t197 t207 _ A10.out).mono ?_
                              rintro e w32 ⟨rfl, hb⟩
                              have HS6_ := (hb.cell (World.block_lt_of_cell? _ _ (hHeld.2.2.2.2.2.2.1))).trans (hHeld.2.2.2.2.2.2.1)
                              have HS7_ := trivial
                              refine ⟨_, rfl, ?_⟩
                              have n0_ := Aside0.mk (Kd.R_below (by (with_reducible repeat (first | apply Kd.R_alloc | apply Kd.R_drewN | apply Kd.R_drew)); exact HO204.out) hb)
                              have n1_ := Aside0.mk (blk_below (g := gb201) (o := .cells #[.int .i64 t195, .int .i64 t196, .int .i64 t197, .int .i64 t198, .int .i64 t199, .int .i64 t200] 33 (0, 0)) (by (with_reducible repeat (first | refine blk_drewN ?_ _ | refine blk_drew ?_ | refine blk_alloc ?_ _)); exact BK201.out) hb)
                              have n2_ := Aside0.mk (below_step (by repeat (first | (with_reducible first | exact HB.out | apply below_alloc | apply pw_below_drewN | apply below_drew1 | refine below_set ?_ GE201.out) | exact HB.out)) hb)
                              clear HO204
                              clear BK201
                              clear HB
                              have HO204 := n0_
                              have BK201 := n1_
                              have HB := n2_
                              clear n0_ n1_ n2_
                              (try clear hb)
                              (try clear hb2)
                              (try clear hk)
                              (try clear hi)
                              refine hK.out _ _ ⟨(blk_cell BK201.out 0).trans rfl, (blk_cell BK201.out 1).trans rfl, (blk_cell BK201.out 2).trans rfl, (blk_cell BK201.out 3).trans rfl, (blk_cell BK201.out 4).trans rfl, (blk_cell BK201.out 5).trans rfl, HS6_, HS7_⟩ (fun hHeld => ?_)
                              clear hK K
                              refine norm_ (a' := ?_) ?_ ?_
                              rotate_left
                              · show Act.put _ (some 18) _ = _
                                simp only [Act.put, List.setIfInBounds_toArray, List.set_cons_zero, List.set_cons_succ, i64_w, i32_w]
                                rfl
                              refine pure_ (i := 9) (N := some 19) (v := ?_) (a' := ?_) #[true, true, true, true, true, true, true, true, true, true, false, false, true, true, true, false, false, false, false, true, true, false, false, false, true, false, false, false, false, false] rfl rfl (any_of HT_.out (by kernel_rfl)) (fun _ _ _ h => h) (Or.inl ⟨by rfl, ?_⟩) ?_ ?_
                              rotate_left
                              · intro w'
                                go_simp
                                with_reducible rfl
                              rotate_left
                              · simp only [Act.put, List.setIfInBounds_toArray, List.set_cons_zero, List.set_cons_succ, i64_w, i32_w]
                                rfl
                              refine pure_ (i := 10) (N := some 20) (v := ?_) (a' := ?_) #[true, true, true, true, true, true, true, true, true, true, true, false, true, true, true, false, false, false, false, true, true, false, false, false, true, false, false, false, false, false] rfl rfl (any_of HT_.out (by kernel_rfl)) (fun _ _ _ h => h) (Or.inl ⟨by rfl, ?_⟩) ?_ ?_
                              rotate_left
                              · intro w'
                                go_simp
                                with_reducible rfl
                              rotate_left
                              · simp only [Act.put, List.setIfInBounds_toArray, List.set_cons_zero, List.set_cons_succ, i64_w, i32_w]
                                rfl
                              refine one_ (i := 11) (N := some 21) #[true, true, true, true, true, true, true, true, true, true, true, true, true, true, true, false, false, false, false, true, true, false, false, false, true, false, false, false, false, false] rfl rfl (one_of HT_.out (by kernel_rfl)) (by decide) (fun K hK => ?_)
                              refine goes_ Tryd.func27 (by kernel_rfl) rfl #[] (by rfl) rfl rfl (by (try simp only [List.map_toArray, List.map_cons, List.map_nil]); first | done | rfl | (simp only [List.length_drop, List.length_take]; rfl)) ?_
                              with_reducible refine (impl_months.calls  t208 _ A13.out).mono ?_
                              rintro e w33 ⟨v209, rfl, ho0, hb⟩
                              have HS6_ := (hb.cell (World.block_lt_of_cell? _ _ (hHeld.2.2.2.2.2.2.1))).trans (hHeld.2.2.2.2.2.2.1)
                              have HS7_ := trivial
                              refine ⟨_, rfl, ?_⟩
                              have n0_ := Aside0.mk (Kd.R_elder' (by (with_reducible repeat (first | apply Kd.R_alloc | apply Kd.R_drewN | apply Kd.R_drew)); exact HO204.out) (Kd.R_base ho0) hb)
                              have n1_ := Aside0.mk (Kd.R_lower (Kd.R_new' ho0 (Kd.R_lt (by (with_reducible repeat (first | apply Kd.R_alloc | apply Kd.R_drewN | apply Kd.R_drew)); exact HO204.out))) (below_size (by repeat (first | (with_reducible first | exact HB.out | apply below_alloc | apply pw_below_drewN | apply below_drew1 | refine below_set ?_ GE201.out) | exact HB.out))))
                              have n2_ := Aside0.mk (blk_below (g := gb201) (o := .cells #[.int .i64 t195, .int .i64 t196, .int .i64 t197, .int .i64 t198, .int .i64 t199, .int .i64 t200] 33 (0, 0)) (by (with_reducible repeat (first | refine blk_drewN ?_ _ | refine blk_drew ?_ | refine blk_alloc ?_ _)); exact BK201.out) hb)
                              have n3_ := Aside0.mk (below_step (by repeat (first | (with_reducible first | exact HB.out | apply below_alloc | apply pw_below_drewN | apply below_drew1 | refine below_set ?_ GE201.out) | exact HB.out)) hb)
                              clear HO204
                              clear BK201
                              clear HB
                              have HO204 := n0_
                              have HO210 := n1_
                              have BK201 := n2_
                              have HB := n3_
                              clear n0_ n1_ n2_ n3_
                              (try clear hb)
                              (try clear hb2)
                              (try clear hk)
                              (try clear hi)
                              (try clear ho0)
                              obtain ⟨Ao34, co34, eo34⟩ := Kd.R_slice HO210.out
                              (first | subst eo34 | (injection eo34 with f1_ f2_ f3_; have f4_ := f1_.symm; have f5_ := f3_.symm; clear f1_ f2_ f3_; subst f4_; subst f5_))
                              have p211 : 0 ≤ ((ji14) : Int) := of_decide_eq_true (by first | (with_reducible assumption) | assumption)
                              have q211 : (ji14) < (t208.length : Int) := of_decide_eq_true (by first | (with_reducible assumption) | assumption)
                              obtain ⟨ad211, e211, hx211_0⟩ := Kd.at_string (Kd.R_reads' HO210.out).2.2 (ji14) p211 q211
                              cases e211
                              replace p211 := eq_true p211
                              replace q211 := eq_true q211
                              refine hK.out _ _ ⟨(blk_cell BK201.out 0).trans rfl, (blk_cell BK201.out 1).trans rfl, (blk_cell BK201.out 2).trans rfl, (blk_cell BK201.out 3).trans rfl, (blk_cell BK201.out 4).trans rfl, (blk_cell BK201.out 5).trans rfl, HS6_, HS7_⟩ (fun hHeld => ?_)
                              refine strong_ (fun w' => w'.cell? ⟨gb201, 0, none⟩ = some (.int .i64 t195) ∧ w'.cell? ⟨gb201, 1, none⟩ = some (.int .i64 t196) ∧ w'.cell? ⟨gb201, 2, none⟩ = some (.int .i64 t197) ∧ w'.cell? ⟨gb201, 3, none⟩ = some (.int .i64 t198) ∧ w'.cell? ⟨gb201, 4, none⟩ = some (.int .i64 t199) ∧ w'.cell? ⟨gb201, 5, none⟩ = some (.int .i64 t200) ∧ w'.cell? (ad206.add (t205).toNat) = some (.string (rdOf ByteArray.empty t202 t205)) ∧ w'.cell? (ad211.add ((ji14)).toNat) = some (.string (rdOf ByteArray.empty t208 (ji14)))) (fun w' h_ => ⟨h_.1, h_.2.1, h_.2.2.1, h_.2.2.2.1, h_.2.2.2.2.1, h_.2.2.2.2.2.1, h_.2.2.2.2.2.2.1, trivial⟩) ⟨hHeld.1, hHeld.2.1, hHeld.2.2.1, hHeld.2.2.2.1, hHeld.2.2.2.2.1, hHeld.2.2.2.2.2.1, hHeld.2.2.2.2.2.2.1, by first | exact hx211_0 | (rw [World.cell?_drewN]; exact hx211_0) | simpa using hx211_0⟩ (fun hHeld => ?_)
                              clear hK K
                              refine norm_ (a' := ?_) ?_ ?_
                              rotate_left
                              · show Act.put _ (some 21) _ = _
                                simp only [Act.put, List.setIfInBounds_toArray, List.set_cons_zero, List.set_cons_succ, i64_w, i32_w]
                                rfl
                              refine pure_ (i := 15) (N := some 25) (v := ?_) (a' := ?_) #[true, true, true, true, true, true, true, true, true, true, true, true, true, true, true, true, false, false, false, true, true, false, false, false, true, false, false, false, false, false] rfl rfl (any_of HT_.out (by kernel_rfl)) (fun _ _ _ h => h) (Or.inl ⟨by rfl, ?_⟩) ?_ ?_
                              rotate_left
                              · intro w'
                                go_simp
                                with_reducible rfl
                              rotate_left
                              · simp only [Act.put, List.setIfInBounds_toArray, List.set_cons_zero, List.set_cons_succ, i64_w, i32_w]
                                rfl
                              refine take_ (i := 16) (N := some 26) (v := ?_) (a' := ?_) #[true, true, true, true, true, true, true, true, true, true, true, true, true, true, true, true, true, false, false, true, true, false, false, false, true, false, false, false, false, false] rfl rfl (take_ofW HT_.out HW_.out (by kernel_rfl)) (fun _ _ _ h => h) (Or.inl ⟨by rfl, ?_⟩) hHeld ?_ ?_
                              rotate_left
                              · rintro w' ⟨s0, s1, s2, s3, s4, s5, s6, s7⟩
                                go_simp
                                with_reducible rfl
                              rotate_left
                              · simp only [Act.put, List.setIfInBounds_toArray, List.set_cons_zero, List.set_cons_succ, i64_w, i32_w]
                                rfl
                              refine pure_ (i := 17) (N := some 27) (v := ?_) (a' := ?_) #[true, true, true, true, true, true, true, true, true, true, true, true, true, true, true, true, true, true, false, true, true, false, false, false, true, false, false, false, false, false] rfl rfl (any_of HT_.out (by kernel_rfl)) (fun _ _ _ h => h) (Or.inl ⟨by rfl, ?_⟩) ?_ ?_
                              rotate_left
                              · intro w'
                                go_simp
                                with_reducible rfl
                              rotate_left
                              · simp only [Act.put, List.setIfInBounds_toArray, List.set_cons_zero, List.set_cons_succ, i64_w, i32_w]
                                rfl
                              refine pure_ (i := 18) (N := some 28) (v := ?_) (a' := ?_) #[true, true, true, true, true, true, true, true, true, true, true, true, true, true, true, true, true, true, true, true, true, false, false, false, true, false, false, false, false, false] rfl rfl (any_of HT_.out (by kernel_rfl)) (fun _ _ _ h => h) (Or.inl ⟨by rfl, ?_⟩) ?_ ?_
                              rotate_left
                              · intro w'
                                go_simp
                                with_reducible rfl
                              rotate_left
                              · simp only [Act.put, List.setIfInBounds_toArray, List.set_cons_zero, List.set_cons_succ, i64_w, i32_w]
                                rfl
                              refine one_ (i := 21) (N := some 31) #[true, true, true, true, true, true, true, true, true, true, true, true, true, true, true, true, true, true, true, true, true, true, false, false, true, false, false, false, false, false] rfl rfl (one_of HT_.out (by kernel_rfl)) (by decide) (fun K hK => ?_)
                              refine goes_ Tryd.func21 (by kernel_rfl) rfl #[.int .i64 t195] (by rfl) rfl rfl (by (try simp only [List.map_toArray, List.map_cons, List.map_nil]); first | done | rfl | (simp only [List.length_drop, List.length_take]; rfl)) ?_
                              with_reducible refine (strconv_Itoa.calls t195 t212 _ A19.out (Glob.of_below HG.out (by repeat (first | (with_reducible first | exact HB.out | apply below_alloc | apply pw_below_drewN | apply below_drew1) | exact HB.out)))).mono ?_
                              rintro e w35 ⟨rfl, hb⟩
                              have HS6_ := (hb.cell (World.block_lt_of_cell? _ _ (hHeld.2.2.2.2.2.2.1))).trans (hHeld.2.2.2.2.2.2.1)
                              have HS7_ := (hb.cell (World.block_lt_of_cell? _ _ (hHeld.2.2.2.2.2.2.2))).trans (hHeld.2.2.2.2.2.2.2)
                              refine ⟨_, rfl, ?_⟩
                              have n0_ := Aside0.mk (Kd.R_below (by (with_reducible repeat (first | apply Kd.R_alloc | apply Kd.R_drewN | apply Kd.R_drew)); exact HO204.out) hb)
                              have n1_ := Aside0.mk (Kd.R_below (by (with_reducible repeat (first | apply Kd.R_alloc | apply Kd.R_drewN | apply Kd.R_drew)); exact HO210.out) hb)
                              have n2_ := Aside0.mk (blk_below (g := gb201) (o := .cells #[.int .i64 t195, .int .i64 t196, .int .i64 t197, .int .i64 t198, .int .i64 t199, .int .i64 t200] 33 (0, 0)) (by (with_reducible repeat (first | refine blk_drewN ?_ _ | refine blk_drew ?_ | refine blk_alloc ?_ _)); exact BK201.out) hb)
                              have n3_ := Aside0.mk (below_step (by repeat (first | (with_reducible first | exact HB.out | apply below_alloc | apply pw_below_drewN | apply below_drew1 | refine below_set ?_ GE201.out) | exact HB.out)) hb)
                              clear HO204
                              clear HO210
                              clear BK201
                              clear HB
                              have HO204 := n0_
                              have HO210 := n1_
                              have BK201 := n2_
                              have HB := n3_
                              clear n0_ n1_ n2_ n3_
                              (try clear hb)
                              (try clear hb2)
                              (try clear hk)
                              (try clear hi)
                              refine hK.out _ _ ⟨(blk_cell BK201.out 0).trans rfl, (blk_cell BK201.out 1).trans rfl, (blk_cell BK201.out 2).trans rfl, (blk_cell BK201.out 3).trans rfl, (blk_cell BK201.out 4).trans rfl, (blk_cell BK201.out 5).trans rfl, HS6_, HS7_⟩ (fun hHeld => ?_)
                              clear hK K
                              refine norm_ (a' := ?_) ?_ ?_
                              rotate_left
                              · show Act.put _ (some 31) _ = _
                                simp only [Act.put, List.setIfInBounds_toArray, List.set_cons_zero, List.set_cons_succ, i64_w, i32_w]
                                rfl
                              refine pure_ (i := 22) (N := some 32) (v := ?_) (a' := ?_) #[true, true, true, true, true, true, true, true, true, true, true, true, true, true, true, true, true, true, true, true, true, true, true, false, true, false, false, false, false, false] rfl rfl (any_of HT_.out (by kernel_rfl)) (fun _ _ _ h => h) (Or.inl ⟨by rfl, ?_⟩) ?_ ?_
                              rotate_left
                              · intro w'
                                go_simp
                                with_reducible rfl
                              rotate_left
                              · simp only [Act.put, List.setIfInBounds_toArray, List.set_cons_zero, List.set_cons_succ, i64_w, i32_w]
                                rfl
                              refine pure_ (i := 23) (N := some 33) (v := ?_) (a' := ?_) #[true, true, true, true, true, true, true, true, true, true, true, true, true, true, true, true, true, true, true, true, true, true, true, true, true, false, false, false, false, false] rfl rfl (any_of HT_.out (by kernel_rfl)) (fun _ _ _ h => h) (Or.inl ⟨by rfl, ?_⟩) ?_ ?_
                              rotate_left
                              · intro w'
                                go_simp
                                with_reducible rfl
                              rotate_left
                              · simp only [Act.put, List.setIfInBounds_toArray, List.set_cons_zero, List.set_cons_succ, i64_w, i32_w]
                                rfl
                              refine one_ (i := 25) (N := some 35) #[true, true, true, true, true, true, true, true, true, true, true, true, true, true, true, true, true, true, true, true, true, true, true, true, true, true, false, false, false, false] rfl rfl (one_of HT_.out (by kernel_rfl)) (by decide) (fun K hK => ?_)
                              refine goes_ Tryd.func23 (by kernel_rfl) rfl #[.agg #[.int .i64 t195, .int .i64 t196, .int .i64 t197, .int .i64 t198, .int .i64 t199, .int .i64 t200]] (by rfl) rfl rfl (by (try simp only [List.map_toArray, List.map_cons, List.map_nil]); first | done | rfl | (simp only [List.length_drop, List.length_take]; rfl)) ?_
                              with_reducible refine (impl_Civil_clock.calls t195 t196 t197 t198 t199 t200 t213 _ A22.out).mono ?_
                              rintro e w36 ⟨rfl, hb⟩
                              have HS6_ := (hb.cell (World.block_lt_of_cell? _ _ (hHeld.2.2.2.2.2.2.1))).trans (hHeld.2.2.2.2.2.2.1)
                              have HS7_ := (hb.cell (World.block_lt_of_cell? _ _ (hHeld.2.2.2.2.2.2.2))).trans (hHeld.2.2.2.2.2.2.2)
                              refine ⟨_, rfl, ?_⟩
                              have n0_ := Aside0.mk (Kd.R_below (by (with_reducible repeat (first | apply Kd.R_alloc | apply Kd.R_drewN | apply Kd.R_drew)); exact HO204.out) hb)
                              have n1_ := Aside0.mk (Kd.R_below (by (with_reducible repeat (first | apply Kd.R_alloc | apply Kd.R_drewN | apply Kd.R_drew)); exact HO210.out) hb)
                              have n2_ := Aside0.mk (blk_below (g := gb201) (o := .cells #[.int .i64 t195, .int .i64 t196, .int .i64 t197, .int .i64 t198, .int .i64 t199, .int .i64 t200] 33 (0, 0)) (by (with_reducible repeat (first | refine blk_drewN ?_ _ | refine blk_drew ?_ | refine blk_alloc ?_ _)); exact BK201.out) hb)
                              have n3_ := Aside0.mk (below_step (by repeat (first | (with_reducible first | exact HB.out | apply below_alloc | apply pw_below_drewN | apply below_drew1 | refine below_set ?_ GE201.out) | exact HB.out)) hb)
                              clear HO204
                              clear HO210
                              clear BK201
                              clear HB
                              have HO204 := n0_
                              have HO210 := n1_
                              have BK201 := n2_
                              have HB := n3_
                              clear n0_ n1_ n2_ n3_
                              (try clear hb)
                              (try clear hb2)
                              (try clear hk)
                              (try clear hi)
                              refine hK.out _ _ ⟨(blk_cell BK201.out 0).trans rfl, (blk_cell BK201.out 1).trans rfl, (blk_cell BK201.out 2).trans rfl, (blk_cell BK201.out 3).trans rfl, (blk_cell BK201.out 4).trans rfl, (blk_cell BK201.out 5).trans rfl, HS6_, HS7_⟩ (fun hHeld => ?_)
                              clear hK K
                              refine norm_ (a' := ?_) ?_ ?_
                              rotate_left
                              · show Act.put _ (some 35) _ = _
                                simp only [Act.put, List.setIfInBounds_toArray, List.set_cons_zero, List.set_cons_succ, i64_w, i32_w]
                                rfl
                              refine pure_ (i := 26) (N := some 36) (v := ?_) (a' := ?_) #[true, true, true, true, true, true, true, true, true, true, true, true, true, true, true, true, true, true, true, true, true, true, true, true, true, true, true, false, false, false] rfl rfl (any_of HT_.out (by kernel_rfl)) (fun _ _ _ h => h) (Or.inl ⟨by rfl, ?_⟩) ?_ ?_
                              rotate_left
                              · intro w'
                                go_simp
                                with_reducible rfl
                              rotate_left
                              · simp only [Act.put, List.setIfInBounds_toArray, List.set_cons_zero, List.set_cons_succ, i64_w, i32_w]
                                rfl
                              refine pure_ (i := 27) (N := some 37) (v := ?_) (a' := ?_) #[true, true, true, true, true, true, true, true, true, true, true, true, true, true, true, true, true, true, true, true, true, true, true, true, true, true, true, true, false, false] rfl rfl (any_of HT_.out (by kernel_rfl)) (fun _ _ _ h => h) (Or.inl ⟨by rfl, ?_⟩) ?_ ?_
                              rotate_left
                              · intro w'
                                go_simp
                                with_reducible rfl
                              rotate_left
                              · simp only [Act.put, List.setIfInBounds_toArray, List.set_cons_zero, List.set_cons_succ, i64_w, i32_w]
                                rfl
                              refine pure_ (i := 28) (N := some 2) (v := ?_) (a' := ?_) #[true, true, true, true, true, true, true, true, true, true, true, true, true, true, true, true, true, true, true, true, true, true, true, true, true, true, true, true, true, false] rfl rfl (any_of HT_.out (by kernel_rfl)) (fun _ _ _ h => h) (Or.inl ⟨by rfl, ?_⟩) ?_ ?_
                              rotate_left
                              · intro w'
                                go_simp
                                with_reducible rfl
                              rotate_left
                              · simp only [Act.put, List.setIfInBounds_toArray, List.set_cons_zero, List.set_cons_succ, i64_w, i32_w]
                                rfl
                              refine pure_ (i := 29) (N := some 3) (v := ?_) (a' := ?_) #[true, true, true, true, true, true, true, true, true, true, true, true, true, true, true, true, true, true, true, true, true, true, true, true, true, true, true, true, true, true] rfl rfl (any_of HT_.out (by kernel_rfl)) (fun _ _ _ h => h) (Or.inl ⟨by rfl, ?_⟩) ?_ ?_
                              rotate_left
                              · intro w'
                                go_simp
                                with_reducible rfl
                              rotate_left
                              · simp only [Act.put, List.setIfInBounds_toArray, List.set_cons_zero, List.set_cons_succ, i64_w, i32_w]
                                rfl
                              refine done_ (done_of HT_.out (by kernel_rfl)) ?_
                              try go_wp2
                              go_ret2
                              exact ⟨by first | rfl | (simp [errW_none, errW_some] <;> rfl) | (simp only [← hji14]; first | rfl | (simp [errW_none, errW_some] <;> rfl)) | (simp [*, errW_none, errW_some] <;> rfl), by repeat (first | (with_reducible first | exact HB.out | apply below_alloc | apply pw_below_drewN | apply below_drew1 | refine below_set ?_ GE201.out) | exact HB.out)⟩
                            · rw [if_neg c24] at H
                              exact absurd H (by simp)
                          · rw [if_neg c23] at H
                            exact absurd H (by simp)
                        · rw [if_neg c21] at H
                          exact absurd H (by simp)
                      · rw [if_neg c20] at H
                        exact absurd H (by simp)
                    · rw [if_neg c18] at H
                      exact absurd H (by simp)
                  · rw [if_neg c17] at H
                    exact absurd H (by simp)
                · rw [if_neg c16] at H
                  exact absurd H (by simp)
              · rw [if_neg c15] at H
                exact absurd H (by simp)
            · rw [if_neg c12] at H
              exact absurd H (by simp)
          · rw [if_neg c11] at H
            exact absurd H (by simp)
        · rw [if_neg c9] at H
          exact absurd H (by simp)
      · rw [if_neg c8] at H
        exact absurd H (by simp)
    · rw [if_neg c7] at H
      exact absurd H (by simp)
  · replace c3 := Bool.eq_false_iff.mpr c3
    subst c3
    have H1 : (some ((⟨#[]⟩ : ByteArray), 4)) = some (r1, r2) := by rw [if_neg (show ¬ (false = true) by decide)] at H; exact H
    clear H
    have H := H1
    clear H1
    simp only [Option.some.injEq, Prod.mk.injEq] at H
    obtain ⟨rfl, rfl⟩ := H
    go_enter Tryd.func9, Tryd.ntmps9
    go_wp2_with (first | ((with_reducible refine gate_callee (f := 19) rfl ?_); refine goesL_ (some 6) rfl rfl Tryd.func19 (by kernel_rfl) rfl #[.int .i64 a0] rfl (by (try simp only [List.map_toArray, List.map_cons, List.map_nil]); first | done | rfl | (simp only [List.length_drop, List.length_take]; rfl)) ?_; (with_reducible refine (impl_isStamp.calls a0 false _ A2.out).mono ?_); rintro e w' ⟨rfl, ⟨nd, rfl⟩⟩; refine ⟨_, rfl, ?_⟩))
    go_ret2
    exact ⟨by first | rfl | (simp [errW_none, errW_some] <;> rfl) | (simp [*, errW_none, errW_some] <;> rfl), by repeat (first | (with_reducible first | exact HB.out | apply below_alloc | apply pw_below_drewN | apply below_drew1) | exact HB.out)⟩

/-- A state of type 58 at block g of W; what its slices lead to came in by w0. -/
def IsS58 (w0 W : World) (g : Nat) (f0 : List Int) (f1 : Int) (f2 : Int) : Prop := ∃ A0 c0, W.heap[g]? = some (.cells #[.slice A0 f0.length c0, .int .i64 f1, .int .i64 f2] 58 (0, 0)) ∧ w0.heap.size ≤ g ∧ Kd.C (Kd.int .u8) w0 A0 f0.length f0
theorem IsS58.grown {w0 W : World} {g : Nat} {f0 : List Int} {f1 : Int} {f2 : Int} {W1 : World} {row : Option Nat} (h : IsS58 w0 W g f0 f1 f2) (hw : W.grownBy W1 row) (hne : some g ≠ row) : IsS58 w0 W1 g f0 f1 f2 := by
  obtain ⟨A0, c0, hb, hg, hr0⟩ := h
  exact ⟨A0, c0, blk_grown hb hw hne, hg, hr0⟩
theorem IsS58.own_neN {w0 W : World} {g : Nat} {f0 : List Int} {f1 : Int} {f2 : Int} {α : Type} {d : Kd α} {e : Nat} {base : Nat} {ok : Nat → Prop} {v : Value} {xs : List α} (h : IsS58 w0 W g f0 f1 f2) (ho : Kd.N d e W base ok v xs) (ht : e ≠ 58) : some g ≠ v.ownBlock := by
  obtain ⟨A0, c0, hb, hg, hr0⟩ := h
  exact Kd.N_ne ho hb ht
theorem IsS58.fresh {w0 W : World} {g : Nat} {f0 : List Int} {f1 : Int} {f2 : Int} (h : IsS58 w0 W g f0 f1 f2) : ∀ k, W.heap.size ≤ k → k ≠ g := by
  obtain ⟨A0, c0, hb, hg, hr0⟩ := h
  exact Kd.freshB hb
theorem IsS58.kept {w0 W : World} {g : Nat} {f0 : List Int} {f1 : Int} {f2 : Int} {W1 : World} {S : Nat → Prop} (h : IsS58 w0 W g f0 f1 f2) (hk : Kept W W1 S) (hne : ¬ S g) : IsS58 w0 W1 g f0 f1 f2 := by
  obtain ⟨A0, c0, hb, hg, hr0⟩ := h
  exact ⟨A0, c0, blk_kept hb hk hne, hg, hr0⟩
theorem IsS58.below {w0 W : World} {g : Nat} {f0 : List Int} {f1 : Int} {f2 : Int} {W1 : World} (h : IsS58 w0 W g f0 f1 f2) (hw : Below W.heap.size W W1) : IsS58 w0 W1 g f0 f1 f2 := h.grown (grown_of_below hw none) (by simp)
theorem IsS58.alloc {w0 W : World} {g : Nat} {f0 : List Int} {f1 : Int} {f2 : Int} (h : IsS58 w0 W g f0 f1 f2) (o : Obj) : IsS58 w0 (W.alloc o) g f0 f1 f2 := h.below (below_alloc (Below.refl _ _) o)
theorem IsS58.drewN {w0 W : World} {g : Nat} {f0 : List Int} {f1 : Int} {f2 : Int} (h : IsS58 w0 W g f0 f1 f2) (m : Nat) : IsS58 w0 (W.drewN m) g f0 f1 f2 := h
theorem IsS58.drew {w0 W : World} {g : Nat} {f0 : List Int} {f1 : Int} {f2 : Int} (h : IsS58 w0 W g f0 f1 f2) : IsS58 w0 W.drew g f0 f1 f2 := h
theorem IsS58.at_ {w0 W : World} {g : Nat} {f0 : List Int} {f1 : Int} {f2 : Int} {w' : World} {m : Nat} (hq : W.drewN m = w') (h : IsS58 w0 W g f0 f1 f2) : IsS58 w0 w' g f0 f1 f2 := by subst hq; exact IsS58.drewN h m
theorem IsS58.apart {w0 W : World} {g : Nat} {f0 : List Int} {f1 : Int} {f2 : Int} {α : Type} {d : Kd α} {e : Nat} {base : Nat} {ok : Nat → Prop} {v : Value} {xs : List α} (h : IsS58 w0 W g f0 f1 f2) (ho : d.R e W base ok v xs) (ht : ∀ q, q ∈ e :: d.E → q ≠ 58) : d.R e W base (fun k => ok k ∧ k ≠ g) v xs := by
  obtain ⟨A0, c0, hb, hg, hr0⟩ := h
  exact Kd.R_types ho hb ht
theorem IsS58.own_ne {w0 W : World} {g : Nat} {f0 : List Int} {f1 : Int} {f2 : Int} {α : Type} {d : Kd α} {e : Nat} {base : Nat} {ok : Nat → Prop} {v : Value} {xs : List α} (h : IsS58 w0 W g f0 f1 f2) (ho : d.R e W base ok v xs) (ht : e ≠ 58) : some g ≠ v.ownBlock := by
  obtain ⟨A0, c0, hb, hg, hr0⟩ := h
  exact Kd.R_ne ho hb ht
theorem IsS58.apartQ {w0 W : World} {g : Nat} {f0 : List Int} {f1 : Int} {f2 : Int} {α : Type} {d : Kd α} {e : Nat} {base : Nat} {ok : Nat → Prop} {v : Value} {xs : List α} (h : IsS58 w0 W g f0 f1 f2) (ho : d.Q e W base ok v xs) (ht : ∀ q, q ∈ e :: d.E → q ≠ 58) : d.Q e W base (fun k => ok k ∧ k ≠ g) v xs := by
  obtain ⟨A0, c0, hb, hg, hr0⟩ := h
  exact Kd.Q_types ho hb ht
theorem IsS58.own_neQ {w0 W : World} {g : Nat} {f0 : List Int} {f1 : Int} {f2 : Int} {α : Type} {d : Kd α} {e : Nat} {base : Nat} {ok : Nat → Prop} {v : Value} {xs : List α} (h : IsS58 w0 W g f0 f1 f2) (ho : d.Q e W base ok v xs) (ht : e ≠ 58) : some g ≠ v.ownBlock := by
  obtain ⟨A0, c0, hb, hg, hr0⟩ := h
  exact Kd.Q_ne ho hb ht
theorem IsS58.apartS {w0 W : World} {g : Nat} {f0 : List Int} {f1 : Int} {f2 : Int} {α : Type} {d : Kd α} {e : Nat} {base : Nat} {ok : Nat → Prop} {v : Value} {xs : List α} (h : IsS58 w0 W g f0 f1 f2) (ho : d.S e W base ok v xs) (ht : ∀ q, q ∈ e :: d.E → q ≠ 58) : d.S e W base (fun k => ok k ∧ k ≠ g) v xs := by
  obtain ⟨A0, c0, hb, hg, hr0⟩ := h
  exact Kd.S_types ho hb ht
theorem IsS58.own_neS {w0 W : World} {g : Nat} {f0 : List Int} {f1 : Int} {f2 : Int} {α : Type} {d : Kd α} {e : Nat} {base : Nat} {ok : Nat → Prop} {v : Value} {xs : List α} (h : IsS58 w0 W g f0 f1 f2) (ho : d.S e W base ok v xs) (ht : e ≠ 58) : some g ≠ v.ownBlock := by
  obtain ⟨A0, c0, hb, hg, hr0⟩ := h
  exact Kd.S_ne ho hb ht
theorem IsS58.lt {w0 W : World} {g : Nat} {f0 : List Int} {f1 : Int} {f2 : Int} (h : IsS58 w0 W g f0 f1 f2) : g < W.heap.size := by
  obtain ⟨A0, c0, hb, hg, hr0⟩ := h
  exact blk_lt hb
theorem IsS58.ge {w0 W : World} {g : Nat} {f0 : List Int} {f1 : Int} {f2 : Int} (h : IsS58 w0 W g f0 f1 f2) : w0.heap.size ≤ g := by
  obtain ⟨A0, c0, hb, hg, hr0⟩ := h
  exact hg
theorem IsS58.ne_blk {w0 W : World} {g : Nat} {f0 : List Int} {f1 : Int} {f2 : Int} {a : Nat} {cs : Array Value} {t : TypeId} {fr : Nat × Nat} (h : IsS58 w0 W g f0 f1 f2) (hb2 : W.heap[a]? = some (.cells cs t fr)) (ht : t ≠ 58) : g ≠ a := by
  obtain ⟨A0, c0, hb, hg, hr0⟩ := h
  rintro rfl
  rw [hb] at hb2
  injection hb2 with hb2
  injection hb2 with _ ht2
  exact ht ht2.symm
theorem IsS58.far {w0 W : World} {g : Nat} {f0 : List Int} {f1 : Int} {f2 : Int} {p : Addr} (h : IsS58 w0 W g f0 f1 f2) (hne : g ≠ p.block) (u : Value) : IsS58 w0 (W.setCell p u) g f0 f1 f2 := by
  obtain ⟨A0, c0, hb, hg, hr0⟩ := h
  exact ⟨A0, c0, blk_far hb hne u, hg, hr0⟩
theorem cellS58_0 {W : World} {g : Nat} {A0 : Option Addr} {c0 : Nat} {f0 : List Int} {f1 : Int} {f2 : Int} (h : W.heap[g]? = some (.cells #[.slice A0 f0.length c0, .int .i64 f1, .int .i64 f2] 58 (0, 0))) : W.cell? ⟨g, 0, none⟩ = some (.slice A0 f0.length c0) := (blk_cell h 0).trans rfl
theorem cellS58_1 {W : World} {g : Nat} {A0 : Option Addr} {c0 : Nat} {f0 : List Int} {f1 : Int} {f2 : Int} (h : W.heap[g]? = some (.cells #[.slice A0 f0.length c0, .int .i64 f1, .int .i64 f2] 58 (0, 0))) : W.cell? ⟨g, 1, none⟩ = some (.int .i64 f1) := (blk_cell h 1).trans rfl
theorem IsS58.set_1 {w0 W : World} {g : Nat} {f0 : List Int} {f1 : Int} {f2 : Int} (h : IsS58 w0 W g f0 f1 f2) (x : Int) : IsS58 w0 (W.setCell ⟨g, 1, none⟩ (.int .i64 x)) g f0 x f2 := by
  obtain ⟨A0, c0, hb, hg, hr0⟩ := h
  exact ⟨A0, c0, by simpa using blk_set hb 1 (.int .i64 x), hg, hr0⟩
theorem cellS58_2 {W : World} {g : Nat} {A0 : Option Addr} {c0 : Nat} {f0 : List Int} {f1 : Int} {f2 : Int} (h : W.heap[g]? = some (.cells #[.slice A0 f0.length c0, .int .i64 f1, .int .i64 f2] 58 (0, 0))) : W.cell? ⟨g, 2, none⟩ = some (.int .i64 f2) := (blk_cell h 2).trans rfl
theorem IsS58.set_2 {w0 W : World} {g : Nat} {f0 : List Int} {f1 : Int} {f2 : Int} (h : IsS58 w0 W g f0 f1 f2) (x : Int) : IsS58 w0 (W.setCell ⟨g, 2, none⟩ (.int .i64 x)) g f0 f1 x := by
  obtain ⟨A0, c0, hb, hg, hr0⟩ := h
  exact ⟨A0, c0, by simpa using blk_set hb 2 (.int .i64 x), hg, hr0⟩
theorem IsS58.new (w0 W : World) (A0 : Option Addr) (c0 : Nat) (f0 : List Int) (f1 : Int) (f2 : Int) (hB : Below w0.heap.size w0 W) (hr0 : Kd.C (Kd.int .u8) w0 A0 f0.length f0) : IsS58 w0 (W.alloc (.cells #[.slice A0 f0.length c0, .int .i64 f1, .int .i64 f2] 58)) W.heap.size f0 f1 f2 := ⟨A0, c0, by simpa using heap_alloc_new W _, hB.size, hr0⟩

/-! ### spec_l00Source: function 28 -/
def spec_l00Source.f (l0 : List Int) : Option (List Int × Int × Int) := some (l0, 0, (l0.length : Int) % 1000)
set_option maxHeartbeats 8000000 in
set_option maxRecDepth 100000 in
theorem spec_l00Source.calls (A0 : Option Addr) (c0 : Nat) (l0 : List Int) (r1 : List Int) (r2 : Int) (r3 : Int) (w0 w : World) (hB : Below w0.heap.size w0 w) (hr0 : Kd.C (Kd.int .u8) w0 A0 l0.length l0) (hc0 : l0.length ≤ c0) (h : spec_l00Source.f l0 = some (r1, r2, r3)) :
    Calls Tryd.prog 28 #[.slice A0 l0.length c0] w fun e w' => ∃ g_ : Nat, e = .returned (.pointer (some ⟨g_, 0, none⟩)) ∧ IsS58 w0 w' g_ r1 r2 r3 ∧ Below w0.heap.size w0 w' ∧ Below w.heap.size w w' := by
  have hu58 := Tryd.underlying58
  have HR0 := Aside0.mk hr0
  have HC0 := Aside0.mk hc0
  clear hr0 hc0
  have HBW := Aside0.mk (Below.refl w.heap.size w)
  have HW0 := Aside0.mk hB.size
  have HB := Aside0.mk hB
  clear hB
  have H : (some (l0, 0, (l0.length : Int) % 1000)) = some (r1, r2, r3) := h
  clear h
  simp only [Option.some.injEq, Prod.mk.injEq] at H
  obtain ⟨rfl, rfl, rfl⟩ := H
  go_enter Tryd.func28, Tryd.ntmps28
  go_wp2_with (first | ((with_reducible refine gate_dst (N := 8) rfl ?_); refine box_event ?hg (N := 8) ?hd (cs := #[.slice A0 l0.length c0, .int .i64 0, .int .i64 ((l0.length : Int) % 1000)]) (t := 58) ?hr ?_; (case hd => rfl); (case hg => rfl); (case hr => first | (go_simp; done) | (go_simp; rfl)); intro gb214 hg w2 hbox hb; have n0_ := Aside0.mk (below_step HBW.out hb); have n1_ := Aside0.mk (below_step (by repeat (first | (with_reducible first | exact HB.out | apply below_alloc | apply pw_below_drewN | apply below_drew1) | exact HB.out)) hb); have n2_ := Aside0.mk (hbox); have n3_ := Aside0.mk ((by rw [hg]; exact (below_size (by repeat (first | (with_reducible first | exact HBW.out | apply below_alloc | apply pw_below_drewN | apply below_drew1) | exact HBW.out))) : w.heap.size ≤ gb214)); have n4_ := Aside0.mk ((Nat.le_trans HW0.out (by rw [hg]; exact (below_size (by repeat (first | (with_reducible first | exact HBW.out | apply below_alloc | apply pw_below_drewN | apply below_drew1) | exact HBW.out))) : w.heap.size ≤ gb214) : w0.heap.size ≤ gb214)); clear HBW; clear HB; have HBW := n0_; have HB := n1_; have BK214 := n2_; have GW214 := n3_; have GE214 := n4_; clear n0_ n1_ n2_ n3_ n4_; clear hb hbox hg))
  go_ret
  exact ⟨_, rfl, (show IsS58 w0 _ gb214 l0 0 ((l0.length : Int) % 1000) from ⟨_, _, by (with_reducible repeat (first | refine blk_drewN ?_ _ | refine blk_drew ?_ | refine blk_alloc ?_ _)); exact BK214.out, GE214.out, HR0.out⟩), by repeat (first | (with_reducible first | exact HB.out | apply below_alloc | apply pw_below_drewN | apply below_drew1 | refine below_set ?_ GE214.out) | exact HB.out), by repeat (first | (with_reducible first | exact HBW.out | apply below_alloc | apply pw_below_drewN | apply below_drew1 | refine below_set ?_ GW214.out) | exact HBW.out)⟩

/-! ### spec_l00Src_byte: function 54, a byte of the source of draws: walked by hand -/
set_option maxHeartbeats 2000000 in
set_option maxRecDepth 100000 in
theorem spec_l00Src_byte.walk_in (g : Nat) (ad : Addr) (n cap : Nat) (a sd b : Int) (w : World) (hb : w.heap[g]? = some (.cells #[.slice (some ad) n cap, .int .i64 a, .int .i64 sd] 58 (0, 0)))
    (ha0 : 0 ≤ a) (ha1 : a ≤ 1000000) (han : a < (n : Int)) (hs0 : 0 ≤ sd) (hs1 : sd ≤ 2147483647) (hb0 : 0 ≤ b) (hb1 : b ≤ 255) (hel : w.cell? (ad.add a.toNat) = some (.int .u8 b)) (hne : ad.block ≠ g) (hn2 : (n : Int) ≤ 2000000) :
    Calls Tryd.prog 54 #[.pointer (some ⟨g, 0, none⟩)] w fun e w' => e = .returned (.int .i64 b) ∧ ∃ q1 q2, w' = (((w.setCell ⟨g, 1, none⟩ (.int .i64 (a + 1))).drewN q1).setCell ⟨g, 2, none⟩ (.int .i64 ((sd * 31 + b + 7) % 2147483648))).drewN q2 := by
  have c0 : w.cell? ⟨g, 0, none⟩ = some (.slice (some ad) n cap) := (blk_cell hb 0).trans rfl
  have c1 : w.cell? ⟨g, 1, none⟩ = some (.int .i64 a) := (blk_cell hb 1).trans rfl
  have c2 : w.cell? ⟨g, 2, none⟩ = some (.int .i64 sd) := (blk_cell hb 2).trans rfl
  have f1 := blk_frozen hb 1
  have f2 := blk_frozen hb 2
  have t1 : decide (a + 1 ≤ (n : Int)) = true := decide_eq_true (by omega)
  have hab : (ad.add a.toNat).block = ad.block := by unfold Addr.add; split <;> rfl
  have hel1 : ∀ u, (w.setCell ⟨g, 1, none⟩ u).cell? (ad.add a.toNat) = some (.int .u8 b) := fun u => (World.cell?_setCell_far w _ _ u (by rw [hab]; exact Ne.symm hne)).trans hel
  have hel3 : ∀ u v q, (((w.setCell ⟨g, 1, none⟩ u).drewN q).setCell ⟨g, 2, none⟩ v).cell? (ad.add a.toNat) = some (.int .u8 b) := fun u v q => (World.cell?_setCell_far _ _ _ v (by rw [hab]; exact Ne.symm hne)).trans (by simp [hel1 u])
  clear hb hab
  go_enter Tryd.func54, Tryd.ntmps54
  go_wp2
  go_quiet (fail)
  go_wp2
  have hidx : (0 : Int) ≤ a + 1 - 1 := by omega
  have hidx2 : a + 1 - 1 < (n : Int) := by omega
  go_region
  go_wp2
  go_quiet (fail)
  go_wp2
  go_ret
  exact ⟨rfl, _, _, rfl⟩
set_option maxHeartbeats 2000000 in
set_option maxRecDepth 100000 in
theorem spec_l00Src_byte.walk_end (g : Nat) (A : Option Addr) (n cap : Nat) (a sd : Int) (w : World) (hb : w.heap[g]? = some (.cells #[.slice A n cap, .int .i64 a, .int .i64 sd] 58 (0, 0)))
    (ha0 : 0 ≤ a) (ha1 : a ≤ 1000000) (han : (n : Int) ≤ a) (h3 : 3000 < a + 1) (hs0 : 0 ≤ sd) (hs1 : sd ≤ 2147483647) :
    Calls Tryd.prog 54 #[.pointer (some ⟨g, 0, none⟩)] w fun e w' => e = .returned (.int .i64 0) ∧ ∃ q, w' = (w.setCell ⟨g, 1, none⟩ (.int .i64 (a + 1))).drewN q := by
  have c0 : w.cell? ⟨g, 0, none⟩ = some (.slice A n cap) := (blk_cell hb 0).trans rfl
  have c1 : w.cell? ⟨g, 1, none⟩ = some (.int .i64 a) := (blk_cell hb 1).trans rfl
  have c2 : w.cell? ⟨g, 2, none⟩ = some (.int .i64 sd) := (blk_cell hb 2).trans rfl
  have f1 := blk_frozen hb 1
  have f2 := blk_frozen hb 2
  have t1 : decide (a + 1 ≤ (n : Int)) = false := decide_eq_false (by omega)
  have t2 : decide (3000 < a + 1) = true := decide_eq_true h3
  clear hb
  go_enter Tryd.func54, Tryd.ntmps54
  go_wp2
  go_quiet (fail)
  go_wp2
  go_ret
  exact ⟨rfl, _, rfl⟩
set_option maxHeartbeats 2000000 in
set_option maxRecDepth 100000 in
theorem spec_l00Src_byte.walk_out (g : Nat) (A : Option Addr) (n cap : Nat) (a sd : Int) (w : World) (hb : w.heap[g]? = some (.cells #[.slice A n cap, .int .i64 a, .int .i64 sd] 58 (0, 0)))
    (ha0 : 0 ≤ a) (ha1 : a ≤ 1000000) (han : (n : Int) ≤ a) (h3 : a + 1 ≤ 3000) (hs0 : 0 ≤ sd) (hs1 : sd ≤ 2147483647) :
    Calls Tryd.prog 54 #[.pointer (some ⟨g, 0, none⟩)] w fun e w' => e = .returned (.int .i64 ((sd * 1103515245 + 12345) % 2147483648 / 65536 % 256)) ∧ ∃ q1 q2, w' = (((w.setCell ⟨g, 1, none⟩ (.int .i64 (a + 1))).drewN q1).setCell ⟨g, 2, none⟩ (.int .i64 ((sd * 1103515245 + 12345) % 2147483648))).drewN q2 := by
  have c0 : w.cell? ⟨g, 0, none⟩ = some (.slice A n cap) := (blk_cell hb 0).trans rfl
  have c1 : w.cell? ⟨g, 1, none⟩ = some (.int .i64 a) := (blk_cell hb 1).trans rfl
  have c2 : w.cell? ⟨g, 2, none⟩ = some (.int .i64 sd) := (blk_cell hb 2).trans rfl
  have f1 := blk_frozen hb 1
  have f2 := blk_frozen hb 2
  have t1 : decide (a + 1 ≤ (n : Int)) = false := decide_eq_false (by omega)
  have t2 : decide (3000 < a + 1) = false := decide_eq_false (by omega)
  clear hb
  go_enter Tryd.func54, Tryd.ntmps54
  go_wp2
  go_quiet (fail)
  go_wp2
  go_ret
  exact ⟨by first | rfl | (simp; done), _, 0, rfl⟩
def spec_l00Src_byte.f (s0_0 : List Int) (s0_1 : Int) (s0_2 : Int) : Option (Int × Int × Int) :=
  if 0 ≤ s0_1 ∧ s0_1 ≤ 1000000 ∧ 0 ≤ s0_2 ∧ s0_2 ≤ 2147483647 ∧ (s0_0.length : Int) ≤ 2000000 then
    (if s0_1 < (s0_0.length : Int) then (if 0 ≤ rd s0_0 s0_1 ∧ rd s0_0 s0_1 ≤ 255 then some (rd s0_0 s0_1, s0_1 + 1, (s0_2 * 31 + rd s0_0 s0_1 + 7) % 2147483648) else none)
    else if 3000 < s0_1 + 1 then some (0, s0_1 + 1, s0_2)
    else some ((s0_2 * 1103515245 + 12345) % 2147483648 / 65536 % 256, s0_1 + 1, (s0_2 * 1103515245 + 12345) % 2147483648))
  else none
theorem spec_l00Src_byte.calls (g : Nat) (s0_0 : List Int) (s0_1 : Int) (s0_2 : Int) (r1 : Int) (r2 : Int) (r3 : Int) (w0 w : World) (hI : IsS58 w0 w g s0_0 s0_1 s0_2) (hB : Below w0.heap.size w0 w) (h : spec_l00Src_byte.f s0_0 s0_1 s0_2 = some (r1, r2, r3)) :
    Calls Tryd.prog 54 #[.pointer (some ⟨g, 0, none⟩)] w fun e w' => e = .returned (.int .i64 r1) ∧ IsS58 w0 w' g s0_0 r2 r3 ∧ Below w0.heap.size w0 w' ∧ KeepBut w w' g none := by
  obtain ⟨A0, c0, hh, hg, hC⟩ := hI
  unfold spec_l00Src_byte.f at h
  by_cases h1 : 0 ≤ s0_1 ∧ s0_1 ≤ 1000000 ∧ 0 ≤ s0_2 ∧ s0_2 ≤ 2147483647 ∧ (s0_0.length : Int) ≤ 2000000
  · rw [if_pos h1] at h
    have two : ∀ (u v : Value) (q1 q2 : Nat) (a b : Int), u = .int .i64 a → v = .int .i64 b → r2 = a → r3 = b → ∀ w', w' = (((w.setCell ⟨g, 1, none⟩ u).drewN q1).setCell ⟨g, 2, none⟩ v).drewN q2 → IsS58 w0 w' g s0_0 r2 r3 ∧ Below w0.heap.size w0 w' ∧ KeepBut w w' g none := by
      intro u v q1 q2 a b hu hv ha hb w' hw
      subst hw; subst hu; subst hv; subst ha; subst hb
      exact ⟨⟨A0, c0, blk_drewN (blk_put (cs := #[.slice A0 s0_0.length c0, .int .i64 r2, .int .i64 s0_2]) (blk_drewN (blk_put hh 1 _ rfl) _) 2 _ rfl) _, hg, hC⟩, pw_below_drewN (below_set (pw_below_drewN (below_set hB hg) _) hg) _, keep_drewN (KeepBut.set_ (keep_drewN (KeepBut.set_ (KeepBut.refl w g none) _ _) _) _ _) _⟩
    by_cases h2 : s0_1 < (s0_0.length : Int)
    · rw [if_pos h2] at h
      by_cases h3 : 0 ≤ rd s0_0 s0_1 ∧ rd s0_0 s0_1 ≤ 255
      · rw [if_pos h3] at h
        simp only [Option.some.injEq, Prod.mk.injEq] at h
        obtain ⟨e1, e2, e3⟩ := h
        obtain ⟨ad, rfl, hcell⟩ := Kd.at_int hC s0_1 h1.1 h2
        have hlt : ad.block < w0.heap.size := by
          have := World.block_lt_of_cell? w0 _ hcell
          rwa [show (ad.add s0_1.toNat).block = ad.block by unfold Addr.add; split <;> rfl] at this
        have hcw : w.cell? (ad.add s0_1.toNat) = some (.int .u8 (rd s0_0 s0_1)) := (hB.cell (World.block_lt_of_cell? w0 _ hcell)).trans hcell
        refine (spec_l00Src_byte.walk_in g ad s0_0.length c0 s0_1 s0_2 _ w hh h1.1 h1.2.1 h2 h1.2.2.1 h1.2.2.2.1 h3.1 h3.2 hcw (by omega) h1.2.2.2.2).mono fun e w' ⟨he, q1, q2, hw⟩ => ?_
        exact ⟨by rw [he, e1], two _ _ q1 q2 _ _ rfl rfl e2.symm e3.symm w' hw⟩
      · rw [if_neg h3] at h; cases h
    · rw [if_neg h2] at h
      by_cases h3 : 3000 < s0_1 + 1
      · rw [if_pos h3] at h
        simp only [Option.some.injEq, Prod.mk.injEq] at h
        obtain ⟨e1, e2, e3⟩ := h
        refine (spec_l00Src_byte.walk_end g A0 s0_0.length c0 s0_1 s0_2 w hh h1.1 h1.2.1 (by omega) h3 h1.2.2.1 h1.2.2.2.1).mono fun e w' ⟨he, q, hw⟩ => ?_
        subst hw
        subst e2; subst e3
        exact ⟨by rw [he, e1], ⟨A0, c0, blk_drewN (blk_put hh 1 _ rfl) _, hg, hC⟩, pw_below_drewN (below_set hB hg) _, keep_drewN (KeepBut.set_ (KeepBut.refl w g none) _ _) _⟩
      · rw [if_neg h3] at h
        simp only [Option.some.injEq, Prod.mk.injEq] at h
        obtain ⟨e1, e2, e3⟩ := h
        refine (spec_l00Src_byte.walk_out g A0 s0_0.length c0 s0_1 s0_2 w hh h1.1 h1.2.1 (by omega) (by omega) h1.2.2.1 h1.2.2.2.1).mono fun e w' ⟨he, q1, q2, hw⟩ => ?_
        exact ⟨by rw [he, e1], two _ _ q1 q2 _ _ rfl rfl e2.symm e3.symm w' hw⟩
  · rw [if_neg h1] at h; cases h

/-! ### spec_l00Src_next: function 49 -/
def spec_l00Src_next.f (s0_0 : List Int) (s0_1 : Int) (s0_2 : Int) (a1 : Int) : Option (Int × Int × Int) := if a1 ≤ 1 then (some (0, s0_1, s0_2)) else (if a1 ≤ 256 then ((spec_l00Src_byte.f s0_0 s0_1 s0_2).bind fun bt215 => (if a1 = 0 then (none) else (some (Int.tmod bt215.1 a1, bt215.2.1, bt215.2.2)))) else ((spec_l00Src_byte.f s0_0 s0_1 s0_2).bind fun bt218 => ((spec_l00Src_byte.f s0_0 bt218.2.1 bt218.2.2).bind fun bt221 => ((spec_l00Src_byte.f s0_0 bt221.2.1 bt221.2.2).bind fun bt224 => (if a1 = 0 then (none) else (some (Int.tmod (wrap64 ((wrap64 ((wrap64 (bt218.1 * 65536)) + (wrap64 (bt221.1 * 256)))) + bt224.1)) a1, bt224.2.1, bt224.2.2)))))))
set_option maxHeartbeats 8000000 in
set_option maxRecDepth 100000 in
theorem spec_l00Src_next.calls (g : Nat) (s0_0 : List Int) (s0_1 : Int) (s0_2 : Int) (a1 : Int) (r1 : Int) (r2 : Int) (r3 : Int) (w0 w : World) (hI : IsS58 w0 w g s0_0 s0_1 s0_2) (hB : Below w0.heap.size w0 w) (h : spec_l00Src_next.f s0_0 s0_1 s0_2 a1 = some (r1, r2, r3)) :
    Calls Tryd.prog 49 #[.pointer (some ⟨g, 0, none⟩), .int .i64 a1] w fun e w' => e = .returned (.int .i64 r1) ∧ IsS58 w0 w' g s0_0 r2 r3 ∧ Below w0.heap.size w0 w' ∧ KeepBut w w' g none := by
  have HI0 := Aside0.mk hI
  have HK := Aside0.mk (KeepBut.refl w g none)
  have HL := Aside0.mk hB.size
  clear hI
  have HW0 := Aside0.mk hB.size
  have HB := Aside0.mk hB
  clear hB
  have H : (if a1 ≤ 1 then (some (0, s0_1, s0_2)) else (if a1 ≤ 256 then ((spec_l00Src_byte.f s0_0 s0_1 s0_2).bind fun bt215 => (if a1 = 0 then (none) else (some (Int.tmod bt215.1 a1, bt215.2.1, bt215.2.2)))) else ((spec_l00Src_byte.f s0_0 s0_1 s0_2).bind fun bt218 => ((spec_l00Src_byte.f s0_0 bt218.2.1 bt218.2.2).bind fun bt221 => ((spec_l00Src_byte.f s0_0 bt221.2.1 bt221.2.2).bind fun bt224 => (if a1 = 0 then (none) else (some (Int.tmod (wrap64 ((wrap64 ((wrap64 (bt218.1 * 65536)) + (wrap64 (bt221.1 * 256)))) + bt224.1)) a1, bt224.2.1, bt224.2.2)))))))) = some (r1, r2, r3) := h
  clear h
  by_cases c3 : a1 ≤ 1
  · rw [if_pos c3] at H
    have c3b0 : decide (a1 ≤ 1) = true := decide_eq_true c3
    clear c3
    simp only [Option.some.injEq, Prod.mk.injEq] at H
    obtain ⟨rfl, rfl, rfl⟩ := H
    go_enter Tryd.func49, Tryd.ntmps49
    go_wp2
    go_ret
    exact ⟨by first | rfl | (simp [errW_none, errW_some] <;> rfl) | (simp [*, errW_none, errW_some] <;> rfl), by repeat (first | (with_reducible first | exact HI0.out | apply IsS58.alloc | apply IsS58.drewN | apply IsS58.drew | apply IsS58.set_1 | apply IsS58.set_2) | exact HI0.out), by repeat (first | (with_reducible first | exact HB.out | apply below_alloc | apply pw_below_drewN | apply below_drew1 | refine below_set ?_ (IsS58.ge HI0.out)) | exact HB.out), by repeat (first | (with_reducible first | exact HK.out | apply KeepBut.set_ | apply keep_drewN | apply keep_drew | apply keep_alloc) | exact HK.out)⟩
  · rw [if_neg c3] at H
    have c3b0 : decide (a1 ≤ 1) = false := decide_eq_false c3
    clear c3
    by_cases c4 : a1 ≤ 256
    · rw [if_pos c4] at H
      have c4b0 : decide (a1 ≤ 256) = true := decide_eq_true c4
      clear c4
      replace H := Option.bind_eq_some_iff.mp H
      obtain ⟨⟨t215, t216, t217⟩, A50, H⟩ := H
      replace H : (if a1 = 0 then (none) else (some (Int.tmod t215 a1, t216, t217))) = some (r1, r2, r3) := H
      have A5 := Aside0.mk A50
      clear A50
      by_cases c6 : a1 = 0
      · rw [if_pos c6] at H
        exact absurd H (by simp)
      · rw [if_neg c6] at H
        have c6b0 : (a1 == 0) = false := beq_eq_false_iff_ne.mpr c6
        have c6b1 : (a1 != 0) = true := bne_iff_ne.mpr c6
        simp only [Option.some.injEq, Prod.mk.injEq] at H
        obtain ⟨rfl, rfl, rfl⟩ := H
        go_enter Tryd.func49, Tryd.ntmps49
        go_wp2_with (first | ((with_reducible refine gate_callee (f := 54) rfl ?_); refine goesL_ (some 13) rfl rfl Tryd.func54 (by kernel_rfl) rfl #[.pointer (some ⟨g, 0, none⟩)] rfl (by (try simp only [List.map_toArray, List.map_cons, List.map_nil]); first | done | rfl | (simp only [List.length_drop, List.length_take]; rfl)) ?_; (with_reducible refine (spec_l00Src_byte.calls g s0_0 s0_1 s0_2 t215 t216 t217 w0 _ ?side1 ?side2 A5.out).mono ?_); (case side1 => repeat (first | (with_reducible first | exact HI0.out | apply IsS58.alloc | apply IsS58.drewN | apply IsS58.drew | apply IsS58.set_1 | apply IsS58.set_2) | exact HI0.out)); (case side2 => repeat (first | (with_reducible first | exact HB.out | apply below_alloc | apply pw_below_drewN | apply below_drew1 | refine below_set ?_ (IsS58.ge HI0.out)) | exact HB.out)); rintro e w7 ⟨rfl, hi, hb, hk⟩; refine ⟨_, rfl, ?_⟩; have n0_ := Aside0.mk (KeepBut.trans (by repeat (first | (with_reducible first | exact HK.out | apply KeepBut.set_ | apply keep_drewN | apply keep_drew | apply keep_alloc) | exact HK.out)) hk (.inl rfl)); have n1_ := Aside0.mk (hb); have n2_ := Aside0.mk (hi); clear HK; clear HB; clear HI0; have HK := n0_; have HB := n1_; have HI0 := n2_; clear n0_ n1_ n2_; (try clear hb); (try clear hb2); (try clear hk); (try clear hi)))
        go_ret
        exact ⟨by first | rfl | (simp [errW_none, errW_some] <;> rfl) | (simp [*, errW_none, errW_some] <;> rfl), by repeat (first | (with_reducible first | exact HI0.out | apply IsS58.alloc | apply IsS58.drewN | apply IsS58.drew | apply IsS58.set_1 | apply IsS58.set_2) | exact HI0.out), by repeat (first | (with_reducible first | exact HB.out | apply below_alloc | apply pw_below_drewN | apply below_drew1 | refine below_set ?_ (IsS58.ge HI0.out)) | exact HB.out), by repeat (first | (with_reducible first | exact HK.out | apply KeepBut.set_ | apply keep_drewN | apply keep_drew | apply keep_alloc) | exact HK.out)⟩
    · rw [if_neg c4] at H
      have c4b0 : decide (a1 ≤ 256) = false := decide_eq_false c4
      clear c4
      replace H := Option.bind_eq_some_iff.mp H
      obtain ⟨⟨t218, t219, t220⟩, A80, H⟩ := H
      replace H : ((spec_l00Src_byte.f s0_0 t219 t220).bind fun bt221 => ((spec_l00Src_byte.f s0_0 bt221.2.1 bt221.2.2).bind fun bt224 => (if a1 = 0 then (none) else (some (Int.tmod (wrap64 ((wrap64 ((wrap64 (t218 * 65536)) + (wrap64 (bt221.1 * 256)))) + bt224.1)) a1, bt224.2.1, bt224.2.2))))) = some (r1, r2, r3) := H
      have A8 := Aside0.mk A80
      clear A80
      replace H := Option.bind_eq_some_iff.mp H
      obtain ⟨⟨t221, t222, t223⟩, A90, H⟩ := H
      replace H : ((spec_l00Src_byte.f s0_0 t222 t223).bind fun bt224 => (if a1 = 0 then (none) else (some (Int.tmod (wrap64 ((wrap64 ((wrap64 (t218 * 65536)) + (wrap64 (t221 * 256)))) + bt224.1)) a1, bt224.2.1, bt224.2.2)))) = some (r1, r2, r3) := H
      have A9 := Aside0.mk A90
      clear A90
      replace H := Option.bind_eq_some_iff.mp H
      obtain ⟨⟨t224, t225, t226⟩, A100, H⟩ := H
      replace H : (if a1 = 0 then (none) else (some (Int.tmod (wrap64 ((wrap64 ((wrap64 (t218 * 65536)) + (wrap64 (t221 * 256)))) + t224)) a1, t225, t226))) = some (r1, r2, r3) := H
      have A10 := Aside0.mk A100
      clear A100
      by_cases c11 : a1 = 0
      · rw [if_pos c11] at H
        exact absurd H (by simp)
      · rw [if_neg c11] at H
        have c11b0 : (a1 == 0) = false := beq_eq_false_iff_ne.mpr c11
        have c11b1 : (a1 != 0) = true := bne_iff_ne.mpr c11
        simp only [Option.some.injEq, Prod.mk.injEq] at H
        obtain ⟨rfl, rfl, rfl⟩ := H
        go_enter Tryd.func49, Tryd.ntmps49
        go_wp2_with (first | ((with_reducible refine gate_callee (f := 54) rfl ?_); refine goesL_ (some 17) rfl rfl Tryd.func54 (by kernel_rfl) rfl #[.pointer (some ⟨g, 0, none⟩)] rfl (by (try simp only [List.map_toArray, List.map_cons, List.map_nil]); first | done | rfl | (simp only [List.length_drop, List.length_take]; rfl)) ?_; (with_reducible refine (spec_l00Src_byte.calls g s0_0 s0_1 s0_2 t218 t219 t220 w0 _ ?side1 ?side2 A8.out).mono ?_); (case side1 => repeat (first | (with_reducible first | exact HI0.out | apply IsS58.alloc | apply IsS58.drewN | apply IsS58.drew | apply IsS58.set_1 | apply IsS58.set_2) | exact HI0.out)); (case side2 => repeat (first | (with_reducible first | exact HB.out | apply below_alloc | apply pw_below_drewN | apply below_drew1 | refine below_set ?_ (IsS58.ge HI0.out)) | exact HB.out)); rintro e w12 ⟨rfl, hi, hb, hk⟩; refine ⟨_, rfl, ?_⟩; have n0_ := Aside0.mk (KeepBut.trans (by repeat (first | (with_reducible first | exact HK.out | apply KeepBut.set_ | apply keep_drewN | apply keep_drew | apply keep_alloc) | exact HK.out)) hk (.inl rfl)); have n1_ := Aside0.mk (hb); have n2_ := Aside0.mk (hi); clear HK; clear HB; clear HI0; have HK := n0_; have HB := n1_; have HI0 := n2_; clear n0_ n1_ n2_; (try clear hb); (try clear hb2); (try clear hk); (try clear hi)) | ((with_reducible refine gate_callee (f := 54) rfl ?_); refine goesL_ (some 19) rfl rfl Tryd.func54 (by kernel_rfl) rfl #[.pointer (some ⟨g, 0, none⟩)] rfl (by (try simp only [List.map_toArray, List.map_cons, List.map_nil]); first | done | rfl | (simp only [List.length_drop, List.length_take]; rfl)) ?_; (with_reducible refine (spec_l00Src_byte.calls g s0_0 t219 t220 t221 t222 t223 w0 _ ?side1 ?side2 A9.out).mono ?_); (case side1 => repeat (first | (with_reducible first | exact HI0.out | apply IsS58.alloc | apply IsS58.drewN | apply IsS58.drew | apply IsS58.set_1 | apply IsS58.set_2) | exact HI0.out)); (case side2 => repeat (first | (with_reducible first | exact HB.out | apply below_alloc | apply pw_below_drewN | apply below_drew1 | refine below_set ?_ (IsS58.ge HI0.out)) | exact HB.out)); rintro e w13 ⟨rfl, hi, hb, hk⟩; refine ⟨_, rfl, ?_⟩; have n0_ := Aside0.mk (KeepBut.trans (by repeat (first | (with_reducible first | exact HK.out | apply KeepBut.set_ | apply keep_drewN | apply keep_drew | apply keep_alloc) | exact HK.out)) hk (.inl rfl)); have n1_ := Aside0.mk (hb); have n2_ := Aside0.mk (hi); clear HK; clear HB; clear HI0; have HK := n0_; have HB := n1_; have HI0 := n2_; clear n0_ n1_ n2_; (try clear hb); (try clear hb2); (try clear hk); (try clear hi)) | ((with_reducible refine gate_callee (f := 54) rfl ?_); refine goesL_ (some 21) rfl rfl Tryd.func54 (by kernel_rfl) rfl #[.pointer (some ⟨g, 0, none⟩)] rfl (by (try simp only [List.map_toArray, List.map_cons, List.map_nil]); first | done | rfl | (simp only [List.length_drop, List.length_take]; rfl)) ?_; (with_reducible refine (spec_l00Src_byte.calls g s0_0 t222 t223 t224 t225 t226 w0 _ ?side1 ?side2 A10.out).mono ?_); (case side1 => repeat (first | (with_reducible first | exact HI0.out | apply IsS58.alloc | apply IsS58.drewN | apply IsS58.drew | apply IsS58.set_1 | apply IsS58.set_2) | exact HI0.out)); (case side2 => repeat (first | (with_reducible first | exact HB.out | apply below_alloc | apply pw_below_drewN | apply below_drew1 | refine below_set ?_ (IsS58.ge HI0.out)) | exact HB.out)); rintro e w14 ⟨rfl, hi, hb, hk⟩; refine ⟨_, rfl, ?_⟩; have n0_ := Aside0.mk (KeepBut.trans (by repeat (first | (with_reducible first | exact HK.out | apply KeepBut.set_ | apply keep_drewN | apply keep_drew | apply keep_alloc) | exact HK.out)) hk (.inl rfl)); have n1_ := Aside0.mk (hb); have n2_ := Aside0.mk (hi); clear HK; clear HB; clear HI0; have HK := n0_; have HB := n1_; have HI0 := n2_; clear n0_ n1_ n2_; (try clear hb); (try clear hb2); (try clear hk); (try clear hi)))
        go_ret
        exact ⟨by first | rfl | (simp [errW_none, errW_some] <;> rfl) | (simp [*, errW_none, errW_some] <;> rfl), by repeat (first | (with_reducible first | exact HI0.out | apply IsS58.alloc | apply IsS58.drewN | apply IsS58.drew | apply IsS58.set_1 | apply IsS58.set_2) | exact HI0.out), by repeat (first | (with_reducible first | exact HB.out | apply below_alloc | apply pw_below_drewN | apply below_drew1 | refine below_set ?_ (IsS58.ge HI0.out)) | exact HB.out), by repeat (first | (with_reducible first | exact HK.out | apply KeepBut.set_ | apply keep_drewN | apply keep_drew | apply keep_alloc) | exact HK.out)⟩

end Go.Proofs.YtccnidlkpinpgaaDoor.QFnDateTexts
