/- Printed by a program of this session's own (wip/myprint.py): the functions that FnExactReadRfc822 reaches as plain Lean functions, and that Go's calls do what they say. Conditions: as each theorem states. -/
import Derived.Test.YtccnidlkpinpgaaQFnExactReadRfc822x0
import Derived.Test.YtccnidlkpinpgaaQFnExactReadRfc822x1
import Derived.Test.YtccnidlkpinpgaaQFnExactReadRfc822x2
import Derived.Test.YtccnidlkpinpgaaQFnExactReadRfc822x3
namespace Go.Proofs.Ytccnidlkpinpgaa.QFnExactReadRfc822
open Go.RowKit Go.Proofs.YtccnidlkpinpgaaW.PrintWords Go.Proofs.YtccnidlkpinpgaaW.PrintLast Go.Proofs.YtccnidlkpinpgaaW.PrintMore
attribute [local go_sem] max2_int min2_int max_two min_two max_three min_three max_four min_four   -- for this text's walks alone
set_option linter.unusedVariables false
set_option linter.unusedSimpArgs false

theorem far6 {W : World} {g : Nat} {a : Addr} {x : Option Value} (h : W.cell? a = x) (hne : a.block ≠ g) {i0 i1 i2 i3 i4 i5 : Nat} {u0 u1 u2 u3 u4 u5 : Value} : ((((((W.setCell ⟨g, i0, none⟩ u0).setCell ⟨g, i1, none⟩ u1).setCell ⟨g, i2, none⟩ u2).setCell ⟨g, i3, none⟩ u3).setCell ⟨g, i4, none⟩ u4).setCell ⟨g, i5, none⟩ u5).cell? a = x := by
 rw [cell_far (p := ⟨g, i5, none⟩) hne, cell_far (p := ⟨g, i4, none⟩) hne, cell_far (p := ⟨g, i3, none⟩) hne, cell_far (p := ⟨g, i2, none⟩) hne, cell_far (p := ⟨g, i1, none⟩) hne, cell_far (p := ⟨g, i0, none⟩) hne]
 exact h
/-! ### spec_ReadRfc822: function 23 -/
mutual
def spec_ReadRfc822.j0 : Nat → ByteArray → Int → Bool → Option (Int × Int)
 | 0, _, _, _ => none
 | k + 1, x0, x4, x28 => if x28 = true then (spec_ReadRfc822.l0 k x0 x4 0) else (spec_ReadRfc822.j2 k x0 x4)
def spec_ReadRfc822.j2 : Nat → ByteArray → Int → Option (Int × Int)
 | 0, _, _ => none
 | k + 1, x0, x4 => (spec_l00Cut.f k x0 32).bind fun t143 => (if (t143.length : Int) = 5 then (if 0 < (t143.length : Int) then ((spec_l01In.f ((rdOf ByteArray.empty t143 0).size : Int) 1 2).bind fun t147 => (if t147 = true then (if 2 < (t143.length : Int) then (if ((rdOf ByteArray.empty t143 2).size : Int) = 4 then (if 3 < (t143.length : Int) then (if ((rdOf ByteArray.empty t143 3).size : Int) = 8 then (if 2 < ((rdOf ByteArray.empty t143 3).size : Int) then (if (bt (rdOf ByteArray.empty t143 3) 2) = 58 then (if 5 < ((rdOf ByteArray.empty t143 3).size : Int) then (spec_ReadRfc822.j3 k x4 t143 ((bt (rdOf ByteArray.empty t143 3) 5) != 58)) else (none)) else (spec_ReadRfc822.j3 k x4 t143 true)) else (none)) else (spec_ReadRfc822.j3 k x4 t143 true)) else (none)) else (spec_ReadRfc822.j3 k x4 t143 true)) else (none)) else (spec_ReadRfc822.j3 k x4 t143 true))) else (none)) else (spec_ReadRfc822.j3 k x4 t143 true))
def spec_ReadRfc822.j3 : Nat → Int → List ByteArray → Bool → Option (Int × Int)
 | 0, _, _, _ => none
 | k + 1, x4, x6, x83 => if x83 = true then (some (0, 3)) else (spec_ReadRfc822.l1 k x4 x6 0 1)
def spec_ReadRfc822.l1 : Nat → Int → List ByteArray → Int → Int → Option (Int × Int)
 | 0, _, _, _, _ => none
 | k + 1, x4, x6, x7, x8 => if x8 ≤ 12 then ((spec_l04Month.f x8).bind fun t152 => (if 1 < (x6.length : Int) then (if t152.toList = (rdOf ByteArray.empty x6 1).toList then (spec_ReadRfc822.l1 k x4 x6 x8 (wrap64 (x8 + 1))) else (spec_ReadRfc822.l1 k x4 x6 x7 (wrap64 (x8 + 1)))) else (none))) else (if 2 < (x6.length : Int) then ((spec_l04Number.f k (rdOf ByteArray.empty x6 2)).bind fun t155 => (if 0 < (x6.length : Int) then ((spec_l04Number.f k (rdOf ByteArray.empty x6 0)).bind fun t157 => (if 3 < (x6.length : Int) then (if 2 ≤ ((rdOf ByteArray.empty x6 3).size : Int) then ((spec_l04Number.f k ((rdOf ByteArray.empty x6 3).extract 0 2)).bind fun t159 => (if 5 ≤ ((rdOf ByteArray.empty x6 3).size : Int) then ((spec_l04Number.f k ((rdOf ByteArray.empty x6 3).extract 3 5)).bind fun t161 => (if 8 ≤ ((rdOf ByteArray.empty x6 3).size : Int) then ((spec_l04Number.f k ((rdOf ByteArray.empty x6 3).extract 6 8)).bind fun t163 => (if 4 < (x6.length : Int) then (if (rdOf ByteArray.empty x6 4).toList = ([71, 77, 84] : List UInt8) then (spec_ReadRfc822.j5 k x4 x6 0 false t155 x7 t157 t159 t161 t163) else (spec_ReadRfc822.j5 k x4 x6 0 ((rdOf ByteArray.empty x6 4).toList != ([85, 84] : List UInt8)) t155 x7 t157 t159 t161 t163)) else (none))) else (none))) else (none))) else (none)) else (none))) else (none))) else (none))
def spec_ReadRfc822.j5 : Nat → Int → List ByteArray → Int → Bool → Int → Int → Int → Int → Int → Int → Option (Int × Int)
 | 0, _, _, _, _, _, _, _, _, _, _ => none
 | k + 1, x4, x6, x10, x129, x165000, x165001, x165002, x165003, x165004, x165005 => if x129 = true then (if 4 < (x6.length : Int) then (if ((rdOf ByteArray.empty x6 4).size : Int) = 5 then (if 0 < ((rdOf ByteArray.empty x6 4).size : Int) then (if 3 ≤ ((rdOf ByteArray.empty x6 4).size : Int) then (if 5 ≤ ((rdOf ByteArray.empty x6 4).size : Int) then ((spec_l04Zone.f k (bt (rdOf ByteArray.empty x6 4) 0) ((rdOf ByteArray.empty x6 4).extract 1 3) ((rdOf ByteArray.empty x6 4).extract 3 5)).bind fun bt171 => (if bt171.2 = true then (spec_ReadRfc822.j6 k x4 bt171.1 x165000 x165001 x165002 x165003 x165004 x165005) else (some (0, 3)))) else (none)) else (none)) else (none)) else (some (0, 3))) else (none)) else (spec_ReadRfc822.j6 k x4 x10 x165000 x165001 x165002 x165003 x165004 x165005)
def spec_ReadRfc822.j6 : Nat → Int → Int → Int → Int → Int → Int → Int → Int → Option (Int × Int)
 | 0, _, _, _, _, _, _, _, _ => none
 | k + 1, x4, x10, x165000, x165001, x165002, x165003, x165004, x165005 => (spec_CivilOK.f x165000 x165001 x165002 x165003 x165004 x165005).bind fun t173 => (if t173 = true then (if x4 ≥ 0 then ((spec_l04Stamp.f k x165000 x165001 x165002 x165003 x165004 x165005).bind fun t174 => (if (Int.tmod (wrap64 ((wrap64 (Int.tdiv t174 86400)) + 4)) 7) = x4 then ((spec_l04End.f k x165000 x165001 x165002 x165003 x165004 x165005 x10).bind fun bt175 => (some (bt175.1, bt175.2))) else (some (0, 3)))) else ((spec_l04End.f k x165000 x165001 x165002 x165003 x165004 x165005 x10).bind fun bt177 => (some (bt177.1, bt177.2)))) else (some (0, 3)))
def spec_ReadRfc822.l0 : Nat → ByteArray → Int → Int → Option (Int × Int)
 | 0, _, _, _ => none
 | k + 1, x0, x4, x5 => if x5 < 7 then ((spec_l04Weekday.f x5).bind fun t142 => (if 3 ≤ (x0.size : Int) then (if t142.toList = (x0.extract 0 3).toList then (spec_ReadRfc822.l0 k x0 x5 (wrap64 (x5 + 1))) else (spec_ReadRfc822.l0 k x0 x4 (wrap64 (x5 + 1)))) else (none))) else (if x4 < 0 then (some (0, 3)) else (if 5 ≤ (x0.size : Int) then (spec_ReadRfc822.j2 k (x0.extract 5 x0.size) x4) else (none)))
end
def spec_ReadRfc822.f (k : Nat) (a0 : ByteArray) : Option (Int × Int) := if (a0.size : Int) > 65536 then (some (0, 2)) else (if (a0.size : Int) > 5 then (if 3 < (a0.size : Int) then (if (bt a0 3) = 44 then (if 4 < (a0.size : Int) then (spec_ReadRfc822.j0 k a0 (-1) ((bt a0 4) == 32)) else (none)) else (spec_ReadRfc822.j0 k a0 (-1) false)) else (none)) else (spec_ReadRfc822.j0 k a0 (-1) false))
theorem spec_ReadRfc822.mono_l : ∀ k, (∀ y0 y1 y2, LeO (spec_ReadRfc822.j0 k y0 y1 y2) (spec_ReadRfc822.j0 (k + 1) y0 y1 y2)) ∧ (∀ y0 y1, LeO (spec_ReadRfc822.j2 k y0 y1) (spec_ReadRfc822.j2 (k + 1) y0 y1)) ∧ (∀ y0 y1 y2, LeO (spec_ReadRfc822.j3 k y0 y1 y2) (spec_ReadRfc822.j3 (k + 1) y0 y1 y2)) ∧ (∀ y0 y1 y2 y3, LeO (spec_ReadRfc822.l1 k y0 y1 y2 y3) (spec_ReadRfc822.l1 (k + 1) y0 y1 y2 y3)) ∧ (∀ y0 y1 y2 y3 y4 y5 y6 y7 y8 y9, LeO (spec_ReadRfc822.j5 k y0 y1 y2 y3 y4 y5 y6 y7 y8 y9) (spec_ReadRfc822.j5 (k + 1) y0 y1 y2 y3 y4 y5 y6 y7 y8 y9)) ∧ (∀ y0 y1 y2 y3 y4 y5 y6 y7, LeO (spec_ReadRfc822.j6 k y0 y1 y2 y3 y4 y5 y6 y7) (spec_ReadRfc822.j6 (k + 1) y0 y1 y2 y3 y4 y5 y6 y7)) ∧ (∀ y0 y1 y2, LeO (spec_ReadRfc822.l0 k y0 y1 y2) (spec_ReadRfc822.l0 (k + 1) y0 y1 y2))
 | 0 => ⟨fun _ _ _ r h => by simp [spec_ReadRfc822.j0] at h, fun _ _ r h => by simp [spec_ReadRfc822.j2] at h, fun _ _ _ r h => by simp [spec_ReadRfc822.j3] at h, fun _ _ _ _ r h => by simp [spec_ReadRfc822.l1] at h, fun _ _ _ _ _ _ _ _ _ _ r h => by simp [spec_ReadRfc822.j5] at h, fun _ _ _ _ _ _ _ _ r h => by simp [spec_ReadRfc822.j6] at h, fun _ _ _ r h => by simp [spec_ReadRfc822.l0] at h⟩
 | k + 1 => by
  obtain ⟨ih0, ih1, ih2, ih3, ih4, ih5, ih6⟩ := spec_ReadRfc822.mono_l k
  refine ⟨?_, ?_, ?_, ?_, ?_, ?_, ?_⟩
  ·intro y0 y1 y2
   unfold spec_ReadRfc822.j0
   repeat' first
   | (with_reducible exact ih0 _ _ _)
   | (with_reducible exact ih1 _ _)
   | (with_reducible exact ih2 _ _ _)
   | (with_reducible exact ih3 _ _ _ _)
   | (with_reducible exact ih4 _ _ _ _ _ _ _ _ _ _)
   | (with_reducible exact ih5 _ _ _ _ _ _ _ _)
   | (with_reducible exact ih6 _ _ _)
   | (with_reducible exact spec_l00Cut.mono _ _ _)
   | (with_reducible exact spec_l04End.mono _ _ _ _ _ _ _ _)
   | (with_reducible exact spec_l04Number.mono _ _)
   | (with_reducible exact spec_l04Stamp.mono _ _ _ _ _ _ _)
   | (with_reducible exact spec_l04Zone.mono _ _ _ _)
   | (with_reducible exact LeO.refl _)
   | (with_reducible exact LeO.none _)
   | (with_reducible refine LeO.ite ?_ ?_)
   | (with_reducible refine LeO.bind ?_ (fun _ => ?_))
   | exact ih0 _ _ _
   | exact ih1 _ _
   | exact ih2 _ _ _
   | exact ih3 _ _ _ _
   | exact ih4 _ _ _ _ _ _ _ _ _ _
   | exact ih5 _ _ _ _ _ _ _ _
   | exact ih6 _ _ _
   | exact spec_l00Cut.mono _ _ _
   | exact spec_l04End.mono _ _ _ _ _ _ _ _
   | exact spec_l04Number.mono _ _
   | exact spec_l04Stamp.mono _ _ _ _ _ _ _
   | exact spec_l04Zone.mono _ _ _ _
   | exact LeO.none _
   | refine LeO.ite ?_ ?_
   | refine LeO.bind ?_ (fun _ => ?_)
  ·intro y0 y1
   unfold spec_ReadRfc822.j2
   repeat' first
   | (with_reducible exact ih0 _ _ _)
   | (with_reducible exact ih1 _ _)
   | (with_reducible exact ih2 _ _ _)
   | (with_reducible exact ih3 _ _ _ _)
   | (with_reducible exact ih4 _ _ _ _ _ _ _ _ _ _)
   | (with_reducible exact ih5 _ _ _ _ _ _ _ _)
   | (with_reducible exact ih6 _ _ _)
   | (with_reducible exact spec_l00Cut.mono _ _ _)
   | (with_reducible exact spec_l04End.mono _ _ _ _ _ _ _ _)
   | (with_reducible exact spec_l04Number.mono _ _)
   | (with_reducible exact spec_l04Stamp.mono _ _ _ _ _ _ _)
   | (with_reducible exact spec_l04Zone.mono _ _ _ _)
   | (with_reducible exact LeO.refl _)
   | (with_reducible exact LeO.none _)
   | (with_reducible refine LeO.ite ?_ ?_)
   | (with_reducible refine LeO.bind ?_ (fun _ => ?_))
   | exact ih0 _ _ _
   | exact ih1 _ _
   | exact ih2 _ _ _
   | exact ih3 _ _ _ _
   | exact ih4 _ _ _ _ _ _ _ _ _ _
   | exact ih5 _ _ _ _ _ _ _ _
   | exact ih6 _ _ _
   | exact spec_l00Cut.mono _ _ _
   | exact spec_l04End.mono _ _ _ _ _ _ _ _
   | exact spec_l04Number.mono _ _
   | exact spec_l04Stamp.mono _ _ _ _ _ _ _
   | exact spec_l04Zone.mono _ _ _ _
   | exact LeO.none _
   | refine LeO.ite ?_ ?_
   | refine LeO.bind ?_ (fun _ => ?_)
  ·intro y0 y1 y2
   unfold spec_ReadRfc822.j3
   repeat' first
   | (with_reducible exact ih0 _ _ _)
   | (with_reducible exact ih1 _ _)
   | (with_reducible exact ih2 _ _ _)
   | (with_reducible exact ih3 _ _ _ _)
   | (with_reducible exact ih4 _ _ _ _ _ _ _ _ _ _)
   | (with_reducible exact ih5 _ _ _ _ _ _ _ _)
   | (with_reducible exact ih6 _ _ _)
   | (with_reducible exact spec_l00Cut.mono _ _ _)
   | (with_reducible exact spec_l04End.mono _ _ _ _ _ _ _ _)
   | (with_reducible exact spec_l04Number.mono _ _)
   | (with_reducible exact spec_l04Stamp.mono _ _ _ _ _ _ _)
   | (with_reducible exact spec_l04Zone.mono _ _ _ _)
   | (with_reducible exact LeO.refl _)
   | (with_reducible exact LeO.none _)
   | (with_reducible refine LeO.ite ?_ ?_)
   | (with_reducible refine LeO.bind ?_ (fun _ => ?_))
   | exact ih0 _ _ _
   | exact ih1 _ _
   | exact ih2 _ _ _
   | exact ih3 _ _ _ _
   | exact ih4 _ _ _ _ _ _ _ _ _ _
   | exact ih5 _ _ _ _ _ _ _ _
   | exact ih6 _ _ _
   | exact spec_l00Cut.mono _ _ _
   | exact spec_l04End.mono _ _ _ _ _ _ _ _
   | exact spec_l04Number.mono _ _
   | exact spec_l04Stamp.mono _ _ _ _ _ _ _
   | exact spec_l04Zone.mono _ _ _ _
   | exact LeO.none _
   | refine LeO.ite ?_ ?_
   | refine LeO.bind ?_ (fun _ => ?_)
  ·intro y0 y1 y2 y3
   unfold spec_ReadRfc822.l1
   repeat' first
   | (with_reducible exact ih0 _ _ _)
   | (with_reducible exact ih1 _ _)
   | (with_reducible exact ih2 _ _ _)
   | (with_reducible exact ih3 _ _ _ _)
   | (with_reducible exact ih4 _ _ _ _ _ _ _ _ _ _)
   | (with_reducible exact ih5 _ _ _ _ _ _ _ _)
   | (with_reducible exact ih6 _ _ _)
   | (with_reducible exact spec_l00Cut.mono _ _ _)
   | (with_reducible exact spec_l04End.mono _ _ _ _ _ _ _ _)
   | (with_reducible exact spec_l04Number.mono _ _)
   | (with_reducible exact spec_l04Stamp.mono _ _ _ _ _ _ _)
   | (with_reducible exact spec_l04Zone.mono _ _ _ _)
   | (with_reducible exact LeO.refl _)
   | (with_reducible exact LeO.none _)
   | (with_reducible refine LeO.ite ?_ ?_)
   | (with_reducible refine LeO.bind ?_ (fun _ => ?_))
   | exact ih0 _ _ _
   | exact ih1 _ _
   | exact ih2 _ _ _
   | exact ih3 _ _ _ _
   | exact ih4 _ _ _ _ _ _ _ _ _ _
   | exact ih5 _ _ _ _ _ _ _ _
   | exact ih6 _ _ _
   | exact spec_l00Cut.mono _ _ _
   | exact spec_l04End.mono _ _ _ _ _ _ _ _
   | exact spec_l04Number.mono _ _
   | exact spec_l04Stamp.mono _ _ _ _ _ _ _
   | exact spec_l04Zone.mono _ _ _ _
   | exact LeO.none _
   | refine LeO.ite ?_ ?_
   | refine LeO.bind ?_ (fun _ => ?_)
  ·intro y0 y1 y2 y3 y4 y5 y6 y7 y8 y9
   unfold spec_ReadRfc822.j5
   repeat' first
   | (with_reducible exact ih0 _ _ _)
   | (with_reducible exact ih1 _ _)
   | (with_reducible exact ih2 _ _ _)
   | (with_reducible exact ih3 _ _ _ _)
   | (with_reducible exact ih4 _ _ _ _ _ _ _ _ _ _)
   | (with_reducible exact ih5 _ _ _ _ _ _ _ _)
   | (with_reducible exact ih6 _ _ _)
   | (with_reducible exact spec_l00Cut.mono _ _ _)
   | (with_reducible exact spec_l04End.mono _ _ _ _ _ _ _ _)
   | (with_reducible exact spec_l04Number.mono _ _)
   | (with_reducible exact spec_l04Stamp.mono _ _ _ _ _ _ _)
   | (with_reducible exact spec_l04Zone.mono _ _ _ _)
   | (with_reducible exact LeO.refl _)
   | (with_reducible exact LeO.none _)
   | (with_reducible refine LeO.ite ?_ ?_)
   | (with_reducible refine LeO.bind ?_ (fun _ => ?_))
   | exact ih0 _ _ _
   | exact ih1 _ _
   | exact ih2 _ _ _
   | exact ih3 _ _ _ _
   | exact ih4 _ _ _ _ _ _ _ _ _ _
   | exact ih5 _ _ _ _ _ _ _ _
   | exact ih6 _ _ _
   | exact spec_l00Cut.mono _ _ _
   | exact spec_l04End.mono _ _ _ _ _ _ _ _
   | exact spec_l04Number.mono _ _
   | exact spec_l04Stamp.mono _ _ _ _ _ _ _
   | exact spec_l04Zone.mono _ _ _ _
   | exact LeO.none _
   | refine LeO.ite ?_ ?_
   | refine LeO.bind ?_ (fun _ => ?_)
  ·intro y0 y1 y2 y3 y4 y5 y6 y7
   unfold spec_ReadRfc822.j6
   repeat' first
   | (with_reducible exact ih0 _ _ _)
   | (with_reducible exact ih1 _ _)
   | (with_reducible exact ih2 _ _ _)
   | (with_reducible exact ih3 _ _ _ _)
   | (with_reducible exact ih4 _ _ _ _ _ _ _ _ _ _)
   | (with_reducible exact ih5 _ _ _ _ _ _ _ _)
   | (with_reducible exact ih6 _ _ _)
   | (with_reducible exact spec_l00Cut.mono _ _ _)
   | (with_reducible exact spec_l04End.mono _ _ _ _ _ _ _ _)
   | (with_reducible exact spec_l04Number.mono _ _)
   | (with_reducible exact spec_l04Stamp.mono _ _ _ _ _ _ _)
   | (with_reducible exact spec_l04Zone.mono _ _ _ _)
   | (with_reducible exact LeO.refl _)
   | (with_reducible exact LeO.none _)
   | (with_reducible refine LeO.ite ?_ ?_)
   | (with_reducible refine LeO.bind ?_ (fun _ => ?_))
   | exact ih0 _ _ _
   | exact ih1 _ _
   | exact ih2 _ _ _
   | exact ih3 _ _ _ _
   | exact ih4 _ _ _ _ _ _ _ _ _ _
   | exact ih5 _ _ _ _ _ _ _ _
   | exact ih6 _ _ _
   | exact spec_l00Cut.mono _ _ _
   | exact spec_l04End.mono _ _ _ _ _ _ _ _
   | exact spec_l04Number.mono _ _
   | exact spec_l04Stamp.mono _ _ _ _ _ _ _
   | exact spec_l04Zone.mono _ _ _ _
   | exact LeO.none _
   | refine LeO.ite ?_ ?_
   | refine LeO.bind ?_ (fun _ => ?_)
  ·intro y0 y1 y2
   unfold spec_ReadRfc822.l0
   repeat' first
   | (with_reducible exact ih0 _ _ _)
   | (with_reducible exact ih1 _ _)
   | (with_reducible exact ih2 _ _ _)
   | (with_reducible exact ih3 _ _ _ _)
   | (with_reducible exact ih4 _ _ _ _ _ _ _ _ _ _)
   | (with_reducible exact ih5 _ _ _ _ _ _ _ _)
   | (with_reducible exact ih6 _ _ _)
   | (with_reducible exact spec_l00Cut.mono _ _ _)
   | (with_reducible exact spec_l04End.mono _ _ _ _ _ _ _ _)
   | (with_reducible exact spec_l04Number.mono _ _)
   | (with_reducible exact spec_l04Stamp.mono _ _ _ _ _ _ _)
   | (with_reducible exact spec_l04Zone.mono _ _ _ _)
   | (with_reducible exact LeO.refl _)
   | (with_reducible exact LeO.none _)
   | (with_reducible refine LeO.ite ?_ ?_)
   | (with_reducible refine LeO.bind ?_ (fun _ => ?_))
   | exact ih0 _ _ _
   | exact ih1 _ _
   | exact ih2 _ _ _
   | exact ih3 _ _ _ _
   | exact ih4 _ _ _ _ _ _ _ _ _ _
   | exact ih5 _ _ _ _ _ _ _ _
   | exact ih6 _ _ _
   | exact spec_l00Cut.mono _ _ _
   | exact spec_l04End.mono _ _ _ _ _ _ _ _
   | exact spec_l04Number.mono _ _
   | exact spec_l04Stamp.mono _ _ _ _ _ _ _
   | exact spec_l04Zone.mono _ _ _ _
   | exact LeO.none _
   | refine LeO.ite ?_ ?_
   | refine LeO.bind ?_ (fun _ => ?_)
theorem spec_ReadRfc822.mono : ∀ a0 k, LeO (spec_ReadRfc822.f k a0) (spec_ReadRfc822.f (k + 1) a0) := by
 intro a0 k
 obtain ⟨ih0, ih1, ih2, ih3, ih4, ih5, ih6⟩ := spec_ReadRfc822.mono_l k
 unfold spec_ReadRfc822.f
 repeat' first
   | (with_reducible exact ih0 _ _ _)
   | (with_reducible exact ih1 _ _)
   | (with_reducible exact ih2 _ _ _)
   | (with_reducible exact ih3 _ _ _ _)
   | (with_reducible exact ih4 _ _ _ _ _ _ _ _ _ _)
   | (with_reducible exact ih5 _ _ _ _ _ _ _ _)
   | (with_reducible exact ih6 _ _ _)
   | (with_reducible exact spec_l00Cut.mono _ _ _)
   | (with_reducible exact spec_l04End.mono _ _ _ _ _ _ _ _)
   | (with_reducible exact spec_l04Number.mono _ _)
   | (with_reducible exact spec_l04Stamp.mono _ _ _ _ _ _ _)
   | (with_reducible exact spec_l04Zone.mono _ _ _ _)
   | (with_reducible exact LeO.refl _)
   | (with_reducible exact LeO.none _)
   | (with_reducible refine LeO.ite ?_ ?_)
   | (with_reducible refine LeO.bind ?_ (fun _ => ?_))
   | exact ih0 _ _ _
   | exact ih1 _ _
   | exact ih2 _ _ _
   | exact ih3 _ _ _ _
   | exact ih4 _ _ _ _ _ _ _ _ _ _
   | exact ih5 _ _ _ _ _ _ _ _
   | exact ih6 _ _ _
   | exact spec_l00Cut.mono _ _ _
   | exact spec_l04End.mono _ _ _ _ _ _ _ _
   | exact spec_l04Number.mono _ _
   | exact spec_l04Stamp.mono _ _ _ _ _ _ _
   | exact spec_l04Zone.mono _ _ _ _
   | exact LeO.none _
   | refine LeO.ite ?_ ?_
   | refine LeO.bind ?_ (fun _ => ?_)
def spec_ReadRfc822.T22 : Bool × List (List Nat × List Nat) := (true, [([], []), ([0], [0]), ([1], [1]), ([2], [2]), ([], []), ([], []), ([5], [5]), ([6], [6]), ([7, 3], [7]), ([], []), ([9], [9]), ([10], [10]), ([11], [11]), ([12, 8], [12]), ([], []), ([14], [14]), ([15], [15]), ([16], [16]), ([17, 13], [17]), ([], []), ([19], [19]), ([20], [20]), ([21], [21]), ([22, 18], [22]), ([3, 4, 8, 13, 18, 23], [3, 4, 8, 13, 18, 23]), ([], []), ([25, 24, 23, 0, 1, 2, 3, 4, 5, 6, 7, 8, 9, 10, 11, 12, 13, 14, 15, 16, 17, 18, 19, 20, 21, 22, 23, 24, 25], [24, 25])])
def spec_ReadRfc822.B22 : List Nat := [0, 1, 3, 7, 0, 0, 32, 96, 239, 0, 512, 1536, 3584, 8175, 0, 16384, 49152, 114688, 262127, 0, 524288, 1572864, 3670016, 8388591, 16777215, 0, 67108863]
theorem spec_ReadRfc822.tab22 : rtab .any (opsOf Try.f23 22) = spec_ReadRfc822.T22 := by kernel_rfl
theorem spec_ReadRfc822.bits22 : waitsOk spec_ReadRfc822.T22.2 spec_ReadRfc822.B22 = true := by kernel_rfl
def spec_ReadRfc822.T27 : Bool × List (List Nat × List Nat) := (true, [([], []), ([0], [0]), ([1], [1]), ([2], [2]), ([], []), ([4], [4]), ([5], [5]), ([6], [6]), ([], []), ([8], [8]), ([9], [9]), ([10], [10]), ([3, 7, 11], [3, 7, 11]), ([12], [12]), ([13], [13]), ([13], [13]), ([14, 12, 0, 1, 2, 3, 4, 5, 6, 7, 8, 9, 10, 11, 12, 13, 14], [14]), ([15, 16, 0, 1, 2, 3, 4, 5, 6, 7, 8, 9, 10, 11, 12, 13, 14, 15, 16], [15])])
def spec_ReadRfc822.B27 : List Nat := [0, 1, 3, 7, 0, 16, 48, 112, 0, 256, 768, 1792, 4095, 8191, 16383, 16383, 32767, 131071]
theorem spec_ReadRfc822.tab27 : rtab .any (opsOf Try.f23 27) = spec_ReadRfc822.T27 := by kernel_rfl
theorem spec_ReadRfc822.bits27 : waitsOk spec_ReadRfc822.T27.2 spec_ReadRfc822.B27 = true := by kernel_rfl
set_option maxHeartbeats 40000000 in
set_option maxRecDepth 100000 in
theorem spec_ReadRfc822.calls (k : Nat) (a0 : ByteArray) (r1 : Int) (r2 : Int) (w : World) (h : spec_ReadRfc822.f k a0 = some (r1, r2)) :
  Calls Try.prog 23 #[.string a0] w fun e w' => e = .returned (.tuple #[.int .i64 r1, .int .i64 r2]) ∧ Below w.heap.size w w' := by
 have hu28 := Try.underlying28
 have HB := Aside0.mk (Below.refl w.heap.size w)
 have H : (if (a0.size : Int) > 65536 then (some (0, 2)) else (if (a0.size : Int) > 5 then (if 3 < (a0.size : Int) then (if (bt a0 3) = 44 then (if 4 < (a0.size : Int) then (spec_ReadRfc822.j0 k a0 (-1) ((bt a0 4) == 32)) else (none)) else (spec_ReadRfc822.j0 k a0 (-1) false)) else (none)) else (spec_ReadRfc822.j0 k a0 (-1) false))) = some (r1, r2) := h
 clear h
 by_cases c2 : (a0.size : Int) > 65536
 ·rw [if_pos c2] at H
  have c2b0 : decide (65536 < (a0.size : Int)) = true := decide_eq_true c2
  have c2b1 : decide (65536 < a0.size) = true := decide_eq_true (by omega)
  clear c2
  simp only [Option.some.injEq, Prod.mk.injEq] at H
  obtain ⟨rfl, rfl⟩ := H
  go_enter Try.func23, Try.ntmps23
  go_wp2
  go_ret2
  exact ⟨by first | rfl | (simp [errW_none, errW_some] <;> rfl) | (simp [*, errW_none, errW_some] <;> rfl), by repeat (first | (with_reducible first | exact HB.out | apply below_alloc | apply pw_below_drewN | apply below_drew1) | exact HB.out)⟩
 ·rw [if_neg c2] at H
  have c2b0 : decide (65536 < (a0.size : Int)) = false := decide_eq_false c2
  have c2b1 : decide (65536 < a0.size) = false := decide_eq_false (by omega)
  clear c2
  have HC3 := Aside0.mk H
  clear H
  go_enter Try.func23, Try.ntmps23
  go_upto_region 4 with (fail)
  go_cut [28] (fun v28 wc => ∃ (kq : Nat) (x28_2 : Bool), v28 = .bool x28_2 ∧ Aside0 (spec_ReadRfc822.j0 kq a0 (-1) x28_2 = some (r1, r2)) ∧ Aside0 (kq ≤ k) ∧ Aside0 (Below w.heap.size w wc))
  case first =>
   have H := HC3.out
   clear HC3
   by_cases c4 : (a0.size : Int) > 5
   ·rw [if_pos c4] at H
    have c4b0 : decide (5 < (a0.size : Int)) = true := decide_eq_true c4
    have c4b1 : decide (5 < a0.size) = true := decide_eq_true (by omega)
    clear c4
    (first | rw [c4b0] | (simp only [i64_w, i32_w]; rw [c4b0]) | skip)
    by_cases c5 : 3 < (a0.size : Int)
    ·rw [if_pos c5] at H
     have c5b0 : decide (3 < (a0.size : Int)) = true := decide_eq_true c5
     have c5b1 : decide (3 < a0.size) = true := decide_eq_true (by omega)
     clear c5
     by_cases c7 : (bt a0 3) = 44
     ·rw [if_pos c7] at H
      have c7b0 : ((bt a0 3) == 44) = true := beq_iff_eq.mpr c7
      have c7b1 : ((bt a0 3) != 44) = false := bne_eq_false_iff_eq.mpr c7
      clear c7
      by_cases c8 : 4 < (a0.size : Int)
      ·rw [if_pos c8] at H
       have c8b0 : decide (4 < (a0.size : Int)) = true := decide_eq_true c8
       have c8b1 : decide (4 < a0.size) = true := decide_eq_true (by omega)
       clear c8
       have H' := Aside0.mk H
       clear H
       have p6 : 0 ≤ (3 : Int) := (by omega)
       have q6 : 3 < a0.size := (by have : (3 : Int) < (a0.size : Int) := of_decide_eq_true (by first | (with_reducible assumption) | assumption); omega)
       have hx6 : ∀ h : 3 < a0.size, ((a0[3]'h).toNat : Int) = bt a0 3 := bt_at a0 3
       clear p6
       have qi6 : (3 < (a0.size : Int)) = True := eq_true (of_decide_eq_true (by first | (with_reducible assumption) | assumption))
       replace q6 := eq_true q6
       have p9 : 0 ≤ (4 : Int) := (by omega)
       have q9 : 4 < a0.size := (by have : (4 : Int) < (a0.size : Int) := of_decide_eq_true (by first | (with_reducible assumption) | assumption); omega)
       have hx9 : ∀ h : 4 < a0.size, ((a0[4]'h).toNat : Int) = bt a0 4 := bt_at a0 4
       clear p9
       have qi9 : (4 < (a0.size : Int)) = True := eq_true (of_decide_eq_true (by first | (with_reducible assumption) | assumption))
       replace q9 := eq_true q9
       go_wp2
       go_meet
       case rel => exact ⟨_, (((bt a0 4) == 32)), (by first | rfl | (simp; done) | (simp [*]; done) | (simp; rfl) | (simp; unfold wrap64; omega)), H', ⟨by first | omega | exact Nat.le_refl _⟩, ⟨by repeat (first | (with_reducible first | exact HB.out | apply below_alloc | apply pw_below_drewN | apply below_drew1) | exact HB.out)⟩⟩
      ·rw [if_neg c8] at H
       exact absurd H (by simp)
     ·rw [if_neg c7] at H
      have c7b0 : ((bt a0 3) == 44) = false := beq_eq_false_iff_ne.mpr c7
      have c7b1 : ((bt a0 3) != 44) = true := bne_iff_ne.mpr c7
      have H' := Aside0.mk H
      clear H
      have p6 : 0 ≤ (3 : Int) := (by omega)
      have q6 : 3 < a0.size := (by have : (3 : Int) < (a0.size : Int) := of_decide_eq_true (by first | (with_reducible assumption) | assumption); omega)
      have hx6 : ∀ h : 3 < a0.size, ((a0[3]'h).toNat : Int) = bt a0 3 := bt_at a0 3
      clear p6
      have qi6 : (3 < (a0.size : Int)) = True := eq_true (of_decide_eq_true (by first | (with_reducible assumption) | assumption))
      replace q6 := eq_true q6
      go_wp2
      go_meet
      case rel => exact ⟨_, (false), (by first | rfl | (simp; done) | (simp [*]; done) | (simp; rfl) | (simp; unfold wrap64; omega)), H', ⟨by first | omega | exact Nat.le_refl _⟩, ⟨by repeat (first | (with_reducible first | exact HB.out | apply below_alloc | apply pw_below_drewN | apply below_drew1) | exact HB.out)⟩⟩
    ·rw [if_neg c5] at H
     exact absurd H (by simp)
   ·rw [if_neg c4] at H
    have c4b0 : decide (5 < (a0.size : Int)) = false := decide_eq_false c4
    have c4b1 : decide (5 < a0.size) = false := decide_eq_false (by omega)
    clear c4
    (first | rw [c4b0] | (simp only [i64_w, i32_w]; rw [c4b0]) | skip)
    have H' := Aside0.mk H
    clear H
    go_wp2
    go_meet
    case rel => exact ⟨_, (false), (by first | rfl | (simp; done) | (simp [*]; done) | (simp; rfl) | (simp; unfold wrap64; omega)), H', ⟨by first | omega | exact Nat.le_refl _⟩, ⟨by repeat (first | (with_reducible first | exact HB.out | apply below_alloc | apply pw_below_drewN | apply below_drew1) | exact HB.out)⟩⟩
  case rest =>
   clear HC3
   try clear c2
   try clear c2b0
   try clear c2b1
   try clear p2
   try clear c4
   try clear c4b0
   try clear c4b1
   try clear c5
   try clear c5b0
   try clear c5b1
   try clear p6
   try clear q6
   try clear hx6
   try clear qi6
   try clear c7
   try clear c7b0
   try clear c7b1
   try clear c8
   try clear c8b0
   try clear c8b1
   try clear p9
   try clear q9
   try clear hx9
   try clear qi9
   try clear p6
   try clear p9
   try clear q6
   try clear q9
   obtain ⟨kq, x28_2, rfl, HA, HJ2, HB⟩ := hcut
   cases kq with
   | zero => exact absurd HA.out (by simp [spec_ReadRfc822.j0])
   | succ kj2 =>
    have H := HA.out
    clear HA
    simp only [spec_ReadRfc822.j0] at H
    have HC10 := Aside0.mk H
    clear H
    go_upto_if 28 with (fail)
    go_cut [0, 4] (fun v0 v4 wc => ∃ (kq : Nat) (x0_9 : ByteArray) (x4_9 : Int), v0 = .string x0_9 ∧ v4 = .int .i64 x4_9 ∧ Aside0 (spec_ReadRfc822.j2 kq x0_9 x4_9 = some (r1, r2)) ∧ Aside0 (kq ≤ kj2) ∧ Aside0 (Below w.heap.size w wc))
    case first =>
     have H := HC10.out
     clear HC10
     by_cases c11 : x28_2 = true
     ·subst c11
      have H1 : (spec_ReadRfc822.l0 kj2 a0 (-1) 0) = some (r1, r2) := by rw [if_pos rfl] at H; exact H
      clear H
      have H := H1
      clear H1
      have H' := Aside0.mk H
      clear H
      go_wp2
      go_loopg [4, 5] kj2 (fun kq v4 v5 w' => ∃ (x4_2 : Int) (x5_2 : Int), v4 = .int .i64 x4_2 ∧ v5 = .int .i64 x5_2 ∧ Aside0 (spec_ReadRfc822.l0 kq a0 x4_2 x5_2 = some (r1, r2)) ∧ Aside0 (kq ≤ kj2) ∧ Aside0 (Below w.heap.size w w'))
      case atStart => exact ⟨((-1)), (0), (by first | rfl | (simp; done) | (simp [*]; done) | (simp; rfl) | (simp; unfold wrap64; omega)), (by first | rfl | (simp; done) | (simp [*]; done) | (simp; rfl) | (simp; unfold wrap64; omega)), H', ⟨Nat.le_refl _⟩, ⟨by repeat (first | (with_reducible first | exact HB.out | apply below_alloc | apply pw_below_drewN | apply below_drew1) | exact HB.out)⟩⟩
      case round =>
       clear H'
       try clear c1
       try clear c2
       try clear c2b0
       try clear c2b1
       try clear p2
       try clear c4
       try clear c4b0
       try clear c4b1
       try clear c5
       try clear c5b0
       try clear c5b1
       try clear p6
       try clear q6
       try clear hx6
       try clear qi6
       try clear c7
       try clear c7b0
       try clear c7b1
       try clear c8
       try clear c8b0
       try clear c8b1
       try clear p9
       try clear q9
       try clear hx9
       try clear qi9
       try clear c11
       try clear p2
       try clear p6
       try clear p9
       try clear q6
       try clear q9
       obtain ⟨x4_2, x5_2, rfl, rfl, HA, HK2, HB⟩ := hrel
       cases gk with
       | zero => exact absurd HA.out (by simp [spec_ReadRfc822.l0])
       | succ k2 =>
        have H := HA.out
        clear HA
        simp only [spec_ReadRfc822.l0] at H
        by_cases c12 : x5_2 < 7
        ·as_aux_lemma =>
         rw [if_pos c12] at H
         have c12b0 : decide (x5_2 < 7) = true := decide_eq_true c12
         clear c12
         (first | rw [c12b0] | (simp only [i64_w, i32_w]; rw [c12b0]) | skip)
         replace H := Option.bind_eq_some_iff.mp H
         obtain ⟨t142, A130, H⟩ := H
         replace H : (if 3 ≤ (a0.size : Int) then (if t142.toList = (a0.extract 0 3).toList then (spec_ReadRfc822.l0 k2 a0 x5_2 (wrap64 (x5_2 + 1))) else (spec_ReadRfc822.l0 k2 a0 x4_2 (wrap64 (x5_2 + 1)))) else (none)) = some (r1, r2) := H
         have A13 := Aside0.mk A130
         clear A130
         by_cases c14 : 3 ≤ (a0.size : Int)
         ·rw [if_pos c14] at H
          have c14b0 := eq_true c14
          have c14b1 : decide (3 ≤ (a0.size : Int)) = true := decide_eq_true c14
          clear c14
          by_cases c15 : t142.toList = (a0.extract 0 3).toList
          ·rw [if_pos c15] at H
           have c15b0 : (t142.toList == (a0.extract 0 3).toList) = true := beq_iff_eq.mpr c15
           have c15b1 : (t142.toList != (a0.extract 0 3).toList) = false := bne_eq_false_iff_eq.mpr c15
           clear c15
           have H' := Aside0.mk H
           clear H
           try go_wp2
           have n0_ := Aside0.mk (below_drew1 HB.out)
           clear HB
           have HB := n0_
           clear n0_
           refine start_ (n := 5) (S := fun w' => True) (ds := []) #[false, false, false, false, false] (by kernel_rfl) rfl rfl trivial (fun hHeld => ?_)
           generalize wr.drew = w16 at HB hHeld ⊢
           refine pure_ (i := 0) (N := some 33) (v := ?_) (a' := ?_) #[true, false, false, false, false] rfl rfl (by kernel_rfl) (fun _ _ _ h => h) (Or.inl ⟨by rfl, ?_⟩) ?_ ?_
           rotate_left
           ·intro w'
            go_simp
            with_reducible rfl
           rotate_left
           ·simp only [Act.put, List.setIfInBounds_toArray, List.set_cons_zero, List.set_cons_succ, i64_w, i32_w]
            rfl
           refine pure_ (i := 2) (N := some 35) (v := ?_) (a' := ?_) #[true, false, true, false, false] rfl rfl (by kernel_rfl) (fun _ _ _ h => h) (Or.inl ⟨by rfl, ?_⟩) ?_ ?_
           rotate_left
           ·intro w'
            go_simp
            with_reducible rfl
           rotate_left
           ·simp only [Act.put, List.setIfInBounds_toArray, List.set_cons_zero, List.set_cons_succ, i64_w, i32_w]
            rfl
           refine pure_ (i := 3) (N := some 36) (v := ?_) (a' := ?_) #[true, false, true, true, false] rfl rfl (by kernel_rfl) (fun _ _ _ h => h) (Or.inl ⟨by rfl, ?_⟩) ?_ ?_
           rotate_left
           ·intro w'
            go_simp
            with_reducible rfl
           rotate_left
           ·simp only [Act.put, List.setIfInBounds_toArray, List.set_cons_zero, List.set_cons_succ, i64_w, i32_w]
            rfl
           refine one_ (i := 1) (N := some 34) #[true, true, true, true, false] rfl rfl (by kernel_rfl) (by decide) (fun K hK => ?_)
           refine goes_ Try.func47 (by kernel_rfl) rfl #[.int .i64 x5_2] (by rfl) rfl rfl (by (try simp only [List.map_toArray, List.map_cons, List.map_nil]); first | done | rfl | (simp only [List.length_drop, List.length_take]; rfl)) ?_
           with_reducible refine (spec_l04Weekday.calls x5_2 t142 _ A13.out).mono ?_
           rintro e w17 ⟨rfl, hb⟩
           refine ⟨_, rfl, ?_⟩
           have n0_ := Aside0.mk (below_step (by repeat (first | (with_reducible first | exact HB.out | apply below_alloc | apply pw_below_drewN | apply below_drew1) | exact HB.out)) hb)
           clear HB
           have HB := n0_
           clear n0_
           (try clear hb)
           (try clear hb2)
           (try clear hk)
           (try clear hi)
           refine hK.out _ _ trivial (fun hHeld => ?_)
           clear hK K
           refine norm_ (a' := ?_) ?_ ?_
           rotate_left
           ·show Act.put _ (some 34) _ = _
            simp only [Act.put, List.setIfInBounds_toArray, List.set_cons_zero, List.set_cons_succ, i64_w, i32_w]
            rfl
           refine pure_ (i := 4) (N := some 37) (v := ?_) (a' := ?_) #[true, true, true, true, true] rfl rfl (by kernel_rfl) (fun _ _ _ h => h) (Or.inl ⟨by rfl, ?_⟩) ?_ ?_
           rotate_left
           ·intro w'
            go_simp
            with_reducible rfl
           rotate_left
           ·simp only [Act.put, List.setIfInBounds_toArray, List.set_cons_zero, List.set_cons_succ, i64_w, i32_w]
            rfl
           refine done_ (by kernel_rfl) ?_
           try go_wp2
           go_roundg k2
           case measure => have := HJ2.out; have := HK2.out; omega
           case rel => exact ⟨(x5_2), (wrap64 (x5_2 + 1)), (by first | rfl | (simp; done) | (simp [*]; done) | (simp; rfl) | (simp; unfold wrap64; omega)), (by first | rfl | (simp; done) | (simp [*]; done) | (simp; rfl) | (simp; unfold wrap64; omega)), H', ⟨by have := HJ2.out; have := HK2.out; omega⟩, ⟨by repeat (first | (with_reducible first | exact HB.out | apply below_alloc | apply pw_below_drewN | apply below_drew1) | exact HB.out)⟩⟩
          ·rw [if_neg c15] at H
           have c15b0 : (t142.toList == (a0.extract 0 3).toList) = false := beq_eq_false_iff_ne.mpr c15
           have c15b1 : (t142.toList != (a0.extract 0 3).toList) = true := bne_iff_ne.mpr c15
           have H' := Aside0.mk H
           clear H
           try go_wp2
           have n0_ := Aside0.mk (below_drew1 HB.out)
           clear HB
           have HB := n0_
           clear n0_
           refine start_ (n := 5) (S := fun w' => True) (ds := []) #[false, false, false, false, false] (by kernel_rfl) rfl rfl trivial (fun hHeld => ?_)
           generalize wr.drew = w18 at HB hHeld ⊢
           refine pure_ (i := 0) (N := some 33) (v := ?_) (a' := ?_) #[true, false, false, false, false] rfl rfl (by kernel_rfl) (fun _ _ _ h => h) (Or.inl ⟨by rfl, ?_⟩) ?_ ?_
           rotate_left
           ·intro w'
            go_simp
            with_reducible rfl
           rotate_left
           ·simp only [Act.put, List.setIfInBounds_toArray, List.set_cons_zero, List.set_cons_succ, i64_w, i32_w]
            rfl
           refine pure_ (i := 2) (N := some 35) (v := ?_) (a' := ?_) #[true, false, true, false, false] rfl rfl (by kernel_rfl) (fun _ _ _ h => h) (Or.inl ⟨by rfl, ?_⟩) ?_ ?_
           rotate_left
           ·intro w'
            go_simp
            with_reducible rfl
           rotate_left
           ·simp only [Act.put, List.setIfInBounds_toArray, List.set_cons_zero, List.set_cons_succ, i64_w, i32_w]
            rfl
           refine pure_ (i := 3) (N := some 36) (v := ?_) (a' := ?_) #[true, false, true, true, false] rfl rfl (by kernel_rfl) (fun _ _ _ h => h) (Or.inl ⟨by rfl, ?_⟩) ?_ ?_
           rotate_left
           ·intro w'
            go_simp
            with_reducible rfl
           rotate_left
           ·simp only [Act.put, List.setIfInBounds_toArray, List.set_cons_zero, List.set_cons_succ, i64_w, i32_w]
            rfl
           refine one_ (i := 1) (N := some 34) #[true, true, true, true, false] rfl rfl (by kernel_rfl) (by decide) (fun K hK => ?_)
           refine goes_ Try.func47 (by kernel_rfl) rfl #[.int .i64 x5_2] (by rfl) rfl rfl (by (try simp only [List.map_toArray, List.map_cons, List.map_nil]); first | done | rfl | (simp only [List.length_drop, List.length_take]; rfl)) ?_
           with_reducible refine (spec_l04Weekday.calls x5_2 t142 _ A13.out).mono ?_
           rintro e w19 ⟨rfl, hb⟩
           refine ⟨_, rfl, ?_⟩
           have n0_ := Aside0.mk (below_step (by repeat (first | (with_reducible first | exact HB.out | apply below_alloc | apply pw_below_drewN | apply below_drew1) | exact HB.out)) hb)
           clear HB
           have HB := n0_
           clear n0_
           (try clear hb)
           (try clear hb2)
           (try clear hk)
           (try clear hi)
           refine hK.out _ _ trivial (fun hHeld => ?_)
           clear hK K
           refine norm_ (a' := ?_) ?_ ?_
           rotate_left
           ·show Act.put _ (some 34) _ = _
            simp only [Act.put, List.setIfInBounds_toArray, List.set_cons_zero, List.set_cons_succ, i64_w, i32_w]
            rfl
           refine pure_ (i := 4) (N := some 37) (v := ?_) (a' := ?_) #[true, true, true, true, true] rfl rfl (by kernel_rfl) (fun _ _ _ h => h) (Or.inl ⟨by rfl, ?_⟩) ?_ ?_
           rotate_left
           ·intro w'
            go_simp
            with_reducible rfl
           rotate_left
           ·simp only [Act.put, List.setIfInBounds_toArray, List.set_cons_zero, List.set_cons_succ, i64_w, i32_w]
            rfl
           refine done_ (by kernel_rfl) ?_
           try go_wp2
           go_roundg k2
           case measure => have := HJ2.out; have := HK2.out; omega
           case rel => exact ⟨(x4_2), (wrap64 (x5_2 + 1)), (by first | rfl | (simp; done) | (simp [*]; done) | (simp; rfl) | (simp; unfold wrap64; omega)), (by first | rfl | (simp; done) | (simp [*]; done) | (simp; rfl) | (simp; unfold wrap64; omega)), H', ⟨by have := HJ2.out; have := HK2.out; omega⟩, ⟨by repeat (first | (with_reducible first | exact HB.out | apply below_alloc | apply pw_below_drewN | apply below_drew1) | exact HB.out)⟩⟩
         ·rw [if_neg c14] at H
          exact absurd H (by simp)
        ·rw [if_neg c12] at H
         have c12b0 : decide (x5_2 < 7) = false := decide_eq_false c12
         clear c12
         (first | rw [c12b0] | (simp only [i64_w, i32_w]; rw [c12b0]) | skip)
         by_cases c20 : x4_2 < 0
         ·rw [if_pos c20] at H
          have c20b0 : decide (x4_2 < 0) = true := decide_eq_true c20
          clear c20
          simp only [Option.some.injEq, Prod.mk.injEq] at H
          obtain ⟨rfl, rfl⟩ := H
          go_wp2
          go_ret2
          exact ⟨by first | rfl | (simp [errW_none, errW_some] <;> rfl) | (simp [*, errW_none, errW_some] <;> rfl), by repeat (first | (with_reducible first | exact HB.out | apply below_alloc | apply pw_below_drewN | apply below_drew1) | exact HB.out)⟩
         ·rw [if_neg c20] at H
          have c20b0 : decide (x4_2 < 0) = false := decide_eq_false c20
          clear c20
          by_cases c21 : 5 ≤ (a0.size : Int)
          ·rw [if_pos c21] at H
           have c21b0 := eq_true c21
           have c21b1 : decide (5 ≤ (a0.size : Int)) = true := decide_eq_true c21
           clear c21
           have H' := Aside0.mk H
           clear H
           go_wp2
           go_meet
           case rel => exact ⟨_, (a0.extract 5 a0.size), (x4_2), (by first | rfl | (simp; done) | (simp [*]; done) | (simp; rfl) | (simp; unfold wrap64; omega)), (by first | rfl | (simp; done) | (simp [*]; done) | (simp; rfl) | (simp; unfold wrap64; omega)), H', ⟨by have := HJ2.out; have := HK2.out; first | omega | exact Nat.le_refl _⟩, ⟨by repeat (first | (with_reducible first | exact HB.out | apply below_alloc | apply pw_below_drewN | apply below_drew1) | exact HB.out)⟩⟩
          ·rw [if_neg c21] at H
           exact absurd H (by simp)
     ·replace c11 := Bool.eq_false_iff.mpr c11
      subst c11
      have H1 : (spec_ReadRfc822.j2 kj2 a0 (-1)) = some (r1, r2) := by rw [if_neg (show ¬ (false = true) by decide)] at H; exact H
      clear H
      have H := H1
      clear H1
      have H' := Aside0.mk H
      clear H
      go_wp2
      go_meet
      case rel => exact ⟨_, (a0), ((-1)), (by first | rfl | (simp; done) | (simp [*]; done) | (simp; rfl) | (simp; unfold wrap64; omega)), (by first | rfl | (simp; done) | (simp [*]; done) | (simp; rfl) | (simp; unfold wrap64; omega)), H', ⟨by have := HJ2.out; first | omega | exact Nat.le_refl _⟩, ⟨by repeat (first | (with_reducible first | exact HB.out | apply below_alloc | apply pw_below_drewN | apply below_drew1) | exact HB.out)⟩⟩
    case rest =>
     clear HC10
     try clear c1
     try clear c2
     try clear c2b0
     try clear c2b1
     try clear p2
     try clear c4
     try clear c4b0
     try clear c4b1
     try clear c5
     try clear c5b0
     try clear c5b1
     try clear p6
     try clear q6
     try clear hx6
     try clear qi6
     try clear c7
     try clear c7b0
     try clear c7b1
     try clear c8
     try clear c8b0
     try clear c8b1
     try clear p9
     try clear q9
     try clear hx9
     try clear qi9
     try clear c11
     try clear c12
     try clear c12b0
     try clear c14
     try clear c14b0
     try clear c14b1
     try clear c15
     try clear c15b0
     try clear c15b1
     try clear c20
     try clear c20b0
     try clear c21
     try clear c21b0
     try clear c21b1
     try clear p2
     try clear p6
     try clear p9
     try clear q6
     try clear q9
     obtain ⟨kq, x0_9, x4_9, rfl, rfl, HA, HJ9, HB⟩ := hcut
     cases kq with
     | zero => exact absurd HA.out (by simp [spec_ReadRfc822.j2])
     | succ kj9 =>
      have H := HA.out
      clear HA
      simp only [spec_ReadRfc822.j2] at H
      replace H := Option.bind_eq_some_iff.mp H
      obtain ⟨t143, A220, H⟩ := H
      replace H : (if (t143.length : Int) = 5 then (if 0 < (t143.length : Int) then ((spec_l01In.f ((rdOf ByteArray.empty t143 0).size : Int) 1 2).bind fun t147 => (if t147 = true then (if 2 < (t143.length : Int) then (if ((rdOf ByteArray.empty t143 2).size : Int) = 4 then (if 3 < (t143.length : Int) then (if ((rdOf ByteArray.empty t143 3).size : Int) = 8 then (if 2 < ((rdOf ByteArray.empty t143 3).size : Int) then (if (bt (rdOf ByteArray.empty t143 3) 2) = 58 then (if 5 < ((rdOf ByteArray.empty t143 3).size : Int) then (spec_ReadRfc822.j3 kj9 x4_9 t143 ((bt (rdOf ByteArray.empty t143 3) 5) != 58)) else (none)) else (spec_ReadRfc822.j3 kj9 x4_9 t143 true)) else (none)) else (spec_ReadRfc822.j3 kj9 x4_9 t143 true)) else (none)) else (spec_ReadRfc822.j3 kj9 x4_9 t143 true)) else (none)) else (spec_ReadRfc822.j3 kj9 x4_9 t143 true))) else (none)) else (spec_ReadRfc822.j3 kj9 x4_9 t143 true)) = some (r1, r2) := H
      have A22 := Aside0.mk A220
      clear A220
      have HC23 := Aside0.mk H
      clear H
      go_upto_region 14 with (first | ((with_reducible refine gate_callee (f := 48) rfl ?_); refine goesL_ (some 44) rfl rfl Try.func48 (by kernel_rfl) rfl #[.string x0_9, .int .u8 32] rfl (by (try simp only [List.map_toArray, List.map_cons, List.map_nil]); first | done | rfl | (simp only [List.length_drop, List.length_take]; rfl)) ?_; (with_reducible refine (spec_l00Cut.calls kj9 x0_9 32 t143 _ A22.out).mono ?_); rintro e w24 ⟨v144, rfl, ho0, hb⟩; refine ⟨_, rfl, ?_⟩; have n0_ := Aside0.mk (Kd.R_lower ho0 (below_size (by repeat (first | (with_reducible first | exact HB.out | apply below_alloc | apply pw_below_drewN | apply below_drew1) | exact HB.out)))); have n1_ := Aside0.mk (below_step (by repeat (first | (with_reducible first | exact HB.out | apply below_alloc | apply pw_below_drewN | apply below_drew1) | exact HB.out)) hb); clear HB; have HO145 := n0_; have HB := n1_; clear n0_ n1_; (try clear hb); (try clear hb2); (try clear hk); (try clear hi); (try clear ho0)))
      (try simp only [Act.put, List.setIfInBounds_toArray, List.set_cons_zero, List.set_cons_succ])
      go_cut [83] (fun v83 wc => ∃ (kq : Nat) (x83_22 : Bool), v83 = .bool x83_22 ∧ Aside0 (spec_ReadRfc822.j3 kq x4_9 t143 x83_22 = some (r1, r2)) ∧ Aside0 (kq ≤ kj9) ∧ Aside0 (Kd.R Kd.string 9 wc w.heap.size (fun _ => True) v144 t143) ∧ Aside0 (Below w.heap.size w wc))
      case first =>
       have H := HC23.out
       clear HC23
       by_cases c25 : (t143.length : Int) = 5
       ·as_aux_lemma =>
        rw [if_pos c25] at H
        have c25b0 : ((t143.length : Int) == 5) = true := beq_iff_eq.mpr c25
        have c25b1 : ((t143.length : Int) != 5) = false := bne_eq_false_iff_eq.mpr c25
        clear c25
        (first | rw [c25b0] | (simp only [i64_w, i32_w]; rw [c25b0]) | skip)
        by_cases c26 : 0 < (t143.length : Int)
        ·rw [if_pos c26] at H
         have c26b0 : decide (0 < (t143.length : Int)) = true := decide_eq_true c26
         have c26b1 : decide (0 < t143.length) = true := decide_eq_true (by omega)
         clear c26
         replace H := Option.bind_eq_some_iff.mp H
         obtain ⟨t147, A270, H⟩ := H
         replace H : (if t147 = true then (if 2 < (t143.length : Int) then (if ((rdOf ByteArray.empty t143 2).size : Int) = 4 then (if 3 < (t143.length : Int) then (if ((rdOf ByteArray.empty t143 3).size : Int) = 8 then (if 2 < ((rdOf ByteArray.empty t143 3).size : Int) then (if (bt (rdOf ByteArray.empty t143 3) 2) = 58 then (if 5 < ((rdOf ByteArray.empty t143 3).size : Int) then (spec_ReadRfc822.j3 kj9 x4_9 t143 ((bt (rdOf ByteArray.empty t143 3) 5) != 58)) else (none)) else (spec_ReadRfc822.j3 kj9 x4_9 t143 true)) else (none)) else (spec_ReadRfc822.j3 kj9 x4_9 t143 true)) else (none)) else (spec_ReadRfc822.j3 kj9 x4_9 t143 true)) else (none)) else (spec_ReadRfc822.j3 kj9 x4_9 t143 true)) = some (r1, r2) := H
         have A27 := Aside0.mk A270
         clear A270
         by_cases c28 : t147 = true
         ·subst c28
          have H1 : (if 2 < (t143.length : Int) then (if ((rdOf ByteArray.empty t143 2).size : Int) = 4 then (if 3 < (t143.length : Int) then (if ((rdOf ByteArray.empty t143 3).size : Int) = 8 then (if 2 < ((rdOf ByteArray.empty t143 3).size : Int) then (if (bt (rdOf ByteArray.empty t143 3) 2) = 58 then (if 5 < ((rdOf ByteArray.empty t143 3).size : Int) then (spec_ReadRfc822.j3 kj9 x4_9 t143 ((bt (rdOf ByteArray.empty t143 3) 5) != 58)) else (none)) else (spec_ReadRfc822.j3 kj9 x4_9 t143 true)) else (none)) else (spec_ReadRfc822.j3 kj9 x4_9 t143 true)) else (none)) else (spec_ReadRfc822.j3 kj9 x4_9 t143 true)) else (none)) = some (r1, r2) := by rw [if_pos rfl] at H; exact H
          clear H
          have H := H1
          clear H1
          by_cases c29 : 2 < (t143.length : Int)
          ·rw [if_pos c29] at H
           have c29b0 : decide (2 < (t143.length : Int)) = true := decide_eq_true c29
           have c29b1 : decide (2 < t143.length) = true := decide_eq_true (by omega)
           clear c29
           by_cases c30 : ((rdOf ByteArray.empty t143 2).size : Int) = 4
           ·rw [if_pos c30] at H
            have c30b0 : (((rdOf ByteArray.empty t143 2).size : Int) == 4) = true := beq_iff_eq.mpr c30
            have c30b1 : (((rdOf ByteArray.empty t143 2).size : Int) != 4) = false := bne_eq_false_iff_eq.mpr c30
            clear c30
            by_cases c31 : 3 < (t143.length : Int)
            ·rw [if_pos c31] at H
             have c31b0 : decide (3 < (t143.length : Int)) = true := decide_eq_true c31
             have c31b1 : decide (3 < t143.length) = true := decide_eq_true (by omega)
             clear c31
             by_cases c32 : ((rdOf ByteArray.empty t143 3).size : Int) = 8
             ·rw [if_pos c32] at H
              have c32b0 : (((rdOf ByteArray.empty t143 3).size : Int) == 8) = true := beq_iff_eq.mpr c32
              have c32b1 : (((rdOf ByteArray.empty t143 3).size : Int) != 8) = false := bne_eq_false_iff_eq.mpr c32
              clear c32
              by_cases c33 : 2 < ((rdOf ByteArray.empty t143 3).size : Int)
              ·rw [if_pos c33] at H
               have c33b0 : decide (2 < ((rdOf ByteArray.empty t143 3).size : Int)) = true := decide_eq_true c33
               have c33b1 : decide (2 < (rdOf ByteArray.empty t143 3).size) = true := decide_eq_true (by omega)
               clear c33
               by_cases c35 : (bt (rdOf ByteArray.empty t143 3) 2) = 58
               ·rw [if_pos c35] at H
                have c35b0 : ((bt (rdOf ByteArray.empty t143 3) 2) == 58) = true := beq_iff_eq.mpr c35
                have c35b1 : ((bt (rdOf ByteArray.empty t143 3) 2) != 58) = false := bne_eq_false_iff_eq.mpr c35
                clear c35
                by_cases c36 : 5 < ((rdOf ByteArray.empty t143 3).size : Int)
                ·rw [if_pos c36] at H
                 have c36b0 : decide (5 < ((rdOf ByteArray.empty t143 3).size : Int)) = true := decide_eq_true c36
                 have c36b1 : decide (5 < (rdOf ByteArray.empty t143 3).size) = true := decide_eq_true (by omega)
                 clear c36
                 have H' := Aside0.mk H
                 clear H
                 obtain ⟨Ao38, co38, eo38⟩ := Kd.R_slice HO145.out
                 subst eo38
                 have p146 : 0 ≤ (0 : Int) := (by omega)
                 have q146 : 0 < (t143.length : Int) := of_decide_eq_true (by first | (with_reducible assumption) | assumption)
                 obtain ⟨ad146, e146, hx146_0⟩ := Kd.at_string (Kd.R_reads' HO145.out).2.2 0 p146 q146
                 cases e146
                 have qi146 : (0 < t143.length) = True := eq_true (by omega)
                 (try rw [show ((0 : Int)).toNat = 0 from rfl] at hx146_0)
                 (try rw [Addr.add_zero'] at hx146_0)
                 replace p146 := eq_true p146
                 replace q146 := eq_true q146
                 go_wp2_with (first | (go_at_call 25; (with_reducible refine (spec_l01In.calls ((rdOf ByteArray.empty t143 0).size : Int) 1 2 true _ A27.out).mono ?_); rintro e w' ⟨rfl, ⟨nd, rfl⟩⟩; have p148 : 0 ≤ (2 : Int) := (by omega); have q148 : 2 < (t143.length : Int) := of_decide_eq_true (by first | (with_reducible assumption) | assumption); obtain ⟨ad148, e148, hx148_0⟩ := Kd.at_string (Kd.R_reads' HO145.out).2.2 2 p148 q148; obtain rfl : ad146 = ad148 := (by injection e148); (try simp only [show (2 : Int).toNat = 2 from rfl, Nat.reduceMul, Nat.reduceEqDiff, Go.Addr.add, ↓reduceIte] at hx148_0); have qi148 : (2 < t143.length) = True := eq_true (by omega); (try rw [show ((2 : Int)).toNat = 2 from rfl] at hx148_0); replace p148 := eq_true p148; replace q148 := eq_true q148; have p149 : 0 ≤ (3 : Int) := (by omega); have q149 : 3 < (t143.length : Int) := of_decide_eq_true (by first | (with_reducible assumption) | assumption); obtain ⟨ad149, e149, hx149_0⟩ := Kd.at_string (Kd.R_reads' HO145.out).2.2 3 p149 q149; obtain rfl : ad146 = ad149 := (by injection e149); (try simp only [show (3 : Int).toNat = 3 from rfl, Nat.reduceMul, Nat.reduceEqDiff, Go.Addr.add, ↓reduceIte] at hx149_0); have qi149 : (3 < t143.length) = True := eq_true (by omega); (try rw [show ((3 : Int)).toNat = 3 from rfl] at hx149_0); replace p149 := eq_true p149; replace q149 := eq_true q149; have p150 : 0 ≤ (3 : Int) := (by omega); have q150 : 3 < (t143.length : Int) := of_decide_eq_true (by first | (with_reducible assumption) | assumption); obtain ⟨ad150, e150, hx150_0⟩ := Kd.at_string (Kd.R_reads' HO145.out).2.2 3 p150 q150; obtain rfl : ad146 = ad150 := (by injection e150); (try simp only [show (3 : Int).toNat = 3 from rfl, Nat.reduceMul, Nat.reduceEqDiff, Go.Addr.add, ↓reduceIte] at hx150_0); have qi150 : (3 < t143.length) = True := eq_true (by omega); (try rw [show ((3 : Int)).toNat = 3 from rfl] at hx150_0); replace p150 := eq_true p150; replace q150 := eq_true q150; have p34 : 0 ≤ (2 : Int) := (by omega); have q34 : 2 < (rdOf ByteArray.empty t143 3).size := (by have : (2 : Int) < ((rdOf ByteArray.empty t143 3).size : Int) := of_decide_eq_true (by first | (with_reducible assumption) | assumption); omega); have hx34 : ∀ h : 2 < (rdOf ByteArray.empty t143 3).size, (((rdOf ByteArray.empty t143 3)[2]'h).toNat : Int) = bt (rdOf ByteArray.empty t143 3) 2 := bt_at (rdOf ByteArray.empty t143 3) 2; clear p34; have qi34 : (2 < ((rdOf ByteArray.empty t143 3).size : Int)) = True := eq_true (of_decide_eq_true (by first | (with_reducible assumption) | assumption)); replace q34 := eq_true q34; have p151 : 0 ≤ (3 : Int) := (by omega); have q151 : 3 < (t143.length : Int) := of_decide_eq_true (by first | (with_reducible assumption) | assumption); obtain ⟨ad151, e151, hx151_0⟩ := Kd.at_string (Kd.R_reads' HO145.out).2.2 3 p151 q151; obtain rfl : ad146 = ad151 := (by injection e151); (try simp only [show (3 : Int).toNat = 3 from rfl, Nat.reduceMul, Nat.reduceEqDiff, Go.Addr.add, ↓reduceIte] at hx151_0); have qi151 : (3 < t143.length) = True := eq_true (by omega); (try rw [show ((3 : Int)).toNat = 3 from rfl] at hx151_0); replace p151 := eq_true p151; replace q151 := eq_true q151; have p37 : 0 ≤ (5 : Int) := (by omega); have q37 : 5 < (rdOf ByteArray.empty t143 3).size := (by have : (5 : Int) < ((rdOf ByteArray.empty t143 3).size : Int) := of_decide_eq_true (by first | (with_reducible assumption) | assumption); omega); have hx37 : ∀ h : 5 < (rdOf ByteArray.empty t143 3).size, (((rdOf ByteArray.empty t143 3)[5]'h).toNat : Int) = bt (rdOf ByteArray.empty t143 3) 5 := bt_at (rdOf ByteArray.empty t143 3) 5; clear p37; have qi37 : (5 < ((rdOf ByteArray.empty t143 3).size : Int)) = True := eq_true (of_decide_eq_true (by first | (with_reducible assumption) | assumption)); replace q37 := eq_true q37))
                 go_meet
                 case rel => exact ⟨_, (((bt (rdOf ByteArray.empty t143 3) 5) != 58)), (by first | rfl | (simp; done) | (simp [*]; done) | (simp; rfl) | (simp; unfold wrap64; omega)), H', ⟨by have := HJ2.out; have := HJ9.out; first | omega | exact Nat.le_refl _⟩, ⟨by (with_reducible repeat (first | apply Kd.R_alloc | apply Kd.R_drewN | apply Kd.R_drew)); exact HO145.out⟩, ⟨by repeat (first | (with_reducible first | exact HB.out | apply below_alloc | apply pw_below_drewN | apply below_drew1) | exact HB.out)⟩⟩
                ·rw [if_neg c36] at H
                 exact absurd H (by simp)
               ·rw [if_neg c35] at H
                have c35b0 : ((bt (rdOf ByteArray.empty t143 3) 2) == 58) = false := beq_eq_false_iff_ne.mpr c35
                have c35b1 : ((bt (rdOf ByteArray.empty t143 3) 2) != 58) = true := bne_iff_ne.mpr c35
                have H' := Aside0.mk H
                clear H
                obtain ⟨Ao39, co39, eo39⟩ := Kd.R_slice HO145.out
                subst eo39
                have p146 : 0 ≤ (0 : Int) := (by omega)
                have q146 : 0 < (t143.length : Int) := of_decide_eq_true (by first | (with_reducible assumption) | assumption)
                obtain ⟨ad146, e146, hx146_0⟩ := Kd.at_string (Kd.R_reads' HO145.out).2.2 0 p146 q146
                cases e146
                have qi146 : (0 < t143.length) = True := eq_true (by omega)
                (try rw [show ((0 : Int)).toNat = 0 from rfl] at hx146_0)
                (try rw [Addr.add_zero'] at hx146_0)
                replace p146 := eq_true p146
                replace q146 := eq_true q146
                go_wp2_with (first | (go_at_call 25; (with_reducible refine (spec_l01In.calls ((rdOf ByteArray.empty t143 0).size : Int) 1 2 true _ A27.out).mono ?_); rintro e w' ⟨rfl, ⟨nd, rfl⟩⟩; have p148 : 0 ≤ (2 : Int) := (by omega); have q148 : 2 < (t143.length : Int) := of_decide_eq_true (by first | (with_reducible assumption) | assumption); obtain ⟨ad148, e148, hx148_0⟩ := Kd.at_string (Kd.R_reads' HO145.out).2.2 2 p148 q148; obtain rfl : ad146 = ad148 := (by injection e148); (try simp only [show (2 : Int).toNat = 2 from rfl, Nat.reduceMul, Nat.reduceEqDiff, Go.Addr.add, ↓reduceIte] at hx148_0); have qi148 : (2 < t143.length) = True := eq_true (by omega); (try rw [show ((2 : Int)).toNat = 2 from rfl] at hx148_0); replace p148 := eq_true p148; replace q148 := eq_true q148; have p149 : 0 ≤ (3 : Int) := (by omega); have q149 : 3 < (t143.length : Int) := of_decide_eq_true (by first | (with_reducible assumption) | assumption); obtain ⟨ad149, e149, hx149_0⟩ := Kd.at_string (Kd.R_reads' HO145.out).2.2 3 p149 q149; obtain rfl : ad146 = ad149 := (by injection e149); (try simp only [show (3 : Int).toNat = 3 from rfl, Nat.reduceMul, Nat.reduceEqDiff, Go.Addr.add, ↓reduceIte] at hx149_0); have qi149 : (3 < t143.length) = True := eq_true (by omega); (try rw [show ((3 : Int)).toNat = 3 from rfl] at hx149_0); replace p149 := eq_true p149; replace q149 := eq_true q149; have p150 : 0 ≤ (3 : Int) := (by omega); have q150 : 3 < (t143.length : Int) := of_decide_eq_true (by first | (with_reducible assumption) | assumption); obtain ⟨ad150, e150, hx150_0⟩ := Kd.at_string (Kd.R_reads' HO145.out).2.2 3 p150 q150; obtain rfl : ad146 = ad150 := (by injection e150); (try simp only [show (3 : Int).toNat = 3 from rfl, Nat.reduceMul, Nat.reduceEqDiff, Go.Addr.add, ↓reduceIte] at hx150_0); have qi150 : (3 < t143.length) = True := eq_true (by omega); (try rw [show ((3 : Int)).toNat = 3 from rfl] at hx150_0); replace p150 := eq_true p150; replace q150 := eq_true q150; have p34 : 0 ≤ (2 : Int) := (by omega); have q34 : 2 < (rdOf ByteArray.empty t143 3).size := (by have : (2 : Int) < ((rdOf ByteArray.empty t143 3).size : Int) := of_decide_eq_true (by first | (with_reducible assumption) | assumption); omega); have hx34 : ∀ h : 2 < (rdOf ByteArray.empty t143 3).size, (((rdOf ByteArray.empty t143 3)[2]'h).toNat : Int) = bt (rdOf ByteArray.empty t143 3) 2 := bt_at (rdOf ByteArray.empty t143 3) 2; clear p34; have qi34 : (2 < ((rdOf ByteArray.empty t143 3).size : Int)) = True := eq_true (of_decide_eq_true (by first | (with_reducible assumption) | assumption)); replace q34 := eq_true q34))
                go_meet
                case rel => exact ⟨_, (true), (by first | rfl | (simp; done) | (simp [*]; done) | (simp; rfl) | (simp; unfold wrap64; omega)), H', ⟨by have := HJ2.out; have := HJ9.out; first | omega | exact Nat.le_refl _⟩, ⟨by (with_reducible repeat (first | apply Kd.R_alloc | apply Kd.R_drewN | apply Kd.R_drew)); exact HO145.out⟩, ⟨by repeat (first | (with_reducible first | exact HB.out | apply below_alloc | apply pw_below_drewN | apply below_drew1) | exact HB.out)⟩⟩
              ·rw [if_neg c33] at H
               exact absurd H (by simp)
             ·rw [if_neg c32] at H
              have c32b0 : (((rdOf ByteArray.empty t143 3).size : Int) == 8) = false := beq_eq_false_iff_ne.mpr c32
              have c32b1 : (((rdOf ByteArray.empty t143 3).size : Int) != 8) = true := bne_iff_ne.mpr c32
              have H' := Aside0.mk H
              clear H
              obtain ⟨Ao40, co40, eo40⟩ := Kd.R_slice HO145.out
              subst eo40
              have p146 : 0 ≤ (0 : Int) := (by omega)
              have q146 : 0 < (t143.length : Int) := of_decide_eq_true (by first | (with_reducible assumption) | assumption)
              obtain ⟨ad146, e146, hx146_0⟩ := Kd.at_string (Kd.R_reads' HO145.out).2.2 0 p146 q146
              cases e146
              have qi146 : (0 < t143.length) = True := eq_true (by omega)
              (try rw [show ((0 : Int)).toNat = 0 from rfl] at hx146_0)
              (try rw [Addr.add_zero'] at hx146_0)
              replace p146 := eq_true p146
              replace q146 := eq_true q146
              go_wp2_with (first | (go_at_call 25; (with_reducible refine (spec_l01In.calls ((rdOf ByteArray.empty t143 0).size : Int) 1 2 true _ A27.out).mono ?_); rintro e w' ⟨rfl, ⟨nd, rfl⟩⟩; have p148 : 0 ≤ (2 : Int) := (by omega); have q148 : 2 < (t143.length : Int) := of_decide_eq_true (by first | (with_reducible assumption) | assumption); obtain ⟨ad148, e148, hx148_0⟩ := Kd.at_string (Kd.R_reads' HO145.out).2.2 2 p148 q148; obtain rfl : ad146 = ad148 := (by injection e148); (try simp only [show (2 : Int).toNat = 2 from rfl, Nat.reduceMul, Nat.reduceEqDiff, Go.Addr.add, ↓reduceIte] at hx148_0); have qi148 : (2 < t143.length) = True := eq_true (by omega); (try rw [show ((2 : Int)).toNat = 2 from rfl] at hx148_0); replace p148 := eq_true p148; replace q148 := eq_true q148; have p149 : 0 ≤ (3 : Int) := (by omega); have q149 : 3 < (t143.length : Int) := of_decide_eq_true (by first | (with_reducible assumption) | assumption); obtain ⟨ad149, e149, hx149_0⟩ := Kd.at_string (Kd.R_reads' HO145.out).2.2 3 p149 q149; obtain rfl : ad146 = ad149 := (by injection e149); (try simp only [show (3 : Int).toNat = 3 from rfl, Nat.reduceMul, Nat.reduceEqDiff, Go.Addr.add, ↓reduceIte] at hx149_0); have qi149 : (3 < t143.length) = True := eq_true (by omega); (try rw [show ((3 : Int)).toNat = 3 from rfl] at hx149_0); replace p149 := eq_true p149; replace q149 := eq_true q149))
              go_meet
              case rel => exact ⟨_, (true), (by first | rfl | (simp; done) | (simp [*]; done) | (simp; rfl) | (simp; unfold wrap64; omega)), H', ⟨by have := HJ2.out; have := HJ9.out; first | omega | exact Nat.le_refl _⟩, ⟨by (with_reducible repeat (first | apply Kd.R_alloc | apply Kd.R_drewN | apply Kd.R_drew)); exact HO145.out⟩, ⟨by repeat (first | (with_reducible first | exact HB.out | apply below_alloc | apply pw_below_drewN | apply below_drew1) | exact HB.out)⟩⟩
            ·rw [if_neg c31] at H
             exact absurd H (by simp)
           ·rw [if_neg c30] at H
            have c30b0 : (((rdOf ByteArray.empty t143 2).size : Int) == 4) = false := beq_eq_false_iff_ne.mpr c30
            have c30b1 : (((rdOf ByteArray.empty t143 2).size : Int) != 4) = true := bne_iff_ne.mpr c30
            have H' := Aside0.mk H
            clear H
            obtain ⟨Ao41, co41, eo41⟩ := Kd.R_slice HO145.out
            subst eo41
            have p146 : 0 ≤ (0 : Int) := (by omega)
            have q146 : 0 < (t143.length : Int) := of_decide_eq_true (by first | (with_reducible assumption) | assumption)
            obtain ⟨ad146, e146, hx146_0⟩ := Kd.at_string (Kd.R_reads' HO145.out).2.2 0 p146 q146
            cases e146
            have qi146 : (0 < t143.length) = True := eq_true (by omega)
            (try rw [show ((0 : Int)).toNat = 0 from rfl] at hx146_0)
            (try rw [Addr.add_zero'] at hx146_0)
            replace p146 := eq_true p146
            replace q146 := eq_true q146
            go_wp2_with (first | (go_at_call 25; (with_reducible refine (spec_l01In.calls ((rdOf ByteArray.empty t143 0).size : Int) 1 2 true _ A27.out).mono ?_); rintro e w' ⟨rfl, ⟨nd, rfl⟩⟩; have p148 : 0 ≤ (2 : Int) := (by omega); have q148 : 2 < (t143.length : Int) := of_decide_eq_true (by first | (with_reducible assumption) | assumption); obtain ⟨ad148, e148, hx148_0⟩ := Kd.at_string (Kd.R_reads' HO145.out).2.2 2 p148 q148; obtain rfl : ad146 = ad148 := (by injection e148); (try simp only [show (2 : Int).toNat = 2 from rfl, Nat.reduceMul, Nat.reduceEqDiff, Go.Addr.add, ↓reduceIte] at hx148_0); have qi148 : (2 < t143.length) = True := eq_true (by omega); (try rw [show ((2 : Int)).toNat = 2 from rfl] at hx148_0); replace p148 := eq_true p148; replace q148 := eq_true q148))
            go_meet
            case rel => exact ⟨_, (true), (by first | rfl | (simp; done) | (simp [*]; done) | (simp; rfl) | (simp; unfold wrap64; omega)), H', ⟨by have := HJ2.out; have := HJ9.out; first | omega | exact Nat.le_refl _⟩, ⟨by (with_reducible repeat (first | apply Kd.R_alloc | apply Kd.R_drewN | apply Kd.R_drew)); exact HO145.out⟩, ⟨by repeat (first | (with_reducible first | exact HB.out | apply below_alloc | apply pw_below_drewN | apply below_drew1) | exact HB.out)⟩⟩
          ·rw [if_neg c29] at H
           exact absurd H (by simp)
         ·replace c28 := Bool.eq_false_iff.mpr c28
          subst c28
          have H1 : (spec_ReadRfc822.j3 kj9 x4_9 t143 true) = some (r1, r2) := by rw [if_neg (show ¬ (false = true) by decide)] at H; exact H
          clear H
          have H := H1
          clear H1
          have H' := Aside0.mk H
          clear H
          obtain ⟨Ao42, co42, eo42⟩ := Kd.R_slice HO145.out
          subst eo42
          have p146 : 0 ≤ (0 : Int) := (by omega)
          have q146 : 0 < (t143.length : Int) := of_decide_eq_true (by first | (with_reducible assumption) | assumption)
          obtain ⟨ad146, e146, hx146_0⟩ := Kd.at_string (Kd.R_reads' HO145.out).2.2 0 p146 q146
          cases e146
          have qi146 : (0 < t143.length) = True := eq_true (by omega)
          (try rw [show ((0 : Int)).toNat = 0 from rfl] at hx146_0)
          (try rw [Addr.add_zero'] at hx146_0)
          replace p146 := eq_true p146
          replace q146 := eq_true q146
          go_wp2_with (first | (go_at_call 25; (with_reducible refine (spec_l01In.calls ((rdOf ByteArray.empty t143 0).size : Int) 1 2 false _ A27.out).mono ?_); rintro e w' ⟨rfl, ⟨nd, rfl⟩⟩))
          go_meet
          case rel => exact ⟨_, (true), (by first | rfl | (simp; done) | (simp [*]; done) | (simp; rfl) | (simp; unfold wrap64; omega)), H', ⟨by have := HJ2.out; have := HJ9.out; first | omega | exact Nat.le_refl _⟩, ⟨by (with_reducible repeat (first | apply Kd.R_alloc | apply Kd.R_drewN | apply Kd.R_drew)); exact HO145.out⟩, ⟨by repeat (first | (with_reducible first | exact HB.out | apply below_alloc | apply pw_below_drewN | apply below_drew1) | exact HB.out)⟩⟩
        ·rw [if_neg c26] at H
         exact absurd H (by simp)
       ·rw [if_neg c25] at H
        have c25b0 : ((t143.length : Int) == 5) = false := beq_eq_false_iff_ne.mpr c25
        have c25b1 : ((t143.length : Int) != 5) = true := bne_iff_ne.mpr c25
        (first | rw [c25b0] | (simp only [i64_w, i32_w]; rw [c25b0]) | skip)
        have H' := Aside0.mk H
        clear H
        obtain ⟨Ao43, co43, eo43⟩ := Kd.R_slice HO145.out
        subst eo43
        go_wp2
        go_meet
        case rel => exact ⟨_, (true), (by first | rfl | (simp; done) | (simp [*]; done) | (simp; rfl) | (simp; unfold wrap64; omega)), H', ⟨by have := HJ2.out; have := HJ9.out; first | omega | exact Nat.le_refl _⟩, ⟨by (with_reducible repeat (first | apply Kd.R_alloc | apply Kd.R_drewN | apply Kd.R_drew)); exact HO145.out⟩, ⟨by repeat (first | (with_reducible first | exact HB.out | apply below_alloc | apply pw_below_drewN | apply below_drew1) | exact HB.out)⟩⟩
      case rest =>
       clear HC23
       try clear c1
       try clear p1
       try clear q1
       try clear hx1
       try clear qi1
       try clear c2
       try clear c2b0
       try clear c2b1
       try clear p2
       try clear c3
       try clear p3
       try clear q3
       try clear hx3
       try clear qi3
       try clear c4
       try clear c4b0
       try clear c4b1
       try clear c5
       try clear c5b0
       try clear c5b1
       try clear p6
       try clear q6
       try clear hx6
       try clear qi6
       try clear c7
       try clear c7b0
       try clear c7b1
       try clear c8
       try clear c8b0
       try clear c8b1
       try clear p9
       try clear q9
       try clear hx9
       try clear qi9
       try clear c11
       try clear c12
       try clear c12b0
       try clear c14
       try clear c14b0
       try clear c14b1
       try clear p14
       try clear q14
       try clear hx14
       try clear qi14
       try clear c15
       try clear c15b0
       try clear c15b1
       try clear p15
       try clear q15
       try clear hx15
       try clear qi15
       try clear c20
       try clear c20b0
       try clear c21
       try clear c21b0
       try clear c21b1
       try clear c25
       try clear c25b0
       try clear c25b1
       try clear c26
       try clear c26b0
       try clear c26b1
       try clear c28
       try clear c29
       try clear c29b0
       try clear c29b1
       try clear c30
       try clear c30b0
       try clear c30b1
       try clear c31
       try clear c31b0
       try clear c31b1
       try clear c32
       try clear c32b0
       try clear c32b1
       try clear c33
       try clear c33b0
       try clear c33b1
       try clear p34
       try clear q34
       try clear hx34
       try clear qi34
       try clear c35
       try clear c35b0
       try clear c35b1
       try clear c36
       try clear c36b0
       try clear c36b1
       try clear p37
       try clear q37
       try clear hx37
       try clear qi37
       try clear hx146_0
       try clear hx148_0
       try clear hx149_0
       try clear hx150_0
       try clear hx151_0
       try clear p146
       try clear p148
       try clear p149
       try clear p150
       try clear p151
       try clear p2
       try clear p34
       try clear p37
       try clear p6
       try clear p9
       try clear q146
       try clear q148
       try clear q149
       try clear q150
       try clear q151
       try clear q34
       try clear q37
       try clear q6
       try clear q9
       obtain ⟨kq, x83_22, rfl, HA, HJ22, HO_6, HB⟩ := hcut
       cases kq with
       | zero => exact absurd HA.out (by simp [spec_ReadRfc822.j3])
       | succ kj22 =>
        have H := HA.out
        clear HA
        simp only [spec_ReadRfc822.j3] at H
        by_cases c44 : x83_22 = true
        ·subst c44
         have H1 : (some (0, 3)) = some (r1, r2) := by rw [if_pos rfl] at H; exact H
         clear H
         have H := H1
         clear H1
         simp only [Option.some.injEq, Prod.mk.injEq] at H
         obtain ⟨rfl, rfl⟩ := H
         go_wp2
         go_ret2
         exact ⟨by first | rfl | (simp [errW_none, errW_some] <;> rfl) | (simp [*, errW_none, errW_some] <;> rfl), by repeat (first | (with_reducible first | exact HB.out | apply below_alloc | apply pw_below_drewN | apply below_drew1) | exact HB.out)⟩
        ·replace c44 := Bool.eq_false_iff.mpr c44
         subst c44
         have H1 : (spec_ReadRfc822.l1 kj22 x4_9 t143 0 1) = some (r1, r2) := by rw [if_neg (show ¬ (false = true) by decide)] at H; exact H
         clear H
         have H := H1
         clear H1
         have H' := Aside0.mk H
         clear H
         go_wp2
         go_loopg [7, 8] kj22 (fun kq v7 v8 w' => ∃ (x7_4 : Int) (x8_4 : Int), v7 = .int .i64 x7_4 ∧ v8 = .int .i64 x8_4 ∧ Aside0 (spec_ReadRfc822.l1 kq x4_9 t143 x7_4 x8_4 = some (r1, r2)) ∧ Aside0 (kq ≤ kj22) ∧ Aside0 (Kd.R Kd.string 9 w' w.heap.size (fun _ => True) v144 t143) ∧ Aside0 (Below w.heap.size w w'))
         case atStart => exact ⟨(0), (1), (by first | rfl | (simp; done) | (simp [*]; done) | (simp; rfl) | (simp; unfold wrap64; omega)), (by first | rfl | (simp; done) | (simp [*]; done) | (simp; rfl) | (simp; unfold wrap64; omega)), H', ⟨Nat.le_refl _⟩, ⟨by (with_reducible repeat (first | apply Kd.R_alloc | apply Kd.R_drewN | apply Kd.R_drew)); exact HO_6.out⟩, ⟨by repeat (first | (with_reducible first | exact HB.out | apply below_alloc | apply pw_below_drewN | apply below_drew1) | exact HB.out)⟩⟩
         case round =>
          clear H'
          try clear c1
          try clear p1
          try clear q1
          try clear hx1
          try clear qi1
          try clear c2
          try clear c2b0
          try clear c2b1
          try clear p2
          try clear c3
          try clear p3
          try clear q3
          try clear hx3
          try clear qi3
          try clear c4
          try clear c4b0
          try clear c4b1
          try clear c5
          try clear c5b0
          try clear c5b1
          try clear p6
          try clear q6
          try clear hx6
          try clear qi6
          try clear c7
          try clear c7b0
          try clear c7b1
          try clear c8
          try clear c8b0
          try clear c8b1
          try clear p9
          try clear q9
          try clear hx9
          try clear qi9
          try clear c11
          try clear c12
          try clear c12b0
          try clear c14
          try clear c14b0
          try clear c14b1
          try clear p14
          try clear q14
          try clear hx14
          try clear qi14
          try clear c15
          try clear c15b0
          try clear c15b1
          try clear p15
          try clear q15
          try clear hx15
          try clear qi15
          try clear c20
          try clear c20b0
          try clear c21
          try clear c21b0
          try clear c21b1
          try clear c25
          try clear c25b0
          try clear c25b1
          try clear c26
          try clear c26b0
          try clear c26b1
          try clear c28
          try clear c29
          try clear c29b0
          try clear c29b1
          try clear c30
          try clear c30b0
          try clear c30b1
          try clear c31
          try clear c31b0
          try clear c31b1
          try clear c32
          try clear c32b0
          try clear c32b1
          try clear c33
          try clear c33b0
          try clear c33b1
          try clear p34
          try clear q34
          try clear hx34
          try clear qi34
          try clear c35
          try clear c35b0
          try clear c35b1
          try clear c36
          try clear c36b0
          try clear c36b1
          try clear p37
          try clear q37
          try clear hx37
          try clear qi37
          try clear c44
          try clear hx146_0
          try clear hx148_0
          try clear hx149_0
          try clear hx150_0
          try clear hx151_0
          try clear p1
          try clear p14
          try clear p146
          try clear p148
          try clear p149
          try clear p15
          try clear p150
          try clear p151
          try clear p2
          try clear p3
          try clear p34
          try clear p37
          try clear p6
          try clear p9
          try clear q1
          try clear q14
          try clear q146
          try clear q148
          try clear q149
          try clear q15
          try clear q150
          try clear q151
          try clear q3
          try clear q34
          try clear q37
          try clear q6
          try clear q9
          obtain ⟨x7_4, x8_4, rfl, rfl, HA, HK4, HO_6, HB⟩ := hrel
          cases gk with
          | zero => exact absurd HA.out (by simp [spec_ReadRfc822.l1])
          | succ k4 =>
           have H := HA.out
           clear HA
           simp only [spec_ReadRfc822.l1] at H
           by_cases c45 : x8_4 ≤ 12
           ·as_aux_lemma =>
            rw [if_pos c45] at H
            have c45b0 : decide (x8_4 ≤ 12) = true := decide_eq_true c45
            clear c45
            replace H := Option.bind_eq_some_iff.mp H
            obtain ⟨t152, A460, H⟩ := H
            replace H : (if 1 < (t143.length : Int) then (if t152.toList = (rdOf ByteArray.empty t143 1).toList then (spec_ReadRfc822.l1 k4 x4_9 t143 x8_4 (wrap64 (x8_4 + 1))) else (spec_ReadRfc822.l1 k4 x4_9 t143 x7_4 (wrap64 (x8_4 + 1)))) else (none)) = some (r1, r2) := H
            have A46 := Aside0.mk A460
            clear A460
            by_cases c47 : 1 < (t143.length : Int)
            ·rw [if_pos c47] at H
             have c47b0 : decide (1 < (t143.length : Int)) = true := decide_eq_true c47
             have c47b1 : decide (1 < t143.length) = true := decide_eq_true (by omega)
             clear c47
             by_cases c48 : t152.toList = (rdOf ByteArray.empty t143 1).toList
             ·rw [if_pos c48] at H
              have c48b0 : (t152.toList == (rdOf ByteArray.empty t143 1).toList) = true := beq_iff_eq.mpr c48
              have c48b1 : (t152.toList != (rdOf ByteArray.empty t143 1).toList) = false := bne_eq_false_iff_eq.mpr c48
              clear c48
              have H' := Aside0.mk H
              clear H
              try go_wp2
              have n0_ := Aside0.mk (Kd.R_drew HO_6.out)
              have n1_ := Aside0.mk (below_drew1 HB.out)
              clear HO_6
              clear HB
              have HO_6 := n0_
              have HB := n1_
              clear n0_ n1_
              obtain ⟨Ao50, co50, eo50⟩ := Kd.R_slice HO_6.out
              (first | subst eo50 | (injection eo50 with f1_ f2_ f3_; have f4_ := f1_.symm; have f5_ := f3_.symm; clear f1_ f2_ f3_; subst f4_; subst f5_))
              have p153 : 0 ≤ (1 : Int) := (by omega)
              have q153 : 1 < (t143.length : Int) := of_decide_eq_true (by first | (with_reducible assumption) | assumption)
              obtain ⟨ad153, e153, hx153_0⟩ := Kd.at_string (Kd.R_reads' HO_6.out).2.2 1 p153 q153
              cases e153
              (try simp only [show (1 : Int).toNat = 1 from rfl, Nat.reduceMul, Nat.reduceEqDiff, Go.Addr.add, ↓reduceIte] at hx153_0)
              have qi153 : (1 < t143.length) = True := eq_true (by omega)
              (try rw [show ((1 : Int)).toNat = 1 from rfl] at hx153_0)
              replace p153 := eq_true p153
              replace q153 := eq_true q153
              refine start_ (n := 6) (S := fun w' => w'.cell? ⟨ad153.block, ad153.off + 1, none⟩ = some (.string (rdOf ByteArray.empty t143 1))) (ds := []) #[false, false, false, false, false, false] (by kernel_rfl) rfl rfl (hx153_0) (fun hHeld => ?_)
              generalize wr.drew = w49 at HO_6 HB hx153_0 hHeld ⊢
              refine pure_ (i := 0) (N := some 88) (v := ?_) (a' := ?_) #[true, false, false, false, false, false] rfl rfl (by kernel_rfl) (fun _ _ _ h => h) (Or.inl ⟨by rfl, ?_⟩) ?_ ?_
              rotate_left
              ·intro w'
               go_simp
               with_reducible rfl
              rotate_left
              ·simp only [Act.put, List.setIfInBounds_toArray, List.set_cons_zero, List.set_cons_succ, i64_w, i32_w]
               rfl
              refine pure_ (i := 2) (N := some 90) (v := ?_) (a' := ?_) #[true, false, true, false, false, false] rfl rfl (by kernel_rfl) (fun _ _ _ h => h) (Or.inl ⟨by rfl, ?_⟩) ?_ ?_
              rotate_left
              ·intro w'
               go_simp
               with_reducible rfl
              rotate_left
              ·simp only [Act.put, List.setIfInBounds_toArray, List.set_cons_zero, List.set_cons_succ, i64_w, i32_w]
               rfl
              refine pure_ (i := 3) (N := some 91) (v := ?_) (a' := ?_) #[true, false, true, true, false, false] rfl rfl (by kernel_rfl) (fun _ _ _ h => h) (Or.inl ⟨by rfl, ?_⟩) ?_ ?_
              rotate_left
              ·intro w'
               go_simp
               with_reducible rfl
              rotate_left
              ·simp only [Act.put, List.setIfInBounds_toArray, List.set_cons_zero, List.set_cons_succ, i64_w, i32_w]
               rfl
              refine take_ (i := 4) (N := some 92) (v := ?_) (a' := ?_) #[true, false, true, true, true, false] rfl rfl (by kernel_rfl) (fun _ _ _ h => h) (Or.inl ⟨by rfl, ?_⟩) hHeld ?_ ?_
              rotate_left
              ·intro w' s0
               go_simp
               with_reducible rfl
              rotate_left
              ·simp only [Act.put, List.setIfInBounds_toArray, List.set_cons_zero, List.set_cons_succ, i64_w, i32_w]
               rfl
              refine one_ (i := 1) (N := some 89) #[true, true, true, true, true, false] rfl rfl (by kernel_rfl) (by decide) (fun K hK => ?_)
              refine goes_ Try.func49 (by kernel_rfl) rfl #[.int .i64 x8_4] (by rfl) rfl rfl (by (try simp only [List.map_toArray, List.map_cons, List.map_nil]); first | done | rfl | (simp only [List.length_drop, List.length_take]; rfl)) ?_
              with_reducible refine (spec_l04Month.calls x8_4 t152 _ A46.out).mono ?_
              rintro e w51 ⟨rfl, hb⟩
              have HS0_ := (hb.cell (World.block_lt_of_cell? _ _ (hHeld))).trans (hHeld)
              refine ⟨_, rfl, ?_⟩
              have n0_ := Aside0.mk (Kd.R_below (by (with_reducible repeat (first | apply Kd.R_alloc | apply Kd.R_drewN | apply Kd.R_drew)); exact HO_6.out) hb)
              have n1_ := Aside0.mk (below_step (by repeat (first | (with_reducible first | exact HB.out | apply below_alloc | apply pw_below_drewN | apply below_drew1) | exact HB.out)) hb)
              clear HO_6
              clear HB
              have HO_6 := n0_
              have HB := n1_
              clear n0_ n1_
              (try clear hb)
              (try clear hb2)
              (try clear hk)
              (try clear hi)
              refine hK.out _ _ (HS0_) (fun hHeld => ?_)
              clear hK K
              refine norm_ (a' := ?_) ?_ ?_
              rotate_left
              ·show Act.put _ (some 89) _ = _
               simp only [Act.put, List.setIfInBounds_toArray, List.set_cons_zero, List.set_cons_succ, i64_w, i32_w]
               rfl
              refine pure_ (i := 5) (N := some 93) (v := ?_) (a' := ?_) #[true, true, true, true, true, true] rfl rfl (by kernel_rfl) (fun _ _ _ h => h) (Or.inl ⟨by rfl, ?_⟩) ?_ ?_
              rotate_left
              ·intro w'
               go_simp
               with_reducible rfl
              rotate_left
              ·simp only [Act.put, List.setIfInBounds_toArray, List.set_cons_zero, List.set_cons_succ, i64_w, i32_w]
               rfl
              refine done_ (by kernel_rfl) ?_
              try go_wp2
              go_roundg k4
              case measure => have := HJ2.out; have := HJ9.out; have := HJ22.out; have := HK4.out; omega
              case rel => exact ⟨(x8_4), (wrap64 (x8_4 + 1)), (by first | rfl | (simp; done) | (simp [*]; done) | (simp; rfl) | (simp; unfold wrap64; omega)), (by first | rfl | (simp; done) | (simp [*]; done) | (simp; rfl) | (simp; unfold wrap64; omega)), H', ⟨by have := HJ2.out; have := HJ9.out; have := HJ22.out; have := HK4.out; omega⟩, ⟨by (with_reducible repeat (first | apply Kd.R_alloc | apply Kd.R_drewN | apply Kd.R_drew)); exact HO_6.out⟩, ⟨by repeat (first | (with_reducible first | exact HB.out | apply below_alloc | apply pw_below_drewN | apply below_drew1) | exact HB.out)⟩⟩
             ·rw [if_neg c48] at H
              have c48b0 : (t152.toList == (rdOf ByteArray.empty t143 1).toList) = false := beq_eq_false_iff_ne.mpr c48
              have c48b1 : (t152.toList != (rdOf ByteArray.empty t143 1).toList) = true := bne_iff_ne.mpr c48
              have H' := Aside0.mk H
              clear H
              try go_wp2
              have n0_ := Aside0.mk (Kd.R_drew HO_6.out)
              have n1_ := Aside0.mk (below_drew1 HB.out)
              clear HO_6
              clear HB
              have HO_6 := n0_
              have HB := n1_
              clear n0_ n1_
              obtain ⟨Ao53, co53, eo53⟩ := Kd.R_slice HO_6.out
              (first | subst eo53 | (injection eo53 with f1_ f2_ f3_; have f4_ := f1_.symm; have f5_ := f3_.symm; clear f1_ f2_ f3_; subst f4_; subst f5_))
              have p153 : 0 ≤ (1 : Int) := (by omega)
              have q153 : 1 < (t143.length : Int) := of_decide_eq_true (by first | (with_reducible assumption) | assumption)
              obtain ⟨ad153, e153, hx153_0⟩ := Kd.at_string (Kd.R_reads' HO_6.out).2.2 1 p153 q153
              cases e153
              (try simp only [show (1 : Int).toNat = 1 from rfl, Nat.reduceMul, Nat.reduceEqDiff, Go.Addr.add, ↓reduceIte] at hx153_0)
              have qi153 : (1 < t143.length) = True := eq_true (by omega)
              (try rw [show ((1 : Int)).toNat = 1 from rfl] at hx153_0)
              replace p153 := eq_true p153
              replace q153 := eq_true q153
              refine start_ (n := 6) (S := fun w' => w'.cell? ⟨ad153.block, ad153.off + 1, none⟩ = some (.string (rdOf ByteArray.empty t143 1))) (ds := []) #[false, false, false, false, false, false] (by kernel_rfl) rfl rfl (hx153_0) (fun hHeld => ?_)
              generalize wr.drew = w52 at HO_6 HB hx153_0 hHeld ⊢
              refine pure_ (i := 0) (N := some 88) (v := ?_) (a' := ?_) #[true, false, false, false, false, false] rfl rfl (by kernel_rfl) (fun _ _ _ h => h) (Or.inl ⟨by rfl, ?_⟩) ?_ ?_
              rotate_left
              ·intro w'
               go_simp
               with_reducible rfl
              rotate_left
              ·simp only [Act.put, List.setIfInBounds_toArray, List.set_cons_zero, List.set_cons_succ, i64_w, i32_w]
               rfl
              refine pure_ (i := 2) (N := some 90) (v := ?_) (a' := ?_) #[true, false, true, false, false, false] rfl rfl (by kernel_rfl) (fun _ _ _ h => h) (Or.inl ⟨by rfl, ?_⟩) ?_ ?_
              rotate_left
              ·intro w'
               go_simp
               with_reducible rfl
              rotate_left
              ·simp only [Act.put, List.setIfInBounds_toArray, List.set_cons_zero, List.set_cons_succ, i64_w, i32_w]
               rfl
              refine pure_ (i := 3) (N := some 91) (v := ?_) (a' := ?_) #[true, false, true, true, false, false] rfl rfl (by kernel_rfl) (fun _ _ _ h => h) (Or.inl ⟨by rfl, ?_⟩) ?_ ?_
              rotate_left
              ·intro w'
               go_simp
               with_reducible rfl
              rotate_left
              ·simp only [Act.put, List.setIfInBounds_toArray, List.set_cons_zero, List.set_cons_succ, i64_w, i32_w]
               rfl
              refine take_ (i := 4) (N := some 92) (v := ?_) (a' := ?_) #[true, false, true, true, true, false] rfl rfl (by kernel_rfl) (fun _ _ _ h => h) (Or.inl ⟨by rfl, ?_⟩) hHeld ?_ ?_
              rotate_left
              ·intro w' s0
               go_simp
               with_reducible rfl
              rotate_left
              ·simp only [Act.put, List.setIfInBounds_toArray, List.set_cons_zero, List.set_cons_succ, i64_w, i32_w]
               rfl
              refine one_ (i := 1) (N := some 89) #[true, true, true, true, true, false] rfl rfl (by kernel_rfl) (by decide) (fun K hK => ?_)
              refine goes_ Try.func49 (by kernel_rfl) rfl #[.int .i64 x8_4] (by rfl) rfl rfl (by (try simp only [List.map_toArray, List.map_cons, List.map_nil]); first | done | rfl | (simp only [List.length_drop, List.length_take]; rfl)) ?_
              with_reducible refine (spec_l04Month.calls x8_4 t152 _ A46.out).mono ?_
              rintro e w54 ⟨rfl, hb⟩
              have HS0_ := (hb.cell (World.block_lt_of_cell? _ _ (hHeld))).trans (hHeld)
              refine ⟨_, rfl, ?_⟩
              have n0_ := Aside0.mk (Kd.R_below (by (with_reducible repeat (first | apply Kd.R_alloc | apply Kd.R_drewN | apply Kd.R_drew)); exact HO_6.out) hb)
              have n1_ := Aside0.mk (below_step (by repeat (first | (with_reducible first | exact HB.out | apply below_alloc | apply pw_below_drewN | apply below_drew1) | exact HB.out)) hb)
              clear HO_6
              clear HB
              have HO_6 := n0_
              have HB := n1_
              clear n0_ n1_
              (try clear hb)
              (try clear hb2)
              (try clear hk)
              (try clear hi)
              refine hK.out _ _ (HS0_) (fun hHeld => ?_)
              clear hK K
              refine norm_ (a' := ?_) ?_ ?_
              rotate_left
              ·show Act.put _ (some 89) _ = _
               simp only [Act.put, List.setIfInBounds_toArray, List.set_cons_zero, List.set_cons_succ, i64_w, i32_w]
               rfl
              refine pure_ (i := 5) (N := some 93) (v := ?_) (a' := ?_) #[true, true, true, true, true, true] rfl rfl (by kernel_rfl) (fun _ _ _ h => h) (Or.inl ⟨by rfl, ?_⟩) ?_ ?_
              rotate_left
              ·intro w'
               go_simp
               with_reducible rfl
              rotate_left
              ·simp only [Act.put, List.setIfInBounds_toArray, List.set_cons_zero, List.set_cons_succ, i64_w, i32_w]
               rfl
              refine done_ (by kernel_rfl) ?_
              try go_wp2
              go_roundg k4
              case measure => have := HJ2.out; have := HJ9.out; have := HJ22.out; have := HK4.out; omega
              case rel => exact ⟨(x7_4), (wrap64 (x8_4 + 1)), (by first | rfl | (simp; done) | (simp [*]; done) | (simp; rfl) | (simp; unfold wrap64; omega)), (by first | rfl | (simp; done) | (simp [*]; done) | (simp; rfl) | (simp; unfold wrap64; omega)), H', ⟨by have := HJ2.out; have := HJ9.out; have := HJ22.out; have := HK4.out; omega⟩, ⟨by (with_reducible repeat (first | apply Kd.R_alloc | apply Kd.R_drewN | apply Kd.R_drew)); exact HO_6.out⟩, ⟨by repeat (first | (with_reducible first | exact HB.out | apply below_alloc | apply pw_below_drewN | apply below_drew1) | exact HB.out)⟩⟩
            ·rw [if_neg c47] at H
             exact absurd H (by simp)
           ·as_aux_lemma =>
            rw [if_neg c45] at H
            have c45b0 : decide (x8_4 ≤ 12) = false := decide_eq_false c45
            clear c45
            by_cases c55 : 2 < (t143.length : Int)
            ·rw [if_pos c55] at H
             have c55b0 : decide (2 < (t143.length : Int)) = true := decide_eq_true c55
             have c55b1 : decide (2 < t143.length) = true := decide_eq_true (by omega)
             clear c55
             replace H := Option.bind_eq_some_iff.mp H
             obtain ⟨t155, A560, H⟩ := H
             replace H : (if 0 < (t143.length : Int) then ((spec_l04Number.f k4 (rdOf ByteArray.empty t143 0)).bind fun t157 => (if 3 < (t143.length : Int) then (if 2 ≤ ((rdOf ByteArray.empty t143 3).size : Int) then ((spec_l04Number.f k4 ((rdOf ByteArray.empty t143 3).extract 0 2)).bind fun t159 => (if 5 ≤ ((rdOf ByteArray.empty t143 3).size : Int) then ((spec_l04Number.f k4 ((rdOf ByteArray.empty t143 3).extract 3 5)).bind fun t161 => (if 8 ≤ ((rdOf ByteArray.empty t143 3).size : Int) then ((spec_l04Number.f k4 ((rdOf ByteArray.empty t143 3).extract 6 8)).bind fun t163 => (if 4 < (t143.length : Int) then (if (rdOf ByteArray.empty t143 4).toList = ([71, 77, 84] : List UInt8) then (spec_ReadRfc822.j5 k4 x4_9 t143 0 false t155 x7_4 t157 t159 t161 t163) else (spec_ReadRfc822.j5 k4 x4_9 t143 0 ((rdOf ByteArray.empty t143 4).toList != ([85, 84] : List UInt8)) t155 x7_4 t157 t159 t161 t163)) else (none))) else (none))) else (none))) else (none)) else (none))) else (none)) = some (r1, r2) := H
             have A56 := Aside0.mk A560
             clear A560
             by_cases c57 : 0 < (t143.length : Int)
             ·rw [if_pos c57] at H
              have c57b0 : decide (0 < (t143.length : Int)) = true := decide_eq_true c57
              have c57b1 : decide (0 < t143.length) = true := decide_eq_true (by omega)
              clear c57
              replace H := Option.bind_eq_some_iff.mp H
              obtain ⟨t157, A580, H⟩ := H
              replace H : (if 3 < (t143.length : Int) then (if 2 ≤ ((rdOf ByteArray.empty t143 3).size : Int) then ((spec_l04Number.f k4 ((rdOf ByteArray.empty t143 3).extract 0 2)).bind fun t159 => (if 5 ≤ ((rdOf ByteArray.empty t143 3).size : Int) then ((spec_l04Number.f k4 ((rdOf ByteArray.empty t143 3).extract 3 5)).bind fun t161 => (if 8 ≤ ((rdOf ByteArray.empty t143 3).size : Int) then ((spec_l04Number.f k4 ((rdOf ByteArray.empty t143 3).extract 6 8)).bind fun t163 => (if 4 < (t143.length : Int) then (if (rdOf ByteArray.empty t143 4).toList = ([71, 77, 84] : List UInt8) then (spec_ReadRfc822.j5 k4 x4_9 t143 0 false t155 x7_4 t157 t159 t161 t163) else (spec_ReadRfc822.j5 k4 x4_9 t143 0 ((rdOf ByteArray.empty t143 4).toList != ([85, 84] : List UInt8)) t155 x7_4 t157 t159 t161 t163)) else (none))) else (none))) else (none))) else (none)) else (none)) = some (r1, r2) := H
              have A58 := Aside0.mk A580
              clear A580
              by_cases c59 : 3 < (t143.length : Int)
              ·rw [if_pos c59] at H
               have c59b0 : decide (3 < (t143.length : Int)) = true := decide_eq_true c59
               have c59b1 : decide (3 < t143.length) = true := decide_eq_true (by omega)
               clear c59
               by_cases c60 : 2 ≤ ((rdOf ByteArray.empty t143 3).size : Int)
               ·rw [if_pos c60] at H
                have c60b0 := eq_true c60
                have c60b1 : decide (2 ≤ ((rdOf ByteArray.empty t143 3).size : Int)) = true := decide_eq_true c60
                clear c60
                replace H := Option.bind_eq_some_iff.mp H
                obtain ⟨t159, A610, H⟩ := H
                replace H : (if 5 ≤ ((rdOf ByteArray.empty t143 3).size : Int) then ((spec_l04Number.f k4 ((rdOf ByteArray.empty t143 3).extract 3 5)).bind fun t161 => (if 8 ≤ ((rdOf ByteArray.empty t143 3).size : Int) then ((spec_l04Number.f k4 ((rdOf ByteArray.empty t143 3).extract 6 8)).bind fun t163 => (if 4 < (t143.length : Int) then (if (rdOf ByteArray.empty t143 4).toList = ([71, 77, 84] : List UInt8) then (spec_ReadRfc822.j5 k4 x4_9 t143 0 false t155 x7_4 t157 t159 t161 t163) else (spec_ReadRfc822.j5 k4 x4_9 t143 0 ((rdOf ByteArray.empty t143 4).toList != ([85, 84] : List UInt8)) t155 x7_4 t157 t159 t161 t163)) else (none))) else (none))) else (none)) = some (r1, r2) := H
                have A61 := Aside0.mk A610
                clear A610
                by_cases c62 : 5 ≤ ((rdOf ByteArray.empty t143 3).size : Int)
                ·rw [if_pos c62] at H
                 have c62b0 := eq_true c62
                 have c62b1 : decide (5 ≤ ((rdOf ByteArray.empty t143 3).size : Int)) = true := decide_eq_true c62
                 clear c62
                 replace H := Option.bind_eq_some_iff.mp H
                 obtain ⟨t161, A630, H⟩ := H
                 replace H : (if 8 ≤ ((rdOf ByteArray.empty t143 3).size : Int) then ((spec_l04Number.f k4 ((rdOf ByteArray.empty t143 3).extract 6 8)).bind fun t163 => (if 4 < (t143.length : Int) then (if (rdOf ByteArray.empty t143 4).toList = ([71, 77, 84] : List UInt8) then (spec_ReadRfc822.j5 k4 x4_9 t143 0 false t155 x7_4 t157 t159 t161 t163) else (spec_ReadRfc822.j5 k4 x4_9 t143 0 ((rdOf ByteArray.empty t143 4).toList != ([85, 84] : List UInt8)) t155 x7_4 t157 t159 t161 t163)) else (none))) else (none)) = some (r1, r2) := H
                 have A63 := Aside0.mk A630
                 clear A630
                 by_cases c64 : 8 ≤ ((rdOf ByteArray.empty t143 3).size : Int)
                 ·rw [if_pos c64] at H
                  have c64b0 := eq_true c64
                  have c64b1 : decide (8 ≤ ((rdOf ByteArray.empty t143 3).size : Int)) = true := decide_eq_true c64
                  clear c64
                  replace H := Option.bind_eq_some_iff.mp H
                  obtain ⟨t163, A650, H⟩ := H
                  replace H : (if 4 < (t143.length : Int) then (if (rdOf ByteArray.empty t143 4).toList = ([71, 77, 84] : List UInt8) then (spec_ReadRfc822.j5 k4 x4_9 t143 0 false t155 x7_4 t157 t159 t161 t163) else (spec_ReadRfc822.j5 k4 x4_9 t143 0 ((rdOf ByteArray.empty t143 4).toList != ([85, 84] : List UInt8)) t155 x7_4 t157 t159 t161 t163)) else (none)) = some (r1, r2) := H
                  have A65 := Aside0.mk A650
                  clear A650
                  have HC66 := Aside0.mk H
                  clear H
                  try go_wp2
                  have n0_ := Aside0.mk (Kd.R_drew HO_6.out)
                  have n1_ := Aside0.mk (below_drew1 HB.out)
                  clear HO_6
                  clear HB
                  have HO_6 := n0_
                  have HB := n1_
                  clear n0_ n1_
                  obtain ⟨Ao68, co68, eo68⟩ := Kd.R_slice HO_6.out
                  (first | subst eo68 | (injection eo68 with f1_ f2_ f3_; have f4_ := f1_.symm; have f5_ := f3_.symm; clear f1_ f2_ f3_; subst f4_; subst f5_))
                  have p154 : 0 ≤ (2 : Int) := (by omega)
                  have q154 : 2 < (t143.length : Int) := of_decide_eq_true (by first | (with_reducible assumption) | assumption)
                  obtain ⟨ad154, e154, hx154_0⟩ := Kd.at_string (Kd.R_reads' HO_6.out).2.2 2 p154 q154
                  cases e154
                  (try simp only [show (2 : Int).toNat = 2 from rfl, Nat.reduceMul, Nat.reduceEqDiff, Go.Addr.add, ↓reduceIte] at hx154_0)
                  have qi154 : (2 < t143.length) = True := eq_true (by omega)
                  (try rw [show ((2 : Int)).toNat = 2 from rfl] at hx154_0)
                  replace p154 := eq_true p154
                  replace q154 := eq_true q154
                  have p156 : 0 ≤ (0 : Int) := (by omega)
                  have q156 : 0 < (t143.length : Int) := of_decide_eq_true (by first | (with_reducible assumption) | assumption)
                  obtain ⟨ad156, e156, hx156_0⟩ := Kd.at_string (Kd.R_reads' HO_6.out).2.2 0 p156 q156
                  obtain rfl : ad154 = ad156 := (by injection e156)
                  have qi156 : (0 < t143.length) = True := eq_true (by omega)
                  (try rw [show ((0 : Int)).toNat = 0 from rfl] at hx156_0)
                  (try rw [Addr.add_zero'] at hx156_0)
                  replace p156 := eq_true p156
                  replace q156 := eq_true q156
                  have p158 : 0 ≤ (3 : Int) := (by omega)
                  have q158 : 3 < (t143.length : Int) := of_decide_eq_true (by first | (with_reducible assumption) | assumption)
                  obtain ⟨ad158, e158, hx158_0⟩ := Kd.at_string (Kd.R_reads' HO_6.out).2.2 3 p158 q158
                  obtain rfl : ad154 = ad158 := (by injection e158)
                  (try simp only [show (3 : Int).toNat = 3 from rfl, Nat.reduceMul, Nat.reduceEqDiff, Go.Addr.add, ↓reduceIte] at hx158_0)
                  have qi158 : (3 < t143.length) = True := eq_true (by omega)
                  (try rw [show ((3 : Int)).toNat = 3 from rfl] at hx158_0)
                  replace p158 := eq_true p158
                  replace q158 := eq_true q158
                  have p160 : 0 ≤ (3 : Int) := (by omega)
                  have q160 : 3 < (t143.length : Int) := of_decide_eq_true (by first | (with_reducible assumption) | assumption)
                  obtain ⟨ad160, e160, hx160_0⟩ := Kd.at_string (Kd.R_reads' HO_6.out).2.2 3 p160 q160
                  obtain rfl : ad154 = ad160 := (by injection e160)
                  (try simp only [show (3 : Int).toNat = 3 from rfl, Nat.reduceMul, Nat.reduceEqDiff, Go.Addr.add, ↓reduceIte] at hx160_0)
                  have qi160 : (3 < t143.length) = True := eq_true (by omega)
                  (try rw [show ((3 : Int)).toNat = 3 from rfl] at hx160_0)
                  replace p160 := eq_true p160
                  replace q160 := eq_true q160
                  have p162 : 0 ≤ (3 : Int) := (by omega)
                  have q162 : 3 < (t143.length : Int) := of_decide_eq_true (by first | (with_reducible assumption) | assumption)
                  obtain ⟨ad162, e162, hx162_0⟩ := Kd.at_string (Kd.R_reads' HO_6.out).2.2 3 p162 q162
                  obtain rfl : ad154 = ad162 := (by injection e162)
                  (try simp only [show (3 : Int).toNat = 3 from rfl, Nat.reduceMul, Nat.reduceEqDiff, Go.Addr.add, ↓reduceIte] at hx162_0)
                  have qi162 : (3 < t143.length) = True := eq_true (by omega)
                  (try rw [show ((3 : Int)).toNat = 3 from rfl] at hx162_0)
                  replace p162 := eq_true p162
                  replace q162 := eq_true q162
                  refine start_ (n := 27) (S := fun w' => w'.cell? ⟨ad154.block, ad154.off + 2, none⟩ = some (.string (rdOf ByteArray.empty t143 2)) ∧ w'.cell? ad154 = some (.string (rdOf ByteArray.empty t143 0)) ∧ w'.cell? ⟨ad154.block, ad154.off + 3, none⟩ = some (.string (rdOf ByteArray.empty t143 3)) ∧ w'.cell? ⟨ad154.block, ad154.off + 3, none⟩ = some (.string (rdOf ByteArray.empty t143 3)) ∧ w'.cell? ⟨ad154.block, ad154.off + 3, none⟩ = some (.string (rdOf ByteArray.empty t143 3))) (ds := []) #[false, false, false, false, false, false, false, false, false, false, false, false, false, false, false, false, false, false, false, false, false, false, false, false, false, false, false] (by kernel_rfl) rfl rfl ⟨hx154_0, hx156_0, hx158_0, hx160_0, hx162_0⟩ (fun hHeld => ?_); refine with_tabW spec_ReadRfc822.tab22 spec_ReadRfc822.bits22 (fun HT_ HW_ => ?_)
                  generalize wr.drew = w67 at HO_6 HB hx154_0 hx156_0 hx158_0 hx160_0 hx162_0 hHeld ⊢
                  refine pure_ (i := 0) (N := some 95) (v := ?_) (a' := ?_) #[true, false, false, false, false, false, false, false, false, false, false, false, false, false, false, false, false, false, false, false, false, false, false, false, false, false, false] rfl rfl (any_of HT_.out (by kernel_rfl)) (fun _ _ _ h => h) (Or.inl ⟨by rfl, ?_⟩) ?_ ?_
                  rotate_left
                  ·intro w'
                   go_simp
                   with_reducible rfl
                  rotate_left
                  ·simp only [Act.put, List.setIfInBounds_toArray, List.set_cons_zero, List.set_cons_succ, i64_w, i32_w]
                   rfl
                  refine pure_ (i := 1) (N := some 96) (v := ?_) (a' := ?_) #[true, true, false, false, false, false, false, false, false, false, false, false, false, false, false, false, false, false, false, false, false, false, false, false, false, false, false] rfl rfl (any_of HT_.out (by kernel_rfl)) (fun _ _ _ h => h) (Or.inl ⟨by rfl, ?_⟩) ?_ ?_
                  rotate_left
                  ·intro w'
                   go_simp
                   with_reducible rfl
                  rotate_left
                  ·simp only [Act.put, List.setIfInBounds_toArray, List.set_cons_zero, List.set_cons_succ, i64_w, i32_w]
                   rfl
                  refine pure_ (i := 4) (N := some 99) (v := ?_) (a' := ?_) #[true, true, false, false, true, false, false, false, false, false, false, false, false, false, false, false, false, false, false, false, false, false, false, false, false, false, false] rfl rfl (any_of HT_.out (by kernel_rfl)) (fun _ _ _ h => h) (Or.inl ⟨by rfl, ?_⟩) ?_ ?_
                  rotate_left
                  ·intro w'
                   go_simp
                   with_reducible rfl
                  rotate_left
                  ·simp only [Act.put, List.setIfInBounds_toArray, List.set_cons_zero, List.set_cons_succ, i64_w, i32_w]
                   rfl
                  refine pure_ (i := 5) (N := some 100) (v := ?_) (a' := ?_) #[true, true, false, false, true, true, false, false, false, false, false, false, false, false, false, false, false, false, false, false, false, false, false, false, false, false, false] rfl rfl (any_of HT_.out (by kernel_rfl)) (fun _ _ _ h => h) (Or.inl ⟨by rfl, ?_⟩) ?_ ?_
                  rotate_left
                  ·intro w'
                   go_simp
                   with_reducible rfl
                  rotate_left
                  ·simp only [Act.put, List.setIfInBounds_toArray, List.set_cons_zero, List.set_cons_succ, i64_w, i32_w]
                   rfl
                  refine pure_ (i := 6) (N := some 101) (v := ?_) (a' := ?_) #[true, true, false, false, true, true, true, false, false, false, false, false, false, false, false, false, false, false, false, false, false, false, false, false, false, false, false] rfl rfl (any_of HT_.out (by kernel_rfl)) (fun _ _ _ h => h) (Or.inl ⟨by rfl, ?_⟩) ?_ ?_
                  rotate_left
                  ·intro w'
                   go_simp
                   with_reducible rfl
                  rotate_left
                  ·simp only [Act.put, List.setIfInBounds_toArray, List.set_cons_zero, List.set_cons_succ, i64_w, i32_w]
                   rfl
                  refine pure_ (i := 9) (N := some 104) (v := ?_) (a' := ?_) #[true, true, false, false, true, true, true, false, false, true, false, false, false, false, false, false, false, false, false, false, false, false, false, false, false, false, false] rfl rfl (any_of HT_.out (by kernel_rfl)) (fun _ _ _ h => h) (Or.inl ⟨by rfl, ?_⟩) ?_ ?_
                  rotate_left
                  ·intro w'
                   go_simp
                   with_reducible rfl
                  rotate_left
                  ·simp only [Act.put, List.setIfInBounds_toArray, List.set_cons_zero, List.set_cons_succ, i64_w, i32_w]
                   rfl
                  refine pure_ (i := 10) (N := some 105) (v := ?_) (a' := ?_) #[true, true, false, false, true, true, true, false, false, true, true, false, false, false, false, false, false, false, false, false, false, false, false, false, false, false, false] rfl rfl (any_of HT_.out (by kernel_rfl)) (fun _ _ _ h => h) (Or.inl ⟨by rfl, ?_⟩) ?_ ?_
                  rotate_left
                  ·intro w'
                   go_simp
                   with_reducible rfl
                  rotate_left
                  ·simp only [Act.put, List.setIfInBounds_toArray, List.set_cons_zero, List.set_cons_succ, i64_w, i32_w]
                   rfl
                  refine pure_ (i := 14) (N := some 109) (v := ?_) (a' := ?_) #[true, true, false, false, true, true, true, false, false, true, true, false, false, false, true, false, false, false, false, false, false, false, false, false, false, false, false] rfl rfl (any_of HT_.out (by kernel_rfl)) (fun _ _ _ h => h) (Or.inl ⟨by rfl, ?_⟩) ?_ ?_
                  rotate_left
                  ·intro w'
                   go_simp
                   with_reducible rfl
                  rotate_left
                  ·simp only [Act.put, List.setIfInBounds_toArray, List.set_cons_zero, List.set_cons_succ, i64_w, i32_w]
                   rfl
                  refine pure_ (i := 15) (N := some 110) (v := ?_) (a' := ?_) #[true, true, false, false, true, true, true, false, false, true, true, false, false, false, true, true, false, false, false, false, false, false, false, false, false, false, false] rfl rfl (any_of HT_.out (by kernel_rfl)) (fun _ _ _ h => h) (Or.inl ⟨by rfl, ?_⟩) ?_ ?_
                  rotate_left
                  ·intro w'
                   go_simp
                   with_reducible rfl
                  rotate_left
                  ·simp only [Act.put, List.setIfInBounds_toArray, List.set_cons_zero, List.set_cons_succ, i64_w, i32_w]
                   rfl
                  refine pure_ (i := 19) (N := some 114) (v := ?_) (a' := ?_) #[true, true, false, false, true, true, true, false, false, true, true, false, false, false, true, true, false, false, false, true, false, false, false, false, false, false, false] rfl rfl (any_of HT_.out (by kernel_rfl)) (fun _ _ _ h => h) (Or.inl ⟨by rfl, ?_⟩) ?_ ?_
                  rotate_left
                  ·intro w'
                   go_simp
                   with_reducible rfl
                  rotate_left
                  ·simp only [Act.put, List.setIfInBounds_toArray, List.set_cons_zero, List.set_cons_succ, i64_w, i32_w]
                   rfl
                  refine pure_ (i := 20) (N := some 115) (v := ?_) (a' := ?_) #[true, true, false, false, true, true, true, false, false, true, true, false, false, false, true, true, false, false, false, true, true, false, false, false, false, false, false] rfl rfl (any_of HT_.out (by kernel_rfl)) (fun _ _ _ h => h) (Or.inl ⟨by rfl, ?_⟩) ?_ ?_
                  rotate_left
                  ·intro w'
                   go_simp
                   with_reducible rfl
                  rotate_left
                  ·simp only [Act.put, List.setIfInBounds_toArray, List.set_cons_zero, List.set_cons_succ, i64_w, i32_w]
                   rfl
                  refine take_ (i := 2) (N := some 97) (v := ?_) (a' := ?_) #[true, true, true, false, true, true, true, false, false, true, true, false, false, false, true, true, false, false, false, true, true, false, false, false, false, false, false] rfl rfl (take_ofW HT_.out HW_.out (by kernel_rfl)) (fun _ _ _ h => h) (Or.inl ⟨by rfl, ?_⟩) hHeld ?_ ?_
                  rotate_left
                  ·rintro w' ⟨s0, s1, s2, s3, s4⟩
                   go_simp
                   with_reducible rfl
                  rotate_left
                  ·simp only [Act.put, List.setIfInBounds_toArray, List.set_cons_zero, List.set_cons_succ, i64_w, i32_w]
                   rfl
                  refine take_ (i := 7) (N := some 102) (v := ?_) (a' := ?_) #[true, true, true, false, true, true, true, true, false, true, true, false, false, false, true, true, false, false, false, true, true, false, false, false, false, false, false] rfl rfl (take_ofW HT_.out HW_.out (by kernel_rfl)) (fun _ _ _ h => h) (Or.inl ⟨by rfl, ?_⟩) hHeld ?_ ?_
                  rotate_left
                  ·rintro w' ⟨s0, s1, s2, s3, s4⟩
                   go_simp
                   with_reducible rfl
                  rotate_left
                  ·simp only [Act.put, List.setIfInBounds_toArray, List.set_cons_zero, List.set_cons_succ, i64_w, i32_w]
                   rfl
                  refine take_ (i := 11) (N := some 106) (v := ?_) (a' := ?_) #[true, true, true, false, true, true, true, true, false, true, true, true, false, false, true, true, false, false, false, true, true, false, false, false, false, false, false] rfl rfl (take_ofW HT_.out HW_.out (by kernel_rfl)) (fun _ _ _ h => h) (Or.inl ⟨by rfl, ?_⟩) hHeld ?_ ?_
                  rotate_left
                  ·rintro w' ⟨s0, s1, s2, s3, s4⟩
                   go_simp
                   with_reducible rfl
                  rotate_left
                  ·simp only [Act.put, List.setIfInBounds_toArray, List.set_cons_zero, List.set_cons_succ, i64_w, i32_w]
                   rfl
                  refine pure_ (i := 12) (N := some 107) (v := ?_) (a' := ?_) #[true, true, true, false, true, true, true, true, false, true, true, true, true, false, true, true, false, false, false, true, true, false, false, false, false, false, false] rfl rfl (any_of HT_.out (by kernel_rfl)) (fun _ _ _ h => h) (Or.inl ⟨by rfl, ?_⟩) ?_ ?_
                  rotate_left
                  ·intro w'
                   go_simp
                   with_reducible rfl
                  rotate_left
                  ·simp only [Act.put, List.setIfInBounds_toArray, List.set_cons_zero, List.set_cons_succ, i64_w, i32_w]
                   rfl
                  refine take_ (i := 16) (N := some 111) (v := ?_) (a' := ?_) #[true, true, true, false, true, true, true, true, false, true, true, true, true, false, true, true, true, false, false, true, true, false, false, false, false, false, false] rfl rfl (take_ofW HT_.out HW_.out (by kernel_rfl)) (fun _ _ _ h => h) (Or.inl ⟨by rfl, ?_⟩) hHeld ?_ ?_
                  rotate_left
                  ·rintro w' ⟨s0, s1, s2, s3, s4⟩
                   go_simp
                   with_reducible rfl
                  rotate_left
                  ·simp only [Act.put, List.setIfInBounds_toArray, List.set_cons_zero, List.set_cons_succ, i64_w, i32_w]
                   rfl
                  refine pure_ (i := 17) (N := some 112) (v := ?_) (a' := ?_) #[true, true, true, false, true, true, true, true, false, true, true, true, true, false, true, true, true, true, false, true, true, false, false, false, false, false, false] rfl rfl (any_of HT_.out (by kernel_rfl)) (fun _ _ _ h => h) (Or.inl ⟨by rfl, ?_⟩) ?_ ?_
                  rotate_left
                  ·intro w'
                   go_simp
                   with_reducible rfl
                  rotate_left
                  ·simp only [Act.put, List.setIfInBounds_toArray, List.set_cons_zero, List.set_cons_succ, i64_w, i32_w]
                   rfl
                  refine take_ (i := 21) (N := some 116) (v := ?_) (a' := ?_) #[true, true, true, false, true, true, true, true, false, true, true, true, true, false, true, true, true, true, false, true, true, true, false, false, false, false, false] rfl rfl (take_ofW HT_.out HW_.out (by kernel_rfl)) (fun _ _ _ h => h) (Or.inl ⟨by rfl, ?_⟩) hHeld ?_ ?_
                  rotate_left
                  ·rintro w' ⟨s0, s1, s2, s3, s4⟩
                   go_simp
                   with_reducible rfl
                  rotate_left
                  ·simp only [Act.put, List.setIfInBounds_toArray, List.set_cons_zero, List.set_cons_succ, i64_w, i32_w]
                   rfl
                  refine pure_ (i := 22) (N := some 117) (v := ?_) (a' := ?_) #[true, true, true, false, true, true, true, true, false, true, true, true, true, false, true, true, true, true, false, true, true, true, true, false, false, false, false] rfl rfl (any_of HT_.out (by kernel_rfl)) (fun _ _ _ h => h) (Or.inl ⟨by rfl, ?_⟩) ?_ ?_
                  rotate_left
                  ·intro w'
                   go_simp
                   with_reducible rfl
                  rotate_left
                  ·simp only [Act.put, List.setIfInBounds_toArray, List.set_cons_zero, List.set_cons_succ, i64_w, i32_w]
                   rfl
                  refine join_ (σ := Nat) 1 #[true, true, true, true, true, true, true, true, true, true, true, true, true, true, true, true, true, true, true, true, true, true, true, true, true, true, false] (fun s_ => [(98, .int .i64 t155), (103, .int .i64 t157), (108, .int .i64 t159), (113, .int .i64 t161), (118, .int .i64 t163), (9, .pointer (some ⟨s_, 0, none⟩)), (119, .agg #[.int .i64 t155, .int .i64 x7_4, .int .i64 t157, .int .i64 t159, .int .i64 t161, .int .i64 t163])]) (fun s_ w' => (w'.cell? ⟨ad154.block, ad154.off + 2, none⟩ = some (.string (rdOf ByteArray.empty t143 2)) ∧ w'.cell? ad154 = some (.string (rdOf ByteArray.empty t143 0)) ∧ w'.cell? ⟨ad154.block, ad154.off + 3, none⟩ = some (.string (rdOf ByteArray.empty t143 3)) ∧ w'.cell? ⟨ad154.block, ad154.off + 3, none⟩ = some (.string (rdOf ByteArray.empty t143 3)) ∧ w'.cell? ⟨ad154.block, ad154.off + 3, none⟩ = some (.string (rdOf ByteArray.empty t143 3))) ∧ (Kd.R Kd.string 9 w' w.heap.size (fun _ => True) (.slice (some ad154) t143.length co68) t143) ∧ (w'.heap[s_]? = some (.cells #[.int .i64 0, .int .i64 0, .int .i64 0, .int .i64 0, .int .i64 0, .int .i64 0] 28 (0, 0))) ∧ (w.heap.size ≤ s_) ∧ (w.heap.size ≤ s_) ∧ (Below w.heap.size w w')) ?_ ?_
                  rotate_left
                  ·intro hJ3_8_13_18_23_25
                   refine join_ (σ := Unit) 2 #[true, true, true, true, true, true, true, true, true, true, true, true, true, true, true, true, true, true, true, true, true, true, true, true, true, false, false] (fun s_ => [(98, .int .i64 t155), (103, .int .i64 t157), (108, .int .i64 t159), (113, .int .i64 t161), (118, .int .i64 t163), (119, .agg #[.int .i64 t155, .int .i64 x7_4, .int .i64 t157, .int .i64 t159, .int .i64 t161, .int .i64 t163])]) (fun s_ w' => (w'.cell? ⟨ad154.block, ad154.off + 2, none⟩ = some (.string (rdOf ByteArray.empty t143 2)) ∧ w'.cell? ad154 = some (.string (rdOf ByteArray.empty t143 0)) ∧ w'.cell? ⟨ad154.block, ad154.off + 3, none⟩ = some (.string (rdOf ByteArray.empty t143 3)) ∧ w'.cell? ⟨ad154.block, ad154.off + 3, none⟩ = some (.string (rdOf ByteArray.empty t143 3)) ∧ w'.cell? ⟨ad154.block, ad154.off + 3, none⟩ = some (.string (rdOf ByteArray.empty t143 3))) ∧ (Kd.R Kd.string 9 w' w.heap.size (fun _ => True) (.slice (some ad154) t143.length co68) t143) ∧ (Below w.heap.size w w')) ?_ ?_
                   rotate_left
                   ·intro hJ3_8_13_18_23
                    refine join_ (σ := Nat) 3 #[true, true, true, true, true, true, true, true, true, true, true, true, true, true, true, true, true, true, true, true, true, true, true, false, false, true, false] (fun s_ => [(98, .int .i64 t155), (103, .int .i64 t157), (108, .int .i64 t159), (113, .int .i64 t161), (9, .pointer (some ⟨s_, 0, none⟩))]) (fun s_ w' => (w'.cell? ⟨ad154.block, ad154.off + 2, none⟩ = some (.string (rdOf ByteArray.empty t143 2)) ∧ w'.cell? ad154 = some (.string (rdOf ByteArray.empty t143 0)) ∧ w'.cell? ⟨ad154.block, ad154.off + 3, none⟩ = some (.string (rdOf ByteArray.empty t143 3)) ∧ w'.cell? ⟨ad154.block, ad154.off + 3, none⟩ = some (.string (rdOf ByteArray.empty t143 3)) ∧ w'.cell? ⟨ad154.block, ad154.off + 3, none⟩ = some (.string (rdOf ByteArray.empty t143 3))) ∧ (Kd.R Kd.string 9 w' w.heap.size (fun _ => True) (.slice (some ad154) t143.length co68) t143) ∧ (w'.heap[s_]? = some (.cells #[.int .i64 0, .int .i64 0, .int .i64 0, .int .i64 0, .int .i64 0, .int .i64 0] 28 (0, 0))) ∧ (w.heap.size ≤ s_) ∧ (w.heap.size ≤ s_) ∧ (Below w.heap.size w w')) ?_ ?_
                    rotate_left
                    ·intro hJ3_8_13_18_25
                     refine join_ (σ := Unit) 4 #[true, true, true, true, true, true, true, true, true, true, true, true, true, true, true, true, true, true, true, true, true, true, true, false, false, false, false] (fun s_ => [(98, .int .i64 t155), (103, .int .i64 t157), (108, .int .i64 t159), (113, .int .i64 t161)]) (fun s_ w' => (w'.cell? ⟨ad154.block, ad154.off + 2, none⟩ = some (.string (rdOf ByteArray.empty t143 2)) ∧ w'.cell? ad154 = some (.string (rdOf ByteArray.empty t143 0)) ∧ w'.cell? ⟨ad154.block, ad154.off + 3, none⟩ = some (.string (rdOf ByteArray.empty t143 3)) ∧ w'.cell? ⟨ad154.block, ad154.off + 3, none⟩ = some (.string (rdOf ByteArray.empty t143 3)) ∧ w'.cell? ⟨ad154.block, ad154.off + 3, none⟩ = some (.string (rdOf ByteArray.empty t143 3))) ∧ (Kd.R Kd.string 9 w' w.heap.size (fun _ => True) (.slice (some ad154) t143.length co68) t143) ∧ (Below w.heap.size w w')) ?_ ?_
                     rotate_left
                     ·intro hJ3_8_13_18
                      refine join_ (σ := Nat) 4 #[true, true, true, true, true, true, true, true, true, true, true, true, true, true, true, true, true, true, false, true, true, true, true, false, false, true, false] (fun s_ => [(98, .int .i64 t155), (103, .int .i64 t157), (108, .int .i64 t159), (9, .pointer (some ⟨s_, 0, none⟩))]) (fun s_ w' => (w'.cell? ⟨ad154.block, ad154.off + 2, none⟩ = some (.string (rdOf ByteArray.empty t143 2)) ∧ w'.cell? ad154 = some (.string (rdOf ByteArray.empty t143 0)) ∧ w'.cell? ⟨ad154.block, ad154.off + 3, none⟩ = some (.string (rdOf ByteArray.empty t143 3)) ∧ w'.cell? ⟨ad154.block, ad154.off + 3, none⟩ = some (.string (rdOf ByteArray.empty t143 3)) ∧ w'.cell? ⟨ad154.block, ad154.off + 3, none⟩ = some (.string (rdOf ByteArray.empty t143 3))) ∧ (Kd.R Kd.string 9 w' w.heap.size (fun _ => True) (.slice (some ad154) t143.length co68) t143) ∧ (w'.heap[s_]? = some (.cells #[.int .i64 0, .int .i64 0, .int .i64 0, .int .i64 0, .int .i64 0, .int .i64 0] 28 (0, 0))) ∧ (w.heap.size ≤ s_) ∧ (w.heap.size ≤ s_) ∧ (Below w.heap.size w w')) ?_ ?_
                      rotate_left
                      ·intro hJ3_8_13_25
                       refine join_ (σ := Unit) 5 #[true, true, true, true, true, true, true, true, true, true, true, true, true, true, true, true, true, true, false, true, true, true, true, false, false, false, false] (fun s_ => [(98, .int .i64 t155), (103, .int .i64 t157), (108, .int .i64 t159)]) (fun s_ w' => (w'.cell? ⟨ad154.block, ad154.off + 2, none⟩ = some (.string (rdOf ByteArray.empty t143 2)) ∧ w'.cell? ad154 = some (.string (rdOf ByteArray.empty t143 0)) ∧ w'.cell? ⟨ad154.block, ad154.off + 3, none⟩ = some (.string (rdOf ByteArray.empty t143 3)) ∧ w'.cell? ⟨ad154.block, ad154.off + 3, none⟩ = some (.string (rdOf ByteArray.empty t143 3)) ∧ w'.cell? ⟨ad154.block, ad154.off + 3, none⟩ = some (.string (rdOf ByteArray.empty t143 3))) ∧ (Kd.R Kd.string 9 w' w.heap.size (fun _ => True) (.slice (some ad154) t143.length co68) t143) ∧ (Below w.heap.size w w')) ?_ ?_
                       rotate_left
                       ·intro hJ3_8_13
                        refine join_ (σ := Nat) 5 #[true, true, true, true, true, true, true, true, true, true, true, true, true, false, true, true, true, true, false, true, true, true, true, false, false, true, false] (fun s_ => [(98, .int .i64 t155), (103, .int .i64 t157), (9, .pointer (some ⟨s_, 0, none⟩))]) (fun s_ w' => (w'.cell? ⟨ad154.block, ad154.off + 2, none⟩ = some (.string (rdOf ByteArray.empty t143 2)) ∧ w'.cell? ad154 = some (.string (rdOf ByteArray.empty t143 0)) ∧ w'.cell? ⟨ad154.block, ad154.off + 3, none⟩ = some (.string (rdOf ByteArray.empty t143 3)) ∧ w'.cell? ⟨ad154.block, ad154.off + 3, none⟩ = some (.string (rdOf ByteArray.empty t143 3)) ∧ w'.cell? ⟨ad154.block, ad154.off + 3, none⟩ = some (.string (rdOf ByteArray.empty t143 3))) ∧ (Kd.R Kd.string 9 w' w.heap.size (fun _ => True) (.slice (some ad154) t143.length co68) t143) ∧ (w'.heap[s_]? = some (.cells #[.int .i64 0, .int .i64 0, .int .i64 0, .int .i64 0, .int .i64 0, .int .i64 0] 28 (0, 0))) ∧ (w.heap.size ≤ s_) ∧ (w.heap.size ≤ s_) ∧ (Below w.heap.size w w')) ?_ ?_
                        rotate_left
                        ·intro hJ3_8_25
                         refine join_ (σ := Unit) 6 #[true, true, true, true, true, true, true, true, true, true, true, true, true, false, true, true, true, true, false, true, true, true, true, false, false, false, false] (fun s_ => [(98, .int .i64 t155), (103, .int .i64 t157)]) (fun s_ w' => (w'.cell? ⟨ad154.block, ad154.off + 2, none⟩ = some (.string (rdOf ByteArray.empty t143 2)) ∧ w'.cell? ad154 = some (.string (rdOf ByteArray.empty t143 0)) ∧ w'.cell? ⟨ad154.block, ad154.off + 3, none⟩ = some (.string (rdOf ByteArray.empty t143 3)) ∧ w'.cell? ⟨ad154.block, ad154.off + 3, none⟩ = some (.string (rdOf ByteArray.empty t143 3)) ∧ w'.cell? ⟨ad154.block, ad154.off + 3, none⟩ = some (.string (rdOf ByteArray.empty t143 3))) ∧ (Kd.R Kd.string 9 w' w.heap.size (fun _ => True) (.slice (some ad154) t143.length co68) t143) ∧ (Below w.heap.size w w')) ?_ ?_
                         rotate_left
                         ·intro hJ3_8
                          refine join_ (σ := Nat) 6 #[true, true, true, true, true, true, true, true, false, true, true, true, true, false, true, true, true, true, false, true, true, true, true, false, false, true, false] (fun s_ => [(98, .int .i64 t155), (9, .pointer (some ⟨s_, 0, none⟩))]) (fun s_ w' => (w'.cell? ⟨ad154.block, ad154.off + 2, none⟩ = some (.string (rdOf ByteArray.empty t143 2)) ∧ w'.cell? ad154 = some (.string (rdOf ByteArray.empty t143 0)) ∧ w'.cell? ⟨ad154.block, ad154.off + 3, none⟩ = some (.string (rdOf ByteArray.empty t143 3)) ∧ w'.cell? ⟨ad154.block, ad154.off + 3, none⟩ = some (.string (rdOf ByteArray.empty t143 3)) ∧ w'.cell? ⟨ad154.block, ad154.off + 3, none⟩ = some (.string (rdOf ByteArray.empty t143 3))) ∧ (Kd.R Kd.string 9 w' w.heap.size (fun _ => True) (.slice (some ad154) t143.length co68) t143) ∧ (w'.heap[s_]? = some (.cells #[.int .i64 0, .int .i64 0, .int .i64 0, .int .i64 0, .int .i64 0, .int .i64 0] 28 (0, 0))) ∧ (w.heap.size ≤ s_) ∧ (w.heap.size ≤ s_) ∧ (Below w.heap.size w w')) ?_ ?_
                          rotate_left
                          ·intro hJ3_25
                           refine join_ (σ := Unit) 7 #[true, true, true, true, true, true, true, true, false, true, true, true, true, false, true, true, true, true, false, true, true, true, true, false, false, false, false] (fun s_ => [(98, .int .i64 t155)]) (fun s_ w' => (w'.cell? ⟨ad154.block, ad154.off + 2, none⟩ = some (.string (rdOf ByteArray.empty t143 2)) ∧ w'.cell? ad154 = some (.string (rdOf ByteArray.empty t143 0)) ∧ w'.cell? ⟨ad154.block, ad154.off + 3, none⟩ = some (.string (rdOf ByteArray.empty t143 3)) ∧ w'.cell? ⟨ad154.block, ad154.off + 3, none⟩ = some (.string (rdOf ByteArray.empty t143 3)) ∧ w'.cell? ⟨ad154.block, ad154.off + 3, none⟩ = some (.string (rdOf ByteArray.empty t143 3))) ∧ (Kd.R Kd.string 9 w' w.heap.size (fun _ => True) (.slice (some ad154) t143.length co68) t143) ∧ (Below w.heap.size w w')) ?_ ?_
                           rotate_left
                           ·intro hJ3
                            refine join_ (σ := Nat) 7 #[true, true, true, false, true, true, true, true, false, true, true, true, true, false, true, true, true, true, false, true, true, true, true, false, false, true, false] (fun s_ => [(9, .pointer (some ⟨s_, 0, none⟩))]) (fun s_ w' => (w'.cell? ⟨ad154.block, ad154.off + 2, none⟩ = some (.string (rdOf ByteArray.empty t143 2)) ∧ w'.cell? ad154 = some (.string (rdOf ByteArray.empty t143 0)) ∧ w'.cell? ⟨ad154.block, ad154.off + 3, none⟩ = some (.string (rdOf ByteArray.empty t143 3)) ∧ w'.cell? ⟨ad154.block, ad154.off + 3, none⟩ = some (.string (rdOf ByteArray.empty t143 3)) ∧ w'.cell? ⟨ad154.block, ad154.off + 3, none⟩ = some (.string (rdOf ByteArray.empty t143 3))) ∧ (Kd.R Kd.string 9 w' w.heap.size (fun _ => True) (.slice (some ad154) t143.length co68) t143) ∧ (w'.heap[s_]? = some (.cells #[.int .i64 0, .int .i64 0, .int .i64 0, .int .i64 0, .int .i64 0, .int .i64 0] 28 (0, 0))) ∧ (w.heap.size ≤ s_) ∧ (w.heap.size ≤ s_) ∧ (Below w.heap.size w w')) ?_ ?_
                            rotate_left
                            ·intro hJ25
                             refine two_ (i := 3) (j := 25) (Ni := some 98) (Nj := some 9) #[true, true, true, true, true, true, true, true, false, true, true, true, true, false, true, true, true, true, false, true, true, true, true, false, false, false, false] #[true, true, true, false, true, true, true, true, false, true, true, true, true, false, true, true, true, true, false, true, true, true, true, false, false, true, false] rfl rfl rfl rfl (two_of HT_.out (by kernel_rfl)) (by decide) (by decide) (fun K hK => ?_) (fun K hK => ?_)
                             ·skip
                              refine goes_ Try.func37 (by kernel_rfl) rfl #[.string (rdOf ByteArray.empty t143 2)] (by rfl) rfl rfl (by (try simp only [List.map_toArray, List.map_cons, List.map_nil]); first | done | rfl | (simp only [List.length_drop, List.length_take]; rfl)) ?_
                              with_reducible refine (spec_l04Number.calls k4 (rdOf ByteArray.empty t143 2) t155 _ A56.out).mono ?_
                              rintro e w' ⟨rfl, ⟨nd, rfl⟩⟩
                              refine ⟨_, rfl, ?_⟩
                              refine hK.out _ _ ⟨hHeld.1, hHeld.2.1, hHeld.2.2.1, hHeld.2.2.2.1, hHeld.2.2.2.2⟩ (fun hHeld => ?_)
                              clear hK K
                              refine norm_ (a' := ?_) ?_ ?_
                              rotate_left
                              ·show Act.put _ (some 98) _ = _
                               simp only [Act.put, List.setIfInBounds_toArray, List.set_cons_zero, List.set_cons_succ, i64_w, i32_w]
                               rfl
                              exact norm_ (by first | (simp only [putAll, Act.put, List.setIfInBounds_toArray, List.set_cons_zero, List.set_cons_succ]; done) | (simp only [putAll, Act.put, List.setIfInBounds_toArray, List.set_cons_zero, List.set_cons_succ]; rfl)) (hJ3 () _ ⟨hHeld, (by (with_reducible repeat (first | apply Kd.R_alloc | apply Kd.R_drewN | apply Kd.R_drew)); exact HO_6.out), (by repeat (first | (with_reducible first | exact HB.out | apply below_alloc | apply pw_below_drewN | apply below_drew1) | exact HB.out))⟩)
                             ·skip
                              refine box_step ?hg (N := 9) ?hd (cs := #[.int .i64 0, .int .i64 0, .int .i64 0, .int .i64 0, .int .i64 0, .int .i64 0]) (t := 28) ?hr ?_; (case hd => rfl); (case hg => rfl); (case hr => first | (go_simp; done) | (go_simp; rfl))
                              intro gb164 hg w69 hbox hb
                              have HS0_ := (hb.cell (World.block_lt_of_cell? _ _ (hHeld.1))).trans (hHeld.1)
                              have HS1_ := (hb.cell (World.block_lt_of_cell? _ _ (hHeld.2.1))).trans (hHeld.2.1)
                              have HS2_ := (hb.cell (World.block_lt_of_cell? _ _ (hHeld.2.2.1))).trans (hHeld.2.2.1)
                              have HS3_ := (hb.cell (World.block_lt_of_cell? _ _ (hHeld.2.2.2.1))).trans (hHeld.2.2.2.1)
                              have HS4_ := (hb.cell (World.block_lt_of_cell? _ _ (hHeld.2.2.2.2))).trans (hHeld.2.2.2.2)
                              have n0_ := Aside0.mk (Kd.R_below (by (with_reducible repeat (first | apply Kd.R_alloc | apply Kd.R_drewN | apply Kd.R_drew)); exact HO_6.out) hb)
                              have n1_ := Aside0.mk (below_step (by repeat (first | (with_reducible first | exact HB.out | apply below_alloc | apply pw_below_drewN | apply below_drew1) | exact HB.out)) hb)
                              have n2_ := Aside0.mk (hbox)
                              have n3_ := Aside0.mk ((by rw [hg]; exact (below_size (by repeat (first | (with_reducible first | exact HB.out | apply below_alloc | apply pw_below_drewN | apply below_drew1) | exact HB.out))) : w.heap.size ≤ gb164))
                              have n4_ := Aside0.mk ((by rw [hg]; exact (below_size (by repeat (first | (with_reducible first | exact HB.out | apply below_alloc | apply pw_below_drewN | apply below_drew1) | exact HB.out))) : w.heap.size ≤ gb164))
                              clear HO_6
                              clear HB
                              have HO_6 := n0_
                              have HB := n1_
                              have BK164 := n2_
                              have GW164 := n3_
                              have GE164 := n4_
                              clear n0_ n1_ n2_ n3_ n4_
                              clear hb hbox hg
                              refine hK.out _ _ ⟨HS0_, HS1_, HS2_, HS3_, HS4_⟩ (fun hHeld => ?_)
                              clear hK K
                              refine norm_ (a' := ?_) ?_ ?_
                              rotate_left
                              ·show Act.put _ (some 9) _ = _
                               simp only [Act.put, List.setIfInBounds_toArray, List.set_cons_zero, List.set_cons_succ, i64_w, i32_w]
                               rfl
                              exact norm_ (by first | (simp only [putAll, Act.put, List.setIfInBounds_toArray, List.set_cons_zero, List.set_cons_succ]; done) | (simp only [putAll, Act.put, List.setIfInBounds_toArray, List.set_cons_zero, List.set_cons_succ]; rfl)) (hJ25 (gb164) _ ⟨hHeld, (by (with_reducible repeat (first | apply Kd.R_alloc | apply Kd.R_drewN | apply Kd.R_drew)); exact HO_6.out), (by (with_reducible repeat (first | refine blk_drewN ?_ _ | refine blk_drew ?_ | refine blk_alloc ?_ _)); exact BK164.out), GW164.out, GE164.out, (by repeat (first | (with_reducible first | exact HB.out | apply below_alloc | apply pw_below_drewN | apply below_drew1 | refine below_set ?_ GE164.out) | exact HB.out))⟩)
                            ·skip
                             rintro gb164 w70 ⟨hS_, h0_, h1_, h2_, h3_, h4_⟩
                             have n0_ : Aside0 (Kd.R Kd.string 9 w70 w.heap.size (fun _ => True) (.slice (some ad154) t143.length co68) t143) := ⟨h0_⟩
                             have n1_ : Aside0 (w70.heap[gb164]? = some (.cells #[.int .i64 0, .int .i64 0, .int .i64 0, .int .i64 0, .int .i64 0, .int .i64 0] 28 (0, 0))) := ⟨h1_⟩
                             have n2_ : Aside0 (w.heap.size ≤ gb164) := ⟨h2_⟩
                             have n3_ : Aside0 (w.heap.size ≤ gb164) := ⟨h3_⟩
                             have n4_ : Aside0 (Below w.heap.size w w70) := ⟨h4_⟩
                             clear HO_6
                             clear HB
                             clear h0_ h1_ h2_ h3_ h4_
                             have HO_6 := n0_
                             have BK164 := n1_
                             have GW164 := n2_
                             have GE164 := n3_
                             have HB := n4_
                             clear n0_ n1_ n2_ n3_ n4_
                             have hHeld : w70.cell? ⟨ad154.block, ad154.off + 2, none⟩ = some (.string (rdOf ByteArray.empty t143 2)) ∧ w70.cell? ad154 = some (.string (rdOf ByteArray.empty t143 0)) ∧ w70.cell? ⟨ad154.block, ad154.off + 3, none⟩ = some (.string (rdOf ByteArray.empty t143 3)) ∧ w70.cell? ⟨ad154.block, ad154.off + 3, none⟩ = some (.string (rdOf ByteArray.empty t143 3)) ∧ w70.cell? ⟨ad154.block, ad154.off + 3, none⟩ = some (.string (rdOf ByteArray.empty t143 3)) := hS_
                             refine norm_ (a' := ?_) ?_ ?_
                             rotate_left
                             ·simp only [putAll, Act.put, List.setIfInBounds_toArray, List.set_cons_zero, List.set_cons_succ]
                              rfl
                             refine one_ (i := 3) (N := some 98) #[true, true, true, true, true, true, true, true, false, true, true, true, true, false, true, true, true, true, false, true, true, true, true, false, false, true, false] rfl rfl (one_of HT_.out (by kernel_rfl)) (by decide) (fun K hK => ?_)
                             refine goes_ Try.func37 (by kernel_rfl) rfl #[.string (rdOf ByteArray.empty t143 2)] (by rfl) rfl rfl (by (try simp only [List.map_toArray, List.map_cons, List.map_nil]); first | done | rfl | (simp only [List.length_drop, List.length_take]; rfl)) ?_
                             with_reducible refine (spec_l04Number.calls k4 (rdOf ByteArray.empty t143 2) t155 _ A56.out).mono ?_
                             rintro e w' ⟨rfl, ⟨nd, rfl⟩⟩
                             refine ⟨_, rfl, ?_⟩
                             refine hK.out _ _ ⟨hHeld.1, hHeld.2.1, hHeld.2.2.1, hHeld.2.2.2.1, hHeld.2.2.2.2⟩ (fun hHeld => ?_)
                             clear hK K
                             refine norm_ (a' := ?_) ?_ ?_
                             rotate_left
                             ·show Act.put _ (some 98) _ = _
                              simp only [Act.put, List.setIfInBounds_toArray, List.set_cons_zero, List.set_cons_succ, i64_w, i32_w]
                              rfl
                             exact norm_ (by first | (simp only [putAll, Act.put, List.setIfInBounds_toArray, List.set_cons_zero, List.set_cons_succ]; done) | (simp only [putAll, Act.put, List.setIfInBounds_toArray, List.set_cons_zero, List.set_cons_succ]; rfl)) (hJ3_25 (gb164) _ ⟨hHeld, (by (with_reducible repeat (first | apply Kd.R_alloc | apply Kd.R_drewN | apply Kd.R_drew)); exact HO_6.out), (by (with_reducible repeat (first | refine blk_drewN ?_ _ | refine blk_drew ?_ | refine blk_alloc ?_ _)); exact BK164.out), GW164.out, GE164.out, (by repeat (first | (with_reducible first | exact HB.out | apply below_alloc | apply pw_below_drewN | apply below_drew1 | refine below_set ?_ GE164.out) | exact HB.out))⟩)
                           ·skip
                            rintro _ w69 ⟨hS_, h0_, h1_⟩
                            have n0_ : Aside0 (Kd.R Kd.string 9 w69 w.heap.size (fun _ => True) (.slice (some ad154) t143.length co68) t143) := ⟨h0_⟩
                            have n1_ : Aside0 (Below w.heap.size w w69) := ⟨h1_⟩
                            clear HO_6
                            clear HB
                            clear h0_ h1_
                            have HO_6 := n0_
                            have HB := n1_
                            clear n0_ n1_
                            have hHeld : w69.cell? ⟨ad154.block, ad154.off + 2, none⟩ = some (.string (rdOf ByteArray.empty t143 2)) ∧ w69.cell? ad154 = some (.string (rdOf ByteArray.empty t143 0)) ∧ w69.cell? ⟨ad154.block, ad154.off + 3, none⟩ = some (.string (rdOf ByteArray.empty t143 3)) ∧ w69.cell? ⟨ad154.block, ad154.off + 3, none⟩ = some (.string (rdOf ByteArray.empty t143 3)) ∧ w69.cell? ⟨ad154.block, ad154.off + 3, none⟩ = some (.string (rdOf ByteArray.empty t143 3)) := hS_
                            refine norm_ (a' := ?_) ?_ ?_
                            rotate_left
                            ·simp only [putAll, Act.put, List.setIfInBounds_toArray, List.set_cons_zero, List.set_cons_succ]
                             rfl
                            refine two_ (i := 8) (j := 25) (Ni := some 103) (Nj := some 9) #[true, true, true, true, true, true, true, true, true, true, true, true, true, false, true, true, true, true, false, true, true, true, true, false, false, false, false] #[true, true, true, true, true, true, true, true, false, true, true, true, true, false, true, true, true, true, false, true, true, true, true, false, false, true, false] rfl rfl rfl rfl (two_of HT_.out (by kernel_rfl)) (by decide) (by decide) (fun K hK => ?_) (fun K hK => ?_)
                            ·skip
                             refine goes_ Try.func37 (by kernel_rfl) rfl #[.string (rdOf ByteArray.empty t143 0)] (by rfl) rfl rfl (by (try simp only [List.map_toArray, List.map_cons, List.map_nil]); first | done | rfl | (simp only [List.length_drop, List.length_take]; rfl)) ?_
                             with_reducible refine (spec_l04Number.calls k4 (rdOf ByteArray.empty t143 0) t157 _ A58.out).mono ?_
                             rintro e w' ⟨rfl, ⟨nd, rfl⟩⟩
                             refine ⟨_, rfl, ?_⟩
                             refine hK.out _ _ ⟨hHeld.1, hHeld.2.1, hHeld.2.2.1, hHeld.2.2.2.1, hHeld.2.2.2.2⟩ (fun hHeld => ?_)
                             clear hK K
                             refine norm_ (a' := ?_) ?_ ?_
                             rotate_left
                             ·show Act.put _ (some 103) _ = _
                              simp only [Act.put, List.setIfInBounds_toArray, List.set_cons_zero, List.set_cons_succ, i64_w, i32_w]
                              rfl
                             exact norm_ (by first | (simp only [putAll, Act.put, List.setIfInBounds_toArray, List.set_cons_zero, List.set_cons_succ]; done) | (simp only [putAll, Act.put, List.setIfInBounds_toArray, List.set_cons_zero, List.set_cons_succ]; rfl)) (hJ3_8 () _ ⟨hHeld, (by (with_reducible repeat (first | apply Kd.R_alloc | apply Kd.R_drewN | apply Kd.R_drew)); exact HO_6.out), (by repeat (first | (with_reducible first | exact HB.out | apply below_alloc | apply pw_below_drewN | apply below_drew1) | exact HB.out))⟩)
                            ·skip
                             refine box_step ?hg (N := 9) ?hd (cs := #[.int .i64 0, .int .i64 0, .int .i64 0, .int .i64 0, .int .i64 0, .int .i64 0]) (t := 28) ?hr ?_; (case hd => rfl); (case hg => rfl); (case hr => first | (go_simp; done) | (go_simp; rfl))
                             intro gb164 hg w70 hbox hb
                             have HS0_ := (hb.cell (World.block_lt_of_cell? _ _ (hHeld.1))).trans (hHeld.1)
                             have HS1_ := (hb.cell (World.block_lt_of_cell? _ _ (hHeld.2.1))).trans (hHeld.2.1)
                             have HS2_ := (hb.cell (World.block_lt_of_cell? _ _ (hHeld.2.2.1))).trans (hHeld.2.2.1)
                             have HS3_ := (hb.cell (World.block_lt_of_cell? _ _ (hHeld.2.2.2.1))).trans (hHeld.2.2.2.1)
                             have HS4_ := (hb.cell (World.block_lt_of_cell? _ _ (hHeld.2.2.2.2))).trans (hHeld.2.2.2.2)
                             have n0_ := Aside0.mk (Kd.R_below (by (with_reducible repeat (first | apply Kd.R_alloc | apply Kd.R_drewN | apply Kd.R_drew)); exact HO_6.out) hb)
                             have n1_ := Aside0.mk (below_step (by repeat (first | (with_reducible first | exact HB.out | apply below_alloc | apply pw_below_drewN | apply below_drew1) | exact HB.out)) hb)
                             have n2_ := Aside0.mk (hbox)
                             have n3_ := Aside0.mk ((by rw [hg]; exact (below_size (by repeat (first | (with_reducible first | exact HB.out | apply below_alloc | apply pw_below_drewN | apply below_drew1) | exact HB.out))) : w.heap.size ≤ gb164))
                             have n4_ := Aside0.mk ((by rw [hg]; exact (below_size (by repeat (first | (with_reducible first | exact HB.out | apply below_alloc | apply pw_below_drewN | apply below_drew1) | exact HB.out))) : w.heap.size ≤ gb164))
                             clear HO_6
                             clear HB
                             have HO_6 := n0_
                             have HB := n1_
                             have BK164 := n2_
                             have GW164 := n3_
                             have GE164 := n4_
                             clear n0_ n1_ n2_ n3_ n4_
                             clear hb hbox hg
                             refine hK.out _ _ ⟨HS0_, HS1_, HS2_, HS3_, HS4_⟩ (fun hHeld => ?_)
                             clear hK K
                             refine norm_ (a' := ?_) ?_ ?_
                             rotate_left
                             ·show Act.put _ (some 9) _ = _
                              simp only [Act.put, List.setIfInBounds_toArray, List.set_cons_zero, List.set_cons_succ, i64_w, i32_w]
                              rfl
                             exact norm_ (by first | (simp only [putAll, Act.put, List.setIfInBounds_toArray, List.set_cons_zero, List.set_cons_succ]; done) | (simp only [putAll, Act.put, List.setIfInBounds_toArray, List.set_cons_zero, List.set_cons_succ]; rfl)) (hJ3_25 (gb164) _ ⟨hHeld, (by (with_reducible repeat (first | apply Kd.R_alloc | apply Kd.R_drewN | apply Kd.R_drew)); exact HO_6.out), (by (with_reducible repeat (first | refine blk_drewN ?_ _ | refine blk_drew ?_ | refine blk_alloc ?_ _)); exact BK164.out), GW164.out, GE164.out, (by repeat (first | (with_reducible first | exact HB.out | apply below_alloc | apply pw_below_drewN | apply below_drew1 | refine below_set ?_ GE164.out) | exact HB.out))⟩)
                          ·skip
                           rintro gb164 w70 ⟨hS_, h0_, h1_, h2_, h3_, h4_⟩
                           have n0_ : Aside0 (Kd.R Kd.string 9 w70 w.heap.size (fun _ => True) (.slice (some ad154) t143.length co68) t143) := ⟨h0_⟩
                           have n1_ : Aside0 (w70.heap[gb164]? = some (.cells #[.int .i64 0, .int .i64 0, .int .i64 0, .int .i64 0, .int .i64 0, .int .i64 0] 28 (0, 0))) := ⟨h1_⟩
                           have n2_ : Aside0 (w.heap.size ≤ gb164) := ⟨h2_⟩
                           have n3_ : Aside0 (w.heap.size ≤ gb164) := ⟨h3_⟩
                           have n4_ : Aside0 (Below w.heap.size w w70) := ⟨h4_⟩
                           clear HO_6
                           clear HB
                           clear h0_ h1_ h2_ h3_ h4_
                           have HO_6 := n0_
                           have BK164 := n1_
                           have GW164 := n2_
                           have GE164 := n3_
                           have HB := n4_
                           clear n0_ n1_ n2_ n3_ n4_
                           have hHeld : w70.cell? ⟨ad154.block, ad154.off + 2, none⟩ = some (.string (rdOf ByteArray.empty t143 2)) ∧ w70.cell? ad154 = some (.string (rdOf ByteArray.empty t143 0)) ∧ w70.cell? ⟨ad154.block, ad154.off + 3, none⟩ = some (.string (rdOf ByteArray.empty t143 3)) ∧ w70.cell? ⟨ad154.block, ad154.off + 3, none⟩ = some (.string (rdOf ByteArray.empty t143 3)) ∧ w70.cell? ⟨ad154.block, ad154.off + 3, none⟩ = some (.string (rdOf ByteArray.empty t143 3)) := hS_
                           refine norm_ (a' := ?_) ?_ ?_
                           rotate_left
                           ·simp only [putAll, Act.put, List.setIfInBounds_toArray, List.set_cons_zero, List.set_cons_succ]
                            rfl
                           refine one_ (i := 8) (N := some 103) #[true, true, true, true, true, true, true, true, true, true, true, true, true, false, true, true, true, true, false, true, true, true, true, false, false, true, false] rfl rfl (one_of HT_.out (by kernel_rfl)) (by decide) (fun K hK => ?_)
                           refine goes_ Try.func37 (by kernel_rfl) rfl #[.string (rdOf ByteArray.empty t143 0)] (by rfl) rfl rfl (by (try simp only [List.map_toArray, List.map_cons, List.map_nil]); first | done | rfl | (simp only [List.length_drop, List.length_take]; rfl)) ?_
                           with_reducible refine (spec_l04Number.calls k4 (rdOf ByteArray.empty t143 0) t157 _ A58.out).mono ?_
                           rintro e w' ⟨rfl, ⟨nd, rfl⟩⟩
                           refine ⟨_, rfl, ?_⟩
                           refine hK.out _ _ ⟨hHeld.1, hHeld.2.1, hHeld.2.2.1, hHeld.2.2.2.1, hHeld.2.2.2.2⟩ (fun hHeld => ?_)
                           clear hK K
                           refine norm_ (a' := ?_) ?_ ?_
                           rotate_left
                           ·show Act.put _ (some 103) _ = _
                            simp only [Act.put, List.setIfInBounds_toArray, List.set_cons_zero, List.set_cons_succ, i64_w, i32_w]
                            rfl
                           exact norm_ (by first | (simp only [putAll, Act.put, List.setIfInBounds_toArray, List.set_cons_zero, List.set_cons_succ]; done) | (simp only [putAll, Act.put, List.setIfInBounds_toArray, List.set_cons_zero, List.set_cons_succ]; rfl)) (hJ3_8_25 (gb164) _ ⟨hHeld, (by (with_reducible repeat (first | apply Kd.R_alloc | apply Kd.R_drewN | apply Kd.R_drew)); exact HO_6.out), (by (with_reducible repeat (first | refine blk_drewN ?_ _ | refine blk_drew ?_ | refine blk_alloc ?_ _)); exact BK164.out), GW164.out, GE164.out, (by repeat (first | (with_reducible first | exact HB.out | apply below_alloc | apply pw_below_drewN | apply below_drew1 | refine below_set ?_ GE164.out) | exact HB.out))⟩)
                         ·skip
                          rintro _ w69 ⟨hS_, h0_, h1_⟩
                          have n0_ : Aside0 (Kd.R Kd.string 9 w69 w.heap.size (fun _ => True) (.slice (some ad154) t143.length co68) t143) := ⟨h0_⟩
                          have n1_ : Aside0 (Below w.heap.size w w69) := ⟨h1_⟩
                          clear HO_6
                          clear HB
                          clear h0_ h1_
                          have HO_6 := n0_
                          have HB := n1_
                          clear n0_ n1_
                          have hHeld : w69.cell? ⟨ad154.block, ad154.off + 2, none⟩ = some (.string (rdOf ByteArray.empty t143 2)) ∧ w69.cell? ad154 = some (.string (rdOf ByteArray.empty t143 0)) ∧ w69.cell? ⟨ad154.block, ad154.off + 3, none⟩ = some (.string (rdOf ByteArray.empty t143 3)) ∧ w69.cell? ⟨ad154.block, ad154.off + 3, none⟩ = some (.string (rdOf ByteArray.empty t143 3)) ∧ w69.cell? ⟨ad154.block, ad154.off + 3, none⟩ = some (.string (rdOf ByteArray.empty t143 3)) := hS_
                          refine norm_ (a' := ?_) ?_ ?_
                          rotate_left
                          ·simp only [putAll, Act.put, List.setIfInBounds_toArray, List.set_cons_zero, List.set_cons_succ]
                           rfl
                          refine two_ (i := 13) (j := 25) (Ni := some 108) (Nj := some 9) #[true, true, true, true, true, true, true, true, true, true, true, true, true, true, true, true, true, true, false, true, true, true, true, false, false, false, false] #[true, true, true, true, true, true, true, true, true, true, true, true, true, false, true, true, true, true, false, true, true, true, true, false, false, true, false] rfl rfl rfl rfl (two_of HT_.out (by kernel_rfl)) (by decide) (by decide) (fun K hK => ?_) (fun K hK => ?_)
                          ·skip
                           refine goes_ Try.func37 (by kernel_rfl) rfl #[.string ((rdOf ByteArray.empty t143 3).extract 0 2)] (by rfl) rfl rfl (by (try simp only [List.map_toArray, List.map_cons, List.map_nil]); first | done | rfl | (simp only [List.length_drop, List.length_take]; rfl)) ?_
                           with_reducible refine (spec_l04Number.calls k4 ((rdOf ByteArray.empty t143 3).extract 0 2) t159 _ A61.out).mono ?_
                           rintro e w' ⟨rfl, ⟨nd, rfl⟩⟩
                           refine ⟨_, rfl, ?_⟩
                           refine hK.out _ _ ⟨hHeld.1, hHeld.2.1, hHeld.2.2.1, hHeld.2.2.2.1, hHeld.2.2.2.2⟩ (fun hHeld => ?_)
                           clear hK K
                           refine norm_ (a' := ?_) ?_ ?_
                           rotate_left
                           ·show Act.put _ (some 108) _ = _
                            simp only [Act.put, List.setIfInBounds_toArray, List.set_cons_zero, List.set_cons_succ, i64_w, i32_w]
                            rfl
                           exact norm_ (by first | (simp only [putAll, Act.put, List.setIfInBounds_toArray, List.set_cons_zero, List.set_cons_succ]; done) | (simp only [putAll, Act.put, List.setIfInBounds_toArray, List.set_cons_zero, List.set_cons_succ]; rfl)) (hJ3_8_13 () _ ⟨hHeld, (by (with_reducible repeat (first | apply Kd.R_alloc | apply Kd.R_drewN | apply Kd.R_drew)); exact HO_6.out), (by repeat (first | (with_reducible first | exact HB.out | apply below_alloc | apply pw_below_drewN | apply below_drew1) | exact HB.out))⟩)
                          ·skip
                           refine box_step ?hg (N := 9) ?hd (cs := #[.int .i64 0, .int .i64 0, .int .i64 0, .int .i64 0, .int .i64 0, .int .i64 0]) (t := 28) ?hr ?_; (case hd => rfl); (case hg => rfl); (case hr => first | (go_simp; done) | (go_simp; rfl))
                           intro gb164 hg w70 hbox hb
                           have HS0_ := (hb.cell (World.block_lt_of_cell? _ _ (hHeld.1))).trans (hHeld.1)
                           have HS1_ := (hb.cell (World.block_lt_of_cell? _ _ (hHeld.2.1))).trans (hHeld.2.1)
                           have HS2_ := (hb.cell (World.block_lt_of_cell? _ _ (hHeld.2.2.1))).trans (hHeld.2.2.1)
                           have HS3_ := (hb.cell (World.block_lt_of_cell? _ _ (hHeld.2.2.2.1))).trans (hHeld.2.2.2.1)
                           have HS4_ := (hb.cell (World.block_lt_of_cell? _ _ (hHeld.2.2.2.2))).trans (hHeld.2.2.2.2)
                           have n0_ := Aside0.mk (Kd.R_below (by (with_reducible repeat (first | apply Kd.R_alloc | apply Kd.R_drewN | apply Kd.R_drew)); exact HO_6.out) hb)
                           have n1_ := Aside0.mk (below_step (by repeat (first | (with_reducible first | exact HB.out | apply below_alloc | apply pw_below_drewN | apply below_drew1) | exact HB.out)) hb)
                           have n2_ := Aside0.mk (hbox)
                           have n3_ := Aside0.mk ((by rw [hg]; exact (below_size (by repeat (first | (with_reducible first | exact HB.out | apply below_alloc | apply pw_below_drewN | apply below_drew1) | exact HB.out))) : w.heap.size ≤ gb164))
                           have n4_ := Aside0.mk ((by rw [hg]; exact (below_size (by repeat (first | (with_reducible first | exact HB.out | apply below_alloc | apply pw_below_drewN | apply below_drew1) | exact HB.out))) : w.heap.size ≤ gb164))
                           clear HO_6
                           clear HB
                           have HO_6 := n0_
                           have HB := n1_
                           have BK164 := n2_
                           have GW164 := n3_
                           have GE164 := n4_
                           clear n0_ n1_ n2_ n3_ n4_
                           clear hb hbox hg
                           refine hK.out _ _ ⟨HS0_, HS1_, HS2_, HS3_, HS4_⟩ (fun hHeld => ?_)
                           clear hK K
                           refine norm_ (a' := ?_) ?_ ?_
                           rotate_left
                           ·show Act.put _ (some 9) _ = _
                            simp only [Act.put, List.setIfInBounds_toArray, List.set_cons_zero, List.set_cons_succ, i64_w, i32_w]
                            rfl
                           exact norm_ (by first | (simp only [putAll, Act.put, List.setIfInBounds_toArray, List.set_cons_zero, List.set_cons_succ]; done) | (simp only [putAll, Act.put, List.setIfInBounds_toArray, List.set_cons_zero, List.set_cons_succ]; rfl)) (hJ3_8_25 (gb164) _ ⟨hHeld, (by (with_reducible repeat (first | apply Kd.R_alloc | apply Kd.R_drewN | apply Kd.R_drew)); exact HO_6.out), (by (with_reducible repeat (first | refine blk_drewN ?_ _ | refine blk_drew ?_ | refine blk_alloc ?_ _)); exact BK164.out), GW164.out, GE164.out, (by repeat (first | (with_reducible first | exact HB.out | apply below_alloc | apply pw_below_drewN | apply below_drew1 | refine below_set ?_ GE164.out) | exact HB.out))⟩)
                        ·skip
                         rintro gb164 w70 ⟨hS_, h0_, h1_, h2_, h3_, h4_⟩
                         have n0_ : Aside0 (Kd.R Kd.string 9 w70 w.heap.size (fun _ => True) (.slice (some ad154) t143.length co68) t143) := ⟨h0_⟩
                         have n1_ : Aside0 (w70.heap[gb164]? = some (.cells #[.int .i64 0, .int .i64 0, .int .i64 0, .int .i64 0, .int .i64 0, .int .i64 0] 28 (0, 0))) := ⟨h1_⟩
                         have n2_ : Aside0 (w.heap.size ≤ gb164) := ⟨h2_⟩
                         have n3_ : Aside0 (w.heap.size ≤ gb164) := ⟨h3_⟩
                         have n4_ : Aside0 (Below w.heap.size w w70) := ⟨h4_⟩
                         clear HO_6
                         clear HB
                         clear h0_ h1_ h2_ h3_ h4_
                         have HO_6 := n0_
                         have BK164 := n1_
                         have GW164 := n2_
                         have GE164 := n3_
                         have HB := n4_
                         clear n0_ n1_ n2_ n3_ n4_
                         have hHeld : w70.cell? ⟨ad154.block, ad154.off + 2, none⟩ = some (.string (rdOf ByteArray.empty t143 2)) ∧ w70.cell? ad154 = some (.string (rdOf ByteArray.empty t143 0)) ∧ w70.cell? ⟨ad154.block, ad154.off + 3, none⟩ = some (.string (rdOf ByteArray.empty t143 3)) ∧ w70.cell? ⟨ad154.block, ad154.off + 3, none⟩ = some (.string (rdOf ByteArray.empty t143 3)) ∧ w70.cell? ⟨ad154.block, ad154.off + 3, none⟩ = some (.string (rdOf ByteArray.empty t143 3)) := hS_
                         refine norm_ (a' := ?_) ?_ ?_
                         rotate_left
                         ·simp only [putAll, Act.put, List.setIfInBounds_toArray, List.set_cons_zero, List.set_cons_succ]
                          rfl
                         refine one_ (i := 13) (N := some 108) #[true, true, true, true, true, true, true, true, true, true, true, true, true, true, true, true, true, true, false, true, true, true, true, false, false, true, false] rfl rfl (one_of HT_.out (by kernel_rfl)) (by decide) (fun K hK => ?_)
                         refine goes_ Try.func37 (by kernel_rfl) rfl #[.string ((rdOf ByteArray.empty t143 3).extract 0 2)] (by rfl) rfl rfl (by (try simp only [List.map_toArray, List.map_cons, List.map_nil]); first | done | rfl | (simp only [List.length_drop, List.length_take]; rfl)) ?_
                         with_reducible refine (spec_l04Number.calls k4 ((rdOf ByteArray.empty t143 3).extract 0 2) t159 _ A61.out).mono ?_
                         rintro e w' ⟨rfl, ⟨nd, rfl⟩⟩
                         refine ⟨_, rfl, ?_⟩
                         refine hK.out _ _ ⟨hHeld.1, hHeld.2.1, hHeld.2.2.1, hHeld.2.2.2.1, hHeld.2.2.2.2⟩ (fun hHeld => ?_)
                         clear hK K
                         refine norm_ (a' := ?_) ?_ ?_
                         rotate_left
                         ·show Act.put _ (some 108) _ = _
                          simp only [Act.put, List.setIfInBounds_toArray, List.set_cons_zero, List.set_cons_succ, i64_w, i32_w]
                          rfl
                         exact norm_ (by first | (simp only [putAll, Act.put, List.setIfInBounds_toArray, List.set_cons_zero, List.set_cons_succ]; done) | (simp only [putAll, Act.put, List.setIfInBounds_toArray, List.set_cons_zero, List.set_cons_succ]; rfl)) (hJ3_8_13_25 (gb164) _ ⟨hHeld, (by (with_reducible repeat (first | apply Kd.R_alloc | apply Kd.R_drewN | apply Kd.R_drew)); exact HO_6.out), (by (with_reducible repeat (first | refine blk_drewN ?_ _ | refine blk_drew ?_ | refine blk_alloc ?_ _)); exact BK164.out), GW164.out, GE164.out, (by repeat (first | (with_reducible first | exact HB.out | apply below_alloc | apply pw_below_drewN | apply below_drew1 | refine below_set ?_ GE164.out) | exact HB.out))⟩)
                       ·skip
                        rintro _ w69 ⟨hS_, h0_, h1_⟩
                        have n0_ : Aside0 (Kd.R Kd.string 9 w69 w.heap.size (fun _ => True) (.slice (some ad154) t143.length co68) t143) := ⟨h0_⟩
                        have n1_ : Aside0 (Below w.heap.size w w69) := ⟨h1_⟩
                        clear HO_6
                        clear HB
                        clear h0_ h1_
                        have HO_6 := n0_
                        have HB := n1_
                        clear n0_ n1_
                        have hHeld : w69.cell? ⟨ad154.block, ad154.off + 2, none⟩ = some (.string (rdOf ByteArray.empty t143 2)) ∧ w69.cell? ad154 = some (.string (rdOf ByteArray.empty t143 0)) ∧ w69.cell? ⟨ad154.block, ad154.off + 3, none⟩ = some (.string (rdOf ByteArray.empty t143 3)) ∧ w69.cell? ⟨ad154.block, ad154.off + 3, none⟩ = some (.string (rdOf ByteArray.empty t143 3)) ∧ w69.cell? ⟨ad154.block, ad154.off + 3, none⟩ = some (.string (rdOf ByteArray.empty t143 3)) := hS_
                        refine norm_ (a' := ?_) ?_ ?_
                        rotate_left
                        ·simp only [putAll, Act.put, List.setIfInBounds_toArray, List.set_cons_zero, List.set_cons_succ]
                         rfl
                        refine two_ (i := 18) (j := 25) (Ni := some 113) (Nj := some 9) #[true, true, true, true, true, true, true, true, true, true, true, true, true, true, true, true, true, true, true, true, true, true, true, false, false, false, false] #[true, true, true, true, true, true, true, true, true, true, true, true, true, true, true, true, true, true, false, true, true, true, true, false, false, true, false] rfl rfl rfl rfl (two_of HT_.out (by kernel_rfl)) (by decide) (by decide) (fun K hK => ?_) (fun K hK => ?_)
                        ·skip
                         refine goes_ Try.func37 (by kernel_rfl) rfl #[.string ((rdOf ByteArray.empty t143 3).extract 3 5)] (by rfl) rfl rfl (by (try simp only [List.map_toArray, List.map_cons, List.map_nil]); first | done | rfl | (simp only [List.length_drop, List.length_take]; rfl)) ?_
                         with_reducible refine (spec_l04Number.calls k4 ((rdOf ByteArray.empty t143 3).extract 3 5) t161 _ A63.out).mono ?_
                         rintro e w' ⟨rfl, ⟨nd, rfl⟩⟩
                         refine ⟨_, rfl, ?_⟩
                         refine hK.out _ _ ⟨hHeld.1, hHeld.2.1, hHeld.2.2.1, hHeld.2.2.2.1, hHeld.2.2.2.2⟩ (fun hHeld => ?_)
                         clear hK K
                         refine norm_ (a' := ?_) ?_ ?_
                         rotate_left
                         ·show Act.put _ (some 113) _ = _
                          simp only [Act.put, List.setIfInBounds_toArray, List.set_cons_zero, List.set_cons_succ, i64_w, i32_w]
                          rfl
                         exact norm_ (by first | (simp only [putAll, Act.put, List.setIfInBounds_toArray, List.set_cons_zero, List.set_cons_succ]; done) | (simp only [putAll, Act.put, List.setIfInBounds_toArray, List.set_cons_zero, List.set_cons_succ]; rfl)) (hJ3_8_13_18 () _ ⟨hHeld, (by (with_reducible repeat (first | apply Kd.R_alloc | apply Kd.R_drewN | apply Kd.R_drew)); exact HO_6.out), (by repeat (first | (with_reducible first | exact HB.out | apply below_alloc | apply pw_below_drewN | apply below_drew1) | exact HB.out))⟩)
                        ·skip
                         refine box_step ?hg (N := 9) ?hd (cs := #[.int .i64 0, .int .i64 0, .int .i64 0, .int .i64 0, .int .i64 0, .int .i64 0]) (t := 28) ?hr ?_; (case hd => rfl); (case hg => rfl); (case hr => first | (go_simp; done) | (go_simp; rfl))
                         intro gb164 hg w70 hbox hb
                         have HS0_ := (hb.cell (World.block_lt_of_cell? _ _ (hHeld.1))).trans (hHeld.1)
                         have HS1_ := (hb.cell (World.block_lt_of_cell? _ _ (hHeld.2.1))).trans (hHeld.2.1)
                         have HS2_ := (hb.cell (World.block_lt_of_cell? _ _ (hHeld.2.2.1))).trans (hHeld.2.2.1)
                         have HS3_ := (hb.cell (World.block_lt_of_cell? _ _ (hHeld.2.2.2.1))).trans (hHeld.2.2.2.1)
                         have HS4_ := (hb.cell (World.block_lt_of_cell? _ _ (hHeld.2.2.2.2))).trans (hHeld.2.2.2.2)
                         have n0_ := Aside0.mk (Kd.R_below (by (with_reducible repeat (first | apply Kd.R_alloc | apply Kd.R_drewN | apply Kd.R_drew)); exact HO_6.out) hb)
                         have n1_ := Aside0.mk (below_step (by repeat (first | (with_reducible first | exact HB.out | apply below_alloc | apply pw_below_drewN | apply below_drew1) | exact HB.out)) hb)
                         have n2_ := Aside0.mk (hbox)
                         have n3_ := Aside0.mk ((by rw [hg]; exact (below_size (by repeat (first | (with_reducible first | exact HB.out | apply below_alloc | apply pw_below_drewN | apply below_drew1) | exact HB.out))) : w.heap.size ≤ gb164))
                         have n4_ := Aside0.mk ((by rw [hg]; exact (below_size (by repeat (first | (with_reducible first | exact HB.out | apply below_alloc | apply pw_below_drewN | apply below_drew1) | exact HB.out))) : w.heap.size ≤ gb164))
                         clear HO_6
                         clear HB
                         have HO_6 := n0_
                         have HB := n1_
                         have BK164 := n2_
                         have GW164 := n3_
                         have GE164 := n4_
                         clear n0_ n1_ n2_ n3_ n4_
                         clear hb hbox hg
                         refine hK.out _ _ ⟨HS0_, HS1_, HS2_, HS3_, HS4_⟩ (fun hHeld => ?_)
                         clear hK K
                         refine norm_ (a' := ?_) ?_ ?_
                         rotate_left
                         ·show Act.put _ (some 9) _ = _
                          simp only [Act.put, List.setIfInBounds_toArray, List.set_cons_zero, List.set_cons_succ, i64_w, i32_w]
                          rfl
                         exact norm_ (by first | (simp only [putAll, Act.put, List.setIfInBounds_toArray, List.set_cons_zero, List.set_cons_succ]; done) | (simp only [putAll, Act.put, List.setIfInBounds_toArray, List.set_cons_zero, List.set_cons_succ]; rfl)) (hJ3_8_13_25 (gb164) _ ⟨hHeld, (by (with_reducible repeat (first | apply Kd.R_alloc | apply Kd.R_drewN | apply Kd.R_drew)); exact HO_6.out), (by (with_reducible repeat (first | refine blk_drewN ?_ _ | refine blk_drew ?_ | refine blk_alloc ?_ _)); exact BK164.out), GW164.out, GE164.out, (by repeat (first | (with_reducible first | exact HB.out | apply below_alloc | apply pw_below_drewN | apply below_drew1 | refine below_set ?_ GE164.out) | exact HB.out))⟩)
                      ·skip
                       rintro gb164 w70 ⟨hS_, h0_, h1_, h2_, h3_, h4_⟩
                       have n0_ : Aside0 (Kd.R Kd.string 9 w70 w.heap.size (fun _ => True) (.slice (some ad154) t143.length co68) t143) := ⟨h0_⟩
                       have n1_ : Aside0 (w70.heap[gb164]? = some (.cells #[.int .i64 0, .int .i64 0, .int .i64 0, .int .i64 0, .int .i64 0, .int .i64 0] 28 (0, 0))) := ⟨h1_⟩
                       have n2_ : Aside0 (w.heap.size ≤ gb164) := ⟨h2_⟩
                       have n3_ : Aside0 (w.heap.size ≤ gb164) := ⟨h3_⟩
                       have n4_ : Aside0 (Below w.heap.size w w70) := ⟨h4_⟩
                       clear HO_6
                       clear HB
                       clear h0_ h1_ h2_ h3_ h4_
                       have HO_6 := n0_
                       have BK164 := n1_
                       have GW164 := n2_
                       have GE164 := n3_
                       have HB := n4_
                       clear n0_ n1_ n2_ n3_ n4_
                       have hHeld : w70.cell? ⟨ad154.block, ad154.off + 2, none⟩ = some (.string (rdOf ByteArray.empty t143 2)) ∧ w70.cell? ad154 = some (.string (rdOf ByteArray.empty t143 0)) ∧ w70.cell? ⟨ad154.block, ad154.off + 3, none⟩ = some (.string (rdOf ByteArray.empty t143 3)) ∧ w70.cell? ⟨ad154.block, ad154.off + 3, none⟩ = some (.string (rdOf ByteArray.empty t143 3)) ∧ w70.cell? ⟨ad154.block, ad154.off + 3, none⟩ = some (.string (rdOf ByteArray.empty t143 3)) := hS_
                       refine norm_ (a' := ?_) ?_ ?_
                       rotate_left
                       ·simp only [putAll, Act.put, List.setIfInBounds_toArray, List.set_cons_zero, List.set_cons_succ]
                        rfl
                       refine one_ (i := 18) (N := some 113) #[true, true, true, true, true, true, true, true, true, true, true, true, true, true, true, true, true, true, true, true, true, true, true, false, false, true, false] rfl rfl (one_of HT_.out (by kernel_rfl)) (by decide) (fun K hK => ?_)
                       refine goes_ Try.func37 (by kernel_rfl) rfl #[.string ((rdOf ByteArray.empty t143 3).extract 3 5)] (by rfl) rfl rfl (by (try simp only [List.map_toArray, List.map_cons, List.map_nil]); first | done | rfl | (simp only [List.length_drop, List.length_take]; rfl)) ?_
                       with_reducible refine (spec_l04Number.calls k4 ((rdOf ByteArray.empty t143 3).extract 3 5) t161 _ A63.out).mono ?_
                       rintro e w' ⟨rfl, ⟨nd, rfl⟩⟩
                       refine ⟨_, rfl, ?_⟩
                       refine hK.out _ _ ⟨hHeld.1, hHeld.2.1, hHeld.2.2.1, hHeld.2.2.2.1, hHeld.2.2.2.2⟩ (fun hHeld => ?_)
                       clear hK K
                       refine norm_ (a' := ?_) ?_ ?_
                       rotate_left
                       ·show Act.put _ (some 113) _ = _
                        simp only [Act.put, List.setIfInBounds_toArray, List.set_cons_zero, List.set_cons_succ, i64_w, i32_w]
                        rfl
                       exact norm_ (by first | (simp only [putAll, Act.put, List.setIfInBounds_toArray, List.set_cons_zero, List.set_cons_succ]; done) | (simp only [putAll, Act.put, List.setIfInBounds_toArray, List.set_cons_zero, List.set_cons_succ]; rfl)) (hJ3_8_13_18_25 (gb164) _ ⟨hHeld, (by (with_reducible repeat (first | apply Kd.R_alloc | apply Kd.R_drewN | apply Kd.R_drew)); exact HO_6.out), (by (with_reducible repeat (first | refine blk_drewN ?_ _ | refine blk_drew ?_ | refine blk_alloc ?_ _)); exact BK164.out), GW164.out, GE164.out, (by repeat (first | (with_reducible first | exact HB.out | apply below_alloc | apply pw_below_drewN | apply below_drew1 | refine below_set ?_ GE164.out) | exact HB.out))⟩)
                     ·skip
                      rintro _ w69 ⟨hS_, h0_, h1_⟩
                      have n0_ : Aside0 (Kd.R Kd.string 9 w69 w.heap.size (fun _ => True) (.slice (some ad154) t143.length co68) t143) := ⟨h0_⟩
                      have n1_ : Aside0 (Below w.heap.size w w69) := ⟨h1_⟩
                      clear HO_6
                      clear HB
                      clear h0_ h1_
                      have HO_6 := n0_
                      have HB := n1_
                      clear n0_ n1_
                      have hHeld : w69.cell? ⟨ad154.block, ad154.off + 2, none⟩ = some (.string (rdOf ByteArray.empty t143 2)) ∧ w69.cell? ad154 = some (.string (rdOf ByteArray.empty t143 0)) ∧ w69.cell? ⟨ad154.block, ad154.off + 3, none⟩ = some (.string (rdOf ByteArray.empty t143 3)) ∧ w69.cell? ⟨ad154.block, ad154.off + 3, none⟩ = some (.string (rdOf ByteArray.empty t143 3)) ∧ w69.cell? ⟨ad154.block, ad154.off + 3, none⟩ = some (.string (rdOf ByteArray.empty t143 3)) := hS_
                      refine norm_ (a' := ?_) ?_ ?_
                      rotate_left
                      ·simp only [putAll, Act.put, List.setIfInBounds_toArray, List.set_cons_zero, List.set_cons_succ]
                       rfl
                      refine two_ (i := 23) (j := 25) (Ni := some 118) (Nj := some 9) #[true, true, true, true, true, true, true, true, true, true, true, true, true, true, true, true, true, true, true, true, true, true, true, true, false, false, false] #[true, true, true, true, true, true, true, true, true, true, true, true, true, true, true, true, true, true, true, true, true, true, true, false, false, true, false] rfl rfl rfl rfl (two_of HT_.out (by kernel_rfl)) (by decide) (by decide) (fun K hK => ?_) (fun K hK => ?_)
                      ·skip
                       refine goes_ Try.func37 (by kernel_rfl) rfl #[.string ((rdOf ByteArray.empty t143 3).extract 6 8)] (by rfl) rfl rfl (by (try simp only [List.map_toArray, List.map_cons, List.map_nil]); first | done | rfl | (simp only [List.length_drop, List.length_take]; rfl)) ?_
                       with_reducible refine (spec_l04Number.calls k4 ((rdOf ByteArray.empty t143 3).extract 6 8) t163 _ A65.out).mono ?_
                       rintro e w' ⟨rfl, ⟨nd, rfl⟩⟩
                       refine ⟨_, rfl, ?_⟩
                       refine hK.out _ _ ⟨hHeld.1, hHeld.2.1, hHeld.2.2.1, hHeld.2.2.2.1, hHeld.2.2.2.2⟩ (fun hHeld => ?_)
                       clear hK K
                       refine norm_ (a' := ?_) ?_ ?_
                       rotate_left
                       ·show Act.put _ (some 118) _ = _
                        simp only [Act.put, List.setIfInBounds_toArray, List.set_cons_zero, List.set_cons_succ, i64_w, i32_w]
                        rfl
                       refine pure_ (i := 24) (N := some 119) (v := ?_) (a' := ?_) #[true, true, true, true, true, true, true, true, true, true, true, true, true, true, true, true, true, true, true, true, true, true, true, true, true, false, false] rfl rfl (any_of HT_.out (by kernel_rfl)) (fun _ _ _ h => h) (Or.inl ⟨by rfl, ?_⟩) ?_ ?_
                       rotate_left
                       ·intro w'
                        go_simp
                        with_reducible rfl
                       rotate_left
                       ·simp only [Act.put, List.setIfInBounds_toArray, List.set_cons_zero, List.set_cons_succ, i64_w, i32_w]
                        rfl
                       exact norm_ (by first | (simp only [putAll, Act.put, List.setIfInBounds_toArray, List.set_cons_zero, List.set_cons_succ]; done) | (simp only [putAll, Act.put, List.setIfInBounds_toArray, List.set_cons_zero, List.set_cons_succ]; rfl)) (hJ3_8_13_18_23 () _ ⟨hHeld, (by (with_reducible repeat (first | apply Kd.R_alloc | apply Kd.R_drewN | apply Kd.R_drew)); exact HO_6.out), (by repeat (first | (with_reducible first | exact HB.out | apply below_alloc | apply pw_below_drewN | apply below_drew1) | exact HB.out))⟩)
                      ·skip
                       refine box_step ?hg (N := 9) ?hd (cs := #[.int .i64 0, .int .i64 0, .int .i64 0, .int .i64 0, .int .i64 0, .int .i64 0]) (t := 28) ?hr ?_; (case hd => rfl); (case hg => rfl); (case hr => first | (go_simp; done) | (go_simp; rfl))
                       intro gb164 hg w70 hbox hb
                       have HS0_ := (hb.cell (World.block_lt_of_cell? _ _ (hHeld.1))).trans (hHeld.1)
                       have HS1_ := (hb.cell (World.block_lt_of_cell? _ _ (hHeld.2.1))).trans (hHeld.2.1)
                       have HS2_ := (hb.cell (World.block_lt_of_cell? _ _ (hHeld.2.2.1))).trans (hHeld.2.2.1)
                       have HS3_ := (hb.cell (World.block_lt_of_cell? _ _ (hHeld.2.2.2.1))).trans (hHeld.2.2.2.1)
                       have HS4_ := (hb.cell (World.block_lt_of_cell? _ _ (hHeld.2.2.2.2))).trans (hHeld.2.2.2.2)
                       have n0_ := Aside0.mk (Kd.R_below (by (with_reducible repeat (first | apply Kd.R_alloc | apply Kd.R_drewN | apply Kd.R_drew)); exact HO_6.out) hb)
                       have n1_ := Aside0.mk (below_step (by repeat (first | (with_reducible first | exact HB.out | apply below_alloc | apply pw_below_drewN | apply below_drew1) | exact HB.out)) hb)
                       have n2_ := Aside0.mk (hbox)
                       have n3_ := Aside0.mk ((by rw [hg]; exact (below_size (by repeat (first | (with_reducible first | exact HB.out | apply below_alloc | apply pw_below_drewN | apply below_drew1) | exact HB.out))) : w.heap.size ≤ gb164))
                       have n4_ := Aside0.mk ((by rw [hg]; exact (below_size (by repeat (first | (with_reducible first | exact HB.out | apply below_alloc | apply pw_below_drewN | apply below_drew1) | exact HB.out))) : w.heap.size ≤ gb164))
                       clear HO_6
                       clear HB
                       have HO_6 := n0_
                       have HB := n1_
                       have BK164 := n2_
                       have GW164 := n3_
                       have GE164 := n4_
                       clear n0_ n1_ n2_ n3_ n4_
                       clear hb hbox hg
                       refine hK.out _ _ ⟨HS0_, HS1_, HS2_, HS3_, HS4_⟩ (fun hHeld => ?_)
                       clear hK K
                       refine norm_ (a' := ?_) ?_ ?_
                       rotate_left
                       ·show Act.put _ (some 9) _ = _
                        simp only [Act.put, List.setIfInBounds_toArray, List.set_cons_zero, List.set_cons_succ, i64_w, i32_w]
                        rfl
                       exact norm_ (by first | (simp only [putAll, Act.put, List.setIfInBounds_toArray, List.set_cons_zero, List.set_cons_succ]; done) | (simp only [putAll, Act.put, List.setIfInBounds_toArray, List.set_cons_zero, List.set_cons_succ]; rfl)) (hJ3_8_13_18_25 (gb164) _ ⟨hHeld, (by (with_reducible repeat (first | apply Kd.R_alloc | apply Kd.R_drewN | apply Kd.R_drew)); exact HO_6.out), (by (with_reducible repeat (first | refine blk_drewN ?_ _ | refine blk_drew ?_ | refine blk_alloc ?_ _)); exact BK164.out), GW164.out, GE164.out, (by repeat (first | (with_reducible first | exact HB.out | apply below_alloc | apply pw_below_drewN | apply below_drew1 | refine below_set ?_ GE164.out) | exact HB.out))⟩)
                    ·skip
                     rintro gb164 w70 ⟨hS_, h0_, h1_, h2_, h3_, h4_⟩
                     have n0_ : Aside0 (Kd.R Kd.string 9 w70 w.heap.size (fun _ => True) (.slice (some ad154) t143.length co68) t143) := ⟨h0_⟩
                     have n1_ : Aside0 (w70.heap[gb164]? = some (.cells #[.int .i64 0, .int .i64 0, .int .i64 0, .int .i64 0, .int .i64 0, .int .i64 0] 28 (0, 0))) := ⟨h1_⟩
                     have n2_ : Aside0 (w.heap.size ≤ gb164) := ⟨h2_⟩
                     have n3_ : Aside0 (w.heap.size ≤ gb164) := ⟨h3_⟩
                     have n4_ : Aside0 (Below w.heap.size w w70) := ⟨h4_⟩
                     clear HO_6
                     clear HB
                     clear h0_ h1_ h2_ h3_ h4_
                     have HO_6 := n0_
                     have BK164 := n1_
                     have GW164 := n2_
                     have GE164 := n3_
                     have HB := n4_
                     clear n0_ n1_ n2_ n3_ n4_
                     have hHeld : w70.cell? ⟨ad154.block, ad154.off + 2, none⟩ = some (.string (rdOf ByteArray.empty t143 2)) ∧ w70.cell? ad154 = some (.string (rdOf ByteArray.empty t143 0)) ∧ w70.cell? ⟨ad154.block, ad154.off + 3, none⟩ = some (.string (rdOf ByteArray.empty t143 3)) ∧ w70.cell? ⟨ad154.block, ad154.off + 3, none⟩ = some (.string (rdOf ByteArray.empty t143 3)) ∧ w70.cell? ⟨ad154.block, ad154.off + 3, none⟩ = some (.string (rdOf ByteArray.empty t143 3)) := hS_
                     refine norm_ (a' := ?_) ?_ ?_
                     rotate_left
                     ·simp only [putAll, Act.put, List.setIfInBounds_toArray, List.set_cons_zero, List.set_cons_succ]
                      rfl
                     refine one_ (i := 23) (N := some 118) #[true, true, true, true, true, true, true, true, true, true, true, true, true, true, true, true, true, true, true, true, true, true, true, true, false, true, false] rfl rfl (one_of HT_.out (by kernel_rfl)) (by decide) (fun K hK => ?_)
                     refine goes_ Try.func37 (by kernel_rfl) rfl #[.string ((rdOf ByteArray.empty t143 3).extract 6 8)] (by rfl) rfl rfl (by (try simp only [List.map_toArray, List.map_cons, List.map_nil]); first | done | rfl | (simp only [List.length_drop, List.length_take]; rfl)) ?_
                     with_reducible refine (spec_l04Number.calls k4 ((rdOf ByteArray.empty t143 3).extract 6 8) t163 _ A65.out).mono ?_
                     rintro e w' ⟨rfl, ⟨nd, rfl⟩⟩
                     refine ⟨_, rfl, ?_⟩
                     refine hK.out _ _ ⟨hHeld.1, hHeld.2.1, hHeld.2.2.1, hHeld.2.2.2.1, hHeld.2.2.2.2⟩ (fun hHeld => ?_)
                     clear hK K
                     refine norm_ (a' := ?_) ?_ ?_
                     rotate_left
                     ·show Act.put _ (some 118) _ = _
                      simp only [Act.put, List.setIfInBounds_toArray, List.set_cons_zero, List.set_cons_succ, i64_w, i32_w]
                      rfl
                     refine pure_ (i := 24) (N := some 119) (v := ?_) (a' := ?_) #[true, true, true, true, true, true, true, true, true, true, true, true, true, true, true, true, true, true, true, true, true, true, true, true, true, true, false] rfl rfl (any_of HT_.out (by kernel_rfl)) (fun _ _ _ h => h) (Or.inl ⟨by rfl, ?_⟩) ?_ ?_
                     rotate_left
                     ·intro w'
                      go_simp
                      with_reducible rfl
                     rotate_left
                     ·simp only [Act.put, List.setIfInBounds_toArray, List.set_cons_zero, List.set_cons_succ, i64_w, i32_w]
                      rfl
                     exact norm_ (by first | (simp only [putAll, Act.put, List.setIfInBounds_toArray, List.set_cons_zero, List.set_cons_succ]; done) | (simp only [putAll, Act.put, List.setIfInBounds_toArray, List.set_cons_zero, List.set_cons_succ]; rfl)) (hJ3_8_13_18_23_25 (gb164) _ ⟨hHeld, (by (with_reducible repeat (first | apply Kd.R_alloc | apply Kd.R_drewN | apply Kd.R_drew)); exact HO_6.out), (by (with_reducible repeat (first | refine blk_drewN ?_ _ | refine blk_drew ?_ | refine blk_alloc ?_ _)); exact BK164.out), GW164.out, GE164.out, (by repeat (first | (with_reducible first | exact HB.out | apply below_alloc | apply pw_below_drewN | apply below_drew1 | refine below_set ?_ GE164.out) | exact HB.out))⟩)
                   ·skip
                    rintro _ w69 ⟨hS_, h0_, h1_⟩
                    have n0_ : Aside0 (Kd.R Kd.string 9 w69 w.heap.size (fun _ => True) (.slice (some ad154) t143.length co68) t143) := ⟨h0_⟩
                    have n1_ : Aside0 (Below w.heap.size w w69) := ⟨h1_⟩
                    clear HO_6
                    clear HB
                    clear h0_ h1_
                    have HO_6 := n0_
                    have HB := n1_
                    clear n0_ n1_
                    have hHeld : w69.cell? ⟨ad154.block, ad154.off + 2, none⟩ = some (.string (rdOf ByteArray.empty t143 2)) ∧ w69.cell? ad154 = some (.string (rdOf ByteArray.empty t143 0)) ∧ w69.cell? ⟨ad154.block, ad154.off + 3, none⟩ = some (.string (rdOf ByteArray.empty t143 3)) ∧ w69.cell? ⟨ad154.block, ad154.off + 3, none⟩ = some (.string (rdOf ByteArray.empty t143 3)) ∧ w69.cell? ⟨ad154.block, ad154.off + 3, none⟩ = some (.string (rdOf ByteArray.empty t143 3)) := hS_
                    refine norm_ (a' := ?_) ?_ ?_
                    rotate_left
                    ·simp only [putAll, Act.put, List.setIfInBounds_toArray, List.set_cons_zero, List.set_cons_succ]
                     rfl
                    refine one_ (i := 25) (N := some 9) #[true, true, true, true, true, true, true, true, true, true, true, true, true, true, true, true, true, true, true, true, true, true, true, true, true, true, false] rfl rfl (one_of HT_.out (by kernel_rfl)) (by decide) (fun K hK => ?_)
                    refine box_step ?hg (N := 9) ?hd (cs := #[.int .i64 0, .int .i64 0, .int .i64 0, .int .i64 0, .int .i64 0, .int .i64 0]) (t := 28) ?hr ?_; (case hd => rfl); (case hg => rfl); (case hr => first | (go_simp; done) | (go_simp; rfl))
                    intro gb164 hg w70 hbox hb
                    have HS0_ := (hb.cell (World.block_lt_of_cell? _ _ (hHeld.1))).trans (hHeld.1)
                    have HS1_ := (hb.cell (World.block_lt_of_cell? _ _ (hHeld.2.1))).trans (hHeld.2.1)
                    have HS2_ := (hb.cell (World.block_lt_of_cell? _ _ (hHeld.2.2.1))).trans (hHeld.2.2.1)
                    have HS3_ := (hb.cell (World.block_lt_of_cell? _ _ (hHeld.2.2.2.1))).trans (hHeld.2.2.2.1)
                    have HS4_ := (hb.cell (World.block_lt_of_cell? _ _ (hHeld.2.2.2.2))).trans (hHeld.2.2.2.2)
                    have n0_ := Aside0.mk (Kd.R_below (by (with_reducible repeat (first | apply Kd.R_alloc | apply Kd.R_drewN | apply Kd.R_drew)); exact HO_6.out) hb)
                    have n1_ := Aside0.mk (below_step (by repeat (first | (with_reducible first | exact HB.out | apply below_alloc | apply pw_below_drewN | apply below_drew1) | exact HB.out)) hb)
                    have n2_ := Aside0.mk (hbox)
                    have n3_ := Aside0.mk ((by rw [hg]; exact (below_size (by repeat (first | (with_reducible first | exact HB.out | apply below_alloc | apply pw_below_drewN | apply below_drew1) | exact HB.out))) : w.heap.size ≤ gb164))
                    have n4_ := Aside0.mk ((by rw [hg]; exact (below_size (by repeat (first | (with_reducible first | exact HB.out | apply below_alloc | apply pw_below_drewN | apply below_drew1) | exact HB.out))) : w.heap.size ≤ gb164))
                    clear HO_6
                    clear HB
                    have HO_6 := n0_
                    have HB := n1_
                    have BK164 := n2_
                    have GW164 := n3_
                    have GE164 := n4_
                    clear n0_ n1_ n2_ n3_ n4_
                    clear hb hbox hg
                    refine hK.out _ _ ⟨HS0_, HS1_, HS2_, HS3_, HS4_⟩ (fun hHeld => ?_)
                    clear hK K
                    refine norm_ (a' := ?_) ?_ ?_
                    rotate_left
                    ·show Act.put _ (some 9) _ = _
                     simp only [Act.put, List.setIfInBounds_toArray, List.set_cons_zero, List.set_cons_succ, i64_w, i32_w]
                     rfl
                    exact norm_ (by first | (simp only [putAll, Act.put, List.setIfInBounds_toArray, List.set_cons_zero, List.set_cons_succ]; done) | (simp only [putAll, Act.put, List.setIfInBounds_toArray, List.set_cons_zero, List.set_cons_succ]; rfl)) (hJ3_8_13_18_23_25 (gb164) _ ⟨hHeld, (by (with_reducible repeat (first | apply Kd.R_alloc | apply Kd.R_drewN | apply Kd.R_drew)); exact HO_6.out), (by (with_reducible repeat (first | refine blk_drewN ?_ _ | refine blk_drew ?_ | refine blk_alloc ?_ _)); exact BK164.out), GW164.out, GE164.out, (by repeat (first | (with_reducible first | exact HB.out | apply below_alloc | apply pw_below_drewN | apply below_drew1 | refine below_set ?_ GE164.out) | exact HB.out))⟩)
                  rintro gb164 w70 ⟨hS_, h0_, h1_, h2_, h3_, h4_⟩
                  have n0_ : Aside0 (Kd.R Kd.string 9 w70 w.heap.size (fun _ => True) (.slice (some ad154) t143.length co68) t143) := ⟨h0_⟩
                  have n1_ : Aside0 (w70.heap[gb164]? = some (.cells #[.int .i64 0, .int .i64 0, .int .i64 0, .int .i64 0, .int .i64 0, .int .i64 0] 28 (0, 0))) := ⟨h1_⟩
                  have n2_ : Aside0 (w.heap.size ≤ gb164) := ⟨h2_⟩
                  have n3_ : Aside0 (w.heap.size ≤ gb164) := ⟨h3_⟩
                  have n4_ : Aside0 (Below w.heap.size w w70) := ⟨h4_⟩
                  clear HO_6
                  clear HB
                  clear h0_ h1_ h2_ h3_ h4_
                  have HO_6 := n0_
                  have BK164 := n1_
                  have GW164 := n2_
                  have GE164 := n3_
                  have HB := n4_
                  clear n0_ n1_ n2_ n3_ n4_
                  have hHeld : w70.cell? ⟨ad154.block, ad154.off + 2, none⟩ = some (.string (rdOf ByteArray.empty t143 2)) ∧ w70.cell? ad154 = some (.string (rdOf ByteArray.empty t143 0)) ∧ w70.cell? ⟨ad154.block, ad154.off + 3, none⟩ = some (.string (rdOf ByteArray.empty t143 3)) ∧ w70.cell? ⟨ad154.block, ad154.off + 3, none⟩ = some (.string (rdOf ByteArray.empty t143 3)) ∧ w70.cell? ⟨ad154.block, ad154.off + 3, none⟩ = some (.string (rdOf ByteArray.empty t143 3)) := hS_
                  refine norm_ (a' := ?_) ?_ ?_
                  rotate_left
                  ·simp only [putAll, Act.put, List.setIfInBounds_toArray, List.set_cons_zero, List.set_cons_succ]
                   rfl
                  refine one_ (i := 26) (N := none) #[true, true, true, true, true, true, true, true, true, true, true, true, true, true, true, true, true, true, true, true, true, true, true, true, true, true, true] rfl rfl (one_of HT_.out (by kernel_rfl)) (by decide) (fun K hK => ?_)
                  have hs71 : w70.cell? ⟨gb164, 0, none⟩ = some (.int .i64 0) := (blk_cell BK164.out 0).trans rfl
                  have hfs71 := blk_frozen BK164.out 0
                  have hs72 : w70.cell? ⟨gb164, 1, none⟩ = some (.int .i64 0) := (blk_cell BK164.out 1).trans rfl
                  have hfs72 := blk_frozen BK164.out 1
                  have hs73 : w70.cell? ⟨gb164, 2, none⟩ = some (.int .i64 0) := (blk_cell BK164.out 2).trans rfl
                  have hfs73 := blk_frozen BK164.out 2
                  have hs74 : w70.cell? ⟨gb164, 3, none⟩ = some (.int .i64 0) := (blk_cell BK164.out 3).trans rfl
                  have hfs74 := blk_frozen BK164.out 3
                  have hs75 : w70.cell? ⟨gb164, 4, none⟩ = some (.int .i64 0) := (blk_cell BK164.out 4).trans rfl
                  have hfs75 := blk_frozen BK164.out 4
                  have hs76 : w70.cell? ⟨gb164, 5, none⟩ = some (.int .i64 0) := (blk_cell BK164.out 5).trans rfl
                  have hfs76 := blk_frozen BK164.out 5
                  refine skip_ (w1 := ?_) (by rfl) rfl ?_ ?_
                  rotate_left
                  ·go_simp
                   rfl
                  have hne_ := Kd.own_blk (Kd.R_ne HO_6.out BK164.out (by decide))
                  refine hK.out _ _ ⟨far6 hHeld.1 (by exact hne_), far6 hHeld.2.1 (by exact hne_), far6 hHeld.2.2.1 (by exact hne_), far6 hHeld.2.2.2.1 (by exact hne_), far6 hHeld.2.2.2.2 (by exact hne_)⟩ (fun hHeld => ?_)
                  clear hne_
                  clear hK K
                  refine done_ (done_of HT_.out (by kernel_rfl)) ?_
                  go_upto_region 24 with (fail)
                  go_cut [129] (fun v129 wc => ∃ (kq : Nat) (x129_65 : Bool), v129 = .bool x129_65 ∧ Aside0 (spec_ReadRfc822.j5 kq x4_9 t143 0 x129_65 t155 x7_4 t157 t159 t161 t163 = some (r1, r2)) ∧ Aside0 (kq ≤ k4) ∧ Aside0 (Kd.R Kd.string 9 wc w.heap.size (fun _ => True) (.slice (some ad154) t143.length co68) t143) ∧ Aside0 (wc.heap[gb164]? = some (.cells #[.int .i64 t155, .int .i64 x7_4, .int .i64 t157, .int .i64 t159, .int .i64 t161, .int .i64 t163] 28 (0, 0))) ∧ Aside0 (Below w.heap.size w wc))
                  case first =>
                   have H := HC66.out
                   clear HC66
                   by_cases c77 : 4 < (t143.length : Int)
                   ·rw [if_pos c77] at H
                    have c77b0 : decide (4 < (t143.length : Int)) = true := decide_eq_true c77
                    have c77b1 : decide (4 < t143.length) = true := decide_eq_true (by omega)
                    clear c77
                    (first | rw [c77b0] | (simp only [i64_w, i32_w]; rw [c77b0]) | skip)
                    by_cases c78 : (rdOf ByteArray.empty t143 4).toList = ([71, 77, 84] : List UInt8)
                    ·rw [if_pos c78] at H
                     have c78b0 : ((rdOf ByteArray.empty t143 4).toList == ([71, 77, 84] : List UInt8)) = true := beq_iff_eq.mpr c78
                     have c78b1 : ((rdOf ByteArray.empty t143 4).toList != ([71, 77, 84] : List UInt8)) = false := bne_eq_false_iff_eq.mpr c78
                     clear c78
                     have H' := Aside0.mk H
                     clear H
                     have p165 : 0 ≤ (4 : Int) := (by omega)
                     have q165 : 4 < (t143.length : Int) := of_decide_eq_true (by first | (with_reducible assumption) | assumption)
                     obtain ⟨ad165, e165, hx165_0⟩ := Kd.at_string (Kd.R_reads' HO_6.out).2.2 4 p165 q165
                     obtain rfl : ad154 = ad165 := (by injection e165)
                     (try simp only [show (4 : Int).toNat = 4 from rfl, Nat.reduceMul, Nat.reduceEqDiff, Go.Addr.add, ↓reduceIte] at hx165_0)
                     have qi165 : (4 < t143.length) = True := eq_true (by omega)
                     (try rw [show ((4 : Int)).toNat = 4 from rfl] at hx165_0)
                     have hn165_0 : ad154.block ≠ gb164 := Kd.own_blk (Kd.R_ne HO_6.out BK164.out (by decide))
                     have hn165_1 : ad154.block ≠ gb164 := Kd.own_blk (Kd.R_ne HO_6.out BK164.out (by decide))
                     have hn165_2 : ad154.block ≠ gb164 := Kd.own_blk (Kd.R_ne HO_6.out BK164.out (by decide))
                     have hn165_3 : ad154.block ≠ gb164 := Kd.own_blk (Kd.R_ne HO_6.out BK164.out (by decide))
                     have hn165_4 : ad154.block ≠ gb164 := Kd.own_blk (Kd.R_ne HO_6.out BK164.out (by decide))
                     have hn165_5 : ad154.block ≠ gb164 := Kd.own_blk (Kd.R_ne HO_6.out BK164.out (by decide))
                     replace hx165_0 := (cell_far (p := ⟨gb164, 0, none⟩) (by first | (rw [add_block]; exact hn165_0) | (show (Addr.add _ _).block ≠ _; rw [add_block]; exact hn165_0) | exact hn165_0) (.int .i64 t155)).trans hx165_0
                     replace hx165_0 := (cell_far (p := ⟨gb164, 1, none⟩) (by first | (rw [add_block]; exact hn165_1) | (show (Addr.add _ _).block ≠ _; rw [add_block]; exact hn165_1) | exact hn165_1) (.int .i64 x7_4)).trans hx165_0
                     replace hx165_0 := (cell_far (p := ⟨gb164, 2, none⟩) (by first | (rw [add_block]; exact hn165_2) | (show (Addr.add _ _).block ≠ _; rw [add_block]; exact hn165_2) | exact hn165_2) (.int .i64 t157)).trans hx165_0
                     replace hx165_0 := (cell_far (p := ⟨gb164, 3, none⟩) (by first | (rw [add_block]; exact hn165_3) | (show (Addr.add _ _).block ≠ _; rw [add_block]; exact hn165_3) | exact hn165_3) (.int .i64 t159)).trans hx165_0
                     replace hx165_0 := (cell_far (p := ⟨gb164, 4, none⟩) (by first | (rw [add_block]; exact hn165_4) | (show (Addr.add _ _).block ≠ _; rw [add_block]; exact hn165_4) | exact hn165_4) (.int .i64 t161)).trans hx165_0
                     replace hx165_0 := (cell_far (p := ⟨gb164, 5, none⟩) (by first | (rw [add_block]; exact hn165_5) | (show (Addr.add _ _).block ≠ _; rw [add_block]; exact hn165_5) | exact hn165_5) (.int .i64 t163)).trans hx165_0
                     clear hn165_0
                     clear hn165_1
                     clear hn165_2
                     clear hn165_3
                     clear hn165_4
                     clear hn165_5
                     replace p165 := eq_true p165
                     replace q165 := eq_true q165
                     go_wp2
                     go_meet
                     case rel => exact ⟨_, (false), (by first | rfl | (simp; done) | (simp [*]; done) | (simp; rfl) | (simp; unfold wrap64; omega)), H', ⟨by have := HJ2.out; have := HJ9.out; have := HJ22.out; have := HK4.out; first | omega | exact Nat.le_refl _⟩, ⟨by (with_reducible repeat (first | apply Kd.R_alloc | apply Kd.R_drewN | apply Kd.R_drew)); exact Kd.R_mono (Kd.R_far (p := ⟨gb164, 5, none⟩) (Kd.R_far (p := ⟨gb164, 4, none⟩) (Kd.R_far (p := ⟨gb164, 3, none⟩) (Kd.R_far (p := ⟨gb164, 2, none⟩) (Kd.R_far (p := ⟨gb164, 1, none⟩) (Kd.R_far (p := ⟨gb164, 0, none⟩) (Kd.R_types HO_6.out BK164.out (by decide)) (fun _ hk => hk.2) (.int .i64 t155)) (fun _ hk => hk.2) (.int .i64 x7_4)) (fun _ hk => hk.2) (.int .i64 t157)) (fun _ hk => hk.2) (.int .i64 t159)) (fun _ hk => hk.2) (.int .i64 t161)) (fun _ hk => hk.2) (.int .i64 t163)) (fun _ hk => trivial)⟩, ⟨by (with_reducible repeat (first | refine blk_drewN ?_ _ | refine blk_drew ?_ | refine blk_alloc ?_ _)); refine blk_put (cs := #[.int .i64 t155, .int .i64 x7_4, .int .i64 t157, .int .i64 t159, .int .i64 t161, .int .i64 0]) ?_ 5 _ rfl; (with_reducible repeat (first | refine blk_drewN ?_ _ | refine blk_drew ?_ | refine blk_alloc ?_ _)); refine blk_put (cs := #[.int .i64 t155, .int .i64 x7_4, .int .i64 t157, .int .i64 t159, .int .i64 0, .int .i64 0]) ?_ 4 _ rfl; (with_reducible repeat (first | refine blk_drewN ?_ _ | refine blk_drew ?_ | refine blk_alloc ?_ _)); refine blk_put (cs := #[.int .i64 t155, .int .i64 x7_4, .int .i64 t157, .int .i64 0, .int .i64 0, .int .i64 0]) ?_ 3 _ rfl; (with_reducible repeat (first | refine blk_drewN ?_ _ | refine blk_drew ?_ | refine blk_alloc ?_ _)); refine blk_put (cs := #[.int .i64 t155, .int .i64 x7_4, .int .i64 0, .int .i64 0, .int .i64 0, .int .i64 0]) ?_ 2 _ rfl; (with_reducible repeat (first | refine blk_drewN ?_ _ | refine blk_drew ?_ | refine blk_alloc ?_ _)); refine blk_put (cs := #[.int .i64 t155, .int .i64 0, .int .i64 0, .int .i64 0, .int .i64 0, .int .i64 0]) ?_ 1 _ rfl; (with_reducible repeat (first | refine blk_drewN ?_ _ | refine blk_drew ?_ | refine blk_alloc ?_ _)); refine blk_put (cs := #[.int .i64 0, .int .i64 0, .int .i64 0, .int .i64 0, .int .i64 0, .int .i64 0]) ?_ 0 _ rfl; (with_reducible repeat (first | refine blk_drewN ?_ _ | refine blk_drew ?_ | refine blk_alloc ?_ _)); exact BK164.out⟩, ⟨by repeat (first | (with_reducible first | exact HB.out | apply below_alloc | apply pw_below_drewN | apply below_drew1 | refine below_set ?_ GE164.out) | exact HB.out)⟩⟩
                    ·rw [if_neg c78] at H
                     have c78b0 : ((rdOf ByteArray.empty t143 4).toList == ([71, 77, 84] : List UInt8)) = false := beq_eq_false_iff_ne.mpr c78
                     have c78b1 : ((rdOf ByteArray.empty t143 4).toList != ([71, 77, 84] : List UInt8)) = true := bne_iff_ne.mpr c78
                     have H' := Aside0.mk H
                     clear H
                     have p165 : 0 ≤ (4 : Int) := (by omega)
                     have q165 : 4 < (t143.length : Int) := of_decide_eq_true (by first | (with_reducible assumption) | assumption)
                     obtain ⟨ad165, e165, hx165_0⟩ := Kd.at_string (Kd.R_reads' HO_6.out).2.2 4 p165 q165
                     obtain rfl : ad154 = ad165 := (by injection e165)
                     (try simp only [show (4 : Int).toNat = 4 from rfl, Nat.reduceMul, Nat.reduceEqDiff, Go.Addr.add, ↓reduceIte] at hx165_0)
                     have qi165 : (4 < t143.length) = True := eq_true (by omega)
                     (try rw [show ((4 : Int)).toNat = 4 from rfl] at hx165_0)
                     have hn165_0 : ad154.block ≠ gb164 := Kd.own_blk (Kd.R_ne HO_6.out BK164.out (by decide))
                     have hn165_1 : ad154.block ≠ gb164 := Kd.own_blk (Kd.R_ne HO_6.out BK164.out (by decide))
                     have hn165_2 : ad154.block ≠ gb164 := Kd.own_blk (Kd.R_ne HO_6.out BK164.out (by decide))
                     have hn165_3 : ad154.block ≠ gb164 := Kd.own_blk (Kd.R_ne HO_6.out BK164.out (by decide))
                     have hn165_4 : ad154.block ≠ gb164 := Kd.own_blk (Kd.R_ne HO_6.out BK164.out (by decide))
                     have hn165_5 : ad154.block ≠ gb164 := Kd.own_blk (Kd.R_ne HO_6.out BK164.out (by decide))
                     replace hx165_0 := (cell_far (p := ⟨gb164, 0, none⟩) (by first | (rw [add_block]; exact hn165_0) | (show (Addr.add _ _).block ≠ _; rw [add_block]; exact hn165_0) | exact hn165_0) (.int .i64 t155)).trans hx165_0
                     replace hx165_0 := (cell_far (p := ⟨gb164, 1, none⟩) (by first | (rw [add_block]; exact hn165_1) | (show (Addr.add _ _).block ≠ _; rw [add_block]; exact hn165_1) | exact hn165_1) (.int .i64 x7_4)).trans hx165_0
                     replace hx165_0 := (cell_far (p := ⟨gb164, 2, none⟩) (by first | (rw [add_block]; exact hn165_2) | (show (Addr.add _ _).block ≠ _; rw [add_block]; exact hn165_2) | exact hn165_2) (.int .i64 t157)).trans hx165_0
                     replace hx165_0 := (cell_far (p := ⟨gb164, 3, none⟩) (by first | (rw [add_block]; exact hn165_3) | (show (Addr.add _ _).block ≠ _; rw [add_block]; exact hn165_3) | exact hn165_3) (.int .i64 t159)).trans hx165_0
                     replace hx165_0 := (cell_far (p := ⟨gb164, 4, none⟩) (by first | (rw [add_block]; exact hn165_4) | (show (Addr.add _ _).block ≠ _; rw [add_block]; exact hn165_4) | exact hn165_4) (.int .i64 t161)).trans hx165_0
                     replace hx165_0 := (cell_far (p := ⟨gb164, 5, none⟩) (by first | (rw [add_block]; exact hn165_5) | (show (Addr.add _ _).block ≠ _; rw [add_block]; exact hn165_5) | exact hn165_5) (.int .i64 t163)).trans hx165_0
                     clear hn165_0
                     clear hn165_1
                     clear hn165_2
                     clear hn165_3
                     clear hn165_4
                     clear hn165_5
                     replace p165 := eq_true p165
                     replace q165 := eq_true q165
                     have p166 : 0 ≤ (4 : Int) := (by omega)
                     have q166 : 4 < (t143.length : Int) := of_decide_eq_true (by first | (with_reducible assumption) | assumption)
                     obtain ⟨ad166, e166, hx166_0⟩ := Kd.at_string (Kd.R_reads' HO_6.out).2.2 4 p166 q166
                     obtain rfl : ad154 = ad166 := (by injection e166)
                     (try simp only [show (4 : Int).toNat = 4 from rfl, Nat.reduceMul, Nat.reduceEqDiff, Go.Addr.add, ↓reduceIte] at hx166_0)
                     have qi166 : (4 < t143.length) = True := eq_true (by omega)
                     (try rw [show ((4 : Int)).toNat = 4 from rfl] at hx166_0)
                     have hn166_0 : ad154.block ≠ gb164 := Kd.own_blk (Kd.R_ne HO_6.out BK164.out (by decide))
                     have hn166_1 : ad154.block ≠ gb164 := Kd.own_blk (Kd.R_ne HO_6.out BK164.out (by decide))
                     have hn166_2 : ad154.block ≠ gb164 := Kd.own_blk (Kd.R_ne HO_6.out BK164.out (by decide))
                     have hn166_3 : ad154.block ≠ gb164 := Kd.own_blk (Kd.R_ne HO_6.out BK164.out (by decide))
                     have hn166_4 : ad154.block ≠ gb164 := Kd.own_blk (Kd.R_ne HO_6.out BK164.out (by decide))
                     have hn166_5 : ad154.block ≠ gb164 := Kd.own_blk (Kd.R_ne HO_6.out BK164.out (by decide))
                     replace hx166_0 := (cell_far (p := ⟨gb164, 0, none⟩) (by first | (rw [add_block]; exact hn166_0) | (show (Addr.add _ _).block ≠ _; rw [add_block]; exact hn166_0) | exact hn166_0) (.int .i64 t155)).trans hx166_0
                     replace hx166_0 := (cell_far (p := ⟨gb164, 1, none⟩) (by first | (rw [add_block]; exact hn166_1) | (show (Addr.add _ _).block ≠ _; rw [add_block]; exact hn166_1) | exact hn166_1) (.int .i64 x7_4)).trans hx166_0
                     replace hx166_0 := (cell_far (p := ⟨gb164, 2, none⟩) (by first | (rw [add_block]; exact hn166_2) | (show (Addr.add _ _).block ≠ _; rw [add_block]; exact hn166_2) | exact hn166_2) (.int .i64 t157)).trans hx166_0
                     replace hx166_0 := (cell_far (p := ⟨gb164, 3, none⟩) (by first | (rw [add_block]; exact hn166_3) | (show (Addr.add _ _).block ≠ _; rw [add_block]; exact hn166_3) | exact hn166_3) (.int .i64 t159)).trans hx166_0
                     replace hx166_0 := (cell_far (p := ⟨gb164, 4, none⟩) (by first | (rw [add_block]; exact hn166_4) | (show (Addr.add _ _).block ≠ _; rw [add_block]; exact hn166_4) | exact hn166_4) (.int .i64 t161)).trans hx166_0
                     replace hx166_0 := (cell_far (p := ⟨gb164, 5, none⟩) (by first | (rw [add_block]; exact hn166_5) | (show (Addr.add _ _).block ≠ _; rw [add_block]; exact hn166_5) | exact hn166_5) (.int .i64 t163)).trans hx166_0
                     clear hn166_0
                     clear hn166_1
                     clear hn166_2
                     clear hn166_3
                     clear hn166_4
                     clear hn166_5
                     replace p166 := eq_true p166
                     replace q166 := eq_true q166
                     go_wp2
                     go_meet
                     case rel => exact ⟨_, (((rdOf ByteArray.empty t143 4).toList != ([85, 84] : List UInt8))), (by first | rfl | (simp; done) | (simp [*]; done) | (simp; rfl) | (simp; unfold wrap64; omega)), H', ⟨by have := HJ2.out; have := HJ9.out; have := HJ22.out; have := HK4.out; first | omega | exact Nat.le_refl _⟩, ⟨by (with_reducible repeat (first | apply Kd.R_alloc | apply Kd.R_drewN | apply Kd.R_drew)); exact Kd.R_mono (Kd.R_far (p := ⟨gb164, 5, none⟩) (Kd.R_far (p := ⟨gb164, 4, none⟩) (Kd.R_far (p := ⟨gb164, 3, none⟩) (Kd.R_far (p := ⟨gb164, 2, none⟩) (Kd.R_far (p := ⟨gb164, 1, none⟩) (Kd.R_far (p := ⟨gb164, 0, none⟩) (Kd.R_types HO_6.out BK164.out (by decide)) (fun _ hk => hk.2) (.int .i64 t155)) (fun _ hk => hk.2) (.int .i64 x7_4)) (fun _ hk => hk.2) (.int .i64 t157)) (fun _ hk => hk.2) (.int .i64 t159)) (fun _ hk => hk.2) (.int .i64 t161)) (fun _ hk => hk.2) (.int .i64 t163)) (fun _ hk => trivial)⟩, ⟨by (with_reducible repeat (first | refine blk_drewN ?_ _ | refine blk_drew ?_ | refine blk_alloc ?_ _)); refine blk_put (cs := #[.int .i64 t155, .int .i64 x7_4, .int .i64 t157, .int .i64 t159, .int .i64 t161, .int .i64 0]) ?_ 5 _ rfl; (with_reducible repeat (first | refine blk_drewN ?_ _ | refine blk_drew ?_ | refine blk_alloc ?_ _)); refine blk_put (cs := #[.int .i64 t155, .int .i64 x7_4, .int .i64 t157, .int .i64 t159, .int .i64 0, .int .i64 0]) ?_ 4 _ rfl; (with_reducible repeat (first | refine blk_drewN ?_ _ | refine blk_drew ?_ | refine blk_alloc ?_ _)); refine blk_put (cs := #[.int .i64 t155, .int .i64 x7_4, .int .i64 t157, .int .i64 0, .int .i64 0, .int .i64 0]) ?_ 3 _ rfl; (with_reducible repeat (first | refine blk_drewN ?_ _ | refine blk_drew ?_ | refine blk_alloc ?_ _)); refine blk_put (cs := #[.int .i64 t155, .int .i64 x7_4, .int .i64 0, .int .i64 0, .int .i64 0, .int .i64 0]) ?_ 2 _ rfl; (with_reducible repeat (first | refine blk_drewN ?_ _ | refine blk_drew ?_ | refine blk_alloc ?_ _)); refine blk_put (cs := #[.int .i64 t155, .int .i64 0, .int .i64 0, .int .i64 0, .int .i64 0, .int .i64 0]) ?_ 1 _ rfl; (with_reducible repeat (first | refine blk_drewN ?_ _ | refine blk_drew ?_ | refine blk_alloc ?_ _)); refine blk_put (cs := #[.int .i64 0, .int .i64 0, .int .i64 0, .int .i64 0, .int .i64 0, .int .i64 0]) ?_ 0 _ rfl; (with_reducible repeat (first | refine blk_drewN ?_ _ | refine blk_drew ?_ | refine blk_alloc ?_ _)); exact BK164.out⟩, ⟨by repeat (first | (with_reducible first | exact HB.out | apply below_alloc | apply pw_below_drewN | apply below_drew1 | refine below_set ?_ GE164.out) | exact HB.out)⟩⟩
                   ·rw [if_neg c77] at H
                    exact absurd H (by simp)
                  case rest =>
                   clear HC66
                   try clear p1
                   try clear q1
                   try clear hx1
                   try clear qi1
                   try clear p2
                   try clear c3
                   try clear c7
                   try clear c8
                   try clear p16
                   try clear q16
                   try clear hx16
                   try clear qi16
                   try clear c37
                   try clear c77
                   try clear c77b0
                   try clear c77b1
                   try clear c78
                   try clear c78b0
                   try clear c78b1
                   try clear hx165_0
                   try clear hx166_0
                   try clear p165
                   try clear p166
                   try clear q165
                   try clear q166
                   obtain ⟨kq, x129_65, rfl, HA, HJ65, HO_6, BK164, HB⟩ := hcut
                   cases kq with
                   | zero => exact absurd HA.out (by simp [spec_ReadRfc822.j5])
                   | succ kj65 =>
                    have H := HA.out
                    clear HA
                    simp only [spec_ReadRfc822.j5] at H
                    have HC79 := Aside0.mk H
                    clear H
                    go_upto_if 129 with (fail)
                    go_cut [10] (fun v10 wc => ∃ (kq : Nat) (x10_78 : Int), v10 = .int .i64 x10_78 ∧ Aside0 (spec_ReadRfc822.j6 kq x4_9 x10_78 t155 x7_4 t157 t159 t161 t163 = some (r1, r2)) ∧ Aside0 (kq ≤ kj65) ∧ Aside0 (wc.heap[gb164]? = some (.cells #[.int .i64 t155, .int .i64 x7_4, .int .i64 t157, .int .i64 t159, .int .i64 t161, .int .i64 t163] 28 (0, 0))) ∧ Aside0 (Below w.heap.size w wc))
                    case first =>
                     have H := HC79.out
                     clear HC79
                     by_cases c80 : x129_65 = true
                     ·subst c80
                      have H1 : (if 4 < (t143.length : Int) then (if ((rdOf ByteArray.empty t143 4).size : Int) = 5 then (if 0 < ((rdOf ByteArray.empty t143 4).size : Int) then (if 3 ≤ ((rdOf ByteArray.empty t143 4).size : Int) then (if 5 ≤ ((rdOf ByteArray.empty t143 4).size : Int) then ((spec_l04Zone.f kj65 (bt (rdOf ByteArray.empty t143 4) 0) ((rdOf ByteArray.empty t143 4).extract 1 3) ((rdOf ByteArray.empty t143 4).extract 3 5)).bind fun bt171 => (if bt171.2 = true then (spec_ReadRfc822.j6 kj65 x4_9 bt171.1 t155 x7_4 t157 t159 t161 t163) else (some (0, 3)))) else (none)) else (none)) else (none)) else (some (0, 3))) else (none)) = some (r1, r2) := by rw [if_pos rfl] at H; exact H
                      clear H
                      have H := H1
                      clear H1
                      by_cases c81 : 4 < (t143.length : Int)
                      ·as_aux_lemma =>
                       rw [if_pos c81] at H
                       have c81b0 : decide (4 < (t143.length : Int)) = true := decide_eq_true c81
                       have c81b1 : decide (4 < t143.length) = true := decide_eq_true (by omega)
                       clear c81
                       (first | rw [c81b0] | (simp only [i64_w, i32_w]; rw [c81b0]) | skip)
                       by_cases c82 : ((rdOf ByteArray.empty t143 4).size : Int) = 5
                       ·rw [if_pos c82] at H
                        have c82b0 : (((rdOf ByteArray.empty t143 4).size : Int) == 5) = true := beq_iff_eq.mpr c82
                        have c82b1 : (((rdOf ByteArray.empty t143 4).size : Int) != 5) = false := bne_eq_false_iff_eq.mpr c82
                        clear c82
                        by_cases c83 : 0 < ((rdOf ByteArray.empty t143 4).size : Int)
                        ·rw [if_pos c83] at H
                         have c83b0 : decide (0 < ((rdOf ByteArray.empty t143 4).size : Int)) = true := decide_eq_true c83
                         have c83b1 : decide (0 < (rdOf ByteArray.empty t143 4).size) = true := decide_eq_true (by omega)
                         clear c83
                         by_cases c85 : 3 ≤ ((rdOf ByteArray.empty t143 4).size : Int)
                         ·rw [if_pos c85] at H
                          have c85b0 := eq_true c85
                          have c85b1 : decide (3 ≤ ((rdOf ByteArray.empty t143 4).size : Int)) = true := decide_eq_true c85
                          clear c85
                          by_cases c86 : 5 ≤ ((rdOf ByteArray.empty t143 4).size : Int)
                          ·rw [if_pos c86] at H
                           have c86b0 := eq_true c86
                           have c86b1 : decide (5 ≤ ((rdOf ByteArray.empty t143 4).size : Int)) = true := decide_eq_true c86
                           clear c86
                           replace H := Option.bind_eq_some_iff.mp H
                           obtain ⟨⟨t171, t172⟩, A870, H⟩ := H
                           replace H : (if t172 = true then (spec_ReadRfc822.j6 kj65 x4_9 t171 t155 x7_4 t157 t159 t161 t163) else (some (0, 3))) = some (r1, r2) := H
                           have A87 := Aside0.mk A870
                           clear A870
                           by_cases c88 : t172 = true
                           ·subst c88
                            have H1 : (spec_ReadRfc822.j6 kj65 x4_9 t171 t155 x7_4 t157 t159 t161 t163) = some (r1, r2) := by rw [if_pos rfl] at H; exact H
                            clear H
                            have H := H1
                            clear H1
                            have H' := Aside0.mk H
                            clear H
                            have p167 : 0 ≤ (4 : Int) := (by omega)
                            have q167 : 4 < (t143.length : Int) := of_decide_eq_true (by first | (with_reducible assumption) | assumption)
                            obtain ⟨ad167, e167, hx167_0⟩ := Kd.at_string (Kd.R_reads' HO_6.out).2.2 4 p167 q167
                            obtain rfl : ad154 = ad167 := (by injection e167)
                            (try simp only [show (4 : Int).toNat = 4 from rfl, Nat.reduceMul, Nat.reduceEqDiff, Go.Addr.add, ↓reduceIte] at hx167_0)
                            have qi167 : (4 < t143.length) = True := eq_true (by omega)
                            (try rw [show ((4 : Int)).toNat = 4 from rfl] at hx167_0)
                            replace p167 := eq_true p167
                            replace q167 := eq_true q167
                            try go_wp2
                            have n0_ := Aside0.mk (Kd.R_drew HO_6.out)
                            have n1_ := Aside0.mk (blk_drew BK164.out)
                            have n2_ := Aside0.mk (below_drew1 HB.out)
                            clear HO_6
                            clear BK164
                            clear HB
                            have HO_6 := n0_
                            have BK164 := n1_
                            have HB := n2_
                            clear n0_ n1_ n2_
                            have p168 : 0 ≤ (4 : Int) := (by omega)
                            have q168 : 4 < (t143.length : Int) := of_decide_eq_true (by first | (with_reducible assumption) | assumption)
                            obtain ⟨ad168, e168, hx168_0⟩ := Kd.at_string (Kd.R_reads' HO_6.out).2.2 4 p168 q168
                            obtain rfl : ad154 = ad168 := (by injection e168)
                            (try simp only [show (4 : Int).toNat = 4 from rfl, Nat.reduceMul, Nat.reduceEqDiff, Go.Addr.add, ↓reduceIte] at hx168_0)
                            have qi168 : (4 < t143.length) = True := eq_true (by omega)
                            (try rw [show ((4 : Int)).toNat = 4 from rfl] at hx168_0)
                            replace p168 := eq_true p168
                            replace q168 := eq_true q168
                            have p84 : 0 ≤ (0 : Int) := (by omega)
                            have q84 : 0 < (rdOf ByteArray.empty t143 4).size := (by have : (0 : Int) < ((rdOf ByteArray.empty t143 4).size : Int) := of_decide_eq_true (by first | (with_reducible assumption) | assumption); omega)
                            have hx84 : ∀ h : 0 < (rdOf ByteArray.empty t143 4).size, (((rdOf ByteArray.empty t143 4)[0]'h).toNat : Int) = bt (rdOf ByteArray.empty t143 4) 0 := bt_at (rdOf ByteArray.empty t143 4) 0
                            clear p84
                            have qi84 : (0 < ((rdOf ByteArray.empty t143 4).size : Int)) = True := eq_true (of_decide_eq_true (by first | (with_reducible assumption) | assumption))
                            replace q84 := eq_true q84
                            have p169 : 0 ≤ (4 : Int) := (by omega)
                            have q169 : 4 < (t143.length : Int) := of_decide_eq_true (by first | (with_reducible assumption) | assumption)
                            obtain ⟨ad169, e169, hx169_0⟩ := Kd.at_string (Kd.R_reads' HO_6.out).2.2 4 p169 q169
                            obtain rfl : ad154 = ad169 := (by injection e169)
                            (try simp only [show (4 : Int).toNat = 4 from rfl, Nat.reduceMul, Nat.reduceEqDiff, Go.Addr.add, ↓reduceIte] at hx169_0)
                            have qi169 : (4 < t143.length) = True := eq_true (by omega)
                            (try rw [show ((4 : Int)).toNat = 4 from rfl] at hx169_0)
                            replace p169 := eq_true p169
                            replace q169 := eq_true q169
                            have p170 : 0 ≤ (4 : Int) := (by omega)
                            have q170 : 4 < (t143.length : Int) := of_decide_eq_true (by first | (with_reducible assumption) | assumption)
                            obtain ⟨ad170, e170, hx170_0⟩ := Kd.at_string (Kd.R_reads' HO_6.out).2.2 4 p170 q170
                            obtain rfl : ad154 = ad170 := (by injection e170)
                            (try simp only [show (4 : Int).toNat = 4 from rfl, Nat.reduceMul, Nat.reduceEqDiff, Go.Addr.add, ↓reduceIte] at hx170_0)
                            have qi170 : (4 < t143.length) = True := eq_true (by omega)
                            (try rw [show ((4 : Int)).toNat = 4 from rfl] at hx170_0)
                            replace p170 := eq_true p170
                            replace q170 := eq_true q170
                            refine start_ (n := 18) (S := fun w' => w'.cell? ⟨ad154.block, ad154.off + 4, none⟩ = some (.string (rdOf ByteArray.empty t143 4)) ∧ w'.cell? ⟨ad154.block, ad154.off + 4, none⟩ = some (.string (rdOf ByteArray.empty t143 4)) ∧ w'.cell? ⟨ad154.block, ad154.off + 4, none⟩ = some (.string (rdOf ByteArray.empty t143 4))) (ds := []) #[false, false, false, false, false, false, false, false, false, false, false, false, false, false, false, false, false, false] (by kernel_rfl) rfl rfl ⟨hx168_0, hx169_0, hx170_0⟩ (fun hHeld => ?_); refine with_tabW spec_ReadRfc822.tab27 spec_ReadRfc822.bits27 (fun HT_ HW_ => ?_)
                            generalize wc.drew = w89 at HO_6 BK164 HB hx168_0 hx169_0 hx170_0 hHeld ⊢
                            refine pure_ (i := 0) (N := some 136) (v := ?_) (a' := ?_) #[true, false, false, false, false, false, false, false, false, false, false, false, false, false, false, false, false, false] rfl rfl (any_of HT_.out (by kernel_rfl)) (fun _ _ _ h => h) (Or.inl ⟨by rfl, ?_⟩) ?_ ?_
                            rotate_left
                            ·intro w'
                             go_simp
                             with_reducible rfl
                            rotate_left
                            ·simp only [Act.put, List.setIfInBounds_toArray, List.set_cons_zero, List.set_cons_succ, i64_w, i32_w]
                             rfl
                            refine pure_ (i := 1) (N := some 137) (v := ?_) (a' := ?_) #[true, true, false, false, false, false, false, false, false, false, false, false, false, false, false, false, false, false] rfl rfl (any_of HT_.out (by kernel_rfl)) (fun _ _ _ h => h) (Or.inl ⟨by rfl, ?_⟩) ?_ ?_
                            rotate_left
                            ·intro w'
                             go_simp
                             with_reducible rfl
                            rotate_left
                            ·simp only [Act.put, List.setIfInBounds_toArray, List.set_cons_zero, List.set_cons_succ, i64_w, i32_w]
                             rfl
                            refine pure_ (i := 4) (N := some 140) (v := ?_) (a' := ?_) #[true, true, false, false, true, false, false, false, false, false, false, false, false, false, false, false, false, false] rfl rfl (any_of HT_.out (by kernel_rfl)) (fun _ _ _ h => h) (Or.inl ⟨by rfl, ?_⟩) ?_ ?_
                            rotate_left
                            ·intro w'
                             go_simp
                             with_reducible rfl
                            rotate_left
                            ·simp only [Act.put, List.setIfInBounds_toArray, List.set_cons_zero, List.set_cons_succ, i64_w, i32_w]
                             rfl
                            refine pure_ (i := 5) (N := some 141) (v := ?_) (a' := ?_) #[true, true, false, false, true, true, false, false, false, false, false, false, false, false, false, false, false, false] rfl rfl (any_of HT_.out (by kernel_rfl)) (fun _ _ _ h => h) (Or.inl ⟨by rfl, ?_⟩) ?_ ?_
                            rotate_left
                            ·intro w'
                             go_simp
                             with_reducible rfl
                            rotate_left
                            ·simp only [Act.put, List.setIfInBounds_toArray, List.set_cons_zero, List.set_cons_succ, i64_w, i32_w]
                             rfl
                            refine pure_ (i := 8) (N := some 144) (v := ?_) (a' := ?_) #[true, true, false, false, true, true, false, false, true, false, false, false, false, false, false, false, false, false] rfl rfl (any_of HT_.out (by kernel_rfl)) (fun _ _ _ h => h) (Or.inl ⟨by rfl, ?_⟩) ?_ ?_
                            rotate_left
                            ·intro w'
                             go_simp
                             with_reducible rfl
                            rotate_left
                            ·simp only [Act.put, List.setIfInBounds_toArray, List.set_cons_zero, List.set_cons_succ, i64_w, i32_w]
                             rfl
                            refine pure_ (i := 9) (N := some 145) (v := ?_) (a' := ?_) #[true, true, false, false, true, true, false, false, true, true, false, false, false, false, false, false, false, false] rfl rfl (any_of HT_.out (by kernel_rfl)) (fun _ _ _ h => h) (Or.inl ⟨by rfl, ?_⟩) ?_ ?_
                            rotate_left
                            ·intro w'
                             go_simp
                             with_reducible rfl
                            rotate_left
                            ·simp only [Act.put, List.setIfInBounds_toArray, List.set_cons_zero, List.set_cons_succ, i64_w, i32_w]
                             rfl
                            refine take_ (i := 2) (N := some 138) (v := ?_) (a' := ?_) #[true, true, true, false, true, true, false, false, true, true, false, false, false, false, false, false, false, false] rfl rfl (take_ofW HT_.out HW_.out (by kernel_rfl)) (fun _ _ _ h => h) (Or.inl ⟨by rfl, ?_⟩) hHeld ?_ ?_
                            rotate_left
                            ·rintro w' ⟨s0, s1, s2⟩
                             go_simp
                             with_reducible rfl
                            rotate_left
                            ·simp only [Act.put, List.setIfInBounds_toArray, List.set_cons_zero, List.set_cons_succ, i64_w, i32_w]
                             rfl
                            refine take_ (i := 3) (N := some 139) (v := ?_) (a' := ?_) #[true, true, true, true, true, true, false, false, true, true, false, false, false, false, false, false, false, false] rfl rfl (take_ofW HT_.out HW_.out (by kernel_rfl)) (fun _ _ _ h => h) (Or.inl ⟨by rfl, ?_⟩) hHeld ?_ ?_
                            rotate_left
                            ·rintro w' ⟨s0, s1, s2⟩
                             go_simp
                             with_reducible rfl
                            rotate_left
                            ·simp only [Act.put, List.setIfInBounds_toArray, List.set_cons_zero, List.set_cons_succ, i64_w, i32_w]
                             rfl
                            refine take_ (i := 6) (N := some 142) (v := ?_) (a' := ?_) #[true, true, true, true, true, true, true, false, true, true, false, false, false, false, false, false, false, false] rfl rfl (take_ofW HT_.out HW_.out (by kernel_rfl)) (fun _ _ _ h => h) (Or.inl ⟨by rfl, ?_⟩) hHeld ?_ ?_
                            rotate_left
                            ·rintro w' ⟨s0, s1, s2⟩
                             go_simp
                             with_reducible rfl
                            rotate_left
                            ·simp only [Act.put, List.setIfInBounds_toArray, List.set_cons_zero, List.set_cons_succ, i64_w, i32_w]
                             rfl
                            refine pure_ (i := 7) (N := some 143) (v := ?_) (a' := ?_) #[true, true, true, true, true, true, true, true, true, true, false, false, false, false, false, false, false, false] rfl rfl (any_of HT_.out (by kernel_rfl)) (fun _ _ _ h => h) (Or.inl ⟨by rfl, ?_⟩) ?_ ?_
                            rotate_left
                            ·intro w'
                             go_simp
                             with_reducible rfl
                            rotate_left
                            ·simp only [Act.put, List.setIfInBounds_toArray, List.set_cons_zero, List.set_cons_succ, i64_w, i32_w]
                             rfl
                            refine take_ (i := 10) (N := some 146) (v := ?_) (a' := ?_) #[true, true, true, true, true, true, true, true, true, true, true, false, false, false, false, false, false, false] rfl rfl (take_ofW HT_.out HW_.out (by kernel_rfl)) (fun _ _ _ h => h) (Or.inl ⟨by rfl, ?_⟩) hHeld ?_ ?_
                            rotate_left
                            ·rintro w' ⟨s0, s1, s2⟩
                             go_simp
                             with_reducible rfl
                            rotate_left
                            ·simp only [Act.put, List.setIfInBounds_toArray, List.set_cons_zero, List.set_cons_succ, i64_w, i32_w]
                             rfl
                            refine pure_ (i := 11) (N := some 147) (v := ?_) (a' := ?_) #[true, true, true, true, true, true, true, true, true, true, true, true, false, false, false, false, false, false] rfl rfl (any_of HT_.out (by kernel_rfl)) (fun _ _ _ h => h) (Or.inl ⟨by rfl, ?_⟩) ?_ ?_
                            rotate_left
                            ·intro w'
                             go_simp
                             with_reducible rfl
                            rotate_left
                            ·simp only [Act.put, List.setIfInBounds_toArray, List.set_cons_zero, List.set_cons_succ, i64_w, i32_w]
                             rfl
                            refine one_ (i := 12) (N := some 148) #[true, true, true, true, true, true, true, true, true, true, true, true, true, false, false, false, false, false] rfl rfl (one_of HT_.out (by kernel_rfl)) (by decide) (fun K hK => ?_)
                            refine goes_ Try.func39 (by kernel_rfl) rfl #[.int .u8 (bt (rdOf ByteArray.empty t143 4) 0), .string ((rdOf ByteArray.empty t143 4).extract 1 3), .string ((rdOf ByteArray.empty t143 4).extract 3 5)] (by rfl) rfl rfl (by (try simp only [List.map_toArray, List.map_cons, List.map_nil]); first | done | rfl | (simp only [List.length_drop, List.length_take]; rfl)) ?_
                            with_reducible refine (spec_l04Zone.calls kj65 (bt (rdOf ByteArray.empty t143 4) 0) ((rdOf ByteArray.empty t143 4).extract 1 3) ((rdOf ByteArray.empty t143 4).extract 3 5) t171 true _ A87.out).mono ?_
                            rintro e w' ⟨rfl, ⟨nd, rfl⟩⟩
                            refine ⟨_, rfl, ?_⟩
                            refine hK.out _ _ ⟨hHeld.1, hHeld.2.1, hHeld.2.2⟩ (fun hHeld => ?_)
                            clear hK K
                            refine norm_ (a' := ?_) ?_ ?_
                            rotate_left
                            ·show Act.put _ (some 148) _ = _
                             simp only [Act.put, List.setIfInBounds_toArray, List.set_cons_zero, List.set_cons_succ, i64_w, i32_w]
                             rfl
                            refine pure_ (i := 13) (N := some 135) (v := ?_) (a' := ?_) #[true, true, true, true, true, true, true, true, true, true, true, true, true, true, false, false, false, false] rfl rfl (any_of HT_.out (by kernel_rfl)) (fun _ _ _ h => h) (Or.inl ⟨by rfl, ?_⟩) ?_ ?_
                            rotate_left
                            ·intro w'
                             go_simp
                             with_reducible rfl
                            rotate_left
                            ·simp only [Act.put, List.setIfInBounds_toArray, List.set_cons_zero, List.set_cons_succ, i64_w, i32_w]
                             rfl
                            refine pure_ (i := 14) (N := some 149) (v := ?_) (a' := ?_) #[true, true, true, true, true, true, true, true, true, true, true, true, true, true, true, false, false, false] rfl rfl (any_of HT_.out (by kernel_rfl)) (fun _ _ _ h => h) (Or.inl ⟨by rfl, ?_⟩) ?_ ?_
                            rotate_left
                            ·intro w'
                             go_simp
                             with_reducible rfl
                            rotate_left
                            ·simp only [Act.put, List.setIfInBounds_toArray, List.set_cons_zero, List.set_cons_succ, i64_w, i32_w]
                             rfl
                            refine pure_ (i := 15) (N := some 150) (v := ?_) (a' := ?_) #[true, true, true, true, true, true, true, true, true, true, true, true, true, true, true, true, false, false] rfl rfl (any_of HT_.out (by kernel_rfl)) (fun _ _ _ h => h) (Or.inl ⟨by rfl, ?_⟩) ?_ ?_
                            rotate_left
                            ·intro w'
                             go_simp
                             with_reducible rfl
                            rotate_left
                            ·simp only [Act.put, List.setIfInBounds_toArray, List.set_cons_zero, List.set_cons_succ, i64_w, i32_w]
                             rfl
                            refine pure_ (i := 16) (N := some 11) (v := ?_) (a' := ?_) #[true, true, true, true, true, true, true, true, true, true, true, true, true, true, true, true, true, false] rfl rfl (any_of HT_.out (by kernel_rfl)) (fun _ _ _ h => h) (Or.inl ⟨by rfl, ?_⟩) ?_ ?_
                            rotate_left
                            ·intro w'
                             go_simp
                             with_reducible rfl
                            rotate_left
                            ·simp only [Act.put, List.setIfInBounds_toArray, List.set_cons_zero, List.set_cons_succ, i64_w, i32_w]
                             rfl
                            refine pure_ (i := 17) (N := some 12) (v := ?_) (a' := ?_) #[true, true, true, true, true, true, true, true, true, true, true, true, true, true, true, true, true, true] rfl rfl (any_of HT_.out (by kernel_rfl)) (fun _ _ _ h => h) (Or.inl ⟨by rfl, ?_⟩) ?_ ?_
                            rotate_left
                            ·intro w'
                             go_simp
                             with_reducible rfl
                            rotate_left
                            ·simp only [Act.put, List.setIfInBounds_toArray, List.set_cons_zero, List.set_cons_succ, i64_w, i32_w]
                             rfl
                            refine done_ (done_of HT_.out (by kernel_rfl)) ?_
                            try go_wp2
                            go_meet
                            case rel => exact ⟨_, (t171), (by first | rfl | (simp; done) | (simp [*]; done) | (simp; rfl) | (simp; unfold wrap64; omega)), H', ⟨by have := HJ2.out; have := HJ9.out; have := HJ22.out; have := HK4.out; have := HJ65.out; first | omega | exact Nat.le_refl _⟩, ⟨by (with_reducible repeat (first | refine blk_drewN ?_ _ | refine blk_drew ?_ | refine blk_alloc ?_ _)); exact BK164.out⟩, ⟨by repeat (first | (with_reducible first | exact HB.out | apply below_alloc | apply pw_below_drewN | apply below_drew1 | refine below_set ?_ GE164.out) | exact HB.out)⟩⟩
                           ·replace c88 := Bool.eq_false_iff.mpr c88
                            subst c88
                            have H1 : (some (0, 3)) = some (r1, r2) := by rw [if_neg (show ¬ (false = true) by decide)] at H; exact H
                            clear H
                            have H := H1
                            clear H1
                            simp only [Option.some.injEq, Prod.mk.injEq] at H
                            obtain ⟨rfl, rfl⟩ := H
                            have p167 : 0 ≤ (4 : Int) := (by omega)
                            have q167 : 4 < (t143.length : Int) := of_decide_eq_true (by first | (with_reducible assumption) | assumption)
                            obtain ⟨ad167, e167, hx167_0⟩ := Kd.at_string (Kd.R_reads' HO_6.out).2.2 4 p167 q167
                            obtain rfl : ad154 = ad167 := (by injection e167)
                            (try simp only [show (4 : Int).toNat = 4 from rfl, Nat.reduceMul, Nat.reduceEqDiff, Go.Addr.add, ↓reduceIte] at hx167_0)
                            have qi167 : (4 < t143.length) = True := eq_true (by omega)
                            (try rw [show ((4 : Int)).toNat = 4 from rfl] at hx167_0)
                            replace p167 := eq_true p167
                            replace q167 := eq_true q167
                            try go_wp2
                            have n0_ := Aside0.mk (Kd.R_drew HO_6.out)
                            have n1_ := Aside0.mk (blk_drew BK164.out)
                            have n2_ := Aside0.mk (below_drew1 HB.out)
                            clear HO_6
                            clear BK164
                            clear HB
                            have HO_6 := n0_
                            have BK164 := n1_
                            have HB := n2_
                            clear n0_ n1_ n2_
                            have p168 : 0 ≤ (4 : Int) := (by omega)
                            have q168 : 4 < (t143.length : Int) := of_decide_eq_true (by first | (with_reducible assumption) | assumption)
                            obtain ⟨ad168, e168, hx168_0⟩ := Kd.at_string (Kd.R_reads' HO_6.out).2.2 4 p168 q168
                            obtain rfl : ad154 = ad168 := (by injection e168)
                            (try simp only [show (4 : Int).toNat = 4 from rfl, Nat.reduceMul, Nat.reduceEqDiff, Go.Addr.add, ↓reduceIte] at hx168_0)
                            have qi168 : (4 < t143.length) = True := eq_true (by omega)
                            (try rw [show ((4 : Int)).toNat = 4 from rfl] at hx168_0)
                            replace p168 := eq_true p168
                            replace q168 := eq_true q168
                            have p84 : 0 ≤ (0 : Int) := (by omega)
                            have q84 : 0 < (rdOf ByteArray.empty t143 4).size := (by have : (0 : Int) < ((rdOf ByteArray.empty t143 4).size : Int) := of_decide_eq_true (by first | (with_reducible assumption) | assumption); omega)
                            have hx84 : ∀ h : 0 < (rdOf ByteArray.empty t143 4).size, (((rdOf ByteArray.empty t143 4)[0]'h).toNat : Int) = bt (rdOf ByteArray.empty t143 4) 0 := bt_at (rdOf ByteArray.empty t143 4) 0
                            clear p84
                            have qi84 : (0 < ((rdOf ByteArray.empty t143 4).size : Int)) = True := eq_true (of_decide_eq_true (by first | (with_reducible assumption) | assumption))
                            replace q84 := eq_true q84
                            have p169 : 0 ≤ (4 : Int) := (by omega)
                            have q169 : 4 < (t143.length : Int) := of_decide_eq_true (by first | (with_reducible assumption) | assumption)
                            obtain ⟨ad169, e169, hx169_0⟩ := Kd.at_string (Kd.R_reads' HO_6.out).2.2 4 p169 q169
                            obtain rfl : ad154 = ad169 := (by injection e169)
                            (try simp only [show (4 : Int).toNat = 4 from rfl, Nat.reduceMul, Nat.reduceEqDiff, Go.Addr.add, ↓reduceIte] at hx169_0)
                            have qi169 : (4 < t143.length) = True := eq_true (by omega)
                            (try rw [show ((4 : Int)).toNat = 4 from rfl] at hx169_0)
                            replace p169 := eq_true p169
                            replace q169 := eq_true q169
                            have p170 : 0 ≤ (4 : Int) := (by omega)
                            have q170 : 4 < (t143.length : Int) := of_decide_eq_true (by first | (with_reducible assumption) | assumption)
                            obtain ⟨ad170, e170, hx170_0⟩ := Kd.at_string (Kd.R_reads' HO_6.out).2.2 4 p170 q170
                            obtain rfl : ad154 = ad170 := (by injection e170)
                            (try simp only [show (4 : Int).toNat = 4 from rfl, Nat.reduceMul, Nat.reduceEqDiff, Go.Addr.add, ↓reduceIte] at hx170_0)
                            have qi170 : (4 < t143.length) = True := eq_true (by omega)
                            (try rw [show ((4 : Int)).toNat = 4 from rfl] at hx170_0)
                            replace p170 := eq_true p170
                            replace q170 := eq_true q170
                            refine start_ (n := 18) (S := fun w' => w'.cell? ⟨ad154.block, ad154.off + 4, none⟩ = some (.string (rdOf ByteArray.empty t143 4)) ∧ w'.cell? ⟨ad154.block, ad154.off + 4, none⟩ = some (.string (rdOf ByteArray.empty t143 4)) ∧ w'.cell? ⟨ad154.block, ad154.off + 4, none⟩ = some (.string (rdOf ByteArray.empty t143 4))) (ds := []) #[false, false, false, false, false, false, false, false, false, false, false, false, false, false, false, false, false, false] (by kernel_rfl) rfl rfl ⟨hx168_0, hx169_0, hx170_0⟩ (fun hHeld => ?_); refine with_tabW spec_ReadRfc822.tab27 spec_ReadRfc822.bits27 (fun HT_ HW_ => ?_)
                            generalize wc.drew = w90 at HO_6 BK164 HB hx168_0 hx169_0 hx170_0 hHeld ⊢
                            refine pure_ (i := 0) (N := some 136) (v := ?_) (a' := ?_) #[true, false, false, false, false, false, false, false, false, false, false, false, false, false, false, false, false, false] rfl rfl (any_of HT_.out (by kernel_rfl)) (fun _ _ _ h => h) (Or.inl ⟨by rfl, ?_⟩) ?_ ?_
                            rotate_left
                            ·intro w'
                             go_simp
                             with_reducible rfl
                            rotate_left
                            ·simp only [Act.put, List.setIfInBounds_toArray, List.set_cons_zero, List.set_cons_succ, i64_w, i32_w]
                             rfl
                            refine pure_ (i := 1) (N := some 137) (v := ?_) (a' := ?_) #[true, true, false, false, false, false, false, false, false, false, false, false, false, false, false, false, false, false] rfl rfl (any_of HT_.out (by kernel_rfl)) (fun _ _ _ h => h) (Or.inl ⟨by rfl, ?_⟩) ?_ ?_
                            rotate_left
                            ·intro w'
                             go_simp
                             with_reducible rfl
                            rotate_left
                            ·simp only [Act.put, List.setIfInBounds_toArray, List.set_cons_zero, List.set_cons_succ, i64_w, i32_w]
                             rfl
                            refine pure_ (i := 4) (N := some 140) (v := ?_) (a' := ?_) #[true, true, false, false, true, false, false, false, false, false, false, false, false, false, false, false, false, false] rfl rfl (any_of HT_.out (by kernel_rfl)) (fun _ _ _ h => h) (Or.inl ⟨by rfl, ?_⟩) ?_ ?_
                            rotate_left
                            ·intro w'
                             go_simp
                             with_reducible rfl
                            rotate_left
                            ·simp only [Act.put, List.setIfInBounds_toArray, List.set_cons_zero, List.set_cons_succ, i64_w, i32_w]
                             rfl
                            refine pure_ (i := 5) (N := some 141) (v := ?_) (a' := ?_) #[true, true, false, false, true, true, false, false, false, false, false, false, false, false, false, false, false, false] rfl rfl (any_of HT_.out (by kernel_rfl)) (fun _ _ _ h => h) (Or.inl ⟨by rfl, ?_⟩) ?_ ?_
                            rotate_left
                            ·intro w'
                             go_simp
                             with_reducible rfl
                            rotate_left
                            ·simp only [Act.put, List.setIfInBounds_toArray, List.set_cons_zero, List.set_cons_succ, i64_w, i32_w]
                             rfl
                            refine pure_ (i := 8) (N := some 144) (v := ?_) (a' := ?_) #[true, true, false, false, true, true, false, false, true, false, false, false, false, false, false, false, false, false] rfl rfl (any_of HT_.out (by kernel_rfl)) (fun _ _ _ h => h) (Or.inl ⟨by rfl, ?_⟩) ?_ ?_
                            rotate_left
                            ·intro w'
                             go_simp
                             with_reducible rfl
                            rotate_left
                            ·simp only [Act.put, List.setIfInBounds_toArray, List.set_cons_zero, List.set_cons_succ, i64_w, i32_w]
                             rfl
                            refine pure_ (i := 9) (N := some 145) (v := ?_) (a' := ?_) #[true, true, false, false, true, true, false, false, true, true, false, false, false, false, false, false, false, false] rfl rfl (any_of HT_.out (by kernel_rfl)) (fun _ _ _ h => h) (Or.inl ⟨by rfl, ?_⟩) ?_ ?_
                            rotate_left
                            ·intro w'
                             go_simp
                             with_reducible rfl
                            rotate_left
                            ·simp only [Act.put, List.setIfInBounds_toArray, List.set_cons_zero, List.set_cons_succ, i64_w, i32_w]
                             rfl
                            refine take_ (i := 2) (N := some 138) (v := ?_) (a' := ?_) #[true, true, true, false, true, true, false, false, true, true, false, false, false, false, false, false, false, false] rfl rfl (take_ofW HT_.out HW_.out (by kernel_rfl)) (fun _ _ _ h => h) (Or.inl ⟨by rfl, ?_⟩) hHeld ?_ ?_
                            rotate_left
                            ·rintro w' ⟨s0, s1, s2⟩
                             go_simp
                             with_reducible rfl
                            rotate_left
                            ·simp only [Act.put, List.setIfInBounds_toArray, List.set_cons_zero, List.set_cons_succ, i64_w, i32_w]
                             rfl
                            refine take_ (i := 3) (N := some 139) (v := ?_) (a' := ?_) #[true, true, true, true, true, true, false, false, true, true, false, false, false, false, false, false, false, false] rfl rfl (take_ofW HT_.out HW_.out (by kernel_rfl)) (fun _ _ _ h => h) (Or.inl ⟨by rfl, ?_⟩) hHeld ?_ ?_
                            rotate_left
                            ·rintro w' ⟨s0, s1, s2⟩
                             go_simp
                             with_reducible rfl
                            rotate_left
                            ·simp only [Act.put, List.setIfInBounds_toArray, List.set_cons_zero, List.set_cons_succ, i64_w, i32_w]
                             rfl
                            refine take_ (i := 6) (N := some 142) (v := ?_) (a' := ?_) #[true, true, true, true, true, true, true, false, true, true, false, false, false, false, false, false, false, false] rfl rfl (take_ofW HT_.out HW_.out (by kernel_rfl)) (fun _ _ _ h => h) (Or.inl ⟨by rfl, ?_⟩) hHeld ?_ ?_
                            rotate_left
                            ·rintro w' ⟨s0, s1, s2⟩
                             go_simp
                             with_reducible rfl
                            rotate_left
                            ·simp only [Act.put, List.setIfInBounds_toArray, List.set_cons_zero, List.set_cons_succ, i64_w, i32_w]
                             rfl
                            refine pure_ (i := 7) (N := some 143) (v := ?_) (a' := ?_) #[true, true, true, true, true, true, true, true, true, true, false, false, false, false, false, false, false, false] rfl rfl (any_of HT_.out (by kernel_rfl)) (fun _ _ _ h => h) (Or.inl ⟨by rfl, ?_⟩) ?_ ?_
                            rotate_left
                            ·intro w'
                             go_simp
                             with_reducible rfl
                            rotate_left
                            ·simp only [Act.put, List.setIfInBounds_toArray, List.set_cons_zero, List.set_cons_succ, i64_w, i32_w]
                             rfl
                            refine take_ (i := 10) (N := some 146) (v := ?_) (a' := ?_) #[true, true, true, true, true, true, true, true, true, true, true, false, false, false, false, false, false, false] rfl rfl (take_ofW HT_.out HW_.out (by kernel_rfl)) (fun _ _ _ h => h) (Or.inl ⟨by rfl, ?_⟩) hHeld ?_ ?_
                            rotate_left
                            ·rintro w' ⟨s0, s1, s2⟩
                             go_simp
                             with_reducible rfl
                            rotate_left
                            ·simp only [Act.put, List.setIfInBounds_toArray, List.set_cons_zero, List.set_cons_succ, i64_w, i32_w]
                             rfl
                            refine pure_ (i := 11) (N := some 147) (v := ?_) (a' := ?_) #[true, true, true, true, true, true, true, true, true, true, true, true, false, false, false, false, false, false] rfl rfl (any_of HT_.out (by kernel_rfl)) (fun _ _ _ h => h) (Or.inl ⟨by rfl, ?_⟩) ?_ ?_
                            rotate_left
                            ·intro w'
                             go_simp
                             with_reducible rfl
                            rotate_left
                            ·simp only [Act.put, List.setIfInBounds_toArray, List.set_cons_zero, List.set_cons_succ, i64_w, i32_w]
                             rfl
                            refine one_ (i := 12) (N := some 148) #[true, true, true, true, true, true, true, true, true, true, true, true, true, false, false, false, false, false] rfl rfl (one_of HT_.out (by kernel_rfl)) (by decide) (fun K hK => ?_)
                            refine goes_ Try.func39 (by kernel_rfl) rfl #[.int .u8 (bt (rdOf ByteArray.empty t143 4) 0), .string ((rdOf ByteArray.empty t143 4).extract 1 3), .string ((rdOf ByteArray.empty t143 4).extract 3 5)] (by rfl) rfl rfl (by (try simp only [List.map_toArray, List.map_cons, List.map_nil]); first | done | rfl | (simp only [List.length_drop, List.length_take]; rfl)) ?_
                            with_reducible refine (spec_l04Zone.calls kj65 (bt (rdOf ByteArray.empty t143 4) 0) ((rdOf ByteArray.empty t143 4).extract 1 3) ((rdOf ByteArray.empty t143 4).extract 3 5) t171 false _ A87.out).mono ?_
                            rintro e w' ⟨rfl, ⟨nd, rfl⟩⟩
                            refine ⟨_, rfl, ?_⟩
                            refine hK.out _ _ ⟨hHeld.1, hHeld.2.1, hHeld.2.2⟩ (fun hHeld => ?_)
                            clear hK K
                            refine norm_ (a' := ?_) ?_ ?_
                            rotate_left
                            ·show Act.put _ (some 148) _ = _
                             simp only [Act.put, List.setIfInBounds_toArray, List.set_cons_zero, List.set_cons_succ, i64_w, i32_w]
                             rfl
                            refine pure_ (i := 13) (N := some 135) (v := ?_) (a' := ?_) #[true, true, true, true, true, true, true, true, true, true, true, true, true, true, false, false, false, false] rfl rfl (any_of HT_.out (by kernel_rfl)) (fun _ _ _ h => h) (Or.inl ⟨by rfl, ?_⟩) ?_ ?_
                            rotate_left
                            ·intro w'
                             go_simp
                             with_reducible rfl
                            rotate_left
                            ·simp only [Act.put, List.setIfInBounds_toArray, List.set_cons_zero, List.set_cons_succ, i64_w, i32_w]
                             rfl
                            refine pure_ (i := 14) (N := some 149) (v := ?_) (a' := ?_) #[true, true, true, true, true, true, true, true, true, true, true, true, true, true, true, false, false, false] rfl rfl (any_of HT_.out (by kernel_rfl)) (fun _ _ _ h => h) (Or.inl ⟨by rfl, ?_⟩) ?_ ?_
                            rotate_left
                            ·intro w'
                             go_simp
                             with_reducible rfl
                            rotate_left
                            ·simp only [Act.put, List.setIfInBounds_toArray, List.set_cons_zero, List.set_cons_succ, i64_w, i32_w]
                             rfl
                            refine pure_ (i := 15) (N := some 150) (v := ?_) (a' := ?_) #[true, true, true, true, true, true, true, true, true, true, true, true, true, true, true, true, false, false] rfl rfl (any_of HT_.out (by kernel_rfl)) (fun _ _ _ h => h) (Or.inl ⟨by rfl, ?_⟩) ?_ ?_
                            rotate_left
                            ·intro w'
                             go_simp
                             with_reducible rfl
                            rotate_left
                            ·simp only [Act.put, List.setIfInBounds_toArray, List.set_cons_zero, List.set_cons_succ, i64_w, i32_w]
                             rfl
                            refine pure_ (i := 16) (N := some 11) (v := ?_) (a' := ?_) #[true, true, true, true, true, true, true, true, true, true, true, true, true, true, true, true, true, false] rfl rfl (any_of HT_.out (by kernel_rfl)) (fun _ _ _ h => h) (Or.inl ⟨by rfl, ?_⟩) ?_ ?_
                            rotate_left
                            ·intro w'
                             go_simp
                             with_reducible rfl
                            rotate_left
                            ·simp only [Act.put, List.setIfInBounds_toArray, List.set_cons_zero, List.set_cons_succ, i64_w, i32_w]
                             rfl
                            refine pure_ (i := 17) (N := some 12) (v := ?_) (a' := ?_) #[true, true, true, true, true, true, true, true, true, true, true, true, true, true, true, true, true, true] rfl rfl (any_of HT_.out (by kernel_rfl)) (fun _ _ _ h => h) (Or.inl ⟨by rfl, ?_⟩) ?_ ?_
                            rotate_left
                            ·intro w'
                             go_simp
                             with_reducible rfl
                            rotate_left
                            ·simp only [Act.put, List.setIfInBounds_toArray, List.set_cons_zero, List.set_cons_succ, i64_w, i32_w]
                             rfl
                            refine done_ (done_of HT_.out (by kernel_rfl)) ?_
                            try go_wp2
                            go_ret2
                            exact ⟨by first | rfl | (simp [errW_none, errW_some] <;> rfl) | (simp [*, errW_none, errW_some] <;> rfl), by repeat (first | (with_reducible first | exact HB.out | apply below_alloc | apply pw_below_drewN | apply below_drew1 | refine below_set ?_ GE164.out) | exact HB.out)⟩
                          ·rw [if_neg c86] at H
                           exact absurd H (by simp)
                         ·rw [if_neg c85] at H
                          exact absurd H (by simp)
                        ·rw [if_neg c83] at H
                         exact absurd H (by simp)
                       ·rw [if_neg c82] at H
                        have c82b0 : (((rdOf ByteArray.empty t143 4).size : Int) == 5) = false := beq_eq_false_iff_ne.mpr c82
                        have c82b1 : (((rdOf ByteArray.empty t143 4).size : Int) != 5) = true := bne_iff_ne.mpr c82
                        simp only [Option.some.injEq, Prod.mk.injEq] at H
                        obtain ⟨rfl, rfl⟩ := H
                        have p167 : 0 ≤ (4 : Int) := (by omega)
                        have q167 : 4 < (t143.length : Int) := of_decide_eq_true (by first | (with_reducible assumption) | assumption)
                        obtain ⟨ad167, e167, hx167_0⟩ := Kd.at_string (Kd.R_reads' HO_6.out).2.2 4 p167 q167
                        obtain rfl : ad154 = ad167 := (by injection e167)
                        (try simp only [show (4 : Int).toNat = 4 from rfl, Nat.reduceMul, Nat.reduceEqDiff, Go.Addr.add, ↓reduceIte] at hx167_0)
                        have qi167 : (4 < t143.length) = True := eq_true (by omega)
                        (try rw [show ((4 : Int)).toNat = 4 from rfl] at hx167_0)
                        replace p167 := eq_true p167
                        replace q167 := eq_true q167
                        go_wp2
                        go_ret2
                        exact ⟨by first | rfl | (simp [errW_none, errW_some] <;> rfl) | (simp [*, errW_none, errW_some] <;> rfl), by repeat (first | (with_reducible first | exact HB.out | apply below_alloc | apply pw_below_drewN | apply below_drew1 | refine below_set ?_ GE164.out) | exact HB.out)⟩
                      ·rw [if_neg c81] at H
                       exact absurd H (by simp)
                     ·replace c80 := Bool.eq_false_iff.mpr c80
                      subst c80
                      have H1 : (spec_ReadRfc822.j6 kj65 x4_9 0 t155 x7_4 t157 t159 t161 t163) = some (r1, r2) := by rw [if_neg (show ¬ (false = true) by decide)] at H; exact H
                      clear H
                      have H := H1
                      clear H1
                      have H' := Aside0.mk H
                      clear H
                      go_wp2
                      go_meet
                      case rel => exact ⟨_, (0), (by first | rfl | (simp; done) | (simp [*]; done) | (simp; rfl) | (simp; unfold wrap64; omega)), H', ⟨by have := HJ2.out; have := HJ9.out; have := HJ22.out; have := HK4.out; have := HJ65.out; first | omega | exact Nat.le_refl _⟩, ⟨by (with_reducible repeat (first | refine blk_drewN ?_ _ | refine blk_drew ?_ | refine blk_alloc ?_ _)); exact BK164.out⟩, ⟨by repeat (first | (with_reducible first | exact HB.out | apply below_alloc | apply pw_below_drewN | apply below_drew1 | refine below_set ?_ GE164.out) | exact HB.out)⟩⟩
                    case rest =>
                     clear HC79
                     try clear p1
                     try clear q1
                     try clear hx1
                     try clear qi1
                     try clear p2
                     try clear c3
                     try clear c7
                     try clear c8
                     try clear p8
                     try clear q8
                     try clear hx8
                     try clear qi8
                     try clear p16
                     try clear q16
                     try clear hx16
                     try clear qi16
                     try clear p17
                     try clear q17
                     try clear hx17
                     try clear qi17
                     try clear c37
                     try clear c39
                     try clear c77
                     try clear c77b0
                     try clear c77b1
                     try clear c78
                     try clear c78b0
                     try clear c78b1
                     try clear c80
                     try clear c81
                     try clear c81b0
                     try clear c81b1
                     try clear c82
                     try clear c82b0
                     try clear c82b1
                     try clear c83
                     try clear c83b0
                     try clear c83b1
                     try clear p84
                     try clear q84
                     try clear hx84
                     try clear qi84
                     try clear c85
                     try clear c85b0
                     try clear c85b1
                     try clear c86
                     try clear c86b0
                     try clear c86b1
                     try clear c88
                     try clear hx165_0
                     try clear hx166_0
                     try clear hx167_0
                     try clear hx168_0
                     try clear hx169_0
                     try clear hx170_0
                     try clear p1
                     try clear p16
                     try clear p165
                     try clear p166
                     try clear p167
                     try clear p168
                     try clear p169
                     try clear p170
                     try clear p2
                     try clear p84
                     try clear q1
                     try clear q16
                     try clear q165
                     try clear q166
                     try clear q167
                     try clear q168
                     try clear q169
                     try clear q170
                     try clear q84
                     obtain ⟨kq, x10_78, rfl, HA, HJ78, BK164, HB⟩ := hcut
                     cases kq with
                     | zero => exact absurd HA.out (by simp [spec_ReadRfc822.j6])
                     | succ kj78 =>
                      have H := HA.out
                      clear HA
                      simp only [spec_ReadRfc822.j6] at H
                      replace H := Option.bind_eq_some_iff.mp H
                      obtain ⟨t173, A910, H⟩ := H
                      replace H : (if t173 = true then (if x4_9 ≥ 0 then ((spec_l04Stamp.f kj78 t155 x7_4 t157 t159 t161 t163).bind fun t174 => (if (Int.tmod (wrap64 ((wrap64 (Int.tdiv t174 86400)) + 4)) 7) = x4_9 then ((spec_l04End.f kj78 t155 x7_4 t157 t159 t161 t163 x10_78).bind fun bt175 => (some (bt175.1, bt175.2))) else (some (0, 3)))) else ((spec_l04End.f kj78 t155 x7_4 t157 t159 t161 t163 x10_78).bind fun bt177 => (some (bt177.1, bt177.2)))) else (some (0, 3))) = some (r1, r2) := H
                      have A91 := Aside0.mk A910
                      clear A910
                      by_cases c92 : t173 = true
                      ·subst c92
                       have H1 : (if x4_9 ≥ 0 then ((spec_l04Stamp.f kj78 t155 x7_4 t157 t159 t161 t163).bind fun t174 => (if (Int.tmod (wrap64 ((wrap64 (Int.tdiv t174 86400)) + 4)) 7) = x4_9 then ((spec_l04End.f kj78 t155 x7_4 t157 t159 t161 t163 x10_78).bind fun bt175 => (some (bt175.1, bt175.2))) else (some (0, 3)))) else ((spec_l04End.f kj78 t155 x7_4 t157 t159 t161 t163 x10_78).bind fun bt177 => (some (bt177.1, bt177.2)))) = some (r1, r2) := by rw [if_pos rfl] at H; exact H
                       clear H
                       have H := H1
                       clear H1
                       by_cases c93 : x4_9 ≥ 0
                       ·rw [if_pos c93] at H
                        have c93b0 : decide (0 ≤ x4_9) = true := decide_eq_true c93
                        clear c93
                        replace H := Option.bind_eq_some_iff.mp H
                        obtain ⟨t174, A940, H⟩ := H
                        replace H : (if (Int.tmod (wrap64 ((wrap64 (Int.tdiv t174 86400)) + 4)) 7) = x4_9 then ((spec_l04End.f kj78 t155 x7_4 t157 t159 t161 t163 x10_78).bind fun bt175 => (some (bt175.1, bt175.2))) else (some (0, 3))) = some (r1, r2) := H
                        have A94 := Aside0.mk A940
                        clear A940
                        by_cases c95 : (Int.tmod (wrap64 ((wrap64 (Int.tdiv t174 86400)) + 4)) 7) = x4_9
                        ·rw [if_pos c95] at H
                         have c95b0 : ((Int.tmod (wrap64 ((wrap64 (Int.tdiv t174 86400)) + 4)) 7) == x4_9) = true := beq_iff_eq.mpr c95
                         have c95b1 : ((Int.tmod (wrap64 ((wrap64 (Int.tdiv t174 86400)) + 4)) 7) != x4_9) = false := bne_eq_false_iff_eq.mpr c95
                         clear c95
                         replace H := Option.bind_eq_some_iff.mp H
                         obtain ⟨⟨t175, t176⟩, A960, H⟩ := H
                         replace H : (some (t175, t176)) = some (r1, r2) := H
                         have A96 := Aside0.mk A960
                         clear A960
                         simp only [Option.some.injEq, Prod.mk.injEq] at H
                         obtain ⟨rfl, rfl⟩ := H
                         have hcz97_0 : wc.cell? ⟨gb164, 0, none⟩ = some (.int .i64 t155) := (blk_cell BK164.out 0).trans rfl
                         have hcz97_1 : wc.cell? ⟨gb164, 1, none⟩ = some (.int .i64 x7_4) := (blk_cell BK164.out 1).trans rfl
                         have hcz97_2 : wc.cell? ⟨gb164, 2, none⟩ = some (.int .i64 t157) := (blk_cell BK164.out 2).trans rfl
                         have hcz97_3 : wc.cell? ⟨gb164, 3, none⟩ = some (.int .i64 t159) := (blk_cell BK164.out 3).trans rfl
                         have hcz97_4 : wc.cell? ⟨gb164, 4, none⟩ = some (.int .i64 t161) := (blk_cell BK164.out 4).trans rfl
                         have hcz97_5 : wc.cell? ⟨gb164, 5, none⟩ = some (.int .i64 t163) := (blk_cell BK164.out 5).trans rfl
                         have hfz97_0 := blk_frozen BK164.out 0
                         have hfz97_1 := blk_frozen BK164.out 1
                         have hfz97_2 := blk_frozen BK164.out 2
                         have hfz97_3 := blk_frozen BK164.out 3
                         have hfz97_4 := blk_frozen BK164.out 4
                         have hfz97_5 := blk_frozen BK164.out 5
                         go_wp2_with (first | ((with_reducible refine gate_callee (f := 12) rfl ?_); refine goesL_ (some 155) rfl rfl Try.func12 (by kernel_rfl) rfl #[.agg #[.int .i64 t155, .int .i64 x7_4, .int .i64 t157, .int .i64 t159, .int .i64 t161, .int .i64 t163]] rfl (by (try simp only [List.map_toArray, List.map_cons, List.map_nil]); first | done | rfl | (simp only [List.length_drop, List.length_take]; rfl)) ?_; (with_reducible refine (spec_CivilOK.calls t155 x7_4 t157 t159 t161 t163 true _ A91.out).mono ?_); rintro e w98 ⟨rfl, hb⟩; refine ⟨_, rfl, ?_⟩; have n0_ := Aside0.mk (blk_below (g := gb164) (o := .cells #[.int .i64 t155, .int .i64 x7_4, .int .i64 t157, .int .i64 t159, .int .i64 t161, .int .i64 t163] 28 (0, 0)) (by (with_reducible repeat (first | refine blk_drewN ?_ _ | refine blk_drew ?_ | refine blk_alloc ?_ _)); exact BK164.out) hb); have n1_ := Aside0.mk (below_step (by repeat (first | (with_reducible first | exact HB.out | apply below_alloc | apply pw_below_drewN | apply below_drew1 | refine below_set ?_ GE164.out) | exact HB.out)) hb); clear BK164; clear HB; have BK164 := n0_; have HB := n1_; clear n0_ n1_; (try clear hb); (try clear hb2); (try clear hk); (try clear hi); have hcz99_0 : w98.cell? ⟨gb164, 0, none⟩ = some (.int .i64 t155) := (blk_cell BK164.out 0).trans rfl; have hcz99_1 : w98.cell? ⟨gb164, 1, none⟩ = some (.int .i64 x7_4) := (blk_cell BK164.out 1).trans rfl; have hcz99_2 : w98.cell? ⟨gb164, 2, none⟩ = some (.int .i64 t157) := (blk_cell BK164.out 2).trans rfl; have hcz99_3 : w98.cell? ⟨gb164, 3, none⟩ = some (.int .i64 t159) := (blk_cell BK164.out 3).trans rfl; have hcz99_4 : w98.cell? ⟨gb164, 4, none⟩ = some (.int .i64 t161) := (blk_cell BK164.out 4).trans rfl; have hcz99_5 : w98.cell? ⟨gb164, 5, none⟩ = some (.int .i64 t163) := (blk_cell BK164.out 5).trans rfl; have hfz99_0 := blk_frozen BK164.out 0; have hfz99_1 := blk_frozen BK164.out 1; have hfz99_2 := blk_frozen BK164.out 2; have hfz99_3 := blk_frozen BK164.out 3; have hfz99_4 := blk_frozen BK164.out 4; have hfz99_5 := blk_frozen BK164.out 5) | (go_at_call 31; (with_reducible refine (spec_l04Stamp.calls kj78 t155 x7_4 t157 t159 t161 t163 t174 _ A94.out).mono ?_); rintro e w100 ⟨rfl, hb⟩; have n0_ := Aside0.mk (blk_below (g := gb164) (o := .cells #[.int .i64 t155, .int .i64 x7_4, .int .i64 t157, .int .i64 t159, .int .i64 t161, .int .i64 t163] 28 (0, 0)) (by (with_reducible repeat (first | refine blk_drewN ?_ _ | refine blk_drew ?_ | refine blk_alloc ?_ _)); exact BK164.out) hb); have n1_ := Aside0.mk (below_step (by repeat (first | (with_reducible first | exact HB.out | apply below_alloc | apply pw_below_drewN | apply below_drew1 | refine below_set ?_ GE164.out) | exact HB.out)) hb); clear BK164; clear HB; have BK164 := n0_; have HB := n1_; clear n0_ n1_; (try clear hb); (try clear hb2); (try clear hk); (try clear hi); have hcz101_0 : w100.cell? ⟨gb164, 0, none⟩ = some (.int .i64 t155) := (blk_cell BK164.out 0).trans rfl; have hcz101_1 : w100.cell? ⟨gb164, 1, none⟩ = some (.int .i64 x7_4) := (blk_cell BK164.out 1).trans rfl; have hcz101_2 : w100.cell? ⟨gb164, 2, none⟩ = some (.int .i64 t157) := (blk_cell BK164.out 2).trans rfl; have hcz101_3 : w100.cell? ⟨gb164, 3, none⟩ = some (.int .i64 t159) := (blk_cell BK164.out 3).trans rfl; have hcz101_4 : w100.cell? ⟨gb164, 4, none⟩ = some (.int .i64 t161) := (blk_cell BK164.out 4).trans rfl; have hcz101_5 : w100.cell? ⟨gb164, 5, none⟩ = some (.int .i64 t163) := (blk_cell BK164.out 5).trans rfl; have hfz101_0 := blk_frozen BK164.out 0; have hfz101_1 := blk_frozen BK164.out 1; have hfz101_2 := blk_frozen BK164.out 2; have hfz101_3 := blk_frozen BK164.out 3; have hfz101_4 := blk_frozen BK164.out 4; have hfz101_5 := blk_frozen BK164.out 5) | ((with_reducible refine gate_callee (f := 38) rfl ?_); refine goesL_ (some 172) rfl rfl Try.func38 (by kernel_rfl) rfl #[.agg #[.int .i64 t155, .int .i64 x7_4, .int .i64 t157, .int .i64 t159, .int .i64 t161, .int .i64 t163], .int .i64 x10_78] rfl (by (try simp only [List.map_toArray, List.map_cons, List.map_nil]); first | done | rfl | (simp only [List.length_drop, List.length_take]; rfl)) ?_; (with_reducible refine (spec_l04End.calls kj78 t155 x7_4 t157 t159 t161 t163 x10_78 t175 t176 _ A96.out).mono ?_); rintro e w102 ⟨rfl, hb⟩; refine ⟨_, rfl, ?_⟩; have n0_ := Aside0.mk (blk_below (g := gb164) (o := .cells #[.int .i64 t155, .int .i64 x7_4, .int .i64 t157, .int .i64 t159, .int .i64 t161, .int .i64 t163] 28 (0, 0)) (by (with_reducible repeat (first | refine blk_drewN ?_ _ | refine blk_drew ?_ | refine blk_alloc ?_ _)); exact BK164.out) hb); have n1_ := Aside0.mk (below_step (by repeat (first | (with_reducible first | exact HB.out | apply below_alloc | apply pw_below_drewN | apply below_drew1 | refine below_set ?_ GE164.out) | exact HB.out)) hb); clear BK164; clear HB; have BK164 := n0_; have HB := n1_; clear n0_ n1_; (try clear hb); (try clear hb2); (try clear hk); (try clear hi)))
                         go_ret2
                         exact ⟨by first | rfl | (simp [errW_none, errW_some] <;> rfl) | (simp [*, errW_none, errW_some] <;> rfl), by repeat (first | (with_reducible first | exact HB.out | apply below_alloc | apply pw_below_drewN | apply below_drew1 | refine below_set ?_ GE164.out) | exact HB.out)⟩
                        ·rw [if_neg c95] at H
                         have c95b0 : ((Int.tmod (wrap64 ((wrap64 (Int.tdiv t174 86400)) + 4)) 7) == x4_9) = false := beq_eq_false_iff_ne.mpr c95
                         have c95b1 : ((Int.tmod (wrap64 ((wrap64 (Int.tdiv t174 86400)) + 4)) 7) != x4_9) = true := bne_iff_ne.mpr c95
                         simp only [Option.some.injEq, Prod.mk.injEq] at H
                         obtain ⟨rfl, rfl⟩ := H
                         have hcz103_0 : wc.cell? ⟨gb164, 0, none⟩ = some (.int .i64 t155) := (blk_cell BK164.out 0).trans rfl
                         have hcz103_1 : wc.cell? ⟨gb164, 1, none⟩ = some (.int .i64 x7_4) := (blk_cell BK164.out 1).trans rfl
                         have hcz103_2 : wc.cell? ⟨gb164, 2, none⟩ = some (.int .i64 t157) := (blk_cell BK164.out 2).trans rfl
                         have hcz103_3 : wc.cell? ⟨gb164, 3, none⟩ = some (.int .i64 t159) := (blk_cell BK164.out 3).trans rfl
                         have hcz103_4 : wc.cell? ⟨gb164, 4, none⟩ = some (.int .i64 t161) := (blk_cell BK164.out 4).trans rfl
                         have hcz103_5 : wc.cell? ⟨gb164, 5, none⟩ = some (.int .i64 t163) := (blk_cell BK164.out 5).trans rfl
                         have hfz103_0 := blk_frozen BK164.out 0
                         have hfz103_1 := blk_frozen BK164.out 1
                         have hfz103_2 := blk_frozen BK164.out 2
                         have hfz103_3 := blk_frozen BK164.out 3
                         have hfz103_4 := blk_frozen BK164.out 4
                         have hfz103_5 := blk_frozen BK164.out 5
                         go_wp2_with (first | ((with_reducible refine gate_callee (f := 12) rfl ?_); refine goesL_ (some 155) rfl rfl Try.func12 (by kernel_rfl) rfl #[.agg #[.int .i64 t155, .int .i64 x7_4, .int .i64 t157, .int .i64 t159, .int .i64 t161, .int .i64 t163]] rfl (by (try simp only [List.map_toArray, List.map_cons, List.map_nil]); first | done | rfl | (simp only [List.length_drop, List.length_take]; rfl)) ?_; (with_reducible refine (spec_CivilOK.calls t155 x7_4 t157 t159 t161 t163 true _ A91.out).mono ?_); rintro e w104 ⟨rfl, hb⟩; refine ⟨_, rfl, ?_⟩; have n0_ := Aside0.mk (blk_below (g := gb164) (o := .cells #[.int .i64 t155, .int .i64 x7_4, .int .i64 t157, .int .i64 t159, .int .i64 t161, .int .i64 t163] 28 (0, 0)) (by (with_reducible repeat (first | refine blk_drewN ?_ _ | refine blk_drew ?_ | refine blk_alloc ?_ _)); exact BK164.out) hb); have n1_ := Aside0.mk (below_step (by repeat (first | (with_reducible first | exact HB.out | apply below_alloc | apply pw_below_drewN | apply below_drew1 | refine below_set ?_ GE164.out) | exact HB.out)) hb); clear BK164; clear HB; have BK164 := n0_; have HB := n1_; clear n0_ n1_; (try clear hb); (try clear hb2); (try clear hk); (try clear hi); have hcz105_0 : w104.cell? ⟨gb164, 0, none⟩ = some (.int .i64 t155) := (blk_cell BK164.out 0).trans rfl; have hcz105_1 : w104.cell? ⟨gb164, 1, none⟩ = some (.int .i64 x7_4) := (blk_cell BK164.out 1).trans rfl; have hcz105_2 : w104.cell? ⟨gb164, 2, none⟩ = some (.int .i64 t157) := (blk_cell BK164.out 2).trans rfl; have hcz105_3 : w104.cell? ⟨gb164, 3, none⟩ = some (.int .i64 t159) := (blk_cell BK164.out 3).trans rfl; have hcz105_4 : w104.cell? ⟨gb164, 4, none⟩ = some (.int .i64 t161) := (blk_cell BK164.out 4).trans rfl; have hcz105_5 : w104.cell? ⟨gb164, 5, none⟩ = some (.int .i64 t163) := (blk_cell BK164.out 5).trans rfl; have hfz105_0 := blk_frozen BK164.out 0; have hfz105_1 := blk_frozen BK164.out 1; have hfz105_2 := blk_frozen BK164.out 2; have hfz105_3 := blk_frozen BK164.out 3; have hfz105_4 := blk_frozen BK164.out 4; have hfz105_5 := blk_frozen BK164.out 5) | (go_at_call 31; (with_reducible refine (spec_l04Stamp.calls kj78 t155 x7_4 t157 t159 t161 t163 t174 _ A94.out).mono ?_); rintro e w106 ⟨rfl, hb⟩; have n0_ := Aside0.mk (blk_below (g := gb164) (o := .cells #[.int .i64 t155, .int .i64 x7_4, .int .i64 t157, .int .i64 t159, .int .i64 t161, .int .i64 t163] 28 (0, 0)) (by (with_reducible repeat (first | refine blk_drewN ?_ _ | refine blk_drew ?_ | refine blk_alloc ?_ _)); exact BK164.out) hb); have n1_ := Aside0.mk (below_step (by repeat (first | (with_reducible first | exact HB.out | apply below_alloc | apply pw_below_drewN | apply below_drew1 | refine below_set ?_ GE164.out) | exact HB.out)) hb); clear BK164; clear HB; have BK164 := n0_; have HB := n1_; clear n0_ n1_; (try clear hb); (try clear hb2); (try clear hk); (try clear hi)))
                         go_ret2
                         exact ⟨by first | rfl | (simp [errW_none, errW_some] <;> rfl) | (simp [*, errW_none, errW_some] <;> rfl), by repeat (first | (with_reducible first | exact HB.out | apply below_alloc | apply pw_below_drewN | apply below_drew1 | refine below_set ?_ GE164.out) | exact HB.out)⟩
                       ·rw [if_neg c93] at H
                        have c93b0 : decide (0 ≤ x4_9) = false := decide_eq_false c93
                        clear c93
                        replace H := Option.bind_eq_some_iff.mp H
                        obtain ⟨⟨t177, t178⟩, A1070, H⟩ := H
                        replace H : (some (t177, t178)) = some (r1, r2) := H
                        have A107 := Aside0.mk A1070
                        clear A1070
                        simp only [Option.some.injEq, Prod.mk.injEq] at H
                        obtain ⟨rfl, rfl⟩ := H
                        have hcz108_0 : wc.cell? ⟨gb164, 0, none⟩ = some (.int .i64 t155) := (blk_cell BK164.out 0).trans rfl
                        have hcz108_1 : wc.cell? ⟨gb164, 1, none⟩ = some (.int .i64 x7_4) := (blk_cell BK164.out 1).trans rfl
                        have hcz108_2 : wc.cell? ⟨gb164, 2, none⟩ = some (.int .i64 t157) := (blk_cell BK164.out 2).trans rfl
                        have hcz108_3 : wc.cell? ⟨gb164, 3, none⟩ = some (.int .i64 t159) := (blk_cell BK164.out 3).trans rfl
                        have hcz108_4 : wc.cell? ⟨gb164, 4, none⟩ = some (.int .i64 t161) := (blk_cell BK164.out 4).trans rfl
                        have hcz108_5 : wc.cell? ⟨gb164, 5, none⟩ = some (.int .i64 t163) := (blk_cell BK164.out 5).trans rfl
                        have hfz108_0 := blk_frozen BK164.out 0
                        have hfz108_1 := blk_frozen BK164.out 1
                        have hfz108_2 := blk_frozen BK164.out 2
                        have hfz108_3 := blk_frozen BK164.out 3
                        have hfz108_4 := blk_frozen BK164.out 4
                        have hfz108_5 := blk_frozen BK164.out 5
                        go_wp2_with (first | ((with_reducible refine gate_callee (f := 12) rfl ?_); refine goesL_ (some 155) rfl rfl Try.func12 (by kernel_rfl) rfl #[.agg #[.int .i64 t155, .int .i64 x7_4, .int .i64 t157, .int .i64 t159, .int .i64 t161, .int .i64 t163]] rfl (by (try simp only [List.map_toArray, List.map_cons, List.map_nil]); first | done | rfl | (simp only [List.length_drop, List.length_take]; rfl)) ?_; (with_reducible refine (spec_CivilOK.calls t155 x7_4 t157 t159 t161 t163 true _ A91.out).mono ?_); rintro e w109 ⟨rfl, hb⟩; refine ⟨_, rfl, ?_⟩; have n0_ := Aside0.mk (blk_below (g := gb164) (o := .cells #[.int .i64 t155, .int .i64 x7_4, .int .i64 t157, .int .i64 t159, .int .i64 t161, .int .i64 t163] 28 (0, 0)) (by (with_reducible repeat (first | refine blk_drewN ?_ _ | refine blk_drew ?_ | refine blk_alloc ?_ _)); exact BK164.out) hb); have n1_ := Aside0.mk (below_step (by repeat (first | (with_reducible first | exact HB.out | apply below_alloc | apply pw_below_drewN | apply below_drew1 | refine below_set ?_ GE164.out) | exact HB.out)) hb); clear BK164; clear HB; have BK164 := n0_; have HB := n1_; clear n0_ n1_; (try clear hb); (try clear hb2); (try clear hk); (try clear hi); have hcz110_0 : w109.cell? ⟨gb164, 0, none⟩ = some (.int .i64 t155) := (blk_cell BK164.out 0).trans rfl; have hcz110_1 : w109.cell? ⟨gb164, 1, none⟩ = some (.int .i64 x7_4) := (blk_cell BK164.out 1).trans rfl; have hcz110_2 : w109.cell? ⟨gb164, 2, none⟩ = some (.int .i64 t157) := (blk_cell BK164.out 2).trans rfl; have hcz110_3 : w109.cell? ⟨gb164, 3, none⟩ = some (.int .i64 t159) := (blk_cell BK164.out 3).trans rfl; have hcz110_4 : w109.cell? ⟨gb164, 4, none⟩ = some (.int .i64 t161) := (blk_cell BK164.out 4).trans rfl; have hcz110_5 : w109.cell? ⟨gb164, 5, none⟩ = some (.int .i64 t163) := (blk_cell BK164.out 5).trans rfl; have hfz110_0 := blk_frozen BK164.out 0; have hfz110_1 := blk_frozen BK164.out 1; have hfz110_2 := blk_frozen BK164.out 2; have hfz110_3 := blk_frozen BK164.out 3; have hfz110_4 := blk_frozen BK164.out 4; have hfz110_5 := blk_frozen BK164.out 5) | ((with_reducible refine gate_callee (f := 38) rfl ?_); refine goesL_ (some 172) rfl rfl Try.func38 (by kernel_rfl) rfl #[.agg #[.int .i64 t155, .int .i64 x7_4, .int .i64 t157, .int .i64 t159, .int .i64 t161, .int .i64 t163], .int .i64 x10_78] rfl (by (try simp only [List.map_toArray, List.map_cons, List.map_nil]); first | done | rfl | (simp only [List.length_drop, List.length_take]; rfl)) ?_; (with_reducible refine (spec_l04End.calls kj78 t155 x7_4 t157 t159 t161 t163 x10_78 t177 t178 _ A107.out).mono ?_); rintro e w111 ⟨rfl, hb⟩; refine ⟨_, rfl, ?_⟩; have n0_ := Aside0.mk (blk_below (g := gb164) (o := .cells #[.int .i64 t155, .int .i64 x7_4, .int .i64 t157, .int .i64 t159, .int .i64 t161, .int .i64 t163] 28 (0, 0)) (by (with_reducible repeat (first | refine blk_drewN ?_ _ | refine blk_drew ?_ | refine blk_alloc ?_ _)); exact BK164.out) hb); have n1_ := Aside0.mk (below_step (by repeat (first | (with_reducible first | exact HB.out | apply below_alloc | apply pw_below_drewN | apply below_drew1 | refine below_set ?_ GE164.out) | exact HB.out)) hb); clear BK164; clear HB; have BK164 := n0_; have HB := n1_; clear n0_ n1_; (try clear hb); (try clear hb2); (try clear hk); (try clear hi)))
                        go_ret2
                        exact ⟨by first | rfl | (simp [errW_none, errW_some] <;> rfl) | (simp [*, errW_none, errW_some] <;> rfl), by repeat (first | (with_reducible first | exact HB.out | apply below_alloc | apply pw_below_drewN | apply below_drew1 | refine below_set ?_ GE164.out) | exact HB.out)⟩
                      ·replace c92 := Bool.eq_false_iff.mpr c92
                       subst c92
                       have H1 : (some (0, 3)) = some (r1, r2) := by rw [if_neg (show ¬ (false = true) by decide)] at H; exact H
                       clear H
                       have H := H1
                       clear H1
                       simp only [Option.some.injEq, Prod.mk.injEq] at H
                       obtain ⟨rfl, rfl⟩ := H
                       have hcz112_0 : wc.cell? ⟨gb164, 0, none⟩ = some (.int .i64 t155) := (blk_cell BK164.out 0).trans rfl
                       have hcz112_1 : wc.cell? ⟨gb164, 1, none⟩ = some (.int .i64 x7_4) := (blk_cell BK164.out 1).trans rfl
                       have hcz112_2 : wc.cell? ⟨gb164, 2, none⟩ = some (.int .i64 t157) := (blk_cell BK164.out 2).trans rfl
                       have hcz112_3 : wc.cell? ⟨gb164, 3, none⟩ = some (.int .i64 t159) := (blk_cell BK164.out 3).trans rfl
                       have hcz112_4 : wc.cell? ⟨gb164, 4, none⟩ = some (.int .i64 t161) := (blk_cell BK164.out 4).trans rfl
                       have hcz112_5 : wc.cell? ⟨gb164, 5, none⟩ = some (.int .i64 t163) := (blk_cell BK164.out 5).trans rfl
                       have hfz112_0 := blk_frozen BK164.out 0
                       have hfz112_1 := blk_frozen BK164.out 1
                       have hfz112_2 := blk_frozen BK164.out 2
                       have hfz112_3 := blk_frozen BK164.out 3
                       have hfz112_4 := blk_frozen BK164.out 4
                       have hfz112_5 := blk_frozen BK164.out 5
                       go_wp2_with (first | ((with_reducible refine gate_callee (f := 12) rfl ?_); refine goesL_ (some 155) rfl rfl Try.func12 (by kernel_rfl) rfl #[.agg #[.int .i64 t155, .int .i64 x7_4, .int .i64 t157, .int .i64 t159, .int .i64 t161, .int .i64 t163]] rfl (by (try simp only [List.map_toArray, List.map_cons, List.map_nil]); first | done | rfl | (simp only [List.length_drop, List.length_take]; rfl)) ?_; (with_reducible refine (spec_CivilOK.calls t155 x7_4 t157 t159 t161 t163 false _ A91.out).mono ?_); rintro e w113 ⟨rfl, hb⟩; refine ⟨_, rfl, ?_⟩; have n0_ := Aside0.mk (blk_below (g := gb164) (o := .cells #[.int .i64 t155, .int .i64 x7_4, .int .i64 t157, .int .i64 t159, .int .i64 t161, .int .i64 t163] 28 (0, 0)) (by (with_reducible repeat (first | refine blk_drewN ?_ _ | refine blk_drew ?_ | refine blk_alloc ?_ _)); exact BK164.out) hb); have n1_ := Aside0.mk (below_step (by repeat (first | (with_reducible first | exact HB.out | apply below_alloc | apply pw_below_drewN | apply below_drew1 | refine below_set ?_ GE164.out) | exact HB.out)) hb); clear BK164; clear HB; have BK164 := n0_; have HB := n1_; clear n0_ n1_; (try clear hb); (try clear hb2); (try clear hk); (try clear hi)))
                       go_ret2
                       exact ⟨by first | rfl | (simp [errW_none, errW_some] <;> rfl) | (simp [*, errW_none, errW_some] <;> rfl), by repeat (first | (with_reducible first | exact HB.out | apply below_alloc | apply pw_below_drewN | apply below_drew1 | refine below_set ?_ GE164.out) | exact HB.out)⟩
                 ·rw [if_neg c64] at H
                  exact absurd H (by simp)
                ·rw [if_neg c62] at H
                 exact absurd H (by simp)
               ·rw [if_neg c60] at H
                exact absurd H (by simp)
              ·rw [if_neg c59] at H
               exact absurd H (by simp)
             ·rw [if_neg c57] at H
              exact absurd H (by simp)
            ·rw [if_neg c55] at H
             exact absurd H (by simp)

end Go.Proofs.Ytccnidlkpinpgaa.QFnExactReadRfc822
