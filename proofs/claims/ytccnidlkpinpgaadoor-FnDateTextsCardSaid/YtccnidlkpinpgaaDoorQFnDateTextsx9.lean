/- Printed by a program of this session's own (wip/myprint.py): the functions that FnDateTexts reaches as plain Lean functions, and that Go's calls do what they say. Conditions: as each theorem states. -/
import Derived.Test.YtccnidlkpinpgaaDoorQFnDateTextsx0
import Derived.Test.YtccnidlkpinpgaaDoorQFnDateTextsx2
import Derived.Test.YtccnidlkpinpgaaDoorQFnDateTextsx3
import Derived.Test.YtccnidlkpinpgaaDoorQFnDateTextsx4
import Derived.Test.YtccnidlkpinpgaaDoorQFnDateTextsx5
import Derived.Test.YtccnidlkpinpgaaDoorQFnDateTextsx6
import Derived.Test.YtccnidlkpinpgaaDoorQFnDateTextsx8
namespace Go.Proofs.YtccnidlkpinpgaaDoor.QFnDateTexts
open Go.RowKit Go.Proofs.YtccnidlkpinpgaaDoorW.PrintWords Go.Proofs.YtccnidlkpinpgaaDoorW.PrintLast Go.Proofs.YtccnidlkpinpgaaDoorW.PrintMore
attribute [local go_sem] max2_int min2_int max_two min_two max_three min_three max_four min_four   -- for this text's walks alone
set_option linter.unusedVariables false
set_option linter.unusedSimpArgs false

/-! ### laws_FnDateTexts: function 5 -/
mutual
noncomputable def laws_FnDateTexts.j0 : Nat → List Int → List Int → Bool → Option (Bool)
  | 0, _, _, _ => none
  | k + 1, x0, x1, x31 => if x31 = true then (some true) else ((spec_StampOf2.f x0).bind fun t295 => ((impl_Rfc3339Text.f k t295).bind fun bt296 => ((impl_Rfc822Text.f k t295).bind fun bt298 => ((spec_Rfc3339Text.f k t295).bind fun bt300 => ((spec_Rfc822Text.f k t295).bind fun bt302 => ((impl_ReadRfc3339.f bt296.1).bind fun bt304 => ((impl_ReadRfc822.f bt298.1).bind fun bt306 => (if bt296.2 = 0 then (if bt298.2 = 0 then (if bt296.1.toList = bt300.1.toList then (if bt298.1.toList = bt302.1.toList then (if bt304.2 = 0 then (if bt304.1 = t295 then (if bt306.2 = 0 then (laws_FnDateTexts.j1 k x1 t295 (bt306.1 != t295)) else (laws_FnDateTexts.j1 k x1 t295 true)) else (laws_FnDateTexts.j1 k x1 t295 true)) else (laws_FnDateTexts.j1 k x1 t295 true)) else (laws_FnDateTexts.j1 k x1 t295 true)) else (laws_FnDateTexts.j1 k x1 t295 true)) else (laws_FnDateTexts.j1 k x1 t295 true)) else (laws_FnDateTexts.j1 k x1 t295 true)))))))))
noncomputable def laws_FnDateTexts.j1 : Nat → List Int → Int → Bool → Option (Bool)
  | 0, _, _, _ => none
  | k + 1, x1, x5, x97 => if x97 = true then (some false) else ((laws_at.f x1 0 13).bind fun t308 => (if (wrap64 (x5 + (wrap64 (t308 * 3600)))) > 4102444799 then (some true) else ((impl_Rfc3339Text.f k (wrap64 (x5 + (wrap64 (t308 * 3600))))).bind fun bt309 => ((some (([43, (wrap64 (48 + (wrap64 (Int.tdiv t308 10)))) % 256, (wrap64 (48 + (Int.tmod t308 10))) % 256, 58, 48, 48] : List Int) : List Int)).bind fun y311 => (if 0 ≤ (mx 0 (wrap64 ((bt309.1.size : Int) - 1))) then (if (mx 0 (wrap64 ((bt309.1.size : Int) - 1))) ≤ (bt309.1.size : Int) then (if (bt309.1.extract 0 ((mx 0 (wrap64 ((bt309.1.size : Int) - 1))) : Int).toNat).size + (strOfNums y311).size ≤ 9223372036854775807 then ((impl_ReadRfc3339.f ((bt309.1.extract 0 ((mx 0 (wrap64 ((bt309.1.size : Int) - 1))) : Int).toNat) ++ (strOfNums y311))).bind fun bt314 => (if bt309.2 = 0 then (if bt314.2 = 0 then (some (bt314.1 == x5)) else (some false)) else (some false))) else (none)) else (none)) else (none))))))
end
noncomputable def laws_FnDateTexts.f (k : Nat) (l0 : List Int) (l1 : List Int) : Option (Bool) := if (l0.length : Int) > 1048576 then (laws_FnDateTexts.j0 k l0 l1 true) else (laws_FnDateTexts.j0 k l0 l1 (decide ((l1.length : Int) > 1048576)))
theorem laws_FnDateTexts.mono_l : ∀ k, (∀ y0 y1 y2, LeO (laws_FnDateTexts.j0 k y0 y1 y2) (laws_FnDateTexts.j0 (k + 1) y0 y1 y2)) ∧ (∀ y0 y1 y2, LeO (laws_FnDateTexts.j1 k y0 y1 y2) (laws_FnDateTexts.j1 (k + 1) y0 y1 y2))
  | 0 => ⟨fun _ _ _ r h => by simp [laws_FnDateTexts.j0] at h, fun _ _ _ r h => by simp [laws_FnDateTexts.j1] at h⟩
  | k + 1 => by
    obtain ⟨ih0, ih1⟩ := laws_FnDateTexts.mono_l k
    refine ⟨?_, ?_⟩
    · intro y0 y1 y2
      unfold laws_FnDateTexts.j0
      repeat' first
      | (with_reducible exact ih0 _ _ _)
      | (with_reducible exact ih1 _ _ _)
      | (with_reducible exact impl_Rfc3339Text.mono _ _)
      | (with_reducible exact impl_Rfc822Text.mono _ _)
      | (with_reducible exact spec_Rfc3339Text.mono _ _)
      | (with_reducible exact spec_Rfc822Text.mono _ _)
      | (with_reducible exact LeO.refl _)
      | (with_reducible exact LeO.none _)
      | (with_reducible refine LeO.ite ?_ ?_)
      | (with_reducible refine LeO.bind ?_ (fun _ => ?_))
      | exact ih0 _ _ _
      | exact ih1 _ _ _
      | exact impl_Rfc3339Text.mono _ _
      | exact impl_Rfc822Text.mono _ _
      | exact spec_Rfc3339Text.mono _ _
      | exact spec_Rfc822Text.mono _ _
      | exact LeO.none _
      | refine LeO.ite ?_ ?_
      | refine LeO.bind ?_ (fun _ => ?_)
    · intro y0 y1 y2
      unfold laws_FnDateTexts.j1
      repeat' first
      | (with_reducible exact ih0 _ _ _)
      | (with_reducible exact ih1 _ _ _)
      | (with_reducible exact impl_Rfc3339Text.mono _ _)
      | (with_reducible exact impl_Rfc822Text.mono _ _)
      | (with_reducible exact spec_Rfc3339Text.mono _ _)
      | (with_reducible exact spec_Rfc822Text.mono _ _)
      | (with_reducible exact LeO.refl _)
      | (with_reducible exact LeO.none _)
      | (with_reducible refine LeO.ite ?_ ?_)
      | (with_reducible refine LeO.bind ?_ (fun _ => ?_))
      | exact ih0 _ _ _
      | exact ih1 _ _ _
      | exact impl_Rfc3339Text.mono _ _
      | exact impl_Rfc822Text.mono _ _
      | exact spec_Rfc3339Text.mono _ _
      | exact spec_Rfc822Text.mono _ _
      | exact LeO.none _
      | refine LeO.ite ?_ ?_
      | refine LeO.bind ?_ (fun _ => ?_)
theorem laws_FnDateTexts.mono : ∀ a0 a1 k, LeO (laws_FnDateTexts.f k a0 a1) (laws_FnDateTexts.f (k + 1) a0 a1) := by
  intro a0 a1 k
  obtain ⟨ih0, ih1⟩ := laws_FnDateTexts.mono_l k
  unfold laws_FnDateTexts.f
  repeat' first
      | (with_reducible exact ih0 _ _ _)
      | (with_reducible exact ih1 _ _ _)
      | (with_reducible exact impl_Rfc3339Text.mono _ _)
      | (with_reducible exact impl_Rfc822Text.mono _ _)
      | (with_reducible exact spec_Rfc3339Text.mono _ _)
      | (with_reducible exact spec_Rfc822Text.mono _ _)
      | (with_reducible exact LeO.refl _)
      | (with_reducible exact LeO.none _)
      | (with_reducible refine LeO.ite ?_ ?_)
      | (with_reducible refine LeO.bind ?_ (fun _ => ?_))
      | exact ih0 _ _ _
      | exact ih1 _ _ _
      | exact impl_Rfc3339Text.mono _ _
      | exact impl_Rfc822Text.mono _ _
      | exact spec_Rfc3339Text.mono _ _
      | exact spec_Rfc822Text.mono _ _
      | exact LeO.none _
      | refine LeO.ite ?_ ?_
      | refine LeO.bind ?_ (fun _ => ?_)
set_option maxHeartbeats 8000000 in
set_option maxRecDepth 100000 in
theorem laws_FnDateTexts.calls (k : Nat) (A0 : Option Addr) (c0 : Nat) (l0 : List Int) (A1 : Option Addr) (c1 : Nat) (l1 : List Int) (r : Bool) (w : World) (hr0 : Kd.C (Kd.int .u8) w A0 l0.length l0) (hc0 : l0.length ≤ c0) (hr1 : Kd.C (Kd.int .u8) w A1 l1.length l1) (hc1 : l1.length ≤ c1) (h : laws_FnDateTexts.f k l0 l1 = some r) (hG : Glob w) :
    Calls Tryd.prog 5 #[.slice A0 l0.length c0, .slice A1 l1.length c1] w fun e w' => e = .returned (.bool r) ∧ Below w.heap.size w w' := by
  have HG := Aside0.mk hG
  clear hG
  have HR0 := Aside0.mk hr0
  have HC0 := Aside0.mk hc0
  clear hr0 hc0
  have HR1 := Aside0.mk hr1
  have HC1 := Aside0.mk hc1
  clear hr1 hc1
  have HB := Aside0.mk (Below.refl w.heap.size w)
  have H : (if (l0.length : Int) > 1048576 then (laws_FnDateTexts.j0 k l0 l1 true) else (laws_FnDateTexts.j0 k l0 l1 (decide ((l1.length : Int) > 1048576)))) = some r := h
  clear h
  have HC3 := Aside0.mk H
  clear H
  go_enter Tryd.func5, Tryd.ntmps5
  go_upto_region 1 with (fail)
  go_cut [31] (fun v31 wc => ∃ (kq : Nat) (x31_2 : Bool), v31 = .bool x31_2 ∧ Aside0 (laws_FnDateTexts.j0 kq l0 l1 x31_2 = some r) ∧ Aside0 (kq ≤ k) ∧ Aside0 (Below w.heap.size w wc))
  case first =>
    have H := HC3.out
    clear HC3
    by_cases c4 : (l0.length : Int) > 1048576
    · rw [if_pos c4] at H
      have c4b0 : decide (1048576 < (l0.length : Int)) = true := decide_eq_true c4
      have c4b1 : decide (1048576 < l0.length) = true := decide_eq_true (by omega)
      clear c4
      (first | rw [c4b0] | (simp only [i64_w, i32_w]; rw [c4b0]) | skip)
      have H' := Aside0.mk H
      clear H
      go_wp2
      go_meet
      case rel => exact ⟨_, (true), (by first | rfl | (simp; done) | (simp [*]; done) | (simp; rfl) | (simp; unfold wrap64; omega)), H', ⟨by first | omega | exact Nat.le_refl _⟩, ⟨by repeat (first | (with_reducible first | exact HB.out | apply below_alloc | apply pw_below_drewN | apply below_drew1) | exact HB.out)⟩⟩
    · rw [if_neg c4] at H
      have c4b0 : decide (1048576 < (l0.length : Int)) = false := decide_eq_false c4
      have c4b1 : decide (1048576 < l0.length) = false := decide_eq_false (by omega)
      clear c4
      (first | rw [c4b0] | (simp only [i64_w, i32_w]; rw [c4b0]) | skip)
      have H' := Aside0.mk H
      clear H
      go_wp2
      go_meet
      case rel => exact ⟨_, (decide ((l1.length : Int) > 1048576)), (by first | rfl | (simp; done) | (simp [*]; done) | (simp; rfl) | (simp; unfold wrap64; omega)), H', ⟨by first | omega | exact Nat.le_refl _⟩, ⟨by repeat (first | (with_reducible first | exact HB.out | apply below_alloc | apply pw_below_drewN | apply below_drew1) | exact HB.out)⟩⟩
  case rest =>
    clear HC3
    try clear c1
    try clear p2
    try clear c4
    try clear c4b0
    try clear c4b1
    obtain ⟨kq, x31_2, rfl, HA, HJ2, HB⟩ := hcut
    cases kq with
    | zero => exact absurd HA.out (by simp [laws_FnDateTexts.j0])
    | succ kj2 =>
      have H := HA.out
      clear HA
      simp only [laws_FnDateTexts.j0] at H
      by_cases c5 : x31_2 = true
      · subst c5
        have H1 : (some true) = some r := by rw [if_pos rfl] at H; exact H
        clear H
        have H := H1
        clear H1
        obtain rfl := Option.some.inj H
        go_wp2
        go_ret
        exact ⟨by first | rfl | (simp [errW_none, errW_some] <;> rfl) | (simp [*, errW_none, errW_some] <;> rfl), by repeat (first | (with_reducible first | exact HB.out | apply below_alloc | apply pw_below_drewN | apply below_drew1) | exact HB.out)⟩
      · replace c5 := Bool.eq_false_iff.mpr c5
        subst c5
        have H1 : ((spec_StampOf2.f l0).bind fun t295 => ((impl_Rfc3339Text.f kj2 t295).bind fun bt296 => ((impl_Rfc822Text.f kj2 t295).bind fun bt298 => ((spec_Rfc3339Text.f kj2 t295).bind fun bt300 => ((spec_Rfc822Text.f kj2 t295).bind fun bt302 => ((impl_ReadRfc3339.f bt296.1).bind fun bt304 => ((impl_ReadRfc822.f bt298.1).bind fun bt306 => (if bt296.2 = 0 then (if bt298.2 = 0 then (if bt296.1.toList = bt300.1.toList then (if bt298.1.toList = bt302.1.toList then (if bt304.2 = 0 then (if bt304.1 = t295 then (if bt306.2 = 0 then (laws_FnDateTexts.j1 kj2 l1 t295 (bt306.1 != t295)) else (laws_FnDateTexts.j1 kj2 l1 t295 true)) else (laws_FnDateTexts.j1 kj2 l1 t295 true)) else (laws_FnDateTexts.j1 kj2 l1 t295 true)) else (laws_FnDateTexts.j1 kj2 l1 t295 true)) else (laws_FnDateTexts.j1 kj2 l1 t295 true)) else (laws_FnDateTexts.j1 kj2 l1 t295 true)) else (laws_FnDateTexts.j1 kj2 l1 t295 true))))))))) = some r := by rw [if_neg (show ¬ (false = true) by decide)] at H; exact H
        clear H
        have H := H1
        clear H1
        replace H := Option.bind_eq_some_iff.mp H
        obtain ⟨t295, A60, H⟩ := H
        replace H : ((impl_Rfc3339Text.f kj2 t295).bind fun bt296 => ((impl_Rfc822Text.f kj2 t295).bind fun bt298 => ((spec_Rfc3339Text.f kj2 t295).bind fun bt300 => ((spec_Rfc822Text.f kj2 t295).bind fun bt302 => ((impl_ReadRfc3339.f bt296.1).bind fun bt304 => ((impl_ReadRfc822.f bt298.1).bind fun bt306 => (if bt296.2 = 0 then (if bt298.2 = 0 then (if bt296.1.toList = bt300.1.toList then (if bt298.1.toList = bt302.1.toList then (if bt304.2 = 0 then (if bt304.1 = t295 then (if bt306.2 = 0 then (laws_FnDateTexts.j1 kj2 l1 t295 (bt306.1 != t295)) else (laws_FnDateTexts.j1 kj2 l1 t295 true)) else (laws_FnDateTexts.j1 kj2 l1 t295 true)) else (laws_FnDateTexts.j1 kj2 l1 t295 true)) else (laws_FnDateTexts.j1 kj2 l1 t295 true)) else (laws_FnDateTexts.j1 kj2 l1 t295 true)) else (laws_FnDateTexts.j1 kj2 l1 t295 true)) else (laws_FnDateTexts.j1 kj2 l1 t295 true)))))))) = some r := H
        have A6 := Aside0.mk A60
        clear A60
        replace H := Option.bind_eq_some_iff.mp H
        obtain ⟨⟨t296, t297⟩, A70, H⟩ := H
        replace H : ((impl_Rfc822Text.f kj2 t295).bind fun bt298 => ((spec_Rfc3339Text.f kj2 t295).bind fun bt300 => ((spec_Rfc822Text.f kj2 t295).bind fun bt302 => ((impl_ReadRfc3339.f t296).bind fun bt304 => ((impl_ReadRfc822.f bt298.1).bind fun bt306 => (if t297 = 0 then (if bt298.2 = 0 then (if t296.toList = bt300.1.toList then (if bt298.1.toList = bt302.1.toList then (if bt304.2 = 0 then (if bt304.1 = t295 then (if bt306.2 = 0 then (laws_FnDateTexts.j1 kj2 l1 t295 (bt306.1 != t295)) else (laws_FnDateTexts.j1 kj2 l1 t295 true)) else (laws_FnDateTexts.j1 kj2 l1 t295 true)) else (laws_FnDateTexts.j1 kj2 l1 t295 true)) else (laws_FnDateTexts.j1 kj2 l1 t295 true)) else (laws_FnDateTexts.j1 kj2 l1 t295 true)) else (laws_FnDateTexts.j1 kj2 l1 t295 true)) else (laws_FnDateTexts.j1 kj2 l1 t295 true))))))) = some r := H
        have A7 := Aside0.mk A70
        clear A70
        replace H := Option.bind_eq_some_iff.mp H
        obtain ⟨⟨t298, t299⟩, A80, H⟩ := H
        replace H : ((spec_Rfc3339Text.f kj2 t295).bind fun bt300 => ((spec_Rfc822Text.f kj2 t295).bind fun bt302 => ((impl_ReadRfc3339.f t296).bind fun bt304 => ((impl_ReadRfc822.f t298).bind fun bt306 => (if t297 = 0 then (if t299 = 0 then (if t296.toList = bt300.1.toList then (if t298.toList = bt302.1.toList then (if bt304.2 = 0 then (if bt304.1 = t295 then (if bt306.2 = 0 then (laws_FnDateTexts.j1 kj2 l1 t295 (bt306.1 != t295)) else (laws_FnDateTexts.j1 kj2 l1 t295 true)) else (laws_FnDateTexts.j1 kj2 l1 t295 true)) else (laws_FnDateTexts.j1 kj2 l1 t295 true)) else (laws_FnDateTexts.j1 kj2 l1 t295 true)) else (laws_FnDateTexts.j1 kj2 l1 t295 true)) else (laws_FnDateTexts.j1 kj2 l1 t295 true)) else (laws_FnDateTexts.j1 kj2 l1 t295 true)))))) = some r := H
        have A8 := Aside0.mk A80
        clear A80
        replace H := Option.bind_eq_some_iff.mp H
        obtain ⟨⟨t300, t301⟩, A90, H⟩ := H
        replace H : ((spec_Rfc822Text.f kj2 t295).bind fun bt302 => ((impl_ReadRfc3339.f t296).bind fun bt304 => ((impl_ReadRfc822.f t298).bind fun bt306 => (if t297 = 0 then (if t299 = 0 then (if t296.toList = t300.toList then (if t298.toList = bt302.1.toList then (if bt304.2 = 0 then (if bt304.1 = t295 then (if bt306.2 = 0 then (laws_FnDateTexts.j1 kj2 l1 t295 (bt306.1 != t295)) else (laws_FnDateTexts.j1 kj2 l1 t295 true)) else (laws_FnDateTexts.j1 kj2 l1 t295 true)) else (laws_FnDateTexts.j1 kj2 l1 t295 true)) else (laws_FnDateTexts.j1 kj2 l1 t295 true)) else (laws_FnDateTexts.j1 kj2 l1 t295 true)) else (laws_FnDateTexts.j1 kj2 l1 t295 true)) else (laws_FnDateTexts.j1 kj2 l1 t295 true))))) = some r := H
        have A9 := Aside0.mk A90
        clear A90
        replace H := Option.bind_eq_some_iff.mp H
        obtain ⟨⟨t302, t303⟩, A100, H⟩ := H
        replace H : ((impl_ReadRfc3339.f t296).bind fun bt304 => ((impl_ReadRfc822.f t298).bind fun bt306 => (if t297 = 0 then (if t299 = 0 then (if t296.toList = t300.toList then (if t298.toList = t302.toList then (if bt304.2 = 0 then (if bt304.1 = t295 then (if bt306.2 = 0 then (laws_FnDateTexts.j1 kj2 l1 t295 (bt306.1 != t295)) else (laws_FnDateTexts.j1 kj2 l1 t295 true)) else (laws_FnDateTexts.j1 kj2 l1 t295 true)) else (laws_FnDateTexts.j1 kj2 l1 t295 true)) else (laws_FnDateTexts.j1 kj2 l1 t295 true)) else (laws_FnDateTexts.j1 kj2 l1 t295 true)) else (laws_FnDateTexts.j1 kj2 l1 t295 true)) else (laws_FnDateTexts.j1 kj2 l1 t295 true)))) = some r := H
        have A10 := Aside0.mk A100
        clear A100
        replace H := Option.bind_eq_some_iff.mp H
        obtain ⟨⟨t304, t305⟩, A110, H⟩ := H
        replace H : ((impl_ReadRfc822.f t298).bind fun bt306 => (if t297 = 0 then (if t299 = 0 then (if t296.toList = t300.toList then (if t298.toList = t302.toList then (if t305 = 0 then (if t304 = t295 then (if bt306.2 = 0 then (laws_FnDateTexts.j1 kj2 l1 t295 (bt306.1 != t295)) else (laws_FnDateTexts.j1 kj2 l1 t295 true)) else (laws_FnDateTexts.j1 kj2 l1 t295 true)) else (laws_FnDateTexts.j1 kj2 l1 t295 true)) else (laws_FnDateTexts.j1 kj2 l1 t295 true)) else (laws_FnDateTexts.j1 kj2 l1 t295 true)) else (laws_FnDateTexts.j1 kj2 l1 t295 true)) else (laws_FnDateTexts.j1 kj2 l1 t295 true))) = some r := H
        have A11 := Aside0.mk A110
        clear A110
        replace H := Option.bind_eq_some_iff.mp H
        obtain ⟨⟨t306, t307⟩, A120, H⟩ := H
        replace H : (if t297 = 0 then (if t299 = 0 then (if t296.toList = t300.toList then (if t298.toList = t302.toList then (if t305 = 0 then (if t304 = t295 then (if t307 = 0 then (laws_FnDateTexts.j1 kj2 l1 t295 (t306 != t295)) else (laws_FnDateTexts.j1 kj2 l1 t295 true)) else (laws_FnDateTexts.j1 kj2 l1 t295 true)) else (laws_FnDateTexts.j1 kj2 l1 t295 true)) else (laws_FnDateTexts.j1 kj2 l1 t295 true)) else (laws_FnDateTexts.j1 kj2 l1 t295 true)) else (laws_FnDateTexts.j1 kj2 l1 t295 true)) else (laws_FnDateTexts.j1 kj2 l1 t295 true)) = some r := H
        have A12 := Aside0.mk A120
        clear A120
        have HC13 := Aside0.mk H
        clear H
        go_upto_region 10 with (first | ((with_reducible refine gate_callee (f := 10) rfl ?_); refine goesL_ (some 33) rfl rfl Tryd.func10 (by kernel_rfl) rfl #[.slice A0 l0.length c0] rfl (by (try simp only [List.map_toArray, List.map_cons, List.map_nil]); first | done | rfl | (simp only [List.length_drop, List.length_take]; rfl)) ?_; (with_reducible refine (spec_StampOf2.calls _ _ l0 t295 _ ?side1 ?side2 A6.out).mono ?_); (case side1 => repeat (first | exact (Kd.C_below HR0.out HB.out) | (with_reducible refine Kd.C_alloc ?_ _) | (with_reducible refine Kd.C_drewN ?_ _) | (with_reducible refine Kd.C_drew ?_))); (case side2 => exact HC0.out); rintro e w14 ⟨rfl, hb⟩; refine ⟨_, rfl, ?_⟩; have n0_ := Aside0.mk (below_step (by repeat (first | (with_reducible first | exact HB.out | apply below_alloc | apply pw_below_drewN | apply below_drew1) | exact HB.out)) hb); clear HB; have HB := n0_; clear n0_; (try clear hb); (try clear hb2); (try clear hk); (try clear hi)) | ((with_reducible refine gate_callee (f := 7) rfl ?_); refine goesL_ (some 36) rfl rfl Tryd.func7 (by kernel_rfl) rfl #[.int .i64 t295] rfl (by (try simp only [List.map_toArray, List.map_cons, List.map_nil]); first | done | rfl | (simp only [List.length_drop, List.length_take]; rfl)) ?_; (with_reducible refine (impl_Rfc3339Text.calls kj2 t295 t296 t297 _ A7.out (Glob.of_below HG.out (by repeat (first | (with_reducible first | exact HB.out | apply below_alloc | apply pw_below_drewN | apply below_drew1) | exact HB.out)))).mono ?_); rintro e w15 ⟨rfl, hb⟩; refine ⟨_, rfl, ?_⟩; have n0_ := Aside0.mk (below_step (by repeat (first | (with_reducible first | exact HB.out | apply below_alloc | apply pw_below_drewN | apply below_drew1) | exact HB.out)) hb); clear HB; have HB := n0_; clear n0_; (try clear hb); (try clear hb2); (try clear hk); (try clear hi)) | ((with_reducible refine gate_callee (f := 9) rfl ?_); refine goesL_ (some 41) rfl rfl Tryd.func9 (by kernel_rfl) rfl #[.int .i64 t295] rfl (by (try simp only [List.map_toArray, List.map_cons, List.map_nil]); first | done | rfl | (simp only [List.length_drop, List.length_take]; rfl)) ?_; (with_reducible refine (impl_Rfc822Text.calls kj2 t295 t298 t299 _ A8.out (Glob.of_below HG.out (by repeat (first | (with_reducible first | exact HB.out | apply below_alloc | apply pw_below_drewN | apply below_drew1) | exact HB.out)))).mono ?_); rintro e w16 ⟨rfl, hb⟩; refine ⟨_, rfl, ?_⟩; have n0_ := Aside0.mk (below_step (by repeat (first | (with_reducible first | exact HB.out | apply below_alloc | apply pw_below_drewN | apply below_drew1) | exact HB.out)) hb); clear HB; have HB := n0_; clear n0_; (try clear hb); (try clear hb2); (try clear hk); (try clear hi)) | ((with_reducible refine gate_callee (f := 6) rfl ?_); refine goesL_ (some 46) rfl rfl Tryd.func6 (by kernel_rfl) rfl #[.int .i64 t295] rfl (by (try simp only [List.map_toArray, List.map_cons, List.map_nil]); first | done | rfl | (simp only [List.length_drop, List.length_take]; rfl)) ?_; (with_reducible refine (spec_Rfc3339Text.calls kj2 t295 t300 t301 _ A9.out).mono ?_); rintro e w17 ⟨rfl, hb⟩; refine ⟨_, rfl, ?_⟩; have n0_ := Aside0.mk (below_step (by repeat (first | (with_reducible first | exact HB.out | apply below_alloc | apply pw_below_drewN | apply below_drew1) | exact HB.out)) hb); clear HB; have HB := n0_; clear n0_; (try clear hb); (try clear hb2); (try clear hk); (try clear hi)) | ((with_reducible refine gate_callee (f := 8) rfl ?_); refine goesL_ (some 51) rfl rfl Tryd.func8 (by kernel_rfl) rfl #[.int .i64 t295] rfl (by (try simp only [List.map_toArray, List.map_cons, List.map_nil]); first | done | rfl | (simp only [List.length_drop, List.length_take]; rfl)) ?_; (with_reducible refine (spec_Rfc822Text.calls kj2 t295 t302 t303 _ A10.out).mono ?_); rintro e w18 ⟨rfl, hb⟩; refine ⟨_, rfl, ?_⟩; have n0_ := Aside0.mk (below_step (by repeat (first | (with_reducible first | exact HB.out | apply below_alloc | apply pw_below_drewN | apply below_drew1) | exact HB.out)) hb); clear HB; have HB := n0_; clear n0_; (try clear hb); (try clear hb2); (try clear hk); (try clear hi)) | ((with_reducible refine gate_callee (f := 11) rfl ?_); refine goesL_ (some 56) rfl rfl Tryd.func11 (by kernel_rfl) rfl #[.string t296] rfl (by (try simp only [List.map_toArray, List.map_cons, List.map_nil]); first | done | rfl | (simp only [List.length_drop, List.length_take]; rfl)) ?_; (with_reducible refine (impl_ReadRfc3339.calls t296 t304 t305 _ A11.out).mono ?_); rintro e w19 ⟨rfl, hb⟩; refine ⟨_, rfl, ?_⟩; have n0_ := Aside0.mk (below_step (by repeat (first | (with_reducible first | exact HB.out | apply below_alloc | apply pw_below_drewN | apply below_drew1) | exact HB.out)) hb); clear HB; have HB := n0_; clear n0_; (try clear hb); (try clear hb2); (try clear hk); (try clear hi)) | ((with_reducible refine gate_callee (f := 12) rfl ?_); refine goesL_ (some 61) rfl rfl Tryd.func12 (by kernel_rfl) rfl #[.string t298] rfl (by (try simp only [List.map_toArray, List.map_cons, List.map_nil]); first | done | rfl | (simp only [List.length_drop, List.length_take]; rfl)) ?_; (with_reducible refine (impl_ReadRfc822.calls t298 t306 t307 _ A12.out).mono ?_); rintro e w20 ⟨rfl, hb⟩; refine ⟨_, rfl, ?_⟩; have n0_ := Aside0.mk (below_step (by repeat (first | (with_reducible first | exact HB.out | apply below_alloc | apply pw_below_drewN | apply below_drew1) | exact HB.out)) hb); clear HB; have HB := n0_; clear n0_; (try clear hb); (try clear hb2); (try clear hk); (try clear hi)))
        (try simp only [Act.put, List.setIfInBounds_toArray, List.set_cons_zero, List.set_cons_succ])
        go_cut [97] (fun v97 wc => ∃ (kq : Nat) (x97_12 : Bool), v97 = .bool x97_12 ∧ Aside0 (laws_FnDateTexts.j1 kq l1 t295 x97_12 = some r) ∧ Aside0 (kq ≤ kj2) ∧ Aside0 (Below w.heap.size w wc))
        case first =>
          have H := HC13.out
          clear HC13
          by_cases c21 : t297 = 0
          · rw [if_pos c21] at H
            have c21b0 : (t297 == 0) = true := beq_iff_eq.mpr c21
            have c21b1 : (t297 != 0) = false := bne_eq_false_iff_eq.mpr c21
            clear c21
            (first | rw [c21b0] | (simp only [i64_w, i32_w]; rw [c21b0]) | skip)
            by_cases c22 : t299 = 0
            · rw [if_pos c22] at H
              have c22b0 : (t299 == 0) = true := beq_iff_eq.mpr c22
              have c22b1 : (t299 != 0) = false := bne_eq_false_iff_eq.mpr c22
              clear c22
              by_cases c23 : t296.toList = t300.toList
              · rw [if_pos c23] at H
                have c23b0 : (t296.toList == t300.toList) = true := beq_iff_eq.mpr c23
                have c23b1 : (t296.toList != t300.toList) = false := bne_eq_false_iff_eq.mpr c23
                clear c23
                by_cases c24 : t298.toList = t302.toList
                · rw [if_pos c24] at H
                  have c24b0 : (t298.toList == t302.toList) = true := beq_iff_eq.mpr c24
                  have c24b1 : (t298.toList != t302.toList) = false := bne_eq_false_iff_eq.mpr c24
                  clear c24
                  by_cases c25 : t305 = 0
                  · rw [if_pos c25] at H
                    have c25b0 : (t305 == 0) = true := beq_iff_eq.mpr c25
                    have c25b1 : (t305 != 0) = false := bne_eq_false_iff_eq.mpr c25
                    clear c25
                    by_cases c26 : t304 = t295
                    · rw [if_pos c26] at H
                      have c26b0 : (t304 == t295) = true := beq_iff_eq.mpr c26
                      have c26b1 : (t304 != t295) = false := bne_eq_false_iff_eq.mpr c26
                      clear c26
                      by_cases c27 : t307 = 0
                      · rw [if_pos c27] at H
                        have c27b0 : (t307 == 0) = true := beq_iff_eq.mpr c27
                        have c27b1 : (t307 != 0) = false := bne_eq_false_iff_eq.mpr c27
                        clear c27
                        have H' := Aside0.mk H
                        clear H
                        go_wp2
                        go_meet
                        case rel => exact ⟨_, ((t306 != t295)), (by first | rfl | (simp; done) | (simp [*]; done) | (simp; rfl) | (simp; unfold wrap64; omega)), H', ⟨by have := HJ2.out; first | omega | exact Nat.le_refl _⟩, ⟨by repeat (first | (with_reducible first | exact HB.out | apply below_alloc | apply pw_below_drewN | apply below_drew1) | exact HB.out)⟩⟩
                      · rw [if_neg c27] at H
                        have c27b0 : (t307 == 0) = false := beq_eq_false_iff_ne.mpr c27
                        have c27b1 : (t307 != 0) = true := bne_iff_ne.mpr c27
                        have H' := Aside0.mk H
                        clear H
                        go_wp2
                        go_meet
                        case rel => exact ⟨_, (true), (by first | rfl | (simp; done) | (simp [*]; done) | (simp; rfl) | (simp; unfold wrap64; omega)), H', ⟨by have := HJ2.out; first | omega | exact Nat.le_refl _⟩, ⟨by repeat (first | (with_reducible first | exact HB.out | apply below_alloc | apply pw_below_drewN | apply below_drew1) | exact HB.out)⟩⟩
                    · rw [if_neg c26] at H
                      have c26b0 : (t304 == t295) = false := beq_eq_false_iff_ne.mpr c26
                      have c26b1 : (t304 != t295) = true := bne_iff_ne.mpr c26
                      have H' := Aside0.mk H
                      clear H
                      go_wp2
                      go_meet
                      case rel => exact ⟨_, (true), (by first | rfl | (simp; done) | (simp [*]; done) | (simp; rfl) | (simp; unfold wrap64; omega)), H', ⟨by have := HJ2.out; first | omega | exact Nat.le_refl _⟩, ⟨by repeat (first | (with_reducible first | exact HB.out | apply below_alloc | apply pw_below_drewN | apply below_drew1) | exact HB.out)⟩⟩
                  · rw [if_neg c25] at H
                    have c25b0 : (t305 == 0) = false := beq_eq_false_iff_ne.mpr c25
                    have c25b1 : (t305 != 0) = true := bne_iff_ne.mpr c25
                    have H' := Aside0.mk H
                    clear H
                    go_wp2
                    go_meet
                    case rel => exact ⟨_, (true), (by first | rfl | (simp; done) | (simp [*]; done) | (simp; rfl) | (simp; unfold wrap64; omega)), H', ⟨by have := HJ2.out; first | omega | exact Nat.le_refl _⟩, ⟨by repeat (first | (with_reducible first | exact HB.out | apply below_alloc | apply pw_below_drewN | apply below_drew1) | exact HB.out)⟩⟩
                · rw [if_neg c24] at H
                  have c24b0 : (t298.toList == t302.toList) = false := beq_eq_false_iff_ne.mpr c24
                  have c24b1 : (t298.toList != t302.toList) = true := bne_iff_ne.mpr c24
                  have H' := Aside0.mk H
                  clear H
                  go_wp2
                  go_meet
                  case rel => exact ⟨_, (true), (by first | rfl | (simp; done) | (simp [*]; done) | (simp; rfl) | (simp; unfold wrap64; omega)), H', ⟨by have := HJ2.out; first | omega | exact Nat.le_refl _⟩, ⟨by repeat (first | (with_reducible first | exact HB.out | apply below_alloc | apply pw_below_drewN | apply below_drew1) | exact HB.out)⟩⟩
              · rw [if_neg c23] at H
                have c23b0 : (t296.toList == t300.toList) = false := beq_eq_false_iff_ne.mpr c23
                have c23b1 : (t296.toList != t300.toList) = true := bne_iff_ne.mpr c23
                have H' := Aside0.mk H
                clear H
                go_wp2
                go_meet
                case rel => exact ⟨_, (true), (by first | rfl | (simp; done) | (simp [*]; done) | (simp; rfl) | (simp; unfold wrap64; omega)), H', ⟨by have := HJ2.out; first | omega | exact Nat.le_refl _⟩, ⟨by repeat (first | (with_reducible first | exact HB.out | apply below_alloc | apply pw_below_drewN | apply below_drew1) | exact HB.out)⟩⟩
            · rw [if_neg c22] at H
              have c22b0 : (t299 == 0) = false := beq_eq_false_iff_ne.mpr c22
              have c22b1 : (t299 != 0) = true := bne_iff_ne.mpr c22
              have H' := Aside0.mk H
              clear H
              go_wp2
              go_meet
              case rel => exact ⟨_, (true), (by first | rfl | (simp; done) | (simp [*]; done) | (simp; rfl) | (simp; unfold wrap64; omega)), H', ⟨by have := HJ2.out; first | omega | exact Nat.le_refl _⟩, ⟨by repeat (first | (with_reducible first | exact HB.out | apply below_alloc | apply pw_below_drewN | apply below_drew1) | exact HB.out)⟩⟩
          · rw [if_neg c21] at H
            have c21b0 : (t297 == 0) = false := beq_eq_false_iff_ne.mpr c21
            have c21b1 : (t297 != 0) = true := bne_iff_ne.mpr c21
            (first | rw [c21b0] | (simp only [i64_w, i32_w]; rw [c21b0]) | skip)
            have H' := Aside0.mk H
            clear H
            go_wp2
            go_meet
            case rel => exact ⟨_, (true), (by first | rfl | (simp; done) | (simp [*]; done) | (simp; rfl) | (simp; unfold wrap64; omega)), H', ⟨by have := HJ2.out; first | omega | exact Nat.le_refl _⟩, ⟨by repeat (first | (with_reducible first | exact HB.out | apply below_alloc | apply pw_below_drewN | apply below_drew1) | exact HB.out)⟩⟩
        case rest =>
          clear HC13
          try clear c1
          try clear c2
          try clear p2
          try clear c3
          try clear c4
          try clear c4b0
          try clear c4b1
          try clear c5
          try clear c6
          try clear c7
          try clear c8
          try clear c9
          try clear c10
          try clear c11
          try clear c12
          try clear c21
          try clear c21b0
          try clear c21b1
          try clear c22
          try clear c22b0
          try clear c22b1
          try clear c23
          try clear c23b0
          try clear c23b1
          try clear c24
          try clear c24b0
          try clear c24b1
          try clear c25
          try clear c25b0
          try clear c25b1
          try clear c26
          try clear c26b0
          try clear c26b1
          try clear c27
          try clear c27b0
          try clear c27b1
          try clear p2
          obtain ⟨kq, x97_12, rfl, HA, HJ12, HB⟩ := hcut
          cases kq with
          | zero => exact absurd HA.out (by simp [laws_FnDateTexts.j1])
          | succ kj12 =>
            have H := HA.out
            clear HA
            simp only [laws_FnDateTexts.j1] at H
            by_cases c28 : x97_12 = true
            · subst c28
              have H1 : (some false) = some r := by rw [if_pos rfl] at H; exact H
              clear H
              have H := H1
              clear H1
              obtain rfl := Option.some.inj H
              go_wp2
              go_ret
              exact ⟨by first | rfl | (simp [errW_none, errW_some] <;> rfl) | (simp [*, errW_none, errW_some] <;> rfl), by repeat (first | (with_reducible first | exact HB.out | apply below_alloc | apply pw_below_drewN | apply below_drew1) | exact HB.out)⟩
            · replace c28 := Bool.eq_false_iff.mpr c28
              subst c28
              have H1 : ((laws_at.f l1 0 13).bind fun t308 => (if (wrap64 (t295 + (wrap64 (t308 * 3600)))) > 4102444799 then (some true) else ((impl_Rfc3339Text.f kj12 (wrap64 (t295 + (wrap64 (t308 * 3600))))).bind fun bt309 => ((some (([43, (wrap64 (48 + (wrap64 (Int.tdiv t308 10)))) % 256, (wrap64 (48 + (Int.tmod t308 10))) % 256, 58, 48, 48] : List Int) : List Int)).bind fun y311 => (if 0 ≤ (mx 0 (wrap64 ((bt309.1.size : Int) - 1))) then (if (mx 0 (wrap64 ((bt309.1.size : Int) - 1))) ≤ (bt309.1.size : Int) then (if (bt309.1.extract 0 ((mx 0 (wrap64 ((bt309.1.size : Int) - 1))) : Int).toNat).size + (strOfNums y311).size ≤ 9223372036854775807 then ((impl_ReadRfc3339.f ((bt309.1.extract 0 ((mx 0 (wrap64 ((bt309.1.size : Int) - 1))) : Int).toNat) ++ (strOfNums y311))).bind fun bt314 => (if bt309.2 = 0 then (if bt314.2 = 0 then (some (bt314.1 == t295)) else (some false)) else (some false))) else (none)) else (none)) else (none)))))) = some r := by rw [if_neg (show ¬ (false = true) by decide)] at H; exact H
              clear H
              have H := H1
              clear H1
              replace H := Option.bind_eq_some_iff.mp H
              obtain ⟨t308, A290, H⟩ := H
              replace H : (if (wrap64 (t295 + (wrap64 (t308 * 3600)))) > 4102444799 then (some true) else ((impl_Rfc3339Text.f kj12 (wrap64 (t295 + (wrap64 (t308 * 3600))))).bind fun bt309 => ((some (([43, (wrap64 (48 + (wrap64 (Int.tdiv t308 10)))) % 256, (wrap64 (48 + (Int.tmod t308 10))) % 256, 58, 48, 48] : List Int) : List Int)).bind fun y311 => (if 0 ≤ (mx 0 (wrap64 ((bt309.1.size : Int) - 1))) then (if (mx 0 (wrap64 ((bt309.1.size : Int) - 1))) ≤ (bt309.1.size : Int) then (if (bt309.1.extract 0 ((mx 0 (wrap64 ((bt309.1.size : Int) - 1))) : Int).toNat).size + (strOfNums y311).size ≤ 9223372036854775807 then ((impl_ReadRfc3339.f ((bt309.1.extract 0 ((mx 0 (wrap64 ((bt309.1.size : Int) - 1))) : Int).toNat) ++ (strOfNums y311))).bind fun bt314 => (if bt309.2 = 0 then (if bt314.2 = 0 then (some (bt314.1 == t295)) else (some false)) else (some false))) else (none)) else (none)) else (none))))) = some r := H
              have A29 := Aside0.mk A290
              clear A290
              by_cases c30 : (wrap64 (t295 + (wrap64 (t308 * 3600)))) > 4102444799
              · rw [if_pos c30] at H
                have c30b0 : decide (4102444799 < (wrap64 (t295 + (wrap64 (t308 * 3600))))) = true := decide_eq_true c30
                clear c30
                obtain rfl := Option.some.inj H
                go_wp2_with (first | ((with_reducible refine gate_callee (f := 13) rfl ?_); refine goesL_ (some 99) rfl rfl Tryd.func13 (by kernel_rfl) rfl #[.slice A1 l1.length c1, .int .i64 0, .int .i64 13] rfl (by (try simp only [List.map_toArray, List.map_cons, List.map_nil]); first | done | rfl | (simp only [List.length_drop, List.length_take]; rfl)) ?_; (with_reducible refine (laws_at.calls _ _ l1 0 13 t308 _ ?side1 ?side2 A29.out).mono ?_); (case side1 => repeat (first | exact (Kd.C_below HR1.out HB.out) | (with_reducible refine Kd.C_alloc ?_ _) | (with_reducible refine Kd.C_drewN ?_ _) | (with_reducible refine Kd.C_drew ?_))); (case side2 => exact HC1.out); rintro e w' ⟨rfl, ⟨nd, rfl⟩⟩; refine ⟨_, rfl, ?_⟩))
                go_ret
                exact ⟨by first | rfl | (simp [errW_none, errW_some] <;> rfl) | (simp [*, errW_none, errW_some] <;> rfl), by repeat (first | (with_reducible first | exact HB.out | apply below_alloc | apply pw_below_drewN | apply below_drew1) | exact HB.out)⟩
              · rw [if_neg c30] at H
                have c30b0 : decide (4102444799 < (wrap64 (t295 + (wrap64 (t308 * 3600))))) = false := decide_eq_false c30
                clear c30
                replace H := Option.bind_eq_some_iff.mp H
                obtain ⟨⟨t309, t310⟩, A310, H⟩ := H
                replace H : ((some (([43, (wrap64 (48 + (wrap64 (Int.tdiv t308 10)))) % 256, (wrap64 (48 + (Int.tmod t308 10))) % 256, 58, 48, 48] : List Int) : List Int)).bind fun y311 => (if 0 ≤ (mx 0 (wrap64 ((t309.size : Int) - 1))) then (if (mx 0 (wrap64 ((t309.size : Int) - 1))) ≤ (t309.size : Int) then (if (t309.extract 0 ((mx 0 (wrap64 ((t309.size : Int) - 1))) : Int).toNat).size + (strOfNums y311).size ≤ 9223372036854775807 then ((impl_ReadRfc3339.f ((t309.extract 0 ((mx 0 (wrap64 ((t309.size : Int) - 1))) : Int).toNat) ++ (strOfNums y311))).bind fun bt314 => (if t310 = 0 then (if bt314.2 = 0 then (some (bt314.1 == t295)) else (some false)) else (some false))) else (none)) else (none)) else (none))) = some r := H
                have A31 := Aside0.mk A310
                clear A310
                obtain ⟨y311, hy311⟩ : ∃ y_ : List Int, y_ = (([43, (wrap64 (48 + (wrap64 (Int.tdiv t308 10)))) % 256, (wrap64 (48 + (Int.tmod t308 10))) % 256, 58, 48, 48] : List Int)) := ⟨_, rfl⟩
                replace H : (if 0 ≤ (mx 0 (wrap64 ((t309.size : Int) - 1))) then (if (mx 0 (wrap64 ((t309.size : Int) - 1))) ≤ (t309.size : Int) then (if (t309.extract 0 ((mx 0 (wrap64 ((t309.size : Int) - 1))) : Int).toNat).size + (strOfNums y311).size ≤ 9223372036854775807 then ((impl_ReadRfc3339.f ((t309.extract 0 ((mx 0 (wrap64 ((t309.size : Int) - 1))) : Int).toNat) ++ (strOfNums y311))).bind fun bt314 => (if t310 = 0 then (if bt314.2 = 0 then (some (bt314.1 == t295)) else (some false)) else (some false))) else (none)) else (none)) else (none)) = some r := by first | (rw [hy311]; with_reducible exact H) | (have H2_ := (Option.bind_some _ _).symm.trans H; rw [hy311]; with_reducible exact H2_) | (have H2_ := (Option.bind_some _ _).symm.trans H; with_reducible exact H2_) | with_reducible exact H | (rw [hy311]; exact H) | exact H
                have Ny311 := Aside0.mk hy311
                clear hy311
                obtain ⟨ji32, hji32⟩ : ∃ j_ : Int, (mx 0 (wrap64 ((t309.size : Int) - 1))) = j_ := ⟨_, rfl⟩
                replace H : (if 0 ≤ (ji32) then (if (ji32) ≤ (t309.size : Int) then (if (t309.extract 0 ((ji32) : Int).toNat).size + (strOfNums y311).size ≤ 9223372036854775807 then ((impl_ReadRfc3339.f ((t309.extract 0 ((ji32) : Int).toNat) ++ (strOfNums y311))).bind fun bt314 => (if t310 = 0 then (if bt314.2 = 0 then (some (bt314.1 == t295)) else (some false)) else (some false))) else (none)) else (none)) else (none)) = some r := by first | (rw [hji32] at H; exact H) | (simp only [hji32] at H ⊢; exact H)
                (try rw [hji32] at A29)
                (try rw [hji32] at A31)
                (try (have hji32l : 0 ≤ ji32 := by (rw [← hji32]; unfold mx; (repeat' split) <;> omega)))
                (try (have hji32m : 0 ≤ ji32 := by omega))
                have hji32_ : (if 0 < (wrap64 ((t309.size : Int) - 1)) then (wrap64 ((t309.size : Int) - 1)) else 0) = ji32 := hji32
                by_cases c33 : 0 ≤ (ji32)
                · rw [if_pos c33] at H
                  have c33b0 := eq_true c33
                  have c33b1 : decide (0 ≤ (ji32)) = true := decide_eq_true c33
                  clear c33
                  by_cases c34 : (ji32) ≤ (t309.size : Int)
                  · rw [if_pos c34] at H
                    have c34b0 := eq_true c34
                    have c34b1 : decide ((ji32) ≤ (t309.size : Int)) = true := decide_eq_true c34
                    clear c34
                    by_cases c35 : (t309.extract 0 ((ji32) : Int).toNat).size + (strOfNums y311).size ≤ 9223372036854775807
                    · rw [if_pos c35] at H
                      have c35b0 := eq_true c35
                      have c35b1 : decide ((t309.extract 0 ((ji32) : Int).toNat).size + (strOfNums y311).size ≤ 9223372036854775807) = true := decide_eq_true c35
                      try have c35b2 : (9223372036854775807 < (t309.extract 0 ((ji32) : Int).toNat).size + (strOfNums y311).size) = False := eq_false (Nat.not_lt.2 c35)
                      replace H := Option.bind_eq_some_iff.mp H
                      obtain ⟨⟨t314, t315⟩, A360, H⟩ := H
                      replace H : (if t310 = 0 then (if t315 = 0 then (some (t314 == t295)) else (some false)) else (some false)) = some r := H
                      have A36 := Aside0.mk A360
                      clear A360
                      by_cases c37 : t310 = 0
                      · rw [if_pos c37] at H
                        have c37b0 : (t310 == 0) = true := beq_iff_eq.mpr c37
                        have c37b1 : (t310 != 0) = false := bne_eq_false_iff_eq.mpr c37
                        clear c37
                        by_cases c38 : t315 = 0
                        · rw [if_pos c38] at H
                          have c38b0 : (t315 == 0) = true := beq_iff_eq.mpr c38
                          have c38b1 : (t315 != 0) = false := bne_eq_false_iff_eq.mpr c38
                          clear c38
                          obtain rfl := Option.some.inj H
                          go_wp2_with (first | ((with_reducible refine gate_callee (f := 13) rfl ?_); refine goesL_ (some 99) rfl rfl Tryd.func13 (by kernel_rfl) rfl #[.slice A1 l1.length c1, .int .i64 0, .int .i64 13] rfl (by (try simp only [List.map_toArray, List.map_cons, List.map_nil]); first | done | rfl | (simp only [List.length_drop, List.length_take]; rfl)) ?_; (with_reducible refine (laws_at.calls _ _ l1 0 13 t308 _ ?side1 ?side2 A29.out).mono ?_); (case side1 => repeat (first | exact (Kd.C_below HR1.out HB.out) | (with_reducible refine Kd.C_alloc ?_ _) | (with_reducible refine Kd.C_drewN ?_ _) | (with_reducible refine Kd.C_drew ?_))); (case side2 => exact HC1.out); rintro e w' ⟨rfl, ⟨nd, rfl⟩⟩; refine ⟨_, rfl, ?_⟩) | ((with_reducible refine gate_callee (f := 7) rfl ?_); refine goesL_ (some 110) rfl rfl Tryd.func7 (by kernel_rfl) rfl #[.int .i64 (wrap64 (t295 + (wrap64 (t308 * 3600))))] rfl (by (try simp only [List.map_toArray, List.map_cons, List.map_nil]); first | done | rfl | (simp only [List.length_drop, List.length_take]; rfl)) ?_; (with_reducible refine (impl_Rfc3339Text.calls kj12 (wrap64 (t295 + (wrap64 (t308 * 3600)))) t309 t310 _ A31.out (Glob.of_below HG.out (by repeat (first | (with_reducible first | exact HB.out | apply below_alloc | apply pw_below_drewN | apply below_drew1) | exact HB.out)))).mono ?_); rintro e w39 ⟨rfl, hb⟩; refine ⟨_, rfl, ?_⟩; have n0_ := Aside0.mk (below_step (by repeat (first | (with_reducible first | exact HB.out | apply below_alloc | apply pw_below_drewN | apply below_drew1) | exact HB.out)) hb); clear HB; have HB := n0_; clear n0_; (try clear hb); (try clear hb2); (try clear hk); (try clear hi)) | ((with_reducible refine gate_dst (N := 121) rfl ?_); (try (refine gate_guard (by rfl) ?_; dsimp only)); refine Kd.R_lit (Kd.int .u8) _ 5 ?hg (N := 121) ?hd (xs := ([43, (wrap64 (48 + (wrap64 (Int.tdiv t308 10)))) % 256, (wrap64 (48 + (Int.tmod t308 10))) % 256, 58, 48, 48] : List Int)) (inner := [.int .u8 43, .int .u8 ((wrap64 (48 + (wrap64 (Int.tdiv t308 10)))) % 256), .int .u8 ((wrap64 (48 + (Int.tmod t308 10))) % 256), .int .u8 58, .int .u8 48, .int .u8 48]) (ok := fun _ => True) (okp := fun _ => True) ?hr ?hp (fun _ hk => hk) trivial (Below.refl _ _) (Nat.le_refl _) (by simp) ?_; (case hd => rfl); (case hg => rfl); (case hr => first | (go_simp; done) | (go_simp; rfl)); (case hp => exact (Reps.one (show Kd.M (Kd.int .u8) _ _ _ 43 [.int .u8 43] from rfl) (Reps.one (show Kd.M (Kd.int .u8) _ _ _ ((wrap64 (48 + (wrap64 (Int.tdiv t308 10)))) % 256) [.int .u8 ((wrap64 (48 + (wrap64 (Int.tdiv t308 10)))) % 256)] from rfl) (Reps.one (show Kd.M (Kd.int .u8) _ _ _ ((wrap64 (48 + (Int.tmod t308 10))) % 256) [.int .u8 ((wrap64 (48 + (Int.tmod t308 10))) % 256)] from rfl) (Reps.one (show Kd.M (Kd.int .u8) _ _ _ 58 [.int .u8 58] from rfl) (Reps.one (show Kd.M (Kd.int .u8) _ _ _ 48 [.int .u8 48] from rfl) (Reps.one (show Kd.M (Kd.int .u8) _ _ _ 48 [.int .u8 48] from rfl) (Reps.none _ _)))))))); intro v312 w40 ho41 hb hg_ hnew_; clear hg_ hnew_; (first | rw [← Ny311.out] at ho41 | (simp only [Int.reduceToNat] at ho41; rw [← Ny311.out] at ho41)); have n0_ := Aside0.mk (Kd.R_lower ho41 (below_size (by repeat (first | (with_reducible first | exact HB.out | apply below_alloc | apply pw_below_drewN | apply below_drew1) | exact HB.out)))); have n1_ := Aside0.mk (below_step (by repeat (first | (with_reducible first | exact HB.out | apply below_alloc | apply pw_below_drewN | apply below_drew1) | exact HB.out)) hb); clear HB; have HO313 := n0_; have HB := n1_; clear n0_ n1_; clear hb ho41; have hcv42 := own_string (P := Tryd.prog) Tryd.underlying25 Tryd.underlying5 Tryd.underlying9 (Kd.own_of_R HO313.out)) | ((with_reducible refine gate_callee (f := 11) rfl ?_); refine goesL_ (some 132) rfl rfl Tryd.func11 (by kernel_rfl) rfl #[.string ((t309.extract 0 ((ji32) : Int).toNat) ++ (strOfNums y311))] rfl (by (try simp only [List.map_toArray, List.map_cons, List.map_nil]); first | done | (simp only [hji32]; rfl) | rfl | (simp only [List.length_drop, List.length_take]; rfl)) ?_; (with_reducible refine (impl_ReadRfc3339.calls ((t309.extract 0 ((ji32) : Int).toNat) ++ (strOfNums y311)) t314 t315 _ A36.out).mono ?_); rintro e w43 ⟨rfl, hb⟩; refine ⟨_, rfl, ?_⟩; have n0_ := Aside0.mk (Kd.R_below (by (with_reducible repeat (first | apply Kd.R_alloc | apply Kd.R_drewN | apply Kd.R_drew)); exact HO313.out) hb); have n1_ := Aside0.mk (below_step (by repeat (first | (with_reducible first | exact HB.out | apply below_alloc | apply pw_below_drewN | apply below_drew1) | exact HB.out)) hb); clear HO313; clear HB; have HO313 := n0_; have HB := n1_; clear n0_ n1_; (try clear hb); (try clear hb2); (try clear hk); (try clear hi)))
                          go_ret
                          exact ⟨by first | rfl | (simp [errW_none, errW_some] <;> rfl) | (simp only [← hji32]; first | rfl | (simp [errW_none, errW_some] <;> rfl)) | (simp [*, errW_none, errW_some] <;> rfl), by repeat (first | (with_reducible first | exact HB.out | apply below_alloc | apply pw_below_drewN | apply below_drew1) | exact HB.out)⟩
                        · rw [if_neg c38] at H
                          have c38b0 : (t315 == 0) = false := beq_eq_false_iff_ne.mpr c38
                          have c38b1 : (t315 != 0) = true := bne_iff_ne.mpr c38
                          obtain rfl := Option.some.inj H
                          go_wp2_with (first | ((with_reducible refine gate_callee (f := 13) rfl ?_); refine goesL_ (some 99) rfl rfl Tryd.func13 (by kernel_rfl) rfl #[.slice A1 l1.length c1, .int .i64 0, .int .i64 13] rfl (by (try simp only [List.map_toArray, List.map_cons, List.map_nil]); first | done | rfl | (simp only [List.length_drop, List.length_take]; rfl)) ?_; (with_reducible refine (laws_at.calls _ _ l1 0 13 t308 _ ?side1 ?side2 A29.out).mono ?_); (case side1 => repeat (first | exact (Kd.C_below HR1.out HB.out) | (with_reducible refine Kd.C_alloc ?_ _) | (with_reducible refine Kd.C_drewN ?_ _) | (with_reducible refine Kd.C_drew ?_))); (case side2 => exact HC1.out); rintro e w' ⟨rfl, ⟨nd, rfl⟩⟩; refine ⟨_, rfl, ?_⟩) | ((with_reducible refine gate_callee (f := 7) rfl ?_); refine goesL_ (some 110) rfl rfl Tryd.func7 (by kernel_rfl) rfl #[.int .i64 (wrap64 (t295 + (wrap64 (t308 * 3600))))] rfl (by (try simp only [List.map_toArray, List.map_cons, List.map_nil]); first | done | rfl | (simp only [List.length_drop, List.length_take]; rfl)) ?_; (with_reducible refine (impl_Rfc3339Text.calls kj12 (wrap64 (t295 + (wrap64 (t308 * 3600)))) t309 t310 _ A31.out (Glob.of_below HG.out (by repeat (first | (with_reducible first | exact HB.out | apply below_alloc | apply pw_below_drewN | apply below_drew1) | exact HB.out)))).mono ?_); rintro e w44 ⟨rfl, hb⟩; refine ⟨_, rfl, ?_⟩; have n0_ := Aside0.mk (below_step (by repeat (first | (with_reducible first | exact HB.out | apply below_alloc | apply pw_below_drewN | apply below_drew1) | exact HB.out)) hb); clear HB; have HB := n0_; clear n0_; (try clear hb); (try clear hb2); (try clear hk); (try clear hi)) | ((with_reducible refine gate_dst (N := 121) rfl ?_); (try (refine gate_guard (by rfl) ?_; dsimp only)); refine Kd.R_lit (Kd.int .u8) _ 5 ?hg (N := 121) ?hd (xs := ([43, (wrap64 (48 + (wrap64 (Int.tdiv t308 10)))) % 256, (wrap64 (48 + (Int.tmod t308 10))) % 256, 58, 48, 48] : List Int)) (inner := [.int .u8 43, .int .u8 ((wrap64 (48 + (wrap64 (Int.tdiv t308 10)))) % 256), .int .u8 ((wrap64 (48 + (Int.tmod t308 10))) % 256), .int .u8 58, .int .u8 48, .int .u8 48]) (ok := fun _ => True) (okp := fun _ => True) ?hr ?hp (fun _ hk => hk) trivial (Below.refl _ _) (Nat.le_refl _) (by simp) ?_; (case hd => rfl); (case hg => rfl); (case hr => first | (go_simp; done) | (go_simp; rfl)); (case hp => exact (Reps.one (show Kd.M (Kd.int .u8) _ _ _ 43 [.int .u8 43] from rfl) (Reps.one (show Kd.M (Kd.int .u8) _ _ _ ((wrap64 (48 + (wrap64 (Int.tdiv t308 10)))) % 256) [.int .u8 ((wrap64 (48 + (wrap64 (Int.tdiv t308 10)))) % 256)] from rfl) (Reps.one (show Kd.M (Kd.int .u8) _ _ _ ((wrap64 (48 + (Int.tmod t308 10))) % 256) [.int .u8 ((wrap64 (48 + (Int.tmod t308 10))) % 256)] from rfl) (Reps.one (show Kd.M (Kd.int .u8) _ _ _ 58 [.int .u8 58] from rfl) (Reps.one (show Kd.M (Kd.int .u8) _ _ _ 48 [.int .u8 48] from rfl) (Reps.one (show Kd.M (Kd.int .u8) _ _ _ 48 [.int .u8 48] from rfl) (Reps.none _ _)))))))); intro v312 w45 ho46 hb hg_ hnew_; clear hg_ hnew_; (first | rw [← Ny311.out] at ho46 | (simp only [Int.reduceToNat] at ho46; rw [← Ny311.out] at ho46)); have n0_ := Aside0.mk (Kd.R_lower ho46 (below_size (by repeat (first | (with_reducible first | exact HB.out | apply below_alloc | apply pw_below_drewN | apply below_drew1) | exact HB.out)))); have n1_ := Aside0.mk (below_step (by repeat (first | (with_reducible first | exact HB.out | apply below_alloc | apply pw_below_drewN | apply below_drew1) | exact HB.out)) hb); clear HB; have HO313 := n0_; have HB := n1_; clear n0_ n1_; clear hb ho46; have hcv47 := own_string (P := Tryd.prog) Tryd.underlying25 Tryd.underlying5 Tryd.underlying9 (Kd.own_of_R HO313.out)) | ((with_reducible refine gate_callee (f := 11) rfl ?_); refine goesL_ (some 132) rfl rfl Tryd.func11 (by kernel_rfl) rfl #[.string ((t309.extract 0 ((ji32) : Int).toNat) ++ (strOfNums y311))] rfl (by (try simp only [List.map_toArray, List.map_cons, List.map_nil]); first | done | (simp only [hji32]; rfl) | rfl | (simp only [List.length_drop, List.length_take]; rfl)) ?_; (with_reducible refine (impl_ReadRfc3339.calls ((t309.extract 0 ((ji32) : Int).toNat) ++ (strOfNums y311)) t314 t315 _ A36.out).mono ?_); rintro e w48 ⟨rfl, hb⟩; refine ⟨_, rfl, ?_⟩; have n0_ := Aside0.mk (Kd.R_below (by (with_reducible repeat (first | apply Kd.R_alloc | apply Kd.R_drewN | apply Kd.R_drew)); exact HO313.out) hb); have n1_ := Aside0.mk (below_step (by repeat (first | (with_reducible first | exact HB.out | apply below_alloc | apply pw_below_drewN | apply below_drew1) | exact HB.out)) hb); clear HO313; clear HB; have HO313 := n0_; have HB := n1_; clear n0_ n1_; (try clear hb); (try clear hb2); (try clear hk); (try clear hi)))
                          go_ret
                          exact ⟨by first | rfl | (simp [errW_none, errW_some] <;> rfl) | (simp only [← hji32]; first | rfl | (simp [errW_none, errW_some] <;> rfl)) | (simp [*, errW_none, errW_some] <;> rfl), by repeat (first | (with_reducible first | exact HB.out | apply below_alloc | apply pw_below_drewN | apply below_drew1) | exact HB.out)⟩
                      · rw [if_neg c37] at H
                        have c37b0 : (t310 == 0) = false := beq_eq_false_iff_ne.mpr c37
                        have c37b1 : (t310 != 0) = true := bne_iff_ne.mpr c37
                        obtain rfl := Option.some.inj H
                        go_wp2_with (first | ((with_reducible refine gate_callee (f := 13) rfl ?_); refine goesL_ (some 99) rfl rfl Tryd.func13 (by kernel_rfl) rfl #[.slice A1 l1.length c1, .int .i64 0, .int .i64 13] rfl (by (try simp only [List.map_toArray, List.map_cons, List.map_nil]); first | done | rfl | (simp only [List.length_drop, List.length_take]; rfl)) ?_; (with_reducible refine (laws_at.calls _ _ l1 0 13 t308 _ ?side1 ?side2 A29.out).mono ?_); (case side1 => repeat (first | exact (Kd.C_below HR1.out HB.out) | (with_reducible refine Kd.C_alloc ?_ _) | (with_reducible refine Kd.C_drewN ?_ _) | (with_reducible refine Kd.C_drew ?_))); (case side2 => exact HC1.out); rintro e w' ⟨rfl, ⟨nd, rfl⟩⟩; refine ⟨_, rfl, ?_⟩) | ((with_reducible refine gate_callee (f := 7) rfl ?_); refine goesL_ (some 110) rfl rfl Tryd.func7 (by kernel_rfl) rfl #[.int .i64 (wrap64 (t295 + (wrap64 (t308 * 3600))))] rfl (by (try simp only [List.map_toArray, List.map_cons, List.map_nil]); first | done | rfl | (simp only [List.length_drop, List.length_take]; rfl)) ?_; (with_reducible refine (impl_Rfc3339Text.calls kj12 (wrap64 (t295 + (wrap64 (t308 * 3600)))) t309 t310 _ A31.out (Glob.of_below HG.out (by repeat (first | (with_reducible first | exact HB.out | apply below_alloc | apply pw_below_drewN | apply below_drew1) | exact HB.out)))).mono ?_); rintro e w49 ⟨rfl, hb⟩; refine ⟨_, rfl, ?_⟩; have n0_ := Aside0.mk (below_step (by repeat (first | (with_reducible first | exact HB.out | apply below_alloc | apply pw_below_drewN | apply below_drew1) | exact HB.out)) hb); clear HB; have HB := n0_; clear n0_; (try clear hb); (try clear hb2); (try clear hk); (try clear hi)) | ((with_reducible refine gate_dst (N := 121) rfl ?_); (try (refine gate_guard (by rfl) ?_; dsimp only)); refine Kd.R_lit (Kd.int .u8) _ 5 ?hg (N := 121) ?hd (xs := ([43, (wrap64 (48 + (wrap64 (Int.tdiv t308 10)))) % 256, (wrap64 (48 + (Int.tmod t308 10))) % 256, 58, 48, 48] : List Int)) (inner := [.int .u8 43, .int .u8 ((wrap64 (48 + (wrap64 (Int.tdiv t308 10)))) % 256), .int .u8 ((wrap64 (48 + (Int.tmod t308 10))) % 256), .int .u8 58, .int .u8 48, .int .u8 48]) (ok := fun _ => True) (okp := fun _ => True) ?hr ?hp (fun _ hk => hk) trivial (Below.refl _ _) (Nat.le_refl _) (by simp) ?_; (case hd => rfl); (case hg => rfl); (case hr => first | (go_simp; done) | (go_simp; rfl)); (case hp => exact (Reps.one (show Kd.M (Kd.int .u8) _ _ _ 43 [.int .u8 43] from rfl) (Reps.one (show Kd.M (Kd.int .u8) _ _ _ ((wrap64 (48 + (wrap64 (Int.tdiv t308 10)))) % 256) [.int .u8 ((wrap64 (48 + (wrap64 (Int.tdiv t308 10)))) % 256)] from rfl) (Reps.one (show Kd.M (Kd.int .u8) _ _ _ ((wrap64 (48 + (Int.tmod t308 10))) % 256) [.int .u8 ((wrap64 (48 + (Int.tmod t308 10))) % 256)] from rfl) (Reps.one (show Kd.M (Kd.int .u8) _ _ _ 58 [.int .u8 58] from rfl) (Reps.one (show Kd.M (Kd.int .u8) _ _ _ 48 [.int .u8 48] from rfl) (Reps.one (show Kd.M (Kd.int .u8) _ _ _ 48 [.int .u8 48] from rfl) (Reps.none _ _)))))))); intro v312 w50 ho51 hb hg_ hnew_; clear hg_ hnew_; (first | rw [← Ny311.out] at ho51 | (simp only [Int.reduceToNat] at ho51; rw [← Ny311.out] at ho51)); have n0_ := Aside0.mk (Kd.R_lower ho51 (below_size (by repeat (first | (with_reducible first | exact HB.out | apply below_alloc | apply pw_below_drewN | apply below_drew1) | exact HB.out)))); have n1_ := Aside0.mk (below_step (by repeat (first | (with_reducible first | exact HB.out | apply below_alloc | apply pw_below_drewN | apply below_drew1) | exact HB.out)) hb); clear HB; have HO313 := n0_; have HB := n1_; clear n0_ n1_; clear hb ho51; have hcv52 := own_string (P := Tryd.prog) Tryd.underlying25 Tryd.underlying5 Tryd.underlying9 (Kd.own_of_R HO313.out)) | ((with_reducible refine gate_callee (f := 11) rfl ?_); refine goesL_ (some 132) rfl rfl Tryd.func11 (by kernel_rfl) rfl #[.string ((t309.extract 0 ((ji32) : Int).toNat) ++ (strOfNums y311))] rfl (by (try simp only [List.map_toArray, List.map_cons, List.map_nil]); first | done | (simp only [hji32]; rfl) | rfl | (simp only [List.length_drop, List.length_take]; rfl)) ?_; (with_reducible refine (impl_ReadRfc3339.calls ((t309.extract 0 ((ji32) : Int).toNat) ++ (strOfNums y311)) t314 t315 _ A36.out).mono ?_); rintro e w53 ⟨rfl, hb⟩; refine ⟨_, rfl, ?_⟩; have n0_ := Aside0.mk (Kd.R_below (by (with_reducible repeat (first | apply Kd.R_alloc | apply Kd.R_drewN | apply Kd.R_drew)); exact HO313.out) hb); have n1_ := Aside0.mk (below_step (by repeat (first | (with_reducible first | exact HB.out | apply below_alloc | apply pw_below_drewN | apply below_drew1) | exact HB.out)) hb); clear HO313; clear HB; have HO313 := n0_; have HB := n1_; clear n0_ n1_; (try clear hb); (try clear hb2); (try clear hk); (try clear hi)))
                        go_ret
                        exact ⟨by first | rfl | (simp [errW_none, errW_some] <;> rfl) | (simp only [← hji32]; first | rfl | (simp [errW_none, errW_some] <;> rfl)) | (simp [*, errW_none, errW_some] <;> rfl), by repeat (first | (with_reducible first | exact HB.out | apply below_alloc | apply pw_below_drewN | apply below_drew1) | exact HB.out)⟩
                    · rw [if_neg c35] at H
                      exact absurd H (by simp)
                  · rw [if_neg c34] at H
                    exact absurd H (by simp)
                · rw [if_neg c33] at H
                  exact absurd H (by simp)

/-- THE ONE PURE STATEMENT of laws_FnDateTexts: yours. -/
noncomputable def laws_FnDateTexts.Pure : Prop := ∀ (l0 : List Int) (l1 : List Int), l0.length ≤ maxLen → l0.length * 1 ≤ 140737488351232 → (∀ x ∈ l0, (Lit.int .u8 x).wf = true) → l1.length ≤ maxLen → l1.length * 1 ≤ 140737488351232 → (∀ x ∈ l1, (Lit.int .u8 x).wf = true) → ∃ k, laws_FnDateTexts.f k l0 l1 = some true
theorem laws_FnDateTexts.walk (P : laws_FnDateTexts.Pure) (a0 : Option Addr) (len0 cap0 : Nat) (z0 : List Int) (a1 : Option Addr) (len1 cap1 : Nat) (z1 : List Int) (w : World) (w0 : (a0 = none ∧ len0 = 0 ∧ cap0 = 0 ∧ z0 = []) ∨ ∃ x, a0 = some x ∧ len0 ≤ cap0 ∧ cap0 ≤ maxLen ∧ z0.length = cap0 ∧ (∀ i, i < z0.length → w.cell? (x.add i) = some (.int .u8 (z0.getD i 0))) ∧ ∀ n ∈ z0, (Lit.int .u8 n).wf = true) (y0 : len0 * 1 ≤ 140737488351232) (w1 : (a1 = none ∧ len1 = 0 ∧ cap1 = 0 ∧ z1 = []) ∨ ∃ x, a1 = some x ∧ len1 ≤ cap1 ∧ cap1 ≤ maxLen ∧ z1.length = cap1 ∧ (∀ i, i < z1.length → w.cell? (x.add i) = some (.int .u8 (z1.getD i 0))) ∧ ∀ n ∈ z1, (Lit.int .u8 n).wf = true) (y1 : len1 * 1 ≤ 140737488351232) (hG : Glob w) :
    Calls Tryd.prog 5 #[.slice a0 len0 cap0, .slice a1 len1 cap1] w fun e w' => e = .returned (.bool true) ∧ Below w.heap.size w w' := by
  obtain ⟨l0, rfl, hr0, hm0, hw0, hc0⟩ := ReadsInt.ofRowC w0
  obtain ⟨l1, rfl, hr1, hm1, hw1, hc1⟩ := ReadsInt.ofRowC w1
  obtain ⟨k, h⟩ := P l0 l1 hm0 y0 hw0 hm1 y1 hw1
  refine (laws_FnDateTexts.calls k _ _ l0 _ _ l1 true w (Kd.C_of_reads (d := (0 : Int)) (h1 := fun _ => rfl) hr0) hc0 (Kd.C_of_reads (d := (0 : Int)) (h1 := fun _ => rfl) hr1) hc1 h hG).mono ?_
  rintro e w' ⟨rfl, hd⟩
  exact ⟨rfl, hd⟩

end Go.Proofs.YtccnidlkpinpgaaDoor.QFnDateTexts
