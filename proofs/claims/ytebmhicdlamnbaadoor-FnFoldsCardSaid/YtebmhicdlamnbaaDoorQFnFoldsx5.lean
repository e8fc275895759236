/- Printed by a program of this session's own (wip/myprint.py): the functions that FnFolds reaches as plain Lean functions, and that Go's calls do what they say. Conditions: as each theorem states. -/
import Derived.Test.YtebmhicdlamnbaaDoorQFnFoldsx0
import Derived.Test.YtebmhicdlamnbaaDoorQFnFoldsx1
import Derived.Test.YtebmhicdlamnbaaDoorQFnFoldsx2
import Derived.Test.YtebmhicdlamnbaaDoorQFnFoldsx3
import Derived.Test.YtebmhicdlamnbaaDoorQFnFoldsx4
namespace Go.Proofs.YtebmhicdlamnbaaDoor.QFnFolds
open Go.RowKit Go.Proofs.YtebmhicdlamnbaaDoorW.PrintWords Go.Proofs.YtebmhicdlamnbaaDoorW.PrintLast Go.Proofs.YtebmhicdlamnbaaDoorW.PrintMore
attribute [local go_sem] max2_int min2_int max_two min_two max_three min_three max_four min_four   -- for this text's walks alone
set_option linter.unusedVariables false
set_option linter.unusedSimpArgs false

/-! ### laws_FnFolds: function 11 -/
mutual
def laws_FnFolds.j0 : Nat → List Int → List Int → Bool → Option (Bool)
  | 0, _, _, _ => none
  | k + 1, x0, x1, x24 => if x24 = true then (some true) else ((some (([(⟨#[83, 117, 98, 106, 101, 99, 116]⟩ : ByteArray), (⟨#[88, 45, 76, 111, 110, 103, 45, 78, 97, 109, 101, 45, 79, 102, 45, 65, 45, 70, 105, 101, 108, 100]⟩ : ByteArray), (⟨#[65]⟩ : ByteArray)] : List ByteArray) : List ByteArray)).bind fun y199 => ((laws_at.f x1 0 3).bind fun t202 => (if 0 ≤ t202 then (if t202 < (y199.length : Int) then ((spec_ValueOf.f k x0).bind fun t204 => ((impl_FoldHeader.f k (rdOf ByteArray.empty y199 t202) t204).bind fun bt205 => ((spec_FoldHeader.f k (rdOf ByteArray.empty y199 t202) t204).bind fun bt207 => ((impl_UnfoldHeader.f k bt205.1).bind fun bt209 => (if bt205.2 = 0 then (if bt205.1.toList = bt207.1.toList then (if bt209.2.2 = 0 then (if bt209.1.toList = (rdOf ByteArray.empty y199 t202).toList then (if bt209.2.1.toList = t204.toList then ((impl_HeaderNameOK.f k (rdOf ByteArray.empty y199 t202)).bind fun t212 => (laws_FnFolds.j1 k (rdOf ByteArray.empty y199 t202) t204 bt205.1 (!t212))) else (laws_FnFolds.j1 k (rdOf ByteArray.empty y199 t202) t204 bt205.1 true)) else (laws_FnFolds.j1 k (rdOf ByteArray.empty y199 t202) t204 bt205.1 true)) else (laws_FnFolds.j1 k (rdOf ByteArray.empty y199 t202) t204 bt205.1 true)) else (laws_FnFolds.j1 k (rdOf ByteArray.empty y199 t202) t204 bt205.1 true)) else (laws_FnFolds.j1 k (rdOf ByteArray.empty y199 t202) t204 bt205.1 true)))))) else (none)) else (none))))
def laws_FnFolds.j1 : Nat → ByteArray → ByteArray → ByteArray → Bool → Option (Bool)
  | 0, _, _, _, _ => none
  | k + 1, x5, x6, x7, x75 => if x75 = true then (some false) else (laws_FnFolds.l0 k x5 x6 x7 0 0 0)
def laws_FnFolds.l0 : Nat → ByteArray → ByteArray → ByteArray → Int → Int → Int → Option (Bool)
  | 0, _, _, _, _, _, _ => none
  | k + 1, x5, x6, x7, x14, x15, x16 => if x16 < (x6.size : Int) then (if 0 ≤ x16 then (if (bt x6 x16) = 32 then (laws_FnFolds.l0 k x5 x6 x7 0 x15 (wrap64 (x16 + 1))) else (laws_FnFolds.l0 k x5 x6 x7 (wrap64 (x14 + 1)) (mx x15 (wrap64 (x14 + 1))) (wrap64 (x16 + 1)))) else (none)) else ((impl_LongestLine.f k x7).bind fun t213 => (some (decide (t213 ≤ (mx 78 (wrap64 ((wrap64 (x15 + (x5.size : Int))) + 2)))))))
end
def laws_FnFolds.f (k : Nat) (l0 : List Int) (l1 : List Int) : Option (Bool) := if (l0.length : Int) > 1048576 then (laws_FnFolds.j0 k l0 l1 true) else (laws_FnFolds.j0 k l0 l1 (decide ((l1.length : Int) > 1048576)))
theorem laws_FnFolds.mono_l : ∀ k, (∀ y0 y1 y2, LeO (laws_FnFolds.j0 k y0 y1 y2) (laws_FnFolds.j0 (k + 1) y0 y1 y2)) ∧ (∀ y0 y1 y2 y3, LeO (laws_FnFolds.j1 k y0 y1 y2 y3) (laws_FnFolds.j1 (k + 1) y0 y1 y2 y3)) ∧ (∀ y0 y1 y2 y3 y4 y5, LeO (laws_FnFolds.l0 k y0 y1 y2 y3 y4 y5) (laws_FnFolds.l0 (k + 1) y0 y1 y2 y3 y4 y5))
  | 0 => ⟨fun _ _ _ r h => by simp [laws_FnFolds.j0] at h, fun _ _ _ _ r h => by simp [laws_FnFolds.j1] at h, fun _ _ _ _ _ _ r h => by simp [laws_FnFolds.l0] at h⟩
  | k + 1 => by
    obtain ⟨ih0, ih1, ih2⟩ := laws_FnFolds.mono_l k
    refine ⟨?_, ?_, ?_⟩
    · intro y0 y1 y2
      unfold laws_FnFolds.j0
      repeat' first
      | (with_reducible exact ih0 _ _ _)
      | (with_reducible exact ih1 _ _ _ _)
      | (with_reducible exact ih2 _ _ _ _ _ _)
      | (with_reducible exact impl_FoldHeader.mono _ _ _)
      | (with_reducible exact impl_HeaderNameOK.mono _ _)
      | (with_reducible exact impl_LongestLine.mono _ _)
      | (with_reducible exact impl_UnfoldHeader.mono _ _)
      | (with_reducible exact spec_FoldHeader.mono _ _ _)
      | (with_reducible exact spec_ValueOf.mono _ _)
      | (with_reducible exact LeO.refl _)
      | (with_reducible exact LeO.none _)
      | (with_reducible refine LeO.ite ?_ ?_)
      | (with_reducible refine LeO.bind ?_ (fun _ => ?_))
      | exact ih0 _ _ _
      | exact ih1 _ _ _ _
      | exact ih2 _ _ _ _ _ _
      | exact impl_FoldHeader.mono _ _ _
      | exact impl_HeaderNameOK.mono _ _
      | exact impl_LongestLine.mono _ _
      | exact impl_UnfoldHeader.mono _ _
      | exact spec_FoldHeader.mono _ _ _
      | exact spec_ValueOf.mono _ _
      | exact LeO.none _
      | refine LeO.ite ?_ ?_
      | refine LeO.bind ?_ (fun _ => ?_)
    · intro y0 y1 y2 y3
      unfold laws_FnFolds.j1
      repeat' first
      | (with_reducible exact ih0 _ _ _)
      | (with_reducible exact ih1 _ _ _ _)
      | (with_reducible exact ih2 _ _ _ _ _ _)
      | (with_reducible exact impl_FoldHeader.mono _ _ _)
      | (with_reducible exact impl_HeaderNameOK.mono _ _)
      | (with_reducible exact impl_LongestLine.mono _ _)
      | (with_reducible exact impl_UnfoldHeader.mono _ _)
      | (with_reducible exact spec_FoldHeader.mono _ _ _)
      | (with_reducible exact spec_ValueOf.mono _ _)
      | (with_reducible exact LeO.refl _)
      | (with_reducible exact LeO.none _)
      | (with_reducible refine LeO.ite ?_ ?_)
      | (with_reducible refine LeO.bind ?_ (fun _ => ?_))
      | exact ih0 _ _ _
      | exact ih1 _ _ _ _
      | exact ih2 _ _ _ _ _ _
      | exact impl_FoldHeader.mono _ _ _
      | exact impl_HeaderNameOK.mono _ _
      | exact impl_LongestLine.mono _ _
      | exact impl_UnfoldHeader.mono _ _
      | exact spec_FoldHeader.mono _ _ _
      | exact spec_ValueOf.mono _ _
      | exact LeO.none _
      | refine LeO.ite ?_ ?_
      | refine LeO.bind ?_ (fun _ => ?_)
    · intro y0 y1 y2 y3 y4 y5
      unfold laws_FnFolds.l0
      repeat' first
      | (with_reducible exact ih0 _ _ _)
      | (with_reducible exact ih1 _ _ _ _)
      | (with_reducible exact ih2 _ _ _ _ _ _)
      | (with_reducible exact impl_FoldHeader.mono _ _ _)
      | (with_reducible exact impl_HeaderNameOK.mono _ _)
      | (with_reducible exact impl_LongestLine.mono _ _)
      | (with_reducible exact impl_UnfoldHeader.mono _ _)
      | (with_reducible exact spec_FoldHeader.mono _ _ _)
      | (with_reducible exact spec_ValueOf.mono _ _)
      | (with_reducible exact LeO.refl _)
      | (with_reducible exact LeO.none _)
      | (with_reducible refine LeO.ite ?_ ?_)
      | (with_reducible refine LeO.bind ?_ (fun _ => ?_))
      | exact ih0 _ _ _
      | exact ih1 _ _ _ _
      | exact ih2 _ _ _ _ _ _
      | exact impl_FoldHeader.mono _ _ _
      | exact impl_HeaderNameOK.mono _ _
      | exact impl_LongestLine.mono _ _
      | exact impl_UnfoldHeader.mono _ _
      | exact spec_FoldHeader.mono _ _ _
      | exact spec_ValueOf.mono _ _
      | exact LeO.none _
      | refine LeO.ite ?_ ?_
      | refine LeO.bind ?_ (fun _ => ?_)
theorem laws_FnFolds.mono : ∀ a0 a1 k, LeO (laws_FnFolds.f k a0 a1) (laws_FnFolds.f (k + 1) a0 a1) := by
  intro a0 a1 k
  obtain ⟨ih0, ih1, ih2⟩ := laws_FnFolds.mono_l k
  unfold laws_FnFolds.f
  repeat' first
      | (with_reducible exact ih0 _ _ _)
      | (with_reducible exact ih1 _ _ _ _)
      | (with_reducible exact ih2 _ _ _ _ _ _)
      | (with_reducible exact impl_FoldHeader.mono _ _ _)
      | (with_reducible exact impl_HeaderNameOK.mono _ _)
      | (with_reducible exact impl_LongestLine.mono _ _)
      | (with_reducible exact impl_UnfoldHeader.mono _ _)
      | (with_reducible exact spec_FoldHeader.mono _ _ _)
      | (with_reducible exact spec_ValueOf.mono _ _)
      | (with_reducible exact LeO.refl _)
      | (with_reducible exact LeO.none _)
      | (with_reducible refine LeO.ite ?_ ?_)
      | (with_reducible refine LeO.bind ?_ (fun _ => ?_))
      | exact ih0 _ _ _
      | exact ih1 _ _ _ _
      | exact ih2 _ _ _ _ _ _
      | exact impl_FoldHeader.mono _ _ _
      | exact impl_HeaderNameOK.mono _ _
      | exact impl_LongestLine.mono _ _
      | exact impl_UnfoldHeader.mono _ _
      | exact spec_FoldHeader.mono _ _ _
      | exact spec_ValueOf.mono _ _
      | exact LeO.none _
      | refine LeO.ite ?_ ?_
      | refine LeO.bind ?_ (fun _ => ?_)
set_option maxHeartbeats 8000000 in
set_option maxRecDepth 100000 in
theorem laws_FnFolds.calls (k : Nat) (A0 : Option Addr) (c0 : Nat) (l0 : List Int) (A1 : Option Addr) (c1 : Nat) (l1 : List Int) (r : Bool) (w : World) (hr0 : Kd.C (Kd.int .u8) w A0 l0.length l0) (hc0 : l0.length ≤ c0) (hr1 : Kd.C (Kd.int .u8) w A1 l1.length l1) (hc1 : l1.length ≤ c1) (h : laws_FnFolds.f k l0 l1 = some r) (hG : Glob w) :
    Calls Tryd.prog 11 #[.slice A0 l0.length c0, .slice A1 l1.length c1] w fun e w' => e = .returned (.bool r) ∧ Below w.heap.size w w' := by
  have HG := Aside0.mk hG
  clear hG
  have HR0 := Aside0.mk hr0
  have HC0 := Aside0.mk hc0
  clear hr0 hc0
  have HR1 := Aside0.mk hr1
  have HC1 := Aside0.mk hc1
  clear hr1 hc1
  have HB := Aside0.mk (Below.refl w.heap.size w)
  have H : (if (l0.length : Int) > 1048576 then (laws_FnFolds.j0 k l0 l1 true) else (laws_FnFolds.j0 k l0 l1 (decide ((l1.length : Int) > 1048576)))) = some r := h
  clear h
  have HC3 := Aside0.mk H
  clear H
  go_enter Tryd.func11, Tryd.ntmps11
  go_upto_region 1 with (fail)
  go_cut [24] (fun v24 wc => ∃ (kq : Nat) (x24_2 : Bool), v24 = .bool x24_2 ∧ Aside0 (laws_FnFolds.j0 kq l0 l1 x24_2 = some r) ∧ Aside0 (kq ≤ k) ∧ Aside0 (Below w.heap.size w wc))
  case first =>
    have H := HC3.out
    clear HC3
    by_cases c4 : (l0.length : Int) > 1048576
    · rw [if_pos c4] at H
      have c4b0 : decide (1048576 < (l0.length : Int)) = true := decide_eq_true c4
      have c4b1 : decide (1048576 < l0.length) = true := decide_eq_true (by omega)
      clear c4
      (first | rw [c4b0] | (simp only [i64_w, i32_w]; rw [c4b0]) | skip)
      have H' := Aside0.mk H
      clear H
      go_wp2
      go_meet
      case rel => exact ⟨_, (true), (by first | rfl | (simp; done) | (simp [*]; done) | (simp; rfl) | (simp; unfold wrap64; omega)), H', ⟨by first | omega | exact Nat.le_refl _⟩, ⟨by repeat (first | (with_reducible first | exact HB.out | apply below_alloc | apply pw_below_drewN | apply below_drew1) | exact HB.out)⟩⟩
    · rw [if_neg c4] at H
      have c4b0 : decide (1048576 < (l0.length : Int)) = false := decide_eq_false c4
      have c4b1 : decide (1048576 < l0.length) = false := decide_eq_false (by omega)
      clear c4
      (first | rw [c4b0] | (simp only [i64_w, i32_w]; rw [c4b0]) | skip)
      have H' := Aside0.mk H
      clear H
      go_wp2
      go_meet
      case rel => exact ⟨_, (decide ((l1.length : Int) > 1048576)), (by first | rfl | (simp; done) | (simp [*]; done) | (simp; rfl) | (simp; unfold wrap64; omega)), H', ⟨by first | omega | exact Nat.le_refl _⟩, ⟨by repeat (first | (with_reducible first | exact HB.out | apply below_alloc | apply pw_below_drewN | apply below_drew1) | exact HB.out)⟩⟩
  case rest =>
    clear HC3
    try clear c1
    try clear p2
    try clear c4
    try clear c4b0
    try clear c4b1
    obtain ⟨kq, x24_2, rfl, HA, HJ2, HB⟩ := hcut
    cases kq with
    | zero => exact absurd HA.out (by simp [laws_FnFolds.j0])
    | succ kj2 =>
      have H := HA.out
      clear HA
      simp only [laws_FnFolds.j0] at H
      by_cases c5 : x24_2 = true
      · subst c5
        have H1 : (some true) = some r := by rw [if_pos rfl] at H; exact H
        clear H
        have H := H1
        clear H1
        obtain rfl := Option.some.inj H
        go_wp2
        go_ret
        exact ⟨by first | rfl | (simp [errW_none, errW_some] <;> rfl) | (simp [*, errW_none, errW_some] <;> rfl), by repeat (first | (with_reducible first | exact HB.out | apply below_alloc | apply pw_below_drewN | apply below_drew1) | exact HB.out)⟩
      · replace c5 := Bool.eq_false_iff.mpr c5
        subst c5
        have H1 : ((some (([(⟨#[83, 117, 98, 106, 101, 99, 116]⟩ : ByteArray), (⟨#[88, 45, 76, 111, 110, 103, 45, 78, 97, 109, 101, 45, 79, 102, 45, 65, 45, 70, 105, 101, 108, 100]⟩ : ByteArray), (⟨#[65]⟩ : ByteArray)] : List ByteArray) : List ByteArray)).bind fun y199 => ((laws_at.f l1 0 3).bind fun t202 => (if 0 ≤ t202 then (if t202 < (y199.length : Int) then ((spec_ValueOf.f kj2 l0).bind fun t204 => ((impl_FoldHeader.f kj2 (rdOf ByteArray.empty y199 t202) t204).bind fun bt205 => ((spec_FoldHeader.f kj2 (rdOf ByteArray.empty y199 t202) t204).bind fun bt207 => ((impl_UnfoldHeader.f kj2 bt205.1).bind fun bt209 => (if bt205.2 = 0 then (if bt205.1.toList = bt207.1.toList then (if bt209.2.2 = 0 then (if bt209.1.toList = (rdOf ByteArray.empty y199 t202).toList then (if bt209.2.1.toList = t204.toList then ((impl_HeaderNameOK.f kj2 (rdOf ByteArray.empty y199 t202)).bind fun t212 => (laws_FnFolds.j1 kj2 (rdOf ByteArray.empty y199 t202) t204 bt205.1 (!t212))) else (laws_FnFolds.j1 kj2 (rdOf ByteArray.empty y199 t202) t204 bt205.1 true)) else (laws_FnFolds.j1 kj2 (rdOf ByteArray.empty y199 t202) t204 bt205.1 true)) else (laws_FnFolds.j1 kj2 (rdOf ByteArray.empty y199 t202) t204 bt205.1 true)) else (laws_FnFolds.j1 kj2 (rdOf ByteArray.empty y199 t202) t204 bt205.1 true)) else (laws_FnFolds.j1 kj2 (rdOf ByteArray.empty y199 t202) t204 bt205.1 true)))))) else (none)) else (none)))) = some r := by rw [if_neg (show ¬ (false = true) by decide)] at H; exact H
        clear H
        have H := H1
        clear H1
        obtain ⟨y199, hy199⟩ : ∃ y_ : List ByteArray, y_ = (([(⟨#[83, 117, 98, 106, 101, 99, 116]⟩ : ByteArray), (⟨#[88, 45, 76, 111, 110, 103, 45, 78, 97, 109, 101, 45, 79, 102, 45, 65, 45, 70, 105, 101, 108, 100]⟩ : ByteArray), (⟨#[65]⟩ : ByteArray)] : List ByteArray)) := ⟨_, rfl⟩
        replace H : ((laws_at.f l1 0 3).bind fun t202 => (if 0 ≤ t202 then (if t202 < (y199.length : Int) then ((spec_ValueOf.f kj2 l0).bind fun t204 => ((impl_FoldHeader.f kj2 (rdOf ByteArray.empty y199 t202) t204).bind fun bt205 => ((spec_FoldHeader.f kj2 (rdOf ByteArray.empty y199 t202) t204).bind fun bt207 => ((impl_UnfoldHeader.f kj2 bt205.1).bind fun bt209 => (if bt205.2 = 0 then (if bt205.1.toList = bt207.1.toList then (if bt209.2.2 = 0 then (if bt209.1.toList = (rdOf ByteArray.empty y199 t202).toList then (if bt209.2.1.toList = t204.toList then ((impl_HeaderNameOK.f kj2 (rdOf ByteArray.empty y199 t202)).bind fun t212 => (laws_FnFolds.j1 kj2 (rdOf ByteArray.empty y199 t202) t204 bt205.1 (!t212))) else (laws_FnFolds.j1 kj2 (rdOf ByteArray.empty y199 t202) t204 bt205.1 true)) else (laws_FnFolds.j1 kj2 (rdOf ByteArray.empty y199 t202) t204 bt205.1 true)) else (laws_FnFolds.j1 kj2 (rdOf ByteArray.empty y199 t202) t204 bt205.1 true)) else (laws_FnFolds.j1 kj2 (rdOf ByteArray.empty y199 t202) t204 bt205.1 true)) else (laws_FnFolds.j1 kj2 (rdOf ByteArray.empty y199 t202) t204 bt205.1 true)))))) else (none)) else (none))) = some r := by first | (rw [hy199]; with_reducible exact H) | (have H2_ := (Option.bind_some _ _).symm.trans H; rw [hy199]; with_reducible exact H2_) | (have H2_ := (Option.bind_some _ _).symm.trans H; with_reducible exact H2_) | with_reducible exact H | (rw [hy199]; exact H) | exact H
        have Ny199 := Aside0.mk hy199
        clear hy199
        replace H := Option.bind_eq_some_iff.mp H
        obtain ⟨t202, A60, H⟩ := H
        replace H : (if 0 ≤ t202 then (if t202 < (y199.length : Int) then ((spec_ValueOf.f kj2 l0).bind fun t204 => ((impl_FoldHeader.f kj2 (rdOf ByteArray.empty y199 t202) t204).bind fun bt205 => ((spec_FoldHeader.f kj2 (rdOf ByteArray.empty y199 t202) t204).bind fun bt207 => ((impl_UnfoldHeader.f kj2 bt205.1).bind fun bt209 => (if bt205.2 = 0 then (if bt205.1.toList = bt207.1.toList then (if bt209.2.2 = 0 then (if bt209.1.toList = (rdOf ByteArray.empty y199 t202).toList then (if bt209.2.1.toList = t204.toList then ((impl_HeaderNameOK.f kj2 (rdOf ByteArray.empty y199 t202)).bind fun t212 => (laws_FnFolds.j1 kj2 (rdOf ByteArray.empty y199 t202) t204 bt205.1 (!t212))) else (laws_FnFolds.j1 kj2 (rdOf ByteArray.empty y199 t202) t204 bt205.1 true)) else (laws_FnFolds.j1 kj2 (rdOf ByteArray.empty y199 t202) t204 bt205.1 true)) else (laws_FnFolds.j1 kj2 (rdOf ByteArray.empty y199 t202) t204 bt205.1 true)) else (laws_FnFolds.j1 kj2 (rdOf ByteArray.empty y199 t202) t204 bt205.1 true)) else (laws_FnFolds.j1 kj2 (rdOf ByteArray.empty y199 t202) t204 bt205.1 true)))))) else (none)) else (none)) = some r := H
        have A6 := Aside0.mk A60
        clear A60
        by_cases c7 : 0 ≤ t202
        · rw [if_pos c7] at H
          have c7b0 : decide (0 ≤ t202) = true := decide_eq_true c7
          clear c7
          by_cases c8 : t202 < (y199.length : Int)
          · rw [if_pos c8] at H
            have c8b0 : decide (t202 < (y199.length : Int)) = true := decide_eq_true c8
            clear c8
            replace H := Option.bind_eq_some_iff.mp H
            obtain ⟨t204, A90, H⟩ := H
            replace H : ((impl_FoldHeader.f kj2 (rdOf ByteArray.empty y199 t202) t204).bind fun bt205 => ((spec_FoldHeader.f kj2 (rdOf ByteArray.empty y199 t202) t204).bind fun bt207 => ((impl_UnfoldHeader.f kj2 bt205.1).bind fun bt209 => (if bt205.2 = 0 then (if bt205.1.toList = bt207.1.toList then (if bt209.2.2 = 0 then (if bt209.1.toList = (rdOf ByteArray.empty y199 t202).toList then (if bt209.2.1.toList = t204.toList then ((impl_HeaderNameOK.f kj2 (rdOf ByteArray.empty y199 t202)).bind fun t212 => (laws_FnFolds.j1 kj2 (rdOf ByteArray.empty y199 t202) t204 bt205.1 (!t212))) else (laws_FnFolds.j1 kj2 (rdOf ByteArray.empty y199 t202) t204 bt205.1 true)) else (laws_FnFolds.j1 kj2 (rdOf ByteArray.empty y199 t202) t204 bt205.1 true)) else (laws_FnFolds.j1 kj2 (rdOf ByteArray.empty y199 t202) t204 bt205.1 true)) else (laws_FnFolds.j1 kj2 (rdOf ByteArray.empty y199 t202) t204 bt205.1 true)) else (laws_FnFolds.j1 kj2 (rdOf ByteArray.empty y199 t202) t204 bt205.1 true))))) = some r := H
            have A9 := Aside0.mk A90
            clear A90
            replace H := Option.bind_eq_some_iff.mp H
            obtain ⟨⟨t205, t206⟩, A100, H⟩ := H
            replace H : ((spec_FoldHeader.f kj2 (rdOf ByteArray.empty y199 t202) t204).bind fun bt207 => ((impl_UnfoldHeader.f kj2 t205).bind fun bt209 => (if t206 = 0 then (if t205.toList = bt207.1.toList then (if bt209.2.2 = 0 then (if bt209.1.toList = (rdOf ByteArray.empty y199 t202).toList then (if bt209.2.1.toList = t204.toList then ((impl_HeaderNameOK.f kj2 (rdOf ByteArray.empty y199 t202)).bind fun t212 => (laws_FnFolds.j1 kj2 (rdOf ByteArray.empty y199 t202) t204 t205 (!t212))) else (laws_FnFolds.j1 kj2 (rdOf ByteArray.empty y199 t202) t204 t205 true)) else (laws_FnFolds.j1 kj2 (rdOf ByteArray.empty y199 t202) t204 t205 true)) else (laws_FnFolds.j1 kj2 (rdOf ByteArray.empty y199 t202) t204 t205 true)) else (laws_FnFolds.j1 kj2 (rdOf ByteArray.empty y199 t202) t204 t205 true)) else (laws_FnFolds.j1 kj2 (rdOf ByteArray.empty y199 t202) t204 t205 true)))) = some r := H
            have A10 := Aside0.mk A100
            clear A100
            replace H := Option.bind_eq_some_iff.mp H
            obtain ⟨⟨t207, t208⟩, A110, H⟩ := H
            replace H : ((impl_UnfoldHeader.f kj2 t205).bind fun bt209 => (if t206 = 0 then (if t205.toList = t207.toList then (if bt209.2.2 = 0 then (if bt209.1.toList = (rdOf ByteArray.empty y199 t202).toList then (if bt209.2.1.toList = t204.toList then ((impl_HeaderNameOK.f kj2 (rdOf ByteArray.empty y199 t202)).bind fun t212 => (laws_FnFolds.j1 kj2 (rdOf ByteArray.empty y199 t202) t204 t205 (!t212))) else (laws_FnFolds.j1 kj2 (rdOf ByteArray.empty y199 t202) t204 t205 true)) else (laws_FnFolds.j1 kj2 (rdOf ByteArray.empty y199 t202) t204 t205 true)) else (laws_FnFolds.j1 kj2 (rdOf ByteArray.empty y199 t202) t204 t205 true)) else (laws_FnFolds.j1 kj2 (rdOf ByteArray.empty y199 t202) t204 t205 true)) else (laws_FnFolds.j1 kj2 (rdOf ByteArray.empty y199 t202) t204 t205 true))) = some r := H
            have A11 := Aside0.mk A110
            clear A110
            replace H := Option.bind_eq_some_iff.mp H
            obtain ⟨⟨t209, t210, t211⟩, A120, H⟩ := H
            replace H : (if t206 = 0 then (if t205.toList = t207.toList then (if t211 = 0 then (if t209.toList = (rdOf ByteArray.empty y199 t202).toList then (if t210.toList = t204.toList then ((impl_HeaderNameOK.f kj2 (rdOf ByteArray.empty y199 t202)).bind fun t212 => (laws_FnFolds.j1 kj2 (rdOf ByteArray.empty y199 t202) t204 t205 (!t212))) else (laws_FnFolds.j1 kj2 (rdOf ByteArray.empty y199 t202) t204 t205 true)) else (laws_FnFolds.j1 kj2 (rdOf ByteArray.empty y199 t202) t204 t205 true)) else (laws_FnFolds.j1 kj2 (rdOf ByteArray.empty y199 t202) t204 t205 true)) else (laws_FnFolds.j1 kj2 (rdOf ByteArray.empty y199 t202) t204 t205 true)) else (laws_FnFolds.j1 kj2 (rdOf ByteArray.empty y199 t202) t204 t205 true)) = some r := H
            have A12 := Aside0.mk A120
            clear A120
            have HC13 := Aside0.mk H
            clear H
            go_upto_region 8 with (first | ((with_reducible refine gate_dst (N := 25) rfl ?_); (try (refine gate_guard (by rfl) ?_; dsimp only)); refine Kd.R_lit Kd.string _ 9 ?hg (N := 25) ?hd (xs := ([(⟨#[83, 117, 98, 106, 101, 99, 116]⟩ : ByteArray), (⟨#[88, 45, 76, 111, 110, 103, 45, 78, 97, 109, 101, 45, 79, 102, 45, 65, 45, 70, 105, 101, 108, 100]⟩ : ByteArray), (⟨#[65]⟩ : ByteArray)] : List ByteArray)) (inner := [.string (⟨#[83, 117, 98, 106, 101, 99, 116]⟩ : ByteArray), .string (⟨#[88, 45, 76, 111, 110, 103, 45, 78, 97, 109, 101, 45, 79, 102, 45, 65, 45, 70, 105, 101, 108, 100]⟩ : ByteArray), .string (⟨#[65]⟩ : ByteArray)]) (ok := fun _ => True) (okp := fun _ => True) ?hr ?hp (fun _ hk => hk) trivial (Below.refl _ _) (Nat.le_refl _) (by simp) ?_; (case hd => rfl); (case hg => rfl); (case hr => first | (go_simp; done) | (go_simp; rfl)); (case hp => exact (Reps.one (show Kd.M Kd.string _ _ _ (⟨#[83, 117, 98, 106, 101, 99, 116]⟩ : ByteArray) [.string (⟨#[83, 117, 98, 106, 101, 99, 116]⟩ : ByteArray)] from rfl) (Reps.one (show Kd.M Kd.string _ _ _ (⟨#[88, 45, 76, 111, 110, 103, 45, 78, 97, 109, 101, 45, 79, 102, 45, 65, 45, 70, 105, 101, 108, 100]⟩ : ByteArray) [.string (⟨#[88, 45, 76, 111, 110, 103, 45, 78, 97, 109, 101, 45, 79, 102, 45, 65, 45, 70, 105, 101, 108, 100]⟩ : ByteArray)] from rfl) (Reps.one (show Kd.M Kd.string _ _ _ (⟨#[65]⟩ : ByteArray) [.string (⟨#[65]⟩ : ByteArray)] from rfl) (Reps.none _ _))))); intro v200 w14 ho15 hb hg_ hnew_; clear hg_ hnew_; (first | rw [← Ny199.out] at ho15 | (simp only [Int.reduceToNat] at ho15; rw [← Ny199.out] at ho15)); have n0_ := Aside0.mk (Kd.R_lower ho15 (below_size (by repeat (first | (with_reducible first | exact HB.out | apply below_alloc | apply pw_below_drewN | apply below_drew1) | exact HB.out)))); have n1_ := Aside0.mk (below_step (by repeat (first | (with_reducible first | exact HB.out | apply below_alloc | apply pw_below_drewN | apply below_drew1) | exact HB.out)) hb); clear HB; have HO201 := n0_; have HB := n1_; clear n0_ n1_; clear hb ho15) | ((with_reducible refine gate_callee (f := 30) rfl ?_); refine goesL_ (some 27) rfl rfl Tryd.func30 (by kernel_rfl) rfl #[.slice A1 l1.length c1, .int .i64 0, .int .i64 3] rfl (by (try simp only [List.map_toArray, List.map_cons, List.map_nil]); first | done | rfl | (simp only [List.length_drop, List.length_take]; rfl)) ?_; (with_reducible refine (laws_at.calls _ _ l1 0 3 t202 _ ?side1 ?side2 A6.out).mono ?_); (case side1 => repeat (first | exact (Kd.C_below HR1.out HB.out) | (with_reducible refine Kd.C_alloc ?_ _) | (with_reducible refine Kd.C_drewN ?_ _) | (with_reducible refine Kd.C_drew ?_))); (case side2 => exact HC1.out); rintro e w' ⟨rfl, ⟨nd, rfl⟩⟩; refine ⟨_, rfl, ?_⟩; obtain ⟨Ao16, co16, eo16⟩ := Kd.R_slice HO201.out; subst eo16; have p203 : 0 ≤ (t202 : Int) := of_decide_eq_true (by first | (with_reducible assumption) | assumption); have q203 : t202 < (y199.length : Int) := of_decide_eq_true (by first | (with_reducible assumption) | assumption); obtain ⟨ad203, e203, hx203_0⟩ := Kd.at_string (Kd.R_reads' HO201.out).2.2 t202 p203 q203; cases e203; replace p203 := eq_true p203; replace q203 := eq_true q203) | ((with_reducible refine gate_callee (f := 31) rfl ?_); refine goesL_ (some 31) rfl rfl Tryd.func31 (by kernel_rfl) rfl #[.slice A0 l0.length c0] rfl (by (try simp only [List.map_toArray, List.map_cons, List.map_nil]); first | done | rfl | (simp only [List.length_drop, List.length_take]; rfl)) ?_; (with_reducible refine (spec_ValueOf.calls kj2 _ _ l0 t204 _ ?side1 ?side2 A9.out).mono ?_); (case side1 => repeat (first | exact (Kd.C_below HR0.out (by repeat (first | (with_reducible first | exact HB.out | apply below_alloc | apply pw_below_drewN | apply below_drew1) | exact HB.out))) | (with_reducible refine Kd.C_alloc ?_ _) | (with_reducible refine Kd.C_drewN ?_ _) | (with_reducible refine Kd.C_drew ?_))); (case side2 => exact HC0.out); rintro e w17 ⟨rfl, hb⟩; refine ⟨_, rfl, ?_⟩; have n0_ := Aside0.mk (Kd.R_below (by (with_reducible repeat (first | apply Kd.R_alloc | apply Kd.R_drewN | apply Kd.R_drew)); exact HO201.out) hb); have n1_ := Aside0.mk (below_step (by repeat (first | (with_reducible first | exact HB.out | apply below_alloc | apply pw_below_drewN | apply below_drew1) | exact HB.out)) hb); clear HO201; clear HB; have HO201 := n0_; have HB := n1_; clear n0_ n1_; (try clear hb); (try clear hb2); (try clear hk); (try clear hi)) | ((with_reducible refine gate_callee (f := 27) rfl ?_); refine goesL_ (some 35) rfl rfl Tryd.func27 (by kernel_rfl) rfl #[.string (rdOf ByteArray.empty y199 t202), .string t204] rfl (by (try simp only [List.map_toArray, List.map_cons, List.map_nil]); first | done | rfl | (simp only [List.length_drop, List.length_take]; rfl)) ?_; (with_reducible refine (impl_FoldHeader.calls kj2 (rdOf ByteArray.empty y199 t202) t204 t205 t206 _ A10.out (Glob.of_below HG.out (by repeat (first | (with_reducible first | exact HB.out | apply below_alloc | apply pw_below_drewN | apply below_drew1) | exact HB.out)))).mono ?_); rintro e w18 ⟨rfl, hb⟩; refine ⟨_, rfl, ?_⟩; have n0_ := Aside0.mk (Kd.R_below (by (with_reducible repeat (first | apply Kd.R_alloc | apply Kd.R_drewN | apply Kd.R_drew)); exact HO201.out) hb); have n1_ := Aside0.mk (below_step (by repeat (first | (with_reducible first | exact HB.out | apply below_alloc | apply pw_below_drewN | apply below_drew1) | exact HB.out)) hb); clear HO201; clear HB; have HO201 := n0_; have HB := n1_; clear n0_ n1_; (try clear hb); (try clear hb2); (try clear hk); (try clear hi)) | ((with_reducible refine gate_callee (f := 26) rfl ?_); refine goesL_ (some 41) rfl rfl Tryd.func26 (by kernel_rfl) rfl #[.string (rdOf ByteArray.empty y199 t202), .string t204] rfl (by (try simp only [List.map_toArray, List.map_cons, List.map_nil]); first | done | rfl | (simp only [List.length_drop, List.length_take]; rfl)) ?_; (with_reducible refine (spec_FoldHeader.calls kj2 (rdOf ByteArray.empty y199 t202) t204 t207 t208 _ A11.out).mono ?_); rintro e w19 ⟨rfl, hb⟩; refine ⟨_, rfl, ?_⟩; have n0_ := Aside0.mk (Kd.R_below (by (with_reducible repeat (first | apply Kd.R_alloc | apply Kd.R_drewN | apply Kd.R_drew)); exact HO201.out) hb); have n1_ := Aside0.mk (below_step (by repeat (first | (with_reducible first | exact HB.out | apply below_alloc | apply pw_below_drewN | apply below_drew1) | exact HB.out)) hb); clear HO201; clear HB; have HO201 := n0_; have HB := n1_; clear n0_ n1_; (try clear hb); (try clear hb2); (try clear hk); (try clear hi)) | ((with_reducible refine gate_callee (f := 29) rfl ?_); refine goesL_ (some 46) rfl rfl Tryd.func29 (by kernel_rfl) rfl #[.string t205] rfl (by (try simp only [List.map_toArray, List.map_cons, List.map_nil]); first | done | rfl | (simp only [List.length_drop, List.length_take]; rfl)) ?_; (with_reducible refine (impl_UnfoldHeader.calls kj2 t205 t209 t210 t211 _ A12.out (Glob.of_below HG.out (by repeat (first | (with_reducible first | exact HB.out | apply below_alloc | apply pw_below_drewN | apply below_drew1) | exact HB.out)))).mono ?_); rintro e w20 ⟨rfl, hb⟩; refine ⟨_, rfl, ?_⟩; have n0_ := Aside0.mk (Kd.R_below (by (with_reducible repeat (first | apply Kd.R_alloc | apply Kd.R_drewN | apply Kd.R_drew)); exact HO201.out) hb); have n1_ := Aside0.mk (below_step (by repeat (first | (with_reducible first | exact HB.out | apply below_alloc | apply pw_below_drewN | apply below_drew1) | exact HB.out)) hb); clear HO201; clear HB; have HO201 := n0_; have HB := n1_; clear n0_ n1_; (try clear hb); (try clear hb2); (try clear hk); (try clear hi)))
            (try simp only [Act.put, List.setIfInBounds_toArray, List.set_cons_zero, List.set_cons_succ])
            go_cut [75] (fun v75 wc => ∃ (kq : Nat) (x75_12 : Bool), v75 = .bool x75_12 ∧ Aside0 (laws_FnFolds.j1 kq (rdOf ByteArray.empty y199 t202) t204 t205 x75_12 = some r) ∧ Aside0 (kq ≤ kj2) ∧ Aside0 (Below w.heap.size w wc))
            case first =>
              have H := HC13.out
              clear HC13
              by_cases c21 : t206 = 0
              · rw [if_pos c21] at H
                have c21b0 : (t206 == 0) = true := beq_iff_eq.mpr c21
                have c21b1 : (t206 != 0) = false := bne_eq_false_iff_eq.mpr c21
                clear c21
                (first | rw [c21b0] | (simp only [i64_w, i32_w]; rw [c21b0]) | skip)
                by_cases c22 : t205.toList = t207.toList
                · rw [if_pos c22] at H
                  have c22b0 : (t205.toList == t207.toList) = true := beq_iff_eq.mpr c22
                  have c22b1 : (t205.toList != t207.toList) = false := bne_eq_false_iff_eq.mpr c22
                  clear c22
                  by_cases c23 : t211 = 0
                  · rw [if_pos c23] at H
                    have c23b0 : (t211 == 0) = true := beq_iff_eq.mpr c23
                    have c23b1 : (t211 != 0) = false := bne_eq_false_iff_eq.mpr c23
                    clear c23
                    by_cases c24 : t209.toList = (rdOf ByteArray.empty y199 t202).toList
                    · rw [if_pos c24] at H
                      have c24b0 : (t209.toList == (rdOf ByteArray.empty y199 t202).toList) = true := beq_iff_eq.mpr c24
                      have c24b1 : (t209.toList != (rdOf ByteArray.empty y199 t202).toList) = false := bne_eq_false_iff_eq.mpr c24
                      clear c24
                      by_cases c25 : t210.toList = t204.toList
                      · rw [if_pos c25] at H
                        have c25b0 : (t210.toList == t204.toList) = true := beq_iff_eq.mpr c25
                        have c25b1 : (t210.toList != t204.toList) = false := bne_eq_false_iff_eq.mpr c25
                        clear c25
                        replace H := Option.bind_eq_some_iff.mp H
                        obtain ⟨t212, A260, H⟩ := H
                        replace H : (laws_FnFolds.j1 kj2 (rdOf ByteArray.empty y199 t202) t204 t205 (!t212)) = some r := H
                        have A26 := Aside0.mk A260
                        clear A260
                        have H' := Aside0.mk H
                        clear H
                        go_wp2_with (first | (go_at_call 32; (with_reducible refine (impl_HeaderNameOK.calls kj2 (rdOf ByteArray.empty y199 t202) t212 _ A26.out (Glob.of_below HG.out (by repeat (first | (with_reducible first | exact HB.out | apply below_alloc | apply pw_below_drewN | apply below_drew1) | exact HB.out)))).mono ?_); rintro e w27 ⟨rfl, hb⟩; have n0_ := Aside0.mk (Kd.R_below (by (with_reducible repeat (first | apply Kd.R_alloc | apply Kd.R_drewN | apply Kd.R_drew)); exact HO201.out) hb); have n1_ := Aside0.mk (below_step (by repeat (first | (with_reducible first | exact HB.out | apply below_alloc | apply pw_below_drewN | apply below_drew1) | exact HB.out)) hb); clear HO201; clear HB; have HO201 := n0_; have HB := n1_; clear n0_ n1_; (try clear hb); (try clear hb2); (try clear hk); (try clear hi)))
                        go_meet
                        case rel => exact ⟨_, (!t212), (by first | rfl | (simp; done) | (simp [*]; done) | (simp; rfl) | (simp; unfold wrap64; omega)), H', ⟨by have := HJ2.out; first | omega | exact Nat.le_refl _⟩, ⟨by repeat (first | (with_reducible first | exact HB.out | apply below_alloc | apply pw_below_drewN | apply below_drew1) | exact HB.out)⟩⟩
                      · rw [if_neg c25] at H
                        have c25b0 : (t210.toList == t204.toList) = false := beq_eq_false_iff_ne.mpr c25
                        have c25b1 : (t210.toList != t204.toList) = true := bne_iff_ne.mpr c25
                        have H' := Aside0.mk H
                        clear H
                        go_wp2
                        go_meet
                        case rel => exact ⟨_, (true), (by first | rfl | (simp; done) | (simp [*]; done) | (simp; rfl) | (simp; unfold wrap64; omega)), H', ⟨by have := HJ2.out; first | omega | exact Nat.le_refl _⟩, ⟨by repeat (first | (with_reducible first | exact HB.out | apply below_alloc | apply pw_below_drewN | apply below_drew1) | exact HB.out)⟩⟩
                    · rw [if_neg c24] at H
                      have c24b0 : (t209.toList == (rdOf ByteArray.empty y199 t202).toList) = false := beq_eq_false_iff_ne.mpr c24
                      have c24b1 : (t209.toList != (rdOf ByteArray.empty y199 t202).toList) = true := bne_iff_ne.mpr c24
                      have H' := Aside0.mk H
                      clear H
                      go_wp2
                      go_meet
                      case rel => exact ⟨_, (true), (by first | rfl | (simp; done) | (simp [*]; done) | (simp; rfl) | (simp; unfold wrap64; omega)), H', ⟨by have := HJ2.out; first | omega | exact Nat.le_refl _⟩, ⟨by repeat (first | (with_reducible first | exact HB.out | apply below_alloc | apply pw_below_drewN | apply below_drew1) | exact HB.out)⟩⟩
                  · rw [if_neg c23] at H
                    have c23b0 : (t211 == 0) = false := beq_eq_false_iff_ne.mpr c23
                    have c23b1 : (t211 != 0) = true := bne_iff_ne.mpr c23
                    have H' := Aside0.mk H
                    clear H
                    go_wp2
                    go_meet
                    case rel => exact ⟨_, (true), (by first | rfl | (simp; done) | (simp [*]; done) | (simp; rfl) | (simp; unfold wrap64; omega)), H', ⟨by have := HJ2.out; first | omega | exact Nat.le_refl _⟩, ⟨by repeat (first | (with_reducible first | exact HB.out | apply below_alloc | apply pw_below_drewN | apply below_drew1) | exact HB.out)⟩⟩
                · rw [if_neg c22] at H
                  have c22b0 : (t205.toList == t207.toList) = false := beq_eq_false_iff_ne.mpr c22
                  have c22b1 : (t205.toList != t207.toList) = true := bne_iff_ne.mpr c22
                  have H' := Aside0.mk H
                  clear H
                  go_wp2
                  go_meet
                  case rel => exact ⟨_, (true), (by first | rfl | (simp; done) | (simp [*]; done) | (simp; rfl) | (simp; unfold wrap64; omega)), H', ⟨by have := HJ2.out; first | omega | exact Nat.le_refl _⟩, ⟨by repeat (first | (with_reducible first | exact HB.out | apply below_alloc | apply pw_below_drewN | apply below_drew1) | exact HB.out)⟩⟩
              · rw [if_neg c21] at H
                have c21b0 : (t206 == 0) = false := beq_eq_false_iff_ne.mpr c21
                have c21b1 : (t206 != 0) = true := bne_iff_ne.mpr c21
                (first | rw [c21b0] | (simp only [i64_w, i32_w]; rw [c21b0]) | skip)
                have H' := Aside0.mk H
                clear H
                go_wp2
                go_meet
                case rel => exact ⟨_, (true), (by first | rfl | (simp; done) | (simp [*]; done) | (simp; rfl) | (simp; unfold wrap64; omega)), H', ⟨by have := HJ2.out; first | omega | exact Nat.le_refl _⟩, ⟨by repeat (first | (with_reducible first | exact HB.out | apply below_alloc | apply pw_below_drewN | apply below_drew1) | exact HB.out)⟩⟩
            case rest =>
              clear HC13
              try clear c1
              try clear c2
              try clear p2
              try clear q2
              try clear hx2
              try clear c3
              try clear c4
              try clear c4b0
              try clear c4b1
              try clear c5
              try clear c7
              try clear c7b0
              try clear c8
              try clear c8b0
              try clear c11
              try clear p20
              try clear q20
              try clear hx20
              try clear c21
              try clear c21b0
              try clear c21b1
              try clear c22
              try clear c22b0
              try clear c22b1
              try clear c23
              try clear c23b0
              try clear c23b1
              try clear c24
              try clear c24b0
              try clear c24b1
              try clear c25
              try clear c25b0
              try clear c25b1
              try clear c26
              try clear c27
              try clear hx203_0
              try clear p2
              try clear p203
              try clear q203
              obtain ⟨kq, x75_12, rfl, HA, HJ12, HB⟩ := hcut
              cases kq with
              | zero => exact absurd HA.out (by simp [laws_FnFolds.j1])
              | succ kj12 =>
                have H := HA.out
                clear HA
                simp only [laws_FnFolds.j1] at H
                by_cases c28 : x75_12 = true
                · subst c28
                  have H1 : (some false) = some r := by rw [if_pos rfl] at H; exact H
                  clear H
                  have H := H1
                  clear H1
                  obtain rfl := Option.some.inj H
                  go_wp2
                  go_ret
                  exact ⟨by first | rfl | (simp [errW_none, errW_some] <;> rfl) | (simp [*, errW_none, errW_some] <;> rfl), by repeat (first | (with_reducible first | exact HB.out | apply below_alloc | apply pw_below_drewN | apply below_drew1) | exact HB.out)⟩
                · replace c28 := Bool.eq_false_iff.mpr c28
                  subst c28
                  have H1 : (laws_FnFolds.l0 kj12 (rdOf ByteArray.empty y199 t202) t204 t205 0 0 0) = some r := by rw [if_neg (show ¬ (false = true) by decide)] at H; exact H
                  clear H
                  have H := H1
                  clear H1
                  have H' := Aside0.mk H
                  clear H
                  go_wp2
                  go_loopg [14, 15, 16] kj12 (fun kq v14 v15 v16 w' => ∃ (x14_3 : Int) (x15_3 : Int) (x16_3 : Int), v14 = .int .i64 x14_3 ∧ v15 = .int .i64 x15_3 ∧ v16 = .int .i64 x16_3 ∧ Aside0 (laws_FnFolds.l0 kq (rdOf ByteArray.empty y199 t202) t204 t205 x14_3 x15_3 x16_3 = some r) ∧ Aside0 (kq ≤ kj12) ∧ Aside0 (Below w.heap.size w w'))
                  case atStart => exact ⟨(0), (0), (0), (by first | rfl | (simp; done) | (simp [*]; done) | (simp; rfl) | (simp; unfold wrap64; omega)), (by first | rfl | (simp; done) | (simp [*]; done) | (simp; rfl) | (simp; unfold wrap64; omega)), (by first | rfl | (simp; done) | (simp [*]; done) | (simp; rfl) | (simp; unfold wrap64; omega)), H', ⟨Nat.le_refl _⟩, ⟨by repeat (first | (with_reducible first | exact HB.out | apply below_alloc | apply pw_below_drewN | apply below_drew1) | exact HB.out)⟩⟩
                  case round =>
                    clear H'
                    try clear c1
                    try clear c2
                    try clear p2
                    try clear q2
                    try clear hx2
                    try clear c3
                    try clear c4
                    try clear c4b0
                    try clear c4b1
                    try clear c5
                    try clear c7
                    try clear c7b0
                    try clear c8
                    try clear c8b0
                    try clear c11
                    try clear p20
                    try clear q20
                    try clear hx20
                    try clear c21
                    try clear c21b0
                    try clear c21b1
                    try clear c22
                    try clear c22b0
                    try clear c22b1
                    try clear c23
                    try clear c23b0
                    try clear c23b1
                    try clear c24
                    try clear c24b0
                    try clear c24b1
                    try clear c25
                    try clear c25b0
                    try clear c25b1
                    try clear c26
                    try clear c27
                    try clear c28
                    try clear hx203_0
                    try clear p2
                    try clear p20
                    try clear p203
                    try clear q2
                    try clear q20
                    try clear q203
                    obtain ⟨x14_3, x15_3, x16_3, rfl, rfl, rfl, HA, HK3, HB⟩ := hrel
                    cases gk with
                    | zero => exact absurd HA.out (by simp [laws_FnFolds.l0])
                    | succ k3 =>
                      have H := HA.out
                      clear HA
                      simp only [laws_FnFolds.l0] at H
                      by_cases c29 : x16_3 < (t204.size : Int)
                      · rw [if_pos c29] at H
                        have c29b0 : decide (x16_3 < (t204.size : Int)) = true := decide_eq_true c29
                        clear c29
                        by_cases c30 : 0 ≤ x16_3
                        · rw [if_pos c30] at H
                          have c30b0 : decide (0 ≤ x16_3) = true := decide_eq_true c30
                          clear c30
                          by_cases c32 : (bt t204 x16_3) = 32
                          · rw [if_pos c32] at H
                            have c32b0 : ((bt t204 x16_3) == 32) = true := beq_iff_eq.mpr c32
                            have c32b1 : ((bt t204 x16_3) != 32) = false := bne_eq_false_iff_eq.mpr c32
                            clear c32
                            have H' := Aside0.mk H
                            clear H
                            have p31 : 0 ≤ (x16_3 : Int) := of_decide_eq_true (by first | (with_reducible assumption) | assumption)
                            have q31 : x16_3 < (t204.size : Int) := of_decide_eq_true (by first | (with_reducible assumption) | assumption)
                            have hx31 := bt_at t204 x16_3
                            replace p31 := eq_true p31
                            replace q31 := eq_true q31
                            go_wp2
                            go_roundg k3
                            case measure => have := HJ2.out; have := HJ12.out; have := HK3.out; omega
                            case rel => exact ⟨(0), (x15_3), (wrap64 (x16_3 + 1)), (by first | rfl | (simp; done) | (simp [*]; done) | (simp; rfl) | (simp; unfold wrap64; omega)), (by first | rfl | (simp; done) | (simp [*]; done) | (simp; rfl) | (simp; unfold wrap64; omega)), (by first | rfl | (simp; done) | (simp [*]; done) | (simp; rfl) | (simp; unfold wrap64; omega)), H', ⟨by have := HJ2.out; have := HJ12.out; have := HK3.out; omega⟩, ⟨by repeat (first | (with_reducible first | exact HB.out | apply below_alloc | apply pw_below_drewN | apply below_drew1) | exact HB.out)⟩⟩
                          · rw [if_neg c32] at H
                            have c32b0 : ((bt t204 x16_3) == 32) = false := beq_eq_false_iff_ne.mpr c32
                            have c32b1 : ((bt t204 x16_3) != 32) = true := bne_iff_ne.mpr c32
                            obtain ⟨ji33, hji33⟩ : ∃ j_ : Int, (mx x15_3 (wrap64 (x14_3 + 1))) = j_ := ⟨_, rfl⟩
                            replace H : (laws_FnFolds.l0 k3 (rdOf ByteArray.empty y199 t202) t204 t205 (wrap64 (x14_3 + 1)) ji33 (wrap64 (x16_3 + 1))) = some r := by first | (rw [hji33] at H; exact H) | (simp only [hji33] at H ⊢; exact H)
                            have hji33_ : (if x15_3 < (wrap64 (x14_3 + 1)) then (wrap64 (x14_3 + 1)) else x15_3) = ji33 := hji33
                            have H' := Aside0.mk H
                            clear H
                            have p31 : 0 ≤ (x16_3 : Int) := of_decide_eq_true (by first | (with_reducible assumption) | assumption)
                            have q31 : x16_3 < (t204.size : Int) := of_decide_eq_true (by first | (with_reducible assumption) | assumption)
                            have hx31 := bt_at t204 x16_3
                            replace p31 := eq_true p31
                            replace q31 := eq_true q31
                            go_wp2
                            go_roundg k3
                            case measure => have := HJ2.out; have := HJ12.out; have := HK3.out; omega
                            case rel => exact ⟨(wrap64 (x14_3 + 1)), (ji33), (wrap64 (x16_3 + 1)), (by first | rfl | (simp; done) | (simp [*]; done) | (simp; rfl) | (simp; unfold wrap64; omega)), (by first | rfl | (simp; done) | (simp only [← hji33] <;> (first | rfl | simp)) | (simp [*]; done)), (by first | rfl | (simp; done) | (simp [*]; done) | (simp; rfl) | (simp; unfold wrap64; omega)), H', ⟨by have := HJ2.out; have := HJ12.out; have := HK3.out; omega⟩, ⟨by repeat (first | (with_reducible first | exact HB.out | apply below_alloc | apply pw_below_drewN | apply below_drew1) | exact HB.out)⟩⟩
                        · rw [if_neg c30] at H
                          exact absurd H (by simp)
                      · rw [if_neg c29] at H
                        have c29b0 : decide (x16_3 < (t204.size : Int)) = false := decide_eq_false c29
                        clear c29
                        replace H := Option.bind_eq_some_iff.mp H
                        obtain ⟨t213, A340, H⟩ := H
                        replace H : (some (decide (t213 ≤ (mx 78 (wrap64 ((wrap64 (x15_3 + ((rdOf ByteArray.empty y199 t202).size : Int))) + 2)))))) = some r := H
                        have A34 := Aside0.mk A340
                        clear A340
                        obtain ⟨ji35, hji35⟩ : ∃ j_ : Int, (mx 78 (wrap64 ((wrap64 (x15_3 + ((rdOf ByteArray.empty y199 t202).size : Int))) + 2))) = j_ := ⟨_, rfl⟩
                        replace H : (some (decide (t213 ≤ (ji35)))) = some r := by first | (rw [hji35] at H; exact H) | (simp only [hji35] at H ⊢; exact H)
                        (try rw [hji35] at A34)
                        have hji35_ : (if 78 < (wrap64 ((wrap64 (x15_3 + ((rdOf ByteArray.empty y199 t202).size : Int))) + 2)) then (wrap64 ((wrap64 (x15_3 + ((rdOf ByteArray.empty y199 t202).size : Int))) + 2)) else 78) = ji35 := hji35
                        obtain rfl := Option.some.inj H
                        go_wp2_with (first | ((with_reducible refine gate_callee (f := 18) rfl ?_); refine goesL_ (some 92) rfl rfl Tryd.func18 (by kernel_rfl) rfl #[.string t205] rfl (by (try simp only [List.map_toArray, List.map_cons, List.map_nil]); first | done | rfl | (simp only [List.length_drop, List.length_take]; rfl)) ?_; (with_reducible refine (impl_LongestLine.calls k3 t205 t213 _ A34.out (Glob.of_below HG.out (by repeat (first | (with_reducible first | exact HB.out | apply below_alloc | apply pw_below_drewN | apply below_drew1) | exact HB.out)))).mono ?_); rintro e w36 ⟨rfl, hb⟩; refine ⟨_, rfl, ?_⟩; have n0_ := Aside0.mk (below_step (by repeat (first | (with_reducible first | exact HB.out | apply below_alloc | apply pw_below_drewN | apply below_drew1) | exact HB.out)) hb); clear HB; have HB := n0_; clear n0_; (try clear hb); (try clear hb2); (try clear hk); (try clear hi)))
                        go_ret
                        exact ⟨by first | rfl | (simp [errW_none, errW_some] <;> rfl) | (simp only [← hji35]; first | rfl | (simp [errW_none, errW_some] <;> rfl)) | (simp [*, errW_none, errW_some] <;> rfl), by repeat (first | (with_reducible first | exact HB.out | apply below_alloc | apply pw_below_drewN | apply below_drew1) | exact HB.out)⟩
          · rw [if_neg c8] at H
            exact absurd H (by simp)
        · rw [if_neg c7] at H
          exact absurd H (by simp)

/-- THE ONE PURE STATEMENT of laws_FnFolds: yours. -/
def laws_FnFolds.Pure : Prop := ∀ (l0 : List Int) (l1 : List Int), l0.length ≤ maxLen → l0.length * 1 ≤ 140737488351232 → (∀ x ∈ l0, (Lit.int .u8 x).wf = true) → l1.length ≤ maxLen → l1.length * 1 ≤ 140737488351232 → (∀ x ∈ l1, (Lit.int .u8 x).wf = true) → ∃ k, laws_FnFolds.f k l0 l1 = some true
theorem laws_FnFolds.walk (P : laws_FnFolds.Pure) (a0 : Option Addr) (len0 cap0 : Nat) (z0 : List Int) (a1 : Option Addr) (len1 cap1 : Nat) (z1 : List Int) (w : World) (w0 : (a0 = none ∧ len0 = 0 ∧ cap0 = 0 ∧ z0 = []) ∨ ∃ x, a0 = some x ∧ len0 ≤ cap0 ∧ cap0 ≤ maxLen ∧ z0.length = cap0 ∧ (∀ i, i < z0.length → w.cell? (x.add i) = some (.int .u8 (z0.getD i 0))) ∧ ∀ n ∈ z0, (Lit.int .u8 n).wf = true) (y0 : len0 * 1 ≤ 140737488351232) (w1 : (a1 = none ∧ len1 = 0 ∧ cap1 = 0 ∧ z1 = []) ∨ ∃ x, a1 = some x ∧ len1 ≤ cap1 ∧ cap1 ≤ maxLen ∧ z1.length = cap1 ∧ (∀ i, i < z1.length → w.cell? (x.add i) = some (.int .u8 (z1.getD i 0))) ∧ ∀ n ∈ z1, (Lit.int .u8 n).wf = true) (y1 : len1 * 1 ≤ 140737488351232) (hG : Glob w) :
    Calls Tryd.prog 11 #[.slice a0 len0 cap0, .slice a1 len1 cap1] w fun e w' => e = .returned (.bool true) ∧ Below w.heap.size w w' := by
  obtain ⟨l0, rfl, hr0, hm0, hw0, hc0⟩ := ReadsInt.ofRowC w0
  obtain ⟨l1, rfl, hr1, hm1, hw1, hc1⟩ := ReadsInt.ofRowC w1
  obtain ⟨k, h⟩ := P l0 l1 hm0 y0 hw0 hm1 y1 hw1
  refine (laws_FnFolds.calls k _ _ l0 _ _ l1 true w (Kd.C_of_reads (d := (0 : Int)) (h1 := fun _ => rfl) hr0) hc0 (Kd.C_of_reads (d := (0 : Int)) (h1 := fun _ => rfl) hr1) hc1 h hG).mono ?_
  rintro e w' ⟨rfl, hd⟩
  exact ⟨rfl, hd⟩

end Go.Proofs.YtebmhicdlamnbaaDoor.QFnFolds
