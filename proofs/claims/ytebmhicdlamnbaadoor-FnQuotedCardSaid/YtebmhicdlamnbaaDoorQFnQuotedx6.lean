/- Printed by a program of this session's own (wip/myprint.py): the functions that FnQuoted reaches as plain Lean functions, and that Go's calls do what they say. Conditions: as each theorem states. -/
import Derived.Test.YtebmhicdlamnbaaDoorQFnQuotedx0
import Derived.Test.YtebmhicdlamnbaaDoorQFnQuotedx3
import Derived.Test.YtebmhicdlamnbaaDoorQFnQuotedx4
import Derived.Test.YtebmhicdlamnbaaDoorQFnQuotedx5
namespace Go.Proofs.YtebmhicdlamnbaaDoor.QFnQuoted
open Go.RowKit Go.Proofs.YtebmhicdlamnbaaDoorW.PrintWords Go.Proofs.YtebmhicdlamnbaaDoorW.PrintLast Go.Proofs.YtebmhicdlamnbaaDoorW.PrintMore
attribute [local go_sem] max2_int min2_int max_two min_two max_three min_three max_four min_four   -- for this text's walks alone
set_option linter.unusedVariables false
set_option linter.unusedSimpArgs false

/-! ### laws_FnQuoted: function 4 -/
mutual
def laws_FnQuoted.j0 : Nat → ByteArray → Bool → Option (Bool)
  | 0, _, _ => none
  | k + 1, x4, x61 => if x61 = true then (some false) else (laws_FnQuoted.l0 k x4 0)
def laws_FnQuoted.l0 : Nat → ByteArray → Int → Option (Bool)
  | 0, _, _ => none
  | k + 1, x4, x10 => if x10 < (x4.size : Int) then (if 0 ≤ x10 then (if (bt x4 x10) = 13 then (if (wrap64 (x10 + 1)) < (x4.size : Int) then (if 0 ≤ (wrap64 (x10 + 1)) then (if (bt x4 (wrap64 (x10 + 1))) = 10 then (laws_FnQuoted.j2 k x4 x10 true) else (if (bt x4 x10) = 10 then (if x10 > 0 then (if 0 ≤ (wrap64 (x10 - 1)) then (if (wrap64 (x10 - 1)) < (x4.size : Int) then (laws_FnQuoted.j2 k x4 x10 ((bt x4 (wrap64 (x10 - 1))) == 13)) else (none)) else (none)) else (laws_FnQuoted.j2 k x4 x10 false)) else (laws_FnQuoted.j2 k x4 x10 false))) else (none)) else (if (bt x4 x10) = 10 then (if x10 > 0 then (if 0 ≤ (wrap64 (x10 - 1)) then (if (wrap64 (x10 - 1)) < (x4.size : Int) then (laws_FnQuoted.j2 k x4 x10 ((bt x4 (wrap64 (x10 - 1))) == 13)) else (none)) else (none)) else (laws_FnQuoted.j2 k x4 x10 false)) else (laws_FnQuoted.j2 k x4 x10 false))) else (if (bt x4 x10) = 10 then (if x10 > 0 then (if 0 ≤ (wrap64 (x10 - 1)) then (if (wrap64 (x10 - 1)) < (x4.size : Int) then (laws_FnQuoted.j2 k x4 x10 ((bt x4 (wrap64 (x10 - 1))) == 13)) else (none)) else (none)) else (laws_FnQuoted.j2 k x4 x10 false)) else (laws_FnQuoted.j2 k x4 x10 false))) else (none)) else (some true)
def laws_FnQuoted.j2 : Nat → ByteArray → Int → Bool → Option (Bool)
  | 0, _, _, _ => none
  | k + 1, x4, x10, x11 => if x11 = true then (laws_FnQuoted.j3 k x4 x10 false) else (if 0 ≤ x10 then (if x10 < (x4.size : Int) then (if (bt x4 x10) < 32 then (laws_FnQuoted.j3 k x4 x10 true) else (laws_FnQuoted.j3 k x4 x10 (decide ((bt x4 x10) > 126)))) else (none)) else (none))
def laws_FnQuoted.j3 : Nat → ByteArray → Int → Bool → Option (Bool)
  | 0, _, _, _ => none
  | k + 1, x4, x10, x116 => if x116 = true then (some false) else (if 0 ≤ x10 then (if x10 < (x4.size : Int) then (if (bt x4 x10) = 32 then (if (wrap64 (x10 + 1)) = (x4.size : Int) then (some false) else (if 0 ≤ (wrap64 (x10 + 1)) then (if (wrap64 (x10 + 1)) < (x4.size : Int) then (if (bt x4 (wrap64 (x10 + 1))) = 13 then (some false) else (laws_FnQuoted.l0 k x4 (wrap64 (x10 + 1)))) else (none)) else (none))) else (laws_FnQuoted.l0 k x4 (wrap64 (x10 + 1)))) else (none)) else (none))
end
def laws_FnQuoted.f (k : Nat) (l0 : List Int) : Option (Bool) := if (l0.length : Int) > 1048576 then (some true) else ((spec_BodyOf.f k l0).bind fun t238 => ((impl_QuotedText.f t238).bind fun bt241 => ((spec_QuotedText.f k t238).bind fun bt243 => ((impl_ReadQuoted.f k bt241.1).bind fun bt245 => (if bt241.2 = 0 then (if bt241.1.toList = bt243.1.toList then (if bt245.2 = 0 then (if (strOfNums bt245.1).toList = (strOfNums t238).toList then ((impl_LongestLine.f k bt241.1).bind fun t249 => (if t249 > 76 then (laws_FnQuoted.j0 k bt241.1 true) else ((impl_LongestLine.f k bt241.1).bind fun t250 => ((spec_LongestLine.f k bt241.1).bind fun t251 => (laws_FnQuoted.j0 k bt241.1 (t250 != t251)))))) else (laws_FnQuoted.j0 k bt241.1 true)) else (laws_FnQuoted.j0 k bt241.1 true)) else (laws_FnQuoted.j0 k bt241.1 true)) else (laws_FnQuoted.j0 k bt241.1 true))))))
theorem laws_FnQuoted.mono_l : ∀ k, (∀ y0 y1, LeO (laws_FnQuoted.j0 k y0 y1) (laws_FnQuoted.j0 (k + 1) y0 y1)) ∧ (∀ y0 y1, LeO (laws_FnQuoted.l0 k y0 y1) (laws_FnQuoted.l0 (k + 1) y0 y1)) ∧ (∀ y0 y1 y2, LeO (laws_FnQuoted.j2 k y0 y1 y2) (laws_FnQuoted.j2 (k + 1) y0 y1 y2)) ∧ (∀ y0 y1 y2, LeO (laws_FnQuoted.j3 k y0 y1 y2) (laws_FnQuoted.j3 (k + 1) y0 y1 y2))
  | 0 => ⟨fun _ _ r h => by simp [laws_FnQuoted.j0] at h, fun _ _ r h => by simp [laws_FnQuoted.l0] at h, fun _ _ _ r h => by simp [laws_FnQuoted.j2] at h, fun _ _ _ r h => by simp [laws_FnQuoted.j3] at h⟩
  | k + 1 => by
    obtain ⟨ih0, ih1, ih2, ih3⟩ := laws_FnQuoted.mono_l k
    refine ⟨?_, ?_, ?_, ?_⟩
    · intro y0 y1
      unfold laws_FnQuoted.j0
      repeat' first
      | (with_reducible exact ih0 _ _)
      | (with_reducible exact ih1 _ _)
      | (with_reducible exact ih2 _ _ _)
      | (with_reducible exact ih3 _ _ _)
      | (with_reducible exact impl_LongestLine.mono _ _)
      | (with_reducible exact impl_ReadQuoted.mono _ _)
      | (with_reducible exact spec_BodyOf.mono _ _)
      | (with_reducible exact spec_LongestLine.mono _ _)
      | (with_reducible exact spec_QuotedText.mono _ _)
      | (with_reducible exact LeO.refl _)
      | (with_reducible exact LeO.none _)
      | (with_reducible refine LeO.ite ?_ ?_)
      | (with_reducible refine LeO.bind ?_ (fun _ => ?_))
      | exact ih0 _ _
      | exact ih1 _ _
      | exact ih2 _ _ _
      | exact ih3 _ _ _
      | exact impl_LongestLine.mono _ _
      | exact impl_ReadQuoted.mono _ _
      | exact spec_BodyOf.mono _ _
      | exact spec_LongestLine.mono _ _
      | exact spec_QuotedText.mono _ _
      | exact LeO.none _
      | refine LeO.ite ?_ ?_
      | refine LeO.bind ?_ (fun _ => ?_)
    · intro y0 y1
      unfold laws_FnQuoted.l0
      repeat' first
      | (with_reducible exact ih0 _ _)
      | (with_reducible exact ih1 _ _)
      | (with_reducible exact ih2 _ _ _)
      | (with_reducible exact ih3 _ _ _)
      | (with_reducible exact impl_LongestLine.mono _ _)
      | (with_reducible exact impl_ReadQuoted.mono _ _)
      | (with_reducible exact spec_BodyOf.mono _ _)
      | (with_reducible exact spec_LongestLine.mono _ _)
      | (with_reducible exact spec_QuotedText.mono _ _)
      | (with_reducible exact LeO.refl _)
      | (with_reducible exact LeO.none _)
      | (with_reducible refine LeO.ite ?_ ?_)
      | (with_reducible refine LeO.bind ?_ (fun _ => ?_))
      | exact ih0 _ _
      | exact ih1 _ _
      | exact ih2 _ _ _
      | exact ih3 _ _ _
      | exact impl_LongestLine.mono _ _
      | exact impl_ReadQuoted.mono _ _
      | exact spec_BodyOf.mono _ _
      | exact spec_LongestLine.mono _ _
      | exact spec_QuotedText.mono _ _
      | exact LeO.none _
      | refine LeO.ite ?_ ?_
      | refine LeO.bind ?_ (fun _ => ?_)
    · intro y0 y1 y2
      unfold laws_FnQuoted.j2
      repeat' first
      | (with_reducible exact ih0 _ _)
      | (with_reducible exact ih1 _ _)
      | (with_reducible exact ih2 _ _ _)
      | (with_reducible exact ih3 _ _ _)
      | (with_reducible exact impl_LongestLine.mono _ _)
      | (with_reducible exact impl_ReadQuoted.mono _ _)
      | (with_reducible exact spec_BodyOf.mono _ _)
      | (with_reducible exact spec_LongestLine.mono _ _)
      | (with_reducible exact spec_QuotedText.mono _ _)
      | (with_reducible exact LeO.refl _)
      | (with_reducible exact LeO.none _)
      | (with_reducible refine LeO.ite ?_ ?_)
      | (with_reducible refine LeO.bind ?_ (fun _ => ?_))
      | exact ih0 _ _
      | exact ih1 _ _
      | exact ih2 _ _ _
      | exact ih3 _ _ _
      | exact impl_LongestLine.mono _ _
      | exact impl_ReadQuoted.mono _ _
      | exact spec_BodyOf.mono _ _
      | exact spec_LongestLine.mono _ _
      | exact spec_QuotedText.mono _ _
      | exact LeO.none _
      | refine LeO.ite ?_ ?_
      | refine LeO.bind ?_ (fun _ => ?_)
    · intro y0 y1 y2
      unfold laws_FnQuoted.j3
      repeat' first
      | (with_reducible exact ih0 _ _)
      | (with_reducible exact ih1 _ _)
      | (with_reducible exact ih2 _ _ _)
      | (with_reducible exact ih3 _ _ _)
      | (with_reducible exact impl_LongestLine.mono _ _)
      | (with_reducible exact impl_ReadQuoted.mono _ _)
      | (with_reducible exact spec_BodyOf.mono _ _)
      | (with_reducible exact spec_LongestLine.mono _ _)
      | (with_reducible exact spec_QuotedText.mono _ _)
      | (with_reducible exact LeO.refl _)
      | (with_reducible exact LeO.none _)
      | (with_reducible refine LeO.ite ?_ ?_)
      | (with_reducible refine LeO.bind ?_ (fun _ => ?_))
      | exact ih0 _ _
      | exact ih1 _ _
      | exact ih2 _ _ _
      | exact ih3 _ _ _
      | exact impl_LongestLine.mono _ _
      | exact impl_ReadQuoted.mono _ _
      | exact spec_BodyOf.mono _ _
      | exact spec_LongestLine.mono _ _
      | exact spec_QuotedText.mono _ _
      | exact LeO.none _
      | refine LeO.ite ?_ ?_
      | refine LeO.bind ?_ (fun _ => ?_)
theorem laws_FnQuoted.mono : ∀ a0 k, LeO (laws_FnQuoted.f k a0) (laws_FnQuoted.f (k + 1) a0) := by
  intro a0 k
  obtain ⟨ih0, ih1, ih2, ih3⟩ := laws_FnQuoted.mono_l k
  unfold laws_FnQuoted.f
  repeat' first
      | (with_reducible exact ih0 _ _)
      | (with_reducible exact ih1 _ _)
      | (with_reducible exact ih2 _ _ _)
      | (with_reducible exact ih3 _ _ _)
      | (with_reducible exact impl_LongestLine.mono _ _)
      | (with_reducible exact impl_ReadQuoted.mono _ _)
      | (with_reducible exact spec_BodyOf.mono _ _)
      | (with_reducible exact spec_LongestLine.mono _ _)
      | (with_reducible exact spec_QuotedText.mono _ _)
      | (with_reducible exact LeO.refl _)
      | (with_reducible exact LeO.none _)
      | (with_reducible refine LeO.ite ?_ ?_)
      | (with_reducible refine LeO.bind ?_ (fun _ => ?_))
      | exact ih0 _ _
      | exact ih1 _ _
      | exact ih2 _ _ _
      | exact ih3 _ _ _
      | exact impl_LongestLine.mono _ _
      | exact impl_ReadQuoted.mono _ _
      | exact spec_BodyOf.mono _ _
      | exact spec_LongestLine.mono _ _
      | exact spec_QuotedText.mono _ _
      | exact LeO.none _
      | refine LeO.ite ?_ ?_
      | refine LeO.bind ?_ (fun _ => ?_)
set_option maxHeartbeats 8000000 in
set_option maxRecDepth 100000 in
theorem laws_FnQuoted.calls (k : Nat) (A0 : Option Addr) (c0 : Nat) (l0 : List Int) (r : Bool) (w : World) (hr0 : Kd.C (Kd.int .u8) w A0 l0.length l0) (hc0 : l0.length ≤ c0) (h : laws_FnQuoted.f k l0 = some r) (hG : Glob w) :
    Calls Tryd.prog 4 #[.slice A0 l0.length c0] w fun e w' => e = .returned (.bool r) ∧ Below w.heap.size w w' := by
  have HG := Aside0.mk hG
  clear hG
  have HR0 := Aside0.mk hr0
  have HC0 := Aside0.mk hc0
  clear hr0 hc0
  have HB := Aside0.mk (Below.refl w.heap.size w)
  have H : (if (l0.length : Int) > 1048576 then (some true) else ((spec_BodyOf.f k l0).bind fun t238 => ((impl_QuotedText.f t238).bind fun bt241 => ((spec_QuotedText.f k t238).bind fun bt243 => ((impl_ReadQuoted.f k bt241.1).bind fun bt245 => (if bt241.2 = 0 then (if bt241.1.toList = bt243.1.toList then (if bt245.2 = 0 then (if (strOfNums bt245.1).toList = (strOfNums t238).toList then ((impl_LongestLine.f k bt241.1).bind fun t249 => (if t249 > 76 then (laws_FnQuoted.j0 k bt241.1 true) else ((impl_LongestLine.f k bt241.1).bind fun t250 => ((spec_LongestLine.f k bt241.1).bind fun t251 => (laws_FnQuoted.j0 k bt241.1 (t250 != t251)))))) else (laws_FnQuoted.j0 k bt241.1 true)) else (laws_FnQuoted.j0 k bt241.1 true)) else (laws_FnQuoted.j0 k bt241.1 true)) else (laws_FnQuoted.j0 k bt241.1 true))))))) = some r := h
  clear h
  by_cases c2 : (l0.length : Int) > 1048576
  · rw [if_pos c2] at H
    have c2b0 : decide (1048576 < (l0.length : Int)) = true := decide_eq_true c2
    have c2b1 : decide (1048576 < l0.length) = true := decide_eq_true (by omega)
    clear c2
    obtain rfl := Option.some.inj H
    go_enter Tryd.func4, Tryd.ntmps4
    go_wp2
    go_ret
    exact ⟨by first | rfl | (simp [errW_none, errW_some] <;> rfl) | (simp [*, errW_none, errW_some] <;> rfl), by repeat (first | (with_reducible first | exact HB.out | apply below_alloc | apply pw_below_drewN | apply below_drew1) | exact HB.out)⟩
  · rw [if_neg c2] at H
    have c2b0 : decide (1048576 < (l0.length : Int)) = false := decide_eq_false c2
    have c2b1 : decide (1048576 < l0.length) = false := decide_eq_false (by omega)
    clear c2
    replace H := Option.bind_eq_some_iff.mp H
    obtain ⟨t238, A30, H⟩ := H
    replace H : ((impl_QuotedText.f t238).bind fun bt241 => ((spec_QuotedText.f k t238).bind fun bt243 => ((impl_ReadQuoted.f k bt241.1).bind fun bt245 => (if bt241.2 = 0 then (if bt241.1.toList = bt243.1.toList then (if bt245.2 = 0 then (if (strOfNums bt245.1).toList = (strOfNums t238).toList then ((impl_LongestLine.f k bt241.1).bind fun t249 => (if t249 > 76 then (laws_FnQuoted.j0 k bt241.1 true) else ((impl_LongestLine.f k bt241.1).bind fun t250 => ((spec_LongestLine.f k bt241.1).bind fun t251 => (laws_FnQuoted.j0 k bt241.1 (t250 != t251)))))) else (laws_FnQuoted.j0 k bt241.1 true)) else (laws_FnQuoted.j0 k bt241.1 true)) else (laws_FnQuoted.j0 k bt241.1 true)) else (laws_FnQuoted.j0 k bt241.1 true))))) = some r := H
    have A3 := Aside0.mk A30
    clear A30
    replace H := Option.bind_eq_some_iff.mp H
    obtain ⟨⟨t241, t242⟩, A40, H⟩ := H
    replace H : ((spec_QuotedText.f k t238).bind fun bt243 => ((impl_ReadQuoted.f k t241).bind fun bt245 => (if t242 = 0 then (if t241.toList = bt243.1.toList then (if bt245.2 = 0 then (if (strOfNums bt245.1).toList = (strOfNums t238).toList then ((impl_LongestLine.f k t241).bind fun t249 => (if t249 > 76 then (laws_FnQuoted.j0 k t241 true) else ((impl_LongestLine.f k t241).bind fun t250 => ((spec_LongestLine.f k t241).bind fun t251 => (laws_FnQuoted.j0 k t241 (t250 != t251)))))) else (laws_FnQuoted.j0 k t241 true)) else (laws_FnQuoted.j0 k t241 true)) else (laws_FnQuoted.j0 k t241 true)) else (laws_FnQuoted.j0 k t241 true)))) = some r := H
    have A4 := Aside0.mk A40
    clear A40
    replace H := Option.bind_eq_some_iff.mp H
    obtain ⟨⟨t243, t244⟩, A50, H⟩ := H
    replace H : ((impl_ReadQuoted.f k t241).bind fun bt245 => (if t242 = 0 then (if t241.toList = t243.toList then (if bt245.2 = 0 then (if (strOfNums bt245.1).toList = (strOfNums t238).toList then ((impl_LongestLine.f k t241).bind fun t249 => (if t249 > 76 then (laws_FnQuoted.j0 k t241 true) else ((impl_LongestLine.f k t241).bind fun t250 => ((spec_LongestLine.f k t241).bind fun t251 => (laws_FnQuoted.j0 k t241 (t250 != t251)))))) else (laws_FnQuoted.j0 k t241 true)) else (laws_FnQuoted.j0 k t241 true)) else (laws_FnQuoted.j0 k t241 true)) else (laws_FnQuoted.j0 k t241 true))) = some r := H
    have A5 := Aside0.mk A50
    clear A50
    replace H := Option.bind_eq_some_iff.mp H
    obtain ⟨⟨t245, t246⟩, A60, H⟩ := H
    replace H : (if t242 = 0 then (if t241.toList = t243.toList then (if t246 = 0 then (if (strOfNums t245).toList = (strOfNums t238).toList then ((impl_LongestLine.f k t241).bind fun t249 => (if t249 > 76 then (laws_FnQuoted.j0 k t241 true) else ((impl_LongestLine.f k t241).bind fun t250 => ((spec_LongestLine.f k t241).bind fun t251 => (laws_FnQuoted.j0 k t241 (t250 != t251)))))) else (laws_FnQuoted.j0 k t241 true)) else (laws_FnQuoted.j0 k t241 true)) else (laws_FnQuoted.j0 k t241 true)) else (laws_FnQuoted.j0 k t241 true)) = some r := H
    have A6 := Aside0.mk A60
    clear A60
    have HC7 := Aside0.mk H
    clear H
    go_enter Tryd.func4, Tryd.ntmps4
    go_upto_region 7 with (first | ((with_reducible refine gate_callee (f := 16) rfl ?_); refine goesL_ (some 16) rfl rfl Tryd.func16 (by kernel_rfl) rfl #[.slice A0 l0.length c0] rfl (by (try simp only [List.map_toArray, List.map_cons, List.map_nil]); first | done | rfl | (simp only [List.length_drop, List.length_take]; rfl)) ?_; (with_reducible refine (spec_BodyOf.calls k _ _ l0 t238 _ ?side1 ?side2 A3.out).mono ?_); (case side1 => repeat (first | exact HR0.out | (with_reducible refine Kd.C_alloc ?_ _) | (with_reducible refine Kd.C_drewN ?_ _) | (with_reducible refine Kd.C_drew ?_))); (case side2 => exact HC0.out); rintro e w8 ⟨v239, rfl, ho0, hb⟩; refine ⟨_, rfl, ?_⟩; have n0_ := Aside0.mk (Kd.R_lower ho0 (below_size (by repeat (first | (with_reducible first | exact HB.out | apply below_alloc | apply pw_below_drewN | apply below_drew1) | exact HB.out)))); have n1_ := Aside0.mk (below_step (by repeat (first | (with_reducible first | exact HB.out | apply below_alloc | apply pw_below_drewN | apply below_drew1) | exact HB.out)) hb); clear HB; have HO240 := n0_; have HB := n1_; clear n0_ n1_; (try clear hb); (try clear hb2); (try clear hk); (try clear hi); (try clear ho0); obtain ⟨Ao9, co9, eo9⟩ := Kd.R_slice HO240.out; subst eo9) | ((with_reducible refine gate_callee (f := 14) rfl ?_); refine goesL_ (some 19) rfl rfl Tryd.func14 (by kernel_rfl) rfl #[.slice Ao9 t238.length co9] rfl (by (try simp only [List.map_toArray, List.map_cons, List.map_nil]); first | done | rfl | (simp only [List.length_drop, List.length_take]; rfl)) ?_; (with_reducible refine (impl_QuotedText.calls _ _ t238 t241 t242 _ ?side1 ?side2 ?sidek A4.out (Glob.of_below HG.out (by repeat (first | (with_reducible first | exact HB.out | apply below_alloc | apply pw_below_drewN | apply below_drew1) | exact HB.out)))).mono ?_); (case side1 => repeat (first | exact (Kd.R_reads' HO240.out).2.2 | (with_reducible refine Kd.C_alloc ?_ _) | (with_reducible refine Kd.C_drewN ?_ _) | (with_reducible refine Kd.C_drew ?_))); (case side2 => exact (Kd.R_reads' HO240.out).2.1); (case sidek => exact impl_quotedText.caps HO240.out); rintro e w10 ⟨rfl, hb⟩; refine ⟨_, rfl, ?_⟩; have n0_ := Aside0.mk (Kd.R_below (by (with_reducible repeat (first | apply Kd.R_alloc | apply Kd.R_drewN | apply Kd.R_drew)); exact HO240.out) hb); have n1_ := Aside0.mk (below_step (by repeat (first | (with_reducible first | exact HB.out | apply below_alloc | apply pw_below_drewN | apply below_drew1) | exact HB.out)) hb); clear HO240; clear HB; have HO240 := n0_; have HB := n1_; clear n0_ n1_; (try clear hb); (try clear hb2); (try clear hk); (try clear hi)) | ((with_reducible refine gate_callee (f := 12) rfl ?_); refine goesL_ (some 24) rfl rfl Tryd.func12 (by kernel_rfl) rfl #[.slice Ao9 t238.length co9] rfl (by (try simp only [List.map_toArray, List.map_cons, List.map_nil]); first | done | rfl | (simp only [List.length_drop, List.length_take]; rfl)) ?_; (with_reducible refine (spec_QuotedText.calls k _ _ t238 t243 t244 _ ?side1 ?side2 A5.out).mono ?_); (case side1 => repeat (first | exact (Kd.R_reads' HO240.out).2.2 | (with_reducible refine Kd.C_alloc ?_ _) | (with_reducible refine Kd.C_drewN ?_ _) | (with_reducible refine Kd.C_drew ?_))); (case side2 => exact (Kd.R_reads' HO240.out).2.1); rintro e w11 ⟨rfl, hb⟩; refine ⟨_, rfl, ?_⟩; have n0_ := Aside0.mk (Kd.R_below (by (with_reducible repeat (first | apply Kd.R_alloc | apply Kd.R_drewN | apply Kd.R_drew)); exact HO240.out) hb); have n1_ := Aside0.mk (below_step (by repeat (first | (with_reducible first | exact HB.out | apply below_alloc | apply pw_below_drewN | apply below_drew1) | exact HB.out)) hb); clear HO240; clear HB; have HO240 := n0_; have HB := n1_; clear n0_ n1_; (try clear hb); (try clear hb2); (try clear hk); (try clear hi)) | ((with_reducible refine gate_callee (f := 17) rfl ?_); refine goesL_ (some 29) rfl rfl Tryd.func17 (by kernel_rfl) rfl #[.string t241] rfl (by (try simp only [List.map_toArray, List.map_cons, List.map_nil]); first | done | rfl | (simp only [List.length_drop, List.length_take]; rfl)) ?_; (with_reducible refine (impl_ReadQuoted.calls k t241 t245 t246 _ A6.out).mono ?_); rintro e w12 ⟨v247, rfl, ho0, hb⟩; refine ⟨_, rfl, ?_⟩; have n0_ := Aside0.mk (Kd.R_elder' (by (with_reducible repeat (first | apply Kd.R_alloc | apply Kd.R_drewN | apply Kd.R_drew)); exact HO240.out) (Kd.R_base ho0) hb); have n1_ := Aside0.mk (Kd.R_lower (Kd.R_new' ho0 (Kd.R_lt (by (with_reducible repeat (first | apply Kd.R_alloc | apply Kd.R_drewN | apply Kd.R_drew)); exact HO240.out))) (below_size (by repeat (first | (with_reducible first | exact HB.out | apply below_alloc | apply pw_below_drewN | apply below_drew1) | exact HB.out)))); have n2_ := Aside0.mk (below_step (by repeat (first | (with_reducible first | exact HB.out | apply below_alloc | apply pw_below_drewN | apply below_drew1) | exact HB.out)) hb); clear HO240; clear HB; have HO240 := n0_; have HO248 := n1_; have HB := n2_; clear n0_ n1_ n2_; (try clear hb); (try clear hb2); (try clear hk); (try clear hi); (try clear ho0)))
    (try simp only [Act.put, List.setIfInBounds_toArray, List.set_cons_zero, List.set_cons_succ])
    go_cut [61] (fun v61 wc => ∃ (kq : Nat) (x61_6 : Bool), v61 = .bool x61_6 ∧ Aside0 (laws_FnQuoted.j0 kq t241 x61_6 = some r) ∧ Aside0 (kq ≤ k) ∧ Aside0 (Below w.heap.size w wc))
    case first =>
      have H := HC7.out
      clear HC7
      by_cases c13 : t242 = 0
      · rw [if_pos c13] at H
        have c13b0 : (t242 == 0) = true := beq_iff_eq.mpr c13
        have c13b1 : (t242 != 0) = false := bne_eq_false_iff_eq.mpr c13
        clear c13
        (first | rw [c13b0] | (simp only [i64_w, i32_w]; rw [c13b0]) | skip)
        by_cases c14 : t241.toList = t243.toList
        · rw [if_pos c14] at H
          have c14b0 : (t241.toList == t243.toList) = true := beq_iff_eq.mpr c14
          have c14b1 : (t241.toList != t243.toList) = false := bne_eq_false_iff_eq.mpr c14
          clear c14
          by_cases c15 : t246 = 0
          · rw [if_pos c15] at H
            have c15b0 : (t246 == 0) = true := beq_iff_eq.mpr c15
            have c15b1 : (t246 != 0) = false := bne_eq_false_iff_eq.mpr c15
            clear c15
            by_cases c16 : (strOfNums t245).toList = (strOfNums t238).toList
            · rw [if_pos c16] at H
              have c16b0 : ((strOfNums t245).toList == (strOfNums t238).toList) = true := beq_iff_eq.mpr c16
              have c16b1 : ((strOfNums t245).toList != (strOfNums t238).toList) = false := bne_eq_false_iff_eq.mpr c16
              clear c16
              replace H := Option.bind_eq_some_iff.mp H
              obtain ⟨t249, A170, H⟩ := H
              replace H : (if t249 > 76 then (laws_FnQuoted.j0 k t241 true) else ((impl_LongestLine.f k t241).bind fun t250 => ((spec_LongestLine.f k t241).bind fun t251 => (laws_FnQuoted.j0 k t241 (t250 != t251))))) = some r := H
              have A17 := Aside0.mk A170
              clear A170
              by_cases c18 : t249 > 76
              · rw [if_pos c18] at H
                have c18b0 : decide (76 < t249) = true := decide_eq_true c18
                clear c18
                have H' := Aside0.mk H
                clear H
                have hcv19 := own_string (P := Tryd.prog) Tryd.underlying22 Tryd.underlying5 Tryd.underlying9 (Kd.own_of_R HO248.out)
                have hcv20 := own_string (P := Tryd.prog) Tryd.underlying22 Tryd.underlying5 Tryd.underlying9 (Kd.own_of_R HO240.out)
                go_wp2_with (first | (go_at_call 18; (with_reducible refine (impl_LongestLine.calls k t241 t249 _ A17.out (Glob.of_below HG.out (by repeat (first | (with_reducible first | exact HB.out | apply below_alloc | apply pw_below_drewN | apply below_drew1) | exact HB.out)))).mono ?_); rintro e w21 ⟨rfl, hb⟩; have n0_ := Aside0.mk (Kd.R_below (by (with_reducible repeat (first | apply Kd.R_alloc | apply Kd.R_drewN | apply Kd.R_drew)); exact HO240.out) hb); have n1_ := Aside0.mk (Kd.R_below (by (with_reducible repeat (first | apply Kd.R_alloc | apply Kd.R_drewN | apply Kd.R_drew)); exact HO248.out) hb); have n2_ := Aside0.mk (below_step (by repeat (first | (with_reducible first | exact HB.out | apply below_alloc | apply pw_below_drewN | apply below_drew1) | exact HB.out)) hb); clear HO240; clear HO248; clear HB; have HO240 := n0_; have HO248 := n1_; have HB := n2_; clear n0_ n1_ n2_; (try clear hb); (try clear hb2); (try clear hk); (try clear hi)))
                go_meet
                case rel => exact ⟨_, (true), (by first | rfl | (have e_ := Option.some.inj (A17.out.symm.trans A22.out); subst e_; rfl) | (simp; done) | (simp [*]; done) | (simp; rfl) | (simp; unfold wrap64; omega)), H', ⟨by first | omega | exact Nat.le_refl _⟩, ⟨by repeat (first | (with_reducible first | exact HB.out | apply below_alloc | apply pw_below_drewN | apply below_drew1) | exact HB.out)⟩⟩
              · rw [if_neg c18] at H
                have c18b0 : decide (76 < t249) = false := decide_eq_false c18
                clear c18
                replace H := Option.bind_eq_some_iff.mp H
                obtain ⟨t250, A220, H⟩ := H
                replace H : ((spec_LongestLine.f k t241).bind fun t251 => (laws_FnQuoted.j0 k t241 (t250 != t251))) = some r := H
                have A22 := Aside0.mk A220
                clear A220
                replace H := Option.bind_eq_some_iff.mp H
                obtain ⟨t251, A230, H⟩ := H
                replace H : (laws_FnQuoted.j0 k t241 (t250 != t251)) = some r := H
                have A23 := Aside0.mk A230
                clear A230
                have H' := Aside0.mk H
                clear H
                have hcv24 := own_string (P := Tryd.prog) Tryd.underlying22 Tryd.underlying5 Tryd.underlying9 (Kd.own_of_R HO248.out)
                have hcv25 := own_string (P := Tryd.prog) Tryd.underlying22 Tryd.underlying5 Tryd.underlying9 (Kd.own_of_R HO240.out)
                go_wp2_with (first | (go_at_call 18; (with_reducible refine (impl_LongestLine.calls k t241 t249 _ A17.out (Glob.of_below HG.out (by repeat (first | (with_reducible first | exact HB.out | apply below_alloc | apply pw_below_drewN | apply below_drew1) | exact HB.out)))).mono ?_); rintro e w26 ⟨rfl, hb⟩; have n0_ := Aside0.mk (Kd.R_below (by (with_reducible repeat (first | apply Kd.R_alloc | apply Kd.R_drewN | apply Kd.R_drew)); exact HO240.out) hb); have n1_ := Aside0.mk (Kd.R_below (by (with_reducible repeat (first | apply Kd.R_alloc | apply Kd.R_drewN | apply Kd.R_drew)); exact HO248.out) hb); have n2_ := Aside0.mk (below_step (by repeat (first | (with_reducible first | exact HB.out | apply below_alloc | apply pw_below_drewN | apply below_drew1) | exact HB.out)) hb); clear HO240; clear HO248; clear HB; have HO240 := n0_; have HO248 := n1_; have HB := n2_; clear n0_ n1_ n2_; (try clear hb); (try clear hb2); (try clear hk); (try clear hi)) | (go_at_call 18; (with_reducible refine (impl_LongestLine.calls k t241 t250 _ A22.out (Glob.of_below HG.out (by repeat (first | (with_reducible first | exact HB.out | apply below_alloc | apply pw_below_drewN | apply below_drew1) | exact HB.out)))).mono ?_); rintro e w27 ⟨rfl, hb⟩; have n0_ := Aside0.mk (Kd.R_below (by (with_reducible repeat (first | apply Kd.R_alloc | apply Kd.R_drewN | apply Kd.R_drew)); exact HO240.out) hb); have n1_ := Aside0.mk (Kd.R_below (by (with_reducible repeat (first | apply Kd.R_alloc | apply Kd.R_drewN | apply Kd.R_drew)); exact HO248.out) hb); have n2_ := Aside0.mk (below_step (by repeat (first | (with_reducible first | exact HB.out | apply below_alloc | apply pw_below_drewN | apply below_drew1) | exact HB.out)) hb); clear HO240; clear HO248; clear HB; have HO240 := n0_; have HO248 := n1_; have HB := n2_; clear n0_ n1_ n2_; (try clear hb); (try clear hb2); (try clear hk); (try clear hi)) | (go_at_call 19; (with_reducible refine (spec_LongestLine.calls k t241 t251 _ A23.out).mono ?_); rintro e w28 ⟨rfl, hb⟩; have n0_ := Aside0.mk (Kd.R_below (by (with_reducible repeat (first | apply Kd.R_alloc | apply Kd.R_drewN | apply Kd.R_drew)); exact HO240.out) hb); have n1_ := Aside0.mk (Kd.R_below (by (with_reducible repeat (first | apply Kd.R_alloc | apply Kd.R_drewN | apply Kd.R_drew)); exact HO248.out) hb); have n2_ := Aside0.mk (below_step (by repeat (first | (with_reducible first | exact HB.out | apply below_alloc | apply pw_below_drewN | apply below_drew1) | exact HB.out)) hb); clear HO240; clear HO248; clear HB; have HO240 := n0_; have HO248 := n1_; have HB := n2_; clear n0_ n1_ n2_; (try clear hb); (try clear hb2); (try clear hk); (try clear hi)))
                go_meet
                case rel => exact ⟨_, ((t250 != t251)), (by first | rfl | (have e_ := Option.some.inj (A17.out.symm.trans A22.out); subst e_; rfl) | (simp; done) | (simp [*]; done) | (simp; rfl) | (simp; unfold wrap64; omega)), H', ⟨by first | omega | exact Nat.le_refl _⟩, ⟨by repeat (first | (with_reducible first | exact HB.out | apply below_alloc | apply pw_below_drewN | apply below_drew1) | exact HB.out)⟩⟩
            · rw [if_neg c16] at H
              have c16b0 : ((strOfNums t245).toList == (strOfNums t238).toList) = false := beq_eq_false_iff_ne.mpr c16
              have c16b1 : ((strOfNums t245).toList != (strOfNums t238).toList) = true := bne_iff_ne.mpr c16
              have H' := Aside0.mk H
              clear H
              have hcv29 := own_string (P := Tryd.prog) Tryd.underlying22 Tryd.underlying5 Tryd.underlying9 (Kd.own_of_R HO248.out)
              have hcv30 := own_string (P := Tryd.prog) Tryd.underlying22 Tryd.underlying5 Tryd.underlying9 (Kd.own_of_R HO240.out)
              go_wp2
              go_meet
              case rel => exact ⟨_, (true), (by first | rfl | (have e_ := Option.some.inj (A17.out.symm.trans A22.out); subst e_; rfl) | (simp; done) | (simp [*]; done) | (simp; rfl) | (simp; unfold wrap64; omega)), H', ⟨by first | omega | exact Nat.le_refl _⟩, ⟨by repeat (first | (with_reducible first | exact HB.out | apply below_alloc | apply pw_below_drewN | apply below_drew1) | exact HB.out)⟩⟩
          · rw [if_neg c15] at H
            have c15b0 : (t246 == 0) = false := beq_eq_false_iff_ne.mpr c15
            have c15b1 : (t246 != 0) = true := bne_iff_ne.mpr c15
            have H' := Aside0.mk H
            clear H
            go_wp2
            go_meet
            case rel => exact ⟨_, (true), (by first | rfl | (have e_ := Option.some.inj (A17.out.symm.trans A22.out); subst e_; rfl) | (simp; done) | (simp [*]; done) | (simp; rfl) | (simp; unfold wrap64; omega)), H', ⟨by first | omega | exact Nat.le_refl _⟩, ⟨by repeat (first | (with_reducible first | exact HB.out | apply below_alloc | apply pw_below_drewN | apply below_drew1) | exact HB.out)⟩⟩
        · rw [if_neg c14] at H
          have c14b0 : (t241.toList == t243.toList) = false := beq_eq_false_iff_ne.mpr c14
          have c14b1 : (t241.toList != t243.toList) = true := bne_iff_ne.mpr c14
          have H' := Aside0.mk H
          clear H
          go_wp2
          go_meet
          case rel => exact ⟨_, (true), (by first | rfl | (have e_ := Option.some.inj (A17.out.symm.trans A22.out); subst e_; rfl) | (simp; done) | (simp [*]; done) | (simp; rfl) | (simp; unfold wrap64; omega)), H', ⟨by first | omega | exact Nat.le_refl _⟩, ⟨by repeat (first | (with_reducible first | exact HB.out | apply below_alloc | apply pw_below_drewN | apply below_drew1) | exact HB.out)⟩⟩
      · rw [if_neg c13] at H
        have c13b0 : (t242 == 0) = false := beq_eq_false_iff_ne.mpr c13
        have c13b1 : (t242 != 0) = true := bne_iff_ne.mpr c13
        (first | rw [c13b0] | (simp only [i64_w, i32_w]; rw [c13b0]) | skip)
        have H' := Aside0.mk H
        clear H
        go_wp2
        go_meet
        case rel => exact ⟨_, (true), (by first | rfl | (have e_ := Option.some.inj (A17.out.symm.trans A22.out); subst e_; rfl) | (simp; done) | (simp [*]; done) | (simp; rfl) | (simp; unfold wrap64; omega)), H', ⟨by first | omega | exact Nat.le_refl _⟩, ⟨by repeat (first | (with_reducible first | exact HB.out | apply below_alloc | apply pw_below_drewN | apply below_drew1) | exact HB.out)⟩⟩
    case rest =>
      clear HC7
      try clear c1
      try clear hcv1
      try clear c2
      try clear c2b0
      try clear c2b1
      try clear p2
      try clear hcv2
      try clear hcv3
      try clear c4
      try clear c12
      try clear c13
      try clear c13b0
      try clear c13b1
      try clear c14
      try clear c14b0
      try clear c14b1
      try clear c15
      try clear c15b0
      try clear c15b1
      try clear c16
      try clear c16b0
      try clear c16b1
      try clear c17
      try clear c18
      try clear c18b0
      try clear hcv19
      try clear hcv20
      try clear hcv24
      try clear hcv25
      try clear hcv29
      try clear hcv30
      obtain ⟨kq, x61_6, rfl, HA, HJ6, HB⟩ := hcut
      cases kq with
      | zero => exact absurd HA.out (by simp [laws_FnQuoted.j0])
      | succ kj6 =>
        have H := HA.out
        clear HA
        simp only [laws_FnQuoted.j0] at H
        by_cases c31 : x61_6 = true
        · subst c31
          have H1 : (some false) = some r := by rw [if_pos rfl] at H; exact H
          clear H
          have H := H1
          clear H1
          obtain rfl := Option.some.inj H
          go_wp2
          go_ret
          exact ⟨by first | rfl | (simp [errW_none, errW_some] <;> rfl) | (simp [*, errW_none, errW_some] <;> rfl), by repeat (first | (with_reducible first | exact HB.out | apply below_alloc | apply pw_below_drewN | apply below_drew1) | exact HB.out)⟩
        · replace c31 := Bool.eq_false_iff.mpr c31
          subst c31
          have H1 : (laws_FnQuoted.l0 kj6 t241 0) = some r := by rw [if_neg (show ¬ (false = true) by decide)] at H; exact H
          clear H
          have H := H1
          clear H1
          have H' := Aside0.mk H
          clear H
          go_wp2
          go_loopg [10] kj6 (fun kq v10 w' => ∃ (x10_2 : Int), v10 = .int .i64 x10_2 ∧ Aside0 (laws_FnQuoted.l0 kq t241 x10_2 = some r) ∧ Aside0 (kq ≤ kj6) ∧ Aside0 (Below w.heap.size w w'))
          case atStart => exact ⟨(0), (by first | rfl | (have e_ := Option.some.inj (A17.out.symm.trans A22.out); subst e_; rfl) | (simp; done) | (simp [*]; done) | (simp; rfl) | (simp; unfold wrap64; omega)), H', ⟨Nat.le_refl _⟩, ⟨by repeat (first | (with_reducible first | exact HB.out | apply below_alloc | apply pw_below_drewN | apply below_drew1) | exact HB.out)⟩⟩
          case round =>
            clear H'
            try clear c1
            try clear hcv1
            try clear c2
            try clear c2b0
            try clear c2b1
            try clear p2
            try clear hcv2
            try clear c3
            try clear hcv3
            try clear c4
            try clear c12
            try clear c13
            try clear c13b0
            try clear c13b1
            try clear c14
            try clear c14b0
            try clear c14b1
            try clear c15
            try clear c15b0
            try clear c15b1
            try clear c16
            try clear c16b0
            try clear c16b1
            try clear c17
            try clear c18
            try clear c18b0
            try clear hcv19
            try clear hcv20
            try clear hcv24
            try clear hcv25
            try clear hcv29
            try clear hcv30
            try clear c31
            try clear p2
            obtain ⟨x10_2, rfl, HA, HK2, HB⟩ := hrel
            cases gk with
            | zero => exact absurd HA.out (by simp [laws_FnQuoted.l0])
            | succ k2 =>
              have H := HA.out
              clear HA
              simp only [laws_FnQuoted.l0] at H
              by_cases c32 : x10_2 < (t241.size : Int)
              · rw [if_pos c32] at H
                have c32b0 : decide (x10_2 < (t241.size : Int)) = true := decide_eq_true c32
                clear c32
                have HC33 := Aside0.mk H
                clear H
                go_upto_region 12 with (fail)
                go_cut [11] (fun v11 wc => ∃ (kq : Nat) (x11_32 : Bool), v11 = .bool x11_32 ∧ Aside0 (laws_FnQuoted.j2 kq t241 x10_2 x11_32 = some r) ∧ Aside0 (kq ≤ k2) ∧ Aside0 (Below w.heap.size w wc))
                case first =>
                  have H := HC33.out
                  clear HC33
                  by_cases c34 : 0 ≤ x10_2
                  · rw [if_pos c34] at H
                    have c34b0 : decide (0 ≤ x10_2) = true := decide_eq_true c34
                    clear c34
                    (first | rw [c34b0] | (simp only [i64_w, i32_w]; rw [c34b0]) | skip)
                    by_cases c36 : (bt t241 x10_2) = 13
                    · rw [if_pos c36] at H
                      have c36b0 : ((bt t241 x10_2) == 13) = true := beq_iff_eq.mpr c36
                      have c36b1 : ((bt t241 x10_2) != 13) = false := bne_eq_false_iff_eq.mpr c36
                      clear c36
                      by_cases c37 : (wrap64 (x10_2 + 1)) < (t241.size : Int)
                      · rw [if_pos c37] at H
                        have c37b0 : decide ((wrap64 (x10_2 + 1)) < (t241.size : Int)) = true := decide_eq_true c37
                        clear c37
                        obtain ⟨ji38, hji38⟩ : ∃ j_ : Int, (wrap64 (x10_2 + 1)) = j_ := ⟨_, rfl⟩
                        replace H : (if 0 ≤ (ji38) then (if (bt t241 (ji38)) = 10 then (laws_FnQuoted.j2 k2 t241 x10_2 true) else (if (bt t241 x10_2) = 10 then (if x10_2 > 0 then (if 0 ≤ (wrap64 (x10_2 - 1)) then (if (wrap64 (x10_2 - 1)) < (t241.size : Int) then (laws_FnQuoted.j2 k2 t241 x10_2 ((bt t241 (wrap64 (x10_2 - 1))) == 13)) else (none)) else (none)) else (laws_FnQuoted.j2 k2 t241 x10_2 false)) else (laws_FnQuoted.j2 k2 t241 x10_2 false))) else (none)) = some r := by first | (rw [hji38] at H; exact H) | (simp only [hji38] at H ⊢; exact H)
                        (try rw [hji38] at c37b0)
                        have hji38w : (IntKind.i64.wrap (x10_2 + 1)) = ji38 := (i64_w _).trans hji38
                        by_cases c39 : 0 ≤ (ji38)
                        · rw [if_pos c39] at H
                          have c39b0 : decide (0 ≤ (ji38)) = true := decide_eq_true c39
                          clear c39
                          by_cases c41 : (bt t241 (ji38)) = 10
                          · rw [if_pos c41] at H
                            have c41b0 : ((bt t241 (ji38)) == 10) = true := beq_iff_eq.mpr c41
                            have c41b1 : ((bt t241 (ji38)) != 10) = false := bne_eq_false_iff_eq.mpr c41
                            clear c41
                            have H' := Aside0.mk H
                            clear H
                            have p35 : 0 ≤ (x10_2 : Int) := of_decide_eq_true (by first | (with_reducible assumption) | assumption)
                            have q35 : x10_2 < (t241.size : Int) := of_decide_eq_true (by first | (with_reducible assumption) | assumption)
                            have hx35 := bt_at t241 x10_2
                            replace p35 := eq_true p35
                            replace q35 := eq_true q35
                            have p40 : 0 ≤ ((ji38) : Int) := of_decide_eq_true (by first | (with_reducible assumption) | assumption)
                            have q40 : (ji38) < (t241.size : Int) := of_decide_eq_true (by first | (with_reducible assumption) | assumption)
                            have hx40 := bt_at t241 (ji38)
                            replace p40 := eq_true p40
                            replace q40 := eq_true q40
                            go_wp2
                            go_meet
                            case rel => exact ⟨_, (true), (by first | rfl | (have e_ := Option.some.inj (A17.out.symm.trans A22.out); subst e_; rfl) | (simp; done) | (simp [*]; done) | (simp; rfl) | (simp; unfold wrap64; omega)), H', ⟨by have := HJ6.out; have := HK2.out; first | omega | exact Nat.le_refl _⟩, ⟨by repeat (first | (with_reducible first | exact HB.out | apply below_alloc | apply pw_below_drewN | apply below_drew1) | exact HB.out)⟩⟩
                          · rw [if_neg c41] at H
                            have c41b0 : ((bt t241 (ji38)) == 10) = false := beq_eq_false_iff_ne.mpr c41
                            have c41b1 : ((bt t241 (ji38)) != 10) = true := bne_iff_ne.mpr c41
                            by_cases c43 : (bt t241 x10_2) = 10
                            · rw [if_pos c43] at H
                              have c43b0 : ((bt t241 x10_2) == 10) = true := beq_iff_eq.mpr c43
                              have c43b1 : ((bt t241 x10_2) != 10) = false := bne_eq_false_iff_eq.mpr c43
                              clear c43
                              by_cases c44 : x10_2 > 0
                              · rw [if_pos c44] at H
                                have c44b0 : decide (0 < x10_2) = true := decide_eq_true c44
                                clear c44
                                obtain ⟨ji45, hji45⟩ : ∃ j_ : Int, (wrap64 (x10_2 - 1)) = j_ := ⟨_, rfl⟩
                                replace H : (if 0 ≤ (ji45) then (if (ji45) < (t241.size : Int) then (laws_FnQuoted.j2 k2 t241 x10_2 ((bt t241 (ji45)) == 13)) else (none)) else (none)) = some r := by first | (rw [hji45] at H; exact H) | (simp only [hji45] at H ⊢; exact H)
                                have hji45w : (IntKind.i64.wrap (x10_2 - 1)) = ji45 := (i64_w _).trans hji45
                                by_cases c46 : 0 ≤ (ji45)
                                · rw [if_pos c46] at H
                                  have c46b0 : decide (0 ≤ (ji45)) = true := decide_eq_true c46
                                  clear c46
                                  by_cases c47 : (ji45) < (t241.size : Int)
                                  · rw [if_pos c47] at H
                                    have c47b0 : decide ((ji45) < (t241.size : Int)) = true := decide_eq_true c47
                                    clear c47
                                    have H' := Aside0.mk H
                                    clear H
                                    have p35 : 0 ≤ (x10_2 : Int) := of_decide_eq_true (by first | (with_reducible assumption) | assumption)
                                    have q35 : x10_2 < (t241.size : Int) := of_decide_eq_true (by first | (with_reducible assumption) | assumption)
                                    have hx35 := bt_at t241 x10_2
                                    replace p35 := eq_true p35
                                    replace q35 := eq_true q35
                                    have p40 : 0 ≤ ((ji38) : Int) := of_decide_eq_true (by first | (with_reducible assumption) | assumption)
                                    have q40 : (ji38) < (t241.size : Int) := of_decide_eq_true (by first | (with_reducible assumption) | assumption)
                                    have hx40 := bt_at t241 (ji38)
                                    replace p40 := eq_true p40
                                    replace q40 := eq_true q40
                                    have p42 : 0 ≤ (x10_2 : Int) := of_decide_eq_true (by first | (with_reducible assumption) | assumption)
                                    have q42 : x10_2 < (t241.size : Int) := of_decide_eq_true (by first | (with_reducible assumption) | assumption)
                                    have hx42 := bt_at t241 x10_2
                                    replace p42 := eq_true p42
                                    replace q42 := eq_true q42
                                    have p48 : 0 ≤ ((ji45) : Int) := of_decide_eq_true (by first | (with_reducible assumption) | assumption)
                                    have q48 : (ji45) < (t241.size : Int) := of_decide_eq_true (by first | (with_reducible assumption) | assumption)
                                    have hx48 := bt_at t241 (ji45)
                                    replace p48 := eq_true p48
                                    replace q48 := eq_true q48
                                    go_wp2
                                    go_meet
                                    case rel => exact ⟨_, (((bt t241 (ji45)) == 13)), (by first | rfl | (have e_ := Option.some.inj (A17.out.symm.trans A22.out); subst e_; rfl) | (simp; done) | (simp only [← hji45] <;> (first | rfl | simp)) | (simp [*]; done)), H', ⟨by have := HJ6.out; have := HK2.out; first | omega | exact Nat.le_refl _⟩, ⟨by repeat (first | (with_reducible first | exact HB.out | apply below_alloc | apply pw_below_drewN | apply below_drew1) | exact HB.out)⟩⟩
                                  · rw [if_neg c47] at H
                                    exact absurd H (by simp)
                                · rw [if_neg c46] at H
                                  exact absurd H (by simp)
                              · rw [if_neg c44] at H
                                have c44b0 : decide (0 < x10_2) = false := decide_eq_false c44
                                clear c44
                                have H' := Aside0.mk H
                                clear H
                                have p35 : 0 ≤ (x10_2 : Int) := of_decide_eq_true (by first | (with_reducible assumption) | assumption)
                                have q35 : x10_2 < (t241.size : Int) := of_decide_eq_true (by first | (with_reducible assumption) | assumption)
                                have hx35 := bt_at t241 x10_2
                                replace p35 := eq_true p35
                                replace q35 := eq_true q35
                                have p40 : 0 ≤ ((ji38) : Int) := of_decide_eq_true (by first | (with_reducible assumption) | assumption)
                                have q40 : (ji38) < (t241.size : Int) := of_decide_eq_true (by first | (with_reducible assumption) | assumption)
                                have hx40 := bt_at t241 (ji38)
                                replace p40 := eq_true p40
                                replace q40 := eq_true q40
                                have p42 : 0 ≤ (x10_2 : Int) := of_decide_eq_true (by first | (with_reducible assumption) | assumption)
                                have q42 : x10_2 < (t241.size : Int) := of_decide_eq_true (by first | (with_reducible assumption) | assumption)
                                have hx42 := bt_at t241 x10_2
                                replace p42 := eq_true p42
                                replace q42 := eq_true q42
                                go_wp2
                                go_meet
                                case rel => exact ⟨_, (false), (by first | rfl | (have e_ := Option.some.inj (A17.out.symm.trans A22.out); subst e_; rfl) | (simp; done) | (simp [*]; done) | (simp; rfl) | (simp; unfold wrap64; omega)), H', ⟨by have := HJ6.out; have := HK2.out; first | omega | exact Nat.le_refl _⟩, ⟨by repeat (first | (with_reducible first | exact HB.out | apply below_alloc | apply pw_below_drewN | apply below_drew1) | exact HB.out)⟩⟩
                            · rw [if_neg c43] at H
                              have c43b0 : ((bt t241 x10_2) == 10) = false := beq_eq_false_iff_ne.mpr c43
                              have c43b1 : ((bt t241 x10_2) != 10) = true := bne_iff_ne.mpr c43
                              have H' := Aside0.mk H
                              clear H
                              have p35 : 0 ≤ (x10_2 : Int) := of_decide_eq_true (by first | (with_reducible assumption) | assumption)
                              have q35 : x10_2 < (t241.size : Int) := of_decide_eq_true (by first | (with_reducible assumption) | assumption)
                              have hx35 := bt_at t241 x10_2
                              replace p35 := eq_true p35
                              replace q35 := eq_true q35
                              have p40 : 0 ≤ ((ji38) : Int) := of_decide_eq_true (by first | (with_reducible assumption) | assumption)
                              have q40 : (ji38) < (t241.size : Int) := of_decide_eq_true (by first | (with_reducible assumption) | assumption)
                              have hx40 := bt_at t241 (ji38)
                              replace p40 := eq_true p40
                              replace q40 := eq_true q40
                              have p42 : 0 ≤ (x10_2 : Int) := of_decide_eq_true (by first | (with_reducible assumption) | assumption)
                              have q42 : x10_2 < (t241.size : Int) := of_decide_eq_true (by first | (with_reducible assumption) | assumption)
                              have hx42 := bt_at t241 x10_2
                              replace p42 := eq_true p42
                              replace q42 := eq_true q42
                              go_wp2
                              go_meet
                              case rel => exact ⟨_, (false), (by first | rfl | (have e_ := Option.some.inj (A17.out.symm.trans A22.out); subst e_; rfl) | (simp; done) | (simp [*]; done) | (simp; rfl) | (simp; unfold wrap64; omega)), H', ⟨by have := HJ6.out; have := HK2.out; first | omega | exact Nat.le_refl _⟩, ⟨by repeat (first | (with_reducible first | exact HB.out | apply below_alloc | apply pw_below_drewN | apply below_drew1) | exact HB.out)⟩⟩
                        · rw [if_neg c39] at H
                          exact absurd H (by simp)
                      · rw [if_neg c37] at H
                        have c37b0 : decide ((wrap64 (x10_2 + 1)) < (t241.size : Int)) = false := decide_eq_false c37
                        clear c37
                        by_cases c50 : (bt t241 x10_2) = 10
                        · rw [if_pos c50] at H
                          have c50b0 : ((bt t241 x10_2) == 10) = true := beq_iff_eq.mpr c50
                          have c50b1 : ((bt t241 x10_2) != 10) = false := bne_eq_false_iff_eq.mpr c50
                          clear c50
                          by_cases c51 : x10_2 > 0
                          · rw [if_pos c51] at H
                            have c51b0 : decide (0 < x10_2) = true := decide_eq_true c51
                            clear c51
                            obtain ⟨ji52, hji52⟩ : ∃ j_ : Int, (wrap64 (x10_2 - 1)) = j_ := ⟨_, rfl⟩
                            replace H : (if 0 ≤ (ji52) then (if (ji52) < (t241.size : Int) then (laws_FnQuoted.j2 k2 t241 x10_2 ((bt t241 (ji52)) == 13)) else (none)) else (none)) = some r := by first | (rw [hji52] at H; exact H) | (simp only [hji52] at H ⊢; exact H)
                            have hji52w : (IntKind.i64.wrap (x10_2 - 1)) = ji52 := (i64_w _).trans hji52
                            by_cases c53 : 0 ≤ (ji52)
                            · rw [if_pos c53] at H
                              have c53b0 : decide (0 ≤ (ji52)) = true := decide_eq_true c53
                              clear c53
                              by_cases c54 : (ji52) < (t241.size : Int)
                              · rw [if_pos c54] at H
                                have c54b0 : decide ((ji52) < (t241.size : Int)) = true := decide_eq_true c54
                                clear c54
                                have H' := Aside0.mk H
                                clear H
                                have p35 : 0 ≤ (x10_2 : Int) := of_decide_eq_true (by first | (with_reducible assumption) | assumption)
                                have q35 : x10_2 < (t241.size : Int) := of_decide_eq_true (by first | (with_reducible assumption) | assumption)
                                have hx35 := bt_at t241 x10_2
                                replace p35 := eq_true p35
                                replace q35 := eq_true q35
                                have p49 : 0 ≤ (x10_2 : Int) := of_decide_eq_true (by first | (with_reducible assumption) | assumption)
                                have q49 : x10_2 < (t241.size : Int) := of_decide_eq_true (by first | (with_reducible assumption) | assumption)
                                have hx49 := bt_at t241 x10_2
                                replace p49 := eq_true p49
                                replace q49 := eq_true q49
                                have p55 : 0 ≤ ((ji52) : Int) := of_decide_eq_true (by first | (with_reducible assumption) | assumption)
                                have q55 : (ji52) < (t241.size : Int) := of_decide_eq_true (by first | (with_reducible assumption) | assumption)
                                have hx55 := bt_at t241 (ji52)
                                replace p55 := eq_true p55
                                replace q55 := eq_true q55
                                go_wp2
                                go_meet
                                case rel => exact ⟨_, (((bt t241 (ji52)) == 13)), (by first | rfl | (have e_ := Option.some.inj (A17.out.symm.trans A22.out); subst e_; rfl) | (simp; done) | (simp only [← hji52] <;> (first | rfl | simp)) | (simp [*]; done)), H', ⟨by have := HJ6.out; have := HK2.out; first | omega | exact Nat.le_refl _⟩, ⟨by repeat (first | (with_reducible first | exact HB.out | apply below_alloc | apply pw_below_drewN | apply below_drew1) | exact HB.out)⟩⟩
                              · rw [if_neg c54] at H
                                exact absurd H (by simp)
                            · rw [if_neg c53] at H
                              exact absurd H (by simp)
                          · rw [if_neg c51] at H
                            have c51b0 : decide (0 < x10_2) = false := decide_eq_false c51
                            clear c51
                            have H' := Aside0.mk H
                            clear H
                            have p35 : 0 ≤ (x10_2 : Int) := of_decide_eq_true (by first | (with_reducible assumption) | assumption)
                            have q35 : x10_2 < (t241.size : Int) := of_decide_eq_true (by first | (with_reducible assumption) | assumption)
                            have hx35 := bt_at t241 x10_2
                            replace p35 := eq_true p35
                            replace q35 := eq_true q35
                            have p49 : 0 ≤ (x10_2 : Int) := of_decide_eq_true (by first | (with_reducible assumption) | assumption)
                            have q49 : x10_2 < (t241.size : Int) := of_decide_eq_true (by first | (with_reducible assumption) | assumption)
                            have hx49 := bt_at t241 x10_2
                            replace p49 := eq_true p49
                            replace q49 := eq_true q49
                            go_wp2
                            go_meet
                            case rel => exact ⟨_, (false), (by first | rfl | (have e_ := Option.some.inj (A17.out.symm.trans A22.out); subst e_; rfl) | (simp; done) | (simp [*]; done) | (simp; rfl) | (simp; unfold wrap64; omega)), H', ⟨by have := HJ6.out; have := HK2.out; first | omega | exact Nat.le_refl _⟩, ⟨by repeat (first | (with_reducible first | exact HB.out | apply below_alloc | apply pw_below_drewN | apply below_drew1) | exact HB.out)⟩⟩
                        · rw [if_neg c50] at H
                          have c50b0 : ((bt t241 x10_2) == 10) = false := beq_eq_false_iff_ne.mpr c50
                          have c50b1 : ((bt t241 x10_2) != 10) = true := bne_iff_ne.mpr c50
                          have H' := Aside0.mk H
                          clear H
                          have p35 : 0 ≤ (x10_2 : Int) := of_decide_eq_true (by first | (with_reducible assumption) | assumption)
                          have q35 : x10_2 < (t241.size : Int) := of_decide_eq_true (by first | (with_reducible assumption) | assumption)
                          have hx35 := bt_at t241 x10_2
                          replace p35 := eq_true p35
                          replace q35 := eq_true q35
                          have p49 : 0 ≤ (x10_2 : Int) := of_decide_eq_true (by first | (with_reducible assumption) | assumption)
                          have q49 : x10_2 < (t241.size : Int) := of_decide_eq_true (by first | (with_reducible assumption) | assumption)
                          have hx49 := bt_at t241 x10_2
                          replace p49 := eq_true p49
                          replace q49 := eq_true q49
                          go_wp2
                          go_meet
                          case rel => exact ⟨_, (false), (by first | rfl | (have e_ := Option.some.inj (A17.out.symm.trans A22.out); subst e_; rfl) | (simp; done) | (simp [*]; done) | (simp; rfl) | (simp; unfold wrap64; omega)), H', ⟨by have := HJ6.out; have := HK2.out; first | omega | exact Nat.le_refl _⟩, ⟨by repeat (first | (with_reducible first | exact HB.out | apply below_alloc | apply pw_below_drewN | apply below_drew1) | exact HB.out)⟩⟩
                    · rw [if_neg c36] at H
                      have c36b0 : ((bt t241 x10_2) == 13) = false := beq_eq_false_iff_ne.mpr c36
                      have c36b1 : ((bt t241 x10_2) != 13) = true := bne_iff_ne.mpr c36
                      by_cases c57 : (bt t241 x10_2) = 10
                      · rw [if_pos c57] at H
                        have c57b0 : ((bt t241 x10_2) == 10) = true := beq_iff_eq.mpr c57
                        have c57b1 : ((bt t241 x10_2) != 10) = false := bne_eq_false_iff_eq.mpr c57
                        clear c57
                        by_cases c58 : x10_2 > 0
                        · rw [if_pos c58] at H
                          have c58b0 : decide (0 < x10_2) = true := decide_eq_true c58
                          clear c58
                          obtain ⟨ji59, hji59⟩ : ∃ j_ : Int, (wrap64 (x10_2 - 1)) = j_ := ⟨_, rfl⟩
                          replace H : (if 0 ≤ (ji59) then (if (ji59) < (t241.size : Int) then (laws_FnQuoted.j2 k2 t241 x10_2 ((bt t241 (ji59)) == 13)) else (none)) else (none)) = some r := by first | (rw [hji59] at H; exact H) | (simp only [hji59] at H ⊢; exact H)
                          have hji59w : (IntKind.i64.wrap (x10_2 - 1)) = ji59 := (i64_w _).trans hji59
                          by_cases c60 : 0 ≤ (ji59)
                          · rw [if_pos c60] at H
                            have c60b0 : decide (0 ≤ (ji59)) = true := decide_eq_true c60
                            clear c60
                            by_cases c61 : (ji59) < (t241.size : Int)
                            · rw [if_pos c61] at H
                              have c61b0 : decide ((ji59) < (t241.size : Int)) = true := decide_eq_true c61
                              clear c61
                              have H' := Aside0.mk H
                              clear H
                              have p35 : 0 ≤ (x10_2 : Int) := of_decide_eq_true (by first | (with_reducible assumption) | assumption)
                              have q35 : x10_2 < (t241.size : Int) := of_decide_eq_true (by first | (with_reducible assumption) | assumption)
                              have hx35 := bt_at t241 x10_2
                              replace p35 := eq_true p35
                              replace q35 := eq_true q35
                              have p56 : 0 ≤ (x10_2 : Int) := of_decide_eq_true (by first | (with_reducible assumption) | assumption)
                              have q56 : x10_2 < (t241.size : Int) := of_decide_eq_true (by first | (with_reducible assumption) | assumption)
                              have hx56 := bt_at t241 x10_2
                              replace p56 := eq_true p56
                              replace q56 := eq_true q56
                              have p62 : 0 ≤ ((ji59) : Int) := of_decide_eq_true (by first | (with_reducible assumption) | assumption)
                              have q62 : (ji59) < (t241.size : Int) := of_decide_eq_true (by first | (with_reducible assumption) | assumption)
                              have hx62 := bt_at t241 (ji59)
                              replace p62 := eq_true p62
                              replace q62 := eq_true q62
                              go_wp2
                              go_meet
                              case rel => exact ⟨_, (((bt t241 (ji59)) == 13)), (by first | rfl | (have e_ := Option.some.inj (A17.out.symm.trans A22.out); subst e_; rfl) | (simp; done) | (simp only [← hji59] <;> (first | rfl | simp)) | (simp [*]; done)), H', ⟨by have := HJ6.out; have := HK2.out; first | omega | exact Nat.le_refl _⟩, ⟨by repeat (first | (with_reducible first | exact HB.out | apply below_alloc | apply pw_below_drewN | apply below_drew1) | exact HB.out)⟩⟩
                            · rw [if_neg c61] at H
                              exact absurd H (by simp)
                          · rw [if_neg c60] at H
                            exact absurd H (by simp)
                        · rw [if_neg c58] at H
                          have c58b0 : decide (0 < x10_2) = false := decide_eq_false c58
                          clear c58
                          have H' := Aside0.mk H
                          clear H
                          have p35 : 0 ≤ (x10_2 : Int) := of_decide_eq_true (by first | (with_reducible assumption) | assumption)
                          have q35 : x10_2 < (t241.size : Int) := of_decide_eq_true (by first | (with_reducible assumption) | assumption)
                          have hx35 := bt_at t241 x10_2
                          replace p35 := eq_true p35
                          replace q35 := eq_true q35
                          have p56 : 0 ≤ (x10_2 : Int) := of_decide_eq_true (by first | (with_reducible assumption) | assumption)
                          have q56 : x10_2 < (t241.size : Int) := of_decide_eq_true (by first | (with_reducible assumption) | assumption)
                          have hx56 := bt_at t241 x10_2
                          replace p56 := eq_true p56
                          replace q56 := eq_true q56
                          go_wp2
                          go_meet
                          case rel => exact ⟨_, (false), (by first | rfl | (have e_ := Option.some.inj (A17.out.symm.trans A22.out); subst e_; rfl) | (simp; done) | (simp [*]; done) | (simp; rfl) | (simp; unfold wrap64; omega)), H', ⟨by have := HJ6.out; have := HK2.out; first | omega | exact Nat.le_refl _⟩, ⟨by repeat (first | (with_reducible first | exact HB.out | apply below_alloc | apply pw_below_drewN | apply below_drew1) | exact HB.out)⟩⟩
                      · rw [if_neg c57] at H
                        have c57b0 : ((bt t241 x10_2) == 10) = false := beq_eq_false_iff_ne.mpr c57
                        have c57b1 : ((bt t241 x10_2) != 10) = true := bne_iff_ne.mpr c57
                        have H' := Aside0.mk H
                        clear H
                        have p35 : 0 ≤ (x10_2 : Int) := of_decide_eq_true (by first | (with_reducible assumption) | assumption)
                        have q35 : x10_2 < (t241.size : Int) := of_decide_eq_true (by first | (with_reducible assumption) | assumption)
                        have hx35 := bt_at t241 x10_2
                        replace p35 := eq_true p35
                        replace q35 := eq_true q35
                        have p56 : 0 ≤ (x10_2 : Int) := of_decide_eq_true (by first | (with_reducible assumption) | assumption)
                        have q56 : x10_2 < (t241.size : Int) := of_decide_eq_true (by first | (with_reducible assumption) | assumption)
                        have hx56 := bt_at t241 x10_2
                        replace p56 := eq_true p56
                        replace q56 := eq_true q56
                        go_wp2
                        go_meet
                        case rel => exact ⟨_, (false), (by first | rfl | (have e_ := Option.some.inj (A17.out.symm.trans A22.out); subst e_; rfl) | (simp; done) | (simp [*]; done) | (simp; rfl) | (simp; unfold wrap64; omega)), H', ⟨by have := HJ6.out; have := HK2.out; first | omega | exact Nat.le_refl _⟩, ⟨by repeat (first | (with_reducible first | exact HB.out | apply below_alloc | apply pw_below_drewN | apply below_drew1) | exact HB.out)⟩⟩
                  · rw [if_neg c34] at H
                    exact absurd H (by simp)
                case rest =>
                  clear HC33
                  try clear c1
                  try clear hcv1
                  try clear c2
                  try clear c2b0
                  try clear c2b1
                  try clear p2
                  try clear hcv2
                  try clear c3
                  try clear p3
                  try clear q3
                  try clear hx3
                  try clear hcv3
                  try clear c4
                  try clear p4
                  try clear q4
                  try clear hx4
                  try clear c5
                  try clear p5
                  try clear q5
                  try clear hx5
                  try clear c6
                  try clear p6
                  try clear q6
                  try clear hx6
                  try clear c12
                  try clear c13
                  try clear c13b0
                  try clear c13b1
                  try clear c14
                  try clear c14b0
                  try clear c14b1
                  try clear c15
                  try clear c15b0
                  try clear c15b1
                  try clear c16
                  try clear c16b0
                  try clear c16b1
                  try clear c17
                  try clear c18
                  try clear c18b0
                  try clear hcv19
                  try clear hcv20
                  try clear hcv24
                  try clear hcv25
                  try clear hcv29
                  try clear hcv30
                  try clear c31
                  try clear c32
                  try clear c32b0
                  try clear c34
                  try clear c34b0
                  try clear p35
                  try clear q35
                  try clear hx35
                  try clear c36
                  try clear c36b0
                  try clear c36b1
                  try clear c37
                  try clear c37b0
                  try clear c39
                  try clear c39b0
                  try clear p40
                  try clear q40
                  try clear hx40
                  try clear c41
                  try clear c41b0
                  try clear c41b1
                  try clear p42
                  try clear q42
                  try clear hx42
                  try clear c43
                  try clear c43b0
                  try clear c43b1
                  try clear c44
                  try clear c44b0
                  try clear c46
                  try clear c46b0
                  try clear c47
                  try clear c47b0
                  try clear p48
                  try clear q48
                  try clear hx48
                  try clear p49
                  try clear q49
                  try clear hx49
                  try clear c50
                  try clear c50b0
                  try clear c50b1
                  try clear c51
                  try clear c51b0
                  try clear c53
                  try clear c53b0
                  try clear c54
                  try clear c54b0
                  try clear p55
                  try clear q55
                  try clear hx55
                  try clear p56
                  try clear q56
                  try clear hx56
                  try clear c57
                  try clear c57b0
                  try clear c57b1
                  try clear c58
                  try clear c58b0
                  try clear c60
                  try clear c60b0
                  try clear c61
                  try clear c61b0
                  try clear p62
                  try clear q62
                  try clear hx62
                  try clear p2
                  try clear p35
                  try clear p40
                  try clear p42
                  try clear p48
                  try clear p49
                  try clear p55
                  try clear p56
                  try clear p62
                  try clear q35
                  try clear q40
                  try clear q42
                  try clear q48
                  try clear q49
                  try clear q55
                  try clear q56
                  try clear q62
                  obtain ⟨kq, x11_32, rfl, HA, HJ32, HB⟩ := hcut
                  cases kq with
                  | zero => exact absurd HA.out (by simp [laws_FnQuoted.j2])
                  | succ kj32 =>
                    have H := HA.out
                    clear HA
                    simp only [laws_FnQuoted.j2] at H
                    have HC63 := Aside0.mk H
                    clear H
                    go_upto_region 13 with (fail)
                    go_cut [116] (fun v116 wc => ∃ (kq : Nat) (x116_62 : Bool), v116 = .bool x116_62 ∧ Aside0 (laws_FnQuoted.j3 kq t241 x10_2 x116_62 = some r) ∧ Aside0 (kq ≤ kj32) ∧ Aside0 (Below w.heap.size w wc))
                    case first =>
                      have H := HC63.out
                      clear HC63
                      by_cases c64 : x11_32 = true
                      · subst c64
                        have H1 : (laws_FnQuoted.j3 kj32 t241 x10_2 false) = some r := by rw [if_pos rfl] at H; exact H
                        clear H
                        have H := H1
                        clear H1
                        have H' := Aside0.mk H
                        clear H
                        go_wp2
                        go_meet
                        case rel => exact ⟨_, (false), (by first | rfl | (have e_ := Option.some.inj (A17.out.symm.trans A22.out); subst e_; rfl) | (simp; done) | (simp [*]; done) | (simp; rfl) | (simp; unfold wrap64; omega)), H', ⟨by have := HJ6.out; have := HK2.out; have := HJ32.out; first | omega | exact Nat.le_refl _⟩, ⟨by repeat (first | (with_reducible first | exact HB.out | apply below_alloc | apply pw_below_drewN | apply below_drew1) | exact HB.out)⟩⟩
                      · replace c64 := Bool.eq_false_iff.mpr c64
                        subst c64
                        have H1 : (if 0 ≤ x10_2 then (if x10_2 < (t241.size : Int) then (if (bt t241 x10_2) < 32 then (laws_FnQuoted.j3 kj32 t241 x10_2 true) else (laws_FnQuoted.j3 kj32 t241 x10_2 (decide ((bt t241 x10_2) > 126)))) else (none)) else (none)) = some r := by rw [if_neg (show ¬ (false = true) by decide)] at H; exact H
                        clear H
                        have H := H1
                        clear H1
                        by_cases c65 : 0 ≤ x10_2
                        · rw [if_pos c65] at H
                          have c65b0 : decide (0 ≤ x10_2) = true := decide_eq_true c65
                          clear c65
                          (first | rw [c65b0] | (simp only [i64_w, i32_w]; rw [c65b0]) | skip)
                          by_cases c66 : x10_2 < (t241.size : Int)
                          · rw [if_pos c66] at H
                            have c66b0 : decide (x10_2 < (t241.size : Int)) = true := decide_eq_true c66
                            clear c66
                            by_cases c68 : (bt t241 x10_2) < 32
                            · rw [if_pos c68] at H
                              have c68b0 : decide ((bt t241 x10_2) < 32) = true := decide_eq_true c68
                              clear c68
                              have H' := Aside0.mk H
                              clear H
                              have p67 : 0 ≤ (x10_2 : Int) := of_decide_eq_true (by first | (with_reducible assumption) | assumption)
                              have q67 : x10_2 < (t241.size : Int) := of_decide_eq_true (by first | (with_reducible assumption) | assumption)
                              have hx67 := bt_at t241 x10_2
                              replace p67 := eq_true p67
                              replace q67 := eq_true q67
                              go_wp2
                              go_meet
                              case rel => exact ⟨_, (true), (by first | rfl | (have e_ := Option.some.inj (A17.out.symm.trans A22.out); subst e_; rfl) | (simp; done) | (simp [*]; done) | (simp; rfl) | (simp; unfold wrap64; omega)), H', ⟨by have := HJ6.out; have := HK2.out; have := HJ32.out; first | omega | exact Nat.le_refl _⟩, ⟨by repeat (first | (with_reducible first | exact HB.out | apply below_alloc | apply pw_below_drewN | apply below_drew1) | exact HB.out)⟩⟩
                            · rw [if_neg c68] at H
                              have c68b0 : decide ((bt t241 x10_2) < 32) = false := decide_eq_false c68
                              clear c68
                              have H' := Aside0.mk H
                              clear H
                              have p67 : 0 ≤ (x10_2 : Int) := of_decide_eq_true (by first | (with_reducible assumption) | assumption)
                              have q67 : x10_2 < (t241.size : Int) := of_decide_eq_true (by first | (with_reducible assumption) | assumption)
                              have hx67 := bt_at t241 x10_2
                              replace p67 := eq_true p67
                              replace q67 := eq_true q67
                              have p69 : 0 ≤ (x10_2 : Int) := of_decide_eq_true (by first | (with_reducible assumption) | assumption)
                              have q69 : x10_2 < (t241.size : Int) := of_decide_eq_true (by first | (with_reducible assumption) | assumption)
                              have hx69 := bt_at t241 x10_2
                              replace p69 := eq_true p69
                              replace q69 := eq_true q69
                              go_wp2
                              go_meet
                              case rel => exact ⟨_, (decide ((bt t241 x10_2) > 126)), (by first | rfl | (have e_ := Option.some.inj (A17.out.symm.trans A22.out); subst e_; rfl) | (simp; done) | (simp [*]; done) | (simp; rfl) | (simp; unfold wrap64; omega)), H', ⟨by have := HJ6.out; have := HK2.out; have := HJ32.out; first | omega | exact Nat.le_refl _⟩, ⟨by repeat (first | (with_reducible first | exact HB.out | apply below_alloc | apply pw_below_drewN | apply below_drew1) | exact HB.out)⟩⟩
                          · rw [if_neg c66] at H
                            exact absurd H (by simp)
                        · rw [if_neg c65] at H
                          exact absurd H (by simp)
                    case rest =>
                      clear HC63
                      try clear c1
                      try clear hcv1
                      try clear c2
                      try clear c2b0
                      try clear c2b1
                      try clear p2
                      try clear hcv2
                      try clear c3
                      try clear p3
                      try clear q3
                      try clear hx3
                      try clear hcv3
                      try clear c4
                      try clear p4
                      try clear q4
                      try clear hx4
                      try clear c5
                      try clear p5
                      try clear q5
                      try clear hx5
                      try clear c6
                      try clear p6
                      try clear q6
                      try clear hx6
                      try clear c12
                      try clear c13
                      try clear c13b0
                      try clear c13b1
                      try clear c14
                      try clear c14b0
                      try clear c14b1
                      try clear c15
                      try clear c15b0
                      try clear c15b1
                      try clear c16
                      try clear c16b0
                      try clear c16b1
                      try clear c17
                      try clear c18
                      try clear c18b0
                      try clear hcv19
                      try clear hcv20
                      try clear hcv24
                      try clear hcv25
                      try clear hcv29
                      try clear hcv30
                      try clear c31
                      try clear c32
                      try clear c32b0
                      try clear c34
                      try clear c34b0
                      try clear p35
                      try clear q35
                      try clear hx35
                      try clear c36
                      try clear c36b0
                      try clear c36b1
                      try clear c37
                      try clear c37b0
                      try clear c39
                      try clear c39b0
                      try clear p40
                      try clear q40
                      try clear hx40
                      try clear c41
                      try clear c41b0
                      try clear c41b1
                      try clear p42
                      try clear q42
                      try clear hx42
                      try clear c43
                      try clear c43b0
                      try clear c43b1
                      try clear c44
                      try clear c44b0
                      try clear c46
                      try clear c46b0
                      try clear c47
                      try clear c47b0
                      try clear p48
                      try clear q48
                      try clear hx48
                      try clear p49
                      try clear q49
                      try clear hx49
                      try clear c50
                      try clear c50b0
                      try clear c50b1
                      try clear c51
                      try clear c51b0
                      try clear c53
                      try clear c53b0
                      try clear c54
                      try clear c54b0
                      try clear p55
                      try clear q55
                      try clear hx55
                      try clear p56
                      try clear q56
                      try clear hx56
                      try clear c57
                      try clear c57b0
                      try clear c57b1
                      try clear c58
                      try clear c58b0
                      try clear c60
                      try clear c60b0
                      try clear c61
                      try clear c61b0
                      try clear p62
                      try clear q62
                      try clear hx62
                      try clear c64
                      try clear p64
                      try clear c65
                      try clear c65b0
                      try clear c66
                      try clear c66b0
                      try clear p67
                      try clear q67
                      try clear hx67
                      try clear c68
                      try clear c68b0
                      try clear p69
                      try clear q69
                      try clear hx69
                      try clear p2
                      try clear p3
                      try clear p35
                      try clear p4
                      try clear p40
                      try clear p42
                      try clear p48
                      try clear p49
                      try clear p5
                      try clear p55
                      try clear p56
                      try clear p6
                      try clear p62
                      try clear p67
                      try clear p69
                      try clear q3
                      try clear q35
                      try clear q4
                      try clear q40
                      try clear q42
                      try clear q48
                      try clear q49
                      try clear q5
                      try clear q55
                      try clear q56
                      try clear q6
                      try clear q62
                      try clear q67
                      try clear q69
                      obtain ⟨kq, x116_62, rfl, HA, HJ62, HB⟩ := hcut
                      cases kq with
                      | zero => exact absurd HA.out (by simp [laws_FnQuoted.j3])
                      | succ kj62 =>
                        have H := HA.out
                        clear HA
                        simp only [laws_FnQuoted.j3] at H
                        by_cases c70 : x116_62 = true
                        · subst c70
                          have H1 : (some false) = some r := by rw [if_pos rfl] at H; exact H
                          clear H
                          have H := H1
                          clear H1
                          obtain rfl := Option.some.inj H
                          go_wp2
                          go_ret
                          exact ⟨by first | rfl | (simp [errW_none, errW_some] <;> rfl) | (simp [*, errW_none, errW_some] <;> rfl), by repeat (first | (with_reducible first | exact HB.out | apply below_alloc | apply pw_below_drewN | apply below_drew1) | exact HB.out)⟩
                        · replace c70 := Bool.eq_false_iff.mpr c70
                          subst c70
                          have H1 : (if 0 ≤ x10_2 then (if x10_2 < (t241.size : Int) then (if (bt t241 x10_2) = 32 then (if (wrap64 (x10_2 + 1)) = (t241.size : Int) then (some false) else (if 0 ≤ (wrap64 (x10_2 + 1)) then (if (wrap64 (x10_2 + 1)) < (t241.size : Int) then (if (bt t241 (wrap64 (x10_2 + 1))) = 13 then (some false) else (laws_FnQuoted.l0 kj62 t241 (wrap64 (x10_2 + 1)))) else (none)) else (none))) else (laws_FnQuoted.l0 kj62 t241 (wrap64 (x10_2 + 1)))) else (none)) else (none)) = some r := by rw [if_neg (show ¬ (false = true) by decide)] at H; exact H
                          clear H
                          have H := H1
                          clear H1
                          by_cases c71 : 0 ≤ x10_2
                          · rw [if_pos c71] at H
                            have c71b0 : decide (0 ≤ x10_2) = true := decide_eq_true c71
                            clear c71
                            by_cases c72 : x10_2 < (t241.size : Int)
                            · rw [if_pos c72] at H
                              have c72b0 : decide (x10_2 < (t241.size : Int)) = true := decide_eq_true c72
                              clear c72
                              by_cases c74 : (bt t241 x10_2) = 32
                              · rw [if_pos c74] at H
                                have c74b0 : ((bt t241 x10_2) == 32) = true := beq_iff_eq.mpr c74
                                have c74b1 : ((bt t241 x10_2) != 32) = false := bne_eq_false_iff_eq.mpr c74
                                clear c74
                                by_cases c75 : (wrap64 (x10_2 + 1)) = (t241.size : Int)
                                · rw [if_pos c75] at H
                                  have c75b0 : ((wrap64 (x10_2 + 1)) == (t241.size : Int)) = true := beq_iff_eq.mpr c75
                                  have c75b1 : ((wrap64 (x10_2 + 1)) != (t241.size : Int)) = false := bne_eq_false_iff_eq.mpr c75
                                  clear c75
                                  obtain rfl := Option.some.inj H
                                  have p73 : 0 ≤ (x10_2 : Int) := of_decide_eq_true (by first | (with_reducible assumption) | assumption)
                                  have q73 : x10_2 < (t241.size : Int) := of_decide_eq_true (by first | (with_reducible assumption) | assumption)
                                  have hx73 := bt_at t241 x10_2
                                  replace p73 := eq_true p73
                                  replace q73 := eq_true q73
                                  go_wp2
                                  go_ret
                                  exact ⟨by first | rfl | (simp [errW_none, errW_some] <;> rfl) | (simp [*, errW_none, errW_some] <;> rfl), by repeat (first | (with_reducible first | exact HB.out | apply below_alloc | apply pw_below_drewN | apply below_drew1) | exact HB.out)⟩
                                · rw [if_neg c75] at H
                                  have c75b0 : ((wrap64 (x10_2 + 1)) == (t241.size : Int)) = false := beq_eq_false_iff_ne.mpr c75
                                  have c75b1 : ((wrap64 (x10_2 + 1)) != (t241.size : Int)) = true := bne_iff_ne.mpr c75
                                  obtain ⟨ji76, hji76⟩ : ∃ j_ : Int, (wrap64 (x10_2 + 1)) = j_ := ⟨_, rfl⟩
                                  replace H : (if 0 ≤ (ji76) then (if (ji76) < (t241.size : Int) then (if (bt t241 (ji76)) = 13 then (some false) else (laws_FnQuoted.l0 kj62 t241 ji76)) else (none)) else (none)) = some r := by first | (rw [hji76] at H; exact H) | (simp only [hji76] at H ⊢; exact H)
                                  (try rw [hji76] at c75b0)
                                  (try rw [hji76] at c75b1)
                                  have hji76w : (IntKind.i64.wrap (x10_2 + 1)) = ji76 := (i64_w _).trans hji76
                                  by_cases c77 : 0 ≤ (ji76)
                                  · rw [if_pos c77] at H
                                    have c77b0 : decide (0 ≤ (ji76)) = true := decide_eq_true c77
                                    clear c77
                                    by_cases c78 : (ji76) < (t241.size : Int)
                                    · rw [if_pos c78] at H
                                      have c78b0 : decide ((ji76) < (t241.size : Int)) = true := decide_eq_true c78
                                      clear c78
                                      by_cases c80 : (bt t241 (ji76)) = 13
                                      · rw [if_pos c80] at H
                                        have c80b0 : ((bt t241 (ji76)) == 13) = true := beq_iff_eq.mpr c80
                                        have c80b1 : ((bt t241 (ji76)) != 13) = false := bne_eq_false_iff_eq.mpr c80
                                        clear c80
                                        obtain rfl := Option.some.inj H
                                        have p73 : 0 ≤ (x10_2 : Int) := of_decide_eq_true (by first | (with_reducible assumption) | assumption)
                                        have q73 : x10_2 < (t241.size : Int) := of_decide_eq_true (by first | (with_reducible assumption) | assumption)
                                        have hx73 := bt_at t241 x10_2
                                        replace p73 := eq_true p73
                                        replace q73 := eq_true q73
                                        have p79 : 0 ≤ ((ji76) : Int) := of_decide_eq_true (by first | (with_reducible assumption) | assumption)
                                        have q79 : (ji76) < (t241.size : Int) := of_decide_eq_true (by first | (with_reducible assumption) | assumption)
                                        have hx79 := bt_at t241 (ji76)
                                        replace p79 := eq_true p79
                                        replace q79 := eq_true q79
                                        go_wp2
                                        go_ret
                                        exact ⟨by first | rfl | (simp [errW_none, errW_some] <;> rfl) | (simp only [← hji76]; first | rfl | (simp [errW_none, errW_some] <;> rfl)) | (simp [*, errW_none, errW_some] <;> rfl), by repeat (first | (with_reducible first | exact HB.out | apply below_alloc | apply pw_below_drewN | apply below_drew1) | exact HB.out)⟩
                                      · rw [if_neg c80] at H
                                        have c80b0 : ((bt t241 (ji76)) == 13) = false := beq_eq_false_iff_ne.mpr c80
                                        have c80b1 : ((bt t241 (ji76)) != 13) = true := bne_iff_ne.mpr c80
                                        have H' := Aside0.mk H
                                        clear H
                                        have p73 : 0 ≤ (x10_2 : Int) := of_decide_eq_true (by first | (with_reducible assumption) | assumption)
                                        have q73 : x10_2 < (t241.size : Int) := of_decide_eq_true (by first | (with_reducible assumption) | assumption)
                                        have hx73 := bt_at t241 x10_2
                                        replace p73 := eq_true p73
                                        replace q73 := eq_true q73
                                        have p79 : 0 ≤ ((ji76) : Int) := of_decide_eq_true (by first | (with_reducible assumption) | assumption)
                                        have q79 : (ji76) < (t241.size : Int) := of_decide_eq_true (by first | (with_reducible assumption) | assumption)
                                        have hx79 := bt_at t241 (ji76)
                                        replace p79 := eq_true p79
                                        replace q79 := eq_true q79
                                        go_wp2
                                        go_roundg kj62
                                        case measure => have := HJ6.out; have := HK2.out; have := HJ32.out; have := HJ62.out; omega
                                        case rel => exact ⟨(ji76), (by first | rfl | (have e_ := Option.some.inj (A17.out.symm.trans A22.out); subst e_; rfl) | (simp; done) | (simp only [← hji76] <;> (first | rfl | simp)) | (simp [*]; done)), H', ⟨by have := HJ6.out; have := HK2.out; have := HJ32.out; have := HJ62.out; omega⟩, ⟨by repeat (first | (with_reducible first | exact HB.out | apply below_alloc | apply pw_below_drewN | apply below_drew1) | exact HB.out)⟩⟩
                                    · rw [if_neg c78] at H
                                      exact absurd H (by simp)
                                  · rw [if_neg c77] at H
                                    exact absurd H (by simp)
                              · rw [if_neg c74] at H
                                have c74b0 : ((bt t241 x10_2) == 32) = false := beq_eq_false_iff_ne.mpr c74
                                have c74b1 : ((bt t241 x10_2) != 32) = true := bne_iff_ne.mpr c74
                                have H' := Aside0.mk H
                                clear H
                                have p73 : 0 ≤ (x10_2 : Int) := of_decide_eq_true (by first | (with_reducible assumption) | assumption)
                                have q73 : x10_2 < (t241.size : Int) := of_decide_eq_true (by first | (with_reducible assumption) | assumption)
                                have hx73 := bt_at t241 x10_2
                                replace p73 := eq_true p73
                                replace q73 := eq_true q73
                                go_wp2
                                go_roundg kj62
                                case measure => have := HJ6.out; have := HK2.out; have := HJ32.out; have := HJ62.out; omega
                                case rel => exact ⟨(wrap64 (x10_2 + 1)), (by first | rfl | (have e_ := Option.some.inj (A17.out.symm.trans A22.out); subst e_; rfl) | (simp; done) | (simp [*]; done) | (simp; rfl) | (simp; unfold wrap64; omega)), H', ⟨by have := HJ6.out; have := HK2.out; have := HJ32.out; have := HJ62.out; omega⟩, ⟨by repeat (first | (with_reducible first | exact HB.out | apply below_alloc | apply pw_below_drewN | apply below_drew1) | exact HB.out)⟩⟩
                            · rw [if_neg c72] at H
                              exact absurd H (by simp)
                          · rw [if_neg c71] at H
                            exact absurd H (by simp)
              · rw [if_neg c32] at H
                have c32b0 : decide (x10_2 < (t241.size : Int)) = false := decide_eq_false c32
                clear c32
                obtain rfl := Option.some.inj H
                go_wp2
                go_ret
                exact ⟨by first | rfl | (simp [errW_none, errW_some] <;> rfl) | (simp [*, errW_none, errW_some] <;> rfl), by repeat (first | (with_reducible first | exact HB.out | apply below_alloc | apply pw_below_drewN | apply below_drew1) | exact HB.out)⟩

/-- THE ONE PURE STATEMENT of laws_FnQuoted: yours. -/
def laws_FnQuoted.Pure : Prop := ∀ (l0 : List Int), l0.length ≤ maxLen → l0.length * 1 ≤ 140737488351232 → (∀ x ∈ l0, (Lit.int .u8 x).wf = true) → ∃ k, laws_FnQuoted.f k l0 = some true
theorem laws_FnQuoted.walk (P : laws_FnQuoted.Pure) (a0 : Option Addr) (len0 cap0 : Nat) (z0 : List Int) (w : World) (w0 : (a0 = none ∧ len0 = 0 ∧ cap0 = 0 ∧ z0 = []) ∨ ∃ x, a0 = some x ∧ len0 ≤ cap0 ∧ cap0 ≤ maxLen ∧ z0.length = cap0 ∧ (∀ i, i < z0.length → w.cell? (x.add i) = some (.int .u8 (z0.getD i 0))) ∧ ∀ n ∈ z0, (Lit.int .u8 n).wf = true) (y0 : len0 * 1 ≤ 140737488351232) (hG : Glob w) :
    Calls Tryd.prog 4 #[.slice a0 len0 cap0] w fun e w' => e = .returned (.bool true) ∧ Below w.heap.size w w' := by
  obtain ⟨l0, rfl, hr0, hm0, hw0, hc0⟩ := ReadsInt.ofRowC w0
  obtain ⟨k, h⟩ := P l0 hm0 y0 hw0
  refine (laws_FnQuoted.calls k _ _ l0 true w (Kd.C_of_reads (d := (0 : Int)) (h1 := fun _ => rfl) hr0) hc0 h hG).mono ?_
  rintro e w' ⟨rfl, hd⟩
  exact ⟨rfl, hd⟩

end Go.Proofs.YtebmhicdlamnbaaDoor.QFnQuoted
