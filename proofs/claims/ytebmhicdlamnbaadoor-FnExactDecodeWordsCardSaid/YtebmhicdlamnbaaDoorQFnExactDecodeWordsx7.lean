/- Printed by a program of this session's own (wip/myprint.py): the functions that FnExactDecodeWords reaches as plain Lean functions, and that Go's calls do what they say. Conditions: as each theorem states. -/
import Derived.Test.YtebmhicdlamnbaaDoorQFnExactDecodeWordsx0
import Derived.Test.YtebmhicdlamnbaaDoorQFnExactDecodeWordsx3
import Derived.Test.YtebmhicdlamnbaaDoorQFnExactDecodeWordsx4
import Derived.Test.YtebmhicdlamnbaaDoorQFnExactDecodeWordsx5
import Derived.Test.YtebmhicdlamnbaaDoorQFnExactDecodeWordsx6
namespace Go.Proofs.YtebmhicdlamnbaaDoor.QFnExactDecodeWords
open Go.RowKit Go.Proofs.YtebmhicdlamnbaaDoorW.PrintWords Go.Proofs.YtebmhicdlamnbaaDoorW.PrintLast Go.Proofs.YtebmhicdlamnbaaDoorW.PrintMore
attribute [local go_sem] max2_int min2_int max_two min_two max_three min_three max_four min_four   -- for this text's walks alone
set_option linter.unusedVariables false
set_option linter.unusedSimpArgs false

/-! ### impl_codedWord: function 76 -/
def impl_codedWord.j0 : Nat → ByteArray → Bool → Option (ByteArray × Bool)
  | 0, _, _ => none
  | k + 1, x6, x25 => if x25 = true then (some ((⟨#[]⟩ : ByteArray), false)) else ((impl_fromBase64.f k x6).bind fun bt208 => (if bt208.2 = true then (if (bt208.1.length : Int) = 0 then (some ((⟨#[]⟩ : ByteArray), false)) else ((utf8_Valid.f bt208.1).bind fun t212 => (if t212 = true then (some (strOfNums bt208.1, true)) else (some ((⟨#[]⟩ : ByteArray), false))))) else (some ((⟨#[]⟩ : ByteArray), false))))
def impl_codedWord.f (k : Nat) (a0 : ByteArray) : Option (ByteArray × Bool) := (strings_CutPrefix.f a0 (⟨#[61, 63, 117, 116, 102, 45, 56, 63, 66, 63]⟩ : ByteArray)).bind fun bt204 => ((strings_CutSuffix.f bt204.1 (⟨#[63, 61]⟩ : ByteArray)).bind fun bt206 => (if bt204.2 = true then (impl_codedWord.j0 k bt206.1 (!bt206.2)) else (impl_codedWord.j0 k bt206.1 true)))
theorem impl_codedWord.mono_l : ∀ k, (∀ y0 y1, LeO (impl_codedWord.j0 k y0 y1) (impl_codedWord.j0 (k + 1) y0 y1))
  | 0 => fun _ _ r h => by simp [impl_codedWord.j0] at h
  | k + 1 => by
    have ih0 := impl_codedWord.mono_l k
    · intro y0 y1
      unfold impl_codedWord.j0
      repeat' first
      | (with_reducible exact ih0 _ _)
      | (with_reducible exact impl_fromBase64.mono _ _)
      | (with_reducible exact LeO.refl _)
      | (with_reducible exact LeO.none _)
      | (with_reducible refine LeO.ite ?_ ?_)
      | (with_reducible refine LeO.bind ?_ (fun _ => ?_))
      | exact ih0 _ _
      | exact impl_fromBase64.mono _ _
      | exact LeO.none _
      | refine LeO.ite ?_ ?_
      | refine LeO.bind ?_ (fun _ => ?_)
theorem impl_codedWord.mono : ∀ a0 k, LeO (impl_codedWord.f k a0) (impl_codedWord.f (k + 1) a0) := by
  intro a0 k
  have ih0 := impl_codedWord.mono_l k
  unfold impl_codedWord.f
  repeat' first
      | (with_reducible exact ih0 _ _)
      | (with_reducible exact impl_fromBase64.mono _ _)
      | (with_reducible exact LeO.refl _)
      | (with_reducible exact LeO.none _)
      | (with_reducible refine LeO.ite ?_ ?_)
      | (with_reducible refine LeO.bind ?_ (fun _ => ?_))
      | exact ih0 _ _
      | exact impl_fromBase64.mono _ _
      | exact LeO.none _
      | refine LeO.ite ?_ ?_
      | refine LeO.bind ?_ (fun _ => ?_)
set_option maxHeartbeats 8000000 in
set_option maxRecDepth 100000 in
theorem impl_codedWord.calls (k : Nat) (a0 : ByteArray) (r1 : ByteArray) (r2 : Bool) (w : World) (h : impl_codedWord.f k a0 = some (r1, r2)) (hG : Glob w) :
    Calls Tryd.prog 76 #[.string a0] w fun e w' => e = .returned (.tuple #[.string r1, .bool r2]) ∧ Below w.heap.size w w' := by
  have HG := Aside0.mk hG
  clear hG
  have HB := Aside0.mk (Below.refl w.heap.size w)
  have H : ((strings_CutPrefix.f a0 (⟨#[61, 63, 117, 116, 102, 45, 56, 63, 66, 63]⟩ : ByteArray)).bind fun bt204 => ((strings_CutSuffix.f bt204.1 (⟨#[63, 61]⟩ : ByteArray)).bind fun bt206 => (if bt204.2 = true then (impl_codedWord.j0 k bt206.1 (!bt206.2)) else (impl_codedWord.j0 k bt206.1 true)))) = some (r1, r2) := h
  clear h
  replace H := Option.bind_eq_some_iff.mp H
  obtain ⟨⟨t204, t205⟩, A20, H⟩ := H
  replace H : ((strings_CutSuffix.f t204 (⟨#[63, 61]⟩ : ByteArray)).bind fun bt206 => (if t205 = true then (impl_codedWord.j0 k bt206.1 (!bt206.2)) else (impl_codedWord.j0 k bt206.1 true))) = some (r1, r2) := H
  have A2 := Aside0.mk A20
  clear A20
  replace H := Option.bind_eq_some_iff.mp H
  obtain ⟨⟨t206, t207⟩, A30, H⟩ := H
  replace H : (if t205 = true then (impl_codedWord.j0 k t206 (!t207)) else (impl_codedWord.j0 k t206 true)) = some (r1, r2) := H
  have A3 := Aside0.mk A30
  clear A30
  have HC4 := Aside0.mk H
  clear H
  go_enter Tryd.func76, Tryd.ntmps76
  go_upto_region 3 with (first | ((with_reducible refine gate_callee (f := 79) rfl ?_); refine goesL_ (some 12) rfl rfl Tryd.func79 (by kernel_rfl) rfl #[.string a0, .string (⟨#[61, 63, 117, 116, 102, 45, 56, 63, 66, 63]⟩ : ByteArray)] rfl (by (try simp only [List.map_toArray, List.map_cons, List.map_nil]); first | done | rfl | (simp only [List.length_drop, List.length_take]; rfl)) ?_; (with_reducible refine (strings_CutPrefix.calls a0 (⟨#[61, 63, 117, 116, 102, 45, 56, 63, 66, 63]⟩ : ByteArray) t204 t205 _ A2.out).mono ?_); rintro e w' ⟨rfl, ⟨nd, rfl⟩⟩; refine ⟨_, rfl, ?_⟩) | ((with_reducible refine gate_callee (f := 80) rfl ?_); refine goesL_ (some 17) rfl rfl Tryd.func80 (by kernel_rfl) rfl #[.string t204, .string (⟨#[63, 61]⟩ : ByteArray)] rfl (by (try simp only [List.map_toArray, List.map_cons, List.map_nil]); first | done | rfl | (simp only [List.length_drop, List.length_take]; rfl)) ?_; (with_reducible refine (strings_CutSuffix.calls t204 (⟨#[63, 61]⟩ : ByteArray) t206 t207 _ A3.out).mono ?_); rintro e w' ⟨rfl, ⟨nd, rfl⟩⟩; refine ⟨_, rfl, ?_⟩))
  (try simp only [Act.put, List.setIfInBounds_toArray, List.set_cons_zero, List.set_cons_succ])
  go_cut [25] (fun v25 wc => ∃ (kq : Nat) (x25_3 : Bool), v25 = .bool x25_3 ∧ Aside0 (impl_codedWord.j0 kq t206 x25_3 = some (r1, r2)) ∧ Aside0 (kq ≤ k) ∧ Aside0 (Below w.heap.size w wc))
  case first =>
    have H := HC4.out
    clear HC4
    by_cases c5 : t205 = true
    · subst c5
      have H1 : (impl_codedWord.j0 k t206 (!t207)) = some (r1, r2) := by rw [if_pos rfl] at H; exact H
      clear H
      have H := H1
      clear H1
      have H' := Aside0.mk H
      clear H
      go_wp2
      go_meet
      case rel => exact ⟨_, (!t207), (by first | rfl | (simp; done) | (simp [*]; done) | (simp; rfl) | (simp; unfold wrap64; omega)), H', ⟨by first | omega | exact Nat.le_refl _⟩, ⟨by repeat (first | (with_reducible first | exact HB.out | apply below_alloc | apply pw_below_drewN | apply below_drew1) | exact HB.out)⟩⟩
    · replace c5 := Bool.eq_false_iff.mpr c5
      subst c5
      have H1 : (impl_codedWord.j0 k t206 true) = some (r1, r2) := by rw [if_neg (show ¬ (false = true) by decide)] at H; exact H
      clear H
      have H := H1
      clear H1
      have H' := Aside0.mk H
      clear H
      go_wp2
      go_meet
      case rel => exact ⟨_, (true), (by first | rfl | (simp; done) | (simp [*]; done) | (simp; rfl) | (simp; unfold wrap64; omega)), H', ⟨by first | omega | exact Nat.le_refl _⟩, ⟨by repeat (first | (with_reducible first | exact HB.out | apply below_alloc | apply pw_below_drewN | apply below_drew1) | exact HB.out)⟩⟩
  case rest =>
    clear HC4
    try clear p2
    try clear c5
    obtain ⟨kq, x25_3, rfl, HA, HJ3, HB⟩ := hcut
    cases kq with
    | zero => exact absurd HA.out (by simp [impl_codedWord.j0])
    | succ kj3 =>
      have H := HA.out
      clear HA
      simp only [impl_codedWord.j0] at H
      by_cases c6 : x25_3 = true
      · subst c6
        have H1 : (some ((⟨#[]⟩ : ByteArray), false)) = some (r1, r2) := by rw [if_pos rfl] at H; exact H
        clear H
        have H := H1
        clear H1
        simp only [Option.some.injEq, Prod.mk.injEq] at H
        obtain ⟨rfl, rfl⟩ := H
        go_wp2
        go_ret2
        exact ⟨by first | rfl | (simp [errW_none, errW_some] <;> rfl) | (simp [*, errW_none, errW_some] <;> rfl), by repeat (first | (with_reducible first | exact HB.out | apply below_alloc | apply pw_below_drewN | apply below_drew1) | exact HB.out)⟩
      · replace c6 := Bool.eq_false_iff.mpr c6
        subst c6
        have H1 : ((impl_fromBase64.f kj3 t206).bind fun bt208 => (if bt208.2 = true then (if (bt208.1.length : Int) = 0 then (some ((⟨#[]⟩ : ByteArray), false)) else ((utf8_Valid.f bt208.1).bind fun t212 => (if t212 = true then (some (strOfNums bt208.1, true)) else (some ((⟨#[]⟩ : ByteArray), false))))) else (some ((⟨#[]⟩ : ByteArray), false)))) = some (r1, r2) := by rw [if_neg (show ¬ (false = true) by decide)] at H; exact H
        clear H
        have H := H1
        clear H1
        replace H := Option.bind_eq_some_iff.mp H
        obtain ⟨⟨t208, t209⟩, A70, H⟩ := H
        replace H : (if t209 = true then (if (t208.length : Int) = 0 then (some ((⟨#[]⟩ : ByteArray), false)) else ((utf8_Valid.f t208).bind fun t212 => (if t212 = true then (some (strOfNums t208, true)) else (some ((⟨#[]⟩ : ByteArray), false))))) else (some ((⟨#[]⟩ : ByteArray), false))) = some (r1, r2) := H
        have A7 := Aside0.mk A70
        clear A70
        by_cases c8 : t209 = true
        · subst c8
          have H1 : (if (t208.length : Int) = 0 then (some ((⟨#[]⟩ : ByteArray), false)) else ((utf8_Valid.f t208).bind fun t212 => (if t212 = true then (some (strOfNums t208, true)) else (some ((⟨#[]⟩ : ByteArray), false))))) = some (r1, r2) := by rw [if_pos rfl] at H; exact H
          clear H
          have H := H1
          clear H1
          by_cases c9 : (t208.length : Int) = 0
          · rw [if_pos c9] at H
            have c9b0 : ((t208.length : Int) == 0) = true := beq_iff_eq.mpr c9
            have c9b1 : ((t208.length : Int) != 0) = false := bne_eq_false_iff_eq.mpr c9
            clear c9
            simp only [Option.some.injEq, Prod.mk.injEq] at H
            obtain ⟨rfl, rfl⟩ := H
            go_wp2_with (first | ((with_reducible refine gate_callee (f := 94) rfl ?_); refine goesL_ (some 28) rfl rfl Tryd.func94 (by kernel_rfl) rfl #[.string t206] rfl (by (try simp only [List.map_toArray, List.map_cons, List.map_nil]); first | done | rfl | (simp only [List.length_drop, List.length_take]; rfl)) ?_; (with_reducible refine (impl_fromBase64.calls kj3 t206 t208 true _ A7.out).mono ?_); rintro e w10 ⟨v210, rfl, ho0, hb⟩; refine ⟨_, rfl, ?_⟩; have n0_ := Aside0.mk (Kd.R_lower ho0 (below_size (by repeat (first | (with_reducible first | exact HB.out | apply below_alloc | apply pw_below_drewN | apply below_drew1) | exact HB.out)))); have n1_ := Aside0.mk (below_step (by repeat (first | (with_reducible first | exact HB.out | apply below_alloc | apply pw_below_drewN | apply below_drew1) | exact HB.out)) hb); clear HB; have HO211 := n0_; have HB := n1_; clear n0_ n1_; (try clear hb); (try clear hb2); (try clear hk); (try clear hi); (try clear ho0); obtain ⟨Ao11, co11, eo11⟩ := Kd.R_slice HO211.out; subst eo11))
            go_ret2
            exact ⟨by first | rfl | (simp [errW_none, errW_some] <;> rfl) | (simp [*, errW_none, errW_some] <;> rfl), by repeat (first | (with_reducible first | exact HB.out | apply below_alloc | apply pw_below_drewN | apply below_drew1) | exact HB.out)⟩
          · rw [if_neg c9] at H
            have c9b0 : ((t208.length : Int) == 0) = false := beq_eq_false_iff_ne.mpr c9
            have c9b1 : ((t208.length : Int) != 0) = true := bne_iff_ne.mpr c9
            have c9b2 : ¬ (t208 = []) := fun h_ => c9 (by rw [h_]; rfl)
            replace H := Option.bind_eq_some_iff.mp H
            obtain ⟨t212, A120, H⟩ := H
            replace H : (if t212 = true then (some (strOfNums t208, true)) else (some ((⟨#[]⟩ : ByteArray), false))) = some (r1, r2) := H
            have A12 := Aside0.mk A120
            clear A120
            by_cases c13 : t212 = true
            · subst c13
              have H1 : (some (strOfNums t208, true)) = some (r1, r2) := by rw [if_pos rfl] at H; exact H
              clear H
              have H := H1
              clear H1
              simp only [Option.some.injEq, Prod.mk.injEq] at H
              obtain ⟨rfl, rfl⟩ := H
              go_wp2_with (first | ((with_reducible refine gate_callee (f := 94) rfl ?_); refine goesL_ (some 28) rfl rfl Tryd.func94 (by kernel_rfl) rfl #[.string t206] rfl (by (try simp only [List.map_toArray, List.map_cons, List.map_nil]); first | done | rfl | (simp only [List.length_drop, List.length_take]; rfl)) ?_; (with_reducible refine (impl_fromBase64.calls kj3 t206 t208 true _ A7.out).mono ?_); rintro e w14 ⟨v210, rfl, ho0, hb⟩; refine ⟨_, rfl, ?_⟩; have n0_ := Aside0.mk (Kd.R_lower ho0 (below_size (by repeat (first | (with_reducible first | exact HB.out | apply below_alloc | apply pw_below_drewN | apply below_drew1) | exact HB.out)))); have n1_ := Aside0.mk (below_step (by repeat (first | (with_reducible first | exact HB.out | apply below_alloc | apply pw_below_drewN | apply below_drew1) | exact HB.out)) hb); clear HB; have HO211 := n0_; have HB := n1_; clear n0_ n1_; (try clear hb); (try clear hb2); (try clear hk); (try clear hi); (try clear ho0); obtain ⟨Ao15, co15, eo15⟩ := Kd.R_slice HO211.out; subst eo15) | (go_at_call 95; (with_reducible refine (utf8_Valid.calls _ _ t208 true _ ?side1 ?side2 A12.out (Glob.of_below HG.out (by repeat (first | (with_reducible first | exact HB.out | apply below_alloc | apply pw_below_drewN | apply below_drew1) | exact HB.out)))).mono ?_); (case side1 => repeat (first | exact (Kd.R_reads' HO211.out).2.2 | (with_reducible refine Kd.C_alloc ?_ _) | (with_reducible refine Kd.C_drewN ?_ _) | (with_reducible refine Kd.C_drew ?_))); (case side2 => exact (Kd.R_reads' HO211.out).2.1); rintro e w16 ⟨rfl, hb⟩; have n0_ := Aside0.mk (Kd.R_below (by (with_reducible repeat (first | apply Kd.R_alloc | apply Kd.R_drewN | apply Kd.R_drew)); exact HO211.out) hb); have n1_ := Aside0.mk (below_step (by repeat (first | (with_reducible first | exact HB.out | apply below_alloc | apply pw_below_drewN | apply below_drew1) | exact HB.out)) hb); clear HO211; clear HB; have HO211 := n0_; have HB := n1_; clear n0_ n1_; (try clear hb); (try clear hb2); (try clear hk); (try clear hi); have hcv17 := own_string (P := Tryd.prog) Tryd.underlying22 Tryd.underlying5 Tryd.underlying9 (Kd.own_of_R HO211.out)))
              go_ret2
              exact ⟨by first | rfl | (simp [errW_none, errW_some] <;> rfl) | (simp [*, errW_none, errW_some] <;> rfl), by repeat (first | (with_reducible first | exact HB.out | apply below_alloc | apply pw_below_drewN | apply below_drew1) | exact HB.out)⟩
            · replace c13 := Bool.eq_false_iff.mpr c13
              subst c13
              have H1 : (some ((⟨#[]⟩ : ByteArray), false)) = some (r1, r2) := by rw [if_neg (show ¬ (false = true) by decide)] at H; exact H
              clear H
              have H := H1
              clear H1
              simp only [Option.some.injEq, Prod.mk.injEq] at H
              obtain ⟨rfl, rfl⟩ := H
              go_wp2_with (first | ((with_reducible refine gate_callee (f := 94) rfl ?_); refine goesL_ (some 28) rfl rfl Tryd.func94 (by kernel_rfl) rfl #[.string t206] rfl (by (try simp only [List.map_toArray, List.map_cons, List.map_nil]); first | done | rfl | (simp only [List.length_drop, List.length_take]; rfl)) ?_; (with_reducible refine (impl_fromBase64.calls kj3 t206 t208 true _ A7.out).mono ?_); rintro e w18 ⟨v210, rfl, ho0, hb⟩; refine ⟨_, rfl, ?_⟩; have n0_ := Aside0.mk (Kd.R_lower ho0 (below_size (by repeat (first | (with_reducible first | exact HB.out | apply below_alloc | apply pw_below_drewN | apply below_drew1) | exact HB.out)))); have n1_ := Aside0.mk (below_step (by repeat (first | (with_reducible first | exact HB.out | apply below_alloc | apply pw_below_drewN | apply below_drew1) | exact HB.out)) hb); clear HB; have HO211 := n0_; have HB := n1_; clear n0_ n1_; (try clear hb); (try clear hb2); (try clear hk); (try clear hi); (try clear ho0); obtain ⟨Ao19, co19, eo19⟩ := Kd.R_slice HO211.out; subst eo19) | (go_at_call 95; (with_reducible refine (utf8_Valid.calls _ _ t208 false _ ?side1 ?side2 A12.out (Glob.of_below HG.out (by repeat (first | (with_reducible first | exact HB.out | apply below_alloc | apply pw_below_drewN | apply below_drew1) | exact HB.out)))).mono ?_); (case side1 => repeat (first | exact (Kd.R_reads' HO211.out).2.2 | (with_reducible refine Kd.C_alloc ?_ _) | (with_reducible refine Kd.C_drewN ?_ _) | (with_reducible refine Kd.C_drew ?_))); (case side2 => exact (Kd.R_reads' HO211.out).2.1); rintro e w20 ⟨rfl, hb⟩; have n0_ := Aside0.mk (Kd.R_below (by (with_reducible repeat (first | apply Kd.R_alloc | apply Kd.R_drewN | apply Kd.R_drew)); exact HO211.out) hb); have n1_ := Aside0.mk (below_step (by repeat (first | (with_reducible first | exact HB.out | apply below_alloc | apply pw_below_drewN | apply below_drew1) | exact HB.out)) hb); clear HO211; clear HB; have HO211 := n0_; have HB := n1_; clear n0_ n1_; (try clear hb); (try clear hb2); (try clear hk); (try clear hi)))
              go_ret2
              exact ⟨by first | rfl | (simp [errW_none, errW_some] <;> rfl) | (simp [*, errW_none, errW_some] <;> rfl), by repeat (first | (with_reducible first | exact HB.out | apply below_alloc | apply pw_below_drewN | apply below_drew1) | exact HB.out)⟩
        · replace c8 := Bool.eq_false_iff.mpr c8
          subst c8
          have H1 : (some ((⟨#[]⟩ : ByteArray), false)) = some (r1, r2) := by rw [if_neg (show ¬ (false = true) by decide)] at H; exact H
          clear H
          have H := H1
          clear H1
          simp only [Option.some.injEq, Prod.mk.injEq] at H
          obtain ⟨rfl, rfl⟩ := H
          go_wp2_with (first | ((with_reducible refine gate_callee (f := 94) rfl ?_); refine goesL_ (some 28) rfl rfl Tryd.func94 (by kernel_rfl) rfl #[.string t206] rfl (by (try simp only [List.map_toArray, List.map_cons, List.map_nil]); first | done | rfl | (simp only [List.length_drop, List.length_take]; rfl)) ?_; (with_reducible refine (impl_fromBase64.calls kj3 t206 t208 false _ A7.out).mono ?_); rintro e w21 ⟨v210, rfl, ho0, hb⟩; refine ⟨_, rfl, ?_⟩; have n0_ := Aside0.mk (Kd.R_lower ho0 (below_size (by repeat (first | (with_reducible first | exact HB.out | apply below_alloc | apply pw_below_drewN | apply below_drew1) | exact HB.out)))); have n1_ := Aside0.mk (below_step (by repeat (first | (with_reducible first | exact HB.out | apply below_alloc | apply pw_below_drewN | apply below_drew1) | exact HB.out)) hb); clear HB; have HO211 := n0_; have HB := n1_; clear n0_ n1_; (try clear hb); (try clear hb2); (try clear hk); (try clear hi); (try clear ho0)))
          go_ret2
          exact ⟨by first | rfl | (simp [errW_none, errW_some] <;> rfl) | (simp [*, errW_none, errW_some] <;> rfl), by repeat (first | (with_reducible first | exact HB.out | apply below_alloc | apply pw_below_drewN | apply below_drew1) | exact HB.out)⟩

/-! ### impl_decodeWords: function 49, what a safe value says: walked by hand -/
/-- The words behind what is written so far. -/
def impl_decodeWords.go (k : Nat) : List ByteArray → Bool → Bool → List UInt8 → Option (List UInt8)
  | [], _, _, acc => some acc
  | x :: xs, first, bef, acc => (impl_codedWord.f k x).bind fun t => if t.1.size ≤ 1000000 then impl_decodeWords.go k xs false t.2 ((if first = false ∧ ¬ (t.2 = true ∧ bef = true) then acc ++ [32] else acc) ++ (if t.2 = true then t.1 else x).data.toList) else none
def impl_decodeWords.f (k : Nat) (a0 : ByteArray) : Option ByteArray := if a0.size ≤ 1000000 then (impl_decodeWords.go k (Lib.splitB ⟨#[32]⟩ 0 (Lib.countB a0 ⟨#[32]⟩) a0) true false []).bind fun l => some (⟨l.toArray⟩ : ByteArray) else none
theorem impl_decodeWords.go_mono (k : Nat) : ∀ (l : List ByteArray) (a b : Bool) (acc : List UInt8), LeO (impl_decodeWords.go k l a b acc) (impl_decodeWords.go (k + 1) l a b acc)
  | [], _, _, _ => LeO.refl _
  | x :: xs, a, b, acc => by
    rw [impl_decodeWords.go, impl_decodeWords.go]
    exact LeO.bind (impl_codedWord.mono _ _) (fun t => LeO.ite (impl_decodeWords.go_mono k xs _ _ _) (LeO.refl _))
theorem impl_decodeWords.mono : ∀ a0 k, LeO (impl_decodeWords.f k a0) (impl_decodeWords.f (k + 1) a0) := by
  intro a0 k
  unfold impl_decodeWords.f
  exact LeO.ite (LeO.bind (impl_decodeWords.go_mono k _ _ _ _) (fun _ => LeO.refl _)) (LeO.refl _)
theorem impl_decodeWords.kept {W W' : World} {b g : Nat} {cs : Array Value} (h : W.heap[g]? = some (.cells cs 9 (0, 0))) (hk : Lib.OthersKept 5 (some b) W W') (hne : b ≠ g) : W'.heap[g]? = some (.cells cs 9 (0, 0)) :=
  hk g _ h (fun e => hne (Option.some.inj e).symm) (fun c fz e => by injection e with _ e2; cases e2)
theorem impl_decodeWords.cells_of (s : ByteArray) : Lib.strCells s = Lib.byteCells s.data.toList := rfl
theorem impl_decodeWords.split_le (sep : ByteArray) : ∀ (k : Nat) (s : ByteArray), ∀ x ∈ Lib.splitB sep 0 k s, x.size ≤ s.size
  | 0, s, x, hx => by
    rw [Lib.splitB_zero] at hx
    rw [List.mem_singleton.1 hx]
    exact Nat.le_refl _
  | k + 1, s, x, hx => by
    unfold Lib.splitB at hx
    split at hx
    · rw [List.mem_singleton.1 hx]
      exact Nat.le_refl _
    · rcases List.mem_cons.1 hx with rfl | hx
      · rw [ByteArray.size_extract]; omega
      · have := impl_decodeWords.split_le sep k _ x hx
        rw [ByteArray.size_extract] at this
        omega
set_option maxHeartbeats 8000000 in
set_option maxRecDepth 100000 in
theorem impl_decodeWords.calls (kk : Nat) (a0 : ByteArray) (r : ByteArray) (w : World) (h : impl_decodeWords.f kk a0 = some r) (hG : Glob w) :
    Calls Tryd.prog 49 #[.string a0] w fun e w' => e = .returned (.string r) ∧ Below w.heap.size w w' := by
  have HG := Aside0.mk hG
  clear hG
  unfold impl_decodeWords.f at h
  by_cases hs0 : a0.size ≤ 1000000
  case neg => rw [if_neg hs0] at h; cases h
  rw [if_pos hs0] at h
  obtain ⟨R, hgo, hr⟩ := Option.bind_eq_some_iff.mp h
  clear h
  have h := hgo
  clear hgo
  obtain rfl := Option.some.inj hr
  clear hr
  have hle := Lib.countB_le ⟨#[32]⟩ (by decide) a0.size a0 (Nat.le_refl _)
  have hl := Lib.splitB_all ⟨#[32]⟩ (by decide) 0 _ a0 rfl
  have hsz := impl_decodeWords.split_le ⟨#[32]⟩ (Lib.countB a0 ⟨#[32]⟩) a0
  have CS : Aside0 (∀ (W : World) (m : Int), W.cell? ⟨2, 0, none⟩ = some (.int .i64 m) → Calls Tryd.prog 38 #[.string a0, .string ⟨#[32]⟩] W fun e w' => e = .returned (.slice (some ⟨W.heap.size, 0, none⟩) (Lib.countB a0 ⟨#[32]⟩ + 1) (Lib.countB a0 ⟨#[32]⟩ + 1)) ∧ w' = W.alloc (.cells ((Lib.splitB ⟨#[32]⟩ 0 (Lib.countB a0 ⟨#[32]⟩) a0).map Value.string).toArray 9)) :=
    ⟨fun W m hm => Tryd.strings_Split a0 ⟨#[32]⟩ m W (by omega) hm (by decide)⟩
  obtain ⟨xs, hxs⟩ : ∃ xs, Lib.splitB ⟨#[32]⟩ 0 (Lib.countB a0 ⟨#[32]⟩) a0 = xs := ⟨_, rfl⟩
  obtain ⟨n, hn⟩ : ∃ n, Lib.countB a0 ⟨#[32]⟩ + 1 = n := ⟨_, rfl⟩
  rw [hxs, hn] at hl
  rw [hxs] at h hsz
  have CS2 : Aside0 (∀ (W : World) (m : Int), W.cell? ⟨2, 0, none⟩ = some (.int .i64 m) → Calls Tryd.prog 38 #[.string a0, .string ⟨#[32]⟩] W fun e w' => e = .returned (.slice (some ⟨W.heap.size, 0, none⟩) n n) ∧ w' = W.alloc (.cells (xs.map Value.string).toArray 9)) :=
    ⟨fun W m hm => by rw [← hxs, ← hn]; exact CS.out W m hm⟩
  have hn1 : n ≤ 1000001 := by omega
  have HL := Aside0.mk hl
  have HSZ : Aside0 (∀ x ∈ xs, x.size ≤ 1000000) := ⟨fun x hx => Nat.le_trans (hsz x hx) hs0⟩
  have HH := Aside0.mk h
  have HI0 := Aside0.mk (Lib.IsBuilderF.of (Lib.fresh_isBuilder 57 5 w))
  clear CS hxs hn hl hsz h hle hs0
  go_enter Tryd.func49, Tryd.ntmps49
  go_wp2_with fail
  have HB0 : Aside0 (Below w.heap.size w (w.alloc _)) := ⟨(Below.refl _ w).alloc (Nat.le_refl _) (.cells #[.pointer none, .slice none 0 0] 57)⟩
  generalize World.alloc w _ = W0 at HI0 HB0 ⊢
  obtain ⟨m, hm⟩ := (Glob.of_below HG.out HB0.out).mlen
  have HM := Aside0.mk hm
  clear hm
  go_wp2_with (go_at_call 38; refine (CS2.out _ m HM.out).mono ?_)
  rintro e w2 ⟨rfl, hw2⟩
  have HK2 : Aside0 (w2.heap[W0.heap.size]? = some (.cells (xs.map Value.string).toArray 9 (0, 0))) := ⟨by rw [hw2]; exact heap_alloc_new W0 _⟩
  have HI2 : Aside0 (Lib.IsBuilderF 57 5 w.heap.size w.heap.size (Lib.byteCells []) w2) := ⟨by rw [hw2]; exact HI0.out.alloc _⟩
  have HB2 : Aside0 (Below w.heap.size w w2) := ⟨by rw [hw2]; exact HB0.out.alloc (below_size HB0.out) _⟩
  have hgb : w.heap.size ≠ W0.heap.size := by
    have := Bld.lt HI0.out
    omega
  obtain ⟨g, hg⟩ : ∃ g, W0.heap.size = g := ⟨_, rfl⟩
  rw [hg] at HK2 hgb ⊢
  clear hw2 HM HI0 HB0 hg
  go_wp2
  go_loopw [13, 4] (fun v13 v4 wr => ∃ (k : Nat) (bf : Bool) (acc : List UInt8), k ≤ n ∧ v13 = .int .i64 k ∧ v4 = .bool bf ∧ Aside0 (Lib.IsBuilderF 57 5 w.heap.size w.heap.size (Lib.byteCells acc) wr) ∧ Aside0 (wr.heap[g]? = some (.cells (xs.map Value.string).toArray 9 (0, 0))) ∧ Aside0 (Below w.heap.size w wr) ∧ Aside0 (impl_decodeWords.go kk (xs.drop k) (decide (k = 0)) bf acc = some R) ∧ Aside0 (acc.length ≤ k * 1000002)) (fun v13 _ _ => n - (intOf v13).toNat)
  case atStart => exact ⟨0, false, [], Nat.zero_le _, rfl, rfl, HI2, HK2, HB2, ⟨by rw [List.drop_zero]; exact HH.out⟩, ⟨by simp⟩⟩
  case round =>
    obtain ⟨k, bf, acc, hk, rfl, rfl, HI, HK, HB, HS, HLN⟩ := hrel
    clear HI2 HK2 HB2
    by_cases hlt : k < n
    · have hkl : k < xs.length := by rw [HL.out]; exact hlt
      have hx1 : xs[k].size ≤ 1000000 := HSZ.out _ (List.getElem_mem hkl)
      have hcell : wr.cell? ⟨g, k, none⟩ = some (.string xs[k]) := by
        rw [Lib.cell_of_heap HK.out]
        simp [hkl]
      have hS := HS.out
      rw [List.drop_eq_getElem_cons hkl, impl_decodeWords.go] at hS
      generalize xs[k] = x at hx1 hcell hS
      obtain ⟨⟨t1, t2⟩, hA, hS⟩ := Option.bind_eq_some_iff.mp hS
      have HA := Aside0.mk hA
      by_cases ht : t1.size ≤ 1000000
      case neg => rw [if_neg ht] at hS; cases hS
      rw [if_pos ht] at hS
      have hkb : k * 1000002 ≤ 1000001 * 1000002 := Nat.mul_le_mul_right _ (by omega)
      have HT := Aside0.mk ht
      have HX := Aside0.mk hx1
      have HLB : Aside0 (acc.length ≤ 2000000000000) := ⟨by have := HLN.out; omega⟩
      clear HS hA hkb ht hx1
      by_cases hk0 : k = 0
      · subst hk0
        cases t2 with
        | true =>
          cases bf with
          | true =>
            have HS1 : Aside0 (impl_decodeWords.go kk (xs.drop (0 + 1)) (decide ((0 + 1) = 0)) true (acc ++ t1.data.toList) = some R) := ⟨by rw [decide_eq_false (by omega)]; rw [← hS]; simp⟩
            clear hS
            go_wp2_with (go_at_call 76; refine (impl_codedWord.calls kk x t1 _ _ HA.out (Glob.of_below HG.out HB.out)).mono ?_; rintro e w3 ⟨rfl, hb⟩; have HI3 := Aside0.mk (HI.out.below hb); have HK3 := Aside0.mk ((hb.block _ (Array.getElem?_eq_some_iff.1 HK.out).1).trans HK.out); have HB3 := Aside0.mk (below_step HB.out hb); clear hb HI HK HB; have HI := HI3; have HK := HK3; have HB := HB3; clear HI3 HK3 HB3)
            go_wp2_with (go_at_call 58; refine (Bld.writeString w.heap.size w.heap.size _ t1 _ HI.out (by rw [Lib.byteCells_length]; have := HLB.out; have := HT.out; omega) (below_size HB.out)).mono ?_; rintro e w4 ⟨rfl, h4, hb4, hk4⟩; have HI4 : Aside0 (Lib.IsBuilderF 57 5 w.heap.size w.heap.size (Lib.byteCells (acc ++ t1.data.toList)) w4) := ⟨by rw [Lib.byteCells_append]; exact h4⟩; have HK4 := Aside0.mk (impl_decodeWords.kept HK.out hk4 hgb); have HB4 := Aside0.mk (HB.out.trans hb4); clear h4 hb4 hk4 HI HK HB; have HI := HI4; have HK := HK4; have HB := HB4; clear HI4 HK4 HB4)
            go_wp2
            go_roundw
            case rel => exact ⟨0 + 1, _, _, by omega, by go_num, rfl, HI, HK, HB, HS1, ⟨by have := HLN.out; have := HT.out; simp only [List.length_append, List.length_cons, List.length_nil, ← Go.Lib.size_eq]; omega⟩⟩
            case measure => simp [intOf]; omega
          | false =>
            have HS1 : Aside0 (impl_decodeWords.go kk (xs.drop (0 + 1)) (decide ((0 + 1) = 0)) true (acc ++ t1.data.toList) = some R) := ⟨by rw [decide_eq_false (by omega)]; rw [← hS]; simp⟩
            clear hS
            go_wp2_with (go_at_call 76; refine (impl_codedWord.calls kk x t1 _ _ HA.out (Glob.of_below HG.out HB.out)).mono ?_; rintro e w3 ⟨rfl, hb⟩; have HI3 := Aside0.mk (HI.out.below hb); have HK3 := Aside0.mk ((hb.block _ (Array.getElem?_eq_some_iff.1 HK.out).1).trans HK.out); have HB3 := Aside0.mk (below_step HB.out hb); clear hb HI HK HB; have HI := HI3; have HK := HK3; have HB := HB3; clear HI3 HK3 HB3)
            go_wp2_with (go_at_call 58; refine (Bld.writeString w.heap.size w.heap.size _ t1 _ HI.out (by rw [Lib.byteCells_length]; have := HLB.out; have := HT.out; omega) (below_size HB.out)).mono ?_; rintro e w4 ⟨rfl, h4, hb4, hk4⟩; have HI4 : Aside0 (Lib.IsBuilderF 57 5 w.heap.size w.heap.size (Lib.byteCells (acc ++ t1.data.toList)) w4) := ⟨by rw [Lib.byteCells_append]; exact h4⟩; have HK4 := Aside0.mk (impl_decodeWords.kept HK.out hk4 hgb); have HB4 := Aside0.mk (HB.out.trans hb4); clear h4 hb4 hk4 HI HK HB; have HI := HI4; have HK := HK4; have HB := HB4; clear HI4 HK4 HB4)
            go_wp2
            go_roundw
            case rel => exact ⟨0 + 1, _, _, by omega, by go_num, rfl, HI, HK, HB, HS1, ⟨by have := HLN.out; have := HT.out; simp only [List.length_append, List.length_cons, List.length_nil, ← Go.Lib.size_eq]; omega⟩⟩
            case measure => simp [intOf]; omega
        | false =>
          cases bf with
          | true =>
            have HS1 : Aside0 (impl_decodeWords.go kk (xs.drop (0 + 1)) (decide ((0 + 1) = 0)) false (acc ++ x.data.toList) = some R) := ⟨by rw [decide_eq_false (by omega)]; rw [← hS]; simp⟩
            clear hS
            go_wp2_with (go_at_call 76; refine (impl_codedWord.calls kk x t1 _ _ HA.out (Glob.of_below HG.out HB.out)).mono ?_; rintro e w3 ⟨rfl, hb⟩; have HI3 := Aside0.mk (HI.out.below hb); have HK3 := Aside0.mk ((hb.block _ (Array.getElem?_eq_some_iff.1 HK.out).1).trans HK.out); have HB3 := Aside0.mk (below_step HB.out hb); clear hb HI HK HB; have HI := HI3; have HK := HK3; have HB := HB3; clear HI3 HK3 HB3)
            go_wp2_with (go_at_call 58; refine (Bld.writeString w.heap.size w.heap.size _ x _ HI.out (by rw [Lib.byteCells_length]; have := HLB.out; have := HX.out; omega) (below_size HB.out)).mono ?_; rintro e w4 ⟨rfl, h4, hb4, hk4⟩; have HI4 : Aside0 (Lib.IsBuilderF 57 5 w.heap.size w.heap.size (Lib.byteCells (acc ++ x.data.toList)) w4) := ⟨by rw [Lib.byteCells_append]; exact h4⟩; have HK4 := Aside0.mk (impl_decodeWords.kept HK.out hk4 hgb); have HB4 := Aside0.mk (HB.out.trans hb4); clear h4 hb4 hk4 HI HK HB; have HI := HI4; have HK := HK4; have HB := HB4; clear HI4 HK4 HB4)
            go_wp2
            go_roundw
            case rel => exact ⟨0 + 1, _, _, by omega, by go_num, rfl, HI, HK, HB, HS1, ⟨by have := HLN.out; have := HX.out; simp only [List.length_append, List.length_cons, List.length_nil, ← Go.Lib.size_eq]; omega⟩⟩
            case measure => simp [intOf]; omega
          | false =>
            have HS1 : Aside0 (impl_decodeWords.go kk (xs.drop (0 + 1)) (decide ((0 + 1) = 0)) false (acc ++ x.data.toList) = some R) := ⟨by rw [decide_eq_false (by omega)]; rw [← hS]; simp⟩
            clear hS
            go_wp2_with (go_at_call 76; refine (impl_codedWord.calls kk x t1 _ _ HA.out (Glob.of_below HG.out HB.out)).mono ?_; rintro e w3 ⟨rfl, hb⟩; have HI3 := Aside0.mk (HI.out.below hb); have HK3 := Aside0.mk ((hb.block _ (Array.getElem?_eq_some_iff.1 HK.out).1).trans HK.out); have HB3 := Aside0.mk (below_step HB.out hb); clear hb HI HK HB; have HI := HI3; have HK := HK3; have HB := HB3; clear HI3 HK3 HB3)
            go_wp2_with (go_at_call 58; refine (Bld.writeString w.heap.size w.heap.size _ x _ HI.out (by rw [Lib.byteCells_length]; have := HLB.out; have := HX.out; omega) (below_size HB.out)).mono ?_; rintro e w4 ⟨rfl, h4, hb4, hk4⟩; have HI4 : Aside0 (Lib.IsBuilderF 57 5 w.heap.size w.heap.size (Lib.byteCells (acc ++ x.data.toList)) w4) := ⟨by rw [Lib.byteCells_append]; exact h4⟩; have HK4 := Aside0.mk (impl_decodeWords.kept HK.out hk4 hgb); have HB4 := Aside0.mk (HB.out.trans hb4); clear h4 hb4 hk4 HI HK HB; have HI := HI4; have HK := HK4; have HB := HB4; clear HI4 HK4 HB4)
            go_wp2
            go_roundw
            case rel => exact ⟨0 + 1, _, _, by omega, by go_num, rfl, HI, HK, HB, HS1, ⟨by have := HLN.out; have := HX.out; simp only [List.length_append, List.length_cons, List.length_nil, ← Go.Lib.size_eq]; omega⟩⟩
            case measure => simp [intOf]; omega
      · have hgt : (0 : Int) < (k : Int) := by omega
        have hgb0 : decide ((0 : Int) < (k : Int)) = true := decide_eq_true hgt
        cases t2 with
        | true =>
          cases bf with
          | true =>
            have HS1 : Aside0 (impl_decodeWords.go kk (xs.drop (k + 1)) (decide ((k + 1) = 0)) true (acc ++ t1.data.toList) = some R) := ⟨by rw [decide_eq_false (by omega)]; rw [← hS]; simp [hk0]⟩
            clear hS
            go_wp2_with (go_at_call 76; refine (impl_codedWord.calls kk x t1 _ _ HA.out (Glob.of_below HG.out HB.out)).mono ?_; rintro e w3 ⟨rfl, hb⟩; have HI3 := Aside0.mk (HI.out.below hb); have HK3 := Aside0.mk ((hb.block _ (Array.getElem?_eq_some_iff.1 HK.out).1).trans HK.out); have HB3 := Aside0.mk (below_step HB.out hb); clear hb HI HK HB; have HI := HI3; have HK := HK3; have HB := HB3; clear HI3 HK3 HB3)
            go_wp2_with (go_at_call 58; refine (Bld.writeString w.heap.size w.heap.size _ t1 _ HI.out (by rw [Lib.byteCells_length]; have := HLB.out; have := HT.out; omega) (below_size HB.out)).mono ?_; rintro e w4 ⟨rfl, h4, hb4, hk4⟩; have HI4 : Aside0 (Lib.IsBuilderF 57 5 w.heap.size w.heap.size (Lib.byteCells (acc ++ t1.data.toList)) w4) := ⟨by rw [Lib.byteCells_append]; exact h4⟩; have HK4 := Aside0.mk (impl_decodeWords.kept HK.out hk4 hgb); have HB4 := Aside0.mk (HB.out.trans hb4); clear h4 hb4 hk4 HI HK HB; have HI := HI4; have HK := HK4; have HB := HB4; clear HI4 HK4 HB4)
            go_wp2
            go_roundw
            case rel => exact ⟨k + 1, _, _, by omega, by go_num, rfl, HI, HK, HB, HS1, ⟨by have := HLN.out; have := HT.out; simp only [List.length_append, List.length_cons, List.length_nil, ← Go.Lib.size_eq]; omega⟩⟩
            case measure => simp [intOf]; omega
          | false =>
            have HS1 : Aside0 (impl_decodeWords.go kk (xs.drop (k + 1)) (decide ((k + 1) = 0)) true (acc ++ [32] ++ t1.data.toList) = some R) := ⟨by rw [decide_eq_false (by omega)]; rw [← hS]; simp [hk0]⟩
            clear hS
            go_wp2_with (go_at_call 76; refine (impl_codedWord.calls kk x t1 _ _ HA.out (Glob.of_below HG.out HB.out)).mono ?_; rintro e w3 ⟨rfl, hb⟩; have HI3 := Aside0.mk (HI.out.below hb); have HK3 := Aside0.mk ((hb.block _ (Array.getElem?_eq_some_iff.1 HK.out).1).trans HK.out); have HB3 := Aside0.mk (below_step HB.out hb); clear hb HI HK HB; have HI := HI3; have HK := HK3; have HB := HB3; clear HI3 HK3 HB3)
            go_wp2_with (go_at_call 77; refine (Bld.writeByte w.heap.size w.heap.size _ 32 _ HI.out (by rw [Lib.byteCells_length]; have := HLB.out; omega) (below_size HB.out)).mono ?_; rintro e w4 ⟨rfl, h4, hb4, hk4⟩; have HI4 : Aside0 (Lib.IsBuilderF 57 5 w.heap.size w.heap.size (Lib.byteCells (acc ++ [32])) w4) := ⟨by rw [Lib.byteCells_append]; exact h4⟩; have HK4 := Aside0.mk (impl_decodeWords.kept HK.out hk4 hgb); have HB4 := Aside0.mk (HB.out.trans hb4); clear h4 hb4 hk4 HI HK HB; have HI := HI4; have HK := HK4; have HB := HB4; clear HI4 HK4 HB4)
            go_wp2_with (go_at_call 58; refine (Bld.writeString w.heap.size w.heap.size _ t1 _ HI.out (by rw [Lib.byteCells_length, List.length_append]; have := HLB.out; have := HT.out; simp only [List.length_cons, List.length_nil]; omega) (below_size HB.out)).mono ?_; rintro e w4 ⟨rfl, h4, hb4, hk4⟩; have HI4 : Aside0 (Lib.IsBuilderF 57 5 w.heap.size w.heap.size (Lib.byteCells (acc ++ [32] ++ t1.data.toList)) w4) := ⟨by rw [Lib.byteCells_append]; exact h4⟩; have HK4 := Aside0.mk (impl_decodeWords.kept HK.out hk4 hgb); have HB4 := Aside0.mk (HB.out.trans hb4); clear h4 hb4 hk4 HI HK HB; have HI := HI4; have HK := HK4; have HB := HB4; clear HI4 HK4 HB4)
            go_wp2
            go_roundw
            case rel => exact ⟨k + 1, _, _, by omega, by go_num, rfl, HI, HK, HB, HS1, ⟨by have := HLN.out; have := HT.out; simp only [List.length_append, List.length_cons, List.length_nil, ← Go.Lib.size_eq]; omega⟩⟩
            case measure => simp [intOf]; omega
        | false =>
          cases bf with
          | true =>
            have HS1 : Aside0 (impl_decodeWords.go kk (xs.drop (k + 1)) (decide ((k + 1) = 0)) false (acc ++ [32] ++ x.data.toList) = some R) := ⟨by rw [decide_eq_false (by omega)]; rw [← hS]; simp [hk0]⟩
            clear hS
            go_wp2_with (go_at_call 76; refine (impl_codedWord.calls kk x t1 _ _ HA.out (Glob.of_below HG.out HB.out)).mono ?_; rintro e w3 ⟨rfl, hb⟩; have HI3 := Aside0.mk (HI.out.below hb); have HK3 := Aside0.mk ((hb.block _ (Array.getElem?_eq_some_iff.1 HK.out).1).trans HK.out); have HB3 := Aside0.mk (below_step HB.out hb); clear hb HI HK HB; have HI := HI3; have HK := HK3; have HB := HB3; clear HI3 HK3 HB3)
            go_wp2_with (go_at_call 77; refine (Bld.writeByte w.heap.size w.heap.size _ 32 _ HI.out (by rw [Lib.byteCells_length]; have := HLB.out; omega) (below_size HB.out)).mono ?_; rintro e w4 ⟨rfl, h4, hb4, hk4⟩; have HI4 : Aside0 (Lib.IsBuilderF 57 5 w.heap.size w.heap.size (Lib.byteCells (acc ++ [32])) w4) := ⟨by rw [Lib.byteCells_append]; exact h4⟩; have HK4 := Aside0.mk (impl_decodeWords.kept HK.out hk4 hgb); have HB4 := Aside0.mk (HB.out.trans hb4); clear h4 hb4 hk4 HI HK HB; have HI := HI4; have HK := HK4; have HB := HB4; clear HI4 HK4 HB4)
            go_wp2_with (go_at_call 58; refine (Bld.writeString w.heap.size w.heap.size _ x _ HI.out (by rw [Lib.byteCells_length, List.length_append]; have := HLB.out; have := HX.out; simp only [List.length_cons, List.length_nil]; omega) (below_size HB.out)).mono ?_; rintro e w4 ⟨rfl, h4, hb4, hk4⟩; have HI4 : Aside0 (Lib.IsBuilderF 57 5 w.heap.size w.heap.size (Lib.byteCells (acc ++ [32] ++ x.data.toList)) w4) := ⟨by rw [Lib.byteCells_append]; exact h4⟩; have HK4 := Aside0.mk (impl_decodeWords.kept HK.out hk4 hgb); have HB4 := Aside0.mk (HB.out.trans hb4); clear h4 hb4 hk4 HI HK HB; have HI := HI4; have HK := HK4; have HB := HB4; clear HI4 HK4 HB4)
            go_wp2
            go_roundw
            case rel => exact ⟨k + 1, _, _, by omega, by go_num, rfl, HI, HK, HB, HS1, ⟨by have := HLN.out; have := HX.out; simp only [List.length_append, List.length_cons, List.length_nil, ← Go.Lib.size_eq]; omega⟩⟩
            case measure => simp [intOf]; omega
          | false =>
            have HS1 : Aside0 (impl_decodeWords.go kk (xs.drop (k + 1)) (decide ((k + 1) = 0)) false (acc ++ [32] ++ x.data.toList) = some R) := ⟨by rw [decide_eq_false (by omega)]; rw [← hS]; simp [hk0]⟩
            clear hS
            go_wp2_with (go_at_call 76; refine (impl_codedWord.calls kk x t1 _ _ HA.out (Glob.of_below HG.out HB.out)).mono ?_; rintro e w3 ⟨rfl, hb⟩; have HI3 := Aside0.mk (HI.out.below hb); have HK3 := Aside0.mk ((hb.block _ (Array.getElem?_eq_some_iff.1 HK.out).1).trans HK.out); have HB3 := Aside0.mk (below_step HB.out hb); clear hb HI HK HB; have HI := HI3; have HK := HK3; have HB := HB3; clear HI3 HK3 HB3)
            go_wp2_with (go_at_call 77; refine (Bld.writeByte w.heap.size w.heap.size _ 32 _ HI.out (by rw [Lib.byteCells_length]; have := HLB.out; omega) (below_size HB.out)).mono ?_; rintro e w4 ⟨rfl, h4, hb4, hk4⟩; have HI4 : Aside0 (Lib.IsBuilderF 57 5 w.heap.size w.heap.size (Lib.byteCells (acc ++ [32])) w4) := ⟨by rw [Lib.byteCells_append]; exact h4⟩; have HK4 := Aside0.mk (impl_decodeWords.kept HK.out hk4 hgb); have HB4 := Aside0.mk (HB.out.trans hb4); clear h4 hb4 hk4 HI HK HB; have HI := HI4; have HK := HK4; have HB := HB4; clear HI4 HK4 HB4)
            go_wp2_with (go_at_call 58; refine (Bld.writeString w.heap.size w.heap.size _ x _ HI.out (by rw [Lib.byteCells_length, List.length_append]; have := HLB.out; have := HX.out; simp only [List.length_cons, List.length_nil]; omega) (below_size HB.out)).mono ?_; rintro e w4 ⟨rfl, h4, hb4, hk4⟩; have HI4 : Aside0 (Lib.IsBuilderF 57 5 w.heap.size w.heap.size (Lib.byteCells (acc ++ [32] ++ x.data.toList)) w4) := ⟨by rw [Lib.byteCells_append]; exact h4⟩; have HK4 := Aside0.mk (impl_decodeWords.kept HK.out hk4 hgb); have HB4 := Aside0.mk (HB.out.trans hb4); clear h4 hb4 hk4 HI HK HB; have HI := HI4; have HK := HK4; have HB := HB4; clear HI4 HK4 HB4)
            go_wp2
            go_roundw
            case rel => exact ⟨k + 1, _, _, by omega, by go_num, rfl, HI, HK, HB, HS1, ⟨by have := HLN.out; have := HX.out; simp only [List.length_append, List.length_cons, List.length_nil, ← Go.Lib.size_eq]; omega⟩⟩
            case measure => simp [intOf]; omega
    · have hkn : k = n := by omega
      subst hkn
      have e := HS.out
      rw [List.drop_eq_nil_of_le (by rw [HL.out]; exact Nat.le_refl _), impl_decodeWords.go] at e
      obtain rfl := Option.some.inj e
      clear e HS
      go_wp2_with (go_at_call 60; refine (Tryd.Builder_String_any_k w.heap.size w.heap.size _ _ HI.out (below_size HB.out)).mono ?_)
      rintro e w4 ⟨rfl, _, hb4, _⟩
      have HB4 := Aside0.mk (HB.out.trans hb4)
      clear hb4
      go_wp2
      go_ret
      exact ⟨rfl, HB4.out⟩

/-! ### impl_DecodeWords: function 25 -/
def impl_DecodeWords.f (k : Nat) (a0 : ByteArray) : Option (ByteArray × Int) := if (a0.size : Int) > 65536 then (some ((⟨#[]⟩ : ByteArray), 2)) else ((impl_SafeValue.f k a0).bind fun t213 => (if t213 = true then ((impl_decodeWords.f k a0).bind fun t214 => (some (t214, 0))) else (some ((⟨#[]⟩ : ByteArray), 3))))
theorem impl_DecodeWords.mono : ∀ a0 k, LeO (impl_DecodeWords.f k a0) (impl_DecodeWords.f (k + 1) a0) := by
  intro a0 k
  unfold impl_DecodeWords.f
  repeat' first
      | (with_reducible exact impl_SafeValue.mono _ _)
      | (with_reducible exact impl_decodeWords.mono _ _)
      | (with_reducible exact LeO.refl _)
      | (with_reducible exact LeO.none _)
      | (with_reducible refine LeO.ite ?_ ?_)
      | (with_reducible refine LeO.bind ?_ (fun _ => ?_))
      | exact impl_SafeValue.mono _ _
      | exact impl_decodeWords.mono _ _
      | exact LeO.none _
      | refine LeO.ite ?_ ?_
      | refine LeO.bind ?_ (fun _ => ?_)
set_option maxHeartbeats 8000000 in
set_option maxRecDepth 100000 in
theorem impl_DecodeWords.calls (k : Nat) (a0 : ByteArray) (r1 : ByteArray) (r2 : Int) (w : World) (h : impl_DecodeWords.f k a0 = some (r1, r2)) (hG : Glob w) :
    Calls Tryd.prog 25 #[.string a0] w fun e w' => e = .returned (.tuple #[.string r1, .int .i64 r2]) ∧ Below w.heap.size w w' := by
  have HG := Aside0.mk hG
  clear hG
  have HB := Aside0.mk (Below.refl w.heap.size w)
  have H : (if (a0.size : Int) > 65536 then (some ((⟨#[]⟩ : ByteArray), 2)) else ((impl_SafeValue.f k a0).bind fun t213 => (if t213 = true then ((impl_decodeWords.f k a0).bind fun t214 => (some (t214, 0))) else (some ((⟨#[]⟩ : ByteArray), 3))))) = some (r1, r2) := h
  clear h
  by_cases c2 : (a0.size : Int) > 65536
  · rw [if_pos c2] at H
    have c2b0 : decide (65536 < (a0.size : Int)) = true := decide_eq_true c2
    have c2b1 : decide (65536 < a0.size) = true := decide_eq_true (by omega)
    clear c2
    simp only [Option.some.injEq, Prod.mk.injEq] at H
    obtain ⟨rfl, rfl⟩ := H
    go_enter Tryd.func25, Tryd.ntmps25
    go_wp2
    go_ret2
    exact ⟨by first | rfl | (simp [errW_none, errW_some] <;> rfl) | (simp [*, errW_none, errW_some] <;> rfl), by repeat (first | (with_reducible first | exact HB.out | apply below_alloc | apply pw_below_drewN | apply below_drew1) | exact HB.out)⟩
  · rw [if_neg c2] at H
    have c2b0 : decide (65536 < (a0.size : Int)) = false := decide_eq_false c2
    have c2b1 : decide (65536 < a0.size) = false := decide_eq_false (by omega)
    clear c2
    replace H := Option.bind_eq_some_iff.mp H
    obtain ⟨t213, A30, H⟩ := H
    replace H : (if t213 = true then ((impl_decodeWords.f k a0).bind fun t214 => (some (t214, 0))) else (some ((⟨#[]⟩ : ByteArray), 3))) = some (r1, r2) := H
    have A3 := Aside0.mk A30
    clear A30
    by_cases c4 : t213 = true
    · subst c4
      have H1 : ((impl_decodeWords.f k a0).bind fun t214 => (some (t214, 0))) = some (r1, r2) := by rw [if_pos rfl] at H; exact H
      clear H
      have H := H1
      clear H1
      replace H := Option.bind_eq_some_iff.mp H
      obtain ⟨t214, A50, H⟩ := H
      replace H : (some (t214, 0)) = some (r1, r2) := H
      have A5 := Aside0.mk A50
      clear A50
      simp only [Option.some.injEq, Prod.mk.injEq] at H
      obtain ⟨rfl, rfl⟩ := H
      go_enter Tryd.func25, Tryd.ntmps25
      go_wp2_with (first | ((with_reducible refine gate_callee (f := 21) rfl ?_); refine goesL_ (some 10) rfl rfl Tryd.func21 (by kernel_rfl) rfl #[.string a0] rfl (by (try simp only [List.map_toArray, List.map_cons, List.map_nil]); first | done | rfl | (simp only [List.length_drop, List.length_take]; rfl)) ?_; (with_reducible refine (impl_SafeValue.calls k a0 true _ A3.out (Glob.of_below HG.out (by repeat (first | (with_reducible first | exact HB.out | apply below_alloc | apply pw_below_drewN | apply below_drew1) | exact HB.out)))).mono ?_); rintro e w6 ⟨rfl, hb⟩; refine ⟨_, rfl, ?_⟩; have n0_ := Aside0.mk (below_step (by repeat (first | (with_reducible first | exact HB.out | apply below_alloc | apply pw_below_drewN | apply below_drew1) | exact HB.out)) hb); clear HB; have HB := n0_; clear n0_; (try clear hb); (try clear hb2); (try clear hk); (try clear hi)) | ((with_reducible refine gate_callee (f := 49) rfl ?_); refine goesL_ (some 13) rfl rfl Tryd.func49 (by kernel_rfl) rfl #[.string a0] rfl (by (try simp only [List.map_toArray, List.map_cons, List.map_nil]); first | done | rfl | (simp only [List.length_drop, List.length_take]; rfl)) ?_; (with_reducible refine (impl_decodeWords.calls k a0 t214 _ A5.out (Glob.of_below HG.out (by repeat (first | (with_reducible first | exact HB.out | apply below_alloc | apply pw_below_drewN | apply below_drew1) | exact HB.out)))).mono ?_); rintro e w7 ⟨rfl, hb⟩; refine ⟨_, rfl, ?_⟩; have n0_ := Aside0.mk (below_step (by repeat (first | (with_reducible first | exact HB.out | apply below_alloc | apply pw_below_drewN | apply below_drew1) | exact HB.out)) hb); clear HB; have HB := n0_; clear n0_; (try clear hb); (try clear hb2); (try clear hk); (try clear hi)))
      go_ret2
      exact ⟨by first | rfl | (simp [errW_none, errW_some] <;> rfl) | (simp [*, errW_none, errW_some] <;> rfl), by repeat (first | (with_reducible first | exact HB.out | apply below_alloc | apply pw_below_drewN | apply below_drew1) | exact HB.out)⟩
    · replace c4 := Bool.eq_false_iff.mpr c4
      subst c4
      have H1 : (some ((⟨#[]⟩ : ByteArray), 3)) = some (r1, r2) := by rw [if_neg (show ¬ (false = true) by decide)] at H; exact H
      clear H
      have H := H1
      clear H1
      simp only [Option.some.injEq, Prod.mk.injEq] at H
      obtain ⟨rfl, rfl⟩ := H
      go_enter Tryd.func25, Tryd.ntmps25
      go_wp2_with (first | ((with_reducible refine gate_callee (f := 21) rfl ?_); refine goesL_ (some 10) rfl rfl Tryd.func21 (by kernel_rfl) rfl #[.string a0] rfl (by (try simp only [List.map_toArray, List.map_cons, List.map_nil]); first | done | rfl | (simp only [List.length_drop, List.length_take]; rfl)) ?_; (with_reducible refine (impl_SafeValue.calls k a0 false _ A3.out (Glob.of_below HG.out (by repeat (first | (with_reducible first | exact HB.out | apply below_alloc | apply pw_below_drewN | apply below_drew1) | exact HB.out)))).mono ?_); rintro e w8 ⟨rfl, hb⟩; refine ⟨_, rfl, ?_⟩; have n0_ := Aside0.mk (below_step (by repeat (first | (with_reducible first | exact HB.out | apply below_alloc | apply pw_below_drewN | apply below_drew1) | exact HB.out)) hb); clear HB; have HB := n0_; clear n0_; (try clear hb); (try clear hb2); (try clear hk); (try clear hi)))
      go_ret2
      exact ⟨by first | rfl | (simp [errW_none, errW_some] <;> rfl) | (simp [*, errW_none, errW_some] <;> rfl), by repeat (first | (with_reducible first | exact HB.out | apply below_alloc | apply pw_below_drewN | apply below_drew1) | exact HB.out)⟩

/-! ### laws_FnExactDecodeWords: function 8 -/
def laws_FnExactDecodeWords.f (k : Nat) (a0 : ByteArray) : Option (Bool) := if (a0.size : Int) > 1048576 then (some true) else ((spec_DecodeWords.f k a0).bind fun bt215 => ((impl_DecodeWords.f k a0).bind fun bt217 => (if bt217.1.toList = bt215.1.toList then (if bt217.2 = bt215.2 then (some true) else (some false)) else (some false))))
theorem laws_FnExactDecodeWords.mono : ∀ a0 k, LeO (laws_FnExactDecodeWords.f k a0) (laws_FnExactDecodeWords.f (k + 1) a0) := by
  intro a0 k
  unfold laws_FnExactDecodeWords.f
  repeat' first
      | (with_reducible exact impl_DecodeWords.mono _ _)
      | (with_reducible exact spec_DecodeWords.mono _ _)
      | (with_reducible exact LeO.refl _)
      | (with_reducible exact LeO.none _)
      | (with_reducible refine LeO.ite ?_ ?_)
      | (with_reducible refine LeO.bind ?_ (fun _ => ?_))
      | exact impl_DecodeWords.mono _ _
      | exact spec_DecodeWords.mono _ _
      | exact LeO.none _
      | refine LeO.ite ?_ ?_
      | refine LeO.bind ?_ (fun _ => ?_)
set_option maxHeartbeats 8000000 in
set_option maxRecDepth 100000 in
theorem laws_FnExactDecodeWords.calls (k : Nat) (a0 : ByteArray) (r : Bool) (w : World) (h : laws_FnExactDecodeWords.f k a0 = some r) (hG : Glob w) :
    Calls Tryd.prog 8 #[.string a0] w fun e w' => e = .returned (.bool r) ∧ Below w.heap.size w w' := by
  have HG := Aside0.mk hG
  clear hG
  have HB := Aside0.mk (Below.refl w.heap.size w)
  have H : (if (a0.size : Int) > 1048576 then (some true) else ((spec_DecodeWords.f k a0).bind fun bt215 => ((impl_DecodeWords.f k a0).bind fun bt217 => (if bt217.1.toList = bt215.1.toList then (if bt217.2 = bt215.2 then (some true) else (some false)) else (some false))))) = some r := h
  clear h
  by_cases c2 : (a0.size : Int) > 1048576
  · rw [if_pos c2] at H
    have c2b0 : decide (1048576 < (a0.size : Int)) = true := decide_eq_true c2
    have c2b1 : decide (1048576 < a0.size) = true := decide_eq_true (by omega)
    clear c2
    obtain rfl := Option.some.inj H
    go_enter Tryd.func8, Tryd.ntmps8
    go_wp2
    go_ret
    exact ⟨by first | rfl | (simp [errW_none, errW_some] <;> rfl) | (simp [*, errW_none, errW_some] <;> rfl), by repeat (first | (with_reducible first | exact HB.out | apply below_alloc | apply pw_below_drewN | apply below_drew1) | exact HB.out)⟩
  · rw [if_neg c2] at H
    have c2b0 : decide (1048576 < (a0.size : Int)) = false := decide_eq_false c2
    have c2b1 : decide (1048576 < a0.size) = false := decide_eq_false (by omega)
    clear c2
    replace H := Option.bind_eq_some_iff.mp H
    obtain ⟨⟨t215, t216⟩, A30, H⟩ := H
    replace H : ((impl_DecodeWords.f k a0).bind fun bt217 => (if bt217.1.toList = t215.toList then (if bt217.2 = t216 then (some true) else (some false)) else (some false))) = some r := H
    have A3 := Aside0.mk A30
    clear A30
    replace H := Option.bind_eq_some_iff.mp H
    obtain ⟨⟨t217, t218⟩, A40, H⟩ := H
    replace H : (if t217.toList = t215.toList then (if t218 = t216 then (some true) else (some false)) else (some false)) = some r := H
    have A4 := Aside0.mk A40
    clear A40
    by_cases c5 : t217.toList = t215.toList
    · rw [if_pos c5] at H
      have c5b0 : (t217.toList == t215.toList) = true := beq_iff_eq.mpr c5
      have c5b1 : (t217.toList != t215.toList) = false := bne_eq_false_iff_eq.mpr c5
      clear c5
      by_cases c6 : t218 = t216
      · rw [if_pos c6] at H
        have c6b0 : (t218 == t216) = true := beq_iff_eq.mpr c6
        have c6b1 : (t218 != t216) = false := bne_eq_false_iff_eq.mpr c6
        clear c6
        obtain rfl := Option.some.inj H
        go_enter Tryd.func8, Tryd.ntmps8
        go_wp2_with (first | ((with_reducible refine gate_callee (f := 24) rfl ?_); refine goesL_ (some 12) rfl rfl Tryd.func24 (by kernel_rfl) rfl #[.string a0] rfl (by (try simp only [List.map_toArray, List.map_cons, List.map_nil]); first | done | rfl | (simp only [List.length_drop, List.length_take]; rfl)) ?_; (with_reducible refine (spec_DecodeWords.calls k a0 t215 t216 _ A3.out).mono ?_); rintro e w7 ⟨rfl, hb⟩; refine ⟨_, rfl, ?_⟩; have n0_ := Aside0.mk (below_step (by repeat (first | (with_reducible first | exact HB.out | apply below_alloc | apply pw_below_drewN | apply below_drew1) | exact HB.out)) hb); clear HB; have HB := n0_; clear n0_; (try clear hb); (try clear hb2); (try clear hk); (try clear hi)) | ((with_reducible refine gate_callee (f := 25) rfl ?_); refine goesL_ (some 17) rfl rfl Tryd.func25 (by kernel_rfl) rfl #[.string a0] rfl (by (try simp only [List.map_toArray, List.map_cons, List.map_nil]); first | done | rfl | (simp only [List.length_drop, List.length_take]; rfl)) ?_; (with_reducible refine (impl_DecodeWords.calls k a0 t217 t218 _ A4.out (Glob.of_below HG.out (by repeat (first | (with_reducible first | exact HB.out | apply below_alloc | apply pw_below_drewN | apply below_drew1) | exact HB.out)))).mono ?_); rintro e w8 ⟨rfl, hb⟩; refine ⟨_, rfl, ?_⟩; have n0_ := Aside0.mk (below_step (by repeat (first | (with_reducible first | exact HB.out | apply below_alloc | apply pw_below_drewN | apply below_drew1) | exact HB.out)) hb); clear HB; have HB := n0_; clear n0_; (try clear hb); (try clear hb2); (try clear hk); (try clear hi)))
        go_ret
        exact ⟨by first | rfl | (simp [errW_none, errW_some] <;> rfl) | (simp [*, errW_none, errW_some] <;> rfl), by repeat (first | (with_reducible first | exact HB.out | apply below_alloc | apply pw_below_drewN | apply below_drew1) | exact HB.out)⟩
      · rw [if_neg c6] at H
        have c6b0 : (t218 == t216) = false := beq_eq_false_iff_ne.mpr c6
        have c6b1 : (t218 != t216) = true := bne_iff_ne.mpr c6
        obtain rfl := Option.some.inj H
        go_enter Tryd.func8, Tryd.ntmps8
        go_wp2_with (first | ((with_reducible refine gate_callee (f := 24) rfl ?_); refine goesL_ (some 12) rfl rfl Tryd.func24 (by kernel_rfl) rfl #[.string a0] rfl (by (try simp only [List.map_toArray, List.map_cons, List.map_nil]); first | done | rfl | (simp only [List.length_drop, List.length_take]; rfl)) ?_; (with_reducible refine (spec_DecodeWords.calls k a0 t215 t216 _ A3.out).mono ?_); rintro e w9 ⟨rfl, hb⟩; refine ⟨_, rfl, ?_⟩; have n0_ := Aside0.mk (below_step (by repeat (first | (with_reducible first | exact HB.out | apply below_alloc | apply pw_below_drewN | apply below_drew1) | exact HB.out)) hb); clear HB; have HB := n0_; clear n0_; (try clear hb); (try clear hb2); (try clear hk); (try clear hi)) | ((with_reducible refine gate_callee (f := 25) rfl ?_); refine goesL_ (some 17) rfl rfl Tryd.func25 (by kernel_rfl) rfl #[.string a0] rfl (by (try simp only [List.map_toArray, List.map_cons, List.map_nil]); first | done | rfl | (simp only [List.length_drop, List.length_take]; rfl)) ?_; (with_reducible refine (impl_DecodeWords.calls k a0 t217 t218 _ A4.out (Glob.of_below HG.out (by repeat (first | (with_reducible first | exact HB.out | apply below_alloc | apply pw_below_drewN | apply below_drew1) | exact HB.out)))).mono ?_); rintro e w10 ⟨rfl, hb⟩; refine ⟨_, rfl, ?_⟩; have n0_ := Aside0.mk (below_step (by repeat (first | (with_reducible first | exact HB.out | apply below_alloc | apply pw_below_drewN | apply below_drew1) | exact HB.out)) hb); clear HB; have HB := n0_; clear n0_; (try clear hb); (try clear hb2); (try clear hk); (try clear hi)))
        go_ret
        exact ⟨by first | rfl | (simp [errW_none, errW_some] <;> rfl) | (simp [*, errW_none, errW_some] <;> rfl), by repeat (first | (with_reducible first | exact HB.out | apply below_alloc | apply pw_below_drewN | apply below_drew1) | exact HB.out)⟩
    · rw [if_neg c5] at H
      have c5b0 : (t217.toList == t215.toList) = false := beq_eq_false_iff_ne.mpr c5
      have c5b1 : (t217.toList != t215.toList) = true := bne_iff_ne.mpr c5
      obtain rfl := Option.some.inj H
      go_enter Tryd.func8, Tryd.ntmps8
      go_wp2_with (first | ((with_reducible refine gate_callee (f := 24) rfl ?_); refine goesL_ (some 12) rfl rfl Tryd.func24 (by kernel_rfl) rfl #[.string a0] rfl (by (try simp only [List.map_toArray, List.map_cons, List.map_nil]); first | done | rfl | (simp only [List.length_drop, List.length_take]; rfl)) ?_; (with_reducible refine (spec_DecodeWords.calls k a0 t215 t216 _ A3.out).mono ?_); rintro e w11 ⟨rfl, hb⟩; refine ⟨_, rfl, ?_⟩; have n0_ := Aside0.mk (below_step (by repeat (first | (with_reducible first | exact HB.out | apply below_alloc | apply pw_below_drewN | apply below_drew1) | exact HB.out)) hb); clear HB; have HB := n0_; clear n0_; (try clear hb); (try clear hb2); (try clear hk); (try clear hi)) | ((with_reducible refine gate_callee (f := 25) rfl ?_); refine goesL_ (some 17) rfl rfl Tryd.func25 (by kernel_rfl) rfl #[.string a0] rfl (by (try simp only [List.map_toArray, List.map_cons, List.map_nil]); first | done | rfl | (simp only [List.length_drop, List.length_take]; rfl)) ?_; (with_reducible refine (impl_DecodeWords.calls k a0 t217 t218 _ A4.out (Glob.of_below HG.out (by repeat (first | (with_reducible first | exact HB.out | apply below_alloc | apply pw_below_drewN | apply below_drew1) | exact HB.out)))).mono ?_); rintro e w12 ⟨rfl, hb⟩; refine ⟨_, rfl, ?_⟩; have n0_ := Aside0.mk (below_step (by repeat (first | (with_reducible first | exact HB.out | apply below_alloc | apply pw_below_drewN | apply below_drew1) | exact HB.out)) hb); clear HB; have HB := n0_; clear n0_; (try clear hb); (try clear hb2); (try clear hk); (try clear hi)))
      go_ret
      exact ⟨by first | rfl | (simp [errW_none, errW_some] <;> rfl) | (simp [*, errW_none, errW_some] <;> rfl), by repeat (first | (with_reducible first | exact HB.out | apply below_alloc | apply pw_below_drewN | apply below_drew1) | exact HB.out)⟩

/-- THE ONE PURE STATEMENT of laws_FnExactDecodeWords: yours. -/
def laws_FnExactDecodeWords.Pure : Prop := ∀ (a0 : ByteArray), a0.size ≤ 140737488351232 → ∃ k, laws_FnExactDecodeWords.f k a0 = some true
theorem laws_FnExactDecodeWords.walk (P : laws_FnExactDecodeWords.Pure) (a0 : ByteArray) (w : World) (w0 : a0.size ≤ 140737488351232) (hG : Glob w) :
    Calls Tryd.prog 8 #[.string a0] w fun e w' => e = .returned (.bool true) ∧ Below w.heap.size w w' := by
  obtain ⟨k, h⟩ := P a0 w0
  refine (laws_FnExactDecodeWords.calls k a0 true w h hG).mono ?_
  rintro e w' ⟨rfl, hd⟩
  exact ⟨rfl, hd⟩

end Go.Proofs.YtebmhicdlamnbaaDoor.QFnExactDecodeWords
