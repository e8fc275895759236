/- Printed by a program of this session's own (wip/myprint.py): the functions that FnExactFeedText reaches as plain Lean functions, and that Go's calls do what they say. Conditions: as each theorem states. -/
import Derived.Test.YteknchhlineciaaGreatDoorQFnExactFeedTextx0
import Derived.Test.YteknchhlineciaaGreatDoorQFnExactFeedTextx8
import Derived.Test.YteknchhlineciaaGreatDoorQFnExactFeedTextx9
namespace Go.Proofs.YteknchhlineciaaGreatDoor.QFnExactFeedText
open Go.RowKit Go.Proofs.YteknchhlineciaaGreatDoorW.PrintWords Go.Proofs.YteknchhlineciaaGreatDoorW.PrintLast Go.Proofs.YteknchhlineciaaGreatDoorW.PrintMore
attribute [local go_sem] max2_int min2_int max_two min_two max_three min_three max_four min_four   -- for this text's walks alone
set_option linter.unusedVariables false
set_option linter.unusedSimpArgs false

/-! ### impl_Rfc822Text: function 32 -/
def impl_Rfc822Text.f (k : Nat) (a0 : Int) : Option (ByteArray × Int) := (impl_isStamp.f a0).bind fun t307 => (if t307 = true then ((impl_civilOf.f k a0).bind fun bt308 => ((impl_weekdays.f).bind fun t315 => ((impl_weekday.f a0).bind fun t318 => (if 0 ≤ t318 then (if t318 < (t315.length : Int) then (if (rdOf ByteArray.empty t315 t318).size + 2 ≤ 9223372036854775807 then ((impl_two.f bt308.2.2.1).bind fun t320 => (if ((rdOf ByteArray.empty t315 t318) ++ (⟨#[44, 32]⟩ : ByteArray)).size + t320.size ≤ 9223372036854775807 then (if (((rdOf ByteArray.empty t315 t318) ++ (⟨#[44, 32]⟩ : ByteArray)) ++ t320).size + 1 ≤ 9223372036854775807 then ((impl_months.f).bind fun t321 => (if 0 ≤ (wrap64 (bt308.2.1 - 1)) then (if (wrap64 (bt308.2.1 - 1)) < (t321.length : Int) then (if ((((rdOf ByteArray.empty t315 t318) ++ (⟨#[44, 32]⟩ : ByteArray)) ++ t320) ++ (⟨#[32]⟩ : ByteArray)).size + (rdOf ByteArray.empty t321 (wrap64 (bt308.2.1 - 1))).size ≤ 9223372036854775807 then (if (((((rdOf ByteArray.empty t315 t318) ++ (⟨#[44, 32]⟩ : ByteArray)) ++ t320) ++ (⟨#[32]⟩ : ByteArray)) ++ (rdOf ByteArray.empty t321 (wrap64 (bt308.2.1 - 1)))).size + 1 ≤ 9223372036854775807 then ((strconv_Itoa.f bt308.1).bind fun t325 => (if ((((((rdOf ByteArray.empty t315 t318) ++ (⟨#[44, 32]⟩ : ByteArray)) ++ t320) ++ (⟨#[32]⟩ : ByteArray)) ++ (rdOf ByteArray.empty t321 (wrap64 (bt308.2.1 - 1)))) ++ (⟨#[32]⟩ : ByteArray)).size + t325.size ≤ 9223372036854775807 then (if (((((((rdOf ByteArray.empty t315 t318) ++ (⟨#[44, 32]⟩ : ByteArray)) ++ t320) ++ (⟨#[32]⟩ : ByteArray)) ++ (rdOf ByteArray.empty t321 (wrap64 (bt308.2.1 - 1)))) ++ (⟨#[32]⟩ : ByteArray)) ++ t325).size + 1 ≤ 9223372036854775807 then ((impl_Civil_clock.f bt308.1 bt308.2.1 bt308.2.2.1 bt308.2.2.2.1 bt308.2.2.2.2.1 bt308.2.2.2.2.2).bind fun t326 => (if ((((((((rdOf ByteArray.empty t315 t318) ++ (⟨#[44, 32]⟩ : ByteArray)) ++ t320) ++ (⟨#[32]⟩ : ByteArray)) ++ (rdOf ByteArray.empty t321 (wrap64 (bt308.2.1 - 1)))) ++ (⟨#[32]⟩ : ByteArray)) ++ t325) ++ (⟨#[32]⟩ : ByteArray)).size + t326.size ≤ 9223372036854775807 then (if (((((((((rdOf ByteArray.empty t315 t318) ++ (⟨#[44, 32]⟩ : ByteArray)) ++ t320) ++ (⟨#[32]⟩ : ByteArray)) ++ (rdOf ByteArray.empty t321 (wrap64 (bt308.2.1 - 1)))) ++ (⟨#[32]⟩ : ByteArray)) ++ t325) ++ (⟨#[32]⟩ : ByteArray)) ++ t326).size + 6 ≤ 9223372036854775807 then (some ((((((((((rdOf ByteArray.empty t315 t318) ++ (⟨#[44, 32]⟩ : ByteArray)) ++ t320) ++ (⟨#[32]⟩ : ByteArray)) ++ (rdOf ByteArray.empty t321 (wrap64 (bt308.2.1 - 1)))) ++ (⟨#[32]⟩ : ByteArray)) ++ t325) ++ (⟨#[32]⟩ : ByteArray)) ++ t326) ++ (⟨#[32, 43, 48, 48, 48, 48]⟩ : ByteArray), 0)) else (none)) else (none))) else (none)) else (none))) else (none)) else (none)) else (none)) else (none))) else (none)) else (none))) else (none)) else (none)) else (none))))) else (some ((⟨#[]⟩ : ByteArray), 4)))
theorem impl_Rfc822Text.mono : ∀ a0 k, LeO (impl_Rfc822Text.f k a0) (impl_Rfc822Text.f (k + 1) a0) := by
 intro a0 k
 unfold impl_Rfc822Text.f
 repeat' first
   | (with_reducible exact impl_civilOf.mono _ _)
   | (with_reducible exact LeO.refl _)
   | (with_reducible exact LeO.none _)
   | (with_reducible refine LeO.ite ?_ ?_)
   | (with_reducible refine LeO.bind ?_ (fun _ => ?_))
   | exact impl_civilOf.mono _ _
   | exact LeO.none _
   | refine LeO.ite ?_ ?_
   | refine LeO.bind ?_ (fun _ => ?_)
def impl_Rfc822Text.T4 : Bool × List (List Nat × List Nat) := (true, [([], []), ([], []), ([1, 0], [1]), ([0, 2], [0, 2]), ([3], [3]), ([4], [4]), ([], []), ([6], [6]), ([7, 2], [7]), ([5, 8], [5, 8]), ([9], [9]), ([8], []), ([], []), ([12], [12]), ([13], [13]), ([11, 14], [11, 14]), ([15], [15]), ([10, 16], [10, 16]), ([17], [17]), ([], []), ([19], [19]), ([20, 11], [20]), ([18, 21], [18, 21]), ([22], [22]), ([], []), ([24, 21], [24]), ([23, 25], [23, 25]), ([26], [26]), ([27, 25, 0, 1, 2, 3, 4, 5, 6, 7, 8, 9, 10, 11, 12, 13, 14, 15, 16, 17, 18, 19, 20, 21, 22, 23, 24, 25, 26, 27], [27]), ([28, 0, 1, 2, 3, 4, 5, 6, 7, 8, 9, 10, 11, 12, 13, 14, 15, 16, 17, 18, 19, 20, 21, 22, 23, 24, 25, 26, 27, 28], [])])
def impl_Rfc822Text.B4 : List Nat := [0, 0, 3, 7, 15, 31, 0, 64, 199, 511, 1023, 455, 0, 4096, 12288, 31175, 63943, 131071, 262143, 0, 524288, 1575367, 4194303, 8388607, 0, 20449735, 67108863, 134217727, 268435455, 536870911]
theorem impl_Rfc822Text.tab4 : rtab .any (opsOf Tryz.f32 4) = impl_Rfc822Text.T4 := by kernel_rfl
theorem impl_Rfc822Text.bits4 : waitsOk impl_Rfc822Text.T4.2 impl_Rfc822Text.B4 = true := by kernel_rfl
set_option maxHeartbeats 8000000 in
set_option maxRecDepth 100000 in
theorem impl_Rfc822Text.calls (k : Nat) (a0 : Int) (r1 : ByteArray) (r2 : Int) (w : World) (h : impl_Rfc822Text.f k a0 = some (r1, r2)) (hG : Glob w) :
  Calls Tryz.prog 32 #[.int .i64 a0] w fun e w' => e = .returned (.tuple #[.string r1, .int .i64 r2]) ∧ Below w.heap.size w w' := by
 have HG := Aside0.mk hG
 clear hG
 have hu69 := Tryz.underlying69
 have HB := Aside0.mk (Below.refl w.heap.size w)
 have H := h
 unfold impl_Rfc822Text.f at H
 clear h
 obtain ⟨t307, A2, H⟩ := bindA H
 by_cases c3 : t307 = true
 ·subst c3
  have H1 : ((impl_civilOf.f k a0).bind fun bt308 => ((impl_weekdays.f).bind fun t315 => ((impl_weekday.f a0).bind fun t318 => (if 0 ≤ t318 then (if t318 < (t315.length : Int) then (if (rdOf ByteArray.empty t315 t318).size + 2 ≤ 9223372036854775807 then ((impl_two.f bt308.2.2.1).bind fun t320 => (if ((rdOf ByteArray.empty t315 t318) ++ (⟨#[44, 32]⟩ : ByteArray)).size + t320.size ≤ 9223372036854775807 then (if (((rdOf ByteArray.empty t315 t318) ++ (⟨#[44, 32]⟩ : ByteArray)) ++ t320).size + 1 ≤ 9223372036854775807 then ((impl_months.f).bind fun t321 => (if 0 ≤ (wrap64 (bt308.2.1 - 1)) then (if (wrap64 (bt308.2.1 - 1)) < (t321.length : Int) then (if ((((rdOf ByteArray.empty t315 t318) ++ (⟨#[44, 32]⟩ : ByteArray)) ++ t320) ++ (⟨#[32]⟩ : ByteArray)).size + (rdOf ByteArray.empty t321 (wrap64 (bt308.2.1 - 1))).size ≤ 9223372036854775807 then (if (((((rdOf ByteArray.empty t315 t318) ++ (⟨#[44, 32]⟩ : ByteArray)) ++ t320) ++ (⟨#[32]⟩ : ByteArray)) ++ (rdOf ByteArray.empty t321 (wrap64 (bt308.2.1 - 1)))).size + 1 ≤ 9223372036854775807 then ((strconv_Itoa.f bt308.1).bind fun t325 => (if ((((((rdOf ByteArray.empty t315 t318) ++ (⟨#[44, 32]⟩ : ByteArray)) ++ t320) ++ (⟨#[32]⟩ : ByteArray)) ++ (rdOf ByteArray.empty t321 (wrap64 (bt308.2.1 - 1)))) ++ (⟨#[32]⟩ : ByteArray)).size + t325.size ≤ 9223372036854775807 then (if (((((((rdOf ByteArray.empty t315 t318) ++ (⟨#[44, 32]⟩ : ByteArray)) ++ t320) ++ (⟨#[32]⟩ : ByteArray)) ++ (rdOf ByteArray.empty t321 (wrap64 (bt308.2.1 - 1)))) ++ (⟨#[32]⟩ : ByteArray)) ++ t325).size + 1 ≤ 9223372036854775807 then ((impl_Civil_clock.f bt308.1 bt308.2.1 bt308.2.2.1 bt308.2.2.2.1 bt308.2.2.2.2.1 bt308.2.2.2.2.2).bind fun t326 => (if ((((((((rdOf ByteArray.empty t315 t318) ++ (⟨#[44, 32]⟩ : ByteArray)) ++ t320) ++ (⟨#[32]⟩ : ByteArray)) ++ (rdOf ByteArray.empty t321 (wrap64 (bt308.2.1 - 1)))) ++ (⟨#[32]⟩ : ByteArray)) ++ t325) ++ (⟨#[32]⟩ : ByteArray)).size + t326.size ≤ 9223372036854775807 then (if (((((((((rdOf ByteArray.empty t315 t318) ++ (⟨#[44, 32]⟩ : ByteArray)) ++ t320) ++ (⟨#[32]⟩ : ByteArray)) ++ (rdOf ByteArray.empty t321 (wrap64 (bt308.2.1 - 1)))) ++ (⟨#[32]⟩ : ByteArray)) ++ t325) ++ (⟨#[32]⟩ : ByteArray)) ++ t326).size + 6 ≤ 9223372036854775807 then (some ((((((((((rdOf ByteArray.empty t315 t318) ++ (⟨#[44, 32]⟩ : ByteArray)) ++ t320) ++ (⟨#[32]⟩ : ByteArray)) ++ (rdOf ByteArray.empty t321 (wrap64 (bt308.2.1 - 1)))) ++ (⟨#[32]⟩ : ByteArray)) ++ t325) ++ (⟨#[32]⟩ : ByteArray)) ++ t326) ++ (⟨#[32, 43, 48, 48, 48, 48]⟩ : ByteArray), 0)) else (none)) else (none))) else (none)) else (none))) else (none)) else (none)) else (none)) else (none))) else (none)) else (none))) else (none)) else (none)) else (none))))) = some (r1, r2) := by rw [if_pos rfl] at H; exact H
  clear H
  have H := H1
  clear H1
  obtain ⟨⟨t308, t309, t310, t311, t312, t313⟩, A4, H⟩ := bindA H
  try dsimp only at H
  obtain ⟨t315, A5, H⟩ := bindA H
  obtain ⟨t318, A6, H⟩ := bindA H
  obtain ⟨c7, H⟩ := iteA H
  have c7b0 := decide_eq_true c7
  clear c7
  obtain ⟨c8, H⟩ := iteA H
  have c8b0 := decide_eq_true c8
  clear c8
  obtain ⟨c9, H⟩ := iteA H
  have c9b0 := eq_true c9
  have c9b1 := decide_eq_true c9
  try have c9b2 := eq_false (Nat.not_lt.2 c9)
  obtain ⟨t320, A10, H⟩ := bindA H
  obtain ⟨c11, H⟩ := iteA H
  have c11b0 := eq_true c11
  have c11b1 := decide_eq_true c11
  try have c11b2 := eq_false (Nat.not_lt.2 c11)
  try have c11b3 : (9223372036854775807 < (rdOf ByteArray.empty t315 t318).size + 2 + t320.size) = False := eq_false (Nat.not_lt.2 (by have h_ := c11; simp only [ByteArray.size_append] at h_; exact h_))
  obtain ⟨c12, H⟩ := iteA H
  have c12b0 := eq_true c12
  have c12b1 := decide_eq_true c12
  try have c12b2 := eq_false (Nat.not_lt.2 c12)
  try have c12b3 : (9223372036854775807 < (rdOf ByteArray.empty t315 t318).size + 2 + t320.size + 1) = False := eq_false (Nat.not_lt.2 (by have h_ := c12; simp only [ByteArray.size_append] at h_; exact h_))
  obtain ⟨t321, A13, H⟩ := bindA H
  obtain ⟨ji14, hji14⟩ : ∃ j_ : Int, (wrap64 (t309 - 1)) = j_ := ⟨_, rfl⟩
  replace H : (if 0 ≤ (ji14) then (if (ji14) < (t321.length : Int) then (if ((((rdOf ByteArray.empty t315 t318) ++ (⟨#[44, 32]⟩ : ByteArray)) ++ t320) ++ (⟨#[32]⟩ : ByteArray)).size + (rdOf ByteArray.empty t321 (ji14)).size ≤ 9223372036854775807 then (if (((((rdOf ByteArray.empty t315 t318) ++ (⟨#[44, 32]⟩ : ByteArray)) ++ t320) ++ (⟨#[32]⟩ : ByteArray)) ++ (rdOf ByteArray.empty t321 (ji14))).size + 1 ≤ 9223372036854775807 then ((strconv_Itoa.f t308).bind fun t325 => (if ((((((rdOf ByteArray.empty t315 t318) ++ (⟨#[44, 32]⟩ : ByteArray)) ++ t320) ++ (⟨#[32]⟩ : ByteArray)) ++ (rdOf ByteArray.empty t321 (ji14))) ++ (⟨#[32]⟩ : ByteArray)).size + t325.size ≤ 9223372036854775807 then (if (((((((rdOf ByteArray.empty t315 t318) ++ (⟨#[44, 32]⟩ : ByteArray)) ++ t320) ++ (⟨#[32]⟩ : ByteArray)) ++ (rdOf ByteArray.empty t321 (ji14))) ++ (⟨#[32]⟩ : ByteArray)) ++ t325).size + 1 ≤ 9223372036854775807 then ((impl_Civil_clock.f t308 t309 t310 t311 t312 t313).bind fun t326 => (if ((((((((rdOf ByteArray.empty t315 t318) ++ (⟨#[44, 32]⟩ : ByteArray)) ++ t320) ++ (⟨#[32]⟩ : ByteArray)) ++ (rdOf ByteArray.empty t321 (ji14))) ++ (⟨#[32]⟩ : ByteArray)) ++ t325) ++ (⟨#[32]⟩ : ByteArray)).size + t326.size ≤ 9223372036854775807 then (if (((((((((rdOf ByteArray.empty t315 t318) ++ (⟨#[44, 32]⟩ : ByteArray)) ++ t320) ++ (⟨#[32]⟩ : ByteArray)) ++ (rdOf ByteArray.empty t321 (ji14))) ++ (⟨#[32]⟩ : ByteArray)) ++ t325) ++ (⟨#[32]⟩ : ByteArray)) ++ t326).size + 6 ≤ 9223372036854775807 then (some ((((((((((rdOf ByteArray.empty t315 t318) ++ (⟨#[44, 32]⟩ : ByteArray)) ++ t320) ++ (⟨#[32]⟩ : ByteArray)) ++ (rdOf ByteArray.empty t321 (ji14))) ++ (⟨#[32]⟩ : ByteArray)) ++ t325) ++ (⟨#[32]⟩ : ByteArray)) ++ t326) ++ (⟨#[32, 43, 48, 48, 48, 48]⟩ : ByteArray), 0)) else (none)) else (none))) else (none)) else (none))) else (none)) else (none)) else (none)) else (none)) = some (r1, r2) := by first | (rw [hji14] at H; exact H) | (simp only [hji14] at H ⊢; exact H)
  (try rw [hji14] at A2)
  (try rw [hji14] at A4)
  (try rw [hji14] at A5)
  (try rw [hji14] at A6)
  (try rw [hji14] at A10)
  (try rw [hji14] at A13)
  have hji14w : (IntKind.i64.wrap (t309 - 1)) = ji14 := (i64_w _).trans hji14
  obtain ⟨c15, H⟩ := iteA H
  have c15b0 := decide_eq_true c15
  clear c15
  obtain ⟨c16, H⟩ := iteA H
  have c16b0 := decide_eq_true c16
  clear c16
  obtain ⟨c17, H⟩ := iteA H
  have c17b0 := eq_true c17
  have c17b1 := decide_eq_true c17
  try have c17b2 := eq_false (Nat.not_lt.2 c17)
  try have c17b3 : (9223372036854775807 < (rdOf ByteArray.empty t315 t318).size + 2 + t320.size + 1 + (rdOf ByteArray.empty t321 (ji14)).size) = False := eq_false (Nat.not_lt.2 (by have h_ := c17; simp only [ByteArray.size_append] at h_; exact h_))
  obtain ⟨c18, H⟩ := iteA H
  have c18b0 := eq_true c18
  have c18b1 := decide_eq_true c18
  try have c18b2 := eq_false (Nat.not_lt.2 c18)
  try have c18b3 : (9223372036854775807 < (rdOf ByteArray.empty t315 t318).size + 2 + t320.size + 1 + (rdOf ByteArray.empty t321 (ji14)).size + 1) = False := eq_false (Nat.not_lt.2 (by have h_ := c18; simp only [ByteArray.size_append] at h_; exact h_))
  obtain ⟨t325, A19, H⟩ := bindA H
  obtain ⟨c20, H⟩ := iteA H
  have c20b0 := eq_true c20
  have c20b1 := decide_eq_true c20
  try have c20b2 := eq_false (Nat.not_lt.2 c20)
  try have c20b3 : (9223372036854775807 < (rdOf ByteArray.empty t315 t318).size + 2 + t320.size + 1 + (rdOf ByteArray.empty t321 (ji14)).size + 1 + t325.size) = False := eq_false (Nat.not_lt.2 (by have h_ := c20; simp only [ByteArray.size_append] at h_; exact h_))
  obtain ⟨c21, H⟩ := iteA H
  have c21b0 := eq_true c21
  have c21b1 := decide_eq_true c21
  try have c21b2 := eq_false (Nat.not_lt.2 c21)
  try have c21b3 : (9223372036854775807 < (rdOf ByteArray.empty t315 t318).size + 2 + t320.size + 1 + (rdOf ByteArray.empty t321 (ji14)).size + 1 + t325.size + 1) = False := eq_false (Nat.not_lt.2 (by have h_ := c21; simp only [ByteArray.size_append] at h_; exact h_))
  obtain ⟨t326, A22, H⟩ := bindA H
  obtain ⟨c23, H⟩ := iteA H
  have c23b0 := eq_true c23
  have c23b1 := decide_eq_true c23
  try have c23b2 := eq_false (Nat.not_lt.2 c23)
  try have c23b3 : (9223372036854775807 < (rdOf ByteArray.empty t315 t318).size + 2 + t320.size + 1 + (rdOf ByteArray.empty t321 (ji14)).size + 1 + t325.size + 1 + t326.size) = False := eq_false (Nat.not_lt.2 (by have h_ := c23; simp only [ByteArray.size_append] at h_; exact h_))
  obtain ⟨c24, H⟩ := iteA H
  have c24b0 := eq_true c24
  have c24b1 := decide_eq_true c24
  try have c24b2 := eq_false (Nat.not_lt.2 c24)
  try have c24b3 : (9223372036854775807 < (rdOf ByteArray.empty t315 t318).size + 2 + t320.size + 1 + (rdOf ByteArray.empty t321 (ji14)).size + 1 + t325.size + 1 + t326.size + 6) = False := eq_false (Nat.not_lt.2 (by have h_ := c24; simp only [ByteArray.size_append] at h_; exact h_))
  simp only [Option.some.injEq, Prod.mk.injEq] at H
  obtain ⟨rfl, rfl⟩ := H
  go_enter Tryz.func32, Tryz.ntmps32
  try go_wp2_with (first | ((with_reducible refine gate_callee (f := 46) rfl ?_); refine goesL_ (some 6) rfl rfl Tryz.func46 (by kernel_rfl) rfl #[.int .i64 a0] rfl (by (try simp only [List.map_toArray, List.map_cons, List.map_nil]); first | done | rfl | (simp only [List.length_drop, List.length_take]; rfl)) ?_; (with_reducible refine (impl_isStamp.calls a0 true _ A2.out).mono ?_); rintro e w' ⟨rfl, ⟨nd, rfl⟩⟩; refine ⟨_, rfl, ?_⟩) | ((with_reducible refine gate_callee (f := 47) rfl ?_); refine goesL_ (some 9) rfl rfl Tryz.func47 (by kernel_rfl) rfl #[.int .i64 a0] rfl (by (try simp only [List.map_toArray, List.map_cons, List.map_nil]); first | done | rfl | (simp only [List.length_drop, List.length_take]; rfl)) ?_; (with_reducible refine (impl_civilOf.calls k a0 t308 t309 t310 t311 t312 t313 _ A4.out).mono ?_); rintro e w25 ⟨rfl, hb⟩; refine ⟨_, rfl, ?_⟩; replace HB := Aside0.mk (below_step (by repeat (first | (with_reducible first | exact HB.out | apply ba | apply bn | apply bd) | exact HB.out)) hb); (try clear hb); (try clear hb2); (try clear hk); (try clear hi)) | ((with_reducible refine gate_dst (N := 4) rfl ?_); refine box_event ?hg (N := 4) ?hd (cs := #[.int .i64 0, .int .i64 0, .int .i64 0, .int .i64 0, .int .i64 0, .int .i64 0]) (t := 69) ?hr ?_; (case hd => rfl); (case hg => rfl); (case hr => first | (go_simp; done) | (go_simp; rfl)); intro gb314 hg w26 hbox hb; have BK314 := Aside0.mk (hbox); have GW314 := Aside0.mk ((by rw [hg]; exact (below_size (by repeat (first | (with_reducible first | exact HB.out | apply ba | apply bn | apply bd) | exact HB.out))) : w.heap.size ≤ gb314)); have GE314 := GW314; replace HB := Aside0.mk (below_step (by repeat (first | (with_reducible first | exact HB.out | apply ba | apply bn | apply bd) | exact HB.out)) hb); clear hb hbox hg; obtain ⟨hcz27_0, hcz27_1, hcz27_2, hcz27_3, hcz27_4, hcz27_5, hfz27_0, hfz27_1, hfz27_2, hfz27_3, hfz27_4, hfz27_5⟩ := blk6 BK314.out))
  have n0_ : Aside0 (((((((w26.setCell ⟨gb314, 0, none⟩ (.int .i64 t308)).setCell ⟨gb314, 1, none⟩ (.int .i64 t309)).setCell ⟨gb314, 2, none⟩ (.int .i64 t310)).setCell ⟨gb314, 3, none⟩ (.int .i64 t311)).setCell ⟨gb314, 4, none⟩ (.int .i64 t312)).setCell ⟨gb314, 5, none⟩ (.int .i64 t313)).heap[gb314]? = some (.cells #[.int .i64 t308, .int .i64 t309, .int .i64 t310, .int .i64 t311, .int .i64 t312, .int .i64 t313] 69 (0, 0))) := ⟨by (with_reducible repeat (first | refine blk_drewN ?_ _ | refine blk_drew ?_ | refine blk_alloc ?_ _)); refine blk_put (cs := #[.int .i64 t308, .int .i64 t309, .int .i64 t310, .int .i64 t311, .int .i64 t312, .int .i64 0]) ?_ 5 _ rfl; (with_reducible repeat (first | refine blk_drewN ?_ _ | refine blk_drew ?_ | refine blk_alloc ?_ _)); refine blk_put (cs := #[.int .i64 t308, .int .i64 t309, .int .i64 t310, .int .i64 t311, .int .i64 0, .int .i64 0]) ?_ 4 _ rfl; (with_reducible repeat (first | refine blk_drewN ?_ _ | refine blk_drew ?_ | refine blk_alloc ?_ _)); refine blk_put (cs := #[.int .i64 t308, .int .i64 t309, .int .i64 t310, .int .i64 0, .int .i64 0, .int .i64 0]) ?_ 3 _ rfl; (with_reducible repeat (first | refine blk_drewN ?_ _ | refine blk_drew ?_ | refine blk_alloc ?_ _)); refine blk_put (cs := #[.int .i64 t308, .int .i64 t309, .int .i64 0, .int .i64 0, .int .i64 0, .int .i64 0]) ?_ 2 _ rfl; (with_reducible repeat (first | refine blk_drewN ?_ _ | refine blk_drew ?_ | refine blk_alloc ?_ _)); refine blk_put (cs := #[.int .i64 t308, .int .i64 0, .int .i64 0, .int .i64 0, .int .i64 0, .int .i64 0]) ?_ 1 _ rfl; (with_reducible repeat (first | refine blk_drewN ?_ _ | refine blk_drew ?_ | refine blk_alloc ?_ _)); refine blk_put (cs := #[.int .i64 0, .int .i64 0, .int .i64 0, .int .i64 0, .int .i64 0, .int .i64 0]) ?_ 0 _ rfl; (with_reducible repeat (first | refine blk_drewN ?_ _ | refine blk_drew ?_ | refine blk_alloc ?_ _)); exact BK314.out⟩
  have n1_ : Aside0 (Below w.heap.size w ((((((w26.setCell ⟨gb314, 0, none⟩ (.int .i64 t308)).setCell ⟨gb314, 1, none⟩ (.int .i64 t309)).setCell ⟨gb314, 2, none⟩ (.int .i64 t310)).setCell ⟨gb314, 3, none⟩ (.int .i64 t311)).setCell ⟨gb314, 4, none⟩ (.int .i64 t312)).setCell ⟨gb314, 5, none⟩ (.int .i64 t313))) := ⟨by repeat (first | (with_reducible first | exact HB.out | apply ba | apply bn | apply bd | refine below_set ?_ GE314.out) | exact HB.out)⟩
  (try clear BK314)
  (try clear HB)
  generalize ((((((w26.setCell ⟨gb314, 0, none⟩ (.int .i64 t308)).setCell ⟨gb314, 1, none⟩ (.int .i64 t309)).setCell ⟨gb314, 2, none⟩ (.int .i64 t310)).setCell ⟨gb314, 3, none⟩ (.int .i64 t311)).setCell ⟨gb314, 4, none⟩ (.int .i64 t312)).setCell ⟨gb314, 5, none⟩ (.int .i64 t313)) = w28 at n0_ n1_ ⊢
  have BK314 := n0_
  have HB := n1_
  clear n0_ n1_
  replace BK314 := Aside0.mk (blk_drew BK314.out)
  replace HB := Aside0.mk (below_drew1 HB.out)
  refine start_ (n := 30) (S := fun w' => w'.cell? ⟨gb314, 0, none⟩ = some (.int .i64 t308) ∧ w'.cell? ⟨gb314, 1, none⟩ = some (.int .i64 t309) ∧ w'.cell? ⟨gb314, 2, none⟩ = some (.int .i64 t310) ∧ w'.cell? ⟨gb314, 3, none⟩ = some (.int .i64 t311) ∧ w'.cell? ⟨gb314, 4, none⟩ = some (.int .i64 t312) ∧ w'.cell? ⟨gb314, 5, none⟩ = some (.int .i64 t313) ∧ True ∧ True) (ds := []) #[false, false, false, false, false, false, false, false, false, false, false, false, false, false, false, false, false, false, false, false, false, false, false, false, false, false, false, false, false, false] (by kernel_rfl) rfl rfl ⟨(blk_cell BK314.out 0).trans rfl, (blk_cell BK314.out 1).trans rfl, (blk_cell BK314.out 2).trans rfl, (blk_cell BK314.out 3).trans rfl, (blk_cell BK314.out 4).trans rfl, (blk_cell BK314.out 5).trans rfl, trivial, trivial⟩ (fun hHeld => ?_); refine with_tabW impl_Rfc822Text.tab4 impl_Rfc822Text.bits4 (fun HT_ HW_ => ?_)
  generalize w28.drew = w29 at BK314 HB hHeld ⊢
  refine pure_ (i := 1) (N := some 11) (v := ?_) (a' := ?_) #[false, true, false, false, false, false, false, false, false, false, false, false, false, false, false, false, false, false, false, false, false, false, false, false, false, false, false, false, false, false] rfl rfl (any_of HT_.out (by kernel_rfl)) (fun _ _ _ h => h) (Or.inl ⟨by rfl, ?_⟩) ?_ ?_
  rotate_left
  ·intro w'
   go_simp
   with_reducible rfl
  rotate_left
  ·simp only [Act.put, List.setIfInBounds_toArray, List.set_cons_zero, List.set_cons_succ, i64_w, i32_w]
   rfl
  refine pure_ (i := 6) (N := some 16) (v := ?_) (a' := ?_) #[false, true, false, false, false, false, true, false, false, false, false, false, false, false, false, false, false, false, false, false, false, false, false, false, false, false, false, false, false, false] rfl rfl (any_of HT_.out (by kernel_rfl)) (fun _ _ _ h => h) (Or.inl ⟨by rfl, ?_⟩) ?_ ?_
  rotate_left
  ·intro w'
   go_simp
   with_reducible rfl
  rotate_left
  ·simp only [Act.put, List.setIfInBounds_toArray, List.set_cons_zero, List.set_cons_succ, i64_w, i32_w]
   rfl
  refine pure_ (i := 12) (N := some 22) (v := ?_) (a' := ?_) #[false, true, false, false, false, false, true, false, false, false, false, false, true, false, false, false, false, false, false, false, false, false, false, false, false, false, false, false, false, false] rfl rfl (any_of HT_.out (by kernel_rfl)) (fun _ _ _ h => h) (Or.inl ⟨by rfl, ?_⟩) ?_ ?_
  rotate_left
  ·intro w'
   go_simp
   with_reducible rfl
  rotate_left
  ·simp only [Act.put, List.setIfInBounds_toArray, List.set_cons_zero, List.set_cons_succ, i64_w, i32_w]
   rfl
  refine pure_ (i := 19) (N := some 29) (v := ?_) (a' := ?_) #[false, true, false, false, false, false, true, false, false, false, false, false, true, false, false, false, false, false, false, true, false, false, false, false, false, false, false, false, false, false] rfl rfl (any_of HT_.out (by kernel_rfl)) (fun _ _ _ h => h) (Or.inl ⟨by rfl, ?_⟩) ?_ ?_
  rotate_left
  ·intro w'
   go_simp
   with_reducible rfl
  rotate_left
  ·simp only [Act.put, List.setIfInBounds_toArray, List.set_cons_zero, List.set_cons_succ, i64_w, i32_w]
   rfl
  refine take_ (i := 7) (N := some 17) (v := ?_) (a' := ?_) #[false, true, false, false, false, false, true, true, false, false, false, false, true, false, false, false, false, false, false, true, false, false, false, false, false, false, false, false, false, false] rfl rfl (take_ofW HT_.out HW_.out (by kernel_rfl)) (fun _ _ _ h => h) (Or.inl ⟨by rfl, ?_⟩) hHeld ?_ ?_
  rotate_left
  ·rintro w' ⟨s0, s1, s2, s3, s4, s5, s6, s7⟩
   go_simp
   with_reducible rfl
  rotate_left
  ·simp only [Act.put, List.setIfInBounds_toArray, List.set_cons_zero, List.set_cons_succ, i64_w, i32_w]
   rfl
  refine take_ (i := 13) (N := some 23) (v := ?_) (a' := ?_) #[false, true, false, false, false, false, true, true, false, false, false, false, true, true, false, false, false, false, false, true, false, false, false, false, false, false, false, false, false, false] rfl rfl (take_ofW HT_.out HW_.out (by kernel_rfl)) (fun _ _ _ h => h) (Or.inl ⟨by rfl, ?_⟩) hHeld ?_ ?_
  rotate_left
  ·rintro w' ⟨s0, s1, s2, s3, s4, s5, s6, s7⟩
   go_simp
   with_reducible rfl
  rotate_left
  ·simp only [Act.put, List.setIfInBounds_toArray, List.set_cons_zero, List.set_cons_succ, i64_w, i32_w]
   rfl
  refine pure_ (i := 14) (N := some 24) (v := ?_) (a' := ?_) #[false, true, false, false, false, false, true, true, false, false, false, false, true, true, true, false, false, false, false, true, false, false, false, false, false, false, false, false, false, false] rfl rfl (any_of HT_.out (by kernel_rfl)) (fun _ _ _ h => h) (Or.inl ⟨by rfl, ?_⟩) ?_ ?_
  rotate_left
  ·intro w'
   go_simp
   with_reducible rfl
  rotate_left
  ·simp only [Act.put, List.setIfInBounds_toArray, List.set_cons_zero, List.set_cons_succ, i64_w, i32_w]
   rfl
  refine take_ (i := 20) (N := some 30) (v := ?_) (a' := ?_) #[false, true, false, false, false, false, true, true, false, false, false, false, true, true, true, false, false, false, false, true, true, false, false, false, false, false, false, false, false, false] rfl rfl (take_ofW HT_.out HW_.out (by kernel_rfl)) (fun _ _ _ h => h) (Or.inl ⟨by rfl, ?_⟩) hHeld ?_ ?_
  rotate_left
  ·rintro w' ⟨s0, s1, s2, s3, s4, s5, s6, s7⟩
   go_simp
   with_reducible rfl
  rotate_left
  ·simp only [Act.put, List.setIfInBounds_toArray, List.set_cons_zero, List.set_cons_succ, i64_w, i32_w]
   rfl
  refine take_ (i := 24) (N := some 34) (v := ?_) (a' := ?_) #[false, true, false, false, false, false, true, true, false, false, false, false, true, true, true, false, false, false, false, true, true, false, false, false, true, false, false, false, false, false] rfl rfl (take_ofW HT_.out HW_.out (by kernel_rfl)) (fun _ _ _ h => h) (Or.inl ⟨by rfl, ?_⟩) hHeld ?_ ?_
  rotate_left
  ·rintro w' ⟨s0, s1, s2, s3, s4, s5, s6, s7⟩
   go_simp
   with_reducible rfl
  rotate_left
  ·simp only [Act.put, List.setIfInBounds_toArray, List.set_cons_zero, List.set_cons_succ, i64_w, i32_w]
   rfl
  refine one_ (i := 0) (N := some 10) #[true, true, false, false, false, false, true, true, false, false, false, false, true, true, true, false, false, false, false, true, true, false, false, false, true, false, false, false, false, false] rfl rfl (one_of HT_.out (by kernel_rfl)) (by decide) (fun K hK => ?_)
  refine goes_ Tryz.func48 (by kernel_rfl) rfl #[] (by rfl) rfl rfl (by (try simp only [List.map_toArray, List.map_cons, List.map_nil]); first | done | rfl | (simp only [List.length_drop, List.length_take]; rfl)) ?_
  with_reducible refine (impl_weekdays.calls  t315 _ A5.out).mono ?_
  rintro e w30 ⟨v316, rfl, ho0, hb⟩
  have HS6_ := trivial
  have HS7_ := trivial
  refine ⟨_, rfl, ?_⟩
  have HO317 := Aside0.mk (Kd.R_lower ho0 (below_size (by repeat (first | (with_reducible first | exact HB.out | apply ba | apply bn | apply bd | refine below_set ?_ GE314.out) | exact HB.out))))
  replace BK314 := Aside0.mk (blk_below (g := gb314) (o := .cells #[.int .i64 t308, .int .i64 t309, .int .i64 t310, .int .i64 t311, .int .i64 t312, .int .i64 t313] 69 (0, 0)) (by (with_reducible repeat (first | refine blk_drewN ?_ _ | refine blk_drew ?_ | refine blk_alloc ?_ _)); exact BK314.out) hb)
  replace HB := Aside0.mk (below_step (by repeat (first | (with_reducible first | exact HB.out | apply ba | apply bn | apply bd | refine below_set ?_ GE314.out) | exact HB.out)) hb)
  (try clear hb)
  (try clear hb2)
  (try clear hk)
  (try clear hi)
  (try clear ho0)
  refine hK.out _ _ ⟨(blk_cell BK314.out 0).trans rfl, (blk_cell BK314.out 1).trans rfl, (blk_cell BK314.out 2).trans rfl, (blk_cell BK314.out 3).trans rfl, (blk_cell BK314.out 4).trans rfl, (blk_cell BK314.out 5).trans rfl, HS6_, HS7_⟩ (fun hHeld => ?_)
  clear hK K
  refine norm_ (a' := ?_) ?_ ?_
  rotate_left
  ·show Act.put _ (some 10) _ = _
   simp only [Act.put, List.setIfInBounds_toArray, List.set_cons_zero, List.set_cons_succ, i64_w, i32_w]
   rfl
  refine one_ (i := 2) (N := some 12) #[true, true, true, false, false, false, true, true, false, false, false, false, true, true, true, false, false, false, false, true, true, false, false, false, true, false, false, false, false, false] rfl rfl (one_of HT_.out (by kernel_rfl)) (by decide) (fun K hK => ?_)
  refine goes_ Tryz.func49 (by kernel_rfl) rfl #[.int .i64 a0] (by rfl) rfl rfl (by (try simp only [List.map_toArray, List.map_cons, List.map_nil]); first | done | rfl | (simp only [List.length_drop, List.length_take]; rfl)) ?_
  with_reducible refine (impl_weekday.calls a0 t318 _ A6.out).mono ?_
  rintro e w' ⟨rfl, ⟨nd, rfl⟩⟩
  refine ⟨_, rfl, ?_⟩
  obtain ⟨Ao31, co31, eo31⟩ := Kd.R_slice HO317.out
  (first | subst eo31 | (injection eo31 with f1_ f2_ f3_; have f4_ := f1_.symm; have f5_ := f3_.symm; clear f1_ f2_ f3_; subst f4_; subst f5_))
  have p319 : 0 ≤ (t318 : Int) := of_decide_eq_true (by first | (with_reducible assumption) | assumption)
  have q319 : t318 < (t315.length : Int) := of_decide_eq_true (by first | (with_reducible assumption) | assumption)
  obtain ⟨ad319, e319, hx319_0⟩ := Kd.at_string (Kd.R_reads' HO317.out).2.2 t318 p319 q319
  cases e319
  replace p319 := eq_true p319
  replace q319 := eq_true q319
  refine hK.out _ _ ⟨(blk_cell BK314.out 0).trans rfl, (blk_cell BK314.out 1).trans rfl, (blk_cell BK314.out 2).trans rfl, (blk_cell BK314.out 3).trans rfl, (blk_cell BK314.out 4).trans rfl, (blk_cell BK314.out 5).trans rfl, hHeld.2.2.2.2.2.2.1, hHeld.2.2.2.2.2.2.2⟩ (fun hHeld => ?_)
  refine strong_ (fun w' => w'.cell? ⟨gb314, 0, none⟩ = some (.int .i64 t308) ∧ w'.cell? ⟨gb314, 1, none⟩ = some (.int .i64 t309) ∧ w'.cell? ⟨gb314, 2, none⟩ = some (.int .i64 t310) ∧ w'.cell? ⟨gb314, 3, none⟩ = some (.int .i64 t311) ∧ w'.cell? ⟨gb314, 4, none⟩ = some (.int .i64 t312) ∧ w'.cell? ⟨gb314, 5, none⟩ = some (.int .i64 t313) ∧ w'.cell? (ad319.add (t318).toNat) = some (.string (rdOf ByteArray.empty t315 t318)) ∧ True) (fun w' h_ => ⟨h_.1, h_.2.1, h_.2.2.1, h_.2.2.2.1, h_.2.2.2.2.1, h_.2.2.2.2.2.1, trivial, trivial⟩) ⟨hHeld.1, hHeld.2.1, hHeld.2.2.1, hHeld.2.2.2.1, hHeld.2.2.2.2.1, hHeld.2.2.2.2.2.1, by first | exact hx319_0 | (rw [World.cell?_drewN]; exact hx319_0) | simpa using hx319_0, trivial⟩ (fun hHeld => ?_)
  clear hK K
  refine norm_ (a' := ?_) ?_ ?_
  rotate_left
  ·show Act.put _ (some 12) _ = _
   simp only [Act.put, List.setIfInBounds_toArray, List.set_cons_zero, List.set_cons_succ, i64_w, i32_w]
   rfl
  refine pure_ (i := 3) (N := some 13) (v := ?_) (a' := ?_) #[true, true, true, true, false, false, true, true, false, false, false, false, true, true, true, false, false, false, false, true, true, false, false, false, true, false, false, false, false, false] rfl rfl (any_of HT_.out (by kernel_rfl)) (fun _ _ _ h => h) (Or.inl ⟨by rfl, ?_⟩) ?_ ?_
  rotate_left
  ·intro w'
   go_simp
   with_reducible rfl
  rotate_left
  ·simp only [Act.put, List.setIfInBounds_toArray, List.set_cons_zero, List.set_cons_succ, i64_w, i32_w]
   rfl
  refine take_ (i := 4) (N := some 14) (v := ?_) (a' := ?_) #[true, true, true, true, true, false, true, true, false, false, false, false, true, true, true, false, false, false, false, true, true, false, false, false, true, false, false, false, false, false] rfl rfl (take_ofW HT_.out HW_.out (by kernel_rfl)) (fun _ _ _ h => h) (Or.inl ⟨by rfl, ?_⟩) hHeld ?_ ?_
  rotate_left
  ·rintro w' ⟨s0, s1, s2, s3, s4, s5, s6, s7⟩
   go_simp
   with_reducible rfl
  rotate_left
  ·simp only [Act.put, List.setIfInBounds_toArray, List.set_cons_zero, List.set_cons_succ, i64_w, i32_w]
   rfl
  refine pure_ (i := 5) (N := some 15) (v := ?_) (a' := ?_) #[true, true, true, true, true, true, true, true, false, false, false, false, true, true, true, false, false, false, false, true, true, false, false, false, true, false, false, false, false, false] rfl rfl (any_of HT_.out (by kernel_rfl)) (fun _ _ _ h => h) (Or.inl ⟨by rfl, ?_⟩) ?_ ?_
  rotate_left
  ·intro w'
   go_simp
   with_reducible rfl
  rotate_left
  ·simp only [Act.put, List.setIfInBounds_toArray, List.set_cons_zero, List.set_cons_succ, i64_w, i32_w]
   rfl
  refine one_ (i := 8) (N := some 18) #[true, true, true, true, true, true, true, true, true, false, false, false, true, true, true, false, false, false, false, true, true, false, false, false, true, false, false, false, false, false] rfl rfl (one_of HT_.out (by kernel_rfl)) (by decide) (fun K hK => ?_)
  refine goes_ Tryz.func50 (by kernel_rfl) rfl #[.int .i64 t310] (by rfl) rfl rfl (by (try simp only [List.map_toArray, List.map_cons, List.map_nil]); first | done | rfl | (simp only [List.length_drop, List.length_take]; rfl)) ?_
  with_reducible refine (impl_two.calls t310 t320 _ A10.out).mono ?_
  rintro e w32 ⟨rfl, hb⟩
  have HS6_ := (hb.cell (World.block_lt_of_cell? _ _ (hHeld.2.2.2.2.2.2.1))).trans (hHeld.2.2.2.2.2.2.1)
  have HS7_ := trivial
  refine ⟨_, rfl, ?_⟩
  replace HO317 := Aside0.mk (Kd.R_below (by (with_reducible repeat (first | apply Kd.R_alloc | apply Kd.R_drewN | apply Kd.R_drew)); exact HO317.out) hb)
  replace BK314 := Aside0.mk (blk_below (g := gb314) (o := .cells #[.int .i64 t308, .int .i64 t309, .int .i64 t310, .int .i64 t311, .int .i64 t312, .int .i64 t313] 69 (0, 0)) (by (with_reducible repeat (first | refine blk_drewN ?_ _ | refine blk_drew ?_ | refine blk_alloc ?_ _)); exact BK314.out) hb)
  replace HB := Aside0.mk (below_step (by repeat (first | (with_reducible first | exact HB.out | apply ba | apply bn | apply bd | refine below_set ?_ GE314.out) | exact HB.out)) hb)
  (try clear hb)
  (try clear hb2)
  (try clear hk)
  (try clear hi)
  refine hK.out _ _ ⟨(blk_cell BK314.out 0).trans rfl, (blk_cell BK314.out 1).trans rfl, (blk_cell BK314.out 2).trans rfl, (blk_cell BK314.out 3).trans rfl, (blk_cell BK314.out 4).trans rfl, (blk_cell BK314.out 5).trans rfl, HS6_, HS7_⟩ (fun hHeld => ?_)
  clear hK K
  refine norm_ (a' := ?_) ?_ ?_
  rotate_left
  ·show Act.put _ (some 18) _ = _
   simp only [Act.put, List.setIfInBounds_toArray, List.set_cons_zero, List.set_cons_succ, i64_w, i32_w]
   rfl
  refine pure_ (i := 9) (N := some 19) (v := ?_) (a' := ?_) #[true, true, true, true, true, true, true, true, true, true, false, false, true, true, true, false, false, false, false, true, true, false, false, false, true, false, false, false, false, false] rfl rfl (any_of HT_.out (by kernel_rfl)) (fun _ _ _ h => h) (Or.inl ⟨by rfl, ?_⟩) ?_ ?_
  rotate_left
  ·intro w'
   go_simp
   with_reducible rfl
  rotate_left
  ·simp only [Act.put, List.setIfInBounds_toArray, List.set_cons_zero, List.set_cons_succ, i64_w, i32_w]
   rfl
  refine pure_ (i := 10) (N := some 20) (v := ?_) (a' := ?_) #[true, true, true, true, true, true, true, true, true, true, true, false, true, true, true, false, false, false, false, true, true, false, false, false, true, false, false, false, false, false] rfl rfl (any_of HT_.out (by kernel_rfl)) (fun _ _ _ h => h) (Or.inl ⟨by rfl, ?_⟩) ?_ ?_
  rotate_left
  ·intro w'
   go_simp
   with_reducible rfl
  rotate_left
  ·simp only [Act.put, List.setIfInBounds_toArray, List.set_cons_zero, List.set_cons_succ, i64_w, i32_w]
   rfl
  refine one_ (i := 11) (N := some 21) #[true, true, true, true, true, true, true, true, true, true, true, true, true, true, true, false, false, false, false, true, true, false, false, false, true, false, false, false, false, false] rfl rfl (one_of HT_.out (by kernel_rfl)) (by decide) (fun K hK => ?_)
  refine goes_ Tryz.func51 (by kernel_rfl) rfl #[] (by rfl) rfl rfl (by (try simp only [List.map_toArray, List.map_cons, List.map_nil]); first | done | rfl | (simp only [List.length_drop, List.length_take]; rfl)) ?_
  with_reducible refine (impl_months.calls  t321 _ A13.out).mono ?_
  rintro e w33 ⟨v322, rfl, ho0, hb⟩
  have HS6_ := (hb.cell (World.block_lt_of_cell? _ _ (hHeld.2.2.2.2.2.2.1))).trans (hHeld.2.2.2.2.2.2.1)
  have HS7_ := trivial
  refine ⟨_, rfl, ?_⟩
  have HO323 := Aside0.mk (Kd.R_lower (Kd.R_new' ho0 (Kd.R_lt (by (with_reducible repeat (first | apply Kd.R_alloc | apply Kd.R_drewN | apply Kd.R_drew)); exact HO317.out))) (below_size (by repeat (first | (with_reducible first | exact HB.out | apply ba | apply bn | apply bd | refine below_set ?_ GE314.out) | exact HB.out))))
  replace HO317 := Aside0.mk (Kd.R_elder' (by (with_reducible repeat (first | apply Kd.R_alloc | apply Kd.R_drewN | apply Kd.R_drew)); exact HO317.out) (Kd.R_base ho0) hb)
  replace BK314 := Aside0.mk (blk_below (g := gb314) (o := .cells #[.int .i64 t308, .int .i64 t309, .int .i64 t310, .int .i64 t311, .int .i64 t312, .int .i64 t313] 69 (0, 0)) (by (with_reducible repeat (first | refine blk_drewN ?_ _ | refine blk_drew ?_ | refine blk_alloc ?_ _)); exact BK314.out) hb)
  replace HB := Aside0.mk (below_step (by repeat (first | (with_reducible first | exact HB.out | apply ba | apply bn | apply bd | refine below_set ?_ GE314.out) | exact HB.out)) hb)
  (try clear hb)
  (try clear hb2)
  (try clear hk)
  (try clear hi)
  (try clear ho0)
  obtain ⟨Ao34, co34, eo34⟩ := Kd.R_slice HO323.out
  (first | subst eo34 | (injection eo34 with f1_ f2_ f3_; have f4_ := f1_.symm; have f5_ := f3_.symm; clear f1_ f2_ f3_; subst f4_; subst f5_))
  have p324 : 0 ≤ ((ji14) : Int) := of_decide_eq_true (by first | (with_reducible assumption) | assumption)
  have q324 : (ji14) < (t321.length : Int) := of_decide_eq_true (by first | (with_reducible assumption) | assumption)
  obtain ⟨ad324, e324, hx324_0⟩ := Kd.at_string (Kd.R_reads' HO323.out).2.2 (ji14) p324 q324
  cases e324
  replace p324 := eq_true p324
  replace q324 := eq_true q324
  refine hK.out _ _ ⟨(blk_cell BK314.out 0).trans rfl, (blk_cell BK314.out 1).trans rfl, (blk_cell BK314.out 2).trans rfl, (blk_cell BK314.out 3).trans rfl, (blk_cell BK314.out 4).trans rfl, (blk_cell BK314.out 5).trans rfl, HS6_, HS7_⟩ (fun hHeld => ?_)
  refine strong_ (fun w' => w'.cell? ⟨gb314, 0, none⟩ = some (.int .i64 t308) ∧ w'.cell? ⟨gb314, 1, none⟩ = some (.int .i64 t309) ∧ w'.cell? ⟨gb314, 2, none⟩ = some (.int .i64 t310) ∧ w'.cell? ⟨gb314, 3, none⟩ = some (.int .i64 t311) ∧ w'.cell? ⟨gb314, 4, none⟩ = some (.int .i64 t312) ∧ w'.cell? ⟨gb314, 5, none⟩ = some (.int .i64 t313) ∧ w'.cell? (ad319.add (t318).toNat) = some (.string (rdOf ByteArray.empty t315 t318)) ∧ w'.cell? (ad324.add ((ji14)).toNat) = some (.string (rdOf ByteArray.empty t321 (ji14)))) (fun w' h_ => ⟨h_.1, h_.2.1, h_.2.2.1, h_.2.2.2.1, h_.2.2.2.2.1, h_.2.2.2.2.2.1, h_.2.2.2.2.2.2.1, trivial⟩) ⟨hHeld.1, hHeld.2.1, hHeld.2.2.1, hHeld.2.2.2.1, hHeld.2.2.2.2.1, hHeld.2.2.2.2.2.1, hHeld.2.2.2.2.2.2.1, by first | exact hx324_0 | (rw [World.cell?_drewN]; exact hx324_0) | simpa using hx324_0⟩ (fun hHeld => ?_)
  clear hK K
  refine norm_ (a' := ?_) ?_ ?_
  rotate_left
  ·show Act.put _ (some 21) _ = _
   simp only [Act.put, List.setIfInBounds_toArray, List.set_cons_zero, List.set_cons_succ, i64_w, i32_w]
   rfl
  refine pure_ (i := 15) (N := some 25) (v := ?_) (a' := ?_) #[true, true, true, true, true, true, true, true, true, true, true, true, true, true, true, true, false, false, false, true, true, false, false, false, true, false, false, false, false, false] rfl rfl (any_of HT_.out (by kernel_rfl)) (fun _ _ _ h => h) (Or.inl ⟨by rfl, ?_⟩) ?_ ?_
  rotate_left
  ·intro w'
   go_simp
   with_reducible rfl
  rotate_left
  ·simp only [Act.put, List.setIfInBounds_toArray, List.set_cons_zero, List.set_cons_succ, i64_w, i32_w]
   rfl
  refine take_ (i := 16) (N := some 26) (v := ?_) (a' := ?_) #[true, true, true, true, true, true, true, true, true, true, true, true, true, true, true, true, true, false, false, true, true, false, false, false, true, false, false, false, false, false] rfl rfl (take_ofW HT_.out HW_.out (by kernel_rfl)) (fun _ _ _ h => h) (Or.inl ⟨by rfl, ?_⟩) hHeld ?_ ?_
  rotate_left
  ·rintro w' ⟨s0, s1, s2, s3, s4, s5, s6, s7⟩
   go_simp
   with_reducible rfl
  rotate_left
  ·simp only [Act.put, List.setIfInBounds_toArray, List.set_cons_zero, List.set_cons_succ, i64_w, i32_w]
   rfl
  refine pure_ (i := 17) (N := some 27) (v := ?_) (a' := ?_) #[true, true, true, true, true, true, true, true, true, true, true, true, true, true, true, true, true, true, false, true, true, false, false, false, true, false, false, false, false, false] rfl rfl (any_of HT_.out (by kernel_rfl)) (fun _ _ _ h => h) (Or.inl ⟨by rfl, ?_⟩) ?_ ?_
  rotate_left
  ·intro w'
   go_simp
   with_reducible rfl
  rotate_left
  ·simp only [Act.put, List.setIfInBounds_toArray, List.set_cons_zero, List.set_cons_succ, i64_w, i32_w]
   rfl
  refine pure_ (i := 18) (N := some 28) (v := ?_) (a' := ?_) #[true, true, true, true, true, true, true, true, true, true, true, true, true, true, true, true, true, true, true, true, true, false, false, false, true, false, false, false, false, false] rfl rfl (any_of HT_.out (by kernel_rfl)) (fun _ _ _ h => h) (Or.inl ⟨by rfl, ?_⟩) ?_ ?_
  rotate_left
  ·intro w'
   go_simp
   with_reducible rfl
  rotate_left
  ·simp only [Act.put, List.setIfInBounds_toArray, List.set_cons_zero, List.set_cons_succ, i64_w, i32_w]
   rfl
  refine one_ (i := 21) (N := some 31) #[true, true, true, true, true, true, true, true, true, true, true, true, true, true, true, true, true, true, true, true, true, true, false, false, true, false, false, false, false, false] rfl rfl (one_of HT_.out (by kernel_rfl)) (by decide) (fun K hK => ?_)
  refine goes_ Tryz.func52 (by kernel_rfl) rfl #[.int .i64 t308] (by rfl) rfl rfl (by (try simp only [List.map_toArray, List.map_cons, List.map_nil]); first | done | rfl | (simp only [List.length_drop, List.length_take]; rfl)) ?_
  with_reducible refine (strconv_Itoa.calls t308 t325 _ A19.out (Glob.of_below HG.out (by repeat (first | (with_reducible first | exact HB.out | apply ba | apply bn | apply bd | refine below_set ?_ GE314.out) | exact HB.out)))).mono ?_
  rintro e w35 ⟨rfl, hb⟩
  have HS6_ := (hb.cell (World.block_lt_of_cell? _ _ (hHeld.2.2.2.2.2.2.1))).trans (hHeld.2.2.2.2.2.2.1)
  have HS7_ := (hb.cell (World.block_lt_of_cell? _ _ (hHeld.2.2.2.2.2.2.2))).trans (hHeld.2.2.2.2.2.2.2)
  refine ⟨_, rfl, ?_⟩
  replace HO317 := Aside0.mk (Kd.R_below (by (with_reducible repeat (first | apply Kd.R_alloc | apply Kd.R_drewN | apply Kd.R_drew)); exact HO317.out) hb)
  replace HO323 := Aside0.mk (Kd.R_below (by (with_reducible repeat (first | apply Kd.R_alloc | apply Kd.R_drewN | apply Kd.R_drew)); exact HO323.out) hb)
  replace BK314 := Aside0.mk (blk_below (g := gb314) (o := .cells #[.int .i64 t308, .int .i64 t309, .int .i64 t310, .int .i64 t311, .int .i64 t312, .int .i64 t313] 69 (0, 0)) (by (with_reducible repeat (first | refine blk_drewN ?_ _ | refine blk_drew ?_ | refine blk_alloc ?_ _)); exact BK314.out) hb)
  replace HB := Aside0.mk (below_step (by repeat (first | (with_reducible first | exact HB.out | apply ba | apply bn | apply bd | refine below_set ?_ GE314.out) | exact HB.out)) hb)
  (try clear hb)
  (try clear hb2)
  (try clear hk)
  (try clear hi)
  refine hK.out _ _ ⟨(blk_cell BK314.out 0).trans rfl, (blk_cell BK314.out 1).trans rfl, (blk_cell BK314.out 2).trans rfl, (blk_cell BK314.out 3).trans rfl, (blk_cell BK314.out 4).trans rfl, (blk_cell BK314.out 5).trans rfl, HS6_, HS7_⟩ (fun hHeld => ?_)
  clear hK K
  refine norm_ (a' := ?_) ?_ ?_
  rotate_left
  ·show Act.put _ (some 31) _ = _
   simp only [Act.put, List.setIfInBounds_toArray, List.set_cons_zero, List.set_cons_succ, i64_w, i32_w]
   rfl
  refine pure_ (i := 22) (N := some 32) (v := ?_) (a' := ?_) #[true, true, true, true, true, true, true, true, true, true, true, true, true, true, true, true, true, true, true, true, true, true, true, false, true, false, false, false, false, false] rfl rfl (any_of HT_.out (by kernel_rfl)) (fun _ _ _ h => h) (Or.inl ⟨by rfl, ?_⟩) ?_ ?_
  rotate_left
  ·intro w'
   go_simp
   with_reducible rfl
  rotate_left
  ·simp only [Act.put, List.setIfInBounds_toArray, List.set_cons_zero, List.set_cons_succ, i64_w, i32_w]
   rfl
  refine pure_ (i := 23) (N := some 33) (v := ?_) (a' := ?_) #[true, true, true, true, true, true, true, true, true, true, true, true, true, true, true, true, true, true, true, true, true, true, true, true, true, false, false, false, false, false] rfl rfl (any_of HT_.out (by kernel_rfl)) (fun _ _ _ h => h) (Or.inl ⟨by rfl, ?_⟩) ?_ ?_
  rotate_left
  ·intro w'
   go_simp
   with_reducible rfl
  rotate_left
  ·simp only [Act.put, List.setIfInBounds_toArray, List.set_cons_zero, List.set_cons_succ, i64_w, i32_w]
   rfl
  refine one_ (i := 25) (N := some 35) #[true, true, true, true, true, true, true, true, true, true, true, true, true, true, true, true, true, true, true, true, true, true, true, true, true, true, false, false, false, false] rfl rfl (one_of HT_.out (by kernel_rfl)) (by decide) (fun K hK => ?_)
  refine goes_ Tryz.func53 (by kernel_rfl) rfl #[.agg #[.int .i64 t308, .int .i64 t309, .int .i64 t310, .int .i64 t311, .int .i64 t312, .int .i64 t313]] (by rfl) rfl rfl (by (try simp only [List.map_toArray, List.map_cons, List.map_nil]); first | done | rfl | (simp only [List.length_drop, List.length_take]; rfl)) ?_
  with_reducible refine (impl_Civil_clock.calls t308 t309 t310 t311 t312 t313 t326 _ A22.out).mono ?_
  rintro e w36 ⟨rfl, hb⟩
  have HS6_ := (hb.cell (World.block_lt_of_cell? _ _ (hHeld.2.2.2.2.2.2.1))).trans (hHeld.2.2.2.2.2.2.1)
  have HS7_ := (hb.cell (World.block_lt_of_cell? _ _ (hHeld.2.2.2.2.2.2.2))).trans (hHeld.2.2.2.2.2.2.2)
  refine ⟨_, rfl, ?_⟩
  replace HO317 := Aside0.mk (Kd.R_below (by (with_reducible repeat (first | apply Kd.R_alloc | apply Kd.R_drewN | apply Kd.R_drew)); exact HO317.out) hb)
  replace HO323 := Aside0.mk (Kd.R_below (by (with_reducible repeat (first | apply Kd.R_alloc | apply Kd.R_drewN | apply Kd.R_drew)); exact HO323.out) hb)
  replace BK314 := Aside0.mk (blk_below (g := gb314) (o := .cells #[.int .i64 t308, .int .i64 t309, .int .i64 t310, .int .i64 t311, .int .i64 t312, .int .i64 t313] 69 (0, 0)) (by (with_reducible repeat (first | refine blk_drewN ?_ _ | refine blk_drew ?_ | refine blk_alloc ?_ _)); exact BK314.out) hb)
  replace HB := Aside0.mk (below_step (by repeat (first | (with_reducible first | exact HB.out | apply ba | apply bn | apply bd | refine below_set ?_ GE314.out) | exact HB.out)) hb)
  (try clear hb)
  (try clear hb2)
  (try clear hk)
  (try clear hi)
  refine hK.out _ _ ⟨(blk_cell BK314.out 0).trans rfl, (blk_cell BK314.out 1).trans rfl, (blk_cell BK314.out 2).trans rfl, (blk_cell BK314.out 3).trans rfl, (blk_cell BK314.out 4).trans rfl, (blk_cell BK314.out 5).trans rfl, HS6_, HS7_⟩ (fun hHeld => ?_)
  clear hK K
  refine norm_ (a' := ?_) ?_ ?_
  rotate_left
  ·show Act.put _ (some 35) _ = _
   simp only [Act.put, List.setIfInBounds_toArray, List.set_cons_zero, List.set_cons_succ, i64_w, i32_w]
   rfl
  refine pure_ (i := 26) (N := some 36) (v := ?_) (a' := ?_) #[true, true, true, true, true, true, true, true, true, true, true, true, true, true, true, true, true, true, true, true, true, true, true, true, true, true, true, false, false, false] rfl rfl (any_of HT_.out (by kernel_rfl)) (fun _ _ _ h => h) (Or.inl ⟨by rfl, ?_⟩) ?_ ?_
  rotate_left
  ·intro w'
   go_simp
   with_reducible rfl
  rotate_left
  ·simp only [Act.put, List.setIfInBounds_toArray, List.set_cons_zero, List.set_cons_succ, i64_w, i32_w]
   rfl
  refine pure_ (i := 27) (N := some 37) (v := ?_) (a' := ?_) #[true, true, true, true, true, true, true, true, true, true, true, true, true, true, true, true, true, true, true, true, true, true, true, true, true, true, true, true, false, false] rfl rfl (any_of HT_.out (by kernel_rfl)) (fun _ _ _ h => h) (Or.inl ⟨by rfl, ?_⟩) ?_ ?_
  rotate_left
  ·intro w'
   go_simp
   with_reducible rfl
  rotate_left
  ·simp only [Act.put, List.setIfInBounds_toArray, List.set_cons_zero, List.set_cons_succ, i64_w, i32_w]
   rfl
  refine pure_ (i := 28) (N := some 2) (v := ?_) (a' := ?_) #[true, true, true, true, true, true, true, true, true, true, true, true, true, true, true, true, true, true, true, true, true, true, true, true, true, true, true, true, true, false] rfl rfl (any_of HT_.out (by kernel_rfl)) (fun _ _ _ h => h) (Or.inl ⟨by rfl, ?_⟩) ?_ ?_
  rotate_left
  ·intro w'
   go_simp
   with_reducible rfl
  rotate_left
  ·simp only [Act.put, List.setIfInBounds_toArray, List.set_cons_zero, List.set_cons_succ, i64_w, i32_w]
   rfl
  refine pure_ (i := 29) (N := some 3) (v := ?_) (a' := ?_) #[true, true, true, true, true, true, true, true, true, true, true, true, true, true, true, true, true, true, true, true, true, true, true, true, true, true, true, true, true, true] rfl rfl (any_of HT_.out (by kernel_rfl)) (fun _ _ _ h => h) (Or.inl ⟨by rfl, ?_⟩) ?_ ?_
  rotate_left
  ·intro w'
   go_simp
   with_reducible rfl
  rotate_left
  ·simp only [Act.put, List.setIfInBounds_toArray, List.set_cons_zero, List.set_cons_succ, i64_w, i32_w]
   rfl
  refine done_ (done_of HT_.out (by kernel_rfl)) ?_
  try go_wp2
  go_ret2
  exact ⟨by first | rfl | (simp [errW_none, errW_some] <;> rfl) | (simp only [← hji14]; first | rfl | (simp [errW_none, errW_some] <;> rfl)) | (simp [*, errW_none, errW_some] <;> rfl), by repeat (first | (with_reducible first | exact HB.out | apply ba | apply bn | apply bd | refine below_set ?_ GE314.out) | exact HB.out)⟩
 ·replace c3 := Bool.eq_false_iff.mpr c3
  subst c3
  have H1 : (some ((⟨#[]⟩ : ByteArray), 4)) = some (r1, r2) := by rw [if_neg (show ¬ (false = true) by decide)] at H; exact H
  clear H
  have H := H1
  clear H1
  simp only [Option.some.injEq, Prod.mk.injEq] at H
  obtain ⟨rfl, rfl⟩ := H
  go_enter Tryz.func32, Tryz.ntmps32
  go_wp2_with (first | ((with_reducible refine gate_callee (f := 46) rfl ?_); refine goesL_ (some 6) rfl rfl Tryz.func46 (by kernel_rfl) rfl #[.int .i64 a0] rfl (by (try simp only [List.map_toArray, List.map_cons, List.map_nil]); first | done | rfl | (simp only [List.length_drop, List.length_take]; rfl)) ?_; (with_reducible refine (impl_isStamp.calls a0 false _ A2.out).mono ?_); rintro e w' ⟨rfl, ⟨nd, rfl⟩⟩; refine ⟨_, rfl, ?_⟩))
  go_ret2
  exact ⟨by first | rfl | (simp [*] <;> rfl), by repeat (first | (with_reducible first | exact HB.out | apply ba | apply bn | apply bd) | exact HB.out)⟩

end Go.Proofs.YteknchhlineciaaGreatDoor.QFnExactFeedText
