/- Printed by a program of this session's own (wip/myprint.py): the functions that FnExactFeedText reaches as plain Lean functions, and that Go's calls do what they say. Conditions: as each theorem states. -/
import Derived.Test.YteknchhlineciaaGreatDoorQFnExactFeedTextx0
import Derived.Test.YteknchhlineciaaGreatDoorQFnExactFeedTextx8
import Derived.Test.YteknchhlineciaaGreatDoorQFnExactFeedTextx11
namespace Go.Proofs.YteknchhlineciaaGreatDoor.QFnExactFeedText
open Go.RowKit Go.Proofs.YteknchhlineciaaGreatDoorW.PrintWords Go.Proofs.YteknchhlineciaaGreatDoorW.PrintLast Go.Proofs.YteknchhlineciaaGreatDoorW.PrintMore
attribute [local go_sem] max2_int min2_int max_two min_two max_three min_three max_four min_four   -- for this text's walks alone
set_option linter.unusedVariables false
set_option linter.unusedSimpArgs false

/-! ### impl_atomEntry: function 15 -/
def impl_atomEntry.f (k : Nat) (a0_0 : ByteArray) (a0_1 : ByteArray) (a0_2 : ByteArray) (a0_3 : ByteArray) (a0_4 : Int) (a0_5 : ByteArray) : Option (ByteArray) := (impl_Rfc3339Text.f k a0_4).bind fun bt349 => ((impl_element.f (⟨#[105, 100]⟩ : ByteArray) a0_0).bind fun t351 => (if 7 + t351.size ≤ 9223372036854775807 then ((impl_element.f (⟨#[116, 105, 116, 108, 101]⟩ : ByteArray) a0_1).bind fun t352 => (if ((⟨#[60, 101, 110, 116, 114, 121, 62]⟩ : ByteArray) ++ t351).size + t352.size ≤ 9223372036854775807 then (if (((⟨#[60, 101, 110, 116, 114, 121, 62]⟩ : ByteArray) ++ t351) ++ t352).size + 12 ≤ 9223372036854775807 then ((impl_escapeXml.f a0_2).bind fun t353 => (if ((((⟨#[60, 101, 110, 116, 114, 121, 62]⟩ : ByteArray) ++ t351) ++ t352) ++ (⟨#[60, 108, 105, 110, 107, 32, 104, 114, 101, 102, 61, 34]⟩ : ByteArray)).size + t353.size ≤ 9223372036854775807 then (if (((((⟨#[60, 101, 110, 116, 114, 121, 62]⟩ : ByteArray) ++ t351) ++ t352) ++ (⟨#[60, 108, 105, 110, 107, 32, 104, 114, 101, 102, 61, 34]⟩ : ByteArray)) ++ t353).size + 11 ≤ 9223372036854775807 then ((impl_element.f (⟨#[110, 97, 109, 101]⟩ : ByteArray) a0_3).bind fun t354 => (if ((((((⟨#[60, 101, 110, 116, 114, 121, 62]⟩ : ByteArray) ++ t351) ++ t352) ++ (⟨#[60, 108, 105, 110, 107, 32, 104, 114, 101, 102, 61, 34]⟩ : ByteArray)) ++ t353) ++ (⟨#[34, 47, 62, 60, 97, 117, 116, 104, 111, 114, 62]⟩ : ByteArray)).size + t354.size ≤ 9223372036854775807 then (if (((((((⟨#[60, 101, 110, 116, 114, 121, 62]⟩ : ByteArray) ++ t351) ++ t352) ++ (⟨#[60, 108, 105, 110, 107, 32, 104, 114, 101, 102, 61, 34]⟩ : ByteArray)) ++ t353) ++ (⟨#[34, 47, 62, 60, 97, 117, 116, 104, 111, 114, 62]⟩ : ByteArray)) ++ t354).size + 9 ≤ 9223372036854775807 then ((impl_element.f (⟨#[117, 112, 100, 97, 116, 101, 100]⟩ : ByteArray) bt349.1).bind fun t355 => (if ((((((((⟨#[60, 101, 110, 116, 114, 121, 62]⟩ : ByteArray) ++ t351) ++ t352) ++ (⟨#[60, 108, 105, 110, 107, 32, 104, 114, 101, 102, 61, 34]⟩ : ByteArray)) ++ t353) ++ (⟨#[34, 47, 62, 60, 97, 117, 116, 104, 111, 114, 62]⟩ : ByteArray)) ++ t354) ++ (⟨#[60, 47, 97, 117, 116, 104, 111, 114, 62]⟩ : ByteArray)).size + t355.size ≤ 9223372036854775807 then ((impl_element.f (⟨#[99, 111, 110, 116, 101, 110, 116]⟩ : ByteArray) a0_5).bind fun t356 => (if (((((((((⟨#[60, 101, 110, 116, 114, 121, 62]⟩ : ByteArray) ++ t351) ++ t352) ++ (⟨#[60, 108, 105, 110, 107, 32, 104, 114, 101, 102, 61, 34]⟩ : ByteArray)) ++ t353) ++ (⟨#[34, 47, 62, 60, 97, 117, 116, 104, 111, 114, 62]⟩ : ByteArray)) ++ t354) ++ (⟨#[60, 47, 97, 117, 116, 104, 111, 114, 62]⟩ : ByteArray)) ++ t355).size + t356.size ≤ 9223372036854775807 then (if ((((((((((⟨#[60, 101, 110, 116, 114, 121, 62]⟩ : ByteArray) ++ t351) ++ t352) ++ (⟨#[60, 108, 105, 110, 107, 32, 104, 114, 101, 102, 61, 34]⟩ : ByteArray)) ++ t353) ++ (⟨#[34, 47, 62, 60, 97, 117, 116, 104, 111, 114, 62]⟩ : ByteArray)) ++ t354) ++ (⟨#[60, 47, 97, 117, 116, 104, 111, 114, 62]⟩ : ByteArray)) ++ t355) ++ t356).size + 8 ≤ 9223372036854775807 then (some (((((((((((⟨#[60, 101, 110, 116, 114, 121, 62]⟩ : ByteArray) ++ t351) ++ t352) ++ (⟨#[60, 108, 105, 110, 107, 32, 104, 114, 101, 102, 61, 34]⟩ : ByteArray)) ++ t353) ++ (⟨#[34, 47, 62, 60, 97, 117, 116, 104, 111, 114, 62]⟩ : ByteArray)) ++ t354) ++ (⟨#[60, 47, 97, 117, 116, 104, 111, 114, 62]⟩ : ByteArray)) ++ t355) ++ t356) ++ (⟨#[60, 47, 101, 110, 116, 114, 121, 62]⟩ : ByteArray))) else (none)) else (none))) else (none))) else (none)) else (none))) else (none)) else (none))) else (none)) else (none))) else (none)))
theorem impl_atomEntry.mono : ∀ a0 a1 a2 a3 a4 a5 k, LeO (impl_atomEntry.f k a0 a1 a2 a3 a4 a5) (impl_atomEntry.f (k + 1) a0 a1 a2 a3 a4 a5) := by
 intro a0 a1 a2 a3 a4 a5 k
 unfold impl_atomEntry.f
 repeat' first
   | (with_reducible exact impl_Rfc3339Text.mono _ _)
   | (with_reducible exact LeO.refl _)
   | (with_reducible exact LeO.none _)
   | (with_reducible refine LeO.ite ?_ ?_)
   | (with_reducible refine LeO.bind ?_ (fun _ => ?_))
   | exact impl_Rfc3339Text.mono _ _
   | exact LeO.none _
   | refine LeO.ite ?_ ?_
   | refine LeO.bind ?_ (fun _ => ?_)
def impl_atomEntry.T2 : Bool × List (List Nat × List Nat) := (true, [([], []), ([0], [0]), ([1], [1]), ([2], [2]), ([], []), ([4], [4]), ([5, 2], [5]), ([3, 6], [3, 6]), ([7], [7]), ([], []), ([9], [9]), ([10, 6], [10]), ([8, 11], [8, 11]), ([12], [12]), ([], []), ([14], [14]), ([15, 11], [15]), ([13, 16], [13, 16]), ([17], [17]), ([], []), ([19, 16], [19]), ([18, 20], [18, 20]), ([], []), ([22], [22]), ([23, 20], [23]), ([21, 24], [21, 24]), ([25], [25]), ([26, 24, 0, 1, 2, 3, 4, 5, 6, 7, 8, 9, 10, 11, 12, 13, 14, 15, 16, 17, 18, 19, 20, 21, 22, 23, 24, 25, 26], [26])])
def impl_atomEntry.B2 : List Nat := [0, 1, 3, 7, 0, 16, 55, 127, 255, 0, 512, 1655, 4095, 8191, 0, 16384, 52855, 131071, 262143, 0, 642679, 2097151, 0, 4194304, 14274167, 33554431, 67108863, 134217727]
theorem impl_atomEntry.tab2 : rtab .any (opsOf Tryz.f15 2) = impl_atomEntry.T2 := by kernel_rfl
theorem impl_atomEntry.bits2 : waitsOk impl_atomEntry.T2.2 impl_atomEntry.B2 = true := by kernel_rfl
set_option maxHeartbeats 8000000 in
set_option maxRecDepth 100000 in
theorem impl_atomEntry.calls (k : Nat) (a0_0 : ByteArray) (a0_1 : ByteArray) (a0_2 : ByteArray) (a0_3 : ByteArray) (a0_4 : Int) (a0_5 : ByteArray) (r : ByteArray) (w : World) (h : impl_atomEntry.f k a0_0 a0_1 a0_2 a0_3 a0_4 a0_5 = some r) (hG : Glob w) :
  Calls Tryz.prog 15 #[.agg #[.string a0_0, .string a0_1, .string a0_2, .string a0_3, .int .i64 a0_4, .string a0_5]] w fun e w' => e = .returned (.string r) ∧ Below w.heap.size w w' := by
 have HG := Aside0.mk hG
 clear hG
 have hu49 := Tryz.underlying49
 have HB := Aside0.mk (Below.refl w.heap.size w)
 have H := h
 unfold impl_atomEntry.f at H
 clear h
 obtain ⟨⟨t349, t350⟩, A2, H⟩ := bindA H
 try dsimp only at H
 obtain ⟨t351, A3, H⟩ := bindA H
 obtain ⟨c4, H⟩ := iteA H
 have c4b0 := eq_true c4
 have c4b1 := decide_eq_true c4
 try have c4b2 := eq_false (Nat.not_lt.2 c4)
 obtain ⟨t352, A5, H⟩ := bindA H
 obtain ⟨c6, H⟩ := iteA H
 have c6b0 := eq_true c6
 have c6b1 := decide_eq_true c6
 try have c6b2 := eq_false (Nat.not_lt.2 c6)
 try have c6b3 : (9223372036854775807 < 7 + t351.size + t352.size) = False := eq_false (Nat.not_lt.2 (by have h_ := c6; simp only [ByteArray.size_append] at h_; exact h_))
 obtain ⟨c7, H⟩ := iteA H
 have c7b0 := eq_true c7
 have c7b1 := decide_eq_true c7
 try have c7b2 := eq_false (Nat.not_lt.2 c7)
 try have c7b3 : (9223372036854775807 < 7 + t351.size + t352.size + 12) = False := eq_false (Nat.not_lt.2 (by have h_ := c7; simp only [ByteArray.size_append] at h_; exact h_))
 obtain ⟨t353, A8, H⟩ := bindA H
 obtain ⟨c9, H⟩ := iteA H
 have c9b0 := eq_true c9
 have c9b1 := decide_eq_true c9
 try have c9b2 := eq_false (Nat.not_lt.2 c9)
 try have c9b3 : (9223372036854775807 < 7 + t351.size + t352.size + 12 + t353.size) = False := eq_false (Nat.not_lt.2 (by have h_ := c9; simp only [ByteArray.size_append] at h_; exact h_))
 obtain ⟨c10, H⟩ := iteA H
 have c10b0 := eq_true c10
 have c10b1 := decide_eq_true c10
 try have c10b2 := eq_false (Nat.not_lt.2 c10)
 try have c10b3 : (9223372036854775807 < 7 + t351.size + t352.size + 12 + t353.size + 11) = False := eq_false (Nat.not_lt.2 (by have h_ := c10; simp only [ByteArray.size_append] at h_; exact h_))
 obtain ⟨t354, A11, H⟩ := bindA H
 obtain ⟨c12, H⟩ := iteA H
 have c12b0 := eq_true c12
 have c12b1 := decide_eq_true c12
 try have c12b2 := eq_false (Nat.not_lt.2 c12)
 try have c12b3 : (9223372036854775807 < 7 + t351.size + t352.size + 12 + t353.size + 11 + t354.size) = False := eq_false (Nat.not_lt.2 (by have h_ := c12; simp only [ByteArray.size_append] at h_; exact h_))
 obtain ⟨c13, H⟩ := iteA H
 have c13b0 := eq_true c13
 have c13b1 := decide_eq_true c13
 try have c13b2 := eq_false (Nat.not_lt.2 c13)
 try have c13b3 : (9223372036854775807 < 7 + t351.size + t352.size + 12 + t353.size + 11 + t354.size + 9) = False := eq_false (Nat.not_lt.2 (by have h_ := c13; simp only [ByteArray.size_append] at h_; exact h_))
 obtain ⟨t355, A14, H⟩ := bindA H
 obtain ⟨c15, H⟩ := iteA H
 have c15b0 := eq_true c15
 have c15b1 := decide_eq_true c15
 try have c15b2 := eq_false (Nat.not_lt.2 c15)
 try have c15b3 : (9223372036854775807 < 7 + t351.size + t352.size + 12 + t353.size + 11 + t354.size + 9 + t355.size) = False := eq_false (Nat.not_lt.2 (by have h_ := c15; simp only [ByteArray.size_append] at h_; exact h_))
 obtain ⟨t356, A16, H⟩ := bindA H
 obtain ⟨c17, H⟩ := iteA H
 have c17b0 := eq_true c17
 have c17b1 := decide_eq_true c17
 try have c17b2 := eq_false (Nat.not_lt.2 c17)
 try have c17b3 : (9223372036854775807 < 7 + t351.size + t352.size + 12 + t353.size + 11 + t354.size + 9 + t355.size + t356.size) = False := eq_false (Nat.not_lt.2 (by have h_ := c17; simp only [ByteArray.size_append] at h_; exact h_))
 obtain ⟨c18, H⟩ := iteA H
 have c18b0 := eq_true c18
 have c18b1 := decide_eq_true c18
 try have c18b2 := eq_false (Nat.not_lt.2 c18)
 try have c18b3 : (9223372036854775807 < 7 + t351.size + t352.size + 12 + t353.size + 11 + t354.size + 9 + t355.size + t356.size + 8) = False := eq_false (Nat.not_lt.2 (by have h_ := c18; simp only [ByteArray.size_append] at h_; exact h_))
 obtain rfl := Option.some.inj H
 go_enter Tryz.func15, Tryz.ntmps15
 try go_wp2_with (first | ((with_reducible refine gate_dst (N := 1) rfl ?_); refine box_event ?hg (N := 1) ?hd (cs := #[.string a0_0, .string a0_1, .string a0_2, .string a0_3, .int .i64 a0_4, .string a0_5]) (t := 49) ?hr ?_; (case hd => rfl); (case hg => rfl); (case hr => first | (go_simp; done) | (go_simp; rfl)); intro gb348 hg w19 hbox hb; have BK348 := Aside0.mk (hbox); have GW348 := Aside0.mk ((by rw [hg]; exact (below_size (by repeat (first | (with_reducible first | exact HB.out | apply ba | apply bn | apply bd) | exact HB.out))) : w.heap.size ≤ gb348)); have GE348 := GW348; replace HB := Aside0.mk (below_step (by repeat (first | (with_reducible first | exact HB.out | apply ba | apply bn | apply bd) | exact HB.out)) hb); clear hb hbox hg; obtain ⟨hcz20_0, hcz20_1, hcz20_2, hcz20_3, hcz20_4, hcz20_5, hfz20_0, hfz20_1, hfz20_2, hfz20_3, hfz20_4, hfz20_5⟩ := blk6 BK348.out) | ((with_reducible refine gate_callee (f := 33) rfl ?_); refine goesL_ (some 8) rfl rfl Tryz.func33 (by kernel_rfl) rfl #[.int .i64 a0_4] rfl (by (try simp only [List.map_toArray, List.map_cons, List.map_nil]); first | done | rfl | (simp only [List.length_drop, List.length_take]; rfl)) ?_; (with_reducible refine (impl_Rfc3339Text.calls k a0_4 t349 t350 _ A2.out (Glob.of_below HG.out (by repeat (first | (with_reducible first | exact HB.out | apply ba | apply bn | apply bd | refine below_set ?_ GE348.out) | exact HB.out)))).mono ?_); rintro e w21 ⟨rfl, hb⟩; refine ⟨_, rfl, ?_⟩; replace BK348 := Aside0.mk (blk_below (g := gb348) (o := .cells #[.string a0_0, .string a0_1, .string a0_2, .string a0_3, .int .i64 a0_4, .string a0_5] 49 (0, 0)) (by (with_reducible repeat (first | refine blk_drewN ?_ _ | refine blk_drew ?_ | refine blk_alloc ?_ _)); exact BK348.out) hb); replace HB := Aside0.mk (below_step (by repeat (first | (with_reducible first | exact HB.out | apply ba | apply bn | apply bd | refine below_set ?_ GE348.out) | exact HB.out)) hb); (try clear hb); (try clear hb2); (try clear hk); (try clear hi)))
 replace BK348 := Aside0.mk (blk_drew BK348.out)
 replace HB := Aside0.mk (below_drew1 HB.out)
 refine start_ (n := 28) (S := fun w' => w'.cell? ⟨gb348, 0, none⟩ = some (.string a0_0) ∧ w'.cell? ⟨gb348, 1, none⟩ = some (.string a0_1) ∧ w'.cell? ⟨gb348, 2, none⟩ = some (.string a0_2) ∧ w'.cell? ⟨gb348, 3, none⟩ = some (.string a0_3) ∧ w'.cell? ⟨gb348, 4, none⟩ = some (.int .i64 a0_4) ∧ w'.cell? ⟨gb348, 5, none⟩ = some (.string a0_5)) (ds := []) #[false, false, false, false, false, false, false, false, false, false, false, false, false, false, false, false, false, false, false, false, false, false, false, false, false, false, false, false] (by kernel_rfl) rfl rfl ⟨(blk_cell BK348.out 0).trans rfl, (blk_cell BK348.out 1).trans rfl, (blk_cell BK348.out 2).trans rfl, (blk_cell BK348.out 3).trans rfl, (blk_cell BK348.out 4).trans rfl, (blk_cell BK348.out 5).trans rfl⟩ (fun hHeld => ?_); refine with_tabW impl_atomEntry.tab2 impl_atomEntry.bits2 (fun HT_ HW_ => ?_)
 generalize w21.drew = w22 at BK348 HB hHeld ⊢
 refine pure_ (i := 0) (N := some 11) (v := ?_) (a' := ?_) #[true, false, false, false, false, false, false, false, false, false, false, false, false, false, false, false, false, false, false, false, false, false, false, false, false, false, false, false] rfl rfl (any_of HT_.out (by kernel_rfl)) (fun _ _ _ h => h) (Or.inl ⟨by rfl, ?_⟩) ?_ ?_
 rotate_left
 ·intro w'
  go_simp
  with_reducible rfl
 rotate_left
 ·simp only [Act.put, List.setIfInBounds_toArray, List.set_cons_zero, List.set_cons_succ, i64_w, i32_w]
  rfl
 refine pure_ (i := 4) (N := some 15) (v := ?_) (a' := ?_) #[true, false, false, false, true, false, false, false, false, false, false, false, false, false, false, false, false, false, false, false, false, false, false, false, false, false, false, false] rfl rfl (any_of HT_.out (by kernel_rfl)) (fun _ _ _ h => h) (Or.inl ⟨by rfl, ?_⟩) ?_ ?_
 rotate_left
 ·intro w'
  go_simp
  with_reducible rfl
 rotate_left
 ·simp only [Act.put, List.setIfInBounds_toArray, List.set_cons_zero, List.set_cons_succ, i64_w, i32_w]
  rfl
 refine pure_ (i := 9) (N := some 20) (v := ?_) (a' := ?_) #[true, false, false, false, true, false, false, false, false, true, false, false, false, false, false, false, false, false, false, false, false, false, false, false, false, false, false, false] rfl rfl (any_of HT_.out (by kernel_rfl)) (fun _ _ _ h => h) (Or.inl ⟨by rfl, ?_⟩) ?_ ?_
 rotate_left
 ·intro w'
  go_simp
  with_reducible rfl
 rotate_left
 ·simp only [Act.put, List.setIfInBounds_toArray, List.set_cons_zero, List.set_cons_succ, i64_w, i32_w]
  rfl
 refine pure_ (i := 14) (N := some 25) (v := ?_) (a' := ?_) #[true, false, false, false, true, false, false, false, false, true, false, false, false, false, true, false, false, false, false, false, false, false, false, false, false, false, false, false] rfl rfl (any_of HT_.out (by kernel_rfl)) (fun _ _ _ h => h) (Or.inl ⟨by rfl, ?_⟩) ?_ ?_
 rotate_left
 ·intro w'
  go_simp
  with_reducible rfl
 rotate_left
 ·simp only [Act.put, List.setIfInBounds_toArray, List.set_cons_zero, List.set_cons_succ, i64_w, i32_w]
  rfl
 refine pure_ (i := 19) (N := some 30) (v := ?_) (a' := ?_) #[true, false, false, false, true, false, false, false, false, true, false, false, false, false, true, false, false, false, false, true, false, false, false, false, false, false, false, false] rfl rfl (any_of HT_.out (by kernel_rfl)) (fun _ _ _ h => h) (Or.inl ⟨by rfl, ?_⟩) ?_ ?_
 rotate_left
 ·intro w'
  go_simp
  with_reducible rfl
 rotate_left
 ·simp only [Act.put, List.setIfInBounds_toArray, List.set_cons_zero, List.set_cons_succ, i64_w, i32_w]
  rfl
 refine pure_ (i := 22) (N := some 33) (v := ?_) (a' := ?_) #[true, false, false, false, true, false, false, false, false, true, false, false, false, false, true, false, false, false, false, true, false, false, true, false, false, false, false, false] rfl rfl (any_of HT_.out (by kernel_rfl)) (fun _ _ _ h => h) (Or.inl ⟨by rfl, ?_⟩) ?_ ?_
 rotate_left
 ·intro w'
  go_simp
  with_reducible rfl
 rotate_left
 ·simp only [Act.put, List.setIfInBounds_toArray, List.set_cons_zero, List.set_cons_succ, i64_w, i32_w]
  rfl
 refine take_ (i := 1) (N := some 12) (v := ?_) (a' := ?_) #[true, true, false, false, true, false, false, false, false, true, false, false, false, false, true, false, false, false, false, true, false, false, true, false, false, false, false, false] rfl rfl (take_ofW HT_.out HW_.out (by kernel_rfl)) (fun _ _ _ h => h) (Or.inl ⟨by rfl, ?_⟩) hHeld ?_ ?_
 rotate_left
 ·rintro w' ⟨s0, s1, s2, s3, s4, s5⟩
  go_simp
  with_reducible rfl
 rotate_left
 ·simp only [Act.put, List.setIfInBounds_toArray, List.set_cons_zero, List.set_cons_succ, i64_w, i32_w]
  rfl
 refine take_ (i := 5) (N := some 16) (v := ?_) (a' := ?_) #[true, true, false, false, true, true, false, false, false, true, false, false, false, false, true, false, false, false, false, true, false, false, true, false, false, false, false, false] rfl rfl (take_ofW HT_.out HW_.out (by kernel_rfl)) (fun _ _ _ h => h) (Or.inl ⟨by rfl, ?_⟩) hHeld ?_ ?_
 rotate_left
 ·rintro w' ⟨s0, s1, s2, s3, s4, s5⟩
  go_simp
  with_reducible rfl
 rotate_left
 ·simp only [Act.put, List.setIfInBounds_toArray, List.set_cons_zero, List.set_cons_succ, i64_w, i32_w]
  rfl
 refine take_ (i := 10) (N := some 21) (v := ?_) (a' := ?_) #[true, true, false, false, true, true, false, false, false, true, true, false, false, false, true, false, false, false, false, true, false, false, true, false, false, false, false, false] rfl rfl (take_ofW HT_.out HW_.out (by kernel_rfl)) (fun _ _ _ h => h) (Or.inl ⟨by rfl, ?_⟩) hHeld ?_ ?_
 rotate_left
 ·rintro w' ⟨s0, s1, s2, s3, s4, s5⟩
  go_simp
  with_reducible rfl
 rotate_left
 ·simp only [Act.put, List.setIfInBounds_toArray, List.set_cons_zero, List.set_cons_succ, i64_w, i32_w]
  rfl
 refine take_ (i := 15) (N := some 26) (v := ?_) (a' := ?_) #[true, true, false, false, true, true, false, false, false, true, true, false, false, false, true, true, false, false, false, true, false, false, true, false, false, false, false, false] rfl rfl (take_ofW HT_.out HW_.out (by kernel_rfl)) (fun _ _ _ h => h) (Or.inl ⟨by rfl, ?_⟩) hHeld ?_ ?_
 rotate_left
 ·rintro w' ⟨s0, s1, s2, s3, s4, s5⟩
  go_simp
  with_reducible rfl
 rotate_left
 ·simp only [Act.put, List.setIfInBounds_toArray, List.set_cons_zero, List.set_cons_succ, i64_w, i32_w]
  rfl
 refine take_ (i := 23) (N := some 34) (v := ?_) (a' := ?_) #[true, true, false, false, true, true, false, false, false, true, true, false, false, false, true, true, false, false, false, true, false, false, true, true, false, false, false, false] rfl rfl (take_ofW HT_.out HW_.out (by kernel_rfl)) (fun _ _ _ h => h) (Or.inl ⟨by rfl, ?_⟩) hHeld ?_ ?_
 rotate_left
 ·rintro w' ⟨s0, s1, s2, s3, s4, s5⟩
  go_simp
  with_reducible rfl
 rotate_left
 ·simp only [Act.put, List.setIfInBounds_toArray, List.set_cons_zero, List.set_cons_succ, i64_w, i32_w]
  rfl
 refine one_ (i := 2) (N := some 13) #[true, true, true, false, true, true, false, false, false, true, true, false, false, false, true, true, false, false, false, true, false, false, true, true, false, false, false, false] rfl rfl (one_of HT_.out (by kernel_rfl)) (by decide) (fun K hK => ?_)
 refine goes_ Tryz.func17 (by kernel_rfl) rfl #[.string (⟨#[105, 100]⟩ : ByteArray), .string a0_0] (by rfl) rfl rfl (by (try simp only [List.map_toArray, List.map_cons, List.map_nil]); first | done | rfl | (simp only [List.length_drop, List.length_take]; rfl)) ?_
 with_reducible refine (impl_element.calls (⟨#[105, 100]⟩ : ByteArray) a0_0 t351 _ A3.out).mono ?_
 rintro e w23 ⟨rfl, hb⟩
 refine ⟨_, rfl, ?_⟩
 replace BK348 := Aside0.mk (blk_below (g := gb348) (o := .cells #[.string a0_0, .string a0_1, .string a0_2, .string a0_3, .int .i64 a0_4, .string a0_5] 49 (0, 0)) (by (with_reducible repeat (first | refine blk_drewN ?_ _ | refine blk_drew ?_ | refine blk_alloc ?_ _)); exact BK348.out) hb)
 replace HB := Aside0.mk (below_step (by repeat (first | (with_reducible first | exact HB.out | apply ba | apply bn | apply bd | refine below_set ?_ GE348.out) | exact HB.out)) hb)
 (try clear hb)
 (try clear hb2)
 (try clear hk)
 (try clear hi)
 refine hK.out _ _ ⟨(blk_cell BK348.out 0).trans rfl, (blk_cell BK348.out 1).trans rfl, (blk_cell BK348.out 2).trans rfl, (blk_cell BK348.out 3).trans rfl, (blk_cell BK348.out 4).trans rfl, (blk_cell BK348.out 5).trans rfl⟩ (fun hHeld => ?_)
 clear hK K
 refine norm_ (a' := ?_) ?_ ?_
 rotate_left
 ·show Act.put _ (some 13) _ = _
  simp only [Act.put, List.setIfInBounds_toArray, List.set_cons_zero, List.set_cons_succ, i64_w, i32_w]
  rfl
 refine pure_ (i := 3) (N := some 14) (v := ?_) (a' := ?_) #[true, true, true, true, true, true, false, false, false, true, true, false, false, false, true, true, false, false, false, true, false, false, true, true, false, false, false, false] rfl rfl (any_of HT_.out (by kernel_rfl)) (fun _ _ _ h => h) (Or.inl ⟨by rfl, ?_⟩) ?_ ?_
 rotate_left
 ·intro w'
  go_simp
  with_reducible rfl
 rotate_left
 ·simp only [Act.put, List.setIfInBounds_toArray, List.set_cons_zero, List.set_cons_succ, i64_w, i32_w]
  rfl
 refine one_ (i := 6) (N := some 17) #[true, true, true, true, true, true, true, false, false, true, true, false, false, false, true, true, false, false, false, true, false, false, true, true, false, false, false, false] rfl rfl (one_of HT_.out (by kernel_rfl)) (by decide) (fun K hK => ?_)
 refine goes_ Tryz.func17 (by kernel_rfl) rfl #[.string (⟨#[116, 105, 116, 108, 101]⟩ : ByteArray), .string a0_1] (by rfl) rfl rfl (by (try simp only [List.map_toArray, List.map_cons, List.map_nil]); first | done | rfl | (simp only [List.length_drop, List.length_take]; rfl)) ?_
 with_reducible refine (impl_element.calls (⟨#[116, 105, 116, 108, 101]⟩ : ByteArray) a0_1 t352 _ A5.out).mono ?_
 rintro e w24 ⟨rfl, hb⟩
 refine ⟨_, rfl, ?_⟩
 replace BK348 := Aside0.mk (blk_below (g := gb348) (o := .cells #[.string a0_0, .string a0_1, .string a0_2, .string a0_3, .int .i64 a0_4, .string a0_5] 49 (0, 0)) (by (with_reducible repeat (first | refine blk_drewN ?_ _ | refine blk_drew ?_ | refine blk_alloc ?_ _)); exact BK348.out) hb)
 replace HB := Aside0.mk (below_step (by repeat (first | (with_reducible first | exact HB.out | apply ba | apply bn | apply bd | refine below_set ?_ GE348.out) | exact HB.out)) hb)
 (try clear hb)
 (try clear hb2)
 (try clear hk)
 (try clear hi)
 refine hK.out _ _ ⟨(blk_cell BK348.out 0).trans rfl, (blk_cell BK348.out 1).trans rfl, (blk_cell BK348.out 2).trans rfl, (blk_cell BK348.out 3).trans rfl, (blk_cell BK348.out 4).trans rfl, (blk_cell BK348.out 5).trans rfl⟩ (fun hHeld => ?_)
 clear hK K
 refine norm_ (a' := ?_) ?_ ?_
 rotate_left
 ·show Act.put _ (some 17) _ = _
  simp only [Act.put, List.setIfInBounds_toArray, List.set_cons_zero, List.set_cons_succ, i64_w, i32_w]
  rfl
 refine pure_ (i := 7) (N := some 18) (v := ?_) (a' := ?_) #[true, true, true, true, true, true, true, true, false, true, true, false, false, false, true, true, false, false, false, true, false, false, true, true, false, false, false, false] rfl rfl (any_of HT_.out (by kernel_rfl)) (fun _ _ _ h => h) (Or.inl ⟨by rfl, ?_⟩) ?_ ?_
 rotate_left
 ·intro w'
  go_simp
  with_reducible rfl
 rotate_left
 ·simp only [Act.put, List.setIfInBounds_toArray, List.set_cons_zero, List.set_cons_succ, i64_w, i32_w]
  rfl
 refine pure_ (i := 8) (N := some 19) (v := ?_) (a' := ?_) #[true, true, true, true, true, true, true, true, true, true, true, false, false, false, true, true, false, false, false, true, false, false, true, true, false, false, false, false] rfl rfl (any_of HT_.out (by kernel_rfl)) (fun _ _ _ h => h) (Or.inl ⟨by rfl, ?_⟩) ?_ ?_
 rotate_left
 ·intro w'
  go_simp
  with_reducible rfl
 rotate_left
 ·simp only [Act.put, List.setIfInBounds_toArray, List.set_cons_zero, List.set_cons_succ, i64_w, i32_w]
  rfl
 refine one_ (i := 11) (N := some 22) #[true, true, true, true, true, true, true, true, true, true, true, true, false, false, true, true, false, false, false, true, false, false, true, true, false, false, false, false] rfl rfl (one_of HT_.out (by kernel_rfl)) (by decide) (fun K hK => ?_)
 refine goes_ Tryz.func34 (by kernel_rfl) rfl #[.string a0_2] (by rfl) rfl rfl (by (try simp only [List.map_toArray, List.map_cons, List.map_nil]); first | done | rfl | (simp only [List.length_drop, List.length_take]; rfl)) ?_
 with_reducible refine (impl_escapeXml.calls a0_2 t353 _ A8.out).mono ?_
 rintro e w25 ⟨rfl, hb⟩
 refine ⟨_, rfl, ?_⟩
 replace BK348 := Aside0.mk (blk_below (g := gb348) (o := .cells #[.string a0_0, .string a0_1, .string a0_2, .string a0_3, .int .i64 a0_4, .string a0_5] 49 (0, 0)) (by (with_reducible repeat (first | refine blk_drewN ?_ _ | refine blk_drew ?_ | refine blk_alloc ?_ _)); exact BK348.out) hb)
 replace HB := Aside0.mk (below_step (by repeat (first | (with_reducible first | exact HB.out | apply ba | apply bn | apply bd | refine below_set ?_ GE348.out) | exact HB.out)) hb)
 (try clear hb)
 (try clear hb2)
 (try clear hk)
 (try clear hi)
 refine hK.out _ _ ⟨(blk_cell BK348.out 0).trans rfl, (blk_cell BK348.out 1).trans rfl, (blk_cell BK348.out 2).trans rfl, (blk_cell BK348.out 3).trans rfl, (blk_cell BK348.out 4).trans rfl, (blk_cell BK348.out 5).trans rfl⟩ (fun hHeld => ?_)
 clear hK K
 refine norm_ (a' := ?_) ?_ ?_
 rotate_left
 ·show Act.put _ (some 22) _ = _
  simp only [Act.put, List.setIfInBounds_toArray, List.set_cons_zero, List.set_cons_succ, i64_w, i32_w]
  rfl
 refine pure_ (i := 12) (N := some 23) (v := ?_) (a' := ?_) #[true, true, true, true, true, true, true, true, true, true, true, true, true, false, true, true, false, false, false, true, false, false, true, true, false, false, false, false] rfl rfl (any_of HT_.out (by kernel_rfl)) (fun _ _ _ h => h) (Or.inl ⟨by rfl, ?_⟩) ?_ ?_
 rotate_left
 ·intro w'
  go_simp
  with_reducible rfl
 rotate_left
 ·simp only [Act.put, List.setIfInBounds_toArray, List.set_cons_zero, List.set_cons_succ, i64_w, i32_w]
  rfl
 refine pure_ (i := 13) (N := some 24) (v := ?_) (a' := ?_) #[true, true, true, true, true, true, true, true, true, true, true, true, true, true, true, true, false, false, false, true, false, false, true, true, false, false, false, false] rfl rfl (any_of HT_.out (by kernel_rfl)) (fun _ _ _ h => h) (Or.inl ⟨by rfl, ?_⟩) ?_ ?_
 rotate_left
 ·intro w'
  go_simp
  with_reducible rfl
 rotate_left
 ·simp only [Act.put, List.setIfInBounds_toArray, List.set_cons_zero, List.set_cons_succ, i64_w, i32_w]
  rfl
 refine one_ (i := 16) (N := some 27) #[true, true, true, true, true, true, true, true, true, true, true, true, true, true, true, true, true, false, false, true, false, false, true, true, false, false, false, false] rfl rfl (one_of HT_.out (by kernel_rfl)) (by decide) (fun K hK => ?_)
 refine goes_ Tryz.func17 (by kernel_rfl) rfl #[.string (⟨#[110, 97, 109, 101]⟩ : ByteArray), .string a0_3] (by rfl) rfl rfl (by (try simp only [List.map_toArray, List.map_cons, List.map_nil]); first | done | rfl | (simp only [List.length_drop, List.length_take]; rfl)) ?_
 with_reducible refine (impl_element.calls (⟨#[110, 97, 109, 101]⟩ : ByteArray) a0_3 t354 _ A11.out).mono ?_
 rintro e w26 ⟨rfl, hb⟩
 refine ⟨_, rfl, ?_⟩
 replace BK348 := Aside0.mk (blk_below (g := gb348) (o := .cells #[.string a0_0, .string a0_1, .string a0_2, .string a0_3, .int .i64 a0_4, .string a0_5] 49 (0, 0)) (by (with_reducible repeat (first | refine blk_drewN ?_ _ | refine blk_drew ?_ | refine blk_alloc ?_ _)); exact BK348.out) hb)
 replace HB := Aside0.mk (below_step (by repeat (first | (with_reducible first | exact HB.out | apply ba | apply bn | apply bd | refine below_set ?_ GE348.out) | exact HB.out)) hb)
 (try clear hb)
 (try clear hb2)
 (try clear hk)
 (try clear hi)
 refine hK.out _ _ ⟨(blk_cell BK348.out 0).trans rfl, (blk_cell BK348.out 1).trans rfl, (blk_cell BK348.out 2).trans rfl, (blk_cell BK348.out 3).trans rfl, (blk_cell BK348.out 4).trans rfl, (blk_cell BK348.out 5).trans rfl⟩ (fun hHeld => ?_)
 clear hK K
 refine norm_ (a' := ?_) ?_ ?_
 rotate_left
 ·show Act.put _ (some 27) _ = _
  simp only [Act.put, List.setIfInBounds_toArray, List.set_cons_zero, List.set_cons_succ, i64_w, i32_w]
  rfl
 refine pure_ (i := 17) (N := some 28) (v := ?_) (a' := ?_) #[true, true, true, true, true, true, true, true, true, true, true, true, true, true, true, true, true, true, false, true, false, false, true, true, false, false, false, false] rfl rfl (any_of HT_.out (by kernel_rfl)) (fun _ _ _ h => h) (Or.inl ⟨by rfl, ?_⟩) ?_ ?_
 rotate_left
 ·intro w'
  go_simp
  with_reducible rfl
 rotate_left
 ·simp only [Act.put, List.setIfInBounds_toArray, List.set_cons_zero, List.set_cons_succ, i64_w, i32_w]
  rfl
 refine pure_ (i := 18) (N := some 29) (v := ?_) (a' := ?_) #[true, true, true, true, true, true, true, true, true, true, true, true, true, true, true, true, true, true, true, true, false, false, true, true, false, false, false, false] rfl rfl (any_of HT_.out (by kernel_rfl)) (fun _ _ _ h => h) (Or.inl ⟨by rfl, ?_⟩) ?_ ?_
 rotate_left
 ·intro w'
  go_simp
  with_reducible rfl
 rotate_left
 ·simp only [Act.put, List.setIfInBounds_toArray, List.set_cons_zero, List.set_cons_succ, i64_w, i32_w]
  rfl
 refine one_ (i := 20) (N := some 31) #[true, true, true, true, true, true, true, true, true, true, true, true, true, true, true, true, true, true, true, true, true, false, true, true, false, false, false, false] rfl rfl (one_of HT_.out (by kernel_rfl)) (by decide) (fun K hK => ?_)
 refine goes_ Tryz.func17 (by kernel_rfl) rfl #[.string (⟨#[117, 112, 100, 97, 116, 101, 100]⟩ : ByteArray), .string t349] (by rfl) rfl rfl (by (try simp only [List.map_toArray, List.map_cons, List.map_nil]); first | done | rfl | (simp only [List.length_drop, List.length_take]; rfl)) ?_
 with_reducible refine (impl_element.calls (⟨#[117, 112, 100, 97, 116, 101, 100]⟩ : ByteArray) t349 t355 _ A14.out).mono ?_
 rintro e w27 ⟨rfl, hb⟩
 refine ⟨_, rfl, ?_⟩
 replace BK348 := Aside0.mk (blk_below (g := gb348) (o := .cells #[.string a0_0, .string a0_1, .string a0_2, .string a0_3, .int .i64 a0_4, .string a0_5] 49 (0, 0)) (by (with_reducible repeat (first | refine blk_drewN ?_ _ | refine blk_drew ?_ | refine blk_alloc ?_ _)); exact BK348.out) hb)
 replace HB := Aside0.mk (below_step (by repeat (first | (with_reducible first | exact HB.out | apply ba | apply bn | apply bd | refine below_set ?_ GE348.out) | exact HB.out)) hb)
 (try clear hb)
 (try clear hb2)
 (try clear hk)
 (try clear hi)
 refine hK.out _ _ ⟨(blk_cell BK348.out 0).trans rfl, (blk_cell BK348.out 1).trans rfl, (blk_cell BK348.out 2).trans rfl, (blk_cell BK348.out 3).trans rfl, (blk_cell BK348.out 4).trans rfl, (blk_cell BK348.out 5).trans rfl⟩ (fun hHeld => ?_)
 clear hK K
 refine norm_ (a' := ?_) ?_ ?_
 rotate_left
 ·show Act.put _ (some 31) _ = _
  simp only [Act.put, List.setIfInBounds_toArray, List.set_cons_zero, List.set_cons_succ, i64_w, i32_w]
  rfl
 refine pure_ (i := 21) (N := some 32) (v := ?_) (a' := ?_) #[true, true, true, true, true, true, true, true, true, true, true, true, true, true, true, true, true, true, true, true, true, true, true, true, false, false, false, false] rfl rfl (any_of HT_.out (by kernel_rfl)) (fun _ _ _ h => h) (Or.inl ⟨by rfl, ?_⟩) ?_ ?_
 rotate_left
 ·intro w'
  go_simp
  with_reducible rfl
 rotate_left
 ·simp only [Act.put, List.setIfInBounds_toArray, List.set_cons_zero, List.set_cons_succ, i64_w, i32_w]
  rfl
 refine one_ (i := 24) (N := some 35) #[true, true, true, true, true, true, true, true, true, true, true, true, true, true, true, true, true, true, true, true, true, true, true, true, true, false, false, false] rfl rfl (one_of HT_.out (by kernel_rfl)) (by decide) (fun K hK => ?_)
 refine goes_ Tryz.func17 (by kernel_rfl) rfl #[.string (⟨#[99, 111, 110, 116, 101, 110, 116]⟩ : ByteArray), .string a0_5] (by rfl) rfl rfl (by (try simp only [List.map_toArray, List.map_cons, List.map_nil]); first | done | rfl | (simp only [List.length_drop, List.length_take]; rfl)) ?_
 with_reducible refine (impl_element.calls (⟨#[99, 111, 110, 116, 101, 110, 116]⟩ : ByteArray) a0_5 t356 _ A16.out).mono ?_
 rintro e w28 ⟨rfl, hb⟩
 refine ⟨_, rfl, ?_⟩
 replace BK348 := Aside0.mk (blk_below (g := gb348) (o := .cells #[.string a0_0, .string a0_1, .string a0_2, .string a0_3, .int .i64 a0_4, .string a0_5] 49 (0, 0)) (by (with_reducible repeat (first | refine blk_drewN ?_ _ | refine blk_drew ?_ | refine blk_alloc ?_ _)); exact BK348.out) hb)
 replace HB := Aside0.mk (below_step (by repeat (first | (with_reducible first | exact HB.out | apply ba | apply bn | apply bd | refine below_set ?_ GE348.out) | exact HB.out)) hb)
 (try clear hb)
 (try clear hb2)
 (try clear hk)
 (try clear hi)
 refine hK.out _ _ ⟨(blk_cell BK348.out 0).trans rfl, (blk_cell BK348.out 1).trans rfl, (blk_cell BK348.out 2).trans rfl, (blk_cell BK348.out 3).trans rfl, (blk_cell BK348.out 4).trans rfl, (blk_cell BK348.out 5).trans rfl⟩ (fun hHeld => ?_)
 clear hK K
 refine norm_ (a' := ?_) ?_ ?_
 rotate_left
 ·show Act.put _ (some 35) _ = _
  simp only [Act.put, List.setIfInBounds_toArray, List.set_cons_zero, List.set_cons_succ, i64_w, i32_w]
  rfl
 refine pure_ (i := 25) (N := some 36) (v := ?_) (a' := ?_) #[true, true, true, true, true, true, true, true, true, true, true, true, true, true, true, true, true, true, true, true, true, true, true, true, true, true, false, false] rfl rfl (any_of HT_.out (by kernel_rfl)) (fun _ _ _ h => h) (Or.inl ⟨by rfl, ?_⟩) ?_ ?_
 rotate_left
 ·intro w'
  go_simp
  with_reducible rfl
 rotate_left
 ·simp only [Act.put, List.setIfInBounds_toArray, List.set_cons_zero, List.set_cons_succ, i64_w, i32_w]
  rfl
 refine pure_ (i := 26) (N := some 37) (v := ?_) (a' := ?_) #[true, true, true, true, true, true, true, true, true, true, true, true, true, true, true, true, true, true, true, true, true, true, true, true, true, true, true, false] rfl rfl (any_of HT_.out (by kernel_rfl)) (fun _ _ _ h => h) (Or.inl ⟨by rfl, ?_⟩) ?_ ?_
 rotate_left
 ·intro w'
  go_simp
  with_reducible rfl
 rotate_left
 ·simp only [Act.put, List.setIfInBounds_toArray, List.set_cons_zero, List.set_cons_succ, i64_w, i32_w]
  rfl
 refine pure_ (i := 27) (N := some 2) (v := ?_) (a' := ?_) #[true, true, true, true, true, true, true, true, true, true, true, true, true, true, true, true, true, true, true, true, true, true, true, true, true, true, true, true] rfl rfl (any_of HT_.out (by kernel_rfl)) (fun _ _ _ h => h) (Or.inl ⟨by rfl, ?_⟩) ?_ ?_
 rotate_left
 ·intro w'
  go_simp
  with_reducible rfl
 rotate_left
 ·simp only [Act.put, List.setIfInBounds_toArray, List.set_cons_zero, List.set_cons_succ, i64_w, i32_w]
  rfl
 refine done_ (done_of HT_.out (by kernel_rfl)) ?_
 try go_wp2
 go_ret
 exact ⟨by first | rfl | (simp [*] <;> rfl), by repeat (first | (with_reducible first | exact HB.out | apply ba | apply bn | apply bd | refine below_set ?_ GE348.out) | exact HB.out)⟩

/-! ### impl_FeedText: function 7, walked by hand -/
/-- An entry's text. -/
def impl_FeedText.each (k : Nat) (a : Bool) (x : S49) : Option ByteArray := if a = true then impl_atomEntry.f k x.f0 x.f1 x.f2 x.f3 x.f4 x.f5 else impl_rssItem.f k x.f0 x.f1 x.f2 x.f3 x.f4 x.f5
/-- The entries' texts behind what is written. -/
def impl_FeedText.go (k : Nat) (a : Bool) : List S49 → List UInt8 → Option (List UInt8)
 | [], acc => some acc
 | x :: xs, acc => (impl_FeedText.each k a x).bind fun t => if acc.length + t.size ≤ 100000000 then impl_FeedText.go k a xs (acc ++ t.data.toList) else none
def impl_FeedText.beg (a : Bool) : ByteArray := if a = true then ⟨#[60, 102, 101, 101, 100, 62]⟩ else ⟨#[60, 114, 115, 115, 32, 118, 101, 114, 115, 105, 111, 110, 61, 34, 50, 46, 48, 34, 62, 60, 99, 104, 97, 110, 110, 101, 108, 62]⟩
def impl_FeedText.end_ (a : Bool) : ByteArray := if a = true then ⟨#[60, 47, 102, 101, 101, 100, 62]⟩ else ⟨#[60, 47, 99, 104, 97, 110, 110, 101, 108, 62, 60, 47, 114, 115, 115, 62]⟩
def impl_FeedText.out (acc : List UInt8) : ByteArray × Int := if acc.length > 65536 then (⟨#[]⟩, 7) else (⟨acc.toArray⟩, 0)
def impl_FeedText.f (k : Nat) (a0_0 : Bool) (a0_1 : ByteArray) (l0_2 : List S49) : Option (ByteArray × Int) :=
 (impl_FeedOK.f k a0_0 a0_1 l0_2).bind fun b => if b = true then (impl_element.f ⟨#[116, 105, 116, 108, 101]⟩ a0_1).bind fun t => if t.size ≤ 100000 then (impl_FeedText.go k a0_0 l0_2 (impl_FeedText.beg a0_0 ++ t).data.toList).bind fun acc => (if acc.length ≤ 200000000 then some (impl_FeedText.out (acc ++ (impl_FeedText.end_ a0_0).data.toList)) else none) else none else some (⟨#[]⟩, 1)
theorem impl_FeedText.each_mono (k : Nat) (a : Bool) (x : S49) : LeO (impl_FeedText.each k a x) (impl_FeedText.each (k + 1) a x) := by
 unfold impl_FeedText.each
 exact LeO.ite (impl_atomEntry.mono _ _ _ _ _ _ _) (impl_rssItem.mono _ _ _ _ _ _ _)
theorem impl_FeedText.go_mono (k : Nat) (a : Bool) : ∀ (l : List S49) (acc : List UInt8), LeO (impl_FeedText.go k a l acc) (impl_FeedText.go (k + 1) a l acc)
 | [], _ => LeO.refl _
 | x :: xs, acc => by
  rw [impl_FeedText.go, impl_FeedText.go]
  exact LeO.bind (impl_FeedText.each_mono k a x) (fun t => LeO.ite (impl_FeedText.go_mono k a xs _) (LeO.refl _))
theorem impl_FeedText.mono : ∀ a0 a1 a2 k, LeO (impl_FeedText.f k a0 a1 a2) (impl_FeedText.f (k + 1) a0 a1 a2) := by
 intro a0 a1 a2 k
 unfold impl_FeedText.f
 exact LeO.bind (impl_FeedOK.mono _ _ _ _) (fun b => LeO.ite (LeO.bind (LeO.refl _) (fun t => LeO.ite (LeO.bind (impl_FeedText.go_mono k a0 a2 _) (fun _ => LeO.refl _)) (LeO.refl _))) (LeO.refl _))
/-- The function value. -/
def impl_FeedText.fv (a : Bool) : Value := .func (.func (if a = true then 15 else 14)) #[] #[]
theorem impl_FeedText.str (l : List UInt8) (s : ByteArray) : Lib.byteCells l ++ Lib.strCells s = Lib.byteCells (l ++ s.data.toList) := by
 unfold Lib.byteCells Lib.strCells
 first | (rw [List.map_append]; done) | (rw [List.map_append]; rfl) | (simp; done)
theorem impl_FeedText.len (gb : Nat) (L : List UInt8) (N : Nat) (w : World) (h : Lib.IsBuilderF 42 5 gb gb (Lib.byteCells L) w) (hN : L.length = N) :
  Calls Tryz.prog 18 #[.pointer (some ⟨gb, 0, none⟩)] w fun e w' => e = .returned (.int .i64 (N : Int)) ∧ w' = w := by
 have h1 := Tryz.Builder_Len_f gb gb _ w h
 rw [Lib.byteCells_length, hN] at h1
 exact h1
set_option maxHeartbeats 8000000 in
set_option maxRecDepth 100000 in
theorem impl_FeedText.calls (k : Nat) (a0_0 : Bool) (a0_1 : ByteArray) (A0_2 : Option Addr) (c0_2 : Nat) (l0_2 : List S49) (r1 : ByteArray) (r2 : Int) (w : World) (hr0_2 : Kd.C k49 w A0_2 l0_2.length l0_2) (hc0_2 : l0_2.length ≤ c0_2) (h : impl_FeedText.f k a0_0 a0_1 l0_2 = some (r1, r2)) (hG : Glob w) :
  Calls Tryz.prog 7 #[.agg #[.bool a0_0, .string a0_1, .slice A0_2 l0_2.length c0_2]] w fun e w' => e = .returned (.tuple #[.string r1, .int .i64 r2]) ∧ Below w.heap.size w w' := by
 have hu := Tryz.underlying30
 have hue := Tryz.underlying49
 have HR := Aside0.mk hr0_2
 have HC := Aside0.mk hc0_2
 have HG := Aside0.mk hG
 have HB := Aside0.mk (Below.refl w.heap.size w)
 unfold impl_FeedText.f at h
 obtain ⟨b, HT0, h⟩ := Option.bind_eq_some_iff.mp h
 have HT := Aside0.mk HT0
 clear hr0_2 hc0_2 hG HT0
 cases b with
 | false =>
  have h' : some ((⟨#[]⟩ : ByteArray), (1 : Int)) = some (r1, r2) := h
  simp only [Option.some.injEq, Prod.mk.injEq] at h'
  obtain ⟨rfl, rfl⟩ := h'
  clear h
  go_enter Tryz.func7, Tryz.ntmps7
  go_wp2_with (first | ((with_reducible refine gate_dst (N := 1) rfl ?_); refine box_event ?hg (N := 1) ?hd (cs := #[.bool a0_0, .string a0_1, .slice A0_2 l0_2.length c0_2]) (t := 30) ?hr ?_; (case hd => rfl); (case hg => rfl); (case hr => first | (go_simp; done) | (go_simp; rfl)); intro gf hg w1 hbox hb; have C0 : Aside0 (w1.cell? ⟨gf, 0, none⟩ = some (.bool a0_0)) := ⟨(blk_cell hbox 0).trans rfl⟩; have C1 : Aside0 (w1.cell? ⟨gf, 1, none⟩ = some (.string a0_1)) := ⟨(blk_cell hbox 1).trans rfl⟩; have C2 : Aside0 (w1.cell? ⟨gf, 2, none⟩ = some (.slice A0_2 l0_2.length c0_2)) := ⟨(blk_cell hbox 2).trans rfl⟩; have m_HB := Aside0.mk (below_step HB.out hb); clear HB; have HB := m_HB; clear m_HB; clear hb; clear hbox hg; have zC0 := C0.out; have zC1 := C1.out; have zC2 := C2.out) | (go_at_call 13; refine (impl_FeedOK.calls k a0_0 a0_1 A0_2 c0_2 l0_2 false _ (Kd.C_below HR.out HB.out) HC.out HT.out (Glob.of_below HG.out (by repeat (first | (with_reducible first | exact HB.out | apply ba | apply bn | apply bd) | exact HB.out)))).mono ?_; rintro e w2 ⟨rfl, hb⟩; clear zC0 zC1 zC2; have m_C0 := Aside0.mk ((hb.cell (World.block_lt_of_cell? w1 _ C0.out)).trans C0.out); have m_C1 := Aside0.mk ((hb.cell (World.block_lt_of_cell? w1 _ C1.out)).trans C1.out); have m_C2 := Aside0.mk ((hb.cell (World.block_lt_of_cell? w1 _ C2.out)).trans C2.out); have HBa := Aside0.mk (below_step HB.out hb); clear HB C0 C1 C2 hb; have zC0 := m_C0.out; have zC1 := m_C1.out; have zC2 := m_C2.out))
  go_ret2
  exact ⟨rfl, HBa.out⟩
 | true =>
  rw [if_pos rfl] at h
  obtain ⟨t, HE0, h⟩ := Option.bind_eq_some_iff.mp h
  have HE := Aside0.mk HE0
  by_cases hts : t.size ≤ 100000
  ·rw [if_pos hts] at h
   obtain ⟨acc, HA0, h⟩ := Option.bind_eq_some_iff.mp h
   have HA := Aside0.mk HA0
   by_cases hal : acc.length ≤ 200000000
   ·rw [if_pos hal] at h
    have HO := Aside0.mk (Option.some.inj h)
    clear HE0 HA0 h
    have HAL := Aside0.mk hal
    clear hal
    go_enter Tryz.func7, Tryz.ntmps7
    go_upto_if 14 with (first | ((with_reducible refine gate_dst (N := 1) rfl ?_); refine box_event ?hg (N := 1) ?hd (cs := #[.bool a0_0, .string a0_1, .slice A0_2 l0_2.length c0_2]) (t := 30) ?hr ?_; (case hd => rfl); (case hg => rfl); (case hr => first | (go_simp; done) | (go_simp; rfl)); intro gf hg w1 hbox hb; have C0 : Aside0 (w1.cell? ⟨gf, 0, none⟩ = some (.bool a0_0)) := ⟨(blk_cell hbox 0).trans rfl⟩; have C1 : Aside0 (w1.cell? ⟨gf, 1, none⟩ = some (.string a0_1)) := ⟨(blk_cell hbox 1).trans rfl⟩; have C2 : Aside0 (w1.cell? ⟨gf, 2, none⟩ = some (.slice A0_2 l0_2.length c0_2)) := ⟨(blk_cell hbox 2).trans rfl⟩; have m_HB := Aside0.mk (below_step HB.out hb); clear HB; have HB := m_HB; clear m_HB; clear hb; clear hbox hg; have zC0 := C0.out; have zC1 := C1.out; have zC2 := C2.out) | (go_at_call 13; refine (impl_FeedOK.calls k a0_0 a0_1 A0_2 c0_2 l0_2 true _ (Kd.C_below HR.out HB.out) HC.out HT.out (Glob.of_below HG.out (by repeat (first | (with_reducible first | exact HB.out | apply ba | apply bn | apply bd) | exact HB.out)))).mono ?_; rintro e w2 ⟨rfl, hb⟩; clear zC0 zC1 zC2; have m_C0 := Aside0.mk ((hb.cell (World.block_lt_of_cell? w1 _ C0.out)).trans C0.out); have m_C1 := Aside0.mk ((hb.cell (World.block_lt_of_cell? w1 _ C1.out)).trans C1.out); have m_C2 := Aside0.mk ((hb.cell (World.block_lt_of_cell? w1 _ C2.out)).trans C2.out); have HBa := Aside0.mk (below_step HB.out hb); clear HB C0 C1 C2 hb; have zC0 := m_C0.out; have zC1 := m_C1.out; have zC2 := m_C2.out))
    go_cut [4, 5, 6] (fun v4 v5 v6 wc => v4 = .string (impl_FeedText.beg a0_0) ∧ v5 = .string (impl_FeedText.end_ a0_0) ∧ v6 = impl_FeedText.fv a0_0 ∧ wc = w2)
    case first =>
     cases a0_0 with
     | true =>
      go_wp2
      go_meet
      case rel => exact ⟨rfl, rfl, rfl, rfl⟩
     | false =>
      go_wp2
      go_meet
      case rel => exact ⟨rfl, rfl, rfl, rfl⟩
    case rest =>
     obtain ⟨rfl, rfl, rfl, rfl⟩ := hcut
     have HBc := HBa
     clear HBa
     have lgf : gf < wc.heap.size := World.block_lt_of_cell? wc _ zC1
     have Y1 : Aside0 ((wc.alloc (.cells #[.pointer none, .slice none 0 0] 42)).cell? ⟨gf, 1, none⟩ = some (.string a0_1)) := ⟨(World.cell?_of_block (heap_alloc_old wc _ lgf)).trans zC1⟩
     have Y2 : Aside0 ((wc.alloc (.cells #[.pointer none, .slice none 0 0] 42)).cell? ⟨gf, 2, none⟩ = some (.slice A0_2 l0_2.length c0_2)) := ⟨(World.cell?_of_block (heap_alloc_old wc _ lgf)).trans zC2⟩
     have HI0 : Aside0 (Lib.IsBuilderF 42 5 wc.heap.size wc.heap.size (Lib.byteCells []) (wc.alloc (.cells #[.pointer none, .slice none 0 0] 42))) := ⟨Lib.IsBuilderF.of (Lib.fresh_isBuilder 42 5 wc)⟩
     have HB0 : Aside0 (Below w.heap.size w (wc.alloc (.cells #[.pointer none, .slice none 0 0] 42))) := ⟨HBc.out.alloc HBc.out.size _⟩
     have HSB : Aside0 (wc.heap.size < (wc.alloc (.cells #[.pointer none, .slice none 0 0] 42)).heap.size) := ⟨by simp⟩
     have hwb : w.heap.size ≤ wc.heap.size := HBc.out.size
     clear zC0 zC1 zC2 m_C0 m_C1 m_C2
     go_upto_region 7 with (fail)
     generalize wc.alloc (.cells #[.pointer none, .slice none 0 0] 42) = Wb at Y1 Y2 HI0 HB0 HSB ⊢
     generalize wc.heap.size = gb at Y1 Y2 HI0 HB0 HSB lgf hwb ⊢
     have y1 := Y1.out
     have y2 := Y2.out
     have hsb := HSB.out
     clear Y1 Y2 HSB HBc
     have hbe : (impl_FeedText.beg a0_0).size ≤ 100 := by unfold impl_FeedText.beg; split <;> decide
     have hen : (impl_FeedText.end_ a0_0).size ≤ 100 := by unfold impl_FeedText.end_; split <;> decide
     have hadd : (9223372036854775807 < (impl_FeedText.beg a0_0).size + t.size) = False := eq_false (by omega)
     obtain ⟨n, hln⟩ : ∃ n, l0_2.length = n := ⟨_, rfl⟩
     have HN := Aside0.mk hln
     rw [hln] at y2
     have hC := HC.out
     rw [hln] at hC
     have hn : n ≤ 9223372036854775807 := by have := HR.out.2.1; omega
     clear HC hln
     have hz0 : (Lib.byteCells []).length + (impl_FeedText.beg a0_0 ++ t).size ≤ 140737488355328 := by rw [ByteArray.size_append, Lib.byteCells_length]; simp only [List.length_nil]; omega
     have HZ0 := Aside0.mk hz0
     clear hz0
     go_wp2_with (first | (go_at_call 17; refine (impl_element.calls _ _ _ _ HE.out).mono ?_; rintro e w3 ⟨rfl, hb⟩; have hb' := hb.mono (Nat.le_of_lt hsb); have y3 := (hb'.cell (p := ⟨gf, 2, none⟩) lgf).trans y2; have HI1 := Aside0.mk (Bld.of_below HI0.out hb); have HB1 := Aside0.mk (HB0.out.trans (hb'.mono hwb)); have hs1 : gb ≤ w3.heap.size := (by have := hb.size; omega); clear hb hb' y1 y2) | (go_at_call 16; refine (Bld.writeString gb gb (Lib.byteCells []) (impl_FeedText.beg a0_0 ++ t) w3 HI1.out HZ0.out hs1).mono ?_; rintro e w4 ⟨rfl, h4, hb4, hk4⟩; have y4 := (hb4.cell (p := ⟨gf, 2, none⟩) lgf).trans y3; have HI2 : Aside0 (Lib.IsBuilderF 42 5 gb gb (Lib.byteCells ((impl_FeedText.beg a0_0 ++ t).data.toList)) w4) := ⟨by rw [impl_FeedText.str] at h4; exact h4⟩; have HB2 := Aside0.mk (HB1.out.trans (hb4.mono hwb)); have hs2 : gb ≤ w4.heap.size := (by have := hb4.size; omega); clear h4 hb4 hk4 y3 HI1 HB1 hs1))
     have hbt : (impl_FeedText.beg a0_0 ++ t).data.toList.length ≤ 200000 := by show (impl_FeedText.beg a0_0 ++ t).size ≤ _; rw [ByteArray.size_append]; omega
     generalize (impl_FeedText.beg a0_0 ++ t).data.toList = s0 at HI2 HA hbt ⊢
     have HY := Aside0.mk y4
     clear HZ0 hadd hbe HE HI0 HB0 hsb y4
     go_loopw [25] (fun v25 wr => ∃ (j : Nat) (ac : List UInt8), j ≤ n ∧ v25 = .int .i64 (j : Int) ∧ Aside0 (Lib.IsBuilderF 42 5 gb gb (Lib.byteCells ac) wr) ∧ Aside0 (Below w.heap.size w wr) ∧ Aside0 (gb ≤ wr.heap.size) ∧ Aside0 (impl_FeedText.go k a0_0 (l0_2.drop j) ac = some acc)) (fun v25 _ => n - (intOf v25).toNat)
     case atStart => exact ⟨0, s0, Nat.zero_le _, rfl, HI2, HB2, ⟨hs2⟩, ⟨by rw [List.drop_zero]; exact HA.out⟩⟩
     case round =>
      obtain ⟨j, ac, hj, rfl, HI, HBr, HSr, HGo⟩ := hrel
      clear HI2 HB2 hs2 HA
      by_cases hlt : j < n
      ·have hkl : j < l0_2.length := by rw [HN.out]; exact hlt
       obtain ⟨ad, ead, hx⟩ := at_T49 HR.out (j : Int) (Int.natCast_nonneg j) (by omega)
       cases ead
       have er : rd_T49 l0_2 (j : Int) = l0_2[j] := by simp [rd_T49, List.getD_eq_getElem?_getD, List.getElem?_eq_getElem hkl]
       have HS1 := HGo.out
       rw [List.drop_eq_getElem_cons hkl, impl_FeedText.go] at HS1
       rw [er] at hx
       generalize l0_2[j] = x at hx HS1
       obtain ⟨hx0, hx1, hx2, hx3, hx4, hx5⟩ := hx
       replace hx0 := (HBr.out.cell (World.block_lt_of_cell? w _ hx0)).trans hx0
       replace hx1 := (HBr.out.cell (World.block_lt_of_cell? w _ hx1)).trans hx1
       replace hx2 := (HBr.out.cell (World.block_lt_of_cell? w _ hx2)).trans hx2
       replace hx3 := (HBr.out.cell (World.block_lt_of_cell? w _ hx3)).trans hx3
       replace hx4 := (HBr.out.cell (World.block_lt_of_cell? w _ hx4)).trans hx4
       replace hx5 := (HBr.out.cell (World.block_lt_of_cell? w _ hx5)).trans hx5
       rw [Int.toNat_natCast] at hx0 hx1 hx2 hx3 hx4 hx5
       obtain ⟨u, HA0, HS1⟩ := Option.bind_eq_some_iff.mp HS1
       by_cases hsz : ac.length + u.size ≤ 100000000
       ·rw [if_pos hsz] at HS1
        have HS2 := Aside0.mk HS1
        have HX := Aside0.mk HA0
        clear HGo HS1 HA0 er
        go_upto_region 11 with (fail)
        have BX : Aside0 ((wr.alloc (.cells #[.string x.f0, .string x.f1, .string x.f2, .string x.f3, .int .i64 x.f4, .string x.f5] 49)).heap[wr.heap.size]? = some (.cells #[.string x.f0, .string x.f1, .string x.f2, .string x.f3, .int .i64 x.f4, .string x.f5] 49 (0, 0))) := ⟨heap_alloc_new wr _⟩
        have HIx := Aside0.mk (HI.out.alloc (.cells #[.string x.f0, .string x.f1, .string x.f2, .string x.f3, .int .i64 x.f4, .string x.f5] 49))
        have HBx := Aside0.mk (HBr.out.alloc HBr.out.size (.cells #[.string x.f0, .string x.f1, .string x.f2, .string x.f3, .int .i64 x.f4, .string x.f5] 49))
        have HSx : Aside0 (gb ≤ (wr.alloc (.cells #[.string x.f0, .string x.f1, .string x.f2, .string x.f3, .int .i64 x.f4, .string x.f5] 49)).heap.size) := ⟨by have := HSr.out; simp; omega⟩
        clear hx0 hx1 hx2 hx3 hx4 hx5 HI HBr HSr
        generalize wr.alloc (.cells #[.string x.f0, .string x.f1, .string x.f2, .string x.f3, .int .i64 x.f4, .string x.f5] 49) = Wx at BX HIx HBx HSx ⊢
        generalize wr.heap.size = gx at BX ⊢
        have q0 := (blk_cell BX.out 0).trans rfl
        have q1 := (blk_cell BX.out 1).trans rfl
        have q2 := (blk_cell BX.out 2).trans rfl
        have q3 := (blk_cell BX.out 3).trans rfl
        have q4 := (blk_cell BX.out 4).trans rfl
        have q5 := (blk_cell BX.out 5).trans rfl
        have hz1 : (Lib.byteCells ac).length + u.size ≤ 140737488355328 := by rw [Lib.byteCells_length]; omega
        have HZ1 := Aside0.mk hz1
        clear hz1
        have hfv : impl_FeedText.fv a0_0 = .func (.func (if a0_0 = true then 15 else 14)) #[] #[] := rfl
        obtain rfl | rfl : a0_0 = true ∨ a0_0 = false := by cases a0_0 <;> simp
        ·rw [if_pos rfl] at hfv
         have HX' : Aside0 (impl_atomEntry.f k x.f0 x.f1 x.f2 x.f3 x.f4 x.f5 = some u) := ⟨HX.out⟩
         go_wp2_with (first | (go_at_call 15; refine (impl_atomEntry.calls k x.f0 x.f1 x.f2 x.f3 x.f4 x.f5 u _ HX'.out (Glob.of_below HG.out HBx.out)).mono ?_; rintro e w5 ⟨rfl, hb5⟩; have HI5 := Aside0.mk (Bld.of_below HIx.out hb5); have HB5 := Aside0.mk (below_step HBx.out hb5); have hs5 : gb ≤ w5.heap.size := Nat.le_trans HSx.out hb5.size; clear hb5) | (go_at_call 16; refine (Bld.writeString gb gb _ u _ HI5.out HZ1.out hs5).mono ?_; rintro e w6 ⟨rfl, h6, hb6, hk6⟩; have HI6 : Aside0 (Lib.IsBuilderF 42 5 gb gb (Lib.byteCells (ac ++ u.data.toList)) w6) := ⟨by rw [impl_FeedText.str] at h6; exact h6⟩; have HB6 := Aside0.mk (HB5.out.trans (hb6.mono hwb)); have hs6 : gb ≤ w6.heap.size := Nat.le_trans hs5 hb6.size; clear h6 hb6 hk6))
         go_roundw
         case rel =>
          (repeat apply Exists.intro)
          exact ⟨⟨j + 1, _, by omega, by go_num, HI6, HB6, ⟨hs6⟩, HS2⟩, rfl⟩
         case measure => simp [intOf]; omega
        ·rw [if_neg (by simp)] at hfv
         have HX' : Aside0 (impl_rssItem.f k x.f0 x.f1 x.f2 x.f3 x.f4 x.f5 = some u) := ⟨HX.out⟩
         go_wp2_with (first | (go_at_call 14; refine (impl_rssItem.calls k x.f0 x.f1 x.f2 x.f3 x.f4 x.f5 u _ HX'.out (Glob.of_below HG.out HBx.out)).mono ?_; rintro e w5 ⟨rfl, hb5⟩; have HI5 := Aside0.mk (Bld.of_below HIx.out hb5); have HB5 := Aside0.mk (below_step HBx.out hb5); have hs5 : gb ≤ w5.heap.size := Nat.le_trans HSx.out hb5.size; clear hb5) | (go_at_call 16; refine (Bld.writeString gb gb _ u _ HI5.out HZ1.out hs5).mono ?_; rintro e w6 ⟨rfl, h6, hb6, hk6⟩; have HI6 : Aside0 (Lib.IsBuilderF 42 5 gb gb (Lib.byteCells (ac ++ u.data.toList)) w6) := ⟨by rw [impl_FeedText.str] at h6; exact h6⟩; have HB6 := Aside0.mk (HB5.out.trans (hb6.mono hwb)); have hs6 : gb ≤ w6.heap.size := Nat.le_trans hs5 hb6.size; clear h6 hb6 hk6))
         go_roundw
         case rel =>
          (repeat apply Exists.intro)
          exact ⟨⟨j + 1, _, by omega, by go_num, HI6, HB6, ⟨hs6⟩, HS2⟩, rfl⟩
         case measure => simp [intOf]; omega
       ·rw [if_neg hsz] at HS1
        cases HS1
      ·obtain rfl : j = n := by omega
       have e := HGo.out
       rw [List.drop_eq_nil_of_le (by rw [HN.out]; omega), impl_FeedText.go] at e
       obtain rfl := Option.some.inj e
       have HL : Aside0 ((Lib.byteCells ac).length + (impl_FeedText.end_ a0_0).size ≤ 140737488355328) := ⟨by rw [Lib.byteCells_length]; have := HAL.out; omega⟩
       obtain ⟨L, hL⟩ : ∃ L, ac ++ (impl_FeedText.end_ a0_0).data.toList = L := ⟨_, rfl⟩
       obtain ⟨N, hLN⟩ : ∃ N, L.length = N := ⟨_, rfl⟩
       have HLL := Aside0.mk hL
       have HO2 : Aside0 (impl_FeedText.out L = (r1, r2)) := ⟨by rw [← hL]; exact HO.out⟩
       have HNN := Aside0.mk hLN
       have hgs := HSr.out
       clear e HGo hL hLN HO HSr
       by_cases h7 : 65536 < N
       ·have h7i : (65536 : Int) < (N : Int) := by omega
        have hr : ((⟨#[]⟩ : ByteArray), (7 : Int)) = (r1, r2) := by rw [← HO2.out]; unfold impl_FeedText.out; rw [HNN.out, if_pos h7]
        simp only [Prod.mk.injEq] at hr
        obtain ⟨rfl, rfl⟩ := hr
        go_wp2_with (first | (go_at_call 16; refine (Bld.writeString gb gb _ (impl_FeedText.end_ a0_0) _ HI.out HL.out hgs).mono ?_; rintro e w7 ⟨rfl, h7_, hb7, hk7⟩; have HI7 : Aside0 (Lib.IsBuilderF 42 5 gb gb (Lib.byteCells L) w7) := ⟨by rw [impl_FeedText.str, HLL.out] at h7_; exact h7_⟩; have HB7 := Aside0.mk (HBr.out.trans (hb7.mono hwb)); have hs7 : gb ≤ w7.heap.size := Nat.le_trans hgs hb7.size; clear h7_ hb7 hk7) | (go_at_call 18; refine (impl_FeedText.len gb L N _ HI7.out HNN.out).mono ?_; rintro e w7_ ⟨rfl, rfl⟩))
        go_ret2
        exact ⟨rfl, HB7.out⟩
       ·have h7i : ¬ (65536 : Int) < (N : Int) := by omega
        have hr : ((⟨L.toArray⟩ : ByteArray), (0 : Int)) = (r1, r2) := by rw [← HO2.out]; unfold impl_FeedText.out; rw [HNN.out, if_neg h7]
        simp only [Prod.mk.injEq] at hr
        obtain ⟨rfl, rfl⟩ := hr
        go_wp2_with (first | (go_at_call 16; refine (Bld.writeString gb gb _ (impl_FeedText.end_ a0_0) _ HI.out HL.out hgs).mono ?_; rintro e w7 ⟨rfl, h7_, hb7, hk7⟩; have HI7 : Aside0 (Lib.IsBuilderF 42 5 gb gb (Lib.byteCells L) w7) := ⟨by rw [impl_FeedText.str, HLL.out] at h7_; exact h7_⟩; have HB7 := Aside0.mk (HBr.out.trans (hb7.mono hwb)); have hs7 : gb ≤ w7.heap.size := Nat.le_trans hgs hb7.size; clear h7_ hb7 hk7) | (go_at_call 18; refine (impl_FeedText.len gb L N _ HI7.out HNN.out).mono ?_; rintro e w7_ ⟨rfl, rfl⟩) | (go_at_call 19; refine (Tryz.Builder_String_any_k gb gb L _ HI7.out hs7).mono ?_; rintro e w8 ⟨rfl, h8, hb8, hk8⟩; have HB8 := Aside0.mk (HB7.out.trans (hb8.mono hwb)); clear h8 hb8 hk8))
        go_ret2
        exact ⟨rfl, HB8.out⟩
   ·rw [if_neg hal] at h
    cases h
  ·rw [if_neg hts] at h
   cases h


/-! ### laws_eqEntry: function 36 -/
def laws_eqEntry.f (a0_0 : ByteArray) (a0_1 : ByteArray) (a0_2 : ByteArray) (a0_3 : ByteArray) (a0_4 : Int) (a0_5 : ByteArray) (a1_0 : ByteArray) (a1_1 : ByteArray) (a1_2 : ByteArray) (a1_3 : ByteArray) (a1_4 : Int) (a1_5 : ByteArray) : Option (Bool) := if a0_0.toList = a1_0.toList then (if a0_1.toList = a1_1.toList then (if a0_2.toList = a1_2.toList then (if a0_3.toList = a1_3.toList then (if a0_4 = a1_4 then (if a0_5.toList = a1_5.toList then (some true) else (some false)) else (some false)) else (some false)) else (some false)) else (some false)) else (some false)
set_option maxHeartbeats 8000000 in
set_option maxRecDepth 100000 in
theorem laws_eqEntry.calls (a0_0 : ByteArray) (a0_1 : ByteArray) (a0_2 : ByteArray) (a0_3 : ByteArray) (a0_4 : Int) (a0_5 : ByteArray) (a1_0 : ByteArray) (a1_1 : ByteArray) (a1_2 : ByteArray) (a1_3 : ByteArray) (a1_4 : Int) (a1_5 : ByteArray) (r : Bool) (w : World) (h : laws_eqEntry.f a0_0 a0_1 a0_2 a0_3 a0_4 a0_5 a1_0 a1_1 a1_2 a1_3 a1_4 a1_5 = some r) :
  Calls Tryz.prog 36 #[.agg #[.string a0_0, .string a0_1, .string a0_2, .string a0_3, .int .i64 a0_4, .string a0_5], .agg #[.string a1_0, .string a1_1, .string a1_2, .string a1_3, .int .i64 a1_4, .string a1_5]] w fun e w' => e = .returned (.bool r) ∧ Below w.heap.size w w' := by
 have hu49 := Tryz.underlying49
 have HB := Aside0.mk (Below.refl w.heap.size w)
 have H := h
 unfold laws_eqEntry.f at H
 clear h
 by_cases c3 : a0_0.toList = a1_0.toList
 ·rw [if_pos c3] at H
  have c3b0 : (a0_0.toList == a1_0.toList) = true := beq_iff_eq.mpr c3
  have c3b1 : (a0_0.toList != a1_0.toList) = false := bne_eq_false_iff_eq.mpr c3
  clear c3
  by_cases c4 : a0_1.toList = a1_1.toList
  ·rw [if_pos c4] at H
   have c4b0 : (a0_1.toList == a1_1.toList) = true := beq_iff_eq.mpr c4
   have c4b1 : (a0_1.toList != a1_1.toList) = false := bne_eq_false_iff_eq.mpr c4
   clear c4
   by_cases c5 : a0_2.toList = a1_2.toList
   ·rw [if_pos c5] at H
    have c5b0 : (a0_2.toList == a1_2.toList) = true := beq_iff_eq.mpr c5
    have c5b1 : (a0_2.toList != a1_2.toList) = false := bne_eq_false_iff_eq.mpr c5
    clear c5
    by_cases c6 : a0_3.toList = a1_3.toList
    ·rw [if_pos c6] at H
     have c6b0 : (a0_3.toList == a1_3.toList) = true := beq_iff_eq.mpr c6
     have c6b1 : (a0_3.toList != a1_3.toList) = false := bne_eq_false_iff_eq.mpr c6
     clear c6
     by_cases c7 : a0_4 = a1_4
     ·rw [if_pos c7] at H
      have c7b0 : (a0_4 == a1_4) = true := beq_iff_eq.mpr c7
      have c7b1 : (a0_4 != a1_4) = false := bne_eq_false_iff_eq.mpr c7
      clear c7
      by_cases c8 : a0_5.toList = a1_5.toList
      ·rw [if_pos c8] at H
       have c8b0 : (a0_5.toList == a1_5.toList) = true := beq_iff_eq.mpr c8
       have c8b1 : (a0_5.toList != a1_5.toList) = false := bne_eq_false_iff_eq.mpr c8
       clear c8
       obtain rfl := Option.some.inj H
       go_enter Tryz.func36, Tryz.ntmps36
       go_wp2_with (first | ((with_reducible refine gate_dst (N := 2) rfl ?_); refine box_event ?hg (N := 2) ?hd (cs := #[.string a0_0, .string a0_1, .string a0_2, .string a0_3, .int .i64 a0_4, .string a0_5]) (t := 49) ?hr ?_; (case hd => rfl); (case hg => rfl); (case hr => first | (go_simp; done) | (go_simp; rfl)); intro gb357 hg w9 hbox hb; have BK357 := Aside0.mk (hbox); have GW357 := Aside0.mk ((by rw [hg]; exact (below_size (by repeat (first | (with_reducible first | exact HB.out | apply ba | apply bn | apply bd) | exact HB.out))) : w.heap.size ≤ gb357)); have GE357 := GW357; replace HB := Aside0.mk (below_step (by repeat (first | (with_reducible first | exact HB.out | apply ba | apply bn | apply bd) | exact HB.out)) hb); clear hb hbox hg) | ((with_reducible refine gate_dst (N := 3) rfl ?_); refine box_event ?hg (N := 3) ?hd (cs := #[.string a1_0, .string a1_1, .string a1_2, .string a1_3, .int .i64 a1_4, .string a1_5]) (t := 49) ?hr ?_; (case hd => rfl); (case hg => rfl); (case hr => first | (go_simp; done) | (go_simp; rfl)); intro gb358 hg w10 hbox hb; have BK358 := Aside0.mk (hbox); have GW358 := Aside0.mk ((by rw [hg]; exact (below_size (by repeat (first | (with_reducible first | exact HB.out | apply ba | apply bn | apply bd | refine below_set ?_ GE357.out) | exact HB.out))) : w.heap.size ≤ gb358)); have GE358 := GW358; have NB357_358 := Aside0.mk ((by rw [hg]; exact Nat.ne_of_lt (blk_lt (g := gb357) (o := .cells #[.string a0_0, .string a0_1, .string a0_2, .string a0_3, .int .i64 a0_4, .string a0_5] 49 (0, 0)) (by (with_reducible repeat (first | refine blk_drewN ?_ _ | refine blk_drew ?_ | refine blk_alloc ?_ _)); exact BK357.out)) : gb357 ≠ gb358)); have NB358_357 := Aside0.mk ((by rw [hg]; exact Nat.ne_of_gt (blk_lt (g := gb357) (o := .cells #[.string a0_0, .string a0_1, .string a0_2, .string a0_3, .int .i64 a0_4, .string a0_5] 49 (0, 0)) (by (with_reducible repeat (first | refine blk_drewN ?_ _ | refine blk_drew ?_ | refine blk_alloc ?_ _)); exact BK357.out)) : gb358 ≠ gb357)); replace BK357 := Aside0.mk (blk_below (g := gb357) (o := .cells #[.string a0_0, .string a0_1, .string a0_2, .string a0_3, .int .i64 a0_4, .string a0_5] 49 (0, 0)) (by (with_reducible repeat (first | refine blk_drewN ?_ _ | refine blk_drew ?_ | refine blk_alloc ?_ _)); exact BK357.out) hb); replace HB := Aside0.mk (below_step (by repeat (first | (with_reducible first | exact HB.out | apply ba | apply bn | apply bd | refine below_set ?_ GE357.out) | exact HB.out)) hb); clear hb hbox hg; have hnb11 := NB357_358.out; have hnc11 := NB358_357.out; obtain ⟨hcz12_0, hcz12_1, hcz12_2, hcz12_3, hcz12_4, hcz12_5, hfz12_0, hfz12_1, hfz12_2, hfz12_3, hfz12_4, hfz12_5⟩ := blk6 BK357.out; obtain ⟨hcz13_0, hcz13_1, hcz13_2, hcz13_3, hcz13_4, hcz13_5, hfz13_0, hfz13_1, hfz13_2, hfz13_3, hfz13_4, hfz13_5⟩ := blk6 BK358.out))
       go_ret
       exact ⟨by first | rfl | (simp [*] <;> rfl), by repeat (first | (with_reducible first | exact HB.out | apply ba | apply bn | apply bd | refine below_set ?_ GE357.out | refine below_set ?_ GE358.out) | exact HB.out)⟩
      ·rw [if_neg c8] at H
       have c8b0 : (a0_5.toList == a1_5.toList) = false := beq_eq_false_iff_ne.mpr c8
       have c8b1 : (a0_5.toList != a1_5.toList) = true := bne_iff_ne.mpr c8
       obtain rfl := Option.some.inj H
       go_enter Tryz.func36, Tryz.ntmps36
       go_wp2_with (first | ((with_reducible refine gate_dst (N := 2) rfl ?_); refine box_event ?hg (N := 2) ?hd (cs := #[.string a0_0, .string a0_1, .string a0_2, .string a0_3, .int .i64 a0_4, .string a0_5]) (t := 49) ?hr ?_; (case hd => rfl); (case hg => rfl); (case hr => first | (go_simp; done) | (go_simp; rfl)); intro gb357 hg w14 hbox hb; have BK357 := Aside0.mk (hbox); have GW357 := Aside0.mk ((by rw [hg]; exact (below_size (by repeat (first | (with_reducible first | exact HB.out | apply ba | apply bn | apply bd) | exact HB.out))) : w.heap.size ≤ gb357)); have GE357 := GW357; replace HB := Aside0.mk (below_step (by repeat (first | (with_reducible first | exact HB.out | apply ba | apply bn | apply bd) | exact HB.out)) hb); clear hb hbox hg) | ((with_reducible refine gate_dst (N := 3) rfl ?_); refine box_event ?hg (N := 3) ?hd (cs := #[.string a1_0, .string a1_1, .string a1_2, .string a1_3, .int .i64 a1_4, .string a1_5]) (t := 49) ?hr ?_; (case hd => rfl); (case hg => rfl); (case hr => first | (go_simp; done) | (go_simp; rfl)); intro gb358 hg w15 hbox hb; have BK358 := Aside0.mk (hbox); have GW358 := Aside0.mk ((by rw [hg]; exact (below_size (by repeat (first | (with_reducible first | exact HB.out | apply ba | apply bn | apply bd | refine below_set ?_ GE357.out) | exact HB.out))) : w.heap.size ≤ gb358)); have GE358 := GW358; have NB357_358 := Aside0.mk ((by rw [hg]; exact Nat.ne_of_lt (blk_lt (g := gb357) (o := .cells #[.string a0_0, .string a0_1, .string a0_2, .string a0_3, .int .i64 a0_4, .string a0_5] 49 (0, 0)) (by (with_reducible repeat (first | refine blk_drewN ?_ _ | refine blk_drew ?_ | refine blk_alloc ?_ _)); exact BK357.out)) : gb357 ≠ gb358)); have NB358_357 := Aside0.mk ((by rw [hg]; exact Nat.ne_of_gt (blk_lt (g := gb357) (o := .cells #[.string a0_0, .string a0_1, .string a0_2, .string a0_3, .int .i64 a0_4, .string a0_5] 49 (0, 0)) (by (with_reducible repeat (first | refine blk_drewN ?_ _ | refine blk_drew ?_ | refine blk_alloc ?_ _)); exact BK357.out)) : gb358 ≠ gb357)); replace BK357 := Aside0.mk (blk_below (g := gb357) (o := .cells #[.string a0_0, .string a0_1, .string a0_2, .string a0_3, .int .i64 a0_4, .string a0_5] 49 (0, 0)) (by (with_reducible repeat (first | refine blk_drewN ?_ _ | refine blk_drew ?_ | refine blk_alloc ?_ _)); exact BK357.out) hb); replace HB := Aside0.mk (below_step (by repeat (first | (with_reducible first | exact HB.out | apply ba | apply bn | apply bd | refine below_set ?_ GE357.out) | exact HB.out)) hb); clear hb hbox hg; have hnb16 := NB357_358.out; have hnc16 := NB358_357.out; obtain ⟨hcz17_0, hcz17_1, hcz17_2, hcz17_3, hcz17_4, hcz17_5, hfz17_0, hfz17_1, hfz17_2, hfz17_3, hfz17_4, hfz17_5⟩ := blk6 BK357.out; obtain ⟨hcz18_0, hcz18_1, hcz18_2, hcz18_3, hcz18_4, hcz18_5, hfz18_0, hfz18_1, hfz18_2, hfz18_3, hfz18_4, hfz18_5⟩ := blk6 BK358.out))
       go_ret
       exact ⟨by first | rfl | (simp [*] <;> rfl), by repeat (first | (with_reducible first | exact HB.out | apply ba | apply bn | apply bd | refine below_set ?_ GE357.out | refine below_set ?_ GE358.out) | exact HB.out)⟩
     ·rw [if_neg c7] at H
      have c7b0 : (a0_4 == a1_4) = false := beq_eq_false_iff_ne.mpr c7
      have c7b1 : (a0_4 != a1_4) = true := bne_iff_ne.mpr c7
      obtain rfl := Option.some.inj H
      go_enter Tryz.func36, Tryz.ntmps36
      go_wp2_with (first | ((with_reducible refine gate_dst (N := 2) rfl ?_); refine box_event ?hg (N := 2) ?hd (cs := #[.string a0_0, .string a0_1, .string a0_2, .string a0_3, .int .i64 a0_4, .string a0_5]) (t := 49) ?hr ?_; (case hd => rfl); (case hg => rfl); (case hr => first | (go_simp; done) | (go_simp; rfl)); intro gb357 hg w19 hbox hb; have BK357 := Aside0.mk (hbox); have GW357 := Aside0.mk ((by rw [hg]; exact (below_size (by repeat (first | (with_reducible first | exact HB.out | apply ba | apply bn | apply bd) | exact HB.out))) : w.heap.size ≤ gb357)); have GE357 := GW357; replace HB := Aside0.mk (below_step (by repeat (first | (with_reducible first | exact HB.out | apply ba | apply bn | apply bd) | exact HB.out)) hb); clear hb hbox hg) | ((with_reducible refine gate_dst (N := 3) rfl ?_); refine box_event ?hg (N := 3) ?hd (cs := #[.string a1_0, .string a1_1, .string a1_2, .string a1_3, .int .i64 a1_4, .string a1_5]) (t := 49) ?hr ?_; (case hd => rfl); (case hg => rfl); (case hr => first | (go_simp; done) | (go_simp; rfl)); intro gb358 hg w20 hbox hb; have BK358 := Aside0.mk (hbox); have GW358 := Aside0.mk ((by rw [hg]; exact (below_size (by repeat (first | (with_reducible first | exact HB.out | apply ba | apply bn | apply bd | refine below_set ?_ GE357.out) | exact HB.out))) : w.heap.size ≤ gb358)); have GE358 := GW358; have NB357_358 := Aside0.mk ((by rw [hg]; exact Nat.ne_of_lt (blk_lt (g := gb357) (o := .cells #[.string a0_0, .string a0_1, .string a0_2, .string a0_3, .int .i64 a0_4, .string a0_5] 49 (0, 0)) (by (with_reducible repeat (first | refine blk_drewN ?_ _ | refine blk_drew ?_ | refine blk_alloc ?_ _)); exact BK357.out)) : gb357 ≠ gb358)); have NB358_357 := Aside0.mk ((by rw [hg]; exact Nat.ne_of_gt (blk_lt (g := gb357) (o := .cells #[.string a0_0, .string a0_1, .string a0_2, .string a0_3, .int .i64 a0_4, .string a0_5] 49 (0, 0)) (by (with_reducible repeat (first | refine blk_drewN ?_ _ | refine blk_drew ?_ | refine blk_alloc ?_ _)); exact BK357.out)) : gb358 ≠ gb357)); replace BK357 := Aside0.mk (blk_below (g := gb357) (o := .cells #[.string a0_0, .string a0_1, .string a0_2, .string a0_3, .int .i64 a0_4, .string a0_5] 49 (0, 0)) (by (with_reducible repeat (first | refine blk_drewN ?_ _ | refine blk_drew ?_ | refine blk_alloc ?_ _)); exact BK357.out) hb); replace HB := Aside0.mk (below_step (by repeat (first | (with_reducible first | exact HB.out | apply ba | apply bn | apply bd | refine below_set ?_ GE357.out) | exact HB.out)) hb); clear hb hbox hg; have hnb21 := NB357_358.out; have hnc21 := NB358_357.out; obtain ⟨hcz22_0, hcz22_1, hcz22_2, hcz22_3, hcz22_4, hcz22_5, hfz22_0, hfz22_1, hfz22_2, hfz22_3, hfz22_4, hfz22_5⟩ := blk6 BK357.out; obtain ⟨hcz23_0, hcz23_1, hcz23_2, hcz23_3, hcz23_4, hcz23_5, hfz23_0, hfz23_1, hfz23_2, hfz23_3, hfz23_4, hfz23_5⟩ := blk6 BK358.out))
      go_ret
      exact ⟨by first | rfl | (simp [*] <;> rfl), by repeat (first | (with_reducible first | exact HB.out | apply ba | apply bn | apply bd | refine below_set ?_ GE357.out | refine below_set ?_ GE358.out) | exact HB.out)⟩
    ·rw [if_neg c6] at H
     have c6b0 : (a0_3.toList == a1_3.toList) = false := beq_eq_false_iff_ne.mpr c6
     have c6b1 : (a0_3.toList != a1_3.toList) = true := bne_iff_ne.mpr c6
     obtain rfl := Option.some.inj H
     go_enter Tryz.func36, Tryz.ntmps36
     go_wp2_with (first | ((with_reducible refine gate_dst (N := 2) rfl ?_); refine box_event ?hg (N := 2) ?hd (cs := #[.string a0_0, .string a0_1, .string a0_2, .string a0_3, .int .i64 a0_4, .string a0_5]) (t := 49) ?hr ?_; (case hd => rfl); (case hg => rfl); (case hr => first | (go_simp; done) | (go_simp; rfl)); intro gb357 hg w24 hbox hb; have BK357 := Aside0.mk (hbox); have GW357 := Aside0.mk ((by rw [hg]; exact (below_size (by repeat (first | (with_reducible first | exact HB.out | apply ba | apply bn | apply bd) | exact HB.out))) : w.heap.size ≤ gb357)); have GE357 := GW357; replace HB := Aside0.mk (below_step (by repeat (first | (with_reducible first | exact HB.out | apply ba | apply bn | apply bd) | exact HB.out)) hb); clear hb hbox hg) | ((with_reducible refine gate_dst (N := 3) rfl ?_); refine box_event ?hg (N := 3) ?hd (cs := #[.string a1_0, .string a1_1, .string a1_2, .string a1_3, .int .i64 a1_4, .string a1_5]) (t := 49) ?hr ?_; (case hd => rfl); (case hg => rfl); (case hr => first | (go_simp; done) | (go_simp; rfl)); intro gb358 hg w25 hbox hb; have BK358 := Aside0.mk (hbox); have GW358 := Aside0.mk ((by rw [hg]; exact (below_size (by repeat (first | (with_reducible first | exact HB.out | apply ba | apply bn | apply bd | refine below_set ?_ GE357.out) | exact HB.out))) : w.heap.size ≤ gb358)); have GE358 := GW358; have NB357_358 := Aside0.mk ((by rw [hg]; exact Nat.ne_of_lt (blk_lt (g := gb357) (o := .cells #[.string a0_0, .string a0_1, .string a0_2, .string a0_3, .int .i64 a0_4, .string a0_5] 49 (0, 0)) (by (with_reducible repeat (first | refine blk_drewN ?_ _ | refine blk_drew ?_ | refine blk_alloc ?_ _)); exact BK357.out)) : gb357 ≠ gb358)); have NB358_357 := Aside0.mk ((by rw [hg]; exact Nat.ne_of_gt (blk_lt (g := gb357) (o := .cells #[.string a0_0, .string a0_1, .string a0_2, .string a0_3, .int .i64 a0_4, .string a0_5] 49 (0, 0)) (by (with_reducible repeat (first | refine blk_drewN ?_ _ | refine blk_drew ?_ | refine blk_alloc ?_ _)); exact BK357.out)) : gb358 ≠ gb357)); replace BK357 := Aside0.mk (blk_below (g := gb357) (o := .cells #[.string a0_0, .string a0_1, .string a0_2, .string a0_3, .int .i64 a0_4, .string a0_5] 49 (0, 0)) (by (with_reducible repeat (first | refine blk_drewN ?_ _ | refine blk_drew ?_ | refine blk_alloc ?_ _)); exact BK357.out) hb); replace HB := Aside0.mk (below_step (by repeat (first | (with_reducible first | exact HB.out | apply ba | apply bn | apply bd | refine below_set ?_ GE357.out) | exact HB.out)) hb); clear hb hbox hg; have hnb26 := NB357_358.out; have hnc26 := NB358_357.out; obtain ⟨hcz27_0, hcz27_1, hcz27_2, hcz27_3, hcz27_4, hcz27_5, hfz27_0, hfz27_1, hfz27_2, hfz27_3, hfz27_4, hfz27_5⟩ := blk6 BK357.out; obtain ⟨hcz28_0, hcz28_1, hcz28_2, hcz28_3, hcz28_4, hcz28_5, hfz28_0, hfz28_1, hfz28_2, hfz28_3, hfz28_4, hfz28_5⟩ := blk6 BK358.out))
     go_ret
     exact ⟨by first | rfl | (simp [*] <;> rfl), by repeat (first | (with_reducible first | exact HB.out | apply ba | apply bn | apply bd | refine below_set ?_ GE357.out | refine below_set ?_ GE358.out) | exact HB.out)⟩
   ·rw [if_neg c5] at H
    have c5b0 : (a0_2.toList == a1_2.toList) = false := beq_eq_false_iff_ne.mpr c5
    have c5b1 : (a0_2.toList != a1_2.toList) = true := bne_iff_ne.mpr c5
    obtain rfl := Option.some.inj H
    go_enter Tryz.func36, Tryz.ntmps36
    go_wp2_with (first | ((with_reducible refine gate_dst (N := 2) rfl ?_); refine box_event ?hg (N := 2) ?hd (cs := #[.string a0_0, .string a0_1, .string a0_2, .string a0_3, .int .i64 a0_4, .string a0_5]) (t := 49) ?hr ?_; (case hd => rfl); (case hg => rfl); (case hr => first | (go_simp; done) | (go_simp; rfl)); intro gb357 hg w29 hbox hb; have BK357 := Aside0.mk (hbox); have GW357 := Aside0.mk ((by rw [hg]; exact (below_size (by repeat (first | (with_reducible first | exact HB.out | apply ba | apply bn | apply bd) | exact HB.out))) : w.heap.size ≤ gb357)); have GE357 := GW357; replace HB := Aside0.mk (below_step (by repeat (first | (with_reducible first | exact HB.out | apply ba | apply bn | apply bd) | exact HB.out)) hb); clear hb hbox hg) | ((with_reducible refine gate_dst (N := 3) rfl ?_); refine box_event ?hg (N := 3) ?hd (cs := #[.string a1_0, .string a1_1, .string a1_2, .string a1_3, .int .i64 a1_4, .string a1_5]) (t := 49) ?hr ?_; (case hd => rfl); (case hg => rfl); (case hr => first | (go_simp; done) | (go_simp; rfl)); intro gb358 hg w30 hbox hb; have BK358 := Aside0.mk (hbox); have GW358 := Aside0.mk ((by rw [hg]; exact (below_size (by repeat (first | (with_reducible first | exact HB.out | apply ba | apply bn | apply bd | refine below_set ?_ GE357.out) | exact HB.out))) : w.heap.size ≤ gb358)); have GE358 := GW358; have NB357_358 := Aside0.mk ((by rw [hg]; exact Nat.ne_of_lt (blk_lt (g := gb357) (o := .cells #[.string a0_0, .string a0_1, .string a0_2, .string a0_3, .int .i64 a0_4, .string a0_5] 49 (0, 0)) (by (with_reducible repeat (first | refine blk_drewN ?_ _ | refine blk_drew ?_ | refine blk_alloc ?_ _)); exact BK357.out)) : gb357 ≠ gb358)); have NB358_357 := Aside0.mk ((by rw [hg]; exact Nat.ne_of_gt (blk_lt (g := gb357) (o := .cells #[.string a0_0, .string a0_1, .string a0_2, .string a0_3, .int .i64 a0_4, .string a0_5] 49 (0, 0)) (by (with_reducible repeat (first | refine blk_drewN ?_ _ | refine blk_drew ?_ | refine blk_alloc ?_ _)); exact BK357.out)) : gb358 ≠ gb357)); replace BK357 := Aside0.mk (blk_below (g := gb357) (o := .cells #[.string a0_0, .string a0_1, .string a0_2, .string a0_3, .int .i64 a0_4, .string a0_5] 49 (0, 0)) (by (with_reducible repeat (first | refine blk_drewN ?_ _ | refine blk_drew ?_ | refine blk_alloc ?_ _)); exact BK357.out) hb); replace HB := Aside0.mk (below_step (by repeat (first | (with_reducible first | exact HB.out | apply ba | apply bn | apply bd | refine below_set ?_ GE357.out) | exact HB.out)) hb); clear hb hbox hg; have hnb31 := NB357_358.out; have hnc31 := NB358_357.out; obtain ⟨hcz32_0, hcz32_1, hcz32_2, hcz32_3, hcz32_4, hcz32_5, hfz32_0, hfz32_1, hfz32_2, hfz32_3, hfz32_4, hfz32_5⟩ := blk6 BK357.out; obtain ⟨hcz33_0, hcz33_1, hcz33_2, hcz33_3, hcz33_4, hcz33_5, hfz33_0, hfz33_1, hfz33_2, hfz33_3, hfz33_4, hfz33_5⟩ := blk6 BK358.out))
    go_ret
    exact ⟨by first | rfl | (simp [*] <;> rfl), by repeat (first | (with_reducible first | exact HB.out | apply ba | apply bn | apply bd | refine below_set ?_ GE357.out | refine below_set ?_ GE358.out) | exact HB.out)⟩
  ·rw [if_neg c4] at H
   have c4b0 : (a0_1.toList == a1_1.toList) = false := beq_eq_false_iff_ne.mpr c4
   have c4b1 : (a0_1.toList != a1_1.toList) = true := bne_iff_ne.mpr c4
   obtain rfl := Option.some.inj H
   go_enter Tryz.func36, Tryz.ntmps36
   go_wp2_with (first | ((with_reducible refine gate_dst (N := 2) rfl ?_); refine box_event ?hg (N := 2) ?hd (cs := #[.string a0_0, .string a0_1, .string a0_2, .string a0_3, .int .i64 a0_4, .string a0_5]) (t := 49) ?hr ?_; (case hd => rfl); (case hg => rfl); (case hr => first | (go_simp; done) | (go_simp; rfl)); intro gb357 hg w34 hbox hb; have BK357 := Aside0.mk (hbox); have GW357 := Aside0.mk ((by rw [hg]; exact (below_size (by repeat (first | (with_reducible first | exact HB.out | apply ba | apply bn | apply bd) | exact HB.out))) : w.heap.size ≤ gb357)); have GE357 := GW357; replace HB := Aside0.mk (below_step (by repeat (first | (with_reducible first | exact HB.out | apply ba | apply bn | apply bd) | exact HB.out)) hb); clear hb hbox hg) | ((with_reducible refine gate_dst (N := 3) rfl ?_); refine box_event ?hg (N := 3) ?hd (cs := #[.string a1_0, .string a1_1, .string a1_2, .string a1_3, .int .i64 a1_4, .string a1_5]) (t := 49) ?hr ?_; (case hd => rfl); (case hg => rfl); (case hr => first | (go_simp; done) | (go_simp; rfl)); intro gb358 hg w35 hbox hb; have BK358 := Aside0.mk (hbox); have GW358 := Aside0.mk ((by rw [hg]; exact (below_size (by repeat (first | (with_reducible first | exact HB.out | apply ba | apply bn | apply bd | refine below_set ?_ GE357.out) | exact HB.out))) : w.heap.size ≤ gb358)); have GE358 := GW358; have NB357_358 := Aside0.mk ((by rw [hg]; exact Nat.ne_of_lt (blk_lt (g := gb357) (o := .cells #[.string a0_0, .string a0_1, .string a0_2, .string a0_3, .int .i64 a0_4, .string a0_5] 49 (0, 0)) (by (with_reducible repeat (first | refine blk_drewN ?_ _ | refine blk_drew ?_ | refine blk_alloc ?_ _)); exact BK357.out)) : gb357 ≠ gb358)); have NB358_357 := Aside0.mk ((by rw [hg]; exact Nat.ne_of_gt (blk_lt (g := gb357) (o := .cells #[.string a0_0, .string a0_1, .string a0_2, .string a0_3, .int .i64 a0_4, .string a0_5] 49 (0, 0)) (by (with_reducible repeat (first | refine blk_drewN ?_ _ | refine blk_drew ?_ | refine blk_alloc ?_ _)); exact BK357.out)) : gb358 ≠ gb357)); replace BK357 := Aside0.mk (blk_below (g := gb357) (o := .cells #[.string a0_0, .string a0_1, .string a0_2, .string a0_3, .int .i64 a0_4, .string a0_5] 49 (0, 0)) (by (with_reducible repeat (first | refine blk_drewN ?_ _ | refine blk_drew ?_ | refine blk_alloc ?_ _)); exact BK357.out) hb); replace HB := Aside0.mk (below_step (by repeat (first | (with_reducible first | exact HB.out | apply ba | apply bn | apply bd | refine below_set ?_ GE357.out) | exact HB.out)) hb); clear hb hbox hg; have hnb36 := NB357_358.out; have hnc36 := NB358_357.out; obtain ⟨hcz37_0, hcz37_1, hcz37_2, hcz37_3, hcz37_4, hcz37_5, hfz37_0, hfz37_1, hfz37_2, hfz37_3, hfz37_4, hfz37_5⟩ := blk6 BK357.out; obtain ⟨hcz38_0, hcz38_1, hcz38_2, hcz38_3, hcz38_4, hcz38_5, hfz38_0, hfz38_1, hfz38_2, hfz38_3, hfz38_4, hfz38_5⟩ := blk6 BK358.out))
   go_ret
   exact ⟨by first | rfl | (simp [*] <;> rfl), by repeat (first | (with_reducible first | exact HB.out | apply ba | apply bn | apply bd | refine below_set ?_ GE357.out | refine below_set ?_ GE358.out) | exact HB.out)⟩
 ·rw [if_neg c3] at H
  have c3b0 : (a0_0.toList == a1_0.toList) = false := beq_eq_false_iff_ne.mpr c3
  have c3b1 : (a0_0.toList != a1_0.toList) = true := bne_iff_ne.mpr c3
  obtain rfl := Option.some.inj H
  go_enter Tryz.func36, Tryz.ntmps36
  go_wp2_with (first | ((with_reducible refine gate_dst (N := 2) rfl ?_); refine box_event ?hg (N := 2) ?hd (cs := #[.string a0_0, .string a0_1, .string a0_2, .string a0_3, .int .i64 a0_4, .string a0_5]) (t := 49) ?hr ?_; (case hd => rfl); (case hg => rfl); (case hr => first | (go_simp; done) | (go_simp; rfl)); intro gb357 hg w39 hbox hb; have BK357 := Aside0.mk (hbox); have GW357 := Aside0.mk ((by rw [hg]; exact (below_size (by repeat (first | (with_reducible first | exact HB.out | apply ba | apply bn | apply bd) | exact HB.out))) : w.heap.size ≤ gb357)); have GE357 := GW357; replace HB := Aside0.mk (below_step (by repeat (first | (with_reducible first | exact HB.out | apply ba | apply bn | apply bd) | exact HB.out)) hb); clear hb hbox hg) | ((with_reducible refine gate_dst (N := 3) rfl ?_); refine box_event ?hg (N := 3) ?hd (cs := #[.string a1_0, .string a1_1, .string a1_2, .string a1_3, .int .i64 a1_4, .string a1_5]) (t := 49) ?hr ?_; (case hd => rfl); (case hg => rfl); (case hr => first | (go_simp; done) | (go_simp; rfl)); intro gb358 hg w40 hbox hb; have BK358 := Aside0.mk (hbox); have GW358 := Aside0.mk ((by rw [hg]; exact (below_size (by repeat (first | (with_reducible first | exact HB.out | apply ba | apply bn | apply bd | refine below_set ?_ GE357.out) | exact HB.out))) : w.heap.size ≤ gb358)); have GE358 := GW358; have NB357_358 := Aside0.mk ((by rw [hg]; exact Nat.ne_of_lt (blk_lt (g := gb357) (o := .cells #[.string a0_0, .string a0_1, .string a0_2, .string a0_3, .int .i64 a0_4, .string a0_5] 49 (0, 0)) (by (with_reducible repeat (first | refine blk_drewN ?_ _ | refine blk_drew ?_ | refine blk_alloc ?_ _)); exact BK357.out)) : gb357 ≠ gb358)); have NB358_357 := Aside0.mk ((by rw [hg]; exact Nat.ne_of_gt (blk_lt (g := gb357) (o := .cells #[.string a0_0, .string a0_1, .string a0_2, .string a0_3, .int .i64 a0_4, .string a0_5] 49 (0, 0)) (by (with_reducible repeat (first | refine blk_drewN ?_ _ | refine blk_drew ?_ | refine blk_alloc ?_ _)); exact BK357.out)) : gb358 ≠ gb357)); replace BK357 := Aside0.mk (blk_below (g := gb357) (o := .cells #[.string a0_0, .string a0_1, .string a0_2, .string a0_3, .int .i64 a0_4, .string a0_5] 49 (0, 0)) (by (with_reducible repeat (first | refine blk_drewN ?_ _ | refine blk_drew ?_ | refine blk_alloc ?_ _)); exact BK357.out) hb); replace HB := Aside0.mk (below_step (by repeat (first | (with_reducible first | exact HB.out | apply ba | apply bn | apply bd | refine below_set ?_ GE357.out) | exact HB.out)) hb); clear hb hbox hg; have hnb41 := NB357_358.out; have hnc41 := NB358_357.out; obtain ⟨hcz42_0, hcz42_1, hcz42_2, hcz42_3, hcz42_4, hcz42_5, hfz42_0, hfz42_1, hfz42_2, hfz42_3, hfz42_4, hfz42_5⟩ := blk6 BK357.out; obtain ⟨hcz43_0, hcz43_1, hcz43_2, hcz43_3, hcz43_4, hcz43_5, hfz43_0, hfz43_1, hfz43_2, hfz43_3, hfz43_4, hfz43_5⟩ := blk6 BK358.out))
  go_ret
  exact ⟨by first | rfl | (simp [*] <;> rfl), by repeat (first | (with_reducible first | exact HB.out | apply ba | apply bn | apply bd | refine below_set ?_ GE357.out | refine below_set ?_ GE358.out) | exact HB.out)⟩

end Go.Proofs.YteknchhlineciaaGreatDoor.QFnExactFeedText
