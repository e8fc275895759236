/- Printed by a program of this session's own (wip/myprint.py): the functions that FnExactFeedText reaches as plain Lean functions, and that Go's calls do what they say. Conditions: as each theorem states. -/
import Derived.Test.YteknchhlineciaaGreatDoorQFnExactFeedTextx0
import Derived.Test.YteknchhlineciaaGreatDoorQFnExactFeedTextx7
namespace Go.Proofs.YteknchhlineciaaGreatDoor.QFnExactFeedText
open Go.RowKit Go.Proofs.YteknchhlineciaaGreatDoorW.PrintWords Go.Proofs.YteknchhlineciaaGreatDoorW.PrintLast Go.Proofs.YteknchhlineciaaGreatDoorW.PrintMore
attribute [local go_sem] max2_int min2_int max_two min_two max_three min_three max_four min_four   -- for this text's walks alone
set_option linter.unusedVariables false
set_option linter.unusedSimpArgs false

/-! ### impl_oneLine: function 44, a text in one line: walked by hand -/
def impl_oneLine.p (r : Nat) : Bool := decide ((r : Int) = 9 ∨ (r : Int) = 10 ∨ (r : Int) = 13 ∨ (r : Int) = 32)
def impl_oneLine.f (a0 : ByteArray) : Option (ByteArray) := if a0.size ≤ 4294967280 then strings_Join.f (Lib.goFieldsP impl_oneLine.p a0) (⟨#[32]⟩ : ByteArray) else none
set_option maxHeartbeats 4000000 in
set_option maxRecDepth 100000 in
theorem impl_oneLine.pred (w : World) : PredGrows Tryz.prog 70 #[] impl_oneLine.p w := by
 intro W x hx hb
 clear hb
 show Calls Tryz.prog 70 #[.int .i32 x] W _
 by_cases hlt : x < 128
 ·have hb1 : decide ((x : Int) < 128) = true := decide_eq_true (by omega)
  have hr : impl_isBlank.f (x : Int) = some (impl_oneLine.p x) := by
   unfold impl_isBlank.f impl_oneLine.p
   by_cases h1 : (x : Int) = 9
   ·simp [h1]
   by_cases h2 : (x : Int) = 10
   ·simp [h2]
   by_cases h3 : (x : Int) = 13
   ·simp [h3]
   by_cases h4 : (x : Int) = 32
   ·simp [h4]
   ·simp [h1, h2, h3, h4]
  generalize impl_oneLine.p x = q at hr ⊢
  have HR := Aside0.mk hr
  clear hr
  have hw : (x : Int) % 256 = x := by omega
  go_enter Tryz.func70, Tryz.ntmps70
  go_wp2_with (go_at_call 71; refine (impl_isBlank.calls (x : Int) q _ HR.out).mono ?_; rintro e w3 ⟨rfl, ⟨nd, rfl⟩⟩)
  go_ret
  exact ⟨rfl, pw_below_drewN (Below.refl _ _) nd⟩
 ·have hb1 : decide ((x : Int) < 128) = false := decide_eq_false (by omega)
  have hr : impl_oneLine.p x = false := decide_eq_false (by omega)
  rw [hr]
  clear hr
  go_enter Tryz.func70, Tryz.ntmps70
  go_wp2
  go_ret
  exact ⟨rfl, Below.refl _ _⟩
theorem impl_oneLine.row {w w' : World} {A : Nat} {xs : List ByteArray} (hown : w'.ownsRow w.heap.size 9 1 (.slice (some ⟨A, 0, none⟩) xs.length xs.length) xs.length (xs.map Value.string)) : Kd.C Kd.string w' (some ⟨A, 0, none⟩) xs.length xs := by
 have h : Kd.R Kd.string 9 w' w.heap.size (fun _ => True) (.slice (some ⟨A, 0, none⟩) xs.length xs.length) xs := by
  refine ⟨fun _ _ => trivial, xs.map Value.string, hown, ⟨by simp [Kd.string, Kd.scalar], fun j p hj => ?_⟩⟩
  show ((xs.map Value.string).drop (j * 1)).take 1 = [Value.string p]
  have hl : j < xs.length := (List.getElem?_eq_some_iff.1 hj).1
  rw [Nat.mul_one, List.drop_eq_getElem_cons (by simpa using hl)]
  simp [(List.getElem?_eq_some_iff.1 hj).2]
 obtain ⟨A', c, he, _, hC⟩ := Kd.R_reads h
 injection he with e1 _ _
 rw [e1]
 exact hC
set_option maxHeartbeats 4000000 in
set_option maxRecDepth 100000 in
theorem impl_oneLine.calls (a0 : ByteArray) (r : ByteArray) (w : World) (h : impl_oneLine.f a0 = some r) :
  Calls Tryz.prog 44 #[.string a0] w fun e w' => e = .returned (.string r) ∧ Below w.heap.size w w' := by
 unfold impl_oneLine.f at h
 by_cases hs : a0.size ≤ 4294967280
 ·rw [if_pos hs] at h
  have HF := Aside0.mk (Tryz.strings_FieldsFunc_grows 70 #[] (enters_of Tryz.func70 (by kernel_rfl) rfl) impl_oneLine.p a0 w (by omega) (impl_oneLine.pred w))
  generalize Lib.goFieldsP impl_oneLine.p a0 = xs at h HF
  have HH := Aside0.mk h
  clear h
  go_enter Tryz.func44, Tryz.ntmps44
  go_wp2_with (first | (go_at_call 69; refine HF.out.mono ?_; rintro e w1 ⟨A, rfl, hA, hown, hb1⟩; have HC := Aside0.mk (impl_oneLine.row hown); have HB1 := Aside0.mk hb1; clear hA hown hb1) | (go_at_call 68; refine (strings_Join.calls (some ⟨A, 0, none⟩) xs.length xs (⟨#[32]⟩ : ByteArray) r _ HC.out (Nat.le_refl _) HH.out).mono ?_; rintro e w2 ⟨rfl, hb2⟩; have HB2 := Aside0.mk (HB1.out.trans (hb2.mono (below_size HB1.out))); clear hb2))
  go_ret
  exact ⟨rfl, HB2.out⟩
 ·rw [if_neg hs] at h
  cases h

/-! ### impl_lineOK: function 28 -/
def impl_lineOK.f (a0 : ByteArray) : Option (Bool) := if (a0.size : Int) ≤ 200 then ((impl_xmlFault.f a0).bind fun t275 => (if t275 < 0 then ((impl_oneLine.f a0).bind fun t276 => (some (t276.toList == a0.toList))) else (some false))) else (some false)
set_option maxHeartbeats 8000000 in
set_option maxRecDepth 100000 in
theorem impl_lineOK.calls (a0 : ByteArray) (r : Bool) (w : World) (h : impl_lineOK.f a0 = some r) (hG : Glob w) :
  Calls Tryz.prog 28 #[.string a0] w fun e w' => e = .returned (.bool r) ∧ Below w.heap.size w w' := by
 have HG := Aside0.mk hG
 clear hG
 have HB := Aside0.mk (Below.refl w.heap.size w)
 have H := h
 unfold impl_lineOK.f at H
 clear h
 by_cases c2 : (a0.size : Int) ≤ 200
 ·rw [if_pos c2] at H
  have c2b0 := decide_eq_true c2
  have c2b1 : decide (a0.size ≤ 200) = true := decide_eq_true (by omega)
  clear c2
  obtain ⟨t275, A3, H⟩ := bindA H
  by_cases c4 : t275 < 0
  ·rw [if_pos c4] at H
   have c4b0 := decide_eq_true c4
   clear c4
   obtain ⟨t276, A5, H⟩ := bindA H
   obtain rfl := Option.some.inj H
   go_enter Tryz.func28, Tryz.ntmps28
   go_wp2_with (first | (go_at_call 43; (with_reducible refine (impl_xmlFault.calls a0 t275 _ A3.out (Glob.of_below HG.out (by repeat (first | (with_reducible first | exact HB.out | apply ba | apply bn | apply bd) | exact HB.out)))).mono ?_); rintro e w6 ⟨rfl, hb⟩; replace HB := Aside0.mk (below_step (by repeat (first | (with_reducible first | exact HB.out | apply ba | apply bn | apply bd) | exact HB.out)) hb); (try clear hb); (try clear hb2); (try clear hk); (try clear hi)) | (go_at_call 44; (with_reducible refine (impl_oneLine.calls a0 t276 _ A5.out).mono ?_); rintro e w7 ⟨rfl, hb⟩; replace HB := Aside0.mk (below_step (by repeat (first | (with_reducible first | exact HB.out | apply ba | apply bn | apply bd) | exact HB.out)) hb); (try clear hb); (try clear hb2); (try clear hk); (try clear hi)))
   go_ret
   exact ⟨by first | rfl | (simp [*] <;> rfl), by repeat (first | (with_reducible first | exact HB.out | apply ba | apply bn | apply bd) | exact HB.out)⟩
  ·rw [if_neg c4] at H
   have c4b0 := decide_eq_false c4
   clear c4
   obtain rfl := Option.some.inj H
   go_enter Tryz.func28, Tryz.ntmps28
   go_wp2_with (first | (go_at_call 43; (with_reducible refine (impl_xmlFault.calls a0 t275 _ A3.out (Glob.of_below HG.out (by repeat (first | (with_reducible first | exact HB.out | apply ba | apply bn | apply bd) | exact HB.out)))).mono ?_); rintro e w8 ⟨rfl, hb⟩; replace HB := Aside0.mk (below_step (by repeat (first | (with_reducible first | exact HB.out | apply ba | apply bn | apply bd) | exact HB.out)) hb); (try clear hb); (try clear hb2); (try clear hk); (try clear hi)))
   go_ret
   exact ⟨by first | rfl | (simp [*] <;> rfl), by repeat (first | (with_reducible first | exact HB.out | apply ba | apply bn | apply bd) | exact HB.out)⟩
 ·rw [if_neg c2] at H
  have c2b0 := decide_eq_false c2
  have c2b1 : decide (a0.size ≤ 200) = false := decide_eq_false (by omega)
  clear c2
  obtain rfl := Option.some.inj H
  go_enter Tryz.func28, Tryz.ntmps28
  go_wp2
  go_ret
  exact ⟨by first | rfl | (simp [*] <;> rfl), by repeat (first | (with_reducible first | exact HB.out | apply ba | apply bn | apply bd) | exact HB.out)⟩

/-! ### impl_isStamp: function 46 -/
def impl_isStamp.f (a0 : Int) : Option (Bool) := (impl_within.f a0 0 4102444799).bind fun t277 => (some t277)
set_option maxHeartbeats 8000000 in
set_option maxRecDepth 100000 in
theorem impl_isStamp.calls (a0 : Int) (r : Bool) (w : World) (h : impl_isStamp.f a0 = some r) :
  Calls Tryz.prog 46 #[.int .i64 a0] w fun e w' => e = .returned (.bool r) ∧ Drawn0 w w' := by
 have H := h
 unfold impl_isStamp.f at H
 clear h
 obtain ⟨t277, A2, H⟩ := bindA H
 obtain rfl := Option.some.inj H
 go_enter Tryz.func46, Tryz.ntmps46
 go_wp2_with (first | ((with_reducible refine gate_callee (f := 72) rfl ?_); refine goesL_ (some 4) rfl rfl Tryz.func72 (by kernel_rfl) rfl #[.int .i64 a0, .int .i64 0, .int .i64 4102444799] rfl (by (try simp only [List.map_toArray, List.map_cons, List.map_nil]); first | done | rfl | (simp only [List.length_drop, List.length_take]; rfl)) ?_; (with_reducible refine (impl_within.calls a0 0 4102444799 t277 _ A2.out).mono ?_); rintro e w' ⟨rfl, ⟨nd, rfl⟩⟩; refine ⟨_, rfl, ?_⟩))
 go_ret
 exact ⟨by first | rfl | (simp; done) | (simp [*]; done), by repeat (first | exact Drawn0.refl _ | apply Drawn0.step)⟩

/-! ### impl_EntryOK: function 31 -/
def impl_EntryOK.j0 : Nat → Bool → ByteArray → ByteArray → ByteArray → ByteArray → Int → ByteArray → Option (Bool)
 | 0, _, _, _, _, _, _, _ => none
 | k + 1, x29, x279000, x279001, x279002, x279003, x279004, x279005 => if x29 = true then (some false) else (if (x279005.size : Int) ≤ 1000 then ((impl_xmlFault.f x279005).bind fun t283 => (if t283 < 0 then ((impl_isStamp.f x279004).bind fun t284 => (some t284)) else (some false))) else (some false))
def impl_EntryOK.f (k : Nat) (a0_0 : ByteArray) (a0_1 : ByteArray) (a0_2 : ByteArray) (a0_3 : ByteArray) (a0_4 : Int) (a0_5 : ByteArray) : Option (Bool) := if a0_0.toList = ([] : List UInt8) then (impl_EntryOK.j0 k true a0_0 a0_1 a0_2 a0_3 a0_4 a0_5) else ((impl_lineOK.f a0_0).bind fun t279 => (if t279 = true then ((impl_lineOK.f a0_1).bind fun t280 => (if t280 = true then ((impl_lineOK.f a0_2).bind fun t281 => (if t281 = true then ((impl_lineOK.f a0_3).bind fun t282 => (impl_EntryOK.j0 k (!t282) a0_0 a0_1 a0_2 a0_3 a0_4 a0_5)) else (impl_EntryOK.j0 k true a0_0 a0_1 a0_2 a0_3 a0_4 a0_5))) else (impl_EntryOK.j0 k true a0_0 a0_1 a0_2 a0_3 a0_4 a0_5))) else (impl_EntryOK.j0 k true a0_0 a0_1 a0_2 a0_3 a0_4 a0_5)))
theorem impl_EntryOK.mono_l : ∀ k, (∀ y0 y1 y2 y3 y4 y5 y6, LeO (impl_EntryOK.j0 k y0 y1 y2 y3 y4 y5 y6) (impl_EntryOK.j0 (k + 1) y0 y1 y2 y3 y4 y5 y6))
 | 0 => fun _ _ _ _ _ _ _ r h => by simp [impl_EntryOK.j0] at h
 | k + 1 => by
  have ih0 := impl_EntryOK.mono_l k
  ·intro y0 y1 y2 y3 y4 y5 y6
   unfold impl_EntryOK.j0
   repeat' first
   | (with_reducible exact ih0 _ _ _ _ _ _ _)
   | (with_reducible exact LeO.refl _)
   | (with_reducible exact LeO.none _)
   | (with_reducible refine LeO.ite ?_ ?_)
   | (with_reducible refine LeO.bind ?_ (fun _ => ?_))
   | exact ih0 _ _ _ _ _ _ _
   | exact LeO.none _
   | refine LeO.ite ?_ ?_
   | refine LeO.bind ?_ (fun _ => ?_)
theorem impl_EntryOK.mono : ∀ a0 a1 a2 a3 a4 a5 k, LeO (impl_EntryOK.f k a0 a1 a2 a3 a4 a5) (impl_EntryOK.f (k + 1) a0 a1 a2 a3 a4 a5) := by
 intro a0 a1 a2 a3 a4 a5 k
 have ih0 := impl_EntryOK.mono_l k
 unfold impl_EntryOK.f
 repeat' first
   | (with_reducible exact ih0 _ _ _ _ _ _ _)
   | (with_reducible exact LeO.refl _)
   | (with_reducible exact LeO.none _)
   | (with_reducible refine LeO.ite ?_ ?_)
   | (with_reducible refine LeO.bind ?_ (fun _ => ?_))
   | exact ih0 _ _ _ _ _ _ _
   | exact LeO.none _
   | refine LeO.ite ?_ ?_
   | refine LeO.bind ?_ (fun _ => ?_)
set_option maxHeartbeats 8000000 in
set_option maxRecDepth 100000 in
theorem impl_EntryOK.calls (k : Nat) (a0_0 : ByteArray) (a0_1 : ByteArray) (a0_2 : ByteArray) (a0_3 : ByteArray) (a0_4 : Int) (a0_5 : ByteArray) (r : Bool) (w : World) (h : impl_EntryOK.f k a0_0 a0_1 a0_2 a0_3 a0_4 a0_5 = some r) (hG : Glob w) :
  Calls Tryz.prog 31 #[.agg #[.string a0_0, .string a0_1, .string a0_2, .string a0_3, .int .i64 a0_4, .string a0_5]] w fun e w' => e = .returned (.bool r) ∧ Below w.heap.size w w' := by
 have HG := Aside0.mk hG
 clear hG
 have hu49 := Tryz.underlying49
 have HB := Aside0.mk (Below.refl w.heap.size w)
 have H := h
 unfold impl_EntryOK.f at H
 clear h
 have HC2 := Aside0.mk H
 clear H
 go_enter Tryz.func31, Tryz.ntmps31
 go_upto_region 1 with (first | ((with_reducible refine gate_dst (N := 1) rfl ?_); refine box_event ?hg (N := 1) ?hd (cs := #[.string a0_0, .string a0_1, .string a0_2, .string a0_3, .int .i64 a0_4, .string a0_5]) (t := 49) ?hr ?_; (case hd => rfl); (case hg => rfl); (case hr => first | (go_simp; done) | (go_simp; rfl)); intro gb278 hg w3 hbox hb; have BK278 := Aside0.mk (hbox); have GW278 := Aside0.mk ((by rw [hg]; exact (below_size (by repeat (first | (with_reducible first | exact HB.out | apply ba | apply bn | apply bd) | exact HB.out))) : w.heap.size ≤ gb278)); have GE278 := GW278; replace HB := Aside0.mk (below_step (by repeat (first | (with_reducible first | exact HB.out | apply ba | apply bn | apply bd) | exact HB.out)) hb); clear hb hbox hg))
 (try simp only [Act.put, List.setIfInBounds_toArray, List.set_cons_zero, List.set_cons_succ])
 go_cut [29] (fun v29 wc => ∃ (kq : Nat) (x29_1 : Bool), v29 = .bool x29_1 ∧ Aside0 (impl_EntryOK.j0 kq x29_1 a0_0 a0_1 a0_2 a0_3 a0_4 a0_5 = some r) ∧ Aside0 (kq ≤ k) ∧ Aside0 (wc.heap[gb278]? = some (.cells #[.string a0_0, .string a0_1, .string a0_2, .string a0_3, .int .i64 a0_4, .string a0_5] 49 (0, 0))) ∧ Aside0 (Below w.heap.size w wc))
 case first =>
  have H := HC2.out
  clear HC2
  by_cases c4 : a0_0.toList = ([] : List UInt8)
  ·rw [if_pos c4] at H
   have c4b0 : (a0_0.toList == ([] : List UInt8)) = true := beq_iff_eq.mpr c4
   have c4b1 : (a0_0.toList != ([] : List UInt8)) = false := bne_eq_false_iff_eq.mpr c4
   clear c4
   (first | rw [c4b0] | (simp only [i64_w, i32_w]; rw [c4b0]) | skip)
   have H' := Aside0.mk H
   clear H
   obtain ⟨hcz5_0, hcz5_1, hcz5_2, hcz5_3, hcz5_4, hcz5_5, hfz5_0, hfz5_1, hfz5_2, hfz5_3, hfz5_4, hfz5_5⟩ := blk6 BK278.out
   go_wp2
   go_meet
   case rel => exact ⟨_, (true), (by first | rfl | (simp; done) | (simp [*]; done) | (simp; rfl) | (simp; unfold wrap64; omega)), H', ⟨by first | omega | exact Nat.le_refl _⟩, ⟨by (with_reducible repeat (first | refine blk_drewN ?_ _ | refine blk_drew ?_ | refine blk_alloc ?_ _)); exact BK278.out⟩, ⟨by repeat (first | (with_reducible first | exact HB.out | apply ba | apply bn | apply bd | refine below_set ?_ GE278.out) | exact HB.out)⟩⟩
  ·rw [if_neg c4] at H
   have c4b0 : (a0_0.toList == ([] : List UInt8)) = false := beq_eq_false_iff_ne.mpr c4
   have c4b1 : (a0_0.toList != ([] : List UInt8)) = true := bne_iff_ne.mpr c4
   (first | rw [c4b0] | (simp only [i64_w, i32_w]; rw [c4b0]) | skip)
   obtain ⟨t279, A6, H⟩ := bindA H
   by_cases c7 : t279 = true
   ·subst c7
    have H1 : ((impl_lineOK.f a0_1).bind fun t280 => (if t280 = true then ((impl_lineOK.f a0_2).bind fun t281 => (if t281 = true then ((impl_lineOK.f a0_3).bind fun t282 => (impl_EntryOK.j0 k (!t282) a0_0 a0_1 a0_2 a0_3 a0_4 a0_5)) else (impl_EntryOK.j0 k true a0_0 a0_1 a0_2 a0_3 a0_4 a0_5))) else (impl_EntryOK.j0 k true a0_0 a0_1 a0_2 a0_3 a0_4 a0_5))) = some r := by rw [if_pos rfl] at H; exact H
    clear H
    have H := H1
    clear H1
    obtain ⟨t280, A8, H⟩ := bindA H
    by_cases c9 : t280 = true
    ·subst c9
     have H1 : ((impl_lineOK.f a0_2).bind fun t281 => (if t281 = true then ((impl_lineOK.f a0_3).bind fun t282 => (impl_EntryOK.j0 k (!t282) a0_0 a0_1 a0_2 a0_3 a0_4 a0_5)) else (impl_EntryOK.j0 k true a0_0 a0_1 a0_2 a0_3 a0_4 a0_5))) = some r := by rw [if_pos rfl] at H; exact H
     clear H
     have H := H1
     clear H1
     obtain ⟨t281, A10, H⟩ := bindA H
     by_cases c11 : t281 = true
     ·subst c11
      have H1 : ((impl_lineOK.f a0_3).bind fun t282 => (impl_EntryOK.j0 k (!t282) a0_0 a0_1 a0_2 a0_3 a0_4 a0_5)) = some r := by rw [if_pos rfl] at H; exact H
      clear H
      have H := H1
      clear H1
      obtain ⟨t282, A12, H⟩ := bindA H
      have H' := Aside0.mk H
      clear H
      obtain ⟨hcz13_0, hcz13_1, hcz13_2, hcz13_3, hcz13_4, hcz13_5, hfz13_0, hfz13_1, hfz13_2, hfz13_3, hfz13_4, hfz13_5⟩ := blk6 BK278.out
      go_wp2_with (first | (go_at_call 28; (with_reducible refine (impl_lineOK.calls a0_0 true _ A6.out (Glob.of_below HG.out (by repeat (first | (with_reducible first | exact HB.out | apply ba | apply bn | apply bd | refine below_set ?_ GE278.out) | exact HB.out)))).mono ?_); rintro e w14 ⟨rfl, hb⟩; replace BK278 := Aside0.mk (blk_below (g := gb278) (o := .cells #[.string a0_0, .string a0_1, .string a0_2, .string a0_3, .int .i64 a0_4, .string a0_5] 49 (0, 0)) (by (with_reducible repeat (first | refine blk_drewN ?_ _ | refine blk_drew ?_ | refine blk_alloc ?_ _)); exact BK278.out) hb); replace HB := Aside0.mk (below_step (by repeat (first | (with_reducible first | exact HB.out | apply ba | apply bn | apply bd | refine below_set ?_ GE278.out) | exact HB.out)) hb); (try clear hb); (try clear hb2); (try clear hk); (try clear hi); obtain ⟨hcz15_0, hcz15_1, hcz15_2, hcz15_3, hcz15_4, hcz15_5, hfz15_0, hfz15_1, hfz15_2, hfz15_3, hfz15_4, hfz15_5⟩ := blk6 BK278.out) | (go_at_call 28; (with_reducible refine (impl_lineOK.calls a0_1 true _ A8.out (Glob.of_below HG.out (by repeat (first | (with_reducible first | exact HB.out | apply ba | apply bn | apply bd | refine below_set ?_ GE278.out) | exact HB.out)))).mono ?_); rintro e w16 ⟨rfl, hb⟩; replace BK278 := Aside0.mk (blk_below (g := gb278) (o := .cells #[.string a0_0, .string a0_1, .string a0_2, .string a0_3, .int .i64 a0_4, .string a0_5] 49 (0, 0)) (by (with_reducible repeat (first | refine blk_drewN ?_ _ | refine blk_drew ?_ | refine blk_alloc ?_ _)); exact BK278.out) hb); replace HB := Aside0.mk (below_step (by repeat (first | (with_reducible first | exact HB.out | apply ba | apply bn | apply bd | refine below_set ?_ GE278.out) | exact HB.out)) hb); (try clear hb); (try clear hb2); (try clear hk); (try clear hi); obtain ⟨hcz17_0, hcz17_1, hcz17_2, hcz17_3, hcz17_4, hcz17_5, hfz17_0, hfz17_1, hfz17_2, hfz17_3, hfz17_4, hfz17_5⟩ := blk6 BK278.out) | (go_at_call 28; (with_reducible refine (impl_lineOK.calls a0_2 true _ A10.out (Glob.of_below HG.out (by repeat (first | (with_reducible first | exact HB.out | apply ba | apply bn | apply bd | refine below_set ?_ GE278.out) | exact HB.out)))).mono ?_); rintro e w18 ⟨rfl, hb⟩; replace BK278 := Aside0.mk (blk_below (g := gb278) (o := .cells #[.string a0_0, .string a0_1, .string a0_2, .string a0_3, .int .i64 a0_4, .string a0_5] 49 (0, 0)) (by (with_reducible repeat (first | refine blk_drewN ?_ _ | refine blk_drew ?_ | refine blk_alloc ?_ _)); exact BK278.out) hb); replace HB := Aside0.mk (below_step (by repeat (first | (with_reducible first | exact HB.out | apply ba | apply bn | apply bd | refine below_set ?_ GE278.out) | exact HB.out)) hb); (try clear hb); (try clear hb2); (try clear hk); (try clear hi); obtain ⟨hcz19_0, hcz19_1, hcz19_2, hcz19_3, hcz19_4, hcz19_5, hfz19_0, hfz19_1, hfz19_2, hfz19_3, hfz19_4, hfz19_5⟩ := blk6 BK278.out) | (go_at_call 28; (with_reducible refine (impl_lineOK.calls a0_3 t282 _ A12.out (Glob.of_below HG.out (by repeat (first | (with_reducible first | exact HB.out | apply ba | apply bn | apply bd | refine below_set ?_ GE278.out) | exact HB.out)))).mono ?_); rintro e w20 ⟨rfl, hb⟩; replace BK278 := Aside0.mk (blk_below (g := gb278) (o := .cells #[.string a0_0, .string a0_1, .string a0_2, .string a0_3, .int .i64 a0_4, .string a0_5] 49 (0, 0)) (by (with_reducible repeat (first | refine blk_drewN ?_ _ | refine blk_drew ?_ | refine blk_alloc ?_ _)); exact BK278.out) hb); replace HB := Aside0.mk (below_step (by repeat (first | (with_reducible first | exact HB.out | apply ba | apply bn | apply bd | refine below_set ?_ GE278.out) | exact HB.out)) hb); (try clear hb); (try clear hb2); (try clear hk); (try clear hi)))
      go_meet
      case rel => exact ⟨_, (!t282), (by first | rfl | (simp; done) | (simp [*]; done) | (simp; rfl) | (simp; unfold wrap64; omega)), H', ⟨by first | omega | exact Nat.le_refl _⟩, ⟨by (with_reducible repeat (first | refine blk_drewN ?_ _ | refine blk_drew ?_ | refine blk_alloc ?_ _)); exact BK278.out⟩, ⟨by repeat (first | (with_reducible first | exact HB.out | apply ba | apply bn | apply bd | refine below_set ?_ GE278.out) | exact HB.out)⟩⟩
     ·replace c11 := Bool.eq_false_iff.mpr c11
      subst c11
      have H1 : (impl_EntryOK.j0 k true a0_0 a0_1 a0_2 a0_3 a0_4 a0_5) = some r := by rw [if_neg (show ¬ (false = true) by decide)] at H; exact H
      clear H
      have H := H1
      clear H1
      have H' := Aside0.mk H
      clear H
      obtain ⟨hcz21_0, hcz21_1, hcz21_2, hcz21_3, hcz21_4, hcz21_5, hfz21_0, hfz21_1, hfz21_2, hfz21_3, hfz21_4, hfz21_5⟩ := blk6 BK278.out
      go_wp2_with (first | (go_at_call 28; (with_reducible refine (impl_lineOK.calls a0_0 true _ A6.out (Glob.of_below HG.out (by repeat (first | (with_reducible first | exact HB.out | apply ba | apply bn | apply bd | refine below_set ?_ GE278.out) | exact HB.out)))).mono ?_); rintro e w22 ⟨rfl, hb⟩; replace BK278 := Aside0.mk (blk_below (g := gb278) (o := .cells #[.string a0_0, .string a0_1, .string a0_2, .string a0_3, .int .i64 a0_4, .string a0_5] 49 (0, 0)) (by (with_reducible repeat (first | refine blk_drewN ?_ _ | refine blk_drew ?_ | refine blk_alloc ?_ _)); exact BK278.out) hb); replace HB := Aside0.mk (below_step (by repeat (first | (with_reducible first | exact HB.out | apply ba | apply bn | apply bd | refine below_set ?_ GE278.out) | exact HB.out)) hb); (try clear hb); (try clear hb2); (try clear hk); (try clear hi); obtain ⟨hcz23_0, hcz23_1, hcz23_2, hcz23_3, hcz23_4, hcz23_5, hfz23_0, hfz23_1, hfz23_2, hfz23_3, hfz23_4, hfz23_5⟩ := blk6 BK278.out) | (go_at_call 28; (with_reducible refine (impl_lineOK.calls a0_1 true _ A8.out (Glob.of_below HG.out (by repeat (first | (with_reducible first | exact HB.out | apply ba | apply bn | apply bd | refine below_set ?_ GE278.out) | exact HB.out)))).mono ?_); rintro e w24 ⟨rfl, hb⟩; replace BK278 := Aside0.mk (blk_below (g := gb278) (o := .cells #[.string a0_0, .string a0_1, .string a0_2, .string a0_3, .int .i64 a0_4, .string a0_5] 49 (0, 0)) (by (with_reducible repeat (first | refine blk_drewN ?_ _ | refine blk_drew ?_ | refine blk_alloc ?_ _)); exact BK278.out) hb); replace HB := Aside0.mk (below_step (by repeat (first | (with_reducible first | exact HB.out | apply ba | apply bn | apply bd | refine below_set ?_ GE278.out) | exact HB.out)) hb); (try clear hb); (try clear hb2); (try clear hk); (try clear hi); obtain ⟨hcz25_0, hcz25_1, hcz25_2, hcz25_3, hcz25_4, hcz25_5, hfz25_0, hfz25_1, hfz25_2, hfz25_3, hfz25_4, hfz25_5⟩ := blk6 BK278.out) | (go_at_call 28; (with_reducible refine (impl_lineOK.calls a0_2 false _ A10.out (Glob.of_below HG.out (by repeat (first | (with_reducible first | exact HB.out | apply ba | apply bn | apply bd | refine below_set ?_ GE278.out) | exact HB.out)))).mono ?_); rintro e w26 ⟨rfl, hb⟩; replace BK278 := Aside0.mk (blk_below (g := gb278) (o := .cells #[.string a0_0, .string a0_1, .string a0_2, .string a0_3, .int .i64 a0_4, .string a0_5] 49 (0, 0)) (by (with_reducible repeat (first | refine blk_drewN ?_ _ | refine blk_drew ?_ | refine blk_alloc ?_ _)); exact BK278.out) hb); replace HB := Aside0.mk (below_step (by repeat (first | (with_reducible first | exact HB.out | apply ba | apply bn | apply bd | refine below_set ?_ GE278.out) | exact HB.out)) hb); (try clear hb); (try clear hb2); (try clear hk); (try clear hi)))
      go_meet
      case rel => exact ⟨_, (true), (by first | rfl | (simp; done) | (simp [*]; done) | (simp; rfl) | (simp; unfold wrap64; omega)), H', ⟨by first | omega | exact Nat.le_refl _⟩, ⟨by (with_reducible repeat (first | refine blk_drewN ?_ _ | refine blk_drew ?_ | refine blk_alloc ?_ _)); exact BK278.out⟩, ⟨by repeat (first | (with_reducible first | exact HB.out | apply ba | apply bn | apply bd | refine below_set ?_ GE278.out) | exact HB.out)⟩⟩
    ·replace c9 := Bool.eq_false_iff.mpr c9
     subst c9
     have H1 : (impl_EntryOK.j0 k true a0_0 a0_1 a0_2 a0_3 a0_4 a0_5) = some r := by rw [if_neg (show ¬ (false = true) by decide)] at H; exact H
     clear H
     have H := H1
     clear H1
     have H' := Aside0.mk H
     clear H
     obtain ⟨hcz27_0, hcz27_1, hcz27_2, hcz27_3, hcz27_4, hcz27_5, hfz27_0, hfz27_1, hfz27_2, hfz27_3, hfz27_4, hfz27_5⟩ := blk6 BK278.out
     go_wp2_with (first | (go_at_call 28; (with_reducible refine (impl_lineOK.calls a0_0 true _ A6.out (Glob.of_below HG.out (by repeat (first | (with_reducible first | exact HB.out | apply ba | apply bn | apply bd | refine below_set ?_ GE278.out) | exact HB.out)))).mono ?_); rintro e w28 ⟨rfl, hb⟩; replace BK278 := Aside0.mk (blk_below (g := gb278) (o := .cells #[.string a0_0, .string a0_1, .string a0_2, .string a0_3, .int .i64 a0_4, .string a0_5] 49 (0, 0)) (by (with_reducible repeat (first | refine blk_drewN ?_ _ | refine blk_drew ?_ | refine blk_alloc ?_ _)); exact BK278.out) hb); replace HB := Aside0.mk (below_step (by repeat (first | (with_reducible first | exact HB.out | apply ba | apply bn | apply bd | refine below_set ?_ GE278.out) | exact HB.out)) hb); (try clear hb); (try clear hb2); (try clear hk); (try clear hi); obtain ⟨hcz29_0, hcz29_1, hcz29_2, hcz29_3, hcz29_4, hcz29_5, hfz29_0, hfz29_1, hfz29_2, hfz29_3, hfz29_4, hfz29_5⟩ := blk6 BK278.out) | (go_at_call 28; (with_reducible refine (impl_lineOK.calls a0_1 false _ A8.out (Glob.of_below HG.out (by repeat (first | (with_reducible first | exact HB.out | apply ba | apply bn | apply bd | refine below_set ?_ GE278.out) | exact HB.out)))).mono ?_); rintro e w30 ⟨rfl, hb⟩; replace BK278 := Aside0.mk (blk_below (g := gb278) (o := .cells #[.string a0_0, .string a0_1, .string a0_2, .string a0_3, .int .i64 a0_4, .string a0_5] 49 (0, 0)) (by (with_reducible repeat (first | refine blk_drewN ?_ _ | refine blk_drew ?_ | refine blk_alloc ?_ _)); exact BK278.out) hb); replace HB := Aside0.mk (below_step (by repeat (first | (with_reducible first | exact HB.out | apply ba | apply bn | apply bd | refine below_set ?_ GE278.out) | exact HB.out)) hb); (try clear hb); (try clear hb2); (try clear hk); (try clear hi)))
     go_meet
     case rel => exact ⟨_, (true), (by first | rfl | (simp; done) | (simp [*]; done) | (simp; rfl) | (simp; unfold wrap64; omega)), H', ⟨by first | omega | exact Nat.le_refl _⟩, ⟨by (with_reducible repeat (first | refine blk_drewN ?_ _ | refine blk_drew ?_ | refine blk_alloc ?_ _)); exact BK278.out⟩, ⟨by repeat (first | (with_reducible first | exact HB.out | apply ba | apply bn | apply bd | refine below_set ?_ GE278.out) | exact HB.out)⟩⟩
   ·replace c7 := Bool.eq_false_iff.mpr c7
    subst c7
    have H1 : (impl_EntryOK.j0 k true a0_0 a0_1 a0_2 a0_3 a0_4 a0_5) = some r := by rw [if_neg (show ¬ (false = true) by decide)] at H; exact H
    clear H
    have H := H1
    clear H1
    have H' := Aside0.mk H
    clear H
    obtain ⟨hcz31_0, hcz31_1, hcz31_2, hcz31_3, hcz31_4, hcz31_5, hfz31_0, hfz31_1, hfz31_2, hfz31_3, hfz31_4, hfz31_5⟩ := blk6 BK278.out
    go_wp2_with (first | (go_at_call 28; (with_reducible refine (impl_lineOK.calls a0_0 false _ A6.out (Glob.of_below HG.out (by repeat (first | (with_reducible first | exact HB.out | apply ba | apply bn | apply bd | refine below_set ?_ GE278.out) | exact HB.out)))).mono ?_); rintro e w32 ⟨rfl, hb⟩; replace BK278 := Aside0.mk (blk_below (g := gb278) (o := .cells #[.string a0_0, .string a0_1, .string a0_2, .string a0_3, .int .i64 a0_4, .string a0_5] 49 (0, 0)) (by (with_reducible repeat (first | refine blk_drewN ?_ _ | refine blk_drew ?_ | refine blk_alloc ?_ _)); exact BK278.out) hb); replace HB := Aside0.mk (below_step (by repeat (first | (with_reducible first | exact HB.out | apply ba | apply bn | apply bd | refine below_set ?_ GE278.out) | exact HB.out)) hb); (try clear hb); (try clear hb2); (try clear hk); (try clear hi)))
    go_meet
    case rel => exact ⟨_, (true), (by first | rfl | (simp; done) | (simp [*]; done) | (simp; rfl) | (simp; unfold wrap64; omega)), H', ⟨by first | omega | exact Nat.le_refl _⟩, ⟨by (with_reducible repeat (first | refine blk_drewN ?_ _ | refine blk_drew ?_ | refine blk_alloc ?_ _)); exact BK278.out⟩, ⟨by repeat (first | (with_reducible first | exact HB.out | apply ba | apply bn | apply bd | refine below_set ?_ GE278.out) | exact HB.out)⟩⟩
 case rest =>
  clear HC2
  try clear c1
  try clear p2
  try clear c3
  try clear c4
  try clear c4b0
  try clear c4b1
  try clear c7
  try clear c9
  try clear c11
  try clear c31
  try clear hcz13_0
  try clear hcz13_1
  try clear hcz13_2
  try clear hcz13_3
  try clear hcz13_4
  try clear hcz13_5
  try clear hcz15_0
  try clear hcz15_1
  try clear hcz15_2
  try clear hcz15_3
  try clear hcz15_4
  try clear hcz15_5
  try clear hcz17_0
  try clear hcz17_1
  try clear hcz17_2
  try clear hcz17_3
  try clear hcz17_4
  try clear hcz17_5
  try clear hcz19_0
  try clear hcz19_1
  try clear hcz19_2
  try clear hcz19_3
  try clear hcz19_4
  try clear hcz19_5
  try clear hcz21_0
  try clear hcz21_1
  try clear hcz21_2
  try clear hcz21_3
  try clear hcz21_4
  try clear hcz21_5
  try clear hcz23_0
  try clear hcz23_1
  try clear hcz23_2
  try clear hcz23_3
  try clear hcz23_4
  try clear hcz23_5
  try clear hcz25_0
  try clear hcz25_1
  try clear hcz25_2
  try clear hcz25_3
  try clear hcz25_4
  try clear hcz25_5
  try clear hcz27_0
  try clear hcz27_1
  try clear hcz27_2
  try clear hcz27_3
  try clear hcz27_4
  try clear hcz27_5
  try clear hcz29_0
  try clear hcz29_1
  try clear hcz29_2
  try clear hcz29_3
  try clear hcz29_4
  try clear hcz29_5
  try clear hcz31_0
  try clear hcz31_1
  try clear hcz31_2
  try clear hcz31_3
  try clear hcz31_4
  try clear hcz31_5
  try clear hcz5_0
  try clear hcz5_1
  try clear hcz5_2
  try clear hcz5_3
  try clear hcz5_4
  try clear hcz5_5
  try clear hfz13_0
  try clear hfz13_1
  try clear hfz13_2
  try clear hfz13_3
  try clear hfz13_4
  try clear hfz13_5
  try clear hfz15_0
  try clear hfz15_1
  try clear hfz15_2
  try clear hfz15_3
  try clear hfz15_4
  try clear hfz15_5
  try clear hfz17_0
  try clear hfz17_1
  try clear hfz17_2
  try clear hfz17_3
  try clear hfz17_4
  try clear hfz17_5
  try clear hfz19_0
  try clear hfz19_1
  try clear hfz19_2
  try clear hfz19_3
  try clear hfz19_4
  try clear hfz19_5
  try clear hfz21_0
  try clear hfz21_1
  try clear hfz21_2
  try clear hfz21_3
  try clear hfz21_4
  try clear hfz21_5
  try clear hfz23_0
  try clear hfz23_1
  try clear hfz23_2
  try clear hfz23_3
  try clear hfz23_4
  try clear hfz23_5
  try clear hfz25_0
  try clear hfz25_1
  try clear hfz25_2
  try clear hfz25_3
  try clear hfz25_4
  try clear hfz25_5
  try clear hfz27_0
  try clear hfz27_1
  try clear hfz27_2
  try clear hfz27_3
  try clear hfz27_4
  try clear hfz27_5
  try clear hfz29_0
  try clear hfz29_1
  try clear hfz29_2
  try clear hfz29_3
  try clear hfz29_4
  try clear hfz29_5
  try clear hfz31_0
  try clear hfz31_1
  try clear hfz31_2
  try clear hfz31_3
  try clear hfz31_4
  try clear hfz31_5
  try clear hfz5_0
  try clear hfz5_1
  try clear hfz5_2
  try clear hfz5_3
  try clear hfz5_4
  try clear hfz5_5
  obtain ⟨kq, x29_1, rfl, HA, HJ1, BK278, HB⟩ := hcut
  cases kq with
  | zero => exact absurd HA.out (by simp [impl_EntryOK.j0])
  | succ kj1 =>
   have H := HA.out
   clear HA
   simp only [impl_EntryOK.j0] at H
   by_cases c33 : x29_1 = true
   ·subst c33
    have H1 : (some false) = some r := by rw [if_pos rfl] at H; exact H
    clear H
    have H := H1
    clear H1
    obtain rfl := Option.some.inj H
    go_wp2
    go_ret
    exact ⟨by first | rfl | (simp [*] <;> rfl), by repeat (first | (with_reducible first | exact HB.out | apply ba | apply bn | apply bd | refine below_set ?_ GE278.out) | exact HB.out)⟩
   ·replace c33 := Bool.eq_false_iff.mpr c33
    subst c33
    have H1 : (if (a0_5.size : Int) ≤ 1000 then ((impl_xmlFault.f a0_5).bind fun t283 => (if t283 < 0 then ((impl_isStamp.f a0_4).bind fun t284 => (some t284)) else (some false))) else (some false)) = some r := by rw [if_neg (show ¬ (false = true) by decide)] at H; exact H
    clear H
    have H := H1
    clear H1
    by_cases c34 : (a0_5.size : Int) ≤ 1000
    ·rw [if_pos c34] at H
     have c34b0 := decide_eq_true c34
     have c34b1 : decide (a0_5.size ≤ 1000) = true := decide_eq_true (by omega)
     clear c34
     obtain ⟨t283, A35, H⟩ := bindA H
     by_cases c36 : t283 < 0
     ·rw [if_pos c36] at H
      have c36b0 := decide_eq_true c36
      clear c36
      obtain ⟨t284, A37, H⟩ := bindA H
      obtain rfl := Option.some.inj H
      obtain ⟨hcz38_0, hcz38_1, hcz38_2, hcz38_3, hcz38_4, hcz38_5, hfz38_0, hfz38_1, hfz38_2, hfz38_3, hfz38_4, hfz38_5⟩ := blk6 BK278.out
      go_wp2_with (first | (go_at_call 43; (with_reducible refine (impl_xmlFault.calls a0_5 t283 _ A35.out (Glob.of_below HG.out (by repeat (first | (with_reducible first | exact HB.out | apply ba | apply bn | apply bd | refine below_set ?_ GE278.out) | exact HB.out)))).mono ?_); rintro e w39 ⟨rfl, hb⟩; replace BK278 := Aside0.mk (blk_below (g := gb278) (o := .cells #[.string a0_0, .string a0_1, .string a0_2, .string a0_3, .int .i64 a0_4, .string a0_5] 49 (0, 0)) (by (with_reducible repeat (first | refine blk_drewN ?_ _ | refine blk_drew ?_ | refine blk_alloc ?_ _)); exact BK278.out) hb); replace HB := Aside0.mk (below_step (by repeat (first | (with_reducible first | exact HB.out | apply ba | apply bn | apply bd | refine below_set ?_ GE278.out) | exact HB.out)) hb); (try clear hb); (try clear hb2); (try clear hk); (try clear hi); obtain ⟨hcz40_0, hcz40_1, hcz40_2, hcz40_3, hcz40_4, hcz40_5, hfz40_0, hfz40_1, hfz40_2, hfz40_3, hfz40_4, hfz40_5⟩ := blk6 BK278.out) | (go_at_call 46; (with_reducible refine (impl_isStamp.calls a0_4 t284 _ A37.out).mono ?_); rintro e w' ⟨rfl, ⟨nd, rfl⟩⟩))
      go_ret
      exact ⟨by first | rfl | (simp [*] <;> rfl), by repeat (first | (with_reducible first | exact HB.out | apply ba | apply bn | apply bd | refine below_set ?_ GE278.out) | exact HB.out)⟩
     ·rw [if_neg c36] at H
      have c36b0 := decide_eq_false c36
      clear c36
      obtain rfl := Option.some.inj H
      obtain ⟨hcz41_0, hcz41_1, hcz41_2, hcz41_3, hcz41_4, hcz41_5, hfz41_0, hfz41_1, hfz41_2, hfz41_3, hfz41_4, hfz41_5⟩ := blk6 BK278.out
      go_wp2_with (first | (go_at_call 43; (with_reducible refine (impl_xmlFault.calls a0_5 t283 _ A35.out (Glob.of_below HG.out (by repeat (first | (with_reducible first | exact HB.out | apply ba | apply bn | apply bd | refine below_set ?_ GE278.out) | exact HB.out)))).mono ?_); rintro e w42 ⟨rfl, hb⟩; replace BK278 := Aside0.mk (blk_below (g := gb278) (o := .cells #[.string a0_0, .string a0_1, .string a0_2, .string a0_3, .int .i64 a0_4, .string a0_5] 49 (0, 0)) (by (with_reducible repeat (first | refine blk_drewN ?_ _ | refine blk_drew ?_ | refine blk_alloc ?_ _)); exact BK278.out) hb); replace HB := Aside0.mk (below_step (by repeat (first | (with_reducible first | exact HB.out | apply ba | apply bn | apply bd | refine below_set ?_ GE278.out) | exact HB.out)) hb); (try clear hb); (try clear hb2); (try clear hk); (try clear hi)))
      go_ret
      exact ⟨by first | rfl | (simp [*] <;> rfl), by repeat (first | (with_reducible first | exact HB.out | apply ba | apply bn | apply bd | refine below_set ?_ GE278.out) | exact HB.out)⟩
    ·rw [if_neg c34] at H
     have c34b0 := decide_eq_false c34
     have c34b1 : decide (a0_5.size ≤ 1000) = false := decide_eq_false (by omega)
     clear c34
     obtain rfl := Option.some.inj H
     obtain ⟨hcz43_0, hcz43_1, hcz43_2, hcz43_3, hcz43_4, hcz43_5, hfz43_0, hfz43_1, hfz43_2, hfz43_3, hfz43_4, hfz43_5⟩ := blk6 BK278.out
     go_wp2
     go_ret
     exact ⟨by first | rfl | (simp [*] <;> rfl), by repeat (first | (with_reducible first | exact HB.out | apply ba | apply bn | apply bd | refine below_set ?_ GE278.out) | exact HB.out)⟩

-- NOT PRINTED: function 30 (impl_FeedOK_1)

/-! ### impl_FeedOK: function 13, walked by hand -/
/-- The place of the first entry that is not right. -/
def impl_FeedOK.ix (k : Nat) : List S49 → Nat → Option Int
 | [], _ => some (-1)
 | x :: xs, i => (impl_EntryOK.f k x.f0 x.f1 x.f2 x.f3 x.f4 x.f5).bind fun b => if b = true then impl_FeedOK.ix k xs (i + 1) else some (i : Int)
def impl_FeedOK.f (k : Nat) (a0_0 : Bool) (a0_1 : ByteArray) (l0_2 : List S49) : Option Bool :=
 (impl_lineOK.f a0_1).bind fun t => if t = true then (if l0_2.length ≤ 20 then (impl_FeedOK.ix k l0_2 0).bind fun i => some (decide (i < 0)) else some false) else some false
theorem impl_FeedOK.ix_mono (k : Nat) : ∀ (l : List S49) (i : Nat), LeO (impl_FeedOK.ix k l i) (impl_FeedOK.ix (k + 1) l i)
 | [], _ => LeO.refl _
 | x :: xs, i => by
  rw [impl_FeedOK.ix, impl_FeedOK.ix]
  refine LeO.bind (impl_EntryOK.mono _ _ _ _ _ _ _) (fun b => ?_)
  exact LeO.ite (impl_FeedOK.ix_mono k xs (i + 1)) (LeO.refl _)
theorem impl_FeedOK.mono : ∀ a0 a1 a2 k, LeO (impl_FeedOK.f k a0 a1 a2) (impl_FeedOK.f (k + 1) a0 a1 a2) := by
 intro a0 a1 a2 k
 unfold impl_FeedOK.f
 refine LeO.bind (LeO.refl _) (fun t => LeO.ite (LeO.ite (LeO.bind (impl_FeedOK.ix_mono k a2 0) (fun _ => LeO.refl _)) (LeO.refl _)) (LeO.refl _))
set_option maxHeartbeats 4000000 in
set_option maxRecDepth 100000 in
theorem impl_FeedOK.one (k : Nat) (x : S49) (b q : Bool) (w : World) (hG : Glob w) (h : impl_EntryOK.f k x.f0 x.f1 x.f2 x.f3 x.f4 x.f5 = some b) (hq : (!b) = q) :
  Calls Tryz.prog 30 #[.agg #[.string x.f0, .string x.f1, .string x.f2, .string x.f3, .int .i64 x.f4, .string x.f5]] w fun e w' => e = .returned (.bool q) ∧ Below w.heap.size w w' := by
 have HG := Aside0.mk hG
 have H := Aside0.mk h
 have HB := Aside0.mk (Below.refl w.heap.size w)
 have hu := Tryz.underlying49
 subst hq
 clear hG h
 go_enter Tryz.func30, Tryz.ntmps30
 go_wp2_with (first | ((with_reducible refine gate_dst (N := 1) rfl ?_); refine box_event ?hg (N := 1) ?hd (cs := #[.string x.f0, .string x.f1, .string x.f2, .string x.f3, .int .i64 x.f4, .string x.f5]) (t := 49) ?hr ?_; (case hd => rfl); (case hg => rfl); (case hr => first | (go_simp; done) | (go_simp; rfl)); intro gx hg w1 hbox hb; have CX0 : Aside0 (w1.cell? ⟨gx, 0, none⟩ = some (.string x.f0)) := ⟨(blk_cell hbox 0).trans rfl⟩; have CX1 : Aside0 (w1.cell? ⟨gx, 1, none⟩ = some (.string x.f1)) := ⟨(blk_cell hbox 1).trans rfl⟩; have CX2 : Aside0 (w1.cell? ⟨gx, 2, none⟩ = some (.string x.f2)) := ⟨(blk_cell hbox 2).trans rfl⟩; have CX3 : Aside0 (w1.cell? ⟨gx, 3, none⟩ = some (.string x.f3)) := ⟨(blk_cell hbox 3).trans rfl⟩; have CX4 : Aside0 (w1.cell? ⟨gx, 4, none⟩ = some (.int .i64 x.f4)) := ⟨(blk_cell hbox 4).trans rfl⟩; have CX5 : Aside0 (w1.cell? ⟨gx, 5, none⟩ = some (.string x.f5)) := ⟨(blk_cell hbox 5).trans rfl⟩; have m_HB := Aside0.mk (below_step HB.out hb); clear HB; have HB := m_HB; clear m_HB; clear hb; clear hbox hg; have zCX0 := CX0.out; have zCX1 := CX1.out; have zCX2 := CX2.out; have zCX3 := CX3.out; have zCX4 := CX4.out; have zCX5 := CX5.out) | (go_at_call 31; refine (impl_EntryOK.calls k x.f0 x.f1 x.f2 x.f3 x.f4 x.f5 b _ H.out (Glob.of_below HG.out (by repeat (first | (with_reducible first | exact HB.out | apply ba | apply bn | apply bd) | exact HB.out)))).mono ?_; rintro e w2 ⟨rfl, hb⟩; skip; have m_HB := Aside0.mk (below_step HB.out hb); clear HB; have HB := m_HB; clear m_HB; clear hb))
 go_ret
 exact ⟨rfl, (by repeat (first | (with_reducible first | exact HB.out | apply ba | apply bn | apply bd) | exact HB.out))⟩
set_option maxHeartbeats 4000000 in
set_option maxRecDepth 100000 in
theorem impl_FeedOK.index (k : Nat) (A : Option Addr) (c : Nat) (l : List S49) (r : Int) (w : World) (hG : Glob w) (hr : Kd.C k49 w A l.length l) (H : impl_FeedOK.ix k l 0 = some r) :
  Calls Tryz.prog 45 #[.slice A l.length c, .func (.func 30) #[] #[]] w fun e w' => e = .returned (.int .i64 r) ∧ Below w.heap.size w w' := by
 have hu := Tryz.underlying49
 have HR := Aside0.mk hr
 have HG := Aside0.mk hG
 have HH := Aside0.mk H
 have HB := Aside0.mk (Below.refl w.heap.size w)
 have hn : l.length ≤ 9223372036854775807 := hr.2.1
 generalize hln : l.length = n at hn
 have HN := Aside0.mk hln
 clear hr hG H hln
 go_enter Tryz.func45, Tryz.ntmps45
 go_wp2
 go_loopw [8] (fun v8 wr => ∃ (j : Nat), j ≤ n ∧ v8 = .int .i64 j ∧ Aside0 (Below w.heap.size w wr) ∧ Aside0 (impl_FeedOK.ix k (l.drop j) j = some r)) (fun v8 _ => n - (intOf v8).toNat)
 case atStart => exact ⟨0, Nat.zero_le _, rfl, ⟨by repeat (first | (with_reducible first | exact HB.out | apply ba | apply bn | apply bd) | exact HB.out)⟩, ⟨by rw [List.drop_zero]; exact HH.out⟩⟩
 case round =>
  obtain ⟨j, hk, rfl, HB1, HS⟩ := hrel
  clear HB
  by_cases hlt : j < n
  ·have hkl : j < l.length := by rw [HN.out]; exact hlt
   obtain ⟨ad, ead, hx⟩ := at_T49 HR.out (j : Int) (Int.natCast_nonneg j) (by omega)
   cases ead
   have er : rd_T49 l (j : Int) = l[j] := by simp [rd_T49, List.getD_eq_getElem?_getD, List.getElem?_eq_getElem hkl]
   have HS1 := HS.out
   rw [List.drop_eq_getElem_cons hkl, impl_FeedOK.ix] at HS1
   rw [er] at hx
   generalize l[j] = x at hx HS1
   obtain ⟨hx0, hx1, hx2, hx3, hx4, hx5⟩ := hx
   replace hx0 := (HB1.out.cell (World.block_lt_of_cell? w _ hx0)).trans hx0
   replace hx1 := (HB1.out.cell (World.block_lt_of_cell? w _ hx1)).trans hx1
   replace hx2 := (HB1.out.cell (World.block_lt_of_cell? w _ hx2)).trans hx2
   replace hx3 := (HB1.out.cell (World.block_lt_of_cell? w _ hx3)).trans hx3
   replace hx4 := (HB1.out.cell (World.block_lt_of_cell? w _ hx4)).trans hx4
   replace hx5 := (HB1.out.cell (World.block_lt_of_cell? w _ hx5)).trans hx5
   rw [Int.toNat_natCast] at hx0 hx1 hx2 hx3 hx4 hx5
   obtain ⟨b, HA0, HS1⟩ := Option.bind_eq_some_iff.mp HS1
   have HA := Aside0.mk HA0
   clear HA0 er
   by_cases hq : b = true
   ·rw [if_pos hq] at HS1
    subst hq
    have HS2 := Aside0.mk HS1
    clear HS HS1
    go_wp2_with (go_at_call 30; refine (impl_FeedOK.one k x true false _ (Glob.of_below HG.out (by repeat (first | (with_reducible first | exact HB1.out | apply ba | apply bn | apply bd) | exact HB1.out))) HA.out rfl).mono ?_; rintro e w' ⟨rfl, hb⟩; have HBz := Aside0.mk (below_step (by repeat (first | (with_reducible first | exact HB1.out | apply ba | apply bn | apply bd) | exact HB1.out)) hb); clear hb)
    go_roundw
    case rel => exact ⟨j + 1, by omega, by go_num, ⟨by repeat (first | (with_reducible first | exact HBz.out | apply ba | apply bn | apply bd) | exact HBz.out)⟩, HS2⟩
    case measure => simp [intOf]; omega
   ·rw [if_neg hq] at HS1
    have hbf : b = false := by simpa using hq
    subst hbf
    clear HS hq
    obtain rfl := Option.some.inj HS1
    clear HS1
    go_wp2_with (go_at_call 30; refine (impl_FeedOK.one k x false true _ (Glob.of_below HG.out (by repeat (first | (with_reducible first | exact HB1.out | apply ba | apply bn | apply bd) | exact HB1.out))) HA.out rfl).mono ?_; rintro e w' ⟨rfl, hb⟩; have HBz := Aside0.mk (below_step (by repeat (first | (with_reducible first | exact HB1.out | apply ba | apply bn | apply bd) | exact HB1.out)) hb); clear hb)
    go_ret
    exact ⟨rfl, by repeat (first | (with_reducible first | exact HBz.out | apply ba | apply bn | apply bd) | exact HBz.out)⟩
  ·have hkn : j = n := by omega
   have e := HS.out
   rw [List.drop_eq_nil_of_le (by rw [HN.out]; omega)] at e
   replace e : some (-1 : Int) = some r := e
   obtain rfl := Option.some.inj e
   clear HS e
   subst hkn
   go_wp2
   go_ret
   exact ⟨rfl, (by repeat (first | (with_reducible first | exact HB1.out | apply ba | apply bn | apply bd) | exact HB1.out))⟩
set_option maxHeartbeats 4000000 in
set_option maxRecDepth 100000 in
theorem impl_FeedOK.has (k : Nat) (A : Option Addr) (c : Nat) (l : List S49) (r : Int) (q : Bool) (w : World) (hG : Glob w) (hr : Kd.C k49 w A l.length l) (H : impl_FeedOK.ix k l 0 = some r) (hq : decide (0 ≤ r) = q) :
  Calls Tryz.prog 29 #[.slice A l.length c, .func (.func 30) #[] #[]] w fun e w' => e = .returned (.bool q) ∧ Below w.heap.size w w' := by
 have HR := Aside0.mk hr
 have HG := Aside0.mk hG
 have HH := Aside0.mk H
 have HB := Aside0.mk (Below.refl w.heap.size w)
 subst hq
 clear hr hG H
 go_enter Tryz.func29, Tryz.ntmps29
 go_wp2_with ((go_at_call 45; refine (impl_FeedOK.index k A c l r _ (Glob.of_below HG.out (by repeat (first | (with_reducible first | exact HB.out | apply ba | apply bn | apply bd) | exact HB.out))) (Kd.C_below HR.out (by repeat (first | (with_reducible first | exact HB.out | apply ba | apply bn | apply bd) | exact HB.out))) HH.out).mono ?_; rintro e w1 ⟨rfl, hb⟩; skip; have m_HB := Aside0.mk (below_step HB.out hb); clear HB; have HB := m_HB; clear m_HB; clear hb))
 go_ret
 exact ⟨rfl, (by repeat (first | (with_reducible first | exact HB.out | apply ba | apply bn | apply bd) | exact HB.out))⟩
set_option maxHeartbeats 4000000 in
set_option maxRecDepth 100000 in
theorem impl_FeedOK.calls (k : Nat) (a0_0 : Bool) (a0_1 : ByteArray) (A0_2 : Option Addr) (c0_2 : Nat) (l0_2 : List S49) (r : Bool) (w : World) (hr0_2 : Kd.C k49 w A0_2 l0_2.length l0_2) (hc0_2 : l0_2.length ≤ c0_2) (h : impl_FeedOK.f k a0_0 a0_1 l0_2 = some r) (hG : Glob w) :
  Calls Tryz.prog 13 #[.agg #[.bool a0_0, .string a0_1, .slice A0_2 l0_2.length c0_2]] w fun e w' => e = .returned (.bool r) ∧ Below w.heap.size w w' := by
 have hu := Tryz.underlying30
 have HR := Aside0.mk hr0_2
 have HG := Aside0.mk hG
 have HB := Aside0.mk (Below.refl w.heap.size w)
 unfold impl_FeedOK.f at h
 obtain ⟨t, HT0, h⟩ := Option.bind_eq_some_iff.mp h
 have HT := Aside0.mk HT0
 clear hr0_2 hc0_2 hG HT0
 cases t with
 | false =>
  obtain rfl := Option.some.inj h
  clear h
  go_enter Tryz.func13, Tryz.ntmps13
  go_wp2_with (first | ((with_reducible refine gate_dst (N := 1) rfl ?_); refine box_event ?hg (N := 1) ?hd (cs := #[.bool a0_0, .string a0_1, .slice A0_2 l0_2.length c0_2]) (t := 30) ?hr ?_; (case hd => rfl); (case hg => rfl); (case hr => first | (go_simp; done) | (go_simp; rfl)); intro gf hg w1 hbox hb; have C0 : Aside0 (w1.cell? ⟨gf, 0, none⟩ = some (.bool a0_0)) := ⟨(blk_cell hbox 0).trans rfl⟩; have C1 : Aside0 (w1.cell? ⟨gf, 1, none⟩ = some (.string a0_1)) := ⟨(blk_cell hbox 1).trans rfl⟩; have C2 : Aside0 (w1.cell? ⟨gf, 2, none⟩ = some (.slice A0_2 l0_2.length c0_2)) := ⟨(blk_cell hbox 2).trans rfl⟩; have m_HB := Aside0.mk (below_step HB.out hb); clear HB; have HB := m_HB; clear m_HB; clear hb; clear hbox hg; have zC0 := C0.out; have zC1 := C1.out; have zC2 := C2.out) | (go_at_call 28; refine (impl_lineOK.calls a0_1 _ _ HT.out (Glob.of_below HG.out (by repeat (first | (with_reducible first | exact HB.out | apply ba | apply bn | apply bd) | exact HB.out)))).mono ?_; rintro e w2 ⟨rfl, hb⟩; clear zC0; clear zC1; clear zC2; have m_C0 := Aside0.mk ((hb.cell (World.block_lt_of_cell? w1 _ C0.out)).trans C0.out); have m_C1 := Aside0.mk ((hb.cell (World.block_lt_of_cell? w1 _ C1.out)).trans C1.out); have m_C2 := Aside0.mk ((hb.cell (World.block_lt_of_cell? w1 _ C2.out)).trans C2.out); have m_HB := Aside0.mk (below_step HB.out hb); clear HB; have HB := m_HB; clear m_HB; clear C0; have C0 := m_C0; clear m_C0; clear C1; have C1 := m_C1; clear m_C1; clear C2; have C2 := m_C2; clear m_C2; clear hb; have zC0 := C0.out; have zC1 := C1.out; have zC2 := C2.out))
  go_ret
  exact ⟨rfl, (by repeat (first | (with_reducible first | exact HB.out | apply ba | apply bn | apply bd) | exact HB.out))⟩
 | true =>
  rw [if_pos rfl] at h
  by_cases h2 : l0_2.length ≤ 20
  ·rw [if_pos h2] at h
   have c2b := decide_eq_true h2
   have c2c : decide ((l0_2.length : Int) ≤ 20) = true := decide_eq_true (by omega)
   clear h2
   obtain ⟨i, HI0, h⟩ := Option.bind_eq_some_iff.mp h
   have HI := Aside0.mk HI0
   clear HI0
   obtain rfl := Option.some.inj h
   clear h
   obtain ⟨q, hq⟩ : ∃ q, decide (0 ≤ i) = q := ⟨_, rfl⟩
   have er : decide (i < 0) = !q := by rw [← hq]; by_cases h0 : 0 ≤ i <;> simp [h0] <;> omega
   rw [er]
   have HQ := Aside0.mk hq
   clear hq er
   go_enter Tryz.func13, Tryz.ntmps13
   go_wp2_with (first | ((with_reducible refine gate_dst (N := 1) rfl ?_); refine box_event ?hg (N := 1) ?hd (cs := #[.bool a0_0, .string a0_1, .slice A0_2 l0_2.length c0_2]) (t := 30) ?hr ?_; (case hd => rfl); (case hg => rfl); (case hr => first | (go_simp; done) | (go_simp; rfl)); intro gf hg w1 hbox hb; have C0 : Aside0 (w1.cell? ⟨gf, 0, none⟩ = some (.bool a0_0)) := ⟨(blk_cell hbox 0).trans rfl⟩; have C1 : Aside0 (w1.cell? ⟨gf, 1, none⟩ = some (.string a0_1)) := ⟨(blk_cell hbox 1).trans rfl⟩; have C2 : Aside0 (w1.cell? ⟨gf, 2, none⟩ = some (.slice A0_2 l0_2.length c0_2)) := ⟨(blk_cell hbox 2).trans rfl⟩; have m_HB := Aside0.mk (below_step HB.out hb); clear HB; have HB := m_HB; clear m_HB; clear hb; clear hbox hg; have zC0 := C0.out; have zC1 := C1.out; have zC2 := C2.out) | (go_at_call 28; refine (impl_lineOK.calls a0_1 _ _ HT.out (Glob.of_below HG.out (by repeat (first | (with_reducible first | exact HB.out | apply ba | apply bn | apply bd) | exact HB.out)))).mono ?_; rintro e w2 ⟨rfl, hb⟩; clear zC0; clear zC1; clear zC2; have m_C0 := Aside0.mk ((hb.cell (World.block_lt_of_cell? w1 _ C0.out)).trans C0.out); have m_C1 := Aside0.mk ((hb.cell (World.block_lt_of_cell? w1 _ C1.out)).trans C1.out); have m_C2 := Aside0.mk ((hb.cell (World.block_lt_of_cell? w1 _ C2.out)).trans C2.out); have m_HB := Aside0.mk (below_step HB.out hb); clear HB; have HB := m_HB; clear m_HB; clear C0; have C0 := m_C0; clear m_C0; clear C1; have C1 := m_C1; clear m_C1; clear C2; have C2 := m_C2; clear m_C2; clear hb; have zC0 := C0.out; have zC1 := C1.out; have zC2 := C2.out) | (go_at_call 29; refine (impl_FeedOK.has k A0_2 c0_2 l0_2 i q _ (Glob.of_below HG.out (by repeat (first | (with_reducible first | exact HB.out | apply ba | apply bn | apply bd) | exact HB.out))) (Kd.C_below HR.out (by repeat (first | (with_reducible first | exact HB.out | apply ba | apply bn | apply bd) | exact HB.out))) HI.out HQ.out).mono ?_; rintro e w3 ⟨rfl, hb⟩; clear zC0; clear zC1; clear zC2; have m_C0 := Aside0.mk ((hb.cell (World.block_lt_of_cell? w2 _ C0.out)).trans C0.out); have m_C1 := Aside0.mk ((hb.cell (World.block_lt_of_cell? w2 _ C1.out)).trans C1.out); have m_C2 := Aside0.mk ((hb.cell (World.block_lt_of_cell? w2 _ C2.out)).trans C2.out); have m_HB := Aside0.mk (below_step HB.out hb); clear HB; have HB := m_HB; clear m_HB; clear C0; have C0 := m_C0; clear m_C0; clear C1; have C1 := m_C1; clear m_C1; clear C2; have C2 := m_C2; clear m_C2; clear hb; have zC0 := C0.out; have zC1 := C1.out; have zC2 := C2.out))
   go_ret
   exact ⟨rfl, (by repeat (first | (with_reducible first | exact HB.out | apply ba | apply bn | apply bd) | exact HB.out))⟩
  ·rw [if_neg h2] at h
   obtain rfl := Option.some.inj h
   have c2b := decide_eq_false h2
   have c2c : decide ((l0_2.length : Int) ≤ 20) = false := decide_eq_false (by omega)
   clear h2 h
   go_enter Tryz.func13, Tryz.ntmps13
   go_wp2_with (first | ((with_reducible refine gate_dst (N := 1) rfl ?_); refine box_event ?hg (N := 1) ?hd (cs := #[.bool a0_0, .string a0_1, .slice A0_2 l0_2.length c0_2]) (t := 30) ?hr ?_; (case hd => rfl); (case hg => rfl); (case hr => first | (go_simp; done) | (go_simp; rfl)); intro gf hg w1 hbox hb; have C0 : Aside0 (w1.cell? ⟨gf, 0, none⟩ = some (.bool a0_0)) := ⟨(blk_cell hbox 0).trans rfl⟩; have C1 : Aside0 (w1.cell? ⟨gf, 1, none⟩ = some (.string a0_1)) := ⟨(blk_cell hbox 1).trans rfl⟩; have C2 : Aside0 (w1.cell? ⟨gf, 2, none⟩ = some (.slice A0_2 l0_2.length c0_2)) := ⟨(blk_cell hbox 2).trans rfl⟩; have m_HB := Aside0.mk (below_step HB.out hb); clear HB; have HB := m_HB; clear m_HB; clear hb; clear hbox hg; have zC0 := C0.out; have zC1 := C1.out; have zC2 := C2.out) | (go_at_call 28; refine (impl_lineOK.calls a0_1 _ _ HT.out (Glob.of_below HG.out (by repeat (first | (with_reducible first | exact HB.out | apply ba | apply bn | apply bd) | exact HB.out)))).mono ?_; rintro e w2 ⟨rfl, hb⟩; clear zC0; clear zC1; clear zC2; have m_C0 := Aside0.mk ((hb.cell (World.block_lt_of_cell? w1 _ C0.out)).trans C0.out); have m_C1 := Aside0.mk ((hb.cell (World.block_lt_of_cell? w1 _ C1.out)).trans C1.out); have m_C2 := Aside0.mk ((hb.cell (World.block_lt_of_cell? w1 _ C2.out)).trans C2.out); have m_HB := Aside0.mk (below_step HB.out hb); clear HB; have HB := m_HB; clear m_HB; clear C0; have C0 := m_C0; clear m_C0; clear C1; have C1 := m_C1; clear m_C1; clear C2; have C2 := m_C2; clear m_C2; clear hb; have zC0 := C0.out; have zC1 := C1.out; have zC2 := C2.out))
   go_ret
   exact ⟨rfl, (by repeat (first | (with_reducible first | exact HB.out | apply ba | apply bn | apply bd) | exact HB.out))⟩

/-! ### impl_escapeXml: function 34, walked by hand in the Replacer's texts -/
def impl_escapeXml.f (a0 : ByteArray) : Option ByteArray := if a0.size ≤ 100000 then some ⟨(Rpl.esc a0.data.toList).toArray⟩ else none
theorem impl_escapeXml.calls (a0 : ByteArray) (r : ByteArray) (w : World) (h : impl_escapeXml.f a0 = some r) :
  Calls Tryz.prog 34 #[.string a0] w fun e w' => e = .returned (.string r) ∧ Below w.heap.size w w' := by
 unfold impl_escapeXml.f at h
 by_cases hs : a0.size ≤ 100000
 ·rw [if_pos hs] at h
  obtain rfl := Option.some.inj h
  exact Rpl.escape a0 hs w
 ·rw [if_neg hs] at h
  cases h

/-! ### impl_element: function 17 -/
def impl_element.f (a0 : ByteArray) (a1 : ByteArray) : Option (ByteArray) := if 1 + a0.size ≤ 9223372036854775807 then (if ((⟨#[60]⟩ : ByteArray) ++ a0).size + 1 ≤ 9223372036854775807 then ((impl_escapeXml.f a1).bind fun t285 => (if (((⟨#[60]⟩ : ByteArray) ++ a0) ++ (⟨#[62]⟩ : ByteArray)).size + t285.size ≤ 9223372036854775807 then (if ((((⟨#[60]⟩ : ByteArray) ++ a0) ++ (⟨#[62]⟩ : ByteArray)) ++ t285).size + 2 ≤ 9223372036854775807 then (if (((((⟨#[60]⟩ : ByteArray) ++ a0) ++ (⟨#[62]⟩ : ByteArray)) ++ t285) ++ (⟨#[60, 47]⟩ : ByteArray)).size + a0.size ≤ 9223372036854775807 then (if ((((((⟨#[60]⟩ : ByteArray) ++ a0) ++ (⟨#[62]⟩ : ByteArray)) ++ t285) ++ (⟨#[60, 47]⟩ : ByteArray)) ++ a0).size + 1 ≤ 9223372036854775807 then (some (((((((⟨#[60]⟩ : ByteArray) ++ a0) ++ (⟨#[62]⟩ : ByteArray)) ++ t285) ++ (⟨#[60, 47]⟩ : ByteArray)) ++ a0) ++ (⟨#[62]⟩ : ByteArray))) else (none)) else (none)) else (none)) else (none))) else (none)) else (none)
set_option maxHeartbeats 8000000 in
set_option maxRecDepth 100000 in
theorem impl_element.calls (a0 : ByteArray) (a1 : ByteArray) (r : ByteArray) (w : World) (h : impl_element.f a0 a1 = some r) :
  Calls Tryz.prog 17 #[.string a0, .string a1] w fun e w' => e = .returned (.string r) ∧ Below w.heap.size w w' := by
 have HB := Aside0.mk (Below.refl w.heap.size w)
 have H := h
 unfold impl_element.f at H
 clear h
 obtain ⟨c3, H⟩ := iteA H
 have c3b0 := eq_true c3
 have c3b1 := decide_eq_true c3
 try have c3b2 := eq_false (Nat.not_lt.2 c3)
 obtain ⟨c4, H⟩ := iteA H
 have c4b0 := eq_true c4
 have c4b1 := decide_eq_true c4
 try have c4b2 := eq_false (Nat.not_lt.2 c4)
 try have c4b3 : (9223372036854775807 < 1 + a0.size + 1) = False := eq_false (Nat.not_lt.2 (by have h_ := c4; simp only [ByteArray.size_append] at h_; exact h_))
 obtain ⟨t285, A5, H⟩ := bindA H
 obtain ⟨c6, H⟩ := iteA H
 have c6b0 := eq_true c6
 have c6b1 := decide_eq_true c6
 try have c6b2 := eq_false (Nat.not_lt.2 c6)
 try have c6b3 : (9223372036854775807 < 1 + a0.size + 1 + t285.size) = False := eq_false (Nat.not_lt.2 (by have h_ := c6; simp only [ByteArray.size_append] at h_; exact h_))
 obtain ⟨c7, H⟩ := iteA H
 have c7b0 := eq_true c7
 have c7b1 := decide_eq_true c7
 try have c7b2 := eq_false (Nat.not_lt.2 c7)
 try have c7b3 : (9223372036854775807 < 1 + a0.size + 1 + t285.size + 2) = False := eq_false (Nat.not_lt.2 (by have h_ := c7; simp only [ByteArray.size_append] at h_; exact h_))
 obtain ⟨c8, H⟩ := iteA H
 have c8b0 := eq_true c8
 have c8b1 := decide_eq_true c8
 try have c8b2 := eq_false (Nat.not_lt.2 c8)
 try have c8b3 : (9223372036854775807 < 1 + a0.size + 1 + t285.size + 2 + a0.size) = False := eq_false (Nat.not_lt.2 (by have h_ := c8; simp only [ByteArray.size_append] at h_; exact h_))
 obtain ⟨c9, H⟩ := iteA H
 have c9b0 := eq_true c9
 have c9b1 := decide_eq_true c9
 try have c9b2 := eq_false (Nat.not_lt.2 c9)
 try have c9b3 : (9223372036854775807 < 1 + a0.size + 1 + t285.size + 2 + a0.size + 1) = False := eq_false (Nat.not_lt.2 (by have h_ := c9; simp only [ByteArray.size_append] at h_; exact h_))
 obtain rfl := Option.some.inj H
 go_enter Tryz.func17, Tryz.ntmps17
 go_wp2_with (first | ((with_reducible refine gate_callee (f := 34) rfl ?_); refine goesL_ (some 9) rfl rfl Tryz.func34 (by kernel_rfl) rfl #[.string a1] rfl (by (try simp only [List.map_toArray, List.map_cons, List.map_nil]); first | done | rfl | (simp only [List.length_drop, List.length_take]; rfl)) ?_; (with_reducible refine (impl_escapeXml.calls a1 t285 _ A5.out).mono ?_); rintro e w10 ⟨rfl, hb⟩; refine ⟨_, rfl, ?_⟩; replace HB := Aside0.mk (below_step (by repeat (first | (with_reducible first | exact HB.out | apply ba | apply bn | apply bd) | exact HB.out)) hb); (try clear hb); (try clear hb2); (try clear hk); (try clear hi)))
 go_ret
 exact ⟨by first | rfl | (simp [*] <;> rfl), by repeat (first | (with_reducible first | exact HB.out | apply ba | apply bn | apply bd) | exact HB.out)⟩

/-! ### impl_leap: function 86 -/
def impl_leap.f (a0 : Int) : Option (Bool) := if (Int.tmod a0 4) = 0 then (if (Int.tmod a0 100) = 0 then (some ((Int.tmod a0 400) == 0)) else (some true)) else (some false)
set_option maxHeartbeats 8000000 in
set_option maxRecDepth 100000 in
theorem impl_leap.calls (a0 : Int) (r : Bool) (w : World) (h : impl_leap.f a0 = some r) :
  Calls Tryz.prog 86 #[.int .i64 a0] w fun e w' => e = .returned (.bool r) ∧ Drawn0 w w' := by
 have H := h
 unfold impl_leap.f at H
 clear h
 by_cases c2 : (Int.tmod a0 4) = 0
 ·rw [if_pos c2] at H
  have c2b0 : ((Int.tmod a0 4) == 0) = true := beq_iff_eq.mpr c2
  have c2b1 : ((Int.tmod a0 4) != 0) = false := bne_eq_false_iff_eq.mpr c2
  clear c2
  by_cases c3 : (Int.tmod a0 100) = 0
  ·rw [if_pos c3] at H
   have c3b0 : ((Int.tmod a0 100) == 0) = true := beq_iff_eq.mpr c3
   have c3b1 : ((Int.tmod a0 100) != 0) = false := bne_eq_false_iff_eq.mpr c3
   clear c3
   obtain rfl := Option.some.inj H
   go_enter Tryz.func86, Tryz.ntmps86
   go_wp2
   go_ret
   exact ⟨by first | rfl | (simp; done) | (simp [*]; done), by repeat (first | exact Drawn0.refl _ | apply Drawn0.step)⟩
  ·rw [if_neg c3] at H
   have c3b0 : ((Int.tmod a0 100) == 0) = false := beq_eq_false_iff_ne.mpr c3
   have c3b1 : ((Int.tmod a0 100) != 0) = true := bne_iff_ne.mpr c3
   obtain rfl := Option.some.inj H
   go_enter Tryz.func86, Tryz.ntmps86
   go_wp2
   go_ret
   exact ⟨by first | rfl | (simp; done) | (simp [*]; done), by repeat (first | exact Drawn0.refl _ | apply Drawn0.step)⟩
 ·rw [if_neg c2] at H
  have c2b0 : ((Int.tmod a0 4) == 0) = false := beq_eq_false_iff_ne.mpr c2
  have c2b1 : ((Int.tmod a0 4) != 0) = true := bne_iff_ne.mpr c2
  obtain rfl := Option.some.inj H
  go_enter Tryz.func86, Tryz.ntmps86
  go_wp2
  go_ret
  exact ⟨by first | rfl | (simp; done) | (simp [*]; done), by repeat (first | exact Drawn0.refl _ | apply Drawn0.step)⟩

/-! ### impl_yearDays: function 73 -/
def impl_yearDays.f (a0 : Int) : Option (Int) := (impl_leap.f a0).bind fun t286 => (if t286 = true then (some 366) else (some 365))
set_option maxHeartbeats 8000000 in
set_option maxRecDepth 100000 in
theorem impl_yearDays.calls (a0 : Int) (r : Int) (w : World) (h : impl_yearDays.f a0 = some r) :
  Calls Tryz.prog 73 #[.int .i64 a0] w fun e w' => e = .returned (.int .i64 r) ∧ Drawn0 w w' := by
 have H := h
 unfold impl_yearDays.f at H
 clear h
 obtain ⟨t286, A2, H⟩ := bindA H
 by_cases c3 : t286 = true
 ·subst c3
  have H1 : (some 366) = some r := by rw [if_pos rfl] at H; exact H
  clear H
  have H := H1
  clear H1
  obtain rfl := Option.some.inj H
  go_enter Tryz.func73, Tryz.ntmps73
  go_wp2_with (first | ((with_reducible refine gate_callee (f := 86) rfl ?_); refine goesL_ (some 4) rfl rfl Tryz.func86 (by kernel_rfl) rfl #[.int .i64 a0] rfl (by (try simp only [List.map_toArray, List.map_cons, List.map_nil]); first | done | rfl | (simp only [List.length_drop, List.length_take]; rfl)) ?_; (with_reducible refine (impl_leap.calls a0 true _ A2.out).mono ?_); rintro e w' ⟨rfl, ⟨nd, rfl⟩⟩; refine ⟨_, rfl, ?_⟩))
  go_ret
  exact ⟨by first | rfl | (simp; done) | (simp [*]; done), by repeat (first | exact Drawn0.refl _ | apply Drawn0.step)⟩
 ·replace c3 := Bool.eq_false_iff.mpr c3
  subst c3
  have H1 : (some 365) = some r := by rw [if_neg (show ¬ (false = true) by decide)] at H; exact H
  clear H
  have H := H1
  clear H1
  obtain rfl := Option.some.inj H
  go_enter Tryz.func73, Tryz.ntmps73
  go_wp2_with (first | ((with_reducible refine gate_callee (f := 86) rfl ?_); refine goesL_ (some 4) rfl rfl Tryz.func86 (by kernel_rfl) rfl #[.int .i64 a0] rfl (by (try simp only [List.map_toArray, List.map_cons, List.map_nil]); first | done | rfl | (simp only [List.length_drop, List.length_take]; rfl)) ?_; (with_reducible refine (impl_leap.calls a0 false _ A2.out).mono ?_); rintro e w' ⟨rfl, ⟨nd, rfl⟩⟩; refine ⟨_, rfl, ?_⟩))
  go_ret
  exact ⟨by first | rfl | (simp; done) | (simp [*]; done), by repeat (first | exact Drawn0.refl _ | apply Drawn0.step)⟩

end Go.Proofs.YteknchhlineciaaGreatDoor.QFnExactFeedText
