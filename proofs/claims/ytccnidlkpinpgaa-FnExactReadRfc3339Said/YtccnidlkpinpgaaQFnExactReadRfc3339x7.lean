/- Printed by a program of this session's own (wip/myprint.py): the functions that FnExactReadRfc3339 reaches as plain Lean functions, and that Go's calls do what they say. Conditions: as each theorem states. -/
import Derived.Test.YtccnidlkpinpgaaQFnExactReadRfc3339x0
import Derived.Test.YtccnidlkpinpgaaQFnExactReadRfc3339x4
import Derived.Test.YtccnidlkpinpgaaQFnExactReadRfc3339x5
import Derived.Test.YtccnidlkpinpgaaQFnExactReadRfc3339x6
namespace Go.Proofs.Ytccnidlkpinpgaa.QFnExactReadRfc3339
open Go.RowKit Go.Proofs.YtccnidlkpinpgaaW.PrintWords Go.Proofs.YtccnidlkpinpgaaW.PrintLast Go.Proofs.YtccnidlkpinpgaaW.PrintMore
attribute [local go_sem] max2_int min2_int max_two min_two max_three min_three max_four min_four   -- for this text's walks alone
set_option linter.unusedVariables false
set_option linter.unusedSimpArgs false

/-! ### impl_dateReader_stamp: function 46 -/
def impl_dateReader_stamp.j0 : Nat → Int → Bool → ByteArray → Bool → Int → Int → Int → Int → Int → Int → Option (Int × Int × ByteArray × Bool)
  | 0, _, _, _, _, _, _, _, _, _, _ => none
  | k + 1, x2, x24, x1000, x1001, x184000, x184001, x184002, x184003, x184004, x184005 => if x24 = true then (some (0, 3, x1000, x1001)) else ((impl_stampOf.f k x184000 x184001 x184002 x184003 x184004 x184005).bind fun t185 => ((impl_isStamp.f (wrap64 (t185 - x2))).bind fun t186 => (if t186 = true then (some (wrap64 (t185 - x2), 0, x1000, x1001)) else (some (0, 4, x1000, x1001)))))
def impl_dateReader_stamp.f (k : Nat) (s0_0 : ByteArray) (s0_1 : Bool) (a1_0 : Int) (a1_1 : Int) (a1_2 : Int) (a1_3 : Int) (a1_4 : Int) (a1_5 : Int) (a2 : Int) : Option (Int × Int × ByteArray × Bool) := if s0_1 = true then (impl_dateReader_stamp.j0 k a2 true s0_0 s0_1 a1_0 a1_1 a1_2 a1_3 a1_4 a1_5) else (if s0_0.toList = ([] : List UInt8) then ((impl_CivilOK.f k a1_0 a1_1 a1_2 a1_3 a1_4 a1_5).bind fun t184 => (impl_dateReader_stamp.j0 k a2 (!t184) s0_0 s0_1 a1_0 a1_1 a1_2 a1_3 a1_4 a1_5)) else (impl_dateReader_stamp.j0 k a2 true s0_0 s0_1 a1_0 a1_1 a1_2 a1_3 a1_4 a1_5))
theorem impl_dateReader_stamp.mono_l : ∀ k, (∀ y0 y1 y2 y3 y4 y5 y6 y7 y8 y9, LeO (impl_dateReader_stamp.j0 k y0 y1 y2 y3 y4 y5 y6 y7 y8 y9) (impl_dateReader_stamp.j0 (k + 1) y0 y1 y2 y3 y4 y5 y6 y7 y8 y9))
  | 0 => fun _ _ _ _ _ _ _ _ _ _ r h => by simp [impl_dateReader_stamp.j0] at h
  | k + 1 => by
    have ih0 := impl_dateReader_stamp.mono_l k
    · intro y0 y1 y2 y3 y4 y5 y6 y7 y8 y9
      unfold impl_dateReader_stamp.j0
      repeat' first
      | (with_reducible exact ih0 _ _ _ _ _ _ _ _ _ _)
      | (with_reducible exact impl_CivilOK.mono _ _ _ _ _ _ _)
      | (with_reducible exact impl_stampOf.mono _ _ _ _ _ _ _)
      | (with_reducible exact LeO.refl _)
      | (with_reducible exact LeO.none _)
      | (with_reducible refine LeO.ite ?_ ?_)
      | (with_reducible refine LeO.bind ?_ (fun _ => ?_))
      | exact ih0 _ _ _ _ _ _ _ _ _ _
      | exact impl_CivilOK.mono _ _ _ _ _ _ _
      | exact impl_stampOf.mono _ _ _ _ _ _ _
      | exact LeO.none _
      | refine LeO.ite ?_ ?_
      | refine LeO.bind ?_ (fun _ => ?_)
theorem impl_dateReader_stamp.mono : ∀ a0 a1 a2 a3 a4 a5 a6 a7 a8 k, LeO (impl_dateReader_stamp.f k a0 a1 a2 a3 a4 a5 a6 a7 a8) (impl_dateReader_stamp.f (k + 1) a0 a1 a2 a3 a4 a5 a6 a7 a8) := by
  intro a0 a1 a2 a3 a4 a5 a6 a7 a8 k
  have ih0 := impl_dateReader_stamp.mono_l k
  unfold impl_dateReader_stamp.f
  repeat' first
      | (with_reducible exact ih0 _ _ _ _ _ _ _ _ _ _)
      | (with_reducible exact impl_CivilOK.mono _ _ _ _ _ _ _)
      | (with_reducible exact impl_stampOf.mono _ _ _ _ _ _ _)
      | (with_reducible exact LeO.refl _)
      | (with_reducible exact LeO.none _)
      | (with_reducible refine LeO.ite ?_ ?_)
      | (with_reducible refine LeO.bind ?_ (fun _ => ?_))
      | exact ih0 _ _ _ _ _ _ _ _ _ _
      | exact impl_CivilOK.mono _ _ _ _ _ _ _
      | exact impl_stampOf.mono _ _ _ _ _ _ _
      | exact LeO.none _
      | refine LeO.ite ?_ ?_
      | refine LeO.bind ?_ (fun _ => ?_)
set_option maxHeartbeats 8000000 in
set_option maxRecDepth 100000 in
theorem impl_dateReader_stamp.calls (k : Nat) (g : Nat) (s0_0 : ByteArray) (s0_1 : Bool) (a1_0 : Int) (a1_1 : Int) (a1_2 : Int) (a1_3 : Int) (a1_4 : Int) (a1_5 : Int) (a2 : Int) (r1 : Int) (r2 : Int) (r3 : ByteArray) (r4 : Bool) (w0 w : World) (hI : IsS53 w0 w g s0_0 s0_1) (hB : Below w0.heap.size w0 w) (h : impl_dateReader_stamp.f k s0_0 s0_1 a1_0 a1_1 a1_2 a1_3 a1_4 a1_5 a2 = some (r1, r2, r3, r4)) :
    Calls Try.prog 46 #[.pointer (some ⟨g, 0, none⟩), .agg #[.int .i64 a1_0, .int .i64 a1_1, .int .i64 a1_2, .int .i64 a1_3, .int .i64 a1_4, .int .i64 a1_5], .int .i64 a2] w fun e w' => e = .returned (.tuple #[.int .i64 r1, .int .i64 r2]) ∧ IsS53 w0 w' g r3 r4 ∧ Below w0.heap.size w0 w' ∧ KeepBut w w' g none := by
  have hu28 := Try.underlying28
  have HI0 := Aside0.mk hI
  have HK := Aside0.mk (KeepBut.refl w g none)
  have HL := Aside0.mk hB.size
  clear hI
  have HW0 := Aside0.mk hB.size
  have HB := Aside0.mk hB
  clear hB
  have H : (if s0_1 = true then (impl_dateReader_stamp.j0 k a2 true s0_0 s0_1 a1_0 a1_1 a1_2 a1_3 a1_4 a1_5) else (if s0_0.toList = ([] : List UInt8) then ((impl_CivilOK.f k a1_0 a1_1 a1_2 a1_3 a1_4 a1_5).bind fun t184 => (impl_dateReader_stamp.j0 k a2 (!t184) s0_0 s0_1 a1_0 a1_1 a1_2 a1_3 a1_4 a1_5)) else (impl_dateReader_stamp.j0 k a2 true s0_0 s0_1 a1_0 a1_1 a1_2 a1_3 a1_4 a1_5))) = some (r1, r2, r3, r4) := h
  clear h
  have HC4 := Aside0.mk H
  clear H
  go_enter Try.func46, Try.ntmps46
  go_upto_region 1 with (first | ((with_reducible refine gate_dst (N := 4) rfl ?_); refine box_event ?hg (N := 4) ?hd (cs := #[.int .i64 a1_0, .int .i64 a1_1, .int .i64 a1_2, .int .i64 a1_3, .int .i64 a1_4, .int .i64 a1_5]) (t := 28) ?hr ?_; (case hd => rfl); (case hg => rfl); (case hr => first | (go_simp; done) | (go_simp; rfl)); intro gb183 hg w5 hbox hb; have n0_ := Aside0.mk (IsS53.below (by repeat (first | (with_reducible first | exact HI0.out | apply IsS53.alloc | apply IsS53.drewN | apply IsS53.drew | apply IsS53.set_0 | apply IsS53.set_1) | exact HI0.out)) hb); have n1_ := Aside0.mk (KeepBut.trans (by repeat (first | (with_reducible first | exact HK.out | apply KeepBut.set_ | apply keep_drewN | apply keep_drew | apply keep_alloc) | exact HK.out)) (KeepBut.of_below hb g none) (.inl rfl)); have n2_ := Aside0.mk (below_step (by repeat (first | (with_reducible first | exact HB.out | apply below_alloc | apply pw_below_drewN | apply below_drew1 | refine below_set ?_ (IsS53.ge HI0.out)) | exact HB.out)) hb); have n3_ := Aside0.mk (hbox); have n4_ := Aside0.mk ((by rw [hg]; exact (keep_size (w := w) (g := g) (row := none) (by repeat (first | (with_reducible first | exact HK.out | apply KeepBut.set_ | apply keep_drewN | apply keep_drew | apply keep_alloc) | exact HK.out))) : w.heap.size ≤ gb183)); have n5_ := Aside0.mk ((Nat.le_trans HW0.out (by rw [hg]; exact (keep_size (w := w) (g := g) (row := none) (by repeat (first | (with_reducible first | exact HK.out | apply KeepBut.set_ | apply keep_drewN | apply keep_drew | apply keep_alloc) | exact HK.out))) : w.heap.size ≤ gb183) : w0.heap.size ≤ gb183)); have n6_ := Aside0.mk ((by rw [hg]; exact Nat.ne_of_lt (IsS53.lt (show IsS53 w0 _ g s0_0 s0_1 from by repeat (first | (with_reducible first | exact HI0.out | apply IsS53.alloc | apply IsS53.drewN | apply IsS53.drew | apply IsS53.set_0 | apply IsS53.set_1) | exact HI0.out))) : g ≠ gb183)); have n7_ := Aside0.mk ((by rw [hg]; exact Nat.ne_of_gt (IsS53.lt (show IsS53 w0 _ g s0_0 s0_1 from by repeat (first | (with_reducible first | exact HI0.out | apply IsS53.alloc | apply IsS53.drewN | apply IsS53.drew | apply IsS53.set_0 | apply IsS53.set_1) | exact HI0.out))) : gb183 ≠ g)); clear HI0; clear HK; clear HB; have HI0 := n0_; have HK := n1_; have HB := n2_; have BK183 := n3_; have GW183 := n4_; have GE183 := n5_; have NB0_183 := n6_; have NB183_0 := n7_; clear n0_ n1_ n2_ n3_ n4_ n5_ n6_ n7_; clear hb hbox hg))
  (try simp only [Act.put, List.setIfInBounds_toArray, List.set_cons_zero, List.set_cons_succ])
  go_cut [24] (fun v24 wc => ∃ (kq : Nat) (x24_3 : Bool), v24 = .bool x24_3 ∧ Aside0 (impl_dateReader_stamp.j0 kq a2 x24_3 s0_0 s0_1 a1_0 a1_1 a1_2 a1_3 a1_4 a1_5 = some (r1, r2, r3, r4)) ∧ Aside0 (kq ≤ k) ∧ Aside0 (wc.heap[gb183]? = some (.cells #[.int .i64 a1_0, .int .i64 a1_1, .int .i64 a1_2, .int .i64 a1_3, .int .i64 a1_4, .int .i64 a1_5] 28 (0, 0))) ∧ Aside0 (IsS53 w0 wc g s0_0 s0_1) ∧ Aside0 (KeepBut w wc g none) ∧ Aside0 (Below w0.heap.size w0 wc))
  case first =>
    have H := HC4.out
    clear HC4
    by_cases c6 : s0_1 = true
    · subst c6
      have H1 : (impl_dateReader_stamp.j0 k a2 true s0_0 true a1_0 a1_1 a1_2 a1_3 a1_4 a1_5) = some (r1, r2, r3, r4) := by rw [if_pos rfl] at H; exact H
      clear H
      have H := H1
      clear H1
      have H' := Aside0.mk H
      clear H
      obtain ⟨HGz7, hgz7⟩ := HI0.out
      have hcz7_0 := cellS53_0 HGz7
      have hcz7_1 := cellS53_1 HGz7
      have hfz7_0 := blk_frozen HGz7 0
      have hfz7_1 := blk_frozen HGz7 1
      clear HGz7 hgz7
      go_wp2
      go_meet
      case rel => exact ⟨_, (true), (by first | rfl | (simp; done) | (simp [*]; done) | (simp; rfl) | (simp; unfold wrap64; omega)), H', ⟨by first | omega | exact Nat.le_refl _⟩, ⟨by (with_reducible repeat (first | refine blk_drewN ?_ _ | refine blk_drew ?_ | refine blk_alloc ?_ _)); exact BK183.out⟩, ⟨by repeat (first | (with_reducible first | exact HI0.out | apply IsS53.alloc | apply IsS53.drewN | apply IsS53.drew | apply IsS53.set_0 | apply IsS53.set_1 | refine IsS53.far ?_ NB0_183.out _) | exact HI0.out)⟩, ⟨by repeat (first | (with_reducible first | exact HK.out | apply KeepBut.set_ | apply keep_drewN | apply keep_drew | apply keep_alloc | refine keep_far ?_ GW183.out _) | exact HK.out)⟩, ⟨by repeat (first | (with_reducible first | exact HB.out | apply below_alloc | apply pw_below_drewN | apply below_drew1 | refine below_set ?_ (IsS53.ge HI0.out) | refine below_set ?_ GE183.out) | exact HB.out)⟩⟩
    · replace c6 := Bool.eq_false_iff.mpr c6
      subst c6
      have H1 : (if s0_0.toList = ([] : List UInt8) then ((impl_CivilOK.f k a1_0 a1_1 a1_2 a1_3 a1_4 a1_5).bind fun t184 => (impl_dateReader_stamp.j0 k a2 (!t184) s0_0 false a1_0 a1_1 a1_2 a1_3 a1_4 a1_5)) else (impl_dateReader_stamp.j0 k a2 true s0_0 false a1_0 a1_1 a1_2 a1_3 a1_4 a1_5)) = some (r1, r2, r3, r4) := by rw [if_neg (show ¬ (false = true) by decide)] at H; exact H
      clear H
      have H := H1
      clear H1
      by_cases c8 : s0_0.toList = ([] : List UInt8)
      · rw [if_pos c8] at H
        have c8b0 : (s0_0.toList == ([] : List UInt8)) = true := beq_iff_eq.mpr c8
        have c8b1 : (s0_0.toList != ([] : List UInt8)) = false := bne_eq_false_iff_eq.mpr c8
        clear c8
        (first | rw [c8b0] | (simp only [i64_w, i32_w]; rw [c8b0]) | skip)
        replace H := Option.bind_eq_some_iff.mp H
        obtain ⟨t184, A90, H⟩ := H
        replace H : (impl_dateReader_stamp.j0 k a2 (!t184) s0_0 false a1_0 a1_1 a1_2 a1_3 a1_4 a1_5) = some (r1, r2, r3, r4) := H
        have A9 := Aside0.mk A90
        clear A90
        have H' := Aside0.mk H
        clear H
        obtain ⟨HGz10, hgz10⟩ := HI0.out
        have hcz10_0 := cellS53_0 HGz10
        have hcz10_1 := cellS53_1 HGz10
        have hfz10_0 := blk_frozen HGz10 0
        have hfz10_1 := blk_frozen HGz10 1
        clear HGz10 hgz10
        have hnb11 := NB183_0.out
        have hnc11 := NB0_183.out
        have hcz12_0 : w5.cell? ⟨gb183, 0, none⟩ = some (.int .i64 a1_0) := (blk_cell BK183.out 0).trans rfl
        have hcz12_1 : w5.cell? ⟨gb183, 1, none⟩ = some (.int .i64 a1_1) := (blk_cell BK183.out 1).trans rfl
        have hcz12_2 : w5.cell? ⟨gb183, 2, none⟩ = some (.int .i64 a1_2) := (blk_cell BK183.out 2).trans rfl
        have hcz12_3 : w5.cell? ⟨gb183, 3, none⟩ = some (.int .i64 a1_3) := (blk_cell BK183.out 3).trans rfl
        have hcz12_4 : w5.cell? ⟨gb183, 4, none⟩ = some (.int .i64 a1_4) := (blk_cell BK183.out 4).trans rfl
        have hcz12_5 : w5.cell? ⟨gb183, 5, none⟩ = some (.int .i64 a1_5) := (blk_cell BK183.out 5).trans rfl
        have hfz12_0 := blk_frozen BK183.out 0
        have hfz12_1 := blk_frozen BK183.out 1
        have hfz12_2 := blk_frozen BK183.out 2
        have hfz12_3 := blk_frozen BK183.out 3
        have hfz12_4 := blk_frozen BK183.out 4
        have hfz12_5 := blk_frozen BK183.out 5
        go_wp2_with (first | (go_at_call 14; (with_reducible refine (impl_CivilOK.calls k a1_0 a1_1 a1_2 a1_3 a1_4 a1_5 t184 _ A9.out).mono ?_); rintro e w13 ⟨rfl, hb⟩; have n0_ := Aside0.mk (IsS53.below (by repeat (first | (with_reducible first | exact HI0.out | apply IsS53.alloc | apply IsS53.drewN | apply IsS53.drew | apply IsS53.set_0 | apply IsS53.set_1 | refine IsS53.far ?_ NB0_183.out _) | exact HI0.out)) hb); have n1_ := Aside0.mk (blk_below (g := gb183) (o := .cells #[.int .i64 a1_0, .int .i64 a1_1, .int .i64 a1_2, .int .i64 a1_3, .int .i64 a1_4, .int .i64 a1_5] 28 (0, 0)) (by (with_reducible repeat (first | refine blk_drewN ?_ _ | refine blk_drew ?_ | refine blk_alloc ?_ _)); exact BK183.out) hb); have n2_ := Aside0.mk (KeepBut.trans (by repeat (first | (with_reducible first | exact HK.out | apply KeepBut.set_ | apply keep_drewN | apply keep_drew | apply keep_alloc | refine keep_far ?_ GW183.out _) | exact HK.out)) (KeepBut.of_below hb g none) (.inl rfl)); have n3_ := Aside0.mk (below_step (by repeat (first | (with_reducible first | exact HB.out | apply below_alloc | apply pw_below_drewN | apply below_drew1 | refine below_set ?_ (IsS53.ge HI0.out) | refine below_set ?_ GE183.out) | exact HB.out)) hb); clear HI0; clear BK183; clear HK; clear HB; have HI0 := n0_; have BK183 := n1_; have HK := n2_; have HB := n3_; clear n0_ n1_ n2_ n3_; (try clear hb); (try clear hb2); (try clear hk); (try clear hi)))
        go_meet
        case rel => exact ⟨_, (!t184), (by first | rfl | (simp; done) | (simp [*]; done) | (simp; rfl) | (simp; unfold wrap64; omega)), H', ⟨by first | omega | exact Nat.le_refl _⟩, ⟨by (with_reducible repeat (first | refine blk_drewN ?_ _ | refine blk_drew ?_ | refine blk_alloc ?_ _)); exact BK183.out⟩, ⟨by repeat (first | (with_reducible first | exact HI0.out | apply IsS53.alloc | apply IsS53.drewN | apply IsS53.drew | apply IsS53.set_0 | apply IsS53.set_1 | refine IsS53.far ?_ NB0_183.out _) | exact HI0.out)⟩, ⟨by repeat (first | (with_reducible first | exact HK.out | apply KeepBut.set_ | apply keep_drewN | apply keep_drew | apply keep_alloc | refine keep_far ?_ GW183.out _) | exact HK.out)⟩, ⟨by repeat (first | (with_reducible first | exact HB.out | apply below_alloc | apply pw_below_drewN | apply below_drew1 | refine below_set ?_ (IsS53.ge HI0.out) | refine below_set ?_ GE183.out) | exact HB.out)⟩⟩
      · rw [if_neg c8] at H
        have c8b0 : (s0_0.toList == ([] : List UInt8)) = false := beq_eq_false_iff_ne.mpr c8
        have c8b1 : (s0_0.toList != ([] : List UInt8)) = true := bne_iff_ne.mpr c8
        (first | rw [c8b0] | (simp only [i64_w, i32_w]; rw [c8b0]) | skip)
        have H' := Aside0.mk H
        clear H
        obtain ⟨HGz14, hgz14⟩ := HI0.out
        have hcz14_0 := cellS53_0 HGz14
        have hcz14_1 := cellS53_1 HGz14
        have hfz14_0 := blk_frozen HGz14 0
        have hfz14_1 := blk_frozen HGz14 1
        clear HGz14 hgz14
        go_wp2
        go_meet
        case rel => exact ⟨_, (true), (by first | rfl | (simp; done) | (simp [*]; done) | (simp; rfl) | (simp; unfold wrap64; omega)), H', ⟨by first | omega | exact Nat.le_refl _⟩, ⟨by (with_reducible repeat (first | refine blk_drewN ?_ _ | refine blk_drew ?_ | refine blk_alloc ?_ _)); exact BK183.out⟩, ⟨by repeat (first | (with_reducible first | exact HI0.out | apply IsS53.alloc | apply IsS53.drewN | apply IsS53.drew | apply IsS53.set_0 | apply IsS53.set_1 | refine IsS53.far ?_ NB0_183.out _) | exact HI0.out)⟩, ⟨by repeat (first | (with_reducible first | exact HK.out | apply KeepBut.set_ | apply keep_drewN | apply keep_drew | apply keep_alloc | refine keep_far ?_ GW183.out _) | exact HK.out)⟩, ⟨by repeat (first | (with_reducible first | exact HB.out | apply below_alloc | apply pw_below_drewN | apply below_drew1 | refine below_set ?_ (IsS53.ge HI0.out) | refine below_set ?_ GE183.out) | exact HB.out)⟩⟩
  case rest =>
    clear HC4
    try clear c1
    try clear p2
    try clear c4
    try clear c6
    try clear c8
    try clear c8b0
    try clear c8b1
    try clear c11
    try clear hcz10_0
    try clear hcz10_1
    try clear hcz12_0
    try clear hcz12_1
    try clear hcz12_2
    try clear hcz12_3
    try clear hcz12_4
    try clear hcz12_5
    try clear hcz14_0
    try clear hcz14_1
    try clear hcz7_0
    try clear hcz7_1
    try clear hfz10_0
    try clear hfz10_1
    try clear hfz12_0
    try clear hfz12_1
    try clear hfz12_2
    try clear hfz12_3
    try clear hfz12_4
    try clear hfz12_5
    try clear hfz14_0
    try clear hfz14_1
    try clear hfz7_0
    try clear hfz7_1
    obtain ⟨kq, x24_3, rfl, HA, HJ3, BK183, HI0, HK, HB⟩ := hcut
    cases kq with
    | zero => exact absurd HA.out (by simp [impl_dateReader_stamp.j0])
    | succ kj3 =>
      have H := HA.out
      clear HA
      simp only [impl_dateReader_stamp.j0] at H
      by_cases c15 : x24_3 = true
      · subst c15
        have H1 : (some (0, 3, s0_0, s0_1)) = some (r1, r2, r3, r4) := by rw [if_pos rfl] at H; exact H
        clear H
        have H := H1
        clear H1
        simp only [Option.some.injEq, Prod.mk.injEq] at H
        obtain ⟨rfl, rfl, rfl, rfl⟩ := H
        go_wp2
        go_ret2
        exact ⟨by first | rfl | (simp [errW_none, errW_some] <;> rfl) | (simp [*, errW_none, errW_some] <;> rfl), by repeat (first | (with_reducible first | exact HI0.out | apply IsS53.alloc | apply IsS53.drewN | apply IsS53.drew | apply IsS53.set_0 | apply IsS53.set_1 | refine IsS53.far ?_ NB0_183.out _) | exact HI0.out), by repeat (first | (with_reducible first | exact HB.out | apply below_alloc | apply pw_below_drewN | apply below_drew1 | refine below_set ?_ (IsS53.ge HI0.out) | refine below_set ?_ GE183.out) | exact HB.out), by repeat (first | (with_reducible first | exact HK.out | apply KeepBut.set_ | apply keep_drewN | apply keep_drew | apply keep_alloc | refine keep_far ?_ GW183.out _) | exact HK.out)⟩
      · replace c15 := Bool.eq_false_iff.mpr c15
        subst c15
        have H1 : ((impl_stampOf.f kj3 a1_0 a1_1 a1_2 a1_3 a1_4 a1_5).bind fun t185 => ((impl_isStamp.f (wrap64 (t185 - a2))).bind fun t186 => (if t186 = true then (some (wrap64 (t185 - a2), 0, s0_0, s0_1)) else (some (0, 4, s0_0, s0_1))))) = some (r1, r2, r3, r4) := by rw [if_neg (show ¬ (false = true) by decide)] at H; exact H
        clear H
        have H := H1
        clear H1
        replace H := Option.bind_eq_some_iff.mp H
        obtain ⟨t185, A160, H⟩ := H
        replace H : ((impl_isStamp.f (wrap64 (t185 - a2))).bind fun t186 => (if t186 = true then (some (wrap64 (t185 - a2), 0, s0_0, s0_1)) else (some (0, 4, s0_0, s0_1)))) = some (r1, r2, r3, r4) := H
        have A16 := Aside0.mk A160
        clear A160
        replace H := Option.bind_eq_some_iff.mp H
        obtain ⟨t186, A170, H⟩ := H
        replace H : (if t186 = true then (some (wrap64 (t185 - a2), 0, s0_0, s0_1)) else (some (0, 4, s0_0, s0_1))) = some (r1, r2, r3, r4) := H
        have A17 := Aside0.mk A170
        clear A170
        by_cases c18 : t186 = true
        · subst c18
          have H1 : (some (wrap64 (t185 - a2), 0, s0_0, s0_1)) = some (r1, r2, r3, r4) := by rw [if_pos rfl] at H; exact H
          clear H
          have H := H1
          clear H1
          simp only [Option.some.injEq, Prod.mk.injEq] at H
          obtain ⟨rfl, rfl, rfl, rfl⟩ := H
          have hnb19 := NB183_0.out
          have hnc19 := NB0_183.out
          have hcz20_0 : wc.cell? ⟨gb183, 0, none⟩ = some (.int .i64 a1_0) := (blk_cell BK183.out 0).trans rfl
          have hcz20_1 : wc.cell? ⟨gb183, 1, none⟩ = some (.int .i64 a1_1) := (blk_cell BK183.out 1).trans rfl
          have hcz20_2 : wc.cell? ⟨gb183, 2, none⟩ = some (.int .i64 a1_2) := (blk_cell BK183.out 2).trans rfl
          have hcz20_3 : wc.cell? ⟨gb183, 3, none⟩ = some (.int .i64 a1_3) := (blk_cell BK183.out 3).trans rfl
          have hcz20_4 : wc.cell? ⟨gb183, 4, none⟩ = some (.int .i64 a1_4) := (blk_cell BK183.out 4).trans rfl
          have hcz20_5 : wc.cell? ⟨gb183, 5, none⟩ = some (.int .i64 a1_5) := (blk_cell BK183.out 5).trans rfl
          have hfz20_0 := blk_frozen BK183.out 0
          have hfz20_1 := blk_frozen BK183.out 1
          have hfz20_2 := blk_frozen BK183.out 2
          have hfz20_3 := blk_frozen BK183.out 3
          have hfz20_4 := blk_frozen BK183.out 4
          have hfz20_5 := blk_frozen BK183.out 5
          go_wp2_with (first | ((with_reducible refine gate_callee (f := 32) rfl ?_); refine goesL_ (some 26) rfl rfl Try.func32 (by kernel_rfl) rfl #[.agg #[.int .i64 a1_0, .int .i64 a1_1, .int .i64 a1_2, .int .i64 a1_3, .int .i64 a1_4, .int .i64 a1_5]] rfl (by (try simp only [List.map_toArray, List.map_cons, List.map_nil]); first | done | rfl | (simp only [List.length_drop, List.length_take]; rfl)) ?_; (with_reducible refine (impl_stampOf.calls kj3 a1_0 a1_1 a1_2 a1_3 a1_4 a1_5 t185 _ A16.out).mono ?_); rintro e w21 ⟨rfl, hb⟩; refine ⟨_, rfl, ?_⟩; have n0_ := Aside0.mk (blk_below (g := gb183) (o := .cells #[.int .i64 a1_0, .int .i64 a1_1, .int .i64 a1_2, .int .i64 a1_3, .int .i64 a1_4, .int .i64 a1_5] 28 (0, 0)) (by (with_reducible repeat (first | refine blk_drewN ?_ _ | refine blk_drew ?_ | refine blk_alloc ?_ _)); exact BK183.out) hb); have n1_ := Aside0.mk (IsS53.below (by repeat (first | (with_reducible first | exact HI0.out | apply IsS53.alloc | apply IsS53.drewN | apply IsS53.drew | apply IsS53.set_0 | apply IsS53.set_1 | refine IsS53.far ?_ NB0_183.out _) | exact HI0.out)) hb); have n2_ := Aside0.mk (KeepBut.trans (by repeat (first | (with_reducible first | exact HK.out | apply KeepBut.set_ | apply keep_drewN | apply keep_drew | apply keep_alloc | refine keep_far ?_ GW183.out _) | exact HK.out)) (KeepBut.of_below hb g none) (.inl rfl)); have n3_ := Aside0.mk (below_step (by repeat (first | (with_reducible first | exact HB.out | apply below_alloc | apply pw_below_drewN | apply below_drew1 | refine below_set ?_ (IsS53.ge HI0.out) | refine below_set ?_ GE183.out) | exact HB.out)) hb); clear BK183; clear HI0; clear HK; clear HB; have BK183 := n0_; have HI0 := n1_; have HK := n2_; have HB := n3_; clear n0_ n1_ n2_ n3_; (try clear hb); (try clear hb2); (try clear hk); (try clear hi)) | ((with_reducible refine gate_callee (f := 26) rfl ?_); refine goesL_ (some 30) rfl rfl Try.func26 (by kernel_rfl) rfl #[.int .i64 (wrap64 (t185 - a2))] rfl (by (try simp only [List.map_toArray, List.map_cons, List.map_nil]); first | done | rfl | (simp only [List.length_drop, List.length_take]; rfl)) ?_; (with_reducible refine (impl_isStamp.calls (wrap64 (t185 - a2)) true _ A17.out).mono ?_); rintro e w' ⟨rfl, ⟨nd, rfl⟩⟩; refine ⟨_, rfl, ?_⟩))
          go_ret2
          exact ⟨by first | rfl | (simp [errW_none, errW_some] <;> rfl) | (simp [*, errW_none, errW_some] <;> rfl), by repeat (first | (with_reducible first | exact HI0.out | apply IsS53.alloc | apply IsS53.drewN | apply IsS53.drew | apply IsS53.set_0 | apply IsS53.set_1 | refine IsS53.far ?_ NB0_183.out _) | exact HI0.out), by repeat (first | (with_reducible first | exact HB.out | apply below_alloc | apply pw_below_drewN | apply below_drew1 | refine below_set ?_ (IsS53.ge HI0.out) | refine below_set ?_ GE183.out) | exact HB.out), by repeat (first | (with_reducible first | exact HK.out | apply KeepBut.set_ | apply keep_drewN | apply keep_drew | apply keep_alloc | refine keep_far ?_ GW183.out _) | exact HK.out)⟩
        · replace c18 := Bool.eq_false_iff.mpr c18
          subst c18
          have H1 : (some (0, 4, s0_0, s0_1)) = some (r1, r2, r3, r4) := by rw [if_neg (show ¬ (false = true) by decide)] at H; exact H
          clear H
          have H := H1
          clear H1
          simp only [Option.some.injEq, Prod.mk.injEq] at H
          obtain ⟨rfl, rfl, rfl, rfl⟩ := H
          have hnb22 := NB183_0.out
          have hnc22 := NB0_183.out
          have hcz23_0 : wc.cell? ⟨gb183, 0, none⟩ = some (.int .i64 a1_0) := (blk_cell BK183.out 0).trans rfl
          have hcz23_1 : wc.cell? ⟨gb183, 1, none⟩ = some (.int .i64 a1_1) := (blk_cell BK183.out 1).trans rfl
          have hcz23_2 : wc.cell? ⟨gb183, 2, none⟩ = some (.int .i64 a1_2) := (blk_cell BK183.out 2).trans rfl
          have hcz23_3 : wc.cell? ⟨gb183, 3, none⟩ = some (.int .i64 a1_3) := (blk_cell BK183.out 3).trans rfl
          have hcz23_4 : wc.cell? ⟨gb183, 4, none⟩ = some (.int .i64 a1_4) := (blk_cell BK183.out 4).trans rfl
          have hcz23_5 : wc.cell? ⟨gb183, 5, none⟩ = some (.int .i64 a1_5) := (blk_cell BK183.out 5).trans rfl
          have hfz23_0 := blk_frozen BK183.out 0
          have hfz23_1 := blk_frozen BK183.out 1
          have hfz23_2 := blk_frozen BK183.out 2
          have hfz23_3 := blk_frozen BK183.out 3
          have hfz23_4 := blk_frozen BK183.out 4
          have hfz23_5 := blk_frozen BK183.out 5
          go_wp2_with (first | ((with_reducible refine gate_callee (f := 32) rfl ?_); refine goesL_ (some 26) rfl rfl Try.func32 (by kernel_rfl) rfl #[.agg #[.int .i64 a1_0, .int .i64 a1_1, .int .i64 a1_2, .int .i64 a1_3, .int .i64 a1_4, .int .i64 a1_5]] rfl (by (try simp only [List.map_toArray, List.map_cons, List.map_nil]); first | done | rfl | (simp only [List.length_drop, List.length_take]; rfl)) ?_; (with_reducible refine (impl_stampOf.calls kj3 a1_0 a1_1 a1_2 a1_3 a1_4 a1_5 t185 _ A16.out).mono ?_); rintro e w24 ⟨rfl, hb⟩; refine ⟨_, rfl, ?_⟩; have n0_ := Aside0.mk (blk_below (g := gb183) (o := .cells #[.int .i64 a1_0, .int .i64 a1_1, .int .i64 a1_2, .int .i64 a1_3, .int .i64 a1_4, .int .i64 a1_5] 28 (0, 0)) (by (with_reducible repeat (first | refine blk_drewN ?_ _ | refine blk_drew ?_ | refine blk_alloc ?_ _)); exact BK183.out) hb); have n1_ := Aside0.mk (IsS53.below (by repeat (first | (with_reducible first | exact HI0.out | apply IsS53.alloc | apply IsS53.drewN | apply IsS53.drew | apply IsS53.set_0 | apply IsS53.set_1 | refine IsS53.far ?_ NB0_183.out _) | exact HI0.out)) hb); have n2_ := Aside0.mk (KeepBut.trans (by repeat (first | (with_reducible first | exact HK.out | apply KeepBut.set_ | apply keep_drewN | apply keep_drew | apply keep_alloc | refine keep_far ?_ GW183.out _) | exact HK.out)) (KeepBut.of_below hb g none) (.inl rfl)); have n3_ := Aside0.mk (below_step (by repeat (first | (with_reducible first | exact HB.out | apply below_alloc | apply pw_below_drewN | apply below_drew1 | refine below_set ?_ (IsS53.ge HI0.out) | refine below_set ?_ GE183.out) | exact HB.out)) hb); clear BK183; clear HI0; clear HK; clear HB; have BK183 := n0_; have HI0 := n1_; have HK := n2_; have HB := n3_; clear n0_ n1_ n2_ n3_; (try clear hb); (try clear hb2); (try clear hk); (try clear hi)) | ((with_reducible refine gate_callee (f := 26) rfl ?_); refine goesL_ (some 30) rfl rfl Try.func26 (by kernel_rfl) rfl #[.int .i64 (wrap64 (t185 - a2))] rfl (by (try simp only [List.map_toArray, List.map_cons, List.map_nil]); first | done | rfl | (simp only [List.length_drop, List.length_take]; rfl)) ?_; (with_reducible refine (impl_isStamp.calls (wrap64 (t185 - a2)) false _ A17.out).mono ?_); rintro e w' ⟨rfl, ⟨nd, rfl⟩⟩; refine ⟨_, rfl, ?_⟩))
          go_ret2
          exact ⟨by first | rfl | (simp [errW_none, errW_some] <;> rfl) | (simp [*, errW_none, errW_some] <;> rfl), by repeat (first | (with_reducible first | exact HI0.out | apply IsS53.alloc | apply IsS53.drewN | apply IsS53.drew | apply IsS53.set_0 | apply IsS53.set_1 | refine IsS53.far ?_ NB0_183.out _) | exact HI0.out), by repeat (first | (with_reducible first | exact HB.out | apply below_alloc | apply pw_below_drewN | apply below_drew1 | refine below_set ?_ (IsS53.ge HI0.out) | refine below_set ?_ GE183.out) | exact HB.out), by repeat (first | (with_reducible first | exact HK.out | apply KeepBut.set_ | apply keep_drewN | apply keep_drew | apply keep_alloc | refine keep_far ?_ GW183.out _) | exact HK.out)⟩

/-! ### impl_ReadRfc3339: function 22, a date after RFC 3339 read: walked by hand -/
/-- The time of a day read. -/
def impl_ReadRfc3339.clk (k : Nat) (s : ByteArray) (b : Bool) : Option (Int × Int × Int × ByteArray × Bool) :=
  (impl_dateReader_digits.f k s b 2).bind fun x1 => (impl_dateReader_need.f x1.2.1 x1.2.2 ⟨#[58]⟩).bind fun x2 => (impl_dateReader_digits.f k x2.1 x2.2 2).bind fun x3 => (impl_dateReader_need.f x3.2.1 x3.2.2 ⟨#[58]⟩).bind fun x4 => (impl_dateReader_digits.f k x4.1 x4.2 2).bind fun x5 => some (x1.1, x3.1, x5.1, x5.2.1, x5.2.2)
set_option maxHeartbeats 4000000 in
set_option maxRecDepth 100000 in
theorem impl_ReadRfc3339.clock (k g gc : Nat) (s : ByteArray) (b : Bool) (y m d h i c r1 r2 r3 : Int) (s' : ByteArray) (b' : Bool) (w0 w : World) (hI : IsS53 w0 w g s b) (hC : w.heap[gc]? = some (.cells #[.int .i64 y, .int .i64 m, .int .i64 d, .int .i64 h, .int .i64 i, .int .i64 c] 28 (0, 0))) (hne : gc ≠ g) (hgc : w0.heap.size ≤ gc) (hB : Below w0.heap.size w0 w) (H : impl_ReadRfc3339.clk k s b = some (r1, r2, r3, s', b')) :
    Calls Try.prog 42 #[.pointer (some ⟨g, 0, none⟩), .pointer (some ⟨gc, 0, none⟩)] w fun e w' => e = .returned (.tuple #[]) ∧ IsS53 w0 w' g s' b' ∧ w'.heap[gc]? = some (.cells #[.int .i64 y, .int .i64 m, .int .i64 d, .int .i64 r1, .int .i64 r2, .int .i64 r3] 28 (0, 0)) ∧ Below w0.heap.size w0 w' := by
  unfold impl_ReadRfc3339.clk at H
  obtain ⟨⟨x1, s1, b1⟩, e1, H⟩ := Option.bind_eq_some_iff.1 H
  obtain ⟨⟨s2, b2⟩, e2, H⟩ := Option.bind_eq_some_iff.1 H
  obtain ⟨⟨x3, s3, b3⟩, e3, H⟩ := Option.bind_eq_some_iff.1 H
  obtain ⟨⟨s4, b4⟩, e4, H⟩ := Option.bind_eq_some_iff.1 H
  obtain ⟨⟨x5, s5, b5⟩, e5, H⟩ := Option.bind_eq_some_iff.1 H
  simp only [Option.some.injEq, Prod.mk.injEq] at H
  obtain ⟨rfl, rfl, rfl, rfl, rfl⟩ := H
  have A1 := Aside0.mk e1
  have A2 := Aside0.mk e2
  have A3 := Aside0.mk e3
  have A4 := Aside0.mk e4
  have A5 := Aside0.mk e5
  have HI0 := Aside0.mk hI
  have HC0 := Aside0.mk hC
  have HB0 := Aside0.mk hB
  clear e1 e2 e3 e4 e5 hI hC hB
  go_enter Try.func42, Try.ntmps42
  go_wp2_with (first | (go_at_call 40; refine (impl_dateReader_digits.calls k g s b 2 x1 s1 b1 w0 _ HI0.out HB0.out A1.out).mono ?_; rintro e w' ⟨rfl, hI, hB, hk⟩; have HCa := Aside0.mk (hk.blk HC0.out hne (by simp)); have f1 := blk_frozen HCa.out 3; have c1 := (blk_cell HCa.out 3).trans rfl; have HI1 := Aside0.mk (hI.far (p := ⟨gc, 3, none⟩) (Ne.symm hne) (.int .i64 x1)); have HB1 := Aside0.mk (below_set (j := 3) (v := .int .i64 x1) hB hgc); have HC1 := Aside0.mk (blk_put HCa.out 3 (.int .i64 x1) rfl); clear hI hB hk HI0 HB0 HC0 HCa) | (go_at_call 41; refine (impl_dateReader_need.calls g s1 b1 ⟨#[58]⟩ s2 b2 w0 _ HI1.out HB1.out A2.out).mono ?_; rintro e w' ⟨rfl, hI, hB, hk⟩; (try clear f1 c1); have HI2 := Aside0.mk hI; have HB2 := Aside0.mk hB; have HC2 := Aside0.mk (hk.blk HC1.out hne (by simp)); clear hI hB hk HI1 HB1 HC1) | (go_at_call 40; refine (impl_dateReader_digits.calls k g s2 b2 2 x3 s3 b3 w0 _ HI2.out HB2.out A3.out).mono ?_; rintro e w' ⟨rfl, hI, hB, hk⟩; have HCa := Aside0.mk (hk.blk HC2.out hne (by simp)); have f1 := blk_frozen HCa.out 4; have c1 := (blk_cell HCa.out 4).trans rfl; have HI3 := Aside0.mk (hI.far (p := ⟨gc, 4, none⟩) (Ne.symm hne) (.int .i64 x3)); have HB3 := Aside0.mk (below_set (j := 4) (v := .int .i64 x3) hB hgc); have HC3 := Aside0.mk (blk_put HCa.out 4 (.int .i64 x3) rfl); clear hI hB hk HI2 HB2 HC2 HCa) | (go_at_call 41; refine (impl_dateReader_need.calls g s3 b3 ⟨#[58]⟩ s4 b4 w0 _ HI3.out HB3.out A4.out).mono ?_; rintro e w' ⟨rfl, hI, hB, hk⟩; (try clear f1 c1); have HI4 := Aside0.mk hI; have HB4 := Aside0.mk hB; have HC4 := Aside0.mk (hk.blk HC3.out hne (by simp)); clear hI hB hk HI3 HB3 HC3) | (go_at_call 40; refine (impl_dateReader_digits.calls k g s4 b4 2 x5 s5 b5 w0 _ HI4.out HB4.out A5.out).mono ?_; rintro e w' ⟨rfl, hI, hB, hk⟩; have HCa := Aside0.mk (hk.blk HC4.out hne (by simp)); have f1 := blk_frozen HCa.out 5; have c1 := (blk_cell HCa.out 5).trans rfl; have HI5 := Aside0.mk (hI.far (p := ⟨gc, 5, none⟩) (Ne.symm hne) (.int .i64 x5)); have HB5 := Aside0.mk (below_set (j := 5) (v := .int .i64 x5) hB hgc); have HC5 := Aside0.mk (blk_put HCa.out 5 (.int .i64 x5) rfl); clear hI hB hk HI4 HB4 HC4 HCa))
  go_end0
  exact ⟨rfl, HI5.out, HC5.out, HB5.out⟩
/-- The end of a date: its zone, and the stamp. -/
def impl_ReadRfc3339.tl (k : Nat) (y m d h i c : Int) (s : ByteArray) (b : Bool) : Option (Int × Int) :=
  (impl_dateReader_is.f s b ⟨#[90]⟩).bind fun z => if z.1 = true then (impl_dateReader_stamp.f k z.2.1 z.2.2 y m d h i c 0).bind fun x => some (x.1, x.2.1) else (impl_dateReader_zone.f k z.2.1 z.2.2 ⟨#[58]⟩).bind fun q => (impl_dateReader_stamp.f k q.2.1 q.2.2 y m d h i c q.1).bind fun x => some (x.1, x.2.1)
/-- A date read, told by a bound on the rounds. -/
def impl_ReadRfc3339.fk (k : Nat) (a0 : ByteArray) : Option (Int × Int) := if (a0.size : Int) > 65536 then some (0, 2) else
  (impl_dateReader_digits.f k a0 false 4).bind fun y => (impl_dateReader_need.f y.2.1 y.2.2 ⟨#[45]⟩).bind fun n1 => (impl_dateReader_digits.f k n1.1 n1.2 2).bind fun m => (impl_dateReader_need.f m.2.1 m.2.2 ⟨#[45]⟩).bind fun n2 => (impl_dateReader_digits.f k n2.1 n2.2 2).bind fun d => (impl_dateReader_need.f d.2.1 d.2.2 ⟨#[84]⟩).bind fun n3 => (impl_ReadRfc3339.clk k n3.1 n3.2).bind fun c => (impl_dateReader_is.f c.2.2.2.1 c.2.2.2.2 ⟨#[46]⟩).bind fun p => if p.1 = true then (impl_dateReader_digitsHere.f k p.2.1 p.2.2).bind fun q => if 0 ≤ q.1 ∧ q.1 ≤ (q.2.1.size : Int) then impl_ReadRfc3339.tl k y.1 m.1 d.1 c.1 c.2.1 c.2.2.1 (q.2.1.extract q.1.toNat q.2.1.size) (if q.2.2 = true then true else q.1 == 0) else none else impl_ReadRfc3339.tl k y.1 m.1 d.1 c.1 c.2.1 c.2.2.1 p.2.1 p.2.2
open Classical in
noncomputable def impl_ReadRfc3339.f (a0 : ByteArray) : Option (Int × Int) := if h : ∃ r, Ev (fun k => impl_ReadRfc3339.fk k a0) r then some h.choose else none
theorem impl_ReadRfc3339.of_f {a0 : ByteArray} {r : Int × Int} (h : impl_ReadRfc3339.f a0 = some r) : ∃ k, impl_ReadRfc3339.fk k a0 = some r := by
  unfold impl_ReadRfc3339.f at h
  by_cases hx : ∃ r, Ev (fun k => impl_ReadRfc3339.fk k a0) r
  · rw [dif_pos hx] at h
    obtain rfl := Option.some.inj h
    obtain ⟨K, hK⟩ := hx.choose_spec
    exact ⟨K, hK K (Nat.le_refl _)⟩
  · rw [dif_neg hx] at h
    cases h
theorem impl_ReadRfc3339.f_of {a0 : ByteArray} {r : Int × Int} (h : Ev (fun k => impl_ReadRfc3339.fk k a0) r) : impl_ReadRfc3339.f a0 = some r := by
  have hx : ∃ r, Ev (fun k => impl_ReadRfc3339.fk k a0) r := ⟨r, h⟩
  unfold impl_ReadRfc3339.f
  rw [dif_pos hx]
  obtain ⟨K1, h1⟩ := hx.choose_spec
  obtain ⟨K2, h2⟩ := h
  rw [← h1 (max K1 K2) (Nat.le_max_left _ _), ← h2 (max K1 K2) (Nat.le_max_right _ _)]
set_option maxHeartbeats 16000000 in
set_option maxRecDepth 100000 in
theorem impl_ReadRfc3339.calls (a0 : ByteArray) (r1 r2 : Int) (w : World) (h : impl_ReadRfc3339.f a0 = some (r1, r2)) :
    Calls Try.prog 22 #[.string a0] w fun e w' => e = .returned (.tuple #[.int .i64 r1, .int .i64 r2]) ∧ Below w.heap.size w w' := by
  obtain ⟨k, H⟩ := impl_ReadRfc3339.of_f h
  clear h
  unfold impl_ReadRfc3339.fk at H
  by_cases c2 : (a0.size : Int) > 65536
  · rw [if_pos c2] at H
    have c2b0 : decide (65536 < (a0.size : Int)) = true := decide_eq_true c2
    simp only [Option.some.injEq, Prod.mk.injEq] at H
    obtain ⟨rfl, rfl⟩ := H
    go_enter Try.func22, Try.ntmps22
    go_wp2
    go_ret2
    exact ⟨rfl, Below.refl _ _⟩
  · rw [if_neg c2] at H
    have c2b0 : decide (65536 < (a0.size : Int)) = false := decide_eq_false c2
    obtain ⟨⟨x1, s1, b1⟩, e1, H⟩ := Option.bind_eq_some_iff.1 H
    obtain ⟨⟨s2, b2⟩, e2, H⟩ := Option.bind_eq_some_iff.1 H
    obtain ⟨⟨x3, s3, b3⟩, e3, H⟩ := Option.bind_eq_some_iff.1 H
    obtain ⟨⟨s4, b4⟩, e4, H⟩ := Option.bind_eq_some_iff.1 H
    obtain ⟨⟨x5, s5, b5⟩, e5, H⟩ := Option.bind_eq_some_iff.1 H
    obtain ⟨⟨s6, b6⟩, e6, H⟩ := Option.bind_eq_some_iff.1 H
    obtain ⟨⟨x7, x8, x9, s7, b7⟩, e7, H⟩ := Option.bind_eq_some_iff.1 H
    obtain ⟨⟨p, s8, b8⟩, e8, H⟩ := Option.bind_eq_some_iff.1 H
    have A1 := Aside0.mk e1
    have A2 := Aside0.mk e2
    have A3 := Aside0.mk e3
    have A4 := Aside0.mk e4
    have A5 := Aside0.mk e5
    have A6 := Aside0.mk e6
    have A7 := Aside0.mk e7
    have A8 := Aside0.mk e8
    clear e1 e2 e3 e4 e5 e6 e7 e8 c2
    have hne : w.heap.size + 1 ≠ w.heap.size := by omega
    have hgc : w.heap.size ≤ w.heap.size + 1 := by omega
    have HI0 : Aside0 (IsS53 w ((w.alloc (.cells #[.string a0, .bool false] 53)).alloc (.cells #[.int .i64 0, .int .i64 0, .int .i64 0, .int .i64 0, .int .i64 0, .int .i64 0] 28)) w.heap.size a0 false) := ⟨(IsS53.new w w a0 false (Below.refl _ _)).alloc _⟩
    have HC0 : Aside0 (((w.alloc (.cells #[.string a0, .bool false] 53)).alloc (.cells #[.int .i64 0, .int .i64 0, .int .i64 0, .int .i64 0, .int .i64 0, .int .i64 0] 28)).heap[w.heap.size + 1]? = some (.cells #[.int .i64 0, .int .i64 0, .int .i64 0, .int .i64 0, .int .i64 0, .int .i64 0] 28 (0, 0))) := ⟨by
      have e_ := blk_new (w.alloc (.cells #[.string a0, .bool false] 53)) (.cells #[.int .i64 0, .int .i64 0, .int .i64 0, .int .i64 0, .int .i64 0, .int .i64 0] 28)
      rwa [show (w.alloc (.cells #[.string a0, .bool false] 53)).heap.size = w.heap.size + 1 by show (w.heap.push _).size = _; rw [Array.size_push]] at e_⟩
    have HB0 : Aside0 (Below w.heap.size w ((w.alloc (.cells #[.string a0, .bool false] 53)).alloc (.cells #[.int .i64 0, .int .i64 0, .int .i64 0, .int .i64 0, .int .i64 0, .int .i64 0] 28))) := ⟨below_alloc (below_alloc (Below.refl _ w) _) _⟩
    cases p with
    | false =>
      replace H : impl_ReadRfc3339.tl k x1 x3 x5 x7 x8 x9 s8 b8 = some (r1, r2) := H
      unfold impl_ReadRfc3339.tl at H
      obtain ⟨⟨z, t1, d1⟩, ez, H⟩ := Option.bind_eq_some_iff.1 H
      have AZ := Aside0.mk ez
      clear ez
      cases z with
      | true =>
        obtain ⟨⟨y1, y2, y3, y4⟩, ey, H⟩ := Option.bind_eq_some_iff.1 (show (impl_dateReader_stamp.f k t1 d1 x1 x3 x5 x7 x8 x9 0).bind (fun x => some (x.1, x.2.1)) = some (r1, r2) from H)
        have AY := Aside0.mk ey
        clear ey
        simp only [Option.some.injEq, Prod.mk.injEq] at H
        obtain ⟨rfl, rfl⟩ := H
        go_enter Try.func22, Try.ntmps22
        go_wp2_with (first | (go_at_call 40; refine (impl_dateReader_digits.calls k w.heap.size a0 false 4 x1 s1 b1 w _ HI0.out HB0.out A1.out).mono ?_; rintro e w' ⟨rfl, hI, hB, hk⟩; have HCa := Aside0.mk (hk.blk HC0.out hne (by simp)); have f1 := blk_frozen HCa.out 0; have c1 := (blk_cell HCa.out 0).trans rfl; have HI1 := Aside0.mk (hI.far (p := ⟨(w.heap.size + 1), 0, none⟩) (Ne.symm hne) (.int .i64 x1)); have HB1 := Aside0.mk (below_set (j := 0) (v := .int .i64 x1) hB hgc); have HC1 := Aside0.mk (blk_put HCa.out 0 (.int .i64 x1) rfl); clear hI hB hk HI0 HB0 HC0 HCa) | (go_at_call 41; refine (impl_dateReader_need.calls w.heap.size s1 b1 ⟨#[45]⟩ s2 b2 w _ HI1.out HB1.out A2.out).mono ?_; rintro e w' ⟨rfl, hI, hB, hk⟩; (try clear f1 c1); have HI2 := Aside0.mk hI; have HB2 := Aside0.mk hB; have HC2 := Aside0.mk (hk.blk HC1.out hne (by simp)); clear hI hB hk HI1 HB1 HC1) | (go_at_call 40; refine (impl_dateReader_digits.calls k w.heap.size s2 b2 2 x3 s3 b3 w _ HI2.out HB2.out A3.out).mono ?_; rintro e w' ⟨rfl, hI, hB, hk⟩; have HCa := Aside0.mk (hk.blk HC2.out hne (by simp)); have f1 := blk_frozen HCa.out 1; have c1 := (blk_cell HCa.out 1).trans rfl; have HI3 := Aside0.mk (hI.far (p := ⟨(w.heap.size + 1), 1, none⟩) (Ne.symm hne) (.int .i64 x3)); have HB3 := Aside0.mk (below_set (j := 1) (v := .int .i64 x3) hB hgc); have HC3 := Aside0.mk (blk_put HCa.out 1 (.int .i64 x3) rfl); clear hI hB hk HI2 HB2 HC2 HCa) | (go_at_call 41; refine (impl_dateReader_need.calls w.heap.size s3 b3 ⟨#[45]⟩ s4 b4 w _ HI3.out HB3.out A4.out).mono ?_; rintro e w' ⟨rfl, hI, hB, hk⟩; (try clear f1 c1); have HI4 := Aside0.mk hI; have HB4 := Aside0.mk hB; have HC4 := Aside0.mk (hk.blk HC3.out hne (by simp)); clear hI hB hk HI3 HB3 HC3) | (go_at_call 40; refine (impl_dateReader_digits.calls k w.heap.size s4 b4 2 x5 s5 b5 w _ HI4.out HB4.out A5.out).mono ?_; rintro e w' ⟨rfl, hI, hB, hk⟩; have HCa := Aside0.mk (hk.blk HC4.out hne (by simp)); have f1 := blk_frozen HCa.out 2; have c1 := (blk_cell HCa.out 2).trans rfl; have HI5 := Aside0.mk (hI.far (p := ⟨(w.heap.size + 1), 2, none⟩) (Ne.symm hne) (.int .i64 x5)); have HB5 := Aside0.mk (below_set (j := 2) (v := .int .i64 x5) hB hgc); have HC5 := Aside0.mk (blk_put HCa.out 2 (.int .i64 x5) rfl); clear hI hB hk HI4 HB4 HC4 HCa) | (go_at_call 41; refine (impl_dateReader_need.calls w.heap.size s5 b5 ⟨#[84]⟩ s6 b6 w _ HI5.out HB5.out A6.out).mono ?_; rintro e w' ⟨rfl, hI, hB, hk⟩; (try clear f1 c1); have HI6 := Aside0.mk hI; have HB6 := Aside0.mk hB; have HC6 := Aside0.mk (hk.blk HC5.out hne (by simp)); clear hI hB hk HI5 HB5 HC5) | (go_at_call 42; refine (impl_ReadRfc3339.clock k w.heap.size (w.heap.size + 1) s6 b6 x1 x3 x5 0 0 0 x7 x8 x9 s7 b7 w _ HI6.out HC6.out hne hgc HB6.out A7.out).mono ?_; rintro e w' ⟨rfl, hI, hC, hB⟩; have HI7 := Aside0.mk hI; have HB7 := Aside0.mk hB; have HC7 := Aside0.mk hC; clear hI hB hC HI6 HB6 HC6) | (go_at_call 43; refine (impl_dateReader_is.calls w.heap.size s7 b7 ⟨#[46]⟩ false s8 b8 w _ HI7.out HB7.out A8.out).mono ?_; rintro e w' ⟨rfl, hI, hB, hk⟩; (try clear f1 c1 f0 c0); have HI8 := Aside0.mk hI; have HB8 := Aside0.mk hB; have HC8 := Aside0.mk (hk.blk HC7.out hne (by simp)); clear hI hB hk HI7 HB7 HC7) | (go_at_call 43; refine (impl_dateReader_is.calls w.heap.size s8 b8 ⟨#[90]⟩ true t1 d1 w _ HI8.out HB8.out AZ.out).mono ?_; rintro e w' ⟨rfl, hI, hB, hk⟩; (try clear f1 c1 f0 c0); have HI9 := Aside0.mk hI; have HB9 := Aside0.mk hB; have HC9 := Aside0.mk (hk.blk HC8.out hne (by simp)); have ca0 := (blk_cell HC9.out 0).trans rfl; have ca1 := (blk_cell HC9.out 1).trans rfl; have ca2 := (blk_cell HC9.out 2).trans rfl; have ca3 := (blk_cell HC9.out 3).trans rfl; have ca4 := (blk_cell HC9.out 4).trans rfl; have ca5 := (blk_cell HC9.out 5).trans rfl; clear hI hB hk HI8 HB8 HC8) | (go_at_call 46; refine (impl_dateReader_stamp.calls k w.heap.size t1 d1 x1 x3 x5 x7 x8 x9 0 y1 y2 y3 y4 w _ HI9.out HB9.out AY.out).mono ?_; rintro e w' ⟨rfl, hI, hB, hk⟩; have HBz := Aside0.mk hB; clear hI hB hk))
        go_ret2
        exact ⟨rfl, HBz.out⟩
      | false =>
        obtain ⟨⟨q1, t2, d2⟩, eq_, H⟩ := Option.bind_eq_some_iff.1 (show (impl_dateReader_zone.f k t1 d1 ⟨#[58]⟩).bind (fun q => (impl_dateReader_stamp.f k q.2.1 q.2.2 x1 x3 x5 x7 x8 x9 q.1).bind fun x => some (x.1, x.2.1)) = some (r1, r2) from H)
        obtain ⟨⟨y1, y2, y3, y4⟩, ey, H⟩ := Option.bind_eq_some_iff.1 H
        have AQ := Aside0.mk eq_
        have AY := Aside0.mk ey
        clear ey eq_
        simp only [Option.some.injEq, Prod.mk.injEq] at H
        obtain ⟨rfl, rfl⟩ := H
        go_enter Try.func22, Try.ntmps22
        go_wp2_with (first | (go_at_call 40; refine (impl_dateReader_digits.calls k w.heap.size a0 false 4 x1 s1 b1 w _ HI0.out HB0.out A1.out).mono ?_; rintro e w' ⟨rfl, hI, hB, hk⟩; have HCa := Aside0.mk (hk.blk HC0.out hne (by simp)); have f1 := blk_frozen HCa.out 0; have c1 := (blk_cell HCa.out 0).trans rfl; have HI1 := Aside0.mk (hI.far (p := ⟨(w.heap.size + 1), 0, none⟩) (Ne.symm hne) (.int .i64 x1)); have HB1 := Aside0.mk (below_set (j := 0) (v := .int .i64 x1) hB hgc); have HC1 := Aside0.mk (blk_put HCa.out 0 (.int .i64 x1) rfl); clear hI hB hk HI0 HB0 HC0 HCa) | (go_at_call 41; refine (impl_dateReader_need.calls w.heap.size s1 b1 ⟨#[45]⟩ s2 b2 w _ HI1.out HB1.out A2.out).mono ?_; rintro e w' ⟨rfl, hI, hB, hk⟩; (try clear f1 c1); have HI2 := Aside0.mk hI; have HB2 := Aside0.mk hB; have HC2 := Aside0.mk (hk.blk HC1.out hne (by simp)); clear hI hB hk HI1 HB1 HC1) | (go_at_call 40; refine (impl_dateReader_digits.calls k w.heap.size s2 b2 2 x3 s3 b3 w _ HI2.out HB2.out A3.out).mono ?_; rintro e w' ⟨rfl, hI, hB, hk⟩; have HCa := Aside0.mk (hk.blk HC2.out hne (by simp)); have f1 := blk_frozen HCa.out 1; have c1 := (blk_cell HCa.out 1).trans rfl; have HI3 := Aside0.mk (hI.far (p := ⟨(w.heap.size + 1), 1, none⟩) (Ne.symm hne) (.int .i64 x3)); have HB3 := Aside0.mk (below_set (j := 1) (v := .int .i64 x3) hB hgc); have HC3 := Aside0.mk (blk_put HCa.out 1 (.int .i64 x3) rfl); clear hI hB hk HI2 HB2 HC2 HCa) | (go_at_call 41; refine (impl_dateReader_need.calls w.heap.size s3 b3 ⟨#[45]⟩ s4 b4 w _ HI3.out HB3.out A4.out).mono ?_; rintro e w' ⟨rfl, hI, hB, hk⟩; (try clear f1 c1); have HI4 := Aside0.mk hI; have HB4 := Aside0.mk hB; have HC4 := Aside0.mk (hk.blk HC3.out hne (by simp)); clear hI hB hk HI3 HB3 HC3) | (go_at_call 40; refine (impl_dateReader_digits.calls k w.heap.size s4 b4 2 x5 s5 b5 w _ HI4.out HB4.out A5.out).mono ?_; rintro e w' ⟨rfl, hI, hB, hk⟩; have HCa := Aside0.mk (hk.blk HC4.out hne (by simp)); have f1 := blk_frozen HCa.out 2; have c1 := (blk_cell HCa.out 2).trans rfl; have HI5 := Aside0.mk (hI.far (p := ⟨(w.heap.size + 1), 2, none⟩) (Ne.symm hne) (.int .i64 x5)); have HB5 := Aside0.mk (below_set (j := 2) (v := .int .i64 x5) hB hgc); have HC5 := Aside0.mk (blk_put HCa.out 2 (.int .i64 x5) rfl); clear hI hB hk HI4 HB4 HC4 HCa) | (go_at_call 41; refine (impl_dateReader_need.calls w.heap.size s5 b5 ⟨#[84]⟩ s6 b6 w _ HI5.out HB5.out A6.out).mono ?_; rintro e w' ⟨rfl, hI, hB, hk⟩; (try clear f1 c1); have HI6 := Aside0.mk hI; have HB6 := Aside0.mk hB; have HC6 := Aside0.mk (hk.blk HC5.out hne (by simp)); clear hI hB hk HI5 HB5 HC5) | (go_at_call 42; refine (impl_ReadRfc3339.clock k w.heap.size (w.heap.size + 1) s6 b6 x1 x3 x5 0 0 0 x7 x8 x9 s7 b7 w _ HI6.out HC6.out hne hgc HB6.out A7.out).mono ?_; rintro e w' ⟨rfl, hI, hC, hB⟩; have HI7 := Aside0.mk hI; have HB7 := Aside0.mk hB; have HC7 := Aside0.mk hC; clear hI hB hC HI6 HB6 HC6) | (go_at_call 43; refine (impl_dateReader_is.calls w.heap.size s7 b7 ⟨#[46]⟩ false s8 b8 w _ HI7.out HB7.out A8.out).mono ?_; rintro e w' ⟨rfl, hI, hB, hk⟩; (try clear f1 c1 f0 c0); have HI8 := Aside0.mk hI; have HB8 := Aside0.mk hB; have HC8 := Aside0.mk (hk.blk HC7.out hne (by simp)); clear hI hB hk HI7 HB7 HC7) | (go_at_call 43; refine (impl_dateReader_is.calls w.heap.size s8 b8 ⟨#[90]⟩ false t1 d1 w _ HI8.out HB8.out AZ.out).mono ?_; rintro e w' ⟨rfl, hI, hB, hk⟩; (try clear f1 c1 f0 c0); have HI9 := Aside0.mk hI; have HB9 := Aside0.mk hB; have HC9 := Aside0.mk (hk.blk HC8.out hne (by simp)); clear hI hB hk HI8 HB8 HC8) | (go_at_call 45; refine (impl_dateReader_zone.calls k w.heap.size t1 d1 ⟨#[58]⟩ q1 t2 d2 w _ HI9.out HB9.out AQ.out).mono ?_; rintro e w' ⟨rfl, hI, hB, hk⟩; have HI10 := Aside0.mk hI; have HB10 := Aside0.mk hB; have HC10 := Aside0.mk (hk.blk HC9.out hne (by simp)); have ca0 := (blk_cell HC10.out 0).trans rfl; have ca1 := (blk_cell HC10.out 1).trans rfl; have ca2 := (blk_cell HC10.out 2).trans rfl; have ca3 := (blk_cell HC10.out 3).trans rfl; have ca4 := (blk_cell HC10.out 4).trans rfl; have ca5 := (blk_cell HC10.out 5).trans rfl; clear hI hB hk HI9 HB9 HC9) | (go_at_call 46; refine (impl_dateReader_stamp.calls k w.heap.size t2 d2 x1 x3 x5 x7 x8 x9 q1 y1 y2 y3 y4 w _ HI10.out HB10.out AY.out).mono ?_; rintro e w' ⟨rfl, hI, hB, hk⟩; have HBz := Aside0.mk hB; clear hI hB hk))
        go_ret2
        exact ⟨rfl, HBz.out⟩
    | true =>
      obtain ⟨⟨q, s9, b9⟩, e9, H⟩ := Option.bind_eq_some_iff.1 (show (impl_dateReader_digitsHere.f k s8 b8).bind (fun q => if 0 ≤ q.1 ∧ q.1 ≤ (q.2.1.size : Int) then impl_ReadRfc3339.tl k x1 x3 x5 x7 x8 x9 (q.2.1.extract q.1.toNat q.2.1.size) (if q.2.2 = true then true else q.1 == 0) else none) = some (r1, r2) from H)
      have A9 := Aside0.mk e9
      clear e9
      by_cases hq : 0 ≤ q ∧ q ≤ (s9.size : Int)
      · replace H : impl_ReadRfc3339.tl k x1 x3 x5 x7 x8 x9 (s9.extract q.toNat s9.size) (if b9 = true then true else q == 0) = some (r1, r2) := by rw [← H]; exact (if_pos hq).symm
        obtain ⟨hq0, hq1⟩ := hq
        obtain ⟨u, hu⟩ : ∃ u, s9.extract q.toNat s9.size = u := ⟨_, rfl⟩
        rw [hu] at H
        cases b9 with
        | true =>
          replace H : impl_ReadRfc3339.tl k x1 x3 x5 x7 x8 x9 u true = some (r1, r2) := H
          unfold impl_ReadRfc3339.tl at H
          obtain ⟨⟨z, t1, d1⟩, ez, H⟩ := Option.bind_eq_some_iff.1 H
          have AZ := Aside0.mk ez
          clear ez
          cases z with
          | true =>
            obtain ⟨⟨y1, y2, y3, y4⟩, ey, H⟩ := Option.bind_eq_some_iff.1 (show (impl_dateReader_stamp.f k t1 d1 x1 x3 x5 x7 x8 x9 0).bind (fun x => some (x.1, x.2.1)) = some (r1, r2) from H)
            have AY := Aside0.mk ey
            clear ey
            simp only [Option.some.injEq, Prod.mk.injEq] at H
            obtain ⟨rfl, rfl⟩ := H
            go_enter Try.func22, Try.ntmps22
            go_wp2_with (first | (go_at_call 40; refine (impl_dateReader_digits.calls k w.heap.size a0 false 4 x1 s1 b1 w _ HI0.out HB0.out A1.out).mono ?_; rintro e w' ⟨rfl, hI, hB, hk⟩; have HCa := Aside0.mk (hk.blk HC0.out hne (by simp)); have f1 := blk_frozen HCa.out 0; have c1 := (blk_cell HCa.out 0).trans rfl; have HI1 := Aside0.mk (hI.far (p := ⟨(w.heap.size + 1), 0, none⟩) (Ne.symm hne) (.int .i64 x1)); have HB1 := Aside0.mk (below_set (j := 0) (v := .int .i64 x1) hB hgc); have HC1 := Aside0.mk (blk_put HCa.out 0 (.int .i64 x1) rfl); clear hI hB hk HI0 HB0 HC0 HCa) | (go_at_call 41; refine (impl_dateReader_need.calls w.heap.size s1 b1 ⟨#[45]⟩ s2 b2 w _ HI1.out HB1.out A2.out).mono ?_; rintro e w' ⟨rfl, hI, hB, hk⟩; (try clear f1 c1); have HI2 := Aside0.mk hI; have HB2 := Aside0.mk hB; have HC2 := Aside0.mk (hk.blk HC1.out hne (by simp)); clear hI hB hk HI1 HB1 HC1) | (go_at_call 40; refine (impl_dateReader_digits.calls k w.heap.size s2 b2 2 x3 s3 b3 w _ HI2.out HB2.out A3.out).mono ?_; rintro e w' ⟨rfl, hI, hB, hk⟩; have HCa := Aside0.mk (hk.blk HC2.out hne (by simp)); have f1 := blk_frozen HCa.out 1; have c1 := (blk_cell HCa.out 1).trans rfl; have HI3 := Aside0.mk (hI.far (p := ⟨(w.heap.size + 1), 1, none⟩) (Ne.symm hne) (.int .i64 x3)); have HB3 := Aside0.mk (below_set (j := 1) (v := .int .i64 x3) hB hgc); have HC3 := Aside0.mk (blk_put HCa.out 1 (.int .i64 x3) rfl); clear hI hB hk HI2 HB2 HC2 HCa) | (go_at_call 41; refine (impl_dateReader_need.calls w.heap.size s3 b3 ⟨#[45]⟩ s4 b4 w _ HI3.out HB3.out A4.out).mono ?_; rintro e w' ⟨rfl, hI, hB, hk⟩; (try clear f1 c1); have HI4 := Aside0.mk hI; have HB4 := Aside0.mk hB; have HC4 := Aside0.mk (hk.blk HC3.out hne (by simp)); clear hI hB hk HI3 HB3 HC3) | (go_at_call 40; refine (impl_dateReader_digits.calls k w.heap.size s4 b4 2 x5 s5 b5 w _ HI4.out HB4.out A5.out).mono ?_; rintro e w' ⟨rfl, hI, hB, hk⟩; have HCa := Aside0.mk (hk.blk HC4.out hne (by simp)); have f1 := blk_frozen HCa.out 2; have c1 := (blk_cell HCa.out 2).trans rfl; have HI5 := Aside0.mk (hI.far (p := ⟨(w.heap.size + 1), 2, none⟩) (Ne.symm hne) (.int .i64 x5)); have HB5 := Aside0.mk (below_set (j := 2) (v := .int .i64 x5) hB hgc); have HC5 := Aside0.mk (blk_put HCa.out 2 (.int .i64 x5) rfl); clear hI hB hk HI4 HB4 HC4 HCa) | (go_at_call 41; refine (impl_dateReader_need.calls w.heap.size s5 b5 ⟨#[84]⟩ s6 b6 w _ HI5.out HB5.out A6.out).mono ?_; rintro e w' ⟨rfl, hI, hB, hk⟩; (try clear f1 c1); have HI6 := Aside0.mk hI; have HB6 := Aside0.mk hB; have HC6 := Aside0.mk (hk.blk HC5.out hne (by simp)); clear hI hB hk HI5 HB5 HC5) | (go_at_call 42; refine (impl_ReadRfc3339.clock k w.heap.size (w.heap.size + 1) s6 b6 x1 x3 x5 0 0 0 x7 x8 x9 s7 b7 w _ HI6.out HC6.out hne hgc HB6.out A7.out).mono ?_; rintro e w' ⟨rfl, hI, hC, hB⟩; have HI7 := Aside0.mk hI; have HB7 := Aside0.mk hB; have HC7 := Aside0.mk hC; clear hI hB hC HI6 HB6 HC6) | (go_at_call 43; refine (impl_dateReader_is.calls w.heap.size s7 b7 ⟨#[46]⟩ true s8 b8 w _ HI7.out HB7.out A8.out).mono ?_; rintro e w' ⟨rfl, hI, hB, hk⟩; (try clear f1 c1 f0 c0); have HI8 := Aside0.mk hI; have HB8 := Aside0.mk hB; have HC8 := Aside0.mk (hk.blk HC7.out hne (by simp)); clear hI hB hk HI7 HB7 HC7) | (go_at_call 44; refine (impl_dateReader_digitsHere.calls k w.heap.size s8 b8 q s9 true w _ HI8.out HB8.out A9.out).mono ?_; rintro e w' ⟨rfl, hI, hB, hk⟩; have c0 := (blk_cell hI.1 0).trans rfl; have c1 := (blk_cell hI.1 1).trans rfl; have f0 := blk_frozen hI.1 0; have f1 := blk_frozen hI.1 1; have HI9 := Aside0.mk ((hI.set_1 true).set_0 u); have HB9 := Aside0.mk (below_set (j := 0) (v := .string u) (below_set (j := 1) (v := .bool true) hB (Nat.le_refl _)) (Nat.le_refl _)); have HC9 := Aside0.mk (blk_far (blk_far (hk.blk HC8.out hne (by simp)) (p := ⟨w.heap.size, 1, none⟩) hne (.bool true)) (p := ⟨w.heap.size, 0, none⟩) hne (.string u)); clear hI hB hk HI8 HB8 HC8) | (go_at_call 43; refine (impl_dateReader_is.calls w.heap.size u true ⟨#[90]⟩ true t1 d1 w _ HI9.out HB9.out AZ.out).mono ?_; rintro e w' ⟨rfl, hI, hB, hk⟩; (try clear f1 c1 f0 c0); have HI10 := Aside0.mk hI; have HB10 := Aside0.mk hB; have HC10 := Aside0.mk (hk.blk HC9.out hne (by simp)); have ca0 := (blk_cell HC10.out 0).trans rfl; have ca1 := (blk_cell HC10.out 1).trans rfl; have ca2 := (blk_cell HC10.out 2).trans rfl; have ca3 := (blk_cell HC10.out 3).trans rfl; have ca4 := (blk_cell HC10.out 4).trans rfl; have ca5 := (blk_cell HC10.out 5).trans rfl; clear hI hB hk HI9 HB9 HC9) | (go_at_call 46; refine (impl_dateReader_stamp.calls k w.heap.size t1 d1 x1 x3 x5 x7 x8 x9 0 y1 y2 y3 y4 w _ HI10.out HB10.out AY.out).mono ?_; rintro e w' ⟨rfl, hI, hB, hk⟩; have HBz := Aside0.mk hB; clear hI hB hk))
            go_ret2
            exact ⟨rfl, HBz.out⟩
          | false =>
            obtain ⟨⟨q1, t2, d2⟩, eq_, H⟩ := Option.bind_eq_some_iff.1 (show (impl_dateReader_zone.f k t1 d1 ⟨#[58]⟩).bind (fun q => (impl_dateReader_stamp.f k q.2.1 q.2.2 x1 x3 x5 x7 x8 x9 q.1).bind fun x => some (x.1, x.2.1)) = some (r1, r2) from H)
            obtain ⟨⟨y1, y2, y3, y4⟩, ey, H⟩ := Option.bind_eq_some_iff.1 H
            have AQ := Aside0.mk eq_
            have AY := Aside0.mk ey
            clear ey eq_
            simp only [Option.some.injEq, Prod.mk.injEq] at H
            obtain ⟨rfl, rfl⟩ := H
            go_enter Try.func22, Try.ntmps22
            go_wp2_with (first | (go_at_call 40; refine (impl_dateReader_digits.calls k w.heap.size a0 false 4 x1 s1 b1 w _ HI0.out HB0.out A1.out).mono ?_; rintro e w' ⟨rfl, hI, hB, hk⟩; have HCa := Aside0.mk (hk.blk HC0.out hne (by simp)); have f1 := blk_frozen HCa.out 0; have c1 := (blk_cell HCa.out 0).trans rfl; have HI1 := Aside0.mk (hI.far (p := ⟨(w.heap.size + 1), 0, none⟩) (Ne.symm hne) (.int .i64 x1)); have HB1 := Aside0.mk (below_set (j := 0) (v := .int .i64 x1) hB hgc); have HC1 := Aside0.mk (blk_put HCa.out 0 (.int .i64 x1) rfl); clear hI hB hk HI0 HB0 HC0 HCa) | (go_at_call 41; refine (impl_dateReader_need.calls w.heap.size s1 b1 ⟨#[45]⟩ s2 b2 w _ HI1.out HB1.out A2.out).mono ?_; rintro e w' ⟨rfl, hI, hB, hk⟩; (try clear f1 c1); have HI2 := Aside0.mk hI; have HB2 := Aside0.mk hB; have HC2 := Aside0.mk (hk.blk HC1.out hne (by simp)); clear hI hB hk HI1 HB1 HC1) | (go_at_call 40; refine (impl_dateReader_digits.calls k w.heap.size s2 b2 2 x3 s3 b3 w _ HI2.out HB2.out A3.out).mono ?_; rintro e w' ⟨rfl, hI, hB, hk⟩; have HCa := Aside0.mk (hk.blk HC2.out hne (by simp)); have f1 := blk_frozen HCa.out 1; have c1 := (blk_cell HCa.out 1).trans rfl; have HI3 := Aside0.mk (hI.far (p := ⟨(w.heap.size + 1), 1, none⟩) (Ne.symm hne) (.int .i64 x3)); have HB3 := Aside0.mk (below_set (j := 1) (v := .int .i64 x3) hB hgc); have HC3 := Aside0.mk (blk_put HCa.out 1 (.int .i64 x3) rfl); clear hI hB hk HI2 HB2 HC2 HCa) | (go_at_call 41; refine (impl_dateReader_need.calls w.heap.size s3 b3 ⟨#[45]⟩ s4 b4 w _ HI3.out HB3.out A4.out).mono ?_; rintro e w' ⟨rfl, hI, hB, hk⟩; (try clear f1 c1); have HI4 := Aside0.mk hI; have HB4 := Aside0.mk hB; have HC4 := Aside0.mk (hk.blk HC3.out hne (by simp)); clear hI hB hk HI3 HB3 HC3) | (go_at_call 40; refine (impl_dateReader_digits.calls k w.heap.size s4 b4 2 x5 s5 b5 w _ HI4.out HB4.out A5.out).mono ?_; rintro e w' ⟨rfl, hI, hB, hk⟩; have HCa := Aside0.mk (hk.blk HC4.out hne (by simp)); have f1 := blk_frozen HCa.out 2; have c1 := (blk_cell HCa.out 2).trans rfl; have HI5 := Aside0.mk (hI.far (p := ⟨(w.heap.size + 1), 2, none⟩) (Ne.symm hne) (.int .i64 x5)); have HB5 := Aside0.mk (below_set (j := 2) (v := .int .i64 x5) hB hgc); have HC5 := Aside0.mk (blk_put HCa.out 2 (.int .i64 x5) rfl); clear hI hB hk HI4 HB4 HC4 HCa) | (go_at_call 41; refine (impl_dateReader_need.calls w.heap.size s5 b5 ⟨#[84]⟩ s6 b6 w _ HI5.out HB5.out A6.out).mono ?_; rintro e w' ⟨rfl, hI, hB, hk⟩; (try clear f1 c1); have HI6 := Aside0.mk hI; have HB6 := Aside0.mk hB; have HC6 := Aside0.mk (hk.blk HC5.out hne (by simp)); clear hI hB hk HI5 HB5 HC5) | (go_at_call 42; refine (impl_ReadRfc3339.clock k w.heap.size (w.heap.size + 1) s6 b6 x1 x3 x5 0 0 0 x7 x8 x9 s7 b7 w _ HI6.out HC6.out hne hgc HB6.out A7.out).mono ?_; rintro e w' ⟨rfl, hI, hC, hB⟩; have HI7 := Aside0.mk hI; have HB7 := Aside0.mk hB; have HC7 := Aside0.mk hC; clear hI hB hC HI6 HB6 HC6) | (go_at_call 43; refine (impl_dateReader_is.calls w.heap.size s7 b7 ⟨#[46]⟩ true s8 b8 w _ HI7.out HB7.out A8.out).mono ?_; rintro e w' ⟨rfl, hI, hB, hk⟩; (try clear f1 c1 f0 c0); have HI8 := Aside0.mk hI; have HB8 := Aside0.mk hB; have HC8 := Aside0.mk (hk.blk HC7.out hne (by simp)); clear hI hB hk HI7 HB7 HC7) | (go_at_call 44; refine (impl_dateReader_digitsHere.calls k w.heap.size s8 b8 q s9 true w _ HI8.out HB8.out A9.out).mono ?_; rintro e w' ⟨rfl, hI, hB, hk⟩; have c0 := (blk_cell hI.1 0).trans rfl; have c1 := (blk_cell hI.1 1).trans rfl; have f0 := blk_frozen hI.1 0; have f1 := blk_frozen hI.1 1; have HI9 := Aside0.mk ((hI.set_1 true).set_0 u); have HB9 := Aside0.mk (below_set (j := 0) (v := .string u) (below_set (j := 1) (v := .bool true) hB (Nat.le_refl _)) (Nat.le_refl _)); have HC9 := Aside0.mk (blk_far (blk_far (hk.blk HC8.out hne (by simp)) (p := ⟨w.heap.size, 1, none⟩) hne (.bool true)) (p := ⟨w.heap.size, 0, none⟩) hne (.string u)); clear hI hB hk HI8 HB8 HC8) | (go_at_call 43; refine (impl_dateReader_is.calls w.heap.size u true ⟨#[90]⟩ false t1 d1 w _ HI9.out HB9.out AZ.out).mono ?_; rintro e w' ⟨rfl, hI, hB, hk⟩; (try clear f1 c1 f0 c0); have HI10 := Aside0.mk hI; have HB10 := Aside0.mk hB; have HC10 := Aside0.mk (hk.blk HC9.out hne (by simp)); clear hI hB hk HI9 HB9 HC9) | (go_at_call 45; refine (impl_dateReader_zone.calls k w.heap.size t1 d1 ⟨#[58]⟩ q1 t2 d2 w _ HI10.out HB10.out AQ.out).mono ?_; rintro e w' ⟨rfl, hI, hB, hk⟩; have HI11 := Aside0.mk hI; have HB11 := Aside0.mk hB; have HC11 := Aside0.mk (hk.blk HC10.out hne (by simp)); have ca0 := (blk_cell HC11.out 0).trans rfl; have ca1 := (blk_cell HC11.out 1).trans rfl; have ca2 := (blk_cell HC11.out 2).trans rfl; have ca3 := (blk_cell HC11.out 3).trans rfl; have ca4 := (blk_cell HC11.out 4).trans rfl; have ca5 := (blk_cell HC11.out 5).trans rfl; clear hI hB hk HI10 HB10 HC10) | (go_at_call 46; refine (impl_dateReader_stamp.calls k w.heap.size t2 d2 x1 x3 x5 x7 x8 x9 q1 y1 y2 y3 y4 w _ HI11.out HB11.out AY.out).mono ?_; rintro e w' ⟨rfl, hI, hB, hk⟩; have HBz := Aside0.mk hB; clear hI hB hk))
            go_ret2
            exact ⟨rfl, HBz.out⟩
        | false =>
          replace H : impl_ReadRfc3339.tl k x1 x3 x5 x7 x8 x9 u (q == 0) = some (r1, r2) := H
          unfold impl_ReadRfc3339.tl at H
          obtain ⟨⟨z, t1, d1⟩, ez, H⟩ := Option.bind_eq_some_iff.1 H
          have AZ := Aside0.mk ez
          clear ez
          cases z with
          | true =>
            obtain ⟨⟨y1, y2, y3, y4⟩, ey, H⟩ := Option.bind_eq_some_iff.1 (show (impl_dateReader_stamp.f k t1 d1 x1 x3 x5 x7 x8 x9 0).bind (fun x => some (x.1, x.2.1)) = some (r1, r2) from H)
            have AY := Aside0.mk ey
            clear ey
            simp only [Option.some.injEq, Prod.mk.injEq] at H
            obtain ⟨rfl, rfl⟩ := H
            go_enter Try.func22, Try.ntmps22
            go_wp2_with (first | (go_at_call 40; refine (impl_dateReader_digits.calls k w.heap.size a0 false 4 x1 s1 b1 w _ HI0.out HB0.out A1.out).mono ?_; rintro e w' ⟨rfl, hI, hB, hk⟩; have HCa := Aside0.mk (hk.blk HC0.out hne (by simp)); have f1 := blk_frozen HCa.out 0; have c1 := (blk_cell HCa.out 0).trans rfl; have HI1 := Aside0.mk (hI.far (p := ⟨(w.heap.size + 1), 0, none⟩) (Ne.symm hne) (.int .i64 x1)); have HB1 := Aside0.mk (below_set (j := 0) (v := .int .i64 x1) hB hgc); have HC1 := Aside0.mk (blk_put HCa.out 0 (.int .i64 x1) rfl); clear hI hB hk HI0 HB0 HC0 HCa) | (go_at_call 41; refine (impl_dateReader_need.calls w.heap.size s1 b1 ⟨#[45]⟩ s2 b2 w _ HI1.out HB1.out A2.out).mono ?_; rintro e w' ⟨rfl, hI, hB, hk⟩; (try clear f1 c1); have HI2 := Aside0.mk hI; have HB2 := Aside0.mk hB; have HC2 := Aside0.mk (hk.blk HC1.out hne (by simp)); clear hI hB hk HI1 HB1 HC1) | (go_at_call 40; refine (impl_dateReader_digits.calls k w.heap.size s2 b2 2 x3 s3 b3 w _ HI2.out HB2.out A3.out).mono ?_; rintro e w' ⟨rfl, hI, hB, hk⟩; have HCa := Aside0.mk (hk.blk HC2.out hne (by simp)); have f1 := blk_frozen HCa.out 1; have c1 := (blk_cell HCa.out 1).trans rfl; have HI3 := Aside0.mk (hI.far (p := ⟨(w.heap.size + 1), 1, none⟩) (Ne.symm hne) (.int .i64 x3)); have HB3 := Aside0.mk (below_set (j := 1) (v := .int .i64 x3) hB hgc); have HC3 := Aside0.mk (blk_put HCa.out 1 (.int .i64 x3) rfl); clear hI hB hk HI2 HB2 HC2 HCa) | (go_at_call 41; refine (impl_dateReader_need.calls w.heap.size s3 b3 ⟨#[45]⟩ s4 b4 w _ HI3.out HB3.out A4.out).mono ?_; rintro e w' ⟨rfl, hI, hB, hk⟩; (try clear f1 c1); have HI4 := Aside0.mk hI; have HB4 := Aside0.mk hB; have HC4 := Aside0.mk (hk.blk HC3.out hne (by simp)); clear hI hB hk HI3 HB3 HC3) | (go_at_call 40; refine (impl_dateReader_digits.calls k w.heap.size s4 b4 2 x5 s5 b5 w _ HI4.out HB4.out A5.out).mono ?_; rintro e w' ⟨rfl, hI, hB, hk⟩; have HCa := Aside0.mk (hk.blk HC4.out hne (by simp)); have f1 := blk_frozen HCa.out 2; have c1 := (blk_cell HCa.out 2).trans rfl; have HI5 := Aside0.mk (hI.far (p := ⟨(w.heap.size + 1), 2, none⟩) (Ne.symm hne) (.int .i64 x5)); have HB5 := Aside0.mk (below_set (j := 2) (v := .int .i64 x5) hB hgc); have HC5 := Aside0.mk (blk_put HCa.out 2 (.int .i64 x5) rfl); clear hI hB hk HI4 HB4 HC4 HCa) | (go_at_call 41; refine (impl_dateReader_need.calls w.heap.size s5 b5 ⟨#[84]⟩ s6 b6 w _ HI5.out HB5.out A6.out).mono ?_; rintro e w' ⟨rfl, hI, hB, hk⟩; (try clear f1 c1); have HI6 := Aside0.mk hI; have HB6 := Aside0.mk hB; have HC6 := Aside0.mk (hk.blk HC5.out hne (by simp)); clear hI hB hk HI5 HB5 HC5) | (go_at_call 42; refine (impl_ReadRfc3339.clock k w.heap.size (w.heap.size + 1) s6 b6 x1 x3 x5 0 0 0 x7 x8 x9 s7 b7 w _ HI6.out HC6.out hne hgc HB6.out A7.out).mono ?_; rintro e w' ⟨rfl, hI, hC, hB⟩; have HI7 := Aside0.mk hI; have HB7 := Aside0.mk hB; have HC7 := Aside0.mk hC; clear hI hB hC HI6 HB6 HC6) | (go_at_call 43; refine (impl_dateReader_is.calls w.heap.size s7 b7 ⟨#[46]⟩ true s8 b8 w _ HI7.out HB7.out A8.out).mono ?_; rintro e w' ⟨rfl, hI, hB, hk⟩; (try clear f1 c1 f0 c0); have HI8 := Aside0.mk hI; have HB8 := Aside0.mk hB; have HC8 := Aside0.mk (hk.blk HC7.out hne (by simp)); clear hI hB hk HI7 HB7 HC7) | (go_at_call 44; refine (impl_dateReader_digitsHere.calls k w.heap.size s8 b8 q s9 false w _ HI8.out HB8.out A9.out).mono ?_; rintro e w' ⟨rfl, hI, hB, hk⟩; have c0 := (blk_cell hI.1 0).trans rfl; have c1 := (blk_cell hI.1 1).trans rfl; have f0 := blk_frozen hI.1 0; have f1 := blk_frozen hI.1 1; have HI9 := Aside0.mk ((hI.set_1 (q == 0)).set_0 u); have HB9 := Aside0.mk (below_set (j := 0) (v := .string u) (below_set (j := 1) (v := .bool (q == 0)) hB (Nat.le_refl _)) (Nat.le_refl _)); have HC9 := Aside0.mk (blk_far (blk_far (hk.blk HC8.out hne (by simp)) (p := ⟨w.heap.size, 1, none⟩) hne (.bool (q == 0))) (p := ⟨w.heap.size, 0, none⟩) hne (.string u)); clear hI hB hk HI8 HB8 HC8) | (go_at_call 43; refine (impl_dateReader_is.calls w.heap.size u (q == 0) ⟨#[90]⟩ true t1 d1 w _ HI9.out HB9.out AZ.out).mono ?_; rintro e w' ⟨rfl, hI, hB, hk⟩; (try clear f1 c1 f0 c0); have HI10 := Aside0.mk hI; have HB10 := Aside0.mk hB; have HC10 := Aside0.mk (hk.blk HC9.out hne (by simp)); have ca0 := (blk_cell HC10.out 0).trans rfl; have ca1 := (blk_cell HC10.out 1).trans rfl; have ca2 := (blk_cell HC10.out 2).trans rfl; have ca3 := (blk_cell HC10.out 3).trans rfl; have ca4 := (blk_cell HC10.out 4).trans rfl; have ca5 := (blk_cell HC10.out 5).trans rfl; clear hI hB hk HI9 HB9 HC9) | (go_at_call 46; refine (impl_dateReader_stamp.calls k w.heap.size t1 d1 x1 x3 x5 x7 x8 x9 0 y1 y2 y3 y4 w _ HI10.out HB10.out AY.out).mono ?_; rintro e w' ⟨rfl, hI, hB, hk⟩; have HBz := Aside0.mk hB; clear hI hB hk))
            go_ret2
            exact ⟨rfl, HBz.out⟩
          | false =>
            obtain ⟨⟨q1, t2, d2⟩, eq_, H⟩ := Option.bind_eq_some_iff.1 (show (impl_dateReader_zone.f k t1 d1 ⟨#[58]⟩).bind (fun q => (impl_dateReader_stamp.f k q.2.1 q.2.2 x1 x3 x5 x7 x8 x9 q.1).bind fun x => some (x.1, x.2.1)) = some (r1, r2) from H)
            obtain ⟨⟨y1, y2, y3, y4⟩, ey, H⟩ := Option.bind_eq_some_iff.1 H
            have AQ := Aside0.mk eq_
            have AY := Aside0.mk ey
            clear ey eq_
            simp only [Option.some.injEq, Prod.mk.injEq] at H
            obtain ⟨rfl, rfl⟩ := H
            go_enter Try.func22, Try.ntmps22
            go_wp2_with (first | (go_at_call 40; refine (impl_dateReader_digits.calls k w.heap.size a0 false 4 x1 s1 b1 w _ HI0.out HB0.out A1.out).mono ?_; rintro e w' ⟨rfl, hI, hB, hk⟩; have HCa := Aside0.mk (hk.blk HC0.out hne (by simp)); have f1 := blk_frozen HCa.out 0; have c1 := (blk_cell HCa.out 0).trans rfl; have HI1 := Aside0.mk (hI.far (p := ⟨(w.heap.size + 1), 0, none⟩) (Ne.symm hne) (.int .i64 x1)); have HB1 := Aside0.mk (below_set (j := 0) (v := .int .i64 x1) hB hgc); have HC1 := Aside0.mk (blk_put HCa.out 0 (.int .i64 x1) rfl); clear hI hB hk HI0 HB0 HC0 HCa) | (go_at_call 41; refine (impl_dateReader_need.calls w.heap.size s1 b1 ⟨#[45]⟩ s2 b2 w _ HI1.out HB1.out A2.out).mono ?_; rintro e w' ⟨rfl, hI, hB, hk⟩; (try clear f1 c1); have HI2 := Aside0.mk hI; have HB2 := Aside0.mk hB; have HC2 := Aside0.mk (hk.blk HC1.out hne (by simp)); clear hI hB hk HI1 HB1 HC1) | (go_at_call 40; refine (impl_dateReader_digits.calls k w.heap.size s2 b2 2 x3 s3 b3 w _ HI2.out HB2.out A3.out).mono ?_; rintro e w' ⟨rfl, hI, hB, hk⟩; have HCa := Aside0.mk (hk.blk HC2.out hne (by simp)); have f1 := blk_frozen HCa.out 1; have c1 := (blk_cell HCa.out 1).trans rfl; have HI3 := Aside0.mk (hI.far (p := ⟨(w.heap.size + 1), 1, none⟩) (Ne.symm hne) (.int .i64 x3)); have HB3 := Aside0.mk (below_set (j := 1) (v := .int .i64 x3) hB hgc); have HC3 := Aside0.mk (blk_put HCa.out 1 (.int .i64 x3) rfl); clear hI hB hk HI2 HB2 HC2 HCa) | (go_at_call 41; refine (impl_dateReader_need.calls w.heap.size s3 b3 ⟨#[45]⟩ s4 b4 w _ HI3.out HB3.out A4.out).mono ?_; rintro e w' ⟨rfl, hI, hB, hk⟩; (try clear f1 c1); have HI4 := Aside0.mk hI; have HB4 := Aside0.mk hB; have HC4 := Aside0.mk (hk.blk HC3.out hne (by simp)); clear hI hB hk HI3 HB3 HC3) | (go_at_call 40; refine (impl_dateReader_digits.calls k w.heap.size s4 b4 2 x5 s5 b5 w _ HI4.out HB4.out A5.out).mono ?_; rintro e w' ⟨rfl, hI, hB, hk⟩; have HCa := Aside0.mk (hk.blk HC4.out hne (by simp)); have f1 := blk_frozen HCa.out 2; have c1 := (blk_cell HCa.out 2).trans rfl; have HI5 := Aside0.mk (hI.far (p := ⟨(w.heap.size + 1), 2, none⟩) (Ne.symm hne) (.int .i64 x5)); have HB5 := Aside0.mk (below_set (j := 2) (v := .int .i64 x5) hB hgc); have HC5 := Aside0.mk (blk_put HCa.out 2 (.int .i64 x5) rfl); clear hI hB hk HI4 HB4 HC4 HCa) | (go_at_call 41; refine (impl_dateReader_need.calls w.heap.size s5 b5 ⟨#[84]⟩ s6 b6 w _ HI5.out HB5.out A6.out).mono ?_; rintro e w' ⟨rfl, hI, hB, hk⟩; (try clear f1 c1); have HI6 := Aside0.mk hI; have HB6 := Aside0.mk hB; have HC6 := Aside0.mk (hk.blk HC5.out hne (by simp)); clear hI hB hk HI5 HB5 HC5) | (go_at_call 42; refine (impl_ReadRfc3339.clock k w.heap.size (w.heap.size + 1) s6 b6 x1 x3 x5 0 0 0 x7 x8 x9 s7 b7 w _ HI6.out HC6.out hne hgc HB6.out A7.out).mono ?_; rintro e w' ⟨rfl, hI, hC, hB⟩; have HI7 := Aside0.mk hI; have HB7 := Aside0.mk hB; have HC7 := Aside0.mk hC; clear hI hB hC HI6 HB6 HC6) | (go_at_call 43; refine (impl_dateReader_is.calls w.heap.size s7 b7 ⟨#[46]⟩ true s8 b8 w _ HI7.out HB7.out A8.out).mono ?_; rintro e w' ⟨rfl, hI, hB, hk⟩; (try clear f1 c1 f0 c0); have HI8 := Aside0.mk hI; have HB8 := Aside0.mk hB; have HC8 := Aside0.mk (hk.blk HC7.out hne (by simp)); clear hI hB hk HI7 HB7 HC7) | (go_at_call 44; refine (impl_dateReader_digitsHere.calls k w.heap.size s8 b8 q s9 false w _ HI8.out HB8.out A9.out).mono ?_; rintro e w' ⟨rfl, hI, hB, hk⟩; have c0 := (blk_cell hI.1 0).trans rfl; have c1 := (blk_cell hI.1 1).trans rfl; have f0 := blk_frozen hI.1 0; have f1 := blk_frozen hI.1 1; have HI9 := Aside0.mk ((hI.set_1 (q == 0)).set_0 u); have HB9 := Aside0.mk (below_set (j := 0) (v := .string u) (below_set (j := 1) (v := .bool (q == 0)) hB (Nat.le_refl _)) (Nat.le_refl _)); have HC9 := Aside0.mk (blk_far (blk_far (hk.blk HC8.out hne (by simp)) (p := ⟨w.heap.size, 1, none⟩) hne (.bool (q == 0))) (p := ⟨w.heap.size, 0, none⟩) hne (.string u)); clear hI hB hk HI8 HB8 HC8) | (go_at_call 43; refine (impl_dateReader_is.calls w.heap.size u (q == 0) ⟨#[90]⟩ false t1 d1 w _ HI9.out HB9.out AZ.out).mono ?_; rintro e w' ⟨rfl, hI, hB, hk⟩; (try clear f1 c1 f0 c0); have HI10 := Aside0.mk hI; have HB10 := Aside0.mk hB; have HC10 := Aside0.mk (hk.blk HC9.out hne (by simp)); clear hI hB hk HI9 HB9 HC9) | (go_at_call 45; refine (impl_dateReader_zone.calls k w.heap.size t1 d1 ⟨#[58]⟩ q1 t2 d2 w _ HI10.out HB10.out AQ.out).mono ?_; rintro e w' ⟨rfl, hI, hB, hk⟩; have HI11 := Aside0.mk hI; have HB11 := Aside0.mk hB; have HC11 := Aside0.mk (hk.blk HC10.out hne (by simp)); have ca0 := (blk_cell HC11.out 0).trans rfl; have ca1 := (blk_cell HC11.out 1).trans rfl; have ca2 := (blk_cell HC11.out 2).trans rfl; have ca3 := (blk_cell HC11.out 3).trans rfl; have ca4 := (blk_cell HC11.out 4).trans rfl; have ca5 := (blk_cell HC11.out 5).trans rfl; clear hI hB hk HI10 HB10 HC10) | (go_at_call 46; refine (impl_dateReader_stamp.calls k w.heap.size t2 d2 x1 x3 x5 x7 x8 x9 q1 y1 y2 y3 y4 w _ HI11.out HB11.out AY.out).mono ?_; rintro e w' ⟨rfl, hI, hB, hk⟩; have HBz := Aside0.mk hB; clear hI hB hk))
            go_ret2
            exact ⟨rfl, HBz.out⟩
      · have e_ : (none : Option (Int × Int)) = some (r1, r2) := by rw [← H]; exact (if_neg hq).symm
        cases e_

/-! ### laws_FnExactReadRfc3339: function 8 -/
noncomputable def laws_FnExactReadRfc3339.f (k : Nat) (a0 : ByteArray) : Option (Bool) := if (a0.size : Int) > 1048576 then (some true) else ((spec_ReadRfc3339.f k a0).bind fun bt187 => ((impl_ReadRfc3339.f a0).bind fun bt189 => (if bt189.1 = bt187.1 then (if bt189.2 = bt187.2 then (some true) else (some false)) else (some false))))
theorem laws_FnExactReadRfc3339.mono : ∀ a0 k, LeO (laws_FnExactReadRfc3339.f k a0) (laws_FnExactReadRfc3339.f (k + 1) a0) := by
  intro a0 k
  unfold laws_FnExactReadRfc3339.f
  repeat' first
      | (with_reducible exact spec_ReadRfc3339.mono _ _)
      | (with_reducible exact LeO.refl _)
      | (with_reducible exact LeO.none _)
      | (with_reducible refine LeO.ite ?_ ?_)
      | (with_reducible refine LeO.bind ?_ (fun _ => ?_))
      | exact spec_ReadRfc3339.mono _ _
      | exact LeO.none _
      | refine LeO.ite ?_ ?_
      | refine LeO.bind ?_ (fun _ => ?_)
set_option maxHeartbeats 8000000 in
set_option maxRecDepth 100000 in
theorem laws_FnExactReadRfc3339.calls (k : Nat) (a0 : ByteArray) (r : Bool) (w : World) (h : laws_FnExactReadRfc3339.f k a0 = some r) :
    Calls Try.prog 8 #[.string a0] w fun e w' => e = .returned (.bool r) ∧ Below w.heap.size w w' := by
  have HB := Aside0.mk (Below.refl w.heap.size w)
  have H : (if (a0.size : Int) > 1048576 then (some true) else ((spec_ReadRfc3339.f k a0).bind fun bt187 => ((impl_ReadRfc3339.f a0).bind fun bt189 => (if bt189.1 = bt187.1 then (if bt189.2 = bt187.2 then (some true) else (some false)) else (some false))))) = some r := h
  clear h
  by_cases c2 : (a0.size : Int) > 1048576
  · rw [if_pos c2] at H
    have c2b0 : decide (1048576 < (a0.size : Int)) = true := decide_eq_true c2
    have c2b1 : decide (1048576 < a0.size) = true := decide_eq_true (by omega)
    clear c2
    obtain rfl := Option.some.inj H
    go_enter Try.func8, Try.ntmps8
    go_wp2
    go_ret
    exact ⟨by first | rfl | (simp [errW_none, errW_some] <;> rfl) | (simp [*, errW_none, errW_some] <;> rfl), by repeat (first | (with_reducible first | exact HB.out | apply below_alloc | apply pw_below_drewN | apply below_drew1) | exact HB.out)⟩
  · rw [if_neg c2] at H
    have c2b0 : decide (1048576 < (a0.size : Int)) = false := decide_eq_false c2
    have c2b1 : decide (1048576 < a0.size) = false := decide_eq_false (by omega)
    clear c2
    replace H := Option.bind_eq_some_iff.mp H
    obtain ⟨⟨t187, t188⟩, A30, H⟩ := H
    replace H : ((impl_ReadRfc3339.f a0).bind fun bt189 => (if bt189.1 = t187 then (if bt189.2 = t188 then (some true) else (some false)) else (some false))) = some r := H
    have A3 := Aside0.mk A30
    clear A30
    replace H := Option.bind_eq_some_iff.mp H
    obtain ⟨⟨t189, t190⟩, A40, H⟩ := H
    replace H : (if t189 = t187 then (if t190 = t188 then (some true) else (some false)) else (some false)) = some r := H
    have A4 := Aside0.mk A40
    clear A40
    by_cases c5 : t189 = t187
    · rw [if_pos c5] at H
      have c5b0 : (t189 == t187) = true := beq_iff_eq.mpr c5
      have c5b1 : (t189 != t187) = false := bne_eq_false_iff_eq.mpr c5
      clear c5
      by_cases c6 : t190 = t188
      · rw [if_pos c6] at H
        have c6b0 : (t190 == t188) = true := beq_iff_eq.mpr c6
        have c6b1 : (t190 != t188) = false := bne_eq_false_iff_eq.mpr c6
        clear c6
        obtain rfl := Option.some.inj H
        go_enter Try.func8, Try.ntmps8
        go_wp2_with (first | ((with_reducible refine gate_callee (f := 21) rfl ?_); refine goesL_ (some 12) rfl rfl Try.func21 (by kernel_rfl) rfl #[.string a0] rfl (by (try simp only [List.map_toArray, List.map_cons, List.map_nil]); first | done | rfl | (simp only [List.length_drop, List.length_take]; rfl)) ?_; (with_reducible refine (spec_ReadRfc3339.calls k a0 t187 t188 _ A3.out).mono ?_); rintro e w7 ⟨rfl, hb⟩; refine ⟨_, rfl, ?_⟩; have n0_ := Aside0.mk (below_step (by repeat (first | (with_reducible first | exact HB.out | apply below_alloc | apply pw_below_drewN | apply below_drew1) | exact HB.out)) hb); clear HB; have HB := n0_; clear n0_; (try clear hb); (try clear hb2); (try clear hk); (try clear hi)) | ((with_reducible refine gate_callee (f := 22) rfl ?_); refine goesL_ (some 17) rfl rfl Try.func22 (by kernel_rfl) rfl #[.string a0] rfl (by (try simp only [List.map_toArray, List.map_cons, List.map_nil]); first | done | rfl | (simp only [List.length_drop, List.length_take]; rfl)) ?_; (with_reducible refine (impl_ReadRfc3339.calls a0 t189 t190 _ A4.out).mono ?_); rintro e w8 ⟨rfl, hb⟩; refine ⟨_, rfl, ?_⟩; have n0_ := Aside0.mk (below_step (by repeat (first | (with_reducible first | exact HB.out | apply below_alloc | apply pw_below_drewN | apply below_drew1) | exact HB.out)) hb); clear HB; have HB := n0_; clear n0_; (try clear hb); (try clear hb2); (try clear hk); (try clear hi)))
        go_ret
        exact ⟨by first | rfl | (simp [errW_none, errW_some] <;> rfl) | (simp [*, errW_none, errW_some] <;> rfl), by repeat (first | (with_reducible first | exact HB.out | apply below_alloc | apply pw_below_drewN | apply below_drew1) | exact HB.out)⟩
      · rw [if_neg c6] at H
        have c6b0 : (t190 == t188) = false := beq_eq_false_iff_ne.mpr c6
        have c6b1 : (t190 != t188) = true := bne_iff_ne.mpr c6
        obtain rfl := Option.some.inj H
        go_enter Try.func8, Try.ntmps8
        go_wp2_with (first | ((with_reducible refine gate_callee (f := 21) rfl ?_); refine goesL_ (some 12) rfl rfl Try.func21 (by kernel_rfl) rfl #[.string a0] rfl (by (try simp only [List.map_toArray, List.map_cons, List.map_nil]); first | done | rfl | (simp only [List.length_drop, List.length_take]; rfl)) ?_; (with_reducible refine (spec_ReadRfc3339.calls k a0 t187 t188 _ A3.out).mono ?_); rintro e w9 ⟨rfl, hb⟩; refine ⟨_, rfl, ?_⟩; have n0_ := Aside0.mk (below_step (by repeat (first | (with_reducible first | exact HB.out | apply below_alloc | apply pw_below_drewN | apply below_drew1) | exact HB.out)) hb); clear HB; have HB := n0_; clear n0_; (try clear hb); (try clear hb2); (try clear hk); (try clear hi)) | ((with_reducible refine gate_callee (f := 22) rfl ?_); refine goesL_ (some 17) rfl rfl Try.func22 (by kernel_rfl) rfl #[.string a0] rfl (by (try simp only [List.map_toArray, List.map_cons, List.map_nil]); first | done | rfl | (simp only [List.length_drop, List.length_take]; rfl)) ?_; (with_reducible refine (impl_ReadRfc3339.calls a0 t189 t190 _ A4.out).mono ?_); rintro e w10 ⟨rfl, hb⟩; refine ⟨_, rfl, ?_⟩; have n0_ := Aside0.mk (below_step (by repeat (first | (with_reducible first | exact HB.out | apply below_alloc | apply pw_below_drewN | apply below_drew1) | exact HB.out)) hb); clear HB; have HB := n0_; clear n0_; (try clear hb); (try clear hb2); (try clear hk); (try clear hi)))
        go_ret
        exact ⟨by first | rfl | (simp [errW_none, errW_some] <;> rfl) | (simp [*, errW_none, errW_some] <;> rfl), by repeat (first | (with_reducible first | exact HB.out | apply below_alloc | apply pw_below_drewN | apply below_drew1) | exact HB.out)⟩
    · rw [if_neg c5] at H
      have c5b0 : (t189 == t187) = false := beq_eq_false_iff_ne.mpr c5
      have c5b1 : (t189 != t187) = true := bne_iff_ne.mpr c5
      obtain rfl := Option.some.inj H
      go_enter Try.func8, Try.ntmps8
      go_wp2_with (first | ((with_reducible refine gate_callee (f := 21) rfl ?_); refine goesL_ (some 12) rfl rfl Try.func21 (by kernel_rfl) rfl #[.string a0] rfl (by (try simp only [List.map_toArray, List.map_cons, List.map_nil]); first | done | rfl | (simp only [List.length_drop, List.length_take]; rfl)) ?_; (with_reducible refine (spec_ReadRfc3339.calls k a0 t187 t188 _ A3.out).mono ?_); rintro e w11 ⟨rfl, hb⟩; refine ⟨_, rfl, ?_⟩; have n0_ := Aside0.mk (below_step (by repeat (first | (with_reducible first | exact HB.out | apply below_alloc | apply pw_below_drewN | apply below_drew1) | exact HB.out)) hb); clear HB; have HB := n0_; clear n0_; (try clear hb); (try clear hb2); (try clear hk); (try clear hi)) | ((with_reducible refine gate_callee (f := 22) rfl ?_); refine goesL_ (some 17) rfl rfl Try.func22 (by kernel_rfl) rfl #[.string a0] rfl (by (try simp only [List.map_toArray, List.map_cons, List.map_nil]); first | done | rfl | (simp only [List.length_drop, List.length_take]; rfl)) ?_; (with_reducible refine (impl_ReadRfc3339.calls a0 t189 t190 _ A4.out).mono ?_); rintro e w12 ⟨rfl, hb⟩; refine ⟨_, rfl, ?_⟩; have n0_ := Aside0.mk (below_step (by repeat (first | (with_reducible first | exact HB.out | apply below_alloc | apply pw_below_drewN | apply below_drew1) | exact HB.out)) hb); clear HB; have HB := n0_; clear n0_; (try clear hb); (try clear hb2); (try clear hk); (try clear hi)))
      go_ret
      exact ⟨by first | rfl | (simp [errW_none, errW_some] <;> rfl) | (simp [*, errW_none, errW_some] <;> rfl), by repeat (first | (with_reducible first | exact HB.out | apply below_alloc | apply pw_below_drewN | apply below_drew1) | exact HB.out)⟩

/-- THE ONE PURE STATEMENT of laws_FnExactReadRfc3339: yours. -/
noncomputable def laws_FnExactReadRfc3339.Pure : Prop := ∀ (a0 : ByteArray), a0.size ≤ 140737488351232 → ∃ k, laws_FnExactReadRfc3339.f k a0 = some true
theorem laws_FnExactReadRfc3339.walk (P : laws_FnExactReadRfc3339.Pure) (a0 : ByteArray) (w : World) (w0 : a0.size ≤ 140737488351232) :
    Calls Try.prog 8 #[.string a0] w fun e w' => e = .returned (.bool true) ∧ Below w.heap.size w w' := by
  obtain ⟨k, h⟩ := P a0 w0
  refine (laws_FnExactReadRfc3339.calls k a0 true w h).mono ?_
  rintro e w' ⟨rfl, hd⟩
  exact ⟨rfl, hd⟩

end Go.Proofs.Ytccnidlkpinpgaa.QFnExactReadRfc3339
