/- Printed by a program of this session's own (wip/myprint.py): the functions that FnExactReadRfc822 reaches as plain Lean functions, and that Go's calls do what they say. Conditions: as each theorem states. -/
import Derived.Test.YtccnidlkpinpgaaQFnExactReadRfc822x0
import Derived.Test.YtccnidlkpinpgaaQFnExactReadRfc822x4
import Derived.Test.YtccnidlkpinpgaaQFnExactReadRfc822x5
import Derived.Test.YtccnidlkpinpgaaQFnExactReadRfc822x6
namespace Go.Proofs.Ytccnidlkpinpgaa.QFnExactReadRfc822
open Go.RowKit Go.Proofs.YtccnidlkpinpgaaW.PrintWords Go.Proofs.YtccnidlkpinpgaaW.PrintLast Go.Proofs.YtccnidlkpinpgaaW.PrintMore
attribute [local go_sem] max2_int min2_int max_two min_two max_three min_three max_four min_four   -- for this text's walks alone
set_option linter.unusedVariables false
set_option linter.unusedSimpArgs false

/-! ### impl_dateReader_stamp: function 46 -/
def impl_dateReader_stamp.j0 : Nat → Int → Bool → ByteArray → Bool → Int → Int → Int → Int → Int → Int → Option (Int × Int × ByteArray × Bool)
  | 0, _, _, _, _, _, _, _, _, _, _ => none
  | k + 1, x2, x24, x1000, x1001, x225000, x225001, x225002, x225003, x225004, x225005 => if x24 = true then (some (0, 3, x1000, x1001)) else ((impl_stampOf.f k x225000 x225001 x225002 x225003 x225004 x225005).bind fun t226 => ((impl_isStamp.f (wrap64 (t226 - x2))).bind fun t227 => (if t227 = true then (some (wrap64 (t226 - x2), 0, x1000, x1001)) else (some (0, 4, x1000, x1001)))))
def impl_dateReader_stamp.f (k : Nat) (s0_0 : ByteArray) (s0_1 : Bool) (a1_0 : Int) (a1_1 : Int) (a1_2 : Int) (a1_3 : Int) (a1_4 : Int) (a1_5 : Int) (a2 : Int) : Option (Int × Int × ByteArray × Bool) := if s0_1 = true then (impl_dateReader_stamp.j0 k a2 true s0_0 s0_1 a1_0 a1_1 a1_2 a1_3 a1_4 a1_5) else (if s0_0.toList = ([] : List UInt8) then ((impl_CivilOK.f k a1_0 a1_1 a1_2 a1_3 a1_4 a1_5).bind fun t225 => (impl_dateReader_stamp.j0 k a2 (!t225) s0_0 s0_1 a1_0 a1_1 a1_2 a1_3 a1_4 a1_5)) else (impl_dateReader_stamp.j0 k a2 true s0_0 s0_1 a1_0 a1_1 a1_2 a1_3 a1_4 a1_5))
theorem impl_dateReader_stamp.mono_l : ∀ k, (∀ y0 y1 y2 y3 y4 y5 y6 y7 y8 y9, LeO (impl_dateReader_stamp.j0 k y0 y1 y2 y3 y4 y5 y6 y7 y8 y9) (impl_dateReader_stamp.j0 (k + 1) y0 y1 y2 y3 y4 y5 y6 y7 y8 y9))
  | 0 => fun _ _ _ _ _ _ _ _ _ _ r h => by simp [impl_dateReader_stamp.j0] at h
  | k + 1 => by
    have ih0 := impl_dateReader_stamp.mono_l k
    · intro y0 y1 y2 y3 y4 y5 y6 y7 y8 y9
      unfold impl_dateReader_stamp.j0
      repeat' first
      | (with_reducible exact ih0 _ _ _ _ _ _ _ _ _ _)
      | (with_reducible exact impl_CivilOK.mono _ _ _ _ _ _ _)
      | (with_reducible exact impl_stampOf.mono _ _ _ _ _ _ _)
      | (with_reducible exact LeO.refl _)
      | (with_reducible exact LeO.none _)
      | (with_reducible refine LeO.ite ?_ ?_)
      | (with_reducible refine LeO.bind ?_ (fun _ => ?_))
      | exact ih0 _ _ _ _ _ _ _ _ _ _
      | exact impl_CivilOK.mono _ _ _ _ _ _ _
      | exact impl_stampOf.mono _ _ _ _ _ _ _
      | exact LeO.none _
      | refine LeO.ite ?_ ?_
      | refine LeO.bind ?_ (fun _ => ?_)
theorem impl_dateReader_stamp.mono : ∀ a0 a1 a2 a3 a4 a5 a6 a7 a8 k, LeO (impl_dateReader_stamp.f k a0 a1 a2 a3 a4 a5 a6 a7 a8) (impl_dateReader_stamp.f (k + 1) a0 a1 a2 a3 a4 a5 a6 a7 a8) := by
  intro a0 a1 a2 a3 a4 a5 a6 a7 a8 k
  have ih0 := impl_dateReader_stamp.mono_l k
  unfold impl_dateReader_stamp.f
  repeat' first
      | (with_reducible exact ih0 _ _ _ _ _ _ _ _ _ _)
      | (with_reducible exact impl_CivilOK.mono _ _ _ _ _ _ _)
      | (with_reducible exact impl_stampOf.mono _ _ _ _ _ _ _)
      | (with_reducible exact LeO.refl _)
      | (with_reducible exact LeO.none _)
      | (with_reducible refine LeO.ite ?_ ?_)
      | (with_reducible refine LeO.bind ?_ (fun _ => ?_))
      | exact ih0 _ _ _ _ _ _ _ _ _ _
      | exact impl_CivilOK.mono _ _ _ _ _ _ _
      | exact impl_stampOf.mono _ _ _ _ _ _ _
      | exact LeO.none _
      | refine LeO.ite ?_ ?_
      | refine LeO.bind ?_ (fun _ => ?_)
set_option maxHeartbeats 8000000 in
set_option maxRecDepth 100000 in
theorem impl_dateReader_stamp.calls (k : Nat) (g : Nat) (s0_0 : ByteArray) (s0_1 : Bool) (a1_0 : Int) (a1_1 : Int) (a1_2 : Int) (a1_3 : Int) (a1_4 : Int) (a1_5 : Int) (a2 : Int) (r1 : Int) (r2 : Int) (r3 : ByteArray) (r4 : Bool) (w0 w : World) (hI : IsS53 w0 w g s0_0 s0_1) (hB : Below w0.heap.size w0 w) (h : impl_dateReader_stamp.f k s0_0 s0_1 a1_0 a1_1 a1_2 a1_3 a1_4 a1_5 a2 = some (r1, r2, r3, r4)) :
    Calls Try.prog 46 #[.pointer (some ⟨g, 0, none⟩), .agg #[.int .i64 a1_0, .int .i64 a1_1, .int .i64 a1_2, .int .i64 a1_3, .int .i64 a1_4, .int .i64 a1_5], .int .i64 a2] w fun e w' => e = .returned (.tuple #[.int .i64 r1, .int .i64 r2]) ∧ IsS53 w0 w' g r3 r4 ∧ Below w0.heap.size w0 w' ∧ KeepBut w w' g none := by
  have hu28 := Try.underlying28
  have HI0 := Aside0.mk hI
  have HK := Aside0.mk (KeepBut.refl w g none)
  have HL := Aside0.mk hB.size
  clear hI
  have HW0 := Aside0.mk hB.size
  have HB := Aside0.mk hB
  clear hB
  have H : (if s0_1 = true then (impl_dateReader_stamp.j0 k a2 true s0_0 s0_1 a1_0 a1_1 a1_2 a1_3 a1_4 a1_5) else (if s0_0.toList = ([] : List UInt8) then ((impl_CivilOK.f k a1_0 a1_1 a1_2 a1_3 a1_4 a1_5).bind fun t225 => (impl_dateReader_stamp.j0 k a2 (!t225) s0_0 s0_1 a1_0 a1_1 a1_2 a1_3 a1_4 a1_5)) else (impl_dateReader_stamp.j0 k a2 true s0_0 s0_1 a1_0 a1_1 a1_2 a1_3 a1_4 a1_5))) = some (r1, r2, r3, r4) := h
  clear h
  have HC4 := Aside0.mk H
  clear H
  go_enter Try.func46, Try.ntmps46
  go_upto_region 1 with (first | ((with_reducible refine gate_dst (N := 4) rfl ?_); refine box_event ?hg (N := 4) ?hd (cs := #[.int .i64 a1_0, .int .i64 a1_1, .int .i64 a1_2, .int .i64 a1_3, .int .i64 a1_4, .int .i64 a1_5]) (t := 28) ?hr ?_; (case hd => rfl); (case hg => rfl); (case hr => first | (go_simp; done) | (go_simp; rfl)); intro gb224 hg w5 hbox hb; have n0_ := Aside0.mk (IsS53.below (by repeat (first | (with_reducible first | exact HI0.out | apply IsS53.alloc | apply IsS53.drewN | apply IsS53.drew | apply IsS53.set_0 | apply IsS53.set_1) | exact HI0.out)) hb); have n1_ := Aside0.mk (KeepBut.trans (by repeat (first | (with_reducible first | exact HK.out | apply KeepBut.set_ | apply keep_drewN | apply keep_drew | apply keep_alloc) | exact HK.out)) (KeepBut.of_below hb g none) (.inl rfl)); have n2_ := Aside0.mk (below_step (by repeat (first | (with_reducible first | exact HB.out | apply below_alloc | apply pw_below_drewN | apply below_drew1 | refine below_set ?_ (IsS53.ge HI0.out)) | exact HB.out)) hb); have n3_ := Aside0.mk (hbox); have n4_ := Aside0.mk ((by rw [hg]; exact (keep_size (w := w) (g := g) (row := none) (by repeat (first | (with_reducible first | exact HK.out | apply KeepBut.set_ | apply keep_drewN | apply keep_drew | apply keep_alloc) | exact HK.out))) : w.heap.size ≤ gb224)); have n5_ := Aside0.mk ((Nat.le_trans HW0.out (by rw [hg]; exact (keep_size (w := w) (g := g) (row := none) (by repeat (first | (with_reducible first | exact HK.out | apply KeepBut.set_ | apply keep_drewN | apply keep_drew | apply keep_alloc) | exact HK.out))) : w.heap.size ≤ gb224) : w0.heap.size ≤ gb224)); have n6_ := Aside0.mk ((by rw [hg]; exact Nat.ne_of_lt (IsS53.lt (show IsS53 w0 _ g s0_0 s0_1 from by repeat (first | (with_reducible first | exact HI0.out | apply IsS53.alloc | apply IsS53.drewN | apply IsS53.drew | apply IsS53.set_0 | apply IsS53.set_1) | exact HI0.out))) : g ≠ gb224)); have n7_ := Aside0.mk ((by rw [hg]; exact Nat.ne_of_gt (IsS53.lt (show IsS53 w0 _ g s0_0 s0_1 from by repeat (first | (with_reducible first | exact HI0.out | apply IsS53.alloc | apply IsS53.drewN | apply IsS53.drew | apply IsS53.set_0 | apply IsS53.set_1) | exact HI0.out))) : gb224 ≠ g)); clear HI0; clear HK; clear HB; have HI0 := n0_; have HK := n1_; have HB := n2_; have BK224 := n3_; have GW224 := n4_; have GE224 := n5_; have NB0_224 := n6_; have NB224_0 := n7_; clear n0_ n1_ n2_ n3_ n4_ n5_ n6_ n7_; clear hb hbox hg))
  (try simp only [Act.put, List.setIfInBounds_toArray, List.set_cons_zero, List.set_cons_succ])
  go_cut [24] (fun v24 wc => ∃ (kq : Nat) (x24_3 : Bool), v24 = .bool x24_3 ∧ Aside0 (impl_dateReader_stamp.j0 kq a2 x24_3 s0_0 s0_1 a1_0 a1_1 a1_2 a1_3 a1_4 a1_5 = some (r1, r2, r3, r4)) ∧ Aside0 (kq ≤ k) ∧ Aside0 (wc.heap[gb224]? = some (.cells #[.int .i64 a1_0, .int .i64 a1_1, .int .i64 a1_2, .int .i64 a1_3, .int .i64 a1_4, .int .i64 a1_5] 28 (0, 0))) ∧ Aside0 (IsS53 w0 wc g s0_0 s0_1) ∧ Aside0 (KeepBut w wc g none) ∧ Aside0 (Below w0.heap.size w0 wc))
  case first =>
    have H := HC4.out
    clear HC4
    by_cases c6 : s0_1 = true
    · subst c6
      have H1 : (impl_dateReader_stamp.j0 k a2 true s0_0 true a1_0 a1_1 a1_2 a1_3 a1_4 a1_5) = some (r1, r2, r3, r4) := by rw [if_pos rfl] at H; exact H
      clear H
      have H := H1
      clear H1
      have H' := Aside0.mk H
      clear H
      obtain ⟨HGz7, hgz7⟩ := HI0.out
      have hcz7_0 := cellS53_0 HGz7
      have hcz7_1 := cellS53_1 HGz7
      have hfz7_0 := blk_frozen HGz7 0
      have hfz7_1 := blk_frozen HGz7 1
      clear HGz7 hgz7
      go_wp2
      go_meet
      case rel => exact ⟨_, (true), (by first | rfl | (simp; done) | (simp [*]; done) | (simp; rfl) | (simp; unfold wrap64; omega)), H', ⟨by first | omega | exact Nat.le_refl _⟩, ⟨by (with_reducible repeat (first | refine blk_drewN ?_ _ | refine blk_drew ?_ | refine blk_alloc ?_ _)); exact BK224.out⟩, ⟨by repeat (first | (with_reducible first | exact HI0.out | apply IsS53.alloc | apply IsS53.drewN | apply IsS53.drew | apply IsS53.set_0 | apply IsS53.set_1 | refine IsS53.far ?_ NB0_224.out _) | exact HI0.out)⟩, ⟨by repeat (first | (with_reducible first | exact HK.out | apply KeepBut.set_ | apply keep_drewN | apply keep_drew | apply keep_alloc | refine keep_far ?_ GW224.out _) | exact HK.out)⟩, ⟨by repeat (first | (with_reducible first | exact HB.out | apply below_alloc | apply pw_below_drewN | apply below_drew1 | refine below_set ?_ (IsS53.ge HI0.out) | refine below_set ?_ GE224.out) | exact HB.out)⟩⟩
    · replace c6 := Bool.eq_false_iff.mpr c6
      subst c6
      have H1 : (if s0_0.toList = ([] : List UInt8) then ((impl_CivilOK.f k a1_0 a1_1 a1_2 a1_3 a1_4 a1_5).bind fun t225 => (impl_dateReader_stamp.j0 k a2 (!t225) s0_0 false a1_0 a1_1 a1_2 a1_3 a1_4 a1_5)) else (impl_dateReader_stamp.j0 k a2 true s0_0 false a1_0 a1_1 a1_2 a1_3 a1_4 a1_5)) = some (r1, r2, r3, r4) := by rw [if_neg (show ¬ (false = true) by decide)] at H; exact H
      clear H
      have H := H1
      clear H1
      by_cases c8 : s0_0.toList = ([] : List UInt8)
      · rw [if_pos c8] at H
        have c8b0 : (s0_0.toList == ([] : List UInt8)) = true := beq_iff_eq.mpr c8
        have c8b1 : (s0_0.toList != ([] : List UInt8)) = false := bne_eq_false_iff_eq.mpr c8
        clear c8
        (first | rw [c8b0] | (simp only [i64_w, i32_w]; rw [c8b0]) | skip)
        replace H := Option.bind_eq_some_iff.mp H
        obtain ⟨t225, A90, H⟩ := H
        replace H : (impl_dateReader_stamp.j0 k a2 (!t225) s0_0 false a1_0 a1_1 a1_2 a1_3 a1_4 a1_5) = some (r1, r2, r3, r4) := H
        have A9 := Aside0.mk A90
        clear A90
        have H' := Aside0.mk H
        clear H
        obtain ⟨HGz10, hgz10⟩ := HI0.out
        have hcz10_0 := cellS53_0 HGz10
        have hcz10_1 := cellS53_1 HGz10
        have hfz10_0 := blk_frozen HGz10 0
        have hfz10_1 := blk_frozen HGz10 1
        clear HGz10 hgz10
        have hnb11 := NB224_0.out
        have hnc11 := NB0_224.out
        have hcz12_0 : w5.cell? ⟨gb224, 0, none⟩ = some (.int .i64 a1_0) := (blk_cell BK224.out 0).trans rfl
        have hcz12_1 : w5.cell? ⟨gb224, 1, none⟩ = some (.int .i64 a1_1) := (blk_cell BK224.out 1).trans rfl
        have hcz12_2 : w5.cell? ⟨gb224, 2, none⟩ = some (.int .i64 a1_2) := (blk_cell BK224.out 2).trans rfl
        have hcz12_3 : w5.cell? ⟨gb224, 3, none⟩ = some (.int .i64 a1_3) := (blk_cell BK224.out 3).trans rfl
        have hcz12_4 : w5.cell? ⟨gb224, 4, none⟩ = some (.int .i64 a1_4) := (blk_cell BK224.out 4).trans rfl
        have hcz12_5 : w5.cell? ⟨gb224, 5, none⟩ = some (.int .i64 a1_5) := (blk_cell BK224.out 5).trans rfl
        have hfz12_0 := blk_frozen BK224.out 0
        have hfz12_1 := blk_frozen BK224.out 1
        have hfz12_2 := blk_frozen BK224.out 2
        have hfz12_3 := blk_frozen BK224.out 3
        have hfz12_4 := blk_frozen BK224.out 4
        have hfz12_5 := blk_frozen BK224.out 5
        go_wp2_with (first | (go_at_call 14; (with_reducible refine (impl_CivilOK.calls k a1_0 a1_1 a1_2 a1_3 a1_4 a1_5 t225 _ A9.out).mono ?_); rintro e w13 ⟨rfl, hb⟩; have n0_ := Aside0.mk (IsS53.below (by repeat (first | (with_reducible first | exact HI0.out | apply IsS53.alloc | apply IsS53.drewN | apply IsS53.drew | apply IsS53.set_0 | apply IsS53.set_1 | refine IsS53.far ?_ NB0_224.out _) | exact HI0.out)) hb); have n1_ := Aside0.mk (blk_below (g := gb224) (o := .cells #[.int .i64 a1_0, .int .i64 a1_1, .int .i64 a1_2, .int .i64 a1_3, .int .i64 a1_4, .int .i64 a1_5] 28 (0, 0)) (by (with_reducible repeat (first | refine blk_drewN ?_ _ | refine blk_drew ?_ | refine blk_alloc ?_ _)); exact BK224.out) hb); have n2_ := Aside0.mk (KeepBut.trans (by repeat (first | (with_reducible first | exact HK.out | apply KeepBut.set_ | apply keep_drewN | apply keep_drew | apply keep_alloc | refine keep_far ?_ GW224.out _) | exact HK.out)) (KeepBut.of_below hb g none) (.inl rfl)); have n3_ := Aside0.mk (below_step (by repeat (first | (with_reducible first | exact HB.out | apply below_alloc | apply pw_below_drewN | apply below_drew1 | refine below_set ?_ (IsS53.ge HI0.out) | refine below_set ?_ GE224.out) | exact HB.out)) hb); clear HI0; clear BK224; clear HK; clear HB; have HI0 := n0_; have BK224 := n1_; have HK := n2_; have HB := n3_; clear n0_ n1_ n2_ n3_; (try clear hb); (try clear hb2); (try clear hk); (try clear hi)))
        go_meet
        case rel => exact ⟨_, (!t225), (by first | rfl | (simp; done) | (simp [*]; done) | (simp; rfl) | (simp; unfold wrap64; omega)), H', ⟨by first | omega | exact Nat.le_refl _⟩, ⟨by (with_reducible repeat (first | refine blk_drewN ?_ _ | refine blk_drew ?_ | refine blk_alloc ?_ _)); exact BK224.out⟩, ⟨by repeat (first | (with_reducible first | exact HI0.out | apply IsS53.alloc | apply IsS53.drewN | apply IsS53.drew | apply IsS53.set_0 | apply IsS53.set_1 | refine IsS53.far ?_ NB0_224.out _) | exact HI0.out)⟩, ⟨by repeat (first | (with_reducible first | exact HK.out | apply KeepBut.set_ | apply keep_drewN | apply keep_drew | apply keep_alloc | refine keep_far ?_ GW224.out _) | exact HK.out)⟩, ⟨by repeat (first | (with_reducible first | exact HB.out | apply below_alloc | apply pw_below_drewN | apply below_drew1 | refine below_set ?_ (IsS53.ge HI0.out) | refine below_set ?_ GE224.out) | exact HB.out)⟩⟩
      · rw [if_neg c8] at H
        have c8b0 : (s0_0.toList == ([] : List UInt8)) = false := beq_eq_false_iff_ne.mpr c8
        have c8b1 : (s0_0.toList != ([] : List UInt8)) = true := bne_iff_ne.mpr c8
        (first | rw [c8b0] | (simp only [i64_w, i32_w]; rw [c8b0]) | skip)
        have H' := Aside0.mk H
        clear H
        obtain ⟨HGz14, hgz14⟩ := HI0.out
        have hcz14_0 := cellS53_0 HGz14
        have hcz14_1 := cellS53_1 HGz14
        have hfz14_0 := blk_frozen HGz14 0
        have hfz14_1 := blk_frozen HGz14 1
        clear HGz14 hgz14
        go_wp2
        go_meet
        case rel => exact ⟨_, (true), (by first | rfl | (simp; done) | (simp [*]; done) | (simp; rfl) | (simp; unfold wrap64; omega)), H', ⟨by first | omega | exact Nat.le_refl _⟩, ⟨by (with_reducible repeat (first | refine blk_drewN ?_ _ | refine blk_drew ?_ | refine blk_alloc ?_ _)); exact BK224.out⟩, ⟨by repeat (first | (with_reducible first | exact HI0.out | apply IsS53.alloc | apply IsS53.drewN | apply IsS53.drew | apply IsS53.set_0 | apply IsS53.set_1 | refine IsS53.far ?_ NB0_224.out _) | exact HI0.out)⟩, ⟨by repeat (first | (with_reducible first | exact HK.out | apply KeepBut.set_ | apply keep_drewN | apply keep_drew | apply keep_alloc | refine keep_far ?_ GW224.out _) | exact HK.out)⟩, ⟨by repeat (first | (with_reducible first | exact HB.out | apply below_alloc | apply pw_below_drewN | apply below_drew1 | refine below_set ?_ (IsS53.ge HI0.out) | refine below_set ?_ GE224.out) | exact HB.out)⟩⟩
  case rest =>
    clear HC4
    try clear c1
    try clear p2
    try clear c4
    try clear c6
    try clear c8
    try clear c8b0
    try clear c8b1
    try clear c11
    try clear hcz10_0
    try clear hcz10_1
    try clear hcz12_0
    try clear hcz12_1
    try clear hcz12_2
    try clear hcz12_3
    try clear hcz12_4
    try clear hcz12_5
    try clear hcz14_0
    try clear hcz14_1
    try clear hcz7_0
    try clear hcz7_1
    try clear hfz10_0
    try clear hfz10_1
    try clear hfz12_0
    try clear hfz12_1
    try clear hfz12_2
    try clear hfz12_3
    try clear hfz12_4
    try clear hfz12_5
    try clear hfz14_0
    try clear hfz14_1
    try clear hfz7_0
    try clear hfz7_1
    obtain ⟨kq, x24_3, rfl, HA, HJ3, BK224, HI0, HK, HB⟩ := hcut
    cases kq with
    | zero => exact absurd HA.out (by simp [impl_dateReader_stamp.j0])
    | succ kj3 =>
      have H := HA.out
      clear HA
      simp only [impl_dateReader_stamp.j0] at H
      by_cases c15 : x24_3 = true
      · subst c15
        have H1 : (some (0, 3, s0_0, s0_1)) = some (r1, r2, r3, r4) := by rw [if_pos rfl] at H; exact H
        clear H
        have H := H1
        clear H1
        simp only [Option.some.injEq, Prod.mk.injEq] at H
        obtain ⟨rfl, rfl, rfl, rfl⟩ := H
        go_wp2
        go_ret2
        exact ⟨by first | rfl | (simp [errW_none, errW_some] <;> rfl) | (simp [*, errW_none, errW_some] <;> rfl), by repeat (first | (with_reducible first | exact HI0.out | apply IsS53.alloc | apply IsS53.drewN | apply IsS53.drew | apply IsS53.set_0 | apply IsS53.set_1 | refine IsS53.far ?_ NB0_224.out _) | exact HI0.out), by repeat (first | (with_reducible first | exact HB.out | apply below_alloc | apply pw_below_drewN | apply below_drew1 | refine below_set ?_ (IsS53.ge HI0.out) | refine below_set ?_ GE224.out) | exact HB.out), by repeat (first | (with_reducible first | exact HK.out | apply KeepBut.set_ | apply keep_drewN | apply keep_drew | apply keep_alloc | refine keep_far ?_ GW224.out _) | exact HK.out)⟩
      · replace c15 := Bool.eq_false_iff.mpr c15
        subst c15
        have H1 : ((impl_stampOf.f kj3 a1_0 a1_1 a1_2 a1_3 a1_4 a1_5).bind fun t226 => ((impl_isStamp.f (wrap64 (t226 - a2))).bind fun t227 => (if t227 = true then (some (wrap64 (t226 - a2), 0, s0_0, s0_1)) else (some (0, 4, s0_0, s0_1))))) = some (r1, r2, r3, r4) := by rw [if_neg (show ¬ (false = true) by decide)] at H; exact H
        clear H
        have H := H1
        clear H1
        replace H := Option.bind_eq_some_iff.mp H
        obtain ⟨t226, A160, H⟩ := H
        replace H : ((impl_isStamp.f (wrap64 (t226 - a2))).bind fun t227 => (if t227 = true then (some (wrap64 (t226 - a2), 0, s0_0, s0_1)) else (some (0, 4, s0_0, s0_1)))) = some (r1, r2, r3, r4) := H
        have A16 := Aside0.mk A160
        clear A160
        replace H := Option.bind_eq_some_iff.mp H
        obtain ⟨t227, A170, H⟩ := H
        replace H : (if t227 = true then (some (wrap64 (t226 - a2), 0, s0_0, s0_1)) else (some (0, 4, s0_0, s0_1))) = some (r1, r2, r3, r4) := H
        have A17 := Aside0.mk A170
        clear A170
        by_cases c18 : t227 = true
        · subst c18
          have H1 : (some (wrap64 (t226 - a2), 0, s0_0, s0_1)) = some (r1, r2, r3, r4) := by rw [if_pos rfl] at H; exact H
          clear H
          have H := H1
          clear H1
          simp only [Option.some.injEq, Prod.mk.injEq] at H
          obtain ⟨rfl, rfl, rfl, rfl⟩ := H
          have hnb19 := NB224_0.out
          have hnc19 := NB0_224.out
          have hcz20_0 : wc.cell? ⟨gb224, 0, none⟩ = some (.int .i64 a1_0) := (blk_cell BK224.out 0).trans rfl
          have hcz20_1 : wc.cell? ⟨gb224, 1, none⟩ = some (.int .i64 a1_1) := (blk_cell BK224.out 1).trans rfl
          have hcz20_2 : wc.cell? ⟨gb224, 2, none⟩ = some (.int .i64 a1_2) := (blk_cell BK224.out 2).trans rfl
          have hcz20_3 : wc.cell? ⟨gb224, 3, none⟩ = some (.int .i64 a1_3) := (blk_cell BK224.out 3).trans rfl
          have hcz20_4 : wc.cell? ⟨gb224, 4, none⟩ = some (.int .i64 a1_4) := (blk_cell BK224.out 4).trans rfl
          have hcz20_5 : wc.cell? ⟨gb224, 5, none⟩ = some (.int .i64 a1_5) := (blk_cell BK224.out 5).trans rfl
          have hfz20_0 := blk_frozen BK224.out 0
          have hfz20_1 := blk_frozen BK224.out 1
          have hfz20_2 := blk_frozen BK224.out 2
          have hfz20_3 := blk_frozen BK224.out 3
          have hfz20_4 := blk_frozen BK224.out 4
          have hfz20_5 := blk_frozen BK224.out 5
          go_wp2_with (first | ((with_reducible refine gate_callee (f := 32) rfl ?_); refine goesL_ (some 26) rfl rfl Try.func32 (by kernel_rfl) rfl #[.agg #[.int .i64 a1_0, .int .i64 a1_1, .int .i64 a1_2, .int .i64 a1_3, .int .i64 a1_4, .int .i64 a1_5]] rfl (by (try simp only [List.map_toArray, List.map_cons, List.map_nil]); first | done | rfl | (simp only [List.length_drop, List.length_take]; rfl)) ?_; (with_reducible refine (impl_stampOf.calls kj3 a1_0 a1_1 a1_2 a1_3 a1_4 a1_5 t226 _ A16.out).mono ?_); rintro e w21 ⟨rfl, hb⟩; refine ⟨_, rfl, ?_⟩; have n0_ := Aside0.mk (blk_below (g := gb224) (o := .cells #[.int .i64 a1_0, .int .i64 a1_1, .int .i64 a1_2, .int .i64 a1_3, .int .i64 a1_4, .int .i64 a1_5] 28 (0, 0)) (by (with_reducible repeat (first | refine blk_drewN ?_ _ | refine blk_drew ?_ | refine blk_alloc ?_ _)); exact BK224.out) hb); have n1_ := Aside0.mk (IsS53.below (by repeat (first | (with_reducible first | exact HI0.out | apply IsS53.alloc | apply IsS53.drewN | apply IsS53.drew | apply IsS53.set_0 | apply IsS53.set_1 | refine IsS53.far ?_ NB0_224.out _) | exact HI0.out)) hb); have n2_ := Aside0.mk (KeepBut.trans (by repeat (first | (with_reducible first | exact HK.out | apply KeepBut.set_ | apply keep_drewN | apply keep_drew | apply keep_alloc | refine keep_far ?_ GW224.out _) | exact HK.out)) (KeepBut.of_below hb g none) (.inl rfl)); have n3_ := Aside0.mk (below_step (by repeat (first | (with_reducible first | exact HB.out | apply below_alloc | apply pw_below_drewN | apply below_drew1 | refine below_set ?_ (IsS53.ge HI0.out) | refine below_set ?_ GE224.out) | exact HB.out)) hb); clear BK224; clear HI0; clear HK; clear HB; have BK224 := n0_; have HI0 := n1_; have HK := n2_; have HB := n3_; clear n0_ n1_ n2_ n3_; (try clear hb); (try clear hb2); (try clear hk); (try clear hi)) | ((with_reducible refine gate_callee (f := 26) rfl ?_); refine goesL_ (some 30) rfl rfl Try.func26 (by kernel_rfl) rfl #[.int .i64 (wrap64 (t226 - a2))] rfl (by (try simp only [List.map_toArray, List.map_cons, List.map_nil]); first | done | rfl | (simp only [List.length_drop, List.length_take]; rfl)) ?_; (with_reducible refine (impl_isStamp.calls (wrap64 (t226 - a2)) true _ A17.out).mono ?_); rintro e w' ⟨rfl, ⟨nd, rfl⟩⟩; refine ⟨_, rfl, ?_⟩))
          go_ret2
          exact ⟨by first | rfl | (simp [errW_none, errW_some] <;> rfl) | (simp [*, errW_none, errW_some] <;> rfl), by repeat (first | (with_reducible first | exact HI0.out | apply IsS53.alloc | apply IsS53.drewN | apply IsS53.drew | apply IsS53.set_0 | apply IsS53.set_1 | refine IsS53.far ?_ NB0_224.out _) | exact HI0.out), by repeat (first | (with_reducible first | exact HB.out | apply below_alloc | apply pw_below_drewN | apply below_drew1 | refine below_set ?_ (IsS53.ge HI0.out) | refine below_set ?_ GE224.out) | exact HB.out), by repeat (first | (with_reducible first | exact HK.out | apply KeepBut.set_ | apply keep_drewN | apply keep_drew | apply keep_alloc | refine keep_far ?_ GW224.out _) | exact HK.out)⟩
        · replace c18 := Bool.eq_false_iff.mpr c18
          subst c18
          have H1 : (some (0, 4, s0_0, s0_1)) = some (r1, r2, r3, r4) := by rw [if_neg (show ¬ (false = true) by decide)] at H; exact H
          clear H
          have H := H1
          clear H1
          simp only [Option.some.injEq, Prod.mk.injEq] at H
          obtain ⟨rfl, rfl, rfl, rfl⟩ := H
          have hnb22 := NB224_0.out
          have hnc22 := NB0_224.out
          have hcz23_0 : wc.cell? ⟨gb224, 0, none⟩ = some (.int .i64 a1_0) := (blk_cell BK224.out 0).trans rfl
          have hcz23_1 : wc.cell? ⟨gb224, 1, none⟩ = some (.int .i64 a1_1) := (blk_cell BK224.out 1).trans rfl
          have hcz23_2 : wc.cell? ⟨gb224, 2, none⟩ = some (.int .i64 a1_2) := (blk_cell BK224.out 2).trans rfl
          have hcz23_3 : wc.cell? ⟨gb224, 3, none⟩ = some (.int .i64 a1_3) := (blk_cell BK224.out 3).trans rfl
          have hcz23_4 : wc.cell? ⟨gb224, 4, none⟩ = some (.int .i64 a1_4) := (blk_cell BK224.out 4).trans rfl
          have hcz23_5 : wc.cell? ⟨gb224, 5, none⟩ = some (.int .i64 a1_5) := (blk_cell BK224.out 5).trans rfl
          have hfz23_0 := blk_frozen BK224.out 0
          have hfz23_1 := blk_frozen BK224.out 1
          have hfz23_2 := blk_frozen BK224.out 2
          have hfz23_3 := blk_frozen BK224.out 3
          have hfz23_4 := blk_frozen BK224.out 4
          have hfz23_5 := blk_frozen BK224.out 5
          go_wp2_with (first | ((with_reducible refine gate_callee (f := 32) rfl ?_); refine goesL_ (some 26) rfl rfl Try.func32 (by kernel_rfl) rfl #[.agg #[.int .i64 a1_0, .int .i64 a1_1, .int .i64 a1_2, .int .i64 a1_3, .int .i64 a1_4, .int .i64 a1_5]] rfl (by (try simp only [List.map_toArray, List.map_cons, List.map_nil]); first | done | rfl | (simp only [List.length_drop, List.length_take]; rfl)) ?_; (with_reducible refine (impl_stampOf.calls kj3 a1_0 a1_1 a1_2 a1_3 a1_4 a1_5 t226 _ A16.out).mono ?_); rintro e w24 ⟨rfl, hb⟩; refine ⟨_, rfl, ?_⟩; have n0_ := Aside0.mk (blk_below (g := gb224) (o := .cells #[.int .i64 a1_0, .int .i64 a1_1, .int .i64 a1_2, .int .i64 a1_3, .int .i64 a1_4, .int .i64 a1_5] 28 (0, 0)) (by (with_reducible repeat (first | refine blk_drewN ?_ _ | refine blk_drew ?_ | refine blk_alloc ?_ _)); exact BK224.out) hb); have n1_ := Aside0.mk (IsS53.below (by repeat (first | (with_reducible first | exact HI0.out | apply IsS53.alloc | apply IsS53.drewN | apply IsS53.drew | apply IsS53.set_0 | apply IsS53.set_1 | refine IsS53.far ?_ NB0_224.out _) | exact HI0.out)) hb); have n2_ := Aside0.mk (KeepBut.trans (by repeat (first | (with_reducible first | exact HK.out | apply KeepBut.set_ | apply keep_drewN | apply keep_drew | apply keep_alloc | refine keep_far ?_ GW224.out _) | exact HK.out)) (KeepBut.of_below hb g none) (.inl rfl)); have n3_ := Aside0.mk (below_step (by repeat (first | (with_reducible first | exact HB.out | apply below_alloc | apply pw_below_drewN | apply below_drew1 | refine below_set ?_ (IsS53.ge HI0.out) | refine below_set ?_ GE224.out) | exact HB.out)) hb); clear BK224; clear HI0; clear HK; clear HB; have BK224 := n0_; have HI0 := n1_; have HK := n2_; have HB := n3_; clear n0_ n1_ n2_ n3_; (try clear hb); (try clear hb2); (try clear hk); (try clear hi)) | ((with_reducible refine gate_callee (f := 26) rfl ?_); refine goesL_ (some 30) rfl rfl Try.func26 (by kernel_rfl) rfl #[.int .i64 (wrap64 (t226 - a2))] rfl (by (try simp only [List.map_toArray, List.map_cons, List.map_nil]); first | done | rfl | (simp only [List.length_drop, List.length_take]; rfl)) ?_; (with_reducible refine (impl_isStamp.calls (wrap64 (t226 - a2)) false _ A17.out).mono ?_); rintro e w' ⟨rfl, ⟨nd, rfl⟩⟩; refine ⟨_, rfl, ?_⟩))
          go_ret2
          exact ⟨by first | rfl | (simp [errW_none, errW_some] <;> rfl) | (simp [*, errW_none, errW_some] <;> rfl), by repeat (first | (with_reducible first | exact HI0.out | apply IsS53.alloc | apply IsS53.drewN | apply IsS53.drew | apply IsS53.set_0 | apply IsS53.set_1 | refine IsS53.far ?_ NB0_224.out _) | exact HI0.out), by repeat (first | (with_reducible first | exact HB.out | apply below_alloc | apply pw_below_drewN | apply below_drew1 | refine below_set ?_ (IsS53.ge HI0.out) | refine below_set ?_ GE224.out) | exact HB.out), by repeat (first | (with_reducible first | exact HK.out | apply KeepBut.set_ | apply keep_drewN | apply keep_drew | apply keep_alloc | refine keep_far ?_ GW224.out _) | exact HK.out)⟩

/-! ### impl_weekdays: function 51 -/
def impl_weekdays.f  : Option (List ByteArray) := some (([(⟨#[83, 117, 110]⟩ : ByteArray), (⟨#[77, 111, 110]⟩ : ByteArray), (⟨#[84, 117, 101]⟩ : ByteArray), (⟨#[87, 101, 100]⟩ : ByteArray), (⟨#[84, 104, 117]⟩ : ByteArray), (⟨#[70, 114, 105]⟩ : ByteArray), (⟨#[83, 97, 116]⟩ : ByteArray)] : List ByteArray))
set_option maxHeartbeats 8000000 in
set_option maxRecDepth 100000 in
theorem impl_weekdays.calls  (r : List ByteArray) (w : World) (h : impl_weekdays.f  = some r) :
    Calls Try.prog 51 #[] w fun e w' => ∃ v0_ : Value, e = .returned (v0_) ∧ Kd.R Kd.string 9 w' w.heap.size (fun _ => True) v0_ r ∧ Below w.heap.size w w' := by
  have HB := Aside0.mk (Below.refl w.heap.size w)
  have H : (some (([(⟨#[83, 117, 110]⟩ : ByteArray), (⟨#[77, 111, 110]⟩ : ByteArray), (⟨#[84, 117, 101]⟩ : ByteArray), (⟨#[87, 101, 100]⟩ : ByteArray), (⟨#[84, 104, 117]⟩ : ByteArray), (⟨#[70, 114, 105]⟩ : ByteArray), (⟨#[83, 97, 116]⟩ : ByteArray)] : List ByteArray))) = some r := h
  clear h
  obtain ⟨y228, hy228⟩ : ∃ y_ : List ByteArray, y_ = (([(⟨#[83, 117, 110]⟩ : ByteArray), (⟨#[77, 111, 110]⟩ : ByteArray), (⟨#[84, 117, 101]⟩ : ByteArray), (⟨#[87, 101, 100]⟩ : ByteArray), (⟨#[84, 104, 117]⟩ : ByteArray), (⟨#[70, 114, 105]⟩ : ByteArray), (⟨#[83, 97, 116]⟩ : ByteArray)] : List ByteArray)) := ⟨_, rfl⟩
  replace H : (some y228) = some r := by first | (rw [hy228]; with_reducible exact H) | (have H2_ := (Option.bind_some _ _).symm.trans H; rw [hy228]; with_reducible exact H2_) | (have H2_ := (Option.bind_some _ _).symm.trans H; with_reducible exact H2_) | with_reducible exact H | (rw [hy228]; exact H) | exact H
  have Ny228 := Aside0.mk hy228
  clear hy228
  obtain rfl := Option.some.inj H
  go_enter Try.func51, Try.ntmps51
  go_wp2_with (first | ((with_reducible refine gate_dst (N := 1) rfl ?_); refine Kd.R_lit Kd.string _ 9 ?hg (N := 1) ?hd (xs := ([(⟨#[83, 117, 110]⟩ : ByteArray), (⟨#[77, 111, 110]⟩ : ByteArray), (⟨#[84, 117, 101]⟩ : ByteArray), (⟨#[87, 101, 100]⟩ : ByteArray), (⟨#[84, 104, 117]⟩ : ByteArray), (⟨#[70, 114, 105]⟩ : ByteArray), (⟨#[83, 97, 116]⟩ : ByteArray)] : List ByteArray)) (inner := [.string (⟨#[83, 117, 110]⟩ : ByteArray), .string (⟨#[77, 111, 110]⟩ : ByteArray), .string (⟨#[84, 117, 101]⟩ : ByteArray), .string (⟨#[87, 101, 100]⟩ : ByteArray), .string (⟨#[84, 104, 117]⟩ : ByteArray), .string (⟨#[70, 114, 105]⟩ : ByteArray), .string (⟨#[83, 97, 116]⟩ : ByteArray)]) (ok := fun _ => True) (okp := fun _ => True) ?hr ?hp (fun _ hk => hk) trivial (Below.refl _ _) (Nat.le_refl _) (by simp) ?_; (case hd => rfl); (case hg => rfl); (case hr => first | (go_simp; done) | (go_simp; rfl)); (case hp => exact (Reps.one (show Kd.M Kd.string _ _ _ (⟨#[83, 117, 110]⟩ : ByteArray) [.string (⟨#[83, 117, 110]⟩ : ByteArray)] from rfl) (Reps.one (show Kd.M Kd.string _ _ _ (⟨#[77, 111, 110]⟩ : ByteArray) [.string (⟨#[77, 111, 110]⟩ : ByteArray)] from rfl) (Reps.one (show Kd.M Kd.string _ _ _ (⟨#[84, 117, 101]⟩ : ByteArray) [.string (⟨#[84, 117, 101]⟩ : ByteArray)] from rfl) (Reps.one (show Kd.M Kd.string _ _ _ (⟨#[87, 101, 100]⟩ : ByteArray) [.string (⟨#[87, 101, 100]⟩ : ByteArray)] from rfl) (Reps.one (show Kd.M Kd.string _ _ _ (⟨#[84, 104, 117]⟩ : ByteArray) [.string (⟨#[84, 104, 117]⟩ : ByteArray)] from rfl) (Reps.one (show Kd.M Kd.string _ _ _ (⟨#[70, 114, 105]⟩ : ByteArray) [.string (⟨#[70, 114, 105]⟩ : ByteArray)] from rfl) (Reps.one (show Kd.M Kd.string _ _ _ (⟨#[83, 97, 116]⟩ : ByteArray) [.string (⟨#[83, 97, 116]⟩ : ByteArray)] from rfl) (Reps.none _ _))))))))); intro v229 w1 ho2 hb hg_ hnew_; clear hg_ hnew_; (first | rw [← Ny228.out] at ho2 | (simp only [Int.reduceToNat] at ho2; rw [← Ny228.out] at ho2)); have n0_ := Aside0.mk (Kd.R_lower ho2 (below_size (by repeat (first | (with_reducible first | exact HB.out | apply below_alloc | apply pw_below_drewN | apply below_drew1) | exact HB.out)))); have n1_ := Aside0.mk (below_step (by repeat (first | (with_reducible first | exact HB.out | apply below_alloc | apply pw_below_drewN | apply below_drew1) | exact HB.out)) hb); clear HB; have HO230 := n0_; have HB := n1_; clear n0_ n1_; clear hb ho2))
  go_ret
  exact ⟨_, by first | rfl | (simp [errW_none, errW_some] <;> rfl) | (simp [*, errW_none, errW_some] <;> rfl), by (with_reducible repeat (first | apply Kd.R_alloc | apply Kd.R_drewN | apply Kd.R_drew)); exact HO230.out, by repeat (first | (with_reducible first | exact HB.out | apply below_alloc | apply pw_below_drewN | apply below_drew1) | exact HB.out)⟩

/-! ### impl_months: function 52 -/
def impl_months.f  : Option (List ByteArray) := some (([(⟨#[74, 97, 110]⟩ : ByteArray), (⟨#[70, 101, 98]⟩ : ByteArray), (⟨#[77, 97, 114]⟩ : ByteArray), (⟨#[65, 112, 114]⟩ : ByteArray), (⟨#[77, 97, 121]⟩ : ByteArray), (⟨#[74, 117, 110]⟩ : ByteArray), (⟨#[74, 117, 108]⟩ : ByteArray), (⟨#[65, 117, 103]⟩ : ByteArray), (⟨#[83, 101, 112]⟩ : ByteArray), (⟨#[79, 99, 116]⟩ : ByteArray), (⟨#[78, 111, 118]⟩ : ByteArray), (⟨#[68, 101, 99]⟩ : ByteArray)] : List ByteArray))
set_option maxHeartbeats 8000000 in
set_option maxRecDepth 100000 in
theorem impl_months.calls  (r : List ByteArray) (w : World) (h : impl_months.f  = some r) :
    Calls Try.prog 52 #[] w fun e w' => ∃ v0_ : Value, e = .returned (v0_) ∧ Kd.R Kd.string 9 w' w.heap.size (fun _ => True) v0_ r ∧ Below w.heap.size w w' := by
  have HB := Aside0.mk (Below.refl w.heap.size w)
  have H : (some (([(⟨#[74, 97, 110]⟩ : ByteArray), (⟨#[70, 101, 98]⟩ : ByteArray), (⟨#[77, 97, 114]⟩ : ByteArray), (⟨#[65, 112, 114]⟩ : ByteArray), (⟨#[77, 97, 121]⟩ : ByteArray), (⟨#[74, 117, 110]⟩ : ByteArray), (⟨#[74, 117, 108]⟩ : ByteArray), (⟨#[65, 117, 103]⟩ : ByteArray), (⟨#[83, 101, 112]⟩ : ByteArray), (⟨#[79, 99, 116]⟩ : ByteArray), (⟨#[78, 111, 118]⟩ : ByteArray), (⟨#[68, 101, 99]⟩ : ByteArray)] : List ByteArray))) = some r := h
  clear h
  obtain ⟨y231, hy231⟩ : ∃ y_ : List ByteArray, y_ = (([(⟨#[74, 97, 110]⟩ : ByteArray), (⟨#[70, 101, 98]⟩ : ByteArray), (⟨#[77, 97, 114]⟩ : ByteArray), (⟨#[65, 112, 114]⟩ : ByteArray), (⟨#[77, 97, 121]⟩ : ByteArray), (⟨#[74, 117, 110]⟩ : ByteArray), (⟨#[74, 117, 108]⟩ : ByteArray), (⟨#[65, 117, 103]⟩ : ByteArray), (⟨#[83, 101, 112]⟩ : ByteArray), (⟨#[79, 99, 116]⟩ : ByteArray), (⟨#[78, 111, 118]⟩ : ByteArray), (⟨#[68, 101, 99]⟩ : ByteArray)] : List ByteArray)) := ⟨_, rfl⟩
  replace H : (some y231) = some r := by first | (rw [hy231]; with_reducible exact H) | (have H2_ := (Option.bind_some _ _).symm.trans H; rw [hy231]; with_reducible exact H2_) | (have H2_ := (Option.bind_some _ _).symm.trans H; with_reducible exact H2_) | with_reducible exact H | (rw [hy231]; exact H) | exact H
  have Ny231 := Aside0.mk hy231
  clear hy231
  obtain rfl := Option.some.inj H
  go_enter Try.func52, Try.ntmps52
  go_wp2_with (first | ((with_reducible refine gate_dst (N := 1) rfl ?_); refine Kd.R_lit Kd.string _ 9 ?hg (N := 1) ?hd (xs := ([(⟨#[74, 97, 110]⟩ : ByteArray), (⟨#[70, 101, 98]⟩ : ByteArray), (⟨#[77, 97, 114]⟩ : ByteArray), (⟨#[65, 112, 114]⟩ : ByteArray), (⟨#[77, 97, 121]⟩ : ByteArray), (⟨#[74, 117, 110]⟩ : ByteArray), (⟨#[74, 117, 108]⟩ : ByteArray), (⟨#[65, 117, 103]⟩ : ByteArray), (⟨#[83, 101, 112]⟩ : ByteArray), (⟨#[79, 99, 116]⟩ : ByteArray), (⟨#[78, 111, 118]⟩ : ByteArray), (⟨#[68, 101, 99]⟩ : ByteArray)] : List ByteArray)) (inner := [.string (⟨#[74, 97, 110]⟩ : ByteArray), .string (⟨#[70, 101, 98]⟩ : ByteArray), .string (⟨#[77, 97, 114]⟩ : ByteArray), .string (⟨#[65, 112, 114]⟩ : ByteArray), .string (⟨#[77, 97, 121]⟩ : ByteArray), .string (⟨#[74, 117, 110]⟩ : ByteArray), .string (⟨#[74, 117, 108]⟩ : ByteArray), .string (⟨#[65, 117, 103]⟩ : ByteArray), .string (⟨#[83, 101, 112]⟩ : ByteArray), .string (⟨#[79, 99, 116]⟩ : ByteArray), .string (⟨#[78, 111, 118]⟩ : ByteArray), .string (⟨#[68, 101, 99]⟩ : ByteArray)]) (ok := fun _ => True) (okp := fun _ => True) ?hr ?hp (fun _ hk => hk) trivial (Below.refl _ _) (Nat.le_refl _) (by simp) ?_; (case hd => rfl); (case hg => rfl); (case hr => first | (go_simp; done) | (go_simp; rfl)); (case hp => exact (Reps.one (show Kd.M Kd.string _ _ _ (⟨#[74, 97, 110]⟩ : ByteArray) [.string (⟨#[74, 97, 110]⟩ : ByteArray)] from rfl) (Reps.one (show Kd.M Kd.string _ _ _ (⟨#[70, 101, 98]⟩ : ByteArray) [.string (⟨#[70, 101, 98]⟩ : ByteArray)] from rfl) (Reps.one (show Kd.M Kd.string _ _ _ (⟨#[77, 97, 114]⟩ : ByteArray) [.string (⟨#[77, 97, 114]⟩ : ByteArray)] from rfl) (Reps.one (show Kd.M Kd.string _ _ _ (⟨#[65, 112, 114]⟩ : ByteArray) [.string (⟨#[65, 112, 114]⟩ : ByteArray)] from rfl) (Reps.one (show Kd.M Kd.string _ _ _ (⟨#[77, 97, 121]⟩ : ByteArray) [.string (⟨#[77, 97, 121]⟩ : ByteArray)] from rfl) (Reps.one (show Kd.M Kd.string _ _ _ (⟨#[74, 117, 110]⟩ : ByteArray) [.string (⟨#[74, 117, 110]⟩ : ByteArray)] from rfl) (Reps.one (show Kd.M Kd.string _ _ _ (⟨#[74, 117, 108]⟩ : ByteArray) [.string (⟨#[74, 117, 108]⟩ : ByteArray)] from rfl) (Reps.one (show Kd.M Kd.string _ _ _ (⟨#[65, 117, 103]⟩ : ByteArray) [.string (⟨#[65, 117, 103]⟩ : ByteArray)] from rfl) (Reps.one (show Kd.M Kd.string _ _ _ (⟨#[83, 101, 112]⟩ : ByteArray) [.string (⟨#[83, 101, 112]⟩ : ByteArray)] from rfl) (Reps.one (show Kd.M Kd.string _ _ _ (⟨#[79, 99, 116]⟩ : ByteArray) [.string (⟨#[79, 99, 116]⟩ : ByteArray)] from rfl) (Reps.one (show Kd.M Kd.string _ _ _ (⟨#[78, 111, 118]⟩ : ByteArray) [.string (⟨#[78, 111, 118]⟩ : ByteArray)] from rfl) (Reps.one (show Kd.M Kd.string _ _ _ (⟨#[68, 101, 99]⟩ : ByteArray) [.string (⟨#[68, 101, 99]⟩ : ByteArray)] from rfl) (Reps.none _ _)))))))))))))); intro v232 w1 ho2 hb hg_ hnew_; clear hg_ hnew_; (first | rw [← Ny231.out] at ho2 | (simp only [Int.reduceToNat] at ho2; rw [← Ny231.out] at ho2)); have n0_ := Aside0.mk (Kd.R_lower ho2 (below_size (by repeat (first | (with_reducible first | exact HB.out | apply below_alloc | apply pw_below_drewN | apply below_drew1) | exact HB.out)))); have n1_ := Aside0.mk (below_step (by repeat (first | (with_reducible first | exact HB.out | apply below_alloc | apply pw_below_drewN | apply below_drew1) | exact HB.out)) hb); clear HB; have HO233 := n0_; have HB := n1_; clear n0_ n1_; clear hb ho2))
  go_ret
  exact ⟨_, by first | rfl | (simp [errW_none, errW_some] <;> rfl) | (simp [*, errW_none, errW_some] <;> rfl), by (with_reducible repeat (first | apply Kd.R_alloc | apply Kd.R_drewN | apply Kd.R_drew)); exact HO233.out, by repeat (first | (with_reducible first | exact HB.out | apply below_alloc | apply pw_below_drewN | apply below_drew1) | exact HB.out)⟩

/-! ### impl_ReadRfc822: function 24, a date after RFC 822 read: walked by hand -/
/-- The time of a day read. -/
def impl_ReadRfc822.clk (k : Nat) (s : ByteArray) (b : Bool) : Option (Int × Int × Int × ByteArray × Bool) :=
  (impl_dateReader_digits.f k s b 2).bind fun x1 => (impl_dateReader_need.f x1.2.1 x1.2.2 ⟨#[58]⟩).bind fun x2 => (impl_dateReader_digits.f k x2.1 x2.2 2).bind fun x3 => (impl_dateReader_need.f x3.2.1 x3.2.2 ⟨#[58]⟩).bind fun x4 => (impl_dateReader_digits.f k x4.1 x4.2 2).bind fun x5 => some (x1.1, x3.1, x5.1, x5.2.1, x5.2.2)
set_option maxHeartbeats 4000000 in
set_option maxRecDepth 100000 in
theorem impl_ReadRfc822.clock (k g gc : Nat) (s : ByteArray) (b : Bool) (y m d h i c r1 r2 r3 : Int) (s' : ByteArray) (b' : Bool) (w0 w : World) (hI : IsS53 w0 w g s b) (hC : w.heap[gc]? = some (.cells #[.int .i64 y, .int .i64 m, .int .i64 d, .int .i64 h, .int .i64 i, .int .i64 c] 28 (0, 0))) (hne : gc ≠ g) (hgc : w0.heap.size ≤ gc) (hB : Below w0.heap.size w0 w) (H : impl_ReadRfc822.clk k s b = some (r1, r2, r3, s', b')) :
    Calls Try.prog 42 #[.pointer (some ⟨g, 0, none⟩), .pointer (some ⟨gc, 0, none⟩)] w fun e w' => e = .returned (.tuple #[]) ∧ IsS53 w0 w' g s' b' ∧ w'.heap[gc]? = some (.cells #[.int .i64 y, .int .i64 m, .int .i64 d, .int .i64 r1, .int .i64 r2, .int .i64 r3] 28 (0, 0)) ∧ Below w0.heap.size w0 w' := by
  unfold impl_ReadRfc822.clk at H
  obtain ⟨⟨x1, s1, b1⟩, e1, H⟩ := Option.bind_eq_some_iff.1 H
  obtain ⟨⟨s2, b2⟩, e2, H⟩ := Option.bind_eq_some_iff.1 H
  obtain ⟨⟨x3, s3, b3⟩, e3, H⟩ := Option.bind_eq_some_iff.1 H
  obtain ⟨⟨s4, b4⟩, e4, H⟩ := Option.bind_eq_some_iff.1 H
  obtain ⟨⟨x5, s5, b5⟩, e5, H⟩ := Option.bind_eq_some_iff.1 H
  simp only [Option.some.injEq, Prod.mk.injEq] at H
  obtain ⟨rfl, rfl, rfl, rfl, rfl⟩ := H
  have A1 := Aside0.mk e1
  have A2 := Aside0.mk e2
  have A3 := Aside0.mk e3
  have A4 := Aside0.mk e4
  have A5 := Aside0.mk e5
  have HI0 := Aside0.mk hI
  have HC0 := Aside0.mk hC
  have HB0 := Aside0.mk hB
  clear e1 e2 e3 e4 e5 hI hC hB
  go_enter Try.func42, Try.ntmps42
  go_wp2_with (first | (go_at_call 40; refine (impl_dateReader_digits.calls k g s b 2 x1 s1 b1 w0 _ HI0.out HB0.out A1.out).mono ?_; rintro e w' ⟨rfl, hI, hB, hk⟩; have HCa := Aside0.mk (hk.blk HC0.out hne (by simp)); have f1 := blk_frozen HCa.out 3; have c1 := (blk_cell HCa.out 3).trans rfl; have HI1 := Aside0.mk (hI.far (p := ⟨gc, 3, none⟩) (Ne.symm hne) (.int .i64 x1)); have HB1 := Aside0.mk (below_set (j := 3) (v := .int .i64 x1) hB hgc); have HC1 := Aside0.mk (blk_put HCa.out 3 (.int .i64 x1) rfl); clear hI hB hk HI0 HB0 HC0 HCa) | (go_at_call 41; refine (impl_dateReader_need.calls g s1 b1 ⟨#[58]⟩ s2 b2 w0 _ HI1.out HB1.out A2.out).mono ?_; rintro e w' ⟨rfl, hI, hB, hk⟩; (try clear f1 c1); have HI2 := Aside0.mk hI; have HB2 := Aside0.mk hB; have HC2 := Aside0.mk (hk.blk HC1.out hne (by simp)); clear hI hB hk HI1 HB1 HC1) | (go_at_call 40; refine (impl_dateReader_digits.calls k g s2 b2 2 x3 s3 b3 w0 _ HI2.out HB2.out A3.out).mono ?_; rintro e w' ⟨rfl, hI, hB, hk⟩; have HCa := Aside0.mk (hk.blk HC2.out hne (by simp)); have f1 := blk_frozen HCa.out 4; have c1 := (blk_cell HCa.out 4).trans rfl; have HI3 := Aside0.mk (hI.far (p := ⟨gc, 4, none⟩) (Ne.symm hne) (.int .i64 x3)); have HB3 := Aside0.mk (below_set (j := 4) (v := .int .i64 x3) hB hgc); have HC3 := Aside0.mk (blk_put HCa.out 4 (.int .i64 x3) rfl); clear hI hB hk HI2 HB2 HC2 HCa) | (go_at_call 41; refine (impl_dateReader_need.calls g s3 b3 ⟨#[58]⟩ s4 b4 w0 _ HI3.out HB3.out A4.out).mono ?_; rintro e w' ⟨rfl, hI, hB, hk⟩; (try clear f1 c1); have HI4 := Aside0.mk hI; have HB4 := Aside0.mk hB; have HC4 := Aside0.mk (hk.blk HC3.out hne (by simp)); clear hI hB hk HI3 HB3 HC3) | (go_at_call 40; refine (impl_dateReader_digits.calls k g s4 b4 2 x5 s5 b5 w0 _ HI4.out HB4.out A5.out).mono ?_; rintro e w' ⟨rfl, hI, hB, hk⟩; have HCa := Aside0.mk (hk.blk HC4.out hne (by simp)); have f1 := blk_frozen HCa.out 5; have c1 := (blk_cell HCa.out 5).trans rfl; have HI5 := Aside0.mk (hI.far (p := ⟨gc, 5, none⟩) (Ne.symm hne) (.int .i64 x5)); have HB5 := Aside0.mk (below_set (j := 5) (v := .int .i64 x5) hB hgc); have HC5 := Aside0.mk (blk_put HCa.out 5 (.int .i64 x5) rfl); clear hI hB hk HI4 HB4 HC4 HCa))
  go_end0
  exact ⟨rfl, HI5.out, HC5.out, HB5.out⟩
/-- The place of the first text that is read. -/
def impl_ReadRfc822.ix : List ByteArray → Int → ByteArray → Bool → Option (Int × ByteArray × Bool)
  | [], _, s, b => some (-1, s, b)
  | t :: ts, j, s, b => (impl_dateReader_is.f s b t).bind fun x => if x.1 = true then some (j, x.2.1, x.2.2) else impl_ReadRfc822.ix ts (j + 1) x.2.1 x.2.2
set_option maxHeartbeats 4000000 in
set_option maxRecDepth 100000 in
theorem impl_ReadRfc822.index (g gr cap n : Nat) (ts : List ByteArray) (s : ByteArray) (b : Bool) (r : Int) (s' : ByteArray) (b' : Bool) (w0 w : World) (hI : IsS53 w0 w g s b) (hB : Below w0.heap.size w0 w) (hcell : ∀ (j : Nat) x, ts[j]? = some x → w.cell? ⟨gr, j, none⟩ = some (.string x)) (hne : gr ≠ g) (hn : ts.length = n) (hl : n ≤ 100) (H : impl_ReadRfc822.ix ts 0 s b = some (r, s', b')) :
    Calls Try.prog 50 #[.slice (some ⟨gr, 0, none⟩) n cap, .func (.func 43) #[.pointer (some ⟨g, 0, none⟩)] #[]] w fun e w' => e = .returned (.int .i64 r) ∧ IsS53 w0 w' g s' b' ∧ Below w0.heap.size w0 w' ∧ KeepBut w w' g none := by
  have HI0 := Aside0.mk hI
  have HB0 := Aside0.mk hB
  have HN := Aside0.mk hn
  have HCE := Aside0.mk hcell
  have HH := Aside0.mk H
  clear hI hB hn hcell H
  go_enter Try.func50, Try.ntmps50
  go_wp2
  go_loopw [8] (fun v8 wr => ∃ (k : Nat) (s1 : ByteArray) (b1 : Bool), k ≤ n ∧ v8 = .int .i64 k ∧ Aside0 (IsS53 w0 wr g s1 b1) ∧ Aside0 (Below w0.heap.size w0 wr) ∧ Aside0 (KeepBut w wr g none) ∧ Aside0 (impl_ReadRfc822.ix (ts.drop k) (k : Int) s1 b1 = some (r, s', b'))) (fun v8 _ => n - (intOf v8).toNat)
  case atStart => exact ⟨0, s, b, Nat.zero_le _, rfl, HI0, HB0, ⟨KeepBut.refl _ _ _⟩, ⟨by rw [List.drop_zero]; exact HH.out⟩⟩
  case round =>
    obtain ⟨k, s1, b1, hk, rfl, HI, HB, HK, HS⟩ := hrel
    clear HI0 HB0
    by_cases hlt : k < n
    · have hkl : k < ts.length := by rw [HN.out]; exact hlt
      have hc1 : wr.cell? ⟨gr, k, none⟩ = some (.string ts[k]) := keep_cell HK.out (HCE.out k _ (List.getElem?_eq_getElem hkl)) hne
      have HS1 := HS.out
      rw [List.drop_eq_getElem_cons hkl, impl_ReadRfc822.ix] at HS1
      obtain ⟨⟨x, s2, b2⟩, ex, H2⟩ := Option.bind_eq_some_iff.1 HS1
      have EX := Aside0.mk ex
      generalize ts[k] = t at *
      clear HS1 HS ex
      cases x with
      | true =>
        replace H2 : some ((k : Int), s2, b2) = some (r, s', b') := H2
        simp only [Option.some.injEq, Prod.mk.injEq] at H2
        obtain ⟨rfl, rfl, rfl⟩ := H2
        go_wp2_with (go_at_call 43; refine (impl_dateReader_is.calls g s1 b1 t true s2 b2 w0 _ HI.out HB.out EX.out).mono ?_; rintro e w' ⟨rfl, hI, hB, hk2⟩; have HIz := Aside0.mk hI; have HBz := Aside0.mk hB; have HKz := Aside0.mk (HK.out.trans hk2 (.inl rfl)); clear hI hB hk2)
        go_ret
        exact ⟨rfl, HIz.out, HBz.out, HKz.out⟩
      | false =>
        have HS2 : Aside0 (impl_ReadRfc822.ix (ts.drop (k + 1)) ((k : Int) + 1) s2 b2 = some (r, s', b')) := ⟨H2⟩
        clear H2
        go_wp2_with (go_at_call 43; refine (impl_dateReader_is.calls g s1 b1 t false s2 b2 w0 _ HI.out HB.out EX.out).mono ?_; rintro e w' ⟨rfl, hI, hB, hk2⟩; have HIz := Aside0.mk hI; have HBz := Aside0.mk hB; have HKz := Aside0.mk (HK.out.trans hk2 (.inl rfl)); clear hI hB hk2)
        go_roundw
        case rel => exact ⟨k + 1, s2, b2, by omega, by go_num, HIz, HBz, HKz, HS2⟩
        case measure => simp [intOf]; omega
    · have hkn : k = n := by omega
      subst hkn
      have e := HS.out
      rw [List.drop_eq_nil_of_le (by rw [HN.out]; exact Nat.le_refl _)] at e
      replace e : some ((-1 : Int), s1, b1) = some (r, s', b') := e
      simp only [Option.some.injEq, Prod.mk.injEq] at e
      obtain ⟨rfl, rfl, rfl⟩ := e
      clear HS
      go_wp2
      go_ret
      exact ⟨rfl, HI.out, HB.out, HK.out⟩
/-- A new row of texts, cell by cell. -/
theorem impl_ReadRfc822.row {W : World} {base : Nat} {v : Value} {xs : List ByteArray} (h : Kd.R Kd.string 9 W base (fun _ => True) v xs) (h0 : 0 < xs.length) : ∃ gr cap, v = .slice (some ⟨gr, 0, none⟩) xs.length cap ∧ (∃ cur, W.heap[gr]? = some (.cells cur 9 (0, 0))) ∧ ∀ (j : Nat) x, xs[j]? = some x → W.cell? ⟨gr, j, none⟩ = some (.string x) := by
  obtain ⟨inner, ho⟩ := Kd.R_own h
  obtain ⟨A, c, he, _, hC⟩ := Kd.R_reads h
  rcases ho.2 with ⟨_, h1⟩ | ⟨gr, cap, cur, hv, _, hh, _⟩
  · omega
  · rw [hv] at he
    injection he with e1 e2 e3
    subst e1
    refine ⟨gr, cap, hv, ⟨cur, hh⟩, fun j x hj => ?_⟩
    obtain ⟨ad, e4, hc⟩ := hC.2.2 h0
    injection e4 with e4
    subst e4
    obtain ⟨cs, _, hk, hcell⟩ := hc j x hj
    have hk' : cs = [Value.string x] := hk
    subst hk'
    have h3 := hcell 0 (.string x) rfl
    have h4 : W.cell? ((⟨gr, 0, none⟩ : Addr).add j) = some (.string x) := by simpa [Kd.string, Kd.scalar] using h3
    have h5 : (⟨gr, 0, none⟩ : Addr).add j = ⟨gr, j, none⟩ := by
      unfold Addr.add
      by_cases h6 : j = 0
      · subst h6; rfl
      · simp [h6]
    rwa [h5] at h4
/-- The end: the stamp, the day of the week checked. -/
def impl_ReadRfc822.z4 (k : Nat) (day y m d h i c : Int) (s : ByteArray) (b : Bool) (q : Int) : Option (Int × Int) :=
  if 0 ≤ day then ((impl_CivilOK.f k y m d h i c).bind fun ok => if ok = true then ((impl_stampOf.f k y m d h i c).bind fun st => (impl_weekday.f st).bind fun wd => if wd = day then (impl_dateReader_stamp.f k s b y m d h i c q).bind fun x => some (x.1, x.2.1) else some (0, 3)) else (impl_dateReader_stamp.f k s b y m d h i c q).bind fun x => some (x.1, x.2.1)) else (impl_dateReader_stamp.f k s b y m d h i c q).bind fun x => some (x.1, x.2.1)
def impl_ReadRfc822.z3z (k : Nat) (day y m d h i c : Int) (fl : Bool) (s : ByteArray) (b : Bool) : Option (Int × Int) :=
  if fl = true then (impl_dateReader_zone.f k s b ⟨#[]⟩).bind fun z => impl_ReadRfc822.z4 k day y m d h i c z.2.1 z.2.2 z.1 else impl_ReadRfc822.z4 k day y m d h i c s b 0
def impl_ReadRfc822.z3 (k : Nat) (day y m d h i c : Int) (s : ByteArray) (b : Bool) : Option (Int × Int) :=
  (impl_dateReader_is.f s b ⟨#[71, 77, 84]⟩).bind fun p => if p.1 = true then impl_ReadRfc822.z3z k day y m d h i c false p.2.1 p.2.2 else (impl_dateReader_is.f p.2.1 p.2.2 ⟨#[85, 84]⟩).bind fun u => impl_ReadRfc822.z3z k day y m d h i c (!u.1) u.2.1 u.2.2
def impl_ReadRfc822.mns : List ByteArray := [(⟨#[74, 97, 110]⟩ : ByteArray), (⟨#[70, 101, 98]⟩ : ByteArray), (⟨#[77, 97, 114]⟩ : ByteArray), (⟨#[65, 112, 114]⟩ : ByteArray), (⟨#[77, 97, 121]⟩ : ByteArray), (⟨#[74, 117, 110]⟩ : ByteArray), (⟨#[74, 117, 108]⟩ : ByteArray), (⟨#[65, 117, 103]⟩ : ByteArray), (⟨#[83, 101, 112]⟩ : ByteArray), (⟨#[79, 99, 116]⟩ : ByteArray), (⟨#[78, 111, 118]⟩ : ByteArray), (⟨#[68, 101, 99]⟩ : ByteArray)]
def impl_ReadRfc822.wds : List ByteArray := [(⟨#[83, 117, 110]⟩ : ByteArray), (⟨#[77, 111, 110]⟩ : ByteArray), (⟨#[84, 117, 101]⟩ : ByteArray), (⟨#[87, 101, 100]⟩ : ByteArray), (⟨#[84, 104, 117]⟩ : ByteArray), (⟨#[70, 114, 105]⟩ : ByteArray), (⟨#[83, 97, 116]⟩ : ByteArray)]
def impl_ReadRfc822.z2 (k : Nat) (day d : Int) (s : ByteArray) (b : Bool) : Option (Int × Int) :=
  (impl_dateReader_need.f s b ⟨#[32]⟩).bind fun n1 => (impl_ReadRfc822.ix impl_ReadRfc822.mns 0 n1.1 n1.2).bind fun m => if m.1 ≤ 100 ∧ -1 ≤ m.1 then (impl_dateReader_need.f m.2.1 m.2.2 ⟨#[32]⟩).bind fun n2 => (impl_dateReader_digits.f k n2.1 n2.2 4).bind fun y => (impl_dateReader_need.f y.2.1 y.2.2 ⟨#[32]⟩).bind fun n3 => (impl_ReadRfc822.clk k n3.1 n3.2).bind fun c => (impl_dateReader_need.f c.2.2.2.1 c.2.2.2.2 ⟨#[32]⟩).bind fun n4 => impl_ReadRfc822.z3 k day y.1 (m.1 + 1) d c.1 c.2.1 c.2.2.1 n4.1 n4.2 else none
def impl_ReadRfc822.z1 (k : Nat) (day : Int) (s : ByteArray) (b : Bool) : Option (Int × Int) :=
  (impl_dateReader_digitsHere.f k s b).bind fun n => if n.1 = 1 then (impl_dateReader_digits.f k n.2.1 n.2.2 1).bind fun d => impl_ReadRfc822.z2 k day d.1 d.2.1 d.2.2 else (impl_dateReader_digits.f k n.2.1 n.2.2 2).bind fun d => impl_ReadRfc822.z2 k day d.1 d.2.1 d.2.2
def impl_ReadRfc822.fk (k : Nat) (a0 : ByteArray) : Option (Int × Int) := if (a0.size : Int) > 65536 then some (0, 2) else
  (impl_ReadRfc822.ix impl_ReadRfc822.wds 0 a0 false).bind fun x => if 0 ≤ x.1 then (impl_dateReader_need.f x.2.1 x.2.2 ⟨#[44, 32]⟩).bind fun n => impl_ReadRfc822.z1 k x.1 n.1 n.2 else impl_ReadRfc822.z1 k x.1 x.2.1 x.2.2
open Classical in
noncomputable def impl_ReadRfc822.f (a0 : ByteArray) : Option (Int × Int) := if h : ∃ r, Ev (fun k => impl_ReadRfc822.fk k a0) r then some h.choose else none
theorem impl_ReadRfc822.of_f {a0 : ByteArray} {r : Int × Int} (h : impl_ReadRfc822.f a0 = some r) : ∃ k, impl_ReadRfc822.fk k a0 = some r := by
  unfold impl_ReadRfc822.f at h
  by_cases hx : ∃ r, Ev (fun k => impl_ReadRfc822.fk k a0) r
  · rw [dif_pos hx] at h
    obtain rfl := Option.some.inj h
    obtain ⟨K, hK⟩ := hx.choose_spec
    exact ⟨K, hK K (Nat.le_refl _)⟩
  · rw [dif_neg hx] at h
    cases h
theorem impl_ReadRfc822.f_of {a0 : ByteArray} {r : Int × Int} (h : Ev (fun k => impl_ReadRfc822.fk k a0) r) : impl_ReadRfc822.f a0 = some r := by
  have hx : ∃ r, Ev (fun k => impl_ReadRfc822.fk k a0) r := ⟨r, h⟩
  unfold impl_ReadRfc822.f
  rw [dif_pos hx]
  obtain ⟨K1, h1⟩ := hx.choose_spec
  obtain ⟨K2, h2⟩ := h
  rw [← h1 (max K1 K2) (Nat.le_max_left _ _), ← h2 (max K1 K2) (Nat.le_max_right _ _)]
set_option maxHeartbeats 16000000 in
set_option maxRecDepth 100000 in
theorem impl_ReadRfc822.calls (a0 : ByteArray) (r1 r2 : Int) (w : World) (h : impl_ReadRfc822.f a0 = some (r1, r2)) :
    Calls Try.prog 24 #[.string a0] w fun e w' => e = .returned (.tuple #[.int .i64 r1, .int .i64 r2]) ∧ Below w.heap.size w w' := by
  obtain ⟨k, H⟩ := impl_ReadRfc822.of_f h
  clear h
  unfold impl_ReadRfc822.fk at H
  by_cases c2 : (a0.size : Int) > 65536
  · rw [if_pos c2] at H
    have c2b0 : decide (65536 < (a0.size : Int)) = true := decide_eq_true c2
    simp only [Option.some.injEq, Prod.mk.injEq] at H
    obtain ⟨rfl, rfl⟩ := H
    go_enter Try.func24, Try.ntmps24
    go_wp2
    go_ret2
    exact ⟨rfl, Below.refl _ _⟩
  · rw [if_neg c2] at H
    have c2b0 : decide (65536 < (a0.size : Int)) = false := decide_eq_false c2
    obtain ⟨⟨day, s1, b1⟩, e1, H⟩ := Option.bind_eq_some_iff.1 H
    have A1 := Aside0.mk e1
    have HZ := Aside0.mk H
    clear e1 c2 H
    have hne : w.heap.size + 1 ≠ w.heap.size := by omega
    have hgc : w.heap.size ≤ w.heap.size + 1 := by omega
    have HI0 : Aside0 (IsS53 w ((w.alloc (.cells #[.string a0, .bool false] 53)).alloc (.cells #[.int .i64 0, .int .i64 0, .int .i64 0, .int .i64 0, .int .i64 0, .int .i64 0] 28)) w.heap.size a0 false) := ⟨(IsS53.new w w a0 false (Below.refl _ _)).alloc _⟩
    have HC0 : Aside0 (((w.alloc (.cells #[.string a0, .bool false] 53)).alloc (.cells #[.int .i64 0, .int .i64 0, .int .i64 0, .int .i64 0, .int .i64 0, .int .i64 0] 28)).heap[w.heap.size + 1]? = some (.cells #[.int .i64 0, .int .i64 0, .int .i64 0, .int .i64 0, .int .i64 0, .int .i64 0] 28 (0, 0))) := ⟨by
      have e_ := blk_new (w.alloc (.cells #[.string a0, .bool false] 53)) (.cells #[.int .i64 0, .int .i64 0, .int .i64 0, .int .i64 0, .int .i64 0, .int .i64 0] 28)
      rwa [show (w.alloc (.cells #[.string a0, .bool false] 53)).heap.size = w.heap.size + 1 by show (w.heap.push _).size = _; rw [Array.size_push]] at e_⟩
    have HB0 : Aside0 (Below w.heap.size w ((w.alloc (.cells #[.string a0, .bool false] 53)).alloc (.cells #[.int .i64 0, .int .i64 0, .int .i64 0, .int .i64 0, .int .i64 0, .int .i64 0] 28))) := ⟨below_alloc (below_alloc (Below.refl _ w) _) _⟩
    go_enter Try.func24, Try.ntmps24
    go_upto_if 19 with (first | (go_at_call 51; refine (impl_weekdays.calls _ _ rfl).mono ?_; rintro e w' ⟨v0, rfl, hR, hb⟩; obtain ⟨gr, cap, rfl, ⟨cur, hcur⟩, hce⟩ := impl_ReadRfc822.row hR (by decide); have hgr : gr ≠ w.heap.size := (fun e_ => by subst e_; have h1_ := hcur; rw [(HI0.out.below hb).1] at h1_; injection h1_ with h1_; injection h1_ with _ h1_; cases h1_); have HI1 := Aside0.mk (HI0.out.below hb); have HB1 := Aside0.mk (below_step HB0.out hb); have HC1 := Aside0.mk (blk_below HC0.out hb); have HCE := Aside0.mk hce; clear hce hcur hb hR HI0 HB0 HC0) | (go_at_call 50; refine (impl_ReadRfc822.index w.heap.size gr cap 7 impl_ReadRfc822.wds a0 false day s1 b1 w _ HI1.out HB1.out HCE.out hgr rfl (by decide) A1.out).mono ?_; rintro e w' ⟨rfl, hI, hB, hk⟩; have HI2 := Aside0.mk hI; have HB2 := Aside0.mk hB; have HC2 := Aside0.mk (hk.blk HC1.out hne (by simp)); clear hI hB hk HI1 HB1 HC1 HCE))
    go_cut [20] (fun v20 wc => ∃ (s : ByteArray) (b : Bool), Aside0 (IsS53 w wc w.heap.size s b) ∧ Aside0 (Below w.heap.size w wc) ∧ Aside0 (wc.heap[w.heap.size + 1]? = some (.cells #[.int .i64 0, .int .i64 0, .int .i64 0, .int .i64 0, .int .i64 0, .int .i64 0] 28 (0, 0))) ∧ Aside0 (impl_ReadRfc822.z1 k day s b = some (r1, r2)))
    case first =>
      have H := HZ.out
      by_cases hd : 0 ≤ day
      · obtain ⟨⟨s2, b2⟩, e2, H⟩ := Option.bind_eq_some_iff.1 (show (impl_dateReader_need.f s1 b1 ⟨#[44, 32]⟩).bind (fun n => impl_ReadRfc822.z1 k day n.1 n.2) = some (r1, r2) by rw [← H]; exact (if_pos hd).symm)
        have A2 := Aside0.mk e2
        have H' := Aside0.mk H
        have hdb : decide (0 ≤ day) = true := decide_eq_true hd
        clear e2 H HZ
        (first | rw [hdb] | skip)
        go_wp2_with (first | (go_at_call 41; refine (impl_dateReader_need.calls w.heap.size s1 b1 ⟨#[44, 32]⟩ s2 b2 w _ HI2.out HB2.out A2.out).mono ?_; rintro e w' ⟨rfl, hI, hB, hk⟩; (try clear f1 c1); have HI3 := Aside0.mk hI; have HB3 := Aside0.mk hB; have HC3 := Aside0.mk (hk.blk HC2.out hne (by simp)); clear hI hB hk HI2 HB2 HC2))
        go_meet
        case rel => exact ⟨s2, b2, HI3, HB3, HC3, H'⟩
      · have H' : Aside0 (impl_ReadRfc822.z1 k day s1 b1 = some (r1, r2)) := ⟨by rw [← H]; exact (if_neg hd).symm⟩
        have hdb : decide (0 ≤ day) = false := decide_eq_false hd
        clear H HZ
        (first | rw [hdb] | skip)
        go_wp2
        go_meet
        case rel => exact ⟨s1, b1, HI2, HB2, HC2, H'⟩
    case rest =>
      clear HI2 HB2 HC2 HZ A1
      obtain ⟨s, b, HI0, HB0, HC0, HZ⟩ := hcut
      have H := HZ.out
      clear HZ
      obtain ⟨⟨n, s3, b3⟩, e3, H⟩ := Option.bind_eq_some_iff.1 H
      have A3 := Aside0.mk e3
      have HZ := Aside0.mk H
      clear e3 H
      go_upto_if 23 with (first | (go_at_call 44; refine (impl_dateReader_digitsHere.calls k w.heap.size s b n s3 b3 w _ HI0.out HB0.out A3.out).mono ?_; rintro e w' ⟨rfl, hI, hB, hk⟩; have HI1 := Aside0.mk hI; have HB1 := Aside0.mk hB; have HC1 := Aside0.mk (hk.blk HC0.out hne (by simp)); clear hI hB hk HI0 HB0 HC0))
      go_cut [24] (fun v24 wc => ∃ (d : Int) (s : ByteArray) (b : Bool), Aside0 (IsS53 w wc w.heap.size s b) ∧ Aside0 (Below w.heap.size w wc) ∧ Aside0 (wc.heap[w.heap.size + 1]? = some (.cells #[.int .i64 0, .int .i64 0, .int .i64 d, .int .i64 0, .int .i64 0, .int .i64 0] 28 (0, 0))) ∧ Aside0 (impl_ReadRfc822.z2 k day d s b = some (r1, r2)))
      case first =>
        have H := HZ.out
        by_cases hn : n = 1
        · obtain ⟨⟨d, s4, b4⟩, e4, H⟩ := Option.bind_eq_some_iff.1 (show (impl_dateReader_digits.f k s3 b3 1).bind (fun d => impl_ReadRfc822.z2 k day d.1 d.2.1 d.2.2) = some (r1, r2) by rw [← H]; exact (if_pos hn).symm)
          have A4 := Aside0.mk e4
          have H' := Aside0.mk H
          have hnb : (n == 1) = true := beq_iff_eq.2 hn
          clear e4 H HZ hn
          (first | rw [hnb] | skip)
          go_wp2_with (first | (go_at_call 40; refine (impl_dateReader_digits.calls k w.heap.size s3 b3 1 d s4 b4 w _ HI1.out HB1.out A4.out).mono ?_; rintro e w' ⟨rfl, hI, hB, hk⟩; have HCa := Aside0.mk (hk.blk HC1.out hne (by simp)); have f1 := blk_frozen HCa.out 2; have c1 := (blk_cell HCa.out 2).trans rfl; have HI2 := Aside0.mk (hI.far (p := ⟨(w.heap.size + 1), 2, none⟩) (Ne.symm hne) (.int .i64 d)); have HB2 := Aside0.mk (below_set (j := 2) (v := .int .i64 d) hB hgc); have HC2 := Aside0.mk (blk_put HCa.out 2 (.int .i64 d) rfl); clear hI hB hk HI1 HB1 HC1 HCa))
          go_meet
          case rel => exact ⟨d, s4, b4, HI2, HB2, HC2, H'⟩
        · obtain ⟨⟨d, s4, b4⟩, e4, H⟩ := Option.bind_eq_some_iff.1 (show (impl_dateReader_digits.f k s3 b3 2).bind (fun d => impl_ReadRfc822.z2 k day d.1 d.2.1 d.2.2) = some (r1, r2) by rw [← H]; exact (if_neg hn).symm)
          have A4 := Aside0.mk e4
          have H' := Aside0.mk H
          have hnb : (n == 1) = false := beq_eq_false_iff_ne.2 hn
          clear e4 H HZ hn
          (first | rw [hnb] | skip)
          go_wp2_with (first | (go_at_call 40; refine (impl_dateReader_digits.calls k w.heap.size s3 b3 2 d s4 b4 w _ HI1.out HB1.out A4.out).mono ?_; rintro e w' ⟨rfl, hI, hB, hk⟩; have HCa := Aside0.mk (hk.blk HC1.out hne (by simp)); have f1 := blk_frozen HCa.out 2; have c1 := (blk_cell HCa.out 2).trans rfl; have HI2 := Aside0.mk (hI.far (p := ⟨(w.heap.size + 1), 2, none⟩) (Ne.symm hne) (.int .i64 d)); have HB2 := Aside0.mk (below_set (j := 2) (v := .int .i64 d) hB hgc); have HC2 := Aside0.mk (blk_put HCa.out 2 (.int .i64 d) rfl); clear hI hB hk HI1 HB1 HC1 HCa))
          go_meet
          case rel => exact ⟨d, s4, b4, HI2, HB2, HC2, H'⟩
      case rest =>
        clear HI1 HB1 HC1 HZ A3
        obtain ⟨d, s, b, HI0, HB0, HC0, HZ⟩ := hcut
        have H := HZ.out
        clear HZ
        obtain ⟨⟨s1, b1⟩, e1, H⟩ := Option.bind_eq_some_iff.1 H
        obtain ⟨⟨m, s2, b2⟩, e2, H⟩ := Option.bind_eq_some_iff.1 H
        by_cases hm : m ≤ 100 ∧ -1 ≤ m
        rotate_left
        · have e_ : (none : Option (Int × Int)) = some (r1, r2) := by rw [← H]; exact (if_neg hm).symm
          cases e_
        replace H := (if_pos (α := Option (Int × Int)) hm).symm.trans H
        obtain ⟨hm1, hm2⟩ := hm
        obtain ⟨⟨s3, b3⟩, e3, H⟩ := Option.bind_eq_some_iff.1 H
        obtain ⟨⟨y, s4, b4⟩, e4, H⟩ := Option.bind_eq_some_iff.1 H
        obtain ⟨⟨s5, b5⟩, e5, H⟩ := Option.bind_eq_some_iff.1 H
        obtain ⟨⟨hh, mi, se, s6, b6⟩, e6, H⟩ := Option.bind_eq_some_iff.1 H
        obtain ⟨⟨s7, b7⟩, e7, H⟩ := Option.bind_eq_some_iff.1 H
        have A1 := Aside0.mk e1
        have A2 := Aside0.mk e2
        have A3 := Aside0.mk e3
        have A4 := Aside0.mk e4
        have A5 := Aside0.mk e5
        have A6 := Aside0.mk e6
        have A7 := Aside0.mk e7
        have HZ := Aside0.mk H
        clear e1 e2 e3 e4 e5 e6 e7 H
        go_upto_region 19 with (first | (go_at_call 41; refine (impl_dateReader_need.calls w.heap.size s b ⟨#[32]⟩ s1 b1 w _ HI0.out HB0.out A1.out).mono ?_; rintro e w' ⟨rfl, hI, hB, hk⟩; (try clear f1 c1); have HI1 := Aside0.mk hI; have HB1 := Aside0.mk hB; have HC1 := Aside0.mk (hk.blk HC0.out hne (by simp)); clear hI hB hk HI0 HB0 HC0) | (go_at_call 52; refine (impl_months.calls _ _ rfl).mono ?_; rintro e w' ⟨v0, rfl, hR, hb⟩; obtain ⟨gr, cap, rfl, ⟨cur, hcur⟩, hce⟩ := impl_ReadRfc822.row hR (by decide); have hgr : gr ≠ w.heap.size := (fun e_ => by subst e_; have h1_ := hcur; rw [(HI1.out.below hb).1] at h1_; injection h1_ with h1_; injection h1_ with _ h1_; cases h1_); have HI2 := Aside0.mk (HI1.out.below hb); have HB2 := Aside0.mk (below_step HB1.out hb); have HC2 := Aside0.mk (blk_below HC1.out hb); have HCE := Aside0.mk hce; clear hce hcur hb hR HI1 HB1 HC1) | (go_at_call 50; refine (impl_ReadRfc822.index w.heap.size gr cap 12 impl_ReadRfc822.mns s1 b1 m s2 b2 w _ HI2.out HB2.out HCE.out hgr rfl (by decide) A2.out).mono ?_; rintro e w' ⟨rfl, hI, hB, hk⟩; have HCa := Aside0.mk (hk.blk HC2.out hne (by simp)); have f1 := blk_frozen HCa.out 1; have c1 := (blk_cell HCa.out 1).trans rfl; have HI3 := Aside0.mk (hI.far (p := ⟨(w.heap.size + 1), 1, none⟩) (Ne.symm hne) (.int .i64 (m + 1))); have HB3 := Aside0.mk (below_set (j := 1) (v := .int .i64 (m + 1)) hB hgc); have HC3 := Aside0.mk (blk_put HCa.out 1 (.int .i64 (m + 1)) rfl); clear hI hB hk HI2 HB2 HC2 HCa HCE) | (go_at_call 41; refine (impl_dateReader_need.calls w.heap.size s2 b2 ⟨#[32]⟩ s3 b3 w _ HI3.out HB3.out A3.out).mono ?_; rintro e w' ⟨rfl, hI, hB, hk⟩; (try clear f1 c1); have HI4 := Aside0.mk hI; have HB4 := Aside0.mk hB; have HC4 := Aside0.mk (hk.blk HC3.out hne (by simp)); clear hI hB hk HI3 HB3 HC3) | (go_at_call 40; refine (impl_dateReader_digits.calls k w.heap.size s3 b3 4 y s4 b4 w _ HI4.out HB4.out A4.out).mono ?_; rintro e w' ⟨rfl, hI, hB, hk⟩; have HCa := Aside0.mk (hk.blk HC4.out hne (by simp)); have f1 := blk_frozen HCa.out 0; have c1 := (blk_cell HCa.out 0).trans rfl; have HI5 := Aside0.mk (hI.far (p := ⟨(w.heap.size + 1), 0, none⟩) (Ne.symm hne) (.int .i64 y)); have HB5 := Aside0.mk (below_set (j := 0) (v := .int .i64 y) hB hgc); have HC5 := Aside0.mk (blk_put HCa.out 0 (.int .i64 y) rfl); clear hI hB hk HI4 HB4 HC4 HCa) | (go_at_call 41; refine (impl_dateReader_need.calls w.heap.size s4 b4 ⟨#[32]⟩ s5 b5 w _ HI5.out HB5.out A5.out).mono ?_; rintro e w' ⟨rfl, hI, hB, hk⟩; (try clear f1 c1); have HI6 := Aside0.mk hI; have HB6 := Aside0.mk hB; have HC6 := Aside0.mk (hk.blk HC5.out hne (by simp)); clear hI hB hk HI5 HB5 HC5) | (go_at_call 42; refine (impl_ReadRfc822.clock k w.heap.size (w.heap.size + 1) s5 b5 y (m + 1) d 0 0 0 hh mi se s6 b6 w _ HI6.out HC6.out hne hgc HB6.out A6.out).mono ?_; rintro e w' ⟨rfl, hI, hC, hB⟩; have HI7 := Aside0.mk hI; have HB7 := Aside0.mk hB; have HC7 := Aside0.mk hC; clear hI hB hC HI6 HB6 HC6) | (go_at_call 41; refine (impl_dateReader_need.calls w.heap.size s6 b6 ⟨#[32]⟩ s7 b7 w _ HI7.out HB7.out A7.out).mono ?_; rintro e w' ⟨rfl, hI, hB, hk⟩; (try clear f1 c1); have HI8 := Aside0.mk hI; have HB8 := Aside0.mk hB; have HC8 := Aside0.mk (hk.blk HC7.out hne (by simp)); clear hI hB hk HI7 HB7 HC7))
        go_cut [45] (fun v45 wc => ∃ (fl : Bool) (s : ByteArray) (b : Bool), v45 = .bool fl ∧ Aside0 (IsS53 w wc w.heap.size s b) ∧ Aside0 (Below w.heap.size w wc) ∧ Aside0 (wc.heap[w.heap.size + 1]? = some (.cells #[.int .i64 y, .int .i64 (m + 1), .int .i64 d, .int .i64 hh, .int .i64 mi, .int .i64 se] 28 (0, 0))) ∧ Aside0 (impl_ReadRfc822.z3z k day y (m + 1) d hh mi se fl s b = some (r1, r2)))
        case first =>
          obtain ⟨⟨p, s8, b8⟩, e8, H⟩ := Option.bind_eq_some_iff.1 HZ.out
          have A8 := Aside0.mk e8
          clear e8 HZ
          cases p with
          | true =>
            have H' : Aside0 (impl_ReadRfc822.z3z k day y (m + 1) d hh mi se false s8 b8 = some (r1, r2)) := ⟨H⟩
            clear H
            go_wp2_with (first | (go_at_call 43; refine (impl_dateReader_is.calls w.heap.size s7 b7 ⟨#[71, 77, 84]⟩ true s8 b8 w _ HI8.out HB8.out A8.out).mono ?_; rintro e w' ⟨rfl, hI, hB, hk⟩; have HI9 := Aside0.mk hI; have HB9 := Aside0.mk hB; have HC9 := Aside0.mk (hk.blk HC8.out hne (by simp)); clear hI hB hk HI8 HB8 HC8))
            go_meet
            case rel => exact ⟨false, s8, b8, rfl, HI9, HB9, HC9, H'⟩
          | false =>
            obtain ⟨⟨u, s9, b9⟩, e9, H⟩ := Option.bind_eq_some_iff.1 (show (impl_dateReader_is.f s8 b8 ⟨#[85, 84]⟩).bind (fun u => impl_ReadRfc822.z3z k day y (m + 1) d hh mi se (!u.1) u.2.1 u.2.2) = some (r1, r2) from H)
            have A9 := Aside0.mk e9
            have H' : Aside0 (impl_ReadRfc822.z3z k day y (m + 1) d hh mi se (!u) s9 b9 = some (r1, r2)) := ⟨H⟩
            clear e9 H
            go_wp2_with (first | (go_at_call 43; refine (impl_dateReader_is.calls w.heap.size s7 b7 ⟨#[71, 77, 84]⟩ false s8 b8 w _ HI8.out HB8.out A8.out).mono ?_; rintro e w' ⟨rfl, hI, hB, hk⟩; have HI9 := Aside0.mk hI; have HB9 := Aside0.mk hB; have HC9 := Aside0.mk (hk.blk HC8.out hne (by simp)); clear hI hB hk HI8 HB8 HC8) | (go_at_call 43; refine (impl_dateReader_is.calls w.heap.size s8 b8 ⟨#[85, 84]⟩ u s9 b9 w _ HI9.out HB9.out A9.out).mono ?_; rintro e w' ⟨rfl, hI, hB, hk⟩; have HI10 := Aside0.mk hI; have HB10 := Aside0.mk hB; have HC10 := Aside0.mk (hk.blk HC9.out hne (by simp)); clear hI hB hk HI9 HB9 HC9))
            go_meet
            case rel => exact ⟨!u, s9, b9, by first | rfl | (simp; done) | (cases u <;> rfl), HI10, HB10, HC10, H'⟩
        case rest =>
          clear HI8 HB8 HC8 HZ A1 A2 A3 A4 A5 A6 A7
          obtain ⟨fl, s, b, rfl, HI0, HB0, HC0, HZ⟩ := hcut
          go_upto_if 45 with (fail)
          go_cut [8] (fun v8 wc => ∃ (q : Int) (s : ByteArray) (b : Bool), v8 = .int .i64 q ∧ Aside0 (IsS53 w wc w.heap.size s b) ∧ Aside0 (Below w.heap.size w wc) ∧ Aside0 (wc.heap[w.heap.size + 1]? = some (.cells #[.int .i64 y, .int .i64 (m + 1), .int .i64 d, .int .i64 hh, .int .i64 mi, .int .i64 se] 28 (0, 0))) ∧ Aside0 (impl_ReadRfc822.z4 k day y (m + 1) d hh mi se s b q = some (r1, r2)))
          case first =>
            cases fl with
            | true =>
              obtain ⟨⟨q, s2, b2⟩, e2, H⟩ := Option.bind_eq_some_iff.1 (show (impl_dateReader_zone.f k s b ⟨#[]⟩).bind (fun z => impl_ReadRfc822.z4 k day y (m + 1) d hh mi se z.2.1 z.2.2 z.1) = some (r1, r2) from HZ.out)
              have A2 := Aside0.mk e2
              have H' := Aside0.mk H
              clear e2 H HZ
              go_wp2_with (first | (go_at_call 45; refine (impl_dateReader_zone.calls k w.heap.size s b ⟨#[]⟩ q s2 b2 w _ HI0.out HB0.out A2.out).mono ?_; rintro e w' ⟨rfl, hI, hB, hk⟩; have HI1 := Aside0.mk hI; have HB1 := Aside0.mk hB; have HC1 := Aside0.mk (hk.blk HC0.out hne (by simp)); clear hI hB hk HI0 HB0 HC0))
              go_meet
              case rel => exact ⟨q, s2, b2, rfl, HI1, HB1, HC1, H'⟩
            | false =>
              have H' : Aside0 (impl_ReadRfc822.z4 k day y (m + 1) d hh mi se s b 0 = some (r1, r2)) := ⟨HZ.out⟩
              clear HZ
              go_wp2
              go_meet
              case rel => exact ⟨0, s, b, rfl, HI0, HB0, HC0, H'⟩
          case rest =>
            clear HI0 HB0 HC0 HZ
            obtain ⟨q, s, b, rfl, HI0, HB0, HC0, HZ⟩ := hcut
            have H := HZ.out
            clear HZ
            have ca0 := (blk_cell HC0.out 0).trans rfl
            have ca1 := (blk_cell HC0.out 1).trans rfl
            have ca2 := (blk_cell HC0.out 2).trans rfl
            have ca3 := (blk_cell HC0.out 3).trans rfl
            have ca4 := (blk_cell HC0.out 4).trans rfl
            have ca5 := (blk_cell HC0.out 5).trans rfl
            by_cases hd : 0 ≤ day
            · have hdb : decide (0 ≤ day) = true := decide_eq_true hd
              obtain ⟨ok, e1, H⟩ := Option.bind_eq_some_iff.1 ((if_pos (α := Option (Int × Int)) hd).symm.trans H)
              have AK := Aside0.mk e1
              clear e1
              cases ok with
              | true =>
                obtain ⟨st, e2, H⟩ := Option.bind_eq_some_iff.1 (show (impl_stampOf.f k y (m + 1) d hh mi se).bind (fun st => (impl_weekday.f st).bind fun wd => if wd = day then (impl_dateReader_stamp.f k s b y (m + 1) d hh mi se q).bind (fun x => some (x.1, x.2.1)) else some (0, 3)) = some (r1, r2) from H)
                obtain ⟨wd, e3, H⟩ := Option.bind_eq_some_iff.1 H
                have AS := Aside0.mk e2
                have AW := Aside0.mk e3
                clear e2 e3
                by_cases hw : wd = day
                · have hwb : (wd != day) = false := bne_eq_false_iff_eq.2 hw
                  replace H := (if_pos (α := Option (Int × Int)) hw).symm.trans H
                  clear hw
                  obtain ⟨⟨y1, y2, y3, y4⟩, ey, H⟩ := Option.bind_eq_some_iff.1 H
                  have AY := Aside0.mk ey
                  simp only [Option.some.injEq, Prod.mk.injEq] at H
                  obtain ⟨rfl, rfl⟩ := H
                  clear ey
                  go_wp2_with (first | (go_at_call 14; refine (impl_CivilOK.calls k y (m + 1) d hh mi se true _ AK.out).mono ?_; rintro e w' ⟨rfl, hb⟩; have HI1 := Aside0.mk (HI0.out.below hb); have HB1 := Aside0.mk (below_step HB0.out hb); have HC1 := Aside0.mk (blk_below HC0.out hb); have ca0 := (blk_cell HC1.out 0).trans rfl; have ca1 := (blk_cell HC1.out 1).trans rfl; have ca2 := (blk_cell HC1.out 2).trans rfl; have ca3 := (blk_cell HC1.out 3).trans rfl; have ca4 := (blk_cell HC1.out 4).trans rfl; have ca5 := (blk_cell HC1.out 5).trans rfl; clear hb HI0 HB0 HC0) | (go_at_call 32; refine (impl_stampOf.calls k y (m + 1) d hh mi se st _ AS.out).mono ?_; rintro e w' ⟨rfl, hb⟩; have HI2 := Aside0.mk (HI1.out.below hb); have HB2 := Aside0.mk (below_step HB1.out hb); have HC2 := Aside0.mk (blk_below HC1.out hb); have ca0 := (blk_cell HC2.out 0).trans rfl; have ca1 := (blk_cell HC2.out 1).trans rfl; have ca2 := (blk_cell HC2.out 2).trans rfl; have ca3 := (blk_cell HC2.out 3).trans rfl; have ca4 := (blk_cell HC2.out 4).trans rfl; have ca5 := (blk_cell HC2.out 5).trans rfl; clear hb HI1 HB1 HC1) | (go_at_call 27; refine (impl_weekday.calls st wd _ AW.out).mono ?_; rintro e w' ⟨rfl, ⟨nd, rfl⟩⟩; have HI3 := Aside0.mk (HI2.out.drewN nd); have HB3 := Aside0.mk (pw_below_drewN HB2.out nd); have HC3 := Aside0.mk (blk_drewN HC2.out nd); have ca0 := (blk_cell HC3.out 0).trans rfl; have ca1 := (blk_cell HC3.out 1).trans rfl; have ca2 := (blk_cell HC3.out 2).trans rfl; have ca3 := (blk_cell HC3.out 3).trans rfl; have ca4 := (blk_cell HC3.out 4).trans rfl; have ca5 := (blk_cell HC3.out 5).trans rfl; clear HI2 HB2 HC2) | (go_at_call 46; refine (impl_dateReader_stamp.calls k w.heap.size s b y (m + 1) d hh mi se q y1 y2 y3 y4 w _ HI3.out HB3.out AY.out).mono ?_; rintro e w' ⟨rfl, hI, hB, hk⟩; have HBz := Aside0.mk hB; clear hI hB hk))
                  go_ret2
                  exact ⟨rfl, HBz.out⟩
                · have hwb : (wd != day) = true := bne_iff_ne.2 hw
                  replace H := (if_neg (α := Option (Int × Int)) hw).symm.trans H
                  clear hw
                  simp only [Option.some.injEq, Prod.mk.injEq] at H
                  obtain ⟨rfl, rfl⟩ := H
                  go_wp2_with (first | (go_at_call 14; refine (impl_CivilOK.calls k y (m + 1) d hh mi se true _ AK.out).mono ?_; rintro e w' ⟨rfl, hb⟩; have HI1 := Aside0.mk (HI0.out.below hb); have HB1 := Aside0.mk (below_step HB0.out hb); have HC1 := Aside0.mk (blk_below HC0.out hb); have ca0 := (blk_cell HC1.out 0).trans rfl; have ca1 := (blk_cell HC1.out 1).trans rfl; have ca2 := (blk_cell HC1.out 2).trans rfl; have ca3 := (blk_cell HC1.out 3).trans rfl; have ca4 := (blk_cell HC1.out 4).trans rfl; have ca5 := (blk_cell HC1.out 5).trans rfl; clear hb HI0 HB0 HC0) | (go_at_call 32; refine (impl_stampOf.calls k y (m + 1) d hh mi se st _ AS.out).mono ?_; rintro e w' ⟨rfl, hb⟩; have HI2 := Aside0.mk (HI1.out.below hb); have HB2 := Aside0.mk (below_step HB1.out hb); have HC2 := Aside0.mk (blk_below HC1.out hb); have ca0 := (blk_cell HC2.out 0).trans rfl; have ca1 := (blk_cell HC2.out 1).trans rfl; have ca2 := (blk_cell HC2.out 2).trans rfl; have ca3 := (blk_cell HC2.out 3).trans rfl; have ca4 := (blk_cell HC2.out 4).trans rfl; have ca5 := (blk_cell HC2.out 5).trans rfl; clear hb HI1 HB1 HC1) | (go_at_call 27; refine (impl_weekday.calls st wd _ AW.out).mono ?_; rintro e w' ⟨rfl, ⟨nd, rfl⟩⟩; have HI3 := Aside0.mk (HI2.out.drewN nd); have HB3 := Aside0.mk (pw_below_drewN HB2.out nd); have HC3 := Aside0.mk (blk_drewN HC2.out nd); have ca0 := (blk_cell HC3.out 0).trans rfl; have ca1 := (blk_cell HC3.out 1).trans rfl; have ca2 := (blk_cell HC3.out 2).trans rfl; have ca3 := (blk_cell HC3.out 3).trans rfl; have ca4 := (blk_cell HC3.out 4).trans rfl; have ca5 := (blk_cell HC3.out 5).trans rfl; clear HI2 HB2 HC2))
                  go_ret2
                  exact ⟨rfl, HB3.out⟩
              | false =>
                replace H : (impl_dateReader_stamp.f k s b y (m + 1) d hh mi se q).bind (fun x => some (x.1, x.2.1)) = some (r1, r2) := H
                obtain ⟨⟨y1, y2, y3, y4⟩, ey, H⟩ := Option.bind_eq_some_iff.1 H
                have AY := Aside0.mk ey
                simp only [Option.some.injEq, Prod.mk.injEq] at H
                obtain ⟨rfl, rfl⟩ := H
                clear ey
                go_wp2_with (first | (go_at_call 14; refine (impl_CivilOK.calls k y (m + 1) d hh mi se false _ AK.out).mono ?_; rintro e w' ⟨rfl, hb⟩; have HI1 := Aside0.mk (HI0.out.below hb); have HB1 := Aside0.mk (below_step HB0.out hb); have HC1 := Aside0.mk (blk_below HC0.out hb); have ca0 := (blk_cell HC1.out 0).trans rfl; have ca1 := (blk_cell HC1.out 1).trans rfl; have ca2 := (blk_cell HC1.out 2).trans rfl; have ca3 := (blk_cell HC1.out 3).trans rfl; have ca4 := (blk_cell HC1.out 4).trans rfl; have ca5 := (blk_cell HC1.out 5).trans rfl; clear hb HI0 HB0 HC0) | (go_at_call 46; refine (impl_dateReader_stamp.calls k w.heap.size s b y (m + 1) d hh mi se q y1 y2 y3 y4 w _ HI1.out HB1.out AY.out).mono ?_; rintro e w' ⟨rfl, hI, hB, hk⟩; have HBz := Aside0.mk hB; clear hI hB hk))
                go_ret2
                exact ⟨rfl, HBz.out⟩
            · have hdb : decide (0 ≤ day) = false := decide_eq_false hd
              replace H := (if_neg (α := Option (Int × Int)) hd).symm.trans H
              obtain ⟨⟨y1, y2, y3, y4⟩, ey, H⟩ := Option.bind_eq_some_iff.1 H
              have AY := Aside0.mk ey
              simp only [Option.some.injEq, Prod.mk.injEq] at H
              obtain ⟨rfl, rfl⟩ := H
              clear ey
              go_wp2_with (first | (go_at_call 46; refine (impl_dateReader_stamp.calls k w.heap.size s b y (m + 1) d hh mi se q y1 y2 y3 y4 w _ HI0.out HB0.out AY.out).mono ?_; rintro e w' ⟨rfl, hI, hB, hk⟩; have HBz := Aside0.mk hB; clear hI hB hk))
              go_ret2
              exact ⟨rfl, HBz.out⟩

/-! ### laws_FnExactReadRfc822: function 9 -/
noncomputable def laws_FnExactReadRfc822.f (k : Nat) (a0 : ByteArray) : Option (Bool) := if (a0.size : Int) > 1048576 then (some true) else ((spec_ReadRfc822.f k a0).bind fun bt234 => ((impl_ReadRfc822.f a0).bind fun bt236 => (if bt236.1 = bt234.1 then (if bt236.2 = bt234.2 then (some true) else (some false)) else (some false))))
theorem laws_FnExactReadRfc822.mono : ∀ a0 k, LeO (laws_FnExactReadRfc822.f k a0) (laws_FnExactReadRfc822.f (k + 1) a0) := by
  intro a0 k
  unfold laws_FnExactReadRfc822.f
  repeat' first
      | (with_reducible exact spec_ReadRfc822.mono _ _)
      | (with_reducible exact LeO.refl _)
      | (with_reducible exact LeO.none _)
      | (with_reducible refine LeO.ite ?_ ?_)
      | (with_reducible refine LeO.bind ?_ (fun _ => ?_))
      | exact spec_ReadRfc822.mono _ _
      | exact LeO.none _
      | refine LeO.ite ?_ ?_
      | refine LeO.bind ?_ (fun _ => ?_)
set_option maxHeartbeats 8000000 in
set_option maxRecDepth 100000 in
theorem laws_FnExactReadRfc822.calls (k : Nat) (a0 : ByteArray) (r : Bool) (w : World) (h : laws_FnExactReadRfc822.f k a0 = some r) :
    Calls Try.prog 9 #[.string a0] w fun e w' => e = .returned (.bool r) ∧ Below w.heap.size w w' := by
  have HB := Aside0.mk (Below.refl w.heap.size w)
  have H : (if (a0.size : Int) > 1048576 then (some true) else ((spec_ReadRfc822.f k a0).bind fun bt234 => ((impl_ReadRfc822.f a0).bind fun bt236 => (if bt236.1 = bt234.1 then (if bt236.2 = bt234.2 then (some true) else (some false)) else (some false))))) = some r := h
  clear h
  by_cases c2 : (a0.size : Int) > 1048576
  · rw [if_pos c2] at H
    have c2b0 : decide (1048576 < (a0.size : Int)) = true := decide_eq_true c2
    have c2b1 : decide (1048576 < a0.size) = true := decide_eq_true (by omega)
    clear c2
    obtain rfl := Option.some.inj H
    go_enter Try.func9, Try.ntmps9
    go_wp2
    go_ret
    exact ⟨by first | rfl | (simp [errW_none, errW_some] <;> rfl) | (simp [*, errW_none, errW_some] <;> rfl), by repeat (first | (with_reducible first | exact HB.out | apply below_alloc | apply pw_below_drewN | apply below_drew1) | exact HB.out)⟩
  · rw [if_neg c2] at H
    have c2b0 : decide (1048576 < (a0.size : Int)) = false := decide_eq_false c2
    have c2b1 : decide (1048576 < a0.size) = false := decide_eq_false (by omega)
    clear c2
    replace H := Option.bind_eq_some_iff.mp H
    obtain ⟨⟨t234, t235⟩, A30, H⟩ := H
    replace H : ((impl_ReadRfc822.f a0).bind fun bt236 => (if bt236.1 = t234 then (if bt236.2 = t235 then (some true) else (some false)) else (some false))) = some r := H
    have A3 := Aside0.mk A30
    clear A30
    replace H := Option.bind_eq_some_iff.mp H
    obtain ⟨⟨t236, t237⟩, A40, H⟩ := H
    replace H : (if t236 = t234 then (if t237 = t235 then (some true) else (some false)) else (some false)) = some r := H
    have A4 := Aside0.mk A40
    clear A40
    by_cases c5 : t236 = t234
    · rw [if_pos c5] at H
      have c5b0 : (t236 == t234) = true := beq_iff_eq.mpr c5
      have c5b1 : (t236 != t234) = false := bne_eq_false_iff_eq.mpr c5
      clear c5
      by_cases c6 : t237 = t235
      · rw [if_pos c6] at H
        have c6b0 : (t237 == t235) = true := beq_iff_eq.mpr c6
        have c6b1 : (t237 != t235) = false := bne_eq_false_iff_eq.mpr c6
        clear c6
        obtain rfl := Option.some.inj H
        go_enter Try.func9, Try.ntmps9
        go_wp2_with (first | ((with_reducible refine gate_callee (f := 23) rfl ?_); refine goesL_ (some 12) rfl rfl Try.func23 (by kernel_rfl) rfl #[.string a0] rfl (by (try simp only [List.map_toArray, List.map_cons, List.map_nil]); first | done | rfl | (simp only [List.length_drop, List.length_take]; rfl)) ?_; (with_reducible refine (spec_ReadRfc822.calls k a0 t234 t235 _ A3.out).mono ?_); rintro e w7 ⟨rfl, hb⟩; refine ⟨_, rfl, ?_⟩; have n0_ := Aside0.mk (below_step (by repeat (first | (with_reducible first | exact HB.out | apply below_alloc | apply pw_below_drewN | apply below_drew1) | exact HB.out)) hb); clear HB; have HB := n0_; clear n0_; (try clear hb); (try clear hb2); (try clear hk); (try clear hi)) | ((with_reducible refine gate_callee (f := 24) rfl ?_); refine goesL_ (some 17) rfl rfl Try.func24 (by kernel_rfl) rfl #[.string a0] rfl (by (try simp only [List.map_toArray, List.map_cons, List.map_nil]); first | done | rfl | (simp only [List.length_drop, List.length_take]; rfl)) ?_; (with_reducible refine (impl_ReadRfc822.calls a0 t236 t237 _ A4.out).mono ?_); rintro e w8 ⟨rfl, hb⟩; refine ⟨_, rfl, ?_⟩; have n0_ := Aside0.mk (below_step (by repeat (first | (with_reducible first | exact HB.out | apply below_alloc | apply pw_below_drewN | apply below_drew1) | exact HB.out)) hb); clear HB; have HB := n0_; clear n0_; (try clear hb); (try clear hb2); (try clear hk); (try clear hi)))
        go_ret
        exact ⟨by first | rfl | (simp [errW_none, errW_some] <;> rfl) | (simp [*, errW_none, errW_some] <;> rfl), by repeat (first | (with_reducible first | exact HB.out | apply below_alloc | apply pw_below_drewN | apply below_drew1) | exact HB.out)⟩
      · rw [if_neg c6] at H
        have c6b0 : (t237 == t235) = false := beq_eq_false_iff_ne.mpr c6
        have c6b1 : (t237 != t235) = true := bne_iff_ne.mpr c6
        obtain rfl := Option.some.inj H
        go_enter Try.func9, Try.ntmps9
        go_wp2_with (first | ((with_reducible refine gate_callee (f := 23) rfl ?_); refine goesL_ (some 12) rfl rfl Try.func23 (by kernel_rfl) rfl #[.string a0] rfl (by (try simp only [List.map_toArray, List.map_cons, List.map_nil]); first | done | rfl | (simp only [List.length_drop, List.length_take]; rfl)) ?_; (with_reducible refine (spec_ReadRfc822.calls k a0 t234 t235 _ A3.out).mono ?_); rintro e w9 ⟨rfl, hb⟩; refine ⟨_, rfl, ?_⟩; have n0_ := Aside0.mk (below_step (by repeat (first | (with_reducible first | exact HB.out | apply below_alloc | apply pw_below_drewN | apply below_drew1) | exact HB.out)) hb); clear HB; have HB := n0_; clear n0_; (try clear hb); (try clear hb2); (try clear hk); (try clear hi)) | ((with_reducible refine gate_callee (f := 24) rfl ?_); refine goesL_ (some 17) rfl rfl Try.func24 (by kernel_rfl) rfl #[.string a0] rfl (by (try simp only [List.map_toArray, List.map_cons, List.map_nil]); first | done | rfl | (simp only [List.length_drop, List.length_take]; rfl)) ?_; (with_reducible refine (impl_ReadRfc822.calls a0 t236 t237 _ A4.out).mono ?_); rintro e w10 ⟨rfl, hb⟩; refine ⟨_, rfl, ?_⟩; have n0_ := Aside0.mk (below_step (by repeat (first | (with_reducible first | exact HB.out | apply below_alloc | apply pw_below_drewN | apply below_drew1) | exact HB.out)) hb); clear HB; have HB := n0_; clear n0_; (try clear hb); (try clear hb2); (try clear hk); (try clear hi)))
        go_ret
        exact ⟨by first | rfl | (simp [errW_none, errW_some] <;> rfl) | (simp [*, errW_none, errW_some] <;> rfl), by repeat (first | (with_reducible first | exact HB.out | apply below_alloc | apply pw_below_drewN | apply below_drew1) | exact HB.out)⟩
    · rw [if_neg c5] at H
      have c5b0 : (t236 == t234) = false := beq_eq_false_iff_ne.mpr c5
      have c5b1 : (t236 != t234) = true := bne_iff_ne.mpr c5
      obtain rfl := Option.some.inj H
      go_enter Try.func9, Try.ntmps9
      go_wp2_with (first | ((with_reducible refine gate_callee (f := 23) rfl ?_); refine goesL_ (some 12) rfl rfl Try.func23 (by kernel_rfl) rfl #[.string a0] rfl (by (try simp only [List.map_toArray, List.map_cons, List.map_nil]); first | done | rfl | (simp only [List.length_drop, List.length_take]; rfl)) ?_; (with_reducible refine (spec_ReadRfc822.calls k a0 t234 t235 _ A3.out).mono ?_); rintro e w11 ⟨rfl, hb⟩; refine ⟨_, rfl, ?_⟩; have n0_ := Aside0.mk (below_step (by repeat (first | (with_reducible first | exact HB.out | apply below_alloc | apply pw_below_drewN | apply below_drew1) | exact HB.out)) hb); clear HB; have HB := n0_; clear n0_; (try clear hb); (try clear hb2); (try clear hk); (try clear hi)) | ((with_reducible refine gate_callee (f := 24) rfl ?_); refine goesL_ (some 17) rfl rfl Try.func24 (by kernel_rfl) rfl #[.string a0] rfl (by (try simp only [List.map_toArray, List.map_cons, List.map_nil]); first | done | rfl | (simp only [List.length_drop, List.length_take]; rfl)) ?_; (with_reducible refine (impl_ReadRfc822.calls a0 t236 t237 _ A4.out).mono ?_); rintro e w12 ⟨rfl, hb⟩; refine ⟨_, rfl, ?_⟩; have n0_ := Aside0.mk (below_step (by repeat (first | (with_reducible first | exact HB.out | apply below_alloc | apply pw_below_drewN | apply below_drew1) | exact HB.out)) hb); clear HB; have HB := n0_; clear n0_; (try clear hb); (try clear hb2); (try clear hk); (try clear hi)))
      go_ret
      exact ⟨by first | rfl | (simp [errW_none, errW_some] <;> rfl) | (simp [*, errW_none, errW_some] <;> rfl), by repeat (first | (with_reducible first | exact HB.out | apply below_alloc | apply pw_below_drewN | apply below_drew1) | exact HB.out)⟩

/-- THE ONE PURE STATEMENT of laws_FnExactReadRfc822: yours. -/
noncomputable def laws_FnExactReadRfc822.Pure : Prop := ∀ (a0 : ByteArray), a0.size ≤ 140737488351232 → ∃ k, laws_FnExactReadRfc822.f k a0 = some true
theorem laws_FnExactReadRfc822.walk (P : laws_FnExactReadRfc822.Pure) (a0 : ByteArray) (w : World) (w0 : a0.size ≤ 140737488351232) :
    Calls Try.prog 9 #[.string a0] w fun e w' => e = .returned (.bool true) ∧ Below w.heap.size w w' := by
  obtain ⟨k, h⟩ := P a0 w0
  refine (laws_FnExactReadRfc822.calls k a0 true w h).mono ?_
  rintro e w' ⟨rfl, hd⟩
  exact ⟨rfl, hd⟩

end Go.Proofs.Ytccnidlkpinpgaa.QFnExactReadRfc822
