/- Printed by a program of this session's own (wip/myprint.py): the functions that FnDateTexts reaches as plain Lean functions, and that Go's calls do what they say. Conditions: as each theorem states. -/
import Derived.Test.YtccnidlkpinpgaaDoorQFnDateTextsx0
import Derived.Test.YtccnidlkpinpgaaDoorQFnDateTextsx4
import Derived.Test.YtccnidlkpinpgaaDoorQFnDateTextsx6
import Derived.Test.YtccnidlkpinpgaaDoorQFnDateTextsx7
namespace Go.Proofs.YtccnidlkpinpgaaDoor.QFnDateTexts
open Go.RowKit Go.Proofs.YtccnidlkpinpgaaDoorW.PrintWords Go.Proofs.YtccnidlkpinpgaaDoorW.PrintLast Go.Proofs.YtccnidlkpinpgaaDoorW.PrintMore
attribute [local go_sem] max2_int min2_int max_two min_two max_three min_three max_four min_four   -- for this text's walks alone
set_option linter.unusedVariables false
set_option linter.unusedSimpArgs false

/-! ### impl_ReadRfc3339: function 11, a date after RFC 3339 read: walked by hand -/
/-- The time of a day read. -/
def impl_ReadRfc3339.clk (k : Nat) (s : ByteArray) (b : Bool) : Option (Int × Int × Int × ByteArray × Bool) :=
  (impl_dateReader_digits.f k s b 2).bind fun x1 => (impl_dateReader_need.f x1.2.1 x1.2.2 ⟨#[58]⟩).bind fun x2 => (impl_dateReader_digits.f k x2.1 x2.2 2).bind fun x3 => (impl_dateReader_need.f x3.2.1 x3.2.2 ⟨#[58]⟩).bind fun x4 => (impl_dateReader_digits.f k x4.1 x4.2 2).bind fun x5 => some (x1.1, x3.1, x5.1, x5.2.1, x5.2.2)
set_option maxHeartbeats 4000000 in
set_option maxRecDepth 100000 in
theorem impl_ReadRfc3339.clock (k g gc : Nat) (s : ByteArray) (b : Bool) (y m d h i c r1 r2 r3 : Int) (s' : ByteArray) (b' : Bool) (w0 w : World) (hI : IsS45 w0 w g s b) (hC : w.heap[gc]? = some (.cells #[.int .i64 y, .int .i64 m, .int .i64 d, .int .i64 h, .int .i64 i, .int .i64 c] 33 (0, 0))) (hne : gc ≠ g) (hgc : w0.heap.size ≤ gc) (hB : Below w0.heap.size w0 w) (H : impl_ReadRfc3339.clk k s b = some (r1, r2, r3, s', b')) :
    Calls Tryd.prog 32 #[.pointer (some ⟨g, 0, none⟩), .pointer (some ⟨gc, 0, none⟩)] w fun e w' => e = .returned (.tuple #[]) ∧ IsS45 w0 w' g s' b' ∧ w'.heap[gc]? = some (.cells #[.int .i64 y, .int .i64 m, .int .i64 d, .int .i64 r1, .int .i64 r2, .int .i64 r3] 33 (0, 0)) ∧ Below w0.heap.size w0 w' := by
  unfold impl_ReadRfc3339.clk at H
  obtain ⟨⟨x1, s1, b1⟩, e1, H⟩ := Option.bind_eq_some_iff.1 H
  obtain ⟨⟨s2, b2⟩, e2, H⟩ := Option.bind_eq_some_iff.1 H
  obtain ⟨⟨x3, s3, b3⟩, e3, H⟩ := Option.bind_eq_some_iff.1 H
  obtain ⟨⟨s4, b4⟩, e4, H⟩ := Option.bind_eq_some_iff.1 H
  obtain ⟨⟨x5, s5, b5⟩, e5, H⟩ := Option.bind_eq_some_iff.1 H
  simp only [Option.some.injEq, Prod.mk.injEq] at H
  obtain ⟨rfl, rfl, rfl, rfl, rfl⟩ := H
  have A1 := Aside0.mk e1
  have A2 := Aside0.mk e2
  have A3 := Aside0.mk e3
  have A4 := Aside0.mk e4
  have A5 := Aside0.mk e5
  have HI0 := Aside0.mk hI
  have HC0 := Aside0.mk hC
  have HB0 := Aside0.mk hB
  clear e1 e2 e3 e4 e5 hI hC hB
  go_enter Tryd.func32, Tryd.ntmps32
  go_wp2_with (first | (go_at_call 30; refine (impl_dateReader_digits.calls k g s b 2 x1 s1 b1 w0 _ HI0.out HB0.out A1.out).mono ?_; rintro e w' ⟨rfl, hI, hB, hk⟩; have HCa := Aside0.mk (hk.blk HC0.out hne (by simp)); have f1 := blk_frozen HCa.out 3; have c1 := (blk_cell HCa.out 3).trans rfl; have HI1 := Aside0.mk (hI.far (p := ⟨gc, 3, none⟩) (Ne.symm hne) (.int .i64 x1)); have HB1 := Aside0.mk (below_set (j := 3) (v := .int .i64 x1) hB hgc); have HC1 := Aside0.mk (blk_put HCa.out 3 (.int .i64 x1) rfl); clear hI hB hk HI0 HB0 HC0 HCa) | (go_at_call 31; refine (impl_dateReader_need.calls g s1 b1 ⟨#[58]⟩ s2 b2 w0 _ HI1.out HB1.out A2.out).mono ?_; rintro e w' ⟨rfl, hI, hB, hk⟩; (try clear f1 c1); have HI2 := Aside0.mk hI; have HB2 := Aside0.mk hB; have HC2 := Aside0.mk (hk.blk HC1.out hne (by simp)); clear hI hB hk HI1 HB1 HC1) | (go_at_call 30; refine (impl_dateReader_digits.calls k g s2 b2 2 x3 s3 b3 w0 _ HI2.out HB2.out A3.out).mono ?_; rintro e w' ⟨rfl, hI, hB, hk⟩; have HCa := Aside0.mk (hk.blk HC2.out hne (by simp)); have f1 := blk_frozen HCa.out 4; have c1 := (blk_cell HCa.out 4).trans rfl; have HI3 := Aside0.mk (hI.far (p := ⟨gc, 4, none⟩) (Ne.symm hne) (.int .i64 x3)); have HB3 := Aside0.mk (below_set (j := 4) (v := .int .i64 x3) hB hgc); have HC3 := Aside0.mk (blk_put HCa.out 4 (.int .i64 x3) rfl); clear hI hB hk HI2 HB2 HC2 HCa) | (go_at_call 31; refine (impl_dateReader_need.calls g s3 b3 ⟨#[58]⟩ s4 b4 w0 _ HI3.out HB3.out A4.out).mono ?_; rintro e w' ⟨rfl, hI, hB, hk⟩; (try clear f1 c1); have HI4 := Aside0.mk hI; have HB4 := Aside0.mk hB; have HC4 := Aside0.mk (hk.blk HC3.out hne (by simp)); clear hI hB hk HI3 HB3 HC3) | (go_at_call 30; refine (impl_dateReader_digits.calls k g s4 b4 2 x5 s5 b5 w0 _ HI4.out HB4.out A5.out).mono ?_; rintro e w' ⟨rfl, hI, hB, hk⟩; have HCa := Aside0.mk (hk.blk HC4.out hne (by simp)); have f1 := blk_frozen HCa.out 5; have c1 := (blk_cell HCa.out 5).trans rfl; have HI5 := Aside0.mk (hI.far (p := ⟨gc, 5, none⟩) (Ne.symm hne) (.int .i64 x5)); have HB5 := Aside0.mk (below_set (j := 5) (v := .int .i64 x5) hB hgc); have HC5 := Aside0.mk (blk_put HCa.out 5 (.int .i64 x5) rfl); clear hI hB hk HI4 HB4 HC4 HCa))
  go_end0
  exact ⟨rfl, HI5.out, HC5.out, HB5.out⟩
/-- The end of a date: its zone, and the stamp. -/
def impl_ReadRfc3339.tl (k : Nat) (y m d h i c : Int) (s : ByteArray) (b : Bool) : Option (Int × Int) :=
  (impl_dateReader_is.f s b ⟨#[90]⟩).bind fun z => if z.1 = true then (impl_dateReader_stamp.f k z.2.1 z.2.2 y m d h i c 0).bind fun x => some (x.1, x.2.1) else (impl_dateReader_zone.f k z.2.1 z.2.2 ⟨#[58]⟩).bind fun q => (impl_dateReader_stamp.f k q.2.1 q.2.2 y m d h i c q.1).bind fun x => some (x.1, x.2.1)
/-- A date read, told by a bound on the rounds. -/
def impl_ReadRfc3339.fk (k : Nat) (a0 : ByteArray) : Option (Int × Int) := if (a0.size : Int) > 65536 then some (0, 2) else
  (impl_dateReader_digits.f k a0 false 4).bind fun y => (impl_dateReader_need.f y.2.1 y.2.2 ⟨#[45]⟩).bind fun n1 => (impl_dateReader_digits.f k n1.1 n1.2 2).bind fun m => (impl_dateReader_need.f m.2.1 m.2.2 ⟨#[45]⟩).bind fun n2 => (impl_dateReader_digits.f k n2.1 n2.2 2).bind fun d => (impl_dateReader_need.f d.2.1 d.2.2 ⟨#[84]⟩).bind fun n3 => (impl_ReadRfc3339.clk k n3.1 n3.2).bind fun c => (impl_dateReader_is.f c.2.2.2.1 c.2.2.2.2 ⟨#[46]⟩).bind fun p => if p.1 = true then (impl_dateReader_digitsHere.f k p.2.1 p.2.2).bind fun q => if 0 ≤ q.1 ∧ q.1 ≤ (q.2.1.size : Int) then impl_ReadRfc3339.tl k y.1 m.1 d.1 c.1 c.2.1 c.2.2.1 (q.2.1.extract q.1.toNat q.2.1.size) (if q.2.2 = true then true else q.1 == 0) else none else impl_ReadRfc3339.tl k y.1 m.1 d.1 c.1 c.2.1 c.2.2.1 p.2.1 p.2.2
open Classical in
noncomputable def impl_ReadRfc3339.f (a0 : ByteArray) : Option (Int × Int) := if h : ∃ r, Ev (fun k => impl_ReadRfc3339.fk k a0) r then some h.choose else none
theorem impl_ReadRfc3339.of_f {a0 : ByteArray} {r : Int × Int} (h : impl_ReadRfc3339.f a0 = some r) : ∃ k, impl_ReadRfc3339.fk k a0 = some r := by
  unfold impl_ReadRfc3339.f at h
  by_cases hx : ∃ r, Ev (fun k => impl_ReadRfc3339.fk k a0) r
  · rw [dif_pos hx] at h
    obtain rfl := Option.some.inj h
    obtain ⟨K, hK⟩ := hx.choose_spec
    exact ⟨K, hK K (Nat.le_refl _)⟩
  · rw [dif_neg hx] at h
    cases h
theorem impl_ReadRfc3339.f_of {a0 : ByteArray} {r : Int × Int} (h : Ev (fun k => impl_ReadRfc3339.fk k a0) r) : impl_ReadRfc3339.f a0 = some r := by
  have hx : ∃ r, Ev (fun k => impl_ReadRfc3339.fk k a0) r := ⟨r, h⟩
  unfold impl_ReadRfc3339.f
  rw [dif_pos hx]
  obtain ⟨K1, h1⟩ := hx.choose_spec
  obtain ⟨K2, h2⟩ := h
  rw [← h1 (max K1 K2) (Nat.le_max_left _ _), ← h2 (max K1 K2) (Nat.le_max_right _ _)]
set_option maxHeartbeats 16000000 in
set_option maxRecDepth 100000 in
theorem impl_ReadRfc3339.calls (a0 : ByteArray) (r1 r2 : Int) (w : World) (h : impl_ReadRfc3339.f a0 = some (r1, r2)) :
    Calls Tryd.prog 11 #[.string a0] w fun e w' => e = .returned (.tuple #[.int .i64 r1, .int .i64 r2]) ∧ Below w.heap.size w w' := by
  obtain ⟨k, H⟩ := impl_ReadRfc3339.of_f h
  clear h
  unfold impl_ReadRfc3339.fk at H
  by_cases c2 : (a0.size : Int) > 65536
  · rw [if_pos c2] at H
    have c2b0 : decide (65536 < (a0.size : Int)) = true := decide_eq_true c2
    simp only [Option.some.injEq, Prod.mk.injEq] at H
    obtain ⟨rfl, rfl⟩ := H
    go_enter Tryd.func11, Tryd.ntmps11
    go_wp2
    go_ret2
    exact ⟨rfl, Below.refl _ _⟩
  · rw [if_neg c2] at H
    have c2b0 : decide (65536 < (a0.size : Int)) = false := decide_eq_false c2
    obtain ⟨⟨x1, s1, b1⟩, e1, H⟩ := Option.bind_eq_some_iff.1 H
    obtain ⟨⟨s2, b2⟩, e2, H⟩ := Option.bind_eq_some_iff.1 H
    obtain ⟨⟨x3, s3, b3⟩, e3, H⟩ := Option.bind_eq_some_iff.1 H
    obtain ⟨⟨s4, b4⟩, e4, H⟩ := Option.bind_eq_some_iff.1 H
    obtain ⟨⟨x5, s5, b5⟩, e5, H⟩ := Option.bind_eq_some_iff.1 H
    obtain ⟨⟨s6, b6⟩, e6, H⟩ := Option.bind_eq_some_iff.1 H
    obtain ⟨⟨x7, x8, x9, s7, b7⟩, e7, H⟩ := Option.bind_eq_some_iff.1 H
    obtain ⟨⟨p, s8, b8⟩, e8, H⟩ := Option.bind_eq_some_iff.1 H
    have A1 := Aside0.mk e1
    have A2 := Aside0.mk e2
    have A3 := Aside0.mk e3
    have A4 := Aside0.mk e4
    have A5 := Aside0.mk e5
    have A6 := Aside0.mk e6
    have A7 := Aside0.mk e7
    have A8 := Aside0.mk e8
    clear e1 e2 e3 e4 e5 e6 e7 e8 c2
    have hne : w.heap.size + 1 ≠ w.heap.size := by omega
    have hgc : w.heap.size ≤ w.heap.size + 1 := by omega
    have HI0 : Aside0 (IsS45 w ((w.alloc (.cells #[.string a0, .bool false] 45)).alloc (.cells #[.int .i64 0, .int .i64 0, .int .i64 0, .int .i64 0, .int .i64 0, .int .i64 0] 33)) w.heap.size a0 false) := ⟨(IsS45.new w w a0 false (Below.refl _ _)).alloc _⟩
    have HC0 : Aside0 (((w.alloc (.cells #[.string a0, .bool false] 45)).alloc (.cells #[.int .i64 0, .int .i64 0, .int .i64 0, .int .i64 0, .int .i64 0, .int .i64 0] 33)).heap[w.heap.size + 1]? = some (.cells #[.int .i64 0, .int .i64 0, .int .i64 0, .int .i64 0, .int .i64 0, .int .i64 0] 33 (0, 0))) := ⟨by
      have e_ := blk_new (w.alloc (.cells #[.string a0, .bool false] 45)) (.cells #[.int .i64 0, .int .i64 0, .int .i64 0, .int .i64 0, .int .i64 0, .int .i64 0] 33)
      rwa [show (w.alloc (.cells #[.string a0, .bool false] 45)).heap.size = w.heap.size + 1 by show (w.heap.push _).size = _; rw [Array.size_push]] at e_⟩
    have HB0 : Aside0 (Below w.heap.size w ((w.alloc (.cells #[.string a0, .bool false] 45)).alloc (.cells #[.int .i64 0, .int .i64 0, .int .i64 0, .int .i64 0, .int .i64 0, .int .i64 0] 33))) := ⟨below_alloc (below_alloc (Below.refl _ w) _) _⟩
    cases p with
    | false =>
      replace H : impl_ReadRfc3339.tl k x1 x3 x5 x7 x8 x9 s8 b8 = some (r1, r2) := H
      unfold impl_ReadRfc3339.tl at H
      obtain ⟨⟨z, t1, d1⟩, ez, H⟩ := Option.bind_eq_some_iff.1 H
      have AZ := Aside0.mk ez
      clear ez
      cases z with
      | true =>
        obtain ⟨⟨y1, y2, y3, y4⟩, ey, H⟩ := Option.bind_eq_some_iff.1 (show (impl_dateReader_stamp.f k t1 d1 x1 x3 x5 x7 x8 x9 0).bind (fun x => some (x.1, x.2.1)) = some (r1, r2) from H)
        have AY := Aside0.mk ey
        clear ey
        simp only [Option.some.injEq, Prod.mk.injEq] at H
        obtain ⟨rfl, rfl⟩ := H
        go_enter Tryd.func11, Tryd.ntmps11
        go_wp2_with (first | (go_at_call 30; refine (impl_dateReader_digits.calls k w.heap.size a0 false 4 x1 s1 b1 w _ HI0.out HB0.out A1.out).mono ?_; rintro e w' ⟨rfl, hI, hB, hk⟩; have HCa := Aside0.mk (hk.blk HC0.out hne (by simp)); have f1 := blk_frozen HCa.out 0; have c1 := (blk_cell HCa.out 0).trans rfl; have HI1 := Aside0.mk (hI.far (p := ⟨(w.heap.size + 1), 0, none⟩) (Ne.symm hne) (.int .i64 x1)); have HB1 := Aside0.mk (below_set (j := 0) (v := .int .i64 x1) hB hgc); have HC1 := Aside0.mk (blk_put HCa.out 0 (.int .i64 x1) rfl); clear hI hB hk HI0 HB0 HC0 HCa) | (go_at_call 31; refine (impl_dateReader_need.calls w.heap.size s1 b1 ⟨#[45]⟩ s2 b2 w _ HI1.out HB1.out A2.out).mono ?_; rintro e w' ⟨rfl, hI, hB, hk⟩; (try clear f1 c1); have HI2 := Aside0.mk hI; have HB2 := Aside0.mk hB; have HC2 := Aside0.mk (hk.blk HC1.out hne (by simp)); clear hI hB hk HI1 HB1 HC1) | (go_at_call 30; refine (impl_dateReader_digits.calls k w.heap.size s2 b2 2 x3 s3 b3 w _ HI2.out HB2.out A3.out).mono ?_; rintro e w' ⟨rfl, hI, hB, hk⟩; have HCa := Aside0.mk (hk.blk HC2.out hne (by simp)); have f1 := blk_frozen HCa.out 1; have c1 := (blk_cell HCa.out 1).trans rfl; have HI3 := Aside0.mk (hI.far (p := ⟨(w.heap.size + 1), 1, none⟩) (Ne.symm hne) (.int .i64 x3)); have HB3 := Aside0.mk (below_set (j := 1) (v := .int .i64 x3) hB hgc); have HC3 := Aside0.mk (blk_put HCa.out 1 (.int .i64 x3) rfl); clear hI hB hk HI2 HB2 HC2 HCa) | (go_at_call 31; refine (impl_dateReader_need.calls w.heap.size s3 b3 ⟨#[45]⟩ s4 b4 w _ HI3.out HB3.out A4.out).mono ?_; rintro e w' ⟨rfl, hI, hB, hk⟩; (try clear f1 c1); have HI4 := Aside0.mk hI; have HB4 := Aside0.mk hB; have HC4 := Aside0.mk (hk.blk HC3.out hne (by simp)); clear hI hB hk HI3 HB3 HC3) | (go_at_call 30; refine (impl_dateReader_digits.calls k w.heap.size s4 b4 2 x5 s5 b5 w _ HI4.out HB4.out A5.out).mono ?_; rintro e w' ⟨rfl, hI, hB, hk⟩; have HCa := Aside0.mk (hk.blk HC4.out hne (by simp)); have f1 := blk_frozen HCa.out 2; have c1 := (blk_cell HCa.out 2).trans rfl; have HI5 := Aside0.mk (hI.far (p := ⟨(w.heap.size + 1), 2, none⟩) (Ne.symm hne) (.int .i64 x5)); have HB5 := Aside0.mk (below_set (j := 2) (v := .int .i64 x5) hB hgc); have HC5 := Aside0.mk (blk_put HCa.out 2 (.int .i64 x5) rfl); clear hI hB hk HI4 HB4 HC4 HCa) | (go_at_call 31; refine (impl_dateReader_need.calls w.heap.size s5 b5 ⟨#[84]⟩ s6 b6 w _ HI5.out HB5.out A6.out).mono ?_; rintro e w' ⟨rfl, hI, hB, hk⟩; (try clear f1 c1); have HI6 := Aside0.mk hI; have HB6 := Aside0.mk hB; have HC6 := Aside0.mk (hk.blk HC5.out hne (by simp)); clear hI hB hk HI5 HB5 HC5) | (go_at_call 32; refine (impl_ReadRfc3339.clock k w.heap.size (w.heap.size + 1) s6 b6 x1 x3 x5 0 0 0 x7 x8 x9 s7 b7 w _ HI6.out HC6.out hne hgc HB6.out A7.out).mono ?_; rintro e w' ⟨rfl, hI, hC, hB⟩; have HI7 := Aside0.mk hI; have HB7 := Aside0.mk hB; have HC7 := Aside0.mk hC; clear hI hB hC HI6 HB6 HC6) | (go_at_call 33; refine (impl_dateReader_is.calls w.heap.size s7 b7 ⟨#[46]⟩ false s8 b8 w _ HI7.out HB7.out A8.out).mono ?_; rintro e w' ⟨rfl, hI, hB, hk⟩; (try clear f1 c1 f0 c0); have HI8 := Aside0.mk hI; have HB8 := Aside0.mk hB; have HC8 := Aside0.mk (hk.blk HC7.out hne (by simp)); clear hI hB hk HI7 HB7 HC7) | (go_at_call 33; refine (impl_dateReader_is.calls w.heap.size s8 b8 ⟨#[90]⟩ true t1 d1 w _ HI8.out HB8.out AZ.out).mono ?_; rintro e w' ⟨rfl, hI, hB, hk⟩; (try clear f1 c1 f0 c0); have HI9 := Aside0.mk hI; have HB9 := Aside0.mk hB; have HC9 := Aside0.mk (hk.blk HC8.out hne (by simp)); have ca0 := (blk_cell HC9.out 0).trans rfl; have ca1 := (blk_cell HC9.out 1).trans rfl; have ca2 := (blk_cell HC9.out 2).trans rfl; have ca3 := (blk_cell HC9.out 3).trans rfl; have ca4 := (blk_cell HC9.out 4).trans rfl; have ca5 := (blk_cell HC9.out 5).trans rfl; clear hI hB hk HI8 HB8 HC8) | (go_at_call 36; refine (impl_dateReader_stamp.calls k w.heap.size t1 d1 x1 x3 x5 x7 x8 x9 0 y1 y2 y3 y4 w _ HI9.out HB9.out AY.out).mono ?_; rintro e w' ⟨rfl, hI, hB, hk⟩; have HBz := Aside0.mk hB; clear hI hB hk))
        go_ret2
        exact ⟨rfl, HBz.out⟩
      | false =>
        obtain ⟨⟨q1, t2, d2⟩, eq_, H⟩ := Option.bind_eq_some_iff.1 (show (impl_dateReader_zone.f k t1 d1 ⟨#[58]⟩).bind (fun q => (impl_dateReader_stamp.f k q.2.1 q.2.2 x1 x3 x5 x7 x8 x9 q.1).bind fun x => some (x.1, x.2.1)) = some (r1, r2) from H)
        obtain ⟨⟨y1, y2, y3, y4⟩, ey, H⟩ := Option.bind_eq_some_iff.1 H
        have AQ := Aside0.mk eq_
        have AY := Aside0.mk ey
        clear ey eq_
        simp only [Option.some.injEq, Prod.mk.injEq] at H
        obtain ⟨rfl, rfl⟩ := H
        go_enter Tryd.func11, Tryd.ntmps11
        go_wp2_with (first | (go_at_call 30; refine (impl_dateReader_digits.calls k w.heap.size a0 false 4 x1 s1 b1 w _ HI0.out HB0.out A1.out).mono ?_; rintro e w' ⟨rfl, hI, hB, hk⟩; have HCa := Aside0.mk (hk.blk HC0.out hne (by simp)); have f1 := blk_frozen HCa.out 0; have c1 := (blk_cell HCa.out 0).trans rfl; have HI1 := Aside0.mk (hI.far (p := ⟨(w.heap.size + 1), 0, none⟩) (Ne.symm hne) (.int .i64 x1)); have HB1 := Aside0.mk (below_set (j := 0) (v := .int .i64 x1) hB hgc); have HC1 := Aside0.mk (blk_put HCa.out 0 (.int .i64 x1) rfl); clear hI hB hk HI0 HB0 HC0 HCa) | (go_at_call 31; refine (impl_dateReader_need.calls w.heap.size s1 b1 ⟨#[45]⟩ s2 b2 w _ HI1.out HB1.out A2.out).mono ?_; rintro e w' ⟨rfl, hI, hB, hk⟩; (try clear f1 c1); have HI2 := Aside0.mk hI; have HB2 := Aside0.mk hB; have HC2 := Aside0.mk (hk.blk HC1.out hne (by simp)); clear hI hB hk HI1 HB1 HC1) | (go_at_call 30; refine (impl_dateReader_digits.calls k w.heap.size s2 b2 2 x3 s3 b3 w _ HI2.out HB2.out A3.out).mono ?_; rintro e w' ⟨rfl, hI, hB, hk⟩; have HCa := Aside0.mk (hk.blk HC2.out hne (by simp)); have f1 := blk_frozen HCa.out 1; have c1 := (blk_cell HCa.out 1).trans rfl; have HI3 := Aside0.mk (hI.far (p := ⟨(w.heap.size + 1), 1, none⟩) (Ne.symm hne) (.int .i64 x3)); have HB3 := Aside0.mk (below_set (j := 1) (v := .int .i64 x3) hB hgc); have HC3 := Aside0.mk (blk_put HCa.out 1 (.int .i64 x3) rfl); clear hI hB hk HI2 HB2 HC2 HCa) | (go_at_call 31; refine (impl_dateReader_need.calls w.heap.size s3 b3 ⟨#[45]⟩ s4 b4 w _ HI3.out HB3.out A4.out).mono ?_; rintro e w' ⟨rfl, hI, hB, hk⟩; (try clear f1 c1); have HI4 := Aside0.mk hI; have HB4 := Aside0.mk hB; have HC4 := Aside0.mk (hk.blk HC3.out hne (by simp)); clear hI hB hk HI3 HB3 HC3) | (go_at_call 30; refine (impl_dateReader_digits.calls k w.heap.size s4 b4 2 x5 s5 b5 w _ HI4.out HB4.out A5.out).mono ?_; rintro e w' ⟨rfl, hI, hB, hk⟩; have HCa := Aside0.mk (hk.blk HC4.out hne (by simp)); have f1 := blk_frozen HCa.out 2; have c1 := (blk_cell HCa.out 2).trans rfl; have HI5 := Aside0.mk (hI.far (p := ⟨(w.heap.size + 1), 2, none⟩) (Ne.symm hne) (.int .i64 x5)); have HB5 := Aside0.mk (below_set (j := 2) (v := .int .i64 x5) hB hgc); have HC5 := Aside0.mk (blk_put HCa.out 2 (.int .i64 x5) rfl); clear hI hB hk HI4 HB4 HC4 HCa) | (go_at_call 31; refine (impl_dateReader_need.calls w.heap.size s5 b5 ⟨#[84]⟩ s6 b6 w _ HI5.out HB5.out A6.out).mono ?_; rintro e w' ⟨rfl, hI, hB, hk⟩; (try clear f1 c1); have HI6 := Aside0.mk hI; have HB6 := Aside0.mk hB; have HC6 := Aside0.mk (hk.blk HC5.out hne (by simp)); clear hI hB hk HI5 HB5 HC5) | (go_at_call 32; refine (impl_ReadRfc3339.clock k w.heap.size (w.heap.size + 1) s6 b6 x1 x3 x5 0 0 0 x7 x8 x9 s7 b7 w _ HI6.out HC6.out hne hgc HB6.out A7.out).mono ?_; rintro e w' ⟨rfl, hI, hC, hB⟩; have HI7 := Aside0.mk hI; have HB7 := Aside0.mk hB; have HC7 := Aside0.mk hC; clear hI hB hC HI6 HB6 HC6) | (go_at_call 33; refine (impl_dateReader_is.calls w.heap.size s7 b7 ⟨#[46]⟩ false s8 b8 w _ HI7.out HB7.out A8.out).mono ?_; rintro e w' ⟨rfl, hI, hB, hk⟩; (try clear f1 c1 f0 c0); have HI8 := Aside0.mk hI; have HB8 := Aside0.mk hB; have HC8 := Aside0.mk (hk.blk HC7.out hne (by simp)); clear hI hB hk HI7 HB7 HC7) | (go_at_call 33; refine (impl_dateReader_is.calls w.heap.size s8 b8 ⟨#[90]⟩ false t1 d1 w _ HI8.out HB8.out AZ.out).mono ?_; rintro e w' ⟨rfl, hI, hB, hk⟩; (try clear f1 c1 f0 c0); have HI9 := Aside0.mk hI; have HB9 := Aside0.mk hB; have HC9 := Aside0.mk (hk.blk HC8.out hne (by simp)); clear hI hB hk HI8 HB8 HC8) | (go_at_call 35; refine (impl_dateReader_zone.calls k w.heap.size t1 d1 ⟨#[58]⟩ q1 t2 d2 w _ HI9.out HB9.out AQ.out).mono ?_; rintro e w' ⟨rfl, hI, hB, hk⟩; have HI10 := Aside0.mk hI; have HB10 := Aside0.mk hB; have HC10 := Aside0.mk (hk.blk HC9.out hne (by simp)); have ca0 := (blk_cell HC10.out 0).trans rfl; have ca1 := (blk_cell HC10.out 1).trans rfl; have ca2 := (blk_cell HC10.out 2).trans rfl; have ca3 := (blk_cell HC10.out 3).trans rfl; have ca4 := (blk_cell HC10.out 4).trans rfl; have ca5 := (blk_cell HC10.out 5).trans rfl; clear hI hB hk HI9 HB9 HC9) | (go_at_call 36; refine (impl_dateReader_stamp.calls k w.heap.size t2 d2 x1 x3 x5 x7 x8 x9 q1 y1 y2 y3 y4 w _ HI10.out HB10.out AY.out).mono ?_; rintro e w' ⟨rfl, hI, hB, hk⟩; have HBz := Aside0.mk hB; clear hI hB hk))
        go_ret2
        exact ⟨rfl, HBz.out⟩
    | true =>
      obtain ⟨⟨q, s9, b9⟩, e9, H⟩ := Option.bind_eq_some_iff.1 (show (impl_dateReader_digitsHere.f k s8 b8).bind (fun q => if 0 ≤ q.1 ∧ q.1 ≤ (q.2.1.size : Int) then impl_ReadRfc3339.tl k x1 x3 x5 x7 x8 x9 (q.2.1.extract q.1.toNat q.2.1.size) (if q.2.2 = true then true else q.1 == 0) else none) = some (r1, r2) from H)
      have A9 := Aside0.mk e9
      clear e9
      by_cases hq : 0 ≤ q ∧ q ≤ (s9.size : Int)
      · replace H : impl_ReadRfc3339.tl k x1 x3 x5 x7 x8 x9 (s9.extract q.toNat s9.size) (if b9 = true then true else q == 0) = some (r1, r2) := by rw [← H]; exact (if_pos hq).symm
        obtain ⟨hq0, hq1⟩ := hq
        obtain ⟨u, hu⟩ : ∃ u, s9.extract q.toNat s9.size = u := ⟨_, rfl⟩
        rw [hu] at H
        cases b9 with
        | true =>
          replace H : impl_ReadRfc3339.tl k x1 x3 x5 x7 x8 x9 u true = some (r1, r2) := H
          unfold impl_ReadRfc3339.tl at H
          obtain ⟨⟨z, t1, d1⟩, ez, H⟩ := Option.bind_eq_some_iff.1 H
          have AZ := Aside0.mk ez
          clear ez
          cases z with
          | true =>
            obtain ⟨⟨y1, y2, y3, y4⟩, ey, H⟩ := Option.bind_eq_some_iff.1 (show (impl_dateReader_stamp.f k t1 d1 x1 x3 x5 x7 x8 x9 0).bind (fun x => some (x.1, x.2.1)) = some (r1, r2) from H)
            have AY := Aside0.mk ey
            clear ey
            simp only [Option.some.injEq, Prod.mk.injEq] at H
            obtain ⟨rfl, rfl⟩ := H
            go_enter Tryd.func11, Tryd.ntmps11
            go_wp2_with (first | (go_at_call 30; refine (impl_dateReader_digits.calls k w.heap.size a0 false 4 x1 s1 b1 w _ HI0.out HB0.out A1.out).mono ?_; rintro e w' ⟨rfl, hI, hB, hk⟩; have HCa := Aside0.mk (hk.blk HC0.out hne (by simp)); have f1 := blk_frozen HCa.out 0; have c1 := (blk_cell HCa.out 0).trans rfl; have HI1 := Aside0.mk (hI.far (p := ⟨(w.heap.size + 1), 0, none⟩) (Ne.symm hne) (.int .i64 x1)); have HB1 := Aside0.mk (below_set (j := 0) (v := .int .i64 x1) hB hgc); have HC1 := Aside0.mk (blk_put HCa.out 0 (.int .i64 x1) rfl); clear hI hB hk HI0 HB0 HC0 HCa) | (go_at_call 31; refine (impl_dateReader_need.calls w.heap.size s1 b1 ⟨#[45]⟩ s2 b2 w _ HI1.out HB1.out A2.out).mono ?_; rintro e w' ⟨rfl, hI, hB, hk⟩; (try clear f1 c1); have HI2 := Aside0.mk hI; have HB2 := Aside0.mk hB; have HC2 := Aside0.mk (hk.blk HC1.out hne (by simp)); clear hI hB hk HI1 HB1 HC1) | (go_at_call 30; refine (impl_dateReader_digits.calls k w.heap.size s2 b2 2 x3 s3 b3 w _ HI2.out HB2.out A3.out).mono ?_; rintro e w' ⟨rfl, hI, hB, hk⟩; have HCa := Aside0.mk (hk.blk HC2.out hne (by simp)); have f1 := blk_frozen HCa.out 1; have c1 := (blk_cell HCa.out 1).trans rfl; have HI3 := Aside0.mk (hI.far (p := ⟨(w.heap.size + 1), 1, none⟩) (Ne.symm hne) (.int .i64 x3)); have HB3 := Aside0.mk (below_set (j := 1) (v := .int .i64 x3) hB hgc); have HC3 := Aside0.mk (blk_put HCa.out 1 (.int .i64 x3) rfl); clear hI hB hk HI2 HB2 HC2 HCa) | (go_at_call 31; refine (impl_dateReader_need.calls w.heap.size s3 b3 ⟨#[45]⟩ s4 b4 w _ HI3.out HB3.out A4.out).mono ?_; rintro e w' ⟨rfl, hI, hB, hk⟩; (try clear f1 c1); have HI4 := Aside0.mk hI; have HB4 := Aside0.mk hB; have HC4 := Aside0.mk (hk.blk HC3.out hne (by simp)); clear hI hB hk HI3 HB3 HC3) | (go_at_call 30; refine (impl_dateReader_digits.calls k w.heap.size s4 b4 2 x5 s5 b5 w _ HI4.out HB4.out A5.out).mono ?_; rintro e w' ⟨rfl, hI, hB, hk⟩; have HCa := Aside0.mk (hk.blk HC4.out hne (by simp)); have f1 := blk_frozen HCa.out 2; have c1 := (blk_cell HCa.out 2).trans rfl; have HI5 := Aside0.mk (hI.far (p := ⟨(w.heap.size + 1), 2, none⟩) (Ne.symm hne) (.int .i64 x5)); have HB5 := Aside0.mk (below_set (j := 2) (v := .int .i64 x5) hB hgc); have HC5 := Aside0.mk (blk_put HCa.out 2 (.int .i64 x5) rfl); clear hI hB hk HI4 HB4 HC4 HCa) | (go_at_call 31; refine (impl_dateReader_need.calls w.heap.size s5 b5 ⟨#[84]⟩ s6 b6 w _ HI5.out HB5.out A6.out).mono ?_; rintro e w' ⟨rfl, hI, hB, hk⟩; (try clear f1 c1); have HI6 := Aside0.mk hI; have HB6 := Aside0.mk hB; have HC6 := Aside0.mk (hk.blk HC5.out hne (by simp)); clear hI hB hk HI5 HB5 HC5) | (go_at_call 32; refine (impl_ReadRfc3339.clock k w.heap.size (w.heap.size + 1) s6 b6 x1 x3 x5 0 0 0 x7 x8 x9 s7 b7 w _ HI6.out HC6.out hne hgc HB6.out A7.out).mono ?_; rintro e w' ⟨rfl, hI, hC, hB⟩; have HI7 := Aside0.mk hI; have HB7 := Aside0.mk hB; have HC7 := Aside0.mk hC; clear hI hB hC HI6 HB6 HC6) | (go_at_call 33; refine (impl_dateReader_is.calls w.heap.size s7 b7 ⟨#[46]⟩ true s8 b8 w _ HI7.out HB7.out A8.out).mono ?_; rintro e w' ⟨rfl, hI, hB, hk⟩; (try clear f1 c1 f0 c0); have HI8 := Aside0.mk hI; have HB8 := Aside0.mk hB; have HC8 := Aside0.mk (hk.blk HC7.out hne (by simp)); clear hI hB hk HI7 HB7 HC7) | (go_at_call 34; refine (impl_dateReader_digitsHere.calls k w.heap.size s8 b8 q s9 true w _ HI8.out HB8.out A9.out).mono ?_; rintro e w' ⟨rfl, hI, hB, hk⟩; have c0 := (blk_cell hI.1 0).trans rfl; have c1 := (blk_cell hI.1 1).trans rfl; have f0 := blk_frozen hI.1 0; have f1 := blk_frozen hI.1 1; have HI9 := Aside0.mk ((hI.set_1 true).set_0 u); have HB9 := Aside0.mk (below_set (j := 0) (v := .string u) (below_set (j := 1) (v := .bool true) hB (Nat.le_refl _)) (Nat.le_refl _)); have HC9 := Aside0.mk (blk_far (blk_far (hk.blk HC8.out hne (by simp)) (p := ⟨w.heap.size, 1, none⟩) hne (.bool true)) (p := ⟨w.heap.size, 0, none⟩) hne (.string u)); clear hI hB hk HI8 HB8 HC8) | (go_at_call 33; refine (impl_dateReader_is.calls w.heap.size u true ⟨#[90]⟩ true t1 d1 w _ HI9.out HB9.out AZ.out).mono ?_; rintro e w' ⟨rfl, hI, hB, hk⟩; (try clear f1 c1 f0 c0); have HI10 := Aside0.mk hI; have HB10 := Aside0.mk hB; have HC10 := Aside0.mk (hk.blk HC9.out hne (by simp)); have ca0 := (blk_cell HC10.out 0).trans rfl; have ca1 := (blk_cell HC10.out 1).trans rfl; have ca2 := (blk_cell HC10.out 2).trans rfl; have ca3 := (blk_cell HC10.out 3).trans rfl; have ca4 := (blk_cell HC10.out 4).trans rfl; have ca5 := (blk_cell HC10.out 5).trans rfl; clear hI hB hk HI9 HB9 HC9) | (go_at_call 36; refine (impl_dateReader_stamp.calls k w.heap.size t1 d1 x1 x3 x5 x7 x8 x9 0 y1 y2 y3 y4 w _ HI10.out HB10.out AY.out).mono ?_; rintro e w' ⟨rfl, hI, hB, hk⟩; have HBz := Aside0.mk hB; clear hI hB hk))
            go_ret2
            exact ⟨rfl, HBz.out⟩
          | false =>
            obtain ⟨⟨q1, t2, d2⟩, eq_, H⟩ := Option.bind_eq_some_iff.1 (show (impl_dateReader_zone.f k t1 d1 ⟨#[58]⟩).bind (fun q => (impl_dateReader_stamp.f k q.2.1 q.2.2 x1 x3 x5 x7 x8 x9 q.1).bind fun x => some (x.1, x.2.1)) = some (r1, r2) from H)
            obtain ⟨⟨y1, y2, y3, y4⟩, ey, H⟩ := Option.bind_eq_some_iff.1 H
            have AQ := Aside0.mk eq_
            have AY := Aside0.mk ey
            clear ey eq_
            simp only [Option.some.injEq, Prod.mk.injEq] at H
            obtain ⟨rfl, rfl⟩ := H
            go_enter Tryd.func11, Tryd.ntmps11
            go_wp2_with (first | (go_at_call 30; refine (impl_dateReader_digits.calls k w.heap.size a0 false 4 x1 s1 b1 w _ HI0.out HB0.out A1.out).mono ?_; rintro e w' ⟨rfl, hI, hB, hk⟩; have HCa := Aside0.mk (hk.blk HC0.out hne (by simp)); have f1 := blk_frozen HCa.out 0; have c1 := (blk_cell HCa.out 0).trans rfl; have HI1 := Aside0.mk (hI.far (p := ⟨(w.heap.size + 1), 0, none⟩) (Ne.symm hne) (.int .i64 x1)); have HB1 := Aside0.mk (below_set (j := 0) (v := .int .i64 x1) hB hgc); have HC1 := Aside0.mk (blk_put HCa.out 0 (.int .i64 x1) rfl); clear hI hB hk HI0 HB0 HC0 HCa) | (go_at_call 31; refine (impl_dateReader_need.calls w.heap.size s1 b1 ⟨#[45]⟩ s2 b2 w _ HI1.out HB1.out A2.out).mono ?_; rintro e w' ⟨rfl, hI, hB, hk⟩; (try clear f1 c1); have HI2 := Aside0.mk hI; have HB2 := Aside0.mk hB; have HC2 := Aside0.mk (hk.blk HC1.out hne (by simp)); clear hI hB hk HI1 HB1 HC1) | (go_at_call 30; refine (impl_dateReader_digits.calls k w.heap.size s2 b2 2 x3 s3 b3 w _ HI2.out HB2.out A3.out).mono ?_; rintro e w' ⟨rfl, hI, hB, hk⟩; have HCa := Aside0.mk (hk.blk HC2.out hne (by simp)); have f1 := blk_frozen HCa.out 1; have c1 := (blk_cell HCa.out 1).trans rfl; have HI3 := Aside0.mk (hI.far (p := ⟨(w.heap.size + 1), 1, none⟩) (Ne.symm hne) (.int .i64 x3)); have HB3 := Aside0.mk (below_set (j := 1) (v := .int .i64 x3) hB hgc); have HC3 := Aside0.mk (blk_put HCa.out 1 (.int .i64 x3) rfl); clear hI hB hk HI2 HB2 HC2 HCa) | (go_at_call 31; refine (impl_dateReader_need.calls w.heap.size s3 b3 ⟨#[45]⟩ s4 b4 w _ HI3.out HB3.out A4.out).mono ?_; rintro e w' ⟨rfl, hI, hB, hk⟩; (try clear f1 c1); have HI4 := Aside0.mk hI; have HB4 := Aside0.mk hB; have HC4 := Aside0.mk (hk.blk HC3.out hne (by simp)); clear hI hB hk HI3 HB3 HC3) | (go_at_call 30; refine (impl_dateReader_digits.calls k w.heap.size s4 b4 2 x5 s5 b5 w _ HI4.out HB4.out A5.out).mono ?_; rintro e w' ⟨rfl, hI, hB, hk⟩; have HCa := Aside0.mk (hk.blk HC4.out hne (by simp)); have f1 := blk_frozen HCa.out 2; have c1 := (blk_cell HCa.out 2).trans rfl; have HI5 := Aside0.mk (hI.far (p := ⟨(w.heap.size + 1), 2, none⟩) (Ne.symm hne) (.int .i64 x5)); have HB5 := Aside0.mk (below_set (j := 2) (v := .int .i64 x5) hB hgc); have HC5 := Aside0.mk (blk_put HCa.out 2 (.int .i64 x5) rfl); clear hI hB hk HI4 HB4 HC4 HCa) | (go_at_call 31; refine (impl_dateReader_need.calls w.heap.size s5 b5 ⟨#[84]⟩ s6 b6 w _ HI5.out HB5.out A6.out).mono ?_; rintro e w' ⟨rfl, hI, hB, hk⟩; (try clear f1 c1); have HI6 := Aside0.mk hI; have HB6 := Aside0.mk hB; have HC6 := Aside0.mk (hk.blk HC5.out hne (by simp)); clear hI hB hk HI5 HB5 HC5) | (go_at_call 32; refine (impl_ReadRfc3339.clock k w.heap.size (w.heap.size + 1) s6 b6 x1 x3 x5 0 0 0 x7 x8 x9 s7 b7 w _ HI6.out HC6.out hne hgc HB6.out A7.out).mono ?_; rintro e w' ⟨rfl, hI, hC, hB⟩; have HI7 := Aside0.mk hI; have HB7 := Aside0.mk hB; have HC7 := Aside0.mk hC; clear hI hB hC HI6 HB6 HC6) | (go_at_call 33; refine (impl_dateReader_is.calls w.heap.size s7 b7 ⟨#[46]⟩ true s8 b8 w _ HI7.out HB7.out A8.out).mono ?_; rintro e w' ⟨rfl, hI, hB, hk⟩; (try clear f1 c1 f0 c0); have HI8 := Aside0.mk hI; have HB8 := Aside0.mk hB; have HC8 := Aside0.mk (hk.blk HC7.out hne (by simp)); clear hI hB hk HI7 HB7 HC7) | (go_at_call 34; refine (impl_dateReader_digitsHere.calls k w.heap.size s8 b8 q s9 true w _ HI8.out HB8.out A9.out).mono ?_; rintro e w' ⟨rfl, hI, hB, hk⟩; have c0 := (blk_cell hI.1 0).trans rfl; have c1 := (blk_cell hI.1 1).trans rfl; have f0 := blk_frozen hI.1 0; have f1 := blk_frozen hI.1 1; have HI9 := Aside0.mk ((hI.set_1 true).set_0 u); have HB9 := Aside0.mk (below_set (j := 0) (v := .string u) (below_set (j := 1) (v := .bool true) hB (Nat.le_refl _)) (Nat.le_refl _)); have HC9 := Aside0.mk (blk_far (blk_far (hk.blk HC8.out hne (by simp)) (p := ⟨w.heap.size, 1, none⟩) hne (.bool true)) (p := ⟨w.heap.size, 0, none⟩) hne (.string u)); clear hI hB hk HI8 HB8 HC8) | (go_at_call 33; refine (impl_dateReader_is.calls w.heap.size u true ⟨#[90]⟩ false t1 d1 w _ HI9.out HB9.out AZ.out).mono ?_; rintro e w' ⟨rfl, hI, hB, hk⟩; (try clear f1 c1 f0 c0); have HI10 := Aside0.mk hI; have HB10 := Aside0.mk hB; have HC10 := Aside0.mk (hk.blk HC9.out hne (by simp)); clear hI hB hk HI9 HB9 HC9) | (go_at_call 35; refine (impl_dateReader_zone.calls k w.heap.size t1 d1 ⟨#[58]⟩ q1 t2 d2 w _ HI10.out HB10.out AQ.out).mono ?_; rintro e w' ⟨rfl, hI, hB, hk⟩; have HI11 := Aside0.mk hI; have HB11 := Aside0.mk hB; have HC11 := Aside0.mk (hk.blk HC10.out hne (by simp)); have ca0 := (blk_cell HC11.out 0).trans rfl; have ca1 := (blk_cell HC11.out 1).trans rfl; have ca2 := (blk_cell HC11.out 2).trans rfl; have ca3 := (blk_cell HC11.out 3).trans rfl; have ca4 := (blk_cell HC11.out 4).trans rfl; have ca5 := (blk_cell HC11.out 5).trans rfl; clear hI hB hk HI10 HB10 HC10) | (go_at_call 36; refine (impl_dateReader_stamp.calls k w.heap.size t2 d2 x1 x3 x5 x7 x8 x9 q1 y1 y2 y3 y4 w _ HI11.out HB11.out AY.out).mono ?_; rintro e w' ⟨rfl, hI, hB, hk⟩; have HBz := Aside0.mk hB; clear hI hB hk))
            go_ret2
            exact ⟨rfl, HBz.out⟩
        | false =>
          replace H : impl_ReadRfc3339.tl k x1 x3 x5 x7 x8 x9 u (q == 0) = some (r1, r2) := H
          unfold impl_ReadRfc3339.tl at H
          obtain ⟨⟨z, t1, d1⟩, ez, H⟩ := Option.bind_eq_some_iff.1 H
          have AZ := Aside0.mk ez
          clear ez
          cases z with
          | true =>
            obtain ⟨⟨y1, y2, y3, y4⟩, ey, H⟩ := Option.bind_eq_some_iff.1 (show (impl_dateReader_stamp.f k t1 d1 x1 x3 x5 x7 x8 x9 0).bind (fun x => some (x.1, x.2.1)) = some (r1, r2) from H)
            have AY := Aside0.mk ey
            clear ey
            simp only [Option.some.injEq, Prod.mk.injEq] at H
            obtain ⟨rfl, rfl⟩ := H
            go_enter Tryd.func11, Tryd.ntmps11
            go_wp2_with (first | (go_at_call 30; refine (impl_dateReader_digits.calls k w.heap.size a0 false 4 x1 s1 b1 w _ HI0.out HB0.out A1.out).mono ?_; rintro e w' ⟨rfl, hI, hB, hk⟩; have HCa := Aside0.mk (hk.blk HC0.out hne (by simp)); have f1 := blk_frozen HCa.out 0; have c1 := (blk_cell HCa.out 0).trans rfl; have HI1 := Aside0.mk (hI.far (p := ⟨(w.heap.size + 1), 0, none⟩) (Ne.symm hne) (.int .i64 x1)); have HB1 := Aside0.mk (below_set (j := 0) (v := .int .i64 x1) hB hgc); have HC1 := Aside0.mk (blk_put HCa.out 0 (.int .i64 x1) rfl); clear hI hB hk HI0 HB0 HC0 HCa) | (go_at_call 31; refine (impl_dateReader_need.calls w.heap.size s1 b1 ⟨#[45]⟩ s2 b2 w _ HI1.out HB1.out A2.out).mono ?_; rintro e w' ⟨rfl, hI, hB, hk⟩; (try clear f1 c1); have HI2 := Aside0.mk hI; have HB2 := Aside0.mk hB; have HC2 := Aside0.mk (hk.blk HC1.out hne (by simp)); clear hI hB hk HI1 HB1 HC1) | (go_at_call 30; refine (impl_dateReader_digits.calls k w.heap.size s2 b2 2 x3 s3 b3 w _ HI2.out HB2.out A3.out).mono ?_; rintro e w' ⟨rfl, hI, hB, hk⟩; have HCa := Aside0.mk (hk.blk HC2.out hne (by simp)); have f1 := blk_frozen HCa.out 1; have c1 := (blk_cell HCa.out 1).trans rfl; have HI3 := Aside0.mk (hI.far (p := ⟨(w.heap.size + 1), 1, none⟩) (Ne.symm hne) (.int .i64 x3)); have HB3 := Aside0.mk (below_set (j := 1) (v := .int .i64 x3) hB hgc); have HC3 := Aside0.mk (blk_put HCa.out 1 (.int .i64 x3) rfl); clear hI hB hk HI2 HB2 HC2 HCa) | (go_at_call 31; refine (impl_dateReader_need.calls w.heap.size s3 b3 ⟨#[45]⟩ s4 b4 w _ HI3.out HB3.out A4.out).mono ?_; rintro e w' ⟨rfl, hI, hB, hk⟩; (try clear f1 c1); have HI4 := Aside0.mk hI; have HB4 := Aside0.mk hB; have HC4 := Aside0.mk (hk.blk HC3.out hne (by simp)); clear hI hB hk HI3 HB3 HC3) | (go_at_call 30; refine (impl_dateReader_digits.calls k w.heap.size s4 b4 2 x5 s5 b5 w _ HI4.out HB4.out A5.out).mono ?_; rintro e w' ⟨rfl, hI, hB, hk⟩; have HCa := Aside0.mk (hk.blk HC4.out hne (by simp)); have f1 := blk_frozen HCa.out 2; have c1 := (blk_cell HCa.out 2).trans rfl; have HI5 := Aside0.mk (hI.far (p := ⟨(w.heap.size + 1), 2, none⟩) (Ne.symm hne) (.int .i64 x5)); have HB5 := Aside0.mk (below_set (j := 2) (v := .int .i64 x5) hB hgc); have HC5 := Aside0.mk (blk_put HCa.out 2 (.int .i64 x5) rfl); clear hI hB hk HI4 HB4 HC4 HCa) | (go_at_call 31; refine (impl_dateReader_need.calls w.heap.size s5 b5 ⟨#[84]⟩ s6 b6 w _ HI5.out HB5.out A6.out).mono ?_; rintro e w' ⟨rfl, hI, hB, hk⟩; (try clear f1 c1); have HI6 := Aside0.mk hI; have HB6 := Aside0.mk hB; have HC6 := Aside0.mk (hk.blk HC5.out hne (by simp)); clear hI hB hk HI5 HB5 HC5) | (go_at_call 32; refine (impl_ReadRfc3339.clock k w.heap.size (w.heap.size + 1) s6 b6 x1 x3 x5 0 0 0 x7 x8 x9 s7 b7 w _ HI6.out HC6.out hne hgc HB6.out A7.out).mono ?_; rintro e w' ⟨rfl, hI, hC, hB⟩; have HI7 := Aside0.mk hI; have HB7 := Aside0.mk hB; have HC7 := Aside0.mk hC; clear hI hB hC HI6 HB6 HC6) | (go_at_call 33; refine (impl_dateReader_is.calls w.heap.size s7 b7 ⟨#[46]⟩ true s8 b8 w _ HI7.out HB7.out A8.out).mono ?_; rintro e w' ⟨rfl, hI, hB, hk⟩; (try clear f1 c1 f0 c0); have HI8 := Aside0.mk hI; have HB8 := Aside0.mk hB; have HC8 := Aside0.mk (hk.blk HC7.out hne (by simp)); clear hI hB hk HI7 HB7 HC7) | (go_at_call 34; refine (impl_dateReader_digitsHere.calls k w.heap.size s8 b8 q s9 false w _ HI8.out HB8.out A9.out).mono ?_; rintro e w' ⟨rfl, hI, hB, hk⟩; have c0 := (blk_cell hI.1 0).trans rfl; have c1 := (blk_cell hI.1 1).trans rfl; have f0 := blk_frozen hI.1 0; have f1 := blk_frozen hI.1 1; have HI9 := Aside0.mk ((hI.set_1 (q == 0)).set_0 u); have HB9 := Aside0.mk (below_set (j := 0) (v := .string u) (below_set (j := 1) (v := .bool (q == 0)) hB (Nat.le_refl _)) (Nat.le_refl _)); have HC9 := Aside0.mk (blk_far (blk_far (hk.blk HC8.out hne (by simp)) (p := ⟨w.heap.size, 1, none⟩) hne (.bool (q == 0))) (p := ⟨w.heap.size, 0, none⟩) hne (.string u)); clear hI hB hk HI8 HB8 HC8) | (go_at_call 33; refine (impl_dateReader_is.calls w.heap.size u (q == 0) ⟨#[90]⟩ true t1 d1 w _ HI9.out HB9.out AZ.out).mono ?_; rintro e w' ⟨rfl, hI, hB, hk⟩; (try clear f1 c1 f0 c0); have HI10 := Aside0.mk hI; have HB10 := Aside0.mk hB; have HC10 := Aside0.mk (hk.blk HC9.out hne (by simp)); have ca0 := (blk_cell HC10.out 0).trans rfl; have ca1 := (blk_cell HC10.out 1).trans rfl; have ca2 := (blk_cell HC10.out 2).trans rfl; have ca3 := (blk_cell HC10.out 3).trans rfl; have ca4 := (blk_cell HC10.out 4).trans rfl; have ca5 := (blk_cell HC10.out 5).trans rfl; clear hI hB hk HI9 HB9 HC9) | (go_at_call 36; refine (impl_dateReader_stamp.calls k w.heap.size t1 d1 x1 x3 x5 x7 x8 x9 0 y1 y2 y3 y4 w _ HI10.out HB10.out AY.out).mono ?_; rintro e w' ⟨rfl, hI, hB, hk⟩; have HBz := Aside0.mk hB; clear hI hB hk))
            go_ret2
            exact ⟨rfl, HBz.out⟩
          | false =>
            obtain ⟨⟨q1, t2, d2⟩, eq_, H⟩ := Option.bind_eq_some_iff.1 (show (impl_dateReader_zone.f k t1 d1 ⟨#[58]⟩).bind (fun q => (impl_dateReader_stamp.f k q.2.1 q.2.2 x1 x3 x5 x7 x8 x9 q.1).bind fun x => some (x.1, x.2.1)) = some (r1, r2) from H)
            obtain ⟨⟨y1, y2, y3, y4⟩, ey, H⟩ := Option.bind_eq_some_iff.1 H
            have AQ := Aside0.mk eq_
            have AY := Aside0.mk ey
            clear ey eq_
            simp only [Option.some.injEq, Prod.mk.injEq] at H
            obtain ⟨rfl, rfl⟩ := H
            go_enter Tryd.func11, Tryd.ntmps11
            go_wp2_with (first | (go_at_call 30; refine (impl_dateReader_digits.calls k w.heap.size a0 false 4 x1 s1 b1 w _ HI0.out HB0.out A1.out).mono ?_; rintro e w' ⟨rfl, hI, hB, hk⟩; have HCa := Aside0.mk (hk.blk HC0.out hne (by simp)); have f1 := blk_frozen HCa.out 0; have c1 := (blk_cell HCa.out 0).trans rfl; have HI1 := Aside0.mk (hI.far (p := ⟨(w.heap.size + 1), 0, none⟩) (Ne.symm hne) (.int .i64 x1)); have HB1 := Aside0.mk (below_set (j := 0) (v := .int .i64 x1) hB hgc); have HC1 := Aside0.mk (blk_put HCa.out 0 (.int .i64 x1) rfl); clear hI hB hk HI0 HB0 HC0 HCa) | (go_at_call 31; refine (impl_dateReader_need.calls w.heap.size s1 b1 ⟨#[45]⟩ s2 b2 w _ HI1.out HB1.out A2.out).mono ?_; rintro e w' ⟨rfl, hI, hB, hk⟩; (try clear f1 c1); have HI2 := Aside0.mk hI; have HB2 := Aside0.mk hB; have HC2 := Aside0.mk (hk.blk HC1.out hne (by simp)); clear hI hB hk HI1 HB1 HC1) | (go_at_call 30; refine (impl_dateReader_digits.calls k w.heap.size s2 b2 2 x3 s3 b3 w _ HI2.out HB2.out A3.out).mono ?_; rintro e w' ⟨rfl, hI, hB, hk⟩; have HCa := Aside0.mk (hk.blk HC2.out hne (by simp)); have f1 := blk_frozen HCa.out 1; have c1 := (blk_cell HCa.out 1).trans rfl; have HI3 := Aside0.mk (hI.far (p := ⟨(w.heap.size + 1), 1, none⟩) (Ne.symm hne) (.int .i64 x3)); have HB3 := Aside0.mk (below_set (j := 1) (v := .int .i64 x3) hB hgc); have HC3 := Aside0.mk (blk_put HCa.out 1 (.int .i64 x3) rfl); clear hI hB hk HI2 HB2 HC2 HCa) | (go_at_call 31; refine (impl_dateReader_need.calls w.heap.size s3 b3 ⟨#[45]⟩ s4 b4 w _ HI3.out HB3.out A4.out).mono ?_; rintro e w' ⟨rfl, hI, hB, hk⟩; (try clear f1 c1); have HI4 := Aside0.mk hI; have HB4 := Aside0.mk hB; have HC4 := Aside0.mk (hk.blk HC3.out hne (by simp)); clear hI hB hk HI3 HB3 HC3) | (go_at_call 30; refine (impl_dateReader_digits.calls k w.heap.size s4 b4 2 x5 s5 b5 w _ HI4.out HB4.out A5.out).mono ?_; rintro e w' ⟨rfl, hI, hB, hk⟩; have HCa := Aside0.mk (hk.blk HC4.out hne (by simp)); have f1 := blk_frozen HCa.out 2; have c1 := (blk_cell HCa.out 2).trans rfl; have HI5 := Aside0.mk (hI.far (p := ⟨(w.heap.size + 1), 2, none⟩) (Ne.symm hne) (.int .i64 x5)); have HB5 := Aside0.mk (below_set (j := 2) (v := .int .i64 x5) hB hgc); have HC5 := Aside0.mk (blk_put HCa.out 2 (.int .i64 x5) rfl); clear hI hB hk HI4 HB4 HC4 HCa) | (go_at_call 31; refine (impl_dateReader_need.calls w.heap.size s5 b5 ⟨#[84]⟩ s6 b6 w _ HI5.out HB5.out A6.out).mono ?_; rintro e w' ⟨rfl, hI, hB, hk⟩; (try clear f1 c1); have HI6 := Aside0.mk hI; have HB6 := Aside0.mk hB; have HC6 := Aside0.mk (hk.blk HC5.out hne (by simp)); clear hI hB hk HI5 HB5 HC5) | (go_at_call 32; refine (impl_ReadRfc3339.clock k w.heap.size (w.heap.size + 1) s6 b6 x1 x3 x5 0 0 0 x7 x8 x9 s7 b7 w _ HI6.out HC6.out hne hgc HB6.out A7.out).mono ?_; rintro e w' ⟨rfl, hI, hC, hB⟩; have HI7 := Aside0.mk hI; have HB7 := Aside0.mk hB; have HC7 := Aside0.mk hC; clear hI hB hC HI6 HB6 HC6) | (go_at_call 33; refine (impl_dateReader_is.calls w.heap.size s7 b7 ⟨#[46]⟩ true s8 b8 w _ HI7.out HB7.out A8.out).mono ?_; rintro e w' ⟨rfl, hI, hB, hk⟩; (try clear f1 c1 f0 c0); have HI8 := Aside0.mk hI; have HB8 := Aside0.mk hB; have HC8 := Aside0.mk (hk.blk HC7.out hne (by simp)); clear hI hB hk HI7 HB7 HC7) | (go_at_call 34; refine (impl_dateReader_digitsHere.calls k w.heap.size s8 b8 q s9 false w _ HI8.out HB8.out A9.out).mono ?_; rintro e w' ⟨rfl, hI, hB, hk⟩; have c0 := (blk_cell hI.1 0).trans rfl; have c1 := (blk_cell hI.1 1).trans rfl; have f0 := blk_frozen hI.1 0; have f1 := blk_frozen hI.1 1; have HI9 := Aside0.mk ((hI.set_1 (q == 0)).set_0 u); have HB9 := Aside0.mk (below_set (j := 0) (v := .string u) (below_set (j := 1) (v := .bool (q == 0)) hB (Nat.le_refl _)) (Nat.le_refl _)); have HC9 := Aside0.mk (blk_far (blk_far (hk.blk HC8.out hne (by simp)) (p := ⟨w.heap.size, 1, none⟩) hne (.bool (q == 0))) (p := ⟨w.heap.size, 0, none⟩) hne (.string u)); clear hI hB hk HI8 HB8 HC8) | (go_at_call 33; refine (impl_dateReader_is.calls w.heap.size u (q == 0) ⟨#[90]⟩ false t1 d1 w _ HI9.out HB9.out AZ.out).mono ?_; rintro e w' ⟨rfl, hI, hB, hk⟩; (try clear f1 c1 f0 c0); have HI10 := Aside0.mk hI; have HB10 := Aside0.mk hB; have HC10 := Aside0.mk (hk.blk HC9.out hne (by simp)); clear hI hB hk HI9 HB9 HC9) | (go_at_call 35; refine (impl_dateReader_zone.calls k w.heap.size t1 d1 ⟨#[58]⟩ q1 t2 d2 w _ HI10.out HB10.out AQ.out).mono ?_; rintro e w' ⟨rfl, hI, hB, hk⟩; have HI11 := Aside0.mk hI; have HB11 := Aside0.mk hB; have HC11 := Aside0.mk (hk.blk HC10.out hne (by simp)); have ca0 := (blk_cell HC11.out 0).trans rfl; have ca1 := (blk_cell HC11.out 1).trans rfl; have ca2 := (blk_cell HC11.out 2).trans rfl; have ca3 := (blk_cell HC11.out 3).trans rfl; have ca4 := (blk_cell HC11.out 4).trans rfl; have ca5 := (blk_cell HC11.out 5).trans rfl; clear hI hB hk HI10 HB10 HC10) | (go_at_call 36; refine (impl_dateReader_stamp.calls k w.heap.size t2 d2 x1 x3 x5 x7 x8 x9 q1 y1 y2 y3 y4 w _ HI11.out HB11.out AY.out).mono ?_; rintro e w' ⟨rfl, hI, hB, hk⟩; have HBz := Aside0.mk hB; clear hI hB hk))
            go_ret2
            exact ⟨rfl, HBz.out⟩
      · have e_ : (none : Option (Int × Int)) = some (r1, r2) := by rw [← H]; exact (if_neg hq).symm
        cases e_

/-! ### impl_ReadRfc822: function 12, a date after RFC 822 read: walked by hand -/
/-- The time of a day read. -/
def impl_ReadRfc822.clk (k : Nat) (s : ByteArray) (b : Bool) : Option (Int × Int × Int × ByteArray × Bool) :=
  (impl_dateReader_digits.f k s b 2).bind fun x1 => (impl_dateReader_need.f x1.2.1 x1.2.2 ⟨#[58]⟩).bind fun x2 => (impl_dateReader_digits.f k x2.1 x2.2 2).bind fun x3 => (impl_dateReader_need.f x3.2.1 x3.2.2 ⟨#[58]⟩).bind fun x4 => (impl_dateReader_digits.f k x4.1 x4.2 2).bind fun x5 => some (x1.1, x3.1, x5.1, x5.2.1, x5.2.2)
set_option maxHeartbeats 4000000 in
set_option maxRecDepth 100000 in
theorem impl_ReadRfc822.clock (k g gc : Nat) (s : ByteArray) (b : Bool) (y m d h i c r1 r2 r3 : Int) (s' : ByteArray) (b' : Bool) (w0 w : World) (hI : IsS45 w0 w g s b) (hC : w.heap[gc]? = some (.cells #[.int .i64 y, .int .i64 m, .int .i64 d, .int .i64 h, .int .i64 i, .int .i64 c] 33 (0, 0))) (hne : gc ≠ g) (hgc : w0.heap.size ≤ gc) (hB : Below w0.heap.size w0 w) (H : impl_ReadRfc822.clk k s b = some (r1, r2, r3, s', b')) :
    Calls Tryd.prog 32 #[.pointer (some ⟨g, 0, none⟩), .pointer (some ⟨gc, 0, none⟩)] w fun e w' => e = .returned (.tuple #[]) ∧ IsS45 w0 w' g s' b' ∧ w'.heap[gc]? = some (.cells #[.int .i64 y, .int .i64 m, .int .i64 d, .int .i64 r1, .int .i64 r2, .int .i64 r3] 33 (0, 0)) ∧ Below w0.heap.size w0 w' := by
  unfold impl_ReadRfc822.clk at H
  obtain ⟨⟨x1, s1, b1⟩, e1, H⟩ := Option.bind_eq_some_iff.1 H
  obtain ⟨⟨s2, b2⟩, e2, H⟩ := Option.bind_eq_some_iff.1 H
  obtain ⟨⟨x3, s3, b3⟩, e3, H⟩ := Option.bind_eq_some_iff.1 H
  obtain ⟨⟨s4, b4⟩, e4, H⟩ := Option.bind_eq_some_iff.1 H
  obtain ⟨⟨x5, s5, b5⟩, e5, H⟩ := Option.bind_eq_some_iff.1 H
  simp only [Option.some.injEq, Prod.mk.injEq] at H
  obtain ⟨rfl, rfl, rfl, rfl, rfl⟩ := H
  have A1 := Aside0.mk e1
  have A2 := Aside0.mk e2
  have A3 := Aside0.mk e3
  have A4 := Aside0.mk e4
  have A5 := Aside0.mk e5
  have HI0 := Aside0.mk hI
  have HC0 := Aside0.mk hC
  have HB0 := Aside0.mk hB
  clear e1 e2 e3 e4 e5 hI hC hB
  go_enter Tryd.func32, Tryd.ntmps32
  go_wp2_with (first | (go_at_call 30; refine (impl_dateReader_digits.calls k g s b 2 x1 s1 b1 w0 _ HI0.out HB0.out A1.out).mono ?_; rintro e w' ⟨rfl, hI, hB, hk⟩; have HCa := Aside0.mk (hk.blk HC0.out hne (by simp)); have f1 := blk_frozen HCa.out 3; have c1 := (blk_cell HCa.out 3).trans rfl; have HI1 := Aside0.mk (hI.far (p := ⟨gc, 3, none⟩) (Ne.symm hne) (.int .i64 x1)); have HB1 := Aside0.mk (below_set (j := 3) (v := .int .i64 x1) hB hgc); have HC1 := Aside0.mk (blk_put HCa.out 3 (.int .i64 x1) rfl); clear hI hB hk HI0 HB0 HC0 HCa) | (go_at_call 31; refine (impl_dateReader_need.calls g s1 b1 ⟨#[58]⟩ s2 b2 w0 _ HI1.out HB1.out A2.out).mono ?_; rintro e w' ⟨rfl, hI, hB, hk⟩; (try clear f1 c1); have HI2 := Aside0.mk hI; have HB2 := Aside0.mk hB; have HC2 := Aside0.mk (hk.blk HC1.out hne (by simp)); clear hI hB hk HI1 HB1 HC1) | (go_at_call 30; refine (impl_dateReader_digits.calls k g s2 b2 2 x3 s3 b3 w0 _ HI2.out HB2.out A3.out).mono ?_; rintro e w' ⟨rfl, hI, hB, hk⟩; have HCa := Aside0.mk (hk.blk HC2.out hne (by simp)); have f1 := blk_frozen HCa.out 4; have c1 := (blk_cell HCa.out 4).trans rfl; have HI3 := Aside0.mk (hI.far (p := ⟨gc, 4, none⟩) (Ne.symm hne) (.int .i64 x3)); have HB3 := Aside0.mk (below_set (j := 4) (v := .int .i64 x3) hB hgc); have HC3 := Aside0.mk (blk_put HCa.out 4 (.int .i64 x3) rfl); clear hI hB hk HI2 HB2 HC2 HCa) | (go_at_call 31; refine (impl_dateReader_need.calls g s3 b3 ⟨#[58]⟩ s4 b4 w0 _ HI3.out HB3.out A4.out).mono ?_; rintro e w' ⟨rfl, hI, hB, hk⟩; (try clear f1 c1); have HI4 := Aside0.mk hI; have HB4 := Aside0.mk hB; have HC4 := Aside0.mk (hk.blk HC3.out hne (by simp)); clear hI hB hk HI3 HB3 HC3) | (go_at_call 30; refine (impl_dateReader_digits.calls k g s4 b4 2 x5 s5 b5 w0 _ HI4.out HB4.out A5.out).mono ?_; rintro e w' ⟨rfl, hI, hB, hk⟩; have HCa := Aside0.mk (hk.blk HC4.out hne (by simp)); have f1 := blk_frozen HCa.out 5; have c1 := (blk_cell HCa.out 5).trans rfl; have HI5 := Aside0.mk (hI.far (p := ⟨gc, 5, none⟩) (Ne.symm hne) (.int .i64 x5)); have HB5 := Aside0.mk (below_set (j := 5) (v := .int .i64 x5) hB hgc); have HC5 := Aside0.mk (blk_put HCa.out 5 (.int .i64 x5) rfl); clear hI hB hk HI4 HB4 HC4 HCa))
  go_end0
  exact ⟨rfl, HI5.out, HC5.out, HB5.out⟩
/-- The place of the first text that is read. -/
def impl_ReadRfc822.ix : List ByteArray → Int → ByteArray → Bool → Option (Int × ByteArray × Bool)
  | [], _, s, b => some (-1, s, b)
  | t :: ts, j, s, b => (impl_dateReader_is.f s b t).bind fun x => if x.1 = true then some (j, x.2.1, x.2.2) else impl_ReadRfc822.ix ts (j + 1) x.2.1 x.2.2
set_option maxHeartbeats 4000000 in
set_option maxRecDepth 100000 in
theorem impl_ReadRfc822.index (g gr cap n : Nat) (ts : List ByteArray) (s : ByteArray) (b : Bool) (r : Int) (s' : ByteArray) (b' : Bool) (w0 w : World) (hI : IsS45 w0 w g s b) (hB : Below w0.heap.size w0 w) (hcell : ∀ (j : Nat) x, ts[j]? = some x → w.cell? ⟨gr, j, none⟩ = some (.string x)) (hne : gr ≠ g) (hn : ts.length = n) (hl : n ≤ 100) (H : impl_ReadRfc822.ix ts 0 s b = some (r, s', b')) :
    Calls Tryd.prog 37 #[.slice (some ⟨gr, 0, none⟩) n cap, .func (.func 33) #[.pointer (some ⟨g, 0, none⟩)] #[]] w fun e w' => e = .returned (.int .i64 r) ∧ IsS45 w0 w' g s' b' ∧ Below w0.heap.size w0 w' ∧ KeepBut w w' g none := by
  have HI0 := Aside0.mk hI
  have HB0 := Aside0.mk hB
  have HN := Aside0.mk hn
  have HCE := Aside0.mk hcell
  have HH := Aside0.mk H
  clear hI hB hn hcell H
  go_enter Tryd.func37, Tryd.ntmps37
  go_wp2
  go_loopw [8] (fun v8 wr => ∃ (k : Nat) (s1 : ByteArray) (b1 : Bool), k ≤ n ∧ v8 = .int .i64 k ∧ Aside0 (IsS45 w0 wr g s1 b1) ∧ Aside0 (Below w0.heap.size w0 wr) ∧ Aside0 (KeepBut w wr g none) ∧ Aside0 (impl_ReadRfc822.ix (ts.drop k) (k : Int) s1 b1 = some (r, s', b'))) (fun v8 _ => n - (intOf v8).toNat)
  case atStart => exact ⟨0, s, b, Nat.zero_le _, rfl, HI0, HB0, ⟨KeepBut.refl _ _ _⟩, ⟨by rw [List.drop_zero]; exact HH.out⟩⟩
  case round =>
    obtain ⟨k, s1, b1, hk, rfl, HI, HB, HK, HS⟩ := hrel
    clear HI0 HB0
    by_cases hlt : k < n
    · have hkl : k < ts.length := by rw [HN.out]; exact hlt
      have hc1 : wr.cell? ⟨gr, k, none⟩ = some (.string ts[k]) := keep_cell HK.out (HCE.out k _ (List.getElem?_eq_getElem hkl)) hne
      have HS1 := HS.out
      rw [List.drop_eq_getElem_cons hkl, impl_ReadRfc822.ix] at HS1
      obtain ⟨⟨x, s2, b2⟩, ex, H2⟩ := Option.bind_eq_some_iff.1 HS1
      have EX := Aside0.mk ex
      generalize ts[k] = t at *
      clear HS1 HS ex
      cases x with
      | true =>
        replace H2 : some ((k : Int), s2, b2) = some (r, s', b') := H2
        simp only [Option.some.injEq, Prod.mk.injEq] at H2
        obtain ⟨rfl, rfl, rfl⟩ := H2
        go_wp2_with (go_at_call 33; refine (impl_dateReader_is.calls g s1 b1 t true s2 b2 w0 _ HI.out HB.out EX.out).mono ?_; rintro e w' ⟨rfl, hI, hB, hk2⟩; have HIz := Aside0.mk hI; have HBz := Aside0.mk hB; have HKz := Aside0.mk (HK.out.trans hk2 (.inl rfl)); clear hI hB hk2)
        go_ret
        exact ⟨rfl, HIz.out, HBz.out, HKz.out⟩
      | false =>
        have HS2 : Aside0 (impl_ReadRfc822.ix (ts.drop (k + 1)) ((k : Int) + 1) s2 b2 = some (r, s', b')) := ⟨H2⟩
        clear H2
        go_wp2_with (go_at_call 33; refine (impl_dateReader_is.calls g s1 b1 t false s2 b2 w0 _ HI.out HB.out EX.out).mono ?_; rintro e w' ⟨rfl, hI, hB, hk2⟩; have HIz := Aside0.mk hI; have HBz := Aside0.mk hB; have HKz := Aside0.mk (HK.out.trans hk2 (.inl rfl)); clear hI hB hk2)
        go_roundw
        case rel => exact ⟨k + 1, s2, b2, by omega, by go_num, HIz, HBz, HKz, HS2⟩
        case measure => simp [intOf]; omega
    · have hkn : k = n := by omega
      subst hkn
      have e := HS.out
      rw [List.drop_eq_nil_of_le (by rw [HN.out]; exact Nat.le_refl _)] at e
      replace e : some ((-1 : Int), s1, b1) = some (r, s', b') := e
      simp only [Option.some.injEq, Prod.mk.injEq] at e
      obtain ⟨rfl, rfl, rfl⟩ := e
      clear HS
      go_wp2
      go_ret
      exact ⟨rfl, HI.out, HB.out, HK.out⟩
/-- A new row of texts, cell by cell. -/
theorem impl_ReadRfc822.row {W : World} {base : Nat} {v : Value} {xs : List ByteArray} (h : Kd.R Kd.string 9 W base (fun _ => True) v xs) (h0 : 0 < xs.length) : ∃ gr cap, v = .slice (some ⟨gr, 0, none⟩) xs.length cap ∧ (∃ cur, W.heap[gr]? = some (.cells cur 9 (0, 0))) ∧ ∀ (j : Nat) x, xs[j]? = some x → W.cell? ⟨gr, j, none⟩ = some (.string x) := by
  obtain ⟨inner, ho⟩ := Kd.R_own h
  obtain ⟨A, c, he, _, hC⟩ := Kd.R_reads h
  rcases ho.2 with ⟨_, h1⟩ | ⟨gr, cap, cur, hv, _, hh, _⟩
  · omega
  · rw [hv] at he
    injection he with e1 e2 e3
    subst e1
    refine ⟨gr, cap, hv, ⟨cur, hh⟩, fun j x hj => ?_⟩
    obtain ⟨ad, e4, hc⟩ := hC.2.2 h0
    injection e4 with e4
    subst e4
    obtain ⟨cs, _, hk, hcell⟩ := hc j x hj
    have hk' : cs = [Value.string x] := hk
    subst hk'
    have h3 := hcell 0 (.string x) rfl
    have h4 : W.cell? ((⟨gr, 0, none⟩ : Addr).add j) = some (.string x) := by simpa [Kd.string, Kd.scalar] using h3
    have h5 : (⟨gr, 0, none⟩ : Addr).add j = ⟨gr, j, none⟩ := by
      unfold Addr.add
      by_cases h6 : j = 0
      · subst h6; rfl
      · simp [h6]
    rwa [h5] at h4
/-- The end: the stamp, the day of the week checked. -/
def impl_ReadRfc822.z4 (k : Nat) (day y m d h i c : Int) (s : ByteArray) (b : Bool) (q : Int) : Option (Int × Int) :=
  if 0 ≤ day then ((impl_CivilOK.f k y m d h i c).bind fun ok => if ok = true then ((impl_stampOf.f k y m d h i c).bind fun st => (impl_weekday.f st).bind fun wd => if wd = day then (impl_dateReader_stamp.f k s b y m d h i c q).bind fun x => some (x.1, x.2.1) else some (0, 3)) else (impl_dateReader_stamp.f k s b y m d h i c q).bind fun x => some (x.1, x.2.1)) else (impl_dateReader_stamp.f k s b y m d h i c q).bind fun x => some (x.1, x.2.1)
def impl_ReadRfc822.z3z (k : Nat) (day y m d h i c : Int) (fl : Bool) (s : ByteArray) (b : Bool) : Option (Int × Int) :=
  if fl = true then (impl_dateReader_zone.f k s b ⟨#[]⟩).bind fun z => impl_ReadRfc822.z4 k day y m d h i c z.2.1 z.2.2 z.1 else impl_ReadRfc822.z4 k day y m d h i c s b 0
def impl_ReadRfc822.z3 (k : Nat) (day y m d h i c : Int) (s : ByteArray) (b : Bool) : Option (Int × Int) :=
  (impl_dateReader_is.f s b ⟨#[71, 77, 84]⟩).bind fun p => if p.1 = true then impl_ReadRfc822.z3z k day y m d h i c false p.2.1 p.2.2 else (impl_dateReader_is.f p.2.1 p.2.2 ⟨#[85, 84]⟩).bind fun u => impl_ReadRfc822.z3z k day y m d h i c (!u.1) u.2.1 u.2.2
def impl_ReadRfc822.mns : List ByteArray := [(⟨#[74, 97, 110]⟩ : ByteArray), (⟨#[70, 101, 98]⟩ : ByteArray), (⟨#[77, 97, 114]⟩ : ByteArray), (⟨#[65, 112, 114]⟩ : ByteArray), (⟨#[77, 97, 121]⟩ : ByteArray), (⟨#[74, 117, 110]⟩ : ByteArray), (⟨#[74, 117, 108]⟩ : ByteArray), (⟨#[65, 117, 103]⟩ : ByteArray), (⟨#[83, 101, 112]⟩ : ByteArray), (⟨#[79, 99, 116]⟩ : ByteArray), (⟨#[78, 111, 118]⟩ : ByteArray), (⟨#[68, 101, 99]⟩ : ByteArray)]
def impl_ReadRfc822.wds : List ByteArray := [(⟨#[83, 117, 110]⟩ : ByteArray), (⟨#[77, 111, 110]⟩ : ByteArray), (⟨#[84, 117, 101]⟩ : ByteArray), (⟨#[87, 101, 100]⟩ : ByteArray), (⟨#[84, 104, 117]⟩ : ByteArray), (⟨#[70, 114, 105]⟩ : ByteArray), (⟨#[83, 97, 116]⟩ : ByteArray)]
def impl_ReadRfc822.z2 (k : Nat) (day d : Int) (s : ByteArray) (b : Bool) : Option (Int × Int) :=
  (impl_dateReader_need.f s b ⟨#[32]⟩).bind fun n1 => (impl_ReadRfc822.ix impl_ReadRfc822.mns 0 n1.1 n1.2).bind fun m => if m.1 ≤ 100 ∧ -1 ≤ m.1 then (impl_dateReader_need.f m.2.1 m.2.2 ⟨#[32]⟩).bind fun n2 => (impl_dateReader_digits.f k n2.1 n2.2 4).bind fun y => (impl_dateReader_need.f y.2.1 y.2.2 ⟨#[32]⟩).bind fun n3 => (impl_ReadRfc822.clk k n3.1 n3.2).bind fun c => (impl_dateReader_need.f c.2.2.2.1 c.2.2.2.2 ⟨#[32]⟩).bind fun n4 => impl_ReadRfc822.z3 k day y.1 (m.1 + 1) d c.1 c.2.1 c.2.2.1 n4.1 n4.2 else none
def impl_ReadRfc822.z1 (k : Nat) (day : Int) (s : ByteArray) (b : Bool) : Option (Int × Int) :=
  (impl_dateReader_digitsHere.f k s b).bind fun n => if n.1 = 1 then (impl_dateReader_digits.f k n.2.1 n.2.2 1).bind fun d => impl_ReadRfc822.z2 k day d.1 d.2.1 d.2.2 else (impl_dateReader_digits.f k n.2.1 n.2.2 2).bind fun d => impl_ReadRfc822.z2 k day d.1 d.2.1 d.2.2
def impl_ReadRfc822.fk (k : Nat) (a0 : ByteArray) : Option (Int × Int) := if (a0.size : Int) > 65536 then some (0, 2) else
  (impl_ReadRfc822.ix impl_ReadRfc822.wds 0 a0 false).bind fun x => if 0 ≤ x.1 then (impl_dateReader_need.f x.2.1 x.2.2 ⟨#[44, 32]⟩).bind fun n => impl_ReadRfc822.z1 k x.1 n.1 n.2 else impl_ReadRfc822.z1 k x.1 x.2.1 x.2.2
open Classical in
noncomputable def impl_ReadRfc822.f (a0 : ByteArray) : Option (Int × Int) := if h : ∃ r, Ev (fun k => impl_ReadRfc822.fk k a0) r then some h.choose else none
theorem impl_ReadRfc822.of_f {a0 : ByteArray} {r : Int × Int} (h : impl_ReadRfc822.f a0 = some r) : ∃ k, impl_ReadRfc822.fk k a0 = some r := by
  unfold impl_ReadRfc822.f at h
  by_cases hx : ∃ r, Ev (fun k => impl_ReadRfc822.fk k a0) r
  · rw [dif_pos hx] at h
    obtain rfl := Option.some.inj h
    obtain ⟨K, hK⟩ := hx.choose_spec
    exact ⟨K, hK K (Nat.le_refl _)⟩
  · rw [dif_neg hx] at h
    cases h
theorem impl_ReadRfc822.f_of {a0 : ByteArray} {r : Int × Int} (h : Ev (fun k => impl_ReadRfc822.fk k a0) r) : impl_ReadRfc822.f a0 = some r := by
  have hx : ∃ r, Ev (fun k => impl_ReadRfc822.fk k a0) r := ⟨r, h⟩
  unfold impl_ReadRfc822.f
  rw [dif_pos hx]
  obtain ⟨K1, h1⟩ := hx.choose_spec
  obtain ⟨K2, h2⟩ := h
  rw [← h1 (max K1 K2) (Nat.le_max_left _ _), ← h2 (max K1 K2) (Nat.le_max_right _ _)]
set_option maxHeartbeats 16000000 in
set_option maxRecDepth 100000 in
theorem impl_ReadRfc822.calls (a0 : ByteArray) (r1 r2 : Int) (w : World) (h : impl_ReadRfc822.f a0 = some (r1, r2)) :
    Calls Tryd.prog 12 #[.string a0] w fun e w' => e = .returned (.tuple #[.int .i64 r1, .int .i64 r2]) ∧ Below w.heap.size w w' := by
  obtain ⟨k, H⟩ := impl_ReadRfc822.of_f h
  clear h
  unfold impl_ReadRfc822.fk at H
  by_cases c2 : (a0.size : Int) > 65536
  · rw [if_pos c2] at H
    have c2b0 : decide (65536 < (a0.size : Int)) = true := decide_eq_true c2
    simp only [Option.some.injEq, Prod.mk.injEq] at H
    obtain ⟨rfl, rfl⟩ := H
    go_enter Tryd.func12, Tryd.ntmps12
    go_wp2
    go_ret2
    exact ⟨rfl, Below.refl _ _⟩
  · rw [if_neg c2] at H
    have c2b0 : decide (65536 < (a0.size : Int)) = false := decide_eq_false c2
    obtain ⟨⟨day, s1, b1⟩, e1, H⟩ := Option.bind_eq_some_iff.1 H
    have A1 := Aside0.mk e1
    have HZ := Aside0.mk H
    clear e1 c2 H
    have hne : w.heap.size + 1 ≠ w.heap.size := by omega
    have hgc : w.heap.size ≤ w.heap.size + 1 := by omega
    have HI0 : Aside0 (IsS45 w ((w.alloc (.cells #[.string a0, .bool false] 45)).alloc (.cells #[.int .i64 0, .int .i64 0, .int .i64 0, .int .i64 0, .int .i64 0, .int .i64 0] 33)) w.heap.size a0 false) := ⟨(IsS45.new w w a0 false (Below.refl _ _)).alloc _⟩
    have HC0 : Aside0 (((w.alloc (.cells #[.string a0, .bool false] 45)).alloc (.cells #[.int .i64 0, .int .i64 0, .int .i64 0, .int .i64 0, .int .i64 0, .int .i64 0] 33)).heap[w.heap.size + 1]? = some (.cells #[.int .i64 0, .int .i64 0, .int .i64 0, .int .i64 0, .int .i64 0, .int .i64 0] 33 (0, 0))) := ⟨by
      have e_ := blk_new (w.alloc (.cells #[.string a0, .bool false] 45)) (.cells #[.int .i64 0, .int .i64 0, .int .i64 0, .int .i64 0, .int .i64 0, .int .i64 0] 33)
      rwa [show (w.alloc (.cells #[.string a0, .bool false] 45)).heap.size = w.heap.size + 1 by show (w.heap.push _).size = _; rw [Array.size_push]] at e_⟩
    have HB0 : Aside0 (Below w.heap.size w ((w.alloc (.cells #[.string a0, .bool false] 45)).alloc (.cells #[.int .i64 0, .int .i64 0, .int .i64 0, .int .i64 0, .int .i64 0, .int .i64 0] 33))) := ⟨below_alloc (below_alloc (Below.refl _ w) _) _⟩
    go_enter Tryd.func12, Tryd.ntmps12
    go_upto_if 19 with (first | (go_at_call 25; refine (impl_weekdays.calls _ _ rfl).mono ?_; rintro e w' ⟨v0, rfl, hR, hb⟩; obtain ⟨gr, cap, rfl, ⟨cur, hcur⟩, hce⟩ := impl_ReadRfc822.row hR (by decide); have hgr : gr ≠ w.heap.size := (fun e_ => by subst e_; have h1_ := hcur; rw [(HI0.out.below hb).1] at h1_; injection h1_ with h1_; injection h1_ with _ h1_; cases h1_); have HI1 := Aside0.mk (HI0.out.below hb); have HB1 := Aside0.mk (below_step HB0.out hb); have HC1 := Aside0.mk (blk_below HC0.out hb); have HCE := Aside0.mk hce; clear hce hcur hb hR HI0 HB0 HC0) | (go_at_call 37; refine (impl_ReadRfc822.index w.heap.size gr cap 7 impl_ReadRfc822.wds a0 false day s1 b1 w _ HI1.out HB1.out HCE.out hgr rfl (by decide) A1.out).mono ?_; rintro e w' ⟨rfl, hI, hB, hk⟩; have HI2 := Aside0.mk hI; have HB2 := Aside0.mk hB; have HC2 := Aside0.mk (hk.blk HC1.out hne (by simp)); clear hI hB hk HI1 HB1 HC1 HCE))
    go_cut [20] (fun v20 wc => ∃ (s : ByteArray) (b : Bool), Aside0 (IsS45 w wc w.heap.size s b) ∧ Aside0 (Below w.heap.size w wc) ∧ Aside0 (wc.heap[w.heap.size + 1]? = some (.cells #[.int .i64 0, .int .i64 0, .int .i64 0, .int .i64 0, .int .i64 0, .int .i64 0] 33 (0, 0))) ∧ Aside0 (impl_ReadRfc822.z1 k day s b = some (r1, r2)))
    case first =>
      have H := HZ.out
      by_cases hd : 0 ≤ day
      · obtain ⟨⟨s2, b2⟩, e2, H⟩ := Option.bind_eq_some_iff.1 (show (impl_dateReader_need.f s1 b1 ⟨#[44, 32]⟩).bind (fun n => impl_ReadRfc822.z1 k day n.1 n.2) = some (r1, r2) by rw [← H]; exact (if_pos hd).symm)
        have A2 := Aside0.mk e2
        have H' := Aside0.mk H
        have hdb : decide (0 ≤ day) = true := decide_eq_true hd
        clear e2 H HZ
        (first | rw [hdb] | skip)
        go_wp2_with (first | (go_at_call 31; refine (impl_dateReader_need.calls w.heap.size s1 b1 ⟨#[44, 32]⟩ s2 b2 w _ HI2.out HB2.out A2.out).mono ?_; rintro e w' ⟨rfl, hI, hB, hk⟩; (try clear f1 c1); have HI3 := Aside0.mk hI; have HB3 := Aside0.mk hB; have HC3 := Aside0.mk (hk.blk HC2.out hne (by simp)); clear hI hB hk HI2 HB2 HC2))
        go_meet
        case rel => exact ⟨s2, b2, HI3, HB3, HC3, H'⟩
      · have H' : Aside0 (impl_ReadRfc822.z1 k day s1 b1 = some (r1, r2)) := ⟨by rw [← H]; exact (if_neg hd).symm⟩
        have hdb : decide (0 ≤ day) = false := decide_eq_false hd
        clear H HZ
        (first | rw [hdb] | skip)
        go_wp2
        go_meet
        case rel => exact ⟨s1, b1, HI2, HB2, HC2, H'⟩
    case rest =>
      clear HI2 HB2 HC2 HZ A1
      obtain ⟨s, b, HI0, HB0, HC0, HZ⟩ := hcut
      have H := HZ.out
      clear HZ
      obtain ⟨⟨n, s3, b3⟩, e3, H⟩ := Option.bind_eq_some_iff.1 H
      have A3 := Aside0.mk e3
      have HZ := Aside0.mk H
      clear e3 H
      go_upto_if 23 with (first | (go_at_call 34; refine (impl_dateReader_digitsHere.calls k w.heap.size s b n s3 b3 w _ HI0.out HB0.out A3.out).mono ?_; rintro e w' ⟨rfl, hI, hB, hk⟩; have HI1 := Aside0.mk hI; have HB1 := Aside0.mk hB; have HC1 := Aside0.mk (hk.blk HC0.out hne (by simp)); clear hI hB hk HI0 HB0 HC0))
      go_cut [24] (fun v24 wc => ∃ (d : Int) (s : ByteArray) (b : Bool), Aside0 (IsS45 w wc w.heap.size s b) ∧ Aside0 (Below w.heap.size w wc) ∧ Aside0 (wc.heap[w.heap.size + 1]? = some (.cells #[.int .i64 0, .int .i64 0, .int .i64 d, .int .i64 0, .int .i64 0, .int .i64 0] 33 (0, 0))) ∧ Aside0 (impl_ReadRfc822.z2 k day d s b = some (r1, r2)))
      case first =>
        have H := HZ.out
        by_cases hn : n = 1
        · obtain ⟨⟨d, s4, b4⟩, e4, H⟩ := Option.bind_eq_some_iff.1 (show (impl_dateReader_digits.f k s3 b3 1).bind (fun d => impl_ReadRfc822.z2 k day d.1 d.2.1 d.2.2) = some (r1, r2) by rw [← H]; exact (if_pos hn).symm)
          have A4 := Aside0.mk e4
          have H' := Aside0.mk H
          have hnb : (n == 1) = true := beq_iff_eq.2 hn
          clear e4 H HZ hn
          (first | rw [hnb] | skip)
          go_wp2_with (first | (go_at_call 30; refine (impl_dateReader_digits.calls k w.heap.size s3 b3 1 d s4 b4 w _ HI1.out HB1.out A4.out).mono ?_; rintro e w' ⟨rfl, hI, hB, hk⟩; have HCa := Aside0.mk (hk.blk HC1.out hne (by simp)); have f1 := blk_frozen HCa.out 2; have c1 := (blk_cell HCa.out 2).trans rfl; have HI2 := Aside0.mk (hI.far (p := ⟨(w.heap.size + 1), 2, none⟩) (Ne.symm hne) (.int .i64 d)); have HB2 := Aside0.mk (below_set (j := 2) (v := .int .i64 d) hB hgc); have HC2 := Aside0.mk (blk_put HCa.out 2 (.int .i64 d) rfl); clear hI hB hk HI1 HB1 HC1 HCa))
          go_meet
          case rel => exact ⟨d, s4, b4, HI2, HB2, HC2, H'⟩
        · obtain ⟨⟨d, s4, b4⟩, e4, H⟩ := Option.bind_eq_some_iff.1 (show (impl_dateReader_digits.f k s3 b3 2).bind (fun d => impl_ReadRfc822.z2 k day d.1 d.2.1 d.2.2) = some (r1, r2) by rw [← H]; exact (if_neg hn).symm)
          have A4 := Aside0.mk e4
          have H' := Aside0.mk H
          have hnb : (n == 1) = false := beq_eq_false_iff_ne.2 hn
          clear e4 H HZ hn
          (first | rw [hnb] | skip)
          go_wp2_with (first | (go_at_call 30; refine (impl_dateReader_digits.calls k w.heap.size s3 b3 2 d s4 b4 w _ HI1.out HB1.out A4.out).mono ?_; rintro e w' ⟨rfl, hI, hB, hk⟩; have HCa := Aside0.mk (hk.blk HC1.out hne (by simp)); have f1 := blk_frozen HCa.out 2; have c1 := (blk_cell HCa.out 2).trans rfl; have HI2 := Aside0.mk (hI.far (p := ⟨(w.heap.size + 1), 2, none⟩) (Ne.symm hne) (.int .i64 d)); have HB2 := Aside0.mk (below_set (j := 2) (v := .int .i64 d) hB hgc); have HC2 := Aside0.mk (blk_put HCa.out 2 (.int .i64 d) rfl); clear hI hB hk HI1 HB1 HC1 HCa))
          go_meet
          case rel => exact ⟨d, s4, b4, HI2, HB2, HC2, H'⟩
      case rest =>
        clear HI1 HB1 HC1 HZ A3
        obtain ⟨d, s, b, HI0, HB0, HC0, HZ⟩ := hcut
        have H := HZ.out
        clear HZ
        obtain ⟨⟨s1, b1⟩, e1, H⟩ := Option.bind_eq_some_iff.1 H
        obtain ⟨⟨m, s2, b2⟩, e2, H⟩ := Option.bind_eq_some_iff.1 H
        by_cases hm : m ≤ 100 ∧ -1 ≤ m
        rotate_left
        · have e_ : (none : Option (Int × Int)) = some (r1, r2) := by rw [← H]; exact (if_neg hm).symm
          cases e_
        replace H := (if_pos (α := Option (Int × Int)) hm).symm.trans H
        obtain ⟨hm1, hm2⟩ := hm
        obtain ⟨⟨s3, b3⟩, e3, H⟩ := Option.bind_eq_some_iff.1 H
        obtain ⟨⟨y, s4, b4⟩, e4, H⟩ := Option.bind_eq_some_iff.1 H
        obtain ⟨⟨s5, b5⟩, e5, H⟩ := Option.bind_eq_some_iff.1 H
        obtain ⟨⟨hh, mi, se, s6, b6⟩, e6, H⟩ := Option.bind_eq_some_iff.1 H
        obtain ⟨⟨s7, b7⟩, e7, H⟩ := Option.bind_eq_some_iff.1 H
        have A1 := Aside0.mk e1
        have A2 := Aside0.mk e2
        have A3 := Aside0.mk e3
        have A4 := Aside0.mk e4
        have A5 := Aside0.mk e5
        have A6 := Aside0.mk e6
        have A7 := Aside0.mk e7
        have HZ := Aside0.mk H
        clear e1 e2 e3 e4 e5 e6 e7 H
        go_upto_region 19 with (first | (go_at_call 31; refine (impl_dateReader_need.calls w.heap.size s b ⟨#[32]⟩ s1 b1 w _ HI0.out HB0.out A1.out).mono ?_; rintro e w' ⟨rfl, hI, hB, hk⟩; (try clear f1 c1); have HI1 := Aside0.mk hI; have HB1 := Aside0.mk hB; have HC1 := Aside0.mk (hk.blk HC0.out hne (by simp)); clear hI hB hk HI0 HB0 HC0) | (go_at_call 27; refine (impl_months.calls _ _ rfl).mono ?_; rintro e w' ⟨v0, rfl, hR, hb⟩; obtain ⟨gr, cap, rfl, ⟨cur, hcur⟩, hce⟩ := impl_ReadRfc822.row hR (by decide); have hgr : gr ≠ w.heap.size := (fun e_ => by subst e_; have h1_ := hcur; rw [(HI1.out.below hb).1] at h1_; injection h1_ with h1_; injection h1_ with _ h1_; cases h1_); have HI2 := Aside0.mk (HI1.out.below hb); have HB2 := Aside0.mk (below_step HB1.out hb); have HC2 := Aside0.mk (blk_below HC1.out hb); have HCE := Aside0.mk hce; clear hce hcur hb hR HI1 HB1 HC1) | (go_at_call 37; refine (impl_ReadRfc822.index w.heap.size gr cap 12 impl_ReadRfc822.mns s1 b1 m s2 b2 w _ HI2.out HB2.out HCE.out hgr rfl (by decide) A2.out).mono ?_; rintro e w' ⟨rfl, hI, hB, hk⟩; have HCa := Aside0.mk (hk.blk HC2.out hne (by simp)); have f1 := blk_frozen HCa.out 1; have c1 := (blk_cell HCa.out 1).trans rfl; have HI3 := Aside0.mk (hI.far (p := ⟨(w.heap.size + 1), 1, none⟩) (Ne.symm hne) (.int .i64 (m + 1))); have HB3 := Aside0.mk (below_set (j := 1) (v := .int .i64 (m + 1)) hB hgc); have HC3 := Aside0.mk (blk_put HCa.out 1 (.int .i64 (m + 1)) rfl); clear hI hB hk HI2 HB2 HC2 HCa HCE) | (go_at_call 31; refine (impl_dateReader_need.calls w.heap.size s2 b2 ⟨#[32]⟩ s3 b3 w _ HI3.out HB3.out A3.out).mono ?_; rintro e w' ⟨rfl, hI, hB, hk⟩; (try clear f1 c1); have HI4 := Aside0.mk hI; have HB4 := Aside0.mk hB; have HC4 := Aside0.mk (hk.blk HC3.out hne (by simp)); clear hI hB hk HI3 HB3 HC3) | (go_at_call 30; refine (impl_dateReader_digits.calls k w.heap.size s3 b3 4 y s4 b4 w _ HI4.out HB4.out A4.out).mono ?_; rintro e w' ⟨rfl, hI, hB, hk⟩; have HCa := Aside0.mk (hk.blk HC4.out hne (by simp)); have f1 := blk_frozen HCa.out 0; have c1 := (blk_cell HCa.out 0).trans rfl; have HI5 := Aside0.mk (hI.far (p := ⟨(w.heap.size + 1), 0, none⟩) (Ne.symm hne) (.int .i64 y)); have HB5 := Aside0.mk (below_set (j := 0) (v := .int .i64 y) hB hgc); have HC5 := Aside0.mk (blk_put HCa.out 0 (.int .i64 y) rfl); clear hI hB hk HI4 HB4 HC4 HCa) | (go_at_call 31; refine (impl_dateReader_need.calls w.heap.size s4 b4 ⟨#[32]⟩ s5 b5 w _ HI5.out HB5.out A5.out).mono ?_; rintro e w' ⟨rfl, hI, hB, hk⟩; (try clear f1 c1); have HI6 := Aside0.mk hI; have HB6 := Aside0.mk hB; have HC6 := Aside0.mk (hk.blk HC5.out hne (by simp)); clear hI hB hk HI5 HB5 HC5) | (go_at_call 32; refine (impl_ReadRfc822.clock k w.heap.size (w.heap.size + 1) s5 b5 y (m + 1) d 0 0 0 hh mi se s6 b6 w _ HI6.out HC6.out hne hgc HB6.out A6.out).mono ?_; rintro e w' ⟨rfl, hI, hC, hB⟩; have HI7 := Aside0.mk hI; have HB7 := Aside0.mk hB; have HC7 := Aside0.mk hC; clear hI hB hC HI6 HB6 HC6) | (go_at_call 31; refine (impl_dateReader_need.calls w.heap.size s6 b6 ⟨#[32]⟩ s7 b7 w _ HI7.out HB7.out A7.out).mono ?_; rintro e w' ⟨rfl, hI, hB, hk⟩; (try clear f1 c1); have HI8 := Aside0.mk hI; have HB8 := Aside0.mk hB; have HC8 := Aside0.mk (hk.blk HC7.out hne (by simp)); clear hI hB hk HI7 HB7 HC7))
        go_cut [45] (fun v45 wc => ∃ (fl : Bool) (s : ByteArray) (b : Bool), v45 = .bool fl ∧ Aside0 (IsS45 w wc w.heap.size s b) ∧ Aside0 (Below w.heap.size w wc) ∧ Aside0 (wc.heap[w.heap.size + 1]? = some (.cells #[.int .i64 y, .int .i64 (m + 1), .int .i64 d, .int .i64 hh, .int .i64 mi, .int .i64 se] 33 (0, 0))) ∧ Aside0 (impl_ReadRfc822.z3z k day y (m + 1) d hh mi se fl s b = some (r1, r2)))
        case first =>
          obtain ⟨⟨p, s8, b8⟩, e8, H⟩ := Option.bind_eq_some_iff.1 HZ.out
          have A8 := Aside0.mk e8
          clear e8 HZ
          cases p with
          | true =>
            have H' : Aside0 (impl_ReadRfc822.z3z k day y (m + 1) d hh mi se false s8 b8 = some (r1, r2)) := ⟨H⟩
            clear H
            go_wp2_with (first | (go_at_call 33; refine (impl_dateReader_is.calls w.heap.size s7 b7 ⟨#[71, 77, 84]⟩ true s8 b8 w _ HI8.out HB8.out A8.out).mono ?_; rintro e w' ⟨rfl, hI, hB, hk⟩; have HI9 := Aside0.mk hI; have HB9 := Aside0.mk hB; have HC9 := Aside0.mk (hk.blk HC8.out hne (by simp)); clear hI hB hk HI8 HB8 HC8))
            go_meet
            case rel => exact ⟨false, s8, b8, rfl, HI9, HB9, HC9, H'⟩
          | false =>
            obtain ⟨⟨u, s9, b9⟩, e9, H⟩ := Option.bind_eq_some_iff.1 (show (impl_dateReader_is.f s8 b8 ⟨#[85, 84]⟩).bind (fun u => impl_ReadRfc822.z3z k day y (m + 1) d hh mi se (!u.1) u.2.1 u.2.2) = some (r1, r2) from H)
            have A9 := Aside0.mk e9
            have H' : Aside0 (impl_ReadRfc822.z3z k day y (m + 1) d hh mi se (!u) s9 b9 = some (r1, r2)) := ⟨H⟩
            clear e9 H
            go_wp2_with (first | (go_at_call 33; refine (impl_dateReader_is.calls w.heap.size s7 b7 ⟨#[71, 77, 84]⟩ false s8 b8 w _ HI8.out HB8.out A8.out).mono ?_; rintro e w' ⟨rfl, hI, hB, hk⟩; have HI9 := Aside0.mk hI; have HB9 := Aside0.mk hB; have HC9 := Aside0.mk (hk.blk HC8.out hne (by simp)); clear hI hB hk HI8 HB8 HC8) | (go_at_call 33; refine (impl_dateReader_is.calls w.heap.size s8 b8 ⟨#[85, 84]⟩ u s9 b9 w _ HI9.out HB9.out A9.out).mono ?_; rintro e w' ⟨rfl, hI, hB, hk⟩; have HI10 := Aside0.mk hI; have HB10 := Aside0.mk hB; have HC10 := Aside0.mk (hk.blk HC9.out hne (by simp)); clear hI hB hk HI9 HB9 HC9))
            go_meet
            case rel => exact ⟨!u, s9, b9, by first | rfl | (simp; done) | (cases u <;> rfl), HI10, HB10, HC10, H'⟩
        case rest =>
          clear HI8 HB8 HC8 HZ A1 A2 A3 A4 A5 A6 A7
          obtain ⟨fl, s, b, rfl, HI0, HB0, HC0, HZ⟩ := hcut
          go_upto_if 45 with (fail)
          go_cut [8] (fun v8 wc => ∃ (q : Int) (s : ByteArray) (b : Bool), v8 = .int .i64 q ∧ Aside0 (IsS45 w wc w.heap.size s b) ∧ Aside0 (Below w.heap.size w wc) ∧ Aside0 (wc.heap[w.heap.size + 1]? = some (.cells #[.int .i64 y, .int .i64 (m + 1), .int .i64 d, .int .i64 hh, .int .i64 mi, .int .i64 se] 33 (0, 0))) ∧ Aside0 (impl_ReadRfc822.z4 k day y (m + 1) d hh mi se s b q = some (r1, r2)))
          case first =>
            cases fl with
            | true =>
              obtain ⟨⟨q, s2, b2⟩, e2, H⟩ := Option.bind_eq_some_iff.1 (show (impl_dateReader_zone.f k s b ⟨#[]⟩).bind (fun z => impl_ReadRfc822.z4 k day y (m + 1) d hh mi se z.2.1 z.2.2 z.1) = some (r1, r2) from HZ.out)
              have A2 := Aside0.mk e2
              have H' := Aside0.mk H
              clear e2 H HZ
              go_wp2_with (first | (go_at_call 35; refine (impl_dateReader_zone.calls k w.heap.size s b ⟨#[]⟩ q s2 b2 w _ HI0.out HB0.out A2.out).mono ?_; rintro e w' ⟨rfl, hI, hB, hk⟩; have HI1 := Aside0.mk hI; have HB1 := Aside0.mk hB; have HC1 := Aside0.mk (hk.blk HC0.out hne (by simp)); clear hI hB hk HI0 HB0 HC0))
              go_meet
              case rel => exact ⟨q, s2, b2, rfl, HI1, HB1, HC1, H'⟩
            | false =>
              have H' : Aside0 (impl_ReadRfc822.z4 k day y (m + 1) d hh mi se s b 0 = some (r1, r2)) := ⟨HZ.out⟩
              clear HZ
              go_wp2
              go_meet
              case rel => exact ⟨0, s, b, rfl, HI0, HB0, HC0, H'⟩
          case rest =>
            clear HI0 HB0 HC0 HZ
            obtain ⟨q, s, b, rfl, HI0, HB0, HC0, HZ⟩ := hcut
            have H := HZ.out
            clear HZ
            have ca0 := (blk_cell HC0.out 0).trans rfl
            have ca1 := (blk_cell HC0.out 1).trans rfl
            have ca2 := (blk_cell HC0.out 2).trans rfl
            have ca3 := (blk_cell HC0.out 3).trans rfl
            have ca4 := (blk_cell HC0.out 4).trans rfl
            have ca5 := (blk_cell HC0.out 5).trans rfl
            by_cases hd : 0 ≤ day
            · have hdb : decide (0 ≤ day) = true := decide_eq_true hd
              obtain ⟨ok, e1, H⟩ := Option.bind_eq_some_iff.1 ((if_pos (α := Option (Int × Int)) hd).symm.trans H)
              have AK := Aside0.mk e1
              clear e1
              cases ok with
              | true =>
                obtain ⟨st, e2, H⟩ := Option.bind_eq_some_iff.1 (show (impl_stampOf.f k y (m + 1) d hh mi se).bind (fun st => (impl_weekday.f st).bind fun wd => if wd = day then (impl_dateReader_stamp.f k s b y (m + 1) d hh mi se q).bind (fun x => some (x.1, x.2.1)) else some (0, 3)) = some (r1, r2) from H)
                obtain ⟨wd, e3, H⟩ := Option.bind_eq_some_iff.1 H
                have AS := Aside0.mk e2
                have AW := Aside0.mk e3
                clear e2 e3
                by_cases hw : wd = day
                · have hwb : (wd != day) = false := bne_eq_false_iff_eq.2 hw
                  replace H := (if_pos (α := Option (Int × Int)) hw).symm.trans H
                  clear hw
                  obtain ⟨⟨y1, y2, y3, y4⟩, ey, H⟩ := Option.bind_eq_some_iff.1 H
                  have AY := Aside0.mk ey
                  simp only [Option.some.injEq, Prod.mk.injEq] at H
                  obtain ⟨rfl, rfl⟩ := H
                  clear ey
                  go_wp2_with (first | (go_at_call 38; refine (impl_CivilOK.calls k y (m + 1) d hh mi se true _ AK.out).mono ?_; rintro e w' ⟨rfl, hb⟩; have HI1 := Aside0.mk (HI0.out.below hb); have HB1 := Aside0.mk (below_step HB0.out hb); have HC1 := Aside0.mk (blk_below HC0.out hb); have ca0 := (blk_cell HC1.out 0).trans rfl; have ca1 := (blk_cell HC1.out 1).trans rfl; have ca2 := (blk_cell HC1.out 2).trans rfl; have ca3 := (blk_cell HC1.out 3).trans rfl; have ca4 := (blk_cell HC1.out 4).trans rfl; have ca5 := (blk_cell HC1.out 5).trans rfl; clear hb HI0 HB0 HC0) | (go_at_call 39; refine (impl_stampOf.calls k y (m + 1) d hh mi se st _ AS.out).mono ?_; rintro e w' ⟨rfl, hb⟩; have HI2 := Aside0.mk (HI1.out.below hb); have HB2 := Aside0.mk (below_step HB1.out hb); have HC2 := Aside0.mk (blk_below HC1.out hb); have ca0 := (blk_cell HC2.out 0).trans rfl; have ca1 := (blk_cell HC2.out 1).trans rfl; have ca2 := (blk_cell HC2.out 2).trans rfl; have ca3 := (blk_cell HC2.out 3).trans rfl; have ca4 := (blk_cell HC2.out 4).trans rfl; have ca5 := (blk_cell HC2.out 5).trans rfl; clear hb HI1 HB1 HC1) | (go_at_call 26; refine (impl_weekday.calls st wd _ AW.out).mono ?_; rintro e w' ⟨rfl, ⟨nd, rfl⟩⟩; have HI3 := Aside0.mk (HI2.out.drewN nd); have HB3 := Aside0.mk (pw_below_drewN HB2.out nd); have HC3 := Aside0.mk (blk_drewN HC2.out nd); have ca0 := (blk_cell HC3.out 0).trans rfl; have ca1 := (blk_cell HC3.out 1).trans rfl; have ca2 := (blk_cell HC3.out 2).trans rfl; have ca3 := (blk_cell HC3.out 3).trans rfl; have ca4 := (blk_cell HC3.out 4).trans rfl; have ca5 := (blk_cell HC3.out 5).trans rfl; clear HI2 HB2 HC2) | (go_at_call 36; refine (impl_dateReader_stamp.calls k w.heap.size s b y (m + 1) d hh mi se q y1 y2 y3 y4 w _ HI3.out HB3.out AY.out).mono ?_; rintro e w' ⟨rfl, hI, hB, hk⟩; have HBz := Aside0.mk hB; clear hI hB hk))
                  go_ret2
                  exact ⟨rfl, HBz.out⟩
                · have hwb : (wd != day) = true := bne_iff_ne.2 hw
                  replace H := (if_neg (α := Option (Int × Int)) hw).symm.trans H
                  clear hw
                  simp only [Option.some.injEq, Prod.mk.injEq] at H
                  obtain ⟨rfl, rfl⟩ := H
                  go_wp2_with (first | (go_at_call 38; refine (impl_CivilOK.calls k y (m + 1) d hh mi se true _ AK.out).mono ?_; rintro e w' ⟨rfl, hb⟩; have HI1 := Aside0.mk (HI0.out.below hb); have HB1 := Aside0.mk (below_step HB0.out hb); have HC1 := Aside0.mk (blk_below HC0.out hb); have ca0 := (blk_cell HC1.out 0).trans rfl; have ca1 := (blk_cell HC1.out 1).trans rfl; have ca2 := (blk_cell HC1.out 2).trans rfl; have ca3 := (blk_cell HC1.out 3).trans rfl; have ca4 := (blk_cell HC1.out 4).trans rfl; have ca5 := (blk_cell HC1.out 5).trans rfl; clear hb HI0 HB0 HC0) | (go_at_call 39; refine (impl_stampOf.calls k y (m + 1) d hh mi se st _ AS.out).mono ?_; rintro e w' ⟨rfl, hb⟩; have HI2 := Aside0.mk (HI1.out.below hb); have HB2 := Aside0.mk (below_step HB1.out hb); have HC2 := Aside0.mk (blk_below HC1.out hb); have ca0 := (blk_cell HC2.out 0).trans rfl; have ca1 := (blk_cell HC2.out 1).trans rfl; have ca2 := (blk_cell HC2.out 2).trans rfl; have ca3 := (blk_cell HC2.out 3).trans rfl; have ca4 := (blk_cell HC2.out 4).trans rfl; have ca5 := (blk_cell HC2.out 5).trans rfl; clear hb HI1 HB1 HC1) | (go_at_call 26; refine (impl_weekday.calls st wd _ AW.out).mono ?_; rintro e w' ⟨rfl, ⟨nd, rfl⟩⟩; have HI3 := Aside0.mk (HI2.out.drewN nd); have HB3 := Aside0.mk (pw_below_drewN HB2.out nd); have HC3 := Aside0.mk (blk_drewN HC2.out nd); have ca0 := (blk_cell HC3.out 0).trans rfl; have ca1 := (blk_cell HC3.out 1).trans rfl; have ca2 := (blk_cell HC3.out 2).trans rfl; have ca3 := (blk_cell HC3.out 3).trans rfl; have ca4 := (blk_cell HC3.out 4).trans rfl; have ca5 := (blk_cell HC3.out 5).trans rfl; clear HI2 HB2 HC2))
                  go_ret2
                  exact ⟨rfl, HB3.out⟩
              | false =>
                replace H : (impl_dateReader_stamp.f k s b y (m + 1) d hh mi se q).bind (fun x => some (x.1, x.2.1)) = some (r1, r2) := H
                obtain ⟨⟨y1, y2, y3, y4⟩, ey, H⟩ := Option.bind_eq_some_iff.1 H
                have AY := Aside0.mk ey
                simp only [Option.some.injEq, Prod.mk.injEq] at H
                obtain ⟨rfl, rfl⟩ := H
                clear ey
                go_wp2_with (first | (go_at_call 38; refine (impl_CivilOK.calls k y (m + 1) d hh mi se false _ AK.out).mono ?_; rintro e w' ⟨rfl, hb⟩; have HI1 := Aside0.mk (HI0.out.below hb); have HB1 := Aside0.mk (below_step HB0.out hb); have HC1 := Aside0.mk (blk_below HC0.out hb); have ca0 := (blk_cell HC1.out 0).trans rfl; have ca1 := (blk_cell HC1.out 1).trans rfl; have ca2 := (blk_cell HC1.out 2).trans rfl; have ca3 := (blk_cell HC1.out 3).trans rfl; have ca4 := (blk_cell HC1.out 4).trans rfl; have ca5 := (blk_cell HC1.out 5).trans rfl; clear hb HI0 HB0 HC0) | (go_at_call 36; refine (impl_dateReader_stamp.calls k w.heap.size s b y (m + 1) d hh mi se q y1 y2 y3 y4 w _ HI1.out HB1.out AY.out).mono ?_; rintro e w' ⟨rfl, hI, hB, hk⟩; have HBz := Aside0.mk hB; clear hI hB hk))
                go_ret2
                exact ⟨rfl, HBz.out⟩
            · have hdb : decide (0 ≤ day) = false := decide_eq_false hd
              replace H := (if_neg (α := Option (Int × Int)) hd).symm.trans H
              obtain ⟨⟨y1, y2, y3, y4⟩, ey, H⟩ := Option.bind_eq_some_iff.1 H
              have AY := Aside0.mk ey
              simp only [Option.some.injEq, Prod.mk.injEq] at H
              obtain ⟨rfl, rfl⟩ := H
              clear ey
              go_wp2_with (first | (go_at_call 36; refine (impl_dateReader_stamp.calls k w.heap.size s b y (m + 1) d hh mi se q y1 y2 y3 y4 w _ HI0.out HB0.out AY.out).mono ?_; rintro e w' ⟨rfl, hI, hB, hk⟩; have HBz := Aside0.mk hB; clear hI hB hk))
              go_ret2
              exact ⟨rfl, HBz.out⟩

/-! ### laws_at: function 13 -/
def laws_at.f (l0 : List Int) (a1 : Int) (a2 : Int) : Option (Int) := if a2 ≤ 1 then (some 0) else (if (l0.length : Int) = 0 then (if a2 = 0 then (none) else (some (Int.tmod (wrap64 (a1 * 7)) a2))) else (if 0 ≤ (Int.tmod a1 (l0.length : Int)) then (if (Int.tmod a1 (l0.length : Int)) < (l0.length : Int) then (if 0 ≤ (Int.tmod (wrap64 (a1 + 1)) (l0.length : Int)) then (if (Int.tmod (wrap64 (a1 + 1)) (l0.length : Int)) < (l0.length : Int) then (if a2 = 0 then (none) else (some (Int.tmod (wrap64 ((wrap64 ((wrap64 ((wrap64 (rd l0 (Int.tmod a1 (l0.length : Int)))) * 31)) + (wrap64 (rd l0 (Int.tmod (wrap64 (a1 + 1)) (l0.length : Int)))))) + (wrap64 (Int.tdiv a1 (l0.length : Int))))) a2))) else (none)) else (none)) else (none)) else (none)))
set_option maxHeartbeats 8000000 in
set_option maxRecDepth 100000 in
theorem laws_at.calls (A0 : Option Addr) (c0 : Nat) (l0 : List Int) (a1 : Int) (a2 : Int) (r : Int) (w : World) (hr0 : Kd.C (Kd.int .u8) w A0 l0.length l0) (hc0 : l0.length ≤ c0) (h : laws_at.f l0 a1 a2 = some r) :
    Calls Tryd.prog 13 #[.slice A0 l0.length c0, .int .i64 a1, .int .i64 a2] w fun e w' => e = .returned (.int .i64 r) ∧ Drawn0 w w' := by
  have HR0 := Aside0.mk hr0
  have HC0 := Aside0.mk hc0
  clear hr0 hc0
  have H : (if a2 ≤ 1 then (some 0) else (if (l0.length : Int) = 0 then (if a2 = 0 then (none) else (some (Int.tmod (wrap64 (a1 * 7)) a2))) else (if 0 ≤ (Int.tmod a1 (l0.length : Int)) then (if (Int.tmod a1 (l0.length : Int)) < (l0.length : Int) then (if 0 ≤ (Int.tmod (wrap64 (a1 + 1)) (l0.length : Int)) then (if (Int.tmod (wrap64 (a1 + 1)) (l0.length : Int)) < (l0.length : Int) then (if a2 = 0 then (none) else (some (Int.tmod (wrap64 ((wrap64 ((wrap64 ((wrap64 (rd l0 (Int.tmod a1 (l0.length : Int)))) * 31)) + (wrap64 (rd l0 (Int.tmod (wrap64 (a1 + 1)) (l0.length : Int)))))) + (wrap64 (Int.tdiv a1 (l0.length : Int))))) a2))) else (none)) else (none)) else (none)) else (none)))) = some r := h
  clear h
  by_cases c4 : a2 ≤ 1
  · rw [if_pos c4] at H
    have c4b0 : decide (a2 ≤ 1) = true := decide_eq_true c4
    clear c4
    obtain rfl := Option.some.inj H
    go_enter Tryd.func13, Tryd.ntmps13
    go_wp2
    repeat (go_quiet (fail); try go_wp2)
    go_ret
    exact ⟨by first | rfl | (simp; done) | (simp [*]; done), by repeat (first | exact Drawn0.refl _ | apply Drawn0.step)⟩
  · rw [if_neg c4] at H
    have c4b0 : decide (a2 ≤ 1) = false := decide_eq_false c4
    clear c4
    by_cases c5 : (l0.length : Int) = 0
    · rw [if_pos c5] at H
      have c5b0 : ((l0.length : Int) == 0) = true := beq_iff_eq.mpr c5
      have c5b1 : ((l0.length : Int) != 0) = false := bne_eq_false_iff_eq.mpr c5
      clear c5
      by_cases c6 : a2 = 0
      · rw [if_pos c6] at H
        exact absurd H (by simp)
      · rw [if_neg c6] at H
        have c6b0 : (a2 == 0) = false := beq_eq_false_iff_ne.mpr c6
        have c6b1 : (a2 != 0) = true := bne_iff_ne.mpr c6
        obtain rfl := Option.some.inj H
        go_enter Tryd.func13, Tryd.ntmps13
        go_wp2
        repeat (go_quiet (fail); try go_wp2)
        go_ret
        exact ⟨by first | rfl | (simp; done) | (simp [*]; done), by repeat (first | exact Drawn0.refl _ | apply Drawn0.step)⟩
    · rw [if_neg c5] at H
      have c5b0 : ((l0.length : Int) == 0) = false := beq_eq_false_iff_ne.mpr c5
      have c5b1 : ((l0.length : Int) != 0) = true := bne_iff_ne.mpr c5
      have c5b2 : ¬ (l0 = []) := fun h_ => c5 (by rw [h_]; rfl)
      obtain ⟨ji7, hji7⟩ : ∃ j_ : Int, (Int.tmod a1 (l0.length : Int)) = j_ := ⟨_, rfl⟩
      replace H : (if 0 ≤ (ji7) then (if (ji7) < (l0.length : Int) then (if 0 ≤ (Int.tmod (wrap64 (a1 + 1)) (l0.length : Int)) then (if (Int.tmod (wrap64 (a1 + 1)) (l0.length : Int)) < (l0.length : Int) then (if a2 = 0 then (none) else (some (Int.tmod (wrap64 ((wrap64 ((wrap64 ((wrap64 (rd l0 (ji7))) * 31)) + (wrap64 (rd l0 (Int.tmod (wrap64 (a1 + 1)) (l0.length : Int)))))) + (wrap64 (Int.tdiv a1 (l0.length : Int))))) a2))) else (none)) else (none)) else (none)) else (none)) = some r := by first | (rw [hji7] at H; exact H) | (simp only [hji7] at H ⊢; exact H)
      by_cases c8 : 0 ≤ (ji7)
      · rw [if_pos c8] at H
        have c8b0 : decide (0 ≤ (ji7)) = true := decide_eq_true c8
        clear c8
        by_cases c9 : (ji7) < (l0.length : Int)
        · rw [if_pos c9] at H
          have c9b0 : decide ((ji7) < (l0.length : Int)) = true := decide_eq_true c9
          clear c9
          obtain ⟨ji10, hji10⟩ : ∃ j_ : Int, (Int.tmod (wrap64 (a1 + 1)) (l0.length : Int)) = j_ := ⟨_, rfl⟩
          replace H : (if 0 ≤ (ji10) then (if (ji10) < (l0.length : Int) then (if a2 = 0 then (none) else (some (Int.tmod (wrap64 ((wrap64 ((wrap64 ((wrap64 (rd l0 (ji7))) * 31)) + (wrap64 (rd l0 (ji10))))) + (wrap64 (Int.tdiv a1 (l0.length : Int))))) a2))) else (none)) else (none)) = some r := by first | (rw [hji10] at H; exact H) | (simp only [hji10] at H ⊢; exact H)
          by_cases c11 : 0 ≤ (ji10)
          · rw [if_pos c11] at H
            have c11b0 : decide (0 ≤ (ji10)) = true := decide_eq_true c11
            clear c11
            by_cases c12 : (ji10) < (l0.length : Int)
            · rw [if_pos c12] at H
              have c12b0 : decide ((ji10) < (l0.length : Int)) = true := decide_eq_true c12
              clear c12
              by_cases c13 : a2 = 0
              · rw [if_pos c13] at H
                exact absurd H (by simp)
              · rw [if_neg c13] at H
                have c13b0 : (a2 == 0) = false := beq_eq_false_iff_ne.mpr c13
                have c13b1 : (a2 != 0) = true := bne_iff_ne.mpr c13
                obtain rfl := Option.some.inj H
                have p293 : 0 ≤ ((ji7) : Int) := of_decide_eq_true (by first | (with_reducible assumption) | assumption)
                have q293 : (ji7) < (l0.length : Int) := of_decide_eq_true (by first | (with_reducible assumption) | assumption)
                obtain ⟨ad293, e293, hx293_0⟩ := Kd.at_int HR0.out (ji7) p293 q293
                cases e293
                replace p293 := eq_true p293
                replace q293 := eq_true q293
                have p294 : 0 ≤ ((ji10) : Int) := of_decide_eq_true (by first | (with_reducible assumption) | assumption)
                have q294 : (ji10) < (l0.length : Int) := of_decide_eq_true (by first | (with_reducible assumption) | assumption)
                obtain ⟨ad294, e294, hx294_0⟩ := Kd.at_int HR0.out (ji10) p294 q294
                obtain rfl : ad293 = ad294 := (by injection e294)
                replace p294 := eq_true p294
                replace q294 := eq_true q294
                go_enter Tryd.func13, Tryd.ntmps13
                go_wp2
                repeat (go_quiet (fail); try go_wp2)
                go_ret
                exact ⟨by first | rfl | (simp; done) | (simp only [← hji7, ← hji10] <;> (first | rfl | simp)) | (simp [*]; done), by repeat (first | exact Drawn0.refl _ | apply Drawn0.step)⟩
            · rw [if_neg c12] at H
              exact absurd H (by simp)
          · rw [if_neg c11] at H
            exact absurd H (by simp)
        · rw [if_neg c9] at H
          exact absurd H (by simp)
      · rw [if_neg c8] at H
        exact absurd H (by simp)

end Go.Proofs.YtccnidlkpinpgaaDoor.QFnDateTexts
