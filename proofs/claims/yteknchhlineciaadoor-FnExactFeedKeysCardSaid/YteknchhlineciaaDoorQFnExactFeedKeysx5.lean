/- Printed by a program of this session's own (wip/myprint.py): the functions that FnExactFeedKeys reaches as plain Lean functions, and that Go's calls do what they say. Conditions: as each theorem states. -/
import Derived.Test.YteknchhlineciaaDoorQFnExactFeedKeysx0
import Derived.Test.YteknchhlineciaaDoorQFnExactFeedKeysx4
namespace Go.Proofs.YteknchhlineciaaDoor.QFnExactFeedKeys
open Go.RowKit Go.Proofs.YteknchhlineciaaDoorW.PrintWords Go.Proofs.YteknchhlineciaaDoorW.PrintLast Go.Proofs.YteknchhlineciaaDoorW.PrintMore
attribute [local go_sem] max2_int min2_int max_two min_two max_three min_three max_four min_four   -- for this text's walks alone
set_option linter.unusedVariables false
set_option linter.unusedSimpArgs false

/-! ### impl_isRune: function 71 -/
def impl_isRune.f (a0 : Int) : Option (Bool) := (impl_within.f a0 0 1114111).bind fun t190 => (if t190 = true then ((impl_within.f a0 55296 57343).bind fun t191 => (some (!t191))) else (some false))
set_option maxHeartbeats 8000000 in
set_option maxRecDepth 100000 in
theorem impl_isRune.calls (a0 : Int) (r : Bool) (w : World) (h : impl_isRune.f a0 = some r) :
  Calls Tryd.prog 71 #[.int .i64 a0] w fun e w' => e = .returned (.bool r) ∧ Drawn0 w w' := by
 have H : ((impl_within.f a0 0 1114111).bind fun t190 => (if t190 = true then ((impl_within.f a0 55296 57343).bind fun t191 => (some (!t191))) else (some false))) = some r := h
 clear h
 replace H := Option.bind_eq_some_iff.mp H
 obtain ⟨t190, A20, H⟩ := H
 replace H : (if t190 = true then ((impl_within.f a0 55296 57343).bind fun t191 => (some (!t191))) else (some false)) = some r := H
 have A2 := Aside0.mk A20
 clear A20
 by_cases c3 : t190 = true
 ·subst c3
  have H1 : ((impl_within.f a0 55296 57343).bind fun t191 => (some (!t191))) = some r := by rw [if_pos rfl] at H; exact H
  clear H
  have H := H1
  clear H1
  replace H := Option.bind_eq_some_iff.mp H
  obtain ⟨t191, A40, H⟩ := H
  replace H : (some (!t191)) = some r := H
  have A4 := Aside0.mk A40
  clear A40
  obtain rfl := Option.some.inj H
  go_enter Tryd.func71, Tryd.ntmps71
  go_wp2_with (first | ((with_reducible refine gate_callee (f := 54) rfl ?_); refine goesL_ (some 4) rfl rfl Tryd.func54 (by kernel_rfl) rfl #[.int .i64 a0, .int .i64 0, .int .i64 1114111] rfl (by (try simp only [List.map_toArray, List.map_cons, List.map_nil]); first | done | rfl | (simp only [List.length_drop, List.length_take]; rfl)) ?_; (with_reducible refine (impl_within.calls a0 0 1114111 true _ A2.out).mono ?_); rintro e w' ⟨rfl, ⟨nd, rfl⟩⟩; refine ⟨_, rfl, ?_⟩) | (go_at_call 54; (with_reducible refine (impl_within.calls a0 55296 57343 t191 _ A4.out).mono ?_); rintro e w' ⟨rfl, ⟨nd, rfl⟩⟩))
  go_ret
  exact ⟨by first | rfl | (simp; done) | (simp [*]; done), by repeat (first | exact Drawn0.refl _ | apply Drawn0.step)⟩
 ·replace c3 := Bool.eq_false_iff.mpr c3
  subst c3
  have H1 : (some false) = some r := by rw [if_neg (show ¬ (false = true) by decide)] at H; exact H
  clear H
  have H := H1
  clear H1
  obtain rfl := Option.some.inj H
  go_enter Tryd.func71, Tryd.ntmps71
  go_wp2_with (first | ((with_reducible refine gate_callee (f := 54) rfl ?_); refine goesL_ (some 4) rfl rfl Tryd.func54 (by kernel_rfl) rfl #[.int .i64 a0, .int .i64 0, .int .i64 1114111] rfl (by (try simp only [List.map_toArray, List.map_cons, List.map_nil]); first | done | rfl | (simp only [List.length_drop, List.length_take]; rfl)) ?_; (with_reducible refine (impl_within.calls a0 0 1114111 false _ A2.out).mono ?_); rintro e w' ⟨rfl, ⟨nd, rfl⟩⟩; refine ⟨_, rfl, ?_⟩))
  go_ret
  exact ⟨by first | rfl | (simp; done) | (simp [*]; done), by repeat (first | exact Drawn0.refl _ | apply Drawn0.step)⟩

/-! ### impl_XmlRune: function 53 -/
def impl_XmlRune.f (a0 : Int) : Option (Bool) := if a0 = 9 then (some true) else (if a0 = 10 then (some true) else (if a0 = 13 then (some true) else (if a0 ≥ 32 then ((impl_isRune.f a0).bind fun t192 => (if t192 = true then (if a0 = 65534 then (some false) else (some (a0 != 65535))) else (some false))) else (some false))))
set_option maxHeartbeats 8000000 in
set_option maxRecDepth 100000 in
theorem impl_XmlRune.calls (a0 : Int) (r : Bool) (w : World) (h : impl_XmlRune.f a0 = some r) :
  Calls Tryd.prog 53 #[.int .i64 a0] w fun e w' => e = .returned (.bool r) ∧ Drawn0 w w' := by
 have H : (if a0 = 9 then (some true) else (if a0 = 10 then (some true) else (if a0 = 13 then (some true) else (if a0 ≥ 32 then ((impl_isRune.f a0).bind fun t192 => (if t192 = true then (if a0 = 65534 then (some false) else (some (a0 != 65535))) else (some false))) else (some false))))) = some r := h
 clear h
 by_cases c2 : a0 = 9
 ·rw [if_pos c2] at H
  have c2b0 : (a0 == 9) = true := beq_iff_eq.mpr c2
  have c2b1 : (a0 != 9) = false := bne_eq_false_iff_eq.mpr c2
  clear c2
  obtain rfl := Option.some.inj H
  go_enter Tryd.func53, Tryd.ntmps53
  go_wp2
  go_ret
  exact ⟨by first | rfl | (simp; done) | (simp [*]; done), by repeat (first | exact Drawn0.refl _ | apply Drawn0.step)⟩
 ·rw [if_neg c2] at H
  have c2b0 : (a0 == 9) = false := beq_eq_false_iff_ne.mpr c2
  have c2b1 : (a0 != 9) = true := bne_iff_ne.mpr c2
  by_cases c3 : a0 = 10
  ·rw [if_pos c3] at H
   have c3b0 : (a0 == 10) = true := beq_iff_eq.mpr c3
   have c3b1 : (a0 != 10) = false := bne_eq_false_iff_eq.mpr c3
   clear c3
   obtain rfl := Option.some.inj H
   go_enter Tryd.func53, Tryd.ntmps53
   go_wp2
   go_ret
   exact ⟨by first | rfl | (simp; done) | (simp [*]; done), by repeat (first | exact Drawn0.refl _ | apply Drawn0.step)⟩
  ·rw [if_neg c3] at H
   have c3b0 : (a0 == 10) = false := beq_eq_false_iff_ne.mpr c3
   have c3b1 : (a0 != 10) = true := bne_iff_ne.mpr c3
   by_cases c4 : a0 = 13
   ·rw [if_pos c4] at H
    have c4b0 : (a0 == 13) = true := beq_iff_eq.mpr c4
    have c4b1 : (a0 != 13) = false := bne_eq_false_iff_eq.mpr c4
    clear c4
    obtain rfl := Option.some.inj H
    go_enter Tryd.func53, Tryd.ntmps53
    go_wp2
    go_ret
    exact ⟨by first | rfl | (simp; done) | (simp [*]; done), by repeat (first | exact Drawn0.refl _ | apply Drawn0.step)⟩
   ·rw [if_neg c4] at H
    have c4b0 : (a0 == 13) = false := beq_eq_false_iff_ne.mpr c4
    have c4b1 : (a0 != 13) = true := bne_iff_ne.mpr c4
    by_cases c5 : a0 ≥ 32
    ·rw [if_pos c5] at H
     have c5b0 : decide (32 ≤ a0) = true := decide_eq_true c5
     clear c5
     replace H := Option.bind_eq_some_iff.mp H
     obtain ⟨t192, A60, H⟩ := H
     replace H : (if t192 = true then (if a0 = 65534 then (some false) else (some (a0 != 65535))) else (some false)) = some r := H
     have A6 := Aside0.mk A60
     clear A60
     by_cases c7 : t192 = true
     ·subst c7
      have H1 : (if a0 = 65534 then (some false) else (some (a0 != 65535))) = some r := by rw [if_pos rfl] at H; exact H
      clear H
      have H := H1
      clear H1
      by_cases c8 : a0 = 65534
      ·rw [if_pos c8] at H
       have c8b0 : (a0 == 65534) = true := beq_iff_eq.mpr c8
       have c8b1 : (a0 != 65534) = false := bne_eq_false_iff_eq.mpr c8
       clear c8
       obtain rfl := Option.some.inj H
       go_enter Tryd.func53, Tryd.ntmps53
       go_wp2_with (first | (go_at_call 71; (with_reducible refine (impl_isRune.calls a0 true _ A6.out).mono ?_); rintro e w' ⟨rfl, ⟨nd, rfl⟩⟩))
       go_ret
       exact ⟨by first | rfl | (simp; done) | (simp [*]; done), by repeat (first | exact Drawn0.refl _ | apply Drawn0.step)⟩
      ·rw [if_neg c8] at H
       have c8b0 : (a0 == 65534) = false := beq_eq_false_iff_ne.mpr c8
       have c8b1 : (a0 != 65534) = true := bne_iff_ne.mpr c8
       obtain rfl := Option.some.inj H
       go_enter Tryd.func53, Tryd.ntmps53
       go_wp2_with (first | (go_at_call 71; (with_reducible refine (impl_isRune.calls a0 true _ A6.out).mono ?_); rintro e w' ⟨rfl, ⟨nd, rfl⟩⟩))
       go_ret
       exact ⟨by first | rfl | (simp; done) | (simp [*]; done), by repeat (first | exact Drawn0.refl _ | apply Drawn0.step)⟩
     ·replace c7 := Bool.eq_false_iff.mpr c7
      subst c7
      have H1 : (some false) = some r := by rw [if_neg (show ¬ (false = true) by decide)] at H; exact H
      clear H
      have H := H1
      clear H1
      obtain rfl := Option.some.inj H
      go_enter Tryd.func53, Tryd.ntmps53
      go_wp2_with (first | (go_at_call 71; (with_reducible refine (impl_isRune.calls a0 false _ A6.out).mono ?_); rintro e w' ⟨rfl, ⟨nd, rfl⟩⟩))
      go_ret
      exact ⟨by first | rfl | (simp; done) | (simp [*]; done), by repeat (first | exact Drawn0.refl _ | apply Drawn0.step)⟩
    ·rw [if_neg c5] at H
     have c5b0 : decide (32 ≤ a0) = false := decide_eq_false c5
     clear c5
     obtain rfl := Option.some.inj H
     go_enter Tryd.func53, Tryd.ntmps53
     go_wp2
     go_ret
     exact ⟨by first | rfl | (simp; done) | (simp [*]; done), by repeat (first | exact Drawn0.refl _ | apply Drawn0.step)⟩

/-! ### impl_xmlFault: function 31, the place of the first byte that is in no right rune: walked by hand -/
def impl_xmlFault.go (s : ByteArray) : Nat → Nat → Option Int
 | 0, _ => some (-1)
 | k + 1, pos => if pos < s.size then (if (Utf8.decode s pos).1 = 65533 ∧ (Utf8.decode s pos).2 = 1 then some (pos : Int) else (impl_XmlRune.f ((Utf8.decode s pos).1 : Int)).bind fun t => if t = true then impl_xmlFault.go s k (pos + (Utf8.decode s pos).2) else some (pos : Int)) else some (-1)
def impl_xmlFault.f (a0 : ByteArray) : Option (Int) := if a0.size ≤ 4294967280 then impl_xmlFault.go a0 a0.size 0 else none
theorem impl_xmlFault.width (s : ByteArray) (pos : Nat) : 1 ≤ (Utf8.decode s pos).2 := by
 rw [Go.Lib.decode_at]
 unfold Go.Lib.decodeN
 repeat' split
 all_goals (simp only; omega)
theorem impl_xmlFault.piece (s : ByteArray) (pos : Nat) (h : pos < s.size) : Go.Lib.decodeGo (s.extract pos s.size) = Utf8.decode s pos := by
 have hz : (s.extract pos s.size).size = s.size - pos := by rw [ByteArray.size_extract]; omega
 unfold Go.Lib.decodeGo
 rw [← Go.Lib.decodeL_drop s pos, ← Go.Lib.extract_to_end]
 first | rfl | (rw [if_neg (by omega)]; rw [← Go.Lib.decodeL_drop _ 0]; rfl)
set_option maxHeartbeats 8000000 in
set_option maxRecDepth 100000 in
theorem impl_xmlFault.calls (a0 : ByteArray) (r : Int) (w : World) (h : impl_xmlFault.f a0 = some r) (hG : Glob w) :
  Calls Tryd.prog 31 #[.string a0] w fun e w' => e = .returned (.int .i64 r) ∧ Below w.heap.size w w' := by
 have HG := Aside0.mk hG
 clear hG
 unfold impl_xmlFault.f at h
 by_cases hs : a0.size ≤ 4294967280
 ·rw [if_pos hs] at h
  have HR := Aside0.mk h
  clear h
  go_enter Tryd.func31, Tryd.ntmps31
  go_wp2
  go_loopw [] (fun wr => ∃ (pos fuel : Nat), wr.heap[w.heap.size]? = some (.stringIter a0 pos) ∧ Aside0 (Below w.heap.size w wr) ∧ Aside0 (impl_xmlFault.go a0 fuel pos = some r) ∧ a0.size ≤ pos + fuel) (fun wr => a0.size - wr.iterPos w.heap.size)
  case atStart => exact ⟨0, a0.size, World.iter_heap w a0 0, ⟨(Below.refl _ w).alloc (Nat.le_refl _) _⟩, HR, by omega⟩
  case round =>
   obtain ⟨pos, fuel, hit, HB, HS, hfu⟩ := hrel
   have hpos0 : wr.iterPos w.heap.size = pos := by simp [World.iterPos, hit]
   by_cases hp : pos < a0.size
   ·have hnx : ∀ ty, (Instr.next (.pointer (some ⟨w.heap.size, 0, none⟩)) true ty).run Tryd.prog wr = _ := fun ty => Lib.run_next_any_at wr w.heap.size a0 pos ty hit hp
    have hwd := impl_xmlFault.width a0 pos
    have hdl := decode_le a0 pos
    have cD := Tryd.utf8_DecodeRuneInString (a0.extract pos a0.size)
    rw [impl_xmlFault.piece a0 pos hp] at cD
    obtain ⟨fuel, rfl⟩ : ∃ f', fuel = f' + 1 := ⟨fuel - 1, by omega⟩
    have hit2 := Lib.iterAt_heap wr w.heap.size a0 pos (pos + (Utf8.decode a0 pos).2) hit
    have HB3 := Aside0.mk (Lib.below_iterAt HB.out (Nat.le_refl _) a0 (pos + (Utf8.decode a0 pos).2))
    have hS := HS.out
    simp only [impl_xmlFault.go, if_pos hp] at hS
    obtain ⟨W1, hW1⟩ : ∃ W1, W1 = wr.iterAt w.heap.size a0 (pos + (Utf8.decode a0 pos).2) := ⟨_, rfl⟩
    rw [← hW1] at hnx hit2 HB3
    have hlt2 : w.heap.size < W1.heap.size := (Array.getElem?_eq_some_iff.1 hit2).1
    obtain ⟨rn, hrn⟩ : ∃ rn, (Utf8.decode a0 pos).1 = rn := ⟨_, rfl⟩
    obtain ⟨n, hn⟩ : ∃ n, (Utf8.decode a0 pos).2 = n := ⟨_, rfl⟩
    rw [hrn, hn] at hS cD
    rw [hrn] at hnx
    rw [hrn] at hdl
    rw [hn] at hwd hit2
    have HIT := Aside0.mk hit2
    have HD := Aside0.mk cD
    have HT := Aside0.mk hS
    clear hW1 hit HB HS hrn hn hit2 cD hS
    by_cases h3 : rn = 65533
    ·subst h3
     by_cases h1 : n = 1
     ·subst h1
      have hr : some (pos : Int) = some r := by have := HT.out; rw [if_pos ⟨rfl, rfl⟩] at this; exact this
      obtain rfl := Option.some.inj hr
      go_wp2_with (go_at_call 52; refine (HD.out _ (Glob.of_below HG.out HB3.out).tabs).mono ?_; rintro e w2 ⟨rfl, hb2⟩; have HB4 := Aside0.mk (HB3.out.trans (hb2.mono (below_size HB3.out))); clear hb2)
      go_ret
      exact ⟨rfl, HB4.out⟩
     ·have h1b : decide ((n : Int) = 1) = false := decide_eq_false (by omega)
      have hT := HT.out
      rw [if_neg (fun e => h1 e.2)] at hT
      obtain ⟨t, ht, hT2⟩ := Option.bind_eq_some_iff.mp hT
      have HX := Aside0.mk ht
      have HT2 := Aside0.mk hT2
      clear hT ht hT2
      go_wp2_with (first | (go_at_call 52; refine (HD.out _ (Glob.of_below HG.out HB3.out).tabs).mono ?_; rintro e w2 ⟨rfl, hb2⟩; have HB4 := Aside0.mk (HB3.out.trans (hb2.mono (below_size HB3.out))); have HIT2 : Aside0 (w2.heap[w.heap.size]? = some (.stringIter a0 (pos + n))) := ⟨(hb2.block _ hlt2).trans HIT.out⟩; clear hb2))
      cases t with
      | false =>
       have hr : some (pos : Int) = some r := HT2.out
       obtain rfl := Option.some.inj hr
       go_wp2_with (go_at_call 53; refine (impl_XmlRune.calls _ false _ HX.out).mono ?_; rintro e w3 ⟨rfl, ⟨nd, rfl⟩⟩)
       go_ret
       exact ⟨rfl, pw_below_drewN HB4.out nd⟩
      | true =>
       have HT3 : Aside0 (impl_xmlFault.go a0 fuel (pos + n) = some r) := ⟨HT2.out⟩
       go_wp2_with (go_at_call 53; refine (impl_XmlRune.calls _ true _ HX.out).mono ?_; rintro e w3 ⟨rfl, ⟨nd, rfl⟩⟩)
       go_roundw
       case rel => exact ⟨pos + n, fuel, blk_drewN HIT2.out nd, ⟨pw_below_drewN HB4.out nd⟩, HT3, by omega⟩
       case measure =>
        have q : (w2.drewN nd).iterPos w.heap.size = pos + n := by simp [World.iterPos, HIT2.out]
        rw [q, hpos0]; omega
    ·have hT := HT.out
     rw [if_neg (fun e => h3 e.1)] at hT
     obtain ⟨t, ht, hT2⟩ := Option.bind_eq_some_iff.mp hT
     have h3b : decide ((rn : Int) = 65533) = false := decide_eq_false (by omega)
     have HX := Aside0.mk ht
     have HT2 := Aside0.mk hT2
     clear hT ht hT2
     cases t with
     | false =>
      have hr : some (pos : Int) = some r := HT2.out
      obtain rfl := Option.some.inj hr
      go_wp2_with (go_at_call 53; refine (impl_XmlRune.calls _ false _ HX.out).mono ?_; rintro e w3 ⟨rfl, ⟨nd, rfl⟩⟩)
      go_ret
      exact ⟨rfl, pw_below_drewN HB3.out nd⟩
     | true =>
      have HT3 : Aside0 (impl_xmlFault.go a0 fuel (pos + n) = some r) := ⟨HT2.out⟩
      go_wp2_with (go_at_call 53; refine (impl_XmlRune.calls _ true _ HX.out).mono ?_; rintro e w3 ⟨rfl, ⟨nd, rfl⟩⟩)
      go_roundw
      case rel => exact ⟨pos + n, fuel, blk_drewN HIT.out nd, ⟨pw_below_drewN HB3.out nd⟩, HT3, by omega⟩
      case measure =>
       have q : (W1.drewN nd).iterPos w.heap.size = pos + n := by simp [World.iterPos, HIT.out]
       rw [q, hpos0]; omega
   ·have hnx : ∀ ty, (Instr.next (.pointer (some ⟨w.heap.size, 0, none⟩)) true ty).run Tryd.prog wr = _ := fun ty => Lib.run_next_end_at wr w.heap.size a0 pos ty hit hp
    have hr : some (-1 : Int) = some r := by
     have := HS.out
     cases fuel with
     | zero => exact this
     | succ m => simpa only [impl_xmlFault.go, if_neg hp] using this
    obtain rfl := Option.some.inj hr
    clear HS
    go_wp2
    go_ret
    exact ⟨rfl, HB.out⟩
 ·rw [if_neg hs] at h
  cases h

/-! ### strings_Join: function 66, by the shelf's contract -/
def strings_Join.f (l0 : List ByteArray) (a1 : ByteArray) : Option (ByteArray) := if l0.length ≤ 140737488355328 ∧ (Lib.join (l0.map (·.data.toList)) a1.data.toList).length ≤ 140737488355328 then some ⟨(Lib.join (l0.map (·.data.toList)) a1.data.toList).toArray⟩ else none
theorem strings_Join.calls (A0 : Option Addr) (c0 : Nat) (l0 : List ByteArray) (a1 : ByteArray) (r : ByteArray) (w : World) (hr0 : Kd.C Kd.string w A0 l0.length l0) (hc0 : l0.length ≤ c0) (h : strings_Join.f l0 a1 = some r) :
  Calls Tryd.prog 66 #[.slice A0 l0.length c0, .string a1] w fun e w' => e = .returned (.string r) ∧ Below w.heap.size w w' := by
 unfold strings_Join.f at h
 by_cases hs : l0.length ≤ 140737488355328 ∧ (Lib.join (l0.map (·.data.toList)) a1.data.toList).length ≤ 140737488355328
 ·rw [if_pos hs] at h
  obtain rfl := Option.some.inj h
  cases l0 with
  | nil => exact (Tryd.strings_Join_none A0 c0 a1 w).mono fun e w' ⟨he, hw⟩ => ⟨he, hw ▸ Below.refl _ _⟩
  | cons x xs =>
   obtain ⟨ad, rfl, hcell⟩ := Glob.cells hr0 (by simp)
   obtain ⟨bk, o, sp⟩ := ad
   obtain ⟨rfl, hbk, hc⟩ := hcell
   exact (Tryd.strings_Join bk o c0 (x :: xs) a1 w hc hbk hs.1 hc0 hs.2).mono fun e w' ⟨he, hb⟩ => ⟨he, hb⟩
 ·rw [if_neg hs] at h
  cases h

/-! ### impl_isBlank: function 69 -/
def impl_isBlank.f (a0 : Int) : Option (Bool) := if a0 = 9 then (some true) else (if a0 = 10 then (some true) else (if a0 = 13 then (some true) else (some (a0 == 32))))
set_option maxHeartbeats 8000000 in
set_option maxRecDepth 100000 in
theorem impl_isBlank.calls (a0 : Int) (r : Bool) (w : World) (h : impl_isBlank.f a0 = some r) :
  Calls Tryd.prog 69 #[.int .u8 a0] w fun e w' => e = .returned (.bool r) ∧ Drawn0 w w' := by
 have H : (if a0 = 9 then (some true) else (if a0 = 10 then (some true) else (if a0 = 13 then (some true) else (some (a0 == 32))))) = some r := h
 clear h
 by_cases c2 : a0 = 9
 ·rw [if_pos c2] at H
  have c2b0 : (a0 == 9) = true := beq_iff_eq.mpr c2
  have c2b1 : (a0 != 9) = false := bne_eq_false_iff_eq.mpr c2
  clear c2
  obtain rfl := Option.some.inj H
  go_enter Tryd.func69, Tryd.ntmps69
  go_wp2
  go_ret
  exact ⟨by first | rfl | (simp; done) | (simp [*]; done), by repeat (first | exact Drawn0.refl _ | apply Drawn0.step)⟩
 ·rw [if_neg c2] at H
  have c2b0 : (a0 == 9) = false := beq_eq_false_iff_ne.mpr c2
  have c2b1 : (a0 != 9) = true := bne_iff_ne.mpr c2
  by_cases c3 : a0 = 10
  ·rw [if_pos c3] at H
   have c3b0 : (a0 == 10) = true := beq_iff_eq.mpr c3
   have c3b1 : (a0 != 10) = false := bne_eq_false_iff_eq.mpr c3
   clear c3
   obtain rfl := Option.some.inj H
   go_enter Tryd.func69, Tryd.ntmps69
   go_wp2
   go_ret
   exact ⟨by first | rfl | (simp; done) | (simp [*]; done), by repeat (first | exact Drawn0.refl _ | apply Drawn0.step)⟩
  ·rw [if_neg c3] at H
   have c3b0 : (a0 == 10) = false := beq_eq_false_iff_ne.mpr c3
   have c3b1 : (a0 != 10) = true := bne_iff_ne.mpr c3
   by_cases c4 : a0 = 13
   ·rw [if_pos c4] at H
    have c4b0 : (a0 == 13) = true := beq_iff_eq.mpr c4
    have c4b1 : (a0 != 13) = false := bne_eq_false_iff_eq.mpr c4
    clear c4
    obtain rfl := Option.some.inj H
    go_enter Tryd.func69, Tryd.ntmps69
    go_wp2
    go_ret
    exact ⟨by first | rfl | (simp; done) | (simp [*]; done), by repeat (first | exact Drawn0.refl _ | apply Drawn0.step)⟩
   ·rw [if_neg c4] at H
    have c4b0 : (a0 == 13) = false := beq_eq_false_iff_ne.mpr c4
    have c4b1 : (a0 != 13) = true := bne_iff_ne.mpr c4
    obtain rfl := Option.some.inj H
    go_enter Tryd.func69, Tryd.ntmps69
    go_wp2
    go_ret
    exact ⟨by first | rfl | (simp; done) | (simp [*]; done), by repeat (first | exact Drawn0.refl _ | apply Drawn0.step)⟩

/-! ### impl_oneLine: function 51, a text in one line: walked by hand -/
def impl_oneLine.p (r : Nat) : Bool := decide ((r : Int) = 9 ∨ (r : Int) = 10 ∨ (r : Int) = 13 ∨ (r : Int) = 32)
def impl_oneLine.f (a0 : ByteArray) : Option (ByteArray) := if a0.size ≤ 4294967280 then strings_Join.f (Lib.goFieldsP impl_oneLine.p a0) (⟨#[32]⟩ : ByteArray) else none
set_option maxHeartbeats 4000000 in
set_option maxRecDepth 100000 in
theorem impl_oneLine.pred (w : World) : PredGrows Tryd.prog 68 #[] impl_oneLine.p w := by
 intro W x hx hb
 clear hb
 show Calls Tryd.prog 68 #[.int .i32 x] W _
 by_cases hlt : x < 128
 ·have hb1 : decide ((x : Int) < 128) = true := decide_eq_true (by omega)
  have hr : impl_isBlank.f (x : Int) = some (impl_oneLine.p x) := by
   unfold impl_isBlank.f impl_oneLine.p
   by_cases h1 : (x : Int) = 9
   ·simp [h1]
   by_cases h2 : (x : Int) = 10
   ·simp [h2]
   by_cases h3 : (x : Int) = 13
   ·simp [h3]
   by_cases h4 : (x : Int) = 32
   ·simp [h4]
   ·simp [h1, h2, h3, h4]
  generalize impl_oneLine.p x = q at hr ⊢
  have HR := Aside0.mk hr
  clear hr
  have hw : (x : Int) % 256 = x := by omega
  go_enter Tryd.func68, Tryd.ntmps68
  go_wp2_with (go_at_call 69; refine (impl_isBlank.calls (x : Int) q _ HR.out).mono ?_; rintro e w3 ⟨rfl, ⟨nd, rfl⟩⟩)
  go_ret
  exact ⟨rfl, pw_below_drewN (Below.refl _ _) nd⟩
 ·have hb1 : decide ((x : Int) < 128) = false := decide_eq_false (by omega)
  have hr : impl_oneLine.p x = false := decide_eq_false (by omega)
  rw [hr]
  clear hr
  go_enter Tryd.func68, Tryd.ntmps68
  go_wp2
  go_ret
  exact ⟨rfl, Below.refl _ _⟩
theorem impl_oneLine.row {w w' : World} {A : Nat} {xs : List ByteArray} (hown : w'.ownsRow w.heap.size 9 1 (.slice (some ⟨A, 0, none⟩) xs.length xs.length) xs.length (xs.map Value.string)) : Kd.C Kd.string w' (some ⟨A, 0, none⟩) xs.length xs := by
 have h : Kd.R Kd.string 9 w' w.heap.size (fun _ => True) (.slice (some ⟨A, 0, none⟩) xs.length xs.length) xs := by
  refine ⟨fun _ _ => trivial, xs.map Value.string, hown, ⟨by simp [Kd.string, Kd.scalar], fun j p hj => ?_⟩⟩
  show ((xs.map Value.string).drop (j * 1)).take 1 = [Value.string p]
  have hl : j < xs.length := (List.getElem?_eq_some_iff.1 hj).1
  rw [Nat.mul_one, List.drop_eq_getElem_cons (by simpa using hl)]
  simp [(List.getElem?_eq_some_iff.1 hj).2]
 obtain ⟨A', c, he, _, hC⟩ := Kd.R_reads h
 injection he with e1 _ _
 rw [e1]
 exact hC
set_option maxHeartbeats 4000000 in
set_option maxRecDepth 100000 in
theorem impl_oneLine.calls (a0 : ByteArray) (r : ByteArray) (w : World) (h : impl_oneLine.f a0 = some r) :
  Calls Tryd.prog 51 #[.string a0] w fun e w' => e = .returned (.string r) ∧ Below w.heap.size w w' := by
 unfold impl_oneLine.f at h
 by_cases hs : a0.size ≤ 4294967280
 ·rw [if_pos hs] at h
  have HF := Aside0.mk (Tryd.strings_FieldsFunc_grows 68 #[] (enters_of Tryd.func68 (by kernel_rfl) rfl) impl_oneLine.p a0 w (by omega) (impl_oneLine.pred w))
  generalize Lib.goFieldsP impl_oneLine.p a0 = xs at h HF
  have HH := Aside0.mk h
  clear h
  go_enter Tryd.func51, Tryd.ntmps51
  go_wp2_with (first | (go_at_call 67; refine HF.out.mono ?_; rintro e w1 ⟨A, rfl, hA, hown, hb1⟩; have HC := Aside0.mk (impl_oneLine.row hown); have HB1 := Aside0.mk hb1; clear hA hown hb1) | (go_at_call 66; refine (strings_Join.calls (some ⟨A, 0, none⟩) xs.length xs (⟨#[32]⟩ : ByteArray) r _ HC.out (Nat.le_refl _) HH.out).mono ?_; rintro e w2 ⟨rfl, hb2⟩; have HB2 := Aside0.mk (HB1.out.trans (hb2.mono (below_size HB1.out))); clear hb2))
  go_ret
  exact ⟨rfl, HB2.out⟩
 ·rw [if_neg hs] at h
  cases h

/-! ### impl_lineOK: function 30 -/
def impl_lineOK.f (a0 : ByteArray) : Option (Bool) := if (a0.size : Int) ≤ 200 then ((impl_xmlFault.f a0).bind fun t193 => (if t193 < 0 then ((impl_oneLine.f a0).bind fun t194 => (some (t194.toList == a0.toList))) else (some false))) else (some false)
set_option maxHeartbeats 8000000 in
set_option maxRecDepth 100000 in
theorem impl_lineOK.calls (a0 : ByteArray) (r : Bool) (w : World) (h : impl_lineOK.f a0 = some r) (hG : Glob w) :
  Calls Tryd.prog 30 #[.string a0] w fun e w' => e = .returned (.bool r) ∧ Below w.heap.size w w' := by
 have HG := Aside0.mk hG
 clear hG
 have HB := Aside0.mk (Below.refl w.heap.size w)
 have H : (if (a0.size : Int) ≤ 200 then ((impl_xmlFault.f a0).bind fun t193 => (if t193 < 0 then ((impl_oneLine.f a0).bind fun t194 => (some (t194.toList == a0.toList))) else (some false))) else (some false)) = some r := h
 clear h
 by_cases c2 : (a0.size : Int) ≤ 200
 ·rw [if_pos c2] at H
  have c2b0 : decide ((a0.size : Int) ≤ 200) = true := decide_eq_true c2
  have c2b1 : decide (a0.size ≤ 200) = true := decide_eq_true (by omega)
  clear c2
  replace H := Option.bind_eq_some_iff.mp H
  obtain ⟨t193, A30, H⟩ := H
  replace H : (if t193 < 0 then ((impl_oneLine.f a0).bind fun t194 => (some (t194.toList == a0.toList))) else (some false)) = some r := H
  have A3 := Aside0.mk A30
  clear A30
  by_cases c4 : t193 < 0
  ·rw [if_pos c4] at H
   have c4b0 : decide (t193 < 0) = true := decide_eq_true c4
   clear c4
   replace H := Option.bind_eq_some_iff.mp H
   obtain ⟨t194, A50, H⟩ := H
   replace H : (some (t194.toList == a0.toList)) = some r := H
   have A5 := Aside0.mk A50
   clear A50
   obtain rfl := Option.some.inj H
   go_enter Tryd.func30, Tryd.ntmps30
   go_wp2_with (first | (go_at_call 31; (with_reducible refine (impl_xmlFault.calls a0 t193 _ A3.out (Glob.of_below HG.out (by repeat (first | (with_reducible first | exact HB.out | apply below_alloc | apply pw_below_drewN | apply below_drew1) | exact HB.out)))).mono ?_); rintro e w6 ⟨rfl, hb⟩; have n0_ := Aside0.mk (below_step (by repeat (first | (with_reducible first | exact HB.out | apply below_alloc | apply pw_below_drewN | apply below_drew1) | exact HB.out)) hb); clear HB; have HB := n0_; clear n0_; (try clear hb); (try clear hb2); (try clear hk); (try clear hi)) | (go_at_call 51; (with_reducible refine (impl_oneLine.calls a0 t194 _ A5.out).mono ?_); rintro e w7 ⟨rfl, hb⟩; have n0_ := Aside0.mk (below_step (by repeat (first | (with_reducible first | exact HB.out | apply below_alloc | apply pw_below_drewN | apply below_drew1) | exact HB.out)) hb); clear HB; have HB := n0_; clear n0_; (try clear hb); (try clear hb2); (try clear hk); (try clear hi)))
   go_ret
   exact ⟨by first | rfl | (simp [errW_none, errW_some] <;> rfl) | (simp [*, errW_none, errW_some] <;> rfl), by repeat (first | (with_reducible first | exact HB.out | apply below_alloc | apply pw_below_drewN | apply below_drew1) | exact HB.out)⟩
  ·rw [if_neg c4] at H
   have c4b0 : decide (t193 < 0) = false := decide_eq_false c4
   clear c4
   obtain rfl := Option.some.inj H
   go_enter Tryd.func30, Tryd.ntmps30
   go_wp2_with (first | (go_at_call 31; (with_reducible refine (impl_xmlFault.calls a0 t193 _ A3.out (Glob.of_below HG.out (by repeat (first | (with_reducible first | exact HB.out | apply below_alloc | apply pw_below_drewN | apply below_drew1) | exact HB.out)))).mono ?_); rintro e w8 ⟨rfl, hb⟩; have n0_ := Aside0.mk (below_step (by repeat (first | (with_reducible first | exact HB.out | apply below_alloc | apply pw_below_drewN | apply below_drew1) | exact HB.out)) hb); clear HB; have HB := n0_; clear n0_; (try clear hb); (try clear hb2); (try clear hk); (try clear hi)))
   go_ret
   exact ⟨by first | rfl | (simp [errW_none, errW_some] <;> rfl) | (simp [*, errW_none, errW_some] <;> rfl), by repeat (first | (with_reducible first | exact HB.out | apply below_alloc | apply pw_below_drewN | apply below_drew1) | exact HB.out)⟩
 ·rw [if_neg c2] at H
  have c2b0 : decide ((a0.size : Int) ≤ 200) = false := decide_eq_false c2
  have c2b1 : decide (a0.size ≤ 200) = false := decide_eq_false (by omega)
  clear c2
  obtain rfl := Option.some.inj H
  go_enter Tryd.func30, Tryd.ntmps30
  go_wp2
  go_ret
  exact ⟨by first | rfl | (simp [errW_none, errW_some] <;> rfl) | (simp [*, errW_none, errW_some] <;> rfl), by repeat (first | (with_reducible first | exact HB.out | apply below_alloc | apply pw_below_drewN | apply below_drew1) | exact HB.out)⟩

/-! ### impl_isStamp: function 32 -/
def impl_isStamp.f (a0 : Int) : Option (Bool) := (impl_within.f a0 0 4102444799).bind fun t195 => (some t195)
set_option maxHeartbeats 8000000 in
set_option maxRecDepth 100000 in
theorem impl_isStamp.calls (a0 : Int) (r : Bool) (w : World) (h : impl_isStamp.f a0 = some r) :
  Calls Tryd.prog 32 #[.int .i64 a0] w fun e w' => e = .returned (.bool r) ∧ Drawn0 w w' := by
 have H : ((impl_within.f a0 0 4102444799).bind fun t195 => (some t195)) = some r := h
 clear h
 replace H := Option.bind_eq_some_iff.mp H
 obtain ⟨t195, A20, H⟩ := H
 replace H : (some t195) = some r := H
 have A2 := Aside0.mk A20
 clear A20
 obtain rfl := Option.some.inj H
 go_enter Tryd.func32, Tryd.ntmps32
 go_wp2_with (first | ((with_reducible refine gate_callee (f := 54) rfl ?_); refine goesL_ (some 4) rfl rfl Tryd.func54 (by kernel_rfl) rfl #[.int .i64 a0, .int .i64 0, .int .i64 4102444799] rfl (by (try simp only [List.map_toArray, List.map_cons, List.map_nil]); first | done | rfl | (simp only [List.length_drop, List.length_take]; rfl)) ?_; (with_reducible refine (impl_within.calls a0 0 4102444799 t195 _ A2.out).mono ?_); rintro e w' ⟨rfl, ⟨nd, rfl⟩⟩; refine ⟨_, rfl, ?_⟩))
 go_ret
 exact ⟨by first | rfl | (simp; done) | (simp [*]; done), by repeat (first | exact Drawn0.refl _ | apply Drawn0.step)⟩

end Go.Proofs.YteknchhlineciaaDoor.QFnExactFeedKeys
