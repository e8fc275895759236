/- strings.Replacer's build, of the five pairs that escape a text: a byteStringReplacer. -/
import Derived.Test.YteknchhlineciaaDoorOnce
import Derived.Test.YteknchhlineciaaDoorRpl0
import Derived.Deep.LoopGhost
import Derived.Deep.CutBlock
import Derived.Deep.DeepCutAuto
import Derived.Deep.QuietTactic
namespace Go.Proofs.YteknchhlineciaaDoor.Rpl
open Go.RowKit Go.Proofs.YteknchhlineciaaDoorW.PrintWords Go.Proofs.YteknchhlineciaaDoorW.PrintLast Go.Proofs.YteknchhlineciaaDoorW.PrintMore
set_option linter.unusedVariables false
/-- The pairs. -/
def tbl : List ByteArray := [⟨#[38]⟩, ⟨#[38, 97, 109, 112, 59]⟩, ⟨#[60]⟩, ⟨#[38, 108, 116, 59]⟩, ⟨#[62]⟩, ⟨#[38, 103, 116, 59]⟩, ⟨#[34]⟩, ⟨#[38, 113, 117, 111, 116, 59]⟩, ⟨#[13]⟩, ⟨#[38, 35, 49, 51, 59]⟩]
theorem str1 (W : World) (x : Int) (y : UInt8) (h : x = (y.toNat : Int)) : (convert 67 9 (.slice (some ⟨W.heap.size, 0, none⟩) 1 1)).run Tryd.prog (W.alloc (.cells #[.int .u8 x] 5)) = .ok (.string ⟨#[y]⟩) (W.alloc (.cells #[.int .u8 x] 5)) := by
  have ho := own_lit_of (enc := Value.int .u8) W W.heap.size 5 [x] (Nat.le_refl _) (by simp)
  subst h
  have h := own_string (P := Tryd.prog) Tryd.underlying67 Tryd.underlying5 Tryd.underlying9 (xs := [(y.toNat : Int)]) ho
  simpa [strOfNums, encs] using h
set_option maxRecDepth 100000 in
set_option maxHeartbeats 8000000 in
theorem build (b gb c : Nat) (w : World) (hs : w.cell? ⟨b, 4, none⟩ = some (.slice (some ⟨gb, 0, none⟩) 10 c)) (ht : ∀ j, j < 10 → w.cell? ⟨gb, j, none⟩ = some (.string (tbl.getD j ByteArray.empty))) :
    Calls Tryd.prog 86 #[.pointer (some ⟨b, 0, none⟩)] w fun e w' => ∃ rb v, e = .returned (.iface 139 (.pointer (some ⟨rb, 0, none⟩))) ∧ St w' w.heap.size rb 5 5 v ∧ Below w.heap.size w w' := by
  have HT := Aside0.mk ht
  have HS := Aside0.mk hs
  have hmk := mk5
  have hst := st138
  clear ht
  go_enter Tryd.func86, Tryd.ntmps86
  go_wp2_with fail
  go_loopw [5, 4] (fun v5 v4 wr => ∃ (k : Nat) (n : Int) (f : Bool), k ≤ 5 ∧ n = 2 * (k : Int) ∧ f = decide (k = 0) ∧ v5 = .int .i64 n ∧ v4 = .bool f ∧ w = wr) (fun v5 _ _ => 10 - (intOf v5).toNat)
  case atStart => exact ⟨0, 0, true, by omega, rfl, rfl, rfl, rfl, rfl⟩
  case round =>
    obtain ⟨k, n, f, hk, hn, hf, rfl, rfl, rfl⟩ := hrel
    by_cases hlt : k < 5
    · obtain rfl | rfl | rfl | rfl | rfl : k = 0 ∨ k = 1 ∨ k = 2 ∨ k = 3 ∨ k = 4 := by omega
      · obtain rfl : n = 0 := by omega
        obtain rfl : f = true := hf
        clear hn
        have c0 : w.cell? ⟨gb, 0, none⟩ = some (.string ⟨#[38]⟩) := HT.out 0 (by decide)
        have c1 : w.cell? ⟨gb, 1, none⟩ = some (.string ⟨#[38, 97, 109, 112, 59]⟩) := HT.out 1 (by decide)
        go_wp2
        go_roundw
        case rel => exact ⟨1, _, _, by omega, by first | rfl | omega | simp, by first | rfl | simp, by first | rfl | simp, by first | rfl | simp, by first | rfl | trivial⟩
        case measure => simp [intOf]
      · obtain rfl : n = 2 := by omega
        obtain rfl : f = false := hf
        clear hn
        have c0 : w.cell? ⟨gb, 2, none⟩ = some (.string ⟨#[60]⟩) := HT.out 2 (by decide)
        have c1 : w.cell? ⟨gb, 3, none⟩ = some (.string ⟨#[38, 108, 116, 59]⟩) := HT.out 3 (by decide)
        go_wp2
        go_roundw
        case rel => exact ⟨2, _, _, by omega, by first | rfl | omega | simp, by first | rfl | simp, by first | rfl | simp, by first | rfl | simp, by first | rfl | trivial⟩
        case measure => simp [intOf]
      · obtain rfl : n = 4 := by omega
        obtain rfl : f = false := hf
        clear hn
        have c0 : w.cell? ⟨gb, 4, none⟩ = some (.string ⟨#[62]⟩) := HT.out 4 (by decide)
        have c1 : w.cell? ⟨gb, 5, none⟩ = some (.string ⟨#[38, 103, 116, 59]⟩) := HT.out 5 (by decide)
        go_wp2
        go_roundw
        case rel => exact ⟨3, _, _, by omega, by first | rfl | omega | simp, by first | rfl | simp, by first | rfl | simp, by first | rfl | simp, by first | rfl | trivial⟩
        case measure => simp [intOf]
      · obtain rfl : n = 6 := by omega
        obtain rfl : f = false := hf
        clear hn
        have c0 : w.cell? ⟨gb, 6, none⟩ = some (.string ⟨#[34]⟩) := HT.out 6 (by decide)
        have c1 : w.cell? ⟨gb, 7, none⟩ = some (.string ⟨#[38, 113, 117, 111, 116, 59]⟩) := HT.out 7 (by decide)
        go_wp2
        go_roundw
        case rel => exact ⟨4, _, _, by omega, by first | rfl | omega | simp, by first | rfl | simp, by first | rfl | simp, by first | rfl | simp, by first | rfl | trivial⟩
        case measure => simp [intOf]
      · obtain rfl : n = 8 := by omega
        obtain rfl : f = false := hf
        clear hn
        have c0 : w.cell? ⟨gb, 8, none⟩ = some (.string ⟨#[13]⟩) := HT.out 8 (by decide)
        have c1 : w.cell? ⟨gb, 9, none⟩ = some (.string ⟨#[38, 35, 49, 51, 59]⟩) := HT.out 9 (by decide)
        go_wp2
        go_roundw
        case rel => exact ⟨5, _, _, by omega, by first | rfl | omega | simp, by first | rfl | simp, by first | rfl | simp, by first | rfl | simp, by first | rfl | trivial⟩
        case measure => simp [intOf]
    · obtain rfl : k = 5 := by omega
      obtain rfl : n = 10 := by omega
      obtain rfl : f = false := hf
      clear hn
      have HS0 := Aside0.mk (St.start w w.heap.size (Nat.le_refl _))
      have HB0 : Aside0 (Below w.heap.size w ((w.alloc (.cells (madeCells #[.string ⟨#[]⟩] 5) 9)).alloc (.cells (R0 w.heap.size) 138))) := ⟨((Below.refl _ w).alloc (Nat.le_refl _) _).alloc (by simp) _⟩
      go_wp2
      generalize (w.alloc (.cells (madeCells #[.string ⟨#[]⟩] 5) 9)).alloc (.cells (R0 w.heap.size) 138) = W1 at HS0 HB0 ⊢
      obtain ⟨rb, hrb⟩ : ∃ rb, w.heap.size + 1 = rb := ⟨_, rfl⟩
      rw [hrb] at HS0 ⊢
      clear hrb hmk hst
      go_loopw [12] (fun v12 W2 => ∃ (k : Nat) (v : Value), k ≤ 5 ∧ v12 = .int .i64 (8 - 2 * (k : Int)) ∧ Aside0 (St W2 w.heap.size rb k k v) ∧ Aside0 (Below w.heap.size w W2)) (fun v12 _ => (intOf v12 + 2).toNat)
      case atStart => exact ⟨0, _, by omega, rfl, HS0, HB0⟩
      case round =>
        obtain ⟨k, v, hk, rfl, HS, HB⟩ := hrel
        by_cases hlt2 : k < 5
        · obtain rfl | rfl | rfl | rfl | rfl : k = 0 ∨ k = 1 ∨ k = 2 ∨ k = 3 ∨ k = 4 := by omega
          · have e0 : w.cell? ⟨gb, 8, none⟩ = some (.string ⟨#[13]⟩) := HT.out 8 (by decide)
            have e1 : w.cell? ⟨gb, 9, none⟩ = some (.string ⟨#[38, 35, 49, 51, 59]⟩) := HT.out 9 (by decide)
            have c0 := (HB.out.cell (World.block_lt_of_cell? w _ e0)).trans e0
            have c1 := (HB.out.cell (World.block_lt_of_cell? w _ e1)).trans e1
            obtain ⟨cs, a1, a2, a3, a4⟩ := HS.out.row
            have cx : wr.cell? ⟨rb, 13, none⟩ = some (.slice none 0 0) := by
              rw [Lib.cell_of_heap a1]
              obtain ⟨u, b1, b2⟩ := a4 13 (by decide)
              rw [b1]
              have hr : rep 0 13 = none := by simp [rep]
              rw [hr] at b2
              exact congrArg some b2
            have cl : wr.cell? ⟨rb, 256, none⟩ = some v := by
              rw [Lib.cell_of_heap a1]
              exact a3
            clear a1 a2 a3 a4 e0 e1
            have hstr := fun W => str1 W 13 13 rfl
            have hnil : ∀ W : World, (binOp .eql 67 (.slice none 0 0) (.slice none 0 0)).run Tryd.prog W = .ok (.bool true) W := fun _ => rfl
            have hix : (⟨#[13]⟩ : ByteArray)[0].toNat = 13 := rfl
            have HSA : Aside0 (St (wr.alloc (.cells #[.int .u8 13] 5)) w.heap.size rb 0 0 v) := ⟨HS.out.below ((Below.refl _ wr).alloc (Nat.le_refl _) _)⟩
            have HBA : Aside0 (Below w.heap.size w (wr.alloc (.cells #[.int .u8 13] 5))) := ⟨HB.out.alloc (below_size HB.out) _⟩
            go_wp2_with (first | ((with_reducible refine gate_dst (N := 124) rfl ?_); refine print_append_of (W := wr.alloc (.cells #[.int .u8 13] 5)) (w0 := w) Value.string w.heap.size rfl (.tmp 119) (.tmp 123) 43 9 (.string ⟨#[]⟩) 16 rfl Tryd.underlying43 (by kernel_rfl) rfl (by omega) v (olds.take 0) ⟨#[13]⟩ rfl (by show Value.slice (some ⟨wr.heap.size + 1, 0, none⟩) 1 1 = _; simp) rfl HSA.out.own HBA.out (below_size HBA.out) (by simp [olds]) ?_; intro v1 w1 hown hb1 hg hat; obtain ⟨hl1, hz1⟩ := HSA.out.last hg; have HS2 := Aside0.mk (HSA.out.push hg hown hat); have HB2 : Aside0 (Below w.heap.size w (w1.setCell ⟨rb, 256, none⟩ v1)) := ⟨hb1.setCell HS.out.low _⟩; obtain ⟨g1, cap1, ev⟩ := own_form hown; subst ev; clear hg hat hown hstr hnil) | ((with_reducible refine gate_dst (N := 128) rfl ?_); refine put_event (N := 128) rfl rfl ⟨#[38, 35, 49, 51, 59]⟩ ⟨_, rfl, rfl⟩ HS2.out HB2.out (below_size HB2.out) 13 (by decide) (by simp [rep]) (by simp [rep]) (by intro y hy; simp [rep, hy]) ?_; intro g2 cap2 w2 d1 d2 HS3 HB3; clear HS2 HB2))
            go_roundw
            case rel => exact ⟨0 + 1, _, by omega, by first | rfl | simp, HS3, HB3⟩
            case measure => simp [intOf]
          · have e0 : w.cell? ⟨gb, 6, none⟩ = some (.string ⟨#[34]⟩) := HT.out 6 (by decide)
            have e1 : w.cell? ⟨gb, 7, none⟩ = some (.string ⟨#[38, 113, 117, 111, 116, 59]⟩) := HT.out 7 (by decide)
            have c0 := (HB.out.cell (World.block_lt_of_cell? w _ e0)).trans e0
            have c1 := (HB.out.cell (World.block_lt_of_cell? w _ e1)).trans e1
            obtain ⟨cs, a1, a2, a3, a4⟩ := HS.out.row
            have cx : wr.cell? ⟨rb, 34, none⟩ = some (.slice none 0 0) := by
              rw [Lib.cell_of_heap a1]
              obtain ⟨u, b1, b2⟩ := a4 34 (by decide)
              rw [b1]
              have hr : rep 1 34 = none := by simp [rep]
              rw [hr] at b2
              exact congrArg some b2
            have cl : wr.cell? ⟨rb, 256, none⟩ = some v := by
              rw [Lib.cell_of_heap a1]
              exact a3
            clear a1 a2 a3 a4 e0 e1
            have hstr := fun W => str1 W 34 34 rfl
            have hnil : ∀ W : World, (binOp .eql 67 (.slice none 0 0) (.slice none 0 0)).run Tryd.prog W = .ok (.bool true) W := fun _ => rfl
            have hix : (⟨#[34]⟩ : ByteArray)[0].toNat = 34 := rfl
            have HSA : Aside0 (St (wr.alloc (.cells #[.int .u8 34] 5)) w.heap.size rb 1 1 v) := ⟨HS.out.below ((Below.refl _ wr).alloc (Nat.le_refl _) _)⟩
            have HBA : Aside0 (Below w.heap.size w (wr.alloc (.cells #[.int .u8 34] 5))) := ⟨HB.out.alloc (below_size HB.out) _⟩
            go_wp2_with (first | ((with_reducible refine gate_dst (N := 124) rfl ?_); refine print_append_of (W := wr.alloc (.cells #[.int .u8 34] 5)) (w0 := w) Value.string w.heap.size rfl (.tmp 119) (.tmp 123) 43 9 (.string ⟨#[]⟩) 16 rfl Tryd.underlying43 (by kernel_rfl) rfl (by omega) v (olds.take 1) ⟨#[34]⟩ rfl (by show Value.slice (some ⟨wr.heap.size + 1, 0, none⟩) 1 1 = _; simp) rfl HSA.out.own HBA.out (below_size HBA.out) (by simp [olds]) ?_; intro v1 w1 hown hb1 hg hat; obtain ⟨hl1, hz1⟩ := HSA.out.last hg; have HS2 := Aside0.mk (HSA.out.push hg hown hat); have HB2 : Aside0 (Below w.heap.size w (w1.setCell ⟨rb, 256, none⟩ v1)) := ⟨hb1.setCell HS.out.low _⟩; obtain ⟨g1, cap1, ev⟩ := own_form hown; subst ev; clear hg hat hown hstr hnil) | ((with_reducible refine gate_dst (N := 128) rfl ?_); refine put_event (N := 128) rfl rfl ⟨#[38, 113, 117, 111, 116, 59]⟩ ⟨_, rfl, rfl⟩ HS2.out HB2.out (below_size HB2.out) 34 (by decide) (by simp [rep]) (by simp [rep]) (by intro y hy; simp [rep, hy]) ?_; intro g2 cap2 w2 d1 d2 HS3 HB3; clear HS2 HB2))
            go_roundw
            case rel => exact ⟨1 + 1, _, by omega, by first | rfl | simp, HS3, HB3⟩
            case measure => simp [intOf]
          · have e0 : w.cell? ⟨gb, 4, none⟩ = some (.string ⟨#[62]⟩) := HT.out 4 (by decide)
            have e1 : w.cell? ⟨gb, 5, none⟩ = some (.string ⟨#[38, 103, 116, 59]⟩) := HT.out 5 (by decide)
            have c0 := (HB.out.cell (World.block_lt_of_cell? w _ e0)).trans e0
            have c1 := (HB.out.cell (World.block_lt_of_cell? w _ e1)).trans e1
            obtain ⟨cs, a1, a2, a3, a4⟩ := HS.out.row
            have cx : wr.cell? ⟨rb, 62, none⟩ = some (.slice none 0 0) := by
              rw [Lib.cell_of_heap a1]
              obtain ⟨u, b1, b2⟩ := a4 62 (by decide)
              rw [b1]
              have hr : rep 2 62 = none := by simp [rep]
              rw [hr] at b2
              exact congrArg some b2
            have cl : wr.cell? ⟨rb, 256, none⟩ = some v := by
              rw [Lib.cell_of_heap a1]
              exact a3
            clear a1 a2 a3 a4 e0 e1
            have hstr := fun W => str1 W 62 62 rfl
            have hnil : ∀ W : World, (binOp .eql 67 (.slice none 0 0) (.slice none 0 0)).run Tryd.prog W = .ok (.bool true) W := fun _ => rfl
            have hix : (⟨#[62]⟩ : ByteArray)[0].toNat = 62 := rfl
            have HSA : Aside0 (St (wr.alloc (.cells #[.int .u8 62] 5)) w.heap.size rb 2 2 v) := ⟨HS.out.below ((Below.refl _ wr).alloc (Nat.le_refl _) _)⟩
            have HBA : Aside0 (Below w.heap.size w (wr.alloc (.cells #[.int .u8 62] 5))) := ⟨HB.out.alloc (below_size HB.out) _⟩
            go_wp2_with (first | ((with_reducible refine gate_dst (N := 124) rfl ?_); refine print_append_of (W := wr.alloc (.cells #[.int .u8 62] 5)) (w0 := w) Value.string w.heap.size rfl (.tmp 119) (.tmp 123) 43 9 (.string ⟨#[]⟩) 16 rfl Tryd.underlying43 (by kernel_rfl) rfl (by omega) v (olds.take 2) ⟨#[62]⟩ rfl (by show Value.slice (some ⟨wr.heap.size + 1, 0, none⟩) 1 1 = _; simp) rfl HSA.out.own HBA.out (below_size HBA.out) (by simp [olds]) ?_; intro v1 w1 hown hb1 hg hat; obtain ⟨hl1, hz1⟩ := HSA.out.last hg; have HS2 := Aside0.mk (HSA.out.push hg hown hat); have HB2 : Aside0 (Below w.heap.size w (w1.setCell ⟨rb, 256, none⟩ v1)) := ⟨hb1.setCell HS.out.low _⟩; obtain ⟨g1, cap1, ev⟩ := own_form hown; subst ev; clear hg hat hown hstr hnil) | ((with_reducible refine gate_dst (N := 128) rfl ?_); refine put_event (N := 128) rfl rfl ⟨#[38, 103, 116, 59]⟩ ⟨_, rfl, rfl⟩ HS2.out HB2.out (below_size HB2.out) 62 (by decide) (by simp [rep]) (by simp [rep]) (by intro y hy; simp [rep, hy]) ?_; intro g2 cap2 w2 d1 d2 HS3 HB3; clear HS2 HB2))
            go_roundw
            case rel => exact ⟨2 + 1, _, by omega, by first | rfl | simp, HS3, HB3⟩
            case measure => simp [intOf]
          · have e0 : w.cell? ⟨gb, 2, none⟩ = some (.string ⟨#[60]⟩) := HT.out 2 (by decide)
            have e1 : w.cell? ⟨gb, 3, none⟩ = some (.string ⟨#[38, 108, 116, 59]⟩) := HT.out 3 (by decide)
            have c0 := (HB.out.cell (World.block_lt_of_cell? w _ e0)).trans e0
            have c1 := (HB.out.cell (World.block_lt_of_cell? w _ e1)).trans e1
            obtain ⟨cs, a1, a2, a3, a4⟩ := HS.out.row
            have cx : wr.cell? ⟨rb, 60, none⟩ = some (.slice none 0 0) := by
              rw [Lib.cell_of_heap a1]
              obtain ⟨u, b1, b2⟩ := a4 60 (by decide)
              rw [b1]
              have hr : rep 3 60 = none := by simp [rep]
              rw [hr] at b2
              exact congrArg some b2
            have cl : wr.cell? ⟨rb, 256, none⟩ = some v := by
              rw [Lib.cell_of_heap a1]
              exact a3
            clear a1 a2 a3 a4 e0 e1
            have hstr := fun W => str1 W 60 60 rfl
            have hnil : ∀ W : World, (binOp .eql 67 (.slice none 0 0) (.slice none 0 0)).run Tryd.prog W = .ok (.bool true) W := fun _ => rfl
            have hix : (⟨#[60]⟩ : ByteArray)[0].toNat = 60 := rfl
            have HSA : Aside0 (St (wr.alloc (.cells #[.int .u8 60] 5)) w.heap.size rb 3 3 v) := ⟨HS.out.below ((Below.refl _ wr).alloc (Nat.le_refl _) _)⟩
            have HBA : Aside0 (Below w.heap.size w (wr.alloc (.cells #[.int .u8 60] 5))) := ⟨HB.out.alloc (below_size HB.out) _⟩
            go_wp2_with (first | ((with_reducible refine gate_dst (N := 124) rfl ?_); refine print_append_of (W := wr.alloc (.cells #[.int .u8 60] 5)) (w0 := w) Value.string w.heap.size rfl (.tmp 119) (.tmp 123) 43 9 (.string ⟨#[]⟩) 16 rfl Tryd.underlying43 (by kernel_rfl) rfl (by omega) v (olds.take 3) ⟨#[60]⟩ rfl (by show Value.slice (some ⟨wr.heap.size + 1, 0, none⟩) 1 1 = _; simp) rfl HSA.out.own HBA.out (below_size HBA.out) (by simp [olds]) ?_; intro v1 w1 hown hb1 hg hat; obtain ⟨hl1, hz1⟩ := HSA.out.last hg; have HS2 := Aside0.mk (HSA.out.push hg hown hat); have HB2 : Aside0 (Below w.heap.size w (w1.setCell ⟨rb, 256, none⟩ v1)) := ⟨hb1.setCell HS.out.low _⟩; obtain ⟨g1, cap1, ev⟩ := own_form hown; subst ev; clear hg hat hown hstr hnil) | ((with_reducible refine gate_dst (N := 128) rfl ?_); refine put_event (N := 128) rfl rfl ⟨#[38, 108, 116, 59]⟩ ⟨_, rfl, rfl⟩ HS2.out HB2.out (below_size HB2.out) 60 (by decide) (by simp [rep]) (by simp [rep]) (by intro y hy; simp [rep, hy]) ?_; intro g2 cap2 w2 d1 d2 HS3 HB3; clear HS2 HB2))
            go_roundw
            case rel => exact ⟨3 + 1, _, by omega, by first | rfl | simp, HS3, HB3⟩
            case measure => simp [intOf]
          · have e0 : w.cell? ⟨gb, 0, none⟩ = some (.string ⟨#[38]⟩) := HT.out 0 (by decide)
            have e1 : w.cell? ⟨gb, 1, none⟩ = some (.string ⟨#[38, 97, 109, 112, 59]⟩) := HT.out 1 (by decide)
            have c0 := (HB.out.cell (World.block_lt_of_cell? w _ e0)).trans e0
            have c1 := (HB.out.cell (World.block_lt_of_cell? w _ e1)).trans e1
            obtain ⟨cs, a1, a2, a3, a4⟩ := HS.out.row
            have cx : wr.cell? ⟨rb, 38, none⟩ = some (.slice none 0 0) := by
              rw [Lib.cell_of_heap a1]
              obtain ⟨u, b1, b2⟩ := a4 38 (by decide)
              rw [b1]
              have hr : rep 4 38 = none := by simp [rep]
              rw [hr] at b2
              exact congrArg some b2
            have cl : wr.cell? ⟨rb, 256, none⟩ = some v := by
              rw [Lib.cell_of_heap a1]
              exact a3
            clear a1 a2 a3 a4 e0 e1
            have hstr := fun W => str1 W 38 38 rfl
            have hnil : ∀ W : World, (binOp .eql 67 (.slice none 0 0) (.slice none 0 0)).run Tryd.prog W = .ok (.bool true) W := fun _ => rfl
            have hix : (⟨#[38]⟩ : ByteArray)[0].toNat = 38 := rfl
            have HSA : Aside0 (St (wr.alloc (.cells #[.int .u8 38] 5)) w.heap.size rb 4 4 v) := ⟨HS.out.below ((Below.refl _ wr).alloc (Nat.le_refl _) _)⟩
            have HBA : Aside0 (Below w.heap.size w (wr.alloc (.cells #[.int .u8 38] 5))) := ⟨HB.out.alloc (below_size HB.out) _⟩
            go_wp2_with (first | ((with_reducible refine gate_dst (N := 124) rfl ?_); refine print_append_of (W := wr.alloc (.cells #[.int .u8 38] 5)) (w0 := w) Value.string w.heap.size rfl (.tmp 119) (.tmp 123) 43 9 (.string ⟨#[]⟩) 16 rfl Tryd.underlying43 (by kernel_rfl) rfl (by omega) v (olds.take 4) ⟨#[38]⟩ rfl (by show Value.slice (some ⟨wr.heap.size + 1, 0, none⟩) 1 1 = _; simp) rfl HSA.out.own HBA.out (below_size HBA.out) (by simp [olds]) ?_; intro v1 w1 hown hb1 hg hat; obtain ⟨hl1, hz1⟩ := HSA.out.last hg; have HS2 := Aside0.mk (HSA.out.push hg hown hat); have HB2 : Aside0 (Below w.heap.size w (w1.setCell ⟨rb, 256, none⟩ v1)) := ⟨hb1.setCell HS.out.low _⟩; obtain ⟨g1, cap1, ev⟩ := own_form hown; subst ev; clear hg hat hown hstr hnil) | ((with_reducible refine gate_dst (N := 128) rfl ?_); refine put_event (N := 128) rfl rfl ⟨#[38, 97, 109, 112, 59]⟩ ⟨_, rfl, rfl⟩ HS2.out HB2.out (below_size HB2.out) 38 (by decide) (by simp [rep]) (by simp [rep]) (by intro y hy; simp [rep, hy]) ?_; intro g2 cap2 w2 d1 d2 HS3 HB3; clear HS2 HB2))
            go_roundw
            case rel => exact ⟨4 + 1, _, by omega, by first | rfl | simp, HS3, HB3⟩
            case measure => simp [intOf]
        · obtain rfl : k = 5 := by omega
          go_wp2
          go_ret
          exact ⟨rb, v, rfl, HS.out, HB.out⟩
end Go.Proofs.YteknchhlineciaaDoor.Rpl
