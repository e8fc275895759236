/- strings.byteStringReplacer's Replace, for the five bytes: each byte turned into what it becomes. Conditions: a text of at most 100,000 bytes. -/
import Derived.Test.YteknchhlineciaaDoorShelf
import Derived.Test.YteknchhlineciaaDoorRpl2
import Derived.Deep.LoopGhost
import Derived.Deep.CutBlock
import Derived.Deep.DeepCutAuto
import Derived.Deep.QuietTactic
namespace Go.Proofs.YteknchhlineciaaDoor.Rpl
open Go.RowKit Go.Proofs.YteknchhlineciaaDoorW.PrintWords Go.Proofs.YteknchhlineciaaDoorW.PrintLast Go.Proofs.YteknchhlineciaaDoorW.PrintMore
set_option linter.unusedVariables false
set_option linter.unusedSimpArgs false
theorem esc_take_le (l : List UInt8) (i : Nat) : (esc (l.take i)).length ≤ (esc l).length := by
  conv => rhs; rw [← List.take_append_drop i l]
  rw [esc_append, List.length_append]
  omega
theorem nk_le (l : List UInt8) (k : Nat) (hk : k ≤ 5) : nk l k ≤ 5 * l.length := by
  have h0 := nk_zero l
  have h1 := nk_step0 l
  have h2 := nk_step1 l
  have h3 := nk_step2 l
  have h4 := nk_step3 l
  have h5 := nk_step4 l
  have h6 := nk_len l
  have h7 := esc_len l
  obtain rfl | rfl | rfl | rfl | rfl | rfl : k = 0 ∨ k = 1 ∨ k = 2 ∨ k = 3 ∨ k = 4 ∨ k = 5 := by omega
  all_goals omega
theorem ng_le (l : List UInt8) : ng l ≤ 5 * l.length := by
  have h6 := ng_len l
  have h7 := esc_len l
  omega
theorem ak_step0 (l : List UInt8) : ak l 1 = (ak l 0 || decide (Lib.countByte l 13 ≠ 0)) := by simp [ak, adds, Bool.or_assoc]
theorem ak_step1 (l : List UInt8) : ak l 2 = (ak l 1 || decide (Lib.countByte l 34 ≠ 0)) := by simp [ak, adds, Bool.or_assoc]
theorem ak_step2 (l : List UInt8) : ak l 3 = (ak l 2 || decide (Lib.countByte l 62 ≠ 0)) := by simp [ak, adds, Bool.or_assoc]
theorem ak_step3 (l : List UInt8) : ak l 4 = (ak l 3 || decide (Lib.countByte l 60 ≠ 0)) := by simp [ak, adds, Bool.or_assoc]
theorem ak_step4 (l : List UInt8) : ak l 5 = (ak l 4 || decide (Lib.countByte l 38 ≠ 0)) := by simp [ak, adds, Bool.or_assoc]
set_option maxRecDepth 100000 in
set_option maxHeartbeats 8000000 in
theorem replace (base rb : Nat) (v : Value) (s : ByteArray) (w : World) (h : St w base rb 5 5 v) (hs : s.size ≤ 100000) :
    Calls Tryd.prog 157 #[.pointer (some ⟨rb, 0, none⟩), .string s] w fun e w' => e = .returned (.string ⟨(esc s.data.toList).toArray⟩) ∧ Below w.heap.size w w' := by
  have HS := Aside0.mk h
  have hrb := h.lt
  obtain ⟨tb, cap, c256, hcap, ct⟩ := h.list
  have CT := Aside0.mk ct
  have C2 := Aside0.mk c256
  have htb : tb < w.heap.size := World.block_lt_of_cell? w _ (ct 0 (by omega))
  obtain ⟨N, hN⟩ : ∃ N, (esc s.data.toList).length = N := ⟨_, rfl⟩
  have hN1 : s.size ≤ N ∧ N ≤ 600000 := by have := esc_len s.data.toList; have e : s.data.toList.length = s.size := rfl; omega
  clear h ct
  have hnn0 : ∀ W : World, (binOp .neq 67 (.slice none 0 0) (.slice none 0 0)).run Tryd.prog W = .ok (.bool false) W := fun _ => rfl
  have hnn1 : ∀ (g l c : Nat) (W : World), (binOp .neq 67 (.slice (some ⟨g, 0, none⟩) l c) (.slice none 0 0)).run Tryd.prog W = .ok (.bool true) W := fun _ _ _ _ => rfl
  go_enter Tryd.func157, Tryd.ntmps157
  go_upto_if 26 with (fail)
  go_cut [5, 6] (fun v5 v6 wc => ∃ any : Bool, v5 = .int .i64 (N : Int) ∧ v6 = .bool any ∧ Aside0 (any = false → esc s.data.toList = s.data.toList) ∧ Aside0 (Below w.heap.size w wc))
  case first =>
    clear c256
    obtain ⟨f40, h40⟩ : ∃ f, decide ((40 : Int) ≤ (s.size : Int)) = f := ⟨_, rfl⟩
    rw [h40]
    clear h40
    cases f40 with
    | true =>
      have c256 := C2.out
      go_wp2_with fail
      clear c256
      go_loopw [5, 6, 32] (fun v5 v6 v32 wr => ∃ (k : Nat) (m n : Nat) (any : Bool), k ≤ 5 ∧ n ≤ 600000 ∧ Aside0 (n = s.size + nk s.data.toList k) ∧ Aside0 (any = ak s.data.toList k) ∧ v32 = .int .i64 (m : Int) ∧ m = k ∧ v5 = .int .i64 (n : Int) ∧ v6 = .bool any ∧ Aside0 (Below w.heap.size w wr)) (fun _ _ v32 _ => 5 - (intOf v32).toNat)
      case atStart => exact ⟨0, 0, s.size, false, by omega, by omega, ⟨by rw [nk_zero]; rfl⟩, ⟨(ak_zero _).symm⟩, rfl, rfl, rfl, rfl, ⟨Below.refl _ _⟩⟩
      case round =>
        obtain ⟨k, m, n, any, hk, hn, HN, HA, rfl, hm, rfl, rfl, HB⟩ := hrel
        by_cases hlt : k < 5
        · obtain ⟨k, hk2⟩ : ∃ k', k = k' := ⟨_, rfl⟩
          subst hk2
          obtain rfl | rfl | rfl | rfl | rfl : k = 0 ∨ k = 1 ∨ k = 2 ∨ k = 3 ∨ k = 4 := by omega
          · obtain rfl : m = 0 := hm
            have cT0 : w.cell? ⟨tb, 0, none⟩ = some (.string ⟨#[13]⟩) := CT.out 0 (by decide)
            have cT := (HB.out.cell (p := ⟨tb, 0, none⟩) htb).trans cT0
            clear cT0
            obtain ⟨g, c, cG0, hG⟩ := HS.out.at_some (x := 13) (by decide) (t := ⟨#[38, 35, 49, 51, 59]⟩) (by simp [rep])
            have cG : wr.cell? ⟨rb, 13, none⟩ = some (.slice (some ⟨g, 0, none⟩) 5 c) := (HB.out.cell (p := ⟨rb, 13, none⟩) hrb).trans cG0
            clear cG0 hG
            have hst := nk_step0 s.data.toList
            have hsa := ak_step0 s.data.toList
            have hcl : Lib.countByte s.data.toList 13 ≤ 100000 := by have h1 : Lib.countByte s.data.toList 13 ≤ s.data.toList.length := List.count_le_length; have e : s.data.toList.length = s.size := rfl; omega
            have hnl := nk_le s.data.toList 1 (by omega)
            have el : s.data.toList.length = s.size := rfl
            have hcnt := Tryd.strings_Count_one s 13
            obtain ⟨q, hq⟩ : ∃ q, Lib.countByte s.data.toList 13 = q := ⟨_, rfl⟩
            rw [hq] at hst hsa hcl hcnt
            have hn2 : n + q * 4 = s.size + nk s.data.toList 1 := by have := HN.out; omega
            have hn3 : n + q * 4 ≤ 600000 := by omega
            have HN2 := Aside0.mk hn2
            have HSA := Aside0.mk hsa
            clear hst hsa hnl el hn2 hq HN
            have hix : (⟨#[13]⟩ : ByteArray)[0].toNat = 13 := rfl
            by_cases hq0 : q = 0
            · subst hq0
              go_wp2_with (first | (go_at_call 75; refine (hcnt _).mono ?_; rintro e w' ⟨rfl, rfl⟩))
              go_roundw
              case rel => exact ⟨1, 1, n, any, by omega, by omega, ⟨by have := HN2.out; simpa using this⟩, ⟨by rw [HSA.out, ← HA.out]; simp⟩, by first | rfl | simp, rfl, rfl, rfl, HB⟩
              case measure => simp [intOf]
            · have hqb : ((q : Int) != 0) = true := bne_iff_ne.2 (by omega)
              go_wp2_with (first | (go_at_call 75; refine (hcnt _).mono ?_; rintro e w' ⟨rfl, rfl⟩))
              go_region
              go_wp2
              go_roundw
              case rel => exact ⟨1, 1, n + q * 4, true, by omega, by omega, HN2, ⟨by rw [HSA.out]; simp [hq0]⟩, by first | rfl | simp, rfl, by first | rfl | (push_cast; rfl), rfl, ⟨below_drew1 HB.out⟩⟩
              case measure => simp [intOf]
          · obtain rfl : m = 1 := hm
            have cT0 : w.cell? ⟨tb, 1, none⟩ = some (.string ⟨#[34]⟩) := CT.out 1 (by decide)
            have cT := (HB.out.cell (p := ⟨tb, 1, none⟩) htb).trans cT0
            clear cT0
            obtain ⟨g, c, cG0, hG⟩ := HS.out.at_some (x := 34) (by decide) (t := ⟨#[38, 113, 117, 111, 116, 59]⟩) (by simp [rep])
            have cG : wr.cell? ⟨rb, 34, none⟩ = some (.slice (some ⟨g, 0, none⟩) 6 c) := (HB.out.cell (p := ⟨rb, 34, none⟩) hrb).trans cG0
            clear cG0 hG
            have hst := nk_step1 s.data.toList
            have hsa := ak_step1 s.data.toList
            have hcl : Lib.countByte s.data.toList 34 ≤ 100000 := by have h1 : Lib.countByte s.data.toList 34 ≤ s.data.toList.length := List.count_le_length; have e : s.data.toList.length = s.size := rfl; omega
            have hnl := nk_le s.data.toList 2 (by omega)
            have el : s.data.toList.length = s.size := rfl
            have hcnt := Tryd.strings_Count_one s 34
            obtain ⟨q, hq⟩ : ∃ q, Lib.countByte s.data.toList 34 = q := ⟨_, rfl⟩
            rw [hq] at hst hsa hcl hcnt
            have hn2 : n + q * 5 = s.size + nk s.data.toList 2 := by have := HN.out; omega
            have hn3 : n + q * 5 ≤ 600000 := by omega
            have HN2 := Aside0.mk hn2
            have HSA := Aside0.mk hsa
            clear hst hsa hnl el hn2 hq HN
            have hix : (⟨#[34]⟩ : ByteArray)[0].toNat = 34 := rfl
            by_cases hq0 : q = 0
            · subst hq0
              go_wp2_with (first | (go_at_call 75; refine (hcnt _).mono ?_; rintro e w' ⟨rfl, rfl⟩))
              go_roundw
              case rel => exact ⟨2, 2, n, any, by omega, by omega, ⟨by have := HN2.out; simpa using this⟩, ⟨by rw [HSA.out, ← HA.out]; simp⟩, by first | rfl | simp, rfl, rfl, rfl, HB⟩
              case measure => simp [intOf]
            · have hqb : ((q : Int) != 0) = true := bne_iff_ne.2 (by omega)
              go_wp2_with (first | (go_at_call 75; refine (hcnt _).mono ?_; rintro e w' ⟨rfl, rfl⟩))
              go_region
              go_wp2
              go_roundw
              case rel => exact ⟨2, 2, n + q * 5, true, by omega, by omega, HN2, ⟨by rw [HSA.out]; simp [hq0]⟩, by first | rfl | simp, rfl, by first | rfl | (push_cast; rfl), rfl, ⟨below_drew1 HB.out⟩⟩
              case measure => simp [intOf]
          · obtain rfl : m = 2 := hm
            have cT0 : w.cell? ⟨tb, 2, none⟩ = some (.string ⟨#[62]⟩) := CT.out 2 (by decide)
            have cT := (HB.out.cell (p := ⟨tb, 2, none⟩) htb).trans cT0
            clear cT0
            obtain ⟨g, c, cG0, hG⟩ := HS.out.at_some (x := 62) (by decide) (t := ⟨#[38, 103, 116, 59]⟩) (by simp [rep])
            have cG : wr.cell? ⟨rb, 62, none⟩ = some (.slice (some ⟨g, 0, none⟩) 4 c) := (HB.out.cell (p := ⟨rb, 62, none⟩) hrb).trans cG0
            clear cG0 hG
            have hst := nk_step2 s.data.toList
            have hsa := ak_step2 s.data.toList
            have hcl : Lib.countByte s.data.toList 62 ≤ 100000 := by have h1 : Lib.countByte s.data.toList 62 ≤ s.data.toList.length := List.count_le_length; have e : s.data.toList.length = s.size := rfl; omega
            have hnl := nk_le s.data.toList 3 (by omega)
            have el : s.data.toList.length = s.size := rfl
            have hcnt := Tryd.strings_Count_one s 62
            obtain ⟨q, hq⟩ : ∃ q, Lib.countByte s.data.toList 62 = q := ⟨_, rfl⟩
            rw [hq] at hst hsa hcl hcnt
            have hn2 : n + q * 3 = s.size + nk s.data.toList 3 := by have := HN.out; omega
            have hn3 : n + q * 3 ≤ 600000 := by omega
            have HN2 := Aside0.mk hn2
            have HSA := Aside0.mk hsa
            clear hst hsa hnl el hn2 hq HN
            have hix : (⟨#[62]⟩ : ByteArray)[0].toNat = 62 := rfl
            by_cases hq0 : q = 0
            · subst hq0
              go_wp2_with (first | (go_at_call 75; refine (hcnt _).mono ?_; rintro e w' ⟨rfl, rfl⟩))
              go_roundw
              case rel => exact ⟨3, 3, n, any, by omega, by omega, ⟨by have := HN2.out; simpa using this⟩, ⟨by rw [HSA.out, ← HA.out]; simp⟩, by first | rfl | simp, rfl, rfl, rfl, HB⟩
              case measure => simp [intOf]
            · have hqb : ((q : Int) != 0) = true := bne_iff_ne.2 (by omega)
              go_wp2_with (first | (go_at_call 75; refine (hcnt _).mono ?_; rintro e w' ⟨rfl, rfl⟩))
              go_region
              go_wp2
              go_roundw
              case rel => exact ⟨3, 3, n + q * 3, true, by omega, by omega, HN2, ⟨by rw [HSA.out]; simp [hq0]⟩, by first | rfl | simp, rfl, by first | rfl | (push_cast; rfl), rfl, ⟨below_drew1 HB.out⟩⟩
              case measure => simp [intOf]
          · obtain rfl : m = 3 := hm
            have cT0 : w.cell? ⟨tb, 3, none⟩ = some (.string ⟨#[60]⟩) := CT.out 3 (by decide)
            have cT := (HB.out.cell (p := ⟨tb, 3, none⟩) htb).trans cT0
            clear cT0
            obtain ⟨g, c, cG0, hG⟩ := HS.out.at_some (x := 60) (by decide) (t := ⟨#[38, 108, 116, 59]⟩) (by simp [rep])
            have cG : wr.cell? ⟨rb, 60, none⟩ = some (.slice (some ⟨g, 0, none⟩) 4 c) := (HB.out.cell (p := ⟨rb, 60, none⟩) hrb).trans cG0
            clear cG0 hG
            have hst := nk_step3 s.data.toList
            have hsa := ak_step3 s.data.toList
            have hcl : Lib.countByte s.data.toList 60 ≤ 100000 := by have h1 : Lib.countByte s.data.toList 60 ≤ s.data.toList.length := List.count_le_length; have e : s.data.toList.length = s.size := rfl; omega
            have hnl := nk_le s.data.toList 4 (by omega)
            have el : s.data.toList.length = s.size := rfl
            have hcnt := Tryd.strings_Count_one s 60
            obtain ⟨q, hq⟩ : ∃ q, Lib.countByte s.data.toList 60 = q := ⟨_, rfl⟩
            rw [hq] at hst hsa hcl hcnt
            have hn2 : n + q * 3 = s.size + nk s.data.toList 4 := by have := HN.out; omega
            have hn3 : n + q * 3 ≤ 600000 := by omega
            have HN2 := Aside0.mk hn2
            have HSA := Aside0.mk hsa
            clear hst hsa hnl el hn2 hq HN
            have hix : (⟨#[60]⟩ : ByteArray)[0].toNat = 60 := rfl
            by_cases hq0 : q = 0
            · subst hq0
              go_wp2_with (first | (go_at_call 75; refine (hcnt _).mono ?_; rintro e w' ⟨rfl, rfl⟩))
              go_roundw
              case rel => exact ⟨4, 4, n, any, by omega, by omega, ⟨by have := HN2.out; simpa using this⟩, ⟨by rw [HSA.out, ← HA.out]; simp⟩, by first | rfl | simp, rfl, rfl, rfl, HB⟩
              case measure => simp [intOf]
            · have hqb : ((q : Int) != 0) = true := bne_iff_ne.2 (by omega)
              go_wp2_with (first | (go_at_call 75; refine (hcnt _).mono ?_; rintro e w' ⟨rfl, rfl⟩))
              go_region
              go_wp2
              go_roundw
              case rel => exact ⟨4, 4, n + q * 3, true, by omega, by omega, HN2, ⟨by rw [HSA.out]; simp [hq0]⟩, by first | rfl | simp, rfl, by first | rfl | (push_cast; rfl), rfl, ⟨below_drew1 HB.out⟩⟩
              case measure => simp [intOf]
          · obtain rfl : m = 4 := hm
            have cT0 : w.cell? ⟨tb, 4, none⟩ = some (.string ⟨#[38]⟩) := CT.out 4 (by decide)
            have cT := (HB.out.cell (p := ⟨tb, 4, none⟩) htb).trans cT0
            clear cT0
            obtain ⟨g, c, cG0, hG⟩ := HS.out.at_some (x := 38) (by decide) (t := ⟨#[38, 97, 109, 112, 59]⟩) (by simp [rep])
            have cG : wr.cell? ⟨rb, 38, none⟩ = some (.slice (some ⟨g, 0, none⟩) 5 c) := (HB.out.cell (p := ⟨rb, 38, none⟩) hrb).trans cG0
            clear cG0 hG
            have hst := nk_step4 s.data.toList
            have hsa := ak_step4 s.data.toList
            have hcl : Lib.countByte s.data.toList 38 ≤ 100000 := by have h1 : Lib.countByte s.data.toList 38 ≤ s.data.toList.length := List.count_le_length; have e : s.data.toList.length = s.size := rfl; omega
            have hnl := nk_le s.data.toList 5 (by omega)
            have el : s.data.toList.length = s.size := rfl
            have hcnt := Tryd.strings_Count_one s 38
            obtain ⟨q, hq⟩ : ∃ q, Lib.countByte s.data.toList 38 = q := ⟨_, rfl⟩
            rw [hq] at hst hsa hcl hcnt
            have hn2 : n + q * 4 = s.size + nk s.data.toList 5 := by have := HN.out; omega
            have hn3 : n + q * 4 ≤ 600000 := by omega
            have HN2 := Aside0.mk hn2
            have HSA := Aside0.mk hsa
            clear hst hsa hnl el hn2 hq HN
            have hix : (⟨#[38]⟩ : ByteArray)[0].toNat = 38 := rfl
            by_cases hq0 : q = 0
            · subst hq0
              go_wp2_with (first | (go_at_call 75; refine (hcnt _).mono ?_; rintro e w' ⟨rfl, rfl⟩))
              go_roundw
              case rel => exact ⟨5, 5, n, any, by omega, by omega, ⟨by have := HN2.out; simpa using this⟩, ⟨by rw [HSA.out, ← HA.out]; simp⟩, by first | rfl | simp, rfl, rfl, rfl, HB⟩
              case measure => simp [intOf]
            · have hqb : ((q : Int) != 0) = true := bne_iff_ne.2 (by omega)
              go_wp2_with (first | (go_at_call 75; refine (hcnt _).mono ?_; rintro e w' ⟨rfl, rfl⟩))
              go_region
              go_wp2
              go_roundw
              case rel => exact ⟨5, 5, n + q * 4, true, by omega, by omega, HN2, ⟨by rw [HSA.out]; simp [hq0]⟩, by first | rfl | simp, rfl, by first | rfl | (push_cast; rfl), rfl, ⟨below_drew1 HB.out⟩⟩
              case measure => simp [intOf]
        · obtain rfl : k = 5 := by omega
          obtain rfl : m = 5 := hm
          have h1 := HN.out
          have h2 := nk_len s.data.toList
          have h3 : s.data.toList.length = s.size := rfl
          obtain rfl : n = N := by omega
          clear h1 h2 h3
          go_wp2
          go_meet
          case rel => exact ⟨any, rfl, rfl, ⟨fun e => ak_same (by rw [← HA.out]; exact e)⟩, HB⟩
    | false =>
      go_wp2_with fail
      go_loopw [5, 6, 10] (fun v5 v6 v10 wr => ∃ (i n : Nat) (any : Bool), i ≤ s.size ∧ n ≤ 600000 ∧ Aside0 (n = s.size + ng (s.data.toList.take i)) ∧ Aside0 (any = (s.data.toList.take i).any turns) ∧ v10 = .int .i64 (i : Int) ∧ v5 = .int .i64 (n : Int) ∧ v6 = .bool any ∧ Aside0 (Below w.heap.size w wr)) (fun _ _ v10 _ => s.size - (intOf v10).toNat)
      case atStart => exact ⟨0, s.size, false, by omega, by omega, ⟨by simp [ng, esc]⟩, ⟨by simp⟩, rfl, rfl, rfl, ⟨Below.refl _ _⟩⟩
      case round =>
        obtain ⟨i, n, any, hi, hn, HN, HA, rfl, rfl, rfl, HB⟩ := hrel
        by_cases hlt : i < s.size
        · obtain ⟨b, hb⟩ : ∃ b, s[i]'hlt = b := ⟨_, rfl⟩
          have hb2 : s.data.toList[i]? = some b := by
            rw [← hb]
            rw [Array.getElem?_toList, Array.getElem?_eq_getElem (show i < s.data.size from hlt)]
            rfl
          have htk : s.data.toList.take (i + 1) = s.data.toList.take i ++ [b] := by rw [List.take_add_one, hb2]; rfl
          have hng := ng_snoc (s.data.toList.take i) b
          have han : (s.data.toList.take (i + 1)).any turns = ((s.data.toList.take i).any turns || turns b) := by rw [htk]; simp
          rw [← htk] at hng
          have hnl : ng (s.data.toList.take (i + 1)) ≤ 500000 := by
            have h1 := ng_le (s.data.toList.take (i + 1))
            have h2 : (s.data.toList.take (i + 1)).length ≤ s.data.toList.length := by rw [List.length_take]; omega
            have h3 : s.data.toList.length = s.size := rfl
            omega
          have hb256 : b.toNat < 256 := UInt8.toNat_lt b
          have hbi : (b.toNat : Int) < 256 := by omega
          have HNG := Aside0.mk hng
          have HAN := Aside0.mk han
          clear htk hng han hb2
          cases hr : rep 5 b.toNat with
          | none =>
            have c0 : wr.cell? ⟨rb, b.toNat, none⟩ = some (.slice none 0 0) := (HB.out.cell (p := ⟨rb, b.toNat, none⟩) hrb).trans (HS.out.at_none hb256 hr)
            have e1l := e1_none hr
            have htn : turns b = false := by unfold turns; rw [hr]; rfl
            go_wp2
            go_roundw
            case rel => exact ⟨i + 1, n, any, by omega, by omega, ⟨by rw [HNG.out, e1l]; have := HN.out; simpa using this⟩, ⟨by rw [HAN.out, htn, ← HA.out]; simp⟩, by first | rfl | go_num, rfl, rfl, HB⟩
            case measure => simp [intOf]; omega
          | some t =>
            obtain ⟨g, c, cG0, hG⟩ := HS.out.at_some hb256 hr
            have cG : wr.cell? ⟨rb, b.toNat, none⟩ = some (.slice (some ⟨g, 0, none⟩) t.size c) := (HB.out.cell (p := ⟨rb, b.toNat, none⟩) hrb).trans cG0
            clear cG0 hG
            have e1l := e1_some hr
            have ez : t.data.toList.length = t.size := rfl
            have hts := rep_size hr
            have htn : turns b = true := by unfold turns; rw [hr]; rfl
            have hn2 : n + (t.size - 1) ≤ 600000 ∧ n + (t.size - 1) = s.size + ng (s.data.toList.take (i + 1)) := by
              have h1 := HN.out
              have h2 := HNG.out
              rw [e1l, ez] at h2
              omega
            go_wp2
            go_roundw
            case rel => exact ⟨i + 1, n + (t.size - 1), true, by omega, hn2.1, ⟨hn2.2⟩, ⟨by rw [HAN.out, htn]; simp⟩, by first | rfl | go_num, by first | rfl | (congr 1; omega), rfl, HB⟩
            case measure => simp [intOf]; omega
        · obtain rfl : i = s.size := by omega
          have h1 := HN.out
          have h0 : s.data.toList.take s.size = s.data.toList := by
            have h3 : s.data.toList.length = s.size := rfl
            rw [← h3, List.take_length]
          rw [h0] at h1
          have h2 := ng_len s.data.toList
          have h3 : s.data.toList.length = s.size := rfl
          obtain rfl : n = N := by omega
          have HA2 := HA.out
          rw [h0] at HA2
          clear h1 h2 h3
          go_wp2
          go_meet
          case rel => exact ⟨any, rfl, rfl, ⟨fun e => esc_same (by rw [← HA2]; exact e)⟩, HB⟩
  case rest =>
    clear c256
    obtain ⟨any, rfl, rfl, HA, HB⟩ := hcut
    cases any with
    | false =>
      have he := HA.out rfl
      go_wp2
      go_ret
      exact ⟨rfl, HB.out⟩
    | true =>
      have HC := Aside0.mk (HS.out.below HB.out)
      have hrc := HC.out.lt
      have hmk := mkbuf wc N (by omega)
      have HF := Aside0.mk (buf_made wc N)
      go_wp2_with fail
      generalize wc.alloc (.cells (madeCells #[.int .u8 0] N) 5) = W1 at HF ⊢
      obtain ⟨hp, hhp⟩ : ∃ hp, wc.heap.size = hp := ⟨_, rfl⟩
      rw [hhp] at HF hrc ⊢
      clear hmk
      go_loopw [13, 14] (fun v13 v14 wr => ∃ (i a : Nat) (acc : List UInt8), i ≤ s.size ∧ acc.length = a ∧ a ≤ N ∧ Aside0 (acc = esc (s.data.toList.take i)) ∧ v14 = .int .i64 (i : Int) ∧ v13 = .int .i64 (a : Int) ∧ Aside0 (Lib.Buf wc wr hp N acc)) (fun _ v14 _ => s.size - (intOf v14).toNat)
      case atStart => exact ⟨0, 0, [], by omega, rfl, by omega, ⟨by simp [esc]⟩, rfl, rfl, HF⟩
      case round =>
        obtain ⟨i, a, acc, hi, ha, haN, HE, rfl, rfl, HF⟩ := hrel
        by_cases hlt : i < s.size
        · obtain ⟨b, hb⟩ : ∃ b, s[i]'hlt = b := ⟨_, rfl⟩
          have hb2 : s.data.toList[i]? = some b := by
            rw [← hb]
            rw [Array.getElem?_toList, Array.getElem?_eq_getElem (show i < s.data.size from hlt)]
            rfl
          have htk : esc (s.data.toList.take (i + 1)) = acc ++ e1 b := by
            rw [List.take_add_one, hb2, esc_append, HE.out]
            simp [esc]
          have hle := esc_take_le s.data.toList (i + 1)
          rw [htk, hN, List.length_append] at hle
          have hb256 : b.toNat < 256 := UInt8.toNat_lt b
          have hbi : (b.toNat : Int) < 256 := by omega
          have hlb := e1_len b
          have HT := Aside0.mk htk
          clear htk hb2
          cases hr : rep 5 b.toNat with
          | none =>
            have e1l := e1_none hr
            rw [e1l] at hle
            have haN2 : a < N := by simp at hle; omega
            have haN3 : (a : Int) < (N : Int) := by omega
            have c0 : wr.cell? ⟨rb, b.toNat, none⟩ = some (.slice none 0 0) := (HF.out.below.cell (p := ⟨rb, b.toNat, none⟩) hrc).trans (HC.out.at_none hb256 hr)
            obtain ⟨u0, hu0⟩ := Option.isSome_iff_exists.1 (HF.out.there a haN2)
            have hz0 := HF.out.free a haN2
            have HP := Aside0.mk (buf_put HF.out (by omega) b)
            rw [ha] at HP
            clear hle
            go_wp2
            go_roundw
            case rel => exact ⟨i + 1, a + 1, acc ++ [b], by omega, by simp [ha], by omega, ⟨by rw [HT.out, e1l]⟩, by first | rfl | go_num, by first | rfl | go_num, HP⟩
            case measure => simp [intOf]; omega
          | some t =>
            have e1l := e1_some hr
            have ez : t.data.toList.length = t.size := rfl
            have hts := rep_size hr
            rw [e1l] at hle
            obtain ⟨g, c, cG0, hG⟩ := HC.out.at_some hb256 hr
            have cG : wr.cell? ⟨rb, b.toNat, none⟩ = some (.slice (some ⟨g, 0, none⟩) t.size c) := (HF.out.below.cell (p := ⟨rb, b.toNat, none⟩) hrc).trans cG0
            have HG := Aside0.mk hG
            have hsl : ∀ W, (Instr.slice 67 (.slice (some ⟨hp, 0, none⟩) N N) (some (.int .i64 (a : Int))) none none).run Tryd.prog W = .ok (Lib.tailV hp N a) W := fun W => Lib.run_slice_tailV W 67 5 Tryd.underlying67 (fun _ => rfl) _ N a haN
            have hzl : a + t.data.toList.length ≤ N := by omega
            clear cG0 hG
            go_wp2_with fail
            go_region_law (refine step_copy_part rfl (.tmp 105) (.tmp 111) rfl wc hp N acc t.data.toList (.slice (some ⟨g, 0, none⟩) t.size c) (by rw [ha]; rfl) rfl (by first | exact HF.out | exact buf_drew HF.out) HG.out (by omega) (by omega) ?_; intro w2 HF2)
            go_wp2
            go_roundw
            case rel => exact ⟨i + 1, a + t.data.toList.length, acc ++ t.data.toList, by omega, by rw [List.length_append, ha], by omega, ⟨by rw [HT.out, e1l]⟩, by first | rfl | go_num, by first | rfl | go_num, HF2⟩
            case measure => simp [intOf]; omega
        · obtain rfl : i = s.size := by omega
          have h0 : s.data.toList.take s.size = s.data.toList := by
            have h3 : s.data.toList.length = s.size := rfl
            rw [← h3, List.take_length]
          have he := HE.out
          rw [h0] at he
          have hst := buf_string (c := N) HF.out (by rw [he]; exact hN)
          clear h0
          go_wp2
          go_ret
          exact ⟨rfl, HB.out.trans (HF.out.below.mono (by have := HB.out.size; omega))⟩
end Go.Proofs.YteknchhlineciaaDoor.Rpl
