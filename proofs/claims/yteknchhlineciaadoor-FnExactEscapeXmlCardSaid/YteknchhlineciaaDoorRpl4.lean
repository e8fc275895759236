/- strings.NewReplacer and a Replacer's first Replace, for the five pairs that escape a text. -/
import Derived.Test.YteknchhlineciaaDoorRpl1
import Derived.Test.YteknchhlineciaaDoorRpl3
import Derived.ArgAppend
namespace Go.Proofs.YteknchhlineciaaDoor.Rpl
open Go.RowKit Go.Proofs.YteknchhlineciaaDoorW.PrintWords Go.Proofs.YteknchhlineciaaDoorW.PrintLast Go.Proofs.YteknchhlineciaaDoorW.PrintMore
set_option linter.unusedVariables false
set_option linter.unusedSimpArgs false
theorem tbl_at : ∀ j u, (tbl.map Value.string)[j]? = some u → j < 10 ∧ u = .string (tbl.getD j ByteArray.empty) := by
  intro j u h
  have hj : j < 10 := by
    have := (List.getElem?_eq_some_iff.1 h).1
    simpa [tbl] using this
  refine ⟨hj, ?_⟩
  rw [List.getElem?_map] at h
  obtain ⟨x, hx, rfl⟩ := Option.map_eq_some_iff.1 h
  rw [List.getD_eq_getElem?_getD, hx]
  rfl
theorem row_cells {W : World} {base : Nat} {v : Value} (h : W.ownsRow base 9 1 v 10 (tbl.map Value.string)) : ∃ g c, v = .slice (some ⟨g, 0, none⟩) 10 c ∧ base ≤ g ∧ g < W.heap.size ∧ 10 ≤ c ∧ ∀ j, j < 10 → W.cell? ⟨g, j, none⟩ = some (.string (tbl.getD j ByteArray.empty)) := by
  rcases h.2 with ⟨_, e⟩ | ⟨g, cap, cur, e1, e2, e3, e4⟩
  · cases e
  · subst e1
    refine ⟨g, cap, rfl, e2, (Array.getElem?_eq_some_iff.1 e3).1, e4.1, fun j hj => ?_⟩
    have ht : cur.toList.take (10 * 1) = tbl.map Value.string := e4.2.2.2
    have h5 : (cur.toList.take (10 * 1))[j]? = some (Value.string (tbl.getD j ByteArray.empty)) := by
      rw [ht, List.getElem?_map]
      have hl : j < tbl.length := hj
      rw [List.getElem?_eq_getElem hl, List.getD_eq_getElem?_getD, List.getElem?_eq_getElem hl]
      rfl
    rw [List.getElem?_take_of_lt (by omega)] at h5
    rw [Lib.cell_of_heap e3, ← Array.getElem?_toList, h5]
set_option maxRecDepth 100000 in
set_option maxHeartbeats 1600000 in
theorem newRep (gb c : Nat) (w : World) (hc : 10 ≤ c) (ht : ∀ j, j < 10 → w.cell? ⟨gb, j, none⟩ = some (.string (tbl.getD j ByteArray.empty))) :
    Calls Tryd.prog 55 #[.slice (some ⟨gb, 0, none⟩) 10 c] w fun e w' => ∃ b ob oc, e = .returned (.pointer (some ⟨b, 0, none⟩)) ∧ w.heap.size ≤ b ∧ w'.heap[b]? = some (.cells #[.int .u32 0, .int .i32 0, .int .u32 0, Value.nilIface, .slice (some ⟨ob, 0, none⟩) 10 oc] 95 (0, 0)) ∧
      w.heap.size ≤ ob ∧ ob < b ∧ (∀ j, j < 10 → w'.cell? ⟨ob, j, none⟩ = some (.string (tbl.getD j ByteArray.empty))) ∧ Below w.heap.size w w' := by
  have HT := Aside0.mk ht
  clear ht
  have hinfo : (Tryd.prog.info? 9).map (fun i => (i.zero, i.size, i.bytes)) = some (some (.string ⟨#[]⟩), 1, 16) := by kernel_rfl
  obtain ⟨i, hi, he⟩ := Option.map_eq_some_iff.1 hinfo
  simp only [Prod.mk.injEq] at he
  go_enter Tryd.func55, Tryd.ntmps55
  go_wp2_with ((with_reducible refine gate_dst (N := 9) rfl ?_); go_loud (refine wpList_append_grows w rfl _ (.tmp 8) 43 rfl 9 i (.string ⟨#[]⟩) 1 16 Tryd.underlying43 hi he.1 he.2.1 he.2.2 rfl (by decide) none 0 0 [] rfl (fun _ => ⟨rfl, rfl⟩) rfl (fun b e => by cases e) ⟨gb, 0, none⟩ 10 c (tbl.map Value.string) rfl rfl (fun j u hj => by obtain ⟨h1, rfl⟩ := tbl_at j u hj; have h2 : ((⟨gb, 0, none⟩ : Addr).add j) = ⟨gb, j, none⟩ := (by unfold Addr.add; split <;> simp_all); rw [h2]; exact HT.out j h1) (fun u hu => by obtain ⟨x, _, rfl⟩ := List.mem_map.1 hu; rfl) (by decide) (by decide) (by decide) ?_); intro v1 w1 hown hg; obtain ⟨ob, oc, rfl, g1, g2, g3, g4⟩ := row_cells hown; have HT1 := Aside0.mk g4; have HG1 := Aside0.mk hg; clear g4 hown hg)
  go_ret
  have hs1 : w.heap.size ≤ w1.heap.size := HG1.out.size
  refine ⟨w1.heap.size, ob, oc, rfl, hs1, heap_alloc_new w1 _, g1, g2, fun j hj => ?_, ?_⟩
  · rw [World.cell?_of_block (heap_alloc_old w1 _ g2)]
    exact HT1.out j hj
  · exact ((Below.refl _ w).grown HG1.out (Nat.le_refl _) (fun k e => by cases e)).alloc hs1 _
/-- A block's cells as they stand. -/
theorem at_cell {W : World} {b : Nat} {cs : Array Value} {t : TypeId} (h : W.heap[b]? = some (.cells cs t (0, 0))) (j : Nat) (v : Value) (hv : cs[j]? = some v) : W.cell? ⟨b, j, none⟩ = some v ∧ W.frozen? ⟨b, j, none⟩ = false := by
  refine ⟨by rw [Lib.cell_of_heap h]; exact hv, ?_⟩
  unfold World.frozen?
  simp [h]
set_option maxRecDepth 100000 in
set_option maxHeartbeats 1600000 in
theorem buildOnce (b gb c B : Nat) (rv : Value) (w0 w : World) (hB : B ≤ b) (hw : w0.heap.size ≤ B) (hBel : Below B w0 w) (hgb : gb ≠ b) (hb : w.heap[b]? = some (.cells #[.int .u32 0, .int .i32 1, .int .u32 0, rv, .slice (some ⟨gb, 0, none⟩) 10 c] 95 (0, 0))) (ht : ∀ j, j < 10 → w.cell? ⟨gb, j, none⟩ = some (.string (tbl.getD j ByteArray.empty))) :
    Calls Tryd.prog 73 #[.pointer (some ⟨b, 0, none⟩)] w fun e w' => e = .returned (.tuple #[]) ∧ ∃ rb v, St w' w.heap.size rb 5 5 v ∧ w'.heap[b]? = some (.cells #[.int .u32 0, .int .i32 1, .int .u32 0, .iface 139 (.pointer (some ⟨rb, 0, none⟩)), .slice none 0 0] 95 (0, 0)) ∧ Below B w0 w' ∧ w.heap.size ≤ w'.heap.size := by
  have hlt : b < w.heap.size := (Array.getElem?_eq_some_iff.1 hb).1
  have c4 := (at_cell hb 4 _ rfl).1
  have cB := build b gb c w c4 ht
  have HBel := Aside0.mk hBel
  have HH := Aside0.mk hb
  have HC := Aside0.mk cB
  clear hBel hb ht c4 cB
  go_enter Tryd.func73, Tryd.ntmps73
  go_wp2_with (go_at_call 86; refine HC.out.mono ?_; rintro e w2 ⟨rb, v, rfl, hst, hbl⟩; have hh2 := (hbl.block b hlt).trans HH.out; obtain ⟨c3, z3⟩ := at_cell hh2 3 _ rfl; have HST := Aside0.mk hst; have HB2 := Aside0.mk hbl; have HH2 := Aside0.mk hh2; obtain ⟨c5, z5⟩ := at_cell (set_at hh2 (.iface 139 (.pointer (some ⟨rb, 0, none⟩))) (j := 3)) 4 _ rfl; clear hst hbl hh2)
  go_end0
  refine ⟨rfl, rb, v, ?_, ?_, ?_, ?_⟩
  · refine HST.out.kept (by rw [set_size, set_size]; exact Nat.le_refl _) (fun g hg _ => ?_)
    rw [set_ne _ (by omega), set_ne _ (by omega)]
  · exact (set_at (set_at HH2.out _) _).trans rfl
  · exact ((HBel.out.trans (HB2.out.mono (by omega))).setCell hB _).setCell hB _
  · rw [set_size, set_size]
    exact HB2.out.size
set_option maxRecDepth 100000 in
set_option maxHeartbeats 1600000 in
theorem firstReplace (b gb c B : Nat) (rv : Value) (s : ByteArray) (hs : s.size ≤ 100000) (w0 w : World) (hB : B ≤ b) (hw : w0.heap.size ≤ B) (hBel : Below B w0 w) (hgb : gb ≠ b) (hb : w.heap[b]? = some (.cells #[.int .u32 0, .int .i32 0, .int .u32 0, rv, .slice (some ⟨gb, 0, none⟩) 10 c] 95 (0, 0))) (ht : ∀ j, j < 10 → w.cell? ⟨gb, j, none⟩ = some (.string (tbl.getD j ByteArray.empty))) :
    Calls Tryd.prog 56 #[.pointer (some ⟨b, 0, none⟩), .string s] w fun e w' => e = .returned (.string ⟨(esc s.data.toList).toArray⟩) ∧ Below B w0 w' := by
  have hlt : b < w.heap.size := (Array.getElem?_eq_some_iff.1 hb).1
  obtain ⟨c0, z0⟩ := at_cell hb 0 _ rfl
  obtain ⟨c1, z1⟩ := at_cell hb 1 _ rfl
  have hb1 : (w.setCell ⟨b, 1, none⟩ (.int .i32 1)).heap[b]? = some (.cells #[.int .u32 0, .int .i32 1, .int .u32 0, rv, .slice (some ⟨gb, 0, none⟩) 10 c] 95 (0, 0)) := (set_at hb _).trans rfl
  have ht1 : ∀ j, j < 10 → (w.setCell ⟨b, 1, none⟩ (.int .i32 1)).cell? ⟨gb, j, none⟩ = some (.string (tbl.getD j ByteArray.empty)) := fun j hj => (World.cell?_of_block (set_ne _ hgb)).trans (ht j hj)
  have hD := Once.do_first b #[.pointer (some ⟨b, 0, none⟩)] w (fun w' => ∃ rb v, St w' w.heap.size rb 5 5 v ∧ w'.heap[b]? = some (.cells #[.int .u32 0, .int .i32 1, .int .u32 0, .iface 139 (.pointer (some ⟨rb, 0, none⟩)), .slice none 0 0] 95 (0, 0)) ∧ Below B w0 w' ∧ w.heap.size ≤ w'.heap.size) c0 c1 z0 z1
    ((buildOnce b gb c B rv w0 (w.setCell ⟨b, 1, none⟩ (.int .i32 1)) hB hw (hBel.setCell hB _) hgb hb1 ht1).mono (by
      rintro e w' ⟨rfl, rb, v, h1, h2, h3, h4⟩
      rw [set_size] at h1 h4
      obtain ⟨d0, f0⟩ := at_cell h2 0 _ rfl
      obtain ⟨d1, f1⟩ := at_cell h2 1 _ rfl
      exact ⟨rfl, ⟨rb, v, h1, h2, h3, h4⟩, d0, d1, f0, f1⟩))
  have hD2 : Calls Tryd.prog 72 #[.pointer (some ⟨b, 0, none⟩), .func (.func 73) #[.pointer (some ⟨b, 0, none⟩)] #[]] w fun e w' => e = .returned (.tuple #[]) ∧ ∃ rb v, St w' w.heap.size rb 5 5 v ∧ w'.cell? ⟨b, 3, none⟩ = some (.iface 139 (.pointer (some ⟨rb, 0, none⟩))) ∧ Below B w0 w' := hD.mono (by
    rintro e w' ⟨rfl, w2, ⟨rb, v, h1, h2, h3, h4⟩, d0, d1, rfl⟩
    have h2' : w2.drew.heap[b]? = some (.cells #[.int .u32 0, .int .i32 1, .int .u32 0, .iface 139 (.pointer (some ⟨rb, 0, none⟩)), .slice none 0 0] 95 (0, 0)) := h2
    refine ⟨rfl, rb, v, ?_, ?_, ?_⟩
    · refine h1.kept (by rw [set_size, set_size]; exact Nat.le_refl _) (fun g hg _ => ?_)
      rw [set_ne _ (by omega), set_ne _ (by omega)]
      rfl
    · exact (at_cell (set_at (set_at h2' (.int .u32 1) (j := 0)) (.int .i32 0) (j := 1)) 3 _ rfl).1
    · exact ((below_drew1 h3).setCell hB _).setCell hB _)
  have HD := Aside0.mk hD2
  clear hD hD2 ht1 hb1 ht hb c0 c1 z0 z1 hBel
  have hme : ∀ (rb : Nat) (W : World), (method 299 139 (.pointer (some ⟨rb, 0, none⟩)) "Replace").run Tryd.prog W = .ok (157, .pointer (some ⟨rb, 0, none⟩)) W := fun _ _ => by kernel_rfl
  go_enter Tryd.func56, Tryd.ntmps56
  go_wp2_with (first | (go_at_call 72; refine HD.out.mono ?_; rintro e w' ⟨rfl, rb, v, h1, h2, h3⟩; have HS := Aside0.mk h1; have HB := Aside0.mk h3; clear h1 h3) | (go_at_call 157; refine (replace _ _ _ s _ HS.out hs).mono ?_; rintro e w3 ⟨rfl, hb3⟩; have HB3 := Aside0.mk hb3; clear hb3))
  go_ret
  exact ⟨rfl, HB.out.trans (HB3.out.mono (by have := HB.out.size; have := HS.out.lt; have := HS.out.low; omega))⟩
set_option maxRecDepth 100000 in
set_option maxHeartbeats 1600000 in
/-- impl.escapeXml. -/
theorem escape (s : ByteArray) (hs : s.size ≤ 100000) (w : World) : Calls Tryd.prog 34 #[.string s] w fun e w' => e = .returned (.string ⟨(esc s.data.toList).toArray⟩) ∧ Below w.heap.size w w' := by
  have ht : ∀ j, j < 10 → (w.alloc (.cells (tbl.map Value.string).toArray 9)).cell? ⟨w.heap.size, j, none⟩ = some (.string (tbl.getD j ByteArray.empty)) := by
    intro j hj
    rw [Lib.cell_of_heap (heap_alloc_new w _)]
    have hl : j < tbl.length := hj
    rw [List.getElem?_toArray, List.getElem?_map, List.getElem?_eq_getElem hl, List.getD_eq_getElem?_getD, List.getElem?_eq_getElem hl]
    rfl
  have HT := Aside0.mk ht
  have HB : Aside0 (Below w.heap.size w (w.alloc (.cells (tbl.map Value.string).toArray 9))) := ⟨(Below.refl _ w).alloc (Nat.le_refl _) _⟩
  have hsz : (w.alloc (.cells (tbl.map Value.string).toArray 9)).heap.size = w.heap.size + 1 := by simp
  clear ht
  go_enter Tryd.func34, Tryd.ntmps34
  go_wp2_with (first | (go_at_call 55; refine (newRep w.heap.size 10 _ (by omega) HT.out).mono ?_; rintro e w1 ⟨b, ob, oc, rfl, h1, h2, h3, h4, h5, h6⟩; have HH := Aside0.mk h2; have HT1 := Aside0.mk h5; have HB1 := Aside0.mk (HB.out.trans (h6.mono (by rw [hsz]; omega))); clear h2 h5 h6) | (go_at_call 56; refine (firstReplace b ob oc w.heap.size _ s hs w _ (by omega) (Nat.le_refl _) HB1.out (by omega) HH.out HT1.out).mono ?_; rintro e w2 ⟨rfl, hb2⟩))
  go_ret
  exact ⟨rfl, hb2⟩
end Go.Proofs.YteknchhlineciaaDoor.Rpl
