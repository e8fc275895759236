/- What a call is told of Go's package variables: the tables of unicode/utf8, as their text lays them; bytealg.MaxLen holds some number. Conditions: none. -/
import Derived.Test.YteknchhlineciaaDoorShelf
import Derived.Test.YteknchhlineciaaDoorWMore
import Derived.Shelf.Unicode.ValidAny
import Derived.Below
import Derived.Lib.LaidU8T
import Derived.KernelRfl
namespace Go.Proofs.YteknchhlineciaaDoor
open Go.RowKit Go.Lib Go.Shelf Go.Proofs.YteknchhlineciaaDoorW.PrintWords
/-- The package variables hold what their text lays. -/
structure Glob (w : World) : Prop where
  tabs : Lib.Utf8Tabs (Tryd.lays260_ren.g 3) (Tryd.lays260_ren.g 4) w
  mlen : ∃ m, w.cell? ⟨2, 0, none⟩ = some (.int .i64 m)
theorem Glob.of_below {w w1 : World} (h : Glob w) (hb : Below w.heap.size w w1) : Glob w1 := ⟨Utf8Tabs_below h.tabs hb, by
  obtain ⟨m, hm⟩ := h.mlen
  exact ⟨m, (hb.cell (World.block_lt_of_cell? w _ hm)).trans hm⟩⟩
theorem Glob.of_laid {w : World} (h3 : VarReads Tryd.prog w "unicode/utf8.first" Lib.firstData) (h4 : VarReads Tryd.prog w "unicode/utf8.acceptRanges" Lib.acceptData) (hs : w.ShapedOpen Tryd.prog) : Glob w :=
  ⟨utf8Tabs_of_readsT (U8Types.of260 Tryd.lays260) ⟨by kernel_rfl, by kernel_rfl, by kernel_rfl, by kernel_rfl, by kernel_rfl, by kernel_rfl, by kernel_rfl⟩ h3 h4, ⟨_, (Go.Proofs.cell_of_shapedOpen_int (zero := #[.int .i64 0]) (t := 3) hs (of_decide_eq_true (by kernel_rfl)) (by kernel_rfl) rfl (by kernel_rfl) (by kernel_rfl) Tryd.underlying3).choose_spec⟩⟩
/-- A new row of texts. -/
theorem Glob.strs (W : World) (e : Nat) (xs : List ByteArray) (hm : xs.length ≤ 9223372036854775807) :
    Kd.R Kd.string e (W.alloc (.cells (xs.map Value.string).toArray e)) W.heap.size (fun _ => True) (.slice (some ⟨W.heap.size, 0, none⟩) xs.length xs.length) xs := by
  refine ⟨fun _ _ => trivial, xs.map Value.string, ?_, ?_⟩
  · have h2 := World.ownsRow_lit (base := W.heap.size) (e := e) (size := 1) W (xs.map Value.string).toArray xs.length (Nat.le_refl _) (by simpa [maxLen] using hm) (by simp)
    have h3 : (W.alloc (.cells (xs.map Value.string).toArray e)).ownsRow W.heap.size e 1 (.slice (some ⟨W.heap.size, 0, none⟩) xs.length xs.length) xs.length (xs.map Value.string) := by simpa using h2
    exact h3
  · refine ⟨by simp [Kd.string, Kd.scalar], fun j p hj => ?_⟩
    show ((xs.map Value.string).drop (j * 1)).take 1 = [Value.string p]
    have hl : j < xs.length := (List.getElem?_eq_some_iff.1 hj).1
    rw [Nat.mul_one, List.drop_eq_getElem_cons (by simpa using hl)]
    simp [(List.getElem?_eq_some_iff.1 hj).2]
/-- The cells of a row of texts that is read. -/
theorem Glob.cells {w : World} {A : Option Addr} {xs : List ByteArray} (h : Kd.C Kd.string w A xs.length xs) (h0 : 0 < xs.length) :
    ∃ ad : Addr, A = some ad ∧ (ad.spot = none ∧ ad.block < w.heap.size ∧ ∀ (j : Nat) x, xs[j]? = some x → w.cell? ⟨ad.block, ad.off + j, none⟩ = some (.string x)) := by
  obtain ⟨ad, e, hc⟩ := h.2.2 h0
  have at_ : ∀ (j : Nat) x, xs[j]? = some x → w.cell? (ad.add j) = some (.string x) := by
    intro j x hj
    obtain ⟨c, _, hk, hcell⟩ := hc j x hj
    have hk' : c = [Value.string x] := hk
    subst hk'
    have := hcell 0 (.string x) rfl
    simpa [Kd.string, Kd.scalar] using this
  have h1 := at_ 0 xs[0] (List.getElem?_eq_getElem h0)
  have hspot : ad.spot = none := by
    cases hs : ad.spot with
    | none => rfl
    | some q =>
      exfalso
      have : w.cell? (ad.add 0) = none := by
        unfold World.cell? Addr.add
        simp only [if_pos]
        split
        · rw [hs]; rfl
        · rfl
      rw [this] at h1
      cases h1
  refine ⟨ad, e, hspot, ?_, fun j x hj => ?_⟩
  · have := World.block_lt_of_cell? w _ h1
    rwa [show (ad.add 0).block = ad.block by unfold Addr.add; split <;> rfl] at this
  · have := at_ j x hj
    unfold Addr.add at this
    by_cases h2 : j = 0
    · subst h2
      rw [if_pos rfl] at this
      obtain ⟨b, o, s⟩ := ad
      cases hspot
      exact this
    · rw [if_neg h2] at this
      exact this
/-- No piece is longer than the whole. -/
theorem Glob.split_le (sep : ByteArray) : ∀ (k : Nat) (s : ByteArray), ∀ x ∈ Lib.splitB sep 0 k s, x.size ≤ s.size
  | 0, s, x, hx => by
    rw [Lib.splitB_zero] at hx
    rw [List.mem_singleton.1 hx]
    exact Nat.le_refl _
  | k + 1, s, x, hx => by
    unfold Lib.splitB at hx
    split at hx
    · rw [List.mem_singleton.1 hx]
      exact Nat.le_refl _
    · rcases List.mem_cons.1 hx with rfl | hx
      · rw [ByteArray.size_extract]; omega
      · have := split_le sep k _ x hx
        rw [ByteArray.size_extract] at this
        omega

end Go.Proofs.YteknchhlineciaaDoor
