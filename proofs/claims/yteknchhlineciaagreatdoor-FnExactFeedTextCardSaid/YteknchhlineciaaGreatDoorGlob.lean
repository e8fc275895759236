/- What a call is told of Go's package variables: unicode/utf8's two tables and strconv's powers of ten, as their text lays them. Conditions: none. -/
import Derived.Test.YteknchhlineciaaGreatDoorShelf
import Derived.Test.YteknchhlineciaaGreatDoorWMore
import Derived.Test.YteknchhlineciaaGreatDoorWLast
import Derived.Shelf.Unicode.ValidAny
import Derived.Below
import Derived.Lib.LaidU8T
import Derived.Lib.LaidTab
import Derived.Lib.LaidU8
import Derived.Lib.AppendIntMem
import Derived.KernelRfl
namespace Go.Proofs.YteknchhlineciaaGreatDoor
open Go.RowKit Go.Lib Go.Shelf Go.Proofs.YteknchhlineciaaGreatDoorW.PrintWords Go.Proofs.YteknchhlineciaaGreatDoorW.PrintLast
/-- The package variables hold what their text lays. -/
structure Glob (w : World) : Prop where
  tabs : Lib.Utf8Tabs 0 1 w
  tab : Lib.TabIs Tryz.prog w "internal/strconv.uint64pow10" .u64 Lib.pow10Tab
theorem tab_below {w w1 : World} (h : Lib.TabIs Tryz.prog w "internal/strconv.uint64pow10" .u64 Lib.pow10Tab) (hb : Below w.heap.size w w1) : Lib.TabIs Tryz.prog w1 "internal/strconv.uint64pow10" .u64 Lib.pow10Tab := by
  have hg : Tryz.prog.globalNamed "internal/strconv.uint64pow10" = some 2 := by kernel_rfl
  unfold Lib.TabIs World.var? at h ⊢
  rw [hg] at h ⊢
  simp only [Option.bind_some] at h ⊢
  have hlt : 2 < w.heap.size := by
    rcases Nat.lt_or_ge 2 w.heap.size with h' | h'
    · exact h'
    · rw [Array.getElem?_eq_none h'] at h; cases h
  rw [hb.block 2 hlt]
  exact h
theorem tab_laid {w : World} (h : VarReads Tryz.prog w "internal/strconv.uint64pow10" (tabData .u64 Lib.pow10Tab)) : Lib.TabIs Tryz.prog w "internal/strconv.uint64pow10" .u64 Lib.pow10Tab := by
  obtain ⟨g, t, cs, fuel, p, hg', ht', hvar, hd⟩ := h
  have hty : (Tryz.prog.globals[2]?).map (·.type) = some 140 := by kernel_rfl
  obtain rfl := Option.some.inj ((show Tryz.prog.globalNamed "internal/strconv.uint64pow10" = some 2 by kernel_rfl).symm.trans hg')
  obtain rfl := Option.some.inj (hty.symm.trans ht')
  unfold Lib.TabIs
  rw [hvar, ← cells_of_tab Tryz.underlying140 Tryz.underlying120 (by kernel_rfl) (by kernel_rfl) hd]
theorem Glob.of_below {w w1 : World} (h : Glob w) (hb : Below w.heap.size w w1) : Glob w1 := ⟨Utf8Tabs_below h.tabs hb, tab_below h.tab hb⟩
theorem Glob.of_laid {w : World} (h3 : VarReads Tryz.prog w "unicode/utf8.first" Lib.firstData) (h4 : VarReads Tryz.prog w "unicode/utf8.acceptRanges" Lib.acceptData) (h5 : VarReads Tryz.prog w "internal/strconv.uint64pow10" (tabData .u64 Lib.pow10Tab)) : Glob w :=
  ⟨utf8Tabs_of_readsT (ρ := Tryz.lays260_ren) (U8Types.of260 Tryz.lays260) ⟨by kernel_rfl, by kernel_rfl, by kernel_rfl, by kernel_rfl, by kernel_rfl, by kernel_rfl, by kernel_rfl⟩ h3 h4, tab_laid h5⟩
/-- What is held in a region may grow midway (no operation is put last). -/
theorem strong_ {P : Program} {ops : Array Oper} {Q : Exit → Act → World → Prop} {md : Region.Mode} {S : World → Prop} (S' : World → Prop) (himp : ∀ w', S' w' → S w') :
    ∀ {fuel : Nat} {l : Array Bool} {a : Act} {w : World}, S' w → (S' w → wpAnyLast P md ops Q S' [] fuel l a w) → wpAnyLast P md ops Q S [] fuel l a w := by
  intro fuel
  induction fuel with
  | zero => intro l a w hw h; exact h hw
  | succ n ih =>
    intro l a w hw h
    refine ⟨(h hw).1, fun i hi => wpOp_mono (fun a' w' h' => ?_) ((h hw).2 i hi)⟩
    have hs := h'.1 (by simp) hw
    exact ⟨fun _ _ => himp _ hs, ih hs (fun _ => h'.2)⟩
/-- A new row of texts. -/
theorem Glob.strs (W : World) (e : Nat) (xs : List ByteArray) (hm : xs.length ≤ 9223372036854775807) :
    Kd.R Kd.string e (W.alloc (.cells (xs.map Value.string).toArray e)) W.heap.size (fun _ => True) (.slice (some ⟨W.heap.size, 0, none⟩) xs.length xs.length) xs := by
  refine ⟨fun _ _ => trivial, xs.map Value.string, ?_, ?_⟩
  · have h2 := World.ownsRow_lit (base := W.heap.size) (e := e) (size := 1) W (xs.map Value.string).toArray xs.length (Nat.le_refl _) (by simpa [maxLen] using hm) (by simp)
    have h3 : (W.alloc (.cells (xs.map Value.string).toArray e)).ownsRow W.heap.size e 1 (.slice (some ⟨W.heap.size, 0, none⟩) xs.length xs.length) xs.length (xs.map Value.string) := by simpa using h2
    exact h3
  · refine ⟨by simp [Kd.string, Kd.scalar], fun j p hj => ?_⟩
    show ((xs.map Value.string).drop (j * 1)).take 1 = [Value.string p]
    have hl : j < xs.length := (List.getElem?_eq_some_iff.1 hj).1
    rw [Nat.mul_one, List.drop_eq_getElem_cons (by simpa using hl)]
    simp [(List.getElem?_eq_some_iff.1 hj).2]
/-- The cells of a row of texts that is read. -/
theorem Glob.cells {w : World} {A : Option Addr} {xs : List ByteArray} (h : Kd.C Kd.string w A xs.length xs) (h0 : 0 < xs.length) :
    ∃ ad : Addr, A = some ad ∧ (ad.spot = none ∧ ad.block < w.heap.size ∧ ∀ (j : Nat) x, xs[j]? = some x → w.cell? ⟨ad.block, ad.off + j, none⟩ = some (.string x)) := by
  obtain ⟨ad, e, hc⟩ := h.2.2 h0
  have at_ : ∀ (j : Nat) x, xs[j]? = some x → w.cell? (ad.add j) = some (.string x) := by
    intro j x hj
    obtain ⟨c, _, hk, hcell⟩ := hc j x hj
    have hk' : c = [Value.string x] := hk
    subst hk'
    have := hcell 0 (.string x) rfl
    simpa [Kd.string, Kd.scalar] using this
  have h1 := at_ 0 xs[0] (List.getElem?_eq_getElem h0)
  have hspot : ad.spot = none := by
    cases hs : ad.spot with
    | none => rfl
    | some q =>
      exfalso
      have : w.cell? (ad.add 0) = none := by
        unfold World.cell? Addr.add
        simp only [if_pos]
        split
        · rw [hs]; rfl
        · rfl
      rw [this] at h1
      cases h1
  refine ⟨ad, e, hspot, ?_, fun j x hj => ?_⟩
  · have := World.block_lt_of_cell? w _ h1
    rwa [show (ad.add 0).block = ad.block by unfold Addr.add; split <;> rfl] at this
  · have := at_ j x hj
    unfold Addr.add at this
    by_cases h2 : j = 0
    · subst h2
      rw [if_pos rfl] at this
      obtain ⟨b, o, s⟩ := ad
      cases hspot
      exact this
    · rw [if_neg h2] at this
      exact this
/-- No piece is longer than the whole. -/
theorem Glob.split_le (sep : ByteArray) : ∀ (k : Nat) (s : ByteArray), ∀ x ∈ Lib.splitB sep 0 k s, x.size ≤ s.size
  | 0, s, x, hx => by
    rw [Lib.splitB_zero] at hx
    rw [List.mem_singleton.1 hx]
    exact Nat.le_refl _
  | k + 1, s, x, hx => by
    unfold Lib.splitB at hx
    split at hx
    · rw [List.mem_singleton.1 hx]
      exact Nat.le_refl _
    · rcases List.mem_cons.1 hx with rfl | hx
      · rw [ByteArray.size_extract]; omega
      · have := split_le sep k _ x hx
        rw [ByteArray.size_extract] at this
        omega

end Go.Proofs.YteknchhlineciaaGreatDoor
