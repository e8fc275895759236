/- What a call is told of Go's package variables: strconv's table of the powers of ten, as its text lays it. Conditions: none. -/
import Derived.Test.YtccnidlkpinpgaaDoorShelf
import Derived.Test.YtccnidlkpinpgaaDoorWMore
import Derived.Below
import Derived.Lib.LaidTab
import Derived.Lib.LaidU8
import Derived.Lib.AppendIntMem
import Derived.KernelRfl
namespace Go.Proofs.YtccnidlkpinpgaaDoor
open Go.RowKit Go.Lib Go.Shelf Go.Proofs.YtccnidlkpinpgaaDoorW.PrintWords
/-- The package variable holds what its text lays. -/
structure Glob (w : World) : Prop where
  tab : Lib.TabIs Tryd.prog w "internal/strconv.uint64pow10" .u64 Lib.pow10Tab
theorem Glob.of_below {w w1 : World} (h : Glob w) (hb : Below w.heap.size w w1) : Glob w1 := ⟨by
  have h := h.tab
  have hg : Tryd.prog.globalNamed "internal/strconv.uint64pow10" = some 0 := by kernel_rfl
  unfold Lib.TabIs World.var? at h ⊢
  rw [hg] at h ⊢
  simp only [Option.bind_some] at h ⊢
  have hlt : 0 < w.heap.size := by
    rcases Nat.lt_or_ge 0 w.heap.size with h' | h'
    · exact h'
    · rw [Array.getElem?_eq_none h'] at h; cases h
  rw [hb.block 0 hlt]
  exact h⟩
theorem Glob.of_laid {w : World} (h : VarReads Tryd.prog w "internal/strconv.uint64pow10" (tabData .u64 Lib.pow10Tab)) : Glob w := ⟨by
  obtain ⟨g, t, cs, fuel, p, hg', ht', hvar, hd⟩ := h
  have hty : (Tryd.prog.globals[0]?).map (·.type) = some 72 := by kernel_rfl
  obtain rfl := Option.some.inj ((show Tryd.prog.globalNamed "internal/strconv.uint64pow10" = some 0 by kernel_rfl).symm.trans hg')
  obtain rfl := Option.some.inj (hty.symm.trans ht')
  unfold Lib.TabIs
  rw [hvar, ← cells_of_tab Tryd.underlying72 Tryd.underlying66 (by kernel_rfl) (by kernel_rfl) hd]⟩
end Go.Proofs.YtccnidlkpinpgaaDoor
