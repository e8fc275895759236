/- What a call is told of Go's package variables: strconv's table of the powers of ten, as its text lays it. Conditions: none. -/
import Derived.Test.YtccnidlkpinpgaaDoorShelf
import Derived.Test.YtccnidlkpinpgaaDoorWMore
import Derived.Test.YtccnidlkpinpgaaDoorWLast
import Derived.Below
import Derived.Lib.LaidTab
import Derived.Lib.LaidU8
import Derived.Lib.AppendIntMem
import Derived.KernelRfl
namespace Go.Proofs.YtccnidlkpinpgaaDoor
open Go.RowKit Go.Lib Go.Shelf Go.Proofs.YtccnidlkpinpgaaDoorW.PrintWords Go.Proofs.YtccnidlkpinpgaaDoorW.PrintLast
/-- The package variable holds what its text lays. -/
structure Glob (w : World) : Prop where
  tab : Lib.TabIs Tryd.prog w "internal/strconv.uint64pow10" .u64 Lib.pow10Tab
theorem Glob.of_below {w w1 : World} (h : Glob w) (hb : Below w.heap.size w w1) : Glob w1 := ⟨by
  have h := h.tab
  have hg : Tryd.prog.globalNamed "internal/strconv.uint64pow10" = some 0 := by kernel_rfl
  unfold Lib.TabIs World.var? at h ⊢
  rw [hg] at h ⊢
  simp only [Option.bind_some] at h ⊢
  have hlt : 0 < w.heap.size := by
    rcases Nat.lt_or_ge 0 w.heap.size with h' | h'
    · exact h'
    · rw [Array.getElem?_eq_none h'] at h; cases h
  rw [hb.block 0 hlt]
  exact h⟩
theorem Glob.of_laid {w : World} (h : VarReads Tryd.prog w "internal/strconv.uint64pow10" (tabData .u64 Lib.pow10Tab)) : Glob w := ⟨by
  obtain ⟨g, t, cs, fuel, p, hg', ht', hvar, hd⟩ := h
  have hty : (Tryd.prog.globals[0]?).map (·.type) = some 72 := by kernel_rfl
  obtain rfl := Option.some.inj ((show Tryd.prog.globalNamed "internal/strconv.uint64pow10" = some 0 by kernel_rfl).symm.trans hg')
  obtain rfl := Option.some.inj (hty.symm.trans ht')
  unfold Lib.TabIs
  rw [hvar, ← cells_of_tab Tryd.underlying72 Tryd.underlying66 (by kernel_rfl) (by kernel_rfl) hd]⟩
/-- What is held in a region may grow midway (no operation is put last). -/
theorem strong_ {P : Program} {ops : Array Oper} {Q : Exit → Act → World → Prop} {md : Region.Mode} {S : World → Prop} (S' : World → Prop) (himp : ∀ w', S' w' → S w') :
    ∀ {fuel : Nat} {l : Array Bool} {a : Act} {w : World}, S' w → (S' w → wpAnyLast P md ops Q S' [] fuel l a w) → wpAnyLast P md ops Q S [] fuel l a w := by
  intro fuel
  induction fuel with
  | zero => intro l a w hw h; exact h hw
  | succ n ih =>
    intro l a w hw h
    refine ⟨(h hw).1, fun i hi => wpOp_mono (fun a' w' h' => ?_) ((h hw).2 i hi)⟩
    have hs := h'.1 (by simp) hw
    exact ⟨fun _ _ => himp _ hs, ih hs (fun _ => h'.2)⟩
end Go.Proofs.YtccnidlkpinpgaaDoor
