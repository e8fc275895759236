/- What a call is told of Go's package variables: the tables of unicode/utf8, as their text lays them. Conditions: none. -/
import Derived.Test.YtoihdifnmcnegaaDoorShelf
import Derived.Shelf.Unicode.ValidAny
import Derived.Below
import Derived.Lib.LaidU8T
import Derived.KernelRfl
namespace Go.Proofs.YtoihdifnmcnegaaDoor
open Go.RowKit Go.Lib Go.Shelf
/-- The package variables hold what their text lays. -/
structure Glob (w : World) : Prop where
  tabs : Lib.Utf8Tabs (Tryd.laysValid_ren.g 3) (Tryd.laysValid_ren.g 4) w
theorem Glob.of_below {w w1 : World} (h : Glob w) (hb : Below w.heap.size w w1) : Glob w1 := ⟨Utf8Tabs_below h.tabs hb⟩
theorem Glob.of_laid {w : World} (h3 : VarReads Tryd.prog w "unicode/utf8.first" Lib.firstData) (h4 : VarReads Tryd.prog w "unicode/utf8.acceptRanges" Lib.acceptData) : Glob w :=
  ⟨utf8Tabs_of_readsT (U8Types.of196 Tryd.laysValid) ⟨by kernel_rfl, by kernel_rfl, by kernel_rfl, by kernel_rfl, by kernel_rfl, by kernel_rfl, by kernel_rfl⟩ h3 h4⟩
end Go.Proofs.YtoihdifnmcnegaaDoor
