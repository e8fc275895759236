/- A second name for one of the print's words, under which the rows of laws over slices look for it. Conditions: none. -/
import Derived.Test.YtebmhicdlamnbaaWSized
namespace Go.Proofs.Ytebmhicdlamnbaa
theorem PrintWords.sized_ints : type_of% @Go.Proofs.YtebmhicdlamnbaaW.PrintWords.sized_ints := @Go.Proofs.YtebmhicdlamnbaaW.PrintWords.sized_ints
end Go.Proofs.Ytebmhicdlamnbaa
