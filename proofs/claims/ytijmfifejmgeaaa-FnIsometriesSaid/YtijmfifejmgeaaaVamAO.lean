/- slices.Sort at []int64, by the library's contract: the list that is its argument is sorted. -/
import Derived.Test.YtijmfifejmgeaaaVamAP
import Derived.Shelf.SortM.Plain
import Derived.Shelf.SortM.SortNone
import Derived.Sort.OwnSortedInts
namespace Go.Vam
open Go Go.RowKit Go.Proofs
set_option linter.unusedVariables false

end Go.Vam
