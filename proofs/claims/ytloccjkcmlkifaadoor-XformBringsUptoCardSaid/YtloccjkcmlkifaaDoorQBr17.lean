/- XformBrings_card, part 17. -/
import Derived.Test.YtloccjkcmlkifaaDoorProg
import Derived.Test.YtloccjkcmlkifaaDoorRows
import Derived.KernelRfl
import Derived.JoinedOf
import Derived.Test.YtloccjkcmlkifaaDoorQBr16

/- XformBrings: what the row says of the program's text, reckoned. -/
namespace Go.Proofs.YtloccjkcmlkifaaDoor
open Go.ChangeShapes Go.WideShapes

theorem XformBrings_closed : joinedFacts Tryd.prog 15 Tryd.f15 (Rows.OpenSpec.upto Rows.xformBringsSpec).bare Rows.xformBringsUptoRow = true := by
 unfold joinedFacts
 rw [XformBrings_inPlace, XformBrings_unfollowed, XformBrings_recurses, XformBrings_named]
 kernel_rfl
end Go.Proofs.YtloccjkcmlkifaaDoor
