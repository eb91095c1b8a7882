/- XformIncludes_card, part 16. -/
import Derived.Test.YtloccjkcmlkifaaDoorProg
import Derived.Test.YtloccjkcmlkifaaDoorRows
import Derived.KernelRfl
import Derived.JoinedOf
import Derived.Test.YtloccjkcmlkifaaDoorQIn15

/- XformIncludes: what the row says of the program's text, reckoned. -/
namespace Go.Proofs.YtloccjkcmlkifaaDoor
open Go.ChangeShapes Go.WideShapes

theorem XformIncludes_closed : joinedFacts Tryd.prog 10 Tryd.f10 (Rows.OpenSpec.upto Rows.xformIncludesSpec).bare Rows.xformIncludesUptoRow = true := by
  unfold joinedFacts
  rw [XformIncludes_inPlace, XformIncludes_unfollowed, XformIncludes_recurses, XformIncludes_named]
  kernel_rfl
end Go.Proofs.YtloccjkcmlkifaaDoor
