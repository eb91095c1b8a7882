/- XformOverIsCross_card, part 15. -/
import Derived.Test.YtloccjkcmlkifaaDoorProg
import Derived.Test.YtloccjkcmlkifaaDoorRows
import Derived.KernelRfl
import Derived.JoinedOf
import Derived.Test.YtloccjkcmlkifaaDoorQOc14

/- XformOverIsCross: what the row says of the program's text, reckoned. -/
namespace Go.Proofs.YtloccjkcmlkifaaDoor
open Go.ChangeShapes Go.WideShapes

theorem XformOverIsCross_closed : joinedFacts Tryd.prog 8 Tryd.f8 (OpenSpec.ofChange Rows.xformOverIsCrossSpec).bare Rows.xformOverIsCrossRow = true := by
 unfold joinedFacts
 rw [XformOverIsCross_inPlace, XformOverIsCross_unfollowed, XformOverIsCross_recurses, XformOverIsCross_named]
 kernel_rfl
end Go.Proofs.YtloccjkcmlkifaaDoor
