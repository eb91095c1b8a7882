/- XformCrosses_card, part 16. -/
import Derived.Test.YtloccjkcmlkifaaDoorProg
import Derived.Test.YtloccjkcmlkifaaDoorRows
import Derived.KernelRfl
import Derived.JoinedOf
import Derived.Test.YtloccjkcmlkifaaDoorQCr15

/- XformCrosses: what the row says of the program's text, reckoned. -/
namespace Go.Proofs.YtloccjkcmlkifaaDoor
open Go.ChangeShapes Go.WideShapes

theorem XformCrosses_closed : joinedFacts Tryd.prog 14 Tryd.f14 (Rows.OpenSpec.upto Rows.xformCrossesSpec).bare Rows.xformCrossesUptoRow = true := by
 unfold joinedFacts
 rw [XformCrosses_inPlace, XformCrosses_unfollowed, XformCrosses_recurses, XformCrosses_named]
 kernel_rfl
end Go.Proofs.YtloccjkcmlkifaaDoor
