/- XformEarlierLeft_card, part 17. -/
import Derived.Test.YtloccjkcmlkifaaDoorProg
import Derived.Test.YtloccjkcmlkifaaDoorRows
import Derived.KernelRfl
import Derived.JoinedOf
import Derived.Test.YtloccjkcmlkifaaDoorQEl16

/- XformEarlierLeft: what the row says of the program's text, reckoned. -/
namespace Go.Proofs.YtloccjkcmlkifaaDoor
open Go.ChangeShapes Go.WideShapes

theorem XformEarlierLeft_closed : joinedFacts Tryd.prog 4 Tryd.f4 (OpenSpec.ofChange Rows.xformEarlierLeftSpec).bare Rows.xformEarlierLeftRow = true := by
 unfold joinedFacts
 rw [XformEarlierLeft_inPlace, XformEarlierLeft_unfollowed, XformEarlierLeft_recurses, XformEarlierLeft_named]
 kernel_rfl
end Go.Proofs.YtloccjkcmlkifaaDoor
