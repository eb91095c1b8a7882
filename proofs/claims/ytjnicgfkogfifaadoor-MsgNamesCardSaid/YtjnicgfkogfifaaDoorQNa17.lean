/- MsgNames_card, part 17. -/
import Derived.Test.YtjnicgfkogfifaaDoorProg
import Derived.Test.YtjnicgfkogfifaaDoorRows
import Derived.KernelRfl
import Derived.JoinedOf
import Derived.Test.YtjnicgfkogfifaaDoorQNa16

/- MsgNames: what the row says of the program's text, reckoned. -/
namespace Go.Proofs.YtjnicgfkogfifaaDoor
open Go.ChangeShapes Go.WideShapes

theorem MsgNames_closed : joinedFacts Tryd.prog 3 Tryd.f3 (OpenSpec.ofChange Rows.msgNamesSpec).bare Rows.msgNamesRow = true := by
 unfold joinedFacts
 rw [MsgNames_inPlace, MsgNames_unfollowed, MsgNames_recurses, MsgNames_named]
 kernel_rfl
end Go.Proofs.YtjnicgfkogfifaaDoor
