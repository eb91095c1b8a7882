/- MsgNames_card, part 16. -/
import Derived.Test.YtjnicgfkogfifaaDoorProg
import Derived.Test.YtjnicgfkogfifaaDoorRows
import Derived.KernelRfl
import Derived.JoinedOf

/- MsgNames: what the row says of the program's text, reckoned. -/
namespace Go.Proofs.YtjnicgfkogfifaaDoor
open Go.ChangeShapes Go.WideShapes

theorem MsgNames_inPlace : Tryd.prog.inPlace 3 = [] := by kernel_rfl
theorem MsgNames_unfollowed : Tryd.prog.unfollowed 3 = true := by kernel_rfl
theorem MsgNames_recurses : Tryd.prog.recurses 3 = true := by kernel_rfl
theorem MsgNames_named : Tryd.prog.varsNamed 3 = ["redraft/msg.forms", "redraft/utext.bars"] := by kernel_rfl
end Go.Proofs.YtjnicgfkogfifaaDoor
