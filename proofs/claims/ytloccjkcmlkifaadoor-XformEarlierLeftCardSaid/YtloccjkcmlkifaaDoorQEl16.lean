/- XformEarlierLeft_card, part 16. -/
import Derived.Test.YtloccjkcmlkifaaDoorProg
import Derived.Test.YtloccjkcmlkifaaDoorRows
import Derived.KernelRfl
import Derived.JoinedOf

/- XformEarlierLeft: what the row says of the program's text, reckoned. -/
namespace Go.Proofs.YtloccjkcmlkifaaDoor
open Go.ChangeShapes Go.WideShapes

theorem XformEarlierLeft_inPlace : Tryd.prog.inPlace 4 = [] := by kernel_rfl
theorem XformEarlierLeft_unfollowed : Tryd.prog.unfollowed 4 = false := by kernel_rfl
theorem XformEarlierLeft_recurses : Tryd.prog.recurses 4 = false := by kernel_rfl
theorem XformEarlierLeft_named : Tryd.prog.varsNamed 4 = ["redraft/redraftlaw05.texts", "redraft/utext.bars"] := by kernel_rfl
end Go.Proofs.YtloccjkcmlkifaaDoor
