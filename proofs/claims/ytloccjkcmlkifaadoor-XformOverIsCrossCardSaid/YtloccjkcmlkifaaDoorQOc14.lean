/- XformOverIsCross_card, part 14. -/
import Derived.Test.YtloccjkcmlkifaaDoorProg
import Derived.Test.YtloccjkcmlkifaaDoorRows
import Derived.KernelRfl
import Derived.JoinedOf

/- XformOverIsCross: what the row says of the program's text, reckoned. -/
namespace Go.Proofs.YtloccjkcmlkifaaDoor
open Go.ChangeShapes Go.WideShapes

theorem XformOverIsCross_inPlace : Tryd.prog.inPlace 8 = [] := by kernel_rfl
theorem XformOverIsCross_unfollowed : Tryd.prog.unfollowed 8 = false := by kernel_rfl
theorem XformOverIsCross_recurses : Tryd.prog.recurses 8 = false := by kernel_rfl
theorem XformOverIsCross_named : Tryd.prog.varsNamed 8 = ["redraft/redraftlaw05.texts", "redraft/utext.bars"] := by kernel_rfl
end Go.Proofs.YtloccjkcmlkifaaDoor
