/- XformBrings_card, part 16. -/
import Derived.Test.YtloccjkcmlkifaaDoorProg
import Derived.Test.YtloccjkcmlkifaaDoorRows
import Derived.KernelRfl
import Derived.JoinedOf

/- XformBrings: what the row says of the program's text, reckoned: the functions that it reaches. -/
namespace Go.Proofs.YtloccjkcmlkifaaDoor
open Go.ChangeShapes Go.WideShapes

theorem XformBrings_inPlace : Tryd.prog.inPlace 15 = [] := by kernel_rfl
theorem XformBrings_unfollowed : Tryd.prog.unfollowed 15 = false := by kernel_rfl
theorem XformBrings_recurses : Tryd.prog.recurses 15 = true := by kernel_rfl
theorem XformBrings_named : Tryd.prog.varsNamed 15 = ["redraft/utext.bars"] := by kernel_rfl
end Go.Proofs.YtloccjkcmlkifaaDoor
