/- XformCrosses_card, part 15. -/
import Derived.Test.YtloccjkcmlkifaaDoorProg
import Derived.Test.YtloccjkcmlkifaaDoorRows
import Derived.KernelRfl
import Derived.JoinedOf

/- XformCrosses: what the row says of the program's text, reckoned: the functions that it reaches. -/
namespace Go.Proofs.YtloccjkcmlkifaaDoor
open Go.ChangeShapes Go.WideShapes

theorem XformCrosses_inPlace : Tryd.prog.inPlace 14 = [] := by kernel_rfl
theorem XformCrosses_unfollowed : Tryd.prog.unfollowed 14 = false := by kernel_rfl
theorem XformCrosses_recurses : Tryd.prog.recurses 14 = true := by kernel_rfl
theorem XformCrosses_named : Tryd.prog.varsNamed 14 = ["redraft/utext.bars"] := by kernel_rfl
end Go.Proofs.YtloccjkcmlkifaaDoor
