/- XformOvers_card, part 15. -/
import Derived.Test.YtloccjkcmlkifaaDoorProg
import Derived.Test.YtloccjkcmlkifaaDoorRows
import Derived.KernelRfl
import Derived.JoinedOf
namespace Go.Proofs.YtloccjkcmlkifaaDoor
open Go.ChangeShapes Go.WideShapes
theorem XformOvers_inPlace : Tryd.prog.inPlace 13 = [] := by kernel_rfl
theorem XformOvers_unfollowed : Tryd.prog.unfollowed 13 = false := by kernel_rfl
theorem XformOvers_recurses : Tryd.prog.recurses 13 = true := by kernel_rfl
theorem XformOvers_named : Tryd.prog.varsNamed 13 = ["redraft/utext.bars"] := by kernel_rfl
end Go.Proofs.YtloccjkcmlkifaaDoor
