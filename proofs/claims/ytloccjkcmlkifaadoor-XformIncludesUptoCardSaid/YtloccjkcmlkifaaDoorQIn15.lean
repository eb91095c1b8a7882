/- XformIncludes_card, part 15. -/
import Derived.Test.YtloccjkcmlkifaaDoorProg
import Derived.Test.YtloccjkcmlkifaaDoorRows
import Derived.KernelRfl
import Derived.JoinedOf

/- XformIncludes: what the row says of the program's text, reckoned: the functions that it reaches. -/
namespace Go.Proofs.YtloccjkcmlkifaaDoor
open Go.ChangeShapes Go.WideShapes

theorem XformIncludes_inPlace : Tryd.prog.inPlace 10 = [] := by kernel_rfl
theorem XformIncludes_unfollowed : Tryd.prog.unfollowed 10 = false := by kernel_rfl
theorem XformIncludes_recurses : Tryd.prog.recurses 10 = true := by kernel_rfl
theorem XformIncludes_named : Tryd.prog.varsNamed 10 = ["redraft/utext.bars"] := by kernel_rfl
end Go.Proofs.YtloccjkcmlkifaaDoor
