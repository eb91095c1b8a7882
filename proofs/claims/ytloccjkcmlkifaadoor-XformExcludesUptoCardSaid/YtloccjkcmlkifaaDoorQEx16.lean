/- XformExcludes_card, part 16. -/
import Derived.Test.YtloccjkcmlkifaaDoorProg
import Derived.Test.YtloccjkcmlkifaaDoorRows
import Derived.KernelRfl
import Derived.JoinedOf

/- XformExcludes: what the row says of the program's text, reckoned: the functions that it reaches. -/
namespace Go.Proofs.YtloccjkcmlkifaaDoor
open Go.ChangeShapes Go.WideShapes

theorem XformExcludes_inPlace : Tryd.prog.inPlace 11 = [] := by kernel_rfl
theorem XformExcludes_unfollowed : Tryd.prog.unfollowed 11 = false := by kernel_rfl
theorem XformExcludes_recurses : Tryd.prog.recurses 11 = true := by kernel_rfl
theorem XformExcludes_named : Tryd.prog.varsNamed 11 = ["redraft/utext.bars"] := by kernel_rfl
end Go.Proofs.YtloccjkcmlkifaaDoor
