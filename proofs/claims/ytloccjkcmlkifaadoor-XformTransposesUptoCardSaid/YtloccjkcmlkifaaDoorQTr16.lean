/- XformTransposes_card, part 16. -/
import Derived.Test.YtloccjkcmlkifaaDoorProg
import Derived.Test.YtloccjkcmlkifaaDoorRows
import Derived.KernelRfl
import Derived.JoinedOf

/- XformTransposes: what the row says of the program's text, reckoned: the functions that it reaches. -/
namespace Go.Proofs.YtloccjkcmlkifaaDoor
open Go.ChangeShapes Go.WideShapes

theorem XformTransposes_inPlace : Tryd.prog.inPlace 12 = [] := by kernel_rfl
theorem XformTransposes_unfollowed : Tryd.prog.unfollowed 12 = false := by kernel_rfl
theorem XformTransposes_recurses : Tryd.prog.recurses 12 = true := by kernel_rfl
theorem XformTransposes_named : Tryd.prog.varsNamed 12 = ["redraft/utext.bars"] := by kernel_rfl
end Go.Proofs.YtloccjkcmlkifaaDoor
