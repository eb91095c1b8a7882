/- XformCaretStays_card, part 15. -/
import Derived.Test.YtloccjkcmlkifaaDoorProg
import Derived.Test.YtloccjkcmlkifaaDoorRows
import Derived.KernelRfl
import Derived.JoinedOf

/- XformCaretStays: what the row says of the program's text, reckoned. -/
namespace Go.Proofs.YtloccjkcmlkifaaDoor
open Go.ChangeShapes Go.WideShapes

theorem XformCaretStays_inPlace : Tryd.prog.inPlace 3 = [] := by kernel_rfl
theorem XformCaretStays_unfollowed : Tryd.prog.unfollowed 3 = false := by kernel_rfl
theorem XformCaretStays_recurses : Tryd.prog.recurses 3 = false := by kernel_rfl
theorem XformCaretStays_named : Tryd.prog.varsNamed 3 = ["redraft/redraftlaw05.texts", "redraft/utext.bars"] := by kernel_rfl
end Go.Proofs.YtloccjkcmlkifaaDoor
