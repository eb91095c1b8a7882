/- XformExcludes_card, part 17. -/
import Derived.Test.YtloccjkcmlkifaaDoorProg
import Derived.Test.YtloccjkcmlkifaaDoorRows
import Derived.KernelRfl
import Derived.JoinedOf
import Derived.Test.YtloccjkcmlkifaaDoorQEx16

/- XformExcludes: what the row says of the program's text, reckoned. -/
namespace Go.Proofs.YtloccjkcmlkifaaDoor
open Go.ChangeShapes Go.WideShapes

theorem XformExcludes_closed : joinedFacts Tryd.prog 11 Tryd.f11 (Rows.OpenSpec.upto Rows.xformExcludesSpec).bare Rows.xformExcludesUptoRow = true := by
 unfold joinedFacts
 rw [XformExcludes_inPlace, XformExcludes_unfollowed, XformExcludes_recurses, XformExcludes_named]
 kernel_rfl
end Go.Proofs.YtloccjkcmlkifaaDoor
