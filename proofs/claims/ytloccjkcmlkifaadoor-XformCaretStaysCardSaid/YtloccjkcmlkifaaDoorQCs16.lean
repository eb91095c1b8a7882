/- XformCaretStays_card, part 16. -/
import Derived.Test.YtloccjkcmlkifaaDoorProg
import Derived.Test.YtloccjkcmlkifaaDoorRows
import Derived.KernelRfl
import Derived.JoinedOf
import Derived.Test.YtloccjkcmlkifaaDoorQCs15

/- XformCaretStays: what the row says of the program's text, reckoned. -/
namespace Go.Proofs.YtloccjkcmlkifaaDoor
open Go.ChangeShapes Go.WideShapes

theorem XformCaretStays_closed : joinedFacts Tryd.prog 3 Tryd.f3 (OpenSpec.ofChange Rows.xformCaretStaysSpec).bare Rows.xformCaretStaysRow = true := by
 unfold joinedFacts
 rw [XformCaretStays_inPlace, XformCaretStays_unfollowed, XformCaretStays_recurses, XformCaretStays_named]
 kernel_rfl
end Go.Proofs.YtloccjkcmlkifaaDoor
