/- XformOvers_card, part 16. -/
import Derived.Test.YtloccjkcmlkifaaDoorProg
import Derived.Test.YtloccjkcmlkifaaDoorRows
import Derived.KernelRfl
import Derived.JoinedOf
import Derived.Test.YtloccjkcmlkifaaDoorQOv15
namespace Go.Proofs.YtloccjkcmlkifaaDoor
open Go.ChangeShapes Go.WideShapes
theorem XformOvers_closed : joinedFacts Tryd.prog 13 Tryd.f13 (Rows.OpenSpec.upto Rows.xformOversSpec).bare Rows.xformOversUptoRow = true := by
  unfold joinedFacts
  rw [XformOvers_inPlace, XformOvers_unfollowed, XformOvers_recurses, XformOvers_named]
  kernel_rfl
end Go.Proofs.YtloccjkcmlkifaaDoor
