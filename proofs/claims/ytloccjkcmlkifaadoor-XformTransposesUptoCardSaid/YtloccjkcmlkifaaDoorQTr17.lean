/- XformTransposes_card, part 17. -/
import Derived.Test.YtloccjkcmlkifaaDoorProg
import Derived.Test.YtloccjkcmlkifaaDoorRows
import Derived.KernelRfl
import Derived.JoinedOf
import Derived.Test.YtloccjkcmlkifaaDoorQTr16

/- XformTransposes: what the row says of the program's text, reckoned. -/
namespace Go.Proofs.YtloccjkcmlkifaaDoor
open Go.ChangeShapes Go.WideShapes

theorem XformTransposes_closed : joinedFacts Tryd.prog 12 Tryd.f12 (Rows.OpenSpec.upto Rows.xformTransposesSpec).bare Rows.xformTransposesUptoRow = true := by
 unfold joinedFacts
 rw [XformTransposes_inPlace, XformTransposes_unfollowed, XformTransposes_recurses, XformTransposes_named]
 kernel_rfl
end Go.Proofs.YtloccjkcmlkifaaDoor
