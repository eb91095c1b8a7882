/- MsgNames_card, part 21. -/
import Derived.Test.YtjnicgfkogfifaaDoorQNa20

namespace Go.Proofs.YtjnicgfkogfifaaDoor.PAll
open Go.RowKit Go.Proofs.YtjnicgfkogfifaaDoorW.PrintWords Go.Proofs.YtjnicgfkogfifaaDoorW.PrintLast Go.Proofs.YtjnicgfkogfifaaDoorW.PrintMore
attribute [local go_sem] max2_int min2_int max_two min_two max_three min_three max_four min_four   -- for this text's walks alone
set_option linter.unusedVariables false
set_option linter.unusedSimpArgs false

attribute [local go_sem high] idx28_0 idx28_1 idx29_0 idx29_1 idx110_0 idx110_1 idx110_2 idx111_0 idx111_1 idx111_2 idx111_3 idx112_0 idx112_1 idx112_2 idx112_3 idx153_0 idx153_1
theorem eqA29 (d : Nat) (w : World) (x0 x1 y0 y1 : Int) : (Op.equalIn (d + 2) 29 (.agg #[.int .i64 x0, .int .i64 x1]) (.agg #[.int .i64 y0, .int .i64 y1])).run Tryd.prog w = .ok (x0 == y0 && (x1 == y1)) w := run_equalIn_pair w d 29 3 .i64 x0 x1 y0 y1 Tryd.underlying29 Tryd.underlying3 (by kernel_rfl)
end Go.Proofs.YtjnicgfkogfifaaDoor.PAll
