/- XformEarlierLeft_card, part 25. -/
import Derived.Test.YtloccjkcmlkifaaDoorQEl19

namespace Go.Proofs.YtloccjkcmlkifaaDoor.PAll
open Go.RowKit Go.Proofs.YtloccjkcmlkifaaDoorW.PrintWords Go.Proofs.YtloccjkcmlkifaaDoorW.PrintLast Go.Proofs.YtloccjkcmlkifaaDoorW.PrintMore
attribute [local go_sem] max2_int min2_int max_two min_two max_three min_three max_four min_four   -- for this text's walks alone
set_option linter.unusedVariables false
set_option linter.unusedSimpArgs false

attribute [local go_sem high] idx34_0 idx34_1 idx35_0 idx35_1
theorem eqA35 (d : Nat) (w : World) (x0 x1 y0 y1 : Int) : (Op.equalIn (d + 2) 35 (.agg #[.int .i64 x0, .int .i64 x1]) (.agg #[.int .i64 y0, .int .i64 y1])).run Tryd.prog w = .ok (x0 == y0 && (x1 == y1)) w := run_equalIn_pair w d 35 3 .i64 x0 x1 y0 y1 Tryd.underlying35 Tryd.underlying3 (by kernel_rfl)
end Go.Proofs.YtloccjkcmlkifaaDoor.PAll
