import Derived.Test.YtloccjkcmlkifaaDoorProg
import Derived.Below
import Derived.Deep.Draws
import Derived.Deep.AppendLies
import Derived.Maps.AppendAt
import Derived.OwnWalk
import Derived.Laws.BytesArg
import Derived.Laws.MakeOwn
import Derived.Laws.OwnMore
import Derived.Deep.OwnRows
import Derived.Tactics
import Derived.Lib.ConvBytes
import Derived.Laws.Slices
import Derived.WalkKit
import Derived.KernelRfl
import Derived.RowKit3
import Derived.Deep.LoopGhost
import Derived.Deep.QuietTactic
import Derived.BigQuiet
import Derived.WideLaws
import Derived.Deep.DeepCutAuto
import Derived.Deep.CutBlock
import Derived.Deep.RegionHeld3
import Derived.Laws.Rows
import Derived.Lib.AppendStr
import Derived.ArgAppend
import Derived.Laws.IdiomCopy
import Derived.OrdersHeld
import Derived.Laws.BitsLemmas
import Derived.RowKit
import Derived.Test.YtloccjkcmlkifaaDoorWWords
import Derived.Test.YtloccjkcmlkifaaDoorWLast
import Derived.Test.YtloccjkcmlkifaaDoorWTab
import Derived.Test.YtloccjkcmlkifaaDoorWApart
import Derived.Test.YtloccjkcmlkifaaDoorWFoot
import Derived.Test.YtloccjkcmlkifaaDoorWKept
import Derived.Test.YtloccjkcmlkifaaDoorWShare
import Derived.Test.YtloccjkcmlkifaaDoorWN
import Derived.Laws.StructEq
import Derived.Test.YtloccjkcmlkifaaDoorWRepsOne
import Derived.Test.YtloccjkcmlkifaaDoorWInv
import Derived.Test.YtloccjkcmlkifaaDoorWGuard
import Derived.Test.YtloccjkcmlkifaaDoorWMore
namespace Go.Proofs.YtloccjkcmlkifaaDoor.PBg
open Go.RowKit Go.Proofs.YtloccjkcmlkifaaDoorW.PrintWords Go.Proofs.YtloccjkcmlkifaaDoorW.PrintLast Go.Proofs.YtloccjkcmlkifaaDoorW.PrintMore
attribute [local go_sem] max2_int min2_int max_two min_two max_three min_three max_four min_four   -- for this text's walks alone
set_option linter.unusedVariables false
set_option linter.unusedSimpArgs false

theorem idx34_0 (w : World) (x0 x1 : Value) : (Instr.index 34 (.agg #[x0, x1]) (.int .i64 0)).run Tryd.prog w = .ok x0 w := by kernel_rfl
theorem idx34_1 (w : World) (x0 x1 : Value) : (Instr.index 34 (.agg #[x0, x1]) (.int .i64 1)).run Tryd.prog w = .ok x1 w := by kernel_rfl
theorem idx35_0 (w : World) (x0 x1 : Value) : (Instr.index 35 (.agg #[x0, x1]) (.int .i64 0)).run Tryd.prog w = .ok x0 w := by kernel_rfl
theorem idx35_1 (w : World) (x0 x1 : Value) : (Instr.index 35 (.agg #[x0, x1]) (.int .i64 1)).run Tryd.prog w = .ok x1 w := by kernel_rfl
end Go.Proofs.YtloccjkcmlkifaaDoor.PBg

