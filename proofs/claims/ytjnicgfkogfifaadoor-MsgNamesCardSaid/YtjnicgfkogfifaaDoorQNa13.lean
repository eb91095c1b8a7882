/- MsgNames_card, part 13. -/
import Derived.Test.YtjnicgfkogfifaaDoorQNa10
import Derived.Test.YtjnicgfkogfifaaDoorQNa7

namespace Go.Proofs.YtjnicgfkogfifaaDoorW.PrintWords
open Go.RowKit
end Go.Proofs.YtjnicgfkogfifaaDoorW.PrintWords
namespace Go.Proofs.YtjnicgfkogfifaaDoorW.PrintLast
section
variable {ops : Array Oper} {a : Act} {o og : Oper} {g : Nat} {t : Tmp} {u : Bool}
theorem wanted_on (hg : o.guard = some (g, u)) (ho : ops[g]? = some og) (hd : og.dst = some t) (hv : a.tmps[t]? = some (.bool u)) : Region.wanted o (yielded ops a.tmps) = true := by
 simp [Region.wanted, hg, yielded, ho, hd, hv]
end
end Go.Proofs.YtjnicgfkogfifaaDoorW.PrintLast
