/- XformEarlierLeft_card, part 13. -/
import Derived.Test.YtloccjkcmlkifaaDoorQEl9
import Derived.Test.YtloccjkcmlkifaaDoorQEl6

namespace Go.Proofs.YtloccjkcmlkifaaDoorW.PrintWords
open Go.RowKit
end Go.Proofs.YtloccjkcmlkifaaDoorW.PrintWords
namespace Go.Proofs.YtloccjkcmlkifaaDoorW.PrintLast
section
variable {ops : Array Oper} {a : Act} {o og : Oper} {g : Nat} {t : Tmp} {u : Bool}
theorem wanted_on (hg : o.guard = some (g, u)) (ho : ops[g]? = some og) (hd : og.dst = some t) (hv : a.tmps[t]? = some (.bool u)) : Region.wanted o (yielded ops a.tmps) = true := by
 simp [Region.wanted, hg, yielded, ho, hd, hv]
end
end Go.Proofs.YtloccjkcmlkifaaDoorW.PrintLast
