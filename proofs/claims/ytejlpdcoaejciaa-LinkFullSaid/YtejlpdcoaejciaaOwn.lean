/- Two closed facts on the loaded program that every row of this seat asks. -/
import Derived.Test.YtejlpdcoaejciaaRows
import Derived.Test.YtejlpdcoaejciaaLaw
namespace Go.Proofs.Ytejlpdcoaejciaa
theorem Try.own : ownKnob Try.prog.godebug = none := by kernel_rfl
theorem Try.laidOut : laidOutB Try.prog = true := by kernel_rfl
end Go.Proofs.Ytejlpdcoaejciaa
