/- What every row of this seat asks of the loaded program: its one table, a world in which it lies. -/
import Derived.Test.YtooagpjfcnpheaaDoorCards
import Derived.Test.YtooagpjfcnpheaaDoorTie
import Derived.Test.YtooagpjfcnpheaaDoorLawLaid
import Derived.Test.YtooagpjfcnpheaaDoorChecksum
namespace Go.Proofs.YtooagpjfcnpheaaDoor
open Go.ChangeShapes Go.WideShapes Go.ChangeAt Go.RowKit
theorem Tryd.own : ownKnob Tryd.prog.godebug = none := by kernel_rfl
theorem Tryd.laidOut : laidOutB Tryd.prog = true := by kernel_rfl
theorem Tryd.gTab : Tryd.prog.globalNamed "redraft/frame.table" = some 0 := by kernel_rfl
theorem Tryd.gTabType : (Tryd.prog.globals[0]?).map (·.type) = some 78 := by kernel_rfl
theorem Tryd.cellsTab : Tryd.prog.cellsOf 78 = 16 := by kernel_rfl
theorem Tryd.cellsU32 : Tryd.prog.cellsOf 23 = 1 := by kernel_rfl

theorem tab_entry : ∀ i, i < 16 → Value.int .u32 (([0, 274646895, 549293790, 820201905, 1098587580, 1361435347, 1640403810, 1905808397, 2197175160, 2460548119, 2722870694, 2987750089, 3280807620, 3553878443, 3811616794, 4084100981] : List Int).getD i 0) = .int .u32 ((tbl.getD i 0 : Nat) : Int) := by
  intro i hi
  congr 1
  revert i
  decide

theorem table_of {W : World} (h : laidMetH Tryd.prog [("redraft/frame.table", Rows.laid_redraft_frame_table)] W) : TableAt W := by
  have T : Lib.TabIs Tryd.prog W "redraft/frame.table" .u32 [0, 274646895, 549293790, 820201905, 1098587580, 1361435347, 1640403810, 1905808397, 2197175160, 2460548119, 2722870694, 2987750089, 3280807620, 3553878443, 3811616794, 4084100981] :=
    Lib.tabIs_of_head (rest := []) Tryd.gTab Tryd.gTabType Tryd.underlying78 Tryd.underlying23 Tryd.cellsU32 Tryd.cellsTab h
  intro i hi
  have := T.cell Tryd.gTab i (by simpa using hi)
  rw [this, tab_entry i hi]

noncomputable def laidWorld (os : Os) : World :=
  { World.holding Tryd.prog os ⟨#[], #[], []⟩ with heap := (World.holding Tryd.prog os ⟨#[], #[], []⟩).heap.modify 0 fun
      | .cells _ t frozen => .cells #[.int .u32 0, .int .u32 274646895, .int .u32 549293790, .int .u32 820201905, .int .u32 1098587580, .int .u32 1361435347, .int .u32 1640403810, .int .u32 1905808397, .int .u32 2197175160, .int .u32 2460548119, .int .u32 2722870694, .int .u32 2987750089, .int .u32 3280807620, .int .u32 3553878443, .int .u32 3811616794, .int .u32 4084100981] t frozen
      | o => o }
end Go.Proofs.YtooagpjfcnpheaaDoor
