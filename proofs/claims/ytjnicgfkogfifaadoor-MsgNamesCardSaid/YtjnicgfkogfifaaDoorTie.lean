/-
  DERIVED. GIVEN WITH THE SEED: THE PROGRAM's TIES (one call each: nine closed facts by the kernel) AND EACH ROW's TIE, after the 31st guide's Derived/Test/Toyas{Tie, Card}.lean. No idea stands in it: it is a product of the set-up. Laid BY PROGRAM, IN A SANDBOX (cutbox-door.mjs). By AI agents, Wed Nov 11 2026. No macro, syntax, notation, axiom, sorry.
-/
import Derived.Test.YtjnicgfkogfifaaDoorRows
import Derived.LaidByTextLater
import Derived.SevenTiedAt
import Derived.LaidSub
import Derived.LaidOnce
namespace Go.Proofs.YtjnicgfkogfifaaDoor
open Go
set_option maxRecDepth 100000
theorem seatTie1 : Tryd.prog.laidByTextLater [("redraft/frame.table", Rows.laid_redraft_frame_table), ("redraft/utext.bars", Rows.laid_redraft_utext_bars), ("redraft/msg.forms", Rows.laid_redraft_msg_forms)] [.data, .data, .funcs] true :=
  Program.laidByTextLater_by_one 33 8 17 (by kernel_rfl) (by kernel_rfl) (by kernel_rfl) (by kernel_rfl) (by kernel_rfl) (by kernel_rfl) (fun _ _ => by kernel_rfl)
theorem noOwnUnsafe : Tryd.pinned.checked.prog.headLifts.contains "ownunsafe" = false := by kernel_rfl
theorem tie : Tryd.prog.laidByTextLater [("redraft/utext.bars", Rows.laid_redraft_utext_bars), ("redraft/msg.forms", Rows.laid_redraft_msg_forms)] [.data, .funcs] true :=
  Program.laidByTextLater.sub seatTie1 ["redraft/utext.bars", "redraft/msg.forms"] (by kernel_rfl) (by kernel_rfl)
theorem msgNames_row_tie : Rows.msgNamesRow.laidByTextAt .later Tryd.pinned [.data, .funcs] true :=
  OpenClaim.laidByTextAt_later rfl rfl tie noOwnUnsafe
theorem msgShortest_row_tie : Rows.msgShortestRow.laidByTextAt .later Tryd.pinned [.data, .funcs] true :=
  OpenClaim.laidByTextAt_later rfl rfl tie noOwnUnsafe
theorem msgCut_row_tie : Rows.msgCutRow.laidByTextAt .later Tryd.pinned [.data, .funcs] true :=
  OpenClaim.laidByTextAt_later rfl rfl tie noOwnUnsafe
theorem tie2 : Tryd.prog.laidByTextLater [("redraft/frame.table", Rows.laid_redraft_frame_table), ("redraft/utext.bars", Rows.laid_redraft_utext_bars), ("redraft/msg.forms", Rows.laid_redraft_msg_forms)] [.data, .data, .funcs] true :=
  Program.laidByTextLater.sub seatTie1 ["redraft/frame.table", "redraft/utext.bars", "redraft/msg.forms"] (by kernel_rfl) (by kernel_rfl)
theorem msgOrder_row_tie : Rows.msgOrderRow.laidByTextAt .later Tryd.pinned [.data, .data, .funcs] true :=
  OpenClaim.laidByTextAt_later rfl rfl tie2 noOwnUnsafe
theorem msgNewMemory_row_tie : Rows.msgNewMemoryRow.laidByTextAt .later Tryd.pinned [.data, .data, .funcs] true :=
  OpenClaim.laidByTextAt_later rfl rfl tie2 noOwnUnsafe
theorem msgSpoilt_row_tie : Rows.msgSpoiltRow.laidByTextAt .later Tryd.pinned [.data, .data, .funcs] true :=
  OpenClaim.laidByTextAt_later rfl rfl tie2 noOwnUnsafe
theorem msgCommands_row_tie : Rows.msgCommandsRow.laidByTextAt .later Tryd.pinned [.data, .data, .funcs] true :=
  OpenClaim.laidByTextAt_later rfl rfl tie2 noOwnUnsafe
theorem msgMessages_row_tie : Rows.msgMessagesRow.laidByTextAt .later Tryd.pinned [.data, .data, .funcs] true :=
  OpenClaim.laidByTextAt_later rfl rfl tie2 noOwnUnsafe
theorem msgPackets_row_tie : Rows.msgPacketsRow.laidByTextAt .later Tryd.pinned [.data, .data, .funcs] true :=
  OpenClaim.laidByTextAt_later rfl rfl tie2 noOwnUnsafe
theorem msgAll_row_tie : Rows.msgAllRow.laidByTextAt .later Tryd.pinned [.data, .data, .funcs] true :=
  OpenClaim.laidByTextAt_later rfl rfl tie2 noOwnUnsafe
theorem msgOneForm_row_tie : Rows.msgOneFormRow.laidByTextAt .later Tryd.pinned [.data, .data, .funcs] true :=
  OpenClaim.laidByTextAt_later rfl rfl tie2 noOwnUnsafe
theorem msgNamesUpto_row_tie : Rows.msgNamesUptoRow.laidByTextAt .later Tryd.pinned [.data, .funcs] true :=
  OpenClaim.laidByTextAt_later rfl rfl tie noOwnUnsafe
theorem msgShortestUpto_row_tie : Rows.msgShortestUptoRow.laidByTextAt .later Tryd.pinned [.data, .funcs] true :=
  OpenClaim.laidByTextAt_later rfl rfl tie noOwnUnsafe
theorem msgOrderUpto_row_tie : Rows.msgOrderUptoRow.laidByTextAt .later Tryd.pinned [.data, .data, .funcs] true :=
  OpenClaim.laidByTextAt_later rfl rfl tie2 noOwnUnsafe
theorem msgCutUpto_row_tie : Rows.msgCutUptoRow.laidByTextAt .later Tryd.pinned [.data, .funcs] true :=
  OpenClaim.laidByTextAt_later rfl rfl tie noOwnUnsafe
theorem msgNewMemoryUpto_row_tie : Rows.msgNewMemoryUptoRow.laidByTextAt .later Tryd.pinned [.data, .data, .funcs] true :=
  OpenClaim.laidByTextAt_later rfl rfl tie2 noOwnUnsafe
theorem msgSpoiltUpto_row_tie : Rows.msgSpoiltUptoRow.laidByTextAt .later Tryd.pinned [.data, .data, .funcs] true :=
  OpenClaim.laidByTextAt_later rfl rfl tie2 noOwnUnsafe
theorem msgCommandsUpto_row_tie : Rows.msgCommandsUptoRow.laidByTextAt .later Tryd.pinned [.data, .data, .funcs] true :=
  OpenClaim.laidByTextAt_later rfl rfl tie2 noOwnUnsafe
theorem msgMessagesUpto_row_tie : Rows.msgMessagesUptoRow.laidByTextAt .later Tryd.pinned [.data, .data, .funcs] true :=
  OpenClaim.laidByTextAt_later rfl rfl tie2 noOwnUnsafe
theorem msgPacketsUpto_row_tie : Rows.msgPacketsUptoRow.laidByTextAt .later Tryd.pinned [.data, .data, .funcs] true :=
  OpenClaim.laidByTextAt_later rfl rfl tie2 noOwnUnsafe
theorem msgAllUpto_row_tie : Rows.msgAllUptoRow.laidByTextAt .later Tryd.pinned [.data, .data, .funcs] true :=
  OpenClaim.laidByTextAt_later rfl rfl tie2 noOwnUnsafe
theorem msgOneFormUpto_row_tie : Rows.msgOneFormUptoRow.laidByTextAt .later Tryd.pinned [.data, .data, .funcs] true :=
  OpenClaim.laidByTextAt_later rfl rfl tie2 noOwnUnsafe
end Go.Proofs.YtjnicgfkogfifaaDoor
