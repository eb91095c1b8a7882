/-
  NARROWER THAN 'FOR EVERY INPUT', by the rows' own cells (each row's printed sentence says how): MsgNames: laid · MsgShortest: laid · MsgOrder: laid · MsgCut: laid · MsgNewMemory: laid · MsgSpoilt: laid · MsgCommands: laid · MsgMessages: laid · MsgPackets: laid · MsgAll: laid · MsgOneForm: laid.
  DERIVED. THE GIVEN ROWS OF THIS SEAT. 11 by the template 'for every input the law returns true; each argument reads behind the call as it read before'; 0 by the template 'total and deterministic' (their statements: YtjnicgfkogfifaaDoorTotals.lean).
  GIVEN WITH THE SEED: the statements are not yours to turn. If you find one false, say at which input.
  Laid BY PROGRAM, IN A SANDBOX (cutbox-rows.mjs): the forced cells as the released guide's own fill.sh prints them over the translation 39637b1164d5c829… (all of the seat's roots in one cut). By AI agents, Wed Nov 11 2026. No macro, syntax, notation, axiom, sorry.
-/
import Derived.Test.YtjnicgfkogfifaaDoorChecked
import GoSem.Claim
import GoSem.ClaimJoined
import GoSem.ClaimMapViews
import Derived.JoinedTies
import Derived.KernelRfl
namespace Go.Proofs.YtjnicgfkogfifaaDoor
/- THE CELL 'sum', in the pinned program and in every row, IS THE sha256 OF THE DUMP (.gsa) THAT YtjnicgfkogfifaaDoorProg.lean LOADS. Nothing in Lean hashes anything: it is a label: what it is worth is what the hold of that sum in a sandbox is worth. -/
noncomputable def Tryd.pinned : Pinned := { name := "ytjnicgfkogfifaadoor", sum := "39637b1164d5c829d168ca938cc99b2e5e750b892f9fae7d0b2ad308ae96fdf4", checked := Tryd.checked }
namespace Rows
def none {H : Type} : Left H := { results := [], args := [] }

/- WHAT THE LISTED PACKAGE-LEVEL VARIABLES READ AS WHEN THE CALL BEGINS. Each datum BY PROGRAM (the guide's laid-datum.mjs) off the statement by which the dump's own 'gosem.cut.vars' lays the variable. In a bare row this is a premise. The card (YtjnicgfkogfifaaDoorCards.lean) ties it to the program's text. -/
def laid_redraft_utext_bars {H : Type} : DataW H := .agg [.agg [.lit (.int .i32 0), .lit (.int .i32 8)], .agg [.lit (.int .i32 11), .lit (.int .i32 31)], .agg [.lit (.int .i32 127), .lit (.int .i32 159)], .agg [.lit (.int .i32 64976), .lit (.int .i32 65007)], .agg [.lit (.int .i32 65279), .lit (.int .i32 65279)]]
def laid_redraft_msg_forms {H : Type} : DataW H := .iface "func table" (.agg [.agg [.lit (.bool false), .lit (.bool false), .lit (.int .i64 0), .nil, .nil], .agg [.lit (.bool true), .lit (.bool false), .lit (.int .i64 0), .iface "func" (.lit (.string [114, 101, 100, 114, 97, 102, 116, 47, 109, 115, 103, 46, 114, 101, 97, 100, 78, 111, 116, 104, 105, 110, 103])), .iface "func" (.lit (.string [114, 101, 100, 114, 97, 102, 116, 47, 109, 115, 103, 46, 119, 114, 105, 116, 101, 78, 111, 116, 104, 105, 110, 103]))], .agg [.lit (.bool true), .lit (.bool true), .lit (.int .i64 0), .iface "func" (.lit (.string [114, 101, 100, 114, 97, 102, 116, 47, 109, 115, 103, 46, 114, 101, 97, 100, 83, 117, 98, 109, 105, 116])), .iface "func" (.lit (.string [114, 101, 100, 114, 97, 102, 116, 47, 109, 115, 103, 46, 119, 114, 105, 116, 101, 67, 111, 109, 109, 97, 110, 100]))], .agg [.lit (.bool false), .lit (.bool false), .lit (.int .i64 1), .iface "func" (.lit (.string [114, 101, 100, 114, 97, 102, 116, 47, 109, 115, 103, 46, 114, 101, 97, 100, 83, 101, 113])), .iface "func" (.lit (.string [114, 101, 100, 114, 97, 102, 116, 47, 109, 115, 103, 46, 119, 114, 105, 116, 101, 83, 101, 113]))], .agg [.lit (.bool false), .lit (.bool true), .lit (.int .i64 1), .iface "func" (.lit (.string [114, 101, 100, 114, 97, 102, 116, 47, 109, 115, 103, 46, 114, 101, 97, 100, 67, 97, 115, 116])), .iface "func" (.lit (.string [114, 101, 100, 114, 97, 102, 116, 47, 109, 115, 103, 46, 119, 114, 105, 116, 101, 67, 111, 109, 109, 97, 110, 100]))]])
def laid_redraft_frame_table {H : Type} : DataW H := .agg [.lit (.int .u32 0), .lit (.int .u32 274646895), .lit (.int .u32 549293790), .lit (.int .u32 820201905), .lit (.int .u32 1098587580), .lit (.int .u32 1361435347), .lit (.int .u32 1640403810), .lit (.int .u32 1905808397), .lit (.int .u32 2197175160), .lit (.int .u32 2460548119), .lit (.int .u32 2722870694), .lit (.int .u32 2987750089), .lit (.int .u32 3280807620), .lit (.int .u32 3553878443), .lit (.int .u32 3811616794), .lit (.int .u32 4084100981)]

/-- 'redraftlaw10.MsgNames': WHATEVER THE INPUT: true; the input reads as it did. -/
def msgNamesSpec : ChangeSpec := { name := "msgNames", fn := fun _ => fun
  | [] => { results := [.lit (.bool true)], args := [] }
  | _ => none }
def msgNamesRow : OpenClaim := { program := "ytjnicgfkogfifaadoor", sum := "39637b1164d5c829d168ca938cc99b2e5e750b892f9fae7d0b2ad308ae96fdf4", func := "redraft/redraftlaw10.MsgNames", spec := "msgNames", unfollowed := true, recurses := true, named := ["redraft/msg.forms", "redraft/utext.bars"], apart := false, laid := [("redraft/utext.bars", laid_redraft_utext_bars), ("redraft/msg.forms", laid_redraft_msg_forms)] }
def MsgNamesSaid : Prop := msgNamesRow.holds Tryd.pinned (OpenSpec.ofChange msgNamesSpec)

/-- ITS FALSE NEIGHBOUR: 'it returns false'. Refute it at one input. -/
def msgNamesWrong : ChangeSpec := { name := "msgNames", fn := fun _ => fun
  | [] => { results := [.lit (.bool false)], args := [] }
  | _ => none }
def MsgNamesWrongFalsely : Prop := msgNamesRow.holds Tryd.pinned (OpenSpec.ofChange msgNamesWrong)

/-- 'redraftlaw10.MsgShortest': WHATEVER THE INPUT: true; the input reads as it did. -/
def msgShortestSpec : ChangeSpec := { name := "msgShortest", fn := fun _ => fun
  | [d] => { results := [.lit (.bool true)], args := [d] }
  | _ => none }
def msgShortestRow : OpenClaim := { program := "ytjnicgfkogfifaadoor", sum := "39637b1164d5c829d168ca938cc99b2e5e750b892f9fae7d0b2ad308ae96fdf4", func := "redraft/redraftlaw10.MsgShortest", spec := "msgShortest", unfollowed := true, recurses := true, named := ["redraft/msg.forms", "redraft/utext.bars"], apart := false, laid := [("redraft/utext.bars", laid_redraft_utext_bars), ("redraft/msg.forms", laid_redraft_msg_forms)] }
def MsgShortestSaid : Prop := msgShortestRow.holds Tryd.pinned (OpenSpec.ofChange msgShortestSpec)

/-- ITS FALSE NEIGHBOUR: 'it returns false'. Refute it at one input. -/
def msgShortestWrong : ChangeSpec := { name := "msgShortest", fn := fun _ => fun
  | [d] => { results := [.lit (.bool false)], args := [d] }
  | _ => none }
def MsgShortestWrongFalsely : Prop := msgShortestRow.holds Tryd.pinned (OpenSpec.ofChange msgShortestWrong)

/-- 'redraftlaw10.MsgOrder': WHATEVER THE INPUT: true; the input reads as it did. -/
def msgOrderSpec : ChangeSpec := { name := "msgOrder", fn := fun _ => fun
  | [d] => { results := [.lit (.bool true)], args := [d] }
  | _ => none }
def msgOrderRow : OpenClaim := { program := "ytjnicgfkogfifaadoor", sum := "39637b1164d5c829d168ca938cc99b2e5e750b892f9fae7d0b2ad308ae96fdf4", func := "redraft/redraftlaw10.MsgOrder", spec := "msgOrder", unfollowed := true, recurses := true, named := ["redraft/msg.forms", "redraft/utext.bars", "redraft/frame.table"], apart := false, laid := [("redraft/frame.table", laid_redraft_frame_table), ("redraft/utext.bars", laid_redraft_utext_bars), ("redraft/msg.forms", laid_redraft_msg_forms)] }
def MsgOrderSaid : Prop := msgOrderRow.holds Tryd.pinned (OpenSpec.ofChange msgOrderSpec)

/-- ITS FALSE NEIGHBOUR: 'it returns false'. Refute it at one input. -/
def msgOrderWrong : ChangeSpec := { name := "msgOrder", fn := fun _ => fun
  | [d] => { results := [.lit (.bool false)], args := [d] }
  | _ => none }
def MsgOrderWrongFalsely : Prop := msgOrderRow.holds Tryd.pinned (OpenSpec.ofChange msgOrderWrong)

/-- 'redraftlaw10.MsgCut': WHATEVER THE INPUT: true; the input reads as it did. -/
def msgCutSpec : ChangeSpec := { name := "msgCut", fn := fun _ => fun
  | [d] => { results := [.lit (.bool true)], args := [d] }
  | _ => none }
def msgCutRow : OpenClaim := { program := "ytjnicgfkogfifaadoor", sum := "39637b1164d5c829d168ca938cc99b2e5e750b892f9fae7d0b2ad308ae96fdf4", func := "redraft/redraftlaw10.MsgCut", spec := "msgCut", unfollowed := true, recurses := true, named := ["redraft/msg.forms", "redraft/utext.bars"], apart := false, laid := [("redraft/utext.bars", laid_redraft_utext_bars), ("redraft/msg.forms", laid_redraft_msg_forms)] }
def MsgCutSaid : Prop := msgCutRow.holds Tryd.pinned (OpenSpec.ofChange msgCutSpec)

/-- ITS FALSE NEIGHBOUR: 'it returns false'. Refute it at one input. -/
def msgCutWrong : ChangeSpec := { name := "msgCut", fn := fun _ => fun
  | [d] => { results := [.lit (.bool false)], args := [d] }
  | _ => none }
def MsgCutWrongFalsely : Prop := msgCutRow.holds Tryd.pinned (OpenSpec.ofChange msgCutWrong)

/-- 'redraftlaw10.MsgNewMemory': WHATEVER THE INPUT: true; the input reads as it did. -/
def msgNewMemorySpec : ChangeSpec := { name := "msgNewMemory", fn := fun _ => fun
  | [d] => { results := [.lit (.bool true)], args := [d] }
  | _ => none }
def msgNewMemoryRow : OpenClaim := { program := "ytjnicgfkogfifaadoor", sum := "39637b1164d5c829d168ca938cc99b2e5e750b892f9fae7d0b2ad308ae96fdf4", func := "redraft/redraftlaw10.MsgNewMemory", spec := "msgNewMemory", unfollowed := true, recurses := true, named := ["redraft/utext.bars", "redraft/msg.forms", "redraft/frame.table"], apart := false, laid := [("redraft/frame.table", laid_redraft_frame_table), ("redraft/utext.bars", laid_redraft_utext_bars), ("redraft/msg.forms", laid_redraft_msg_forms)] }
def MsgNewMemorySaid : Prop := msgNewMemoryRow.holds Tryd.pinned (OpenSpec.ofChange msgNewMemorySpec)

/-- ITS FALSE NEIGHBOUR: 'it returns false'. Refute it at one input. -/
def msgNewMemoryWrong : ChangeSpec := { name := "msgNewMemory", fn := fun _ => fun
  | [d] => { results := [.lit (.bool false)], args := [d] }
  | _ => none }
def MsgNewMemoryWrongFalsely : Prop := msgNewMemoryRow.holds Tryd.pinned (OpenSpec.ofChange msgNewMemoryWrong)

/-- 'redraftlaw10.MsgSpoilt': WHATEVER THE INPUT: true; the input reads as it did. -/
def msgSpoiltSpec : ChangeSpec := { name := "msgSpoilt", fn := fun _ => fun
  | [d1, d2] => { results := [.lit (.bool true)], args := [d1, d2] }
  | _ => none }
def msgSpoiltRow : OpenClaim := { program := "ytjnicgfkogfifaadoor", sum := "39637b1164d5c829d168ca938cc99b2e5e750b892f9fae7d0b2ad308ae96fdf4", func := "redraft/redraftlaw10.MsgSpoilt", spec := "msgSpoilt", unfollowed := true, recurses := true, named := ["redraft/msg.forms", "redraft/utext.bars", "redraft/frame.table"], apart := false, laid := [("redraft/frame.table", laid_redraft_frame_table), ("redraft/utext.bars", laid_redraft_utext_bars), ("redraft/msg.forms", laid_redraft_msg_forms)] }
def MsgSpoiltSaid : Prop := msgSpoiltRow.holds Tryd.pinned (OpenSpec.ofChange msgSpoiltSpec)

/-- ITS FALSE NEIGHBOUR: 'it returns false'. Refute it at one input. -/
def msgSpoiltWrong : ChangeSpec := { name := "msgSpoilt", fn := fun _ => fun
  | [d1, d2] => { results := [.lit (.bool false)], args := [d1, d2] }
  | _ => none }
def MsgSpoiltWrongFalsely : Prop := msgSpoiltRow.holds Tryd.pinned (OpenSpec.ofChange msgSpoiltWrong)

/-- 'redraftlaw10.MsgCommands': WHATEVER THE INPUT: true; the input reads as it did. -/
def msgCommandsSpec : ChangeSpec := { name := "msgCommands", fn := fun _ => fun
  | [d] => { results := [.lit (.bool true)], args := [d] }
  | _ => none }
def msgCommandsRow : OpenClaim := { program := "ytjnicgfkogfifaadoor", sum := "39637b1164d5c829d168ca938cc99b2e5e750b892f9fae7d0b2ad308ae96fdf4", func := "redraft/redraftlaw10.MsgCommands", spec := "msgCommands", unfollowed := true, recurses := true, named := ["redraft/msg.forms", "redraft/utext.bars", "redraft/frame.table"], apart := false, laid := [("redraft/frame.table", laid_redraft_frame_table), ("redraft/utext.bars", laid_redraft_utext_bars), ("redraft/msg.forms", laid_redraft_msg_forms)] }
def MsgCommandsSaid : Prop := msgCommandsRow.holds Tryd.pinned (OpenSpec.ofChange msgCommandsSpec)

/-- ITS FALSE NEIGHBOUR: 'it returns false'. Refute it at one input. -/
def msgCommandsWrong : ChangeSpec := { name := "msgCommands", fn := fun _ => fun
  | [d] => { results := [.lit (.bool false)], args := [d] }
  | _ => none }
def MsgCommandsWrongFalsely : Prop := msgCommandsRow.holds Tryd.pinned (OpenSpec.ofChange msgCommandsWrong)

/-- 'redraftlaw10.MsgMessages': WHATEVER THE INPUT: true; the input reads as it did. -/
def msgMessagesSpec : ChangeSpec := { name := "msgMessages", fn := fun _ => fun
  | [d] => { results := [.lit (.bool true)], args := [d] }
  | _ => none }
def msgMessagesRow : OpenClaim := { program := "ytjnicgfkogfifaadoor", sum := "39637b1164d5c829d168ca938cc99b2e5e750b892f9fae7d0b2ad308ae96fdf4", func := "redraft/redraftlaw10.MsgMessages", spec := "msgMessages", unfollowed := true, recurses := true, named := ["redraft/msg.forms", "redraft/utext.bars", "redraft/frame.table"], apart := false, laid := [("redraft/frame.table", laid_redraft_frame_table), ("redraft/utext.bars", laid_redraft_utext_bars), ("redraft/msg.forms", laid_redraft_msg_forms)] }
def MsgMessagesSaid : Prop := msgMessagesRow.holds Tryd.pinned (OpenSpec.ofChange msgMessagesSpec)

/-- ITS FALSE NEIGHBOUR: 'it returns false'. Refute it at one input. -/
def msgMessagesWrong : ChangeSpec := { name := "msgMessages", fn := fun _ => fun
  | [d] => { results := [.lit (.bool false)], args := [d] }
  | _ => none }
def MsgMessagesWrongFalsely : Prop := msgMessagesRow.holds Tryd.pinned (OpenSpec.ofChange msgMessagesWrong)

/-- 'redraftlaw10.MsgPackets': WHATEVER THE INPUT: true; the input reads as it did. -/
def msgPacketsSpec : ChangeSpec := { name := "msgPackets", fn := fun _ => fun
  | [d] => { results := [.lit (.bool true)], args := [d] }
  | _ => none }
def msgPacketsRow : OpenClaim := { program := "ytjnicgfkogfifaadoor", sum := "39637b1164d5c829d168ca938cc99b2e5e750b892f9fae7d0b2ad308ae96fdf4", func := "redraft/redraftlaw10.MsgPackets", spec := "msgPackets", unfollowed := true, recurses := true, named := ["redraft/msg.forms", "redraft/utext.bars", "redraft/frame.table"], apart := false, laid := [("redraft/frame.table", laid_redraft_frame_table), ("redraft/utext.bars", laid_redraft_utext_bars), ("redraft/msg.forms", laid_redraft_msg_forms)] }
def MsgPacketsSaid : Prop := msgPacketsRow.holds Tryd.pinned (OpenSpec.ofChange msgPacketsSpec)

/-- ITS FALSE NEIGHBOUR: 'it returns false'. Refute it at one input. -/
def msgPacketsWrong : ChangeSpec := { name := "msgPackets", fn := fun _ => fun
  | [d] => { results := [.lit (.bool false)], args := [d] }
  | _ => none }
def MsgPacketsWrongFalsely : Prop := msgPacketsRow.holds Tryd.pinned (OpenSpec.ofChange msgPacketsWrong)

/-- 'redraftlaw10.MsgAll': WHATEVER THE INPUT: true; the input reads as it did. -/
def msgAllSpec : ChangeSpec := { name := "msgAll", fn := fun _ => fun
  | [d] => { results := [.lit (.bool true)], args := [d] }
  | _ => none }
def msgAllRow : OpenClaim := { program := "ytjnicgfkogfifaadoor", sum := "39637b1164d5c829d168ca938cc99b2e5e750b892f9fae7d0b2ad308ae96fdf4", func := "redraft/redraftlaw10.MsgAll", spec := "msgAll", unfollowed := true, recurses := true, named := ["redraft/msg.forms", "redraft/utext.bars", "redraft/frame.table"], apart := false, laid := [("redraft/frame.table", laid_redraft_frame_table), ("redraft/utext.bars", laid_redraft_utext_bars), ("redraft/msg.forms", laid_redraft_msg_forms)] }
def MsgAllSaid : Prop := msgAllRow.holds Tryd.pinned (OpenSpec.ofChange msgAllSpec)

/-- ITS FALSE NEIGHBOUR: 'it returns false'. Refute it at one input. -/
def msgAllWrong : ChangeSpec := { name := "msgAll", fn := fun _ => fun
  | [d] => { results := [.lit (.bool false)], args := [d] }
  | _ => none }
def MsgAllWrongFalsely : Prop := msgAllRow.holds Tryd.pinned (OpenSpec.ofChange msgAllWrong)

/-- 'redraftlaw10.MsgOneForm': WHATEVER THE INPUT: true; the input reads as it did. -/
def msgOneFormSpec : ChangeSpec := { name := "msgOneForm", fn := fun _ => fun
  | [d1, d2, d3] => { results := [.lit (.bool true)], args := [d1, d2, d3] }
  | _ => none }
def msgOneFormRow : OpenClaim := { program := "ytjnicgfkogfifaadoor", sum := "39637b1164d5c829d168ca938cc99b2e5e750b892f9fae7d0b2ad308ae96fdf4", func := "redraft/redraftlaw10.MsgOneForm", spec := "msgOneForm", unfollowed := true, recurses := true, named := ["redraft/utext.bars", "redraft/msg.forms", "redraft/frame.table"], apart := false, laid := [("redraft/frame.table", laid_redraft_frame_table), ("redraft/utext.bars", laid_redraft_utext_bars), ("redraft/msg.forms", laid_redraft_msg_forms)] }
def MsgOneFormSaid : Prop := msgOneFormRow.holds Tryd.pinned (OpenSpec.ofChange msgOneFormSpec)

/-- ITS FALSE NEIGHBOUR: 'it returns false'. Refute it at one input. -/
def msgOneFormWrong : ChangeSpec := { name := "msgOneForm", fn := fun _ => fun
  | [d1, d2, d3] => { results := [.lit (.bool false)], args := [d1, d2, d3] }
  | _ => none }
def MsgOneFormWrongFalsely : Prop := msgOneFormRow.holds Tryd.pinned (OpenSpec.ofChange msgOneFormWrong)

/- THE SECOND FORM. 'bulk': how many values and letters a reading holds, each counted each time it is reached (what is shared counts as often as it is met; a slice's spare places count too). A statement '..UptoSaid' is the law's where the arguments, and the package variables that the reading takes, are together of bulk at most 1048576: NARROWER than '..Said'. Prove '..Said' where nothing that the law and all that it calls make is longer than what came in: it says more and counts as full. Else prove '..UptoSaid'. A law counts once. -/
mutual
def uptoBulk {H : Type} : DataW H → Nat
  | .lit (.string bytes) => bytes.length + 1
  | .lit _ => 1
  | .nil => 1
  | .ptr d => uptoBulk d + 1
  | .slice elems spare => uptoBulkAll elems + uptoBulkAll spare + 1
  | .agg parts => uptoBulkAll parts + 1
  | .iface _ d => uptoBulk d + 1
  | .map entries => uptoBulkEntries entries + 1
  | .held _ => 1
def uptoBulkAll {H : Type} : List (DataW H) → Nat
  | [] => 0
  | d :: r => uptoBulk d + uptoBulkAll r
def uptoBulkEntries {H : Type} : List (Lit × DataW H) → Nat
  | [] => 0
  | x :: r => uptoBulkEntry x + uptoBulkEntries r
def uptoBulkEntry {H : Type} : Lit × DataW H → Nat
  | (.string bytes, d) => bytes.length + uptoBulk d + 1
  | (_, d) => uptoBulk d + 1
 end
def uptoSmall : (H : Type) → List (DataW H) → Bool := fun _ ds => decide (uptoBulkAll ds ≤ 1048576)
def OpenSpec.upto (s : _root_.Go.ChangeSpec) : _root_.Go.OpenSpec := { _root_.Go.OpenSpec.ofChange s with cond := some uptoSmall }

/-- 'redraftlaw10.MsgNames', WHERE WHAT IT READS IS OF BULK AT MOST 1048576: true; the input reads as it did. -/
def msgNamesUptoRow : OpenClaim := { program := "ytjnicgfkogfifaadoor", sum := "39637b1164d5c829d168ca938cc99b2e5e750b892f9fae7d0b2ad308ae96fdf4", func := "redraft/redraftlaw10.MsgNames", spec := "msgNames", unfollowed := true, recurses := true, named := ["redraft/msg.forms", "redraft/utext.bars"], apart := false, laid := [("redraft/utext.bars", laid_redraft_utext_bars), ("redraft/msg.forms", laid_redraft_msg_forms)], narrowed := true }
def MsgNamesUptoSaid : Prop := msgNamesUptoRow.holds Tryd.pinned (OpenSpec.upto msgNamesSpec)

/-- 'redraftlaw10.MsgShortest', WHERE WHAT IT READS IS OF BULK AT MOST 1048576: true; the input reads as it did. -/
def msgShortestUptoRow : OpenClaim := { program := "ytjnicgfkogfifaadoor", sum := "39637b1164d5c829d168ca938cc99b2e5e750b892f9fae7d0b2ad308ae96fdf4", func := "redraft/redraftlaw10.MsgShortest", spec := "msgShortest", unfollowed := true, recurses := true, named := ["redraft/msg.forms", "redraft/utext.bars"], apart := false, laid := [("redraft/utext.bars", laid_redraft_utext_bars), ("redraft/msg.forms", laid_redraft_msg_forms)], narrowed := true }
def MsgShortestUptoSaid : Prop := msgShortestUptoRow.holds Tryd.pinned (OpenSpec.upto msgShortestSpec)

/-- 'redraftlaw10.MsgOrder', WHERE WHAT IT READS IS OF BULK AT MOST 1048576: true; the input reads as it did. -/
def msgOrderUptoRow : OpenClaim := { program := "ytjnicgfkogfifaadoor", sum := "39637b1164d5c829d168ca938cc99b2e5e750b892f9fae7d0b2ad308ae96fdf4", func := "redraft/redraftlaw10.MsgOrder", spec := "msgOrder", unfollowed := true, recurses := true, named := ["redraft/msg.forms", "redraft/utext.bars", "redraft/frame.table"], apart := false, laid := [("redraft/frame.table", laid_redraft_frame_table), ("redraft/utext.bars", laid_redraft_utext_bars), ("redraft/msg.forms", laid_redraft_msg_forms)], narrowed := true }
def MsgOrderUptoSaid : Prop := msgOrderUptoRow.holds Tryd.pinned (OpenSpec.upto msgOrderSpec)

/-- 'redraftlaw10.MsgCut', WHERE WHAT IT READS IS OF BULK AT MOST 1048576: true; the input reads as it did. -/
def msgCutUptoRow : OpenClaim := { program := "ytjnicgfkogfifaadoor", sum := "39637b1164d5c829d168ca938cc99b2e5e750b892f9fae7d0b2ad308ae96fdf4", func := "redraft/redraftlaw10.MsgCut", spec := "msgCut", unfollowed := true, recurses := true, named := ["redraft/msg.forms", "redraft/utext.bars"], apart := false, laid := [("redraft/utext.bars", laid_redraft_utext_bars), ("redraft/msg.forms", laid_redraft_msg_forms)], narrowed := true }
def MsgCutUptoSaid : Prop := msgCutUptoRow.holds Tryd.pinned (OpenSpec.upto msgCutSpec)

/-- 'redraftlaw10.MsgNewMemory', WHERE WHAT IT READS IS OF BULK AT MOST 1048576: true; the input reads as it did. -/
def msgNewMemoryUptoRow : OpenClaim := { program := "ytjnicgfkogfifaadoor", sum := "39637b1164d5c829d168ca938cc99b2e5e750b892f9fae7d0b2ad308ae96fdf4", func := "redraft/redraftlaw10.MsgNewMemory", spec := "msgNewMemory", unfollowed := true, recurses := true, named := ["redraft/utext.bars", "redraft/msg.forms", "redraft/frame.table"], apart := false, laid := [("redraft/frame.table", laid_redraft_frame_table), ("redraft/utext.bars", laid_redraft_utext_bars), ("redraft/msg.forms", laid_redraft_msg_forms)], narrowed := true }
def MsgNewMemoryUptoSaid : Prop := msgNewMemoryUptoRow.holds Tryd.pinned (OpenSpec.upto msgNewMemorySpec)

/-- 'redraftlaw10.MsgSpoilt', WHERE WHAT IT READS IS OF BULK AT MOST 1048576: true; the input reads as it did. -/
def msgSpoiltUptoRow : OpenClaim := { program := "ytjnicgfkogfifaadoor", sum := "39637b1164d5c829d168ca938cc99b2e5e750b892f9fae7d0b2ad308ae96fdf4", func := "redraft/redraftlaw10.MsgSpoilt", spec := "msgSpoilt", unfollowed := true, recurses := true, named := ["redraft/msg.forms", "redraft/utext.bars", "redraft/frame.table"], apart := false, laid := [("redraft/frame.table", laid_redraft_frame_table), ("redraft/utext.bars", laid_redraft_utext_bars), ("redraft/msg.forms", laid_redraft_msg_forms)], narrowed := true }
def MsgSpoiltUptoSaid : Prop := msgSpoiltUptoRow.holds Tryd.pinned (OpenSpec.upto msgSpoiltSpec)

/-- 'redraftlaw10.MsgCommands', WHERE WHAT IT READS IS OF BULK AT MOST 1048576: true; the input reads as it did. -/
def msgCommandsUptoRow : OpenClaim := { program := "ytjnicgfkogfifaadoor", sum := "39637b1164d5c829d168ca938cc99b2e5e750b892f9fae7d0b2ad308ae96fdf4", func := "redraft/redraftlaw10.MsgCommands", spec := "msgCommands", unfollowed := true, recurses := true, named := ["redraft/msg.forms", "redraft/utext.bars", "redraft/frame.table"], apart := false, laid := [("redraft/frame.table", laid_redraft_frame_table), ("redraft/utext.bars", laid_redraft_utext_bars), ("redraft/msg.forms", laid_redraft_msg_forms)], narrowed := true }
def MsgCommandsUptoSaid : Prop := msgCommandsUptoRow.holds Tryd.pinned (OpenSpec.upto msgCommandsSpec)

/-- 'redraftlaw10.MsgMessages', WHERE WHAT IT READS IS OF BULK AT MOST 1048576: true; the input reads as it did. -/
def msgMessagesUptoRow : OpenClaim := { program := "ytjnicgfkogfifaadoor", sum := "39637b1164d5c829d168ca938cc99b2e5e750b892f9fae7d0b2ad308ae96fdf4", func := "redraft/redraftlaw10.MsgMessages", spec := "msgMessages", unfollowed := true, recurses := true, named := ["redraft/msg.forms", "redraft/utext.bars", "redraft/frame.table"], apart := false, laid := [("redraft/frame.table", laid_redraft_frame_table), ("redraft/utext.bars", laid_redraft_utext_bars), ("redraft/msg.forms", laid_redraft_msg_forms)], narrowed := true }
def MsgMessagesUptoSaid : Prop := msgMessagesUptoRow.holds Tryd.pinned (OpenSpec.upto msgMessagesSpec)

/-- 'redraftlaw10.MsgPackets', WHERE WHAT IT READS IS OF BULK AT MOST 1048576: true; the input reads as it did. -/
def msgPacketsUptoRow : OpenClaim := { program := "ytjnicgfkogfifaadoor", sum := "39637b1164d5c829d168ca938cc99b2e5e750b892f9fae7d0b2ad308ae96fdf4", func := "redraft/redraftlaw10.MsgPackets", spec := "msgPackets", unfollowed := true, recurses := true, named := ["redraft/msg.forms", "redraft/utext.bars", "redraft/frame.table"], apart := false, laid := [("redraft/frame.table", laid_redraft_frame_table), ("redraft/utext.bars", laid_redraft_utext_bars), ("redraft/msg.forms", laid_redraft_msg_forms)], narrowed := true }
def MsgPacketsUptoSaid : Prop := msgPacketsUptoRow.holds Tryd.pinned (OpenSpec.upto msgPacketsSpec)

/-- 'redraftlaw10.MsgAll', WHERE WHAT IT READS IS OF BULK AT MOST 1048576: true; the input reads as it did. -/
def msgAllUptoRow : OpenClaim := { program := "ytjnicgfkogfifaadoor", sum := "39637b1164d5c829d168ca938cc99b2e5e750b892f9fae7d0b2ad308ae96fdf4", func := "redraft/redraftlaw10.MsgAll", spec := "msgAll", unfollowed := true, recurses := true, named := ["redraft/msg.forms", "redraft/utext.bars", "redraft/frame.table"], apart := false, laid := [("redraft/frame.table", laid_redraft_frame_table), ("redraft/utext.bars", laid_redraft_utext_bars), ("redraft/msg.forms", laid_redraft_msg_forms)], narrowed := true }
def MsgAllUptoSaid : Prop := msgAllUptoRow.holds Tryd.pinned (OpenSpec.upto msgAllSpec)

/-- 'redraftlaw10.MsgOneForm', WHERE WHAT IT READS IS OF BULK AT MOST 1048576: true; the input reads as it did. -/
def msgOneFormUptoRow : OpenClaim := { program := "ytjnicgfkogfifaadoor", sum := "39637b1164d5c829d168ca938cc99b2e5e750b892f9fae7d0b2ad308ae96fdf4", func := "redraft/redraftlaw10.MsgOneForm", spec := "msgOneForm", unfollowed := true, recurses := true, named := ["redraft/utext.bars", "redraft/msg.forms", "redraft/frame.table"], apart := false, laid := [("redraft/frame.table", laid_redraft_frame_table), ("redraft/utext.bars", laid_redraft_utext_bars), ("redraft/msg.forms", laid_redraft_msg_forms)], narrowed := true }
def MsgOneFormUptoSaid : Prop := msgOneFormUptoRow.holds Tryd.pinned (OpenSpec.upto msgOneFormSpec)

end Rows
end Go.Proofs.YtjnicgfkogfifaaDoor
