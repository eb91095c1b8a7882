/-
  NARROWER THAN 'FOR EVERY INPUT', by the rows' own cells (each row's printed sentence says how): FrameSums: laid · FrameScans: laid · FrameGivesBack: laid · FrameOneForm: laid · FrameBursts: laid · FrameFound: laid · FrameGreat: laid · FramePieces: laid · FrameExact: laid.
  DERIVED. THE GIVEN ROWS OF THIS SEAT. 9 by the template 'for every input the law returns true; each argument reads behind the call as it read before'; 0 by the template 'total and deterministic' (their statements: YtooagpjfcnpheaaDoorTotals.lean).
  GIVEN WITH THE SEED: the statements are not yours to turn. If you find one false, say at which input.
  Laid BY PROGRAM, IN A SANDBOX (cutbox-rows.mjs): the forced cells as the released guide's own fill.sh prints them over the translation 3f1bb32923092c1f… (all of the seat's roots in one cut). By AI agents, Wed Nov 11 2026. No macro, syntax, notation, axiom, sorry.
-/
import Derived.Test.YtooagpjfcnpheaaDoorChecked
import GoSem.Claim
import GoSem.ClaimJoined
import GoSem.ClaimMapViews
import Derived.JoinedTies
import Derived.KernelRfl
namespace Go.Proofs.YtooagpjfcnpheaaDoor
/- THE CELL 'sum', in the pinned program and in every row, IS THE sha256 OF THE DUMP (.gsa) THAT YtooagpjfcnpheaaDoorProg.lean LOADS. Nothing in Lean hashes anything: it is a label: what it is worth is what the hold of that sum in a sandbox is worth. -/
noncomputable def Tryd.pinned : Pinned := { name := "ytooagpjfcnpheaadoor", sum := "3f1bb32923092c1faca6c79e1a4ed78f78dbc33eea1fdad3dd3a38844d8c9dee", checked := Tryd.checked }
namespace Rows
def none {H : Type} : Left H := { results := [], args := [] }

/- WHAT THE LISTED PACKAGE-LEVEL VARIABLES READ AS WHEN THE CALL BEGINS. Each datum BY PROGRAM (the guide's laid-datum.mjs) off the statement by which the dump's own 'gosem.cut.vars' lays the variable. In a bare row this is a premise. The card (YtooagpjfcnpheaaDoorCards.lean) ties it to the program's text. -/
def laid_redraft_frame_table {H : Type} : DataW H := .agg [.lit (.int .u32 0), .lit (.int .u32 274646895), .lit (.int .u32 549293790), .lit (.int .u32 820201905), .lit (.int .u32 1098587580), .lit (.int .u32 1361435347), .lit (.int .u32 1640403810), .lit (.int .u32 1905808397), .lit (.int .u32 2197175160), .lit (.int .u32 2460548119), .lit (.int .u32 2722870694), .lit (.int .u32 2987750089), .lit (.int .u32 3280807620), .lit (.int .u32 3553878443), .lit (.int .u32 3811616794), .lit (.int .u32 4084100981)]

/-- 'redraftlaw09.FrameSums': WHATEVER THE INPUT: true; the input reads as it did. -/
def frameSumsSpec : ChangeSpec := { name := "frameSums", fn := fun _ => fun
  | [d1, d2, d3, d4] => { results := [.lit (.bool true)], args := [d1, d2, d3, d4] }
  | _ => none }
def frameSumsRow : OpenClaim := { program := "ytooagpjfcnpheaadoor", sum := "3f1bb32923092c1faca6c79e1a4ed78f78dbc33eea1fdad3dd3a38844d8c9dee", func := "redraft/redraftlaw09.FrameSums", spec := "frameSums", named := ["redraft/frame.table"], apart := false, laid := [("redraft/frame.table", laid_redraft_frame_table)] }
def FrameSumsSaid : Prop := frameSumsRow.holds Tryd.pinned (OpenSpec.ofChange frameSumsSpec)

/-- ITS FALSE NEIGHBOUR: 'it returns false'. Refute it at one input. -/
def frameSumsWrong : ChangeSpec := { name := "frameSums", fn := fun _ => fun
  | [d1, d2, d3, d4] => { results := [.lit (.bool false)], args := [d1, d2, d3, d4] }
  | _ => none }
def FrameSumsWrongFalsely : Prop := frameSumsRow.holds Tryd.pinned (OpenSpec.ofChange frameSumsWrong)

/-- 'redraftlaw09.FrameScans': WHATEVER THE INPUT: true; the input reads as it did. -/
def frameScansSpec : ChangeSpec := { name := "frameScans", fn := fun _ => fun
  | [d1, d2, d3] => { results := [.lit (.bool true)], args := [d1, d2, d3] }
  | _ => none }
def frameScansRow : OpenClaim := { program := "ytooagpjfcnpheaadoor", sum := "3f1bb32923092c1faca6c79e1a4ed78f78dbc33eea1fdad3dd3a38844d8c9dee", func := "redraft/redraftlaw09.FrameScans", spec := "frameScans", named := ["redraft/frame.table"], apart := false, laid := [("redraft/frame.table", laid_redraft_frame_table)] }
def FrameScansSaid : Prop := frameScansRow.holds Tryd.pinned (OpenSpec.ofChange frameScansSpec)

/-- ITS FALSE NEIGHBOUR: 'it returns false'. Refute it at one input. -/
def frameScansWrong : ChangeSpec := { name := "frameScans", fn := fun _ => fun
  | [d1, d2, d3] => { results := [.lit (.bool false)], args := [d1, d2, d3] }
  | _ => none }
def FrameScansWrongFalsely : Prop := frameScansRow.holds Tryd.pinned (OpenSpec.ofChange frameScansWrong)

/-- 'redraftlaw09.FrameGivesBack': WHATEVER THE INPUT: true; the input reads as it did. -/
def frameGivesBackSpec : ChangeSpec := { name := "frameGivesBack", fn := fun _ => fun
  | [d1, d2, d3, d4] => { results := [.lit (.bool true)], args := [d1, d2, d3, d4] }
  | _ => none }
def frameGivesBackRow : OpenClaim := { program := "ytooagpjfcnpheaadoor", sum := "3f1bb32923092c1faca6c79e1a4ed78f78dbc33eea1fdad3dd3a38844d8c9dee", func := "redraft/redraftlaw09.FrameGivesBack", spec := "frameGivesBack", named := ["redraft/frame.table"], apart := false, laid := [("redraft/frame.table", laid_redraft_frame_table)] }
def FrameGivesBackSaid : Prop := frameGivesBackRow.holds Tryd.pinned (OpenSpec.ofChange frameGivesBackSpec)

/-- ITS FALSE NEIGHBOUR: 'it returns false'. Refute it at one input. -/
def frameGivesBackWrong : ChangeSpec := { name := "frameGivesBack", fn := fun _ => fun
  | [d1, d2, d3, d4] => { results := [.lit (.bool false)], args := [d1, d2, d3, d4] }
  | _ => none }
def FrameGivesBackWrongFalsely : Prop := frameGivesBackRow.holds Tryd.pinned (OpenSpec.ofChange frameGivesBackWrong)

/-- 'redraftlaw09.FrameOneForm': WHATEVER THE INPUT: true; the input reads as it did. -/
def frameOneFormSpec : ChangeSpec := { name := "frameOneForm", fn := fun _ => fun
  | [d] => { results := [.lit (.bool true)], args := [d] }
  | _ => none }
def frameOneFormRow : OpenClaim := { program := "ytooagpjfcnpheaadoor", sum := "3f1bb32923092c1faca6c79e1a4ed78f78dbc33eea1fdad3dd3a38844d8c9dee", func := "redraft/redraftlaw09.FrameOneForm", spec := "frameOneForm", named := ["redraft/frame.table"], apart := false, laid := [("redraft/frame.table", laid_redraft_frame_table)] }
def FrameOneFormSaid : Prop := frameOneFormRow.holds Tryd.pinned (OpenSpec.ofChange frameOneFormSpec)

/-- ITS FALSE NEIGHBOUR: 'it returns false'. Refute it at one input. -/
def frameOneFormWrong : ChangeSpec := { name := "frameOneForm", fn := fun _ => fun
  | [d] => { results := [.lit (.bool false)], args := [d] }
  | _ => none }
def FrameOneFormWrongFalsely : Prop := frameOneFormRow.holds Tryd.pinned (OpenSpec.ofChange frameOneFormWrong)

/-- 'redraftlaw09.FrameBursts': WHATEVER THE INPUT: true; the input reads as it did. -/
def frameBurstsSpec : ChangeSpec := { name := "frameBursts", fn := fun _ => fun
  | [d1, d2, d3] => { results := [.lit (.bool true)], args := [d1, d2, d3] }
  | _ => none }
def frameBurstsRow : OpenClaim := { program := "ytooagpjfcnpheaadoor", sum := "3f1bb32923092c1faca6c79e1a4ed78f78dbc33eea1fdad3dd3a38844d8c9dee", func := "redraft/redraftlaw09.FrameBursts", spec := "frameBursts", named := ["redraft/frame.table"], apart := false, laid := [("redraft/frame.table", laid_redraft_frame_table)] }
def FrameBurstsSaid : Prop := frameBurstsRow.holds Tryd.pinned (OpenSpec.ofChange frameBurstsSpec)

/-- ITS FALSE NEIGHBOUR: 'it returns false'. Refute it at one input. -/
def frameBurstsWrong : ChangeSpec := { name := "frameBursts", fn := fun _ => fun
  | [d1, d2, d3] => { results := [.lit (.bool false)], args := [d1, d2, d3] }
  | _ => none }
def FrameBurstsWrongFalsely : Prop := frameBurstsRow.holds Tryd.pinned (OpenSpec.ofChange frameBurstsWrong)

/-- 'redraftlaw09.FrameFound': WHATEVER THE INPUT: true; the input reads as it did. -/
def frameFoundSpec : ChangeSpec := { name := "frameFound", fn := fun _ => fun
  | [d1, d2, d3] => { results := [.lit (.bool true)], args := [d1, d2, d3] }
  | _ => none }
def frameFoundRow : OpenClaim := { program := "ytooagpjfcnpheaadoor", sum := "3f1bb32923092c1faca6c79e1a4ed78f78dbc33eea1fdad3dd3a38844d8c9dee", func := "redraft/redraftlaw09.FrameFound", spec := "frameFound", named := ["redraft/frame.table"], apart := false, laid := [("redraft/frame.table", laid_redraft_frame_table)] }
def FrameFoundSaid : Prop := frameFoundRow.holds Tryd.pinned (OpenSpec.ofChange frameFoundSpec)

/-- ITS FALSE NEIGHBOUR: 'it returns false'. Refute it at one input. -/
def frameFoundWrong : ChangeSpec := { name := "frameFound", fn := fun _ => fun
  | [d1, d2, d3] => { results := [.lit (.bool false)], args := [d1, d2, d3] }
  | _ => none }
def FrameFoundWrongFalsely : Prop := frameFoundRow.holds Tryd.pinned (OpenSpec.ofChange frameFoundWrong)

/-- 'redraftlaw09.FrameGreat': WHATEVER THE INPUT: true; the input reads as it did. -/
def frameGreatSpec : ChangeSpec := { name := "frameGreat", fn := fun _ => fun
  | [d1, d2, d3, d4] => { results := [.lit (.bool true)], args := [d1, d2, d3, d4] }
  | _ => none }
def frameGreatRow : OpenClaim := { program := "ytooagpjfcnpheaadoor", sum := "3f1bb32923092c1faca6c79e1a4ed78f78dbc33eea1fdad3dd3a38844d8c9dee", func := "redraft/redraftlaw09.FrameGreat", spec := "frameGreat", named := ["redraft/frame.table"], apart := false, laid := [("redraft/frame.table", laid_redraft_frame_table)] }
def FrameGreatSaid : Prop := frameGreatRow.holds Tryd.pinned (OpenSpec.ofChange frameGreatSpec)

/-- ITS FALSE NEIGHBOUR: 'it returns false'. Refute it at one input. -/
def frameGreatWrong : ChangeSpec := { name := "frameGreat", fn := fun _ => fun
  | [d1, d2, d3, d4] => { results := [.lit (.bool false)], args := [d1, d2, d3, d4] }
  | _ => none }
def FrameGreatWrongFalsely : Prop := frameGreatRow.holds Tryd.pinned (OpenSpec.ofChange frameGreatWrong)

/-- 'redraftlaw09.FramePieces': WHATEVER THE INPUT: true; the input reads as it did. -/
def framePiecesSpec : ChangeSpec := { name := "framePieces", fn := fun _ => fun
  | [d1, d2, d3, d4] => { results := [.lit (.bool true)], args := [d1, d2, d3, d4] }
  | _ => none }
def framePiecesRow : OpenClaim := { program := "ytooagpjfcnpheaadoor", sum := "3f1bb32923092c1faca6c79e1a4ed78f78dbc33eea1fdad3dd3a38844d8c9dee", func := "redraft/redraftlaw09.FramePieces", spec := "framePieces", named := ["redraft/frame.table"], apart := false, laid := [("redraft/frame.table", laid_redraft_frame_table)] }
def FramePiecesSaid : Prop := framePiecesRow.holds Tryd.pinned (OpenSpec.ofChange framePiecesSpec)

/-- ITS FALSE NEIGHBOUR: 'it returns false'. Refute it at one input. -/
def framePiecesWrong : ChangeSpec := { name := "framePieces", fn := fun _ => fun
  | [d1, d2, d3, d4] => { results := [.lit (.bool false)], args := [d1, d2, d3, d4] }
  | _ => none }
def FramePiecesWrongFalsely : Prop := framePiecesRow.holds Tryd.pinned (OpenSpec.ofChange framePiecesWrong)

/-- 'redraftlaw09.FrameExact': WHATEVER THE INPUT: true; the input reads as it did. -/
def frameExactSpec : ChangeSpec := { name := "frameExact", fn := fun _ => fun
  | [d] => { results := [.lit (.bool true)], args := [d] }
  | _ => none }
def frameExactRow : OpenClaim := { program := "ytooagpjfcnpheaadoor", sum := "3f1bb32923092c1faca6c79e1a4ed78f78dbc33eea1fdad3dd3a38844d8c9dee", func := "redraft/redraftlaw09.FrameExact", spec := "frameExact", named := ["redraft/frame.table"], apart := false, laid := [("redraft/frame.table", laid_redraft_frame_table)] }
def FrameExactSaid : Prop := frameExactRow.holds Tryd.pinned (OpenSpec.ofChange frameExactSpec)

/-- ITS FALSE NEIGHBOUR: 'it returns false'. Refute it at one input. -/
def frameExactWrong : ChangeSpec := { name := "frameExact", fn := fun _ => fun
  | [d] => { results := [.lit (.bool false)], args := [d] }
  | _ => none }
def FrameExactWrongFalsely : Prop := frameExactRow.holds Tryd.pinned (OpenSpec.ofChange frameExactWrong)

/- THE SECOND FORM. 'bulk': how many values and letters a reading holds, each counted each time it is reached (what is shared counts as often as it is met; a slice's spare places count too). A statement '..UptoSaid' is the law's where the arguments, and the package variables that the reading takes, are together of bulk at most 1048576: NARROWER than '..Said'. Prove '..Said' where nothing that the law and all that it calls make is longer than what came in: it says more and counts as full. Else prove '..UptoSaid'. A law counts once. -/
mutual
def uptoBulk {H : Type} : DataW H → Nat
  | .lit (.string bytes) => bytes.length + 1
  | .lit _ => 1
  | .nil => 1
  | .ptr d => uptoBulk d + 1
  | .slice elems spare => uptoBulkAll elems + uptoBulkAll spare + 1
  | .agg parts => uptoBulkAll parts + 1
  | .iface _ d => uptoBulk d + 1
  | .map entries => uptoBulkEntries entries + 1
  | .held _ => 1
def uptoBulkAll {H : Type} : List (DataW H) → Nat
  | [] => 0
  | d :: r => uptoBulk d + uptoBulkAll r
def uptoBulkEntries {H : Type} : List (Lit × DataW H) → Nat
  | [] => 0
  | x :: r => uptoBulkEntry x + uptoBulkEntries r
def uptoBulkEntry {H : Type} : Lit × DataW H → Nat
  | (.string bytes, d) => bytes.length + uptoBulk d + 1
  | (_, d) => uptoBulk d + 1
 end
def uptoSmall : (H : Type) → List (DataW H) → Bool := fun _ ds => decide (uptoBulkAll ds ≤ 1048576)
def OpenSpec.upto (s : _root_.Go.ChangeSpec) : _root_.Go.OpenSpec := { _root_.Go.OpenSpec.ofChange s with cond := some uptoSmall }

/-- 'redraftlaw09.FrameSums', WHERE WHAT IT READS IS OF BULK AT MOST 1048576: true; the input reads as it did. -/
def frameSumsUptoRow : OpenClaim := { program := "ytooagpjfcnpheaadoor", sum := "3f1bb32923092c1faca6c79e1a4ed78f78dbc33eea1fdad3dd3a38844d8c9dee", func := "redraft/redraftlaw09.FrameSums", spec := "frameSums", named := ["redraft/frame.table"], apart := false, laid := [("redraft/frame.table", laid_redraft_frame_table)], narrowed := true }
def FrameSumsUptoSaid : Prop := frameSumsUptoRow.holds Tryd.pinned (OpenSpec.upto frameSumsSpec)

/-- 'redraftlaw09.FrameScans', WHERE WHAT IT READS IS OF BULK AT MOST 1048576: true; the input reads as it did. -/
def frameScansUptoRow : OpenClaim := { program := "ytooagpjfcnpheaadoor", sum := "3f1bb32923092c1faca6c79e1a4ed78f78dbc33eea1fdad3dd3a38844d8c9dee", func := "redraft/redraftlaw09.FrameScans", spec := "frameScans", named := ["redraft/frame.table"], apart := false, laid := [("redraft/frame.table", laid_redraft_frame_table)], narrowed := true }
def FrameScansUptoSaid : Prop := frameScansUptoRow.holds Tryd.pinned (OpenSpec.upto frameScansSpec)

/-- 'redraftlaw09.FrameGivesBack', WHERE WHAT IT READS IS OF BULK AT MOST 1048576: true; the input reads as it did. -/
def frameGivesBackUptoRow : OpenClaim := { program := "ytooagpjfcnpheaadoor", sum := "3f1bb32923092c1faca6c79e1a4ed78f78dbc33eea1fdad3dd3a38844d8c9dee", func := "redraft/redraftlaw09.FrameGivesBack", spec := "frameGivesBack", named := ["redraft/frame.table"], apart := false, laid := [("redraft/frame.table", laid_redraft_frame_table)], narrowed := true }
def FrameGivesBackUptoSaid : Prop := frameGivesBackUptoRow.holds Tryd.pinned (OpenSpec.upto frameGivesBackSpec)

/-- 'redraftlaw09.FrameOneForm', WHERE WHAT IT READS IS OF BULK AT MOST 1048576: true; the input reads as it did. -/
def frameOneFormUptoRow : OpenClaim := { program := "ytooagpjfcnpheaadoor", sum := "3f1bb32923092c1faca6c79e1a4ed78f78dbc33eea1fdad3dd3a38844d8c9dee", func := "redraft/redraftlaw09.FrameOneForm", spec := "frameOneForm", named := ["redraft/frame.table"], apart := false, laid := [("redraft/frame.table", laid_redraft_frame_table)], narrowed := true }
def FrameOneFormUptoSaid : Prop := frameOneFormUptoRow.holds Tryd.pinned (OpenSpec.upto frameOneFormSpec)

/-- 'redraftlaw09.FrameBursts', WHERE WHAT IT READS IS OF BULK AT MOST 1048576: true; the input reads as it did. -/
def frameBurstsUptoRow : OpenClaim := { program := "ytooagpjfcnpheaadoor", sum := "3f1bb32923092c1faca6c79e1a4ed78f78dbc33eea1fdad3dd3a38844d8c9dee", func := "redraft/redraftlaw09.FrameBursts", spec := "frameBursts", named := ["redraft/frame.table"], apart := false, laid := [("redraft/frame.table", laid_redraft_frame_table)], narrowed := true }
def FrameBurstsUptoSaid : Prop := frameBurstsUptoRow.holds Tryd.pinned (OpenSpec.upto frameBurstsSpec)

/-- 'redraftlaw09.FrameFound', WHERE WHAT IT READS IS OF BULK AT MOST 1048576: true; the input reads as it did. -/
def frameFoundUptoRow : OpenClaim := { program := "ytooagpjfcnpheaadoor", sum := "3f1bb32923092c1faca6c79e1a4ed78f78dbc33eea1fdad3dd3a38844d8c9dee", func := "redraft/redraftlaw09.FrameFound", spec := "frameFound", named := ["redraft/frame.table"], apart := false, laid := [("redraft/frame.table", laid_redraft_frame_table)], narrowed := true }
def FrameFoundUptoSaid : Prop := frameFoundUptoRow.holds Tryd.pinned (OpenSpec.upto frameFoundSpec)

/-- 'redraftlaw09.FrameGreat', WHERE WHAT IT READS IS OF BULK AT MOST 1048576: true; the input reads as it did. -/
def frameGreatUptoRow : OpenClaim := { program := "ytooagpjfcnpheaadoor", sum := "3f1bb32923092c1faca6c79e1a4ed78f78dbc33eea1fdad3dd3a38844d8c9dee", func := "redraft/redraftlaw09.FrameGreat", spec := "frameGreat", named := ["redraft/frame.table"], apart := false, laid := [("redraft/frame.table", laid_redraft_frame_table)], narrowed := true }
def FrameGreatUptoSaid : Prop := frameGreatUptoRow.holds Tryd.pinned (OpenSpec.upto frameGreatSpec)

/-- 'redraftlaw09.FramePieces', WHERE WHAT IT READS IS OF BULK AT MOST 1048576: true; the input reads as it did. -/
def framePiecesUptoRow : OpenClaim := { program := "ytooagpjfcnpheaadoor", sum := "3f1bb32923092c1faca6c79e1a4ed78f78dbc33eea1fdad3dd3a38844d8c9dee", func := "redraft/redraftlaw09.FramePieces", spec := "framePieces", named := ["redraft/frame.table"], apart := false, laid := [("redraft/frame.table", laid_redraft_frame_table)], narrowed := true }
def FramePiecesUptoSaid : Prop := framePiecesUptoRow.holds Tryd.pinned (OpenSpec.upto framePiecesSpec)

/-- 'redraftlaw09.FrameExact', WHERE WHAT IT READS IS OF BULK AT MOST 1048576: true; the input reads as it did. -/
def frameExactUptoRow : OpenClaim := { program := "ytooagpjfcnpheaadoor", sum := "3f1bb32923092c1faca6c79e1a4ed78f78dbc33eea1fdad3dd3a38844d8c9dee", func := "redraft/redraftlaw09.FrameExact", spec := "frameExact", named := ["redraft/frame.table"], apart := false, laid := [("redraft/frame.table", laid_redraft_frame_table)], narrowed := true }
def FrameExactUptoSaid : Prop := frameExactUptoRow.holds Tryd.pinned (OpenSpec.upto frameExactSpec)

end Rows
end Go.Proofs.YtooagpjfcnpheaaDoor
