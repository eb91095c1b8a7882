/-
  NARROWER THAN 'FOR EVERY INPUT', by the rows' own cells (each row's printed sentence says how): XformCaretStays: laid · XformEarlierLeft: laid · XformMeets: laid · XformRunsMeet: laid · XformBringsThere: laid · XformOverIsCross: laid · XformNewMemory: laid · XformIncludes: laid · XformExcludes: laid · XformTransposes: laid · XformOvers: laid · XformCrosses: laid · XformBrings: laid · XformCarets: laid · XformAll: laid.
  DERIVED. THE GIVEN ROWS OF THIS SEAT. 15 by the template 'for every input the law returns true; each argument reads behind the call as it read before'; 0 by the template 'total and deterministic' (their statements: YtloccjkcmlkifaaDoorTotals.lean).
  GIVEN WITH THE SEED: the statements are not yours to turn. If you find one false, say at which input.
  Laid BY PROGRAM, IN A SANDBOX (cutbox-rows.mjs): the forced cells as the released guide's own fill.sh prints them over the translation 7a504d36f8167988… (all of the seat's roots in one cut). By AI agents, Wed Nov 11 2026. No macro, syntax, notation, axiom, sorry.
-/
import Derived.Test.YtloccjkcmlkifaaDoorChecked
import GoSem.Claim
import GoSem.ClaimJoined
import GoSem.ClaimMapViews
import Derived.JoinedTies
import Derived.KernelRfl
namespace Go.Proofs.YtloccjkcmlkifaaDoor
/- THE CELL 'sum', in the pinned program and in every row, IS THE sha256 OF THE DUMP (.gsa) THAT YtloccjkcmlkifaaDoorProg.lean LOADS. Nothing in Lean hashes anything: it is a label: what it is worth is what the hold of that sum in a sandbox is worth. -/
noncomputable def Tryd.pinned : Pinned := { name := "ytloccjkcmlkifaadoor", sum := "7a504d36f81679887fe0ceaf0dc5f0145a78e45cdeb63409fc19083fdfdbeab6", checked := Tryd.checked }
namespace Rows
def none {H : Type} : Left H := { results := [], args := [] }

/- WHAT THE LISTED PACKAGE-LEVEL VARIABLES READ AS WHEN THE CALL BEGINS. Each datum BY PROGRAM (the guide's laid-datum.mjs) off the statement by which the dump's own 'gosem.cut.vars' lays the variable. In a bare row this is a premise. The card (YtloccjkcmlkifaaDoorCards.lean) ties it to the program's text. -/
def laid_redraft_utext_bars {H : Type} : DataW H := .agg [.agg [.lit (.int .i32 0), .lit (.int .i32 8)], .agg [.lit (.int .i32 11), .lit (.int .i32 31)], .agg [.lit (.int .i32 127), .lit (.int .i32 159)], .agg [.lit (.int .i32 64976), .lit (.int .i32 65007)], .agg [.lit (.int .i32 65279), .lit (.int .i32 65279)]]
def laid_redraft_redraftlaw05_texts {H : Type} : DataW H := .agg [.lit (.string [97]), .lit (.string [97, 195, 169]), .lit (.string [226, 130, 172, 97, 195, 169]), .lit (.string [122, 195, 169, 240, 159, 152, 128, 97]), .lit (.string [97, 98, 99, 100, 101])]

/-- 'redraftlaw05.XformCaretStays': WHATEVER THE INPUT: true; the input reads as it did. -/
def xformCaretStaysSpec : ChangeSpec := { name := "xformCaretStays", fn := fun _ => fun
  | [d] => { results := [.lit (.bool true)], args := [d] }
  | _ => none }
def xformCaretStaysRow : OpenClaim := { program := "ytloccjkcmlkifaadoor", sum := "7a504d36f81679887fe0ceaf0dc5f0145a78e45cdeb63409fc19083fdfdbeab6", func := "redraft/redraftlaw05.XformCaretStays", spec := "xformCaretStays", named := ["redraft/redraftlaw05.texts", "redraft/utext.bars"], apart := false, laid := [("redraft/utext.bars", laid_redraft_utext_bars), ("redraft/redraftlaw05.texts", laid_redraft_redraftlaw05_texts)] }
def XformCaretStaysSaid : Prop := xformCaretStaysRow.holds Tryd.pinned (OpenSpec.ofChange xformCaretStaysSpec)

/-- ITS FALSE NEIGHBOUR: 'it returns false'. Refute it at one input. -/
def xformCaretStaysWrong : ChangeSpec := { name := "xformCaretStays", fn := fun _ => fun
  | [d] => { results := [.lit (.bool false)], args := [d] }
  | _ => none }
def XformCaretStaysWrongFalsely : Prop := xformCaretStaysRow.holds Tryd.pinned (OpenSpec.ofChange xformCaretStaysWrong)

/-- 'redraftlaw05.XformEarlierLeft': WHATEVER THE INPUT: true; the input reads as it did. -/
def xformEarlierLeftSpec : ChangeSpec := { name := "xformEarlierLeft", fn := fun _ => fun
  | [d] => { results := [.lit (.bool true)], args := [d] }
  | _ => none }
def xformEarlierLeftRow : OpenClaim := { program := "ytloccjkcmlkifaadoor", sum := "7a504d36f81679887fe0ceaf0dc5f0145a78e45cdeb63409fc19083fdfdbeab6", func := "redraft/redraftlaw05.XformEarlierLeft", spec := "xformEarlierLeft", named := ["redraft/redraftlaw05.texts", "redraft/utext.bars"], apart := false, laid := [("redraft/utext.bars", laid_redraft_utext_bars), ("redraft/redraftlaw05.texts", laid_redraft_redraftlaw05_texts)] }
def XformEarlierLeftSaid : Prop := xformEarlierLeftRow.holds Tryd.pinned (OpenSpec.ofChange xformEarlierLeftSpec)

/-- ITS FALSE NEIGHBOUR: 'it returns false'. Refute it at one input. -/
def xformEarlierLeftWrong : ChangeSpec := { name := "xformEarlierLeft", fn := fun _ => fun
  | [d] => { results := [.lit (.bool false)], args := [d] }
  | _ => none }
def XformEarlierLeftWrongFalsely : Prop := xformEarlierLeftRow.holds Tryd.pinned (OpenSpec.ofChange xformEarlierLeftWrong)

/-- 'redraftlaw05.XformMeets': WHATEVER THE INPUT: true; the input reads as it did. -/
def xformMeetsSpec : ChangeSpec := { name := "xformMeets", fn := fun _ => fun
  | [d] => { results := [.lit (.bool true)], args := [d] }
  | _ => none }
def xformMeetsRow : OpenClaim := { program := "ytloccjkcmlkifaadoor", sum := "7a504d36f81679887fe0ceaf0dc5f0145a78e45cdeb63409fc19083fdfdbeab6", func := "redraft/redraftlaw05.XformMeets", spec := "xformMeets", named := ["redraft/redraftlaw05.texts", "redraft/utext.bars"], apart := false, laid := [("redraft/utext.bars", laid_redraft_utext_bars), ("redraft/redraftlaw05.texts", laid_redraft_redraftlaw05_texts)] }
def XformMeetsSaid : Prop := xformMeetsRow.holds Tryd.pinned (OpenSpec.ofChange xformMeetsSpec)

/-- ITS FALSE NEIGHBOUR: 'it returns false'. Refute it at one input. -/
def xformMeetsWrong : ChangeSpec := { name := "xformMeets", fn := fun _ => fun
  | [d] => { results := [.lit (.bool false)], args := [d] }
  | _ => none }
def XformMeetsWrongFalsely : Prop := xformMeetsRow.holds Tryd.pinned (OpenSpec.ofChange xformMeetsWrong)

/-- 'redraftlaw05.XformRunsMeet': WHATEVER THE INPUT: true; the input reads as it did. -/
def xformRunsMeetSpec : ChangeSpec := { name := "xformRunsMeet", fn := fun _ => fun
  | [d] => { results := [.lit (.bool true)], args := [d] }
  | _ => none }
def xformRunsMeetRow : OpenClaim := { program := "ytloccjkcmlkifaadoor", sum := "7a504d36f81679887fe0ceaf0dc5f0145a78e45cdeb63409fc19083fdfdbeab6", func := "redraft/redraftlaw05.XformRunsMeet", spec := "xformRunsMeet", named := ["redraft/redraftlaw05.texts", "redraft/utext.bars"], apart := false, laid := [("redraft/utext.bars", laid_redraft_utext_bars), ("redraft/redraftlaw05.texts", laid_redraft_redraftlaw05_texts)] }
def XformRunsMeetSaid : Prop := xformRunsMeetRow.holds Tryd.pinned (OpenSpec.ofChange xformRunsMeetSpec)

/-- ITS FALSE NEIGHBOUR: 'it returns false'. Refute it at one input. -/
def xformRunsMeetWrong : ChangeSpec := { name := "xformRunsMeet", fn := fun _ => fun
  | [d] => { results := [.lit (.bool false)], args := [d] }
  | _ => none }
def XformRunsMeetWrongFalsely : Prop := xformRunsMeetRow.holds Tryd.pinned (OpenSpec.ofChange xformRunsMeetWrong)

/-- 'redraftlaw05.XformBringsThere': WHATEVER THE INPUT: true; the input reads as it did. -/
def xformBringsThereSpec : ChangeSpec := { name := "xformBringsThere", fn := fun _ => fun
  | [d] => { results := [.lit (.bool true)], args := [d] }
  | _ => none }
def xformBringsThereRow : OpenClaim := { program := "ytloccjkcmlkifaadoor", sum := "7a504d36f81679887fe0ceaf0dc5f0145a78e45cdeb63409fc19083fdfdbeab6", func := "redraft/redraftlaw05.XformBringsThere", spec := "xformBringsThere", named := ["redraft/redraftlaw05.texts", "redraft/utext.bars"], apart := false, laid := [("redraft/utext.bars", laid_redraft_utext_bars), ("redraft/redraftlaw05.texts", laid_redraft_redraftlaw05_texts)] }
def XformBringsThereSaid : Prop := xformBringsThereRow.holds Tryd.pinned (OpenSpec.ofChange xformBringsThereSpec)

/-- ITS FALSE NEIGHBOUR: 'it returns false'. Refute it at one input. -/
def xformBringsThereWrong : ChangeSpec := { name := "xformBringsThere", fn := fun _ => fun
  | [d] => { results := [.lit (.bool false)], args := [d] }
  | _ => none }
def XformBringsThereWrongFalsely : Prop := xformBringsThereRow.holds Tryd.pinned (OpenSpec.ofChange xformBringsThereWrong)

/-- 'redraftlaw05.XformOverIsCross': WHATEVER THE INPUT: true; the input reads as it did. -/
def xformOverIsCrossSpec : ChangeSpec := { name := "xformOverIsCross", fn := fun _ => fun
  | [d] => { results := [.lit (.bool true)], args := [d] }
  | _ => none }
def xformOverIsCrossRow : OpenClaim := { program := "ytloccjkcmlkifaadoor", sum := "7a504d36f81679887fe0ceaf0dc5f0145a78e45cdeb63409fc19083fdfdbeab6", func := "redraft/redraftlaw05.XformOverIsCross", spec := "xformOverIsCross", named := ["redraft/redraftlaw05.texts", "redraft/utext.bars"], apart := false, laid := [("redraft/utext.bars", laid_redraft_utext_bars), ("redraft/redraftlaw05.texts", laid_redraft_redraftlaw05_texts)] }
def XformOverIsCrossSaid : Prop := xformOverIsCrossRow.holds Tryd.pinned (OpenSpec.ofChange xformOverIsCrossSpec)

/-- ITS FALSE NEIGHBOUR: 'it returns false'. Refute it at one input. -/
def xformOverIsCrossWrong : ChangeSpec := { name := "xformOverIsCross", fn := fun _ => fun
  | [d] => { results := [.lit (.bool false)], args := [d] }
  | _ => none }
def XformOverIsCrossWrongFalsely : Prop := xformOverIsCrossRow.holds Tryd.pinned (OpenSpec.ofChange xformOverIsCrossWrong)

/-- 'redraftlaw05.XformNewMemory': WHATEVER THE INPUT: true; the input reads as it did. -/
def xformNewMemorySpec : ChangeSpec := { name := "xformNewMemory", fn := fun _ => fun
  | [d] => { results := [.lit (.bool true)], args := [d] }
  | _ => none }
def xformNewMemoryRow : OpenClaim := { program := "ytloccjkcmlkifaadoor", sum := "7a504d36f81679887fe0ceaf0dc5f0145a78e45cdeb63409fc19083fdfdbeab6", func := "redraft/redraftlaw05.XformNewMemory", spec := "xformNewMemory", named := ["redraft/redraftlaw05.texts", "redraft/utext.bars"], apart := false, laid := [("redraft/utext.bars", laid_redraft_utext_bars), ("redraft/redraftlaw05.texts", laid_redraft_redraftlaw05_texts)] }
def XformNewMemorySaid : Prop := xformNewMemoryRow.holds Tryd.pinned (OpenSpec.ofChange xformNewMemorySpec)

/-- ITS FALSE NEIGHBOUR: 'it returns false'. Refute it at one input. -/
def xformNewMemoryWrong : ChangeSpec := { name := "xformNewMemory", fn := fun _ => fun
  | [d] => { results := [.lit (.bool false)], args := [d] }
  | _ => none }
def XformNewMemoryWrongFalsely : Prop := xformNewMemoryRow.holds Tryd.pinned (OpenSpec.ofChange xformNewMemoryWrong)

/-- 'redraftlaw05.XformIncludes': WHATEVER THE INPUT: true; the input reads as it did. -/
def xformIncludesSpec : ChangeSpec := { name := "xformIncludes", fn := fun _ => fun
  | [d] => { results := [.lit (.bool true)], args := [d] }
  | _ => none }
def xformIncludesRow : OpenClaim := { program := "ytloccjkcmlkifaadoor", sum := "7a504d36f81679887fe0ceaf0dc5f0145a78e45cdeb63409fc19083fdfdbeab6", func := "redraft/redraftlaw05.XformIncludes", spec := "xformIncludes", recurses := true, named := ["redraft/utext.bars"], apart := false, laid := [("redraft/utext.bars", laid_redraft_utext_bars)] }
def XformIncludesSaid : Prop := xformIncludesRow.holds Tryd.pinned (OpenSpec.ofChange xformIncludesSpec)

/-- ITS FALSE NEIGHBOUR: 'it returns false'. Refute it at one input. -/
def xformIncludesWrong : ChangeSpec := { name := "xformIncludes", fn := fun _ => fun
  | [d] => { results := [.lit (.bool false)], args := [d] }
  | _ => none }
def XformIncludesWrongFalsely : Prop := xformIncludesRow.holds Tryd.pinned (OpenSpec.ofChange xformIncludesWrong)

/-- 'redraftlaw05.XformExcludes': WHATEVER THE INPUT: true; the input reads as it did. -/
def xformExcludesSpec : ChangeSpec := { name := "xformExcludes", fn := fun _ => fun
  | [d] => { results := [.lit (.bool true)], args := [d] }
  | _ => none }
def xformExcludesRow : OpenClaim := { program := "ytloccjkcmlkifaadoor", sum := "7a504d36f81679887fe0ceaf0dc5f0145a78e45cdeb63409fc19083fdfdbeab6", func := "redraft/redraftlaw05.XformExcludes", spec := "xformExcludes", recurses := true, named := ["redraft/utext.bars"], apart := false, laid := [("redraft/utext.bars", laid_redraft_utext_bars)] }
def XformExcludesSaid : Prop := xformExcludesRow.holds Tryd.pinned (OpenSpec.ofChange xformExcludesSpec)

/-- ITS FALSE NEIGHBOUR: 'it returns false'. Refute it at one input. -/
def xformExcludesWrong : ChangeSpec := { name := "xformExcludes", fn := fun _ => fun
  | [d] => { results := [.lit (.bool false)], args := [d] }
  | _ => none }
def XformExcludesWrongFalsely : Prop := xformExcludesRow.holds Tryd.pinned (OpenSpec.ofChange xformExcludesWrong)

/-- 'redraftlaw05.XformTransposes': WHATEVER THE INPUT: true; the input reads as it did. -/
def xformTransposesSpec : ChangeSpec := { name := "xformTransposes", fn := fun _ => fun
  | [d] => { results := [.lit (.bool true)], args := [d] }
  | _ => none }
def xformTransposesRow : OpenClaim := { program := "ytloccjkcmlkifaadoor", sum := "7a504d36f81679887fe0ceaf0dc5f0145a78e45cdeb63409fc19083fdfdbeab6", func := "redraft/redraftlaw05.XformTransposes", spec := "xformTransposes", recurses := true, named := ["redraft/utext.bars"], apart := false, laid := [("redraft/utext.bars", laid_redraft_utext_bars)] }
def XformTransposesSaid : Prop := xformTransposesRow.holds Tryd.pinned (OpenSpec.ofChange xformTransposesSpec)

/-- ITS FALSE NEIGHBOUR: 'it returns false'. Refute it at one input. -/
def xformTransposesWrong : ChangeSpec := { name := "xformTransposes", fn := fun _ => fun
  | [d] => { results := [.lit (.bool false)], args := [d] }
  | _ => none }
def XformTransposesWrongFalsely : Prop := xformTransposesRow.holds Tryd.pinned (OpenSpec.ofChange xformTransposesWrong)

/-- 'redraftlaw05.XformOvers': WHATEVER THE INPUT: true; the input reads as it did. -/
def xformOversSpec : ChangeSpec := { name := "xformOvers", fn := fun _ => fun
  | [d] => { results := [.lit (.bool true)], args := [d] }
  | _ => none }
def xformOversRow : OpenClaim := { program := "ytloccjkcmlkifaadoor", sum := "7a504d36f81679887fe0ceaf0dc5f0145a78e45cdeb63409fc19083fdfdbeab6", func := "redraft/redraftlaw05.XformOvers", spec := "xformOvers", recurses := true, named := ["redraft/utext.bars"], apart := false, laid := [("redraft/utext.bars", laid_redraft_utext_bars)] }
def XformOversSaid : Prop := xformOversRow.holds Tryd.pinned (OpenSpec.ofChange xformOversSpec)

/-- ITS FALSE NEIGHBOUR: 'it returns false'. Refute it at one input. -/
def xformOversWrong : ChangeSpec := { name := "xformOvers", fn := fun _ => fun
  | [d] => { results := [.lit (.bool false)], args := [d] }
  | _ => none }
def XformOversWrongFalsely : Prop := xformOversRow.holds Tryd.pinned (OpenSpec.ofChange xformOversWrong)

/-- 'redraftlaw05.XformCrosses': WHATEVER THE INPUT: true; the input reads as it did. -/
def xformCrossesSpec : ChangeSpec := { name := "xformCrosses", fn := fun _ => fun
  | [d] => { results := [.lit (.bool true)], args := [d] }
  | _ => none }
def xformCrossesRow : OpenClaim := { program := "ytloccjkcmlkifaadoor", sum := "7a504d36f81679887fe0ceaf0dc5f0145a78e45cdeb63409fc19083fdfdbeab6", func := "redraft/redraftlaw05.XformCrosses", spec := "xformCrosses", recurses := true, named := ["redraft/utext.bars"], apart := false, laid := [("redraft/utext.bars", laid_redraft_utext_bars)] }
def XformCrossesSaid : Prop := xformCrossesRow.holds Tryd.pinned (OpenSpec.ofChange xformCrossesSpec)

/-- ITS FALSE NEIGHBOUR: 'it returns false'. Refute it at one input. -/
def xformCrossesWrong : ChangeSpec := { name := "xformCrosses", fn := fun _ => fun
  | [d] => { results := [.lit (.bool false)], args := [d] }
  | _ => none }
def XformCrossesWrongFalsely : Prop := xformCrossesRow.holds Tryd.pinned (OpenSpec.ofChange xformCrossesWrong)

/-- 'redraftlaw05.XformBrings': WHATEVER THE INPUT: true; the input reads as it did. -/
def xformBringsSpec : ChangeSpec := { name := "xformBrings", fn := fun _ => fun
  | [d] => { results := [.lit (.bool true)], args := [d] }
  | _ => none }
def xformBringsRow : OpenClaim := { program := "ytloccjkcmlkifaadoor", sum := "7a504d36f81679887fe0ceaf0dc5f0145a78e45cdeb63409fc19083fdfdbeab6", func := "redraft/redraftlaw05.XformBrings", spec := "xformBrings", recurses := true, named := ["redraft/utext.bars"], apart := false, laid := [("redraft/utext.bars", laid_redraft_utext_bars)] }
def XformBringsSaid : Prop := xformBringsRow.holds Tryd.pinned (OpenSpec.ofChange xformBringsSpec)

/-- ITS FALSE NEIGHBOUR: 'it returns false'. Refute it at one input. -/
def xformBringsWrong : ChangeSpec := { name := "xformBrings", fn := fun _ => fun
  | [d] => { results := [.lit (.bool false)], args := [d] }
  | _ => none }
def XformBringsWrongFalsely : Prop := xformBringsRow.holds Tryd.pinned (OpenSpec.ofChange xformBringsWrong)

/-- 'redraftlaw05.XformCarets': WHATEVER THE INPUT: true; the input reads as it did. -/
def xformCaretsSpec : ChangeSpec := { name := "xformCarets", fn := fun _ => fun
  | [d] => { results := [.lit (.bool true)], args := [d] }
  | _ => none }
def xformCaretsRow : OpenClaim := { program := "ytloccjkcmlkifaadoor", sum := "7a504d36f81679887fe0ceaf0dc5f0145a78e45cdeb63409fc19083fdfdbeab6", func := "redraft/redraftlaw05.XformCarets", spec := "xformCarets", recurses := true, named := ["redraft/utext.bars"], apart := false, laid := [("redraft/utext.bars", laid_redraft_utext_bars)] }
def XformCaretsSaid : Prop := xformCaretsRow.holds Tryd.pinned (OpenSpec.ofChange xformCaretsSpec)

/-- ITS FALSE NEIGHBOUR: 'it returns false'. Refute it at one input. -/
def xformCaretsWrong : ChangeSpec := { name := "xformCarets", fn := fun _ => fun
  | [d] => { results := [.lit (.bool false)], args := [d] }
  | _ => none }
def XformCaretsWrongFalsely : Prop := xformCaretsRow.holds Tryd.pinned (OpenSpec.ofChange xformCaretsWrong)

/-- 'redraftlaw05.XformAll': WHATEVER THE INPUT: true; the input reads as it did. -/
def xformAllSpec : ChangeSpec := { name := "xformAll", fn := fun _ => fun
  | [d] => { results := [.lit (.bool true)], args := [d] }
  | _ => none }
def xformAllRow : OpenClaim := { program := "ytloccjkcmlkifaadoor", sum := "7a504d36f81679887fe0ceaf0dc5f0145a78e45cdeb63409fc19083fdfdbeab6", func := "redraft/redraftlaw05.XformAll", spec := "xformAll", recurses := true, named := ["redraft/utext.bars"], apart := false, laid := [("redraft/utext.bars", laid_redraft_utext_bars)] }
def XformAllSaid : Prop := xformAllRow.holds Tryd.pinned (OpenSpec.ofChange xformAllSpec)

/-- ITS FALSE NEIGHBOUR: 'it returns false'. Refute it at one input. -/
def xformAllWrong : ChangeSpec := { name := "xformAll", fn := fun _ => fun
  | [d] => { results := [.lit (.bool false)], args := [d] }
  | _ => none }
def XformAllWrongFalsely : Prop := xformAllRow.holds Tryd.pinned (OpenSpec.ofChange xformAllWrong)

/- THE SECOND FORM. 'bulk': how many values and letters a reading holds, each counted each time it is reached (what is shared counts as often as it is met; a slice's spare places count too). A statement '..UptoSaid' is the law's where the arguments, and the package variables that the reading takes, are together of bulk at most 1048576: NARROWER than '..Said'. Prove '..Said' where nothing that the law and all that it calls make is longer than what came in: it says more and counts as full. Else prove '..UptoSaid'. A law counts once. -/
mutual
def uptoBulk {H : Type} : DataW H → Nat
  | .lit (.string bytes) => bytes.length + 1
  | .lit _ => 1
  | .nil => 1
  | .ptr d => uptoBulk d + 1
  | .slice elems spare => uptoBulkAll elems + uptoBulkAll spare + 1
  | .agg parts => uptoBulkAll parts + 1
  | .iface _ d => uptoBulk d + 1
  | .map entries => uptoBulkEntries entries + 1
  | .held _ => 1
def uptoBulkAll {H : Type} : List (DataW H) → Nat
  | [] => 0
  | d :: r => uptoBulk d + uptoBulkAll r
def uptoBulkEntries {H : Type} : List (Lit × DataW H) → Nat
  | [] => 0
  | x :: r => uptoBulkEntry x + uptoBulkEntries r
def uptoBulkEntry {H : Type} : Lit × DataW H → Nat
  | (.string bytes, d) => bytes.length + uptoBulk d + 1
  | (_, d) => uptoBulk d + 1
 end
def uptoSmall : (H : Type) → List (DataW H) → Bool := fun _ ds => decide (uptoBulkAll ds ≤ 1048576)
def OpenSpec.upto (s : _root_.Go.ChangeSpec) : _root_.Go.OpenSpec := { _root_.Go.OpenSpec.ofChange s with cond := some uptoSmall }

/-- 'redraftlaw05.XformCaretStays', WHERE WHAT IT READS IS OF BULK AT MOST 1048576: true; the input reads as it did. -/
def xformCaretStaysUptoRow : OpenClaim := { program := "ytloccjkcmlkifaadoor", sum := "7a504d36f81679887fe0ceaf0dc5f0145a78e45cdeb63409fc19083fdfdbeab6", func := "redraft/redraftlaw05.XformCaretStays", spec := "xformCaretStays", named := ["redraft/redraftlaw05.texts", "redraft/utext.bars"], apart := false, laid := [("redraft/utext.bars", laid_redraft_utext_bars), ("redraft/redraftlaw05.texts", laid_redraft_redraftlaw05_texts)], narrowed := true }
def XformCaretStaysUptoSaid : Prop := xformCaretStaysUptoRow.holds Tryd.pinned (OpenSpec.upto xformCaretStaysSpec)

/-- 'redraftlaw05.XformEarlierLeft', WHERE WHAT IT READS IS OF BULK AT MOST 1048576: true; the input reads as it did. -/
def xformEarlierLeftUptoRow : OpenClaim := { program := "ytloccjkcmlkifaadoor", sum := "7a504d36f81679887fe0ceaf0dc5f0145a78e45cdeb63409fc19083fdfdbeab6", func := "redraft/redraftlaw05.XformEarlierLeft", spec := "xformEarlierLeft", named := ["redraft/redraftlaw05.texts", "redraft/utext.bars"], apart := false, laid := [("redraft/utext.bars", laid_redraft_utext_bars), ("redraft/redraftlaw05.texts", laid_redraft_redraftlaw05_texts)], narrowed := true }
def XformEarlierLeftUptoSaid : Prop := xformEarlierLeftUptoRow.holds Tryd.pinned (OpenSpec.upto xformEarlierLeftSpec)

/-- 'redraftlaw05.XformMeets', WHERE WHAT IT READS IS OF BULK AT MOST 1048576: true; the input reads as it did. -/
def xformMeetsUptoRow : OpenClaim := { program := "ytloccjkcmlkifaadoor", sum := "7a504d36f81679887fe0ceaf0dc5f0145a78e45cdeb63409fc19083fdfdbeab6", func := "redraft/redraftlaw05.XformMeets", spec := "xformMeets", named := ["redraft/redraftlaw05.texts", "redraft/utext.bars"], apart := false, laid := [("redraft/utext.bars", laid_redraft_utext_bars), ("redraft/redraftlaw05.texts", laid_redraft_redraftlaw05_texts)], narrowed := true }
def XformMeetsUptoSaid : Prop := xformMeetsUptoRow.holds Tryd.pinned (OpenSpec.upto xformMeetsSpec)

/-- 'redraftlaw05.XformRunsMeet', WHERE WHAT IT READS IS OF BULK AT MOST 1048576: true; the input reads as it did. -/
def xformRunsMeetUptoRow : OpenClaim := { program := "ytloccjkcmlkifaadoor", sum := "7a504d36f81679887fe0ceaf0dc5f0145a78e45cdeb63409fc19083fdfdbeab6", func := "redraft/redraftlaw05.XformRunsMeet", spec := "xformRunsMeet", named := ["redraft/redraftlaw05.texts", "redraft/utext.bars"], apart := false, laid := [("redraft/utext.bars", laid_redraft_utext_bars), ("redraft/redraftlaw05.texts", laid_redraft_redraftlaw05_texts)], narrowed := true }
def XformRunsMeetUptoSaid : Prop := xformRunsMeetUptoRow.holds Tryd.pinned (OpenSpec.upto xformRunsMeetSpec)

/-- 'redraftlaw05.XformBringsThere', WHERE WHAT IT READS IS OF BULK AT MOST 1048576: true; the input reads as it did. -/
def xformBringsThereUptoRow : OpenClaim := { program := "ytloccjkcmlkifaadoor", sum := "7a504d36f81679887fe0ceaf0dc5f0145a78e45cdeb63409fc19083fdfdbeab6", func := "redraft/redraftlaw05.XformBringsThere", spec := "xformBringsThere", named := ["redraft/redraftlaw05.texts", "redraft/utext.bars"], apart := false, laid := [("redraft/utext.bars", laid_redraft_utext_bars), ("redraft/redraftlaw05.texts", laid_redraft_redraftlaw05_texts)], narrowed := true }
def XformBringsThereUptoSaid : Prop := xformBringsThereUptoRow.holds Tryd.pinned (OpenSpec.upto xformBringsThereSpec)

/-- 'redraftlaw05.XformOverIsCross', WHERE WHAT IT READS IS OF BULK AT MOST 1048576: true; the input reads as it did. -/
def xformOverIsCrossUptoRow : OpenClaim := { program := "ytloccjkcmlkifaadoor", sum := "7a504d36f81679887fe0ceaf0dc5f0145a78e45cdeb63409fc19083fdfdbeab6", func := "redraft/redraftlaw05.XformOverIsCross", spec := "xformOverIsCross", named := ["redraft/redraftlaw05.texts", "redraft/utext.bars"], apart := false, laid := [("redraft/utext.bars", laid_redraft_utext_bars), ("redraft/redraftlaw05.texts", laid_redraft_redraftlaw05_texts)], narrowed := true }
def XformOverIsCrossUptoSaid : Prop := xformOverIsCrossUptoRow.holds Tryd.pinned (OpenSpec.upto xformOverIsCrossSpec)

/-- 'redraftlaw05.XformNewMemory', WHERE WHAT IT READS IS OF BULK AT MOST 1048576: true; the input reads as it did. -/
def xformNewMemoryUptoRow : OpenClaim := { program := "ytloccjkcmlkifaadoor", sum := "7a504d36f81679887fe0ceaf0dc5f0145a78e45cdeb63409fc19083fdfdbeab6", func := "redraft/redraftlaw05.XformNewMemory", spec := "xformNewMemory", named := ["redraft/redraftlaw05.texts", "redraft/utext.bars"], apart := false, laid := [("redraft/utext.bars", laid_redraft_utext_bars), ("redraft/redraftlaw05.texts", laid_redraft_redraftlaw05_texts)], narrowed := true }
def XformNewMemoryUptoSaid : Prop := xformNewMemoryUptoRow.holds Tryd.pinned (OpenSpec.upto xformNewMemorySpec)

/-- 'redraftlaw05.XformIncludes', WHERE WHAT IT READS IS OF BULK AT MOST 1048576: true; the input reads as it did. -/
def xformIncludesUptoRow : OpenClaim := { program := "ytloccjkcmlkifaadoor", sum := "7a504d36f81679887fe0ceaf0dc5f0145a78e45cdeb63409fc19083fdfdbeab6", func := "redraft/redraftlaw05.XformIncludes", spec := "xformIncludes", recurses := true, named := ["redraft/utext.bars"], apart := false, laid := [("redraft/utext.bars", laid_redraft_utext_bars)], narrowed := true }
def XformIncludesUptoSaid : Prop := xformIncludesUptoRow.holds Tryd.pinned (OpenSpec.upto xformIncludesSpec)

/-- 'redraftlaw05.XformExcludes', WHERE WHAT IT READS IS OF BULK AT MOST 1048576: true; the input reads as it did. -/
def xformExcludesUptoRow : OpenClaim := { program := "ytloccjkcmlkifaadoor", sum := "7a504d36f81679887fe0ceaf0dc5f0145a78e45cdeb63409fc19083fdfdbeab6", func := "redraft/redraftlaw05.XformExcludes", spec := "xformExcludes", recurses := true, named := ["redraft/utext.bars"], apart := false, laid := [("redraft/utext.bars", laid_redraft_utext_bars)], narrowed := true }
def XformExcludesUptoSaid : Prop := xformExcludesUptoRow.holds Tryd.pinned (OpenSpec.upto xformExcludesSpec)

/-- 'redraftlaw05.XformTransposes', WHERE WHAT IT READS IS OF BULK AT MOST 1048576: true; the input reads as it did. -/
def xformTransposesUptoRow : OpenClaim := { program := "ytloccjkcmlkifaadoor", sum := "7a504d36f81679887fe0ceaf0dc5f0145a78e45cdeb63409fc19083fdfdbeab6", func := "redraft/redraftlaw05.XformTransposes", spec := "xformTransposes", recurses := true, named := ["redraft/utext.bars"], apart := false, laid := [("redraft/utext.bars", laid_redraft_utext_bars)], narrowed := true }
def XformTransposesUptoSaid : Prop := xformTransposesUptoRow.holds Tryd.pinned (OpenSpec.upto xformTransposesSpec)

/-- 'redraftlaw05.XformOvers', WHERE WHAT IT READS IS OF BULK AT MOST 1048576: true; the input reads as it did. -/
def xformOversUptoRow : OpenClaim := { program := "ytloccjkcmlkifaadoor", sum := "7a504d36f81679887fe0ceaf0dc5f0145a78e45cdeb63409fc19083fdfdbeab6", func := "redraft/redraftlaw05.XformOvers", spec := "xformOvers", recurses := true, named := ["redraft/utext.bars"], apart := false, laid := [("redraft/utext.bars", laid_redraft_utext_bars)], narrowed := true }
def XformOversUptoSaid : Prop := xformOversUptoRow.holds Tryd.pinned (OpenSpec.upto xformOversSpec)

/-- 'redraftlaw05.XformCrosses', WHERE WHAT IT READS IS OF BULK AT MOST 1048576: true; the input reads as it did. -/
def xformCrossesUptoRow : OpenClaim := { program := "ytloccjkcmlkifaadoor", sum := "7a504d36f81679887fe0ceaf0dc5f0145a78e45cdeb63409fc19083fdfdbeab6", func := "redraft/redraftlaw05.XformCrosses", spec := "xformCrosses", recurses := true, named := ["redraft/utext.bars"], apart := false, laid := [("redraft/utext.bars", laid_redraft_utext_bars)], narrowed := true }
def XformCrossesUptoSaid : Prop := xformCrossesUptoRow.holds Tryd.pinned (OpenSpec.upto xformCrossesSpec)

/-- 'redraftlaw05.XformBrings', WHERE WHAT IT READS IS OF BULK AT MOST 1048576: true; the input reads as it did. -/
def xformBringsUptoRow : OpenClaim := { program := "ytloccjkcmlkifaadoor", sum := "7a504d36f81679887fe0ceaf0dc5f0145a78e45cdeb63409fc19083fdfdbeab6", func := "redraft/redraftlaw05.XformBrings", spec := "xformBrings", recurses := true, named := ["redraft/utext.bars"], apart := false, laid := [("redraft/utext.bars", laid_redraft_utext_bars)], narrowed := true }
def XformBringsUptoSaid : Prop := xformBringsUptoRow.holds Tryd.pinned (OpenSpec.upto xformBringsSpec)

/-- 'redraftlaw05.XformCarets', WHERE WHAT IT READS IS OF BULK AT MOST 1048576: true; the input reads as it did. -/
def xformCaretsUptoRow : OpenClaim := { program := "ytloccjkcmlkifaadoor", sum := "7a504d36f81679887fe0ceaf0dc5f0145a78e45cdeb63409fc19083fdfdbeab6", func := "redraft/redraftlaw05.XformCarets", spec := "xformCarets", recurses := true, named := ["redraft/utext.bars"], apart := false, laid := [("redraft/utext.bars", laid_redraft_utext_bars)], narrowed := true }
def XformCaretsUptoSaid : Prop := xformCaretsUptoRow.holds Tryd.pinned (OpenSpec.upto xformCaretsSpec)

/-- 'redraftlaw05.XformAll', WHERE WHAT IT READS IS OF BULK AT MOST 1048576: true; the input reads as it did. -/
def xformAllUptoRow : OpenClaim := { program := "ytloccjkcmlkifaadoor", sum := "7a504d36f81679887fe0ceaf0dc5f0145a78e45cdeb63409fc19083fdfdbeab6", func := "redraft/redraftlaw05.XformAll", spec := "xformAll", recurses := true, named := ["redraft/utext.bars"], apart := false, laid := [("redraft/utext.bars", laid_redraft_utext_bars)], narrowed := true }
def XformAllUptoSaid : Prop := xformAllUptoRow.holds Tryd.pinned (OpenSpec.upto xformAllSpec)

end Rows
end Go.Proofs.YtloccjkcmlkifaaDoor
