/-
  DERIVED. GIVEN WITH THE SEED: THE CARDS: each row of YtooagpjfcnpheaaDoorRows.lean that lists a variable, with what it lists TIED to the program's text (the seventh form; the later family's looks); each row that meets fmt, with fmt's text TOLD by the authors' own Lean function (tested against real Go, not proved from fmt's source: count such statements apart). THE CARD IS WHAT COUNTS. Prove the row's statement (the work); the ties are given (YtooagpjfcnpheaaDoorTie.lean); close each card by the builder's one call (the guide's Derived/Test/ToyasCard.lean, 'card_holds'). Laid BY PROGRAM, IN A SANDBOX (cutbox-door.mjs). By AI agents, Wed Nov 11 2026. No macro, syntax, notation, axiom, sorry.
-/
import Derived.Test.YtooagpjfcnpheaaDoorRows
import GoSem.ClaimSeven
namespace Go.Proofs.YtooagpjfcnpheaaDoor
namespace Rows

/-- THE TIED CARD OF 'redraftlaw09.FrameSums'. -/
def frameSumsCard : Claim7 := { stood := { row := frameSumsRow, standIns := [], harness := (true, "02aaed5fbb3f8a308214a5c7ed829a0fe375c1c95c52997ae0855d494b4cf7b9"), looks := false }, kinds := [], alts := [], laidByText := true, laidKinds := [.data], laidTests := true, laidLooks := .later }
def FrameSumsCardSaid : Prop := Claim7.holds Tryd.pinned (.plain (OpenSpec.ofChange frameSumsSpec)) frameSumsCard

/-- THE TIED CARD OF 'redraftlaw09.FrameScans'. -/
def frameScansCard : Claim7 := { stood := { row := frameScansRow, standIns := [], harness := (true, "02aaed5fbb3f8a308214a5c7ed829a0fe375c1c95c52997ae0855d494b4cf7b9"), looks := false }, kinds := [], alts := [], laidByText := true, laidKinds := [.data], laidTests := true, laidLooks := .later }
def FrameScansCardSaid : Prop := Claim7.holds Tryd.pinned (.plain (OpenSpec.ofChange frameScansSpec)) frameScansCard

/-- THE TIED CARD OF 'redraftlaw09.FrameGivesBack'. -/
def frameGivesBackCard : Claim7 := { stood := { row := frameGivesBackRow, standIns := [], harness := (true, "02aaed5fbb3f8a308214a5c7ed829a0fe375c1c95c52997ae0855d494b4cf7b9"), looks := false }, kinds := [], alts := [], laidByText := true, laidKinds := [.data], laidTests := true, laidLooks := .later }
def FrameGivesBackCardSaid : Prop := Claim7.holds Tryd.pinned (.plain (OpenSpec.ofChange frameGivesBackSpec)) frameGivesBackCard

/-- THE TIED CARD OF 'redraftlaw09.FrameOneForm'. -/
def frameOneFormCard : Claim7 := { stood := { row := frameOneFormRow, standIns := [], harness := (true, "02aaed5fbb3f8a308214a5c7ed829a0fe375c1c95c52997ae0855d494b4cf7b9"), looks := false }, kinds := [], alts := [], laidByText := true, laidKinds := [.data], laidTests := true, laidLooks := .later }
def FrameOneFormCardSaid : Prop := Claim7.holds Tryd.pinned (.plain (OpenSpec.ofChange frameOneFormSpec)) frameOneFormCard

/-- THE TIED CARD OF 'redraftlaw09.FrameBursts'. -/
def frameBurstsCard : Claim7 := { stood := { row := frameBurstsRow, standIns := [], harness := (true, "02aaed5fbb3f8a308214a5c7ed829a0fe375c1c95c52997ae0855d494b4cf7b9"), looks := false }, kinds := [], alts := [], laidByText := true, laidKinds := [.data], laidTests := true, laidLooks := .later }
def FrameBurstsCardSaid : Prop := Claim7.holds Tryd.pinned (.plain (OpenSpec.ofChange frameBurstsSpec)) frameBurstsCard

/-- THE TIED CARD OF 'redraftlaw09.FrameFound'. -/
def frameFoundCard : Claim7 := { stood := { row := frameFoundRow, standIns := [], harness := (true, "02aaed5fbb3f8a308214a5c7ed829a0fe375c1c95c52997ae0855d494b4cf7b9"), looks := false }, kinds := [], alts := [], laidByText := true, laidKinds := [.data], laidTests := true, laidLooks := .later }
def FrameFoundCardSaid : Prop := Claim7.holds Tryd.pinned (.plain (OpenSpec.ofChange frameFoundSpec)) frameFoundCard

/-- THE TIED CARD OF 'redraftlaw09.FrameGreat'. -/
def frameGreatCard : Claim7 := { stood := { row := frameGreatRow, standIns := [], harness := (true, "02aaed5fbb3f8a308214a5c7ed829a0fe375c1c95c52997ae0855d494b4cf7b9"), looks := false }, kinds := [], alts := [], laidByText := true, laidKinds := [.data], laidTests := true, laidLooks := .later }
def FrameGreatCardSaid : Prop := Claim7.holds Tryd.pinned (.plain (OpenSpec.ofChange frameGreatSpec)) frameGreatCard

/-- THE TIED CARD OF 'redraftlaw09.FramePieces'. -/
def framePiecesCard : Claim7 := { stood := { row := framePiecesRow, standIns := [], harness := (true, "02aaed5fbb3f8a308214a5c7ed829a0fe375c1c95c52997ae0855d494b4cf7b9"), looks := false }, kinds := [], alts := [], laidByText := true, laidKinds := [.data], laidTests := true, laidLooks := .later }
def FramePiecesCardSaid : Prop := Claim7.holds Tryd.pinned (.plain (OpenSpec.ofChange framePiecesSpec)) framePiecesCard

/-- THE TIED CARD OF 'redraftlaw09.FrameExact'. -/
def frameExactCard : Claim7 := { stood := { row := frameExactRow, standIns := [], harness := (true, "02aaed5fbb3f8a308214a5c7ed829a0fe375c1c95c52997ae0855d494b4cf7b9"), looks := false }, kinds := [], alts := [], laidByText := true, laidKinds := [.data], laidTests := true, laidLooks := .later }
def FrameExactCardSaid : Prop := Claim7.holds Tryd.pinned (.plain (OpenSpec.ofChange frameExactSpec)) frameExactCard

/-- THE SECOND FORM's CARD OF 'redraftlaw09.FrameSums'. -/
def frameSumsUptoCard : Claim7 := { stood := { row := frameSumsUptoRow, standIns := [], harness := (true, "02aaed5fbb3f8a308214a5c7ed829a0fe375c1c95c52997ae0855d494b4cf7b9"), looks := false }, kinds := [], alts := [], laidByText := true, laidKinds := [.data], laidTests := true, laidLooks := .later }
def FrameSumsUptoCardSaid : Prop := Claim7.holds Tryd.pinned (.plain (OpenSpec.upto frameSumsSpec)) frameSumsUptoCard

/-- THE SECOND FORM's CARD OF 'redraftlaw09.FrameScans'. -/
def frameScansUptoCard : Claim7 := { stood := { row := frameScansUptoRow, standIns := [], harness := (true, "02aaed5fbb3f8a308214a5c7ed829a0fe375c1c95c52997ae0855d494b4cf7b9"), looks := false }, kinds := [], alts := [], laidByText := true, laidKinds := [.data], laidTests := true, laidLooks := .later }
def FrameScansUptoCardSaid : Prop := Claim7.holds Tryd.pinned (.plain (OpenSpec.upto frameScansSpec)) frameScansUptoCard

/-- THE SECOND FORM's CARD OF 'redraftlaw09.FrameGivesBack'. -/
def frameGivesBackUptoCard : Claim7 := { stood := { row := frameGivesBackUptoRow, standIns := [], harness := (true, "02aaed5fbb3f8a308214a5c7ed829a0fe375c1c95c52997ae0855d494b4cf7b9"), looks := false }, kinds := [], alts := [], laidByText := true, laidKinds := [.data], laidTests := true, laidLooks := .later }
def FrameGivesBackUptoCardSaid : Prop := Claim7.holds Tryd.pinned (.plain (OpenSpec.upto frameGivesBackSpec)) frameGivesBackUptoCard

/-- THE SECOND FORM's CARD OF 'redraftlaw09.FrameOneForm'. -/
def frameOneFormUptoCard : Claim7 := { stood := { row := frameOneFormUptoRow, standIns := [], harness := (true, "02aaed5fbb3f8a308214a5c7ed829a0fe375c1c95c52997ae0855d494b4cf7b9"), looks := false }, kinds := [], alts := [], laidByText := true, laidKinds := [.data], laidTests := true, laidLooks := .later }
def FrameOneFormUptoCardSaid : Prop := Claim7.holds Tryd.pinned (.plain (OpenSpec.upto frameOneFormSpec)) frameOneFormUptoCard

/-- THE SECOND FORM's CARD OF 'redraftlaw09.FrameBursts'. -/
def frameBurstsUptoCard : Claim7 := { stood := { row := frameBurstsUptoRow, standIns := [], harness := (true, "02aaed5fbb3f8a308214a5c7ed829a0fe375c1c95c52997ae0855d494b4cf7b9"), looks := false }, kinds := [], alts := [], laidByText := true, laidKinds := [.data], laidTests := true, laidLooks := .later }
def FrameBurstsUptoCardSaid : Prop := Claim7.holds Tryd.pinned (.plain (OpenSpec.upto frameBurstsSpec)) frameBurstsUptoCard

/-- THE SECOND FORM's CARD OF 'redraftlaw09.FrameFound'. -/
def frameFoundUptoCard : Claim7 := { stood := { row := frameFoundUptoRow, standIns := [], harness := (true, "02aaed5fbb3f8a308214a5c7ed829a0fe375c1c95c52997ae0855d494b4cf7b9"), looks := false }, kinds := [], alts := [], laidByText := true, laidKinds := [.data], laidTests := true, laidLooks := .later }
def FrameFoundUptoCardSaid : Prop := Claim7.holds Tryd.pinned (.plain (OpenSpec.upto frameFoundSpec)) frameFoundUptoCard

/-- THE SECOND FORM's CARD OF 'redraftlaw09.FrameGreat'. -/
def frameGreatUptoCard : Claim7 := { stood := { row := frameGreatUptoRow, standIns := [], harness := (true, "02aaed5fbb3f8a308214a5c7ed829a0fe375c1c95c52997ae0855d494b4cf7b9"), looks := false }, kinds := [], alts := [], laidByText := true, laidKinds := [.data], laidTests := true, laidLooks := .later }
def FrameGreatUptoCardSaid : Prop := Claim7.holds Tryd.pinned (.plain (OpenSpec.upto frameGreatSpec)) frameGreatUptoCard

/-- THE SECOND FORM's CARD OF 'redraftlaw09.FramePieces'. -/
def framePiecesUptoCard : Claim7 := { stood := { row := framePiecesUptoRow, standIns := [], harness := (true, "02aaed5fbb3f8a308214a5c7ed829a0fe375c1c95c52997ae0855d494b4cf7b9"), looks := false }, kinds := [], alts := [], laidByText := true, laidKinds := [.data], laidTests := true, laidLooks := .later }
def FramePiecesUptoCardSaid : Prop := Claim7.holds Tryd.pinned (.plain (OpenSpec.upto framePiecesSpec)) framePiecesUptoCard

/-- THE SECOND FORM's CARD OF 'redraftlaw09.FrameExact'. -/
def frameExactUptoCard : Claim7 := { stood := { row := frameExactUptoRow, standIns := [], harness := (true, "02aaed5fbb3f8a308214a5c7ed829a0fe375c1c95c52997ae0855d494b4cf7b9"), looks := false }, kinds := [], alts := [], laidByText := true, laidKinds := [.data], laidTests := true, laidLooks := .later }
def FrameExactUptoCardSaid : Prop := Claim7.holds Tryd.pinned (.plain (OpenSpec.upto frameExactSpec)) frameExactUptoCard
end Rows
end Go.Proofs.YtooagpjfcnpheaaDoor
