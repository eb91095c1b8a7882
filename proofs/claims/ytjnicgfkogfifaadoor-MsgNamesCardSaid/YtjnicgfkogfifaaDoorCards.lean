/-
  DERIVED. GIVEN WITH THE SEED: THE CARDS: each row of YtjnicgfkogfifaaDoorRows.lean that lists a variable, with what it lists TIED to the program's text (the seventh form; the later family's looks); each row that meets fmt, with fmt's text TOLD by the authors' own Lean function (tested against real Go, not proved from fmt's source: count such statements apart). THE CARD IS WHAT COUNTS. Prove the row's statement (the work); the ties are given (YtjnicgfkogfifaaDoorTie.lean); close each card by the builder's one call (the guide's Derived/Test/ToyasCard.lean, 'card_holds'). Laid BY PROGRAM, IN A SANDBOX (cutbox-door.mjs). By AI agents, Wed Nov 11 2026. No macro, syntax, notation, axiom, sorry.
-/
import Derived.Test.YtjnicgfkogfifaaDoorRows
import GoSem.ClaimSeven
namespace Go.Proofs.YtjnicgfkogfifaaDoor
namespace Rows

/-- THE TIED CARD OF 'redraftlaw10.MsgNames'. -/
def msgNamesCard : Claim7 := { stood := { row := msgNamesRow, standIns := [], harness := (true, "abfb97589951273d7d1acd254b74a12adaeee2ff8104f88f238c210c636589d2"), looks := true }, kinds := [], alts := [], laidByText := true, laidKinds := [.data, .funcs], laidTests := true, laidLooks := .later }
def MsgNamesCardSaid : Prop := Claim7.holds Tryd.pinned (.plain (OpenSpec.ofChange msgNamesSpec)) msgNamesCard

/-- THE TIED CARD OF 'redraftlaw10.MsgShortest'. -/
def msgShortestCard : Claim7 := { stood := { row := msgShortestRow, standIns := [], harness := (true, "abfb97589951273d7d1acd254b74a12adaeee2ff8104f88f238c210c636589d2"), looks := true }, kinds := [], alts := [], laidByText := true, laidKinds := [.data, .funcs], laidTests := true, laidLooks := .later }
def MsgShortestCardSaid : Prop := Claim7.holds Tryd.pinned (.plain (OpenSpec.ofChange msgShortestSpec)) msgShortestCard

/-- THE TIED CARD OF 'redraftlaw10.MsgOrder'. -/
def msgOrderCard : Claim7 := { stood := { row := msgOrderRow, standIns := [], harness := (true, "abfb97589951273d7d1acd254b74a12adaeee2ff8104f88f238c210c636589d2"), looks := true }, kinds := [], alts := [], laidByText := true, laidKinds := [.data, .data, .funcs], laidTests := true, laidLooks := .later }
def MsgOrderCardSaid : Prop := Claim7.holds Tryd.pinned (.plain (OpenSpec.ofChange msgOrderSpec)) msgOrderCard

/-- THE TIED CARD OF 'redraftlaw10.MsgCut'. -/
def msgCutCard : Claim7 := { stood := { row := msgCutRow, standIns := [], harness := (true, "abfb97589951273d7d1acd254b74a12adaeee2ff8104f88f238c210c636589d2"), looks := true }, kinds := [], alts := [], laidByText := true, laidKinds := [.data, .funcs], laidTests := true, laidLooks := .later }
def MsgCutCardSaid : Prop := Claim7.holds Tryd.pinned (.plain (OpenSpec.ofChange msgCutSpec)) msgCutCard

/-- THE TIED CARD OF 'redraftlaw10.MsgNewMemory'. -/
def msgNewMemoryCard : Claim7 := { stood := { row := msgNewMemoryRow, standIns := [], harness := (true, "abfb97589951273d7d1acd254b74a12adaeee2ff8104f88f238c210c636589d2"), looks := true }, kinds := [], alts := [], laidByText := true, laidKinds := [.data, .data, .funcs], laidTests := true, laidLooks := .later }
def MsgNewMemoryCardSaid : Prop := Claim7.holds Tryd.pinned (.plain (OpenSpec.ofChange msgNewMemorySpec)) msgNewMemoryCard

/-- THE TIED CARD OF 'redraftlaw10.MsgSpoilt'. -/
def msgSpoiltCard : Claim7 := { stood := { row := msgSpoiltRow, standIns := [], harness := (true, "abfb97589951273d7d1acd254b74a12adaeee2ff8104f88f238c210c636589d2"), looks := true }, kinds := [], alts := [], laidByText := true, laidKinds := [.data, .data, .funcs], laidTests := true, laidLooks := .later }
def MsgSpoiltCardSaid : Prop := Claim7.holds Tryd.pinned (.plain (OpenSpec.ofChange msgSpoiltSpec)) msgSpoiltCard

/-- THE TIED CARD OF 'redraftlaw10.MsgCommands'. -/
def msgCommandsCard : Claim7 := { stood := { row := msgCommandsRow, standIns := [], harness := (true, "abfb97589951273d7d1acd254b74a12adaeee2ff8104f88f238c210c636589d2"), looks := true }, kinds := [], alts := [], laidByText := true, laidKinds := [.data, .data, .funcs], laidTests := true, laidLooks := .later }
def MsgCommandsCardSaid : Prop := Claim7.holds Tryd.pinned (.plain (OpenSpec.ofChange msgCommandsSpec)) msgCommandsCard

/-- THE TIED CARD OF 'redraftlaw10.MsgMessages'. -/
def msgMessagesCard : Claim7 := { stood := { row := msgMessagesRow, standIns := [], harness := (true, "abfb97589951273d7d1acd254b74a12adaeee2ff8104f88f238c210c636589d2"), looks := true }, kinds := [], alts := [], laidByText := true, laidKinds := [.data, .data, .funcs], laidTests := true, laidLooks := .later }
def MsgMessagesCardSaid : Prop := Claim7.holds Tryd.pinned (.plain (OpenSpec.ofChange msgMessagesSpec)) msgMessagesCard

/-- THE TIED CARD OF 'redraftlaw10.MsgPackets'. -/
def msgPacketsCard : Claim7 := { stood := { row := msgPacketsRow, standIns := [], harness := (true, "abfb97589951273d7d1acd254b74a12adaeee2ff8104f88f238c210c636589d2"), looks := true }, kinds := [], alts := [], laidByText := true, laidKinds := [.data, .data, .funcs], laidTests := true, laidLooks := .later }
def MsgPacketsCardSaid : Prop := Claim7.holds Tryd.pinned (.plain (OpenSpec.ofChange msgPacketsSpec)) msgPacketsCard

/-- THE TIED CARD OF 'redraftlaw10.MsgAll'. -/
def msgAllCard : Claim7 := { stood := { row := msgAllRow, standIns := [], harness := (true, "abfb97589951273d7d1acd254b74a12adaeee2ff8104f88f238c210c636589d2"), looks := true }, kinds := [], alts := [], laidByText := true, laidKinds := [.data, .data, .funcs], laidTests := true, laidLooks := .later }
def MsgAllCardSaid : Prop := Claim7.holds Tryd.pinned (.plain (OpenSpec.ofChange msgAllSpec)) msgAllCard

/-- THE TIED CARD OF 'redraftlaw10.MsgOneForm'. -/
def msgOneFormCard : Claim7 := { stood := { row := msgOneFormRow, standIns := [], harness := (true, "abfb97589951273d7d1acd254b74a12adaeee2ff8104f88f238c210c636589d2"), looks := true }, kinds := [], alts := [], laidByText := true, laidKinds := [.data, .data, .funcs], laidTests := true, laidLooks := .later }
def MsgOneFormCardSaid : Prop := Claim7.holds Tryd.pinned (.plain (OpenSpec.ofChange msgOneFormSpec)) msgOneFormCard

/-- THE SECOND FORM's CARD OF 'redraftlaw10.MsgNames'. -/
def msgNamesUptoCard : Claim7 := { stood := { row := msgNamesUptoRow, standIns := [], harness := (true, "abfb97589951273d7d1acd254b74a12adaeee2ff8104f88f238c210c636589d2"), looks := true }, kinds := [], alts := [], laidByText := true, laidKinds := [.data, .funcs], laidTests := true, laidLooks := .later }
def MsgNamesUptoCardSaid : Prop := Claim7.holds Tryd.pinned (.plain (OpenSpec.upto msgNamesSpec)) msgNamesUptoCard

/-- THE SECOND FORM's CARD OF 'redraftlaw10.MsgShortest'. -/
def msgShortestUptoCard : Claim7 := { stood := { row := msgShortestUptoRow, standIns := [], harness := (true, "abfb97589951273d7d1acd254b74a12adaeee2ff8104f88f238c210c636589d2"), looks := true }, kinds := [], alts := [], laidByText := true, laidKinds := [.data, .funcs], laidTests := true, laidLooks := .later }
def MsgShortestUptoCardSaid : Prop := Claim7.holds Tryd.pinned (.plain (OpenSpec.upto msgShortestSpec)) msgShortestUptoCard

/-- THE SECOND FORM's CARD OF 'redraftlaw10.MsgOrder'. -/
def msgOrderUptoCard : Claim7 := { stood := { row := msgOrderUptoRow, standIns := [], harness := (true, "abfb97589951273d7d1acd254b74a12adaeee2ff8104f88f238c210c636589d2"), looks := true }, kinds := [], alts := [], laidByText := true, laidKinds := [.data, .data, .funcs], laidTests := true, laidLooks := .later }
def MsgOrderUptoCardSaid : Prop := Claim7.holds Tryd.pinned (.plain (OpenSpec.upto msgOrderSpec)) msgOrderUptoCard

/-- THE SECOND FORM's CARD OF 'redraftlaw10.MsgCut'. -/
def msgCutUptoCard : Claim7 := { stood := { row := msgCutUptoRow, standIns := [], harness := (true, "abfb97589951273d7d1acd254b74a12adaeee2ff8104f88f238c210c636589d2"), looks := true }, kinds := [], alts := [], laidByText := true, laidKinds := [.data, .funcs], laidTests := true, laidLooks := .later }
def MsgCutUptoCardSaid : Prop := Claim7.holds Tryd.pinned (.plain (OpenSpec.upto msgCutSpec)) msgCutUptoCard

/-- THE SECOND FORM's CARD OF 'redraftlaw10.MsgNewMemory'. -/
def msgNewMemoryUptoCard : Claim7 := { stood := { row := msgNewMemoryUptoRow, standIns := [], harness := (true, "abfb97589951273d7d1acd254b74a12adaeee2ff8104f88f238c210c636589d2"), looks := true }, kinds := [], alts := [], laidByText := true, laidKinds := [.data, .data, .funcs], laidTests := true, laidLooks := .later }
def MsgNewMemoryUptoCardSaid : Prop := Claim7.holds Tryd.pinned (.plain (OpenSpec.upto msgNewMemorySpec)) msgNewMemoryUptoCard

/-- THE SECOND FORM's CARD OF 'redraftlaw10.MsgSpoilt'. -/
def msgSpoiltUptoCard : Claim7 := { stood := { row := msgSpoiltUptoRow, standIns := [], harness := (true, "abfb97589951273d7d1acd254b74a12adaeee2ff8104f88f238c210c636589d2"), looks := true }, kinds := [], alts := [], laidByText := true, laidKinds := [.data, .data, .funcs], laidTests := true, laidLooks := .later }
def MsgSpoiltUptoCardSaid : Prop := Claim7.holds Tryd.pinned (.plain (OpenSpec.upto msgSpoiltSpec)) msgSpoiltUptoCard

/-- THE SECOND FORM's CARD OF 'redraftlaw10.MsgCommands'. -/
def msgCommandsUptoCard : Claim7 := { stood := { row := msgCommandsUptoRow, standIns := [], harness := (true, "abfb97589951273d7d1acd254b74a12adaeee2ff8104f88f238c210c636589d2"), looks := true }, kinds := [], alts := [], laidByText := true, laidKinds := [.data, .data, .funcs], laidTests := true, laidLooks := .later }
def MsgCommandsUptoCardSaid : Prop := Claim7.holds Tryd.pinned (.plain (OpenSpec.upto msgCommandsSpec)) msgCommandsUptoCard

/-- THE SECOND FORM's CARD OF 'redraftlaw10.MsgMessages'. -/
def msgMessagesUptoCard : Claim7 := { stood := { row := msgMessagesUptoRow, standIns := [], harness := (true, "abfb97589951273d7d1acd254b74a12adaeee2ff8104f88f238c210c636589d2"), looks := true }, kinds := [], alts := [], laidByText := true, laidKinds := [.data, .data, .funcs], laidTests := true, laidLooks := .later }
def MsgMessagesUptoCardSaid : Prop := Claim7.holds Tryd.pinned (.plain (OpenSpec.upto msgMessagesSpec)) msgMessagesUptoCard

/-- THE SECOND FORM's CARD OF 'redraftlaw10.MsgPackets'. -/
def msgPacketsUptoCard : Claim7 := { stood := { row := msgPacketsUptoRow, standIns := [], harness := (true, "abfb97589951273d7d1acd254b74a12adaeee2ff8104f88f238c210c636589d2"), looks := true }, kinds := [], alts := [], laidByText := true, laidKinds := [.data, .data, .funcs], laidTests := true, laidLooks := .later }
def MsgPacketsUptoCardSaid : Prop := Claim7.holds Tryd.pinned (.plain (OpenSpec.upto msgPacketsSpec)) msgPacketsUptoCard

/-- THE SECOND FORM's CARD OF 'redraftlaw10.MsgAll'. -/
def msgAllUptoCard : Claim7 := { stood := { row := msgAllUptoRow, standIns := [], harness := (true, "abfb97589951273d7d1acd254b74a12adaeee2ff8104f88f238c210c636589d2"), looks := true }, kinds := [], alts := [], laidByText := true, laidKinds := [.data, .data, .funcs], laidTests := true, laidLooks := .later }
def MsgAllUptoCardSaid : Prop := Claim7.holds Tryd.pinned (.plain (OpenSpec.upto msgAllSpec)) msgAllUptoCard

/-- THE SECOND FORM's CARD OF 'redraftlaw10.MsgOneForm'. -/
def msgOneFormUptoCard : Claim7 := { stood := { row := msgOneFormUptoRow, standIns := [], harness := (true, "abfb97589951273d7d1acd254b74a12adaeee2ff8104f88f238c210c636589d2"), looks := true }, kinds := [], alts := [], laidByText := true, laidKinds := [.data, .data, .funcs], laidTests := true, laidLooks := .later }
def MsgOneFormUptoCardSaid : Prop := Claim7.holds Tryd.pinned (.plain (OpenSpec.upto msgOneFormSpec)) msgOneFormUptoCard
end Rows
end Go.Proofs.YtjnicgfkogfifaaDoor
