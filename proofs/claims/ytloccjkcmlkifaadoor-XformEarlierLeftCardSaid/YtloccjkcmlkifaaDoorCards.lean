/-
  DERIVED. GIVEN WITH THE SEED: THE CARDS: each row of YtloccjkcmlkifaaDoorRows.lean that lists a variable, with what it lists TIED to the program's text (the seventh form; the later family's looks); each row that meets fmt, with fmt's text TOLD by the authors' own Lean function (tested against real Go, not proved from fmt's source: count such statements apart). THE CARD IS WHAT COUNTS. Prove the row's statement (the work); the ties are given (YtloccjkcmlkifaaDoorTie.lean); close each card by the builder's one call (the guide's Derived/Test/ToyasCard.lean, 'card_holds'). Laid BY PROGRAM, IN A SANDBOX (cutbox-door.mjs). By AI agents, Wed Nov 11 2026. No macro, syntax, notation, axiom, sorry.
-/
import Derived.Test.YtloccjkcmlkifaaDoorRows
import GoSem.ClaimSeven
namespace Go.Proofs.YtloccjkcmlkifaaDoor
namespace Rows

/-- THE TIED CARD OF 'redraftlaw05.XformCaretStays'. -/
def xformCaretStaysCard : Claim7 := { stood := { row := xformCaretStaysRow, standIns := [], harness := (true, "dec441b5e7c9a19f66f958eb186a871850a1aa4fbf7da4fd76aad642078e1e27"), looks := false }, kinds := [], alts := [], laidByText := true, laidKinds := [.data, .data], laidTests := true, laidLooks := .later }
def XformCaretStaysCardSaid : Prop := Claim7.holds Tryd.pinned (.plain (OpenSpec.ofChange xformCaretStaysSpec)) xformCaretStaysCard

/-- THE TIED CARD OF 'redraftlaw05.XformEarlierLeft'. -/
def xformEarlierLeftCard : Claim7 := { stood := { row := xformEarlierLeftRow, standIns := [], harness := (true, "dec441b5e7c9a19f66f958eb186a871850a1aa4fbf7da4fd76aad642078e1e27"), looks := false }, kinds := [], alts := [], laidByText := true, laidKinds := [.data, .data], laidTests := true, laidLooks := .later }
def XformEarlierLeftCardSaid : Prop := Claim7.holds Tryd.pinned (.plain (OpenSpec.ofChange xformEarlierLeftSpec)) xformEarlierLeftCard

/-- THE TIED CARD OF 'redraftlaw05.XformMeets'. -/
def xformMeetsCard : Claim7 := { stood := { row := xformMeetsRow, standIns := [], harness := (true, "dec441b5e7c9a19f66f958eb186a871850a1aa4fbf7da4fd76aad642078e1e27"), looks := false }, kinds := [], alts := [], laidByText := true, laidKinds := [.data, .data], laidTests := true, laidLooks := .later }
def XformMeetsCardSaid : Prop := Claim7.holds Tryd.pinned (.plain (OpenSpec.ofChange xformMeetsSpec)) xformMeetsCard

/-- THE TIED CARD OF 'redraftlaw05.XformRunsMeet'. -/
def xformRunsMeetCard : Claim7 := { stood := { row := xformRunsMeetRow, standIns := [], harness := (true, "dec441b5e7c9a19f66f958eb186a871850a1aa4fbf7da4fd76aad642078e1e27"), looks := false }, kinds := [], alts := [], laidByText := true, laidKinds := [.data, .data], laidTests := true, laidLooks := .later }
def XformRunsMeetCardSaid : Prop := Claim7.holds Tryd.pinned (.plain (OpenSpec.ofChange xformRunsMeetSpec)) xformRunsMeetCard

/-- THE TIED CARD OF 'redraftlaw05.XformBringsThere'. -/
def xformBringsThereCard : Claim7 := { stood := { row := xformBringsThereRow, standIns := [], harness := (true, "dec441b5e7c9a19f66f958eb186a871850a1aa4fbf7da4fd76aad642078e1e27"), looks := false }, kinds := [], alts := [], laidByText := true, laidKinds := [.data, .data], laidTests := true, laidLooks := .later }
def XformBringsThereCardSaid : Prop := Claim7.holds Tryd.pinned (.plain (OpenSpec.ofChange xformBringsThereSpec)) xformBringsThereCard

/-- THE TIED CARD OF 'redraftlaw05.XformOverIsCross'. -/
def xformOverIsCrossCard : Claim7 := { stood := { row := xformOverIsCrossRow, standIns := [], harness := (true, "dec441b5e7c9a19f66f958eb186a871850a1aa4fbf7da4fd76aad642078e1e27"), looks := false }, kinds := [], alts := [], laidByText := true, laidKinds := [.data, .data], laidTests := true, laidLooks := .later }
def XformOverIsCrossCardSaid : Prop := Claim7.holds Tryd.pinned (.plain (OpenSpec.ofChange xformOverIsCrossSpec)) xformOverIsCrossCard

/-- THE TIED CARD OF 'redraftlaw05.XformNewMemory'. -/
def xformNewMemoryCard : Claim7 := { stood := { row := xformNewMemoryRow, standIns := [], harness := (true, "dec441b5e7c9a19f66f958eb186a871850a1aa4fbf7da4fd76aad642078e1e27"), looks := false }, kinds := [], alts := [], laidByText := true, laidKinds := [.data, .data], laidTests := true, laidLooks := .later }
def XformNewMemoryCardSaid : Prop := Claim7.holds Tryd.pinned (.plain (OpenSpec.ofChange xformNewMemorySpec)) xformNewMemoryCard

/-- THE TIED CARD OF 'redraftlaw05.XformIncludes'. -/
def xformIncludesCard : Claim7 := { stood := { row := xformIncludesRow, standIns := [], harness := (true, "dec441b5e7c9a19f66f958eb186a871850a1aa4fbf7da4fd76aad642078e1e27"), looks := false }, kinds := [], alts := [], laidByText := true, laidKinds := [.data], laidTests := true, laidLooks := .later }
def XformIncludesCardSaid : Prop := Claim7.holds Tryd.pinned (.plain (OpenSpec.ofChange xformIncludesSpec)) xformIncludesCard

/-- THE TIED CARD OF 'redraftlaw05.XformExcludes'. -/
def xformExcludesCard : Claim7 := { stood := { row := xformExcludesRow, standIns := [], harness := (true, "dec441b5e7c9a19f66f958eb186a871850a1aa4fbf7da4fd76aad642078e1e27"), looks := false }, kinds := [], alts := [], laidByText := true, laidKinds := [.data], laidTests := true, laidLooks := .later }
def XformExcludesCardSaid : Prop := Claim7.holds Tryd.pinned (.plain (OpenSpec.ofChange xformExcludesSpec)) xformExcludesCard

/-- THE TIED CARD OF 'redraftlaw05.XformTransposes'. -/
def xformTransposesCard : Claim7 := { stood := { row := xformTransposesRow, standIns := [], harness := (true, "dec441b5e7c9a19f66f958eb186a871850a1aa4fbf7da4fd76aad642078e1e27"), looks := false }, kinds := [], alts := [], laidByText := true, laidKinds := [.data], laidTests := true, laidLooks := .later }
def XformTransposesCardSaid : Prop := Claim7.holds Tryd.pinned (.plain (OpenSpec.ofChange xformTransposesSpec)) xformTransposesCard

/-- THE TIED CARD OF 'redraftlaw05.XformOvers'. -/
def xformOversCard : Claim7 := { stood := { row := xformOversRow, standIns := [], harness := (true, "dec441b5e7c9a19f66f958eb186a871850a1aa4fbf7da4fd76aad642078e1e27"), looks := false }, kinds := [], alts := [], laidByText := true, laidKinds := [.data], laidTests := true, laidLooks := .later }
def XformOversCardSaid : Prop := Claim7.holds Tryd.pinned (.plain (OpenSpec.ofChange xformOversSpec)) xformOversCard

/-- THE TIED CARD OF 'redraftlaw05.XformCrosses'. -/
def xformCrossesCard : Claim7 := { stood := { row := xformCrossesRow, standIns := [], harness := (true, "dec441b5e7c9a19f66f958eb186a871850a1aa4fbf7da4fd76aad642078e1e27"), looks := false }, kinds := [], alts := [], laidByText := true, laidKinds := [.data], laidTests := true, laidLooks := .later }
def XformCrossesCardSaid : Prop := Claim7.holds Tryd.pinned (.plain (OpenSpec.ofChange xformCrossesSpec)) xformCrossesCard

/-- THE TIED CARD OF 'redraftlaw05.XformBrings'. -/
def xformBringsCard : Claim7 := { stood := { row := xformBringsRow, standIns := [], harness := (true, "dec441b5e7c9a19f66f958eb186a871850a1aa4fbf7da4fd76aad642078e1e27"), looks := false }, kinds := [], alts := [], laidByText := true, laidKinds := [.data], laidTests := true, laidLooks := .later }
def XformBringsCardSaid : Prop := Claim7.holds Tryd.pinned (.plain (OpenSpec.ofChange xformBringsSpec)) xformBringsCard

/-- THE TIED CARD OF 'redraftlaw05.XformCarets'. -/
def xformCaretsCard : Claim7 := { stood := { row := xformCaretsRow, standIns := [], harness := (true, "dec441b5e7c9a19f66f958eb186a871850a1aa4fbf7da4fd76aad642078e1e27"), looks := false }, kinds := [], alts := [], laidByText := true, laidKinds := [.data], laidTests := true, laidLooks := .later }
def XformCaretsCardSaid : Prop := Claim7.holds Tryd.pinned (.plain (OpenSpec.ofChange xformCaretsSpec)) xformCaretsCard

/-- THE TIED CARD OF 'redraftlaw05.XformAll'. -/
def xformAllCard : Claim7 := { stood := { row := xformAllRow, standIns := [], harness := (true, "dec441b5e7c9a19f66f958eb186a871850a1aa4fbf7da4fd76aad642078e1e27"), looks := false }, kinds := [], alts := [], laidByText := true, laidKinds := [.data], laidTests := true, laidLooks := .later }
def XformAllCardSaid : Prop := Claim7.holds Tryd.pinned (.plain (OpenSpec.ofChange xformAllSpec)) xformAllCard

/-- THE SECOND FORM's CARD OF 'redraftlaw05.XformCaretStays'. -/
def xformCaretStaysUptoCard : Claim7 := { stood := { row := xformCaretStaysUptoRow, standIns := [], harness := (true, "dec441b5e7c9a19f66f958eb186a871850a1aa4fbf7da4fd76aad642078e1e27"), looks := false }, kinds := [], alts := [], laidByText := true, laidKinds := [.data, .data], laidTests := true, laidLooks := .later }
def XformCaretStaysUptoCardSaid : Prop := Claim7.holds Tryd.pinned (.plain (OpenSpec.upto xformCaretStaysSpec)) xformCaretStaysUptoCard

/-- THE SECOND FORM's CARD OF 'redraftlaw05.XformEarlierLeft'. -/
def xformEarlierLeftUptoCard : Claim7 := { stood := { row := xformEarlierLeftUptoRow, standIns := [], harness := (true, "dec441b5e7c9a19f66f958eb186a871850a1aa4fbf7da4fd76aad642078e1e27"), looks := false }, kinds := [], alts := [], laidByText := true, laidKinds := [.data, .data], laidTests := true, laidLooks := .later }
def XformEarlierLeftUptoCardSaid : Prop := Claim7.holds Tryd.pinned (.plain (OpenSpec.upto xformEarlierLeftSpec)) xformEarlierLeftUptoCard

/-- THE SECOND FORM's CARD OF 'redraftlaw05.XformMeets'. -/
def xformMeetsUptoCard : Claim7 := { stood := { row := xformMeetsUptoRow, standIns := [], harness := (true, "dec441b5e7c9a19f66f958eb186a871850a1aa4fbf7da4fd76aad642078e1e27"), looks := false }, kinds := [], alts := [], laidByText := true, laidKinds := [.data, .data], laidTests := true, laidLooks := .later }
def XformMeetsUptoCardSaid : Prop := Claim7.holds Tryd.pinned (.plain (OpenSpec.upto xformMeetsSpec)) xformMeetsUptoCard

/-- THE SECOND FORM's CARD OF 'redraftlaw05.XformRunsMeet'. -/
def xformRunsMeetUptoCard : Claim7 := { stood := { row := xformRunsMeetUptoRow, standIns := [], harness := (true, "dec441b5e7c9a19f66f958eb186a871850a1aa4fbf7da4fd76aad642078e1e27"), looks := false }, kinds := [], alts := [], laidByText := true, laidKinds := [.data, .data], laidTests := true, laidLooks := .later }
def XformRunsMeetUptoCardSaid : Prop := Claim7.holds Tryd.pinned (.plain (OpenSpec.upto xformRunsMeetSpec)) xformRunsMeetUptoCard

/-- THE SECOND FORM's CARD OF 'redraftlaw05.XformBringsThere'. -/
def xformBringsThereUptoCard : Claim7 := { stood := { row := xformBringsThereUptoRow, standIns := [], harness := (true, "dec441b5e7c9a19f66f958eb186a871850a1aa4fbf7da4fd76aad642078e1e27"), looks := false }, kinds := [], alts := [], laidByText := true, laidKinds := [.data, .data], laidTests := true, laidLooks := .later }
def XformBringsThereUptoCardSaid : Prop := Claim7.holds Tryd.pinned (.plain (OpenSpec.upto xformBringsThereSpec)) xformBringsThereUptoCard

/-- THE SECOND FORM's CARD OF 'redraftlaw05.XformOverIsCross'. -/
def xformOverIsCrossUptoCard : Claim7 := { stood := { row := xformOverIsCrossUptoRow, standIns := [], harness := (true, "dec441b5e7c9a19f66f958eb186a871850a1aa4fbf7da4fd76aad642078e1e27"), looks := false }, kinds := [], alts := [], laidByText := true, laidKinds := [.data, .data], laidTests := true, laidLooks := .later }
def XformOverIsCrossUptoCardSaid : Prop := Claim7.holds Tryd.pinned (.plain (OpenSpec.upto xformOverIsCrossSpec)) xformOverIsCrossUptoCard

/-- THE SECOND FORM's CARD OF 'redraftlaw05.XformNewMemory'. -/
def xformNewMemoryUptoCard : Claim7 := { stood := { row := xformNewMemoryUptoRow, standIns := [], harness := (true, "dec441b5e7c9a19f66f958eb186a871850a1aa4fbf7da4fd76aad642078e1e27"), looks := false }, kinds := [], alts := [], laidByText := true, laidKinds := [.data, .data], laidTests := true, laidLooks := .later }
def XformNewMemoryUptoCardSaid : Prop := Claim7.holds Tryd.pinned (.plain (OpenSpec.upto xformNewMemorySpec)) xformNewMemoryUptoCard

/-- THE SECOND FORM's CARD OF 'redraftlaw05.XformIncludes'. -/
def xformIncludesUptoCard : Claim7 := { stood := { row := xformIncludesUptoRow, standIns := [], harness := (true, "dec441b5e7c9a19f66f958eb186a871850a1aa4fbf7da4fd76aad642078e1e27"), looks := false }, kinds := [], alts := [], laidByText := true, laidKinds := [.data], laidTests := true, laidLooks := .later }
def XformIncludesUptoCardSaid : Prop := Claim7.holds Tryd.pinned (.plain (OpenSpec.upto xformIncludesSpec)) xformIncludesUptoCard

/-- THE SECOND FORM's CARD OF 'redraftlaw05.XformExcludes'. -/
def xformExcludesUptoCard : Claim7 := { stood := { row := xformExcludesUptoRow, standIns := [], harness := (true, "dec441b5e7c9a19f66f958eb186a871850a1aa4fbf7da4fd76aad642078e1e27"), looks := false }, kinds := [], alts := [], laidByText := true, laidKinds := [.data], laidTests := true, laidLooks := .later }
def XformExcludesUptoCardSaid : Prop := Claim7.holds Tryd.pinned (.plain (OpenSpec.upto xformExcludesSpec)) xformExcludesUptoCard

/-- THE SECOND FORM's CARD OF 'redraftlaw05.XformTransposes'. -/
def xformTransposesUptoCard : Claim7 := { stood := { row := xformTransposesUptoRow, standIns := [], harness := (true, "dec441b5e7c9a19f66f958eb186a871850a1aa4fbf7da4fd76aad642078e1e27"), looks := false }, kinds := [], alts := [], laidByText := true, laidKinds := [.data], laidTests := true, laidLooks := .later }
def XformTransposesUptoCardSaid : Prop := Claim7.holds Tryd.pinned (.plain (OpenSpec.upto xformTransposesSpec)) xformTransposesUptoCard

/-- THE SECOND FORM's CARD OF 'redraftlaw05.XformOvers'. -/
def xformOversUptoCard : Claim7 := { stood := { row := xformOversUptoRow, standIns := [], harness := (true, "dec441b5e7c9a19f66f958eb186a871850a1aa4fbf7da4fd76aad642078e1e27"), looks := false }, kinds := [], alts := [], laidByText := true, laidKinds := [.data], laidTests := true, laidLooks := .later }
def XformOversUptoCardSaid : Prop := Claim7.holds Tryd.pinned (.plain (OpenSpec.upto xformOversSpec)) xformOversUptoCard

/-- THE SECOND FORM's CARD OF 'redraftlaw05.XformCrosses'. -/
def xformCrossesUptoCard : Claim7 := { stood := { row := xformCrossesUptoRow, standIns := [], harness := (true, "dec441b5e7c9a19f66f958eb186a871850a1aa4fbf7da4fd76aad642078e1e27"), looks := false }, kinds := [], alts := [], laidByText := true, laidKinds := [.data], laidTests := true, laidLooks := .later }
def XformCrossesUptoCardSaid : Prop := Claim7.holds Tryd.pinned (.plain (OpenSpec.upto xformCrossesSpec)) xformCrossesUptoCard

/-- THE SECOND FORM's CARD OF 'redraftlaw05.XformBrings'. -/
def xformBringsUptoCard : Claim7 := { stood := { row := xformBringsUptoRow, standIns := [], harness := (true, "dec441b5e7c9a19f66f958eb186a871850a1aa4fbf7da4fd76aad642078e1e27"), looks := false }, kinds := [], alts := [], laidByText := true, laidKinds := [.data], laidTests := true, laidLooks := .later }
def XformBringsUptoCardSaid : Prop := Claim7.holds Tryd.pinned (.plain (OpenSpec.upto xformBringsSpec)) xformBringsUptoCard

/-- THE SECOND FORM's CARD OF 'redraftlaw05.XformCarets'. -/
def xformCaretsUptoCard : Claim7 := { stood := { row := xformCaretsUptoRow, standIns := [], harness := (true, "dec441b5e7c9a19f66f958eb186a871850a1aa4fbf7da4fd76aad642078e1e27"), looks := false }, kinds := [], alts := [], laidByText := true, laidKinds := [.data], laidTests := true, laidLooks := .later }
def XformCaretsUptoCardSaid : Prop := Claim7.holds Tryd.pinned (.plain (OpenSpec.upto xformCaretsSpec)) xformCaretsUptoCard

/-- THE SECOND FORM's CARD OF 'redraftlaw05.XformAll'. -/
def xformAllUptoCard : Claim7 := { stood := { row := xformAllUptoRow, standIns := [], harness := (true, "dec441b5e7c9a19f66f958eb186a871850a1aa4fbf7da4fd76aad642078e1e27"), looks := false }, kinds := [], alts := [], laidByText := true, laidKinds := [.data], laidTests := true, laidLooks := .later }
def XformAllUptoCardSaid : Prop := Claim7.holds Tryd.pinned (.plain (OpenSpec.upto xformAllSpec)) xformAllUptoCard
end Rows
end Go.Proofs.YtloccjkcmlkifaaDoor
