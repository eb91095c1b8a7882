/-
  No cell of these rows narrows 'for every input' (looked for: loops, veiled, ifaces, maps, wideKeys, modest, calm, conditions, laid).
  DERIVED. THE GIVEN ROWS OF THIS SEAT. 9 by the template 'for every input the law returns true; each argument reads behind the call as it read before'; 0 by the template 'total and deterministic' (their statements: YtejlpdcoaejciaaTotals.lean).
  GIVEN WITH THE SEED: the statements are not yours to turn. If you find one false, say at which input.
  Laid BY PROGRAM, IN A SANDBOX (cutbox-rows.mjs): the forced cells as the released guide's own fill.sh prints them over the translation a6d1b09dae989196… (all of the seat's roots in one cut). By AI agents, Wed Nov 11 2026. No macro, syntax, notation, axiom, sorry.
-/
import Derived.Test.YtejlpdcoaejciaaChecked
import GoSem.Claim
import GoSem.ClaimJoined
import GoSem.ClaimMapViews
import Derived.JoinedTies
import Derived.KernelRfl
namespace Go.Proofs.Ytejlpdcoaejciaa
/- THE CELL 'sum', in the pinned program and in every row, IS THE sha256 OF THE DUMP (.gsa) THAT YtejlpdcoaejciaaProg.lean LOADS. Nothing in Lean hashes anything: it is a label: what it is worth is what the hold of that sum in a sandbox is worth. -/
noncomputable def Try.pinned : Pinned := { name := "ytejlpdcoaejciaa", sum := "a6d1b09dae9891968acc870f47f221f4eb76bb28b710a7ce1832555477dfe1fb", checked := Try.checked }
namespace Rows
def none {H : Type} : Left H := { results := [], args := [] }

/-- 'redraftlaw16.LinkNames': WHATEVER THE INPUT: true; the input reads as it did. -/
def linkNamesSpec : ChangeSpec := { name := "linkNames", fn := fun _ => fun
  | [] => { results := [.lit (.bool true)], args := [] }
  | _ => none }
def linkNamesRow : OpenClaim := { program := "ytejlpdcoaejciaa", sum := "a6d1b09dae9891968acc870f47f221f4eb76bb28b710a7ce1832555477dfe1fb", func := "redraft/redraftlaw16.LinkNames", spec := "linkNames", apart := false }
def LinkNamesSaid : Prop := linkNamesRow.holds Try.pinned (OpenSpec.ofChange linkNamesSpec)

/-- ITS FALSE NEIGHBOUR: 'it returns false'. Refute it at one input. -/
def linkNamesWrong : ChangeSpec := { name := "linkNames", fn := fun _ => fun
  | [] => { results := [.lit (.bool false)], args := [] }
  | _ => none }
def LinkNamesWrongFalsely : Prop := linkNamesRow.holds Try.pinned (OpenSpec.ofChange linkNamesWrong)

/-- 'redraftlaw16.LinkBounds': WHATEVER THE INPUT: true; the input reads as it did. -/
def linkBoundsSpec : ChangeSpec := { name := "linkBounds", fn := fun _ => fun
  | [d1, d2] => { results := [.lit (.bool true)], args := [d1, d2] }
  | _ => none }
def linkBoundsRow : OpenClaim := { program := "ytejlpdcoaejciaa", sum := "a6d1b09dae9891968acc870f47f221f4eb76bb28b710a7ce1832555477dfe1fb", func := "redraft/redraftlaw16.LinkBounds", spec := "linkBounds", apart := false }
def LinkBoundsSaid : Prop := linkBoundsRow.holds Try.pinned (OpenSpec.ofChange linkBoundsSpec)

/-- ITS FALSE NEIGHBOUR: 'it returns false'. Refute it at one input. -/
def linkBoundsWrong : ChangeSpec := { name := "linkBounds", fn := fun _ => fun
  | [d1, d2] => { results := [.lit (.bool false)], args := [d1, d2] }
  | _ => none }
def LinkBoundsWrongFalsely : Prop := linkBoundsRow.holds Try.pinned (OpenSpec.ofChange linkBoundsWrong)

/-- 'redraftlaw16.LinkOrder': WHATEVER THE INPUT: true; the input reads as it did. -/
def linkOrderSpec : ChangeSpec := { name := "linkOrder", fn := fun _ => fun
  | [d1, d2] => { results := [.lit (.bool true)], args := [d1, d2] }
  | _ => none }
def linkOrderRow : OpenClaim := { program := "ytejlpdcoaejciaa", sum := "a6d1b09dae9891968acc870f47f221f4eb76bb28b710a7ce1832555477dfe1fb", func := "redraft/redraftlaw16.LinkOrder", spec := "linkOrder", unfollowed := true, recurses := true, apart := false }
def LinkOrderSaid : Prop := linkOrderRow.holds Try.pinned (OpenSpec.ofChange linkOrderSpec)

/-- ITS FALSE NEIGHBOUR: 'it returns false'. Refute it at one input. -/
def linkOrderWrong : ChangeSpec := { name := "linkOrder", fn := fun _ => fun
  | [d1, d2] => { results := [.lit (.bool false)], args := [d1, d2] }
  | _ => none }
def LinkOrderWrongFalsely : Prop := linkOrderRow.holds Try.pinned (OpenSpec.ofChange linkOrderWrong)

/-- 'redraftlaw16.LinkFull': WHATEVER THE INPUT: true; the input reads as it did. -/
def linkFullSpec : ChangeSpec := { name := "linkFull", fn := fun _ => fun
  | [d1, d2] => { results := [.lit (.bool true)], args := [d1, d2] }
  | _ => none }
def linkFullRow : OpenClaim := { program := "ytejlpdcoaejciaa", sum := "a6d1b09dae9891968acc870f47f221f4eb76bb28b710a7ce1832555477dfe1fb", func := "redraft/redraftlaw16.LinkFull", spec := "linkFull", unfollowed := true, recurses := true, apart := false }
def LinkFullSaid : Prop := linkFullRow.holds Try.pinned (OpenSpec.ofChange linkFullSpec)

/-- ITS FALSE NEIGHBOUR: 'it returns false'. Refute it at one input. -/
def linkFullWrong : ChangeSpec := { name := "linkFull", fn := fun _ => fun
  | [d1, d2] => { results := [.lit (.bool false)], args := [d1, d2] }
  | _ => none }
def LinkFullWrongFalsely : Prop := linkFullRow.holds Try.pinned (OpenSpec.ofChange linkFullWrong)

/-- 'redraftlaw16.LinkExact': WHATEVER THE INPUT: true; the input reads as it did. -/
def linkExactSpec : ChangeSpec := { name := "linkExact", fn := fun _ => fun
  | [d1, d2, d3] => { results := [.lit (.bool true)], args := [d1, d2, d3] }
  | _ => none }
def linkExactRow : OpenClaim := { program := "ytejlpdcoaejciaa", sum := "a6d1b09dae9891968acc870f47f221f4eb76bb28b710a7ce1832555477dfe1fb", func := "redraft/redraftlaw16.LinkExact", spec := "linkExact", unfollowed := true, recurses := true, apart := false }
def LinkExactSaid : Prop := linkExactRow.holds Try.pinned (OpenSpec.ofChange linkExactSpec)

/-- ITS FALSE NEIGHBOUR: 'it returns false'. Refute it at one input. -/
def linkExactWrong : ChangeSpec := { name := "linkExact", fn := fun _ => fun
  | [d1, d2, d3] => { results := [.lit (.bool false)], args := [d1, d2, d3] }
  | _ => none }
def LinkExactWrongFalsely : Prop := linkExactRow.holds Try.pinned (OpenSpec.ofChange linkExactWrong)

/-- 'redraftlaw16.LinkIsBag': WHATEVER THE INPUT: true; the input reads as it did. -/
def linkIsBagSpec : ChangeSpec := { name := "linkIsBag", fn := fun _ => fun
  | [d1, d2] => { results := [.lit (.bool true)], args := [d1, d2] }
  | _ => none }
def linkIsBagRow : OpenClaim := { program := "ytejlpdcoaejciaa", sum := "a6d1b09dae9891968acc870f47f221f4eb76bb28b710a7ce1832555477dfe1fb", func := "redraft/redraftlaw16.LinkIsBag", spec := "linkIsBag", unfollowed := true, recurses := true, apart := false }
def LinkIsBagSaid : Prop := linkIsBagRow.holds Try.pinned (OpenSpec.ofChange linkIsBagSpec)

/-- ITS FALSE NEIGHBOUR: 'it returns false'. Refute it at one input. -/
def linkIsBagWrong : ChangeSpec := { name := "linkIsBag", fn := fun _ => fun
  | [d1, d2] => { results := [.lit (.bool false)], args := [d1, d2] }
  | _ => none }
def LinkIsBagWrongFalsely : Prop := linkIsBagRow.holds Try.pinned (OpenSpec.ofChange linkIsBagWrong)

/-- 'redraftlaw07.StacksPick': WHATEVER THE INPUT: true; the input reads as it did. -/
def stacksPickSpec : ChangeSpec := { name := "stacksPick", fn := fun _ => fun
  | [d1, d2, d3] => { results := [.lit (.bool true)], args := [d1, d2, d3] }
  | _ => none }
def stacksPickRow : OpenClaim := { program := "ytejlpdcoaejciaa", sum := "a6d1b09dae9891968acc870f47f221f4eb76bb28b710a7ce1832555477dfe1fb", func := "redraft/redraftlaw07.StacksPick", spec := "stacksPick", unfollowed := true, recurses := true, apart := false }
def StacksPickSaid : Prop := stacksPickRow.holds Try.pinned (OpenSpec.ofChange stacksPickSpec)

/-- ITS FALSE NEIGHBOUR: 'it returns false'. Refute it at one input. -/
def stacksPickWrong : ChangeSpec := { name := "stacksPick", fn := fun _ => fun
  | [d1, d2, d3] => { results := [.lit (.bool false)], args := [d1, d2, d3] }
  | _ => none }
def StacksPickWrongFalsely : Prop := stacksPickRow.holds Try.pinned (OpenSpec.ofChange stacksPickWrong)

/-- 'redraftlaw07.StacksNone': WHATEVER THE INPUT: true; the input reads as it did. -/
def stacksNoneSpec : ChangeSpec := { name := "stacksNone", fn := fun _ => fun
  | [d] => { results := [.lit (.bool true)], args := [d] }
  | _ => none }
def stacksNoneRow : OpenClaim := { program := "ytejlpdcoaejciaa", sum := "a6d1b09dae9891968acc870f47f221f4eb76bb28b710a7ce1832555477dfe1fb", func := "redraft/redraftlaw07.StacksNone", spec := "stacksNone", unfollowed := true, recurses := true, apart := false }
def StacksNoneSaid : Prop := stacksNoneRow.holds Try.pinned (OpenSpec.ofChange stacksNoneSpec)

/-- ITS FALSE NEIGHBOUR: 'it returns false'. Refute it at one input. -/
def stacksNoneWrong : ChangeSpec := { name := "stacksNone", fn := fun _ => fun
  | [d] => { results := [.lit (.bool false)], args := [d] }
  | _ => none }
def StacksNoneWrongFalsely : Prop := stacksNoneRow.holds Try.pinned (OpenSpec.ofChange stacksNoneWrong)

/-- 'redraftlaw07.StacksNames': WHATEVER THE INPUT: true; the input reads as it did. -/
def stacksNamesSpec : ChangeSpec := { name := "stacksNames", fn := fun _ => fun
  | [] => { results := [.lit (.bool true)], args := [] }
  | _ => none }
def stacksNamesRow : OpenClaim := { program := "ytejlpdcoaejciaa", sum := "a6d1b09dae9891968acc870f47f221f4eb76bb28b710a7ce1832555477dfe1fb", func := "redraft/redraftlaw07.StacksNames", spec := "stacksNames", apart := false }
def StacksNamesSaid : Prop := stacksNamesRow.holds Try.pinned (OpenSpec.ofChange stacksNamesSpec)

/-- ITS FALSE NEIGHBOUR: 'it returns false'. Refute it at one input. -/
def stacksNamesWrong : ChangeSpec := { name := "stacksNames", fn := fun _ => fun
  | [] => { results := [.lit (.bool false)], args := [] }
  | _ => none }
def StacksNamesWrongFalsely : Prop := stacksNamesRow.holds Try.pinned (OpenSpec.ofChange stacksNamesWrong)

/- THE SECOND FORM. 'bulk': how many values and letters a reading holds, each counted each time it is reached (what is shared counts as often as it is met; a slice's spare places count too). A statement '..UptoSaid' is the law's where the arguments, and the package variables that the reading takes, are together of bulk at most 1048576: NARROWER than '..Said'. Prove '..Said' where nothing that the law and all that it calls make is longer than what came in: it says more and counts as full. Else prove '..UptoSaid'. A law counts once. -/
mutual
def uptoBulk {H : Type} : DataW H → Nat
  | .lit (.string bytes) => bytes.length + 1
  | .lit _ => 1
  | .nil => 1
  | .ptr d => uptoBulk d + 1
  | .slice elems spare => uptoBulkAll elems + uptoBulkAll spare + 1
  | .agg parts => uptoBulkAll parts + 1
  | .iface _ d => uptoBulk d + 1
  | .map entries => uptoBulkEntries entries + 1
  | .held _ => 1
def uptoBulkAll {H : Type} : List (DataW H) → Nat
  | [] => 0
  | d :: r => uptoBulk d + uptoBulkAll r
def uptoBulkEntries {H : Type} : List (Lit × DataW H) → Nat
  | [] => 0
  | x :: r => uptoBulkEntry x + uptoBulkEntries r
def uptoBulkEntry {H : Type} : Lit × DataW H → Nat
  | (.string bytes, d) => bytes.length + uptoBulk d + 1
  | (_, d) => uptoBulk d + 1
 end
def uptoSmall : (H : Type) → List (DataW H) → Bool := fun _ ds => decide (uptoBulkAll ds ≤ 1048576)
def OpenSpec.upto (s : _root_.Go.ChangeSpec) : _root_.Go.OpenSpec := { _root_.Go.OpenSpec.ofChange s with cond := some uptoSmall }

/-- 'redraftlaw16.LinkNames', WHERE WHAT IT READS IS OF BULK AT MOST 1048576: true; the input reads as it did. -/
def linkNamesUptoRow : OpenClaim := { program := "ytejlpdcoaejciaa", sum := "a6d1b09dae9891968acc870f47f221f4eb76bb28b710a7ce1832555477dfe1fb", func := "redraft/redraftlaw16.LinkNames", spec := "linkNames", apart := false, narrowed := true }
def LinkNamesUptoSaid : Prop := linkNamesUptoRow.holds Try.pinned (OpenSpec.upto linkNamesSpec)

/-- 'redraftlaw16.LinkBounds', WHERE WHAT IT READS IS OF BULK AT MOST 1048576: true; the input reads as it did. -/
def linkBoundsUptoRow : OpenClaim := { program := "ytejlpdcoaejciaa", sum := "a6d1b09dae9891968acc870f47f221f4eb76bb28b710a7ce1832555477dfe1fb", func := "redraft/redraftlaw16.LinkBounds", spec := "linkBounds", apart := false, narrowed := true }
def LinkBoundsUptoSaid : Prop := linkBoundsUptoRow.holds Try.pinned (OpenSpec.upto linkBoundsSpec)

/-- 'redraftlaw16.LinkOrder', WHERE WHAT IT READS IS OF BULK AT MOST 1048576: true; the input reads as it did. -/
def linkOrderUptoRow : OpenClaim := { program := "ytejlpdcoaejciaa", sum := "a6d1b09dae9891968acc870f47f221f4eb76bb28b710a7ce1832555477dfe1fb", func := "redraft/redraftlaw16.LinkOrder", spec := "linkOrder", unfollowed := true, recurses := true, apart := false, narrowed := true }
def LinkOrderUptoSaid : Prop := linkOrderUptoRow.holds Try.pinned (OpenSpec.upto linkOrderSpec)

/-- 'redraftlaw16.LinkFull', WHERE WHAT IT READS IS OF BULK AT MOST 1048576: true; the input reads as it did. -/
def linkFullUptoRow : OpenClaim := { program := "ytejlpdcoaejciaa", sum := "a6d1b09dae9891968acc870f47f221f4eb76bb28b710a7ce1832555477dfe1fb", func := "redraft/redraftlaw16.LinkFull", spec := "linkFull", unfollowed := true, recurses := true, apart := false, narrowed := true }
def LinkFullUptoSaid : Prop := linkFullUptoRow.holds Try.pinned (OpenSpec.upto linkFullSpec)

/-- 'redraftlaw16.LinkExact', WHERE WHAT IT READS IS OF BULK AT MOST 1048576: true; the input reads as it did. -/
def linkExactUptoRow : OpenClaim := { program := "ytejlpdcoaejciaa", sum := "a6d1b09dae9891968acc870f47f221f4eb76bb28b710a7ce1832555477dfe1fb", func := "redraft/redraftlaw16.LinkExact", spec := "linkExact", unfollowed := true, recurses := true, apart := false, narrowed := true }
def LinkExactUptoSaid : Prop := linkExactUptoRow.holds Try.pinned (OpenSpec.upto linkExactSpec)

/-- 'redraftlaw16.LinkIsBag', WHERE WHAT IT READS IS OF BULK AT MOST 1048576: true; the input reads as it did. -/
def linkIsBagUptoRow : OpenClaim := { program := "ytejlpdcoaejciaa", sum := "a6d1b09dae9891968acc870f47f221f4eb76bb28b710a7ce1832555477dfe1fb", func := "redraft/redraftlaw16.LinkIsBag", spec := "linkIsBag", unfollowed := true, recurses := true, apart := false, narrowed := true }
def LinkIsBagUptoSaid : Prop := linkIsBagUptoRow.holds Try.pinned (OpenSpec.upto linkIsBagSpec)

/-- 'redraftlaw07.StacksPick', WHERE WHAT IT READS IS OF BULK AT MOST 1048576: true; the input reads as it did. -/
def stacksPickUptoRow : OpenClaim := { program := "ytejlpdcoaejciaa", sum := "a6d1b09dae9891968acc870f47f221f4eb76bb28b710a7ce1832555477dfe1fb", func := "redraft/redraftlaw07.StacksPick", spec := "stacksPick", unfollowed := true, recurses := true, apart := false, narrowed := true }
def StacksPickUptoSaid : Prop := stacksPickUptoRow.holds Try.pinned (OpenSpec.upto stacksPickSpec)

/-- 'redraftlaw07.StacksNone', WHERE WHAT IT READS IS OF BULK AT MOST 1048576: true; the input reads as it did. -/
def stacksNoneUptoRow : OpenClaim := { program := "ytejlpdcoaejciaa", sum := "a6d1b09dae9891968acc870f47f221f4eb76bb28b710a7ce1832555477dfe1fb", func := "redraft/redraftlaw07.StacksNone", spec := "stacksNone", unfollowed := true, recurses := true, apart := false, narrowed := true }
def StacksNoneUptoSaid : Prop := stacksNoneUptoRow.holds Try.pinned (OpenSpec.upto stacksNoneSpec)

/-- 'redraftlaw07.StacksNames', WHERE WHAT IT READS IS OF BULK AT MOST 1048576: true; the input reads as it did. -/
def stacksNamesUptoRow : OpenClaim := { program := "ytejlpdcoaejciaa", sum := "a6d1b09dae9891968acc870f47f221f4eb76bb28b710a7ce1832555477dfe1fb", func := "redraft/redraftlaw07.StacksNames", spec := "stacksNames", apart := false, narrowed := true }
def StacksNamesUptoSaid : Prop := stacksNamesUptoRow.holds Try.pinned (OpenSpec.upto stacksNamesSpec)

end Rows
end Go.Proofs.Ytejlpdcoaejciaa
