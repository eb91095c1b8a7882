/- A region that draws its order, whose operations read and whose calls hand back plain values and leave all old memory alone (they may make memory): one walk in the order of the text serves every order. For any program. -/
import Derived.WalkKit
import Derived.Deep.QuietTactic
import Derived.BigQuiet
import Derived.Lib.Hide
namespace Go.Proofs.Ytejlpdcoaejciaa
open Go.RowKit

def Later (W : World) : Type := { w' : World // Below W.heap.size W w' }
instance Later.nonempty (W : World) : Nonempty (Later W) := ⟨⟨W, Below.refl _ _⟩⟩
theorem Later.cell {W : World} : ∀ (s : Later W) (b o : Nat), b < W.heap.size → s.1.cell? ⟨b, o, none⟩ = W.cell? ⟨b, o, none⟩ := fun s b o h => s.2.cell (p := ⟨b, o, none⟩) h

theorem wp_region_later {P : Program} {id : Nat} {Q : Exit → Act → World → Prop} {a : Act} {w : World} {l : List Oper} (hm : P.follows .mixedOrders = true) (hB : Region.lexB .any l.toArray = true)
    (h : wpQuiet P l.toArray (fun w' => ∃ s : Later w, w' = s.1) (fun a' => ∀ w', (∃ s : Later w, w' = s.1) → Q .normal a' w') l a) : (Code.region id l.toArray true).wp P Q a w :=
  wp_region_quiet (C := fun w' => ∃ s : Later w, w' = s.1) hm hB ⟨⟨w.drew, ⟨rfl, rfl, rfl, Nat.le_refl _, fun _ _ => rfl⟩⟩, rfl⟩ (by simpa using h)

theorem Calls.later {P : Program} {W : World} {s : Later W} {f : FuncId} {args : Array Value} {v : Value} (h : Calls P f args s.1 fun e w'' => e = .returned v ∧ Below s.1.heap.size s.1 w'') :
    Calls P f args s.1 fun e w'' => e = .returned v ∧ ∃ s' : Later W, w'' = s'.1 :=
  h.mono fun _ _ ⟨he, hb⟩ => ⟨he, ⟨_, s.2.trans (hb.mono s.2.size)⟩, rfl⟩
end Go.Proofs.Ytejlpdcoaejciaa
