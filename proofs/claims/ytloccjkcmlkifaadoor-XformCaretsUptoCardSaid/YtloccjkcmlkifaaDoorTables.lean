/- The table of package-level variables, where it lies. -/
import Derived.Test.YtloccjkcmlkifaaDoorProg
import Derived.WalkKit
import Derived.Deep.Draws
namespace Go.Proofs.YtloccjkcmlkifaaDoor
open Go.RowKit
def barsL : List (Int × Int) := [(0, 8), (11, 31), (127, 159), (64976, 65007), (65279, 65279)]
def GW (w : World) : Prop := 2 ≤ w.heap.size ∧ ∀ i, i < 5 → w.cell? ⟨1, i * 2, none⟩ = some (.int .i32 (barsL.getD i (0, 0)).1) ∧ w.cell? ⟨1, i * 2 + 1, none⟩ = some (.int .i32 (barsL.getD i (0, 0)).2)
theorem GW.below {w w' : World} (h : GW w) (hb : Below w.heap.size w w') : GW w' := by
  obtain ⟨h0, h1⟩ := h
  have := hb.size
  exact ⟨by omega, fun i hi => ⟨(hb.cell (p := ⟨1, i * 2, none⟩) (by show 1 < _; omega)).trans (h1 i hi).1, (hb.cell (p := ⟨1, i * 2 + 1, none⟩) (by show 1 < _; omega)).trans (h1 i hi).2⟩⟩
theorem GW.drewN {w : World} (h : GW w) (n : Nat) : GW (w.drewN n) := h
theorem GW.drew {w : World} (h : GW w) : GW w.drew := h
end Go.Proofs.YtloccjkcmlkifaaDoor

