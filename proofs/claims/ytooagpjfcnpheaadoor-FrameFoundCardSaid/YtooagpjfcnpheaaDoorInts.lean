/- A slice of whole numbers as a list. For any program. -/
import Derived.WalkKit
import Derived.ProofKit
import Derived.Test.YtooagpjfcnpheaaDoorOpen
namespace Go.Proofs.YtooagpjfcnpheaaDoor
open Go.RowKit

/-- The slice that begins at A holds the numbers l. -/
def IntsAt (w : World) (A : Option Addr) (l : List Int) : Prop :=
  ∀ k, k < l.length → ∃ b o, A = some ⟨b, o, none⟩ ∧ b < w.heap.size ∧ w.cell? ⟨b, o + k, none⟩ = some (.int .i64 (l.getD k 0))
theorem IntsAt.below {w w' : World} {A : Option Addr} {l : List Int} (h : IntsAt w A l) (hb : Below w.heap.size w w') : IntsAt w' A l := by
  intro k hk'
  obtain ⟨b, o, hA, hb', h1⟩ := h k hk'
  exact ⟨b, o, hA, by have := hb.size; omega, (hb.cell (p := ⟨b, _, none⟩) hb').trans h1⟩

theorem red_ints {H : Type} {enc : TypeId × Value → H} {P : Program} {w : World} {t e : TypeId} {cs : List Value} (ht : P.underlying t = some (.slice e)) (he : P.underlying e = some (.int .i64))
    (c1 : P.cellsOf e = 1) (b8 : P.bytesOf e = 8) (h : Red enc P w t cs) :
    ∃ (A : Option Addr) (c : Nat) (l : List Int), cs = [.slice A l.length c] ∧ l.length ≤ c ∧ c * 8 ≤ 140737488351232 ∧ IntsAt w A l ∧ (A = none → c = 0) := by
  obtain ⟨A, n, c, rfl, h1, h2, h3, h4, h5⟩ := red_slice ht (by omega) h
  rw [c1] at h5
  rw [b8] at h2
  have hf : ∀ i, i < n → ∃ x : Int, ∃ b o, A = some ⟨b, o, none⟩ ∧ b < w.heap.size ∧ w.cell? ⟨b, o + i, none⟩ = some (.int .i64 x) := by
    intro i hi
    obtain ⟨b, o, hA, hb⟩ := h3 (by omega)
    obtain ⟨cs', hl, hc, hr⟩ := h5 b o hA i (by omega)
    obtain ⟨x, rfl, _⟩ := red_int he hr
    have q0 := hc 0 (by omega)
    exact ⟨x, b, o, hA, hb, by simpa using q0⟩
  obtain ⟨f, hf⟩ := Go.Deep.choose_lt hf
  refine ⟨A, c, (List.range n).map f, by simp, by simpa using h1, h2, ?_, h4⟩
  intro k hk
  simp at hk
  obtain ⟨b, o, hA, hb, q0⟩ := hf k hk
  refine ⟨b, o, hA, hb, ?_⟩
  simpa [List.getD, hk] using q0
end Go.Proofs.YtooagpjfcnpheaaDoor
