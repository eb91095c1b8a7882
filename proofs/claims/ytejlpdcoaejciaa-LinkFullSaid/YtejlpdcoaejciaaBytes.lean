/- A slice of bytes as a list of bytes. For any program. -/
import Derived.WalkKit
import Derived.ProofKit
import Derived.Test.YtejlpdcoaejciaaOpen
namespace Go.Proofs.Ytejlpdcoaejciaa
open Go.RowKit

def u8 (b : UInt8) : Value := .int .u8 (b.toNat : Int)
/-- The slice that begins at A holds the bytes l. -/
def BytesAt (w : World) (A : Option Addr) (l : List UInt8) : Prop :=
  ∀ k, k < l.length → ∃ b o, A = some ⟨b, o, none⟩ ∧ b < w.heap.size ∧ w.cell? ⟨b, o + k, none⟩ = some (.int .u8 ((l.getD k 0).toNat : Int))

theorem BytesAt.below {w w' : World} {A : Option Addr} {l : List UInt8} (h : BytesAt w A l) (hb : Below w.heap.size w w') : BytesAt w' A l := by
  intro k hk'
  obtain ⟨b, o, hA, hb', h1⟩ := h k hk'
  exact ⟨b, o, hA, by have := hb.size; omega, (hb.cell (p := ⟨b, _, none⟩) hb').trans h1⟩
theorem BytesAt.nil (w : World) (A : Option Addr) : BytesAt w A [] := fun k hk => by simp at hk

theorem BytesAt.take {w : World} {A : Option Addr} {l : List UInt8} (h : BytesAt w A l) (n : Nat) : BytesAt w A (l.take n) := by
  intro k hk
  rw [List.length_take] at hk
  obtain ⟨b, o, hA, hb', h1⟩ := h k (by omega)
  refine ⟨b, o, hA, hb', ?_⟩
  rw [h1, List.getD_eq_getElem?_getD, List.getD_eq_getElem?_getD, List.getElem?_take, if_pos (by omega)]
theorem BytesAt.drop {w : World} {b o : Nat} {l : List UInt8} (h : BytesAt w (some ⟨b, o, none⟩) l) (n : Nat) : BytesAt w (some ⟨b, o + n, none⟩) (l.drop n) := by
  intro k hk
  rw [List.length_drop] at hk
  obtain ⟨b', o', hA, hb', h1⟩ := h (n + k) (by omega)
  cases hA
  refine ⟨b, o + n, rfl, hb', ?_⟩
  rw [Nat.add_assoc, h1, List.getD_eq_getElem?_getD, List.getD_eq_getElem?_getD, List.getElem?_drop]

theorem red_bytes {H : Type} {enc : TypeId × Value → H} {P : Program} {w : World} {t e : TypeId} {cs : List Value} (ht : P.underlying t = some (.slice e)) (he : P.underlying e = some (.int .u8))
    (c1 : P.cellsOf e = 1) (b1 : P.bytesOf e = 1) (h : Red enc P w t cs) :
    ∃ (A : Option Addr) (c : Nat) (l : List UInt8), cs = [.slice A l.length c] ∧ l.length ≤ c ∧ c ≤ 140737488351232 ∧ BytesAt w A l ∧ (A = none → c = 0) := by
  obtain ⟨A, n, c, rfl, h1, h2, h3, h4, h5⟩ := red_slice ht (by omega) h
  rw [c1] at h5
  rw [b1] at h2
  have hf : ∀ i, i < n → ∃ p : UInt8, ∃ b o, A = some ⟨b, o, none⟩ ∧ b < w.heap.size ∧ w.cell? ⟨b, o + i, none⟩ = some (.int .u8 (p.toNat : Int)) := by
    intro i hi
    obtain ⟨b, o, hA, hb⟩ := h3 (by omega)
    obtain ⟨cs', hl, hc, hr⟩ := h5 b o hA i (by omega)
    obtain ⟨x, rfl, hw⟩ := red_int he hr
    have hx : 0 ≤ x ∧ x ≤ 255 := by simpa [Lit.wf, IntKind.min, IntKind.max, IntKind.signed, IntKind.bits] using hw
    have q0 := hc 0 (by omega)
    refine ⟨UInt8.ofNat x.toNat, b, o, hA, hb, ?_⟩
    have : ((UInt8.ofNat x.toNat).toNat : Int) = x := by
      rw [UInt8.toNat_ofNat']; omega
    rw [this]
    simpa using q0
  obtain ⟨f, hf⟩ := Go.Deep.choose_lt hf
  refine ⟨A, c, (List.range n).map f, by simp, by simpa using h1, by omega, ?_, h4⟩
  intro k hk
  simp at hk
  obtain ⟨b, o, hA, hb, q0⟩ := hf k hk
  refine ⟨b, o, hA, hb, ?_⟩
  simpa [List.getD, hk] using q0

/-- A byte slice whose value is a nil, or lies where it says; 'Src': it holds the bytes l and is no longer than it is wide. -/
def Src (w : World) (A : Option Addr) (l : List UInt8) (c : Nat) : Prop := BytesAt w A l ∧ (A = none → c = 0) ∧ l.length ≤ c

def vals (l : List UInt8) : List Value := l.map u8
theorem vals_length (l : List UInt8) : (vals l).length = l.length := by simp [vals]
theorem vals_one (l : List UInt8) : ∀ u ∈ vals l, u.oneCell' = true := by
  intro u hu
  obtain ⟨x, _, rfl⟩ := List.mem_map.1 hu
  rfl
theorem vals_append (a b : List UInt8) : vals (a ++ b) = vals a ++ vals b := by simp [vals]
theorem bytes_news {w : World} {A : Option Addr} {l : List UInt8} (h : BytesAt w A l) : ∀ ad, A = some ad → ∀ j u, (vals l)[j]? = some u → w.cell? (ad.add j) = some u := by
  intro ad hA j u hu
  have hj : j < l.length := by
    have := (List.getElem?_eq_some_iff.1 hu).1
    rwa [vals_length] at this
  obtain ⟨b, o, hA', _, hc⟩ := h j hj
  rw [hA] at hA'
  cases hA'
  have : (⟨b, o, none⟩ : Addr).add j = ⟨b, o + j, none⟩ := by unfold Addr.add; split <;> simp_all
  rw [this, hc]
  simp [vals, u8, hj] at hu
  rw [List.getD_eq_getElem?_getD, List.getElem?_eq_getElem hj, Option.getD_some]
  exact congrArg some hu
/-- An owned row of bytes is read as a slice of bytes. -/
theorem own_bytes {w : World} {base : Nat} {e : TypeId} {v : Value} {n : Nat} {l : List UInt8} (h : w.ownsRow base e 1 v n (vals l)) : n = l.length ∧ ∃ A c, v = .slice A l.length c ∧ BytesAt w A l ∧ (A = none → c = 0) ∧ l.length ≤ c ∧ c ≤ 9223372036854775807 := by
  have hn : n = l.length := by have := h.1; rw [vals_length] at this; omega
  subst hn
  refine ⟨rfl, ?_⟩
  rcases h.2 with ⟨rfl, hn⟩ | ⟨g, cap, cur, rfl, hg, hh, hnc, hcm, hsz, ht⟩
  · exact ⟨none, 0, by rw [hn], fun k hk => by omega, fun _ => rfl, by omega, by omega⟩
  · refine ⟨some ⟨g, 0, none⟩, cap, rfl, fun k hk => ⟨g, 0, rfl, (Array.getElem?_eq_some_iff.1 hh).1, ?_⟩, (fun h => by cases h), hnc, by simpa [maxLen] using hcm⟩
    have h1 : (vals l)[k]? = some (u8 (l.getD k 0)) := by simp [vals, hk]
    rw [← ht, List.getElem?_take, if_pos (by omega)] at h1
    rw [cell_of_row w g _ cur e (0, 0) hh]
    simpa [u8] using h1
end Go.Proofs.Ytejlpdcoaejciaa
