/- A slice of slices of bytes as a list of lists of bytes. For any program. -/
import Derived.Test.YtejlpdcoaejciaaBytes
import Derived.Deep.Onto
namespace Go.Proofs.Ytejlpdcoaejciaa
open Go.RowKit

/-- The value is a slice of bytes that holds l. -/
def IsBytes (w : World) (v : Value) (l : List UInt8) : Prop := ∃ A c, v = .slice A l.length c ∧ BytesAt w A l ∧ (A = none → c = 0) ∧ l.length ≤ c ∧ c ≤ 9223372036854775807
theorem IsBytes.below {w w' : World} {v : Value} {l : List UInt8} (h : IsBytes w v l) (hb : Below w.heap.size w w') : IsBytes w' v l := by
  obtain ⟨A, c, h1, h2, h3⟩ := h
  exact ⟨A, c, h1, h2.below hb, h3⟩
theorem IsBytes.own {w : World} {base : Nat} {e : TypeId} {v : Value} {n : Nat} {l : List UInt8} (h : w.ownsRow base e 1 v n (vals l)) : IsBytes w v l := by
  obtain ⟨_, A, c, h1, h2, h3, h4, h5⟩ := own_bytes h
  exact ⟨A, c, h1, h2, h3, h4, h5⟩

/-- The slice that begins at A holds slices of bytes that hold ls. -/
def RowsAt (w : World) (A : Option Addr) (ls : List (List UInt8)) : Prop :=
  ∀ k, k < ls.length → ∃ b o v, A = some ⟨b, o, none⟩ ∧ b < w.heap.size ∧ w.cell? ⟨b, o + k, none⟩ = some v ∧ IsBytes w v (ls.getD k [])

theorem RowsAt.below {w w' : World} {A : Option Addr} {ls : List (List UInt8)} (h : RowsAt w A ls) (hb : Below w.heap.size w w') : RowsAt w' A ls := by
  intro k hk'
  obtain ⟨b, o, v, hA, hb', h1, h2⟩ := h k hk'
  exact ⟨b, o, v, hA, by have := hb.size; omega, (hb.cell (p := ⟨b, _, none⟩) hb').trans h1, h2.below hb⟩
theorem RowsAt.nil (w : World) (A : Option Addr) : RowsAt w A [] := fun k hk => by simp at hk
theorem RowsAt.take {w : World} {A : Option Addr} {ls : List (List UInt8)} (h : RowsAt w A ls) (n : Nat) : RowsAt w A (ls.take n) := by
  intro k hk
  rw [List.length_take] at hk
  obtain ⟨b, o, v, hA, hb', h1, h2⟩ := h k (by omega)
  refine ⟨b, o, v, hA, hb', h1, ?_⟩
  rw [List.getD_eq_getElem?_getD, List.getElem?_take, if_pos (by omega), ← List.getD_eq_getElem?_getD]
  exact h2

theorem red_rows {H : Type} {enc : TypeId × Value → H} {P : Program} {w : World} {t e u : TypeId} {cs : List Value} (ht : P.underlying t = some (.slice e)) (he : P.underlying e = some (.slice u)) (hu : P.underlying u = some (.int .u8))
    (ce : P.cellsOf e = 1) (be : P.bytesOf e = 24) (c1 : P.cellsOf u = 1) (b1 : P.bytesOf u = 1) (h : Red enc P w t cs) :
    ∃ (A : Option Addr) (c : Nat) (ls : List (List UInt8)), cs = [.slice A ls.length c] ∧ ls.length ≤ c ∧ c * 24 ≤ 140737488351232 ∧ RowsAt w A ls ∧ (A = none → c = 0) ∧ ∀ l ∈ ls, l.length ≤ 140737488351232 := by
  obtain ⟨A, n, c, rfl, h1, h2, h3, h4, h5⟩ := red_slice ht (by omega) h
  rw [ce] at h5
  rw [be] at h2
  have hf : ∀ i, i < n → ∃ l : List UInt8, (∃ b o v, A = some ⟨b, o, none⟩ ∧ b < w.heap.size ∧ w.cell? ⟨b, o + i, none⟩ = some v ∧ IsBytes w v l) ∧ l.length ≤ 140737488351232 := by
    intro i hi
    obtain ⟨b, o, hA, hb⟩ := h3 (by omega)
    obtain ⟨cs', hl, hc, hr⟩ := h5 b o hA i (by omega)
    obtain ⟨A', c', l, rfl, k1, k2, k3, k4⟩ := red_bytes he hu c1 b1 hr
    have q0 := hc 0 (by omega)
    exact ⟨l, ⟨b, o, .slice A' l.length c', hA, hb, by simpa using q0, A', c', rfl, k3, k4, k1, by omega⟩, by omega⟩
  obtain ⟨f, hf⟩ := Go.Deep.choose_lt hf
  refine ⟨A, c, (List.range n).map f, by simp, by simpa using h1, by omega, ?_, h4, ?_⟩
  · intro k hk
    simp at hk
    obtain ⟨⟨b, o, v, hA, hb, q0, q1⟩, _⟩ := hf k hk
    refine ⟨b, o, v, hA, hb, q0, ?_⟩
    simpa [List.getD, hk] using q1
  · intro l hl
    obtain ⟨i, hi, rfl⟩ := List.mem_map.1 hl
    exact (hf i (List.mem_range.1 hi)).2

/-- A row of the call's own whose elements are slices of bytes that hold ls. -/
def OwnRows (w : World) (base : Nat) (e : TypeId) (v : Value) (ls : List (List UInt8)) : Prop :=
  ∃ xs : List Value, w.ownsRow base e 1 v ls.length xs ∧ ∀ i x, xs[i]? = some x → IsBytes w x (ls.getD i [])

theorem OwnRows.nil (w : World) (base : Nat) (e : TypeId) : OwnRows w base e (.slice none 0 0) [] := ⟨[], ⟨rfl, .inl ⟨rfl, rfl⟩⟩, fun i x h => by simp at h⟩
theorem OwnRows.mono {w : World} {base base' : Nat} {e : TypeId} {v : Value} {ls : List (List UInt8)} (h : OwnRows w base e v ls) (hb : base' ≤ base) : OwnRows w base' e v ls := by
  obtain ⟨xs, h1, h2⟩ := h
  exact ⟨xs, World.ownsRow.mono h1 hb, h2⟩
theorem own_rows_shape {w : World} {base : Nat} {e : TypeId} {v : Value} {ls : List (List UInt8)} (h : OwnRows w base e v ls) : ∃ A c, v = .slice A ls.length c ∧ RowsAt w A ls ∧ (A = none → c = 0) ∧ ls.length ≤ c ∧ c ≤ 9223372036854775807 := by
  obtain ⟨xs, ho, hx⟩ := h
  have hl : xs.length = ls.length := by have := ho.1; omega
  rcases ho.2 with ⟨rfl, hn⟩ | ⟨g, cap, cur, rfl, hg, hh, hnc, hcm, hsz, ht⟩
  · exact ⟨none, 0, by rw [hn], fun k hk => by omega, fun _ => rfl, by omega, by omega⟩
  · refine ⟨some ⟨g, 0, none⟩, cap, rfl, fun k hk => ?_, (fun h => by cases h), hnc, by simpa [maxLen] using hcm⟩
    obtain ⟨y, h1⟩ : ∃ y, xs[k]? = some y := ⟨_, List.getElem?_eq_getElem (show k < xs.length by omega)⟩
    have h2 := hx k _ h1
    rw [← ht, List.getElem?_take, if_pos (by omega)] at h1
    refine ⟨g, 0, y, rfl, (Array.getElem?_eq_some_iff.1 hh).1, ?_, h2⟩
    rw [cell_of_row w g _ cur e (0, 0) hh]
    simpa using h1

theorem OwnRows.later {w w' : World} {base : Nat} {e : TypeId} {v : Value} {ls : List (List UInt8)} (h : OwnRows w base e v ls) (hb : Below w.heap.size w w') : OwnRows w' base e v ls := by
  obtain ⟨xs, ho, hx⟩ := h
  refine ⟨xs, ⟨ho.1, ?_⟩, fun i x hi => (hx i x hi).below hb⟩
  rcases ho.2 with h0 | ⟨g, cap, cur, rfl, hbg, hg, r⟩
  · exact .inl h0
  · exact .inr ⟨g, cap, cur, rfl, hbg, (hb.block g (Array.getElem?_eq_some_iff.1 hg).1).trans hg, r⟩
/-- What is owned is owned behind whatever leaves old memory alone. -/
theorem own_kept {w w' : World} {base : Nat} {e : TypeId} {size : Nat} {v : Value} {n : Nat} {xs : List Value} (h : w.ownsRow base e size v n xs) (hb : Below w.heap.size w w') : w'.ownsRow base e size v n xs := by
  refine ⟨h.1, ?_⟩
  rcases h.2 with h0 | ⟨g, cap, cur, rfl, hbg, hg, r⟩
  · exact .inl h0
  · exact .inr ⟨g, cap, cur, rfl, hbg, (hb.block g (Array.getElem?_eq_some_iff.1 hg).1).trans hg, r⟩
/-- Two rows of the call's own lie apart, and stay so where one is appended to. -/
def Apart (u v : Value) : Prop := u.ownBlock = none ∨ u.ownBlock ≠ v.ownBlock
theorem Apart.symm {u v : Value} (h : Apart u v) : Apart v u := by
  unfold Apart at h ⊢
  cases hv : v.ownBlock with
  | none => exact .inl rfl
  | some k =>
    right
    rcases h with h | h
    · rw [h]; simp
    · rw [hv] at h; exact fun e => h e.symm
theorem Apart.grown {w : World} {base : Nat} {e : TypeId} {size n : Nat} {u v v' : Value} {xs : List Value} (h : Apart u v) (hu : w.ownsRow base e size u n xs) {m : Nat} (hm : w.heap.size ≤ m) (hat : v'.ownBlock = v.ownBlock ∨ v'.ownBlock = some m) : Apart u v' := by
  unfold Apart at h ⊢
  rcases hat with h1 | h1
  · rw [h1]; exact h
  · cases hu0 : u.ownBlock with
    | none => exact .inl rfl
    | some k =>
      right
      rw [h1]
      intro e
      have := (hu.lt k hu0).2
      simp at e
      omega
theorem Apart.nil (v : Value) (n c : Nat) : Apart (.slice none n c) v := .inl (by simp [Value.ownBlock])
end Go.Proofs.Ytejlpdcoaejciaa
