/- Laws for arrays of two whole numbers (compared, read as an element), and a slice of such arrays as a list of pairs. For any program. -/
import Derived.WalkKit
import Derived.ProofKit
import Derived.Test.YtejlpdcoaejciaaOpen
namespace Go.Proofs.Ytejlpdcoaejciaa
open Go.RowKit

theorem run_part_int {P : Program} (w : World) (e : TypeId) (k : IntKind) (he : P.underlying e = some (.int k)) (cs : Array Value) (off : Nat) (v : Value) (h : cs[off]? = some v) :
    (part e cs off).run P w = .ok v w := by
  simp [part, isAgg, run_underlying he, h]
theorem run_sizeOf {P : Program} (w : World) (e : TypeId) (i : TypeInfo) (hi : P.info? e = some i) : (sizeOf e).run P w = .ok i.size w := by
  simp [sizeOf, typeInfo, hi]
theorem run_equalIn_pair {P : Program} (w : World) (d : Nat) (t e : TypeId) (k : IntKind) (a b a' b' : Int) (ht : P.underlying t = some (.array 2 e)) (he : P.underlying e = some (.int k)) (hi : (P.info? e).map (·.size) = some 1) :
    (Op.equalIn (d + 2) t (.agg #[.int k a, .int k b]) (.agg #[.int k a', .int k b'])).run P w = .ok (a == a' && b == b') w := by
  obtain ⟨i, hi, hs⟩ := Option.map_eq_some_iff.1 hi
  have hr : List.range' 0 2 1 = [0, 1] := rfl
  have p0 : ∀ (w : World) x y, (part e #[x, y] (0 * i.size)).run P w = .ok x w := fun w x y => run_part_int w e k he _ _ _ (by simp)
  have p1 : ∀ (w : World) x y, (part e #[x, y] i.size).run P w = .ok y w := fun w x y => run_part_int w e k he _ _ _ (by simp [hs])
  unfold Op.equalIn
  simp only [Sem.run_bind, run_underlying ht, Result.andThen_ok, run_sizeOf w e i hi, Std.Legacy.Range.forIn_eq_forIn_range', Std.Legacy.Range.size, Nat.sub_zero, Nat.add_sub_cancel, Nat.div_one, hr, List.forIn_cons, List.forIn_nil, p0, Nat.one_mul, run_equalIn_int _ _ _ _ _ _ _ he]
  cases h1 : (a == a') <;> cases h2 : (b == b') <;> simp [p1, run_equalIn_int _ _ _ _ _ _ _ he, h2]

/-- The slice that begins at A holds the pairs l, an element two cells. -/
def IdsAt (w : World) (A : Option Addr) (l : List (Int × Int)) : Prop :=
  ∀ k, k < l.length → ∃ b o, A = some ⟨b, o, none⟩ ∧ b < w.heap.size ∧ w.cell? ⟨b, o + k * 2, none⟩ = some (.int .i64 (l.getD k (0, 0)).1) ∧ w.cell? ⟨b, o + k * 2 + 1, none⟩ = some (.int .i64 (l.getD k (0, 0)).2)

theorem IdsAt.keep {w w' : World} {A : Option Addr} {l : List (Int × Int)} (h : IdsAt w A l) (hs : w.heap.size ≤ w'.heap.size) (hk : ∀ b o, A = some ⟨b, o, none⟩ → 0 < l.length → ∀ j, w'.cell? ⟨b, j, none⟩ = w.cell? ⟨b, j, none⟩) : IdsAt w' A l := by
  intro k hk'
  obtain ⟨b, o, hA, hb, h1, h2⟩ := h k hk'
  exact ⟨b, o, hA, by omega, (hk b o hA (by omega) _).trans h1, (hk b o hA (by omega) _).trans h2⟩
theorem IdsAt.below {w w' : World} {A : Option Addr} {l : List (Int × Int)} (h : IdsAt w A l) (hb : Below w.heap.size w w') : IdsAt w' A l := by
  intro k hk'
  obtain ⟨b, o, hA, hb', h1, h2⟩ := h k hk'
  exact ⟨b, o, hA, by have := hb.size; omega, (hb.cell (p := ⟨b, _, none⟩) hb').trans h1, (hb.cell (p := ⟨b, _, none⟩) hb').trans h2⟩

theorem red_ids {H : Type} {enc : TypeId × Value → H} {P : Program} {w : World} {t e ei : TypeId} {cs : List Value} (ht : P.underlying t = some (.slice e)) (he : P.underlying e = some (.array 2 ei)) (hei : P.underlying ei = some (.int .i64))
    (c2 : P.cellsOf e = 2) (c1 : P.cellsOf ei = 1) (b16 : P.bytesOf e = 16) (h : Red enc P w t cs) :
    ∃ (A : Option Addr) (c : Nat) (l : List (Int × Int)), cs = [.slice A l.length c] ∧ l.length ≤ c ∧ c * 16 ≤ 140737488351232 ∧ IdsAt w A l ∧ (A = none → c = 0) ∧ ∀ p ∈ l, (Lit.int .i64 p.1).wf = true ∧ (Lit.int .i64 p.2).wf = true := by
  obtain ⟨A, n, c, rfl, h1, h2, h3, h4, h5⟩ := red_slice ht (by omega) h
  rw [c2] at h5
  rw [b16] at h2
  have hf : ∀ i, i < n → ∃ p : Int × Int, (∃ b o, A = some ⟨b, o, none⟩ ∧ b < w.heap.size ∧ w.cell? ⟨b, o + i * 2, none⟩ = some (.int .i64 p.1) ∧ w.cell? ⟨b, o + i * 2 + 1, none⟩ = some (.int .i64 p.2)) ∧ (Lit.int .i64 p.1).wf = true ∧ (Lit.int .i64 p.2).wf = true := by
    intro i hi
    obtain ⟨b, o, hA, hb⟩ := h3 (by omega)
    obtain ⟨cs', hl, hc, hr⟩ := h5 b o hA i (by omega)
    obtain ⟨_, hr⟩ := red_array he hr
    match cs', hl with
    | [x, y], _ =>
      obtain ⟨n0, e0, w0⟩ := red_int hei (hr 0 (by omega))
      obtain ⟨n1, e1, w1⟩ := red_int hei (hr 1 (by omega))
      simp [c1] at e0 e1
      subst e0 e1
      have q0 := hc 0 (by omega)
      have q1 := hc 1 (by omega)
      refine ⟨(n0, n1), ⟨b, o, hA, hb, by simpa using q0, by simpa [Nat.add_assoc] using q1⟩, w0, w1⟩
  obtain ⟨f, hf⟩ := Go.Deep.choose_lt hf
  refine ⟨A, c, (List.range n).map f, by simp, by simpa using h1, h2, ?_, h4, ?_⟩
  · intro k hk
    simp at hk
    obtain ⟨⟨b, o, hA, hb, q0, q1⟩, _⟩ := hf k hk
    refine ⟨b, o, hA, hb, ?_, ?_⟩
    · simpa [List.getD, hk] using q0
    · simpa [List.getD, hk] using q1
  · intro p hp
    obtain ⟨i, hi, rfl⟩ := List.mem_map.1 hp
    exact (hf i (by simpa using hi)).2
end Go.Proofs.Ytejlpdcoaejciaa
