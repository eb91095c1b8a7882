/- Laws for arrays of two whole numbers (compared, read as an element), and a slice of such arrays as a list of pairs. For any program. -/
import Derived.WalkKit
import Derived.ProofKit
import Derived.Test.YtloccjkcmlkifaaDoorOpen
namespace Go.Proofs.YtloccjkcmlkifaaDoor
open Go.RowKit

theorem run_part_int {P : Program} (w : World) (e : TypeId) (k : IntKind) (he : P.underlying e = some (.int k)) (cs : Array Value) (off : Nat) (v : Value) (h : cs[off]? = some v) :
    (part e cs off).run P w = .ok v w := by
  simp [part, isAgg, run_underlying he, h]
theorem run_sizeOf {P : Program} (w : World) (e : TypeId) (i : TypeInfo) (hi : P.info? e = some i) : (sizeOf e).run P w = .ok i.size w := by
  simp [sizeOf, typeInfo, hi]
theorem run_equalIn_pair {P : Program} (w : World) (d : Nat) (t e : TypeId) (k : IntKind) (a b a' b' : Int) (ht : P.underlying t = some (.array 2 e)) (he : P.underlying e = some (.int k)) (hi : (P.info? e).map (·.size) = some 1) :
    (Op.equalIn (d + 2) t (.agg #[.int k a, .int k b]) (.agg #[.int k a', .int k b'])).run P w = .ok (a == a' && b == b') w := by
  obtain ⟨i, hi, hs⟩ := Option.map_eq_some_iff.1 hi
  have hr : List.range' 0 2 1 = [0, 1] := rfl
  have p0 : ∀ (w : World) x y, (part e #[x, y] (0 * i.size)).run P w = .ok x w := fun w x y => run_part_int w e k he _ _ _ (by simp)
  have p1 : ∀ (w : World) x y, (part e #[x, y] i.size).run P w = .ok y w := fun w x y => run_part_int w e k he _ _ _ (by simp [hs])
  unfold Op.equalIn
  simp only [Sem.run_bind, run_underlying ht, Result.andThen_ok, run_sizeOf w e i hi, Std.Legacy.Range.forIn_eq_forIn_range', Std.Legacy.Range.size, Nat.sub_zero, Nat.add_sub_cancel, Nat.div_one, hr, List.forIn_cons, List.forIn_nil, p0, Nat.one_mul, run_equalIn_int _ _ _ _ _ _ _ he]
  cases h1 : (a == a') <;> cases h2 : (b == b') <;> simp [p1, run_equalIn_int _ _ _ _ _ _ _ he, h2]

def IdsAt (w : World) (A : Option Addr) (l : List (Int × Int)) : Prop :=
  ∀ k, k < l.length → ∃ b o, A = some ⟨b, o, none⟩ ∧ b < w.heap.size ∧ w.cell? ⟨b, o + k * 2, none⟩ = some (.int .i64 (l.getD k (0, 0)).1) ∧ w.cell? ⟨b, o + k * 2 + 1, none⟩ = some (.int .i64 (l.getD k (0, 0)).2)

theorem IdsAt.below {w w' : World} {A : Option Addr} {l : List (Int × Int)} (h : IdsAt w A l) (hb : Below w.heap.size w w') : IdsAt w' A l := by
  intro k hk'
  obtain ⟨b, o, hA, hb', h1, h2⟩ := h k hk'
  exact ⟨b, o, hA, by have := hb.size; omega, (hb.cell (p := ⟨b, _, none⟩) hb').trans h1, (hb.cell (p := ⟨b, _, none⟩) hb').trans h2⟩

end Go.Proofs.YtloccjkcmlkifaaDoor

