/- slices.Index, slices.Contains at ids, and the stacks' New and Did, by their contracts. -/
import Derived.Test.YtejlpdcoaejciaaOwn
import Derived.Test.YtejlpdcoaejciaaArr
import Derived.Test.YtejlpdcoaejciaaSpells
import Derived.Test.YtejlpdcoaejciaaApp
import Derived.Deep.RegionLaw
import Derived.Deep.RegionWith
import Derived.Deep.QuietTactic
import Derived.BigQuiet
import Derived.Lib.Hide
namespace Go.Proofs.Ytejlpdcoaejciaa
open Go.RowKit

theorem Try.eqID (w : World) (d : Nat) (a b a' b' : Int) : (Op.equalIn (d + 2) 67 (.agg #[.int .i64 a, .int .i64 b]) (.agg #[.int .i64 a', .int .i64 b'])).run Try.prog w = .ok (a == a' && b == b') w :=
  run_equalIn_pair w d 67 3 .i64 a b a' b' Try.underlying67 Try.underlying3 (by kernel_rfl)
attribute [local go_sem] Try.eqID

def IndexIs (l : List (Int × Int)) (x y : Int) (w : World) (e : Ending) (w' : World) : Prop := ∃ r : Int, e = .returned (.int .i64 r) ∧ (0 ≤ r ↔ (x, y) ∈ l) ∧ Below w.heap.size w w'

set_option maxHeartbeats 400000 in
set_option maxRecDepth 100000 in
theorem index_id (A : Option Addr) (c : Nat) (l : List (Int × Int)) (x y : Int) (w : World) (hl : IdsAt w A l) (hn : l.length * 16 ≤ 140737488351232) :
    Calls Try.prog 63 #[.slice A l.length c, .agg #[.int .i64 x, .int .i64 y]] w (IndexIs l x y w) := by
  go_enter Try.func63, Try.ntmps63
  go_wp2
  go_loopw [8] (fun i wr => ∃ k : Nat, k ≤ l.length ∧ i = .int .i64 k ∧ (x, y) ∉ l.take k ∧ Below w.heap.size w wr ∧ wr.cell? ⟨w.heap.size, 0, none⟩ = some (.int .i64 x) ∧ wr.cell? ⟨w.heap.size, 1, none⟩ = some (.int .i64 y))
    (fun i _ => l.length - (intOf i).toNat)
  case atStart =>
    refine ⟨0, Nat.zero_le _, rfl, by simp, (Below.refl _ _).alloc (Nat.le_refl _) _, by simp, by simp⟩
  case round =>
    obtain ⟨k, hk, rfl, hnot, hb, h1, h2⟩ := hrel
    by_cases hlt : k < l.length
    · obtain ⟨b, o, rfl, hb1, q0, q1⟩ := hl k hlt
      obtain ⟨⟨p, q⟩, hpq⟩ : ∃ p, p = l.getD k (0, 0) := ⟨_, rfl⟩
      rw [← hpq] at q0 q1
      have hmem : (p, q) = l[k] := by rw [hpq]; simp [List.getD, hlt]
      have e0 := (hb.cell (p := ⟨b, o + k * 2, none⟩) hb1).trans q0
      have e1 := (hb.cell (p := ⟨b, o + k * 2 + 1, none⟩) hb1).trans q1
      have HM := Lib.hid hmem
      have HN := Lib.hid hnot
      clear q0 q1 hl hpq hmem hnot
      by_cases hx : x = p ∧ y = q
      · obtain ⟨rfl, rfl⟩ := hx
        go_wp2
        go_quiet (fail)
        go_wp2
        go_ret
        refine ⟨k, rfl, ⟨fun _ => ?_, fun _ => by omega⟩, hb.trans ⟨rfl, rfl, rfl, Nat.le_refl _, fun _ _ => rfl⟩⟩
        rw [HM.out]; exact List.getElem_mem hlt
      · have hne : (x == p && y == q) = false := by
          rw [Bool.and_eq_false_iff, beq_eq_false_iff_ne, beq_eq_false_iff_ne]; omega
        have HX := Lib.hid hx
        clear hx
        go_wp2
        go_quiet (fail)
        go_wp2
        go_roundw
        case rel =>
          refine ⟨k + 1, by omega, by go_num, ?_, hb.trans ⟨rfl, rfl, rfl, Nat.le_refl _, fun _ _ => rfl⟩, h1, h2⟩
          rw [List.take_succ_eq_append_getElem hlt, List.mem_append, ← HM.out]
          rintro (h | h)
          · exact HN.out h
          · simp at h
            exact HX.out h
        case measure => simp [intOf]; omega
    · obtain rfl : k = l.length := by omega
      have HN := Lib.hid hnot
      clear hnot hl
      go_wp2
      go_ret
      refine ⟨-1, rfl, ⟨fun h => absurd h (by omega), fun h => ?_⟩, hb⟩
      exact absurd (by rw [List.take_length]; exact h) HN.out

theorem contains_id (A : Option Addr) (c : Nat) (l : List (Int × Int)) (x y : Int) (w : World) (hl : IdsAt w A l) (hn : l.length * 16 ≤ 140737488351232) :
    Calls Try.prog 51 #[.slice A l.length c, .agg #[.int .i64 x, .int .i64 y]] w fun e w' => e = .returned (.bool (decide ((x, y) ∈ l))) ∧ Below w.heap.size w w' := by
  have hl1 : IdsAt (w.alloc (.cells #[.int .i64 x, .int .i64 y] 67)) A l := hl.below ((Below.refl _ _).alloc (Nat.le_refl _) _)
  go_enter Try.func51, Try.ntmps51
  go_wp2_with fail
  refine (index_id A c l x y _ hl1 hn).mono ?_
  rintro e w' ⟨r, rfl, hr, hb⟩
  have HR := Lib.hid hr
  have HB := Lib.hid hb
  clear hr hb hl hl1
  go_wp2
  go_ret
  refine ⟨?_, ((Below.refl _ _).alloc (Nat.le_refl _) _).trans (HB.out.mono (by simp))⟩
  exact congrArg (fun b => Ending.returned (.bool b)) (decide_eq_decide.2 HR.out)

/-- The stacks behind the pointer g hold undo u and redo r; both lists lie in memory from base on. -/
def flat (l : List (Int × Int)) : List Value := l.flatMap fun p => [.int .i64 p.1, .int .i64 p.2]
def StacksAt (w : World) (base g : Nat) (u r : List (Int × Int)) : Prop :=
  ∃ su sr, w.heap[g]? = some (.cells #[su, sr] 100 (0, 0)) ∧ w.ownsRow base 67 2 su u.length (flat u) ∧ w.ownsRow base 67 2 sr r.length (flat r) ∧ (∀ k, su.ownBlock = some k → sr.ownBlock ≠ some k)

theorem flat_length (l : List (Int × Int)) : (flat l).length = l.length * 2 := by
  unfold flat
  induction l with
  | nil => rfl
  | cons p l ih => simp [ih]; omega
theorem flat_get (l : List (Int × Int)) : ∀ k, k < l.length → (flat l)[k * 2]? = some (.int .i64 (l.getD k (0, 0)).1) ∧ (flat l)[k * 2 + 1]? = some (.int .i64 (l.getD k (0, 0)).2) := by
  induction l with
  | nil => intro k h; simp at h
  | cons p l ih =>
    intro k h
    cases k with
    | zero => simp [flat]
    | succ k =>
      have := ih k (by simpa using h)
      simp only [flat, List.flatMap_cons] at this ⊢
      constructor
      · rw [show (k + 1) * 2 = k * 2 + 1 + 1 from by omega]; simpa using this.1
      · rw [show (k + 1) * 2 + 1 = k * 2 + 1 + 1 + 1 from by omega]; simpa using this.2

/-- An owned row of pairs is read as a slice of pairs. -/
theorem own_ids {w : World} {base : Nat} {e : TypeId} {v : Value} {l : List (Int × Int)} (h : w.ownsRow base e 2 v l.length (flat l)) : ∃ A c, v = .slice A l.length c ∧ IdsAt w A l := by
  rcases h.2 with ⟨rfl, hn⟩ | ⟨g, cap, cur, rfl, hg, hh, hnc, hcm, hsz, ht⟩
  · exact ⟨none, 0, by rw [hn], fun k hk => by omega⟩
  · refine ⟨some ⟨g, 0, none⟩, cap, rfl, fun k hk => ⟨g, 0, rfl, ?_, ?_, ?_⟩⟩
    · exact (Array.getElem?_eq_some_iff.1 hh).1
    · have h1 := (flat_get l k hk).1
      rw [← ht, List.getElem?_take, if_pos (by omega)] at h1
      rw [cell_of_row w g _ cur e (0, 0) hh]
      simpa using h1
    · have h1 := (flat_get l k hk).2
      rw [← ht, List.getElem?_take, if_pos (by omega)] at h1
      rw [cell_of_row w g _ cur e (0, 0) hh]
      simpa using h1
end Go.Proofs.Ytejlpdcoaejciaa
