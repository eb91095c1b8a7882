/- The stacks' Did, by its contract. -/
import Derived.Test.YtejlpdcoaejciaaStacksBase
import Derived.Deep.RegionHeld3
import Derived.Deep.RegionLaw
import Derived.Deep.AppendLies
import Derived.Test.YtejlpdcoaejciaaLater
namespace Go.Proofs.Ytejlpdcoaejciaa
open Go.RowKit

theorem did_bad (x y : Int) (v : Value) (h : ¬ (1 ≤ x ∧ x ≤ 8 ∧ 1 ≤ y ∧ y ≤ 1024)) (w : World) :
    Calls Try.prog 32 #[v, .agg #[.int .i64 x, .int .i64 y]] w fun e w' => e = .returned (.int .i64 41) ∧ w.alloc (.cells #[.int .i64 x, .int .i64 y] 67) = w' := by
  go_enter Try.func32, Try.ntmps32
  go_wp2
  all_goals (go_ret; exact ⟨rfl, rfl⟩)


set_option maxHeartbeats 1600000 in
set_option maxRecDepth 100000 in
theorem did_twice (x y : Int) (g : Nat) (A1 A2 : Option Addr) (c1 c2 : Nat) (u r : List (Int × Int)) (w : World) (hg : w.heap[g]? = some (.cells #[.slice A1 u.length c1, .slice A2 r.length c2] 100 (0, 0)))
    (h : 1 ≤ x ∧ x ≤ 8 ∧ 1 ≤ y ∧ y ≤ 1024) (hu : IdsAt w A1 u) (hr : IdsAt w A2 r) (hn : u.length * 16 ≤ 140737488351232) (hn2 : r.length * 16 ≤ 140737488351232) (hm : (x, y) ∈ u ∨ (x, y) ∈ r) :
    Calls Try.prog 32 #[.pointer (some ⟨g, 0, none⟩), .agg #[.int .i64 x, .int .i64 y]] w fun e w' => e = .returned (.int .i64 61) ∧ Below w.heap.size w w' := by
  obtain ⟨x1, x2, y1, y2⟩ := h
  have hlt : g < w.heap.size := (Array.getElem?_eq_some_iff.1 hg).1
  have c0 : w.cell? ⟨g, 0, none⟩ = some (.slice A1 u.length c1) := by rw [cell_of_row w g _ _ _ (0, 0) hg]; rfl
  have c1' : w.cell? ⟨g, 1, none⟩ = some (.slice A2 r.length c2) := by rw [cell_of_row w g _ _ _ (0, 0) hg]; rfl
  have HC := Lib.hid (fun (w' : World) (hb : Below w.heap.size w w') => contains_id A1 c1 u x y w' (hu.below hb) hn)
  have HD := Lib.hid (fun (w' : World) (hb : Below w.heap.size w w') => contains_id A2 c2 r x y w' (hr.below hb) hn2)
  have hL := @Later.cell (w.alloc (.cells #[.int .i64 x, .int .i64 y] 67))
  have hlt1 : g < w.heap.size + 1 := by omega
  clear hg hu hr
  by_cases hmu : (x, y) ∈ u
  · rw [decide_eq_true hmu] at HC
    clear HD hm hmu
    go_enter Try.func32, Try.ntmps32
    go_wp2
    refine wp_region_later (by kernel_rfl) (by kernel_rfl) ?_
    repeat (go_big_quiet_step ((go_at_call 51; exact Calls.later (HC.out _ (((Below.refl _ _).alloc (Nat.le_refl _) _).trans ((Subtype.property _ : Below _ _ _).mono (by simp)))))))
    refine wpQuiet_nil ?_
    rintro w' ⟨⟨w1, hb1⟩, rfl⟩
    clear hL
    go_wp2
    go_ret
    exact ⟨rfl, ((Below.refl _ _).alloc (Nat.le_refl _) _).trans (hb1.mono (by simp))⟩
  · have hmr : (x, y) ∈ r := by rcases hm with h | h; exact absurd h hmu; exact h
    rw [decide_eq_false hmu] at HC
    rw [decide_eq_true hmr] at HD
    clear hm hmu hmr
    go_enter Try.func32, Try.ntmps32
    go_wp2
    refine wp_region_later (by kernel_rfl) (by kernel_rfl) ?_
    repeat (go_big_quiet_step ((go_at_call 51; first | exact Calls.later (HC.out _ (((Below.refl _ _).alloc (Nat.le_refl _) _).trans ((Subtype.property _ : Below _ _ _).mono (by simp)))) | exact Calls.later (HD.out _ (((Below.refl _ _).alloc (Nat.le_refl _) _).trans ((Subtype.property _ : Below _ _ _).mono (by simp)))))))
    refine wpQuiet_nil ?_
    rintro w' ⟨⟨w1, hb1⟩, rfl⟩
    clear hL
    go_wp2
    go_ret
    exact ⟨rfl, ((Below.refl _ _).alloc (Nat.le_refl _) _).trans (hb1.mono (by simp))⟩

theorem flat_one (x y : Int) : flat [(x, y)] = [.int .i64 x, .int .i64 y] := rfl
theorem flat_append (a b : List (Int × Int)) : flat (a ++ b) = flat a ++ flat b := by simp [flat]

/-- What is owned is owned behind whatever leaves old memory alone. -/
theorem pw_own_below' {w w1 : World} {base : Nat} {e : TypeId} {size n : Nat} {v : Value} {xs : List Value} (h : w.ownsRow base e size v n xs) (hb : Below w.heap.size w w1) : w1.ownsRow base e size v n xs := by
  refine ⟨h.1, ?_⟩
  rcases h.2 with h2 | ⟨g, cap, cur, hv, hg, hh, hr⟩
  · exact .inl h2
  · exact .inr ⟨g, cap, cur, hv, hg, (hb.block g (Array.getElem?_eq_some_iff.1 hh).1).trans hh, hr⟩

theorem stacks_put {w : World} {g gg base n cap : Nat} {su sr : Value} {u : List (Int × Int)} {x y : Int} (hg : w.heap[g]? = some (.cells #[su, sr] 100 (0, 0)))
    (ho : w.ownsRow base 67 2 (.slice (some ⟨gg, 0, none⟩) (u.length + 1) cap) n (flat u ++ [.int .i64 x, .int .i64 y])) (hne : gg ≠ g) :
    StacksAt ((w.setCell ⟨g, 0, none⟩ (.slice (some ⟨gg, 0, none⟩) (u.length + 1) cap)).setCell ⟨g, 1, none⟩ (.slice none 0 0)) base g (u ++ [(x, y)]) [] := by
  have hn : n = u.length + 1 := by
    have := ho.1
    rw [List.length_append, flat_length] at this
    simp at this; omega
  subst hn
  refine ⟨.slice (some ⟨gg, 0, none⟩) (u.length + 1) cap, .slice none 0 0, ?_, ?_, ⟨rfl, .inl ⟨rfl, rfl⟩⟩, fun k _ => by simp [Value.ownBlock]⟩
  · simp [World.setCell, Array.getElem?_modify, hg]
  · rw [flat_append, flat_one, List.length_append]
    exact ownsRow_setCell_other (ownsRow_setCell_other ho (by simp [Value.ownBlock]; omega) _) (by simp [Value.ownBlock]; omega) _

end Go.Proofs.Ytejlpdcoaejciaa
