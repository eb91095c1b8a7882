/- LinkBounds: New gives a link just for 1 to 9 nodes and room for 0 to 1048576 packets. Proved for every pair of whole numbers, with no condition. -/
import Derived.Test.YtejlpdcoaejciaaRows
import Derived.Test.YtejlpdcoaejciaaLaw
namespace Go.Proofs.Ytejlpdcoaejciaa
open Go.ChangeShapes Go.WideShapes Go.ChangeAt Go.RowKit

theorem Try.own : ownKnob Try.prog.godebug = none := by kernel_rfl
theorem Try.laidOut : laidOutB Try.prog = true := by kernel_rfl

theorem new_bad (n m : Int) (h : n < 1 ∨ n > 9 ∨ m < 0 ∨ m > 1048576) (w : World) :
    Calls Try.prog 13 #[.int .i64 n, .int .i64 m] w fun e w' => e = .returned (.tuple #[.pointer none, .int .i64 2]) ∧ w = w' := by
  go_enter Try.func13, Try.ntmps13
  go_wp2
  all_goals (go_ret2; exact ⟨rfl, rfl⟩)

theorem new_good (n m : Int) (h1 : 1 ≤ n) (h2 : n ≤ 9) (h3 : 0 ≤ m) (h4 : m ≤ 1048576) (w : World) :
    Calls Try.prog 13 #[.int .i64 n, .int .i64 m] w fun e w' => e = .returned (.tuple #[.pointer (some ⟨w.heap.size, 0, none⟩), .int .i64 0]) ∧ w.alloc (.cells #[.int .i64 n, .int .i64 m, .int .i64 0, .slice none 0 0] 79) = w' := by
  go_enter Try.func13, Try.ntmps13
  go_wp2
  all_goals (go_ret2; exact ⟨rfl, rfl⟩)

theorem bounds_walk (n m : Int) (w : World) :
    Calls Try.prog 4 #[.int .i64 n, .int .i64 m] w (Lawful w) := by
  by_cases h : n < 1 ∨ n > 9 ∨ m < 0 ∨ m > 1048576
  · go_enter Try.func4, Try.ntmps4
    go_wp2_with (first | (go_at_call 13; refine (new_good _ _ (by omega) (by omega) (by omega) (by omega) _).mono ?_; rintro e w' ⟨rfl, rfl⟩) | (go_at_call 13; refine (new_bad _ _ h _).mono ?_; rintro e w' ⟨rfl, rfl⟩))
    all_goals go_ret
    all_goals exact ⟨rfl, (Below.refl _ _).alloc (Nat.le_refl _) _⟩
  · have h1 : 1 ≤ n := by omega
    have h2 : n ≤ 9 := by omega
    have h3 : 0 ≤ m := by omega
    have h4 : m ≤ 1048576 := by omega
    clear h
    go_enter Try.func4, Try.ntmps4
    go_wp2_with (first | (go_at_call 13; refine (new_good _ _ (by omega) (by omega) (by omega) (by omega) _).mono ?_; rintro e w' ⟨rfl, rfl⟩) | go_in)
    all_goals go_ret
    all_goals exact ⟨rfl, (Below.refl _ _).alloc (Nat.le_refl _) _⟩

set_option maxRecDepth 100000 in
theorem bounds_lifted (os : Os) (started : os.Started) (H : Type) (enc : TypeId × Value → H) :
    ReturnsInHanded {} Try.checked os 4 .any (Rows.linkBoundsSpec.pre6 enc Try.prog Try.f4 [] false) (Rows.linkBoundsSpec.post enc Try.prog Try.f4 false true false false) := by
  refine law_lifted (C := Try.checked) (tb := 4) Try.own started (by kernel_rfl) Try.func4
    (ChangeSpec.witness6 (enc := enc) (C := Try.checked) false ⟨#[], #[.int .i64 0, .int .i64 0], []⟩ 8 (by kernel_rfl) (by kernel_rfl) (by kernel_rfl) (by kernel_rfl))
    rfl Try.laidOut (by intro t ht; rw [Try.params4] at ht; simp at ht; subst ht; exact ⟨by kernel_rfl, of_decide_eq_true (by kernel_rfl)⟩) (by kernel_rfl) Try.underlying4
    (by intro ds h; match ds, h with | [_, _], _ => rfl) ?_
  intro W base args ds p hval hA hsz
  rw [Try.params4] at hA hval
  obtain ⟨v0, vs0, d0, ds0, p0, q0, hargs, rfl, rfl, h0, r0⟩ := trodAll_cons hA
  obtain ⟨v1, vs1, d1, ds1, p1, q1, rfl, rfl, rfl, h1, r1⟩ := trodAll_cons r0
  obtain ⟨rfl, rfl, rfl⟩ := trodAll_nil r1
  obtain rfl : args = #[v0, v1] := by cases args; simp_all
  obtain ⟨a0, rfl, rfl, rfl, w0⟩ := open_int Try.underlying3 (hval 0 3 v0 rfl rfl) h0
  obtain ⟨a1, rfl, rfl, rfl, w1⟩ := open_int Try.underlying3 (hval 1 3 v1 rfl rfl) h1
  exact bounds_walk a0 a1 W

theorem LinkBounds_holds : Rows.LinkBoundsSaid :=
  OpenClaim.holds_of_wide 4 Try.f4 rfl rfl rfl rfl rfl rfl rfl ⟨rfl, rfl, rfl, rfl, rfl⟩ rfl rfl rfl rfl rfl (by kernel_rfl) Try.func4 (by kernel_rfl)
    (of_decide_eq_true (by kernel_rfl)) (by unfold Func.isWrapper; rw [if_neg (of_decide_eq_false (by kernel_rfl))]; exact ⟨rfl, rfl⟩)
    (fun os started H enc _ => bounds_lifted os started H enc)
#print axioms LinkBounds_holds
end Go.Proofs.Ytejlpdcoaejciaa
