/- The two New functions of the link layer (the program's and the document's) and 'opened', by their contracts. -/
import Derived.Test.YtejlpdcoaejciaaOwn
namespace Go.Proofs.Ytejlpdcoaejciaa
open Go.RowKit

theorem new_bad (n m : Int) (h : n < 1 ∨ n > 9 ∨ m < 0 ∨ m > 1048576) (w : World) :
    Calls Try.prog 13 #[.int .i64 n, .int .i64 m] w fun e w' => e = .returned (.tuple #[.pointer none, .int .i64 2]) ∧ w = w' := by
  go_enter Try.func13, Try.ntmps13
  go_wp2
  all_goals (go_ret2; exact ⟨rfl, rfl⟩)

theorem new_good (n m : Int) (h1 : 1 ≤ n) (h2 : n ≤ 9) (h3 : 0 ≤ m) (h4 : m ≤ 1048576) (w : World) :
    Calls Try.prog 13 #[.int .i64 n, .int .i64 m] w fun e w' => e = .returned (.tuple #[.pointer (some ⟨w.heap.size, 0, none⟩), .int .i64 0]) ∧ w.alloc (.cells #[.int .i64 n, .int .i64 m, .int .i64 0, .slice none 0 0] 79) = w' := by
  go_enter Try.func13, Try.ntmps13
  go_wp2
  all_goals (go_ret2; exact ⟨rfl, rfl⟩)

theorem rnew_bad (n m : Int) (h : n < 1 ∨ n > 9 ∨ m < 0 ∨ m > 1048576) (w : World) :
    Calls Try.prog 33 #[.int .i64 n, .int .i64 m] w fun e w' => e = .returned (.tuple #[.pointer none, .int .i64 2]) ∧ w = w' := by
  go_enter Try.func33, Try.ntmps33
  go_wp2
  all_goals (go_ret2; exact ⟨rfl, rfl⟩)

theorem rnew_good (n m : Int) (h1 : 1 ≤ n) (h2 : n ≤ 9) (h3 : 0 ≤ m) (h4 : m ≤ 1048576) (w : World) :
    Calls Try.prog 33 #[.int .i64 n, .int .i64 m] w fun e w' => e = .returned (.tuple #[.pointer (some ⟨w.heap.size, 0, none⟩), .int .i64 0]) ∧ w.alloc (.cells #[.int .i64 n, .int .i64 m, .int .i64 0, .slice none 0 0] 103) = w' := by
  go_enter Try.func33, Try.ntmps33
  go_wp2
  all_goals (go_ret2; exact ⟨rfl, rfl⟩)

theorem opened_bad (n m : Int) (h : n < 1 ∨ n > 9 ∨ m < 0 ∨ m > 1048576) (w : World) :
    Calls Try.prog 12 #[.agg #[.int .i64 n, .int .i64 m]] w fun e w' => e = .returned (.tuple #[.pointer none, .pointer none, .bool true]) ∧ w.alloc (.cells #[.int .i64 n, .int .i64 m] 27) = w' := by
  go_enter Try.func12, Try.ntmps12
  go_wp2_with (first | (go_at_call 13; refine (new_bad _ _ h _).mono ?_; rintro e w' ⟨rfl, rfl⟩) | (go_at_call 33; refine (rnew_bad _ _ h _).mono ?_; rintro e w' ⟨rfl, rfl⟩))
  go_ret3
  exact ⟨rfl, rfl⟩

theorem opened_good (n m : Int) (h1 : 1 ≤ n) (h2 : n ≤ 9) (h3 : 0 ≤ m) (h4 : m ≤ 1048576) (w : World) :
    Calls Try.prog 12 #[.agg #[.int .i64 n, .int .i64 m]] w fun e w' => e = .returned (.tuple #[.pointer (some ⟨w.heap.size + 1, 0, none⟩), .pointer (some ⟨w.heap.size + 1 + 1, 0, none⟩), .bool true]) ∧
      ((w.alloc (.cells #[.int .i64 n, .int .i64 m] 27)).alloc (.cells #[.int .i64 n, .int .i64 m, .int .i64 0, .slice none 0 0] 79)).alloc (.cells #[.int .i64 n, .int .i64 m, .int .i64 0, .slice none 0 0] 103) = w' := by
  go_enter Try.func12, Try.ntmps12
  go_wp2_with (first | (go_at_call 13; refine (new_good _ _ h1 h2 h3 h4 _).mono ?_; rintro e w' ⟨rfl, rfl⟩) | (go_at_call 33; refine (rnew_good _ _ h1 h2 h3 h4 _).mono ?_; rintro e w' ⟨rfl, rfl⟩))
  go_ret3
  exact ⟨rfl, rfl⟩
end Go.Proofs.Ytejlpdcoaejciaa
