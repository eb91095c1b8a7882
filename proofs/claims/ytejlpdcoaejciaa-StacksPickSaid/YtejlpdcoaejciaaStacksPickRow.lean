/- StacksPick: the row. -/
import Derived.Test.YtejlpdcoaejciaaOwn
import Derived.Test.YtejlpdcoaejciaaStacksPickWalk
namespace Go.Proofs.Ytejlpdcoaejciaa
open Go.ChangeShapes Go.WideShapes Go.ChangeAt Go.RowKit

set_option maxRecDepth 100000 in
theorem StacksPick_opened {H : Type} (enc : TypeId × Value → H) (W : World) (base : Nat) (args : Array Value) (hlen : args.size = Try.f9.params.size)
    (hval : ∀ (j : Nat) t v, Try.f9.params[j]? = some t → args[j]? = some v → Value.okWide Try.prog W .any base t v)
    (hred : ∀ (j : Nat) t v, Try.f9.params[j]? = some t → args[j]? = some v → Red enc Try.prog W t v.cells.toList) :
    Calls Try.prog 9 args W (Lawful W) := by
  rw [Try.params9] at hlen hval hred
  obtain ⟨v0, v1, v2, rfl⟩ := args3 (by simpa using hlen)
  obtain ⟨a0, n0, c0, rfl⟩ := okWide_slice Try.underlying65 (hval 0 65 v0 rfl rfl)
  obtain ⟨rest, rfl⟩ := okWide_int Try.underlying3 (hval 1 3 v1 rfl rfl)
  obtain ⟨by', rfl⟩ := okWide_int Try.underlying3 (hval 2 3 v2 rfl rfl)
  obtain ⟨A, c, l, hcs, h1, h2, h3, h4, _⟩ := red_ids Try.underlying65 Try.underlying67 Try.underlying3 (by kernel_rfl) (by kernel_rfl) (by kernel_rfl) (hred 0 65 _ rfl rfl)
  simp [Value.cells] at hcs
  obtain ⟨rfl, rfl, rfl⟩ := hcs
  exact spick_walk _ _ l rest by' W h3 h4 h1 h2
set_option maxRecDepth 100000 in
theorem StacksPick_lifted (os : Os) (started : os.Started) (H : Type) (enc : TypeId × Value → H) :
    ReturnsInHanded {} Try.checked os 9 .any (Rows.stacksPickSpec.pre6 enc Try.prog Try.f9 [] false) (Rows.stacksPickSpec.post enc Try.prog Try.f9 false true false false) :=
  law_lifted (C := Try.checked) (tb := 4) Try.own started (by kernel_rfl) Try.func9
    (ChangeSpec.witness6 (enc := enc) (C := Try.checked) false ⟨#[], #[.slice none 0 0, .int .i64 0, .int .i64 0], []⟩ 8 (by kernel_rfl) (by kernel_rfl) (by kernel_rfl) (by kernel_rfl))
    rfl Try.laidOut (by kernel_rfl) (by kernel_rfl) Try.underlying4
    (by intro ds h; match ds, h with | [_, _, _], _ => rfl) (fun W base args hlen hval hred => StacksPick_opened enc W base args hlen hval hred)

theorem StacksPick_holds : Rows.StacksPickSaid :=
  OpenClaim.holds_of_wide 9 Try.f9 rfl rfl rfl rfl rfl rfl rfl ⟨rfl, rfl, rfl, rfl, rfl⟩ rfl rfl rfl rfl rfl (by kernel_rfl) Try.func9 (by kernel_rfl)
    (of_decide_eq_true (by kernel_rfl)) (by unfold Func.isWrapper; rw [if_neg (of_decide_eq_false (by kernel_rfl))]; exact ⟨rfl, rfl⟩)
    (fun os started H enc _ => StacksPick_lifted os started H enc)
#print axioms StacksPick_holds
end Go.Proofs.Ytejlpdcoaejciaa
