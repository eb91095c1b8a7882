/- LinkFull: the row. -/
import Derived.Test.YtejlpdcoaejciaaOwn
import Derived.Test.YtejlpdcoaejciaaLinkFullWalk
namespace Go.Proofs.Ytejlpdcoaejciaa
open Go.ChangeShapes Go.WideShapes Go.ChangeAt Go.RowKit

set_option maxRecDepth 100000 in
theorem LinkFull_opened {H : Type} (enc : TypeId × Value → H) (W : World) (base : Nat) (args : Array Value) (hlen : args.size = Try.f6.params.size)
    (hval : ∀ (j : Nat) t v, Try.f6.params[j]? = some t → args[j]? = some v → Value.okWide Try.prog W .any base t v)
    (_hred : ∀ (j : Nat) t v, Try.f6.params[j]? = some t → args[j]? = some v → Red enc Try.prog W t v.cells.toList) :
    Calls Try.prog 6 args W (Lawful W) := by
  rw [Try.params6] at hlen hval
  obtain ⟨v0, v1, rfl⟩ := args2 (by simpa using hlen)
  obtain ⟨node, rfl⟩ := okWide_int Try.underlying3 (hval 0 3 v0 rfl rfl)
  obtain ⟨at', rfl⟩ := okWide_int Try.underlying3 (hval 1 3 v1 rfl rfl)
  exact full_walk node at' W
set_option maxRecDepth 100000 in
theorem LinkFull_lifted (os : Os) (started : os.Started) (H : Type) (enc : TypeId × Value → H) :
    ReturnsInHanded {} Try.checked os 6 .any (Rows.linkFullSpec.pre6 enc Try.prog Try.f6 [] false) (Rows.linkFullSpec.post enc Try.prog Try.f6 false true false false) :=
  law_lifted (C := Try.checked) (tb := 4) Try.own started (by kernel_rfl) Try.func6
    (ChangeSpec.witness6 (enc := enc) (C := Try.checked) false ⟨#[], #[.int .i64 0, .int .i64 0], []⟩ 8 (by kernel_rfl) (by kernel_rfl) (by kernel_rfl) (by kernel_rfl))
    rfl Try.laidOut (by kernel_rfl) (by kernel_rfl) Try.underlying4
    (by intro ds h; match ds, h with | [_, _], _ => rfl) (fun W base args hlen hval hred => LinkFull_opened enc W base args hlen hval hred)

theorem LinkFull_holds : Rows.LinkFullSaid :=
  OpenClaim.holds_of_wide 6 Try.f6 rfl rfl rfl rfl rfl rfl rfl ⟨rfl, rfl, rfl, rfl, rfl⟩ rfl rfl rfl rfl rfl (by kernel_rfl) Try.func6 (by kernel_rfl)
    (of_decide_eq_true (by kernel_rfl)) (by unfold Func.isWrapper; rw [if_neg (of_decide_eq_false (by kernel_rfl))]; exact ⟨rfl, rfl⟩)
    (fun os started H enc _ => LinkFull_lifted os started H enc)
#print axioms LinkFull_holds
end Go.Proofs.Ytejlpdcoaejciaa
