/- LinkNames: the numbers of the link layer's errors and its limits. A closed sentence: no input, no condition. -/
import Derived.Test.YtejlpdcoaejciaaLinkNew
namespace Go.Proofs.Ytejlpdcoaejciaa
open Go.ChangeShapes Go.WideShapes Go.ChangeAt Go.RowKit

theorem names_walk (w : World) : Calls Try.prog 3 #[] w (Lawful w) := by
  go_enter Try.func3, Try.ntmps3
  go_wp2_with (first | (go_at_call 12; refine (opened_good _ _ (by omega) (by omega) (by omega) (by omega) _).mono ?_; rintro e w' ⟨rfl, rfl⟩))
  go_ret
  exact ⟨rfl, (((Below.refl _ _).alloc (Nat.le_refl _) _).alloc (by simp) _).alloc (by simp; omega) _⟩

theorem LinkNames_opened {H : Type} (enc : TypeId × Value → H) (W : World) (base : Nat) (args : Array Value) (ds : List (DataW H)) (p : List MemPlace)
    (hval : ∀ (j : Nat) t v, Try.f3.params[j]? = some t → args[j]? = some v → Value.okWide Try.prog W .any base t v)
    (hA : DataW.TrodAll enc Try.prog W 0 (fun _ => true) true Try.f3.params.toList args.toList ds p)
    (hsz : (DataW.weightsEach Try.prog Try.f3.params.toList ds).all (· ≤ reachBytes) = true) :
    Calls Try.prog 3 args W (Lawful W) := by
  rw [Try.params3] at hA
  obtain ⟨hargs, rfl, rfl⟩ := trodAll_nil hA
  obtain rfl : args = #[] := by cases args; simp_all
  exact names_walk W
set_option maxRecDepth 100000 in
theorem LinkNames_lifted (os : Os) (started : os.Started) (H : Type) (enc : TypeId × Value → H) :
    ReturnsInHanded {} Try.checked os 3 .any (Rows.linkNamesSpec.pre6 enc Try.prog Try.f3 [] false) (Rows.linkNamesSpec.post enc Try.prog Try.f3 false true false false) :=
  law_lifted (C := Try.checked) (tb := 4) Try.own started (by kernel_rfl) Try.func3
    (ChangeSpec.witness6 (enc := enc) (C := Try.checked) false ⟨#[], #[], []⟩ 8 (by kernel_rfl) (by kernel_rfl) (by kernel_rfl) (by kernel_rfl))
    rfl Try.laidOut (by kernel_rfl) (by kernel_rfl) Try.underlying4
    (by intro ds h; match ds, h with | [], _ => rfl) (fun W base args ds p hval hA hsz => LinkNames_opened enc W base args ds p hval hA hsz)

theorem LinkNames_holds : Rows.LinkNamesSaid :=
  OpenClaim.holds_of_wide 3 Try.f3 rfl rfl rfl rfl rfl rfl rfl ⟨rfl, rfl, rfl, rfl, rfl⟩ rfl rfl rfl rfl rfl (by kernel_rfl) Try.func3 (by kernel_rfl)
    (of_decide_eq_true (by kernel_rfl)) (by unfold Func.isWrapper; rw [if_neg (of_decide_eq_false (by kernel_rfl))]; exact ⟨rfl, rfl⟩)
    (fun os started H enc _ => LinkNames_lifted os started H enc)
#print axioms LinkNames_holds
end Go.Proofs.Ytejlpdcoaejciaa
