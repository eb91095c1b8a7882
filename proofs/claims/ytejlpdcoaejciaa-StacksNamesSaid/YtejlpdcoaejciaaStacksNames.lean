/- StacksNames: the numbers of the stacks layer's errors. A closed sentence: no input, no condition. -/
import Derived.Test.YtejlpdcoaejciaaStacksDidGood
namespace Go.Proofs.Ytejlpdcoaejciaa
open Go.ChangeShapes Go.WideShapes Go.ChangeAt Go.RowKit

theorem snew (w : World) : Calls Try.prog 31 #[] w fun e w' => e = .returned (.pointer (some ⟨w.heap.size, 0, none⟩)) ∧ w.alloc (.cells #[.slice none 0 0, .slice none 0 0] 100) = w' := by
  go_enter Try.func31, Try.ntmps31
  go_wp2
  go_ret
  exact ⟨rfl, rfl⟩

/-- Did of a new id leaves all other old memory alone. -/
theorem names_walk (w : World) : Calls Try.prog 11 #[] w (Lawful w) := by
  go_enter Try.func11, Try.ntmps11
  go_wp2_with fail
  refine (snew _).mono ?_
  rintro e w' ⟨rfl, rfl⟩
  go_wp2_with fail
  refine (did_good 1 1 w.heap.size w.heap.size w.heap.size (Nat.le_refl _) (Nat.le_refl _) [] [] _ ⟨_, _, heap_alloc_new w _, ⟨rfl, .inl ⟨rfl, rfl⟩⟩, ⟨rfl, .inl ⟨rfl, rfl⟩⟩, fun k hk => by simp [Value.ownBlock] at hk⟩ (by simp) (by omega) (by simp) (by simp) (by simp) (by simp)).mono ?_
  rintro e w1 ⟨rfl, ⟨su, sr, hg, hu, hr, _⟩, hb⟩
  obtain ⟨A1, c1, e1, hi1⟩ := own_ids hu
  obtain ⟨A2, c2, e2, hi2⟩ := own_ids hr
  rw [e1, e2] at hg
  have HB := Lib.hid (((Below.refl w.heap.size w).alloc (Nat.le_refl _) (.cells #[.slice none 0 0, .slice none 0 0] 100)).trans hb)
  have HG := Lib.hid hg
  have hle : w.heap.size ≤ w1.heap.size := HB.out.size
  clear hu hr hb hg e1 e2
  go_wp2_with fail
  refine (did_twice 1 1 w.heap.size A1 A2 c1 c2 _ _ w1 HG.out (by omega) hi1 hi2 (by simp) (by simp) (.inl (by simp))).mono ?_
  rintro e w2 ⟨rfl, hb2⟩
  have HB2 := Lib.hid hb2
  clear hb2
  go_wp2
  go_ret
  exact ⟨rfl, HB.out.trans (HB2.out.mono hle)⟩

theorem StacksNames_opened {H : Type} (enc : TypeId × Value → H) (W : World) (base : Nat) (args : Array Value) (hlen : args.size = Try.f11.params.size)
    (_hval : ∀ (j : Nat) t v, Try.f11.params[j]? = some t → args[j]? = some v → Value.okWide Try.prog W .any base t v)
    (_hred : ∀ (j : Nat) t v, Try.f11.params[j]? = some t → args[j]? = some v → Red enc Try.prog W t v.cells.toList) :
    Calls Try.prog 11 args W (Lawful W) := by
  rw [Try.params11] at hlen
  obtain rfl := args0 (by simpa using hlen)
  exact names_walk W
set_option maxRecDepth 100000 in
theorem StacksNames_lifted (os : Os) (started : os.Started) (H : Type) (enc : TypeId × Value → H) :
    ReturnsInHanded {} Try.checked os 11 .any (Rows.stacksNamesSpec.pre6 enc Try.prog Try.f11 [] false) (Rows.stacksNamesSpec.post enc Try.prog Try.f11 false true false false) :=
  law_lifted (C := Try.checked) (tb := 4) Try.own started (by kernel_rfl) Try.func11
    (ChangeSpec.witness6 (enc := enc) (C := Try.checked) false ⟨#[], #[], []⟩ 8 (by kernel_rfl) (by kernel_rfl) (by kernel_rfl) (by kernel_rfl))
    rfl Try.laidOut (by kernel_rfl) (by kernel_rfl) Try.underlying4
    (by intro ds h; match ds, h with | [], _ => rfl) (fun W base args hlen hval hred => StacksNames_opened enc W base args hlen hval hred)

theorem StacksNames_holds : Rows.StacksNamesSaid :=
  OpenClaim.holds_of_wide 11 Try.f11 rfl rfl rfl rfl rfl rfl rfl ⟨rfl, rfl, rfl, rfl, rfl⟩ rfl rfl rfl rfl rfl (by kernel_rfl) Try.func11 (by kernel_rfl)
    (of_decide_eq_true (by kernel_rfl)) (by unfold Func.isWrapper; rw [if_neg (of_decide_eq_false (by kernel_rfl))]; exact ⟨rfl, rfl⟩)
    (fun os started H enc _ => StacksNames_lifted os started H enc)
#print axioms StacksNames_holds
end Go.Proofs.Ytejlpdcoaejciaa
