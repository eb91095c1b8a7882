/- FrameOneForm: the row and its card. -/
import Derived.Test.YtooagpjfcnpheaaDoorOwnLaid
import Derived.Test.YtooagpjfcnpheaaDoorFrameOneForm
namespace Go.Proofs.YtooagpjfcnpheaaDoor
open Go.ChangeShapes Go.WideShapes Go.ChangeAt Go.RowKit

set_option maxRecDepth 100000 in
theorem FrameOneForm_opened {H : Type} (enc : TypeId × Value → H) (W : World) (base : Nat) (args : Array Value) (ht : TableAt W) (hlen : args.size = Tryd.f6.params.size)
    (hval : ∀ (j : Nat) t v, Tryd.f6.params[j]? = some t → args[j]? = some v → Value.okWide Tryd.prog W .any base t v)
    (hred : ∀ (j : Nat) t v, Tryd.f6.params[j]? = some t → args[j]? = some v → Red enc Tryd.prog W t v.cells.toList) :
    Calls Tryd.prog 6 args W (Lawful W) := by
  rw [Tryd.params6] at hlen hval hred
  obtain ⟨v0, rfl⟩ := args1 (by simpa using hlen)
  obtain ⟨a0, n0, k0, rfl⟩ := okWide_slice Tryd.underlying22 (hval 0 22 v0 rfl rfl)
  obtain ⟨A1, c1, x, hx, x1, x2, x3, x4⟩ := red_bytes Tryd.underlying22 Tryd.underlying5 (by kernel_rfl) (by kernel_rfl) (hred 0 22 _ rfl rfl)
  simp [Value.cells] at hx
  obtain ⟨rfl, rfl, rfl⟩ := hx
  exact oneForm_walk _ _ x W x3 x4 x1 (by omega) ht

theorem FrameOneForm_met (os : Os) : laidMet Tryd.prog Rows.frameOneFormRow.laid ((laidWorld os).forCall (fun _ _ => 0) ⟨#[], #[.slice none 0 0], []⟩).memory :=
  laidMet_of_run' 8 (by kernel_rfl) (by kernel_rfl)
theorem FrameOneForm_reads (os : Os) {H : Type} (enc : TypeId × Value → H) : ∃ places, DataW.whole enc Tryd.prog ((laidWorld os).forCall (fun _ _ => 0) ⟨#[], #[.slice none 0 0], []⟩).memory Tryd.f6.params.toList Rows.frameOneFormSpec.vars false #[.slice none 0 0].toList 8 = some ([.nil], [], places) :=
  ⟨[], by kernel_rfl⟩

set_option maxRecDepth 100000 in
theorem FrameOneForm_lifted (os : Os) (started : os.Started) (H : Type) (enc : TypeId × Value → H) (F : Stop.Interp) :
    ReturnsInHanded {} Tryd.checked os 6 .any ((OpenSpec.ofChange Rows.frameOneFormSpec).preRow enc Tryd.prog Tryd.f6 [] false Rows.frameOneFormRow.laid) (((OpenSpec.ofChange Rows.frameOneFormSpec).at F).post enc Tryd.prog Tryd.f6 false true false false) := by
  obtain ⟨places, hx⟩ := FrameOneForm_reads os enc
  exact law_lifted_laid (C := Tryd.checked) (s := Rows.frameOneFormSpec) (up := (OpenSpec.ofChange Rows.frameOneFormSpec)) (tb := 4) ⟨rfl, rfl, fun _ _ _ _ h => h⟩ Tryd.own started (by kernel_rfl) Tryd.func6
    (witness_row_at (enc := enc) (C := Tryd.checked) false (laidWorld os) #[.slice none 0 0] rfl (by kernel_rfl) (by kernel_rfl) (by kernel_rfl)
      (OpenSpec.preRow_of_cond 8 hx (by kernel_rfl) (fun k hk => by cases hk) (by kernel_rfl) (FrameOneForm_met os)))
    rfl Tryd.laidOut (by kernel_rfl) (by kernel_rfl) Tryd.underlying4 (by intro ds h; match ds, h with | [_], _ => rfl)
    (fun W base args hL hlen hval hred ds p hA hc => FrameOneForm_opened enc W base args (table_of hL) hlen hval hred)

theorem FrameOneForm_said : Rows.FrameOneFormSaid :=
  OpenClaim.holds_of_cond 6 Tryd.f6 rfl rfl rfl rfl rfl rfl rfl ⟨rfl, rfl, rfl, rfl, rfl⟩ rfl rfl rfl rfl rfl (by kernel_rfl) Tryd.func6 (by kernel_rfl)
    (of_decide_eq_true (by kernel_rfl)) (by unfold Func.isWrapper; rw [if_neg (of_decide_eq_false (by kernel_rfl))]; exact ⟨rfl, rfl⟩)
    (fun os started H enc _ F => by rw [OpenClaim.pre_eq_preRow]; exact FrameOneForm_lifted os started H enc F)

theorem FrameOneForm_plain (f : FuncId) (fn : Func) (hf : Tryd.pinned.checked.prog.funcNamed Rows.frameOneFormRow.func = some f) (hfn : Tryd.pinned.checked.prog.funcs[f]? = some fn) :
    false = Tryd.pinned.checked.prog.looks [] ∧ ∀ (j : Nat) t, fn.params[j]? = some t → Tryd.pinned.checked.prog.wantsStandIn t = false := by
  obtain rfl : f = 6 := Option.some.inj ((show Tryd.prog.funcNamed Rows.frameOneFormRow.func = some 6 by kernel_rfl).symm.trans hf) |>.symm
  obtain rfl : fn = Tryd.f6 := (Option.some.inj (Tryd.func6.symm.trans hfn)).symm
  refine ⟨by kernel_rfl, fun j t ht => ?_⟩
  have hall : (Tryd.f6.params.toList.all fun t => Tryd.prog.wantsStandIn t == false) = true := by kernel_rfl
  have hm : t ∈ Tryd.f6.params.toList := by
    have := Array.mem_of_getElem? ht
    exact Array.mem_toList_iff.2 this
  have := List.all_eq_true.1 hall t hm
  exact eq_of_beq this

theorem FrameOneForm_card : Rows.FrameOneFormCardSaid :=
  Claim7.holds_tied_plain_at .later [] _ _ _ _ FrameOneForm_said (fun _ h => by cases h) (by kernel_rfl) (fun _ h => by cases h) frameOneForm_row_tie rfl ⟨rfl, rfl⟩ (by kernel_rfl) rfl FrameOneForm_plain (by kernel_rfl)
#print axioms FrameOneForm_card
end Go.Proofs.YtooagpjfcnpheaaDoor
