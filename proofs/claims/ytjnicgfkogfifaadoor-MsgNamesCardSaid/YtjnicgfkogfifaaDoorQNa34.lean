/- MsgNames_card, part 34. -/
import Derived.Test.YtjnicgfkogfifaaDoorQNa32
import Derived.Test.YtjnicgfkogfifaaDoorQNa33
import Derived.Test.YtjnicgfkogfifaaDoorQNa17

/- MsgNames: the row and its card. -/
namespace Go.Proofs.YtjnicgfkogfifaaDoor
open Go.ChangeShapes Go.WideShapes Go.ChangeAt Go.RowKit Go.Proofs.YtjnicgfkogfifaaDoorW.PrintWords Go.Proofs.YtjnicgfkogfifaaDoor.PAll

set_option maxRecDepth 100000 in
theorem MsgNames_opened {H : Type} (enc : TypeId × Value → H) (W : World) (base : Nat) (args : Array Value) (hG : GW W) (hT : GF W) (hlen : args.size = Tryd.f3.params.size)
 (hval : ∀ (j : Nat) t v, Tryd.f3.params[j]? = some t → args[j]? = some v → Value.okWide Tryd.prog W .any base t v)
 (hred : ∀ (j : Nat) t v, Tryd.f3.params[j]? = some t → args[j]? = some v → Red enc Tryd.prog W t v.cells.toList) :
 Calls Tryd.prog 3 args W (Lawful W) := by
 have _ := hval
 have _ := hred
 rw [show Tryd.f3.params = #[] by kernel_rfl] at hlen
 obtain rfl : args = #[] := Array.eq_empty_of_size_eq_zero (by simpa using hlen)
 exact (MsgNames_any W hG hT).mono fun e W' ⟨he, hb⟩ => ⟨he, hb⟩

theorem MsgNames_met (os : Os) : laidMetH Tryd.prog Rows.msgNamesRow.laid ((laidWorld os).forCall (fun _ _ => 0) ⟨#[], #[], []⟩).memory :=
 laidMetH_of_parts3 (fuel := 8) (laidMet_of_run' 8 (by kernel_rfl) (by kernel_rfl)) (by kernel_rfl) (by kernel_rfl)
theorem MsgNames_reads (os : Os) {H : Type} (enc : TypeId × Value → H) : ∃ places, DataW.whole enc Tryd.prog ((laidWorld os).forCall (fun _ _ => 0) ⟨#[], #[], []⟩).memory Tryd.f3.params.toList Rows.msgNamesSpec.vars false #[].toList 8 = some ([], [], places) :=
 ⟨[], by kernel_rfl⟩

set_option maxRecDepth 100000 in
theorem MsgNames_lifted (os : Os) (started : os.Started) (H : Type) (enc : TypeId × Value → H) (F : Stop.Interp) :
 ReturnsInHanded {} Tryd.checked os 3 .any ((OpenSpec.ofChange Rows.msgNamesSpec).preRow enc Tryd.prog Tryd.f3 [] false Rows.msgNamesRow.laid) (((OpenSpec.ofChange Rows.msgNamesSpec).at F).post enc Tryd.prog Tryd.f3 false true false false) := by
 obtain ⟨places, hx⟩ := MsgNames_reads os enc
 exact law_lifted_laid (C := Tryd.checked) (s := Rows.msgNamesSpec) (up := (OpenSpec.ofChange Rows.msgNamesSpec)) (tb := 4) ⟨rfl, rfl, fun _ _ _ _ h => h⟩ Tryd.own started (by kernel_rfl) Tryd.func3
  (witness_row_at (enc := enc) (C := Tryd.checked) false (laidWorld os) #[] rfl (by kernel_rfl) (by kernel_rfl) (by kernel_rfl)
   (OpenSpec.preRow_of_cond 8 hx (by kernel_rfl) (fun k hk => by cases hk) (by kernel_rfl) (MsgNames_met os)))
  rfl Tryd.laidOut (by kernel_rfl) (by kernel_rfl) Tryd.underlying4 (by intro ds h; match ds, h with | [], _ => rfl)
  (fun W base args hL hlen hval hred _ _ _ _ => MsgNames_opened enc W base args (two_of hL).1 (two_of hL).2 hlen hval hred)

theorem MsgNames_said : Rows.MsgNamesSaid :=
 OpenClaim.holds_of_cond 3 Tryd.f3 rfl rfl rfl rfl rfl rfl rfl ⟨rfl, rfl, rfl, rfl, rfl⟩ rfl rfl rfl rfl rfl (by kernel_rfl) Tryd.func3 MsgNames_closed
  (of_decide_eq_true (by kernel_rfl)) (by unfold Func.isWrapper; rw [if_neg (of_decide_eq_false (by kernel_rfl))]; exact ⟨rfl, rfl⟩)
  (fun os started H enc _ F => by rw [OpenClaim.pre_eq_preRow]; exact MsgNames_lifted os started H enc F)

theorem MsgNames_plain (f : FuncId) (fn : Func) (hf : Tryd.pinned.checked.prog.funcNamed Rows.msgNamesRow.func = some f) (hfn : Tryd.pinned.checked.prog.funcs[f]? = some fn) :
 true = Tryd.pinned.checked.prog.looks [] ∧ ∀ (j : Nat) t, fn.params[j]? = some t → Tryd.pinned.checked.prog.wantsStandIn t = false := by
 obtain rfl : f = 3 := Option.some.inj ((show Tryd.prog.funcNamed Rows.msgNamesRow.func = some 3 by kernel_rfl).symm.trans hf) |>.symm
 obtain rfl : fn = Tryd.f3 := (Option.some.inj (Tryd.func3.symm.trans hfn)).symm
 refine ⟨by kernel_rfl, fun j t ht => ?_⟩
 have hall : (Tryd.f3.params.toList.all fun t => Tryd.prog.wantsStandIn t == false) = true := by kernel_rfl
 have hm : t ∈ Tryd.f3.params.toList := by
  have := Array.mem_of_getElem? ht
  exact Array.mem_toList_iff.2 this
 have := List.all_eq_true.1 hall t hm
 exact eq_of_beq this

theorem MsgNames_card : Rows.MsgNamesCardSaid :=
 Claim7.holds_tied_plain_at .later [] _ _ _ _ MsgNames_said (fun _ h => by cases h) (by kernel_rfl) (fun _ h => by cases h) msgNames_row_tie rfl ⟨rfl, rfl⟩ (by kernel_rfl) rfl MsgNames_plain (by kernel_rfl)
#print axioms MsgNames_card
end Go.Proofs.YtjnicgfkogfifaaDoor
