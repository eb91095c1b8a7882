/- XformBrings_card, part 44. -/
import Derived.Test.YtloccjkcmlkifaaDoorQBr18
import Derived.Test.YtloccjkcmlkifaaDoorQBr38
import Derived.Test.YtloccjkcmlkifaaDoorQBr43
import Derived.Test.YtloccjkcmlkifaaDoorQBr17

/- XformBrings, for what is of bulk at most 1048576: the row and its card. -/
namespace Go.Proofs.YtloccjkcmlkifaaDoor
open Go.ChangeShapes Go.WideShapes Go.ChangeAt Go.RowKit Go.Proofs.YtloccjkcmlkifaaDoorW.PrintWords Go.Proofs.YtloccjkcmlkifaaDoor.PAll

set_option maxRecDepth 100000 in
theorem XformBrings_opened {H : Type} (enc : TypeId × Value → H) (W : World) (base : Nat) (args : Array Value) (hG : GW W) (hlen : args.size = Tryd.f15.params.size)
 (hval : ∀ (j : Nat) t v, Tryd.f15.params[j]? = some t → args[j]? = some v → Value.okWide Tryd.prog W .any base t v)
 (hred : ∀ (j : Nat) t v, Tryd.f15.params[j]? = some t → args[j]? = some v → RedU enc Tryd.prog W t v.cells.toList) :
 Calls Tryd.prog 15 args W (Lawful W) := by
 rw [show Tryd.f15.params = #[81] by kernel_rfl] at hlen hval hred
 obtain ⟨v0, rfl⟩ := args1 (by simpa using hlen)
 obtain ⟨a0, n0, k0, rfl⟩ := okWide_slice Tryd.underlying81 (hval 0 81 v0 rfl rfl)
 obtain ⟨A1, c1, l, hx, h1, h2, h3, h4⟩ := redU_script (hred 0 81 _ rfl rfl)
 simp [Value.cells] at hx
 obtain ⟨rfl, rfl, rfl⟩ := hx
 exact (XformBrings_any l a0 k0 W hG h2 h3 h4).mono fun e W' ⟨he, hb⟩ => ⟨he, hb⟩

theorem XformBrings_met (os : Os) : laidMet Tryd.prog Rows.xformBringsUptoRow.laid ((laidWorld os).forCall (fun _ _ => 0) ⟨#[], #[.slice none 0 0], []⟩).memory :=
 laidMet_of_run' 8 (by kernel_rfl) (by kernel_rfl)
theorem XformBrings_reads (os : Os) {H : Type} (enc : TypeId × Value → H) : ∃ places, DataW.whole enc Tryd.prog ((laidWorld os).forCall (fun _ _ => 0) ⟨#[], #[.slice none 0 0], []⟩).memory Tryd.f15.params.toList Rows.xformBringsSpec.vars false #[.slice none 0 0].toList 8 = some ([.nil], [], places) :=
 ⟨[], by kernel_rfl⟩

set_option maxRecDepth 100000 in
theorem XformBrings_lifted (os : Os) (started : os.Started) (H : Type) (enc : TypeId × Value → H) (F : Stop.Interp) :
 ReturnsInHanded {} Tryd.checked os 15 .any ((Rows.OpenSpec.upto Rows.xformBringsSpec).preRow enc Tryd.prog Tryd.f15 [] false Rows.xformBringsUptoRow.laid) (((Rows.OpenSpec.upto Rows.xformBringsSpec).at F).post enc Tryd.prog Tryd.f15 false true false false) := by
 obtain ⟨places, hx⟩ := XformBrings_reads os enc
 exact law_lifted_upto (C := Tryd.checked) (s := Rows.xformBringsSpec) (up := (Rows.OpenSpec.upto Rows.xformBringsSpec)) (tb := 4) ⟨rfl, rfl, fun _ _ _ _ h => h⟩ rfl Tryd.own started (by kernel_rfl) Tryd.func15
  (witness_row_at (enc := enc) (C := Tryd.checked) false (laidWorld os) #[.slice none 0 0] rfl (by kernel_rfl) (by kernel_rfl) (by kernel_rfl)
   (OpenSpec.preRow_of_cond 8 hx (by kernel_rfl) (fun k hk => by cases hk; kernel_rfl) (by kernel_rfl) (XformBrings_met os)))
  rfl Tryd.laidOut (by kernel_rfl) (by kernel_rfl) Tryd.underlying4 (by intro ds h; match ds, h with | [_], _ => rfl)
  (fun W base args hL hlen hval hred => XformBrings_opened enc W base args (bars_of_met hL) hlen hval hred)

theorem XformBrings_said : Rows.XformBringsUptoSaid :=
 OpenClaim.holds_of_cond 15 Tryd.f15 rfl rfl rfl rfl rfl rfl rfl ⟨rfl, rfl, rfl, rfl, rfl⟩ rfl rfl rfl rfl rfl (by kernel_rfl) Tryd.func15 XformBrings_closed
  (of_decide_eq_true (by kernel_rfl)) (by unfold Func.isWrapper; rw [if_neg (of_decide_eq_false (by kernel_rfl))]; exact ⟨rfl, rfl⟩)
  (fun os started H enc _ F => by rw [OpenClaim.pre_eq_preRow]; exact XformBrings_lifted os started H enc F)

theorem XformBrings_plain (f : FuncId) (fn : Func) (hf : Tryd.pinned.checked.prog.funcNamed Rows.xformBringsUptoRow.func = some f) (hfn : Tryd.pinned.checked.prog.funcs[f]? = some fn) :
 false = Tryd.pinned.checked.prog.looks [] ∧ ∀ (j : Nat) t, fn.params[j]? = some t → Tryd.pinned.checked.prog.wantsStandIn t = false := by
 obtain rfl : f = 15 := Option.some.inj ((show Tryd.prog.funcNamed Rows.xformBringsUptoRow.func = some 15 by kernel_rfl).symm.trans hf) |>.symm
 obtain rfl : fn = Tryd.f15 := (Option.some.inj (Tryd.func15.symm.trans hfn)).symm
 refine ⟨by kernel_rfl, fun j t ht => ?_⟩
 have hall : (Tryd.f15.params.toList.all fun t => Tryd.prog.wantsStandIn t == false) = true := by kernel_rfl
 have hm : t ∈ Tryd.f15.params.toList := by
  have := Array.mem_of_getElem? ht
  exact Array.mem_toList_iff.2 this
 have := List.all_eq_true.1 hall t hm
 exact eq_of_beq this

theorem XformBrings_card : Rows.XformBringsUptoCardSaid :=
 Claim7.holds_tied_plain_at .later [] _ _ _ _ XformBrings_said (fun _ h => by cases h) (by kernel_rfl) (fun _ h => by cases h) xformBringsUpto_row_tie rfl ⟨rfl, rfl⟩ (by kernel_rfl) rfl XformBrings_plain (by kernel_rfl)
#print axioms XformBrings_card
end Go.Proofs.YtloccjkcmlkifaaDoor
