/- XformOverIsCross_card, part 43. -/
import Derived.Test.YtloccjkcmlkifaaDoorQOc40
import Derived.Test.YtloccjkcmlkifaaDoorQOc42
import Derived.Test.YtloccjkcmlkifaaDoorQOc15

/- XformOverIsCross: the row and its card. -/
namespace Go.Proofs.YtloccjkcmlkifaaDoor
open Go.ChangeShapes Go.WideShapes Go.ChangeAt Go.RowKit Go.Proofs.YtloccjkcmlkifaaDoorW.PrintWords Go.Proofs.YtloccjkcmlkifaaDoor.PAll

set_option maxRecDepth 100000 in
theorem XformOverIsCross_opened {H : Type} (enc : TypeId × Value → H) (W : World) (base : Nat) (args : Array Value) (hG : GW W) (hT : GT W) (hlen : args.size = Tryd.f8.params.size)
 (hval : ∀ (j : Nat) t v, Tryd.f8.params[j]? = some t → args[j]? = some v → Value.okWide Tryd.prog W .any base t v)
 (hred : ∀ (j : Nat) t v, Tryd.f8.params[j]? = some t → args[j]? = some v → Red enc Tryd.prog W t v.cells.toList) :
 Calls Tryd.prog 8 args W (Lawful W) := by
 rw [show Tryd.f8.params = #[25] by kernel_rfl] at hlen hval hred
 obtain ⟨v0, rfl⟩ := args1 (by simpa using hlen)
 obtain ⟨cs, rfl, _⟩ := okWide_struct Tryd.underlying25 (hval 0 25 v0 rfl rfl)
 obtain ⟨len, B, n, c, C, m, d, i, j, e, v, hx, h1, h2, h3, h4, h5, h6⟩ := red_two (hred 0 25 _ rfl rfl)
 have hx' : cs = #[.int .i64 len, .slice B n c, .slice C m d, .int .i64 i, .int .i64 j, .bool e, v] := by
  apply Array.toList_inj.1
  simpa [Value.cells] using hx
 subst hx'
 exact (XformOverIsCross_any len B n c C m d i j e v W hG hT h1 h2 h3 h4 h5 h6).mono fun e W' ⟨he, hb⟩ => ⟨he, hb⟩

theorem XformOverIsCross_met (os : Os) : laidMet Tryd.prog Rows.xformOverIsCrossRow.laid ((tabWorld os).forCall (fun _ _ => 0) ⟨#[], #[.agg #[.int .i64 0, .slice none 0 0, .slice none 0 0, .int .i64 0, .int .i64 0, .bool false, .slice none 0 0]], []⟩).memory :=
 laidMet_of_run' 8 (by kernel_rfl) (by kernel_rfl)
theorem XformOverIsCross_reads (os : Os) {H : Type} (enc : TypeId × Value → H) : ∃ places, DataW.whole enc Tryd.prog ((tabWorld os).forCall (fun _ _ => 0) ⟨#[], #[.agg #[.int .i64 0, .slice none 0 0, .slice none 0 0, .int .i64 0, .int .i64 0, .bool false, .slice none 0 0]], []⟩).memory Tryd.f8.params.toList Rows.xformOverIsCrossSpec.vars false #[.agg #[.int .i64 0, .slice none 0 0, .slice none 0 0, .int .i64 0, .int .i64 0, .bool false, .slice none 0 0]].toList 8 = some ([.agg [.lit (.int .i64 0), .nil, .nil, .lit (.int .i64 0), .lit (.int .i64 0), .lit (.bool false), .nil]], [], places) :=
 ⟨[], by kernel_rfl⟩

set_option maxRecDepth 100000 in
theorem XformOverIsCross_lifted (os : Os) (started : os.Started) (H : Type) (enc : TypeId × Value → H) (F : Stop.Interp) :
 ReturnsInHanded {} Tryd.checked os 8 .any ((OpenSpec.ofChange Rows.xformOverIsCrossSpec).preRow enc Tryd.prog Tryd.f8 [] false Rows.xformOverIsCrossRow.laid) (((OpenSpec.ofChange Rows.xformOverIsCrossSpec).at F).post enc Tryd.prog Tryd.f8 false true false false) := by
 obtain ⟨places, hx⟩ := XformOverIsCross_reads os enc
 exact law_lifted_laid (C := Tryd.checked) (s := Rows.xformOverIsCrossSpec) (up := (OpenSpec.ofChange Rows.xformOverIsCrossSpec)) (tb := 4) ⟨rfl, rfl, fun _ _ _ _ h => h⟩ Tryd.own started (by kernel_rfl) Tryd.func8
  (witness_row_at (enc := enc) (C := Tryd.checked) false (tabWorld os) #[.agg #[.int .i64 0, .slice none 0 0, .slice none 0 0, .int .i64 0, .int .i64 0, .bool false, .slice none 0 0]] rfl (by kernel_rfl) (by kernel_rfl) (by kernel_rfl)
   (OpenSpec.preRow_of_cond 8 hx (by kernel_rfl) (fun k hk => by cases hk) (by kernel_rfl) (XformOverIsCross_met os)))
  rfl Tryd.laidOut (by kernel_rfl) (by kernel_rfl) Tryd.underlying4 (by intro ds h; match ds, h with | [_], _ => rfl)
  (fun W base args hL hlen hval hred _ _ _ _ => XformOverIsCross_opened enc W base args (tabs_of hL).1 (tabs_of hL).2 hlen hval hred)

theorem XformOverIsCross_said : Rows.XformOverIsCrossSaid :=
 OpenClaim.holds_of_cond 8 Tryd.f8 rfl rfl rfl rfl rfl rfl rfl ⟨rfl, rfl, rfl, rfl, rfl⟩ rfl rfl rfl rfl rfl (by kernel_rfl) Tryd.func8 XformOverIsCross_closed
  (of_decide_eq_true (by kernel_rfl)) (by unfold Func.isWrapper; rw [if_neg (of_decide_eq_false (by kernel_rfl))]; exact ⟨rfl, rfl⟩)
  (fun os started H enc _ F => by rw [OpenClaim.pre_eq_preRow]; exact XformOverIsCross_lifted os started H enc F)

theorem XformOverIsCross_plain (f : FuncId) (fn : Func) (hf : Tryd.pinned.checked.prog.funcNamed Rows.xformOverIsCrossRow.func = some f) (hfn : Tryd.pinned.checked.prog.funcs[f]? = some fn) :
 false = Tryd.pinned.checked.prog.looks [] ∧ ∀ (j : Nat) t, fn.params[j]? = some t → Tryd.pinned.checked.prog.wantsStandIn t = false := by
 obtain rfl : f = 8 := Option.some.inj ((show Tryd.prog.funcNamed Rows.xformOverIsCrossRow.func = some 8 by kernel_rfl).symm.trans hf) |>.symm
 obtain rfl : fn = Tryd.f8 := (Option.some.inj (Tryd.func8.symm.trans hfn)).symm
 refine ⟨by kernel_rfl, fun j t ht => ?_⟩
 have hall : (Tryd.f8.params.toList.all fun t => Tryd.prog.wantsStandIn t == false) = true := by kernel_rfl
 have hm : t ∈ Tryd.f8.params.toList := by
  have := Array.mem_of_getElem? ht
  exact Array.mem_toList_iff.2 this
 have := List.all_eq_true.1 hall t hm
 exact eq_of_beq this

theorem XformOverIsCross_card : Rows.XformOverIsCrossCardSaid :=
 Claim7.holds_tied_plain_at .later [] _ _ _ _ XformOverIsCross_said (fun _ h => by cases h) (by kernel_rfl) (fun _ h => by cases h) xformOverIsCross_row_tie rfl ⟨rfl, rfl⟩ (by kernel_rfl) rfl XformOverIsCross_plain (by kernel_rfl)
#print axioms XformOverIsCross_card
end Go.Proofs.YtloccjkcmlkifaaDoor
