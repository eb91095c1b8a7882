/- XformEarlierLeft_card, part 46. -/
import Derived.Test.YtloccjkcmlkifaaDoorQEl44
import Derived.Test.YtloccjkcmlkifaaDoorQEl45
import Derived.Test.YtloccjkcmlkifaaDoorQEl17

/- XformEarlierLeft: the row and its card. -/
namespace Go.Proofs.YtloccjkcmlkifaaDoor
open Go.ChangeShapes Go.WideShapes Go.ChangeAt Go.RowKit Go.Proofs.YtloccjkcmlkifaaDoorW.PrintWords Go.Proofs.YtloccjkcmlkifaaDoor.PAll

set_option maxRecDepth 100000 in
theorem XformEarlierLeft_opened {H : Type} (enc : TypeId × Value → H) (W : World) (base : Nat) (args : Array Value) (hG : GW W) (hT : GT W) (hlen : args.size = Tryd.f4.params.size)
 (hval : ∀ (j : Nat) t v, Tryd.f4.params[j]? = some t → args[j]? = some v → Value.okWide Tryd.prog W .any base t v)
 (hred : ∀ (j : Nat) t v, Tryd.f4.params[j]? = some t → args[j]? = some v → Red enc Tryd.prog W t v.cells.toList) :
 Calls Tryd.prog 4 args W (Lawful W) := by
 rw [show Tryd.f4.params = #[25] by kernel_rfl] at hlen hval hred
 obtain ⟨v0, rfl⟩ := args1 (by simpa using hlen)
 obtain ⟨cs, rfl, _⟩ := okWide_struct Tryd.underlying25 (hval 0 25 v0 rfl rfl)
 obtain ⟨len, B, n, c, C, m, d, i, j, e, v, hx, h1, h2, h3, h4, h5, h6⟩ := red_two (hred 0 25 _ rfl rfl)
 have hx' : cs = #[.int .i64 len, .slice B n c, .slice C m d, .int .i64 i, .int .i64 j, .bool e, v] := by
  apply Array.toList_inj.1
  simpa [Value.cells] using hx
 subst hx'
 exact (XformEarlierLeft_any len B n c C m d i j e v W hG hT h1 h2 h3 h4 h5 h6).mono fun e W' ⟨he, hb⟩ => ⟨he, hb⟩

theorem XformEarlierLeft_met (os : Os) : laidMet Tryd.prog Rows.xformEarlierLeftRow.laid ((tabWorld os).forCall (fun _ _ => 0) ⟨#[], #[.agg #[.int .i64 0, .slice none 0 0, .slice none 0 0, .int .i64 0, .int .i64 0, .bool false, .slice none 0 0]], []⟩).memory :=
 laidMet_of_run' 8 (by kernel_rfl) (by kernel_rfl)
theorem XformEarlierLeft_reads (os : Os) {H : Type} (enc : TypeId × Value → H) : ∃ places, DataW.whole enc Tryd.prog ((tabWorld os).forCall (fun _ _ => 0) ⟨#[], #[.agg #[.int .i64 0, .slice none 0 0, .slice none 0 0, .int .i64 0, .int .i64 0, .bool false, .slice none 0 0]], []⟩).memory Tryd.f4.params.toList Rows.xformEarlierLeftSpec.vars false #[.agg #[.int .i64 0, .slice none 0 0, .slice none 0 0, .int .i64 0, .int .i64 0, .bool false, .slice none 0 0]].toList 8 = some ([.agg [.lit (.int .i64 0), .nil, .nil, .lit (.int .i64 0), .lit (.int .i64 0), .lit (.bool false), .nil]], [], places) :=
 ⟨[], by kernel_rfl⟩

set_option maxRecDepth 100000 in
theorem XformEarlierLeft_lifted (os : Os) (started : os.Started) (H : Type) (enc : TypeId × Value → H) (F : Stop.Interp) :
 ReturnsInHanded {} Tryd.checked os 4 .any ((OpenSpec.ofChange Rows.xformEarlierLeftSpec).preRow enc Tryd.prog Tryd.f4 [] false Rows.xformEarlierLeftRow.laid) (((OpenSpec.ofChange Rows.xformEarlierLeftSpec).at F).post enc Tryd.prog Tryd.f4 false true false false) := by
 obtain ⟨places, hx⟩ := XformEarlierLeft_reads os enc
 exact law_lifted_laid (C := Tryd.checked) (s := Rows.xformEarlierLeftSpec) (up := (OpenSpec.ofChange Rows.xformEarlierLeftSpec)) (tb := 4) ⟨rfl, rfl, fun _ _ _ _ h => h⟩ Tryd.own started (by kernel_rfl) Tryd.func4
  (witness_row_at (enc := enc) (C := Tryd.checked) false (tabWorld os) #[.agg #[.int .i64 0, .slice none 0 0, .slice none 0 0, .int .i64 0, .int .i64 0, .bool false, .slice none 0 0]] rfl (by kernel_rfl) (by kernel_rfl) (by kernel_rfl)
   (OpenSpec.preRow_of_cond 8 hx (by kernel_rfl) (fun k hk => by cases hk) (by kernel_rfl) (XformEarlierLeft_met os)))
  rfl Tryd.laidOut (by kernel_rfl) (by kernel_rfl) Tryd.underlying4 (by intro ds h; match ds, h with | [_], _ => rfl)
  (fun W base args hL hlen hval hred _ _ _ _ => XformEarlierLeft_opened enc W base args (tabs_of hL).1 (tabs_of hL).2 hlen hval hred)

theorem XformEarlierLeft_said : Rows.XformEarlierLeftSaid :=
 OpenClaim.holds_of_cond 4 Tryd.f4 rfl rfl rfl rfl rfl rfl rfl ⟨rfl, rfl, rfl, rfl, rfl⟩ rfl rfl rfl rfl rfl (by kernel_rfl) Tryd.func4 XformEarlierLeft_closed
  (of_decide_eq_true (by kernel_rfl)) (by unfold Func.isWrapper; rw [if_neg (of_decide_eq_false (by kernel_rfl))]; exact ⟨rfl, rfl⟩)
  (fun os started H enc _ F => by rw [OpenClaim.pre_eq_preRow]; exact XformEarlierLeft_lifted os started H enc F)

theorem XformEarlierLeft_plain (f : FuncId) (fn : Func) (hf : Tryd.pinned.checked.prog.funcNamed Rows.xformEarlierLeftRow.func = some f) (hfn : Tryd.pinned.checked.prog.funcs[f]? = some fn) :
 false = Tryd.pinned.checked.prog.looks [] ∧ ∀ (j : Nat) t, fn.params[j]? = some t → Tryd.pinned.checked.prog.wantsStandIn t = false := by
 obtain rfl : f = 4 := Option.some.inj ((show Tryd.prog.funcNamed Rows.xformEarlierLeftRow.func = some 4 by kernel_rfl).symm.trans hf) |>.symm
 obtain rfl : fn = Tryd.f4 := (Option.some.inj (Tryd.func4.symm.trans hfn)).symm
 refine ⟨by kernel_rfl, fun j t ht => ?_⟩
 have hall : (Tryd.f4.params.toList.all fun t => Tryd.prog.wantsStandIn t == false) = true := by kernel_rfl
 have hm : t ∈ Tryd.f4.params.toList := by
  have := Array.mem_of_getElem? ht
  exact Array.mem_toList_iff.2 this
 have := List.all_eq_true.1 hall t hm
 exact eq_of_beq this

theorem XformEarlierLeft_card : Rows.XformEarlierLeftCardSaid :=
 Claim7.holds_tied_plain_at .later [] _ _ _ _ XformEarlierLeft_said (fun _ h => by cases h) (by kernel_rfl) (fun _ h => by cases h) xformEarlierLeft_row_tie rfl ⟨rfl, rfl⟩ (by kernel_rfl) rfl XformEarlierLeft_plain (by kernel_rfl)
#print axioms XformEarlierLeft_card
end Go.Proofs.YtloccjkcmlkifaaDoor
