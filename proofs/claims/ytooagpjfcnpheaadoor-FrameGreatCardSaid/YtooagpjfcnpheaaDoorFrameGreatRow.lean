/- FrameGreat: the row and its card. -/
import Derived.Test.YtooagpjfcnpheaaDoorOwnLaid
import Derived.Test.YtooagpjfcnpheaaDoorFrameGreat
namespace Go.Proofs.YtooagpjfcnpheaaDoor
open Go.ChangeShapes Go.WideShapes Go.ChangeAt Go.RowKit

set_option maxRecDepth 100000 in
theorem FrameGreat_opened {H : Type} (enc : TypeId × Value → H) (W : World) (base : Nat) (args : Array Value) (ht : TableAt W) (hlen : args.size = Tryd.f9.params.size)
    (hval : ∀ (j : Nat) t v, Tryd.f9.params[j]? = some t → args[j]? = some v → Value.okWide Tryd.prog W .any base t v)
    (hred : ∀ (j : Nat) t v, Tryd.f9.params[j]? = some t → args[j]? = some v → Red enc Tryd.prog W t v.cells.toList) :
    Calls Tryd.prog 9 args W (Lawful W) := by
  rw [Tryd.params9] at hlen hval hred
  obtain ⟨v0, v1, v2, v3, rfl⟩ := args4 (by simpa using hlen)
  obtain ⟨n, rfl⟩ := okWide_int Tryd.underlying3 (hval 0 3 v0 rfl rfl)
  obtain ⟨fill, rfl⟩ := okWide_int Tryd.underlying5 (hval 1 5 v1 rfl rfl)
  obtain ⟨x, rfl⟩ := okWide_int Tryd.underlying3 (hval 2 3 v2 rfl rfl)
  obtain ⟨y, rfl⟩ := okWide_int Tryd.underlying3 (hval 3 3 v3 rfl rfl)
  obtain ⟨q, hq, hw⟩ := red_int Tryd.underlying5 (hred 1 5 _ rfl rfl)
  simp [Value.cells] at hq
  subst hq
  have hm : 0 ≤ fill ∧ fill ≤ 255 := by simpa [Lit.wf, IntKind.min, IntKind.max, IntKind.signed, IntKind.bits] using hw
  obtain ⟨F, rfl⟩ : ∃ F : UInt8, (F.toNat : Int) = fill := ⟨UInt8.ofNat fill.toNat, by rw [UInt8.toNat_ofNat']; omega⟩
  exact great_walk n F x y W ht

theorem FrameGreat_met (os : Os) : laidMet Tryd.prog Rows.frameGreatRow.laid ((laidWorld os).forCall (fun _ _ => 0) ⟨#[], #[.int .i64 0, .int .u8 0, .int .i64 0, .int .i64 0], []⟩).memory :=
  laidMet_of_run' 8 (by kernel_rfl) (by kernel_rfl)
theorem FrameGreat_reads (os : Os) {H : Type} (enc : TypeId × Value → H) : ∃ places, DataW.whole enc Tryd.prog ((laidWorld os).forCall (fun _ _ => 0) ⟨#[], #[.int .i64 0, .int .u8 0, .int .i64 0, .int .i64 0], []⟩).memory Tryd.f9.params.toList Rows.frameGreatSpec.vars false #[.int .i64 0, .int .u8 0, .int .i64 0, .int .i64 0].toList 8 = some ([(.lit (.int .i64 0)), (.lit (.int .u8 0)), (.lit (.int .i64 0)), (.lit (.int .i64 0))], [], places) :=
  ⟨[], by kernel_rfl⟩

set_option maxRecDepth 100000 in
theorem FrameGreat_lifted (os : Os) (started : os.Started) (H : Type) (enc : TypeId × Value → H) (F : Stop.Interp) :
    ReturnsInHanded {} Tryd.checked os 9 .any ((OpenSpec.ofChange Rows.frameGreatSpec).preRow enc Tryd.prog Tryd.f9 [] false Rows.frameGreatRow.laid) (((OpenSpec.ofChange Rows.frameGreatSpec).at F).post enc Tryd.prog Tryd.f9 false true false false) := by
  obtain ⟨places, hx⟩ := FrameGreat_reads os enc
  exact law_lifted_laid (C := Tryd.checked) (s := Rows.frameGreatSpec) (up := (OpenSpec.ofChange Rows.frameGreatSpec)) (tb := 4) ⟨rfl, rfl, fun _ _ _ _ h => h⟩ Tryd.own started (by kernel_rfl) Tryd.func9
    (witness_row_at (enc := enc) (C := Tryd.checked) false (laidWorld os) #[.int .i64 0, .int .u8 0, .int .i64 0, .int .i64 0] rfl (by kernel_rfl) (by kernel_rfl) (by kernel_rfl)
      (OpenSpec.preRow_of_cond 8 hx (by kernel_rfl) (fun k hk => by cases hk) (by kernel_rfl) (FrameGreat_met os)))
    rfl Tryd.laidOut (by kernel_rfl) (by kernel_rfl) Tryd.underlying4 (by intro ds h; match ds, h with | [_, _, _, _], _ => rfl)
    (fun W base args hL hlen hval hred _ _ _ _ => FrameGreat_opened enc W base args (table_of hL) hlen hval hred)

theorem FrameGreat_said : Rows.FrameGreatSaid :=
  OpenClaim.holds_of_cond 9 Tryd.f9 rfl rfl rfl rfl rfl rfl rfl ⟨rfl, rfl, rfl, rfl, rfl⟩ rfl rfl rfl rfl rfl (by kernel_rfl) Tryd.func9 (by kernel_rfl)
    (of_decide_eq_true (by kernel_rfl)) (by unfold Func.isWrapper; rw [if_neg (of_decide_eq_false (by kernel_rfl))]; exact ⟨rfl, rfl⟩)
    (fun os started H enc _ F => by rw [OpenClaim.pre_eq_preRow]; exact FrameGreat_lifted os started H enc F)

theorem FrameGreat_plain (f : FuncId) (fn : Func) (hf : Tryd.pinned.checked.prog.funcNamed Rows.frameGreatRow.func = some f) (hfn : Tryd.pinned.checked.prog.funcs[f]? = some fn) :
    false = Tryd.pinned.checked.prog.looks [] ∧ ∀ (j : Nat) t, fn.params[j]? = some t → Tryd.pinned.checked.prog.wantsStandIn t = false := by
  obtain rfl : f = 9 := Option.some.inj ((show Tryd.prog.funcNamed Rows.frameGreatRow.func = some 9 by kernel_rfl).symm.trans hf) |>.symm
  obtain rfl : fn = Tryd.f9 := (Option.some.inj (Tryd.func9.symm.trans hfn)).symm
  refine ⟨by kernel_rfl, fun j t ht => ?_⟩
  have hall : (Tryd.f9.params.toList.all fun t => Tryd.prog.wantsStandIn t == false) = true := by kernel_rfl
  have hm : t ∈ Tryd.f9.params.toList := by
    have := Array.mem_of_getElem? ht
    exact Array.mem_toList_iff.2 this
  have := List.all_eq_true.1 hall t hm
  exact eq_of_beq this

theorem FrameGreat_card : Rows.FrameGreatCardSaid :=
  Claim7.holds_tied_plain_at .later [] _ _ _ _ FrameGreat_said (fun _ h => by cases h) (by kernel_rfl) (fun _ h => by cases h) frameGreat_row_tie rfl ⟨rfl, rfl⟩ (by kernel_rfl) rfl FrameGreat_plain (by kernel_rfl)
#print axioms FrameGreat_card
end Go.Proofs.YtooagpjfcnpheaaDoor
