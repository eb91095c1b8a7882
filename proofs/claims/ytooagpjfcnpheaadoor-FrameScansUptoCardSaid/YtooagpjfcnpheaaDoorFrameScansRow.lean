/- FrameScans, for what is of bulk at most 1048576: the row and its card. -/
import Derived.Test.YtooagpjfcnpheaaDoorOwnLaid
import Derived.Test.YtooagpjfcnpheaaDoorFrameScans
namespace Go.Proofs.YtooagpjfcnpheaaDoor
open Go.ChangeShapes Go.WideShapes Go.ChangeAt Go.RowKit

set_option maxRecDepth 100000 in
theorem FrameScans_opened {H : Type} (enc : TypeId × Value → H) (W : World) (base : Nat) (args : Array Value) (ht : TableAt W) (hlen : args.size = Tryd.f4.params.size)
    (hval : ∀ (j : Nat) t v, Tryd.f4.params[j]? = some t → args[j]? = some v → Value.okWide Tryd.prog W .any base t v)
    (hred : ∀ (j : Nat) t v, Tryd.f4.params[j]? = some t → args[j]? = some v → Red enc Tryd.prog W t v.cells.toList) :
    Calls Tryd.prog 4 args W (Lawful W) := by
  rw [Tryd.params4] at hlen hval hred
  obtain ⟨v0, v1, v2, rfl⟩ := args3 (by simpa using hlen)
  obtain ⟨a0, n0, k0, rfl⟩ := okWide_slice Tryd.underlying32 (hval 0 32 v0 rfl rfl)
  obtain ⟨cut, rfl⟩ := okWide_int Tryd.underlying3 (hval 1 3 v1 rfl rfl)
  obtain ⟨bit, rfl⟩ := okWide_int Tryd.underlying3 (hval 2 3 v2 rfl rfl)
  obtain ⟨A1, c1, ps, hx, x1, _, x3, _, x5⟩ := red_rows Tryd.underlying32 Tryd.underlying22 Tryd.underlying5 (by kernel_rfl) (by kernel_rfl) (by kernel_rfl) (by kernel_rfl) (hred 0 32 _ rfl rfl)
  simp [Value.cells] at hx
  obtain ⟨rfl, rfl, rfl⟩ := hx
  exact scans_walk _ _ ps cut bit W x3 x1 x5 ht

theorem FrameScans_met (os : Os) : laidMet Tryd.prog Rows.frameScansUptoRow.laid ((laidWorld os).forCall (fun _ _ => 0) ⟨#[], #[.slice none 0 0, .int .i64 0, .int .i64 0], []⟩).memory :=
  laidMet_of_run' 8 (by kernel_rfl) (by kernel_rfl)
theorem FrameScans_reads (os : Os) {H : Type} (enc : TypeId × Value → H) : ∃ places, DataW.whole enc Tryd.prog ((laidWorld os).forCall (fun _ _ => 0) ⟨#[], #[.slice none 0 0, .int .i64 0, .int .i64 0], []⟩).memory Tryd.f4.params.toList Rows.frameScansSpec.vars false #[.slice none 0 0, .int .i64 0, .int .i64 0].toList 8 = some ([.nil, (.lit (.int .i64 0)), (.lit (.int .i64 0))], [], places) :=
  ⟨[], by kernel_rfl⟩

set_option maxRecDepth 100000 in
theorem FrameScans_lifted (os : Os) (started : os.Started) (H : Type) (enc : TypeId × Value → H) (F : Stop.Interp) :
    ReturnsInHanded {} Tryd.checked os 4 .any ((Rows.OpenSpec.upto Rows.frameScansSpec).preRow enc Tryd.prog Tryd.f4 [] false Rows.frameScansUptoRow.laid) (((Rows.OpenSpec.upto Rows.frameScansSpec).at F).post enc Tryd.prog Tryd.f4 false true false false) := by
  obtain ⟨places, hx⟩ := FrameScans_reads os enc
  exact law_lifted_laid (C := Tryd.checked) (s := Rows.frameScansSpec) (up := (Rows.OpenSpec.upto Rows.frameScansSpec)) (tb := 4) ⟨rfl, rfl, fun _ _ _ _ h => h⟩ Tryd.own started (by kernel_rfl) Tryd.func4
    (witness_row_at (enc := enc) (C := Tryd.checked) false (laidWorld os) #[.slice none 0 0, .int .i64 0, .int .i64 0] rfl (by kernel_rfl) (by kernel_rfl) (by kernel_rfl)
      (OpenSpec.preRow_of_cond 8 hx (by kernel_rfl) (fun k hk => by cases hk; kernel_rfl) (by kernel_rfl) (FrameScans_met os)))
    rfl Tryd.laidOut (by kernel_rfl) (by kernel_rfl) Tryd.underlying4 (by intro ds h; match ds, h with | [_, _, _], _ => rfl)
    (fun W base args hL hlen hval hred _ _ _ _ => FrameScans_opened enc W base args (table_of hL) hlen hval hred)

theorem FrameScans_said : Rows.FrameScansUptoSaid :=
  OpenClaim.holds_of_cond 4 Tryd.f4 rfl rfl rfl rfl rfl rfl rfl ⟨rfl, rfl, rfl, rfl, rfl⟩ rfl rfl rfl rfl rfl (by kernel_rfl) Tryd.func4 (by kernel_rfl)
    (of_decide_eq_true (by kernel_rfl)) (by unfold Func.isWrapper; rw [if_neg (of_decide_eq_false (by kernel_rfl))]; exact ⟨rfl, rfl⟩)
    (fun os started H enc _ F => by rw [OpenClaim.pre_eq_preRow]; exact FrameScans_lifted os started H enc F)

theorem FrameScans_plain (f : FuncId) (fn : Func) (hf : Tryd.pinned.checked.prog.funcNamed Rows.frameScansUptoRow.func = some f) (hfn : Tryd.pinned.checked.prog.funcs[f]? = some fn) :
    false = Tryd.pinned.checked.prog.looks [] ∧ ∀ (j : Nat) t, fn.params[j]? = some t → Tryd.pinned.checked.prog.wantsStandIn t = false := by
  obtain rfl : f = 4 := Option.some.inj ((show Tryd.prog.funcNamed Rows.frameScansUptoRow.func = some 4 by kernel_rfl).symm.trans hf) |>.symm
  obtain rfl : fn = Tryd.f4 := (Option.some.inj (Tryd.func4.symm.trans hfn)).symm
  refine ⟨by kernel_rfl, fun j t ht => ?_⟩
  have hall : (Tryd.f4.params.toList.all fun t => Tryd.prog.wantsStandIn t == false) = true := by kernel_rfl
  have hm : t ∈ Tryd.f4.params.toList := by
    have := Array.mem_of_getElem? ht
    exact Array.mem_toList_iff.2 this
  have := List.all_eq_true.1 hall t hm
  exact eq_of_beq this

theorem FrameScans_card : Rows.FrameScansUptoCardSaid :=
  Claim7.holds_tied_plain_at .later [] _ _ _ _ FrameScans_said (fun _ h => by cases h) (by kernel_rfl) (fun _ h => by cases h) frameScansUpto_row_tie rfl ⟨rfl, rfl⟩ (by kernel_rfl) rfl FrameScans_plain (by kernel_rfl)
#print axioms FrameScans_card
end Go.Proofs.YtooagpjfcnpheaaDoor
