/- FrameBursts: the row and its card. -/
import Derived.Test.YtooagpjfcnpheaaDoorOwnLaid
import Derived.Test.YtooagpjfcnpheaaDoorFrameBursts
namespace Go.Proofs.YtooagpjfcnpheaaDoor
open Go.ChangeShapes Go.WideShapes Go.ChangeAt Go.RowKit

set_option maxRecDepth 100000 in
theorem FrameBursts_opened {H : Type} (enc : TypeId × Value → H) (W : World) (base : Nat) (args : Array Value) (ht : TableAt W) (hlen : args.size = Tryd.f7.params.size)
    (hval : ∀ (j : Nat) t v, Tryd.f7.params[j]? = some t → args[j]? = some v → Value.okWide Tryd.prog W .any base t v)
    (hred : ∀ (j : Nat) t v, Tryd.f7.params[j]? = some t → args[j]? = some v → Red enc Tryd.prog W t v.cells.toList) :
    Calls Tryd.prog 7 args W (Lawful W) := by
  rw [Tryd.params7] at hlen hval hred
  obtain ⟨v0, v1, v2, rfl⟩ := args3 (by simpa using hlen)
  obtain ⟨a0, n0, k0, rfl⟩ := okWide_slice Tryd.underlying22 (hval 0 22 v0 rfl rfl)
  obtain ⟨at', rfl⟩ := okWide_int Tryd.underlying3 (hval 1 3 v1 rfl rfl)
  obtain ⟨mask, rfl⟩ := okWide_int Tryd.underlying23 (hval 2 23 v2 rfl rfl)
  obtain ⟨A1, c1, x, hx, x1, x2, x3, x4⟩ := red_bytes Tryd.underlying22 Tryd.underlying5 (by kernel_rfl) (by kernel_rfl) (hred 0 22 _ rfl rfl)
  obtain ⟨q, hq, hw⟩ := red_int Tryd.underlying23 (hred 2 23 _ rfl rfl)
  simp [Value.cells] at hx hq
  obtain ⟨rfl, rfl, rfl⟩ := hx
  subst hq
  have hm : 0 ≤ mask ∧ mask ≤ 4294967295 := by simpa [Lit.wf, IntKind.min, IntKind.max, IntKind.signed, IntKind.bits] using hw
  obtain ⟨M, rfl⟩ := Int.eq_ofNat_of_zero_le hm.1
  exact bursts_walk _ _ x at' M W x3 x4 x1 (by omega) ht

theorem FrameBursts_met (os : Os) : laidMet Tryd.prog Rows.frameBurstsRow.laid ((laidWorld os).forCall (fun _ _ => 0) ⟨#[], #[.slice none 0 0, .int .i64 0, .int .u32 0], []⟩).memory :=
  laidMet_of_run' 8 (by kernel_rfl) (by kernel_rfl)
theorem FrameBursts_reads (os : Os) {H : Type} (enc : TypeId × Value → H) : ∃ places, DataW.whole enc Tryd.prog ((laidWorld os).forCall (fun _ _ => 0) ⟨#[], #[.slice none 0 0, .int .i64 0, .int .u32 0], []⟩).memory Tryd.f7.params.toList Rows.frameBurstsSpec.vars false #[.slice none 0 0, .int .i64 0, .int .u32 0].toList 8 = some ([.nil, (.lit (.int .i64 0)), (.lit (.int .u32 0))], [], places) :=
  ⟨[], by kernel_rfl⟩

set_option maxRecDepth 100000 in
theorem FrameBursts_lifted (os : Os) (started : os.Started) (H : Type) (enc : TypeId × Value → H) (F : Stop.Interp) :
    ReturnsInHanded {} Tryd.checked os 7 .any ((OpenSpec.ofChange Rows.frameBurstsSpec).preRow enc Tryd.prog Tryd.f7 [] false Rows.frameBurstsRow.laid) (((OpenSpec.ofChange Rows.frameBurstsSpec).at F).post enc Tryd.prog Tryd.f7 false true false false) := by
  obtain ⟨places, hx⟩ := FrameBursts_reads os enc
  exact law_lifted_laid (C := Tryd.checked) (s := Rows.frameBurstsSpec) (up := (OpenSpec.ofChange Rows.frameBurstsSpec)) (tb := 4) ⟨rfl, rfl, fun _ _ _ _ h => h⟩ Tryd.own started (by kernel_rfl) Tryd.func7
    (witness_row_at (enc := enc) (C := Tryd.checked) false (laidWorld os) #[.slice none 0 0, .int .i64 0, .int .u32 0] rfl (by kernel_rfl) (by kernel_rfl) (by kernel_rfl)
      (OpenSpec.preRow_of_cond 8 hx (by kernel_rfl) (fun k hk => by cases hk) (by kernel_rfl) (FrameBursts_met os)))
    rfl Tryd.laidOut (by kernel_rfl) (by kernel_rfl) Tryd.underlying4 (by intro ds h; match ds, h with | [_, _, _], _ => rfl)
    (fun W base args hL hlen hval hred ds p hA hc => FrameBursts_opened enc W base args (table_of hL) hlen hval hred)

theorem FrameBursts_said : Rows.FrameBurstsSaid :=
  OpenClaim.holds_of_cond 7 Tryd.f7 rfl rfl rfl rfl rfl rfl rfl ⟨rfl, rfl, rfl, rfl, rfl⟩ rfl rfl rfl rfl rfl (by kernel_rfl) Tryd.func7 (by kernel_rfl)
    (of_decide_eq_true (by kernel_rfl)) (by unfold Func.isWrapper; rw [if_neg (of_decide_eq_false (by kernel_rfl))]; exact ⟨rfl, rfl⟩)
    (fun os started H enc _ F => by rw [OpenClaim.pre_eq_preRow]; exact FrameBursts_lifted os started H enc F)

theorem FrameBursts_plain (f : FuncId) (fn : Func) (hf : Tryd.pinned.checked.prog.funcNamed Rows.frameBurstsRow.func = some f) (hfn : Tryd.pinned.checked.prog.funcs[f]? = some fn) :
    false = Tryd.pinned.checked.prog.looks [] ∧ ∀ (j : Nat) t, fn.params[j]? = some t → Tryd.pinned.checked.prog.wantsStandIn t = false := by
  obtain rfl : f = 7 := Option.some.inj ((show Tryd.prog.funcNamed Rows.frameBurstsRow.func = some 7 by kernel_rfl).symm.trans hf) |>.symm
  obtain rfl : fn = Tryd.f7 := (Option.some.inj (Tryd.func7.symm.trans hfn)).symm
  refine ⟨by kernel_rfl, fun j t ht => ?_⟩
  have hall : (Tryd.f7.params.toList.all fun t => Tryd.prog.wantsStandIn t == false) = true := by kernel_rfl
  have hm : t ∈ Tryd.f7.params.toList := by
    have := Array.mem_of_getElem? ht
    exact Array.mem_toList_iff.2 this
  have := List.all_eq_true.1 hall t hm
  exact eq_of_beq this

theorem FrameBursts_card : Rows.FrameBurstsCardSaid :=
  Claim7.holds_tied_plain_at .later [] _ _ _ _ FrameBursts_said (fun _ h => by cases h) (by kernel_rfl) (fun _ h => by cases h) frameBursts_row_tie rfl ⟨rfl, rfl⟩ (by kernel_rfl) rfl FrameBursts_plain (by kernel_rfl)
#print axioms FrameBursts_card
end Go.Proofs.YtooagpjfcnpheaaDoor
