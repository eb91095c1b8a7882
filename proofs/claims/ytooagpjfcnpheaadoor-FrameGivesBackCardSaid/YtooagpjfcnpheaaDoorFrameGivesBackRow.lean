/- FrameGivesBack: the row and its card. -/
import Derived.Test.YtooagpjfcnpheaaDoorOwnLaid
import Derived.Test.YtooagpjfcnpheaaDoorFrameGivesBack
namespace Go.Proofs.YtooagpjfcnpheaaDoor
open Go.ChangeShapes Go.WideShapes Go.ChangeAt Go.RowKit

set_option maxRecDepth 100000 in
theorem FrameGivesBack_opened {H : Type} (enc : TypeId × Value → H) (W : World) (base : Nat) (args : Array Value) (ht : TableAt W) (hlen : args.size = Tryd.f5.params.size)
    (hval : ∀ (j : Nat) t v, Tryd.f5.params[j]? = some t → args[j]? = some v → Value.okWide Tryd.prog W .any base t v)
    (hred : ∀ (j : Nat) t v, Tryd.f5.params[j]? = some t → args[j]? = some v → Red enc Tryd.prog W t v.cells.toList) :
    Calls Tryd.prog 5 args W (Lawful W) := by
  rw [Tryd.params5] at hlen hval hred
  obtain ⟨v0, v1, v2, v3, rfl⟩ := args4 (by simpa using hlen)
  obtain ⟨a0, n0, k0, rfl⟩ := okWide_slice Tryd.underlying22 (hval 0 22 v0 rfl rfl)
  obtain ⟨cut, rfl⟩ := okWide_int Tryd.underlying3 (hval 1 3 v1 rfl rfl)
  obtain ⟨bit, rfl⟩ := okWide_int Tryd.underlying3 (hval 2 3 v2 rfl rfl)
  obtain ⟨a3, n3, k3, rfl⟩ := okWide_slice Tryd.underlying22 (hval 3 22 v3 rfl rfl)
  obtain ⟨A1, c1, x, hx, x1, x2, x3, x4⟩ := red_bytes Tryd.underlying22 Tryd.underlying5 (by kernel_rfl) (by kernel_rfl) (hred 0 22 _ rfl rfl)
  obtain ⟨A2, c2, y, hy, y1, y2, y3, y4⟩ := red_bytes Tryd.underlying22 Tryd.underlying5 (by kernel_rfl) (by kernel_rfl) (hred 3 22 _ rfl rfl)
  simp [Value.cells] at hx hy
  obtain ⟨rfl, rfl, rfl⟩ := hx
  obtain ⟨rfl, rfl, rfl⟩ := hy
  exact givesBack_walk _ _ _ _ x y cut bit W x3 y3 x4 y4 x1 y1 (by omega) (by omega) ht

theorem FrameGivesBack_met (os : Os) : laidMet Tryd.prog Rows.frameGivesBackRow.laid ((laidWorld os).forCall (fun _ _ => 0) ⟨#[], #[.slice none 0 0, .int .i64 0, .int .i64 0, .slice none 0 0], []⟩).memory :=
  laidMet_of_run' 8 (by kernel_rfl) (by kernel_rfl)
theorem FrameGivesBack_reads (os : Os) {H : Type} (enc : TypeId × Value → H) : ∃ places, DataW.whole enc Tryd.prog ((laidWorld os).forCall (fun _ _ => 0) ⟨#[], #[.slice none 0 0, .int .i64 0, .int .i64 0, .slice none 0 0], []⟩).memory Tryd.f5.params.toList Rows.frameGivesBackSpec.vars false #[.slice none 0 0, .int .i64 0, .int .i64 0, .slice none 0 0].toList 8 = some ([.nil, (.lit (.int .i64 0)), (.lit (.int .i64 0)), .nil], [], places) :=
  ⟨[], by kernel_rfl⟩

set_option maxRecDepth 100000 in
theorem FrameGivesBack_lifted (os : Os) (started : os.Started) (H : Type) (enc : TypeId × Value → H) (F : Stop.Interp) :
    ReturnsInHanded {} Tryd.checked os 5 .any ((OpenSpec.ofChange Rows.frameGivesBackSpec).preRow enc Tryd.prog Tryd.f5 [] false Rows.frameGivesBackRow.laid) (((OpenSpec.ofChange Rows.frameGivesBackSpec).at F).post enc Tryd.prog Tryd.f5 false true false false) := by
  obtain ⟨places, hx⟩ := FrameGivesBack_reads os enc
  exact law_lifted_laid (C := Tryd.checked) (s := Rows.frameGivesBackSpec) (up := (OpenSpec.ofChange Rows.frameGivesBackSpec)) (tb := 4) ⟨rfl, rfl, fun _ _ _ _ h => h⟩ Tryd.own started (by kernel_rfl) Tryd.func5
    (witness_row_at (enc := enc) (C := Tryd.checked) false (laidWorld os) #[.slice none 0 0, .int .i64 0, .int .i64 0, .slice none 0 0] rfl (by kernel_rfl) (by kernel_rfl) (by kernel_rfl)
      (OpenSpec.preRow_of_cond 8 hx (by kernel_rfl) (fun k hk => by cases hk) (by kernel_rfl) (FrameGivesBack_met os)))
    rfl Tryd.laidOut (by kernel_rfl) (by kernel_rfl) Tryd.underlying4 (by intro ds h; match ds, h with | [_, _, _, _], _ => rfl)
    (fun W base args hL hlen hval hred ds p hA hc => FrameGivesBack_opened enc W base args (table_of hL) hlen hval hred)

theorem FrameGivesBack_said : Rows.FrameGivesBackSaid :=
  OpenClaim.holds_of_cond 5 Tryd.f5 rfl rfl rfl rfl rfl rfl rfl ⟨rfl, rfl, rfl, rfl, rfl⟩ rfl rfl rfl rfl rfl (by kernel_rfl) Tryd.func5 (by kernel_rfl)
    (of_decide_eq_true (by kernel_rfl)) (by unfold Func.isWrapper; rw [if_neg (of_decide_eq_false (by kernel_rfl))]; exact ⟨rfl, rfl⟩)
    (fun os started H enc _ F => by rw [OpenClaim.pre_eq_preRow]; exact FrameGivesBack_lifted os started H enc F)

theorem FrameGivesBack_plain (f : FuncId) (fn : Func) (hf : Tryd.pinned.checked.prog.funcNamed Rows.frameGivesBackRow.func = some f) (hfn : Tryd.pinned.checked.prog.funcs[f]? = some fn) :
    false = Tryd.pinned.checked.prog.looks [] ∧ ∀ (j : Nat) t, fn.params[j]? = some t → Tryd.pinned.checked.prog.wantsStandIn t = false := by
  obtain rfl : f = 5 := Option.some.inj ((show Tryd.prog.funcNamed Rows.frameGivesBackRow.func = some 5 by kernel_rfl).symm.trans hf) |>.symm
  obtain rfl : fn = Tryd.f5 := (Option.some.inj (Tryd.func5.symm.trans hfn)).symm
  refine ⟨by kernel_rfl, fun j t ht => ?_⟩
  have hall : (Tryd.f5.params.toList.all fun t => Tryd.prog.wantsStandIn t == false) = true := by kernel_rfl
  have hm : t ∈ Tryd.f5.params.toList := by
    have := Array.mem_of_getElem? ht
    exact Array.mem_toList_iff.2 this
  have := List.all_eq_true.1 hall t hm
  exact eq_of_beq this

theorem FrameGivesBack_card : Rows.FrameGivesBackCardSaid :=
  Claim7.holds_tied_plain_at .later [] _ _ _ _ FrameGivesBack_said (fun _ h => by cases h) (by kernel_rfl) (fun _ h => by cases h) frameGivesBack_row_tie rfl ⟨rfl, rfl⟩ (by kernel_rfl) rfl FrameGivesBack_plain (by kernel_rfl)
#print axioms FrameGivesBack_card
end Go.Proofs.YtooagpjfcnpheaaDoor
