/- FramePieces, for what is of bulk at most 1048576: the row and its card. -/
import Derived.Test.YtooagpjfcnpheaaDoorOwnLaid
import Derived.Test.YtooagpjfcnpheaaDoorFramePieces
namespace Go.Proofs.YtooagpjfcnpheaaDoor
open Go.ChangeShapes Go.WideShapes Go.ChangeAt Go.RowKit

set_option maxRecDepth 100000 in
theorem FramePieces_opened {H : Type} (enc : TypeId × Value → H) (W : World) (base : Nat) (args : Array Value) (ht : TableAt W) (hlen : args.size = Tryd.f10.params.size)
    (hval : ∀ (j : Nat) t v, Tryd.f10.params[j]? = some t → args[j]? = some v → Value.okWide Tryd.prog W .any base t v)
    (hred : ∀ (j : Nat) t v, Tryd.f10.params[j]? = some t → args[j]? = some v → Red enc Tryd.prog W t v.cells.toList) :
    Calls Tryd.prog 10 args W (Lawful W) := by
  rw [Tryd.params10] at hlen hval hred
  obtain ⟨v0, v1, v2, v3, rfl⟩ := args4 (by simpa using hlen)
  obtain ⟨a0, n0, k0, rfl⟩ := okWide_slice Tryd.underlying32 (hval 0 32 v0 rfl rfl)
  obtain ⟨a1, n1, k1, rfl⟩ := okWide_slice Tryd.underlying22 (hval 1 22 v1 rfl rfl)
  obtain ⟨a2, n2, k2, rfl⟩ := okWide_slice Tryd.underlying33 (hval 2 33 v2 rfl rfl)
  obtain ⟨a3, n3, k3, rfl⟩ := okWide_slice Tryd.underlying33 (hval 3 33 v3 rfl rfl)
  obtain ⟨A1, c1, ps, hx, x1, _, x3, _, x5⟩ := red_rows Tryd.underlying32 Tryd.underlying22 Tryd.underlying5 (by kernel_rfl) (by kernel_rfl) (by kernel_rfl) (by kernel_rfl) (hred 0 32 _ rfl rfl)
  obtain ⟨A2, c2, odd, hy, y1, y2, y3, y4⟩ := red_bytes Tryd.underlying22 Tryd.underlying5 (by kernel_rfl) (by kernel_rfl) (hred 1 22 _ rfl rfl)
  obtain ⟨A3, c3, cs1, hz, z1, z2, z3, _⟩ := red_ints Tryd.underlying33 Tryd.underlying3 (by kernel_rfl) (by kernel_rfl) (hred 2 33 _ rfl rfl)
  obtain ⟨A4, c4, cs2, hu, u1, u2, u3, _⟩ := red_ints Tryd.underlying33 Tryd.underlying3 (by kernel_rfl) (by kernel_rfl) (hred 3 33 _ rfl rfl)
  simp [Value.cells] at hx hy hz hu
  obtain ⟨rfl, rfl, rfl⟩ := hx
  obtain ⟨rfl, rfl, rfl⟩ := hy
  obtain ⟨rfl, rfl, rfl⟩ := hz
  obtain ⟨rfl, rfl, rfl⟩ := hu
  exact pieces_walk _ _ _ _ _ _ _ _ ps odd cs1 cs2 W x3 x5 y3 y4 y1 (by omega) z3 u3 (by omega) (by omega) ht

theorem FramePieces_met (os : Os) : laidMet Tryd.prog Rows.framePiecesUptoRow.laid ((laidWorld os).forCall (fun _ _ => 0) ⟨#[], #[.slice none 0 0, .slice none 0 0, .slice none 0 0, .slice none 0 0], []⟩).memory :=
  laidMet_of_run' 8 (by kernel_rfl) (by kernel_rfl)
theorem FramePieces_reads (os : Os) {H : Type} (enc : TypeId × Value → H) : ∃ places, DataW.whole enc Tryd.prog ((laidWorld os).forCall (fun _ _ => 0) ⟨#[], #[.slice none 0 0, .slice none 0 0, .slice none 0 0, .slice none 0 0], []⟩).memory Tryd.f10.params.toList Rows.framePiecesSpec.vars false #[.slice none 0 0, .slice none 0 0, .slice none 0 0, .slice none 0 0].toList 8 = some ([.nil, .nil, .nil, .nil], [], places) :=
  ⟨[], by kernel_rfl⟩

set_option maxRecDepth 100000 in
theorem FramePieces_lifted (os : Os) (started : os.Started) (H : Type) (enc : TypeId × Value → H) (F : Stop.Interp) :
    ReturnsInHanded {} Tryd.checked os 10 .any ((Rows.OpenSpec.upto Rows.framePiecesSpec).preRow enc Tryd.prog Tryd.f10 [] false Rows.framePiecesUptoRow.laid) (((Rows.OpenSpec.upto Rows.framePiecesSpec).at F).post enc Tryd.prog Tryd.f10 false true false false) := by
  obtain ⟨places, hx⟩ := FramePieces_reads os enc
  exact law_lifted_laid (C := Tryd.checked) (s := Rows.framePiecesSpec) (up := (Rows.OpenSpec.upto Rows.framePiecesSpec)) (tb := 4) ⟨rfl, rfl, fun _ _ _ _ h => h⟩ Tryd.own started (by kernel_rfl) Tryd.func10
    (witness_row_at (enc := enc) (C := Tryd.checked) false (laidWorld os) #[.slice none 0 0, .slice none 0 0, .slice none 0 0, .slice none 0 0] rfl (by kernel_rfl) (by kernel_rfl) (by kernel_rfl)
      (OpenSpec.preRow_of_cond 8 hx (by kernel_rfl) (fun k hk => by cases hk; kernel_rfl) (by kernel_rfl) (FramePieces_met os)))
    rfl Tryd.laidOut (by kernel_rfl) (by kernel_rfl) Tryd.underlying4 (by intro ds h; match ds, h with | [_, _, _, _], _ => rfl)
    (fun W base args hL hlen hval hred _ _ _ _ => FramePieces_opened enc W base args (table_of hL) hlen hval hred)

theorem FramePieces_said : Rows.FramePiecesUptoSaid :=
  OpenClaim.holds_of_cond 10 Tryd.f10 rfl rfl rfl rfl rfl rfl rfl ⟨rfl, rfl, rfl, rfl, rfl⟩ rfl rfl rfl rfl rfl (by kernel_rfl) Tryd.func10 (by kernel_rfl)
    (of_decide_eq_true (by kernel_rfl)) (by unfold Func.isWrapper; rw [if_neg (of_decide_eq_false (by kernel_rfl))]; exact ⟨rfl, rfl⟩)
    (fun os started H enc _ F => by rw [OpenClaim.pre_eq_preRow]; exact FramePieces_lifted os started H enc F)

theorem FramePieces_plain (f : FuncId) (fn : Func) (hf : Tryd.pinned.checked.prog.funcNamed Rows.framePiecesUptoRow.func = some f) (hfn : Tryd.pinned.checked.prog.funcs[f]? = some fn) :
    false = Tryd.pinned.checked.prog.looks [] ∧ ∀ (j : Nat) t, fn.params[j]? = some t → Tryd.pinned.checked.prog.wantsStandIn t = false := by
  obtain rfl : f = 10 := Option.some.inj ((show Tryd.prog.funcNamed Rows.framePiecesUptoRow.func = some 10 by kernel_rfl).symm.trans hf) |>.symm
  obtain rfl : fn = Tryd.f10 := (Option.some.inj (Tryd.func10.symm.trans hfn)).symm
  refine ⟨by kernel_rfl, fun j t ht => ?_⟩
  have hall : (Tryd.f10.params.toList.all fun t => Tryd.prog.wantsStandIn t == false) = true := by kernel_rfl
  have hm : t ∈ Tryd.f10.params.toList := by
    have := Array.mem_of_getElem? ht
    exact Array.mem_toList_iff.2 this
  have := List.all_eq_true.1 hall t hm
  exact eq_of_beq this

theorem FramePieces_card : Rows.FramePiecesUptoCardSaid :=
  Claim7.holds_tied_plain_at .later [] _ _ _ _ FramePieces_said (fun _ h => by cases h) (by kernel_rfl) (fun _ h => by cases h) framePiecesUpto_row_tie rfl ⟨rfl, rfl⟩ (by kernel_rfl) rfl FramePieces_plain (by kernel_rfl)
#print axioms FramePieces_card
end Go.Proofs.YtooagpjfcnpheaaDoor
