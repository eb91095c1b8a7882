/- FrameSums: of three lists of one length the checksum of their exclusive or is the exclusive or of their checksums; a list with one bit turned has another checksum; that of the digits 1 to 9 is the published one. Proved for every three lists and every number, where the package's table holds what the program's text lays there (the card ties it). -/
import Derived.Test.YtooagpjfcnpheaaDoorOwnLaid
import Derived.Test.YtooagpjfcnpheaaDoorFrameSums
namespace Go.Proofs.YtooagpjfcnpheaaDoor
open Go.ChangeShapes Go.WideShapes Go.ChangeAt Go.RowKit

set_option maxRecDepth 100000 in
theorem FrameSums_opened {H : Type} (enc : TypeId × Value → H) (W : World) (base : Nat) (args : Array Value) (ht : TableAt W) (hlen : args.size = Tryd.f3.params.size)
    (hval : ∀ (j : Nat) t v, Tryd.f3.params[j]? = some t → args[j]? = some v → Value.okWide Tryd.prog W .any base t v)
    (hred : ∀ (j : Nat) t v, Tryd.f3.params[j]? = some t → args[j]? = some v → Red enc Tryd.prog W t v.cells.toList) :
    Calls Tryd.prog 3 args W (Lawful W) := by
  rw [Tryd.params3] at hlen hval hred
  obtain ⟨v0, v1, v2, v3, rfl⟩ := args4 (by simpa using hlen)
  obtain ⟨a0, n0, k0, rfl⟩ := okWide_slice Tryd.underlying22 (hval 0 22 v0 rfl rfl)
  obtain ⟨a1, n1, k1, rfl⟩ := okWide_slice Tryd.underlying22 (hval 1 22 v1 rfl rfl)
  obtain ⟨a2, n2, k2, rfl⟩ := okWide_slice Tryd.underlying22 (hval 2 22 v2 rfl rfl)
  obtain ⟨b, rfl⟩ := okWide_int Tryd.underlying3 (hval 3 3 v3 rfl rfl)
  obtain ⟨A1, c1, x, hx, x1, x2, x3, x4⟩ := red_bytes Tryd.underlying22 Tryd.underlying5 (by kernel_rfl) (by kernel_rfl) (hred 0 22 _ rfl rfl)
  obtain ⟨A2, c2, y, hy, y1, y2, y3, y4⟩ := red_bytes Tryd.underlying22 Tryd.underlying5 (by kernel_rfl) (by kernel_rfl) (hred 1 22 _ rfl rfl)
  obtain ⟨A3, c3, z, hz, z1, z2, z3, z4⟩ := red_bytes Tryd.underlying22 Tryd.underlying5 (by kernel_rfl) (by kernel_rfl) (hred 2 22 _ rfl rfl)
  simp [Value.cells] at hx hy hz
  obtain ⟨rfl, rfl, rfl⟩ := hx
  obtain ⟨rfl, rfl, rfl⟩ := hy
  obtain ⟨rfl, rfl, rfl⟩ := hz
  exact sums_walk _ _ _ _ _ _ x y z b W x3 y3 z3 x4 y4 z4 x1 y1 z1 x2 y2 z2 ht

theorem FrameSums_met (os : Os) : laidMet Tryd.prog Rows.frameSumsRow.laid ((laidWorld os).forCall (fun _ _ => 0) ⟨#[], #[.slice none 0 0, .slice none 0 0, .slice none 0 0, .int .i64 0], []⟩).memory :=
  laidMet_of_run' 8 (by kernel_rfl) (by kernel_rfl)
theorem FrameSums_reads (os : Os) {H : Type} (enc : TypeId × Value → H) : ∃ places, DataW.whole enc Tryd.prog ((laidWorld os).forCall (fun _ _ => 0) ⟨#[], #[.slice none 0 0, .slice none 0 0, .slice none 0 0, .int .i64 0], []⟩).memory Tryd.f3.params.toList Rows.frameSumsSpec.vars false #[.slice none 0 0, .slice none 0 0, .slice none 0 0, .int .i64 0].toList 8 = some ([.nil, .nil, .nil, .lit (.int .i64 0)], [], places) :=
  ⟨[], by kernel_rfl⟩

set_option maxRecDepth 100000 in
theorem FrameSums_lifted (os : Os) (started : os.Started) (H : Type) (enc : TypeId × Value → H) (F : Stop.Interp) :
    ReturnsInHanded {} Tryd.checked os 3 .any ((OpenSpec.ofChange Rows.frameSumsSpec).preRow enc Tryd.prog Tryd.f3 [] false Rows.frameSumsRow.laid) (((OpenSpec.ofChange Rows.frameSumsSpec).at F).post enc Tryd.prog Tryd.f3 false true false false) := by
  obtain ⟨places, hx⟩ := FrameSums_reads os enc
  exact law_lifted_laid (C := Tryd.checked) (s := Rows.frameSumsSpec) (up := (OpenSpec.ofChange Rows.frameSumsSpec)) (tb := 4) ⟨rfl, rfl, fun _ _ _ _ h => h⟩ Tryd.own started (by kernel_rfl) Tryd.func3
    (witness_row_at (enc := enc) (C := Tryd.checked) false (laidWorld os) #[.slice none 0 0, .slice none 0 0, .slice none 0 0, .int .i64 0] rfl (by kernel_rfl) (by kernel_rfl) (by kernel_rfl)
      (OpenSpec.preRow_of_cond 8 hx (by kernel_rfl) (fun k hk => by cases hk) (by kernel_rfl) (FrameSums_met os)))
    rfl Tryd.laidOut (by kernel_rfl) (by kernel_rfl) Tryd.underlying4 (by intro ds h; match ds, h with | [_, _, _, _], _ => rfl)
    (fun W base args hL hlen hval hred ds p hA hc => FrameSums_opened enc W base args (table_of hL) hlen hval hred)

theorem FrameSums_said : Rows.FrameSumsSaid :=
  OpenClaim.holds_of_cond 3 Tryd.f3 rfl rfl rfl rfl rfl rfl rfl ⟨rfl, rfl, rfl, rfl, rfl⟩ rfl rfl rfl rfl rfl (by kernel_rfl) Tryd.func3 (by kernel_rfl)
    (of_decide_eq_true (by kernel_rfl)) (by unfold Func.isWrapper; rw [if_neg (of_decide_eq_false (by kernel_rfl))]; exact ⟨rfl, rfl⟩)
    (fun os started H enc _ F => by rw [OpenClaim.pre_eq_preRow]; exact FrameSums_lifted os started H enc F)

theorem FrameSums_plain (f : FuncId) (fn : Func) (hf : Tryd.pinned.checked.prog.funcNamed Rows.frameSumsRow.func = some f) (hfn : Tryd.pinned.checked.prog.funcs[f]? = some fn) :
    false = Tryd.pinned.checked.prog.looks [] ∧ ∀ (j : Nat) t, fn.params[j]? = some t → Tryd.pinned.checked.prog.wantsStandIn t = false := by
  obtain rfl : f = 3 := Option.some.inj ((show Tryd.prog.funcNamed Rows.frameSumsRow.func = some 3 by kernel_rfl).symm.trans hf) |>.symm
  obtain rfl : fn = Tryd.f3 := (Option.some.inj (Tryd.func3.symm.trans hfn)).symm
  refine ⟨by kernel_rfl, fun j t ht => ?_⟩
  have hall : (Tryd.f3.params.toList.all fun t => Tryd.prog.wantsStandIn t == false) = true := by kernel_rfl
  have hm : t ∈ Tryd.f3.params.toList := by
    have := Array.mem_of_getElem? ht
    exact Array.mem_toList_iff.2 this
  have := List.all_eq_true.1 hall t hm
  exact eq_of_beq this

theorem FrameSums_card : Rows.FrameSumsCardSaid :=
  Claim7.holds_tied_plain_at .later [] _ _ _ _ FrameSums_said (fun _ h => by cases h) (by kernel_rfl) (fun _ h => by cases h) frameSums_row_tie rfl ⟨rfl, rfl⟩ (by kernel_rfl) rfl FrameSums_plain (by kernel_rfl)
#print axioms FrameSums_card
end Go.Proofs.YtooagpjfcnpheaaDoor
