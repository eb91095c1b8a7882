/- MsgNames_card, part 20. -/
import Derived.Test.YtjnicgfkogfifaaDoorQNa18
import Derived.Test.YtjnicgfkogfifaaDoorProg
import Derived.Test.YtjnicgfkogfifaaDoorQNa19
import Derived.Test.YtjnicgfkogfifaaDoorQNa7
import Derived.Test.YtjnicgfkogfifaaDoorQNa8
import Derived.Below
import Derived.Deep.Draws
import Derived.Deep.AppendLies
import Derived.Maps.AppendAt
import Derived.OwnWalk
import Derived.Laws.BytesArg
import Derived.Laws.MakeOwn
import Derived.Laws.OwnMore
import Derived.Deep.OwnRows
import Derived.Tactics
import Derived.Lib.ConvBytes
import Derived.Laws.Slices
import Derived.WalkKit
import Derived.KernelRfl
import Derived.RowKit3
import Derived.Deep.LoopGhost
import Derived.Deep.QuietTactic
import Derived.BigQuiet
import Derived.WideLaws
import Derived.Deep.DeepCutAuto
import Derived.Deep.CutBlock
import Derived.Deep.RegionHeld3
import Derived.Laws.Rows
import Derived.Lib.AppendStr
import Derived.ArgAppend
import Derived.Laws.IdiomCopy
import Derived.OrdersHeld
import Derived.Laws.BitsLemmas
import Derived.RowKit
import Derived.Test.YtjnicgfkogfifaaDoorQNa0
import Derived.Test.YtjnicgfkogfifaaDoorQNa2
import Derived.Test.YtjnicgfkogfifaaDoorQNa9
import Derived.Test.YtjnicgfkogfifaaDoorQNa3
import Derived.Test.YtjnicgfkogfifaaDoorQNa4
import Derived.Test.YtjnicgfkogfifaaDoorQNa5
import Derived.Test.YtjnicgfkogfifaaDoorQNa6
import Derived.Test.YtjnicgfkogfifaaDoorQNa11
import Derived.Test.YtjnicgfkogfifaaDoorQNa12
import Derived.Test.YtjnicgfkogfifaaDoorQNa10
import Derived.Test.YtjnicgfkogfifaaDoorQNa13
import Derived.Test.YtjnicgfkogfifaaDoorQNa1

namespace Go.Proofs.YtjnicgfkogfifaaDoor.PAll
open Go.RowKit Go.Proofs.YtjnicgfkogfifaaDoorW.PrintWords Go.Proofs.YtjnicgfkogfifaaDoorW.PrintLast Go.Proofs.YtjnicgfkogfifaaDoorW.PrintMore
attribute [local go_sem] max2_int min2_int max_two min_two max_three min_three max_four min_four   -- for this text's walks alone
set_option linter.unusedVariables false
set_option linter.unusedSimpArgs false

theorem info5 : (Tryd.prog.info? 5).map (fun i => (i.zero, i.size, i.bytes)) = some (some (.int .u8 0), 1, 1) := by kernel_rfl
theorem info54 : (Tryd.prog.info? 54).map (fun i => (i.zero, i.size, i.bytes)) = some (some (.agg #[(.int .i64 0), (.int .i64 0)]), 2, 16) := by kernel_rfl
structure S54 where
 f0 : Int
 f1 : Int
def z54 : S54 := ⟨(0 : Int), (0 : Int)⟩
def k54 : Kd S54 := Kd.iso (Kd.pair (Kd.int .i64) (Kd.int .i64)) (fun x : S54 => (x.f0, x.f1))
theorem k54_open {w : World} {x : S54} {cs : List Value} (h : k54.K w x cs) : cs = [.int .i64 x.f0, .int .i64 x.f1] := by
 obtain ⟨_, _, rfl, rfl, rfl⟩ := h
 exact rfl
theorem k54_mkM (w : World) (base : Nat) (ok : Nat → Prop) (x : S54)  : k54.M w base ok x [.int .i64 x.f0, .int .i64 x.f1] := ⟨[.int .i64 x.f0], [.int .i64 x.f1], rfl, rfl, rfl⟩
def rd_T54 (xs : List S54) (i : Int) : S54 := xs.getD i.toNat z54
theorem at_T54 {w : World} {A : Option Addr} {n : Nat} {xs : List S54} (h : Kd.C k54 w A n xs) (i : Int) (h0 : 0 ≤ i) (h1 : i < n) : ∃ ad , A = some ad ∧ w.cell? (ad.add (i.toNat * 2)) = some (.int .i64 (rd_T54 xs i).f0) ∧ w.cell? ⟨(ad.add (i.toNat * 2)).block, (ad.add (i.toNat * 2)).off + 1, none⟩ = some (.int .i64 (rd_T54 xs i).f1) := by
 obtain ⟨ad, c, e, _, hK, hc0⟩ := Kd.C_get h z54 i h0 h1
 have hc : ∀ j u, c[j]? = some u → w.cell? (ad.add (i.toNat * 2 + j)) = some u := hc0
 obtain rfl := k54_open hK
 exact ⟨ad, e, hc 0 _ rfl, by rw [← add_field _ _ 1 (by omega)]; exact hc 1 _ rfl⟩

theorem blk2_ {w : World} {g : Nat} {t : TypeId} {c0 c1 : Value} (h : w.heap[g]? = some (.cells #[c0, c1] t (0, 0))) : w.cell? ⟨g, 0, none⟩ = some c0 ∧ w.cell? ⟨g, 1, none⟩ = some c1 ∧ w.frozen? ⟨g, 0, none⟩ = false ∧ w.frozen? ⟨g, 1, none⟩ = false := ⟨(blk_cell h 0).trans rfl, (blk_cell h 1).trans rfl, blk_frozen h 0, blk_frozen h 1⟩
theorem blk9_ {w : World} {g : Nat} {t : TypeId} {c0 c1 c2 c3 c4 c5 c6 c7 c8 : Value} (h : w.heap[g]? = some (.cells #[c0, c1, c2, c3, c4, c5, c6, c7, c8] t (0, 0))) : w.cell? ⟨g, 0, none⟩ = some c0 ∧ w.cell? ⟨g, 1, none⟩ = some c1 ∧ w.cell? ⟨g, 2, none⟩ = some c2 ∧ w.cell? ⟨g, 3, none⟩ = some c3 ∧ w.cell? ⟨g, 4, none⟩ = some c4 ∧ w.cell? ⟨g, 5, none⟩ = some c5 ∧ w.cell? ⟨g, 6, none⟩ = some c6 ∧ w.cell? ⟨g, 7, none⟩ = some c7 ∧ w.cell? ⟨g, 8, none⟩ = some c8 ∧ w.frozen? ⟨g, 0, none⟩ = false ∧ w.frozen? ⟨g, 1, none⟩ = false ∧ w.frozen? ⟨g, 2, none⟩ = false ∧ w.frozen? ⟨g, 3, none⟩ = false ∧ w.frozen? ⟨g, 4, none⟩ = false ∧ w.frozen? ⟨g, 5, none⟩ = false ∧ w.frozen? ⟨g, 6, none⟩ = false ∧ w.frozen? ⟨g, 7, none⟩ = false ∧ w.frozen? ⟨g, 8, none⟩ = false := ⟨(blk_cell h 0).trans rfl, (blk_cell h 1).trans rfl, (blk_cell h 2).trans rfl, (blk_cell h 3).trans rfl, (blk_cell h 4).trans rfl, (blk_cell h 5).trans rfl, (blk_cell h 6).trans rfl, (blk_cell h 7).trans rfl, (blk_cell h 8).trans rfl, blk_frozen h 0, blk_frozen h 1, blk_frozen h 2, blk_frozen h 3, blk_frozen h 4, blk_frozen h 5, blk_frozen h 6, blk_frozen h 7, blk_frozen h 8⟩
theorem idx28_0 (w : World) (x0 x1 : Value) : (Instr.index 28 (.agg #[x0, x1]) (.int .i64 0)).run Tryd.prog w = .ok x0 w := by kernel_rfl
theorem idx28_1 (w : World) (x0 x1 : Value) : (Instr.index 28 (.agg #[x0, x1]) (.int .i64 1)).run Tryd.prog w = .ok x1 w := by kernel_rfl
theorem idx29_0 (w : World) (x0 x1 : Value) : (Instr.index 29 (.agg #[x0, x1]) (.int .i64 0)).run Tryd.prog w = .ok x0 w := by kernel_rfl
theorem idx29_1 (w : World) (x0 x1 : Value) : (Instr.index 29 (.agg #[x0, x1]) (.int .i64 1)).run Tryd.prog w = .ok x1 w := by kernel_rfl
theorem idx110_0 (w : World) (x0 x1 x2 : Value) : (Instr.index 110 (.agg #[x0, x1, x2]) (.int .i64 0)).run Tryd.prog w = .ok x0 w := by kernel_rfl
theorem idx110_1 (w : World) (x0 x1 x2 : Value) : (Instr.index 110 (.agg #[x0, x1, x2]) (.int .i64 1)).run Tryd.prog w = .ok x1 w := by kernel_rfl
theorem idx110_2 (w : World) (x0 x1 x2 : Value) : (Instr.index 110 (.agg #[x0, x1, x2]) (.int .i64 2)).run Tryd.prog w = .ok x2 w := by kernel_rfl
theorem idx111_0 (w : World) (x0 x1 x2 x3 : Value) : (Instr.index 111 (.agg #[x0, x1, x2, x3]) (.int .i64 0)).run Tryd.prog w = .ok x0 w := by kernel_rfl
theorem idx111_1 (w : World) (x0 x1 x2 x3 : Value) : (Instr.index 111 (.agg #[x0, x1, x2, x3]) (.int .i64 1)).run Tryd.prog w = .ok x1 w := by kernel_rfl
theorem idx111_2 (w : World) (x0 x1 x2 x3 : Value) : (Instr.index 111 (.agg #[x0, x1, x2, x3]) (.int .i64 2)).run Tryd.prog w = .ok x2 w := by kernel_rfl
theorem idx111_3 (w : World) (x0 x1 x2 x3 : Value) : (Instr.index 111 (.agg #[x0, x1, x2, x3]) (.int .i64 3)).run Tryd.prog w = .ok x3 w := by kernel_rfl
theorem idx112_0 (w : World) (x0 x1 x2 x3 : Value) : (Instr.index 112 (.agg #[x0, x1, x2, x3]) (.int .i64 0)).run Tryd.prog w = .ok x0 w := by kernel_rfl
theorem idx112_1 (w : World) (x0 x1 x2 x3 : Value) : (Instr.index 112 (.agg #[x0, x1, x2, x3]) (.int .i64 1)).run Tryd.prog w = .ok x1 w := by kernel_rfl
theorem idx112_2 (w : World) (x0 x1 x2 x3 : Value) : (Instr.index 112 (.agg #[x0, x1, x2, x3]) (.int .i64 2)).run Tryd.prog w = .ok x2 w := by kernel_rfl
theorem idx112_3 (w : World) (x0 x1 x2 x3 : Value) : (Instr.index 112 (.agg #[x0, x1, x2, x3]) (.int .i64 3)).run Tryd.prog w = .ok x3 w := by kernel_rfl
theorem idx153_0 (w : World) (x0 x1 : Value) : (Instr.index 153 (.agg #[x0, x1]) (.int .i64 0)).run Tryd.prog w = .ok x0 w := by kernel_rfl
theorem idx153_1 (w : World) (x0 x1 : Value) : (Instr.index 153 (.agg #[x0, x1]) (.int .i64 1)).run Tryd.prog w = .ok x1 w := by kernel_rfl
end Go.Proofs.YtjnicgfkogfifaaDoor.PAll
