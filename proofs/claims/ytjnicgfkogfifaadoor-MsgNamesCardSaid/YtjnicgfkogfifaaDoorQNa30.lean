/- MsgNames_card, part 30. -/
import Derived.Test.YtjnicgfkogfifaaDoorQNa20
import Derived.Test.YtjnicgfkogfifaaDoorQNa29

namespace Go.Proofs.YtjnicgfkogfifaaDoor.PAll
open Go.RowKit Go.Proofs.YtjnicgfkogfifaaDoorW.PrintWords Go.Proofs.YtjnicgfkogfifaaDoorW.PrintLast Go.Proofs.YtjnicgfkogfifaaDoorW.PrintMore
attribute [local go_sem] max2_int min2_int max_two min_two max_three min_three max_four min_four   -- for this text's walks alone
set_option linter.unusedVariables false
set_option linter.unusedSimpArgs false

attribute [local go_sem high] idx28_0 idx28_1 idx29_0 idx29_1 idx110_0 idx110_1 idx110_2 idx111_0 idx111_1 idx111_2 idx111_3 idx112_0 idx112_1 idx112_2 idx112_3 idx153_0 idx153_1
def msg_empty.f (k : Nat) (a0_0 : Int) (a0_1 : Int) (a0_2 : Int) (a0_3 : Int) (a0_4 : ByteArray) (l0_5 : List (S54)) (a0_6 : Int) (a0_7 : Int) (a0_8 : Bool) : Option (Bool) := (op_Equal.f k a0_0 a0_1 a0_2 a0_3 a0_4 l0_5 a0_6 a0_7 a0_8 0 0 0 0 (⟨#[]⟩ : ByteArray) ([] : List (S54)) 0 0 false).bind fun t218 => (some t218)
set_option maxHeartbeats 8000000 in
set_option maxRecDepth 100000 in
theorem msg_empty.calls (k : Nat) (a0_0 : Int) (a0_1 : Int) (a0_2 : Int) (a0_3 : Int) (a0_4 : ByteArray) (A0_5 : Option Addr) (c0_5 : Nat) (l0_5 : List (S54)) (a0_6 : Int) (a0_7 : Int) (a0_8 : Bool) (r : Bool) (w : World) (hr0_5 : Kd.C k54 w A0_5 l0_5.length l0_5) (hc0_5 : l0_5.length ≤ c0_5) (h : msg_empty.f k a0_0 a0_1 a0_2 a0_3 a0_4 l0_5 a0_6 a0_7 a0_8 = some r) :
 Calls Tryd.prog 47 #[.agg #[.int .i64 a0_0, .int .i64 a0_1, .int .i64 a0_2, .int .i64 a0_3, .string a0_4, .slice A0_5 l0_5.length c0_5, .int .i64 a0_6, .int .i64 a0_7, .bool a0_8]] w fun e w' => e = .returned (.bool r) ∧ Below w.heap.size w w' := by
 have hu35 := Tryd.underlying35
 have HR0_5 := Aside0.mk hr0_5
 have HC0_5 := Aside0.mk hc0_5
 clear hr0_5 hc0_5
 have HB := Aside0.mk (Below.refl w.heap.size w)
 have H : ((op_Equal.f k a0_0 a0_1 a0_2 a0_3 a0_4 l0_5 a0_6 a0_7 a0_8 0 0 0 0 (⟨#[]⟩ : ByteArray) ([] : List (S54)) 0 0 false).bind fun t218 => (some t218)) = some r := h
 clear h
 replace H := Option.bind_eq_some_iff.mp H
 obtain ⟨t218, A20, H⟩ := H
 try dsimp only at H
 have A2 := Aside0.mk A20
 clear A20
 obtain rfl := Option.some.inj H
 go_enter Tryd.func47, Tryd.ntmps47
 go_wp2_with (first | ((with_reducible refine gate_dst (N := 1) rfl ?_); refine bxE_ 1 35 #[.int .i64 a0_0, .int .i64 a0_1, .int .i64 a0_2, .int .i64 a0_3, .string a0_4, .slice A0_5 l0_5.length c0_5, .int .i64 a0_6, .int .i64 a0_7, .bool a0_8] ?_; intro gb217 hg w3 hbox hb; have BK217 := Aside0.mk (hbox); have GW217 := gee_ hg HB; have GE217 := gee_ hg HB; replace HB := belB_ HB hb; clear hb hbox hg; have hz_ := blk9_ BK217.out) | ((with_reducible refine gate_callee (f := 27) rfl ?_); refine goS_ 5 rfl Tryd.func27 #[.agg #[.int .i64 a0_0, .int .i64 a0_1, .int .i64 a0_2, .int .i64 a0_3, .string a0_4, .slice A0_5 l0_5.length c0_5, .int .i64 a0_6, .int .i64 a0_7, .bool a0_8], .agg #[.int .i64 0, .int .i64 0, .int .i64 0, .int .i64 0, .string (⟨#[]⟩ : ByteArray), .slice none 0 0, .int .i64 0, .int .i64 0, .bool false]] ?_; (refine (op_Equal.calls k a0_0 a0_1 a0_2 a0_3 a0_4 _ _ l0_5 a0_6 a0_7 a0_8 0 0 0 0 (⟨#[]⟩ : ByteArray) _ _ ([] : List (S54)) 0 0 false t218 _ ?side1 ?side2 ?side3 ?side4 A2.out).mono ?_); (case side1 => exact CW_ ((Kd.C_below HR0_5.out HB.out))); (case side2 => exact HC0_5.out); (case side3 => exact Kd.C_nil _ _); (case side4 => exact Nat.le_refl _); rintro e w5 ⟨rfl, hb⟩; refine ⟨_, rfl, ?_⟩; replace BK217 := blkB_ BK217 hb; replace HB := belB_ HB hb; try clear hb))
 go_ret
 exact ⟨rs_, belW_ HB⟩

end Go.Proofs.YtjnicgfkogfifaaDoor.PAll
