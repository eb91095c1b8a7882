/- MsgNames_card, part 22. -/
import Derived.Test.YtjnicgfkogfifaaDoorQNa20
import Derived.Test.YtjnicgfkogfifaaDoorQNa21

namespace Go.Proofs.YtjnicgfkogfifaaDoor.PAll
open Go.RowKit Go.Proofs.YtjnicgfkogfifaaDoorW.PrintWords Go.Proofs.YtjnicgfkogfifaaDoorW.PrintLast Go.Proofs.YtjnicgfkogfifaaDoorW.PrintMore
attribute [local go_sem] max2_int min2_int max_two min_two max_three min_three max_four min_four   -- for this text's walks alone
set_option linter.unusedVariables false
set_option linter.unusedSimpArgs false

attribute [local go_sem high] idx28_0 idx28_1 idx29_0 idx29_1 idx110_0 idx110_1 idx110_2 idx111_0 idx111_1 idx111_2 idx111_3 idx112_0 idx112_1 idx112_2 idx112_3 idx153_0 idx153_1
attribute [local go_sem high] eqA29
def op_right.f (a0_0 : Int) (a0_1 : Int) : Option (Bool) := if a0_0 ≥ 1 then (if a0_0 ≤ 8 then (if a0_1 ≥ 1 then (some (decide (a0_1 ≤ 1024))) else (some false)) else (some false)) else (some false)
set_option maxHeartbeats 8000000 in
set_option maxRecDepth 100000 in
theorem op_right.calls (a0_0 : Int) (a0_1 : Int) (r : Bool) (w : World) (h : op_right.f a0_0 a0_1 = some r) :
 Calls Tryd.prog 95 #[.agg #[.int .i64 a0_0, .int .i64 a0_1]] w fun e w' => e = .returned (.bool r) ∧ Below w.heap.size w w' := by
 have hu29 := Tryd.underlying29
 have HB := Aside0.mk (Below.refl w.heap.size w)
 have H : (if a0_0 ≥ 1 then (if a0_0 ≤ 8 then (if a0_1 ≥ 1 then (some (decide (a0_1 ≤ 1024))) else (some false)) else (some false)) else (some false)) = some r := h
 clear h
 repeat' (first | (replace H := ifE_ H; rcases H with ⟨_, _, H⟩ | ⟨_, _, H⟩) | (replace H := ifL_ H; rcases H with ⟨_, _, H⟩ | ⟨_, _, H⟩) | (replace H := ifB_ H; rcases H with ⟨_, H⟩ | ⟨_, H⟩) | (replace H := ifG_ H; rcases H with ⟨_, _, H⟩ | ⟨_, _, H⟩) | (replace H := ifGt_ H; rcases H with ⟨_, H⟩ | ⟨_, H⟩) | (replace H := ifGe_ H; rcases H with ⟨_, H⟩ | ⟨_, H⟩) | (replace H := ifD_ H; rcases H with ⟨_, H⟩ | ⟨_, H⟩))
 all_goals (obtain rfl := Option.some.inj H; go_enter Tryd.func95, Tryd.ntmps95; go_wp2_with (first | ((with_reducible refine gate_dst (N := 1) rfl ?_); refine bxE_ 1 29 #[.int .i64 a0_0, .int .i64 a0_1] ?_; intro gb101 hg w11 hbox hb; have BK101 := Aside0.mk (hbox); have GW101 := gee_ hg HB; have GE101 := gee_ hg HB; replace HB := belB_ HB hb; clear hb hbox hg; have hz_ := blk2_ BK101.out)); go_ret; exact ⟨rs_, belW_ HB⟩)

def op_extra.f (a0_0 : Int) (a0_1 : Int) (a0_2 : Int) (a0_3 : Int) (a0_4 : ByteArray) (l0_5 : List (S54)) (a0_6 : Int) (a0_7 : Int) (a0_8 : Bool) : Option (Bool) := if a0_2 = 2 then (if a0_2 = 1 then (if a0_2 = 4 then (some false) else (if (!(a0_6 == 0) || (!(a0_7 == 0))) = true then (some true) else (some a0_8))) else (if a0_3 = 0 then (if a0_4.toList = ([] : List UInt8) then (if a0_2 = 4 then (some false) else (if (!(a0_6 == 0) || (!(a0_7 == 0))) = true then (some true) else (some a0_8))) else (some true)) else (some true))) else (if a0_2 = 1 then (if a0_2 = 3 then (if a0_2 = 4 then (some false) else (if (!(a0_6 == 0) || (!(a0_7 == 0))) = true then (some true) else (some a0_8))) else (if (l0_5.length : Int) > 0 then (some true) else (if a0_2 = 4 then (some false) else (if (!(a0_6 == 0) || (!(a0_7 == 0))) = true then (some true) else (some a0_8))))) else (if a0_3 = 0 then (if a0_4.toList = ([] : List UInt8) then (if a0_2 = 3 then (if a0_2 = 4 then (some false) else (if (!(a0_6 == 0) || (!(a0_7 == 0))) = true then (some true) else (some a0_8))) else (if (l0_5.length : Int) > 0 then (some true) else (if a0_2 = 4 then (some false) else (if (!(a0_6 == 0) || (!(a0_7 == 0))) = true then (some true) else (some a0_8))))) else (some true)) else (some true)))
set_option maxHeartbeats 8000000 in
set_option maxRecDepth 100000 in
theorem op_extra.calls (a0_0 : Int) (a0_1 : Int) (a0_2 : Int) (a0_3 : Int) (a0_4 : ByteArray) (A0_5 : Option Addr) (c0_5 : Nat) (l0_5 : List (S54)) (a0_6 : Int) (a0_7 : Int) (a0_8 : Bool) (r : Bool) (w : World) (hr0_5 : Kd.C k54 w A0_5 l0_5.length l0_5) (hc0_5 : l0_5.length ≤ c0_5) (h : op_extra.f a0_0 a0_1 a0_2 a0_3 a0_4 l0_5 a0_6 a0_7 a0_8 = some r) :
 Calls Tryd.prog 96 #[.agg #[.int .i64 a0_0, .int .i64 a0_1, .int .i64 a0_2, .int .i64 a0_3, .string a0_4, .slice A0_5 l0_5.length c0_5, .int .i64 a0_6, .int .i64 a0_7, .bool a0_8]] w fun e w' => e = .returned (.bool r) ∧ Below w.heap.size w w' := by
 have hu35 := Tryd.underlying35
 have hu29 := Tryd.underlying29
 have HR0_5 := Aside0.mk hr0_5
 have HC0_5 := Aside0.mk hc0_5
 clear hr0_5 hc0_5
 have HB := Aside0.mk (Below.refl w.heap.size w)
 have H : (if a0_2 = 2 then (if a0_2 = 1 then (if a0_2 = 4 then (some false) else (if (!(a0_6 == 0) || (!(a0_7 == 0))) = true then (some true) else (some a0_8))) else (if a0_3 = 0 then (if a0_4.toList = ([] : List UInt8) then (if a0_2 = 4 then (some false) else (if (!(a0_6 == 0) || (!(a0_7 == 0))) = true then (some true) else (some a0_8))) else (some true)) else (some true))) else (if a0_2 = 1 then (if a0_2 = 3 then (if a0_2 = 4 then (some false) else (if (!(a0_6 == 0) || (!(a0_7 == 0))) = true then (some true) else (some a0_8))) else (if (l0_5.length : Int) > 0 then (some true) else (if a0_2 = 4 then (some false) else (if (!(a0_6 == 0) || (!(a0_7 == 0))) = true then (some true) else (some a0_8))))) else (if a0_3 = 0 then (if a0_4.toList = ([] : List UInt8) then (if a0_2 = 3 then (if a0_2 = 4 then (some false) else (if (!(a0_6 == 0) || (!(a0_7 == 0))) = true then (some true) else (some a0_8))) else (if (l0_5.length : Int) > 0 then (some true) else (if a0_2 = 4 then (some false) else (if (!(a0_6 == 0) || (!(a0_7 == 0))) = true then (some true) else (some a0_8))))) else (some true)) else (some true)))) = some r := h
 clear h
 repeat' (first | (replace H := ifE_ H; rcases H with ⟨_, _, H⟩ | ⟨_, _, H⟩) | (replace H := ifL_ H; rcases H with ⟨_, _, H⟩ | ⟨_, _, H⟩) | (replace H := ifB_ H; rcases H with ⟨_, H⟩ | ⟨_, H⟩) | (replace H := ifG_ H; rcases H with ⟨_, _, H⟩ | ⟨_, _, H⟩) | (replace H := ifGt_ H; rcases H with ⟨_, H⟩ | ⟨_, H⟩) | (replace H := ifGe_ H; rcases H with ⟨_, H⟩ | ⟨_, H⟩) | (replace H := ifD_ H; rcases H with ⟨_, H⟩ | ⟨_, H⟩))
 all_goals (obtain rfl := Option.some.inj H; go_enter Tryd.func96, Tryd.ntmps96; go_wp2_with (first | ((with_reducible refine gate_dst (N := 1) rfl ?_); (try (refine gate_guard (by rfl) ?_; dsimp only)); refine bxE_ 1 35 #[.int .i64 a0_0, .int .i64 a0_1, .int .i64 a0_2, .int .i64 a0_3, .string a0_4, .slice A0_5 l0_5.length c0_5, .int .i64 a0_6, .int .i64 a0_7, .bool a0_8] ?_; intro gb102 hg w10 hbox hb; have BK102 := Aside0.mk (hbox); have GW102 := gee_ hg HB; have GE102 := gee_ hg HB; replace HB := belB_ HB hb; clear hb hbox hg; obtain ⟨hcz11_0, hcz11_1, hcz11_2, hcz11_3, hcz11_4, hcz11_5, hcz11_6, hcz11_7, hcz11_8, hfz11_0, hfz11_1, hfz11_2, hfz11_3, hfz11_4, hfz11_5, hfz11_6, hfz11_7, hfz11_8⟩ := blk9_ BK102.out)); go_ret; exact ⟨rs_, belW_ HB⟩)

def op_checkIns.j0 : Nat → Int → Int → Bool → Option (Int)
 | 0, _, _, _ => none
 | k + 1, x1, x5, x25 => if x25 = true then (some 12) else (if (wrap64 (x1 + x5)) > 1048576 then (some 24) else (some 0))
def op_checkIns.f (k : Nat) (a0_0 : Int) (a0_1 : Int) (a0_2 : Int) (a0_3 : Int) (a0_4 : ByteArray) (l0_5 : List (S54)) (a0_6 : Int) (a0_7 : Int) (a0_8 : Bool) (a1 : Int) : Option (Int) := (utext_Check.f a0_4).bind fun bt104 => (if bt104.2.2 = 0 then (if bt104.1 = 0 then (some 15) else (if bt104.1 > 256 then (some 14) else (if a0_3 < 0 then (op_checkIns.j0 k a1 bt104.1 true) else (op_checkIns.j0 k a1 bt104.1 (decide (a0_3 > a1)))))) else (some bt104.2.2))
set_option maxHeartbeats 8000000 in
set_option maxRecDepth 100000 in
theorem op_checkIns.calls (k : Nat) (a0_0 : Int) (a0_1 : Int) (a0_2 : Int) (a0_3 : Int) (a0_4 : ByteArray) (A0_5 : Option Addr) (c0_5 : Nat) (l0_5 : List (S54)) (a0_6 : Int) (a0_7 : Int) (a0_8 : Bool) (a1 : Int) (r : Int) (w : World) (hr0_5 : Kd.C k54 w A0_5 l0_5.length l0_5) (hc0_5 : l0_5.length ≤ c0_5) (hG : GW w) (h : op_checkIns.f k a0_0 a0_1 a0_2 a0_3 a0_4 l0_5 a0_6 a0_7 a0_8 a1 = some r) :
 Calls Tryd.prog 97 #[.agg #[.int .i64 a0_0, .int .i64 a0_1, .int .i64 a0_2, .int .i64 a0_3, .string a0_4, .slice A0_5 l0_5.length c0_5, .int .i64 a0_6, .int .i64 a0_7, .bool a0_8], .int .i64 a1] w fun e w' => e = .returned (.int .i64 r) ∧ Below w.heap.size w w' := by
 have hu35 := Tryd.underlying35
 have HR0_5 := Aside0.mk hr0_5
 have HC0_5 := Aside0.mk hc0_5
 clear hr0_5 hc0_5
 have HB := Aside0.mk (Below.refl w.heap.size w)
 have H : ((utext_Check.f a0_4).bind fun bt104 => (if bt104.2.2 = 0 then (if bt104.1 = 0 then (some 15) else (if bt104.1 > 256 then (some 14) else (if a0_3 < 0 then (op_checkIns.j0 k a1 bt104.1 true) else (op_checkIns.j0 k a1 bt104.1 (decide (a0_3 > a1)))))) else (some bt104.2.2))) = some r := h
 clear h
 replace H := Option.bind_eq_some_iff.mp H
 obtain ⟨⟨t104, t105, t106⟩, A30, H⟩ := H
 try dsimp only at H
 have A3 := Aside0.mk A30
 clear A30
 by_cases c4 : t106 = 0
 ·rw [if_pos c4] at H
  have c4b0 := beq_iff_eq.mpr c4
  have c4b1 := bne_eq_false_iff_eq.mpr c4
  clear c4
  by_cases c5 : t104 = 0
  ·rw [if_pos c5] at H
   have c5b0 := beq_iff_eq.mpr c5
   have c5b1 := bne_eq_false_iff_eq.mpr c5
   clear c5
   obtain rfl := Option.some.inj H
   go_enter Tryd.func97, Tryd.ntmps97
   go_wp2_with (first | ((with_reducible refine gate_dst (N := 2) rfl ?_); refine bxE_ 2 35 #[.int .i64 a0_0, .int .i64 a0_1, .int .i64 a0_2, .int .i64 a0_3, .string a0_4, .slice A0_5 l0_5.length c0_5, .int .i64 a0_6, .int .i64 a0_7, .bool a0_8] ?_; intro gb103 hg w6 hbox hb; have BK103 := Aside0.mk (hbox); have GW103 := gee_ hg HB; have GE103 := gee_ hg HB; replace HB := belB_ HB hb; clear hb hbox hg; obtain ⟨hcz7_0, hcz7_1, hcz7_2, hcz7_3, hcz7_4, hcz7_5, hcz7_6, hcz7_7, hcz7_8, hfz7_0, hfz7_1, hfz7_2, hfz7_3, hfz7_4, hfz7_5, hfz7_6, hfz7_7, hfz7_8⟩ := blk9_ BK103.out) | ((with_reducible refine gate_callee (f := 71) rfl ?_); refine goS_ 11 rfl Tryd.func71 #[.string a0_4] ?_; (with_reducible refine (utext_Check.calls a0_4 t104 t105 t106 _ ?side1 A3.out).mono ?_); (case side1 => exact GW.below hG (belW_ HB)); rintro e w8 ⟨rfl, hb⟩; refine ⟨_, rfl, ?_⟩; replace BK103 := blkB_ BK103 hb; replace HB := belB_ HB hb; try clear hb))
   go_ret
   exact ⟨rs_, belW_ HB⟩
  ·rw [if_neg c5] at H
   have c5b0 := beq_eq_false_iff_ne.mpr c5
   have c5b1 := bne_iff_ne.mpr c5
   by_cases c9 : t104 > 256
   ·rw [if_pos c9] at H
    have c9b0 : decide (256 < t104) = true := decide_eq_true c9
    clear c9
    obtain rfl := Option.some.inj H
    go_enter Tryd.func97, Tryd.ntmps97
    go_wp2_with (first | ((with_reducible refine gate_dst (N := 2) rfl ?_); refine bxE_ 2 35 #[.int .i64 a0_0, .int .i64 a0_1, .int .i64 a0_2, .int .i64 a0_3, .string a0_4, .slice A0_5 l0_5.length c0_5, .int .i64 a0_6, .int .i64 a0_7, .bool a0_8] ?_; intro gb103 hg w10 hbox hb; have BK103 := Aside0.mk (hbox); have GW103 := gee_ hg HB; have GE103 := gee_ hg HB; replace HB := belB_ HB hb; clear hb hbox hg; obtain ⟨hcz11_0, hcz11_1, hcz11_2, hcz11_3, hcz11_4, hcz11_5, hcz11_6, hcz11_7, hcz11_8, hfz11_0, hfz11_1, hfz11_2, hfz11_3, hfz11_4, hfz11_5, hfz11_6, hfz11_7, hfz11_8⟩ := blk9_ BK103.out) | ((with_reducible refine gate_callee (f := 71) rfl ?_); refine goS_ 11 rfl Tryd.func71 #[.string a0_4] ?_; (with_reducible refine (utext_Check.calls a0_4 t104 t105 t106 _ ?side1 A3.out).mono ?_); (case side1 => exact GW.below hG (belW_ HB)); rintro e w12 ⟨rfl, hb⟩; refine ⟨_, rfl, ?_⟩; replace BK103 := blkB_ BK103 hb; replace HB := belB_ HB hb; try clear hb))
    go_ret
    exact ⟨rs_, belW_ HB⟩
   ·rw [if_neg c9] at H
    have c9b0 : decide (256 < t104) = false := decide_eq_false c9
    clear c9
    have HC13 := Aside0.mk H
    clear H
    go_enter Tryd.func97, Tryd.ntmps97
    go_upto_region 8 with (first | ((with_reducible refine gate_dst (N := 2) rfl ?_); refine bxE_ 2 35 #[.int .i64 a0_0, .int .i64 a0_1, .int .i64 a0_2, .int .i64 a0_3, .string a0_4, .slice A0_5 l0_5.length c0_5, .int .i64 a0_6, .int .i64 a0_7, .bool a0_8] ?_; intro gb103 hg w14 hbox hb; have BK103 := Aside0.mk (hbox); have GW103 := gee_ hg HB; have GE103 := gee_ hg HB; replace HB := belB_ HB hb; clear hb hbox hg; obtain ⟨hcz15_0, hcz15_1, hcz15_2, hcz15_3, hcz15_4, hcz15_5, hcz15_6, hcz15_7, hcz15_8, hfz15_0, hfz15_1, hfz15_2, hfz15_3, hfz15_4, hfz15_5, hfz15_6, hfz15_7, hfz15_8⟩ := blk9_ BK103.out) | ((with_reducible refine gate_callee (f := 71) rfl ?_); refine goS_ 11 rfl Tryd.func71 #[.string a0_4] ?_; (with_reducible refine (utext_Check.calls a0_4 t104 t105 t106 _ ?side1 A3.out).mono ?_); (case side1 => exact GW.below hG (belW_ HB)); rintro e w16 ⟨rfl, hb⟩; refine ⟨_, rfl, ?_⟩; replace BK103 := blkB_ BK103 hb; replace HB := belB_ HB hb; try clear hb))
    (try simp only [Act.put, List.setIfInBounds_toArray, List.set_cons_zero, List.set_cons_succ])
    go_cut [25] (fun v25 wc => ∃ (kq : Nat) (x25_12 : Bool), v25 = .bool x25_12 ∧ Aside0 (op_checkIns.j0 kq a1 t104 x25_12 = some r) ∧ Aside0 (kq ≤ k) ∧ Aside0 (wc.heap[gb103]? = some (.cells #[.int .i64 a0_0, .int .i64 a0_1, .int .i64 a0_2, .int .i64 a0_3, .string a0_4, (.slice A0_5 l0_5.length c0_5), .int .i64 a0_6, .int .i64 a0_7, .bool a0_8] 35 (0, 0))) ∧ Aside0 (Below w.heap.size w wc))
    case first =>
     have H := HC13.out
     clear HC13
     by_cases c17 : a0_3 < 0
     ·rw [if_pos c17] at H
      have c17b0 := decide_eq_true c17
      clear c17
      (first | rw [c17b0] | (simp only [i64_w, i32_w]; rw [c17b0]) | rw [c17b1] | skip)
      have H' := Aside0.mk H
      clear H
      have hz_ := blk9_ BK103.out
      go_wp2
      go_meet
      case rel => exact ⟨_, (true), ok_, H', ⟨lo_⟩, ⟨blkW_ BK103⟩, ⟨belW_ HB⟩⟩
     ·rw [if_neg c17] at H
      have c17b0 := decide_eq_false c17
      clear c17
      (first | rw [c17b0] | (simp only [i64_w, i32_w]; rw [c17b0]) | rw [c17b1] | skip)
      have H' := Aside0.mk H
      clear H
      have hz_ := blk9_ BK103.out
      go_wp2
      go_meet
      case rel => exact ⟨_, (decide (a0_3 > a1)), ok_, H', ⟨lo_⟩, ⟨blkW_ BK103⟩, ⟨belW_ HB⟩⟩
    case rest =>
     clear HC13
     try clear c4
     try clear c4b0
     try clear c4b1
     try clear c5
     try clear c5b0
     try clear c5b1
     try clear c9
     try clear c9b0
     try clear hcz11_0
     try clear hcz11_1
     try clear hcz11_2
     try clear hcz11_3
     try clear hcz11_4
     try clear hcz11_5
     try clear hcz11_6
     try clear hcz11_7
     try clear hcz11_8
     try clear hcz15_0
     try clear hcz15_1
     try clear hcz15_2
     try clear hcz15_3
     try clear hcz15_4
     try clear hcz15_5
     try clear hcz15_6
     try clear hcz15_7
     try clear hcz15_8
     try clear hcz7_0
     try clear hcz7_1
     try clear hcz7_2
     try clear hcz7_3
     try clear hcz7_4
     try clear hcz7_5
     try clear hcz7_6
     try clear hcz7_7
     try clear hcz7_8
     try clear hfz11_0
     try clear hfz11_1
     try clear hfz11_2
     try clear hfz11_3
     try clear hfz11_4
     try clear hfz11_5
     try clear hfz11_6
     try clear hfz11_7
     try clear hfz11_8
     try clear hfz15_0
     try clear hfz15_1
     try clear hfz15_2
     try clear hfz15_3
     try clear hfz15_4
     try clear hfz15_5
     try clear hfz15_6
     try clear hfz15_7
     try clear hfz15_8
     try clear hfz7_0
     try clear hfz7_1
     try clear hfz7_2
     try clear hfz7_3
     try clear hfz7_4
     try clear hfz7_5
     try clear hfz7_6
     try clear hfz7_7
     try clear hfz7_8
     obtain ⟨kq, x25_12, rfl, HA, HJ12, BK103, HB⟩ := hcut
     cases kq with
     | zero => exact absurd HA.out (by simp [op_checkIns.j0])
     | succ kj12 =>
      have H := HA.out
      clear HA
      simp only [op_checkIns.j0] at H
      by_cases c20 : x25_12 = true
      ·subst c20
       have H1 := H; rw [if_pos rfl] at H1
       clear H
       have H := H1
       clear H1
       obtain rfl := Option.some.inj H
       go_wp2
       go_ret
       exact ⟨rs_, belW_ HB⟩
      ·replace c20 := Bool.eq_false_iff.mpr c20
       subst c20
       have H1 := H; rw [if_neg (show ¬ (false = true) by decide)] at H1
       clear H
       have H := H1
       clear H1
       by_cases c21 : (wrap64 (a1 + t104)) > 1048576
       ·rw [if_pos c21] at H
        have c21b0 : decide (1048576 < (wrap64 (a1 + t104))) = true := decide_eq_true c21
        clear c21
        obtain rfl := Option.some.inj H
        go_wp2
        go_ret
        exact ⟨rs_, belW_ HB⟩
       ·rw [if_neg c21] at H
        have c21b0 : decide (1048576 < (wrap64 (a1 + t104))) = false := decide_eq_false c21
        clear c21
        obtain rfl := Option.some.inj H
        go_wp2
        go_ret
        exact ⟨rs_, belW_ HB⟩
 ·rw [if_neg c4] at H
  have c4b0 := beq_eq_false_iff_ne.mpr c4
  have c4b1 := bne_iff_ne.mpr c4
  obtain rfl := Option.some.inj H
  go_enter Tryd.func97, Tryd.ntmps97
  go_wp2_with (first | ((with_reducible refine gate_dst (N := 2) rfl ?_); refine bxE_ 2 35 #[.int .i64 a0_0, .int .i64 a0_1, .int .i64 a0_2, .int .i64 a0_3, .string a0_4, .slice A0_5 l0_5.length c0_5, .int .i64 a0_6, .int .i64 a0_7, .bool a0_8] ?_; intro gb103 hg w22 hbox hb; have BK103 := Aside0.mk (hbox); have GW103 := gee_ hg HB; have GE103 := gee_ hg HB; replace HB := belB_ HB hb; clear hb hbox hg; have hz_ := blk9_ BK103.out) | ((with_reducible refine gate_callee (f := 71) rfl ?_); refine goS_ 11 rfl Tryd.func71 #[.string a0_4] ?_; (with_reducible refine (utext_Check.calls a0_4 t104 t105 t106 _ ?side1 A3.out).mono ?_); (case side1 => exact GW.below hG (belW_ HB)); rintro e w24 ⟨rfl, hb⟩; refine ⟨_, rfl, ?_⟩; replace BK103 := blkB_ BK103 hb; replace HB := belB_ HB hb; try clear hb))
  go_ret
  exact ⟨rs_, belW_ HB⟩

end Go.Proofs.YtjnicgfkogfifaaDoor.PAll
