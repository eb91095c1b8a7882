/- XformTransposes_card, part 22. -/
import Derived.Test.YtloccjkcmlkifaaDoorQTr19
import Derived.Test.YtloccjkcmlkifaaDoorQTr21

namespace Go.Proofs.YtloccjkcmlkifaaDoor.PAll
open Go.RowKit Go.Proofs.YtloccjkcmlkifaaDoorW.PrintWords Go.Proofs.YtloccjkcmlkifaaDoorW.PrintLast Go.Proofs.YtloccjkcmlkifaaDoorW.PrintMore
attribute [local go_sem] max2_int min2_int max_two min_two max_three min_three max_four min_four   -- for this text's walks alone
set_option linter.unusedVariables false
set_option linter.unusedSimpArgs false

attribute [local go_sem high] idx34_0 idx34_1 idx35_0 idx35_1
attribute [local go_sem high] eqA35
def op_right.f (a0_0 : Int) (a0_1 : Int) : Option (Bool) := if a0_0 ≥ 1 then (if a0_0 ≤ 8 then (if a0_1 ≥ 1 then (some (decide (a0_1 ≤ 1024))) else (some false)) else (some false)) else (some false)
set_option maxHeartbeats 8000000 in
set_option maxRecDepth 100000 in
theorem op_right.calls (a0_0 : Int) (a0_1 : Int) (r : Bool) (w : World) (h : op_right.f a0_0 a0_1 = some r) :
 Calls Tryd.prog 84 #[.agg #[.int .i64 a0_0, .int .i64 a0_1]] w fun e w' => e = .returned (.bool r) ∧ Below w.heap.size w w' := by
 have hu35 := Tryd.underlying35
 have HB := Aside0.mk (Below.refl w.heap.size w)
 have H : (if a0_0 ≥ 1 then (if a0_0 ≤ 8 then (if a0_1 ≥ 1 then (some (decide (a0_1 ≤ 1024))) else (some false)) else (some false)) else (some false)) = some r := h
 clear h
 by_cases c2 : a0_0 ≥ 1
 ·rw [if_pos c2] at H
  have c2b0 : decide (1 ≤ a0_0) = true := decide_eq_true c2
  clear c2
  by_cases c3 : a0_0 ≤ 8
  ·rw [if_pos c3] at H
   have c3b0 : decide (a0_0 ≤ 8) = true := decide_eq_true c3
   clear c3
   by_cases c4 : a0_1 ≥ 1
   ·rw [if_pos c4] at H
    have c4b0 : decide (1 ≤ a0_1) = true := decide_eq_true c4
    clear c4
    obtain rfl := Option.some.inj H
    go_enter Tryd.func84, Tryd.ntmps84
    go_wp2_with (((with_reducible refine gate_dst (N := 1) rfl ?_); refine bxE_ 1 35 #[.int .i64 a0_0, .int .i64 a0_1] ?_; intro gb101 hg w5 hbox hb; have BK101 := Aside0.mk (hbox); have GW101 := gee_ hg HB; have GE101 := gee_ hg HB; replace HB := belB_ HB hb; clear hb hbox hg; have hz_ := blk2_ BK101.out))
    go_ret
    exact ⟨by first | rfl | (simp [*] <;> rfl), belW_ HB⟩
   ·rw [if_neg c4] at H
    have c4b0 : decide (1 ≤ a0_1) = false := decide_eq_false c4
    clear c4
    obtain rfl := Option.some.inj H
    go_enter Tryd.func84, Tryd.ntmps84
    go_wp2_with (((with_reducible refine gate_dst (N := 1) rfl ?_); refine bxE_ 1 35 #[.int .i64 a0_0, .int .i64 a0_1] ?_; intro gb101 hg w7 hbox hb; have BK101 := Aside0.mk (hbox); have GW101 := gee_ hg HB; have GE101 := gee_ hg HB; replace HB := belB_ HB hb; clear hb hbox hg; have hz_ := blk2_ BK101.out))
    go_ret
    exact ⟨by first | rfl | (simp [*] <;> rfl), belW_ HB⟩
  ·rw [if_neg c3] at H
   have c3b0 : decide (a0_0 ≤ 8) = false := decide_eq_false c3
   clear c3
   obtain rfl := Option.some.inj H
   go_enter Tryd.func84, Tryd.ntmps84
   go_wp2_with (((with_reducible refine gate_dst (N := 1) rfl ?_); refine bxE_ 1 35 #[.int .i64 a0_0, .int .i64 a0_1] ?_; intro gb101 hg w9 hbox hb; have BK101 := Aside0.mk (hbox); have GW101 := gee_ hg HB; have GE101 := gee_ hg HB; replace HB := belB_ HB hb; clear hb hbox hg; have hz_ := blk2_ BK101.out))
   go_ret
   exact ⟨by first | rfl | (simp [*] <;> rfl), belW_ HB⟩
 ·rw [if_neg c2] at H
  have c2b0 : decide (1 ≤ a0_0) = false := decide_eq_false c2
  clear c2
  obtain rfl := Option.some.inj H
  go_enter Tryd.func84, Tryd.ntmps84
  go_wp2_with (((with_reducible refine gate_dst (N := 1) rfl ?_); refine bxE_ 1 35 #[.int .i64 a0_0, .int .i64 a0_1] ?_; intro gb101 hg w11 hbox hb; have BK101 := Aside0.mk (hbox); have GW101 := gee_ hg HB; have GE101 := gee_ hg HB; replace HB := belB_ HB hb; clear hb hbox hg; have hz_ := blk2_ BK101.out))
  go_ret
  exact ⟨by first | rfl | (simp [*] <;> rfl), belW_ HB⟩

def op_extra.f (a0_0 : Int) (a0_1 : Int) (a0_2 : Int) (a0_3 : Int) (a0_4 : ByteArray) (l0_5 : List (S94)) (a0_6 : Int) (a0_7 : Int) (a0_8 : Bool) : Option (Bool) := if a0_2 = 2 then (if a0_2 = 1 then (if a0_2 = 4 then (some false) else (if (!(a0_6 == 0) || (!(a0_7 == 0))) = true then (some true) else (some a0_8))) else (if a0_3 = 0 then (if a0_4.toList = ([] : List UInt8) then (if a0_2 = 4 then (some false) else (if (!(a0_6 == 0) || (!(a0_7 == 0))) = true then (some true) else (some a0_8))) else (some true)) else (some true))) else (if a0_2 = 1 then (if a0_2 = 3 then (if a0_2 = 4 then (some false) else (if (!(a0_6 == 0) || (!(a0_7 == 0))) = true then (some true) else (some a0_8))) else (if (l0_5.length : Int) > 0 then (some true) else (if a0_2 = 4 then (some false) else (if (!(a0_6 == 0) || (!(a0_7 == 0))) = true then (some true) else (some a0_8))))) else (if a0_3 = 0 then (if a0_4.toList = ([] : List UInt8) then (if a0_2 = 3 then (if a0_2 = 4 then (some false) else (if (!(a0_6 == 0) || (!(a0_7 == 0))) = true then (some true) else (some a0_8))) else (if (l0_5.length : Int) > 0 then (some true) else (if a0_2 = 4 then (some false) else (if (!(a0_6 == 0) || (!(a0_7 == 0))) = true then (some true) else (some a0_8))))) else (some true)) else (some true)))
set_option maxHeartbeats 8000000 in
set_option maxRecDepth 100000 in
theorem op_extra.calls (a0_0 : Int) (a0_1 : Int) (a0_2 : Int) (a0_3 : Int) (a0_4 : ByteArray) (A0_5 : Option Addr) (c0_5 : Nat) (l0_5 : List (S94)) (a0_6 : Int) (a0_7 : Int) (a0_8 : Bool) (r : Bool) (w : World) (hr0_5 : Kd.C k94 w A0_5 l0_5.length l0_5) (hc0_5 : l0_5.length ≤ c0_5) (h : op_extra.f a0_0 a0_1 a0_2 a0_3 a0_4 l0_5 a0_6 a0_7 a0_8 = some r) :
 Calls Tryd.prog 85 #[.agg #[.int .i64 a0_0, .int .i64 a0_1, .int .i64 a0_2, .int .i64 a0_3, .string a0_4, .slice A0_5 l0_5.length c0_5, .int .i64 a0_6, .int .i64 a0_7, .bool a0_8]] w fun e w' => e = .returned (.bool r) ∧ Below w.heap.size w w' := by
 have hu41 := Tryd.underlying41
 have hu35 := Tryd.underlying35
 have HR0_5 := Aside0.mk hr0_5
 have HC0_5 := Aside0.mk hc0_5
 clear hr0_5 hc0_5
 have HB := Aside0.mk (Below.refl w.heap.size w)
 have H : (if a0_2 = 2 then (if a0_2 = 1 then (if a0_2 = 4 then (some false) else (if (!(a0_6 == 0) || (!(a0_7 == 0))) = true then (some true) else (some a0_8))) else (if a0_3 = 0 then (if a0_4.toList = ([] : List UInt8) then (if a0_2 = 4 then (some false) else (if (!(a0_6 == 0) || (!(a0_7 == 0))) = true then (some true) else (some a0_8))) else (some true)) else (some true))) else (if a0_2 = 1 then (if a0_2 = 3 then (if a0_2 = 4 then (some false) else (if (!(a0_6 == 0) || (!(a0_7 == 0))) = true then (some true) else (some a0_8))) else (if (l0_5.length : Int) > 0 then (some true) else (if a0_2 = 4 then (some false) else (if (!(a0_6 == 0) || (!(a0_7 == 0))) = true then (some true) else (some a0_8))))) else (if a0_3 = 0 then (if a0_4.toList = ([] : List UInt8) then (if a0_2 = 3 then (if a0_2 = 4 then (some false) else (if (!(a0_6 == 0) || (!(a0_7 == 0))) = true then (some true) else (some a0_8))) else (if (l0_5.length : Int) > 0 then (some true) else (if a0_2 = 4 then (some false) else (if (!(a0_6 == 0) || (!(a0_7 == 0))) = true then (some true) else (some a0_8))))) else (some true)) else (some true)))) = some r := h
 clear h
 by_cases c2 : a0_2 = 2
 ·rw [if_pos c2] at H
  have c2b0 : (a0_2 == 2) = true := beq_iff_eq.mpr c2
  have c2b1 : (a0_2 != 2) = false := bne_eq_false_iff_eq.mpr c2
  clear c2
  by_cases c3 : a0_2 = 1
  ·rw [if_pos c3] at H
   have c3b0 : (a0_2 == 1) = true := beq_iff_eq.mpr c3
   have c3b1 : (a0_2 != 1) = false := bne_eq_false_iff_eq.mpr c3
   clear c3
   by_cases c4 : a0_2 = 4
   ·rw [if_pos c4] at H
    have c4b0 : (a0_2 == 4) = true := beq_iff_eq.mpr c4
    have c4b1 : (a0_2 != 4) = false := bne_eq_false_iff_eq.mpr c4
    clear c4
    obtain rfl := Option.some.inj H
    go_enter Tryd.func85, Tryd.ntmps85
    go_wp2_with (((with_reducible refine gate_dst (N := 1) rfl ?_); (try (refine gate_guard (by rfl) ?_; dsimp only)); refine bxE_ 1 41 #[.int .i64 a0_0, .int .i64 a0_1, .int .i64 a0_2, .int .i64 a0_3, .string a0_4, .slice A0_5 l0_5.length c0_5, .int .i64 a0_6, .int .i64 a0_7, .bool a0_8] ?_; intro gb102 hg w5 hbox hb; have BK102 := Aside0.mk (hbox); have GW102 := gee_ hg HB; have GE102 := gee_ hg HB; replace HB := belB_ HB hb; clear hb hbox hg; have hz_ := blk9_ BK102.out))
    go_ret
    exact ⟨by first | rfl | (simp [*] <;> rfl), belW_ HB⟩
   ·rw [if_neg c4] at H
    have c4b0 : (a0_2 == 4) = false := beq_eq_false_iff_ne.mpr c4
    have c4b1 : (a0_2 != 4) = true := bne_iff_ne.mpr c4
    by_cases c7 : (!(a0_6 == 0) || (!(a0_7 == 0))) = true
    ·rw [if_pos c7] at H
     have c7b0 : (!(a0_6 == 0) || (!(a0_7 == 0))) = true := c7
     clear c7
     obtain rfl := Option.some.inj H
     go_enter Tryd.func85, Tryd.ntmps85
     go_wp2_with (((with_reducible refine gate_dst (N := 1) rfl ?_); (try (refine gate_guard (by rfl) ?_; dsimp only)); refine bxE_ 1 41 #[.int .i64 a0_0, .int .i64 a0_1, .int .i64 a0_2, .int .i64 a0_3, .string a0_4, .slice A0_5 l0_5.length c0_5, .int .i64 a0_6, .int .i64 a0_7, .bool a0_8] ?_; intro gb102 hg w8 hbox hb; have BK102 := Aside0.mk (hbox); have GW102 := gee_ hg HB; have GE102 := gee_ hg HB; replace HB := belB_ HB hb; clear hb hbox hg; have hz_ := blk9_ BK102.out))
     go_ret
     exact ⟨by first | rfl | (simp [*] <;> rfl), belW_ HB⟩
    ·rw [if_neg c7] at H
     have c7b0 : (!(a0_6 == 0) || (!(a0_7 == 0))) = false := by simpa using c7
     clear c7
     obtain rfl := Option.some.inj H
     go_enter Tryd.func85, Tryd.ntmps85
     go_wp2_with (((with_reducible refine gate_dst (N := 1) rfl ?_); (try (refine gate_guard (by rfl) ?_; dsimp only)); refine bxE_ 1 41 #[.int .i64 a0_0, .int .i64 a0_1, .int .i64 a0_2, .int .i64 a0_3, .string a0_4, .slice A0_5 l0_5.length c0_5, .int .i64 a0_6, .int .i64 a0_7, .bool a0_8] ?_; intro gb102 hg w10 hbox hb; have BK102 := Aside0.mk (hbox); have GW102 := gee_ hg HB; have GE102 := gee_ hg HB; replace HB := belB_ HB hb; clear hb hbox hg; obtain ⟨hcz11_0, hcz11_1, hcz11_2, hcz11_3, hcz11_4, hcz11_5, hcz11_6, hcz11_7, hcz11_8, hfz11_0, hfz11_1, hfz11_2, hfz11_3, hfz11_4, hfz11_5, hfz11_6, hfz11_7, hfz11_8⟩ := blk9_ BK102.out))
     go_ret
     exact ⟨by first | rfl | (simp [*] <;> rfl), belW_ HB⟩
  ·rw [if_neg c3] at H
   have c3b0 : (a0_2 == 1) = false := beq_eq_false_iff_ne.mpr c3
   have c3b1 : (a0_2 != 1) = true := bne_iff_ne.mpr c3
   by_cases c12 : a0_3 = 0
   ·rw [if_pos c12] at H
    have c12b0 : (a0_3 == 0) = true := beq_iff_eq.mpr c12
    have c12b1 : (a0_3 != 0) = false := bne_eq_false_iff_eq.mpr c12
    clear c12
    by_cases c13 : a0_4.toList = ([] : List UInt8)
    ·rw [if_pos c13] at H
     have c13b0 : (a0_4.toList == ([] : List UInt8)) = true := beq_iff_eq.mpr c13
     have c13b1 : (a0_4.toList != ([] : List UInt8)) = false := bne_eq_false_iff_eq.mpr c13
     clear c13
     by_cases c14 : a0_2 = 4
     ·rw [if_pos c14] at H
      have c14b0 : (a0_2 == 4) = true := beq_iff_eq.mpr c14
      have c14b1 : (a0_2 != 4) = false := bne_eq_false_iff_eq.mpr c14
      clear c14
      obtain rfl := Option.some.inj H
      go_enter Tryd.func85, Tryd.ntmps85
      go_wp2_with (((with_reducible refine gate_dst (N := 1) rfl ?_); (try (refine gate_guard (by rfl) ?_; dsimp only)); refine bxE_ 1 41 #[.int .i64 a0_0, .int .i64 a0_1, .int .i64 a0_2, .int .i64 a0_3, .string a0_4, .slice A0_5 l0_5.length c0_5, .int .i64 a0_6, .int .i64 a0_7, .bool a0_8] ?_; intro gb102 hg w15 hbox hb; have BK102 := Aside0.mk (hbox); have GW102 := gee_ hg HB; have GE102 := gee_ hg HB; replace HB := belB_ HB hb; clear hb hbox hg; have hz_ := blk9_ BK102.out))
      go_ret
      exact ⟨by first | rfl | (simp [*] <;> rfl), belW_ HB⟩
     ·rw [if_neg c14] at H
      have c14b0 : (a0_2 == 4) = false := beq_eq_false_iff_ne.mpr c14
      have c14b1 : (a0_2 != 4) = true := bne_iff_ne.mpr c14
      by_cases c17 : (!(a0_6 == 0) || (!(a0_7 == 0))) = true
      ·rw [if_pos c17] at H
       have c17b0 : (!(a0_6 == 0) || (!(a0_7 == 0))) = true := c17
       clear c17
       obtain rfl := Option.some.inj H
       go_enter Tryd.func85, Tryd.ntmps85
       go_wp2_with (((with_reducible refine gate_dst (N := 1) rfl ?_); (try (refine gate_guard (by rfl) ?_; dsimp only)); refine bxE_ 1 41 #[.int .i64 a0_0, .int .i64 a0_1, .int .i64 a0_2, .int .i64 a0_3, .string a0_4, .slice A0_5 l0_5.length c0_5, .int .i64 a0_6, .int .i64 a0_7, .bool a0_8] ?_; intro gb102 hg w18 hbox hb; have BK102 := Aside0.mk (hbox); have GW102 := gee_ hg HB; have GE102 := gee_ hg HB; replace HB := belB_ HB hb; clear hb hbox hg; have hz_ := blk9_ BK102.out))
       go_ret
       exact ⟨by first | rfl | (simp [*] <;> rfl), belW_ HB⟩
      ·rw [if_neg c17] at H
       have c17b0 : (!(a0_6 == 0) || (!(a0_7 == 0))) = false := by simpa using c17
       clear c17
       obtain rfl := Option.some.inj H
       go_enter Tryd.func85, Tryd.ntmps85
       go_wp2_with (((with_reducible refine gate_dst (N := 1) rfl ?_); (try (refine gate_guard (by rfl) ?_; dsimp only)); refine bxE_ 1 41 #[.int .i64 a0_0, .int .i64 a0_1, .int .i64 a0_2, .int .i64 a0_3, .string a0_4, .slice A0_5 l0_5.length c0_5, .int .i64 a0_6, .int .i64 a0_7, .bool a0_8] ?_; intro gb102 hg w20 hbox hb; have BK102 := Aside0.mk (hbox); have GW102 := gee_ hg HB; have GE102 := gee_ hg HB; replace HB := belB_ HB hb; clear hb hbox hg; have hz_ := blk9_ BK102.out))
       go_ret
       exact ⟨by first | rfl | (simp [*] <;> rfl), belW_ HB⟩
    ·rw [if_neg c13] at H
     have c13b0 : (a0_4.toList == ([] : List UInt8)) = false := beq_eq_false_iff_ne.mpr c13
     have c13b1 : (a0_4.toList != ([] : List UInt8)) = true := bne_iff_ne.mpr c13
     obtain rfl := Option.some.inj H
     go_enter Tryd.func85, Tryd.ntmps85
     go_wp2_with (((with_reducible refine gate_dst (N := 1) rfl ?_); (try (refine gate_guard (by rfl) ?_; dsimp only)); refine bxE_ 1 41 #[.int .i64 a0_0, .int .i64 a0_1, .int .i64 a0_2, .int .i64 a0_3, .string a0_4, .slice A0_5 l0_5.length c0_5, .int .i64 a0_6, .int .i64 a0_7, .bool a0_8] ?_; intro gb102 hg w22 hbox hb; have BK102 := Aside0.mk (hbox); have GW102 := gee_ hg HB; have GE102 := gee_ hg HB; replace HB := belB_ HB hb; clear hb hbox hg; have hz_ := blk9_ BK102.out))
     go_ret
     exact ⟨by first | rfl | (simp [*] <;> rfl), belW_ HB⟩
   ·rw [if_neg c12] at H
    have c12b0 : (a0_3 == 0) = false := beq_eq_false_iff_ne.mpr c12
    have c12b1 : (a0_3 != 0) = true := bne_iff_ne.mpr c12
    obtain rfl := Option.some.inj H
    go_enter Tryd.func85, Tryd.ntmps85
    go_wp2_with (((with_reducible refine gate_dst (N := 1) rfl ?_); (try (refine gate_guard (by rfl) ?_; dsimp only)); refine bxE_ 1 41 #[.int .i64 a0_0, .int .i64 a0_1, .int .i64 a0_2, .int .i64 a0_3, .string a0_4, .slice A0_5 l0_5.length c0_5, .int .i64 a0_6, .int .i64 a0_7, .bool a0_8] ?_; intro gb102 hg w24 hbox hb; have BK102 := Aside0.mk (hbox); have GW102 := gee_ hg HB; have GE102 := gee_ hg HB; replace HB := belB_ HB hb; clear hb hbox hg; have hz_ := blk9_ BK102.out))
    go_ret
    exact ⟨by first | rfl | (simp [*] <;> rfl), belW_ HB⟩
 ·rw [if_neg c2] at H
  have c2b0 : (a0_2 == 2) = false := beq_eq_false_iff_ne.mpr c2
  have c2b1 : (a0_2 != 2) = true := bne_iff_ne.mpr c2
  by_cases c26 : a0_2 = 1
  ·rw [if_pos c26] at H
   have c26b0 : (a0_2 == 1) = true := beq_iff_eq.mpr c26
   have c26b1 : (a0_2 != 1) = false := bne_eq_false_iff_eq.mpr c26
   clear c26
   by_cases c27 : a0_2 = 3
   ·rw [if_pos c27] at H
    have c27b0 : (a0_2 == 3) = true := beq_iff_eq.mpr c27
    have c27b1 : (a0_2 != 3) = false := bne_eq_false_iff_eq.mpr c27
    clear c27
    by_cases c28 : a0_2 = 4
    ·rw [if_pos c28] at H
     have c28b0 : (a0_2 == 4) = true := beq_iff_eq.mpr c28
     have c28b1 : (a0_2 != 4) = false := bne_eq_false_iff_eq.mpr c28
     clear c28
     obtain rfl := Option.some.inj H
     go_enter Tryd.func85, Tryd.ntmps85
     go_wp2_with (((with_reducible refine gate_dst (N := 1) rfl ?_); (try (refine gate_guard (by rfl) ?_; dsimp only)); refine bxE_ 1 41 #[.int .i64 a0_0, .int .i64 a0_1, .int .i64 a0_2, .int .i64 a0_3, .string a0_4, .slice A0_5 l0_5.length c0_5, .int .i64 a0_6, .int .i64 a0_7, .bool a0_8] ?_; intro gb102 hg w29 hbox hb; have BK102 := Aside0.mk (hbox); have GW102 := gee_ hg HB; have GE102 := gee_ hg HB; replace HB := belB_ HB hb; clear hb hbox hg; have hz_ := blk9_ BK102.out))
     go_ret
     exact ⟨by first | rfl | (simp [*] <;> rfl), belW_ HB⟩
    ·rw [if_neg c28] at H
     have c28b0 : (a0_2 == 4) = false := beq_eq_false_iff_ne.mpr c28
     have c28b1 : (a0_2 != 4) = true := bne_iff_ne.mpr c28
     by_cases c31 : (!(a0_6 == 0) || (!(a0_7 == 0))) = true
     ·rw [if_pos c31] at H
      have c31b0 : (!(a0_6 == 0) || (!(a0_7 == 0))) = true := c31
      clear c31
      obtain rfl := Option.some.inj H
      go_enter Tryd.func85, Tryd.ntmps85
      go_wp2_with (((with_reducible refine gate_dst (N := 1) rfl ?_); (try (refine gate_guard (by rfl) ?_; dsimp only)); refine bxE_ 1 41 #[.int .i64 a0_0, .int .i64 a0_1, .int .i64 a0_2, .int .i64 a0_3, .string a0_4, .slice A0_5 l0_5.length c0_5, .int .i64 a0_6, .int .i64 a0_7, .bool a0_8] ?_; intro gb102 hg w32 hbox hb; have BK102 := Aside0.mk (hbox); have GW102 := gee_ hg HB; have GE102 := gee_ hg HB; replace HB := belB_ HB hb; clear hb hbox hg; have hz_ := blk9_ BK102.out))
      go_ret
      exact ⟨by first | rfl | (simp [*] <;> rfl), belW_ HB⟩
     ·rw [if_neg c31] at H
      have c31b0 : (!(a0_6 == 0) || (!(a0_7 == 0))) = false := by simpa using c31
      clear c31
      obtain rfl := Option.some.inj H
      go_enter Tryd.func85, Tryd.ntmps85
      go_wp2_with (((with_reducible refine gate_dst (N := 1) rfl ?_); (try (refine gate_guard (by rfl) ?_; dsimp only)); refine bxE_ 1 41 #[.int .i64 a0_0, .int .i64 a0_1, .int .i64 a0_2, .int .i64 a0_3, .string a0_4, .slice A0_5 l0_5.length c0_5, .int .i64 a0_6, .int .i64 a0_7, .bool a0_8] ?_; intro gb102 hg w34 hbox hb; have BK102 := Aside0.mk (hbox); have GW102 := gee_ hg HB; have GE102 := gee_ hg HB; replace HB := belB_ HB hb; clear hb hbox hg; have hz_ := blk9_ BK102.out))
      go_ret
      exact ⟨by first | rfl | (simp [*] <;> rfl), belW_ HB⟩
   ·rw [if_neg c27] at H
    have c27b0 : (a0_2 == 3) = false := beq_eq_false_iff_ne.mpr c27
    have c27b1 : (a0_2 != 3) = true := bne_iff_ne.mpr c27
    by_cases c36 : (l0_5.length : Int) > 0
    ·rw [if_pos c36] at H
     have c36b0 : decide (0 < (l0_5.length : Int)) = true := decide_eq_true c36
     have c36b1 : decide (0 < l0_5.length) = true := decide_eq_true (by omega)
     clear c36
     obtain rfl := Option.some.inj H
     go_enter Tryd.func85, Tryd.ntmps85
     go_wp2_with (((with_reducible refine gate_dst (N := 1) rfl ?_); (try (refine gate_guard (by rfl) ?_; dsimp only)); refine bxE_ 1 41 #[.int .i64 a0_0, .int .i64 a0_1, .int .i64 a0_2, .int .i64 a0_3, .string a0_4, .slice A0_5 l0_5.length c0_5, .int .i64 a0_6, .int .i64 a0_7, .bool a0_8] ?_; intro gb102 hg w37 hbox hb; have BK102 := Aside0.mk (hbox); have GW102 := gee_ hg HB; have GE102 := gee_ hg HB; replace HB := belB_ HB hb; clear hb hbox hg; have hz_ := blk9_ BK102.out))
     go_ret
     exact ⟨by first | rfl | (simp [*] <;> rfl), belW_ HB⟩
    ·rw [if_neg c36] at H
     have c36b0 : decide (0 < (l0_5.length : Int)) = false := decide_eq_false c36
     have c36b1 : decide (0 < l0_5.length) = false := decide_eq_false (by omega)
     clear c36
     by_cases c39 : a0_2 = 4
     ·rw [if_pos c39] at H
      have c39b0 : (a0_2 == 4) = true := beq_iff_eq.mpr c39
      have c39b1 : (a0_2 != 4) = false := bne_eq_false_iff_eq.mpr c39
      clear c39
      obtain rfl := Option.some.inj H
      go_enter Tryd.func85, Tryd.ntmps85
      go_wp2_with (((with_reducible refine gate_dst (N := 1) rfl ?_); (try (refine gate_guard (by rfl) ?_; dsimp only)); refine bxE_ 1 41 #[.int .i64 a0_0, .int .i64 a0_1, .int .i64 a0_2, .int .i64 a0_3, .string a0_4, .slice A0_5 l0_5.length c0_5, .int .i64 a0_6, .int .i64 a0_7, .bool a0_8] ?_; intro gb102 hg w40 hbox hb; have BK102 := Aside0.mk (hbox); have GW102 := gee_ hg HB; have GE102 := gee_ hg HB; replace HB := belB_ HB hb; clear hb hbox hg; have hz_ := blk9_ BK102.out))
      go_ret
      exact ⟨by first | rfl | (simp [*] <;> rfl), belW_ HB⟩
     ·rw [if_neg c39] at H
      have c39b0 : (a0_2 == 4) = false := beq_eq_false_iff_ne.mpr c39
      have c39b1 : (a0_2 != 4) = true := bne_iff_ne.mpr c39
      by_cases c42 : (!(a0_6 == 0) || (!(a0_7 == 0))) = true
      ·rw [if_pos c42] at H
       have c42b0 : (!(a0_6 == 0) || (!(a0_7 == 0))) = true := c42
       clear c42
       obtain rfl := Option.some.inj H
       go_enter Tryd.func85, Tryd.ntmps85
       go_wp2_with (((with_reducible refine gate_dst (N := 1) rfl ?_); (try (refine gate_guard (by rfl) ?_; dsimp only)); refine bxE_ 1 41 #[.int .i64 a0_0, .int .i64 a0_1, .int .i64 a0_2, .int .i64 a0_3, .string a0_4, .slice A0_5 l0_5.length c0_5, .int .i64 a0_6, .int .i64 a0_7, .bool a0_8] ?_; intro gb102 hg w43 hbox hb; have BK102 := Aside0.mk (hbox); have GW102 := gee_ hg HB; have GE102 := gee_ hg HB; replace HB := belB_ HB hb; clear hb hbox hg; have hz_ := blk9_ BK102.out))
       go_ret
       exact ⟨by first | rfl | (simp [*] <;> rfl), belW_ HB⟩
      ·rw [if_neg c42] at H
       have c42b0 : (!(a0_6 == 0) || (!(a0_7 == 0))) = false := by simpa using c42
       clear c42
       obtain rfl := Option.some.inj H
       go_enter Tryd.func85, Tryd.ntmps85
       go_wp2_with (((with_reducible refine gate_dst (N := 1) rfl ?_); (try (refine gate_guard (by rfl) ?_; dsimp only)); refine bxE_ 1 41 #[.int .i64 a0_0, .int .i64 a0_1, .int .i64 a0_2, .int .i64 a0_3, .string a0_4, .slice A0_5 l0_5.length c0_5, .int .i64 a0_6, .int .i64 a0_7, .bool a0_8] ?_; intro gb102 hg w45 hbox hb; have BK102 := Aside0.mk (hbox); have GW102 := gee_ hg HB; have GE102 := gee_ hg HB; replace HB := belB_ HB hb; clear hb hbox hg; have hz_ := blk9_ BK102.out))
       go_ret
       exact ⟨by first | rfl | (simp [*] <;> rfl), belW_ HB⟩
  ·rw [if_neg c26] at H
   have c26b0 : (a0_2 == 1) = false := beq_eq_false_iff_ne.mpr c26
   have c26b1 : (a0_2 != 1) = true := bne_iff_ne.mpr c26
   by_cases c47 : a0_3 = 0
   ·rw [if_pos c47] at H
    have c47b0 : (a0_3 == 0) = true := beq_iff_eq.mpr c47
    have c47b1 : (a0_3 != 0) = false := bne_eq_false_iff_eq.mpr c47
    clear c47
    by_cases c48 : a0_4.toList = ([] : List UInt8)
    ·rw [if_pos c48] at H
     have c48b0 : (a0_4.toList == ([] : List UInt8)) = true := beq_iff_eq.mpr c48
     have c48b1 : (a0_4.toList != ([] : List UInt8)) = false := bne_eq_false_iff_eq.mpr c48
     clear c48
     by_cases c49 : a0_2 = 3
     ·rw [if_pos c49] at H
      have c49b0 : (a0_2 == 3) = true := beq_iff_eq.mpr c49
      have c49b1 : (a0_2 != 3) = false := bne_eq_false_iff_eq.mpr c49
      clear c49
      by_cases c50 : a0_2 = 4
      ·rw [if_pos c50] at H
       have c50b0 : (a0_2 == 4) = true := beq_iff_eq.mpr c50
       have c50b1 : (a0_2 != 4) = false := bne_eq_false_iff_eq.mpr c50
       clear c50
       obtain rfl := Option.some.inj H
       go_enter Tryd.func85, Tryd.ntmps85
       go_wp2_with (((with_reducible refine gate_dst (N := 1) rfl ?_); (try (refine gate_guard (by rfl) ?_; dsimp only)); refine bxE_ 1 41 #[.int .i64 a0_0, .int .i64 a0_1, .int .i64 a0_2, .int .i64 a0_3, .string a0_4, .slice A0_5 l0_5.length c0_5, .int .i64 a0_6, .int .i64 a0_7, .bool a0_8] ?_; intro gb102 hg w51 hbox hb; have BK102 := Aside0.mk (hbox); have GW102 := gee_ hg HB; have GE102 := gee_ hg HB; replace HB := belB_ HB hb; clear hb hbox hg; have hz_ := blk9_ BK102.out))
       go_ret
       exact ⟨by first | rfl | (simp [*] <;> rfl), belW_ HB⟩
      ·rw [if_neg c50] at H
       have c50b0 : (a0_2 == 4) = false := beq_eq_false_iff_ne.mpr c50
       have c50b1 : (a0_2 != 4) = true := bne_iff_ne.mpr c50
       by_cases c53 : (!(a0_6 == 0) || (!(a0_7 == 0))) = true
       ·rw [if_pos c53] at H
        have c53b0 : (!(a0_6 == 0) || (!(a0_7 == 0))) = true := c53
        clear c53
        obtain rfl := Option.some.inj H
        go_enter Tryd.func85, Tryd.ntmps85
        go_wp2_with (((with_reducible refine gate_dst (N := 1) rfl ?_); (try (refine gate_guard (by rfl) ?_; dsimp only)); refine bxE_ 1 41 #[.int .i64 a0_0, .int .i64 a0_1, .int .i64 a0_2, .int .i64 a0_3, .string a0_4, .slice A0_5 l0_5.length c0_5, .int .i64 a0_6, .int .i64 a0_7, .bool a0_8] ?_; intro gb102 hg w54 hbox hb; have BK102 := Aside0.mk (hbox); have GW102 := gee_ hg HB; have GE102 := gee_ hg HB; replace HB := belB_ HB hb; clear hb hbox hg; have hz_ := blk9_ BK102.out))
        go_ret
        exact ⟨by first | rfl | (simp [*] <;> rfl), belW_ HB⟩
       ·rw [if_neg c53] at H
        have c53b0 : (!(a0_6 == 0) || (!(a0_7 == 0))) = false := by simpa using c53
        clear c53
        obtain rfl := Option.some.inj H
        go_enter Tryd.func85, Tryd.ntmps85
        go_wp2_with (((with_reducible refine gate_dst (N := 1) rfl ?_); (try (refine gate_guard (by rfl) ?_; dsimp only)); refine bxE_ 1 41 #[.int .i64 a0_0, .int .i64 a0_1, .int .i64 a0_2, .int .i64 a0_3, .string a0_4, .slice A0_5 l0_5.length c0_5, .int .i64 a0_6, .int .i64 a0_7, .bool a0_8] ?_; intro gb102 hg w56 hbox hb; have BK102 := Aside0.mk (hbox); have GW102 := gee_ hg HB; have GE102 := gee_ hg HB; replace HB := belB_ HB hb; clear hb hbox hg; have hz_ := blk9_ BK102.out))
        go_ret
        exact ⟨by first | rfl | (simp [*] <;> rfl), belW_ HB⟩
     ·rw [if_neg c49] at H
      have c49b0 : (a0_2 == 3) = false := beq_eq_false_iff_ne.mpr c49
      have c49b1 : (a0_2 != 3) = true := bne_iff_ne.mpr c49
      by_cases c58 : (l0_5.length : Int) > 0
      ·rw [if_pos c58] at H
       have c58b0 : decide (0 < (l0_5.length : Int)) = true := decide_eq_true c58
       have c58b1 : decide (0 < l0_5.length) = true := decide_eq_true (by omega)
       clear c58
       obtain rfl := Option.some.inj H
       go_enter Tryd.func85, Tryd.ntmps85
       go_wp2_with (((with_reducible refine gate_dst (N := 1) rfl ?_); (try (refine gate_guard (by rfl) ?_; dsimp only)); refine bxE_ 1 41 #[.int .i64 a0_0, .int .i64 a0_1, .int .i64 a0_2, .int .i64 a0_3, .string a0_4, .slice A0_5 l0_5.length c0_5, .int .i64 a0_6, .int .i64 a0_7, .bool a0_8] ?_; intro gb102 hg w59 hbox hb; have BK102 := Aside0.mk (hbox); have GW102 := gee_ hg HB; have GE102 := gee_ hg HB; replace HB := belB_ HB hb; clear hb hbox hg; have hz_ := blk9_ BK102.out))
       go_ret
       exact ⟨by first | rfl | (simp [*] <;> rfl), belW_ HB⟩
      ·rw [if_neg c58] at H
       have c58b0 : decide (0 < (l0_5.length : Int)) = false := decide_eq_false c58
       have c58b1 : decide (0 < l0_5.length) = false := decide_eq_false (by omega)
       clear c58
       by_cases c61 : a0_2 = 4
       ·rw [if_pos c61] at H
        have c61b0 : (a0_2 == 4) = true := beq_iff_eq.mpr c61
        have c61b1 : (a0_2 != 4) = false := bne_eq_false_iff_eq.mpr c61
        clear c61
        obtain rfl := Option.some.inj H
        go_enter Tryd.func85, Tryd.ntmps85
        go_wp2_with (((with_reducible refine gate_dst (N := 1) rfl ?_); (try (refine gate_guard (by rfl) ?_; dsimp only)); refine bxE_ 1 41 #[.int .i64 a0_0, .int .i64 a0_1, .int .i64 a0_2, .int .i64 a0_3, .string a0_4, .slice A0_5 l0_5.length c0_5, .int .i64 a0_6, .int .i64 a0_7, .bool a0_8] ?_; intro gb102 hg w62 hbox hb; have BK102 := Aside0.mk (hbox); have GW102 := gee_ hg HB; have GE102 := gee_ hg HB; replace HB := belB_ HB hb; clear hb hbox hg; have hz_ := blk9_ BK102.out))
        go_ret
        exact ⟨by first | rfl | (simp [*] <;> rfl), belW_ HB⟩
       ·rw [if_neg c61] at H
        have c61b0 : (a0_2 == 4) = false := beq_eq_false_iff_ne.mpr c61
        have c61b1 : (a0_2 != 4) = true := bne_iff_ne.mpr c61
        by_cases c64 : (!(a0_6 == 0) || (!(a0_7 == 0))) = true
        ·rw [if_pos c64] at H
         have c64b0 : (!(a0_6 == 0) || (!(a0_7 == 0))) = true := c64
         clear c64
         obtain rfl := Option.some.inj H
         go_enter Tryd.func85, Tryd.ntmps85
         go_wp2_with (((with_reducible refine gate_dst (N := 1) rfl ?_); (try (refine gate_guard (by rfl) ?_; dsimp only)); refine bxE_ 1 41 #[.int .i64 a0_0, .int .i64 a0_1, .int .i64 a0_2, .int .i64 a0_3, .string a0_4, .slice A0_5 l0_5.length c0_5, .int .i64 a0_6, .int .i64 a0_7, .bool a0_8] ?_; intro gb102 hg w65 hbox hb; have BK102 := Aside0.mk (hbox); have GW102 := gee_ hg HB; have GE102 := gee_ hg HB; replace HB := belB_ HB hb; clear hb hbox hg; have hz_ := blk9_ BK102.out))
         go_ret
         exact ⟨by first | rfl | (simp [*] <;> rfl), belW_ HB⟩
        ·rw [if_neg c64] at H
         have c64b0 : (!(a0_6 == 0) || (!(a0_7 == 0))) = false := by simpa using c64
         clear c64
         obtain rfl := Option.some.inj H
         go_enter Tryd.func85, Tryd.ntmps85
         go_wp2_with (((with_reducible refine gate_dst (N := 1) rfl ?_); (try (refine gate_guard (by rfl) ?_; dsimp only)); refine bxE_ 1 41 #[.int .i64 a0_0, .int .i64 a0_1, .int .i64 a0_2, .int .i64 a0_3, .string a0_4, .slice A0_5 l0_5.length c0_5, .int .i64 a0_6, .int .i64 a0_7, .bool a0_8] ?_; intro gb102 hg w67 hbox hb; have BK102 := Aside0.mk (hbox); have GW102 := gee_ hg HB; have GE102 := gee_ hg HB; replace HB := belB_ HB hb; clear hb hbox hg; have hz_ := blk9_ BK102.out))
         go_ret
         exact ⟨by first | rfl | (simp [*] <;> rfl), belW_ HB⟩
    ·rw [if_neg c48] at H
     have c48b0 : (a0_4.toList == ([] : List UInt8)) = false := beq_eq_false_iff_ne.mpr c48
     have c48b1 : (a0_4.toList != ([] : List UInt8)) = true := bne_iff_ne.mpr c48
     obtain rfl := Option.some.inj H
     go_enter Tryd.func85, Tryd.ntmps85
     go_wp2_with (((with_reducible refine gate_dst (N := 1) rfl ?_); (try (refine gate_guard (by rfl) ?_; dsimp only)); refine bxE_ 1 41 #[.int .i64 a0_0, .int .i64 a0_1, .int .i64 a0_2, .int .i64 a0_3, .string a0_4, .slice A0_5 l0_5.length c0_5, .int .i64 a0_6, .int .i64 a0_7, .bool a0_8] ?_; intro gb102 hg w69 hbox hb; have BK102 := Aside0.mk (hbox); have GW102 := gee_ hg HB; have GE102 := gee_ hg HB; replace HB := belB_ HB hb; clear hb hbox hg; have hz_ := blk9_ BK102.out))
     go_ret
     exact ⟨by first | rfl | (simp [*] <;> rfl), belW_ HB⟩
   ·rw [if_neg c47] at H
    have c47b0 : (a0_3 == 0) = false := beq_eq_false_iff_ne.mpr c47
    have c47b1 : (a0_3 != 0) = true := bne_iff_ne.mpr c47
    obtain rfl := Option.some.inj H
    go_enter Tryd.func85, Tryd.ntmps85
    go_wp2_with (((with_reducible refine gate_dst (N := 1) rfl ?_); (try (refine gate_guard (by rfl) ?_; dsimp only)); refine bxE_ 1 41 #[.int .i64 a0_0, .int .i64 a0_1, .int .i64 a0_2, .int .i64 a0_3, .string a0_4, .slice A0_5 l0_5.length c0_5, .int .i64 a0_6, .int .i64 a0_7, .bool a0_8] ?_; intro gb102 hg w71 hbox hb; have BK102 := Aside0.mk (hbox); have GW102 := gee_ hg HB; have GE102 := gee_ hg HB; replace HB := belB_ HB hb; clear hb hbox hg; have hz_ := blk9_ BK102.out))
    go_ret
    exact ⟨by first | rfl | (simp [*] <;> rfl), belW_ HB⟩

def op_checkIns.j0 : Nat → Int → Int → Bool → Option (Int)
 | 0, _, _, _ => none
 | k + 1, x1, x5, x25 => if x25 = true then (some 12) else (if (wrap64 (x1 + x5)) > 1048576 then (some 24) else (some 0))
def op_checkIns.f (k : Nat) (a0_0 : Int) (a0_1 : Int) (a0_2 : Int) (a0_3 : Int) (a0_4 : ByteArray) (l0_5 : List (S94)) (a0_6 : Int) (a0_7 : Int) (a0_8 : Bool) (a1 : Int) : Option (Int) := (utext_Check.f a0_4).bind fun bt104 => (if bt104.2.2 = 0 then (if bt104.1 = 0 then (some 15) else (if bt104.1 > 256 then (some 14) else (if a0_3 < 0 then (op_checkIns.j0 k a1 bt104.1 true) else (op_checkIns.j0 k a1 bt104.1 (decide (a0_3 > a1)))))) else (some bt104.2.2))
set_option maxHeartbeats 8000000 in
set_option maxRecDepth 100000 in
theorem op_checkIns.calls (k : Nat) (a0_0 : Int) (a0_1 : Int) (a0_2 : Int) (a0_3 : Int) (a0_4 : ByteArray) (A0_5 : Option Addr) (c0_5 : Nat) (l0_5 : List (S94)) (a0_6 : Int) (a0_7 : Int) (a0_8 : Bool) (a1 : Int) (r : Int) (w : World) (hr0_5 : Kd.C k94 w A0_5 l0_5.length l0_5) (hc0_5 : l0_5.length ≤ c0_5) (hG : GW w) (h : op_checkIns.f k a0_0 a0_1 a0_2 a0_3 a0_4 l0_5 a0_6 a0_7 a0_8 a1 = some r) :
 Calls Tryd.prog 86 #[.agg #[.int .i64 a0_0, .int .i64 a0_1, .int .i64 a0_2, .int .i64 a0_3, .string a0_4, .slice A0_5 l0_5.length c0_5, .int .i64 a0_6, .int .i64 a0_7, .bool a0_8], .int .i64 a1] w fun e w' => e = .returned (.int .i64 r) ∧ Below w.heap.size w w' := by
 have hu41 := Tryd.underlying41
 have HR0_5 := Aside0.mk hr0_5
 have HC0_5 := Aside0.mk hc0_5
 clear hr0_5 hc0_5
 have HB := Aside0.mk (Below.refl w.heap.size w)
 have H : ((utext_Check.f a0_4).bind fun bt104 => (if bt104.2.2 = 0 then (if bt104.1 = 0 then (some 15) else (if bt104.1 > 256 then (some 14) else (if a0_3 < 0 then (op_checkIns.j0 k a1 bt104.1 true) else (op_checkIns.j0 k a1 bt104.1 (decide (a0_3 > a1)))))) else (some bt104.2.2))) = some r := h
 clear h
 replace H := Option.bind_eq_some_iff.mp H
 obtain ⟨⟨t104, t105, t106⟩, A30, H⟩ := H
 replace H : (if t106 = 0 then (if t104 = 0 then (some 15) else (if t104 > 256 then (some 14) else (if a0_3 < 0 then (op_checkIns.j0 k a1 t104 true) else (op_checkIns.j0 k a1 t104 (decide (a0_3 > a1)))))) else (some t106)) = some r := H
 have A3 := Aside0.mk A30
 clear A30
 by_cases c4 : t106 = 0
 ·rw [if_pos c4] at H
  have c4b0 : (t106 == 0) = true := beq_iff_eq.mpr c4
  have c4b1 : (t106 != 0) = false := bne_eq_false_iff_eq.mpr c4
  clear c4
  by_cases c5 : t104 = 0
  ·rw [if_pos c5] at H
   have c5b0 : (t104 == 0) = true := beq_iff_eq.mpr c5
   have c5b1 : (t104 != 0) = false := bne_eq_false_iff_eq.mpr c5
   clear c5
   obtain rfl := Option.some.inj H
   go_enter Tryd.func86, Tryd.ntmps86
   go_wp2_with (first | ((with_reducible refine gate_dst (N := 2) rfl ?_); refine bxE_ 2 41 #[.int .i64 a0_0, .int .i64 a0_1, .int .i64 a0_2, .int .i64 a0_3, .string a0_4, .slice A0_5 l0_5.length c0_5, .int .i64 a0_6, .int .i64 a0_7, .bool a0_8] ?_; intro gb103 hg w6 hbox hb; have BK103 := Aside0.mk (hbox); have GW103 := gee_ hg HB; have GE103 := gee_ hg HB; replace HB := belB_ HB hb; clear hb hbox hg; obtain ⟨hcz7_0, hcz7_1, hcz7_2, hcz7_3, hcz7_4, hcz7_5, hcz7_6, hcz7_7, hcz7_8, hfz7_0, hfz7_1, hfz7_2, hfz7_3, hfz7_4, hfz7_5, hfz7_6, hfz7_7, hfz7_8⟩ := blk9_ BK103.out) | ((with_reducible refine gate_callee (f := 70) rfl ?_); refine goS_ 11 rfl Tryd.func70 #[.string a0_4] ?_; (with_reducible refine (utext_Check.calls a0_4 t104 t105 t106 _ ?side1 A3.out).mono ?_); (case side1 => exact GW.below hG (belW_ HB)); rintro e w8 ⟨rfl, hb⟩; refine ⟨_, rfl, ?_⟩; replace BK103 := blkB_ BK103 hb; replace HB := belB_ HB hb; (try clear hb); (try clear hb2); (try clear hk); (try clear hi)))
   go_ret
   exact ⟨by first | rfl | (simp [*] <;> rfl), belW_ HB⟩
  ·rw [if_neg c5] at H
   have c5b0 : (t104 == 0) = false := beq_eq_false_iff_ne.mpr c5
   have c5b1 : (t104 != 0) = true := bne_iff_ne.mpr c5
   by_cases c9 : t104 > 256
   ·rw [if_pos c9] at H
    have c9b0 : decide (256 < t104) = true := decide_eq_true c9
    clear c9
    obtain rfl := Option.some.inj H
    go_enter Tryd.func86, Tryd.ntmps86
    go_wp2_with (first | ((with_reducible refine gate_dst (N := 2) rfl ?_); refine bxE_ 2 41 #[.int .i64 a0_0, .int .i64 a0_1, .int .i64 a0_2, .int .i64 a0_3, .string a0_4, .slice A0_5 l0_5.length c0_5, .int .i64 a0_6, .int .i64 a0_7, .bool a0_8] ?_; intro gb103 hg w10 hbox hb; have BK103 := Aside0.mk (hbox); have GW103 := gee_ hg HB; have GE103 := gee_ hg HB; replace HB := belB_ HB hb; clear hb hbox hg; obtain ⟨hcz11_0, hcz11_1, hcz11_2, hcz11_3, hcz11_4, hcz11_5, hcz11_6, hcz11_7, hcz11_8, hfz11_0, hfz11_1, hfz11_2, hfz11_3, hfz11_4, hfz11_5, hfz11_6, hfz11_7, hfz11_8⟩ := blk9_ BK103.out) | ((with_reducible refine gate_callee (f := 70) rfl ?_); refine goS_ 11 rfl Tryd.func70 #[.string a0_4] ?_; (with_reducible refine (utext_Check.calls a0_4 t104 t105 t106 _ ?side1 A3.out).mono ?_); (case side1 => exact GW.below hG (belW_ HB)); rintro e w12 ⟨rfl, hb⟩; refine ⟨_, rfl, ?_⟩; replace BK103 := blkB_ BK103 hb; replace HB := belB_ HB hb; (try clear hb); (try clear hb2); (try clear hk); (try clear hi)))
    go_ret
    exact ⟨by first | rfl | (simp [*] <;> rfl), belW_ HB⟩
   ·rw [if_neg c9] at H
    have c9b0 : decide (256 < t104) = false := decide_eq_false c9
    clear c9
    have HC13 := Aside0.mk H
    clear H
    go_enter Tryd.func86, Tryd.ntmps86
    go_upto_region 8 with (first | ((with_reducible refine gate_dst (N := 2) rfl ?_); refine bxE_ 2 41 #[.int .i64 a0_0, .int .i64 a0_1, .int .i64 a0_2, .int .i64 a0_3, .string a0_4, .slice A0_5 l0_5.length c0_5, .int .i64 a0_6, .int .i64 a0_7, .bool a0_8] ?_; intro gb103 hg w14 hbox hb; have BK103 := Aside0.mk (hbox); have GW103 := gee_ hg HB; have GE103 := gee_ hg HB; replace HB := belB_ HB hb; clear hb hbox hg; obtain ⟨hcz15_0, hcz15_1, hcz15_2, hcz15_3, hcz15_4, hcz15_5, hcz15_6, hcz15_7, hcz15_8, hfz15_0, hfz15_1, hfz15_2, hfz15_3, hfz15_4, hfz15_5, hfz15_6, hfz15_7, hfz15_8⟩ := blk9_ BK103.out) | ((with_reducible refine gate_callee (f := 70) rfl ?_); refine goS_ 11 rfl Tryd.func70 #[.string a0_4] ?_; (with_reducible refine (utext_Check.calls a0_4 t104 t105 t106 _ ?side1 A3.out).mono ?_); (case side1 => exact GW.below hG (belW_ HB)); rintro e w16 ⟨rfl, hb⟩; refine ⟨_, rfl, ?_⟩; replace BK103 := blkB_ BK103 hb; replace HB := belB_ HB hb; (try clear hb); (try clear hb2); (try clear hk); (try clear hi)))
    (try simp only [Act.put, List.setIfInBounds_toArray, List.set_cons_zero, List.set_cons_succ])
    go_cut [25] (fun v25 wc => ∃ (kq : Nat) (x25_12 : Bool), v25 = .bool x25_12 ∧ Aside0 (op_checkIns.j0 kq a1 t104 x25_12 = some r) ∧ Aside0 (kq ≤ k) ∧ Aside0 (wc.heap[gb103]? = some (.cells #[.int .i64 a0_0, .int .i64 a0_1, .int .i64 a0_2, .int .i64 a0_3, .string a0_4, (.slice A0_5 l0_5.length c0_5), .int .i64 a0_6, .int .i64 a0_7, .bool a0_8] 41 (0, 0))) ∧ Aside0 (Below w.heap.size w wc))
    case first =>
     have H := HC13.out
     clear HC13
     by_cases c17 : a0_3 < 0
     ·rw [if_pos c17] at H
      have c17b0 : decide (a0_3 < 0) = true := decide_eq_true c17
      clear c17
      (first | rw [c17b0] | (simp only [i64_w, i32_w]; rw [c17b0]) | rw [c17b1] | skip)
      have H' := Aside0.mk H
      clear H
      have hz_ := blk9_ BK103.out
      go_wp2
      go_meet
      case rel => exact ⟨_, (true), (by first | rfl | (simp; done) | (simp [*]; done)), H', ⟨by first | omega | exact Nat.le_refl _⟩, ⟨blkW_ BK103⟩, ⟨belW_ HB⟩⟩
     ·rw [if_neg c17] at H
      have c17b0 : decide (a0_3 < 0) = false := decide_eq_false c17
      clear c17
      (first | rw [c17b0] | (simp only [i64_w, i32_w]; rw [c17b0]) | rw [c17b1] | skip)
      have H' := Aside0.mk H
      clear H
      have hz_ := blk9_ BK103.out
      go_wp2
      go_meet
      case rel => exact ⟨_, (decide (a0_3 > a1)), (by first | rfl | (simp; done) | (simp [*]; done)), H', ⟨by first | omega | exact Nat.le_refl _⟩, ⟨blkW_ BK103⟩, ⟨belW_ HB⟩⟩
    case rest =>
     clear HC13
     try clear c4
     try clear c4b0
     try clear c4b1
     try clear c5
     try clear c5b0
     try clear c5b1
     try clear c9
     try clear c9b0
     try clear hcz11_0
     try clear hcz11_1
     try clear hcz11_2
     try clear hcz11_3
     try clear hcz11_4
     try clear hcz11_5
     try clear hcz11_6
     try clear hcz11_7
     try clear hcz11_8
     try clear hcz15_0
     try clear hcz15_1
     try clear hcz15_2
     try clear hcz15_3
     try clear hcz15_4
     try clear hcz15_5
     try clear hcz15_6
     try clear hcz15_7
     try clear hcz15_8
     try clear hcz7_0
     try clear hcz7_1
     try clear hcz7_2
     try clear hcz7_3
     try clear hcz7_4
     try clear hcz7_5
     try clear hcz7_6
     try clear hcz7_7
     try clear hcz7_8
     try clear hfz11_0
     try clear hfz11_1
     try clear hfz11_2
     try clear hfz11_3
     try clear hfz11_4
     try clear hfz11_5
     try clear hfz11_6
     try clear hfz11_7
     try clear hfz11_8
     try clear hfz15_0
     try clear hfz15_1
     try clear hfz15_2
     try clear hfz15_3
     try clear hfz15_4
     try clear hfz15_5
     try clear hfz15_6
     try clear hfz15_7
     try clear hfz15_8
     try clear hfz7_0
     try clear hfz7_1
     try clear hfz7_2
     try clear hfz7_3
     try clear hfz7_4
     try clear hfz7_5
     try clear hfz7_6
     try clear hfz7_7
     try clear hfz7_8
     obtain ⟨kq, x25_12, rfl, HA, HJ12, BK103, HB⟩ := hcut
     cases kq with
     | zero => exact absurd HA.out (by simp [op_checkIns.j0])
     | succ kj12 =>
      have H := HA.out
      clear HA
      simp only [op_checkIns.j0] at H
      by_cases c20 : x25_12 = true
      ·subst c20
       have H1 : (some 12) = some r := by rw [if_pos rfl] at H; exact H
       clear H
       have H := H1
       clear H1
       obtain rfl := Option.some.inj H
       go_wp2
       go_ret
       exact ⟨by first | rfl | (simp [*] <;> rfl), belW_ HB⟩
      ·replace c20 := Bool.eq_false_iff.mpr c20
       subst c20
       have H1 : (if (wrap64 (a1 + t104)) > 1048576 then (some 24) else (some 0)) = some r := by rw [if_neg (show ¬ (false = true) by decide)] at H; exact H
       clear H
       have H := H1
       clear H1
       by_cases c21 : (wrap64 (a1 + t104)) > 1048576
       ·rw [if_pos c21] at H
        have c21b0 : decide (1048576 < (wrap64 (a1 + t104))) = true := decide_eq_true c21
        clear c21
        obtain rfl := Option.some.inj H
        go_wp2
        go_ret
        exact ⟨by first | rfl | (simp [*] <;> rfl), belW_ HB⟩
       ·rw [if_neg c21] at H
        have c21b0 : decide (1048576 < (wrap64 (a1 + t104))) = false := decide_eq_false c21
        clear c21
        obtain rfl := Option.some.inj H
        go_wp2
        go_ret
        exact ⟨by first | rfl | (simp [*] <;> rfl), belW_ HB⟩
 ·rw [if_neg c4] at H
  have c4b0 : (t106 == 0) = false := beq_eq_false_iff_ne.mpr c4
  have c4b1 : (t106 != 0) = true := bne_iff_ne.mpr c4
  obtain rfl := Option.some.inj H
  go_enter Tryd.func86, Tryd.ntmps86
  go_wp2_with (first | ((with_reducible refine gate_dst (N := 2) rfl ?_); refine bxE_ 2 41 #[.int .i64 a0_0, .int .i64 a0_1, .int .i64 a0_2, .int .i64 a0_3, .string a0_4, .slice A0_5 l0_5.length c0_5, .int .i64 a0_6, .int .i64 a0_7, .bool a0_8] ?_; intro gb103 hg w22 hbox hb; have BK103 := Aside0.mk (hbox); have GW103 := gee_ hg HB; have GE103 := gee_ hg HB; replace HB := belB_ HB hb; clear hb hbox hg; have hz_ := blk9_ BK103.out) | ((with_reducible refine gate_callee (f := 70) rfl ?_); refine goS_ 11 rfl Tryd.func70 #[.string a0_4] ?_; (with_reducible refine (utext_Check.calls a0_4 t104 t105 t106 _ ?side1 A3.out).mono ?_); (case side1 => exact GW.below hG (belW_ HB)); rintro e w24 ⟨rfl, hb⟩; refine ⟨_, rfl, ?_⟩; replace BK103 := blkB_ BK103 hb; replace HB := belB_ HB hb; (try clear hb); (try clear hb2); (try clear hk); (try clear hi)))
  go_ret
  exact ⟨by first | rfl | (simp [*] <;> rfl), belW_ HB⟩

end Go.Proofs.YtloccjkcmlkifaaDoor.PAll
