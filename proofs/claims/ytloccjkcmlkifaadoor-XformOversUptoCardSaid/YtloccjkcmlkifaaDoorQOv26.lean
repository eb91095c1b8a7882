/- XformOvers_card, part 26. -/
import Derived.Test.YtloccjkcmlkifaaDoorQOv18
import Derived.Test.YtloccjkcmlkifaaDoorQOv22
import Derived.Test.YtloccjkcmlkifaaDoorQOv25
namespace Go.Proofs.YtloccjkcmlkifaaDoor.PAll
open Go.RowKit Go.Proofs.YtloccjkcmlkifaaDoorW.PrintWords Go.Proofs.YtloccjkcmlkifaaDoorW.PrintLast Go.Proofs.YtloccjkcmlkifaaDoorW.PrintMore
attribute [local go_sem] max2_int min2_int max_two min_two max_three min_three max_four min_four
set_option linter.unusedVariables false
set_option linter.unusedSimpArgs false
attribute [local go_sem high] idx34_0 idx34_1 idx35_0 idx35_1
def redraftref04_IsID.f (a0_0 : Int) (a0_1 : Int) : Option (Bool) := if a0_0 ≥ 1 then (if a0_0 ≤ 8 then (if a0_1 ≥ 1 then (some (decide (a0_1 ≤ 1024))) else (some false)) else (some false)) else (some false)
set_option maxHeartbeats 8000000 in
set_option maxRecDepth 100000 in
theorem redraftref04_IsID.calls (a0_0 : Int) (a0_1 : Int) (r : Bool) (w : World) (h : redraftref04_IsID.f a0_0 a0_1 = some r) :
  Calls Tryd.prog 119 #[.agg #[.int .i64 a0_0, .int .i64 a0_1]] w fun e w' => e = .returned (.bool r) ∧ Below w.heap.size w w' := by
 have hu35 := Tryd.underlying35
 have HB := Aside0.mk (Below.refl w.heap.size w)
 have H : (if a0_0 ≥ 1 then (if a0_0 ≤ 8 then (if a0_1 ≥ 1 then (some (decide (a0_1 ≤ 1024))) else (some false)) else (some false)) else (some false)) = some r := h
 clear h
 by_cases c2 : a0_0 ≥ 1
 ·rw [if_pos c2] at H
  have c2b0 : decide (1 ≤ a0_0) = true := decide_eq_true c2
  clear c2
  by_cases c3 : a0_0 ≤ 8
  ·rw [if_pos c3] at H
   have c3b0 : decide (a0_0 ≤ 8) = true := decide_eq_true c3
   clear c3
   by_cases c4 : a0_1 ≥ 1
   ·rw [if_pos c4] at H
    have c4b0 : decide (1 ≤ a0_1) = true := decide_eq_true c4
    clear c4
    obtain rfl := Option.some.inj H
    go_enter Tryd.func119, Tryd.ntmps119
    go_wp2_with (first | ((with_reducible refine gate_dst (N := 1) rfl ?_); refine box_event ?hg (N := 1) ?hd (cs := #[.int .i64 a0_0, .int .i64 a0_1]) (t := 35) ?hr ?_; (case hd => rfl); (case hg => rfl); (case hr => first | (go_simp; done) | (go_simp; rfl)); intro gb271 hg w5 hbox hb; have n0_ := belB_ HB hb; have n1_ := Aside0.mk (hbox); have n2_ := gee_ hg HB; have n3_ := gee_ hg HB; clear HB; have HB := n0_; have BK271 := n1_; have GW271 := n2_; have GE271 := n3_; clear n0_ n1_ n2_ n3_; clear hb hbox hg; obtain ⟨hcz6_0, hcz6_1, hfz6_0, hfz6_1⟩ := blk2_ BK271.out))
    go_ret
    exact ⟨by first | rfl | (simp [*] <;> rfl), belW_ HB⟩
   ·rw [if_neg c4] at H
    have c4b0 : decide (1 ≤ a0_1) = false := decide_eq_false c4
    clear c4
    obtain rfl := Option.some.inj H
    go_enter Tryd.func119, Tryd.ntmps119
    go_wp2_with (first | ((with_reducible refine gate_dst (N := 1) rfl ?_); refine box_event ?hg (N := 1) ?hd (cs := #[.int .i64 a0_0, .int .i64 a0_1]) (t := 35) ?hr ?_; (case hd => rfl); (case hg => rfl); (case hr => first | (go_simp; done) | (go_simp; rfl)); intro gb271 hg w7 hbox hb; have n0_ := belB_ HB hb; have n1_ := Aside0.mk (hbox); have n2_ := gee_ hg HB; have n3_ := gee_ hg HB; clear HB; have HB := n0_; have BK271 := n1_; have GW271 := n2_; have GE271 := n3_; clear n0_ n1_ n2_ n3_; clear hb hbox hg; obtain ⟨hcz8_0, hcz8_1, hfz8_0, hfz8_1⟩ := blk2_ BK271.out))
    go_ret
    exact ⟨by first | rfl | (simp [*] <;> rfl), belW_ HB⟩
  ·rw [if_neg c3] at H
   have c3b0 : decide (a0_0 ≤ 8) = false := decide_eq_false c3
   clear c3
   obtain rfl := Option.some.inj H
   go_enter Tryd.func119, Tryd.ntmps119
   go_wp2_with (first | ((with_reducible refine gate_dst (N := 1) rfl ?_); refine box_event ?hg (N := 1) ?hd (cs := #[.int .i64 a0_0, .int .i64 a0_1]) (t := 35) ?hr ?_; (case hd => rfl); (case hg => rfl); (case hr => first | (go_simp; done) | (go_simp; rfl)); intro gb271 hg w9 hbox hb; have n0_ := belB_ HB hb; have n1_ := Aside0.mk (hbox); have n2_ := gee_ hg HB; have n3_ := gee_ hg HB; clear HB; have HB := n0_; have BK271 := n1_; have GW271 := n2_; have GE271 := n3_; clear n0_ n1_ n2_ n3_; clear hb hbox hg; obtain ⟨hcz10_0, hcz10_1, hfz10_0, hfz10_1⟩ := blk2_ BK271.out))
   go_ret
   exact ⟨by first | rfl | (simp [*] <;> rfl), belW_ HB⟩
 ·rw [if_neg c2] at H
  have c2b0 : decide (1 ≤ a0_0) = false := decide_eq_false c2
  clear c2
  obtain rfl := Option.some.inj H
  go_enter Tryd.func119, Tryd.ntmps119
  go_wp2_with (first | ((with_reducible refine gate_dst (N := 1) rfl ?_); refine box_event ?hg (N := 1) ?hd (cs := #[.int .i64 a0_0, .int .i64 a0_1]) (t := 35) ?hr ?_; (case hd => rfl); (case hg => rfl); (case hr => first | (go_simp; done) | (go_simp; rfl)); intro gb271 hg w11 hbox hb; have n0_ := belB_ HB hb; have n1_ := Aside0.mk (hbox); have n2_ := gee_ hg HB; have n3_ := gee_ hg HB; clear HB; have HB := n0_; have BK271 := n1_; have GW271 := n2_; have GE271 := n3_; clear n0_ n1_ n2_ n3_; clear hb hbox hg; obtain ⟨hcz12_0, hcz12_1, hfz12_0, hfz12_1⟩ := blk2_ BK271.out))
  go_ret
  exact ⟨by first | rfl | (simp [*] <;> rfl), belW_ HB⟩
def redraftref04_none.f (a0_0 : Int) (a0_1 : Int) : Option (Bool) := if a0_0 = 0 then (some (a0_1 == 0)) else (some false)
set_option maxHeartbeats 8000000 in
set_option maxRecDepth 100000 in
theorem redraftref04_none.calls (a0_0 : Int) (a0_1 : Int) (r : Bool) (w : World) (h : redraftref04_none.f a0_0 a0_1 = some r) :
  Calls Tryd.prog 120 #[.agg #[.int .i64 a0_0, .int .i64 a0_1]] w fun e w' => e = .returned (.bool r) ∧ Below w.heap.size w w' := by
 have hu35 := Tryd.underlying35
 have HB := Aside0.mk (Below.refl w.heap.size w)
 have H : (if a0_0 = 0 then (some (a0_1 == 0)) else (some false)) = some r := h
 clear h
 by_cases c2 : a0_0 = 0
 ·rw [if_pos c2] at H
  have c2b0 : (a0_0 == 0) = true := beq_iff_eq.mpr c2
  have c2b1 : (a0_0 != 0) = false := bne_eq_false_iff_eq.mpr c2
  clear c2
  obtain rfl := Option.some.inj H
  go_enter Tryd.func120, Tryd.ntmps120
  go_wp2_with (first | ((with_reducible refine gate_dst (N := 1) rfl ?_); refine box_event ?hg (N := 1) ?hd (cs := #[.int .i64 a0_0, .int .i64 a0_1]) (t := 35) ?hr ?_; (case hd => rfl); (case hg => rfl); (case hr => first | (go_simp; done) | (go_simp; rfl)); intro gb272 hg w3 hbox hb; have n0_ := belB_ HB hb; have n1_ := Aside0.mk (hbox); have n2_ := gee_ hg HB; have n3_ := gee_ hg HB; clear HB; have HB := n0_; have BK272 := n1_; have GW272 := n2_; have GE272 := n3_; clear n0_ n1_ n2_ n3_; clear hb hbox hg; obtain ⟨hcz4_0, hcz4_1, hfz4_0, hfz4_1⟩ := blk2_ BK272.out))
  go_ret
  exact ⟨by first | rfl | (simp [*] <;> rfl), belW_ HB⟩
 ·rw [if_neg c2] at H
  have c2b0 : (a0_0 == 0) = false := beq_eq_false_iff_ne.mpr c2
  have c2b1 : (a0_0 != 0) = true := bne_iff_ne.mpr c2
  obtain rfl := Option.some.inj H
  go_enter Tryd.func120, Tryd.ntmps120
  go_wp2_with (first | ((with_reducible refine gate_dst (N := 1) rfl ?_); refine box_event ?hg (N := 1) ?hd (cs := #[.int .i64 a0_0, .int .i64 a0_1]) (t := 35) ?hr ?_; (case hd => rfl); (case hg => rfl); (case hr => first | (go_simp; done) | (go_simp; rfl)); intro gb272 hg w5 hbox hb; have n0_ := belB_ HB hb; have n1_ := Aside0.mk (hbox); have n2_ := gee_ hg HB; have n3_ := gee_ hg HB; clear HB; have HB := n0_; have BK272 := n1_; have GW272 := n2_; have GE272 := n3_; clear n0_ n1_ n2_ n3_; clear hb hbox hg; obtain ⟨hcz6_0, hcz6_1, hfz6_0, hfz6_1⟩ := blk2_ BK272.out))
  go_ret
  exact ⟨by first | rfl | (simp [*] <;> rfl), belW_ HB⟩
def redraftref04_extra.f (a0_0 : Int) (a0_1 : Int) (a0_2 : Int) (a0_3 : Int) (a0_4 : ByteArray) (l0_5 : List (S94)) (a0_6 : Int) (a0_7 : Int) (a0_8 : Bool) : Option (Bool) := if a0_3 = 0 then (if a0_6 = 0 then (if a0_7 = 0 then (if a0_2 = 1 then (if (l0_5.length : Int) > 0 then (some true) else (some a0_8)) else (if a0_2 = 4 then (if a0_4.toList = ([] : List UInt8) then (some (decide ((l0_5.length : Int) > 0))) else (some true)) else (if a0_4.toList = ([] : List UInt8) then (some a0_8) else (some true)))) else (if a0_2 = 1 then (if (l0_5.length : Int) > 0 then (some true) else (some true)) else (if a0_2 = 4 then (if a0_4.toList = ([] : List UInt8) then (some (decide ((l0_5.length : Int) > 0))) else (some true)) else (if a0_4.toList = ([] : List UInt8) then (some true) else (some true))))) else (if a0_2 = 1 then (if (l0_5.length : Int) > 0 then (some true) else (some true)) else (if a0_2 = 4 then (if a0_4.toList = ([] : List UInt8) then (some (decide ((l0_5.length : Int) > 0))) else (some true)) else (if a0_4.toList = ([] : List UInt8) then (some true) else (some true))))) else (if a0_6 = 0 then (if a0_7 = 0 then (if a0_2 = 1 then (if (l0_5.length : Int) > 0 then (some true) else (some a0_8)) else (if a0_2 = 4 then (some true) else (some true))) else (if a0_2 = 1 then (if (l0_5.length : Int) > 0 then (some true) else (some true)) else (if a0_2 = 4 then (some true) else (some true)))) else (if a0_2 = 1 then (if (l0_5.length : Int) > 0 then (some true) else (some true)) else (if a0_2 = 4 then (some true) else (some true))))
set_option maxHeartbeats 8000000 in
set_option maxRecDepth 100000 in
theorem redraftref04_extra.calls (a0_0 : Int) (a0_1 : Int) (a0_2 : Int) (a0_3 : Int) (a0_4 : ByteArray) (A0_5 : Option Addr) (c0_5 : Nat) (l0_5 : List (S94)) (a0_6 : Int) (a0_7 : Int) (a0_8 : Bool) (r : Bool) (w : World) (hr0_5 : Kd.C k94 w A0_5 l0_5.length l0_5) (hc0_5 : l0_5.length ≤ c0_5) (h : redraftref04_extra.f a0_0 a0_1 a0_2 a0_3 a0_4 l0_5 a0_6 a0_7 a0_8 = some r) :
  Calls Tryd.prog 121 #[.agg #[.int .i64 a0_0, .int .i64 a0_1, .int .i64 a0_2, .int .i64 a0_3, .string a0_4, .slice A0_5 l0_5.length c0_5, .int .i64 a0_6, .int .i64 a0_7, .bool a0_8]] w fun e w' => e = .returned (.bool r) ∧ Below w.heap.size w w' := by
 have hu41 := Tryd.underlying41
 have HR0_5 := Aside0.mk hr0_5
 have HC0_5 := Aside0.mk hc0_5
 clear hr0_5 hc0_5
 have HB := Aside0.mk (Below.refl w.heap.size w)
 have H : (if a0_3 = 0 then (if a0_6 = 0 then (if a0_7 = 0 then (if a0_2 = 1 then (if (l0_5.length : Int) > 0 then (some true) else (some a0_8)) else (if a0_2 = 4 then (if a0_4.toList = ([] : List UInt8) then (some (decide ((l0_5.length : Int) > 0))) else (some true)) else (if a0_4.toList = ([] : List UInt8) then (some a0_8) else (some true)))) else (if a0_2 = 1 then (if (l0_5.length : Int) > 0 then (some true) else (some true)) else (if a0_2 = 4 then (if a0_4.toList = ([] : List UInt8) then (some (decide ((l0_5.length : Int) > 0))) else (some true)) else (if a0_4.toList = ([] : List UInt8) then (some true) else (some true))))) else (if a0_2 = 1 then (if (l0_5.length : Int) > 0 then (some true) else (some true)) else (if a0_2 = 4 then (if a0_4.toList = ([] : List UInt8) then (some (decide ((l0_5.length : Int) > 0))) else (some true)) else (if a0_4.toList = ([] : List UInt8) then (some true) else (some true))))) else (if a0_6 = 0 then (if a0_7 = 0 then (if a0_2 = 1 then (if (l0_5.length : Int) > 0 then (some true) else (some a0_8)) else (if a0_2 = 4 then (some true) else (some true))) else (if a0_2 = 1 then (if (l0_5.length : Int) > 0 then (some true) else (some true)) else (if a0_2 = 4 then (some true) else (some true)))) else (if a0_2 = 1 then (if (l0_5.length : Int) > 0 then (some true) else (some true)) else (if a0_2 = 4 then (some true) else (some true))))) = some r := h
 clear h
 by_cases c2 : a0_3 = 0
 ·rw [if_pos c2] at H
  have c2b0 : (a0_3 == 0) = true := beq_iff_eq.mpr c2
  have c2b1 : (a0_3 != 0) = false := bne_eq_false_iff_eq.mpr c2
  clear c2
  by_cases c3 : a0_6 = 0
  ·rw [if_pos c3] at H
   have c3b0 : (a0_6 == 0) = true := beq_iff_eq.mpr c3
   have c3b1 : (a0_6 != 0) = false := bne_eq_false_iff_eq.mpr c3
   clear c3
   by_cases c4 : a0_7 = 0
   ·rw [if_pos c4] at H
    have c4b0 : (a0_7 == 0) = true := beq_iff_eq.mpr c4
    have c4b1 : (a0_7 != 0) = false := bne_eq_false_iff_eq.mpr c4
    clear c4
    by_cases c5 : a0_2 = 1
    ·rw [if_pos c5] at H
     have c5b0 : (a0_2 == 1) = true := beq_iff_eq.mpr c5
     have c5b1 : (a0_2 != 1) = false := bne_eq_false_iff_eq.mpr c5
     clear c5
     by_cases c6 : (l0_5.length : Int) > 0
     ·rw [if_pos c6] at H
      have c6b0 : decide (0 < (l0_5.length : Int)) = true := decide_eq_true c6
      have c6b1 : decide (0 < l0_5.length) = true := decide_eq_true (by omega)
      clear c6
      obtain rfl := Option.some.inj H
      go_enter Tryd.func121, Tryd.ntmps121
      go_wp2_with (first | ((with_reducible refine gate_dst (N := 1) rfl ?_); refine box_event ?hg (N := 1) ?hd (cs := #[.int .i64 a0_0, .int .i64 a0_1, .int .i64 a0_2, .int .i64 a0_3, .string a0_4, .slice A0_5 l0_5.length c0_5, .int .i64 a0_6, .int .i64 a0_7, .bool a0_8]) (t := 41) ?hr ?_; (case hd => rfl); (case hg => rfl); (case hr => first | (go_simp; done) | (go_simp; rfl)); intro gb273 hg w7 hbox hb; have n0_ := belB_ HB hb; have n1_ := Aside0.mk (hbox); have n2_ := gee_ hg HB; have n3_ := gee_ hg HB; clear HB; have HB := n0_; have BK273 := n1_; have GW273 := n2_; have GE273 := n3_; clear n0_ n1_ n2_ n3_; clear hb hbox hg; obtain ⟨hcz8_0, hcz8_1, hcz8_2, hcz8_3, hcz8_4, hcz8_5, hcz8_6, hcz8_7, hcz8_8, hfz8_0, hfz8_1, hfz8_2, hfz8_3, hfz8_4, hfz8_5, hfz8_6, hfz8_7, hfz8_8⟩ := blk9_ BK273.out))
      go_ret
      exact ⟨by first | rfl | (simp [*] <;> rfl), belW_ HB⟩
     ·rw [if_neg c6] at H
      have c6b0 : decide (0 < (l0_5.length : Int)) = false := decide_eq_false c6
      have c6b1 : decide (0 < l0_5.length) = false := decide_eq_false (by omega)
      clear c6
      obtain rfl := Option.some.inj H
      go_enter Tryd.func121, Tryd.ntmps121
      go_wp2_with (first | ((with_reducible refine gate_dst (N := 1) rfl ?_); refine box_event ?hg (N := 1) ?hd (cs := #[.int .i64 a0_0, .int .i64 a0_1, .int .i64 a0_2, .int .i64 a0_3, .string a0_4, .slice A0_5 l0_5.length c0_5, .int .i64 a0_6, .int .i64 a0_7, .bool a0_8]) (t := 41) ?hr ?_; (case hd => rfl); (case hg => rfl); (case hr => first | (go_simp; done) | (go_simp; rfl)); intro gb273 hg w9 hbox hb; have n0_ := belB_ HB hb; have n1_ := Aside0.mk (hbox); have n2_ := gee_ hg HB; have n3_ := gee_ hg HB; clear HB; have HB := n0_; have BK273 := n1_; have GW273 := n2_; have GE273 := n3_; clear n0_ n1_ n2_ n3_; clear hb hbox hg; obtain ⟨hcz10_0, hcz10_1, hcz10_2, hcz10_3, hcz10_4, hcz10_5, hcz10_6, hcz10_7, hcz10_8, hfz10_0, hfz10_1, hfz10_2, hfz10_3, hfz10_4, hfz10_5, hfz10_6, hfz10_7, hfz10_8⟩ := blk9_ BK273.out))
      go_ret
      exact ⟨by first | rfl | (simp [*] <;> rfl), belW_ HB⟩
    ·rw [if_neg c5] at H
     have c5b0 : (a0_2 == 1) = false := beq_eq_false_iff_ne.mpr c5
     have c5b1 : (a0_2 != 1) = true := bne_iff_ne.mpr c5
     by_cases c11 : a0_2 = 4
     ·rw [if_pos c11] at H
      have c11b0 : (a0_2 == 4) = true := beq_iff_eq.mpr c11
      have c11b1 : (a0_2 != 4) = false := bne_eq_false_iff_eq.mpr c11
      clear c11
      by_cases c12 : a0_4.toList = ([] : List UInt8)
      ·rw [if_pos c12] at H
       have c12b0 : (a0_4.toList == ([] : List UInt8)) = true := beq_iff_eq.mpr c12
       have c12b1 : (a0_4.toList != ([] : List UInt8)) = false := bne_eq_false_iff_eq.mpr c12
       clear c12
       obtain rfl := Option.some.inj H
       go_enter Tryd.func121, Tryd.ntmps121
       go_wp2_with (first | ((with_reducible refine gate_dst (N := 1) rfl ?_); refine box_event ?hg (N := 1) ?hd (cs := #[.int .i64 a0_0, .int .i64 a0_1, .int .i64 a0_2, .int .i64 a0_3, .string a0_4, .slice A0_5 l0_5.length c0_5, .int .i64 a0_6, .int .i64 a0_7, .bool a0_8]) (t := 41) ?hr ?_; (case hd => rfl); (case hg => rfl); (case hr => first | (go_simp; done) | (go_simp; rfl)); intro gb273 hg w13 hbox hb; have n0_ := belB_ HB hb; have n1_ := Aside0.mk (hbox); have n2_ := gee_ hg HB; have n3_ := gee_ hg HB; clear HB; have HB := n0_; have BK273 := n1_; have GW273 := n2_; have GE273 := n3_; clear n0_ n1_ n2_ n3_; clear hb hbox hg; obtain ⟨hcz14_0, hcz14_1, hcz14_2, hcz14_3, hcz14_4, hcz14_5, hcz14_6, hcz14_7, hcz14_8, hfz14_0, hfz14_1, hfz14_2, hfz14_3, hfz14_4, hfz14_5, hfz14_6, hfz14_7, hfz14_8⟩ := blk9_ BK273.out))
       go_ret
       exact ⟨by first | rfl | (simp [*] <;> rfl), belW_ HB⟩
      ·rw [if_neg c12] at H
       have c12b0 : (a0_4.toList == ([] : List UInt8)) = false := beq_eq_false_iff_ne.mpr c12
       have c12b1 : (a0_4.toList != ([] : List UInt8)) = true := bne_iff_ne.mpr c12
       obtain rfl := Option.some.inj H
       go_enter Tryd.func121, Tryd.ntmps121
       go_wp2_with (first | ((with_reducible refine gate_dst (N := 1) rfl ?_); refine box_event ?hg (N := 1) ?hd (cs := #[.int .i64 a0_0, .int .i64 a0_1, .int .i64 a0_2, .int .i64 a0_3, .string a0_4, .slice A0_5 l0_5.length c0_5, .int .i64 a0_6, .int .i64 a0_7, .bool a0_8]) (t := 41) ?hr ?_; (case hd => rfl); (case hg => rfl); (case hr => first | (go_simp; done) | (go_simp; rfl)); intro gb273 hg w15 hbox hb; have n0_ := belB_ HB hb; have n1_ := Aside0.mk (hbox); have n2_ := gee_ hg HB; have n3_ := gee_ hg HB; clear HB; have HB := n0_; have BK273 := n1_; have GW273 := n2_; have GE273 := n3_; clear n0_ n1_ n2_ n3_; clear hb hbox hg; obtain ⟨hcz16_0, hcz16_1, hcz16_2, hcz16_3, hcz16_4, hcz16_5, hcz16_6, hcz16_7, hcz16_8, hfz16_0, hfz16_1, hfz16_2, hfz16_3, hfz16_4, hfz16_5, hfz16_6, hfz16_7, hfz16_8⟩ := blk9_ BK273.out))
       go_ret
       exact ⟨by first | rfl | (simp [*] <;> rfl), belW_ HB⟩
     ·rw [if_neg c11] at H
      have c11b0 : (a0_2 == 4) = false := beq_eq_false_iff_ne.mpr c11
      have c11b1 : (a0_2 != 4) = true := bne_iff_ne.mpr c11
      by_cases c17 : a0_4.toList = ([] : List UInt8)
      ·rw [if_pos c17] at H
       have c17b0 : (a0_4.toList == ([] : List UInt8)) = true := beq_iff_eq.mpr c17
       have c17b1 : (a0_4.toList != ([] : List UInt8)) = false := bne_eq_false_iff_eq.mpr c17
       clear c17
       obtain rfl := Option.some.inj H
       go_enter Tryd.func121, Tryd.ntmps121
       go_wp2_with (first | ((with_reducible refine gate_dst (N := 1) rfl ?_); refine box_event ?hg (N := 1) ?hd (cs := #[.int .i64 a0_0, .int .i64 a0_1, .int .i64 a0_2, .int .i64 a0_3, .string a0_4, .slice A0_5 l0_5.length c0_5, .int .i64 a0_6, .int .i64 a0_7, .bool a0_8]) (t := 41) ?hr ?_; (case hd => rfl); (case hg => rfl); (case hr => first | (go_simp; done) | (go_simp; rfl)); intro gb273 hg w18 hbox hb; have n0_ := belB_ HB hb; have n1_ := Aside0.mk (hbox); have n2_ := gee_ hg HB; have n3_ := gee_ hg HB; clear HB; have HB := n0_; have BK273 := n1_; have GW273 := n2_; have GE273 := n3_; clear n0_ n1_ n2_ n3_; clear hb hbox hg; obtain ⟨hcz19_0, hcz19_1, hcz19_2, hcz19_3, hcz19_4, hcz19_5, hcz19_6, hcz19_7, hcz19_8, hfz19_0, hfz19_1, hfz19_2, hfz19_3, hfz19_4, hfz19_5, hfz19_6, hfz19_7, hfz19_8⟩ := blk9_ BK273.out))
       go_ret
       exact ⟨by first | rfl | (simp [*] <;> rfl), belW_ HB⟩
      ·rw [if_neg c17] at H
       have c17b0 : (a0_4.toList == ([] : List UInt8)) = false := beq_eq_false_iff_ne.mpr c17
       have c17b1 : (a0_4.toList != ([] : List UInt8)) = true := bne_iff_ne.mpr c17
       obtain rfl := Option.some.inj H
       go_enter Tryd.func121, Tryd.ntmps121
       go_wp2_with (first | ((with_reducible refine gate_dst (N := 1) rfl ?_); refine box_event ?hg (N := 1) ?hd (cs := #[.int .i64 a0_0, .int .i64 a0_1, .int .i64 a0_2, .int .i64 a0_3, .string a0_4, .slice A0_5 l0_5.length c0_5, .int .i64 a0_6, .int .i64 a0_7, .bool a0_8]) (t := 41) ?hr ?_; (case hd => rfl); (case hg => rfl); (case hr => first | (go_simp; done) | (go_simp; rfl)); intro gb273 hg w20 hbox hb; have n0_ := belB_ HB hb; have n1_ := Aside0.mk (hbox); have n2_ := gee_ hg HB; have n3_ := gee_ hg HB; clear HB; have HB := n0_; have BK273 := n1_; have GW273 := n2_; have GE273 := n3_; clear n0_ n1_ n2_ n3_; clear hb hbox hg; obtain ⟨hcz21_0, hcz21_1, hcz21_2, hcz21_3, hcz21_4, hcz21_5, hcz21_6, hcz21_7, hcz21_8, hfz21_0, hfz21_1, hfz21_2, hfz21_3, hfz21_4, hfz21_5, hfz21_6, hfz21_7, hfz21_8⟩ := blk9_ BK273.out))
       go_ret
       exact ⟨by first | rfl | (simp [*] <;> rfl), belW_ HB⟩
   ·rw [if_neg c4] at H
    have c4b0 : (a0_7 == 0) = false := beq_eq_false_iff_ne.mpr c4
    have c4b1 : (a0_7 != 0) = true := bne_iff_ne.mpr c4
    by_cases c22 : a0_2 = 1
    ·rw [if_pos c22] at H
     have c22b0 : (a0_2 == 1) = true := beq_iff_eq.mpr c22
     have c22b1 : (a0_2 != 1) = false := bne_eq_false_iff_eq.mpr c22
     clear c22
     by_cases c23 : (l0_5.length : Int) > 0
     ·rw [if_pos c23] at H
      have c23b0 : decide (0 < (l0_5.length : Int)) = true := decide_eq_true c23
      have c23b1 : decide (0 < l0_5.length) = true := decide_eq_true (by omega)
      clear c23
      obtain rfl := Option.some.inj H
      go_enter Tryd.func121, Tryd.ntmps121
      go_wp2_with (first | ((with_reducible refine gate_dst (N := 1) rfl ?_); refine box_event ?hg (N := 1) ?hd (cs := #[.int .i64 a0_0, .int .i64 a0_1, .int .i64 a0_2, .int .i64 a0_3, .string a0_4, .slice A0_5 l0_5.length c0_5, .int .i64 a0_6, .int .i64 a0_7, .bool a0_8]) (t := 41) ?hr ?_; (case hd => rfl); (case hg => rfl); (case hr => first | (go_simp; done) | (go_simp; rfl)); intro gb273 hg w24 hbox hb; have n0_ := belB_ HB hb; have n1_ := Aside0.mk (hbox); have n2_ := gee_ hg HB; have n3_ := gee_ hg HB; clear HB; have HB := n0_; have BK273 := n1_; have GW273 := n2_; have GE273 := n3_; clear n0_ n1_ n2_ n3_; clear hb hbox hg; obtain ⟨hcz25_0, hcz25_1, hcz25_2, hcz25_3, hcz25_4, hcz25_5, hcz25_6, hcz25_7, hcz25_8, hfz25_0, hfz25_1, hfz25_2, hfz25_3, hfz25_4, hfz25_5, hfz25_6, hfz25_7, hfz25_8⟩ := blk9_ BK273.out))
      go_ret
      exact ⟨by first | rfl | (simp [*] <;> rfl), belW_ HB⟩
     ·rw [if_neg c23] at H
      have c23b0 : decide (0 < (l0_5.length : Int)) = false := decide_eq_false c23
      have c23b1 : decide (0 < l0_5.length) = false := decide_eq_false (by omega)
      clear c23
      obtain rfl := Option.some.inj H
      go_enter Tryd.func121, Tryd.ntmps121
      go_wp2_with (first | ((with_reducible refine gate_dst (N := 1) rfl ?_); refine box_event ?hg (N := 1) ?hd (cs := #[.int .i64 a0_0, .int .i64 a0_1, .int .i64 a0_2, .int .i64 a0_3, .string a0_4, .slice A0_5 l0_5.length c0_5, .int .i64 a0_6, .int .i64 a0_7, .bool a0_8]) (t := 41) ?hr ?_; (case hd => rfl); (case hg => rfl); (case hr => first | (go_simp; done) | (go_simp; rfl)); intro gb273 hg w26 hbox hb; have n0_ := belB_ HB hb; have n1_ := Aside0.mk (hbox); have n2_ := gee_ hg HB; have n3_ := gee_ hg HB; clear HB; have HB := n0_; have BK273 := n1_; have GW273 := n2_; have GE273 := n3_; clear n0_ n1_ n2_ n3_; clear hb hbox hg; obtain ⟨hcz27_0, hcz27_1, hcz27_2, hcz27_3, hcz27_4, hcz27_5, hcz27_6, hcz27_7, hcz27_8, hfz27_0, hfz27_1, hfz27_2, hfz27_3, hfz27_4, hfz27_5, hfz27_6, hfz27_7, hfz27_8⟩ := blk9_ BK273.out))
      go_ret
      exact ⟨by first | rfl | (simp [*] <;> rfl), belW_ HB⟩
    ·rw [if_neg c22] at H
     have c22b0 : (a0_2 == 1) = false := beq_eq_false_iff_ne.mpr c22
     have c22b1 : (a0_2 != 1) = true := bne_iff_ne.mpr c22
     by_cases c28 : a0_2 = 4
     ·rw [if_pos c28] at H
      have c28b0 : (a0_2 == 4) = true := beq_iff_eq.mpr c28
      have c28b1 : (a0_2 != 4) = false := bne_eq_false_iff_eq.mpr c28
      clear c28
      by_cases c29 : a0_4.toList = ([] : List UInt8)
      ·rw [if_pos c29] at H
       have c29b0 : (a0_4.toList == ([] : List UInt8)) = true := beq_iff_eq.mpr c29
       have c29b1 : (a0_4.toList != ([] : List UInt8)) = false := bne_eq_false_iff_eq.mpr c29
       clear c29
       obtain rfl := Option.some.inj H
       go_enter Tryd.func121, Tryd.ntmps121
       go_wp2_with (first | ((with_reducible refine gate_dst (N := 1) rfl ?_); refine box_event ?hg (N := 1) ?hd (cs := #[.int .i64 a0_0, .int .i64 a0_1, .int .i64 a0_2, .int .i64 a0_3, .string a0_4, .slice A0_5 l0_5.length c0_5, .int .i64 a0_6, .int .i64 a0_7, .bool a0_8]) (t := 41) ?hr ?_; (case hd => rfl); (case hg => rfl); (case hr => first | (go_simp; done) | (go_simp; rfl)); intro gb273 hg w30 hbox hb; have n0_ := belB_ HB hb; have n1_ := Aside0.mk (hbox); have n2_ := gee_ hg HB; have n3_ := gee_ hg HB; clear HB; have HB := n0_; have BK273 := n1_; have GW273 := n2_; have GE273 := n3_; clear n0_ n1_ n2_ n3_; clear hb hbox hg; obtain ⟨hcz31_0, hcz31_1, hcz31_2, hcz31_3, hcz31_4, hcz31_5, hcz31_6, hcz31_7, hcz31_8, hfz31_0, hfz31_1, hfz31_2, hfz31_3, hfz31_4, hfz31_5, hfz31_6, hfz31_7, hfz31_8⟩ := blk9_ BK273.out))
       go_ret
       exact ⟨by first | rfl | (simp [*] <;> rfl), belW_ HB⟩
      ·rw [if_neg c29] at H
       have c29b0 : (a0_4.toList == ([] : List UInt8)) = false := beq_eq_false_iff_ne.mpr c29
       have c29b1 : (a0_4.toList != ([] : List UInt8)) = true := bne_iff_ne.mpr c29
       obtain rfl := Option.some.inj H
       go_enter Tryd.func121, Tryd.ntmps121
       go_wp2_with (first | ((with_reducible refine gate_dst (N := 1) rfl ?_); refine box_event ?hg (N := 1) ?hd (cs := #[.int .i64 a0_0, .int .i64 a0_1, .int .i64 a0_2, .int .i64 a0_3, .string a0_4, .slice A0_5 l0_5.length c0_5, .int .i64 a0_6, .int .i64 a0_7, .bool a0_8]) (t := 41) ?hr ?_; (case hd => rfl); (case hg => rfl); (case hr => first | (go_simp; done) | (go_simp; rfl)); intro gb273 hg w32 hbox hb; have n0_ := belB_ HB hb; have n1_ := Aside0.mk (hbox); have n2_ := gee_ hg HB; have n3_ := gee_ hg HB; clear HB; have HB := n0_; have BK273 := n1_; have GW273 := n2_; have GE273 := n3_; clear n0_ n1_ n2_ n3_; clear hb hbox hg; obtain ⟨hcz33_0, hcz33_1, hcz33_2, hcz33_3, hcz33_4, hcz33_5, hcz33_6, hcz33_7, hcz33_8, hfz33_0, hfz33_1, hfz33_2, hfz33_3, hfz33_4, hfz33_5, hfz33_6, hfz33_7, hfz33_8⟩ := blk9_ BK273.out))
       go_ret
       exact ⟨by first | rfl | (simp [*] <;> rfl), belW_ HB⟩
     ·rw [if_neg c28] at H
      have c28b0 : (a0_2 == 4) = false := beq_eq_false_iff_ne.mpr c28
      have c28b1 : (a0_2 != 4) = true := bne_iff_ne.mpr c28
      by_cases c34 : a0_4.toList = ([] : List UInt8)
      ·rw [if_pos c34] at H
       have c34b0 : (a0_4.toList == ([] : List UInt8)) = true := beq_iff_eq.mpr c34
       have c34b1 : (a0_4.toList != ([] : List UInt8)) = false := bne_eq_false_iff_eq.mpr c34
       clear c34
       obtain rfl := Option.some.inj H
       go_enter Tryd.func121, Tryd.ntmps121
       go_wp2_with (first | ((with_reducible refine gate_dst (N := 1) rfl ?_); refine box_event ?hg (N := 1) ?hd (cs := #[.int .i64 a0_0, .int .i64 a0_1, .int .i64 a0_2, .int .i64 a0_3, .string a0_4, .slice A0_5 l0_5.length c0_5, .int .i64 a0_6, .int .i64 a0_7, .bool a0_8]) (t := 41) ?hr ?_; (case hd => rfl); (case hg => rfl); (case hr => first | (go_simp; done) | (go_simp; rfl)); intro gb273 hg w35 hbox hb; have n0_ := belB_ HB hb; have n1_ := Aside0.mk (hbox); have n2_ := gee_ hg HB; have n3_ := gee_ hg HB; clear HB; have HB := n0_; have BK273 := n1_; have GW273 := n2_; have GE273 := n3_; clear n0_ n1_ n2_ n3_; clear hb hbox hg; obtain ⟨hcz36_0, hcz36_1, hcz36_2, hcz36_3, hcz36_4, hcz36_5, hcz36_6, hcz36_7, hcz36_8, hfz36_0, hfz36_1, hfz36_2, hfz36_3, hfz36_4, hfz36_5, hfz36_6, hfz36_7, hfz36_8⟩ := blk9_ BK273.out))
       go_ret
       exact ⟨by first | rfl | (simp [*] <;> rfl), belW_ HB⟩
      ·rw [if_neg c34] at H
       have c34b0 : (a0_4.toList == ([] : List UInt8)) = false := beq_eq_false_iff_ne.mpr c34
       have c34b1 : (a0_4.toList != ([] : List UInt8)) = true := bne_iff_ne.mpr c34
       obtain rfl := Option.some.inj H
       go_enter Tryd.func121, Tryd.ntmps121
       go_wp2_with (first | ((with_reducible refine gate_dst (N := 1) rfl ?_); refine box_event ?hg (N := 1) ?hd (cs := #[.int .i64 a0_0, .int .i64 a0_1, .int .i64 a0_2, .int .i64 a0_3, .string a0_4, .slice A0_5 l0_5.length c0_5, .int .i64 a0_6, .int .i64 a0_7, .bool a0_8]) (t := 41) ?hr ?_; (case hd => rfl); (case hg => rfl); (case hr => first | (go_simp; done) | (go_simp; rfl)); intro gb273 hg w37 hbox hb; have n0_ := belB_ HB hb; have n1_ := Aside0.mk (hbox); have n2_ := gee_ hg HB; have n3_ := gee_ hg HB; clear HB; have HB := n0_; have BK273 := n1_; have GW273 := n2_; have GE273 := n3_; clear n0_ n1_ n2_ n3_; clear hb hbox hg; obtain ⟨hcz38_0, hcz38_1, hcz38_2, hcz38_3, hcz38_4, hcz38_5, hcz38_6, hcz38_7, hcz38_8, hfz38_0, hfz38_1, hfz38_2, hfz38_3, hfz38_4, hfz38_5, hfz38_6, hfz38_7, hfz38_8⟩ := blk9_ BK273.out))
       go_ret
       exact ⟨by first | rfl | (simp [*] <;> rfl), belW_ HB⟩
  ·rw [if_neg c3] at H
   have c3b0 : (a0_6 == 0) = false := beq_eq_false_iff_ne.mpr c3
   have c3b1 : (a0_6 != 0) = true := bne_iff_ne.mpr c3
   by_cases c39 : a0_2 = 1
   ·rw [if_pos c39] at H
    have c39b0 : (a0_2 == 1) = true := beq_iff_eq.mpr c39
    have c39b1 : (a0_2 != 1) = false := bne_eq_false_iff_eq.mpr c39
    clear c39
    by_cases c40 : (l0_5.length : Int) > 0
    ·rw [if_pos c40] at H
     have c40b0 : decide (0 < (l0_5.length : Int)) = true := decide_eq_true c40
     have c40b1 : decide (0 < l0_5.length) = true := decide_eq_true (by omega)
     clear c40
     obtain rfl := Option.some.inj H
     go_enter Tryd.func121, Tryd.ntmps121
     go_wp2_with (first | ((with_reducible refine gate_dst (N := 1) rfl ?_); refine box_event ?hg (N := 1) ?hd (cs := #[.int .i64 a0_0, .int .i64 a0_1, .int .i64 a0_2, .int .i64 a0_3, .string a0_4, .slice A0_5 l0_5.length c0_5, .int .i64 a0_6, .int .i64 a0_7, .bool a0_8]) (t := 41) ?hr ?_; (case hd => rfl); (case hg => rfl); (case hr => first | (go_simp; done) | (go_simp; rfl)); intro gb273 hg w41 hbox hb; have n0_ := belB_ HB hb; have n1_ := Aside0.mk (hbox); have n2_ := gee_ hg HB; have n3_ := gee_ hg HB; clear HB; have HB := n0_; have BK273 := n1_; have GW273 := n2_; have GE273 := n3_; clear n0_ n1_ n2_ n3_; clear hb hbox hg; obtain ⟨hcz42_0, hcz42_1, hcz42_2, hcz42_3, hcz42_4, hcz42_5, hcz42_6, hcz42_7, hcz42_8, hfz42_0, hfz42_1, hfz42_2, hfz42_3, hfz42_4, hfz42_5, hfz42_6, hfz42_7, hfz42_8⟩ := blk9_ BK273.out))
     go_ret
     exact ⟨by first | rfl | (simp [*] <;> rfl), belW_ HB⟩
    ·rw [if_neg c40] at H
     have c40b0 : decide (0 < (l0_5.length : Int)) = false := decide_eq_false c40
     have c40b1 : decide (0 < l0_5.length) = false := decide_eq_false (by omega)
     clear c40
     obtain rfl := Option.some.inj H
     go_enter Tryd.func121, Tryd.ntmps121
     go_wp2_with (first | ((with_reducible refine gate_dst (N := 1) rfl ?_); refine box_event ?hg (N := 1) ?hd (cs := #[.int .i64 a0_0, .int .i64 a0_1, .int .i64 a0_2, .int .i64 a0_3, .string a0_4, .slice A0_5 l0_5.length c0_5, .int .i64 a0_6, .int .i64 a0_7, .bool a0_8]) (t := 41) ?hr ?_; (case hd => rfl); (case hg => rfl); (case hr => first | (go_simp; done) | (go_simp; rfl)); intro gb273 hg w43 hbox hb; have n0_ := belB_ HB hb; have n1_ := Aside0.mk (hbox); have n2_ := gee_ hg HB; have n3_ := gee_ hg HB; clear HB; have HB := n0_; have BK273 := n1_; have GW273 := n2_; have GE273 := n3_; clear n0_ n1_ n2_ n3_; clear hb hbox hg; obtain ⟨hcz44_0, hcz44_1, hcz44_2, hcz44_3, hcz44_4, hcz44_5, hcz44_6, hcz44_7, hcz44_8, hfz44_0, hfz44_1, hfz44_2, hfz44_3, hfz44_4, hfz44_5, hfz44_6, hfz44_7, hfz44_8⟩ := blk9_ BK273.out))
     go_ret
     exact ⟨by first | rfl | (simp [*] <;> rfl), belW_ HB⟩
   ·rw [if_neg c39] at H
    have c39b0 : (a0_2 == 1) = false := beq_eq_false_iff_ne.mpr c39
    have c39b1 : (a0_2 != 1) = true := bne_iff_ne.mpr c39
    by_cases c45 : a0_2 = 4
    ·rw [if_pos c45] at H
     have c45b0 : (a0_2 == 4) = true := beq_iff_eq.mpr c45
     have c45b1 : (a0_2 != 4) = false := bne_eq_false_iff_eq.mpr c45
     clear c45
     by_cases c46 : a0_4.toList = ([] : List UInt8)
     ·rw [if_pos c46] at H
      have c46b0 : (a0_4.toList == ([] : List UInt8)) = true := beq_iff_eq.mpr c46
      have c46b1 : (a0_4.toList != ([] : List UInt8)) = false := bne_eq_false_iff_eq.mpr c46
      clear c46
      obtain rfl := Option.some.inj H
      go_enter Tryd.func121, Tryd.ntmps121
      go_wp2_with (first | ((with_reducible refine gate_dst (N := 1) rfl ?_); refine box_event ?hg (N := 1) ?hd (cs := #[.int .i64 a0_0, .int .i64 a0_1, .int .i64 a0_2, .int .i64 a0_3, .string a0_4, .slice A0_5 l0_5.length c0_5, .int .i64 a0_6, .int .i64 a0_7, .bool a0_8]) (t := 41) ?hr ?_; (case hd => rfl); (case hg => rfl); (case hr => first | (go_simp; done) | (go_simp; rfl)); intro gb273 hg w47 hbox hb; have n0_ := belB_ HB hb; have n1_ := Aside0.mk (hbox); have n2_ := gee_ hg HB; have n3_ := gee_ hg HB; clear HB; have HB := n0_; have BK273 := n1_; have GW273 := n2_; have GE273 := n3_; clear n0_ n1_ n2_ n3_; clear hb hbox hg; obtain ⟨hcz48_0, hcz48_1, hcz48_2, hcz48_3, hcz48_4, hcz48_5, hcz48_6, hcz48_7, hcz48_8, hfz48_0, hfz48_1, hfz48_2, hfz48_3, hfz48_4, hfz48_5, hfz48_6, hfz48_7, hfz48_8⟩ := blk9_ BK273.out))
      go_ret
      exact ⟨by first | rfl | (simp [*] <;> rfl), belW_ HB⟩
     ·rw [if_neg c46] at H
      have c46b0 : (a0_4.toList == ([] : List UInt8)) = false := beq_eq_false_iff_ne.mpr c46
      have c46b1 : (a0_4.toList != ([] : List UInt8)) = true := bne_iff_ne.mpr c46
      obtain rfl := Option.some.inj H
      go_enter Tryd.func121, Tryd.ntmps121
      go_wp2_with (first | ((with_reducible refine gate_dst (N := 1) rfl ?_); refine box_event ?hg (N := 1) ?hd (cs := #[.int .i64 a0_0, .int .i64 a0_1, .int .i64 a0_2, .int .i64 a0_3, .string a0_4, .slice A0_5 l0_5.length c0_5, .int .i64 a0_6, .int .i64 a0_7, .bool a0_8]) (t := 41) ?hr ?_; (case hd => rfl); (case hg => rfl); (case hr => first | (go_simp; done) | (go_simp; rfl)); intro gb273 hg w49 hbox hb; have n0_ := belB_ HB hb; have n1_ := Aside0.mk (hbox); have n2_ := gee_ hg HB; have n3_ := gee_ hg HB; clear HB; have HB := n0_; have BK273 := n1_; have GW273 := n2_; have GE273 := n3_; clear n0_ n1_ n2_ n3_; clear hb hbox hg; obtain ⟨hcz50_0, hcz50_1, hcz50_2, hcz50_3, hcz50_4, hcz50_5, hcz50_6, hcz50_7, hcz50_8, hfz50_0, hfz50_1, hfz50_2, hfz50_3, hfz50_4, hfz50_5, hfz50_6, hfz50_7, hfz50_8⟩ := blk9_ BK273.out))
      go_ret
      exact ⟨by first | rfl | (simp [*] <;> rfl), belW_ HB⟩
    ·rw [if_neg c45] at H
     have c45b0 : (a0_2 == 4) = false := beq_eq_false_iff_ne.mpr c45
     have c45b1 : (a0_2 != 4) = true := bne_iff_ne.mpr c45
     by_cases c51 : a0_4.toList = ([] : List UInt8)
     ·rw [if_pos c51] at H
      have c51b0 : (a0_4.toList == ([] : List UInt8)) = true := beq_iff_eq.mpr c51
      have c51b1 : (a0_4.toList != ([] : List UInt8)) = false := bne_eq_false_iff_eq.mpr c51
      clear c51
      obtain rfl := Option.some.inj H
      go_enter Tryd.func121, Tryd.ntmps121
      go_wp2_with (first | ((with_reducible refine gate_dst (N := 1) rfl ?_); refine box_event ?hg (N := 1) ?hd (cs := #[.int .i64 a0_0, .int .i64 a0_1, .int .i64 a0_2, .int .i64 a0_3, .string a0_4, .slice A0_5 l0_5.length c0_5, .int .i64 a0_6, .int .i64 a0_7, .bool a0_8]) (t := 41) ?hr ?_; (case hd => rfl); (case hg => rfl); (case hr => first | (go_simp; done) | (go_simp; rfl)); intro gb273 hg w52 hbox hb; have n0_ := belB_ HB hb; have n1_ := Aside0.mk (hbox); have n2_ := gee_ hg HB; have n3_ := gee_ hg HB; clear HB; have HB := n0_; have BK273 := n1_; have GW273 := n2_; have GE273 := n3_; clear n0_ n1_ n2_ n3_; clear hb hbox hg; obtain ⟨hcz53_0, hcz53_1, hcz53_2, hcz53_3, hcz53_4, hcz53_5, hcz53_6, hcz53_7, hcz53_8, hfz53_0, hfz53_1, hfz53_2, hfz53_3, hfz53_4, hfz53_5, hfz53_6, hfz53_7, hfz53_8⟩ := blk9_ BK273.out))
      go_ret
      exact ⟨by first | rfl | (simp [*] <;> rfl), belW_ HB⟩
     ·rw [if_neg c51] at H
      have c51b0 : (a0_4.toList == ([] : List UInt8)) = false := beq_eq_false_iff_ne.mpr c51
      have c51b1 : (a0_4.toList != ([] : List UInt8)) = true := bne_iff_ne.mpr c51
      obtain rfl := Option.some.inj H
      go_enter Tryd.func121, Tryd.ntmps121
      go_wp2_with (first | ((with_reducible refine gate_dst (N := 1) rfl ?_); refine box_event ?hg (N := 1) ?hd (cs := #[.int .i64 a0_0, .int .i64 a0_1, .int .i64 a0_2, .int .i64 a0_3, .string a0_4, .slice A0_5 l0_5.length c0_5, .int .i64 a0_6, .int .i64 a0_7, .bool a0_8]) (t := 41) ?hr ?_; (case hd => rfl); (case hg => rfl); (case hr => first | (go_simp; done) | (go_simp; rfl)); intro gb273 hg w54 hbox hb; have n0_ := belB_ HB hb; have n1_ := Aside0.mk (hbox); have n2_ := gee_ hg HB; have n3_ := gee_ hg HB; clear HB; have HB := n0_; have BK273 := n1_; have GW273 := n2_; have GE273 := n3_; clear n0_ n1_ n2_ n3_; clear hb hbox hg; obtain ⟨hcz55_0, hcz55_1, hcz55_2, hcz55_3, hcz55_4, hcz55_5, hcz55_6, hcz55_7, hcz55_8, hfz55_0, hfz55_1, hfz55_2, hfz55_3, hfz55_4, hfz55_5, hfz55_6, hfz55_7, hfz55_8⟩ := blk9_ BK273.out))
      go_ret
      exact ⟨by first | rfl | (simp [*] <;> rfl), belW_ HB⟩
 ·rw [if_neg c2] at H
  have c2b0 : (a0_3 == 0) = false := beq_eq_false_iff_ne.mpr c2
  have c2b1 : (a0_3 != 0) = true := bne_iff_ne.mpr c2
  by_cases c56 : a0_6 = 0
  ·rw [if_pos c56] at H
   have c56b0 : (a0_6 == 0) = true := beq_iff_eq.mpr c56
   have c56b1 : (a0_6 != 0) = false := bne_eq_false_iff_eq.mpr c56
   clear c56
   by_cases c57 : a0_7 = 0
   ·rw [if_pos c57] at H
    have c57b0 : (a0_7 == 0) = true := beq_iff_eq.mpr c57
    have c57b1 : (a0_7 != 0) = false := bne_eq_false_iff_eq.mpr c57
    clear c57
    by_cases c58 : a0_2 = 1
    ·rw [if_pos c58] at H
     have c58b0 : (a0_2 == 1) = true := beq_iff_eq.mpr c58
     have c58b1 : (a0_2 != 1) = false := bne_eq_false_iff_eq.mpr c58
     clear c58
     by_cases c59 : (l0_5.length : Int) > 0
     ·rw [if_pos c59] at H
      have c59b0 : decide (0 < (l0_5.length : Int)) = true := decide_eq_true c59
      have c59b1 : decide (0 < l0_5.length) = true := decide_eq_true (by omega)
      clear c59
      obtain rfl := Option.some.inj H
      go_enter Tryd.func121, Tryd.ntmps121
      go_wp2_with (first | ((with_reducible refine gate_dst (N := 1) rfl ?_); refine box_event ?hg (N := 1) ?hd (cs := #[.int .i64 a0_0, .int .i64 a0_1, .int .i64 a0_2, .int .i64 a0_3, .string a0_4, .slice A0_5 l0_5.length c0_5, .int .i64 a0_6, .int .i64 a0_7, .bool a0_8]) (t := 41) ?hr ?_; (case hd => rfl); (case hg => rfl); (case hr => first | (go_simp; done) | (go_simp; rfl)); intro gb273 hg w60 hbox hb; have n0_ := belB_ HB hb; have n1_ := Aside0.mk (hbox); have n2_ := gee_ hg HB; have n3_ := gee_ hg HB; clear HB; have HB := n0_; have BK273 := n1_; have GW273 := n2_; have GE273 := n3_; clear n0_ n1_ n2_ n3_; clear hb hbox hg; obtain ⟨hcz61_0, hcz61_1, hcz61_2, hcz61_3, hcz61_4, hcz61_5, hcz61_6, hcz61_7, hcz61_8, hfz61_0, hfz61_1, hfz61_2, hfz61_3, hfz61_4, hfz61_5, hfz61_6, hfz61_7, hfz61_8⟩ := blk9_ BK273.out))
      go_ret
      exact ⟨by first | rfl | (simp [*] <;> rfl), belW_ HB⟩
     ·rw [if_neg c59] at H
      have c59b0 : decide (0 < (l0_5.length : Int)) = false := decide_eq_false c59
      have c59b1 : decide (0 < l0_5.length) = false := decide_eq_false (by omega)
      clear c59
      obtain rfl := Option.some.inj H
      go_enter Tryd.func121, Tryd.ntmps121
      go_wp2_with (first | ((with_reducible refine gate_dst (N := 1) rfl ?_); refine box_event ?hg (N := 1) ?hd (cs := #[.int .i64 a0_0, .int .i64 a0_1, .int .i64 a0_2, .int .i64 a0_3, .string a0_4, .slice A0_5 l0_5.length c0_5, .int .i64 a0_6, .int .i64 a0_7, .bool a0_8]) (t := 41) ?hr ?_; (case hd => rfl); (case hg => rfl); (case hr => first | (go_simp; done) | (go_simp; rfl)); intro gb273 hg w62 hbox hb; have n0_ := belB_ HB hb; have n1_ := Aside0.mk (hbox); have n2_ := gee_ hg HB; have n3_ := gee_ hg HB; clear HB; have HB := n0_; have BK273 := n1_; have GW273 := n2_; have GE273 := n3_; clear n0_ n1_ n2_ n3_; clear hb hbox hg; obtain ⟨hcz63_0, hcz63_1, hcz63_2, hcz63_3, hcz63_4, hcz63_5, hcz63_6, hcz63_7, hcz63_8, hfz63_0, hfz63_1, hfz63_2, hfz63_3, hfz63_4, hfz63_5, hfz63_6, hfz63_7, hfz63_8⟩ := blk9_ BK273.out))
      go_ret
      exact ⟨by first | rfl | (simp [*] <;> rfl), belW_ HB⟩
    ·rw [if_neg c58] at H
     have c58b0 : (a0_2 == 1) = false := beq_eq_false_iff_ne.mpr c58
     have c58b1 : (a0_2 != 1) = true := bne_iff_ne.mpr c58
     by_cases c64 : a0_2 = 4
     ·rw [if_pos c64] at H
      have c64b0 : (a0_2 == 4) = true := beq_iff_eq.mpr c64
      have c64b1 : (a0_2 != 4) = false := bne_eq_false_iff_eq.mpr c64
      clear c64
      obtain rfl := Option.some.inj H
      go_enter Tryd.func121, Tryd.ntmps121
      go_wp2_with (first | ((with_reducible refine gate_dst (N := 1) rfl ?_); refine box_event ?hg (N := 1) ?hd (cs := #[.int .i64 a0_0, .int .i64 a0_1, .int .i64 a0_2, .int .i64 a0_3, .string a0_4, .slice A0_5 l0_5.length c0_5, .int .i64 a0_6, .int .i64 a0_7, .bool a0_8]) (t := 41) ?hr ?_; (case hd => rfl); (case hg => rfl); (case hr => first | (go_simp; done) | (go_simp; rfl)); intro gb273 hg w65 hbox hb; have n0_ := belB_ HB hb; have n1_ := Aside0.mk (hbox); have n2_ := gee_ hg HB; have n3_ := gee_ hg HB; clear HB; have HB := n0_; have BK273 := n1_; have GW273 := n2_; have GE273 := n3_; clear n0_ n1_ n2_ n3_; clear hb hbox hg; obtain ⟨hcz66_0, hcz66_1, hcz66_2, hcz66_3, hcz66_4, hcz66_5, hcz66_6, hcz66_7, hcz66_8, hfz66_0, hfz66_1, hfz66_2, hfz66_3, hfz66_4, hfz66_5, hfz66_6, hfz66_7, hfz66_8⟩ := blk9_ BK273.out))
      go_ret
      exact ⟨by first | rfl | (simp [*] <;> rfl), belW_ HB⟩
     ·rw [if_neg c64] at H
      have c64b0 : (a0_2 == 4) = false := beq_eq_false_iff_ne.mpr c64
      have c64b1 : (a0_2 != 4) = true := bne_iff_ne.mpr c64
      obtain rfl := Option.some.inj H
      go_enter Tryd.func121, Tryd.ntmps121
      go_wp2_with (first | ((with_reducible refine gate_dst (N := 1) rfl ?_); refine box_event ?hg (N := 1) ?hd (cs := #[.int .i64 a0_0, .int .i64 a0_1, .int .i64 a0_2, .int .i64 a0_3, .string a0_4, .slice A0_5 l0_5.length c0_5, .int .i64 a0_6, .int .i64 a0_7, .bool a0_8]) (t := 41) ?hr ?_; (case hd => rfl); (case hg => rfl); (case hr => first | (go_simp; done) | (go_simp; rfl)); intro gb273 hg w67 hbox hb; have n0_ := belB_ HB hb; have n1_ := Aside0.mk (hbox); have n2_ := gee_ hg HB; have n3_ := gee_ hg HB; clear HB; have HB := n0_; have BK273 := n1_; have GW273 := n2_; have GE273 := n3_; clear n0_ n1_ n2_ n3_; clear hb hbox hg; obtain ⟨hcz68_0, hcz68_1, hcz68_2, hcz68_3, hcz68_4, hcz68_5, hcz68_6, hcz68_7, hcz68_8, hfz68_0, hfz68_1, hfz68_2, hfz68_3, hfz68_4, hfz68_5, hfz68_6, hfz68_7, hfz68_8⟩ := blk9_ BK273.out))
      go_ret
      exact ⟨by first | rfl | (simp [*] <;> rfl), belW_ HB⟩
   ·rw [if_neg c57] at H
    have c57b0 : (a0_7 == 0) = false := beq_eq_false_iff_ne.mpr c57
    have c57b1 : (a0_7 != 0) = true := bne_iff_ne.mpr c57
    by_cases c69 : a0_2 = 1
    ·rw [if_pos c69] at H
     have c69b0 : (a0_2 == 1) = true := beq_iff_eq.mpr c69
     have c69b1 : (a0_2 != 1) = false := bne_eq_false_iff_eq.mpr c69
     clear c69
     by_cases c70 : (l0_5.length : Int) > 0
     ·rw [if_pos c70] at H
      have c70b0 : decide (0 < (l0_5.length : Int)) = true := decide_eq_true c70
      have c70b1 : decide (0 < l0_5.length) = true := decide_eq_true (by omega)
      clear c70
      obtain rfl := Option.some.inj H
      go_enter Tryd.func121, Tryd.ntmps121
      go_wp2_with (first | ((with_reducible refine gate_dst (N := 1) rfl ?_); refine box_event ?hg (N := 1) ?hd (cs := #[.int .i64 a0_0, .int .i64 a0_1, .int .i64 a0_2, .int .i64 a0_3, .string a0_4, .slice A0_5 l0_5.length c0_5, .int .i64 a0_6, .int .i64 a0_7, .bool a0_8]) (t := 41) ?hr ?_; (case hd => rfl); (case hg => rfl); (case hr => first | (go_simp; done) | (go_simp; rfl)); intro gb273 hg w71 hbox hb; have n0_ := belB_ HB hb; have n1_ := Aside0.mk (hbox); have n2_ := gee_ hg HB; have n3_ := gee_ hg HB; clear HB; have HB := n0_; have BK273 := n1_; have GW273 := n2_; have GE273 := n3_; clear n0_ n1_ n2_ n3_; clear hb hbox hg; obtain ⟨hcz72_0, hcz72_1, hcz72_2, hcz72_3, hcz72_4, hcz72_5, hcz72_6, hcz72_7, hcz72_8, hfz72_0, hfz72_1, hfz72_2, hfz72_3, hfz72_4, hfz72_5, hfz72_6, hfz72_7, hfz72_8⟩ := blk9_ BK273.out))
      go_ret
      exact ⟨by first | rfl | (simp [*] <;> rfl), belW_ HB⟩
     ·rw [if_neg c70] at H
      have c70b0 : decide (0 < (l0_5.length : Int)) = false := decide_eq_false c70
      have c70b1 : decide (0 < l0_5.length) = false := decide_eq_false (by omega)
      clear c70
      obtain rfl := Option.some.inj H
      go_enter Tryd.func121, Tryd.ntmps121
      go_wp2_with (first | ((with_reducible refine gate_dst (N := 1) rfl ?_); refine box_event ?hg (N := 1) ?hd (cs := #[.int .i64 a0_0, .int .i64 a0_1, .int .i64 a0_2, .int .i64 a0_3, .string a0_4, .slice A0_5 l0_5.length c0_5, .int .i64 a0_6, .int .i64 a0_7, .bool a0_8]) (t := 41) ?hr ?_; (case hd => rfl); (case hg => rfl); (case hr => first | (go_simp; done) | (go_simp; rfl)); intro gb273 hg w73 hbox hb; have n0_ := belB_ HB hb; have n1_ := Aside0.mk (hbox); have n2_ := gee_ hg HB; have n3_ := gee_ hg HB; clear HB; have HB := n0_; have BK273 := n1_; have GW273 := n2_; have GE273 := n3_; clear n0_ n1_ n2_ n3_; clear hb hbox hg; obtain ⟨hcz74_0, hcz74_1, hcz74_2, hcz74_3, hcz74_4, hcz74_5, hcz74_6, hcz74_7, hcz74_8, hfz74_0, hfz74_1, hfz74_2, hfz74_3, hfz74_4, hfz74_5, hfz74_6, hfz74_7, hfz74_8⟩ := blk9_ BK273.out))
      go_ret
      exact ⟨by first | rfl | (simp [*] <;> rfl), belW_ HB⟩
    ·rw [if_neg c69] at H
     have c69b0 : (a0_2 == 1) = false := beq_eq_false_iff_ne.mpr c69
     have c69b1 : (a0_2 != 1) = true := bne_iff_ne.mpr c69
     by_cases c75 : a0_2 = 4
     ·rw [if_pos c75] at H
      have c75b0 : (a0_2 == 4) = true := beq_iff_eq.mpr c75
      have c75b1 : (a0_2 != 4) = false := bne_eq_false_iff_eq.mpr c75
      clear c75
      obtain rfl := Option.some.inj H
      go_enter Tryd.func121, Tryd.ntmps121
      go_wp2_with (first | ((with_reducible refine gate_dst (N := 1) rfl ?_); refine box_event ?hg (N := 1) ?hd (cs := #[.int .i64 a0_0, .int .i64 a0_1, .int .i64 a0_2, .int .i64 a0_3, .string a0_4, .slice A0_5 l0_5.length c0_5, .int .i64 a0_6, .int .i64 a0_7, .bool a0_8]) (t := 41) ?hr ?_; (case hd => rfl); (case hg => rfl); (case hr => first | (go_simp; done) | (go_simp; rfl)); intro gb273 hg w76 hbox hb; have n0_ := belB_ HB hb; have n1_ := Aside0.mk (hbox); have n2_ := gee_ hg HB; have n3_ := gee_ hg HB; clear HB; have HB := n0_; have BK273 := n1_; have GW273 := n2_; have GE273 := n3_; clear n0_ n1_ n2_ n3_; clear hb hbox hg; obtain ⟨hcz77_0, hcz77_1, hcz77_2, hcz77_3, hcz77_4, hcz77_5, hcz77_6, hcz77_7, hcz77_8, hfz77_0, hfz77_1, hfz77_2, hfz77_3, hfz77_4, hfz77_5, hfz77_6, hfz77_7, hfz77_8⟩ := blk9_ BK273.out))
      go_ret
      exact ⟨by first | rfl | (simp [*] <;> rfl), belW_ HB⟩
     ·rw [if_neg c75] at H
      have c75b0 : (a0_2 == 4) = false := beq_eq_false_iff_ne.mpr c75
      have c75b1 : (a0_2 != 4) = true := bne_iff_ne.mpr c75
      obtain rfl := Option.some.inj H
      go_enter Tryd.func121, Tryd.ntmps121
      go_wp2_with (first | ((with_reducible refine gate_dst (N := 1) rfl ?_); refine box_event ?hg (N := 1) ?hd (cs := #[.int .i64 a0_0, .int .i64 a0_1, .int .i64 a0_2, .int .i64 a0_3, .string a0_4, .slice A0_5 l0_5.length c0_5, .int .i64 a0_6, .int .i64 a0_7, .bool a0_8]) (t := 41) ?hr ?_; (case hd => rfl); (case hg => rfl); (case hr => first | (go_simp; done) | (go_simp; rfl)); intro gb273 hg w78 hbox hb; have n0_ := belB_ HB hb; have n1_ := Aside0.mk (hbox); have n2_ := gee_ hg HB; have n3_ := gee_ hg HB; clear HB; have HB := n0_; have BK273 := n1_; have GW273 := n2_; have GE273 := n3_; clear n0_ n1_ n2_ n3_; clear hb hbox hg; obtain ⟨hcz79_0, hcz79_1, hcz79_2, hcz79_3, hcz79_4, hcz79_5, hcz79_6, hcz79_7, hcz79_8, hfz79_0, hfz79_1, hfz79_2, hfz79_3, hfz79_4, hfz79_5, hfz79_6, hfz79_7, hfz79_8⟩ := blk9_ BK273.out))
      go_ret
      exact ⟨by first | rfl | (simp [*] <;> rfl), belW_ HB⟩
  ·rw [if_neg c56] at H
   have c56b0 : (a0_6 == 0) = false := beq_eq_false_iff_ne.mpr c56
   have c56b1 : (a0_6 != 0) = true := bne_iff_ne.mpr c56
   by_cases c80 : a0_2 = 1
   ·rw [if_pos c80] at H
    have c80b0 : (a0_2 == 1) = true := beq_iff_eq.mpr c80
    have c80b1 : (a0_2 != 1) = false := bne_eq_false_iff_eq.mpr c80
    clear c80
    by_cases c81 : (l0_5.length : Int) > 0
    ·rw [if_pos c81] at H
     have c81b0 : decide (0 < (l0_5.length : Int)) = true := decide_eq_true c81
     have c81b1 : decide (0 < l0_5.length) = true := decide_eq_true (by omega)
     clear c81
     obtain rfl := Option.some.inj H
     go_enter Tryd.func121, Tryd.ntmps121
     go_wp2_with (first | ((with_reducible refine gate_dst (N := 1) rfl ?_); refine box_event ?hg (N := 1) ?hd (cs := #[.int .i64 a0_0, .int .i64 a0_1, .int .i64 a0_2, .int .i64 a0_3, .string a0_4, .slice A0_5 l0_5.length c0_5, .int .i64 a0_6, .int .i64 a0_7, .bool a0_8]) (t := 41) ?hr ?_; (case hd => rfl); (case hg => rfl); (case hr => first | (go_simp; done) | (go_simp; rfl)); intro gb273 hg w82 hbox hb; have n0_ := belB_ HB hb; have n1_ := Aside0.mk (hbox); have n2_ := gee_ hg HB; have n3_ := gee_ hg HB; clear HB; have HB := n0_; have BK273 := n1_; have GW273 := n2_; have GE273 := n3_; clear n0_ n1_ n2_ n3_; clear hb hbox hg; obtain ⟨hcz83_0, hcz83_1, hcz83_2, hcz83_3, hcz83_4, hcz83_5, hcz83_6, hcz83_7, hcz83_8, hfz83_0, hfz83_1, hfz83_2, hfz83_3, hfz83_4, hfz83_5, hfz83_6, hfz83_7, hfz83_8⟩ := blk9_ BK273.out))
     go_ret
     exact ⟨by first | rfl | (simp [*] <;> rfl), belW_ HB⟩
    ·rw [if_neg c81] at H
     have c81b0 : decide (0 < (l0_5.length : Int)) = false := decide_eq_false c81
     have c81b1 : decide (0 < l0_5.length) = false := decide_eq_false (by omega)
     clear c81
     obtain rfl := Option.some.inj H
     go_enter Tryd.func121, Tryd.ntmps121
     go_wp2_with (first | ((with_reducible refine gate_dst (N := 1) rfl ?_); refine box_event ?hg (N := 1) ?hd (cs := #[.int .i64 a0_0, .int .i64 a0_1, .int .i64 a0_2, .int .i64 a0_3, .string a0_4, .slice A0_5 l0_5.length c0_5, .int .i64 a0_6, .int .i64 a0_7, .bool a0_8]) (t := 41) ?hr ?_; (case hd => rfl); (case hg => rfl); (case hr => first | (go_simp; done) | (go_simp; rfl)); intro gb273 hg w84 hbox hb; have n0_ := belB_ HB hb; have n1_ := Aside0.mk (hbox); have n2_ := gee_ hg HB; have n3_ := gee_ hg HB; clear HB; have HB := n0_; have BK273 := n1_; have GW273 := n2_; have GE273 := n3_; clear n0_ n1_ n2_ n3_; clear hb hbox hg; obtain ⟨hcz85_0, hcz85_1, hcz85_2, hcz85_3, hcz85_4, hcz85_5, hcz85_6, hcz85_7, hcz85_8, hfz85_0, hfz85_1, hfz85_2, hfz85_3, hfz85_4, hfz85_5, hfz85_6, hfz85_7, hfz85_8⟩ := blk9_ BK273.out))
     go_ret
     exact ⟨by first | rfl | (simp [*] <;> rfl), belW_ HB⟩
   ·rw [if_neg c80] at H
    have c80b0 : (a0_2 == 1) = false := beq_eq_false_iff_ne.mpr c80
    have c80b1 : (a0_2 != 1) = true := bne_iff_ne.mpr c80
    by_cases c86 : a0_2 = 4
    ·rw [if_pos c86] at H
     have c86b0 : (a0_2 == 4) = true := beq_iff_eq.mpr c86
     have c86b1 : (a0_2 != 4) = false := bne_eq_false_iff_eq.mpr c86
     clear c86
     obtain rfl := Option.some.inj H
     go_enter Tryd.func121, Tryd.ntmps121
     go_wp2_with (first | ((with_reducible refine gate_dst (N := 1) rfl ?_); refine box_event ?hg (N := 1) ?hd (cs := #[.int .i64 a0_0, .int .i64 a0_1, .int .i64 a0_2, .int .i64 a0_3, .string a0_4, .slice A0_5 l0_5.length c0_5, .int .i64 a0_6, .int .i64 a0_7, .bool a0_8]) (t := 41) ?hr ?_; (case hd => rfl); (case hg => rfl); (case hr => first | (go_simp; done) | (go_simp; rfl)); intro gb273 hg w87 hbox hb; have n0_ := belB_ HB hb; have n1_ := Aside0.mk (hbox); have n2_ := gee_ hg HB; have n3_ := gee_ hg HB; clear HB; have HB := n0_; have BK273 := n1_; have GW273 := n2_; have GE273 := n3_; clear n0_ n1_ n2_ n3_; clear hb hbox hg; obtain ⟨hcz88_0, hcz88_1, hcz88_2, hcz88_3, hcz88_4, hcz88_5, hcz88_6, hcz88_7, hcz88_8, hfz88_0, hfz88_1, hfz88_2, hfz88_3, hfz88_4, hfz88_5, hfz88_6, hfz88_7, hfz88_8⟩ := blk9_ BK273.out))
     go_ret
     exact ⟨by first | rfl | (simp [*] <;> rfl), belW_ HB⟩
    ·rw [if_neg c86] at H
     have c86b0 : (a0_2 == 4) = false := beq_eq_false_iff_ne.mpr c86
     have c86b1 : (a0_2 != 4) = true := bne_iff_ne.mpr c86
     obtain rfl := Option.some.inj H
     go_enter Tryd.func121, Tryd.ntmps121
     go_wp2_with (first | ((with_reducible refine gate_dst (N := 1) rfl ?_); refine box_event ?hg (N := 1) ?hd (cs := #[.int .i64 a0_0, .int .i64 a0_1, .int .i64 a0_2, .int .i64 a0_3, .string a0_4, .slice A0_5 l0_5.length c0_5, .int .i64 a0_6, .int .i64 a0_7, .bool a0_8]) (t := 41) ?hr ?_; (case hd => rfl); (case hg => rfl); (case hr => first | (go_simp; done) | (go_simp; rfl)); intro gb273 hg w89 hbox hb; have n0_ := belB_ HB hb; have n1_ := Aside0.mk (hbox); have n2_ := gee_ hg HB; have n3_ := gee_ hg HB; clear HB; have HB := n0_; have BK273 := n1_; have GW273 := n2_; have GE273 := n3_; clear n0_ n1_ n2_ n3_; clear hb hbox hg; obtain ⟨hcz90_0, hcz90_1, hcz90_2, hcz90_3, hcz90_4, hcz90_5, hcz90_6, hcz90_7, hcz90_8, hfz90_0, hfz90_1, hfz90_2, hfz90_3, hfz90_4, hfz90_5, hfz90_6, hfz90_7, hfz90_8⟩ := blk9_ BK273.out))
     go_ret
     exact ⟨by first | rfl | (simp [*] <;> rfl), belW_ HB⟩
end Go.Proofs.YtloccjkcmlkifaaDoor.PAll
