/- XformCaretStays_card, part 28. -/
import Derived.Test.YtloccjkcmlkifaaDoorQCs18
import Derived.Test.YtloccjkcmlkifaaDoorQCs24
import Derived.Test.YtloccjkcmlkifaaDoorQCs27

namespace Go.Proofs.YtloccjkcmlkifaaDoor.PAll
open Go.RowKit Go.Proofs.YtloccjkcmlkifaaDoorW.PrintWords Go.Proofs.YtloccjkcmlkifaaDoorW.PrintLast Go.Proofs.YtloccjkcmlkifaaDoorW.PrintMore
attribute [local go_sem] max2_int min2_int max_two min_two max_three min_three max_four min_four   -- for this text's walks alone
set_option linter.unusedVariables false
set_option linter.unusedSimpArgs false

attribute [local go_sem high] idx34_0 idx34_1 idx35_0 idx35_1
attribute [local go_sem high] eqA35
def xform_own.j0 : Nat → Bool → Int → Int → Int → Int → ByteArray → List (S94) → Int → Int → Bool → Option (Int)
 | 0, _, _, _, _, _, _, _, _, _, _ => none
 | k + 1, x16, x120000, x120001, x120002, x120003, x120004, x120005, x120006, x120007, x120008 => if x16 = true then ((op_Check.f k x120000 x120001 x120002 x120003 x120004 x120005 x120006 x120007 x120008 x120003).bind fun t120 => (some t120)) else ((op_Check.f k x120000 x120001 x120002 x120003 x120004 x120005 x120006 x120007 x120008 1048576).bind fun t121 => (some t121))
def xform_own.f (k : Nat) (a0_0 : Int) (a0_1 : Int) (a0_2 : Int) (a0_3 : Int) (a0_4 : ByteArray) (l0_5 : List (S94)) (a0_6 : Int) (a0_7 : Int) (a0_8 : Bool) : Option (Int) := if a0_2 = 1 then (if a0_3 ≥ 0 then (xform_own.j0 k (decide (a0_3 ≤ 1048576)) a0_0 a0_1 a0_2 a0_3 a0_4 l0_5 a0_6 a0_7 a0_8) else (xform_own.j0 k false a0_0 a0_1 a0_2 a0_3 a0_4 l0_5 a0_6 a0_7 a0_8)) else (xform_own.j0 k false a0_0 a0_1 a0_2 a0_3 a0_4 l0_5 a0_6 a0_7 a0_8)
set_option maxHeartbeats 8000000 in
set_option maxRecDepth 100000 in
theorem xform_own.calls (k : Nat) (a0_0 : Int) (a0_1 : Int) (a0_2 : Int) (a0_3 : Int) (a0_4 : ByteArray) (A0_5 : Option Addr) (c0_5 : Nat) (l0_5 : List (S94)) (a0_6 : Int) (a0_7 : Int) (a0_8 : Bool) (r : Int) (w : World) (hr0_5 : Kd.C k94 w A0_5 l0_5.length l0_5) (hc0_5 : l0_5.length ≤ c0_5) (hG : GW w) (h : xform_own.f k a0_0 a0_1 a0_2 a0_3 a0_4 l0_5 a0_6 a0_7 a0_8 = some r) :
 Calls Tryd.prog 52 #[.agg #[.int .i64 a0_0, .int .i64 a0_1, .int .i64 a0_2, .int .i64 a0_3, .string a0_4, .slice A0_5 l0_5.length c0_5, .int .i64 a0_6, .int .i64 a0_7, .bool a0_8]] w fun e w' => e = .returned (.int .i64 r) ∧ Below w.heap.size w w' := by
 have hu41 := Tryd.underlying41
 have HR0_5 := Aside0.mk hr0_5
 have HC0_5 := Aside0.mk hc0_5
 clear hr0_5 hc0_5
 have HB := Aside0.mk (Below.refl w.heap.size w)
 have H : (if a0_2 = 1 then (if a0_3 ≥ 0 then (xform_own.j0 k (decide (a0_3 ≤ 1048576)) a0_0 a0_1 a0_2 a0_3 a0_4 l0_5 a0_6 a0_7 a0_8) else (xform_own.j0 k false a0_0 a0_1 a0_2 a0_3 a0_4 l0_5 a0_6 a0_7 a0_8)) else (xform_own.j0 k false a0_0 a0_1 a0_2 a0_3 a0_4 l0_5 a0_6 a0_7 a0_8)) = some r := h
 clear h
 have HC2 := Aside0.mk H
 clear H
 go_enter Tryd.func52, Tryd.ntmps52
 go_upto_region 1 with (((with_reducible refine gate_dst (N := 1) rfl ?_); refine bxE_ 1 41 #[.int .i64 a0_0, .int .i64 a0_1, .int .i64 a0_2, .int .i64 a0_3, .string a0_4, .slice A0_5 l0_5.length c0_5, .int .i64 a0_6, .int .i64 a0_7, .bool a0_8] ?_; intro gb119 hg w3 hbox hb; have BK119 := Aside0.mk (hbox); have GW119 := gee_ hg HB; have GE119 := gee_ hg HB; replace HB := belB_ HB hb; clear hb hbox hg))
 (try simp only [Act.put, List.setIfInBounds_toArray, List.set_cons_zero, List.set_cons_succ])
 go_cut [16] (fun v16 wc => ∃ (kq : Nat) (x16_1 : Bool), v16 = .bool x16_1 ∧ Aside0 (xform_own.j0 kq x16_1 a0_0 a0_1 a0_2 a0_3 a0_4 l0_5 a0_6 a0_7 a0_8 = some r) ∧ Aside0 (kq ≤ k) ∧ Aside0 (wc.heap[gb119]? = some (.cells #[.int .i64 a0_0, .int .i64 a0_1, .int .i64 a0_2, .int .i64 a0_3, .string a0_4, (.slice A0_5 l0_5.length c0_5), .int .i64 a0_6, .int .i64 a0_7, .bool a0_8] 41 (0, 0))) ∧ Aside0 (Below w.heap.size w wc))
 case first =>
  have H := HC2.out
  clear HC2
  by_cases c4 : a0_2 = 1
  ·rw [if_pos c4] at H
   have c4b0 := beq_iff_eq.mpr c4
   have c4b1 := bne_eq_false_iff_eq.mpr c4
   clear c4
   (first | rw [c4b0] | (simp only [i64_w, i32_w]; rw [c4b0]) | rw [c4b1] | skip)
   by_cases c5 : a0_3 ≥ 0
   ·rw [if_pos c5] at H
    have c5b0 : decide (0 ≤ a0_3) = true := decide_eq_true c5
    clear c5
    have H' := Aside0.mk H
    clear H
    have hz_ := blk9_ BK119.out
    go_wp2
    go_meet
    case rel => exact ⟨_, (decide (a0_3 ≤ 1048576)), ok_, H', ⟨lo_⟩, ⟨blkW_ BK119⟩, ⟨belW_ HB⟩⟩
   ·rw [if_neg c5] at H
    have c5b0 : decide (0 ≤ a0_3) = false := decide_eq_false c5
    clear c5
    have H' := Aside0.mk H
    clear H
    obtain ⟨hcz7_0, hcz7_1, hcz7_2, hcz7_3, hcz7_4, hcz7_5, hcz7_6, hcz7_7, hcz7_8, hfz7_0, hfz7_1, hfz7_2, hfz7_3, hfz7_4, hfz7_5, hfz7_6, hfz7_7, hfz7_8⟩ := blk9_ BK119.out
    go_wp2
    go_meet
    case rel => exact ⟨_, (false), ok_, H', ⟨lo_⟩, ⟨blkW_ BK119⟩, ⟨belW_ HB⟩⟩
  ·rw [if_neg c4] at H
   have c4b0 := beq_eq_false_iff_ne.mpr c4
   have c4b1 := bne_iff_ne.mpr c4
   (first | rw [c4b0] | (simp only [i64_w, i32_w]; rw [c4b0]) | rw [c4b1] | skip)
   have H' := Aside0.mk H
   clear H
   have hz_ := blk9_ BK119.out
   go_wp2
   go_meet
   case rel => exact ⟨_, (false), ok_, H', ⟨lo_⟩, ⟨blkW_ BK119⟩, ⟨belW_ HB⟩⟩
 case rest =>
  clear HC2
  obtain ⟨kq, x16_1, rfl, HA, HJ1, BK119, HB⟩ := hcut
  cases kq with
  | zero => exact absurd HA.out (by simp [xform_own.j0])
  | succ kj1 =>
   have H := HA.out
   clear HA
   simp only [xform_own.j0] at H
   by_cases c9 : x16_1 = true
   ·subst c9
    have H1 := H; rw [if_pos rfl] at H1
    clear H
    have H := H1
    clear H1
    replace H := Option.bind_eq_some_iff.mp H
    obtain ⟨t120, A100, H⟩ := H
    try dsimp only at H
    have A10 := Aside0.mk A100
    clear A100
    obtain rfl := Option.some.inj H
    have hz_ := blk9_ BK119.out
    go_wp2_with (((with_reducible refine gate_callee (f := 69) rfl ?_); refine goS_ 20 rfl Tryd.func69 #[.agg #[.int .i64 a0_0, .int .i64 a0_1, .int .i64 a0_2, .int .i64 a0_3, .string a0_4, .slice A0_5 l0_5.length c0_5, .int .i64 a0_6, .int .i64 a0_7, .bool a0_8], .int .i64 a0_3] ?_; (with_reducible refine (op_Check.calls kj1 a0_0 a0_1 a0_2 a0_3 a0_4 _ _ l0_5 a0_6 a0_7 a0_8 a0_3 t120 _ ?side1 ?side2 ?side3 A10.out).mono ?_); (case side1 => exact CW_ ((Kd.C_below HR0_5.out HB.out))); (case side2 => exact HC0_5.out); (case side3 => exact GW.below hG (belW_ HB)); rintro e w12 ⟨rfl, hb⟩; refine ⟨_, rfl, ?_⟩; replace BK119 := blkB_ BK119 hb; replace HB := belB_ HB hb; try clear hb))
    go_ret
    exact ⟨rs_, belW_ HB⟩
   ·replace c9 := Bool.eq_false_iff.mpr c9
    subst c9
    have H1 := H; rw [if_neg (show ¬ (false = true) by decide)] at H1
    clear H
    have H := H1
    clear H1
    replace H := Option.bind_eq_some_iff.mp H
    obtain ⟨t121, A130, H⟩ := H
    try dsimp only at H
    have A13 := Aside0.mk A130
    clear A130
    obtain rfl := Option.some.inj H
    have hz_ := blk9_ BK119.out
    go_wp2_with (((with_reducible refine gate_callee (f := 69) rfl ?_); refine goS_ 22 rfl Tryd.func69 #[.agg #[.int .i64 a0_0, .int .i64 a0_1, .int .i64 a0_2, .int .i64 a0_3, .string a0_4, .slice A0_5 l0_5.length c0_5, .int .i64 a0_6, .int .i64 a0_7, .bool a0_8], .int .i64 1048576] ?_; (with_reducible refine (op_Check.calls kj1 a0_0 a0_1 a0_2 a0_3 a0_4 _ _ l0_5 a0_6 a0_7 a0_8 1048576 t121 _ ?side1 ?side2 ?side3 A13.out).mono ?_); (case side1 => exact CW_ ((Kd.C_below HR0_5.out HB.out))); (case side2 => exact HC0_5.out); (case side3 => exact GW.below hG (belW_ HB)); rintro e w15 ⟨rfl, hb⟩; refine ⟨_, rfl, ?_⟩; replace BK119 := blkB_ BK119 hb; replace HB := belB_ HB hb; try clear hb))
    go_ret
    exact ⟨rs_, belW_ HB⟩

def op_Width.f (a0_0 : Int) (a0_1 : Int) (a0_2 : Int) (a0_3 : Int) (a0_4 : ByteArray) (l0_5 : List (S94)) (a0_6 : Int) (a0_7 : Int) (a0_8 : Bool) : Option (Int) := if a0_2 = 1 then ((utext_Check.f a0_4).bind fun bt126 => (some bt126.1)) else (some 0)
set_option maxHeartbeats 8000000 in
set_option maxRecDepth 100000 in
theorem op_Width.calls (a0_0 : Int) (a0_1 : Int) (a0_2 : Int) (a0_3 : Int) (a0_4 : ByteArray) (A0_5 : Option Addr) (c0_5 : Nat) (l0_5 : List (S94)) (a0_6 : Int) (a0_7 : Int) (a0_8 : Bool) (r : Int) (w : World) (hr0_5 : Kd.C k94 w A0_5 l0_5.length l0_5) (hc0_5 : l0_5.length ≤ c0_5) (hG : GW w) (h : op_Width.f a0_0 a0_1 a0_2 a0_3 a0_4 l0_5 a0_6 a0_7 a0_8 = some r) :
 Calls Tryd.prog 53 #[.agg #[.int .i64 a0_0, .int .i64 a0_1, .int .i64 a0_2, .int .i64 a0_3, .string a0_4, .slice A0_5 l0_5.length c0_5, .int .i64 a0_6, .int .i64 a0_7, .bool a0_8]] w fun e w' => e = .returned (.int .i64 r) ∧ Below w.heap.size w w' := by
 have hu41 := Tryd.underlying41
 have HR0_5 := Aside0.mk hr0_5
 have HC0_5 := Aside0.mk hc0_5
 clear hr0_5 hc0_5
 have HB := Aside0.mk (Below.refl w.heap.size w)
 have H : (if a0_2 = 1 then ((utext_Check.f a0_4).bind fun bt126 => (some bt126.1)) else (some 0)) = some r := h
 clear h
 by_cases c2 : a0_2 = 1
 ·rw [if_pos c2] at H
  have c2b0 := beq_iff_eq.mpr c2
  have c2b1 := bne_eq_false_iff_eq.mpr c2
  clear c2
  replace H := Option.bind_eq_some_iff.mp H
  obtain ⟨⟨t126, t127, t128⟩, A30, H⟩ := H
  try dsimp only at H
  have A3 := Aside0.mk A30
  clear A30
  obtain rfl := Option.some.inj H
  go_enter Tryd.func53, Tryd.ntmps53
  go_wp2_with (first | ((with_reducible refine gate_dst (N := 1) rfl ?_); refine bxE_ 1 41 #[.int .i64 a0_0, .int .i64 a0_1, .int .i64 a0_2, .int .i64 a0_3, .string a0_4, .slice A0_5 l0_5.length c0_5, .int .i64 a0_6, .int .i64 a0_7, .bool a0_8] ?_; intro gb125 hg w4 hbox hb; have BK125 := Aside0.mk (hbox); have GW125 := gee_ hg HB; have GE125 := gee_ hg HB; replace HB := belB_ HB hb; clear hb hbox hg; have hz_ := blk9_ BK125.out) | ((with_reducible refine gate_callee (f := 70) rfl ?_); refine goS_ 13 rfl Tryd.func70 #[.string a0_4] ?_; (with_reducible refine (utext_Check.calls a0_4 t126 t127 t128 _ ?side1 A3.out).mono ?_); (case side1 => exact GW.below hG (belW_ HB)); rintro e w6 ⟨rfl, hb⟩; refine ⟨_, rfl, ?_⟩; replace BK125 := blkB_ BK125 hb; replace HB := belB_ HB hb; try clear hb))
  go_ret
  exact ⟨rs_, belW_ HB⟩
 ·rw [if_neg c2] at H
  have c2b0 := beq_eq_false_iff_ne.mpr c2
  have c2b1 := bne_iff_ne.mpr c2
  obtain rfl := Option.some.inj H
  go_enter Tryd.func53, Tryd.ntmps53
  go_wp2_with (((with_reducible refine gate_dst (N := 1) rfl ?_); refine bxE_ 1 41 #[.int .i64 a0_0, .int .i64 a0_1, .int .i64 a0_2, .int .i64 a0_3, .string a0_4, .slice A0_5 l0_5.length c0_5, .int .i64 a0_6, .int .i64 a0_7, .bool a0_8] ?_; intro gb125 hg w7 hbox hb; have BK125 := Aside0.mk (hbox); have GW125 := gee_ hg HB; have GE125 := gee_ hg HB; replace HB := belB_ HB hb; clear hb hbox hg; have hz_ := blk9_ BK125.out))
  go_ret
  exact ⟨rs_, belW_ HB⟩

mutual
def xform_Caret.j0 : Nat → Int → Bool → Int → Int → Int → Int → ByteArray → List (S94) → Int → Int → Bool → Option (Int × Int)
 | 0, _, _, _, _, _, _, _, _, _, _, _ => none
 | k + 1, x0, x17, x130000, x130001, x130002, x130003, x130004, x130005, x130006, x130007, x130008 => if x17 = true then (some (0, 12)) else (if x130002 = 1 then (xform_Caret.j1 k x0 (decide (x130003 ≥ x0)) x130000 x130001 x130002 x130003 x130004 x130005 x130006 x130007 x130008) else (xform_Caret.j1 k x0 true x130000 x130001 x130002 x130003 x130004 x130005 x130006 x130007 x130008))
def xform_Caret.j1 : Nat → Int → Bool → Int → Int → Int → Int → ByteArray → List (S94) → Int → Int → Bool → Option (Int × Int)
 | 0, _, _, _, _, _, _, _, _, _, _, _ => none
 | k + 1, x0, x27, x130000, x130001, x130002, x130003, x130004, x130005, x130006, x130007, x130008 => if x27 = true then (some (x0, 0)) else ((op_Width.f x130000 x130001 x130002 x130003 x130004 x130005 x130006 x130007 x130008).bind fun t131 => (if (wrap64 (x0 + t131)) > 1048576 then (some (0, 24)) else ((op_Width.f x130000 x130001 x130002 x130003 x130004 x130005 x130006 x130007 x130008).bind fun t132 => (some (wrap64 (x0 + t132), 0)))))
end
def xform_Caret.f (k : Nat) (a0 : Int) (a1_0 : Int) (a1_1 : Int) (a1_2 : Int) (a1_3 : Int) (a1_4 : ByteArray) (l1_5 : List (S94)) (a1_6 : Int) (a1_7 : Int) (a1_8 : Bool) : Option (Int × Int) := (xform_own.f k a1_0 a1_1 a1_2 a1_3 a1_4 l1_5 a1_6 a1_7 a1_8).bind fun t130 => (if t130 = 0 then (if a0 < 0 then (xform_Caret.j0 k a0 true a1_0 a1_1 a1_2 a1_3 a1_4 l1_5 a1_6 a1_7 a1_8) else (xform_Caret.j0 k a0 (decide (a0 > 1048576)) a1_0 a1_1 a1_2 a1_3 a1_4 l1_5 a1_6 a1_7 a1_8)) else (some (0, t130)))
set_option maxHeartbeats 8000000 in
set_option maxRecDepth 100000 in
theorem xform_Caret.calls (k : Nat) (a0 : Int) (a1_0 : Int) (a1_1 : Int) (a1_2 : Int) (a1_3 : Int) (a1_4 : ByteArray) (A1_5 : Option Addr) (c1_5 : Nat) (l1_5 : List (S94)) (a1_6 : Int) (a1_7 : Int) (a1_8 : Bool) (r1 : Int) (r2 : Int) (w : World) (hr1_5 : Kd.C k94 w A1_5 l1_5.length l1_5) (hc1_5 : l1_5.length ≤ c1_5) (hG : GW w) (h : xform_Caret.f k a0 a1_0 a1_1 a1_2 a1_3 a1_4 l1_5 a1_6 a1_7 a1_8 = some (r1, r2)) :
 Calls Tryd.prog 21 #[.int .i64 a0, .agg #[.int .i64 a1_0, .int .i64 a1_1, .int .i64 a1_2, .int .i64 a1_3, .string a1_4, .slice A1_5 l1_5.length c1_5, .int .i64 a1_6, .int .i64 a1_7, .bool a1_8]] w fun e w' => e = .returned (.tuple #[.int .i64 r1, .int .i64 r2]) ∧ Below w.heap.size w w' := by
 have hu41 := Tryd.underlying41
 have HR1_5 := Aside0.mk hr1_5
 have HC1_5 := Aside0.mk hc1_5
 clear hr1_5 hc1_5
 have HB := Aside0.mk (Below.refl w.heap.size w)
 have H : ((xform_own.f k a1_0 a1_1 a1_2 a1_3 a1_4 l1_5 a1_6 a1_7 a1_8).bind fun t130 => (if t130 = 0 then (if a0 < 0 then (xform_Caret.j0 k a0 true a1_0 a1_1 a1_2 a1_3 a1_4 l1_5 a1_6 a1_7 a1_8) else (xform_Caret.j0 k a0 (decide (a0 > 1048576)) a1_0 a1_1 a1_2 a1_3 a1_4 l1_5 a1_6 a1_7 a1_8)) else (some (0, t130)))) = some (r1, r2) := h
 clear h
 replace H := Option.bind_eq_some_iff.mp H
 obtain ⟨t130, A30, H⟩ := H
 try dsimp only at H
 have A3 := Aside0.mk A30
 clear A30
 by_cases c4 : t130 = 0
 ·rw [if_pos c4] at H
  have c4b0 := beq_iff_eq.mpr c4
  have c4b1 := bne_eq_false_iff_eq.mpr c4
  clear c4
  have HC5 := Aside0.mk H
  clear H
  go_enter Tryd.func21, Tryd.ntmps21
  go_upto_region 4 with (first | ((with_reducible refine gate_dst (N := 3) rfl ?_); refine bxE_ 3 41 #[.int .i64 a1_0, .int .i64 a1_1, .int .i64 a1_2, .int .i64 a1_3, .string a1_4, .slice A1_5 l1_5.length c1_5, .int .i64 a1_6, .int .i64 a1_7, .bool a1_8] ?_; intro gb129 hg w6 hbox hb; have BK129 := Aside0.mk (hbox); have GW129 := gee_ hg HB; have GE129 := gee_ hg HB; replace HB := belB_ HB hb; clear hb hbox hg; obtain ⟨hcz7_0, hcz7_1, hcz7_2, hcz7_3, hcz7_4, hcz7_5, hcz7_6, hcz7_7, hcz7_8, hfz7_0, hfz7_1, hfz7_2, hfz7_3, hfz7_4, hfz7_5, hfz7_6, hfz7_7, hfz7_8⟩ := blk9_ BK129.out) | ((with_reducible refine gate_callee (f := 52) rfl ?_); refine goS_ 8 rfl Tryd.func52 #[.agg #[.int .i64 a1_0, .int .i64 a1_1, .int .i64 a1_2, .int .i64 a1_3, .string a1_4, .slice A1_5 l1_5.length c1_5, .int .i64 a1_6, .int .i64 a1_7, .bool a1_8]] ?_; (with_reducible refine (xform_own.calls k a1_0 a1_1 a1_2 a1_3 a1_4 _ _ l1_5 a1_6 a1_7 a1_8 t130 _ ?side1 ?side2 ?side3 A3.out).mono ?_); (case side1 => exact CW_ ((Kd.C_below HR1_5.out HB.out))); (case side2 => exact HC1_5.out); (case side3 => exact GW.below hG (belW_ HB)); rintro e w8 ⟨rfl, hb⟩; refine ⟨_, rfl, ?_⟩; replace BK129 := blkB_ BK129 hb; replace HB := belB_ HB hb; try clear hb))
  (try simp only [Act.put, List.setIfInBounds_toArray, List.set_cons_zero, List.set_cons_succ])
  go_cut [17] (fun v17 wc => ∃ (kq : Nat) (x17_4 : Bool), v17 = .bool x17_4 ∧ Aside0 (xform_Caret.j0 kq a0 x17_4 a1_0 a1_1 a1_2 a1_3 a1_4 l1_5 a1_6 a1_7 a1_8 = some (r1, r2)) ∧ Aside0 (kq ≤ k) ∧ Aside0 (wc.heap[gb129]? = some (.cells #[.int .i64 a1_0, .int .i64 a1_1, .int .i64 a1_2, .int .i64 a1_3, .string a1_4, (.slice A1_5 l1_5.length c1_5), .int .i64 a1_6, .int .i64 a1_7, .bool a1_8] 41 (0, 0))) ∧ Aside0 (Below w.heap.size w wc))
  case first =>
   have H := HC5.out
   clear HC5
   by_cases c9 : a0 < 0
   ·rw [if_pos c9] at H
    have c9b0 := decide_eq_true c9
    clear c9
    (first | rw [c9b0] | (simp only [i64_w, i32_w]; rw [c9b0]) | rw [c9b1] | skip)
    have H' := Aside0.mk H
    clear H
    go_wp2
    go_meet
    case rel => exact ⟨_, (true), ok_, H', ⟨lo_⟩, ⟨blkW_ BK129⟩, ⟨belW_ HB⟩⟩
   ·rw [if_neg c9] at H
    have c9b0 := decide_eq_false c9
    clear c9
    (first | rw [c9b0] | (simp only [i64_w, i32_w]; rw [c9b0]) | rw [c9b1] | skip)
    have H' := Aside0.mk H
    clear H
    go_wp2
    go_meet
    case rel => exact ⟨_, (decide (a0 > 1048576)), ok_, H', ⟨lo_⟩, ⟨blkW_ BK129⟩, ⟨belW_ HB⟩⟩
  case rest =>
   clear HC5
   try clear c4
   try clear c4b0
   try clear c4b1
   try clear hcz7_0
   try clear hcz7_1
   try clear hcz7_2
   try clear hcz7_3
   try clear hcz7_4
   try clear hcz7_5
   try clear hcz7_6
   try clear hcz7_7
   try clear hcz7_8
   try clear hfz7_0
   try clear hfz7_1
   try clear hfz7_2
   try clear hfz7_3
   try clear hfz7_4
   try clear hfz7_5
   try clear hfz7_6
   try clear hfz7_7
   try clear hfz7_8
   obtain ⟨kq, x17_4, rfl, HA, HJ4, BK129, HB⟩ := hcut
   cases kq with
   | zero => exact absurd HA.out (by simp [xform_Caret.j0])
   | succ kj4 =>
    have H := HA.out
    clear HA
    simp only [xform_Caret.j0] at H
    by_cases c10 : x17_4 = true
    ·subst c10
     have H1 := H; rw [if_pos rfl] at H1
     clear H
     have H := H1
     clear H1
     simp only [Option.some.injEq, Prod.mk.injEq] at H
     obtain ⟨rfl, rfl⟩ := H
     go_wp2
     go_ret2
     exact ⟨rs_, belW_ HB⟩
    ·replace c10 := Bool.eq_false_iff.mpr c10
     subst c10
     have H1 := H; rw [if_neg (show ¬ (false = true) by decide)] at H1
     clear H
     have H := H1
     clear H1
     have HC11 := Aside0.mk H
     clear H
     go_upto_region 6 with (fail)
     go_cut [27] (fun v27 wc => ∃ (kq : Nat) (x27_10 : Bool), v27 = .bool x27_10 ∧ Aside0 (xform_Caret.j1 kq a0 x27_10 a1_0 a1_1 a1_2 a1_3 a1_4 l1_5 a1_6 a1_7 a1_8 = some (r1, r2)) ∧ Aside0 (kq ≤ kj4) ∧ Aside0 (wc.heap[gb129]? = some (.cells #[.int .i64 a1_0, .int .i64 a1_1, .int .i64 a1_2, .int .i64 a1_3, .string a1_4, (.slice A1_5 l1_5.length c1_5), .int .i64 a1_6, .int .i64 a1_7, .bool a1_8] 41 (0, 0))) ∧ Aside0 (Below w.heap.size w wc))
     case first =>
      have H := HC11.out
      clear HC11
      by_cases c12 : a1_2 = 1
      ·rw [if_pos c12] at H
       have c12b0 := beq_iff_eq.mpr c12
       have c12b1 := bne_eq_false_iff_eq.mpr c12
       clear c12
       (first | rw [c12b0] | (simp only [i64_w, i32_w]; rw [c12b0]) | rw [c12b1] | skip)
       have H' := Aside0.mk H
       clear H
       have hz_ := blk9_ BK129.out
       go_wp2
       go_meet
       case rel => exact ⟨_, (decide (a1_3 ≥ a0)), ok_, H', ⟨lk_ HJ4⟩, ⟨blkW_ BK129⟩, ⟨belW_ HB⟩⟩
      ·rw [if_neg c12] at H
       have c12b0 := beq_eq_false_iff_ne.mpr c12
       have c12b1 := bne_iff_ne.mpr c12
       (first | rw [c12b0] | (simp only [i64_w, i32_w]; rw [c12b0]) | rw [c12b1] | skip)
       have H' := Aside0.mk H
       clear H
       have hz_ := blk9_ BK129.out
       go_wp2
       go_meet
       case rel => exact ⟨_, (true), ok_, H', ⟨lk_ HJ4⟩, ⟨blkW_ BK129⟩, ⟨belW_ HB⟩⟩
     case rest =>
      clear HC11
      try clear c1
      try clear c2
      try clear p2
      try clear c4
      try clear c4b0
      try clear c4b1
      try clear c5
      try clear c9
      try clear c9b0
      try clear c9b1
      try clear c10
      try clear hcz7_0
      try clear hcz7_1
      try clear hcz7_2
      try clear hcz7_3
      try clear hcz7_4
      try clear hcz7_5
      try clear hcz7_6
      try clear hcz7_7
      try clear hcz7_8
      try clear hfz7_0
      try clear hfz7_1
      try clear hfz7_2
      try clear hfz7_3
      try clear hfz7_4
      try clear hfz7_5
      try clear hfz7_6
      try clear hfz7_7
      try clear hfz7_8
      try clear p2
      obtain ⟨kq, x27_10, rfl, HA, HJ10, BK129, HB⟩ := hcut
      cases kq with
      | zero => exact absurd HA.out (by simp [xform_Caret.j1])
      | succ kj10 =>
       have H := HA.out
       clear HA
       simp only [xform_Caret.j1] at H
       by_cases c15 : x27_10 = true
       ·subst c15
        have H1 := H; rw [if_pos rfl] at H1
        clear H
        have H := H1
        clear H1
        simp only [Option.some.injEq, Prod.mk.injEq] at H
        obtain ⟨rfl, rfl⟩ := H
        go_wp2
        go_ret2
        exact ⟨rs_, belW_ HB⟩
       ·replace c15 := Bool.eq_false_iff.mpr c15
        subst c15
        have H1 := H; rw [if_neg (show ¬ (false = true) by decide)] at H1
        clear H
        have H := H1
        clear H1
        replace H := Option.bind_eq_some_iff.mp H
        obtain ⟨t131, A160, H⟩ := H
        try dsimp only at H
        have A16 := Aside0.mk A160
        clear A160
        by_cases c17 : (wrap64 (a0 + t131)) > 1048576
        ·rw [if_pos c17] at H
         have c17b0 : decide (1048576 < (wrap64 (a0 + t131))) = true := decide_eq_true c17
         clear c17
         simp only [Option.some.injEq, Prod.mk.injEq] at H
         obtain ⟨rfl, rfl⟩ := H
         have hz_ := blk9_ BK129.out
         go_wp2_with (((with_reducible refine gate_callee (f := 53) rfl ?_); refine goS_ 31 rfl Tryd.func53 #[.agg #[.int .i64 a1_0, .int .i64 a1_1, .int .i64 a1_2, .int .i64 a1_3, .string a1_4, .slice A1_5 l1_5.length c1_5, .int .i64 a1_6, .int .i64 a1_7, .bool a1_8]] ?_; (with_reducible refine (op_Width.calls a1_0 a1_1 a1_2 a1_3 a1_4 _ _ l1_5 a1_6 a1_7 a1_8 t131 _ ?side1 ?side2 ?side3 A16.out).mono ?_); (case side1 => exact CW_ ((Kd.C_below HR1_5.out HB.out))); (case side2 => exact HC1_5.out); (case side3 => exact GW.below hG (belW_ HB)); rintro e w19 ⟨rfl, hb⟩; refine ⟨_, rfl, ?_⟩; replace BK129 := blkB_ BK129 hb; replace HB := belB_ HB hb; try clear hb))
         go_ret2
         exact ⟨rs_, belW_ HB⟩
        ·rw [if_neg c17] at H
         have c17b0 : decide (1048576 < (wrap64 (a0 + t131))) = false := decide_eq_false c17
         clear c17
         replace H := Option.bind_eq_some_iff.mp H
         obtain ⟨t132, A200, H⟩ := H
         try dsimp only at H
         have A20 := Aside0.mk A200
         clear A200
         simp only [Option.some.injEq, Prod.mk.injEq] at H
         obtain ⟨rfl, rfl⟩ := H
         have hz_ := blk9_ BK129.out
         go_wp2_with (first | ((with_reducible refine gate_callee (f := 53) rfl ?_); refine goS_ 31 rfl Tryd.func53 #[.agg #[.int .i64 a1_0, .int .i64 a1_1, .int .i64 a1_2, .int .i64 a1_3, .string a1_4, .slice A1_5 l1_5.length c1_5, .int .i64 a1_6, .int .i64 a1_7, .bool a1_8]] ?_; (with_reducible refine (op_Width.calls a1_0 a1_1 a1_2 a1_3 a1_4 _ _ l1_5 a1_6 a1_7 a1_8 t131 _ ?side1 ?side2 ?side3 A16.out).mono ?_); (case side1 => exact CW_ ((Kd.C_below HR1_5.out HB.out))); (case side2 => exact HC1_5.out); (case side3 => exact GW.below hG (belW_ HB)); rintro e w22 ⟨rfl, hb⟩; refine ⟨_, rfl, ?_⟩; replace BK129 := blkB_ BK129 hb; replace HB := belB_ HB hb; try clear hb; have hz_ := blk9_ BK129.out) | ((with_reducible refine gate_callee (f := 53) rfl ?_); refine goS_ 36 rfl Tryd.func53 #[.agg #[.int .i64 a1_0, .int .i64 a1_1, .int .i64 a1_2, .int .i64 a1_3, .string a1_4, .slice A1_5 l1_5.length c1_5, .int .i64 a1_6, .int .i64 a1_7, .bool a1_8]] ?_; (with_reducible refine (op_Width.calls a1_0 a1_1 a1_2 a1_3 a1_4 _ _ l1_5 a1_6 a1_7 a1_8 t132 _ ?side1 ?side2 ?side3 A20.out).mono ?_); (case side1 => exact CW_ ((Kd.C_below HR1_5.out HB.out))); (case side2 => exact HC1_5.out); (case side3 => exact GW.below hG (belW_ HB)); rintro e w24 ⟨rfl, hb⟩; refine ⟨_, rfl, ?_⟩; replace BK129 := blkB_ BK129 hb; replace HB := belB_ HB hb; try clear hb))
         go_ret2
         exact ⟨rs_, belW_ HB⟩
 ·rw [if_neg c4] at H
  have c4b0 := beq_eq_false_iff_ne.mpr c4
  have c4b1 := bne_iff_ne.mpr c4
  simp only [Option.some.injEq, Prod.mk.injEq] at H
  obtain ⟨rfl, rfl⟩ := H
  go_enter Tryd.func21, Tryd.ntmps21
  go_wp2_with (first | ((with_reducible refine gate_dst (N := 3) rfl ?_); refine bxE_ 3 41 #[.int .i64 a1_0, .int .i64 a1_1, .int .i64 a1_2, .int .i64 a1_3, .string a1_4, .slice A1_5 l1_5.length c1_5, .int .i64 a1_6, .int .i64 a1_7, .bool a1_8] ?_; intro gb129 hg w25 hbox hb; have BK129 := Aside0.mk (hbox); have GW129 := gee_ hg HB; have GE129 := gee_ hg HB; replace HB := belB_ HB hb; clear hb hbox hg; have hz_ := blk9_ BK129.out) | ((with_reducible refine gate_callee (f := 52) rfl ?_); refine goS_ 8 rfl Tryd.func52 #[.agg #[.int .i64 a1_0, .int .i64 a1_1, .int .i64 a1_2, .int .i64 a1_3, .string a1_4, .slice A1_5 l1_5.length c1_5, .int .i64 a1_6, .int .i64 a1_7, .bool a1_8]] ?_; (with_reducible refine (xform_own.calls k a1_0 a1_1 a1_2 a1_3 a1_4 _ _ l1_5 a1_6 a1_7 a1_8 t130 _ ?side1 ?side2 ?side3 A3.out).mono ?_); (case side1 => exact CW_ ((Kd.C_below HR1_5.out HB.out))); (case side2 => exact HC1_5.out); (case side3 => exact GW.below hG (belW_ HB)); rintro e w27 ⟨rfl, hb⟩; refine ⟨_, rfl, ?_⟩; replace BK129 := blkB_ BK129 hb; replace HB := belB_ HB hb; try clear hb))
  go_ret2
  exact ⟨rs_, belW_ HB⟩

end Go.Proofs.YtloccjkcmlkifaaDoor.PAll
