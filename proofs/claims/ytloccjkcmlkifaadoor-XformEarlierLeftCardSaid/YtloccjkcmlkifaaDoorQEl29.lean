/- XformEarlierLeft_card, part 29. -/
import Derived.Test.YtloccjkcmlkifaaDoorQEl19
import Derived.Test.YtloccjkcmlkifaaDoorQEl25
import Derived.Test.YtloccjkcmlkifaaDoorQEl28

namespace Go.Proofs.YtloccjkcmlkifaaDoor.PAll
open Go.RowKit Go.Proofs.YtloccjkcmlkifaaDoorW.PrintWords Go.Proofs.YtloccjkcmlkifaaDoorW.PrintLast Go.Proofs.YtloccjkcmlkifaaDoorW.PrintMore
attribute [local go_sem] max2_int min2_int max_two min_two max_three min_three max_four min_four   -- for this text's walks alone
set_option linter.unusedVariables false
set_option linter.unusedSimpArgs false

attribute [local go_sem high] idx34_0 idx34_1 idx35_0 idx35_1
attribute [local go_sem high] eqA35
def xform_own.j0 : Nat → Bool → Int → Int → Int → Int → ByteArray → List (S94) → Int → Int → Bool → Option (Int)
 | 0, _, _, _, _, _, _, _, _, _, _ => none
 | k + 1, x16, x120000, x120001, x120002, x120003, x120004, x120005, x120006, x120007, x120008 => if x16 = true then ((op_Check.f k x120000 x120001 x120002 x120003 x120004 x120005 x120006 x120007 x120008 x120003).bind fun t120 => (some t120)) else ((op_Check.f k x120000 x120001 x120002 x120003 x120004 x120005 x120006 x120007 x120008 1048576).bind fun t121 => (some t121))
def xform_own.f (k : Nat) (a0_0 : Int) (a0_1 : Int) (a0_2 : Int) (a0_3 : Int) (a0_4 : ByteArray) (l0_5 : List (S94)) (a0_6 : Int) (a0_7 : Int) (a0_8 : Bool) : Option (Int) := if a0_2 = 1 then (if a0_3 ≥ 0 then (xform_own.j0 k (decide (a0_3 ≤ 1048576)) a0_0 a0_1 a0_2 a0_3 a0_4 l0_5 a0_6 a0_7 a0_8) else (xform_own.j0 k false a0_0 a0_1 a0_2 a0_3 a0_4 l0_5 a0_6 a0_7 a0_8)) else (xform_own.j0 k false a0_0 a0_1 a0_2 a0_3 a0_4 l0_5 a0_6 a0_7 a0_8)
set_option maxHeartbeats 8000000 in
set_option maxRecDepth 100000 in
theorem xform_own.calls (k : Nat) (a0_0 : Int) (a0_1 : Int) (a0_2 : Int) (a0_3 : Int) (a0_4 : ByteArray) (A0_5 : Option Addr) (c0_5 : Nat) (l0_5 : List (S94)) (a0_6 : Int) (a0_7 : Int) (a0_8 : Bool) (r : Int) (w : World) (hr0_5 : Kd.C k94 w A0_5 l0_5.length l0_5) (hc0_5 : l0_5.length ≤ c0_5) (hG : GW w) (h : xform_own.f k a0_0 a0_1 a0_2 a0_3 a0_4 l0_5 a0_6 a0_7 a0_8 = some r) :
 Calls Tryd.prog 52 #[.agg #[.int .i64 a0_0, .int .i64 a0_1, .int .i64 a0_2, .int .i64 a0_3, .string a0_4, .slice A0_5 l0_5.length c0_5, .int .i64 a0_6, .int .i64 a0_7, .bool a0_8]] w fun e w' => e = .returned (.int .i64 r) ∧ Below w.heap.size w w' := by
 have hu41 := Tryd.underlying41
 have HR0_5 := Aside0.mk hr0_5
 have HC0_5 := Aside0.mk hc0_5
 clear hr0_5 hc0_5
 have HB := Aside0.mk (Below.refl w.heap.size w)
 have H : (if a0_2 = 1 then (if a0_3 ≥ 0 then (xform_own.j0 k (decide (a0_3 ≤ 1048576)) a0_0 a0_1 a0_2 a0_3 a0_4 l0_5 a0_6 a0_7 a0_8) else (xform_own.j0 k false a0_0 a0_1 a0_2 a0_3 a0_4 l0_5 a0_6 a0_7 a0_8)) else (xform_own.j0 k false a0_0 a0_1 a0_2 a0_3 a0_4 l0_5 a0_6 a0_7 a0_8)) = some r := h
 clear h
 have HC2 := Aside0.mk H
 clear H
 go_enter Tryd.func52, Tryd.ntmps52
 go_upto_region 1 with (((with_reducible refine gate_dst (N := 1) rfl ?_); refine bxE_ 1 41 #[.int .i64 a0_0, .int .i64 a0_1, .int .i64 a0_2, .int .i64 a0_3, .string a0_4, .slice A0_5 l0_5.length c0_5, .int .i64 a0_6, .int .i64 a0_7, .bool a0_8] ?_; intro gb119 hg w3 hbox hb; have BK119 := Aside0.mk (hbox); have GW119 := gee_ hg HB; have GE119 := gee_ hg HB; replace HB := belB_ HB hb; clear hb hbox hg))
 (try simp only [Act.put, List.setIfInBounds_toArray, List.set_cons_zero, List.set_cons_succ])
 go_cut [16] (fun v16 wc => ∃ (kq : Nat) (x16_1 : Bool), v16 = .bool x16_1 ∧ Aside0 (xform_own.j0 kq x16_1 a0_0 a0_1 a0_2 a0_3 a0_4 l0_5 a0_6 a0_7 a0_8 = some r) ∧ Aside0 (kq ≤ k) ∧ Aside0 (wc.heap[gb119]? = some (.cells #[.int .i64 a0_0, .int .i64 a0_1, .int .i64 a0_2, .int .i64 a0_3, .string a0_4, (.slice A0_5 l0_5.length c0_5), .int .i64 a0_6, .int .i64 a0_7, .bool a0_8] 41 (0, 0))) ∧ Aside0 (Below w.heap.size w wc))
 case first =>
  have H := HC2.out
  clear HC2
  by_cases c4 : a0_2 = 1
  ·rw [if_pos c4] at H
   have c4b0 := beq_iff_eq.mpr c4
   have c4b1 := bne_eq_false_iff_eq.mpr c4
   clear c4
   (first | rw [c4b0] | (simp only [i64_w, i32_w]; rw [c4b0]) | rw [c4b1] | skip)
   by_cases c5 : a0_3 ≥ 0
   ·rw [if_pos c5] at H
    have c5b0 : decide (0 ≤ a0_3) = true := decide_eq_true c5
    clear c5
    have H' := Aside0.mk H
    clear H
    have hz_ := blk9_ BK119.out
    go_wp2
    go_meet
    case rel => exact ⟨_, (decide (a0_3 ≤ 1048576)), ok_, H', ⟨lo_⟩, ⟨blkW_ BK119⟩, ⟨belW_ HB⟩⟩
   ·rw [if_neg c5] at H
    have c5b0 : decide (0 ≤ a0_3) = false := decide_eq_false c5
    clear c5
    have H' := Aside0.mk H
    clear H
    have hz_ := blk9_ BK119.out
    go_wp2
    go_meet
    case rel => exact ⟨_, (false), ok_, H', ⟨lo_⟩, ⟨blkW_ BK119⟩, ⟨belW_ HB⟩⟩
  ·rw [if_neg c4] at H
   have c4b0 := beq_eq_false_iff_ne.mpr c4
   have c4b1 := bne_iff_ne.mpr c4
   (first | rw [c4b0] | (simp only [i64_w, i32_w]; rw [c4b0]) | rw [c4b1] | skip)
   have H' := Aside0.mk H
   clear H
   have hz_ := blk9_ BK119.out
   go_wp2
   go_meet
   case rel => exact ⟨_, (false), ok_, H', ⟨lo_⟩, ⟨blkW_ BK119⟩, ⟨belW_ HB⟩⟩
 case rest =>
  clear HC2
  obtain ⟨kq, x16_1, rfl, HA, HJ1, BK119, HB⟩ := hcut
  cases kq with
  | zero => exact absurd HA.out (by simp [xform_own.j0])
  | succ kj1 =>
   have H := HA.out
   clear HA
   simp only [xform_own.j0] at H
   by_cases c9 : x16_1 = true
   ·subst c9
    have H1 := H; rw [if_pos rfl] at H1
    clear H
    have H := H1
    clear H1
    replace H := Option.bind_eq_some_iff.mp H
    obtain ⟨t120, A100, H⟩ := H
    try dsimp only at H
    have A10 := Aside0.mk A100
    clear A100
    obtain rfl := Option.some.inj H
    have hz_ := blk9_ BK119.out
    go_wp2_with (((with_reducible refine gate_callee (f := 69) rfl ?_); refine goS_ 20 rfl Tryd.func69 #[.agg #[.int .i64 a0_0, .int .i64 a0_1, .int .i64 a0_2, .int .i64 a0_3, .string a0_4, .slice A0_5 l0_5.length c0_5, .int .i64 a0_6, .int .i64 a0_7, .bool a0_8], .int .i64 a0_3] ?_; (with_reducible refine (op_Check.calls kj1 a0_0 a0_1 a0_2 a0_3 a0_4 _ _ l0_5 a0_6 a0_7 a0_8 a0_3 t120 _ ?side1 ?side2 ?side3 A10.out).mono ?_); (case side1 => exact CW_ ((Kd.C_below HR0_5.out HB.out))); (case side2 => exact HC0_5.out); (case side3 => exact GW.below hG (belW_ HB)); rintro e w12 ⟨rfl, hb⟩; refine ⟨_, rfl, ?_⟩; replace BK119 := blkB_ BK119 hb; replace HB := belB_ HB hb; try clear hb))
    go_ret
    exact ⟨rs_, belW_ HB⟩
   ·replace c9 := Bool.eq_false_iff.mpr c9
    subst c9
    have H1 := H; rw [if_neg (show ¬ (false = true) by decide)] at H1
    clear H
    have H := H1
    clear H1
    replace H := Option.bind_eq_some_iff.mp H
    obtain ⟨t121, A130, H⟩ := H
    try dsimp only at H
    have A13 := Aside0.mk A130
    clear A130
    obtain rfl := Option.some.inj H
    have hz_ := blk9_ BK119.out
    go_wp2_with (((with_reducible refine gate_callee (f := 69) rfl ?_); refine goS_ 22 rfl Tryd.func69 #[.agg #[.int .i64 a0_0, .int .i64 a0_1, .int .i64 a0_2, .int .i64 a0_3, .string a0_4, .slice A0_5 l0_5.length c0_5, .int .i64 a0_6, .int .i64 a0_7, .bool a0_8], .int .i64 1048576] ?_; (with_reducible refine (op_Check.calls kj1 a0_0 a0_1 a0_2 a0_3 a0_4 _ _ l0_5 a0_6 a0_7 a0_8 1048576 t121 _ ?side1 ?side2 ?side3 A13.out).mono ?_); (case side1 => exact CW_ ((Kd.C_below HR0_5.out HB.out))); (case side2 => exact HC0_5.out); (case side3 => exact GW.below hG (belW_ HB)); rintro e w15 ⟨rfl, hb⟩; refine ⟨_, rfl, ?_⟩; replace BK119 := blkB_ BK119 hb; replace HB := belB_ HB hb; try clear hb))
    go_ret
    exact ⟨rs_, belW_ HB⟩

def xform_owns.l0 : Nat → List (S41) → Int → Int → Option (Int)
 | 0, _, _, _ => none
 | k + 1, x6, x7, x8 => if x8 < x7 then (if 0 ≤ x8 then (if x8 < (x6.length : Int) then ((xform_own.f k ((rd_T41 x6 x8).f0.f0.f0) ((rd_T41 x6 x8).f0.f0.f1) ((rd_T41 x6 x8).f0.f1) ((rd_T41 x6 x8).f1) ((rd_T41 x6 x8).f2) ((rd_T41 x6 x8).f3) ((rd_T41 x6 x8).f4.f0) ((rd_T41 x6 x8).f4.f1) ((rd_T41 x6 x8).f5)).bind fun t124 => (if t124 = 0 then (xform_owns.l0 k x6 x7 (wrap64 (x8 + 1))) else (some t124))) else (none)) else (none)) else (some 0)
def xform_owns.f (k : Nat) (l0 : List (S41)) : Option (Int) := xform_owns.l0 k l0 (l0.length : Int) 0
set_option maxHeartbeats 8000000 in
set_option maxRecDepth 100000 in
theorem xform_owns.calls (k : Nat) (A0 : Option Addr) (c0 : Nat) (l0 : List (S41)) (r : Int) (w : World) (hr0 : Kd.C k41 w A0 l0.length l0) (hc0 : l0.length ≤ c0) (hG : GW w) (h : xform_owns.f k l0 = some r) :
 Calls Tryd.prog 55 #[.slice A0 l0.length c0] w fun e w' => e = .returned (.int .i64 r) ∧ Below w.heap.size w w' := by
 have hu41 := Tryd.underlying41
 have HR0 := Aside0.mk hr0
 have HC0 := Aside0.mk hc0
 clear hr0 hc0
 have HB := Aside0.mk (Below.refl w.heap.size w)
 have H : (xform_owns.l0 k l0 (l0.length : Int) 0) = some r := h
 clear h
 have H' := Aside0.mk H
 clear H
 go_enter Tryd.func55, Tryd.ntmps55
 go_wp2
 go_loopg [8] k (fun kq v8 w' => ∃ (x8_1 : Int), v8 = .int .i64 x8_1 ∧ Aside0 (xform_owns.l0 kq l0 (l0.length : Int) x8_1 = some r) ∧ Aside0 (kq ≤ k) ∧ Aside0 (Below w.heap.size w w'))
 case atStart => exact ⟨(0), ok_, H', ⟨Nat.le_refl _⟩, ⟨belW_ HB⟩⟩
 case round =>
  clear H'
  obtain ⟨x8_1, rfl, HA, HK1, HB⟩ := hrel
  cases gk with
  | zero => exact absurd HA.out (by simp [xform_owns.l0])
  | succ k1 =>
   have H := HA.out
   clear HA
   simp only [xform_owns.l0] at H
   by_cases c2 : x8_1 < (l0.length : Int)
   ·rw [if_pos c2] at H
    have c2b0 := decide_eq_true c2
    clear c2
    by_cases c3 : 0 ≤ x8_1
    ·rw [if_pos c3] at H
     have c3b0 := decide_eq_true c3
     clear c3
     by_cases c4 : x8_1 < (l0.length : Int)
     ·rw [if_pos c4] at H
      have c4b0 := decide_eq_true c4
      clear c4
      replace H := Option.bind_eq_some_iff.mp H
      obtain ⟨t124, A50, H⟩ := H
      try dsimp only at H
      have A5 := Aside0.mk A50
      clear A50
      by_cases c6 : t124 = 0
      ·rw [if_pos c6] at H
       have c6b0 := beq_iff_eq.mpr c6
       have c6b1 := bne_eq_false_iff_eq.mpr c6
       clear c6
       have H' := Aside0.mk H
       clear H
       have p122 := dz_ (x8_1 : Int)
       have q122 := dl_ x8_1 (l0.length : Int)
       obtain ⟨ad122, A122_5, c122_5, e122, hx122_0, hx122_1, hx122_2, hx122_3, hx122_4, hx122_5, hx122_6, hx122_7, hx122_8, hl122_5, hi122_5⟩ := at_T41 HR0.out x8_1 p122 q122
       cases e122
       replace hx122_0 := pw_cell_below HB.out hx122_0
       replace hx122_1 := pw_cell_below HB.out hx122_1
       replace hx122_2 := pw_cell_below HB.out hx122_2
       replace hx122_3 := pw_cell_below HB.out hx122_3
       replace hx122_4 := pw_cell_below HB.out hx122_4
       replace hx122_5 := pw_cell_below HB.out hx122_5
       replace hx122_6 := pw_cell_below HB.out hx122_6
       replace hx122_7 := pw_cell_below HB.out hx122_7
       replace hx122_8 := pw_cell_below HB.out hx122_8
       have HR122_5 := Aside0.mk hi122_5
       have HC122_5 := Aside0.mk hl122_5
       clear hi122_5 hl122_5
       replace p122 := eq_true p122
       replace q122 := eq_true q122
       go_wp2_with (first | ((with_reducible refine gate_dst (N := 4) rfl ?_); refine bxE_ 4 41 #[.int .i64 0, .int .i64 0, .int .i64 0, .int .i64 0, .string (⟨#[]⟩ : ByteArray), .slice none 0 0, .int .i64 0, .int .i64 0, .bool false] ?_; intro gb123 hg w7 hbox hb; have BK123 := Aside0.mk (hbox); have GW123 := gee_ hg HB; have GE123 := gee_ hg HB; replace HB := belB_ HB hb; clear hb hbox hg; have hz_ := blk9_ BK123.out) | ((with_reducible refine gate_store (t := 41) (p := 4) rfl ?_); refine store_event (t := 41) (p := 4) (v := ?vo_w9) (w1 := (((((((((w7.setCell ⟨gb123, 0, none⟩ (.int .i64 ((rd_T41 l0 x8_1).f0.f0.f0))).setCell ⟨gb123, 1, none⟩ (.int .i64 ((rd_T41 l0 x8_1).f0.f0.f1))).setCell ⟨gb123, 2, none⟩ (.int .i64 ((rd_T41 l0 x8_1).f0.f1))).setCell ⟨gb123, 3, none⟩ (.int .i64 ((rd_T41 l0 x8_1).f1))).setCell ⟨gb123, 4, none⟩ (.string ((rd_T41 l0 x8_1).f2))).setCell ⟨gb123, 5, none⟩ (.slice A122_5 ((rd_T41 l0 x8_1).f3).length c122_5)).setCell ⟨gb123, 6, none⟩ (.int .i64 ((rd_T41 l0 x8_1).f4.f0))).setCell ⟨gb123, 7, none⟩ (.int .i64 ((rd_T41 l0 x8_1).f4.f1))).setCell ⟨gb123, 8, none⟩ (.bool ((rd_T41 l0 x8_1).f5)))) ?hg ?ho ?hn ?hr ?_; (case ho => rfl); (case hg => rfl); (case hn => rfl); (case hr => first | (go_simp; done) | (go_simp; rfl)); intro w9 hw; have n0_ : Aside0 (w9.heap[gb123]? = some (.cells #[.int .i64 ((rd_T41 l0 x8_1).f0.f0.f0), .int .i64 ((rd_T41 l0 x8_1).f0.f0.f1), .int .i64 ((rd_T41 l0 x8_1).f0.f1), .int .i64 ((rd_T41 l0 x8_1).f1), .string ((rd_T41 l0 x8_1).f2), .slice A122_5 ((rd_T41 l0 x8_1).f3).length c122_5, .int .i64 ((rd_T41 l0 x8_1).f4.f0), .int .i64 ((rd_T41 l0 x8_1).f4.f1), .bool ((rd_T41 l0 x8_1).f5)] 41 (0, 0))) := ⟨(by rw [hw]; exact (by (with_reducible repeat (first | refine blk_drewN ?_ _ | refine blk_drew ?_ | refine blk_alloc ?_ _)); refine blk_put (cs := #[.int .i64 ((rd_T41 l0 x8_1).f0.f0.f0), .int .i64 ((rd_T41 l0 x8_1).f0.f0.f1), .int .i64 ((rd_T41 l0 x8_1).f0.f1), .int .i64 ((rd_T41 l0 x8_1).f1), .string ((rd_T41 l0 x8_1).f2), .slice A122_5 ((rd_T41 l0 x8_1).f3).length c122_5, .int .i64 ((rd_T41 l0 x8_1).f4.f0), .int .i64 ((rd_T41 l0 x8_1).f4.f1), .bool false]) ?_ 8 _ rfl; (with_reducible repeat (first | refine blk_drewN ?_ _ | refine blk_drew ?_ | refine blk_alloc ?_ _)); refine blk_put (cs := #[.int .i64 ((rd_T41 l0 x8_1).f0.f0.f0), .int .i64 ((rd_T41 l0 x8_1).f0.f0.f1), .int .i64 ((rd_T41 l0 x8_1).f0.f1), .int .i64 ((rd_T41 l0 x8_1).f1), .string ((rd_T41 l0 x8_1).f2), .slice A122_5 ((rd_T41 l0 x8_1).f3).length c122_5, .int .i64 ((rd_T41 l0 x8_1).f4.f0), .int .i64 0, .bool false]) ?_ 7 _ rfl; (with_reducible repeat (first | refine blk_drewN ?_ _ | refine blk_drew ?_ | refine blk_alloc ?_ _)); refine blk_put (cs := #[.int .i64 ((rd_T41 l0 x8_1).f0.f0.f0), .int .i64 ((rd_T41 l0 x8_1).f0.f0.f1), .int .i64 ((rd_T41 l0 x8_1).f0.f1), .int .i64 ((rd_T41 l0 x8_1).f1), .string ((rd_T41 l0 x8_1).f2), .slice A122_5 ((rd_T41 l0 x8_1).f3).length c122_5, .int .i64 0, .int .i64 0, .bool false]) ?_ 6 _ rfl; (with_reducible repeat (first | refine blk_drewN ?_ _ | refine blk_drew ?_ | refine blk_alloc ?_ _)); refine blk_put (cs := #[.int .i64 ((rd_T41 l0 x8_1).f0.f0.f0), .int .i64 ((rd_T41 l0 x8_1).f0.f0.f1), .int .i64 ((rd_T41 l0 x8_1).f0.f1), .int .i64 ((rd_T41 l0 x8_1).f1), .string ((rd_T41 l0 x8_1).f2), .slice none 0 0, .int .i64 0, .int .i64 0, .bool false]) ?_ 5 _ rfl; (with_reducible repeat (first | refine blk_drewN ?_ _ | refine blk_drew ?_ | refine blk_alloc ?_ _)); refine blk_put (cs := #[.int .i64 ((rd_T41 l0 x8_1).f0.f0.f0), .int .i64 ((rd_T41 l0 x8_1).f0.f0.f1), .int .i64 ((rd_T41 l0 x8_1).f0.f1), .int .i64 ((rd_T41 l0 x8_1).f1), .string (⟨#[]⟩ : ByteArray), .slice none 0 0, .int .i64 0, .int .i64 0, .bool false]) ?_ 4 _ rfl; (with_reducible repeat (first | refine blk_drewN ?_ _ | refine blk_drew ?_ | refine blk_alloc ?_ _)); refine blk_put (cs := #[.int .i64 ((rd_T41 l0 x8_1).f0.f0.f0), .int .i64 ((rd_T41 l0 x8_1).f0.f0.f1), .int .i64 ((rd_T41 l0 x8_1).f0.f1), .int .i64 0, .string (⟨#[]⟩ : ByteArray), .slice none 0 0, .int .i64 0, .int .i64 0, .bool false]) ?_ 3 _ rfl; (with_reducible repeat (first | refine blk_drewN ?_ _ | refine blk_drew ?_ | refine blk_alloc ?_ _)); refine blk_put (cs := #[.int .i64 ((rd_T41 l0 x8_1).f0.f0.f0), .int .i64 ((rd_T41 l0 x8_1).f0.f0.f1), .int .i64 0, .int .i64 0, .string (⟨#[]⟩ : ByteArray), .slice none 0 0, .int .i64 0, .int .i64 0, .bool false]) ?_ 2 _ rfl; (with_reducible repeat (first | refine blk_drewN ?_ _ | refine blk_drew ?_ | refine blk_alloc ?_ _)); refine blk_put (cs := #[.int .i64 ((rd_T41 l0 x8_1).f0.f0.f0), .int .i64 0, .int .i64 0, .int .i64 0, .string (⟨#[]⟩ : ByteArray), .slice none 0 0, .int .i64 0, .int .i64 0, .bool false]) ?_ 1 _ rfl; (with_reducible repeat (first | refine blk_drewN ?_ _ | refine blk_drew ?_ | refine blk_alloc ?_ _)); refine blk_put (cs := #[.int .i64 0, .int .i64 0, .int .i64 0, .int .i64 0, .string (⟨#[]⟩ : ByteArray), .slice none 0 0, .int .i64 0, .int .i64 0, .bool false]) ?_ 0 _ rfl; (with_reducible repeat (first | refine blk_drewN ?_ _ | refine blk_drew ?_ | refine blk_alloc ?_ _)); exact BK123.out))⟩; have n1_ : Aside0 (Below w.heap.size w w9) := ⟨(by rw [hw]; exact (belW_ HB))⟩; clear hw; clear BK123; clear HB; have BK123 := n0_; have HB := n1_; clear n0_ n1_; have hz_ := blk9_ BK123.out) | ((with_reducible refine gate_callee (f := 52) rfl ?_); refine goS_ 13 rfl Tryd.func52 #[.agg #[.int .i64 ((rd_T41 l0 x8_1).f0.f0.f0), .int .i64 ((rd_T41 l0 x8_1).f0.f0.f1), .int .i64 ((rd_T41 l0 x8_1).f0.f1), .int .i64 ((rd_T41 l0 x8_1).f1), .string ((rd_T41 l0 x8_1).f2), .slice A122_5 ((rd_T41 l0 x8_1).f3).length c122_5, .int .i64 ((rd_T41 l0 x8_1).f4.f0), .int .i64 ((rd_T41 l0 x8_1).f4.f1), .bool ((rd_T41 l0 x8_1).f5)]] ?_; (with_reducible refine (xform_own.calls k1 ((rd_T41 l0 x8_1).f0.f0.f0) ((rd_T41 l0 x8_1).f0.f0.f1) ((rd_T41 l0 x8_1).f0.f1) ((rd_T41 l0 x8_1).f1) ((rd_T41 l0 x8_1).f2) _ _ ((rd_T41 l0 x8_1).f3) ((rd_T41 l0 x8_1).f4.f0) ((rd_T41 l0 x8_1).f4.f1) ((rd_T41 l0 x8_1).f5) t124 _ ?side1 ?side2 ?side3 A5.out).mono ?_); (case side1 => exact CW_ ((Kd.C_below HR122_5.out HB.out))); (case side2 => exact HC122_5.out); (case side3 => exact GW.below hG (belW_ HB)); rintro e w11 ⟨rfl, hb⟩; refine ⟨_, rfl, ?_⟩; replace BK123 := blkB_ BK123 hb; replace HB := belB_ HB hb; try clear hb))
       go_roundg k1
       case measure => have := HK1.out; omega
       case rel => exact ⟨(wrap64 (x8_1 + 1)), ok_, H', ⟨lk_ HK1⟩, ⟨belW_ HB⟩⟩
      ·rw [if_neg c6] at H
       have c6b0 := beq_eq_false_iff_ne.mpr c6
       have c6b1 := bne_iff_ne.mpr c6
       obtain rfl := Option.some.inj H
       have p122 := dz_ (x8_1 : Int)
       have q122 := dl_ x8_1 (l0.length : Int)
       obtain ⟨ad122, A122_5, c122_5, e122, hx122_0, hx122_1, hx122_2, hx122_3, hx122_4, hx122_5, hx122_6, hx122_7, hx122_8, hl122_5, hi122_5⟩ := at_T41 HR0.out x8_1 p122 q122
       cases e122
       replace hx122_0 := pw_cell_below HB.out hx122_0
       replace hx122_1 := pw_cell_below HB.out hx122_1
       replace hx122_2 := pw_cell_below HB.out hx122_2
       replace hx122_3 := pw_cell_below HB.out hx122_3
       replace hx122_4 := pw_cell_below HB.out hx122_4
       replace hx122_5 := pw_cell_below HB.out hx122_5
       replace hx122_6 := pw_cell_below HB.out hx122_6
       replace hx122_7 := pw_cell_below HB.out hx122_7
       replace hx122_8 := pw_cell_below HB.out hx122_8
       have HR122_5 := Aside0.mk hi122_5
       have HC122_5 := Aside0.mk hl122_5
       clear hi122_5 hl122_5
       replace p122 := eq_true p122
       replace q122 := eq_true q122
       go_wp2_with (first | ((with_reducible refine gate_dst (N := 4) rfl ?_); refine bxE_ 4 41 #[.int .i64 0, .int .i64 0, .int .i64 0, .int .i64 0, .string (⟨#[]⟩ : ByteArray), .slice none 0 0, .int .i64 0, .int .i64 0, .bool false] ?_; intro gb123 hg w12 hbox hb; have BK123 := Aside0.mk (hbox); have GW123 := gee_ hg HB; have GE123 := gee_ hg HB; replace HB := belB_ HB hb; clear hb hbox hg; have hz_ := blk9_ BK123.out) | ((with_reducible refine gate_store (t := 41) (p := 4) rfl ?_); refine store_event (t := 41) (p := 4) (v := ?vo_w14) (w1 := (((((((((w12.setCell ⟨gb123, 0, none⟩ (.int .i64 ((rd_T41 l0 x8_1).f0.f0.f0))).setCell ⟨gb123, 1, none⟩ (.int .i64 ((rd_T41 l0 x8_1).f0.f0.f1))).setCell ⟨gb123, 2, none⟩ (.int .i64 ((rd_T41 l0 x8_1).f0.f1))).setCell ⟨gb123, 3, none⟩ (.int .i64 ((rd_T41 l0 x8_1).f1))).setCell ⟨gb123, 4, none⟩ (.string ((rd_T41 l0 x8_1).f2))).setCell ⟨gb123, 5, none⟩ (.slice A122_5 ((rd_T41 l0 x8_1).f3).length c122_5)).setCell ⟨gb123, 6, none⟩ (.int .i64 ((rd_T41 l0 x8_1).f4.f0))).setCell ⟨gb123, 7, none⟩ (.int .i64 ((rd_T41 l0 x8_1).f4.f1))).setCell ⟨gb123, 8, none⟩ (.bool ((rd_T41 l0 x8_1).f5)))) ?hg ?ho ?hn ?hr ?_; (case ho => rfl); (case hg => rfl); (case hn => rfl); (case hr => first | (go_simp; done) | (go_simp; rfl)); intro w14 hw; have n0_ : Aside0 (w14.heap[gb123]? = some (.cells #[.int .i64 ((rd_T41 l0 x8_1).f0.f0.f0), .int .i64 ((rd_T41 l0 x8_1).f0.f0.f1), .int .i64 ((rd_T41 l0 x8_1).f0.f1), .int .i64 ((rd_T41 l0 x8_1).f1), .string ((rd_T41 l0 x8_1).f2), .slice A122_5 ((rd_T41 l0 x8_1).f3).length c122_5, .int .i64 ((rd_T41 l0 x8_1).f4.f0), .int .i64 ((rd_T41 l0 x8_1).f4.f1), .bool ((rd_T41 l0 x8_1).f5)] 41 (0, 0))) := ⟨(by rw [hw]; exact (by (with_reducible repeat (first | refine blk_drewN ?_ _ | refine blk_drew ?_ | refine blk_alloc ?_ _)); refine blk_put (cs := #[.int .i64 ((rd_T41 l0 x8_1).f0.f0.f0), .int .i64 ((rd_T41 l0 x8_1).f0.f0.f1), .int .i64 ((rd_T41 l0 x8_1).f0.f1), .int .i64 ((rd_T41 l0 x8_1).f1), .string ((rd_T41 l0 x8_1).f2), .slice A122_5 ((rd_T41 l0 x8_1).f3).length c122_5, .int .i64 ((rd_T41 l0 x8_1).f4.f0), .int .i64 ((rd_T41 l0 x8_1).f4.f1), .bool false]) ?_ 8 _ rfl; (with_reducible repeat (first | refine blk_drewN ?_ _ | refine blk_drew ?_ | refine blk_alloc ?_ _)); refine blk_put (cs := #[.int .i64 ((rd_T41 l0 x8_1).f0.f0.f0), .int .i64 ((rd_T41 l0 x8_1).f0.f0.f1), .int .i64 ((rd_T41 l0 x8_1).f0.f1), .int .i64 ((rd_T41 l0 x8_1).f1), .string ((rd_T41 l0 x8_1).f2), .slice A122_5 ((rd_T41 l0 x8_1).f3).length c122_5, .int .i64 ((rd_T41 l0 x8_1).f4.f0), .int .i64 0, .bool false]) ?_ 7 _ rfl; (with_reducible repeat (first | refine blk_drewN ?_ _ | refine blk_drew ?_ | refine blk_alloc ?_ _)); refine blk_put (cs := #[.int .i64 ((rd_T41 l0 x8_1).f0.f0.f0), .int .i64 ((rd_T41 l0 x8_1).f0.f0.f1), .int .i64 ((rd_T41 l0 x8_1).f0.f1), .int .i64 ((rd_T41 l0 x8_1).f1), .string ((rd_T41 l0 x8_1).f2), .slice A122_5 ((rd_T41 l0 x8_1).f3).length c122_5, .int .i64 0, .int .i64 0, .bool false]) ?_ 6 _ rfl; (with_reducible repeat (first | refine blk_drewN ?_ _ | refine blk_drew ?_ | refine blk_alloc ?_ _)); refine blk_put (cs := #[.int .i64 ((rd_T41 l0 x8_1).f0.f0.f0), .int .i64 ((rd_T41 l0 x8_1).f0.f0.f1), .int .i64 ((rd_T41 l0 x8_1).f0.f1), .int .i64 ((rd_T41 l0 x8_1).f1), .string ((rd_T41 l0 x8_1).f2), .slice none 0 0, .int .i64 0, .int .i64 0, .bool false]) ?_ 5 _ rfl; (with_reducible repeat (first | refine blk_drewN ?_ _ | refine blk_drew ?_ | refine blk_alloc ?_ _)); refine blk_put (cs := #[.int .i64 ((rd_T41 l0 x8_1).f0.f0.f0), .int .i64 ((rd_T41 l0 x8_1).f0.f0.f1), .int .i64 ((rd_T41 l0 x8_1).f0.f1), .int .i64 ((rd_T41 l0 x8_1).f1), .string (⟨#[]⟩ : ByteArray), .slice none 0 0, .int .i64 0, .int .i64 0, .bool false]) ?_ 4 _ rfl; (with_reducible repeat (first | refine blk_drewN ?_ _ | refine blk_drew ?_ | refine blk_alloc ?_ _)); refine blk_put (cs := #[.int .i64 ((rd_T41 l0 x8_1).f0.f0.f0), .int .i64 ((rd_T41 l0 x8_1).f0.f0.f1), .int .i64 ((rd_T41 l0 x8_1).f0.f1), .int .i64 0, .string (⟨#[]⟩ : ByteArray), .slice none 0 0, .int .i64 0, .int .i64 0, .bool false]) ?_ 3 _ rfl; (with_reducible repeat (first | refine blk_drewN ?_ _ | refine blk_drew ?_ | refine blk_alloc ?_ _)); refine blk_put (cs := #[.int .i64 ((rd_T41 l0 x8_1).f0.f0.f0), .int .i64 ((rd_T41 l0 x8_1).f0.f0.f1), .int .i64 0, .int .i64 0, .string (⟨#[]⟩ : ByteArray), .slice none 0 0, .int .i64 0, .int .i64 0, .bool false]) ?_ 2 _ rfl; (with_reducible repeat (first | refine blk_drewN ?_ _ | refine blk_drew ?_ | refine blk_alloc ?_ _)); refine blk_put (cs := #[.int .i64 ((rd_T41 l0 x8_1).f0.f0.f0), .int .i64 0, .int .i64 0, .int .i64 0, .string (⟨#[]⟩ : ByteArray), .slice none 0 0, .int .i64 0, .int .i64 0, .bool false]) ?_ 1 _ rfl; (with_reducible repeat (first | refine blk_drewN ?_ _ | refine blk_drew ?_ | refine blk_alloc ?_ _)); refine blk_put (cs := #[.int .i64 0, .int .i64 0, .int .i64 0, .int .i64 0, .string (⟨#[]⟩ : ByteArray), .slice none 0 0, .int .i64 0, .int .i64 0, .bool false]) ?_ 0 _ rfl; (with_reducible repeat (first | refine blk_drewN ?_ _ | refine blk_drew ?_ | refine blk_alloc ?_ _)); exact BK123.out))⟩; have n1_ : Aside0 (Below w.heap.size w w14) := ⟨(by rw [hw]; exact (belW_ HB))⟩; clear hw; clear BK123; clear HB; have BK123 := n0_; have HB := n1_; clear n0_ n1_; have hz_ := blk9_ BK123.out) | ((with_reducible refine gate_callee (f := 52) rfl ?_); refine goS_ 13 rfl Tryd.func52 #[.agg #[.int .i64 ((rd_T41 l0 x8_1).f0.f0.f0), .int .i64 ((rd_T41 l0 x8_1).f0.f0.f1), .int .i64 ((rd_T41 l0 x8_1).f0.f1), .int .i64 ((rd_T41 l0 x8_1).f1), .string ((rd_T41 l0 x8_1).f2), .slice A122_5 ((rd_T41 l0 x8_1).f3).length c122_5, .int .i64 ((rd_T41 l0 x8_1).f4.f0), .int .i64 ((rd_T41 l0 x8_1).f4.f1), .bool ((rd_T41 l0 x8_1).f5)]] ?_; (with_reducible refine (xform_own.calls k1 ((rd_T41 l0 x8_1).f0.f0.f0) ((rd_T41 l0 x8_1).f0.f0.f1) ((rd_T41 l0 x8_1).f0.f1) ((rd_T41 l0 x8_1).f1) ((rd_T41 l0 x8_1).f2) _ _ ((rd_T41 l0 x8_1).f3) ((rd_T41 l0 x8_1).f4.f0) ((rd_T41 l0 x8_1).f4.f1) ((rd_T41 l0 x8_1).f5) t124 _ ?side1 ?side2 ?side3 A5.out).mono ?_); (case side1 => exact CW_ ((Kd.C_below HR122_5.out HB.out))); (case side2 => exact HC122_5.out); (case side3 => exact GW.below hG (belW_ HB)); rintro e w16 ⟨rfl, hb⟩; refine ⟨_, rfl, ?_⟩; replace BK123 := blkB_ BK123 hb; replace HB := belB_ HB hb; try clear hb))
       go_ret
       exact ⟨rs_, belW_ HB⟩
     ·rw [if_neg c4] at H
      exact absurd H (by simp)
    ·rw [if_neg c3] at H
     exact absurd H (by simp)
   ·rw [if_neg c2] at H
    have c2b0 := decide_eq_false c2
    clear c2
    obtain rfl := Option.some.inj H
    go_wp2
    go_ret
    exact ⟨rs_, belW_ HB⟩

def op_Width.f (a0_0 : Int) (a0_1 : Int) (a0_2 : Int) (a0_3 : Int) (a0_4 : ByteArray) (l0_5 : List (S94)) (a0_6 : Int) (a0_7 : Int) (a0_8 : Bool) : Option (Int) := if a0_2 = 1 then ((utext_Check.f a0_4).bind fun bt126 => (some bt126.1)) else (some 0)
set_option maxHeartbeats 8000000 in
set_option maxRecDepth 100000 in
theorem op_Width.calls (a0_0 : Int) (a0_1 : Int) (a0_2 : Int) (a0_3 : Int) (a0_4 : ByteArray) (A0_5 : Option Addr) (c0_5 : Nat) (l0_5 : List (S94)) (a0_6 : Int) (a0_7 : Int) (a0_8 : Bool) (r : Int) (w : World) (hr0_5 : Kd.C k94 w A0_5 l0_5.length l0_5) (hc0_5 : l0_5.length ≤ c0_5) (hG : GW w) (h : op_Width.f a0_0 a0_1 a0_2 a0_3 a0_4 l0_5 a0_6 a0_7 a0_8 = some r) :
 Calls Tryd.prog 53 #[.agg #[.int .i64 a0_0, .int .i64 a0_1, .int .i64 a0_2, .int .i64 a0_3, .string a0_4, .slice A0_5 l0_5.length c0_5, .int .i64 a0_6, .int .i64 a0_7, .bool a0_8]] w fun e w' => e = .returned (.int .i64 r) ∧ Below w.heap.size w w' := by
 have hu41 := Tryd.underlying41
 have HR0_5 := Aside0.mk hr0_5
 have HC0_5 := Aside0.mk hc0_5
 clear hr0_5 hc0_5
 have HB := Aside0.mk (Below.refl w.heap.size w)
 have H : (if a0_2 = 1 then ((utext_Check.f a0_4).bind fun bt126 => (some bt126.1)) else (some 0)) = some r := h
 clear h
 by_cases c2 : a0_2 = 1
 ·rw [if_pos c2] at H
  have c2b0 := beq_iff_eq.mpr c2
  have c2b1 := bne_eq_false_iff_eq.mpr c2
  clear c2
  replace H := Option.bind_eq_some_iff.mp H
  obtain ⟨⟨t126, t127, t128⟩, A30, H⟩ := H
  try dsimp only at H
  have A3 := Aside0.mk A30
  clear A30
  obtain rfl := Option.some.inj H
  go_enter Tryd.func53, Tryd.ntmps53
  go_wp2_with (first | ((with_reducible refine gate_dst (N := 1) rfl ?_); refine bxE_ 1 41 #[.int .i64 a0_0, .int .i64 a0_1, .int .i64 a0_2, .int .i64 a0_3, .string a0_4, .slice A0_5 l0_5.length c0_5, .int .i64 a0_6, .int .i64 a0_7, .bool a0_8] ?_; intro gb125 hg w4 hbox hb; have BK125 := Aside0.mk (hbox); have GW125 := gee_ hg HB; have GE125 := gee_ hg HB; replace HB := belB_ HB hb; clear hb hbox hg; have hz_ := blk9_ BK125.out) | ((with_reducible refine gate_callee (f := 70) rfl ?_); refine goS_ 13 rfl Tryd.func70 #[.string a0_4] ?_; (with_reducible refine (utext_Check.calls a0_4 t126 t127 t128 _ ?side1 A3.out).mono ?_); (case side1 => exact GW.below hG (belW_ HB)); rintro e w6 ⟨rfl, hb⟩; refine ⟨_, rfl, ?_⟩; replace BK125 := blkB_ BK125 hb; replace HB := belB_ HB hb; try clear hb))
  go_ret
  exact ⟨rs_, belW_ HB⟩
 ·rw [if_neg c2] at H
  have c2b0 := beq_eq_false_iff_ne.mpr c2
  have c2b1 := bne_iff_ne.mpr c2
  obtain rfl := Option.some.inj H
  go_enter Tryd.func53, Tryd.ntmps53
  go_wp2_with (((with_reducible refine gate_dst (N := 1) rfl ?_); refine bxE_ 1 41 #[.int .i64 a0_0, .int .i64 a0_1, .int .i64 a0_2, .int .i64 a0_3, .string a0_4, .slice A0_5 l0_5.length c0_5, .int .i64 a0_6, .int .i64 a0_7, .bool a0_8] ?_; intro gb125 hg w7 hbox hb; have BK125 := Aside0.mk (hbox); have GW125 := gee_ hg HB; have GE125 := gee_ hg HB; replace HB := belB_ HB hb; clear hb hbox hg; have hz_ := blk9_ BK125.out))
  go_ret
  exact ⟨rs_, belW_ HB⟩

def xform_clash.f (a0_0 : Int) (a0_1 : Int) (a0_2 : Int) (a0_3 : Int) (a0_4 : ByteArray) (l0_5 : List (S94)) (a0_6 : Int) (a0_7 : Int) (a0_8 : Bool) (a1_0 : Int) (a1_1 : Int) (a1_2 : Int) (a1_3 : Int) (a1_4 : ByteArray) (l1_5 : List (S94)) (a1_6 : Int) (a1_7 : Int) (a1_8 : Bool) : Option (Bool) := if (a0_0 == a1_0 && (a0_1 == a1_1)) = true then (some (!(a0_0 == 0) || (!(a0_1 == 0)))) else (some false)
set_option maxHeartbeats 8000000 in
set_option maxRecDepth 100000 in
theorem xform_clash.calls (a0_0 : Int) (a0_1 : Int) (a0_2 : Int) (a0_3 : Int) (a0_4 : ByteArray) (A0_5 : Option Addr) (c0_5 : Nat) (l0_5 : List (S94)) (a0_6 : Int) (a0_7 : Int) (a0_8 : Bool) (a1_0 : Int) (a1_1 : Int) (a1_2 : Int) (a1_3 : Int) (a1_4 : ByteArray) (A1_5 : Option Addr) (c1_5 : Nat) (l1_5 : List (S94)) (a1_6 : Int) (a1_7 : Int) (a1_8 : Bool) (r : Bool) (w : World) (hr0_5 : Kd.C k94 w A0_5 l0_5.length l0_5) (hc0_5 : l0_5.length ≤ c0_5) (hr1_5 : Kd.C k94 w A1_5 l1_5.length l1_5) (hc1_5 : l1_5.length ≤ c1_5) (h : xform_clash.f a0_0 a0_1 a0_2 a0_3 a0_4 l0_5 a0_6 a0_7 a0_8 a1_0 a1_1 a1_2 a1_3 a1_4 l1_5 a1_6 a1_7 a1_8 = some r) :
 Calls Tryd.prog 71 #[.agg #[.int .i64 a0_0, .int .i64 a0_1, .int .i64 a0_2, .int .i64 a0_3, .string a0_4, .slice A0_5 l0_5.length c0_5, .int .i64 a0_6, .int .i64 a0_7, .bool a0_8], .agg #[.int .i64 a1_0, .int .i64 a1_1, .int .i64 a1_2, .int .i64 a1_3, .string a1_4, .slice A1_5 l1_5.length c1_5, .int .i64 a1_6, .int .i64 a1_7, .bool a1_8]] w fun e w' => e = .returned (.bool r) ∧ Below w.heap.size w w' := by
 have hu41 := Tryd.underlying41
 have hu35 := Tryd.underlying35
 have HR0_5 := Aside0.mk hr0_5
 have HC0_5 := Aside0.mk hc0_5
 clear hr0_5 hc0_5
 have HR1_5 := Aside0.mk hr1_5
 have HC1_5 := Aside0.mk hc1_5
 clear hr1_5 hc1_5
 have HB := Aside0.mk (Below.refl w.heap.size w)
 have H : (if (a0_0 == a1_0 && (a0_1 == a1_1)) = true then (some (!(a0_0 == 0) || (!(a0_1 == 0)))) else (some false)) = some r := h
 clear h
 repeat' (first | (replace H := ifE_ H; rcases H with ⟨_, _, H⟩ | ⟨_, _, H⟩) | (replace H := ifL_ H; rcases H with ⟨_, _, H⟩ | ⟨_, _, H⟩) | (replace H := ifB_ H; rcases H with ⟨_, H⟩ | ⟨_, H⟩) | (replace H := ifG_ H; rcases H with ⟨_, _, H⟩ | ⟨_, _, H⟩) | (replace H := ifGt_ H; rcases H with ⟨_, H⟩ | ⟨_, H⟩) | (replace H := ifGe_ H; rcases H with ⟨_, H⟩ | ⟨_, H⟩) | (replace H := ifD_ H; rcases H with ⟨_, H⟩ | ⟨_, H⟩))
 all_goals (obtain rfl := Option.some.inj H; go_enter Tryd.func71, Tryd.ntmps71; go_wp2_with (first | ((with_reducible refine gate_dst (N := 2) rfl ?_); refine bxE_ 2 41 #[.int .i64 a0_0, .int .i64 a0_1, .int .i64 a0_2, .int .i64 a0_3, .string a0_4, .slice A0_5 l0_5.length c0_5, .int .i64 a0_6, .int .i64 a0_7, .bool a0_8] ?_; intro gb133 hg w9 hbox hb; have BK133 := Aside0.mk (hbox); have GW133 := gee_ hg HB; have GE133 := gee_ hg HB; replace HB := belB_ HB hb; clear hb hbox hg) | ((with_reducible refine gate_dst (N := 3) rfl ?_); refine bxE_ 3 41 #[.int .i64 a1_0, .int .i64 a1_1, .int .i64 a1_2, .int .i64 a1_3, .string a1_4, .slice A1_5 l1_5.length c1_5, .int .i64 a1_6, .int .i64 a1_7, .bool a1_8] ?_; intro gb134 hg w10 hbox hb; have BK134 := Aside0.mk (hbox); have GW134 := gee_ hg HB; have GE134 := gee_ hg HB; have NB133_134 := neL_ hg BK133; have NB134_133 := neR_ hg BK133; replace BK133 := blkB_ BK133 hb; replace HB := belB_ HB hb; clear hb hbox hg; have hnb11 := NB133_134.out; have hnc11 := NB134_133.out; have hz_ := blk9_ BK133.out; have hz_ := blk9_ BK134.out)); go_ret; exact ⟨rs_, belW_ HB⟩)

end Go.Proofs.YtloccjkcmlkifaaDoor.PAll
