/- MsgNames_card, part 24. -/
import Derived.Test.YtjnicgfkogfifaaDoorQNa20
import Derived.Test.YtjnicgfkogfifaaDoorQNa21
import Derived.Test.YtjnicgfkogfifaaDoorQNa22
import Derived.Test.YtjnicgfkogfifaaDoorQNa23

namespace Go.Proofs.YtjnicgfkogfifaaDoor.PAll
open Go.RowKit Go.Proofs.YtjnicgfkogfifaaDoorW.PrintWords Go.Proofs.YtjnicgfkogfifaaDoorW.PrintLast Go.Proofs.YtjnicgfkogfifaaDoorW.PrintMore
attribute [local go_sem] max2_int min2_int max_two min_two max_three min_three max_four min_four   -- for this text's walks alone
set_option linter.unusedVariables false
set_option linter.unusedSimpArgs false

attribute [local go_sem high] idx28_0 idx28_1 idx29_0 idx29_1 idx110_0 idx110_1 idx110_2 idx111_0 idx111_1 idx111_2 idx111_3 idx112_0 idx112_1 idx112_2 idx112_3 idx153_0 idx153_1
attribute [local go_sem high] eqA29
mutual
def op_Check.j0 : Nat → Int → Bool → Int → Int → Int → Int → ByteArray → List (S54) → Int → Int → Bool → Option (Int)
 | 0, _, _, _, _, _, _, _, _, _, _, _ => none
 | k + 1, x1, x5, x114000, x114001, x114002, x114003, x114004, x114005, x114006, x114007, x114008 => if x5 = true then (some 12) else (if x114002 < 1 then (op_Check.j1 k x1 true x114000 x114001 x114002 x114003 x114004 x114005 x114006 x114007 x114008) else (op_Check.j1 k x1 (decide (x114002 > 4)) x114000 x114001 x114002 x114003 x114004 x114005 x114006 x114007 x114008))
def op_Check.j1 : Nat → Int → Bool → Int → Int → Int → Int → ByteArray → List (S54) → Int → Int → Bool → Option (Int)
 | 0, _, _, _, _, _, _, _, _, _, _, _ => none
 | k + 1, x1, x12, x114000, x114001, x114002, x114003, x114004, x114005, x114006, x114007, x114008 => if x12 = true then (some 40) else (if (!(x114000 == 0) || (!(x114001 == 0))) = true then ((op_right.f x114000 x114001).bind fun t114 => (op_Check.j2 k x1 (!t114) x114000 x114001 x114002 x114003 x114004 x114005 x114006 x114007 x114008)) else (op_Check.j2 k x1 false x114000 x114001 x114002 x114003 x114004 x114005 x114006 x114007 x114008))
def op_Check.j2 : Nat → Int → Bool → Int → Int → Int → Int → ByteArray → List (S54) → Int → Int → Bool → Option (Int)
 | 0, _, _, _, _, _, _, _, _, _, _, _ => none
 | k + 1, x1, x23, x114000, x114001, x114002, x114003, x114004, x114005, x114006, x114007, x114008 => if x23 = true then (some 41) else ((op_extra.f x114000 x114001 x114002 x114003 x114004 x114005 x114006 x114007 x114008).bind fun t115 => (if t115 = true then (some 42) else (if x114002 = 1 then ((op_checkIns.f k x114000 x114001 x114002 x114003 x114004 x114005 x114006 x114007 x114008 x1).bind fun t116 => (some t116)) else (if x114002 = 4 then ((op_right.f x114006 x114007).bind fun t117 => (if t117 = true then (if (x114006 == x114000 && (x114007 == x114001)) = true then (some 63) else (some 0)) else (some 63))) else ((op_checkRanges.f k x114005 x1).bind fun t118 => (some t118))))))
end
def op_Check.f (k : Nat) (a0_0 : Int) (a0_1 : Int) (a0_2 : Int) (a0_3 : Int) (a0_4 : ByteArray) (l0_5 : List (S54)) (a0_6 : Int) (a0_7 : Int) (a0_8 : Bool) (a1 : Int) : Option (Int) := if a1 < 0 then (op_Check.j0 k a1 true a0_0 a0_1 a0_2 a0_3 a0_4 l0_5 a0_6 a0_7 a0_8) else (op_Check.j0 k a1 (decide (a1 > 1048576)) a0_0 a0_1 a0_2 a0_3 a0_4 l0_5 a0_6 a0_7 a0_8)
set_option maxHeartbeats 8000000 in
set_option maxRecDepth 100000 in
theorem op_Check.calls (k : Nat) (a0_0 : Int) (a0_1 : Int) (a0_2 : Int) (a0_3 : Int) (a0_4 : ByteArray) (A0_5 : Option Addr) (c0_5 : Nat) (l0_5 : List (S54)) (a0_6 : Int) (a0_7 : Int) (a0_8 : Bool) (a1 : Int) (r : Int) (w : World) (hr0_5 : Kd.C k54 w A0_5 l0_5.length l0_5) (hc0_5 : l0_5.length ≤ c0_5) (hG : GW w) (h : op_Check.f k a0_0 a0_1 a0_2 a0_3 a0_4 l0_5 a0_6 a0_7 a0_8 a1 = some r) :
 Calls Tryd.prog 84 #[.agg #[.int .i64 a0_0, .int .i64 a0_1, .int .i64 a0_2, .int .i64 a0_3, .string a0_4, .slice A0_5 l0_5.length c0_5, .int .i64 a0_6, .int .i64 a0_7, .bool a0_8], .int .i64 a1] w fun e w' => e = .returned (.int .i64 r) ∧ Below w.heap.size w w' := by
 have hu35 := Tryd.underlying35
 have hu29 := Tryd.underlying29
 have HR0_5 := Aside0.mk hr0_5
 have HC0_5 := Aside0.mk hc0_5
 clear hr0_5 hc0_5
 have HB := Aside0.mk (Below.refl w.heap.size w)
 have H : (if a1 < 0 then (op_Check.j0 k a1 true a0_0 a0_1 a0_2 a0_3 a0_4 l0_5 a0_6 a0_7 a0_8) else (op_Check.j0 k a1 (decide (a1 > 1048576)) a0_0 a0_1 a0_2 a0_3 a0_4 l0_5 a0_6 a0_7 a0_8)) = some r := h
 clear h
 have HC3 := Aside0.mk H
 clear H
 go_enter Tryd.func84, Tryd.ntmps84
 go_upto_region 1 with (first | ((with_reducible refine gate_dst (N := 2) rfl ?_); refine bxE_ 2 35 #[.int .i64 a0_0, .int .i64 a0_1, .int .i64 a0_2, .int .i64 a0_3, .string a0_4, .slice A0_5 l0_5.length c0_5, .int .i64 a0_6, .int .i64 a0_7, .bool a0_8] ?_; intro gb113 hg w4 hbox hb; have BK113 := Aside0.mk (hbox); have GW113 := gee_ hg HB; have GE113 := gee_ hg HB; replace HB := belB_ HB hb; clear hb hbox hg))
 (try simp only [Act.put, List.setIfInBounds_toArray, List.set_cons_zero, List.set_cons_succ])
 go_cut [5] (fun v5 wc => ∃ (kq : Nat) (x5_2 : Bool), v5 = .bool x5_2 ∧ Aside0 (op_Check.j0 kq a1 x5_2 a0_0 a0_1 a0_2 a0_3 a0_4 l0_5 a0_6 a0_7 a0_8 = some r) ∧ Aside0 (kq ≤ k) ∧ Aside0 (wc.heap[gb113]? = some (.cells #[.int .i64 a0_0, .int .i64 a0_1, .int .i64 a0_2, .int .i64 a0_3, .string a0_4, (.slice A0_5 l0_5.length c0_5), .int .i64 a0_6, .int .i64 a0_7, .bool a0_8] 35 (0, 0))) ∧ Aside0 (Below w.heap.size w wc))
 case first =>
  have H := HC3.out
  clear HC3
  by_cases c5 : a1 < 0
  ·rw [if_pos c5] at H
   have c5b0 := decide_eq_true c5
   clear c5
   (first | rw [c5b0] | (simp only [i64_w, i32_w]; rw [c5b0]) | rw [c5b1] | skip)
   have H' := Aside0.mk H
   clear H
   go_wp2
   go_meet
   case rel => exact ⟨_, (true), ok_, H', ⟨lo_⟩, ⟨blkW_ BK113⟩, ⟨belW_ HB⟩⟩
  ·rw [if_neg c5] at H
   have c5b0 := decide_eq_false c5
   clear c5
   (first | rw [c5b0] | (simp only [i64_w, i32_w]; rw [c5b0]) | rw [c5b1] | skip)
   have H' := Aside0.mk H
   clear H
   go_wp2
   go_meet
   case rel => exact ⟨_, (decide (a1 > 1048576)), ok_, H', ⟨lo_⟩, ⟨blkW_ BK113⟩, ⟨belW_ HB⟩⟩
 case rest =>
  clear HC3
  obtain ⟨kq, x5_2, rfl, HA, HJ2, BK113, HB⟩ := hcut
  cases kq with
  | zero => exact absurd HA.out (by simp [op_Check.j0])
  | succ kj2 =>
   have H := HA.out
   clear HA
   simp only [op_Check.j0] at H
   by_cases c6 : x5_2 = true
   ·subst c6
    have H1 := H; rw [if_pos rfl] at H1
    clear H
    have H := H1
    clear H1
    obtain rfl := Option.some.inj H
    go_wp2
    go_ret
    exact ⟨rs_, belW_ HB⟩
   ·replace c6 := Bool.eq_false_iff.mpr c6
    subst c6
    have H1 := H; rw [if_neg (show ¬ (false = true) by decide)] at H1
    clear H
    have H := H1
    clear H1
    have HC7 := Aside0.mk H
    clear H
    go_upto_region 3 with (fail)
    go_cut [12] (fun v12 wc => ∃ (kq : Nat) (x12_6 : Bool), v12 = .bool x12_6 ∧ Aside0 (op_Check.j1 kq a1 x12_6 a0_0 a0_1 a0_2 a0_3 a0_4 l0_5 a0_6 a0_7 a0_8 = some r) ∧ Aside0 (kq ≤ kj2) ∧ Aside0 (wc.heap[gb113]? = some (.cells #[.int .i64 a0_0, .int .i64 a0_1, .int .i64 a0_2, .int .i64 a0_3, .string a0_4, (.slice A0_5 l0_5.length c0_5), .int .i64 a0_6, .int .i64 a0_7, .bool a0_8] 35 (0, 0))) ∧ Aside0 (Below w.heap.size w wc))
    case first =>
     have H := HC7.out
     clear HC7
     by_cases c8 : a0_2 < 1
     ·rw [if_pos c8] at H
      have c8b0 := decide_eq_true c8
      clear c8
      (first | rw [c8b0] | (simp only [i64_w, i32_w]; rw [c8b0]) | rw [c8b1] | skip)
      have H' := Aside0.mk H
      clear H
      obtain ⟨hcz9_0, hcz9_1, hcz9_2, hcz9_3, hcz9_4, hcz9_5, hcz9_6, hcz9_7, hcz9_8, hfz9_0, hfz9_1, hfz9_2, hfz9_3, hfz9_4, hfz9_5, hfz9_6, hfz9_7, hfz9_8⟩ := blk9_ BK113.out
      go_wp2
      go_meet
      case rel => exact ⟨_, (true), ok_, H', ⟨lk_ HJ2⟩, ⟨blkW_ BK113⟩, ⟨belW_ HB⟩⟩
     ·rw [if_neg c8] at H
      have c8b0 := decide_eq_false c8
      clear c8
      (first | rw [c8b0] | (simp only [i64_w, i32_w]; rw [c8b0]) | rw [c8b1] | skip)
      have H' := Aside0.mk H
      clear H
      obtain ⟨hcz10_0, hcz10_1, hcz10_2, hcz10_3, hcz10_4, hcz10_5, hcz10_6, hcz10_7, hcz10_8, hfz10_0, hfz10_1, hfz10_2, hfz10_3, hfz10_4, hfz10_5, hfz10_6, hfz10_7, hfz10_8⟩ := blk9_ BK113.out
      go_wp2
      go_meet
      case rel => exact ⟨_, (decide (a0_2 > 4)), ok_, H', ⟨lk_ HJ2⟩, ⟨blkW_ BK113⟩, ⟨belW_ HB⟩⟩
    case rest =>
     clear HC7
     try clear p2
     try clear c5
     try clear c5b0
     try clear c5b1
     try clear c6
     try clear p2
     obtain ⟨kq, x12_6, rfl, HA, HJ6, BK113, HB⟩ := hcut
     cases kq with
     | zero => exact absurd HA.out (by simp [op_Check.j1])
     | succ kj6 =>
      have H := HA.out
      clear HA
      simp only [op_Check.j1] at H
      by_cases c11 : x12_6 = true
      ·subst c11
       have H1 := H; rw [if_pos rfl] at H1
       clear H
       have H := H1
       clear H1
       obtain rfl := Option.some.inj H
       go_wp2
       go_ret
       exact ⟨rs_, belW_ HB⟩
      ·replace c11 := Bool.eq_false_iff.mpr c11
       subst c11
       have H1 := H; rw [if_neg (show ¬ (false = true) by decide)] at H1
       clear H
       have H := H1
       clear H1
       have HC12 := Aside0.mk H
       clear H
       go_upto_region 5 with (fail)
       go_cut [23] (fun v23 wc => ∃ (kq : Nat) (x23_11 : Bool), v23 = .bool x23_11 ∧ Aside0 (op_Check.j2 kq a1 x23_11 a0_0 a0_1 a0_2 a0_3 a0_4 l0_5 a0_6 a0_7 a0_8 = some r) ∧ Aside0 (kq ≤ kj6) ∧ Aside0 (wc.heap[gb113]? = some (.cells #[.int .i64 a0_0, .int .i64 a0_1, .int .i64 a0_2, .int .i64 a0_3, .string a0_4, (.slice A0_5 l0_5.length c0_5), .int .i64 a0_6, .int .i64 a0_7, .bool a0_8] 35 (0, 0))) ∧ Aside0 (Below w.heap.size w wc))
       case first =>
        have H := HC12.out
        clear HC12
        by_cases c13 : (!(a0_0 == 0) || (!(a0_1 == 0))) = true
        ·rw [if_pos c13] at H
         have c13b0 : (!(a0_0 == 0) || (!(a0_1 == 0))) = true := c13
         clear c13
         (first | rw [c13b0] | (simp only [i64_w, i32_w]; rw [c13b0]) | rw [c13b1] | skip)
         replace H := Option.bind_eq_some_iff.mp H
         obtain ⟨t114, A140, H⟩ := H
         try dsimp only at H
         have A14 := Aside0.mk A140
         clear A140
         have H' := Aside0.mk H
         clear H
         have hz_ := blk9_ BK113.out
         go_wp2_with (first | (go_at_call 95; (with_reducible refine (op_right.calls a0_0 a0_1 t114 _ A14.out).mono ?_); rintro e w16 ⟨rfl, hb⟩; replace BK113 := blkB_ BK113 hb; replace HB := belB_ HB hb; try clear hb))
         go_meet
         case rel => exact ⟨_, (!t114), ok_, H', ⟨by have := HJ2.out; have := HJ6.out; first | omega | exact Nat.le_refl _⟩, ⟨blkW_ BK113⟩, ⟨belW_ HB⟩⟩
        ·rw [if_neg c13] at H
         have c13b0 : (!(a0_0 == 0) || (!(a0_1 == 0))) = false := by simpa using c13
         clear c13
         (first | rw [c13b0] | (simp only [i64_w, i32_w]; rw [c13b0]) | rw [c13b1] | skip)
         have H' := Aside0.mk H
         clear H
         have hz_ := blk9_ BK113.out
         go_wp2
         go_meet
         case rel => exact ⟨_, (false), ok_, H', ⟨by have := HJ2.out; have := HJ6.out; first | omega | exact Nat.le_refl _⟩, ⟨blkW_ BK113⟩, ⟨belW_ HB⟩⟩
       case rest =>
        clear HC12
        try clear p2
        try clear c5
        try clear c5b0
        try clear c5b1
        try clear c6
        try clear c8
        try clear c8b0
        try clear c8b1
        try clear c11
        try clear hcz10_0
        try clear hcz10_1
        try clear hcz10_2
        try clear hcz10_3
        try clear hcz10_4
        try clear hcz10_5
        try clear hcz10_6
        try clear hcz10_7
        try clear hcz10_8
        try clear hcz9_0
        try clear hcz9_1
        try clear hcz9_2
        try clear hcz9_3
        try clear hcz9_4
        try clear hcz9_5
        try clear hcz9_6
        try clear hcz9_7
        try clear hcz9_8
        try clear hfz10_0
        try clear hfz10_1
        try clear hfz10_2
        try clear hfz10_3
        try clear hfz10_4
        try clear hfz10_5
        try clear hfz10_6
        try clear hfz10_7
        try clear hfz10_8
        try clear hfz9_0
        try clear hfz9_1
        try clear hfz9_2
        try clear hfz9_3
        try clear hfz9_4
        try clear hfz9_5
        try clear hfz9_6
        try clear hfz9_7
        try clear hfz9_8
        try clear p2
        obtain ⟨kq, x23_11, rfl, HA, HJ11, BK113, HB⟩ := hcut
        cases kq with
        | zero => exact absurd HA.out (by simp [op_Check.j2])
        | succ kj11 =>
         have H := HA.out
         clear HA
         simp only [op_Check.j2] at H
         by_cases c18 : x23_11 = true
         ·subst c18
          have H1 := H; rw [if_pos rfl] at H1
          clear H
          have H := H1
          clear H1
          obtain rfl := Option.some.inj H
          go_wp2
          go_ret
          exact ⟨rs_, belW_ HB⟩
         ·replace c18 := Bool.eq_false_iff.mpr c18
          subst c18
          have H1 := H; rw [if_neg (show ¬ (false = true) by decide)] at H1
          clear H
          have H := H1
          clear H1
          replace H := Option.bind_eq_some_iff.mp H
          obtain ⟨t115, A190, H⟩ := H
          try dsimp only at H
          have A19 := Aside0.mk A190
          clear A190
          by_cases c20 : t115 = true
          ·subst c20
           have H1 := H; rw [if_pos rfl] at H1
           clear H
           have H := H1
           clear H1
           obtain rfl := Option.some.inj H
           have hz_ := blk9_ BK113.out
           go_wp2_with (first | ((with_reducible refine gate_callee (f := 96) rfl ?_); refine goS_ 38 rfl Tryd.func96 #[.agg #[.int .i64 a0_0, .int .i64 a0_1, .int .i64 a0_2, .int .i64 a0_3, .string a0_4, .slice A0_5 l0_5.length c0_5, .int .i64 a0_6, .int .i64 a0_7, .bool a0_8]] ?_; (with_reducible refine (op_extra.calls a0_0 a0_1 a0_2 a0_3 a0_4 _ _ l0_5 a0_6 a0_7 a0_8 true _ ?side1 ?side2 A19.out).mono ?_); (case side1 => exact CW_ ((Kd.C_below HR0_5.out HB.out))); (case side2 => exact HC0_5.out); rintro e w22 ⟨rfl, hb⟩; refine ⟨_, rfl, ?_⟩; replace BK113 := blkB_ BK113 hb; replace HB := belB_ HB hb; try clear hb))
           go_ret
           exact ⟨rs_, belW_ HB⟩
          ·replace c20 := Bool.eq_false_iff.mpr c20
           subst c20
           have H1 := H; rw [if_neg (show ¬ (false = true) by decide)] at H1
           clear H
           have H := H1
           clear H1
           by_cases c23 : a0_2 = 1
           ·rw [if_pos c23] at H
            have c23b0 := beq_iff_eq.mpr c23
            have c23b1 := bne_eq_false_iff_eq.mpr c23
            clear c23
            replace H := Option.bind_eq_some_iff.mp H
            obtain ⟨t116, A240, H⟩ := H
            try dsimp only at H
            have A24 := Aside0.mk A240
            clear A240
            obtain rfl := Option.some.inj H
            have hz_ := blk9_ BK113.out
            go_wp2_with (first | ((with_reducible refine gate_callee (f := 96) rfl ?_); refine goS_ 38 rfl Tryd.func96 #[.agg #[.int .i64 a0_0, .int .i64 a0_1, .int .i64 a0_2, .int .i64 a0_3, .string a0_4, .slice A0_5 l0_5.length c0_5, .int .i64 a0_6, .int .i64 a0_7, .bool a0_8]] ?_; (with_reducible refine (op_extra.calls a0_0 a0_1 a0_2 a0_3 a0_4 _ _ l0_5 a0_6 a0_7 a0_8 false _ ?side1 ?side2 A19.out).mono ?_); (case side1 => exact CW_ ((Kd.C_below HR0_5.out HB.out))); (case side2 => exact HC0_5.out); rintro e w26 ⟨rfl, hb⟩; refine ⟨_, rfl, ?_⟩; replace BK113 := blkB_ BK113 hb; replace HB := belB_ HB hb; try clear hb; have hz_ := blk9_ BK113.out) | ((with_reducible refine gate_callee (f := 97) rfl ?_); refine goS_ 46 rfl Tryd.func97 #[.agg #[.int .i64 a0_0, .int .i64 a0_1, .int .i64 a0_2, .int .i64 a0_3, .string a0_4, .slice A0_5 l0_5.length c0_5, .int .i64 a0_6, .int .i64 a0_7, .bool a0_8], .int .i64 a1] ?_; (with_reducible refine (op_checkIns.calls kj11 a0_0 a0_1 a0_2 a0_3 a0_4 _ _ l0_5 a0_6 a0_7 a0_8 a1 t116 _ ?side1 ?side2 ?side3 A24.out).mono ?_); (case side1 => exact CW_ ((Kd.C_below HR0_5.out HB.out))); (case side2 => exact HC0_5.out); (case side3 => exact GW.below hG (belW_ HB)); rintro e w28 ⟨rfl, hb⟩; refine ⟨_, rfl, ?_⟩; replace BK113 := blkB_ BK113 hb; replace HB := belB_ HB hb; try clear hb))
            go_ret
            exact ⟨rs_, belW_ HB⟩
           ·rw [if_neg c23] at H
            have c23b0 := beq_eq_false_iff_ne.mpr c23
            have c23b1 := bne_iff_ne.mpr c23
            by_cases c29 : a0_2 = 4
            ·rw [if_pos c29] at H
             have c29b0 := beq_iff_eq.mpr c29
             have c29b1 := bne_eq_false_iff_eq.mpr c29
             clear c29
             replace H := Option.bind_eq_some_iff.mp H
             obtain ⟨t117, A300, H⟩ := H
             try dsimp only at H
             have A30 := Aside0.mk A300
             clear A300
             by_cases c31 : t117 = true
             ·subst c31
              have H1 := H; rw [if_pos rfl] at H1
              clear H
              have H := H1
              clear H1
              by_cases c32 : (a0_6 == a0_0 && (a0_7 == a0_1)) = true
              ·rw [if_pos c32] at H
               have c32b0 : (a0_6 == a0_0 && (a0_7 == a0_1)) = true := c32
               (try (have c32b1 : decide (a0_6 = a0_0 && (a0_7 == a0_1)) = true := by simpa using c32))
               (try (have c32b2 : (a0_6 == a0_0 && (a0_7 == a0_1)) = true := by simpa using c32))
               clear c32
               obtain rfl := Option.some.inj H
               have hz_ := blk9_ BK113.out
               go_wp2_with (first | ((with_reducible refine gate_callee (f := 96) rfl ?_); refine goS_ 38 rfl Tryd.func96 #[.agg #[.int .i64 a0_0, .int .i64 a0_1, .int .i64 a0_2, .int .i64 a0_3, .string a0_4, .slice A0_5 l0_5.length c0_5, .int .i64 a0_6, .int .i64 a0_7, .bool a0_8]] ?_; (with_reducible refine (op_extra.calls a0_0 a0_1 a0_2 a0_3 a0_4 _ _ l0_5 a0_6 a0_7 a0_8 false _ ?side1 ?side2 A19.out).mono ?_); (case side1 => exact CW_ ((Kd.C_below HR0_5.out HB.out))); (case side2 => exact HC0_5.out); rintro e w34 ⟨rfl, hb⟩; refine ⟨_, rfl, ?_⟩; replace BK113 := blkB_ BK113 hb; replace HB := belB_ HB hb; try clear hb; have hz_ := blk9_ BK113.out) | ((with_reducible refine gate_callee (f := 95) rfl ?_); refine goS_ 51 rfl Tryd.func95 #[.agg #[.int .i64 a0_6, .int .i64 a0_7]] ?_; (with_reducible refine (op_right.calls a0_6 a0_7 true _ A30.out).mono ?_); rintro e w36 ⟨rfl, hb⟩; refine ⟨_, rfl, ?_⟩; replace BK113 := blkB_ BK113 hb; replace HB := belB_ HB hb; try clear hb; have hz_ := blk9_ BK113.out))
               go_ret
               exact ⟨rs_, belW_ HB⟩
              ·rw [if_neg c32] at H
               have c32b0 : (a0_6 == a0_0 && (a0_7 == a0_1)) = false := by simpa using c32
               (try (have c32b1 : decide (a0_6 = a0_0 && (a0_7 == a0_1)) = false := by simpa using c32))
               (try (have c32b2 : (a0_6 == a0_0 && (a0_7 == a0_1)) = false := by simpa using c32))
               (try (have c32b3 : ¬ (a0_6 = a0_0 && (a0_7 == a0_1)) := by simpa using c32))
               clear c32
               obtain rfl := Option.some.inj H
               have hz_ := blk9_ BK113.out
               go_wp2_with (first | ((with_reducible refine gate_callee (f := 96) rfl ?_); refine goS_ 38 rfl Tryd.func96 #[.agg #[.int .i64 a0_0, .int .i64 a0_1, .int .i64 a0_2, .int .i64 a0_3, .string a0_4, .slice A0_5 l0_5.length c0_5, .int .i64 a0_6, .int .i64 a0_7, .bool a0_8]] ?_; (with_reducible refine (op_extra.calls a0_0 a0_1 a0_2 a0_3 a0_4 _ _ l0_5 a0_6 a0_7 a0_8 false _ ?side1 ?side2 A19.out).mono ?_); (case side1 => exact CW_ ((Kd.C_below HR0_5.out HB.out))); (case side2 => exact HC0_5.out); rintro e w39 ⟨rfl, hb⟩; refine ⟨_, rfl, ?_⟩; replace BK113 := blkB_ BK113 hb; replace HB := belB_ HB hb; try clear hb; have hz_ := blk9_ BK113.out) | ((with_reducible refine gate_callee (f := 95) rfl ?_); refine goS_ 51 rfl Tryd.func95 #[.agg #[.int .i64 a0_6, .int .i64 a0_7]] ?_; (with_reducible refine (op_right.calls a0_6 a0_7 true _ A30.out).mono ?_); rintro e w41 ⟨rfl, hb⟩; refine ⟨_, rfl, ?_⟩; replace BK113 := blkB_ BK113 hb; replace HB := belB_ HB hb; try clear hb; have hz_ := blk9_ BK113.out))
               go_ret
               exact ⟨rs_, belW_ HB⟩
             ·replace c31 := Bool.eq_false_iff.mpr c31
              subst c31
              have H1 := H; rw [if_neg (show ¬ (false = true) by decide)] at H1
              clear H
              have H := H1
              clear H1
              obtain rfl := Option.some.inj H
              have hz_ := blk9_ BK113.out
              go_wp2_with (first | ((with_reducible refine gate_callee (f := 96) rfl ?_); refine goS_ 38 rfl Tryd.func96 #[.agg #[.int .i64 a0_0, .int .i64 a0_1, .int .i64 a0_2, .int .i64 a0_3, .string a0_4, .slice A0_5 l0_5.length c0_5, .int .i64 a0_6, .int .i64 a0_7, .bool a0_8]] ?_; (with_reducible refine (op_extra.calls a0_0 a0_1 a0_2 a0_3 a0_4 _ _ l0_5 a0_6 a0_7 a0_8 false _ ?side1 ?side2 A19.out).mono ?_); (case side1 => exact CW_ ((Kd.C_below HR0_5.out HB.out))); (case side2 => exact HC0_5.out); rintro e w44 ⟨rfl, hb⟩; refine ⟨_, rfl, ?_⟩; replace BK113 := blkB_ BK113 hb; replace HB := belB_ HB hb; try clear hb; have hz_ := blk9_ BK113.out) | ((with_reducible refine gate_callee (f := 95) rfl ?_); refine goS_ 51 rfl Tryd.func95 #[.agg #[.int .i64 a0_6, .int .i64 a0_7]] ?_; (with_reducible refine (op_right.calls a0_6 a0_7 false _ A30.out).mono ?_); rintro e w46 ⟨rfl, hb⟩; refine ⟨_, rfl, ?_⟩; replace BK113 := blkB_ BK113 hb; replace HB := belB_ HB hb; try clear hb))
              go_ret
              exact ⟨rs_, belW_ HB⟩
            ·rw [if_neg c29] at H
             have c29b0 := beq_eq_false_iff_ne.mpr c29
             have c29b1 := bne_iff_ne.mpr c29
             replace H := Option.bind_eq_some_iff.mp H
             obtain ⟨t118, A470, H⟩ := H
             try dsimp only at H
             have A47 := Aside0.mk A470
             clear A470
             obtain rfl := Option.some.inj H
             have hz_ := blk9_ BK113.out
             go_wp2_with (first | ((with_reducible refine gate_callee (f := 96) rfl ?_); refine goS_ 38 rfl Tryd.func96 #[.agg #[.int .i64 a0_0, .int .i64 a0_1, .int .i64 a0_2, .int .i64 a0_3, .string a0_4, .slice A0_5 l0_5.length c0_5, .int .i64 a0_6, .int .i64 a0_7, .bool a0_8]] ?_; (with_reducible refine (op_extra.calls a0_0 a0_1 a0_2 a0_3 a0_4 _ _ l0_5 a0_6 a0_7 a0_8 false _ ?side1 ?side2 A19.out).mono ?_); (case side1 => exact CW_ ((Kd.C_below HR0_5.out HB.out))); (case side2 => exact HC0_5.out); rintro e w49 ⟨rfl, hb⟩; refine ⟨_, rfl, ?_⟩; replace BK113 := blkB_ BK113 hb; replace HB := belB_ HB hb; try clear hb; have hz_ := blk9_ BK113.out) | ((with_reducible refine gate_callee (f := 98) rfl ?_); refine goS_ 64 rfl Tryd.func98 #[.slice A0_5 l0_5.length c0_5, .int .i64 a1] ?_; (with_reducible refine (op_checkRanges.calls kj11 _ _ l0_5 a1 t118 _ ?side1 ?side2 A47.out).mono ?_); (case side1 => exact CW_ ((Kd.C_below HR0_5.out HB.out))); (case side2 => exact HC0_5.out); rintro e w51 ⟨rfl, hb⟩; refine ⟨_, rfl, ?_⟩; replace BK113 := blkB_ BK113 hb; replace HB := belB_ HB hb; try clear hb))
             go_ret
             exact ⟨rs_, belW_ HB⟩

end Go.Proofs.YtjnicgfkogfifaaDoor.PAll
