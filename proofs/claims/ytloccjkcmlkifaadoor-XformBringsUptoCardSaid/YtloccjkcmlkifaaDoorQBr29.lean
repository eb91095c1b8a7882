/- XformBrings_card, part 29. -/
import Derived.Test.YtloccjkcmlkifaaDoorQBr19
import Derived.Test.YtloccjkcmlkifaaDoorQBr27
import Derived.Test.YtloccjkcmlkifaaDoorQBr28

namespace Go.Proofs.YtloccjkcmlkifaaDoor.PAll
open Go.RowKit Go.Proofs.YtloccjkcmlkifaaDoorW.PrintWords Go.Proofs.YtloccjkcmlkifaaDoorW.PrintLast Go.Proofs.YtloccjkcmlkifaaDoorW.PrintMore
attribute [local go_sem] max2_int min2_int max_two min_two max_three min_three max_four min_four   -- for this text's walks alone
set_option linter.unusedVariables false
set_option linter.unusedSimpArgs false

attribute [local go_sem high] idx34_0 idx34_1 idx35_0 idx35_1
mutual
def redraftref04_Check.j0 : Nat → Int → Int → Bool → Int → Int → Int → Int → ByteArray → List (S94) → Int → Int → Bool → Option (Int)
 | 0, _, _, _, _, _, _, _, _, _, _, _, _ => none
 | k + 1, x1, x5, x20, x296000, x296001, x296002, x296003, x296004, x296005, x296006, x296007, x296008 => if x20 = true then (some 12) else (if x5 < 1 then (redraftref04_Check.j1 k x1 x5 true x296000 x296001 x296002 x296003 x296004 x296005 x296006 x296007 x296008) else (redraftref04_Check.j1 k x1 x5 (decide (x5 > 4)) x296000 x296001 x296002 x296003 x296004 x296005 x296006 x296007 x296008))
def redraftref04_Check.j1 : Nat → Int → Int → Bool → Int → Int → Int → Int → ByteArray → List (S94) → Int → Int → Bool → Option (Int)
 | 0, _, _, _, _, _, _, _, _, _, _, _, _ => none
 | k + 1, x1, x5, x26, x296000, x296001, x296002, x296003, x296004, x296005, x296006, x296007, x296008 => if x26 = true then (some 40) else ((redraftref04_IsID.f x296000 x296001).bind fun t296 => ((redraftref04_none.f x296000 x296001).bind fun t297 => (if t296 = true then (redraftref04_Check.j2 k x1 x5 false x296000 x296001 x296002 x296003 x296004 x296005 x296006 x296007 x296008) else (redraftref04_Check.j2 k x1 x5 (!t297) x296000 x296001 x296002 x296003 x296004 x296005 x296006 x296007 x296008))))
def redraftref04_Check.j2 : Nat → Int → Int → Bool → Int → Int → Int → Int → ByteArray → List (S94) → Int → Int → Bool → Option (Int)
 | 0, _, _, _, _, _, _, _, _, _, _, _, _ => none
 | k + 1, x1, x5, x40, x296000, x296001, x296002, x296003, x296004, x296005, x296006, x296007, x296008 => if x40 = true then (some 41) else ((redraftref04_extra.f x296000 x296001 x296002 x296003 x296004 x296005 x296006 x296007 x296008).bind fun t298 => (if t298 = true then (some 42) else (if x5 = 1 then ((redraftref04_insert.f k x296000 x296001 x296002 x296003 x296004 x296005 x296006 x296007 x296008 x1).bind fun t299 => (some t299)) else (if x5 = 4 then ((redraftref04_IsID.f x296006 x296007).bind fun t300 => (if t300 = true then (if x296006 = x296000 then (if x296007 = x296001 then (some 63) else (some 0)) else (some 0)) else (some 63))) else (if (x296005.length : Int) = 0 then (some 43) else ((redraftref02_Check.f k x296005).bind fun bt301 => (if bt301.2 = 0 then (if 0 ≤ (wrap64 ((x296005.length : Int) - 1)) then (if (wrap64 ((x296005.length : Int) - 1)) < (x296005.length : Int) then (if ((rd_T94 x296005 (wrap64 ((x296005.length : Int) - 1))).f1) > x1 then (some 12) else (some bt301.2)) else (none)) else (none)) else (some bt301.2))))))))
end
def redraftref04_Check.f (k : Nat) (a0_0 : Int) (a0_1 : Int) (a0_2 : Int) (a0_3 : Int) (a0_4 : ByteArray) (l0_5 : List (S94)) (a0_6 : Int) (a0_7 : Int) (a0_8 : Bool) (a1 : Int) : Option (Int) := if a1 < 0 then (redraftref04_Check.j0 k a1 a0_2 true a0_0 a0_1 a0_2 a0_3 a0_4 l0_5 a0_6 a0_7 a0_8) else (redraftref04_Check.j0 k a1 a0_2 (decide (a1 > 1048576)) a0_0 a0_1 a0_2 a0_3 a0_4 l0_5 a0_6 a0_7 a0_8)
set_option maxHeartbeats 8000000 in
set_option maxRecDepth 100000 in
theorem redraftref04_Check.calls (k : Nat) (a0_0 : Int) (a0_1 : Int) (a0_2 : Int) (a0_3 : Int) (a0_4 : ByteArray) (A0_5 : Option Addr) (c0_5 : Nat) (l0_5 : List (S94)) (a0_6 : Int) (a0_7 : Int) (a0_8 : Bool) (a1 : Int) (r : Int) (w : World) (hr0_5 : Kd.C k94 w A0_5 l0_5.length l0_5) (hc0_5 : l0_5.length ≤ c0_5) (h : redraftref04_Check.f k a0_0 a0_1 a0_2 a0_3 a0_4 l0_5 a0_6 a0_7 a0_8 a1 = some r) :
 Calls Tryd.prog 114 #[.agg #[.int .i64 a0_0, .int .i64 a0_1, .int .i64 a0_2, .int .i64 a0_3, .string a0_4, .slice A0_5 l0_5.length c0_5, .int .i64 a0_6, .int .i64 a0_7, .bool a0_8], .int .i64 a1] w fun e w' => e = .returned (.int .i64 r) ∧ Below w.heap.size w w' := by
 have hu41 := Tryd.underlying41
 have hu35 := Tryd.underlying35
 have HR0_5 := Aside0.mk hr0_5
 have HC0_5 := Aside0.mk hc0_5
 clear hr0_5 hc0_5
 have HB := Aside0.mk (Below.refl w.heap.size w)
 have H : (if a1 < 0 then (redraftref04_Check.j0 k a1 a0_2 true a0_0 a0_1 a0_2 a0_3 a0_4 l0_5 a0_6 a0_7 a0_8) else (redraftref04_Check.j0 k a1 a0_2 (decide (a1 > 1048576)) a0_0 a0_1 a0_2 a0_3 a0_4 l0_5 a0_6 a0_7 a0_8)) = some r := h
 clear h
 have HC3 := Aside0.mk H
 clear H
 go_enter Tryd.func114, Tryd.ntmps114
 go_upto_region 2 with (((with_reducible refine gate_dst (N := 2) rfl ?_); (try (refine gate_guard (by rfl) ?_; dsimp only)); refine bxE_ 2 41 #[.int .i64 a0_0, .int .i64 a0_1, .int .i64 a0_2, .int .i64 a0_3, .string a0_4, .slice A0_5 l0_5.length c0_5, .int .i64 a0_6, .int .i64 a0_7, .bool a0_8] ?_; intro gb295 hg w4 hbox hb; have BK295 := Aside0.mk (hbox); have GW295 := gee_ hg HB; have GE295 := gee_ hg HB; replace HB := belB_ HB hb; clear hb hbox hg; obtain ⟨hcz5_0, hcz5_1, hcz5_2, hcz5_3, hcz5_4, hcz5_5, hcz5_6, hcz5_7, hcz5_8, hfz5_0, hfz5_1, hfz5_2, hfz5_3, hfz5_4, hfz5_5, hfz5_6, hfz5_7, hfz5_8⟩ := blk9_ BK295.out))
 (try simp only [Act.put, List.setIfInBounds_toArray, List.set_cons_zero, List.set_cons_succ])
 go_cut [20] (fun v20 wc => ∃ (kq : Nat) (x20_2 : Bool), v20 = .bool x20_2 ∧ Aside0 (redraftref04_Check.j0 kq a1 a0_2 x20_2 a0_0 a0_1 a0_2 a0_3 a0_4 l0_5 a0_6 a0_7 a0_8 = some r) ∧ Aside0 (kq ≤ k) ∧ Aside0 (wc.heap[gb295]? = some (.cells #[.int .i64 a0_0, .int .i64 a0_1, .int .i64 a0_2, .int .i64 a0_3, .string a0_4, (.slice A0_5 l0_5.length c0_5), .int .i64 a0_6, .int .i64 a0_7, .bool a0_8] 41 (0, 0))) ∧ Aside0 (Below w.heap.size w wc))
 case first =>
  have H := HC3.out
  clear HC3
  by_cases c6 : a1 < 0
  ·rw [if_pos c6] at H
   have c6b0 := decide_eq_true c6
   clear c6
   (first | rw [c6b0] | (simp only [i64_w, i32_w]; rw [c6b0]) | rw [c6b1] | skip)
   have H' := Aside0.mk H
   clear H
   go_wp2
   go_meet
   case rel => exact ⟨_, (true), ok_, H', ⟨lo_⟩, ⟨blkW_ BK295⟩, ⟨belW_ HB⟩⟩
  ·rw [if_neg c6] at H
   have c6b0 := decide_eq_false c6
   clear c6
   (first | rw [c6b0] | (simp only [i64_w, i32_w]; rw [c6b0]) | rw [c6b1] | skip)
   have H' := Aside0.mk H
   clear H
   go_wp2
   go_meet
   case rel => exact ⟨_, (decide (a1 > 1048576)), ok_, H', ⟨lo_⟩, ⟨blkW_ BK295⟩, ⟨belW_ HB⟩⟩
 case rest =>
  clear HC3
  try clear hcz5_0
  try clear hcz5_1
  try clear hcz5_2
  try clear hcz5_3
  try clear hcz5_4
  try clear hcz5_5
  try clear hcz5_6
  try clear hcz5_7
  try clear hcz5_8
  try clear hfz5_0
  try clear hfz5_1
  try clear hfz5_2
  try clear hfz5_3
  try clear hfz5_4
  try clear hfz5_5
  try clear hfz5_6
  try clear hfz5_7
  try clear hfz5_8
  obtain ⟨kq, x20_2, rfl, HA, HJ2, BK295, HB⟩ := hcut
  cases kq with
  | zero => exact absurd HA.out (by simp [redraftref04_Check.j0])
  | succ kj2 =>
   have H := HA.out
   clear HA
   simp only [redraftref04_Check.j0] at H
   by_cases c7 : x20_2 = true
   ·subst c7
    have H1 := H; rw [if_pos rfl] at H1
    clear H
    have H := H1
    clear H1
    obtain rfl := Option.some.inj H
    go_wp2
    go_ret
    exact ⟨rs_, belW_ HB⟩
   ·replace c7 := Bool.eq_false_iff.mpr c7
    subst c7
    have H1 := H; rw [if_neg (show ¬ (false = true) by decide)] at H1
    clear H
    have H := H1
    clear H1
    have HC8 := Aside0.mk H
    clear H
    go_upto_region 4 with (fail)
    go_cut [26] (fun v26 wc => ∃ (kq : Nat) (x26_7 : Bool), v26 = .bool x26_7 ∧ Aside0 (redraftref04_Check.j1 kq a1 a0_2 x26_7 a0_0 a0_1 a0_2 a0_3 a0_4 l0_5 a0_6 a0_7 a0_8 = some r) ∧ Aside0 (kq ≤ kj2) ∧ Aside0 (wc.heap[gb295]? = some (.cells #[.int .i64 a0_0, .int .i64 a0_1, .int .i64 a0_2, .int .i64 a0_3, .string a0_4, (.slice A0_5 l0_5.length c0_5), .int .i64 a0_6, .int .i64 a0_7, .bool a0_8] 41 (0, 0))) ∧ Aside0 (Below w.heap.size w wc))
    case first =>
     have H := HC8.out
     clear HC8
     by_cases c9 : a0_2 < 1
     ·rw [if_pos c9] at H
      have c9b0 := decide_eq_true c9
      clear c9
      (first | rw [c9b0] | (simp only [i64_w, i32_w]; rw [c9b0]) | rw [c9b1] | skip)
      have H' := Aside0.mk H
      clear H
      go_wp2
      go_meet
      case rel => exact ⟨_, (true), ok_, H', ⟨lk_ HJ2⟩, ⟨blkW_ BK295⟩, ⟨belW_ HB⟩⟩
     ·rw [if_neg c9] at H
      have c9b0 := decide_eq_false c9
      clear c9
      (first | rw [c9b0] | (simp only [i64_w, i32_w]; rw [c9b0]) | rw [c9b1] | skip)
      have H' := Aside0.mk H
      clear H
      go_wp2
      go_meet
      case rel => exact ⟨_, (decide (a0_2 > 4)), ok_, H', ⟨lk_ HJ2⟩, ⟨blkW_ BK295⟩, ⟨belW_ HB⟩⟩
    case rest =>
     clear HC8
     try clear c1
     try clear p2
     try clear c6
     try clear c6b0
     try clear c6b1
     try clear c7
     try clear hcz5_0
     try clear hcz5_1
     try clear hcz5_2
     try clear hcz5_3
     try clear hcz5_4
     try clear hcz5_5
     try clear hcz5_6
     try clear hcz5_7
     try clear hcz5_8
     try clear hfz5_0
     try clear hfz5_1
     try clear hfz5_2
     try clear hfz5_3
     try clear hfz5_4
     try clear hfz5_5
     try clear hfz5_6
     try clear hfz5_7
     try clear hfz5_8
     try clear p2
     obtain ⟨kq, x26_7, rfl, HA, HJ7, BK295, HB⟩ := hcut
     cases kq with
     | zero => exact absurd HA.out (by simp [redraftref04_Check.j1])
     | succ kj7 =>
      have H := HA.out
      clear HA
      simp only [redraftref04_Check.j1] at H
      by_cases c10 : x26_7 = true
      ·subst c10
       have H1 := H; rw [if_pos rfl] at H1
       clear H
       have H := H1
       clear H1
       obtain rfl := Option.some.inj H
       go_wp2
       go_ret
       exact ⟨rs_, belW_ HB⟩
      ·replace c10 := Bool.eq_false_iff.mpr c10
       subst c10
       have H1 := H; rw [if_neg (show ¬ (false = true) by decide)] at H1
       clear H
       have H := H1
       clear H1
       replace H := Option.bind_eq_some_iff.mp H
       obtain ⟨t296, A110, H⟩ := H
       try dsimp only at H
       have A11 := Aside0.mk A110
       clear A110
       replace H := Option.bind_eq_some_iff.mp H
       obtain ⟨t297, A120, H⟩ := H
       try dsimp only at H
       have A12 := Aside0.mk A120
       clear A120
       have HC13 := Aside0.mk H
       clear H
       obtain ⟨hcz14_0, hcz14_1, hcz14_2, hcz14_3, hcz14_4, hcz14_5, hcz14_6, hcz14_7, hcz14_8, hfz14_0, hfz14_1, hfz14_2, hfz14_3, hfz14_4, hfz14_5, hfz14_6, hfz14_7, hfz14_8⟩ := blk9_ BK295.out
       go_upto_region 8 with (first | ((with_reducible refine gate_callee (f := 119) rfl ?_); refine goS_ 30 rfl Tryd.func119 #[.agg #[.int .i64 a0_0, .int .i64 a0_1]] ?_; (with_reducible refine (redraftref04_IsID.calls a0_0 a0_1 t296 _ A11.out).mono ?_); rintro e w15 ⟨rfl, hb⟩; refine ⟨_, rfl, ?_⟩; replace BK295 := blkB_ BK295 hb; replace HB := belB_ HB hb; try clear hb; obtain ⟨hcz16_0, hcz16_1, hcz16_2, hcz16_3, hcz16_4, hcz16_5, hcz16_6, hcz16_7, hcz16_8, hfz16_0, hfz16_1, hfz16_2, hfz16_3, hfz16_4, hfz16_5, hfz16_6, hfz16_7, hfz16_8⟩ := blk9_ BK295.out) | ((with_reducible refine gate_callee (f := 120) rfl ?_); refine goS_ 34 rfl Tryd.func120 #[.agg #[.int .i64 a0_0, .int .i64 a0_1]] ?_; (with_reducible refine (redraftref04_none.calls a0_0 a0_1 t297 _ A12.out).mono ?_); rintro e w17 ⟨rfl, hb⟩; refine ⟨_, rfl, ?_⟩; replace BK295 := blkB_ BK295 hb; replace HB := belB_ HB hb; try clear hb))
       (try simp only [Act.put, List.setIfInBounds_toArray, List.set_cons_zero, List.set_cons_succ])
       go_cut [40] (fun v40 wc => ∃ (kq : Nat) (x40_12 : Bool), v40 = .bool x40_12 ∧ Aside0 (redraftref04_Check.j2 kq a1 a0_2 x40_12 a0_0 a0_1 a0_2 a0_3 a0_4 l0_5 a0_6 a0_7 a0_8 = some r) ∧ Aside0 (kq ≤ kj7) ∧ Aside0 (wc.heap[gb295]? = some (.cells #[.int .i64 a0_0, .int .i64 a0_1, .int .i64 a0_2, .int .i64 a0_3, .string a0_4, (.slice A0_5 l0_5.length c0_5), .int .i64 a0_6, .int .i64 a0_7, .bool a0_8] 41 (0, 0))) ∧ Aside0 (Below w.heap.size w wc))
       case first =>
        have H := HC13.out
        clear HC13
        by_cases c18 : t296 = true
        ·subst c18
         have H1 := H; rw [if_pos rfl] at H1
         clear H
         have H := H1
         clear H1
         have H' := Aside0.mk H
         clear H
         go_wp2
         go_meet
         case rel => exact ⟨_, (false), ok_, H', ⟨by have := HJ2.out; have := HJ7.out; first | omega | exact Nat.le_refl _⟩, ⟨blkW_ BK295⟩, ⟨belW_ HB⟩⟩
        ·replace c18 := Bool.eq_false_iff.mpr c18
         subst c18
         have H1 := H; rw [if_neg (show ¬ (false = true) by decide)] at H1
         clear H
         have H := H1
         clear H1
         have H' := Aside0.mk H
         clear H
         go_wp2
         go_meet
         case rel => exact ⟨_, (!t297), ok_, H', ⟨by have := HJ2.out; have := HJ7.out; first | omega | exact Nat.le_refl _⟩, ⟨blkW_ BK295⟩, ⟨belW_ HB⟩⟩
       case rest =>
        clear HC13
        try clear c1
        try clear p2
        try clear c6
        try clear c6b0
        try clear c6b1
        try clear c7
        try clear c9
        try clear c9b0
        try clear c9b1
        try clear c10
        try clear hcz14_0
        try clear hcz14_1
        try clear hcz14_2
        try clear hcz14_3
        try clear hcz14_4
        try clear hcz14_5
        try clear hcz14_6
        try clear hcz14_7
        try clear hcz14_8
        try clear hcz16_0
        try clear hcz16_1
        try clear hcz16_2
        try clear hcz16_3
        try clear hcz16_4
        try clear hcz16_5
        try clear hcz16_6
        try clear hcz16_7
        try clear hcz16_8
        try clear hcz5_0
        try clear hcz5_1
        try clear hcz5_2
        try clear hcz5_3
        try clear hcz5_4
        try clear hcz5_5
        try clear hcz5_6
        try clear hcz5_7
        try clear hcz5_8
        try clear hfz14_0
        try clear hfz14_1
        try clear hfz14_2
        try clear hfz14_3
        try clear hfz14_4
        try clear hfz14_5
        try clear hfz14_6
        try clear hfz14_7
        try clear hfz14_8
        try clear hfz16_0
        try clear hfz16_1
        try clear hfz16_2
        try clear hfz16_3
        try clear hfz16_4
        try clear hfz16_5
        try clear hfz16_6
        try clear hfz16_7
        try clear hfz16_8
        try clear hfz5_0
        try clear hfz5_1
        try clear hfz5_2
        try clear hfz5_3
        try clear hfz5_4
        try clear hfz5_5
        try clear hfz5_6
        try clear hfz5_7
        try clear hfz5_8
        try clear p2
        obtain ⟨kq, x40_12, rfl, HA, HJ12, BK295, HB⟩ := hcut
        cases kq with
        | zero => exact absurd HA.out (by simp [redraftref04_Check.j2])
        | succ kj12 =>
         have H := HA.out
         clear HA
         simp only [redraftref04_Check.j2] at H
         by_cases c19 : x40_12 = true
         ·subst c19
          have H1 := H; rw [if_pos rfl] at H1
          clear H
          have H := H1
          clear H1
          obtain rfl := Option.some.inj H
          go_wp2
          go_ret
          exact ⟨rs_, belW_ HB⟩
         ·replace c19 := Bool.eq_false_iff.mpr c19
          subst c19
          have H1 := H; rw [if_neg (show ¬ (false = true) by decide)] at H1
          clear H
          have H := H1
          clear H1
          replace H := Option.bind_eq_some_iff.mp H
          obtain ⟨t298, A200, H⟩ := H
          try dsimp only at H
          have A20 := Aside0.mk A200
          clear A200
          by_cases c21 : t298 = true
          ·subst c21
           have H1 := H; rw [if_pos rfl] at H1
           clear H
           have H := H1
           clear H1
           obtain rfl := Option.some.inj H
           have hz_ := blk9_ BK295.out
           go_wp2_with (((with_reducible refine gate_callee (f := 121) rfl ?_); refine goS_ 42 rfl Tryd.func121 #[.agg #[.int .i64 a0_0, .int .i64 a0_1, .int .i64 a0_2, .int .i64 a0_3, .string a0_4, .slice A0_5 l0_5.length c0_5, .int .i64 a0_6, .int .i64 a0_7, .bool a0_8]] ?_; (with_reducible refine (redraftref04_extra.calls a0_0 a0_1 a0_2 a0_3 a0_4 _ _ l0_5 a0_6 a0_7 a0_8 true _ ?side1 ?side2 A20.out).mono ?_); (case side1 => exact CW_ ((Kd.C_below HR0_5.out HB.out))); (case side2 => exact HC0_5.out); rintro e w23 ⟨rfl, hb⟩; refine ⟨_, rfl, ?_⟩; replace BK295 := blkB_ BK295 hb; replace HB := belB_ HB hb; try clear hb))
           go_ret
           exact ⟨rs_, belW_ HB⟩
          ·replace c21 := Bool.eq_false_iff.mpr c21
           subst c21
           have H1 := H; rw [if_neg (show ¬ (false = true) by decide)] at H1
           clear H
           have H := H1
           clear H1
           by_cases c24 : a0_2 = 1
           ·rw [if_pos c24] at H
            have c24b0 := beq_iff_eq.mpr c24
            have c24b1 := bne_eq_false_iff_eq.mpr c24
            clear c24
            replace H := Option.bind_eq_some_iff.mp H
            obtain ⟨t299, A250, H⟩ := H
            try dsimp only at H
            have A25 := Aside0.mk A250
            clear A250
            obtain rfl := Option.some.inj H
            have hz_ := blk9_ BK295.out
            go_wp2_with (first | ((with_reducible refine gate_callee (f := 121) rfl ?_); refine goS_ 42 rfl Tryd.func121 #[.agg #[.int .i64 a0_0, .int .i64 a0_1, .int .i64 a0_2, .int .i64 a0_3, .string a0_4, .slice A0_5 l0_5.length c0_5, .int .i64 a0_6, .int .i64 a0_7, .bool a0_8]] ?_; (with_reducible refine (redraftref04_extra.calls a0_0 a0_1 a0_2 a0_3 a0_4 _ _ l0_5 a0_6 a0_7 a0_8 false _ ?side1 ?side2 A20.out).mono ?_); (case side1 => exact CW_ ((Kd.C_below HR0_5.out HB.out))); (case side2 => exact HC0_5.out); rintro e w27 ⟨rfl, hb⟩; refine ⟨_, rfl, ?_⟩; replace BK295 := blkB_ BK295 hb; replace HB := belB_ HB hb; try clear hb; have hz_ := blk9_ BK295.out) | ((with_reducible refine gate_callee (f := 122) rfl ?_); refine goS_ 48 rfl Tryd.func122 #[.agg #[.int .i64 a0_0, .int .i64 a0_1, .int .i64 a0_2, .int .i64 a0_3, .string a0_4, .slice A0_5 l0_5.length c0_5, .int .i64 a0_6, .int .i64 a0_7, .bool a0_8], .int .i64 a1] ?_; (with_reducible refine (redraftref04_insert.calls kj12 a0_0 a0_1 a0_2 a0_3 a0_4 _ _ l0_5 a0_6 a0_7 a0_8 a1 t299 _ ?side1 ?side2 A25.out).mono ?_); (case side1 => exact CW_ ((Kd.C_below HR0_5.out HB.out))); (case side2 => exact HC0_5.out); rintro e w29 ⟨rfl, hb⟩; refine ⟨_, rfl, ?_⟩; replace BK295 := blkB_ BK295 hb; replace HB := belB_ HB hb; try clear hb))
            go_ret
            exact ⟨rs_, belW_ HB⟩
           ·rw [if_neg c24] at H
            have c24b0 := beq_eq_false_iff_ne.mpr c24
            have c24b1 := bne_iff_ne.mpr c24
            by_cases c30 : a0_2 = 4
            ·rw [if_pos c30] at H
             have c30b0 := beq_iff_eq.mpr c30
             have c30b1 := bne_eq_false_iff_eq.mpr c30
             clear c30
             replace H := Option.bind_eq_some_iff.mp H
             obtain ⟨t300, A310, H⟩ := H
             try dsimp only at H
             have A31 := Aside0.mk A310
             clear A310
             by_cases c32 : t300 = true
             ·subst c32
              have H1 := H; rw [if_pos rfl] at H1
              clear H
              have H := H1
              clear H1
              by_cases c33 : a0_6 = a0_0
              ·rw [if_pos c33] at H
               have c33b0 := beq_iff_eq.mpr c33
               have c33b1 := bne_eq_false_iff_eq.mpr c33
               clear c33
               by_cases c34 : a0_7 = a0_1
               ·rw [if_pos c34] at H
                have c34b0 := beq_iff_eq.mpr c34
                have c34b1 := bne_eq_false_iff_eq.mpr c34
                clear c34
                obtain rfl := Option.some.inj H
                have hz_ := blk9_ BK295.out
                go_wp2_with (first | ((with_reducible refine gate_callee (f := 121) rfl ?_); refine goS_ 42 rfl Tryd.func121 #[.agg #[.int .i64 a0_0, .int .i64 a0_1, .int .i64 a0_2, .int .i64 a0_3, .string a0_4, .slice A0_5 l0_5.length c0_5, .int .i64 a0_6, .int .i64 a0_7, .bool a0_8]] ?_; (with_reducible refine (redraftref04_extra.calls a0_0 a0_1 a0_2 a0_3 a0_4 _ _ l0_5 a0_6 a0_7 a0_8 false _ ?side1 ?side2 A20.out).mono ?_); (case side1 => exact CW_ ((Kd.C_below HR0_5.out HB.out))); (case side2 => exact HC0_5.out); rintro e w36 ⟨rfl, hb⟩; refine ⟨_, rfl, ?_⟩; replace BK295 := blkB_ BK295 hb; replace HB := belB_ HB hb; try clear hb; have hz_ := blk9_ BK295.out) | ((with_reducible refine gate_callee (f := 119) rfl ?_); refine goS_ 53 rfl Tryd.func119 #[.agg #[.int .i64 a0_6, .int .i64 a0_7]] ?_; (with_reducible refine (redraftref04_IsID.calls a0_6 a0_7 true _ A31.out).mono ?_); rintro e w38 ⟨rfl, hb⟩; refine ⟨_, rfl, ?_⟩; replace BK295 := blkB_ BK295 hb; replace HB := belB_ HB hb; try clear hb; have hz_ := blk9_ BK295.out))
                go_ret
                exact ⟨rs_, belW_ HB⟩
               ·rw [if_neg c34] at H
                have c34b0 := beq_eq_false_iff_ne.mpr c34
                have c34b1 := bne_iff_ne.mpr c34
                obtain rfl := Option.some.inj H
                have hz_ := blk9_ BK295.out
                go_wp2_with (first | ((with_reducible refine gate_callee (f := 121) rfl ?_); refine goS_ 42 rfl Tryd.func121 #[.agg #[.int .i64 a0_0, .int .i64 a0_1, .int .i64 a0_2, .int .i64 a0_3, .string a0_4, .slice A0_5 l0_5.length c0_5, .int .i64 a0_6, .int .i64 a0_7, .bool a0_8]] ?_; (with_reducible refine (redraftref04_extra.calls a0_0 a0_1 a0_2 a0_3 a0_4 _ _ l0_5 a0_6 a0_7 a0_8 false _ ?side1 ?side2 A20.out).mono ?_); (case side1 => exact CW_ ((Kd.C_below HR0_5.out HB.out))); (case side2 => exact HC0_5.out); rintro e w41 ⟨rfl, hb⟩; refine ⟨_, rfl, ?_⟩; replace BK295 := blkB_ BK295 hb; replace HB := belB_ HB hb; try clear hb; have hz_ := blk9_ BK295.out) | ((with_reducible refine gate_callee (f := 119) rfl ?_); refine goS_ 53 rfl Tryd.func119 #[.agg #[.int .i64 a0_6, .int .i64 a0_7]] ?_; (with_reducible refine (redraftref04_IsID.calls a0_6 a0_7 true _ A31.out).mono ?_); rintro e w43 ⟨rfl, hb⟩; refine ⟨_, rfl, ?_⟩; replace BK295 := blkB_ BK295 hb; replace HB := belB_ HB hb; try clear hb; have hz_ := blk9_ BK295.out))
                go_ret
                exact ⟨rs_, belW_ HB⟩
              ·rw [if_neg c33] at H
               have c33b0 := beq_eq_false_iff_ne.mpr c33
               have c33b1 := bne_iff_ne.mpr c33
               obtain rfl := Option.some.inj H
               have hz_ := blk9_ BK295.out
               go_wp2_with (first | ((with_reducible refine gate_callee (f := 121) rfl ?_); refine goS_ 42 rfl Tryd.func121 #[.agg #[.int .i64 a0_0, .int .i64 a0_1, .int .i64 a0_2, .int .i64 a0_3, .string a0_4, .slice A0_5 l0_5.length c0_5, .int .i64 a0_6, .int .i64 a0_7, .bool a0_8]] ?_; (with_reducible refine (redraftref04_extra.calls a0_0 a0_1 a0_2 a0_3 a0_4 _ _ l0_5 a0_6 a0_7 a0_8 false _ ?side1 ?side2 A20.out).mono ?_); (case side1 => exact CW_ ((Kd.C_below HR0_5.out HB.out))); (case side2 => exact HC0_5.out); rintro e w46 ⟨rfl, hb⟩; refine ⟨_, rfl, ?_⟩; replace BK295 := blkB_ BK295 hb; replace HB := belB_ HB hb; try clear hb; have hz_ := blk9_ BK295.out) | ((with_reducible refine gate_callee (f := 119) rfl ?_); refine goS_ 53 rfl Tryd.func119 #[.agg #[.int .i64 a0_6, .int .i64 a0_7]] ?_; (with_reducible refine (redraftref04_IsID.calls a0_6 a0_7 true _ A31.out).mono ?_); rintro e w48 ⟨rfl, hb⟩; refine ⟨_, rfl, ?_⟩; replace BK295 := blkB_ BK295 hb; replace HB := belB_ HB hb; try clear hb; have hz_ := blk9_ BK295.out))
               go_ret
               exact ⟨rs_, belW_ HB⟩
             ·replace c32 := Bool.eq_false_iff.mpr c32
              subst c32
              have H1 := H; rw [if_neg (show ¬ (false = true) by decide)] at H1
              clear H
              have H := H1
              clear H1
              obtain rfl := Option.some.inj H
              have hz_ := blk9_ BK295.out
              go_wp2_with (first | ((with_reducible refine gate_callee (f := 121) rfl ?_); refine goS_ 42 rfl Tryd.func121 #[.agg #[.int .i64 a0_0, .int .i64 a0_1, .int .i64 a0_2, .int .i64 a0_3, .string a0_4, .slice A0_5 l0_5.length c0_5, .int .i64 a0_6, .int .i64 a0_7, .bool a0_8]] ?_; (with_reducible refine (redraftref04_extra.calls a0_0 a0_1 a0_2 a0_3 a0_4 _ _ l0_5 a0_6 a0_7 a0_8 false _ ?side1 ?side2 A20.out).mono ?_); (case side1 => exact CW_ ((Kd.C_below HR0_5.out HB.out))); (case side2 => exact HC0_5.out); rintro e w51 ⟨rfl, hb⟩; refine ⟨_, rfl, ?_⟩; replace BK295 := blkB_ BK295 hb; replace HB := belB_ HB hb; try clear hb; have hz_ := blk9_ BK295.out) | ((with_reducible refine gate_callee (f := 119) rfl ?_); refine goS_ 53 rfl Tryd.func119 #[.agg #[.int .i64 a0_6, .int .i64 a0_7]] ?_; (with_reducible refine (redraftref04_IsID.calls a0_6 a0_7 false _ A31.out).mono ?_); rintro e w53 ⟨rfl, hb⟩; refine ⟨_, rfl, ?_⟩; replace BK295 := blkB_ BK295 hb; replace HB := belB_ HB hb; try clear hb))
              go_ret
              exact ⟨rs_, belW_ HB⟩
            ·rw [if_neg c30] at H
             have c30b0 := beq_eq_false_iff_ne.mpr c30
             have c30b1 := bne_iff_ne.mpr c30
             by_cases c54 : (l0_5.length : Int) = 0
             ·rw [if_pos c54] at H
              have c54b0 := beq_iff_eq.mpr c54
              have c54b1 := bne_eq_false_iff_eq.mpr c54
              clear c54
              obtain rfl := Option.some.inj H
              have hz_ := blk9_ BK295.out
              go_wp2_with (((with_reducible refine gate_callee (f := 121) rfl ?_); refine goS_ 42 rfl Tryd.func121 #[.agg #[.int .i64 a0_0, .int .i64 a0_1, .int .i64 a0_2, .int .i64 a0_3, .string a0_4, .slice A0_5 l0_5.length c0_5, .int .i64 a0_6, .int .i64 a0_7, .bool a0_8]] ?_; (with_reducible refine (redraftref04_extra.calls a0_0 a0_1 a0_2 a0_3 a0_4 _ _ l0_5 a0_6 a0_7 a0_8 false _ ?side1 ?side2 A20.out).mono ?_); (case side1 => exact CW_ ((Kd.C_below HR0_5.out HB.out))); (case side2 => exact HC0_5.out); rintro e w56 ⟨rfl, hb⟩; refine ⟨_, rfl, ?_⟩; replace BK295 := blkB_ BK295 hb; replace HB := belB_ HB hb; try clear hb; have hz_ := blk9_ BK295.out))
              go_ret
              exact ⟨rs_, belW_ HB⟩
             ·rw [if_neg c54] at H
              have c54b0 := beq_eq_false_iff_ne.mpr c54
              have c54b1 := bne_iff_ne.mpr c54
              have c54b2 : ¬ (l0_5 = []) := fun h_ => c54 (by rw [h_]; rfl)
              replace H := Option.bind_eq_some_iff.mp H
              obtain ⟨⟨t301, t302⟩, A580, H⟩ := H
              try dsimp only at H
              have A58 := Aside0.mk A580
              clear A580
              by_cases c59 : t302 = 0
              ·rw [if_pos c59] at H
               have c59b0 := beq_iff_eq.mpr c59
               have c59b1 := bne_eq_false_iff_eq.mpr c59
               clear c59
               obtain ⟨ji60, hji60⟩ : ∃ j_ : Int, (wrap64 ((l0_5.length : Int) - 1)) = j_ := ⟨_, rfl⟩
               replace H : (if 0 ≤ (ji60) then (if (ji60) < (l0_5.length : Int) then (if ((rd_T94 l0_5 (ji60)).f1) > a1 then (some 12) else (some t302)) else (none)) else (none)) = some r := by first | (rw [hji60] at H; exact H) | (simp only [hji60] at H ⊢; exact H)
               (try rw [hji60] at A20)
               (try rw [hji60] at A58)
               have hji60w : (IntKind.i64.wrap ((l0_5.length : Int) - 1)) = ji60 := (i64_w _).trans hji60
               by_cases c61 : 0 ≤ (ji60)
               ·rw [if_pos c61] at H
                have c61b0 := decide_eq_true c61
                clear c61
                by_cases c62 : (ji60) < (l0_5.length : Int)
                ·rw [if_pos c62] at H
                 have c62b0 := decide_eq_true c62
                 clear c62
                 by_cases c63 : ((rd_T94 l0_5 (ji60)).f1) > a1
                 ·rw [if_pos c63] at H
                  have c63b0 : decide (a1 < ((rd_T94 l0_5 (ji60)).f1)) = true := decide_eq_true c63
                  clear c63
                  obtain rfl := Option.some.inj H
                  have hz_ := blk9_ BK295.out
                  go_wp2_with (first | ((with_reducible refine gate_callee (f := 121) rfl ?_); refine goS_ 42 rfl Tryd.func121 #[.agg #[.int .i64 a0_0, .int .i64 a0_1, .int .i64 a0_2, .int .i64 a0_3, .string a0_4, .slice A0_5 l0_5.length c0_5, .int .i64 a0_6, .int .i64 a0_7, .bool a0_8]] ?_; (with_reducible refine (redraftref04_extra.calls a0_0 a0_1 a0_2 a0_3 a0_4 _ _ l0_5 a0_6 a0_7 a0_8 false _ ?side1 ?side2 A20.out).mono ?_); (case side1 => exact CW_ ((Kd.C_below HR0_5.out HB.out))); (case side2 => exact HC0_5.out); rintro e w65 ⟨rfl, hb⟩; refine ⟨_, rfl, ?_⟩; replace BK295 := blkB_ BK295 hb; replace HB := belB_ HB hb; try clear hb; have hz_ := blk9_ BK295.out) | ((with_reducible refine gate_callee (f := 123) rfl ?_); refine goS_ 83 rfl Tryd.func123 #[.slice A0_5 l0_5.length c0_5] ?_; (with_reducible refine (redraftref02_Check.calls kj12 _ _ l0_5 t301 t302 _ ?side1 ?side2 A58.out).mono ?_); (case side1 => exact CW_ ((Kd.C_below HR0_5.out HB.out))); (case side2 => exact HC0_5.out); rintro e w' ⟨rfl, ⟨nd, rfl⟩⟩; refine ⟨_, rfl, ?_⟩; have p303 := dz_ ((ji60) : Int); have q303 := dl_ (ji60) (l0_5.length : Int); obtain ⟨ad303, e303, hx303_0, hx303_1⟩ := at_T94 HR0_5.out (ji60) p303 q303; cases e303; replace hx303_0 := pw_cell_below HB.out hx303_0; replace hx303_1 := pw_cell_below HB.out hx303_1; replace p303 := eq_true p303; replace q303 := eq_true q303))
                  go_ret
                  exact ⟨by first | rfl | (simp only [← hji60]; first | rfl) | (simp [*] <;> rfl), belW_ HB⟩
                 ·rw [if_neg c63] at H
                  have c63b0 : decide (a1 < ((rd_T94 l0_5 (ji60)).f1)) = false := decide_eq_false c63
                  clear c63
                  obtain rfl := Option.some.inj H
                  have hz_ := blk9_ BK295.out
                  go_wp2_with (first | ((with_reducible refine gate_callee (f := 121) rfl ?_); refine goS_ 42 rfl Tryd.func121 #[.agg #[.int .i64 a0_0, .int .i64 a0_1, .int .i64 a0_2, .int .i64 a0_3, .string a0_4, .slice A0_5 l0_5.length c0_5, .int .i64 a0_6, .int .i64 a0_7, .bool a0_8]] ?_; (with_reducible refine (redraftref04_extra.calls a0_0 a0_1 a0_2 a0_3 a0_4 _ _ l0_5 a0_6 a0_7 a0_8 false _ ?side1 ?side2 A20.out).mono ?_); (case side1 => exact CW_ ((Kd.C_below HR0_5.out HB.out))); (case side2 => exact HC0_5.out); rintro e w68 ⟨rfl, hb⟩; refine ⟨_, rfl, ?_⟩; replace BK295 := blkB_ BK295 hb; replace HB := belB_ HB hb; try clear hb; have hz_ := blk9_ BK295.out) | ((with_reducible refine gate_callee (f := 123) rfl ?_); refine goS_ 83 rfl Tryd.func123 #[.slice A0_5 l0_5.length c0_5] ?_; (with_reducible refine (redraftref02_Check.calls kj12 _ _ l0_5 t301 t302 _ ?side1 ?side2 A58.out).mono ?_); (case side1 => exact CW_ ((Kd.C_below HR0_5.out HB.out))); (case side2 => exact HC0_5.out); rintro e w' ⟨rfl, ⟨nd, rfl⟩⟩; refine ⟨_, rfl, ?_⟩; have p303 := dz_ ((ji60) : Int); have q303 := dl_ (ji60) (l0_5.length : Int); obtain ⟨ad303, e303, hx303_0, hx303_1⟩ := at_T94 HR0_5.out (ji60) p303 q303; cases e303; replace hx303_0 := pw_cell_below HB.out hx303_0; replace hx303_1 := pw_cell_below HB.out hx303_1; replace p303 := eq_true p303; replace q303 := eq_true q303))
                  go_ret
                  exact ⟨by first | rfl | (simp only [← hji60]; first | rfl) | (simp [*] <;> rfl), belW_ HB⟩
                ·rw [if_neg c62] at H
                 exact absurd H (by simp)
               ·rw [if_neg c61] at H
                exact absurd H (by simp)
              ·rw [if_neg c59] at H
               have c59b0 := beq_eq_false_iff_ne.mpr c59
               have c59b1 := bne_iff_ne.mpr c59
               obtain rfl := Option.some.inj H
               have hz_ := blk9_ BK295.out
               go_wp2_with (first | ((with_reducible refine gate_callee (f := 121) rfl ?_); refine goS_ 42 rfl Tryd.func121 #[.agg #[.int .i64 a0_0, .int .i64 a0_1, .int .i64 a0_2, .int .i64 a0_3, .string a0_4, .slice A0_5 l0_5.length c0_5, .int .i64 a0_6, .int .i64 a0_7, .bool a0_8]] ?_; (with_reducible refine (redraftref04_extra.calls a0_0 a0_1 a0_2 a0_3 a0_4 _ _ l0_5 a0_6 a0_7 a0_8 false _ ?side1 ?side2 A20.out).mono ?_); (case side1 => exact CW_ ((Kd.C_below HR0_5.out HB.out))); (case side2 => exact HC0_5.out); rintro e w71 ⟨rfl, hb⟩; refine ⟨_, rfl, ?_⟩; replace BK295 := blkB_ BK295 hb; replace HB := belB_ HB hb; try clear hb; have hz_ := blk9_ BK295.out) | ((with_reducible refine gate_callee (f := 123) rfl ?_); refine goS_ 83 rfl Tryd.func123 #[.slice A0_5 l0_5.length c0_5] ?_; (with_reducible refine (redraftref02_Check.calls kj12 _ _ l0_5 t301 t302 _ ?side1 ?side2 A58.out).mono ?_); (case side1 => exact CW_ ((Kd.C_below HR0_5.out HB.out))); (case side2 => exact HC0_5.out); rintro e w' ⟨rfl, ⟨nd, rfl⟩⟩; refine ⟨_, rfl, ?_⟩))
               go_ret
               exact ⟨rs_, belW_ HB⟩

end Go.Proofs.YtloccjkcmlkifaaDoor.PAll
