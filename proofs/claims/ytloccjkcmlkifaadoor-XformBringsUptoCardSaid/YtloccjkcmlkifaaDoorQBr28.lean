/- XformBrings_card, part 28. -/
import Derived.Test.YtloccjkcmlkifaaDoorQBr19
import Derived.Test.YtloccjkcmlkifaaDoorQBr20

namespace Go.Proofs.YtloccjkcmlkifaaDoor.PAll
open Go.RowKit Go.Proofs.YtloccjkcmlkifaaDoorW.PrintWords Go.Proofs.YtloccjkcmlkifaaDoorW.PrintLast Go.Proofs.YtloccjkcmlkifaaDoorW.PrintMore
attribute [local go_sem] max2_int min2_int max_two min_two max_three min_three max_four min_four   -- for this text's walks alone
set_option linter.unusedVariables false
set_option linter.unusedSimpArgs false

attribute [local go_sem high] idx34_0 idx34_1 idx35_0 idx35_1
def redraftref04_insert.j0 : Nat → Int → Int → Bool → Option (Int)
 | 0, _, _, _ => none
 | k + 1, x1, x5, x25 => if x25 = true then (some 12) else (if (wrap64 (x1 + x5)) > 1048576 then (some 24) else (some 0))
def redraftref04_insert.f (k : Nat) (a0_0 : Int) (a0_1 : Int) (a0_2 : Int) (a0_3 : Int) (a0_4 : ByteArray) (l0_5 : List (S94)) (a0_6 : Int) (a0_7 : Int) (a0_8 : Bool) (a1 : Int) : Option (Int) := (redraftref01_Check.f k a0_4).bind fun bt286 => (if bt286.2.2 = 0 then (if bt286.1 = 0 then (some 15) else (if bt286.1 > 256 then (some 14) else (if a0_3 < 0 then (redraftref04_insert.j0 k a1 bt286.1 true) else (redraftref04_insert.j0 k a1 bt286.1 (decide (a0_3 > a1)))))) else (some bt286.2.2))
set_option maxHeartbeats 8000000 in
set_option maxRecDepth 100000 in
theorem redraftref04_insert.calls (k : Nat) (a0_0 : Int) (a0_1 : Int) (a0_2 : Int) (a0_3 : Int) (a0_4 : ByteArray) (A0_5 : Option Addr) (c0_5 : Nat) (l0_5 : List (S94)) (a0_6 : Int) (a0_7 : Int) (a0_8 : Bool) (a1 : Int) (r : Int) (w : World) (hr0_5 : Kd.C k94 w A0_5 l0_5.length l0_5) (hc0_5 : l0_5.length ≤ c0_5) (h : redraftref04_insert.f k a0_0 a0_1 a0_2 a0_3 a0_4 l0_5 a0_6 a0_7 a0_8 a1 = some r) :
 Calls Tryd.prog 122 #[.agg #[.int .i64 a0_0, .int .i64 a0_1, .int .i64 a0_2, .int .i64 a0_3, .string a0_4, .slice A0_5 l0_5.length c0_5, .int .i64 a0_6, .int .i64 a0_7, .bool a0_8], .int .i64 a1] w fun e w' => e = .returned (.int .i64 r) ∧ Below w.heap.size w w' := by
 have hu41 := Tryd.underlying41
 have HR0_5 := Aside0.mk hr0_5
 have HC0_5 := Aside0.mk hc0_5
 clear hr0_5 hc0_5
 have HB := Aside0.mk (Below.refl w.heap.size w)
 have H : ((redraftref01_Check.f k a0_4).bind fun bt286 => (if bt286.2.2 = 0 then (if bt286.1 = 0 then (some 15) else (if bt286.1 > 256 then (some 14) else (if a0_3 < 0 then (redraftref04_insert.j0 k a1 bt286.1 true) else (redraftref04_insert.j0 k a1 bt286.1 (decide (a0_3 > a1)))))) else (some bt286.2.2))) = some r := h
 clear h
 replace H := Option.bind_eq_some_iff.mp H
 obtain ⟨⟨t286, t287, t288⟩, A30, H⟩ := H
 try dsimp only at H
 have A3 := Aside0.mk A30
 clear A30
 by_cases c4 : t288 = 0
 ·rw [if_pos c4] at H
  have c4b0 := beq_iff_eq.mpr c4
  have c4b1 := bne_eq_false_iff_eq.mpr c4
  clear c4
  by_cases c5 : t286 = 0
  ·rw [if_pos c5] at H
   have c5b0 := beq_iff_eq.mpr c5
   have c5b1 := bne_eq_false_iff_eq.mpr c5
   clear c5
   obtain rfl := Option.some.inj H
   go_enter Tryd.func122, Tryd.ntmps122
   go_wp2_with (first | ((with_reducible refine gate_dst (N := 2) rfl ?_); refine bxE_ 2 41 #[.int .i64 a0_0, .int .i64 a0_1, .int .i64 a0_2, .int .i64 a0_3, .string a0_4, .slice A0_5 l0_5.length c0_5, .int .i64 a0_6, .int .i64 a0_7, .bool a0_8] ?_; intro gb285 hg w6 hbox hb; have BK285 := Aside0.mk (hbox); have GW285 := gee_ hg HB; have GE285 := gee_ hg HB; replace HB := belB_ HB hb; clear hb hbox hg; obtain ⟨hcz7_0, hcz7_1, hcz7_2, hcz7_3, hcz7_4, hcz7_5, hcz7_6, hcz7_7, hcz7_8, hfz7_0, hfz7_1, hfz7_2, hfz7_3, hfz7_4, hfz7_5, hfz7_6, hfz7_7, hfz7_8⟩ := blk9_ BK285.out) | ((with_reducible refine gate_callee (f := 115) rfl ?_); refine goS_ 11 rfl Tryd.func115 #[.string a0_4] ?_; (with_reducible refine (redraftref01_Check.calls k a0_4 t286 t287 t288 _ A3.out).mono ?_); rintro e w8 ⟨rfl, hb⟩; refine ⟨_, rfl, ?_⟩; replace BK285 := blkB_ BK285 hb; replace HB := belB_ HB hb; try clear hb))
   go_ret
   exact ⟨rs_, belW_ HB⟩
  ·rw [if_neg c5] at H
   have c5b0 := beq_eq_false_iff_ne.mpr c5
   have c5b1 := bne_iff_ne.mpr c5
   by_cases c9 : t286 > 256
   ·rw [if_pos c9] at H
    have c9b0 : decide (256 < t286) = true := decide_eq_true c9
    clear c9
    obtain rfl := Option.some.inj H
    go_enter Tryd.func122, Tryd.ntmps122
    go_wp2_with (first | ((with_reducible refine gate_dst (N := 2) rfl ?_); refine bxE_ 2 41 #[.int .i64 a0_0, .int .i64 a0_1, .int .i64 a0_2, .int .i64 a0_3, .string a0_4, .slice A0_5 l0_5.length c0_5, .int .i64 a0_6, .int .i64 a0_7, .bool a0_8] ?_; intro gb285 hg w10 hbox hb; have BK285 := Aside0.mk (hbox); have GW285 := gee_ hg HB; have GE285 := gee_ hg HB; replace HB := belB_ HB hb; clear hb hbox hg; obtain ⟨hcz11_0, hcz11_1, hcz11_2, hcz11_3, hcz11_4, hcz11_5, hcz11_6, hcz11_7, hcz11_8, hfz11_0, hfz11_1, hfz11_2, hfz11_3, hfz11_4, hfz11_5, hfz11_6, hfz11_7, hfz11_8⟩ := blk9_ BK285.out) | ((with_reducible refine gate_callee (f := 115) rfl ?_); refine goS_ 11 rfl Tryd.func115 #[.string a0_4] ?_; (with_reducible refine (redraftref01_Check.calls k a0_4 t286 t287 t288 _ A3.out).mono ?_); rintro e w12 ⟨rfl, hb⟩; refine ⟨_, rfl, ?_⟩; replace BK285 := blkB_ BK285 hb; replace HB := belB_ HB hb; try clear hb))
    go_ret
    exact ⟨rs_, belW_ HB⟩
   ·rw [if_neg c9] at H
    have c9b0 : decide (256 < t286) = false := decide_eq_false c9
    clear c9
    have HC13 := Aside0.mk H
    clear H
    go_enter Tryd.func122, Tryd.ntmps122
    go_upto_region 8 with (first | ((with_reducible refine gate_dst (N := 2) rfl ?_); refine bxE_ 2 41 #[.int .i64 a0_0, .int .i64 a0_1, .int .i64 a0_2, .int .i64 a0_3, .string a0_4, .slice A0_5 l0_5.length c0_5, .int .i64 a0_6, .int .i64 a0_7, .bool a0_8] ?_; intro gb285 hg w14 hbox hb; have BK285 := Aside0.mk (hbox); have GW285 := gee_ hg HB; have GE285 := gee_ hg HB; replace HB := belB_ HB hb; clear hb hbox hg; obtain ⟨hcz15_0, hcz15_1, hcz15_2, hcz15_3, hcz15_4, hcz15_5, hcz15_6, hcz15_7, hcz15_8, hfz15_0, hfz15_1, hfz15_2, hfz15_3, hfz15_4, hfz15_5, hfz15_6, hfz15_7, hfz15_8⟩ := blk9_ BK285.out) | ((with_reducible refine gate_callee (f := 115) rfl ?_); refine goS_ 11 rfl Tryd.func115 #[.string a0_4] ?_; (with_reducible refine (redraftref01_Check.calls k a0_4 t286 t287 t288 _ A3.out).mono ?_); rintro e w16 ⟨rfl, hb⟩; refine ⟨_, rfl, ?_⟩; replace BK285 := blkB_ BK285 hb; replace HB := belB_ HB hb; try clear hb))
    (try simp only [Act.put, List.setIfInBounds_toArray, List.set_cons_zero, List.set_cons_succ])
    go_cut [25] (fun v25 wc => ∃ (kq : Nat) (x25_12 : Bool), v25 = .bool x25_12 ∧ Aside0 (redraftref04_insert.j0 kq a1 t286 x25_12 = some r) ∧ Aside0 (kq ≤ k) ∧ Aside0 (wc.heap[gb285]? = some (.cells #[.int .i64 a0_0, .int .i64 a0_1, .int .i64 a0_2, .int .i64 a0_3, .string a0_4, (.slice A0_5 l0_5.length c0_5), .int .i64 a0_6, .int .i64 a0_7, .bool a0_8] 41 (0, 0))) ∧ Aside0 (Below w.heap.size w wc))
    case first =>
     have H := HC13.out
     clear HC13
     by_cases c17 : a0_3 < 0
     ·rw [if_pos c17] at H
      have c17b0 := decide_eq_true c17
      clear c17
      (first | rw [c17b0] | (simp only [i64_w, i32_w]; rw [c17b0]) | rw [c17b1] | skip)
      have H' := Aside0.mk H
      clear H
      have hz_ := blk9_ BK285.out
      go_wp2
      go_meet
      case rel => exact ⟨_, (true), ok_, H', ⟨lo_⟩, ⟨blkW_ BK285⟩, ⟨belW_ HB⟩⟩
     ·rw [if_neg c17] at H
      have c17b0 := decide_eq_false c17
      clear c17
      (first | rw [c17b0] | (simp only [i64_w, i32_w]; rw [c17b0]) | rw [c17b1] | skip)
      have H' := Aside0.mk H
      clear H
      have hz_ := blk9_ BK285.out
      go_wp2
      go_meet
      case rel => exact ⟨_, (decide (a0_3 > a1)), ok_, H', ⟨lo_⟩, ⟨blkW_ BK285⟩, ⟨belW_ HB⟩⟩
    case rest =>
     clear HC13
     try clear c4
     try clear c4b0
     try clear c4b1
     try clear c5
     try clear c5b0
     try clear c5b1
     try clear c9
     try clear c9b0
     try clear hcz11_0
     try clear hcz11_1
     try clear hcz11_2
     try clear hcz11_3
     try clear hcz11_4
     try clear hcz11_5
     try clear hcz11_6
     try clear hcz11_7
     try clear hcz11_8
     try clear hcz15_0
     try clear hcz15_1
     try clear hcz15_2
     try clear hcz15_3
     try clear hcz15_4
     try clear hcz15_5
     try clear hcz15_6
     try clear hcz15_7
     try clear hcz15_8
     try clear hcz7_0
     try clear hcz7_1
     try clear hcz7_2
     try clear hcz7_3
     try clear hcz7_4
     try clear hcz7_5
     try clear hcz7_6
     try clear hcz7_7
     try clear hcz7_8
     try clear hfz11_0
     try clear hfz11_1
     try clear hfz11_2
     try clear hfz11_3
     try clear hfz11_4
     try clear hfz11_5
     try clear hfz11_6
     try clear hfz11_7
     try clear hfz11_8
     try clear hfz15_0
     try clear hfz15_1
     try clear hfz15_2
     try clear hfz15_3
     try clear hfz15_4
     try clear hfz15_5
     try clear hfz15_6
     try clear hfz15_7
     try clear hfz15_8
     try clear hfz7_0
     try clear hfz7_1
     try clear hfz7_2
     try clear hfz7_3
     try clear hfz7_4
     try clear hfz7_5
     try clear hfz7_6
     try clear hfz7_7
     try clear hfz7_8
     obtain ⟨kq, x25_12, rfl, HA, HJ12, BK285, HB⟩ := hcut
     cases kq with
     | zero => exact absurd HA.out (by simp [redraftref04_insert.j0])
     | succ kj12 =>
      have H := HA.out
      clear HA
      simp only [redraftref04_insert.j0] at H
      by_cases c20 : x25_12 = true
      ·subst c20
       have H1 := H; rw [if_pos rfl] at H1
       clear H
       have H := H1
       clear H1
       obtain rfl := Option.some.inj H
       go_wp2
       go_ret
       exact ⟨rs_, belW_ HB⟩
      ·replace c20 := Bool.eq_false_iff.mpr c20
       subst c20
       have H1 := H; rw [if_neg (show ¬ (false = true) by decide)] at H1
       clear H
       have H := H1
       clear H1
       by_cases c21 : (wrap64 (a1 + t286)) > 1048576
       ·rw [if_pos c21] at H
        have c21b0 : decide (1048576 < (wrap64 (a1 + t286))) = true := decide_eq_true c21
        clear c21
        obtain rfl := Option.some.inj H
        go_wp2
        go_ret
        exact ⟨rs_, belW_ HB⟩
       ·rw [if_neg c21] at H
        have c21b0 : decide (1048576 < (wrap64 (a1 + t286))) = false := decide_eq_false c21
        clear c21
        obtain rfl := Option.some.inj H
        go_wp2
        go_ret
        exact ⟨rs_, belW_ HB⟩
 ·rw [if_neg c4] at H
  have c4b0 := beq_eq_false_iff_ne.mpr c4
  have c4b1 := bne_iff_ne.mpr c4
  obtain rfl := Option.some.inj H
  go_enter Tryd.func122, Tryd.ntmps122
  go_wp2_with (first | ((with_reducible refine gate_dst (N := 2) rfl ?_); refine bxE_ 2 41 #[.int .i64 a0_0, .int .i64 a0_1, .int .i64 a0_2, .int .i64 a0_3, .string a0_4, .slice A0_5 l0_5.length c0_5, .int .i64 a0_6, .int .i64 a0_7, .bool a0_8] ?_; intro gb285 hg w22 hbox hb; have BK285 := Aside0.mk (hbox); have GW285 := gee_ hg HB; have GE285 := gee_ hg HB; replace HB := belB_ HB hb; clear hb hbox hg; have hz_ := blk9_ BK285.out) | ((with_reducible refine gate_callee (f := 115) rfl ?_); refine goS_ 11 rfl Tryd.func115 #[.string a0_4] ?_; (with_reducible refine (redraftref01_Check.calls k a0_4 t286 t287 t288 _ A3.out).mono ?_); rintro e w24 ⟨rfl, hb⟩; refine ⟨_, rfl, ?_⟩; replace BK285 := blkB_ BK285 hb; replace HB := belB_ HB hb; try clear hb))
  go_ret
  exact ⟨rs_, belW_ HB⟩

mutual
def redraftref02_Check.l0 : Nat → List (S94) → Int → Option (Int × Int)
 | 0, _, _ => none
 | k + 1, x0, x4 => if x4 < (x0.length : Int) then (if 0 ≤ x4 then (if ((rd_T94 x0 x4).f0) < 0 then (redraftref02_Check.j1 k x0 x4 true) else (if ((rd_T94 x0 x4).f1) > 1048576 then (redraftref02_Check.j1 k x0 x4 true) else (redraftref02_Check.j1 k x0 x4 (decide (((rd_T94 x0 x4).f0) ≥ ((rd_T94 x0 x4).f1)))))) else (none)) else (some (0, 0))
def redraftref02_Check.j1 : Nat → List (S94) → Int → Bool → Option (Int × Int)
 | 0, _, _, _ => none
 | k + 1, x0, x4, x40 => if x40 = true then (some (x4, 20)) else (if x4 > 0 then (if 0 ≤ x4 then (if x4 < (x0.length : Int) then (if 0 ≤ (wrap64 (x4 - 1)) then (if (wrap64 (x4 - 1)) < (x0.length : Int) then (if ((rd_T94 x0 x4).f0) ≤ ((rd_T94 x0 (wrap64 (x4 - 1))).f1) then (some (x4, 22)) else (redraftref02_Check.l0 k x0 (wrap64 (x4 + 1)))) else (none)) else (none)) else (none)) else (none)) else (redraftref02_Check.l0 k x0 (wrap64 (x4 + 1))))
end
def redraftref02_Check.f (k : Nat) (l0 : List (S94)) : Option (Int × Int) := if (l0.length : Int) > 32768 then (some (32768, 21)) else (redraftref02_Check.l0 k l0 0)
set_option maxHeartbeats 8000000 in
set_option maxRecDepth 100000 in
theorem redraftref02_Check.calls (k : Nat) (A0 : Option Addr) (c0 : Nat) (l0 : List (S94)) (r1 : Int) (r2 : Int) (w : World) (hr0 : Kd.C k94 w A0 l0.length l0) (hc0 : l0.length ≤ c0) (h : redraftref02_Check.f k l0 = some (r1, r2)) :
 Calls Tryd.prog 123 #[.slice A0 l0.length c0] w fun e w' => e = .returned (.tuple #[.int .i64 r1, .int .i64 r2]) ∧ Drawn0 w w' := by
 have HR0 := Aside0.mk hr0
 have HC0 := Aside0.mk hc0
 clear hr0 hc0
 have H : (if (l0.length : Int) > 32768 then (some (32768, 21)) else (redraftref02_Check.l0 k l0 0)) = some (r1, r2) := h
 clear h
 by_cases c2 : (l0.length : Int) > 32768
 ·rw [if_pos c2] at H
  have c2b0 : decide (32768 < (l0.length : Int)) = true := decide_eq_true c2
  have c2b1 : decide (32768 < l0.length) = true := decide_eq_true (by omega)
  clear c2
  simp only [Option.some.injEq, Prod.mk.injEq] at H
  obtain ⟨rfl, rfl⟩ := H
  go_enter Tryd.func123, Tryd.ntmps123
  go_wp2
  repeat (go_quiet (fail); try go_wp2)
  go_ret2
  exact ⟨ok_, dr_⟩
 ·rw [if_neg c2] at H
  have c2b0 : decide (32768 < (l0.length : Int)) = false := decide_eq_false c2
  have c2b1 : decide (32768 < l0.length) = false := decide_eq_false (by omega)
  clear c2
  have H' := Aside0.mk H
  clear H
  go_enter Tryd.func123, Tryd.ntmps123
  go_wp2
  repeat (go_quiet (fail); try go_wp2)
  go_loopg [4] k (fun kq v4 w' => ∃ (x4_1 : Int), v4 = .int .i64 x4_1 ∧ Aside0 (redraftref02_Check.l0 kq l0 x4_1 = some (r1, r2)) ∧ Aside0 (kq ≤ k) ∧ Drawn0 w w')
  case atStart => exact ⟨(0), ok_, H', ⟨Nat.le_refl _⟩, dr_⟩
  case round =>
   clear H'
   try clear c1
   try clear c2
   try clear c2b0
   try clear c2b1
   try clear p2
   obtain ⟨x4_1, rfl, HA, HK1, ⟨m1, rfl⟩⟩ := hrel
   cases gk with
   | zero => exact absurd HA.out (by simp [redraftref02_Check.l0])
   | succ k1 =>
    have H := HA.out
    clear HA
    simp only [redraftref02_Check.l0] at H
    by_cases c3 : x4_1 < (l0.length : Int)
    ·rw [if_pos c3] at H
     have c3b0 := decide_eq_true c3
     clear c3
     have HC4 := Aside0.mk H
     clear H
     go_upto_region 6 with (fail)
     repeat (go_quiet (fail); go_upto_region 6 with (fail))
     go_cut [40] (fun v40 wc => ∃ (kq : Nat) (x40_3 : Bool), v40 = .bool x40_3 ∧ Aside0 (redraftref02_Check.j1 kq l0 x4_1 x40_3 = some (r1, r2)) ∧ Aside0 (kq ≤ k1) ∧ Drawn0 w wc)
     case first =>
      have H := HC4.out
      clear HC4
      by_cases c5 : 0 ≤ x4_1
      ·rw [if_pos c5] at H
       have c5b0 := decide_eq_true c5
       clear c5
       (first | rw [c5b0] | (simp only [i64_w, i32_w]; rw [c5b0]) | rw [c5b1] | skip)
       by_cases c6 : ((rd_T94 l0 x4_1).f0) < 0
       ·rw [if_pos c6] at H
        have c6b0 := decide_eq_true c6
        clear c6
        have H' := Aside0.mk H
        clear H
        have p289 := dz_ (x4_1 : Int)
        have q289 := dl_ x4_1 (l0.length : Int)
        obtain ⟨ad289, e289, hx289_0, hx289_1⟩ := at_T94 HR0.out x4_1 p289 q289
        cases e289
        replace p289 := eq_true p289
        replace q289 := eq_true q289
        go_wp2
        repeat (go_quiet (fail); try go_wp2)
        go_meet
        case rel => exact ⟨_, (true), ok_, H', ⟨lk_ HK1⟩, dr_⟩
       ·rw [if_neg c6] at H
        have c6b0 := decide_eq_false c6
        clear c6
        by_cases c7 : ((rd_T94 l0 x4_1).f1) > 1048576
        ·rw [if_pos c7] at H
         have c7b0 : decide (1048576 < ((rd_T94 l0 x4_1).f1)) = true := decide_eq_true c7
         clear c7
         have H' := Aside0.mk H
         clear H
         have p289 := dz_ (x4_1 : Int)
         have q289 := dl_ x4_1 (l0.length : Int)
         obtain ⟨ad289, e289, hx289_0, hx289_1⟩ := at_T94 HR0.out x4_1 p289 q289
         cases e289
         replace p289 := eq_true p289
         replace q289 := eq_true q289
         have p290 := dz_ (x4_1 : Int)
         have q290 := dl_ x4_1 (l0.length : Int)
         obtain ⟨ad290, e290, hx290_0, hx290_1⟩ := at_T94 HR0.out x4_1 p290 q290
         obtain rfl : ad289 = ad290 := (by injection e290)
         replace p290 := eq_true p290
         replace q290 := eq_true q290
         go_wp2
         repeat (go_quiet (fail); try go_wp2)
         go_meet
         case rel => exact ⟨_, (true), ok_, H', ⟨lk_ HK1⟩, dr_⟩
        ·rw [if_neg c7] at H
         have c7b0 : decide (1048576 < ((rd_T94 l0 x4_1).f1)) = false := decide_eq_false c7
         clear c7
         have H' := Aside0.mk H
         clear H
         have p289 := dz_ (x4_1 : Int)
         have q289 := dl_ x4_1 (l0.length : Int)
         obtain ⟨ad289, e289, hx289_0, hx289_1⟩ := at_T94 HR0.out x4_1 p289 q289
         cases e289
         replace p289 := eq_true p289
         replace q289 := eq_true q289
         have p290 := dz_ (x4_1 : Int)
         have q290 := dl_ x4_1 (l0.length : Int)
         obtain ⟨ad290, e290, hx290_0, hx290_1⟩ := at_T94 HR0.out x4_1 p290 q290
         obtain rfl : ad289 = ad290 := (by injection e290)
         replace p290 := eq_true p290
         replace q290 := eq_true q290
         have p291 := dz_ (x4_1 : Int)
         have q291 := dl_ x4_1 (l0.length : Int)
         obtain ⟨ad291, e291, hx291_0, hx291_1⟩ := at_T94 HR0.out x4_1 p291 q291
         obtain rfl : ad289 = ad291 := (by injection e291)
         replace p291 := eq_true p291
         replace q291 := eq_true q291
         have p292 := dz_ (x4_1 : Int)
         have q292 := dl_ x4_1 (l0.length : Int)
         obtain ⟨ad292, e292, hx292_0, hx292_1⟩ := at_T94 HR0.out x4_1 p292 q292
         obtain rfl : ad289 = ad292 := (by injection e292)
         replace p292 := eq_true p292
         replace q292 := eq_true q292
         go_wp2
         repeat (go_quiet (fail); try go_wp2)
         go_meet
         case rel => exact ⟨_, (decide (((rd_T94 l0 x4_1).f0) ≥ ((rd_T94 l0 x4_1).f1))), ok_, H', ⟨lk_ HK1⟩, dr_⟩
      ·rw [if_neg c5] at H
       exact absurd H (by simp)
     case rest =>
      clear HC4
      try clear c1
      try clear c2
      try clear c2b0
      try clear c2b1
      try clear p2
      try clear c3
      try clear c3b0
      try clear p2
      obtain ⟨kq, x40_3, rfl, HA, HJ3, ⟨mc3, rfl⟩⟩ := hcut
      cases kq with
      | zero => exact absurd HA.out (by simp [redraftref02_Check.j1])
      | succ kj3 =>
       have H := HA.out
       clear HA
       simp only [redraftref02_Check.j1] at H
       by_cases c8 : x40_3 = true
       ·subst c8
        have H1 := H; rw [if_pos rfl] at H1
        clear H
        have H := H1
        clear H1
        simp only [Option.some.injEq, Prod.mk.injEq] at H
        obtain ⟨rfl, rfl⟩ := H
        go_wp2
        repeat (go_quiet (fail); try go_wp2)
        go_ret2
        exact ⟨ok_, dr_⟩
       ·replace c8 := Bool.eq_false_iff.mpr c8
        subst c8
        have H1 := H; rw [if_neg (show ¬ (false = true) by decide)] at H1
        clear H
        have H := H1
        clear H1
        by_cases c9 : x4_1 > 0
        ·rw [if_pos c9] at H
         have c9b0 : decide (0 < x4_1) = true := decide_eq_true c9
         clear c9
         by_cases c10 : 0 ≤ x4_1
         ·rw [if_pos c10] at H
          have c10b0 := decide_eq_true c10
          clear c10
          by_cases c11 : x4_1 < (l0.length : Int)
          ·rw [if_pos c11] at H
           have c11b0 := decide_eq_true c11
           clear c11
           obtain ⟨ji12, hji12⟩ : ∃ j_ : Int, (wrap64 (x4_1 - 1)) = j_ := ⟨_, rfl⟩
           replace H : (if 0 ≤ (ji12) then (if (ji12) < (l0.length : Int) then (if ((rd_T94 l0 x4_1).f0) ≤ ((rd_T94 l0 (ji12)).f1) then (some (x4_1, 22)) else (redraftref02_Check.l0 kj3 l0 (wrap64 (x4_1 + 1)))) else (none)) else (none)) = some (r1, r2) := by first | (rw [hji12] at H; exact H) | (simp only [hji12] at H ⊢; exact H)
           have hji12w : (IntKind.i64.wrap (x4_1 - 1)) = ji12 := (i64_w _).trans hji12
           by_cases c13 : 0 ≤ (ji12)
           ·rw [if_pos c13] at H
            have c13b0 := decide_eq_true c13
            clear c13
            by_cases c14 : (ji12) < (l0.length : Int)
            ·rw [if_pos c14] at H
             have c14b0 := decide_eq_true c14
             clear c14
             by_cases c15 : ((rd_T94 l0 x4_1).f0) ≤ ((rd_T94 l0 (ji12)).f1)
             ·rw [if_pos c15] at H
              have c15b0 := decide_eq_true c15
              clear c15
              simp only [Option.some.injEq, Prod.mk.injEq] at H
              obtain ⟨rfl, rfl⟩ := H
              have p293 := dz_ (x4_1 : Int)
              have q293 := dl_ x4_1 (l0.length : Int)
              obtain ⟨ad293, e293, hx293_0, hx293_1⟩ := at_T94 HR0.out x4_1 p293 q293
              cases e293
              replace p293 := eq_true p293
              replace q293 := eq_true q293
              have p294 := dz_ ((ji12) : Int)
              have q294 := dl_ (ji12) (l0.length : Int)
              obtain ⟨ad294, e294, hx294_0, hx294_1⟩ := at_T94 HR0.out (ji12) p294 q294
              obtain rfl : ad293 = ad294 := (by injection e294)
              replace p294 := eq_true p294
              replace q294 := eq_true q294
              go_wp2
              repeat (go_quiet (fail); try go_wp2)
              go_ret2
              exact ⟨by first | rfl | (simp; done) | (simp only [← hji12] <;> (first | rfl | simp)) | (simp [*]; done), dr_⟩
             ·rw [if_neg c15] at H
              have c15b0 := decide_eq_false c15
              clear c15
              have H' := Aside0.mk H
              clear H
              have p293 := dz_ (x4_1 : Int)
              have q293 := dl_ x4_1 (l0.length : Int)
              obtain ⟨ad293, e293, hx293_0, hx293_1⟩ := at_T94 HR0.out x4_1 p293 q293
              cases e293
              replace p293 := eq_true p293
              replace q293 := eq_true q293
              have p294 := dz_ ((ji12) : Int)
              have q294 := dl_ (ji12) (l0.length : Int)
              obtain ⟨ad294, e294, hx294_0, hx294_1⟩ := at_T94 HR0.out (ji12) p294 q294
              obtain rfl : ad293 = ad294 := (by injection e294)
              replace p294 := eq_true p294
              replace q294 := eq_true q294
              go_wp2
              repeat (go_quiet (fail); try go_wp2)
              go_roundg kj3
              case measure => have := HK1.out; have := HJ3.out; omega
              case rel => exact ⟨(wrap64 (x4_1 + 1)), ok_, H', ⟨by have := HK1.out; have := HJ3.out; omega⟩, dr_⟩
            ·rw [if_neg c14] at H
             exact absurd H (by simp)
           ·rw [if_neg c13] at H
            exact absurd H (by simp)
          ·rw [if_neg c11] at H
           exact absurd H (by simp)
         ·rw [if_neg c10] at H
          exact absurd H (by simp)
        ·rw [if_neg c9] at H
         have c9b0 : decide (0 < x4_1) = false := decide_eq_false c9
         clear c9
         have H' := Aside0.mk H
         clear H
         go_wp2
         repeat (go_quiet (fail); try go_wp2)
         go_roundg kj3
         case measure => have := HK1.out; have := HJ3.out; omega
         case rel => exact ⟨(wrap64 (x4_1 + 1)), ok_, H', ⟨by have := HK1.out; have := HJ3.out; omega⟩, dr_⟩
    ·rw [if_neg c3] at H
     have c3b0 := decide_eq_false c3
     clear c3
     simp only [Option.some.injEq, Prod.mk.injEq] at H
     obtain ⟨rfl, rfl⟩ := H
     go_wp2
     repeat (go_quiet (fail); try go_wp2)
     go_ret2
     exact ⟨ok_, dr_⟩

end Go.Proofs.YtloccjkcmlkifaaDoor.PAll
