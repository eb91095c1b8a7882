/- XformOverIsCross_card, part 35. -/
import Derived.Test.YtloccjkcmlkifaaDoorQOc17

namespace Go.Proofs.YtloccjkcmlkifaaDoor.PAll
open Go.RowKit Go.Proofs.YtloccjkcmlkifaaDoorW.PrintWords Go.Proofs.YtloccjkcmlkifaaDoorW.PrintLast Go.Proofs.YtloccjkcmlkifaaDoorW.PrintMore
attribute [local go_sem] max2_int min2_int max_two min_two max_three min_three max_four min_four   -- for this text's walks alone
set_option linter.unusedVariables false
set_option linter.unusedSimpArgs false

attribute [local go_sem high] idx34_0 idx34_1 idx35_0 idx35_1
def redraftref04_Same.l0 : Nat → List (S94) → List (S94) → Int → Option (Bool)
 | 0, _, _, _ => none
 | k + 1, x0, x1, x5 => if x5 < (x0.length : Int) then (if 0 ≤ x5 then (if x5 < (x1.length : Int) then (if ((rd_T94 x0 x5).f0) = ((rd_T94 x1 x5).f0) then (if ((rd_T94 x0 x5).f1) = ((rd_T94 x1 x5).f1) then (redraftref04_Same.l0 k x0 x1 (wrap64 (x5 + 1))) else (some false)) else (some false)) else (none)) else (none)) else (some true)
def redraftref04_Same.f (k : Nat) (l0 : List (S94)) (l1 : List (S94)) : Option (Bool) := if (l0.length : Int) = (l1.length : Int) then (redraftref04_Same.l0 k l0 l1 0) else (some false)
set_option maxHeartbeats 8000000 in
set_option maxRecDepth 100000 in
theorem redraftref04_Same.calls (k : Nat) (A0 : Option Addr) (c0 : Nat) (l0 : List (S94)) (A1 : Option Addr) (c1 : Nat) (l1 : List (S94)) (r : Bool) (w : World) (hr0 : Kd.C k94 w A0 l0.length l0) (hc0 : l0.length ≤ c0) (hr1 : Kd.C k94 w A1 l1.length l1) (hc1 : l1.length ≤ c1) (h : redraftref04_Same.f k l0 l1 = some r) :
 Calls Tryd.prog 76 #[.slice A0 l0.length c0, .slice A1 l1.length c1] w fun e w' => e = .returned (.bool r) ∧ Drawn0 w w' := by
 have HR0 := Aside0.mk hr0
 have HC0 := Aside0.mk hc0
 clear hr0 hc0
 have HR1 := Aside0.mk hr1
 have HC1 := Aside0.mk hc1
 clear hr1 hc1
 have H : (if (l0.length : Int) = (l1.length : Int) then (redraftref04_Same.l0 k l0 l1 0) else (some false)) = some r := h
 clear h
 by_cases c3 : (l0.length : Int) = (l1.length : Int)
 ·rw [if_pos c3] at H
  have c3b0 := beq_iff_eq.mpr c3
  have c3b1 := bne_eq_false_iff_eq.mpr c3
  have c3b2 : (l0.length == l1.length) = true := by first | simpa using c3 | (simp at c3 ⊢; omega)
  clear c3
  have H' := Aside0.mk H
  clear H
  go_enter Tryd.func76, Tryd.ntmps76
  go_wp2
  repeat (go_quiet (fail); try go_wp2)
  go_loopg [5] k (fun kq v5 w' => ∃ (x5_1 : Int), v5 = .int .i64 x5_1 ∧ Aside0 (redraftref04_Same.l0 kq l0 l1 x5_1 = some r) ∧ Aside0 (kq ≤ k) ∧ Drawn0 w w')
  case atStart => exact ⟨(0), ok_, H', ⟨Nat.le_refl _⟩, dr_⟩
  case round =>
   clear H'
   try clear c1
   try clear p2
   try clear c3
   try clear c3b0
   try clear c3b1
   try clear c3b2
   obtain ⟨x5_1, rfl, HA, HK1, ⟨m1, rfl⟩⟩ := hrel
   cases gk with
   | zero => exact absurd HA.out (by simp [redraftref04_Same.l0])
   | succ k1 =>
    have H := HA.out
    clear HA
    simp only [redraftref04_Same.l0] at H
    by_cases c4 : x5_1 < (l0.length : Int)
    ·rw [if_pos c4] at H
     have c4b0 := decide_eq_true c4
     clear c4
     by_cases c5 : 0 ≤ x5_1
     ·rw [if_pos c5] at H
      have c5b0 := decide_eq_true c5
      clear c5
      by_cases c6 : x5_1 < (l1.length : Int)
      ·rw [if_pos c6] at H
       have c6b0 := decide_eq_true c6
       clear c6
       by_cases c7 : ((rd_T94 l0 x5_1).f0) = ((rd_T94 l1 x5_1).f0)
       ·rw [if_pos c7] at H
        have c7b0 := beq_iff_eq.mpr c7
        have c7b1 := bne_eq_false_iff_eq.mpr c7
        clear c7
        by_cases c8 : ((rd_T94 l0 x5_1).f1) = ((rd_T94 l1 x5_1).f1)
        ·rw [if_pos c8] at H
         have c8b0 := beq_iff_eq.mpr c8
         have c8b1 := bne_eq_false_iff_eq.mpr c8
         clear c8
         have H' := Aside0.mk H
         clear H
         have p562 := dz_ (x5_1 : Int)
         have q562 := dl_ x5_1 (l0.length : Int)
         obtain ⟨ad562, e562, hx562_0, hx562_1⟩ := at_T94 HR0.out x5_1 p562 q562
         cases e562
         replace p562 := eq_true p562
         replace q562 := eq_true q562
         have p563 := dz_ (x5_1 : Int)
         have q563 := dl_ x5_1 (l1.length : Int)
         obtain ⟨ad563, e563, hx563_0, hx563_1⟩ := at_T94 HR1.out x5_1 p563 q563
         cases e563
         replace p563 := eq_true p563
         replace q563 := eq_true q563
         have p564 := dz_ (x5_1 : Int)
         have q564 := dl_ x5_1 (l0.length : Int)
         obtain ⟨ad564, e564, hx564_0, hx564_1⟩ := at_T94 HR0.out x5_1 p564 q564
         obtain rfl : ad562 = ad564 := (by injection e564)
         replace p564 := eq_true p564
         replace q564 := eq_true q564
         have p565 := dz_ (x5_1 : Int)
         have q565 := dl_ x5_1 (l1.length : Int)
         obtain ⟨ad565, e565, hx565_0, hx565_1⟩ := at_T94 HR1.out x5_1 p565 q565
         obtain rfl : ad563 = ad565 := (by injection e565)
         replace p565 := eq_true p565
         replace q565 := eq_true q565
         go_wp2
         repeat (go_quiet (fail); try go_wp2)
         go_roundg k1
         case measure => have := HK1.out; omega
         case rel => exact ⟨(wrap64 (x5_1 + 1)), ok_, H', ⟨lk_ HK1⟩, dr_⟩
        ·rw [if_neg c8] at H
         have c8b0 := beq_eq_false_iff_ne.mpr c8
         have c8b1 := bne_iff_ne.mpr c8
         obtain rfl := Option.some.inj H
         have p562 := dz_ (x5_1 : Int)
         have q562 := dl_ x5_1 (l0.length : Int)
         obtain ⟨ad562, e562, hx562_0, hx562_1⟩ := at_T94 HR0.out x5_1 p562 q562
         cases e562
         replace p562 := eq_true p562
         replace q562 := eq_true q562
         have p563 := dz_ (x5_1 : Int)
         have q563 := dl_ x5_1 (l1.length : Int)
         obtain ⟨ad563, e563, hx563_0, hx563_1⟩ := at_T94 HR1.out x5_1 p563 q563
         cases e563
         replace p563 := eq_true p563
         replace q563 := eq_true q563
         have p564 := dz_ (x5_1 : Int)
         have q564 := dl_ x5_1 (l0.length : Int)
         obtain ⟨ad564, e564, hx564_0, hx564_1⟩ := at_T94 HR0.out x5_1 p564 q564
         obtain rfl : ad562 = ad564 := (by injection e564)
         replace p564 := eq_true p564
         replace q564 := eq_true q564
         have p565 := dz_ (x5_1 : Int)
         have q565 := dl_ x5_1 (l1.length : Int)
         obtain ⟨ad565, e565, hx565_0, hx565_1⟩ := at_T94 HR1.out x5_1 p565 q565
         obtain rfl : ad563 = ad565 := (by injection e565)
         replace p565 := eq_true p565
         replace q565 := eq_true q565
         go_wp2
         repeat (go_quiet (fail); try go_wp2)
         go_ret
         exact ⟨ok_, dr_⟩
       ·rw [if_neg c7] at H
        have c7b0 := beq_eq_false_iff_ne.mpr c7
        have c7b1 := bne_iff_ne.mpr c7
        obtain rfl := Option.some.inj H
        have p562 := dz_ (x5_1 : Int)
        have q562 := dl_ x5_1 (l0.length : Int)
        obtain ⟨ad562, e562, hx562_0, hx562_1⟩ := at_T94 HR0.out x5_1 p562 q562
        cases e562
        replace p562 := eq_true p562
        replace q562 := eq_true q562
        have p563 := dz_ (x5_1 : Int)
        have q563 := dl_ x5_1 (l1.length : Int)
        obtain ⟨ad563, e563, hx563_0, hx563_1⟩ := at_T94 HR1.out x5_1 p563 q563
        cases e563
        replace p563 := eq_true p563
        replace q563 := eq_true q563
        go_wp2
        repeat (go_quiet (fail); try go_wp2)
        go_ret
        exact ⟨ok_, dr_⟩
      ·rw [if_neg c6] at H
       exact absurd H (by simp)
     ·rw [if_neg c5] at H
      exact absurd H (by simp)
    ·rw [if_neg c4] at H
     have c4b0 := decide_eq_false c4
     clear c4
     obtain rfl := Option.some.inj H
     go_wp2
     repeat (go_quiet (fail); try go_wp2)
     go_ret
     exact ⟨ok_, dr_⟩
 ·rw [if_neg c3] at H
  have c3b0 := beq_eq_false_iff_ne.mpr c3
  have c3b1 := bne_iff_ne.mpr c3
  have c3b2 : (l0.length == l1.length) = false := by first | simpa using c3 | (simp at c3 ⊢; omega)
  obtain rfl := Option.some.inj H
  go_enter Tryd.func76, Tryd.ntmps76
  go_wp2
  repeat (go_quiet (fail); try go_wp2)
  go_ret
  exact ⟨ok_, dr_⟩

def redraftlaw05_within.f (a0 : Int) (a1 : Int) : Option (Int) := if a1 < 1 then (some 0) else (if a1 = 0 then (none) else (if (Int.tmod a0 a1) < 0 then (some (wrap64 ((Int.tmod a0 a1) + a1))) else (some (Int.tmod a0 a1))))
set_option maxHeartbeats 8000000 in
set_option maxRecDepth 100000 in
theorem redraftlaw05_within.calls (a0 : Int) (a1 : Int) (r : Int) (w : World) (h : redraftlaw05_within.f a0 a1 = some r) :
 Calls Tryd.prog 18 #[.int .i64 a0, .int .i64 a1] w fun e w' => e = .returned (.int .i64 r) ∧ Drawn0 w w' := by
 have H : (if a1 < 1 then (some 0) else (if a1 = 0 then (none) else (if (Int.tmod a0 a1) < 0 then (some (wrap64 ((Int.tmod a0 a1) + a1))) else (some (Int.tmod a0 a1))))) = some r := h
 clear h
 by_cases c3 : a1 < 1
 ·rw [if_pos c3] at H
  have c3b0 := decide_eq_true c3
  clear c3
  obtain rfl := Option.some.inj H
  go_enter Tryd.func18, Tryd.ntmps18
  go_wp2
  go_ret
  exact ⟨ok_, dr_⟩
 ·rw [if_neg c3] at H
  have c3b0 := decide_eq_false c3
  clear c3
  by_cases c4 : a1 = 0
  ·rw [if_pos c4] at H
   exact absurd H (by simp)
  ·rw [if_neg c4] at H
   have c4b0 := beq_eq_false_iff_ne.mpr c4
   have c4b1 := bne_iff_ne.mpr c4
   by_cases c5 : (Int.tmod a0 a1) < 0
   ·rw [if_pos c5] at H
    have c5b0 := decide_eq_true c5
    clear c5
    obtain rfl := Option.some.inj H
    go_enter Tryd.func18, Tryd.ntmps18
    go_wp2
    go_ret
    exact ⟨ok_, dr_⟩
   ·rw [if_neg c5] at H
    have c5b0 := decide_eq_false c5
    clear c5
    obtain rfl := Option.some.inj H
    go_enter Tryd.func18, Tryd.ntmps18
    go_wp2
    go_ret
    exact ⟨ok_, dr_⟩

def redraftlaw05_width.l0 : Nat → Int → Int → Int → Int → Int → Int → ByteArray → List (S94) → Int → Int → Bool → Option (Int)
 | 0, _, _, _, _, _, _, _, _, _, _, _ => none
 | k + 1, x3, x4, x570000, x570001, x570002, x570003, x570004, x570005, x570006, x570007, x570008 => if x4 < (x570004.size : Int) then (if 0 ≤ x4 then (if (bt x570004 x4) < 128 then (redraftlaw05_width.l0 k (wrap64 (x3 + 1)) (wrap64 (x4 + 1)) x570000 x570001 x570002 x570003 x570004 x570005 x570006 x570007 x570008) else (if (bt x570004 x4) ≥ 192 then (redraftlaw05_width.l0 k (wrap64 (x3 + 1)) (wrap64 (x4 + 1)) x570000 x570001 x570002 x570003 x570004 x570005 x570006 x570007 x570008) else (redraftlaw05_width.l0 k x3 (wrap64 (x4 + 1)) x570000 x570001 x570002 x570003 x570004 x570005 x570006 x570007 x570008))) else (none)) else (some x3)
def redraftlaw05_width.f (k : Nat) (a0_0 : Int) (a0_1 : Int) (a0_2 : Int) (a0_3 : Int) (a0_4 : ByteArray) (l0_5 : List (S94)) (a0_6 : Int) (a0_7 : Int) (a0_8 : Bool) : Option (Int) := if a0_2 = 1 then (redraftlaw05_width.l0 k 0 0 a0_0 a0_1 a0_2 a0_3 a0_4 l0_5 a0_6 a0_7 a0_8) else (some 0)
set_option maxHeartbeats 8000000 in
set_option maxRecDepth 100000 in
theorem redraftlaw05_width.calls (k : Nat) (a0_0 : Int) (a0_1 : Int) (a0_2 : Int) (a0_3 : Int) (a0_4 : ByteArray) (A0_5 : Option Addr) (c0_5 : Nat) (l0_5 : List (S94)) (a0_6 : Int) (a0_7 : Int) (a0_8 : Bool) (r : Int) (w : World) (hr0_5 : Kd.C k94 w A0_5 l0_5.length l0_5) (hc0_5 : l0_5.length ≤ c0_5) (h : redraftlaw05_width.f k a0_0 a0_1 a0_2 a0_3 a0_4 l0_5 a0_6 a0_7 a0_8 = some r) :
 Calls Tryd.prog 28 #[.agg #[.int .i64 a0_0, .int .i64 a0_1, .int .i64 a0_2, .int .i64 a0_3, .string a0_4, .slice A0_5 l0_5.length c0_5, .int .i64 a0_6, .int .i64 a0_7, .bool a0_8]] w fun e w' => e = .returned (.int .i64 r) ∧ Below w.heap.size w w' := by
 have hu41 := Tryd.underlying41
 have HR0_5 := Aside0.mk hr0_5
 have HC0_5 := Aside0.mk hc0_5
 clear hr0_5 hc0_5
 have HB := Aside0.mk (Below.refl w.heap.size w)
 have H : (if a0_2 = 1 then (redraftlaw05_width.l0 k 0 0 a0_0 a0_1 a0_2 a0_3 a0_4 l0_5 a0_6 a0_7 a0_8) else (some 0)) = some r := h
 clear h
 by_cases c2 : a0_2 = 1
 ·rw [if_pos c2] at H
  have c2b0 := beq_iff_eq.mpr c2
  have c2b1 := bne_eq_false_iff_eq.mpr c2
  clear c2
  have H' := Aside0.mk H
  clear H
  go_enter Tryd.func28, Tryd.ntmps28
  go_wp2_with (((with_reducible refine gate_dst (N := 1) rfl ?_); refine bxE_ 1 41 #[.int .i64 a0_0, .int .i64 a0_1, .int .i64 a0_2, .int .i64 a0_3, .string a0_4, .slice A0_5 l0_5.length c0_5, .int .i64 a0_6, .int .i64 a0_7, .bool a0_8] ?_; intro gb569 hg w3 hbox hb; have BK569 := Aside0.mk (hbox); have GW569 := gee_ hg HB; have GE569 := gee_ hg HB; replace HB := belB_ HB hb; clear hb hbox hg; obtain ⟨hcz4_0, hcz4_1, hcz4_2, hcz4_3, hcz4_4, hcz4_5, hcz4_6, hcz4_7, hcz4_8, hfz4_0, hfz4_1, hfz4_2, hfz4_3, hfz4_4, hfz4_5, hfz4_6, hfz4_7, hfz4_8⟩ := blk9_ BK569.out))
  go_loopg [3, 4] k (fun kq v3 v4 w' => ∃ (x3_1 : Int) (x4_1 : Int), v3 = .int .i64 x3_1 ∧ v4 = .int .i64 x4_1 ∧ Aside0 (redraftlaw05_width.l0 kq x3_1 x4_1 a0_0 a0_1 a0_2 a0_3 a0_4 l0_5 a0_6 a0_7 a0_8 = some r) ∧ Aside0 (kq ≤ k) ∧ Aside0 (w'.heap[gb569]? = some (.cells #[.int .i64 a0_0, .int .i64 a0_1, .int .i64 a0_2, .int .i64 a0_3, .string a0_4, (.slice A0_5 l0_5.length c0_5), .int .i64 a0_6, .int .i64 a0_7, .bool a0_8] 41 (0, 0))) ∧ Aside0 (Below w.heap.size w w'))
  case atStart => exact ⟨(0), (0), ok_, ok_, H', ⟨Nat.le_refl _⟩, ⟨blkW_ BK569⟩, ⟨belW_ HB⟩⟩
  case round =>
   clear H'
   try clear c2
   try clear c2b0
   try clear c2b1
   try clear p2
   try clear hcz4_0
   try clear hcz4_1
   try clear hcz4_2
   try clear hcz4_3
   try clear hcz4_4
   try clear hcz4_5
   try clear hcz4_6
   try clear hcz4_7
   try clear hcz4_8
   try clear hfz4_0
   try clear hfz4_1
   try clear hfz4_2
   try clear hfz4_3
   try clear hfz4_4
   try clear hfz4_5
   try clear hfz4_6
   try clear hfz4_7
   try clear hfz4_8
   obtain ⟨x3_1, x4_1, rfl, rfl, HA, HK1, BK569, HB⟩ := hrel
   cases gk with
   | zero => exact absurd HA.out (by simp [redraftlaw05_width.l0])
   | succ k1 =>
    have H := HA.out
    clear HA
    simp only [redraftlaw05_width.l0] at H
    by_cases c5 : x4_1 < (a0_4.size : Int)
    ·rw [if_pos c5] at H
     have c5b0 := decide_eq_true c5
     clear c5
     by_cases c6 : 0 ≤ x4_1
     ·rw [if_pos c6] at H
      have c6b0 := decide_eq_true c6
      clear c6
      by_cases c8 : (bt a0_4 x4_1) < 128
      ·rw [if_pos c8] at H
       have c8b0 := decide_eq_true c8
       clear c8
       have H' := Aside0.mk H
       clear H
       have hz_ := blk9_ BK569.out
       have p7 := dz_ (x4_1 : Int)
       have q7 : x4_1 < (a0_4.size : Int) := of_decide_eq_true (by first | (with_reducible assumption) | assumption)
       have hx7 := bt_at a0_4 x4_1
       replace p7 := eq_true p7
       replace q7 := eq_true q7
       go_wp2
       go_roundg k1
       case measure => have := HK1.out; omega
       case rel => exact ⟨(wrap64 (x3_1 + 1)), (wrap64 (x4_1 + 1)), ok_, ok_, H', ⟨lk_ HK1⟩, ⟨blkW_ BK569⟩, ⟨belW_ HB⟩⟩
      ·rw [if_neg c8] at H
       have c8b0 := decide_eq_false c8
       clear c8
       by_cases c11 : (bt a0_4 x4_1) ≥ 192
       ·rw [if_pos c11] at H
        have c11b0 : decide (192 ≤ (bt a0_4 x4_1)) = true := decide_eq_true c11
        clear c11
        have H' := Aside0.mk H
        clear H
        have hz_ := blk9_ BK569.out
        have p7 := dz_ (x4_1 : Int)
        have q7 : x4_1 < (a0_4.size : Int) := of_decide_eq_true (by first | (with_reducible assumption) | assumption)
        have hx7 := bt_at a0_4 x4_1
        replace p7 := eq_true p7
        replace q7 := eq_true q7
        have p10 := dz_ (x4_1 : Int)
        have q10 : x4_1 < (a0_4.size : Int) := of_decide_eq_true (by first | (with_reducible assumption) | assumption)
        have hx10 := bt_at a0_4 x4_1
        replace p10 := eq_true p10
        replace q10 := eq_true q10
        go_wp2
        go_roundg k1
        case measure => have := HK1.out; omega
        case rel => exact ⟨(wrap64 (x3_1 + 1)), (wrap64 (x4_1 + 1)), ok_, ok_, H', ⟨lk_ HK1⟩, ⟨blkW_ BK569⟩, ⟨belW_ HB⟩⟩
       ·rw [if_neg c11] at H
        have c11b0 : decide (192 ≤ (bt a0_4 x4_1)) = false := decide_eq_false c11
        clear c11
        have H' := Aside0.mk H
        clear H
        have hz_ := blk9_ BK569.out
        have p7 := dz_ (x4_1 : Int)
        have q7 : x4_1 < (a0_4.size : Int) := of_decide_eq_true (by first | (with_reducible assumption) | assumption)
        have hx7 := bt_at a0_4 x4_1
        replace p7 := eq_true p7
        replace q7 := eq_true q7
        have p10 := dz_ (x4_1 : Int)
        have q10 : x4_1 < (a0_4.size : Int) := of_decide_eq_true (by first | (with_reducible assumption) | assumption)
        have hx10 := bt_at a0_4 x4_1
        replace p10 := eq_true p10
        replace q10 := eq_true q10
        go_wp2
        go_roundg k1
        case measure => have := HK1.out; omega
        case rel => exact ⟨(x3_1), (wrap64 (x4_1 + 1)), ok_, ok_, H', ⟨lk_ HK1⟩, ⟨blkW_ BK569⟩, ⟨belW_ HB⟩⟩
     ·rw [if_neg c6] at H
      exact absurd H (by simp)
    ·rw [if_neg c5] at H
     have c5b0 := decide_eq_false c5
     clear c5
     obtain rfl := Option.some.inj H
     have hz_ := blk9_ BK569.out
     go_wp2
     go_ret
     exact ⟨rs_, belW_ HB⟩
 ·rw [if_neg c2] at H
  have c2b0 := beq_eq_false_iff_ne.mpr c2
  have c2b1 := bne_iff_ne.mpr c2
  obtain rfl := Option.some.inj H
  go_enter Tryd.func28, Tryd.ntmps28
  go_wp2_with (((with_reducible refine gate_dst (N := 1) rfl ?_); refine bxE_ 1 41 #[.int .i64 a0_0, .int .i64 a0_1, .int .i64 a0_2, .int .i64 a0_3, .string a0_4, .slice A0_5 l0_5.length c0_5, .int .i64 a0_6, .int .i64 a0_7, .bool a0_8] ?_; intro gb569 hg w15 hbox hb; have BK569 := Aside0.mk (hbox); have GW569 := gee_ hg HB; have GE569 := gee_ hg HB; replace HB := belB_ HB hb; clear hb hbox hg; have hz_ := blk9_ BK569.out))
  go_ret
  exact ⟨rs_, belW_ HB⟩

end Go.Proofs.YtloccjkcmlkifaaDoor.PAll
