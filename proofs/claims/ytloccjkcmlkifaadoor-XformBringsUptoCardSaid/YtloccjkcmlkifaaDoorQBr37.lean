/- XformBrings_card, part 37. -/
import Derived.Test.YtloccjkcmlkifaaDoorQBr19

namespace Go.Proofs.YtloccjkcmlkifaaDoor.PAll
open Go.RowKit Go.Proofs.YtloccjkcmlkifaaDoorW.PrintWords Go.Proofs.YtloccjkcmlkifaaDoorW.PrintLast Go.Proofs.YtloccjkcmlkifaaDoorW.PrintMore
attribute [local go_sem] max2_int min2_int max_two min_two max_three min_three max_four min_four   -- for this text's walks alone
set_option linter.unusedVariables false
set_option linter.unusedSimpArgs false

attribute [local go_sem high] idx34_0 idx34_1 idx35_0 idx35_1
def redraftref04_Same.l0 : Nat → List (S94) → List (S94) → Int → Option (Bool)
 | 0, _, _, _ => none
 | k + 1, x0, x1, x5 => if x5 < (x0.length : Int) then (if 0 ≤ x5 then (if x5 < (x1.length : Int) then (if ((rd_T94 x0 x5).f0) = ((rd_T94 x1 x5).f0) then (if ((rd_T94 x0 x5).f1) = ((rd_T94 x1 x5).f1) then (redraftref04_Same.l0 k x0 x1 (wrap64 (x5 + 1))) else (some false)) else (some false)) else (none)) else (none)) else (some true)
def redraftref04_Same.f (k : Nat) (l0 : List (S94)) (l1 : List (S94)) : Option (Bool) := if (l0.length : Int) = (l1.length : Int) then (redraftref04_Same.l0 k l0 l1 0) else (some false)
set_option maxHeartbeats 8000000 in
set_option maxRecDepth 100000 in
theorem redraftref04_Same.calls (k : Nat) (A0 : Option Addr) (c0 : Nat) (l0 : List (S94)) (A1 : Option Addr) (c1 : Nat) (l1 : List (S94)) (r : Bool) (w : World) (hr0 : Kd.C k94 w A0 l0.length l0) (hc0 : l0.length ≤ c0) (hr1 : Kd.C k94 w A1 l1.length l1) (hc1 : l1.length ≤ c1) (h : redraftref04_Same.f k l0 l1 = some r) :
 Calls Tryd.prog 76 #[.slice A0 l0.length c0, .slice A1 l1.length c1] w fun e w' => e = .returned (.bool r) ∧ Drawn0 w w' := by
 have HR0 := Aside0.mk hr0
 have HC0 := Aside0.mk hc0
 clear hr0 hc0
 have HR1 := Aside0.mk hr1
 have HC1 := Aside0.mk hc1
 clear hr1 hc1
 have H : (if (l0.length : Int) = (l1.length : Int) then (redraftref04_Same.l0 k l0 l1 0) else (some false)) = some r := h
 clear h
 by_cases c3 : (l0.length : Int) = (l1.length : Int)
 ·rw [if_pos c3] at H
  have c3b0 := beq_iff_eq.mpr c3
  have c3b1 := bne_eq_false_iff_eq.mpr c3
  have c3b2 : (l0.length == l1.length) = true := by first | simpa using c3 | (simp at c3 ⊢; omega)
  clear c3
  have H' := Aside0.mk H
  clear H
  go_enter Tryd.func76, Tryd.ntmps76
  go_wp2
  repeat (go_quiet (fail); try go_wp2)
  go_loopg [5] k (fun kq v5 w' => ∃ (x5_1 : Int), v5 = .int .i64 x5_1 ∧ Aside0 (redraftref04_Same.l0 kq l0 l1 x5_1 = some r) ∧ Aside0 (kq ≤ k) ∧ Drawn0 w w')
  case atStart => exact ⟨(0), ok_, H', ⟨Nat.le_refl _⟩, dr_⟩
  case round =>
   clear H'
   try clear c1
   try clear p2
   try clear c3
   try clear c3b0
   try clear c3b1
   try clear c3b2
   obtain ⟨x5_1, rfl, HA, HK1, ⟨m1, rfl⟩⟩ := hrel
   cases gk with
   | zero => exact absurd HA.out (by simp [redraftref04_Same.l0])
   | succ k1 =>
    have H := HA.out
    clear HA
    simp only [redraftref04_Same.l0] at H
    by_cases c4 : x5_1 < (l0.length : Int)
    ·rw [if_pos c4] at H
     have c4b0 := decide_eq_true c4
     clear c4
     by_cases c5 : 0 ≤ x5_1
     ·rw [if_pos c5] at H
      have c5b0 := decide_eq_true c5
      clear c5
      by_cases c6 : x5_1 < (l1.length : Int)
      ·rw [if_pos c6] at H
       have c6b0 := decide_eq_true c6
       clear c6
       by_cases c7 : ((rd_T94 l0 x5_1).f0) = ((rd_T94 l1 x5_1).f0)
       ·rw [if_pos c7] at H
        have c7b0 := beq_iff_eq.mpr c7
        have c7b1 := bne_eq_false_iff_eq.mpr c7
        clear c7
        by_cases c8 : ((rd_T94 l0 x5_1).f1) = ((rd_T94 l1 x5_1).f1)
        ·rw [if_pos c8] at H
         have c8b0 := beq_iff_eq.mpr c8
         have c8b1 := bne_eq_false_iff_eq.mpr c8
         clear c8
         have H' := Aside0.mk H
         clear H
         have p562 := dz_ (x5_1 : Int)
         have q562 := dl_ x5_1 (l0.length : Int)
         obtain ⟨ad562, e562, hx562_0, hx562_1⟩ := at_T94 HR0.out x5_1 p562 q562
         cases e562
         replace p562 := eq_true p562
         replace q562 := eq_true q562
         have p563 := dz_ (x5_1 : Int)
         have q563 := dl_ x5_1 (l1.length : Int)
         obtain ⟨ad563, e563, hx563_0, hx563_1⟩ := at_T94 HR1.out x5_1 p563 q563
         cases e563
         replace p563 := eq_true p563
         replace q563 := eq_true q563
         have p564 := dz_ (x5_1 : Int)
         have q564 := dl_ x5_1 (l0.length : Int)
         obtain ⟨ad564, e564, hx564_0, hx564_1⟩ := at_T94 HR0.out x5_1 p564 q564
         obtain rfl : ad562 = ad564 := (by injection e564)
         replace p564 := eq_true p564
         replace q564 := eq_true q564
         have p565 := dz_ (x5_1 : Int)
         have q565 := dl_ x5_1 (l1.length : Int)
         obtain ⟨ad565, e565, hx565_0, hx565_1⟩ := at_T94 HR1.out x5_1 p565 q565
         obtain rfl : ad563 = ad565 := (by injection e565)
         replace p565 := eq_true p565
         replace q565 := eq_true q565
         go_wp2
         repeat (go_quiet (fail); try go_wp2)
         go_roundg k1
         case measure => have := HK1.out; omega
         case rel => exact ⟨(wrap64 (x5_1 + 1)), ok_, H', ⟨lk_ HK1⟩, dr_⟩
        ·rw [if_neg c8] at H
         have c8b0 := beq_eq_false_iff_ne.mpr c8
         have c8b1 := bne_iff_ne.mpr c8
         obtain rfl := Option.some.inj H
         have p562 := dz_ (x5_1 : Int)
         have q562 := dl_ x5_1 (l0.length : Int)
         obtain ⟨ad562, e562, hx562_0, hx562_1⟩ := at_T94 HR0.out x5_1 p562 q562
         cases e562
         replace p562 := eq_true p562
         replace q562 := eq_true q562
         have p563 := dz_ (x5_1 : Int)
         have q563 := dl_ x5_1 (l1.length : Int)
         obtain ⟨ad563, e563, hx563_0, hx563_1⟩ := at_T94 HR1.out x5_1 p563 q563
         cases e563
         replace p563 := eq_true p563
         replace q563 := eq_true q563
         have p564 := dz_ (x5_1 : Int)
         have q564 := dl_ x5_1 (l0.length : Int)
         obtain ⟨ad564, e564, hx564_0, hx564_1⟩ := at_T94 HR0.out x5_1 p564 q564
         obtain rfl : ad562 = ad564 := (by injection e564)
         replace p564 := eq_true p564
         replace q564 := eq_true q564
         have p565 := dz_ (x5_1 : Int)
         have q565 := dl_ x5_1 (l1.length : Int)
         obtain ⟨ad565, e565, hx565_0, hx565_1⟩ := at_T94 HR1.out x5_1 p565 q565
         obtain rfl : ad563 = ad565 := (by injection e565)
         replace p565 := eq_true p565
         replace q565 := eq_true q565
         go_wp2
         repeat (go_quiet (fail); try go_wp2)
         go_ret
         exact ⟨ok_, dr_⟩
       ·rw [if_neg c7] at H
        have c7b0 := beq_eq_false_iff_ne.mpr c7
        have c7b1 := bne_iff_ne.mpr c7
        obtain rfl := Option.some.inj H
        have p562 := dz_ (x5_1 : Int)
        have q562 := dl_ x5_1 (l0.length : Int)
        obtain ⟨ad562, e562, hx562_0, hx562_1⟩ := at_T94 HR0.out x5_1 p562 q562
        cases e562
        replace p562 := eq_true p562
        replace q562 := eq_true q562
        have p563 := dz_ (x5_1 : Int)
        have q563 := dl_ x5_1 (l1.length : Int)
        obtain ⟨ad563, e563, hx563_0, hx563_1⟩ := at_T94 HR1.out x5_1 p563 q563
        cases e563
        replace p563 := eq_true p563
        replace q563 := eq_true q563
        go_wp2
        repeat (go_quiet (fail); try go_wp2)
        go_ret
        exact ⟨ok_, dr_⟩
      ·rw [if_neg c6] at H
       exact absurd H (by simp)
     ·rw [if_neg c5] at H
      exact absurd H (by simp)
    ·rw [if_neg c4] at H
     have c4b0 := decide_eq_false c4
     clear c4
     obtain rfl := Option.some.inj H
     go_wp2
     repeat (go_quiet (fail); try go_wp2)
     go_ret
     exact ⟨ok_, dr_⟩
 ·rw [if_neg c3] at H
  have c3b0 := beq_eq_false_iff_ne.mpr c3
  have c3b1 := bne_iff_ne.mpr c3
  have c3b2 : (l0.length == l1.length) = false := by first | simpa using c3 | (simp at c3 ⊢; omega)
  obtain rfl := Option.some.inj H
  go_enter Tryd.func76, Tryd.ntmps76
  go_wp2
  repeat (go_quiet (fail); try go_wp2)
  go_ret
  exact ⟨ok_, dr_⟩

end Go.Proofs.YtloccjkcmlkifaaDoor.PAll
