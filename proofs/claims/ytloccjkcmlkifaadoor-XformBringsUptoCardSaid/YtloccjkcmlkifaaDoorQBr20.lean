/- XformBrings_card, part 20. -/
import Derived.Test.YtloccjkcmlkifaaDoorQBr19

namespace Go.Proofs.YtloccjkcmlkifaaDoor.PAll
open Go.RowKit Go.Proofs.YtloccjkcmlkifaaDoorW.PrintWords Go.Proofs.YtloccjkcmlkifaaDoorW.PrintLast Go.Proofs.YtloccjkcmlkifaaDoorW.PrintMore
attribute [local go_sem] max2_int min2_int max_two min_two max_three min_three max_four min_four   -- for this text's walks alone
set_option linter.unusedVariables false
set_option linter.unusedSimpArgs false

attribute [local go_sem high] idx34_0 idx34_1 idx35_0 idx35_1
mutual
def redraftref01_Sequence.j0 : Nat → ByteArray → Int → Bool → Option (Int × Int)
 | 0, _, _, _ => none
 | k + 1, x0, x1, x18 => if x18 = true then (some (0, 0)) else (if 0 ≤ x1 then (if x1 < (x0.size : Int) then (if (wrap64 (bt x0 x1)) < 128 then (some (wrap64 (bt x0 x1), 1)) else (if (wrap64 (Int.tdiv (wrap64 (bt x0 x1)) 32)) = 6 then (redraftref01_Sequence.j1 k x0 x1 2 (Int.tmod (wrap64 (bt x0 x1)) 32) 128) else (if (wrap64 (Int.tdiv (wrap64 (bt x0 x1)) 16)) = 14 then (redraftref01_Sequence.j1 k x0 x1 3 (Int.tmod (wrap64 (bt x0 x1)) 16) 2048) else (if (wrap64 (Int.tdiv (wrap64 (bt x0 x1)) 8)) = 30 then (redraftref01_Sequence.j1 k x0 x1 4 (Int.tmod (wrap64 (bt x0 x1)) 8) 65536) else (some (0, 0)))))) else (none)) else (none))
def redraftref01_Sequence.j1 : Nat → ByteArray → Int → Int → Int → Int → Option (Int × Int)
 | 0, _, _, _, _, _ => none
 | k + 1, x0, x1, x7, x8, x9 => redraftref01_Sequence.l0 k x0 x1 x7 x8 x9 1
def redraftref01_Sequence.l0 : Nat → ByteArray → Int → Int → Int → Int → Int → Option (Int × Int)
 | 0, _, _, _, _, _, _ => none
 | k + 1, x0, x1, x7, x8, x9, x10 => if x10 < x7 then (if (wrap64 (x1 + x10)) ≥ (x0.size : Int) then (some (0, 0)) else (if 0 ≤ (wrap64 (x1 + x10)) then (if (wrap64 (x1 + x10)) < (x0.size : Int) then (if (wrap64 (Int.tdiv (wrap64 (bt x0 (wrap64 (x1 + x10)))) 64)) = 2 then (redraftref01_Sequence.l0 k x0 x1 x7 (wrap64 ((wrap64 (x8 * 64)) + (Int.tmod (wrap64 (bt x0 (wrap64 (x1 + x10)))) 64))) x9 (wrap64 (x10 + 1))) else (some (0, 0))) else (none)) else (none))) else (if x8 < x9 then (some (0, 0)) else (if x8 > 1114111 then (some (0, 0)) else (if x8 ≥ 55296 then (if x8 ≤ 57343 then (some (0, 0)) else (some (x8, x7))) else (some (x8, x7)))))
end
def redraftref01_Sequence.f (k : Nat) (a0 : ByteArray) (a1 : Int) : Option (Int × Int) := if a1 < 0 then (redraftref01_Sequence.j0 k a0 a1 true) else (redraftref01_Sequence.j0 k a0 a1 (decide (a1 ≥ (a0.size : Int))))
set_option maxHeartbeats 8000000 in
set_option maxRecDepth 100000 in
theorem redraftref01_Sequence.calls (k : Nat) (a0 : ByteArray) (a1 : Int) (r1 : Int) (r2 : Int) (w : World) (h : redraftref01_Sequence.f k a0 a1 = some (r1, r2)) :
 Calls Tryd.prog 128 #[.string a0, .int .i64 a1] w fun e w' => e = .returned (.tuple #[.int .i64 r1, .int .i64 r2]) ∧ Drawn0 w w' := by
 have H : (if a1 < 0 then (redraftref01_Sequence.j0 k a0 a1 true) else (redraftref01_Sequence.j0 k a0 a1 (decide (a1 ≥ (a0.size : Int))))) = some (r1, r2) := h
 clear h
 have HC3 := Aside0.mk H
 clear H
 go_enter Tryd.func128, Tryd.ntmps128
 go_upto_region 1 with (fail)
 go_cut [18] (fun v18 wc => ∃ (kq : Nat) (x18_2 : Bool), v18 = .bool x18_2 ∧ Aside0 (redraftref01_Sequence.j0 kq a0 a1 x18_2 = some (r1, r2)) ∧ Aside0 (kq ≤ k) ∧ Drawn0 w wc)
 case first =>
  have H := HC3.out
  clear HC3
  by_cases c4 : a1 < 0
  ·rw [if_pos c4] at H
   have c4b0 := decide_eq_true c4
   clear c4
   (first | rw [c4b0] | (simp only [i64_w, i32_w]; rw [c4b0]) | rw [c4b1] | skip)
   have H' := Aside0.mk H
   clear H
   go_wp2
   go_meet
   case rel => exact ⟨_, (true), ok_, H', ⟨lo_⟩, dr_⟩
  ·rw [if_neg c4] at H
   have c4b0 := decide_eq_false c4
   clear c4
   (first | rw [c4b0] | (simp only [i64_w, i32_w]; rw [c4b0]) | rw [c4b1] | skip)
   have H' := Aside0.mk H
   clear H
   go_wp2
   go_meet
   case rel => exact ⟨_, (decide (a1 ≥ (a0.size : Int))), ok_, H', ⟨lo_⟩, dr_⟩
 case rest =>
  clear HC3
  obtain ⟨kq, x18_2, rfl, HA, HJ2, ⟨mc2, rfl⟩⟩ := hcut
  cases kq with
  | zero => exact absurd HA.out (by simp [redraftref01_Sequence.j0])
  | succ kj2 =>
   have H := HA.out
   clear HA
   simp only [redraftref01_Sequence.j0] at H
   by_cases c5 : x18_2 = true
   ·subst c5
    have H1 := H; rw [if_pos rfl] at H1
    clear H
    have H := H1
    clear H1
    simp only [Option.some.injEq, Prod.mk.injEq] at H
    obtain ⟨rfl, rfl⟩ := H
    go_wp2
    go_ret2
    exact ⟨ok_, dr_⟩
   ·replace c5 := Bool.eq_false_iff.mpr c5
    subst c5
    have H1 := H; rw [if_neg (show ¬ (false = true) by decide)] at H1
    clear H
    have H := H1
    clear H1
    by_cases c6 : 0 ≤ a1
    ·rw [if_pos c6] at H
     have c6b0 := decide_eq_true c6
     clear c6
     by_cases c7 : a1 < (a0.size : Int)
     ·rw [if_pos c7] at H
      have c7b0 := decide_eq_true c7
      clear c7
      have HC9 := Aside0.mk H
      clear H
      have p8 := dz_ (a1 : Int)
      have q8 : a1 < (a0.size : Int) := of_decide_eq_true (by first | (with_reducible assumption) | assumption)
      have hx8 := bt_at a0 a1
      replace p8 := eq_true p8
      replace q8 := eq_true q8
      go_upto_block 0 with (fail)
      go_cut [7, 8, 9] (fun v7 v8 v9 wc => ∃ (kq : Nat) (x7_8 : Int) (x8_8 : Int) (x9_8 : Int), v7 = .int .i64 x7_8 ∧ v8 = .int .i64 x8_8 ∧ v9 = .int .i64 x9_8 ∧ Aside0 (redraftref01_Sequence.j1 kq a0 a1 x7_8 x8_8 x9_8 = some (r1, r2)) ∧ Aside0 (kq ≤ kj2) ∧ Drawn0 w wc)
      case first =>
       have H := HC9.out
       clear HC9
       by_cases c10 : (wrap64 (bt a0 a1)) < 128
       ·rw [if_pos c10] at H
        have c10b0 := decide_eq_true c10
        clear c10
        (first | rw [c10b0] | (simp only [i64_w, i32_w]; rw [c10b0]) | rw [c10b1] | skip)
        simp only [Option.some.injEq, Prod.mk.injEq] at H
        obtain ⟨rfl, rfl⟩ := H
        go_wp2
        go_ret2
        exact ⟨ok_, dr_⟩
       ·rw [if_neg c10] at H
        have c10b0 := decide_eq_false c10
        clear c10
        (first | rw [c10b0] | (simp only [i64_w, i32_w]; rw [c10b0]) | rw [c10b1] | skip)
        by_cases c11 : (wrap64 (Int.tdiv (wrap64 (bt a0 a1)) 32)) = 6
        ·rw [if_pos c11] at H
         have c11b0 := beq_iff_eq.mpr c11
         have c11b1 := bne_eq_false_iff_eq.mpr c11
         clear c11
         have H' := Aside0.mk H
         clear H
         go_wp2
         go_meet
         case rel => exact ⟨_, (2), (Int.tmod (wrap64 (bt a0 a1)) 32), (128), ok_, ok_, ok_, H', ⟨lk_ HJ2⟩, dr_⟩
        ·rw [if_neg c11] at H
         have c11b0 := beq_eq_false_iff_ne.mpr c11
         have c11b1 := bne_iff_ne.mpr c11
         by_cases c12 : (wrap64 (Int.tdiv (wrap64 (bt a0 a1)) 16)) = 14
         ·rw [if_pos c12] at H
          have c12b0 := beq_iff_eq.mpr c12
          have c12b1 := bne_eq_false_iff_eq.mpr c12
          clear c12
          have H' := Aside0.mk H
          clear H
          go_wp2
          go_meet
          case rel => exact ⟨_, (3), (Int.tmod (wrap64 (bt a0 a1)) 16), (2048), ok_, ok_, ok_, H', ⟨lk_ HJ2⟩, dr_⟩
         ·rw [if_neg c12] at H
          have c12b0 := beq_eq_false_iff_ne.mpr c12
          have c12b1 := bne_iff_ne.mpr c12
          by_cases c13 : (wrap64 (Int.tdiv (wrap64 (bt a0 a1)) 8)) = 30
          ·rw [if_pos c13] at H
           have c13b0 := beq_iff_eq.mpr c13
           have c13b1 := bne_eq_false_iff_eq.mpr c13
           clear c13
           have H' := Aside0.mk H
           clear H
           go_wp2
           go_meet
           case rel => exact ⟨_, (4), (Int.tmod (wrap64 (bt a0 a1)) 8), (65536), ok_, ok_, ok_, H', ⟨lk_ HJ2⟩, dr_⟩
          ·rw [if_neg c13] at H
           have c13b0 := beq_eq_false_iff_ne.mpr c13
           have c13b1 := bne_iff_ne.mpr c13
           simp only [Option.some.injEq, Prod.mk.injEq] at H
           obtain ⟨rfl, rfl⟩ := H
           go_wp2
           go_ret2
           exact ⟨ok_, dr_⟩
      case rest =>
       clear HC9
       try clear c1
       try clear p2
       try clear c4
       try clear c4b0
       try clear c4b1
       try clear c5
       try clear c6
       try clear c6b0
       try clear c7
       try clear c7b0
       try clear p8
       try clear q8
       try clear hx8
       try clear p2
       try clear p8
       try clear q8
       obtain ⟨kq, x7_8, x8_8, x9_8, rfl, rfl, rfl, HA, HJ8, ⟨mc8, rfl⟩⟩ := hcut
       cases kq with
       | zero => exact absurd HA.out (by simp [redraftref01_Sequence.j1])
       | succ kj8 =>
        have H := HA.out
        clear HA
        simp only [redraftref01_Sequence.j1] at H
        have H' := Aside0.mk H
        clear H
        go_wp2
        go_loopg [8, 10] kj8 (fun kq v8 v10 w' => ∃ (x8_3 : Int) (x10_3 : Int), v8 = .int .i64 x8_3 ∧ v10 = .int .i64 x10_3 ∧ Aside0 (redraftref01_Sequence.l0 kq a0 a1 x7_8 x8_3 x9_8 x10_3 = some (r1, r2)) ∧ Aside0 (kq ≤ kj8) ∧ Drawn0 w w')
        case atStart => exact ⟨(x8_8), (1), ok_, ok_, H', ⟨Nat.le_refl _⟩, dr_⟩
        case round =>
         clear H'
         try clear c1
         try clear c2
         try clear p2
         try clear c4
         try clear c4b0
         try clear c4b1
         try clear c5
         try clear c6
         try clear c6b0
         try clear p6
         try clear c7
         try clear c7b0
         try clear c8
         try clear p8
         try clear q8
         try clear hx8
         try clear c10
         try clear c10b0
         try clear c10b1
         try clear c11
         try clear c11b0
         try clear c11b1
         try clear c12
         try clear c12b0
         try clear c12b1
         try clear c13
         try clear c13b0
         try clear c13b1
         try clear p2
         try clear p6
         try clear p8
         try clear q8
         obtain ⟨x8_3, x10_3, rfl, rfl, HA, HK3, ⟨m3, rfl⟩⟩ := hrel
         cases gk with
         | zero => exact absurd HA.out (by simp [redraftref01_Sequence.l0])
         | succ k3 =>
          have H := HA.out
          clear HA
          simp only [redraftref01_Sequence.l0] at H
          by_cases c14 : x10_3 < x7_8
          ·rw [if_pos c14] at H
           have c14b0 := decide_eq_true c14
           clear c14
           by_cases c15 : (wrap64 (a1 + x10_3)) ≥ (a0.size : Int)
           ·rw [if_pos c15] at H
            have c15b0 : decide ((a0.size : Int) ≤ (wrap64 (a1 + x10_3))) = true := decide_eq_true c15
            clear c15
            simp only [Option.some.injEq, Prod.mk.injEq] at H
            obtain ⟨rfl, rfl⟩ := H
            go_wp2
            go_ret2
            exact ⟨ok_, dr_⟩
           ·rw [if_neg c15] at H
            have c15b0 : decide ((a0.size : Int) ≤ (wrap64 (a1 + x10_3))) = false := decide_eq_false c15
            clear c15
            obtain ⟨ji16, hji16⟩ : ∃ j_ : Int, (wrap64 (a1 + x10_3)) = j_ := ⟨_, rfl⟩
            replace H : (if 0 ≤ (ji16) then (if (ji16) < (a0.size : Int) then (if (wrap64 (Int.tdiv (wrap64 (bt a0 (ji16))) 64)) = 2 then (redraftref01_Sequence.l0 k3 a0 a1 x7_8 (wrap64 ((wrap64 (x8_3 * 64)) + (Int.tmod (wrap64 (bt a0 (ji16))) 64))) x9_8 (wrap64 (x10_3 + 1))) else (some (0, 0))) else (none)) else (none)) = some (r1, r2) := by first | (rw [hji16] at H; exact H) | (simp only [hji16] at H ⊢; exact H)
            (try rw [hji16] at c15b0)
            have hji16w : (IntKind.i64.wrap (a1 + x10_3)) = ji16 := (i64_w _).trans hji16
            by_cases c17 : 0 ≤ (ji16)
            ·rw [if_pos c17] at H
             have c17b0 := decide_eq_true c17
             clear c17
             by_cases c18 : (ji16) < (a0.size : Int)
             ·rw [if_pos c18] at H
              have c18b0 := decide_eq_true c18
              clear c18
              by_cases c20 : (wrap64 (Int.tdiv (wrap64 (bt a0 (ji16))) 64)) = 2
              ·rw [if_pos c20] at H
               have c20b0 := beq_iff_eq.mpr c20
               have c20b1 := bne_eq_false_iff_eq.mpr c20
               clear c20
               have H' := Aside0.mk H
               clear H
               have p19 := dz_ ((ji16) : Int)
               have q19 : (ji16) < (a0.size : Int) := of_decide_eq_true (by first | (with_reducible assumption) | assumption)
               have hx19 := bt_at a0 (ji16)
               replace p19 := eq_true p19
               replace q19 := eq_true q19
               have p21 := dz_ ((ji16) : Int)
               have q21 : (ji16) < (a0.size : Int) := of_decide_eq_true (by first | (with_reducible assumption) | assumption)
               have hx21 := bt_at a0 (ji16)
               replace p21 := eq_true p21
               replace q21 := eq_true q21
               go_wp2
               go_roundg k3
               case measure => have := HJ2.out; have := HJ8.out; have := HK3.out; omega
               case rel => exact ⟨(wrap64 ((wrap64 (x8_3 * 64)) + (Int.tmod (wrap64 (bt a0 (ji16))) 64))), (wrap64 (x10_3 + 1)), (by first | rfl | (simp; done) | (simp only [← hji16] <;> (first | rfl | simp)) | (simp [*]; done)), ok_, H', ⟨by have := HJ2.out; have := HJ8.out; have := HK3.out; omega⟩, dr_⟩
              ·rw [if_neg c20] at H
               have c20b0 := beq_eq_false_iff_ne.mpr c20
               have c20b1 := bne_iff_ne.mpr c20
               simp only [Option.some.injEq, Prod.mk.injEq] at H
               obtain ⟨rfl, rfl⟩ := H
               have p19 := dz_ ((ji16) : Int)
               have q19 : (ji16) < (a0.size : Int) := of_decide_eq_true (by first | (with_reducible assumption) | assumption)
               have hx19 := bt_at a0 (ji16)
               replace p19 := eq_true p19
               replace q19 := eq_true q19
               go_wp2
               go_ret2
               exact ⟨by first | rfl | (simp; done) | (simp only [← hji16] <;> (first | rfl | simp)) | (simp [*]; done), dr_⟩
             ·rw [if_neg c18] at H
              exact absurd H (by simp)
            ·rw [if_neg c17] at H
             exact absurd H (by simp)
          ·rw [if_neg c14] at H
           have c14b0 := decide_eq_false c14
           clear c14
           by_cases c22 : x8_3 < x9_8
           ·rw [if_pos c22] at H
            have c22b0 := decide_eq_true c22
            clear c22
            simp only [Option.some.injEq, Prod.mk.injEq] at H
            obtain ⟨rfl, rfl⟩ := H
            go_wp2
            go_ret2
            exact ⟨ok_, dr_⟩
           ·rw [if_neg c22] at H
            have c22b0 := decide_eq_false c22
            clear c22
            by_cases c23 : x8_3 > 1114111
            ·rw [if_pos c23] at H
             have c23b0 : decide (1114111 < x8_3) = true := decide_eq_true c23
             clear c23
             simp only [Option.some.injEq, Prod.mk.injEq] at H
             obtain ⟨rfl, rfl⟩ := H
             go_wp2
             go_ret2
             exact ⟨ok_, dr_⟩
            ·rw [if_neg c23] at H
             have c23b0 : decide (1114111 < x8_3) = false := decide_eq_false c23
             clear c23
             by_cases c24 : x8_3 ≥ 55296
             ·rw [if_pos c24] at H
              have c24b0 : decide (55296 ≤ x8_3) = true := decide_eq_true c24
              clear c24
              by_cases c25 : x8_3 ≤ 57343
              ·rw [if_pos c25] at H
               have c25b0 := decide_eq_true c25
               clear c25
               simp only [Option.some.injEq, Prod.mk.injEq] at H
               obtain ⟨rfl, rfl⟩ := H
               go_wp2
               go_ret2
               exact ⟨ok_, dr_⟩
              ·rw [if_neg c25] at H
               have c25b0 := decide_eq_false c25
               clear c25
               simp only [Option.some.injEq, Prod.mk.injEq] at H
               obtain ⟨rfl, rfl⟩ := H
               go_wp2
               go_ret2
               exact ⟨ok_, dr_⟩
             ·rw [if_neg c24] at H
              have c24b0 : decide (55296 ≤ x8_3) = false := decide_eq_false c24
              clear c24
              simp only [Option.some.injEq, Prod.mk.injEq] at H
              obtain ⟨rfl, rfl⟩ := H
              go_wp2
              go_ret2
              exact ⟨ok_, dr_⟩
     ·rw [if_neg c7] at H
      exact absurd H (by simp)
    ·rw [if_neg c6] at H
     exact absurd H (by simp)

def redraftref01_LetIn.j0 : Nat → Int → Bool → Option (Bool)
 | 0, _, _ => none
 | k + 1, x0, x3 => if x3 = true then (some true) else (if x0 < 32 then (some false) else (if x0 ≥ 127 then (if x0 < 160 then (some false) else (if x0 = 65279 then (some false) else (if x0 ≥ 64976 then (if x0 ≤ 65007 then (some false) else (some (decide ((Int.tmod x0 65536) < 65534)))) else (some (decide ((Int.tmod x0 65536) < 65534)))))) else (if x0 = 65279 then (some false) else (if x0 ≥ 64976 then (if x0 ≤ 65007 then (some false) else (some (decide ((Int.tmod x0 65536) < 65534)))) else (some (decide ((Int.tmod x0 65536) < 65534)))))))
def redraftref01_LetIn.f (k : Nat) (a0 : Int) : Option (Bool) := if a0 = 9 then (redraftref01_LetIn.j0 k a0 true) else (redraftref01_LetIn.j0 k a0 (a0 == 10))
set_option maxHeartbeats 8000000 in
set_option maxRecDepth 100000 in
theorem redraftref01_LetIn.calls (k : Nat) (a0 : Int) (r : Bool) (w : World) (h : redraftref01_LetIn.f k a0 = some r) :
 Calls Tryd.prog 129 #[.int .i64 a0] w fun e w' => e = .returned (.bool r) ∧ Drawn0 w w' := by
 have H : (if a0 = 9 then (redraftref01_LetIn.j0 k a0 true) else (redraftref01_LetIn.j0 k a0 (a0 == 10))) = some r := h
 clear h
 have HC2 := Aside0.mk H
 clear H
 go_enter Tryd.func129, Tryd.ntmps129
 go_upto_region 1 with (fail)
 go_cut [3] (fun v3 wc => ∃ (kq : Nat) (x3_1 : Bool), v3 = .bool x3_1 ∧ Aside0 (redraftref01_LetIn.j0 kq a0 x3_1 = some r) ∧ Aside0 (kq ≤ k) ∧ Drawn0 w wc)
 case first =>
  have H := HC2.out
  clear HC2
  by_cases c3 : a0 = 9
  ·rw [if_pos c3] at H
   have c3b0 := beq_iff_eq.mpr c3
   have c3b1 := bne_eq_false_iff_eq.mpr c3
   clear c3
   (first | rw [c3b0] | (simp only [i64_w, i32_w]; rw [c3b0]) | rw [c3b1] | skip)
   have H' := Aside0.mk H
   clear H
   go_wp2
   go_meet
   case rel => exact ⟨_, (true), ok_, H', ⟨lo_⟩, dr_⟩
  ·rw [if_neg c3] at H
   have c3b0 := beq_eq_false_iff_ne.mpr c3
   have c3b1 := bne_iff_ne.mpr c3
   (first | rw [c3b0] | (simp only [i64_w, i32_w]; rw [c3b0]) | rw [c3b1] | skip)
   have H' := Aside0.mk H
   clear H
   go_wp2
   go_meet
   case rel => exact ⟨_, ((a0 == 10)), ok_, H', ⟨lo_⟩, dr_⟩
 case rest =>
  clear HC2
  obtain ⟨kq, x3_1, rfl, HA, HJ1, ⟨mc1, rfl⟩⟩ := hcut
  cases kq with
  | zero => exact absurd HA.out (by simp [redraftref01_LetIn.j0])
  | succ kj1 =>
   have H := HA.out
   clear HA
   simp only [redraftref01_LetIn.j0] at H
   by_cases c4 : x3_1 = true
   ·subst c4
    have H1 := H; rw [if_pos rfl] at H1
    clear H
    have H := H1
    clear H1
    obtain rfl := Option.some.inj H
    go_wp2
    go_ret
    exact ⟨ok_, dr_⟩
   ·replace c4 := Bool.eq_false_iff.mpr c4
    subst c4
    have H1 := H; rw [if_neg (show ¬ (false = true) by decide)] at H1
    clear H
    have H := H1
    clear H1
    by_cases c5 : a0 < 32
    ·rw [if_pos c5] at H
     have c5b0 := decide_eq_true c5
     clear c5
     obtain rfl := Option.some.inj H
     go_wp2
     go_ret
     exact ⟨ok_, dr_⟩
    ·rw [if_neg c5] at H
     have c5b0 := decide_eq_false c5
     clear c5
     by_cases c6 : a0 ≥ 127
     ·rw [if_pos c6] at H
      have c6b0 : decide (127 ≤ a0) = true := decide_eq_true c6
      clear c6
      by_cases c7 : a0 < 160
      ·rw [if_pos c7] at H
       have c7b0 := decide_eq_true c7
       clear c7
       obtain rfl := Option.some.inj H
       go_wp2
       go_ret
       exact ⟨ok_, dr_⟩
      ·rw [if_neg c7] at H
       have c7b0 := decide_eq_false c7
       clear c7
       by_cases c8 : a0 = 65279
       ·rw [if_pos c8] at H
        have c8b0 := beq_iff_eq.mpr c8
        have c8b1 := bne_eq_false_iff_eq.mpr c8
        clear c8
        obtain rfl := Option.some.inj H
        go_wp2
        go_ret
        exact ⟨ok_, dr_⟩
       ·rw [if_neg c8] at H
        have c8b0 := beq_eq_false_iff_ne.mpr c8
        have c8b1 := bne_iff_ne.mpr c8
        by_cases c9 : a0 ≥ 64976
        ·rw [if_pos c9] at H
         have c9b0 : decide (64976 ≤ a0) = true := decide_eq_true c9
         clear c9
         by_cases c10 : a0 ≤ 65007
         ·rw [if_pos c10] at H
          have c10b0 := decide_eq_true c10
          clear c10
          obtain rfl := Option.some.inj H
          go_wp2
          go_ret
          exact ⟨ok_, dr_⟩
         ·rw [if_neg c10] at H
          have c10b0 := decide_eq_false c10
          clear c10
          obtain rfl := Option.some.inj H
          go_wp2
          go_ret
          exact ⟨ok_, dr_⟩
        ·rw [if_neg c9] at H
         have c9b0 : decide (64976 ≤ a0) = false := decide_eq_false c9
         clear c9
         obtain rfl := Option.some.inj H
         go_wp2
         go_ret
         exact ⟨ok_, dr_⟩
     ·rw [if_neg c6] at H
      have c6b0 : decide (127 ≤ a0) = false := decide_eq_false c6
      clear c6
      by_cases c11 : a0 = 65279
      ·rw [if_pos c11] at H
       have c11b0 := beq_iff_eq.mpr c11
       have c11b1 := bne_eq_false_iff_eq.mpr c11
       clear c11
       obtain rfl := Option.some.inj H
       go_wp2
       go_ret
       exact ⟨ok_, dr_⟩
      ·rw [if_neg c11] at H
       have c11b0 := beq_eq_false_iff_ne.mpr c11
       have c11b1 := bne_iff_ne.mpr c11
       by_cases c12 : a0 ≥ 64976
       ·rw [if_pos c12] at H
        have c12b0 : decide (64976 ≤ a0) = true := decide_eq_true c12
        clear c12
        by_cases c13 : a0 ≤ 65007
        ·rw [if_pos c13] at H
         have c13b0 := decide_eq_true c13
         clear c13
         obtain rfl := Option.some.inj H
         go_wp2
         go_ret
         exact ⟨ok_, dr_⟩
        ·rw [if_neg c13] at H
         have c13b0 := decide_eq_false c13
         clear c13
         obtain rfl := Option.some.inj H
         go_wp2
         go_ret
         exact ⟨ok_, dr_⟩
       ·rw [if_neg c12] at H
        have c12b0 : decide (64976 ≤ a0) = false := decide_eq_false c12
        clear c12
        obtain rfl := Option.some.inj H
        go_wp2
        go_ret
        exact ⟨ok_, dr_⟩

def redraftref01_Runes.l0 : Nat → ByteArray → List Int → Int → Option (List Int × Int × Int)
 | 0, _, _, _ => none
 | k + 1, x0, x5, x6 => if x6 < (x0.size : Int) then ((redraftref01_Sequence.f k x0 x6).bind fun bt274 => (if bt274.2 = 0 then (some (([] : List Int), x6, 10)) else ((redraftref01_LetIn.f k bt274.1).bind fun t276 => (if t276 = true then (if x5.length < 17592186044416 then (redraftref01_Runes.l0 k x0 (x5 ++ [bt274.1]) (wrap64 (x6 + bt274.2))) else (none)) else (some (([] : List Int), x6, 11)))))) else (some (x5, 0, 0))
def redraftref01_Runes.f (k : Nat) (a0 : ByteArray) : Option (List Int × Int × Int) := redraftref01_Runes.l0 k a0 ([] : List Int) 0
set_option maxHeartbeats 8000000 in
set_option maxRecDepth 100000 in
theorem redraftref01_Runes.calls (k : Nat) (a0 : ByteArray) (r1 : List Int) (r2 : Int) (r3 : Int) (w : World) (h : redraftref01_Runes.f k a0 = some (r1, r2, r3)) :
 Calls Tryd.prog 124 #[.string a0] w fun e w' => ∃ v0_ : Value, e = .returned (.tuple #[v0_, .int .i64 r2, .int .i64 r3]) ∧ Kd.R (Kd.int .i64) 3 w' w.heap.size (fun _ => True) v0_ r1 ∧ Below w.heap.size w w' := by
 have HB := Aside0.mk (Below.refl w.heap.size w)
 have H : (redraftref01_Runes.l0 k a0 ([] : List Int) 0) = some (r1, r2, r3) := h
 clear h
 have H' := Aside0.mk H
 clear H
 go_enter Tryd.func124, Tryd.ntmps124
 go_wp2
 go_loopg [5, 6] k (fun kq v5 v6 w' => ∃ (x5_1 : List Int) (x6_1 : Int), v6 = .int .i64 x6_1 ∧ Aside0 (redraftref01_Runes.l0 kq a0 x5_1 x6_1 = some (r1, r2, r3)) ∧ Aside0 (kq ≤ k) ∧ Aside0 (Kd.R (Kd.int .i64) 3 w' w.heap.size (fun _ => True) v5 x5_1) ∧ Aside0 (Below w.heap.size w w'))
 case atStart => exact ⟨(([] : List Int)), (0), ok_, H', ⟨Nat.le_refl _⟩, ⟨nl_⟩, ⟨belW_ HB⟩⟩
 case round =>
  clear H'
  try clear c1
  obtain ⟨x5_1, x6_1, rfl, HA, HK1, HO_5, HB⟩ := hrel
  cases gk with
  | zero => exact absurd HA.out (by simp [redraftref01_Runes.l0])
  | succ k1 =>
   have H := HA.out
   clear HA
   simp only [redraftref01_Runes.l0] at H
   by_cases c2 : x6_1 < (a0.size : Int)
   ·rw [if_pos c2] at H
    have c2b0 := decide_eq_true c2
    clear c2
    replace H := Option.bind_eq_some_iff.mp H
    obtain ⟨⟨t274, t275⟩, A30, H⟩ := H
    try dsimp only at H
    have A3 := Aside0.mk A30
    clear A30
    by_cases c4 : t275 = 0
    ·rw [if_pos c4] at H
     have c4b0 := beq_iff_eq.mpr c4
     have c4b1 := bne_eq_false_iff_eq.mpr c4
     clear c4
     simp only [Option.some.injEq, Prod.mk.injEq] at H
     obtain ⟨rfl, rfl, rfl⟩ := H
     go_wp2_with (((with_reducible refine gate_callee (f := 128) rfl ?_); refine goS_ 17 rfl Tryd.func128 #[.string a0, .int .i64 x6_1] ?_; (with_reducible refine (redraftref01_Sequence.calls k1 a0 x6_1 t274 t275 _ A3.out).mono ?_); rintro e w' ⟨rfl, ⟨nd, rfl⟩⟩; refine ⟨_, rfl, ?_⟩))
     go_ret3
     exact ⟨_, rs_, nl_, belW_ HB⟩
    ·rw [if_neg c4] at H
     have c4b0 := beq_eq_false_iff_ne.mpr c4
     have c4b1 := bne_iff_ne.mpr c4
     replace H := Option.bind_eq_some_iff.mp H
     obtain ⟨t276, A50, H⟩ := H
     try dsimp only at H
     have A5 := Aside0.mk A50
     clear A50
     by_cases c6 : t276 = true
     ·subst c6
      have H1 := H; rw [if_pos rfl] at H1
      clear H
      have H := H1
      clear H1
      by_cases c7 : x5_1.length < 17592186044416
      ·rw [if_pos c7] at H
       have LMc7 := Aside0.mk c7
       clear c7
       obtain ⟨y277, hy277⟩ : ∃ y_ : List Int, y_ = (x5_1 ++ [t274]) := ⟨_, rfl⟩
       replace H : (redraftref01_Runes.l0 k1 a0 y277 (wrap64 (x6_1 + t275))) = some (r1, r2, r3) := by first | (rw [hy277]; with_reducible exact H) | (have H2_ := (Option.bind_some _ _).symm.trans H; rw [hy277]; with_reducible exact H2_) | (have H2_ := (Option.bind_some _ _).symm.trans H; with_reducible exact H2_) | with_reducible exact H | (rw [hy277]; exact H) | exact H
       have Ny277 := Aside0.mk hy277
       clear hy277
       have H' := Aside0.mk H
       clear H
       go_wp2_with (first | ((with_reducible refine gate_callee (f := 128) rfl ?_); refine goS_ 17 rfl Tryd.func128 #[.string a0, .int .i64 x6_1] ?_; (with_reducible refine (redraftref01_Sequence.calls k1 a0 x6_1 t274 t275 _ A3.out).mono ?_); rintro e w' ⟨rfl, ⟨nd, rfl⟩⟩; refine ⟨_, rfl, ?_⟩) | ((with_reducible refine gate_callee (f := 129) rfl ?_); refine goS_ 24 rfl Tryd.func129 #[.int .i64 t274] ?_; (with_reducible refine (redraftref01_LetIn.calls k1 t274 true _ A5.out).mono ?_); rintro e w' ⟨rfl, ⟨nd, rfl⟩⟩; refine ⟨_, rfl, ?_⟩) | ((with_reducible refine gate_builtin (b := .append) (xs := #[.tmp 28, .tmp 30]) rfl ?_); at_builtin; refine Kd.R_append (Kd.int .i64) (w0 := w) w.heap.size rfl (.tmp 28) (.tmp 30) 23 3 (.int .i64 0) 8 rfl Tryd.underlying23 info3 rfl (by decide) (by omega) u5 x5_1 t274 [.int .i64 t274] (fun _ => True) (fun _ => False) rfl rfl ?aP (fun _ hk => hk.elim) ?aF ?aO ?aB ?aS ?aL ?_; (case aP => exact rfl); (case aB => exact (belW_ HB)); (case aF => exact (fun _ _ => trivial)); (case aO => exact (RW_ <| HO_5.out)); (case aS => exact (below_size (belW_ HB))); (case aL => have := LMc7.out; omega); intro v278 w8 ho hb hg hat; rw [← Ny277.out] at ho; have HO279 := Aside0.mk (ho); replace HB := Aside0.mk (hb); clear HO_5; clear ho hb hg hat))
       go_roundg k1
       case measure => have := HK1.out; omega
       case rel => exact ⟨(y277), (wrap64 (x6_1 + t275)), ok_, H', ⟨lk_ HK1⟩, ⟨RW_ <| HO279.out⟩, ⟨belW_ HB⟩⟩
      ·rw [if_neg c7] at H
       exact absurd H (by simp)
     ·replace c6 := Bool.eq_false_iff.mpr c6
      subst c6
      have H1 := H; rw [if_neg (show ¬ (false = true) by decide)] at H1
      clear H
      have H := H1
      clear H1
      simp only [Option.some.injEq, Prod.mk.injEq] at H
      obtain ⟨rfl, rfl, rfl⟩ := H
      go_wp2_with (first | ((with_reducible refine gate_callee (f := 128) rfl ?_); refine goS_ 17 rfl Tryd.func128 #[.string a0, .int .i64 x6_1] ?_; (with_reducible refine (redraftref01_Sequence.calls k1 a0 x6_1 t274 t275 _ A3.out).mono ?_); rintro e w' ⟨rfl, ⟨nd, rfl⟩⟩; refine ⟨_, rfl, ?_⟩) | ((with_reducible refine gate_callee (f := 129) rfl ?_); refine goS_ 24 rfl Tryd.func129 #[.int .i64 t274] ?_; (with_reducible refine (redraftref01_LetIn.calls k1 t274 false _ A5.out).mono ?_); rintro e w' ⟨rfl, ⟨nd, rfl⟩⟩; refine ⟨_, rfl, ?_⟩))
      go_ret3
      exact ⟨_, rs_, nl_, belW_ HB⟩
   ·rw [if_neg c2] at H
    have c2b0 := decide_eq_false c2
    clear c2
    simp only [Option.some.injEq, Prod.mk.injEq] at H
    obtain ⟨rfl, rfl, rfl⟩ := H
    go_wp2
    go_ret3
    exact ⟨_, rs_, RW_ <| HO_5.out, belW_ HB⟩

def redraftref01_Check.f (k : Nat) (a0 : ByteArray) : Option (Int × Int × Int) := (redraftref01_Runes.f k a0).bind fun bt280 => (some ((bt280.1.length : Int), bt280.2.1, bt280.2.2))
set_option maxHeartbeats 8000000 in
set_option maxRecDepth 100000 in
theorem redraftref01_Check.calls (k : Nat) (a0 : ByteArray) (r1 : Int) (r2 : Int) (r3 : Int) (w : World) (h : redraftref01_Check.f k a0 = some (r1, r2, r3)) :
 Calls Tryd.prog 115 #[.string a0] w fun e w' => e = .returned (.tuple #[.int .i64 r1, .int .i64 r2, .int .i64 r3]) ∧ Below w.heap.size w w' := by
 have HB := Aside0.mk (Below.refl w.heap.size w)
 have H : ((redraftref01_Runes.f k a0).bind fun bt280 => (some ((bt280.1.length : Int), bt280.2.1, bt280.2.2))) = some (r1, r2, r3) := h
 clear h
 replace H := Option.bind_eq_some_iff.mp H
 obtain ⟨⟨t280, t281, t282⟩, A20, H⟩ := H
 try dsimp only at H
 have A2 := Aside0.mk A20
 clear A20
 simp only [Option.some.injEq, Prod.mk.injEq] at H
 obtain ⟨rfl, rfl, rfl⟩ := H
 go_enter Tryd.func115, Tryd.ntmps115
 go_wp2_with (((with_reducible refine gate_callee (f := 124) rfl ?_); refine goS_ 10 rfl Tryd.func124 #[.string a0] ?_; (with_reducible refine (redraftref01_Runes.calls k a0 t280 t281 t282 _ A2.out).mono ?_); rintro e w3 ⟨v283, rfl, ho0, hb⟩; refine ⟨_, rfl, ?_⟩; have HO284 := Aside0.mk (Kd.R_lower ho0 (below_size (belW_ HB))); replace HB := belB_ HB hb; try clear hb; (try clear ho0); obtain ⟨Ao4, co4, eo4⟩ := Kd.R_slice HO284.out; subst eo4))
 go_ret3
 exact ⟨rs_, belW_ HB⟩

end Go.Proofs.YtloccjkcmlkifaaDoor.PAll
