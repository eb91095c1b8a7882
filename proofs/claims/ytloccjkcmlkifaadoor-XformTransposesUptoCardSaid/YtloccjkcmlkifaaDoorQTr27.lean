/- XformTransposes_card, part 27. -/
import Derived.Test.YtloccjkcmlkifaaDoorQTr19
import Derived.Test.YtloccjkcmlkifaaDoorQTr23
import Derived.Test.YtloccjkcmlkifaaDoorQTr26

namespace Go.Proofs.YtloccjkcmlkifaaDoor.PAll
open Go.RowKit Go.Proofs.YtloccjkcmlkifaaDoorW.PrintWords Go.Proofs.YtloccjkcmlkifaaDoorW.PrintLast Go.Proofs.YtloccjkcmlkifaaDoorW.PrintMore
attribute [local go_sem] max2_int min2_int max_two min_two max_three min_three max_four min_four   -- for this text's walks alone
set_option linter.unusedVariables false
set_option linter.unusedSimpArgs false

attribute [local go_sem high] idx34_0 idx34_1 idx35_0 idx35_1
mutual
def span_Back.j0 : Nat → List (S94) → Int → Int → List (S94) → List (S94) → Bool → Option ((List (S94)) × (List (S94)) × Int)
 | 0, _, _, _, _, _, _ => none
 | k + 1, x0, x1, x2, x6, x7, x32 => if x32 = true then (some (([] : List (S94)), ([] : List (S94)), 12)) else (span_Back.l0 k x1 x2 x6 x7 x0 (x0.length : Int) 0)
def span_Back.l0 : Nat → Int → Int → List (S94) → List (S94) → List (S94) → Int → Int → Option ((List (S94)) × (List (S94)) × Int)
 | 0, _, _, _, _, _, _, _ => none
 | k + 1, x1, x2, x6, x7, x33, x34, x35 => if x35 < x34 then (if 0 ≤ x35 then (if x35 < (x33.length : Int) then ((span_add.f x6 ((rd_T94 x33 x35).f0) (mn ((rd_T94 x33 x35).f1) x1)).bind fun t243 => ((span_add.f x7 (wrap64 ((mx ((rd_T94 x33 x35).f0) x1) - x1)) (wrap64 ((mn ((rd_T94 x33 x35).f1) (wrap64 (x1 + x2))) - x1))).bind fun t246 => ((span_add.f t243 (wrap64 ((mx ((rd_T94 x33 x35).f0) (wrap64 (x1 + x2))) - x2)) (wrap64 (((rd_T94 x33 x35).f1) - x2))).bind fun t249 => (span_Back.l0 k x1 x2 t249 t246 x33 x34 (wrap64 (x35 + 1)))))) else (none)) else (none)) else (some (x6, x7, 0))
end
def span_Back.f (k : Nat) (l0 : List (S94)) (a1 : Int) (a2 : Int) : Option ((List (S94)) × (List (S94)) × Int) := (span_Check.f k l0).bind fun bt237 => (if bt237.2 = 0 then ((span_outside.f a1).bind fun t239 => (if t239 = true then (span_Back.j0 k l0 a1 a2 ([] : List (S94)) ([] : List (S94)) true) else ((span_outside.f a2).bind fun t240 => (if t240 = true then (span_Back.j0 k l0 a1 a2 ([] : List (S94)) ([] : List (S94)) true) else (span_Back.j0 k l0 a1 a2 ([] : List (S94)) ([] : List (S94)) (decide ((wrap64 (a1 + a2)) > 1048576))))))) else (some (([] : List (S94)), ([] : List (S94)), bt237.2)))
set_option maxHeartbeats 8000000 in
set_option maxRecDepth 100000 in
theorem span_Back.calls (k : Nat) (A0 : Option Addr) (c0 : Nat) (l0 : List (S94)) (a1 : Int) (a2 : Int) (r1 : List (S94)) (r2 : List (S94)) (r3 : Int) (w : World) (hr0 : Kd.C k94 w A0 l0.length l0) (hc0 : l0.length ≤ c0) (h : span_Back.f k l0 a1 a2 = some (r1, r2, r3)) :
 Calls Tryd.prog 94 #[.slice A0 l0.length c0, .int .i64 a1, .int .i64 a2] w fun e w' => ∃ v0_ v1_ : Value, e = .returned (.tuple #[v0_, v1_, .int .i64 r3]) ∧ Kd.R k94 94 w' w.heap.size (fun k_ => some k_ ≠ (v1_ : Value).ownBlock) v0_ r1 ∧ Kd.R k94 94 w' w.heap.size (fun k_ => some k_ ≠ (v0_ : Value).ownBlock) v1_ r2 ∧ Below w.heap.size w w' := by
 have hu94 := Tryd.underlying94
 have HR0 := Aside0.mk hr0
 have HC0 := Aside0.mk hc0
 clear hr0 hc0
 have HB := Aside0.mk (Below.refl w.heap.size w)
 have H : ((span_Check.f k l0).bind fun bt237 => (if bt237.2 = 0 then ((span_outside.f a1).bind fun t239 => (if t239 = true then (span_Back.j0 k l0 a1 a2 ([] : List (S94)) ([] : List (S94)) true) else ((span_outside.f a2).bind fun t240 => (if t240 = true then (span_Back.j0 k l0 a1 a2 ([] : List (S94)) ([] : List (S94)) true) else (span_Back.j0 k l0 a1 a2 ([] : List (S94)) ([] : List (S94)) (decide ((wrap64 (a1 + a2)) > 1048576))))))) else (some (([] : List (S94)), ([] : List (S94)), bt237.2)))) = some (r1, r2, r3) := h
 clear h
 replace H := Option.bind_eq_some_iff.mp H
 obtain ⟨⟨t237, t238⟩, A40, H⟩ := H
 replace H : (if t238 = 0 then ((span_outside.f a1).bind fun t239 => (if t239 = true then (span_Back.j0 k l0 a1 a2 ([] : List (S94)) ([] : List (S94)) true) else ((span_outside.f a2).bind fun t240 => (if t240 = true then (span_Back.j0 k l0 a1 a2 ([] : List (S94)) ([] : List (S94)) true) else (span_Back.j0 k l0 a1 a2 ([] : List (S94)) ([] : List (S94)) (decide ((wrap64 (a1 + a2)) > 1048576))))))) else (some (([] : List (S94)), ([] : List (S94)), t238))) = some (r1, r2, r3) := H
 have A4 := Aside0.mk A40
 clear A40
 by_cases c5 : t238 = 0
 ·rw [if_pos c5] at H
  have c5b0 : (t238 == 0) = true := beq_iff_eq.mpr c5
  have c5b1 : (t238 != 0) = false := bne_eq_false_iff_eq.mpr c5
  clear c5
  have HC6 := Aside0.mk H
  clear H
  go_enter Tryd.func94, Tryd.ntmps94
  go_upto_region 4 with (((with_reducible refine gate_callee (f := 90) rfl ?_); refine goS_ 15 rfl Tryd.func90 #[.slice A0 l0.length c0] ?_; (with_reducible refine (span_Check.calls k _ _ l0 t237 t238 _ ?side1 ?side2 A4.out).mono ?_); (case side1 => exact CW_ (HR0.out)); (case side2 => exact HC0.out); rintro e w7 ⟨rfl, hb⟩; refine ⟨_, rfl, ?_⟩; replace HB := belB_ HB hb; (try clear hb); (try clear hb2); (try clear hk); (try clear hi)))
  (try simp only [Act.put, List.setIfInBounds_toArray, List.set_cons_zero, List.set_cons_succ])
  go_cut [32] (fun v32 wc => ∃ (kq : Nat) (x32_5 : Bool), v32 = .bool x32_5 ∧ Aside0 (span_Back.j0 kq l0 a1 a2 ([] : List (S94)) ([] : List (S94)) x32_5 = some (r1, r2, r3)) ∧ Aside0 (kq ≤ k) ∧ Aside0 (Kd.R k94 94 wc w.heap.size (fun k_ => some k_ ≠ ((.slice none 0 0) : Value).ownBlock) (.slice none 0 0) ([] : List (S94))) ∧ Aside0 (Kd.R k94 94 wc w.heap.size (fun k_ => some k_ ≠ ((.slice none 0 0) : Value).ownBlock) (.slice none 0 0) ([] : List (S94))) ∧ Aside0 (Below w.heap.size w wc))
  case first =>
   have H := HC6.out
   clear HC6
   replace H := Option.bind_eq_some_iff.mp H
   obtain ⟨t239, A80, H⟩ := H
   replace H : (if t239 = true then (span_Back.j0 k l0 a1 a2 ([] : List (S94)) ([] : List (S94)) true) else ((span_outside.f a2).bind fun t240 => (if t240 = true then (span_Back.j0 k l0 a1 a2 ([] : List (S94)) ([] : List (S94)) true) else (span_Back.j0 k l0 a1 a2 ([] : List (S94)) ([] : List (S94)) (decide ((wrap64 (a1 + a2)) > 1048576)))))) = some (r1, r2, r3) := H
   have A8 := Aside0.mk A80
   clear A80
   by_cases c9 : t239 = true
   ·subst c9
    have H1 : (span_Back.j0 k l0 a1 a2 ([] : List (S94)) ([] : List (S94)) true) = some (r1, r2, r3) := by rw [if_pos rfl] at H; exact H
    clear H
    have H := H1
    clear H1
    have H' := Aside0.mk H
    clear H
    go_wp2_with (((with_reducible refine gate_callee (f := 91) rfl ?_); refine goS_ 22 rfl Tryd.func91 #[.int .i64 a1] ?_; (with_reducible refine (span_outside.calls a1 true _ A8.out).mono ?_); rintro e w' ⟨rfl, ⟨nd, rfl⟩⟩; refine ⟨_, rfl, ?_⟩))
    go_meet
    case rel => exact ⟨_, (true), (by first | rfl | (simp; done) | (simp [*]; done)), H', ⟨by first | omega | exact Nat.le_refl _⟩, ⟨by first | exact Kd.R_nil _ _ _ _ _ | exact Kd.N_nil _ _ _ _ _ | exact Kd.V_nil _ _ _ _ _ | exact Kd.Q_nil _ _ _ _ _ | exact Kd.S_nil _ _ _ _ _⟩, ⟨by first | exact Kd.R_nil _ _ _ _ _ | exact Kd.N_nil _ _ _ _ _ | exact Kd.V_nil _ _ _ _ _ | exact Kd.Q_nil _ _ _ _ _ | exact Kd.S_nil _ _ _ _ _⟩, ⟨belW_ HB⟩⟩
   ·replace c9 := Bool.eq_false_iff.mpr c9
    subst c9
    have H1 : ((span_outside.f a2).bind fun t240 => (if t240 = true then (span_Back.j0 k l0 a1 a2 ([] : List (S94)) ([] : List (S94)) true) else (span_Back.j0 k l0 a1 a2 ([] : List (S94)) ([] : List (S94)) (decide ((wrap64 (a1 + a2)) > 1048576))))) = some (r1, r2, r3) := by rw [if_neg (show ¬ (false = true) by decide)] at H; exact H
    clear H
    have H := H1
    clear H1
    replace H := Option.bind_eq_some_iff.mp H
    obtain ⟨t240, A100, H⟩ := H
    replace H : (if t240 = true then (span_Back.j0 k l0 a1 a2 ([] : List (S94)) ([] : List (S94)) true) else (span_Back.j0 k l0 a1 a2 ([] : List (S94)) ([] : List (S94)) (decide ((wrap64 (a1 + a2)) > 1048576)))) = some (r1, r2, r3) := H
    have A10 := Aside0.mk A100
    clear A100
    by_cases c11 : t240 = true
    ·subst c11
     have H1 : (span_Back.j0 k l0 a1 a2 ([] : List (S94)) ([] : List (S94)) true) = some (r1, r2, r3) := by rw [if_pos rfl] at H; exact H
     clear H
     have H := H1
     clear H1
     have H' := Aside0.mk H
     clear H
     go_wp2_with (first | ((with_reducible refine gate_callee (f := 91) rfl ?_); refine goS_ 22 rfl Tryd.func91 #[.int .i64 a1] ?_; (with_reducible refine (span_outside.calls a1 false _ A8.out).mono ?_); rintro e w' ⟨rfl, ⟨nd, rfl⟩⟩; refine ⟨_, rfl, ?_⟩) | (go_at_call 91; (with_reducible refine (span_outside.calls a2 true _ A10.out).mono ?_); rintro e w' ⟨rfl, ⟨nd, rfl⟩⟩))
     go_meet
     case rel => exact ⟨_, (true), (by first | rfl | (simp; done) | (simp [*]; done)), H', ⟨by first | omega | exact Nat.le_refl _⟩, ⟨by first | exact Kd.R_nil _ _ _ _ _ | exact Kd.N_nil _ _ _ _ _ | exact Kd.V_nil _ _ _ _ _ | exact Kd.Q_nil _ _ _ _ _ | exact Kd.S_nil _ _ _ _ _⟩, ⟨by first | exact Kd.R_nil _ _ _ _ _ | exact Kd.N_nil _ _ _ _ _ | exact Kd.V_nil _ _ _ _ _ | exact Kd.Q_nil _ _ _ _ _ | exact Kd.S_nil _ _ _ _ _⟩, ⟨belW_ HB⟩⟩
    ·replace c11 := Bool.eq_false_iff.mpr c11
     subst c11
     have H1 : (span_Back.j0 k l0 a1 a2 ([] : List (S94)) ([] : List (S94)) (decide ((wrap64 (a1 + a2)) > 1048576))) = some (r1, r2, r3) := by rw [if_neg (show ¬ (false = true) by decide)] at H; exact H
     clear H
     have H := H1
     clear H1
     have H' := Aside0.mk H
     clear H
     go_wp2_with (first | ((with_reducible refine gate_callee (f := 91) rfl ?_); refine goS_ 22 rfl Tryd.func91 #[.int .i64 a1] ?_; (with_reducible refine (span_outside.calls a1 false _ A8.out).mono ?_); rintro e w' ⟨rfl, ⟨nd, rfl⟩⟩; refine ⟨_, rfl, ?_⟩) | (go_at_call 91; (with_reducible refine (span_outside.calls a2 false _ A10.out).mono ?_); rintro e w' ⟨rfl, ⟨nd, rfl⟩⟩))
     go_meet
     case rel => exact ⟨_, (decide ((wrap64 (a1 + a2)) > 1048576)), (by first | rfl | (simp; done) | (simp [*]; done)), H', ⟨by first | omega | exact Nat.le_refl _⟩, ⟨by first | exact Kd.R_nil _ _ _ _ _ | exact Kd.N_nil _ _ _ _ _ | exact Kd.V_nil _ _ _ _ _ | exact Kd.Q_nil _ _ _ _ _ | exact Kd.S_nil _ _ _ _ _⟩, ⟨by first | exact Kd.R_nil _ _ _ _ _ | exact Kd.N_nil _ _ _ _ _ | exact Kd.V_nil _ _ _ _ _ | exact Kd.Q_nil _ _ _ _ _ | exact Kd.S_nil _ _ _ _ _⟩, ⟨belW_ HB⟩⟩
  case rest =>
   clear HC6
   try clear c5
   try clear c5b0
   try clear c5b1
   obtain ⟨kq, x32_5, rfl, HA, HJ5, HO_6, HO_7, HB⟩ := hcut
   cases kq with
   | zero => exact absurd HA.out (by simp [span_Back.j0])
   | succ kj5 =>
    have H := HA.out
    clear HA
    simp only [span_Back.j0] at H
    by_cases c12 : x32_5 = true
    ·subst c12
     have H1 : (some (([] : List (S94)), ([] : List (S94)), 12)) = some (r1, r2, r3) := by rw [if_pos rfl] at H; exact H
     clear H
     have H := H1
     clear H1
     simp only [Option.some.injEq, Prod.mk.injEq] at H
     obtain ⟨rfl, rfl, rfl⟩ := H
     go_wp2
     go_ret3
     exact ⟨_, _, by first | rfl | (simp [*] <;> rfl), by first | exact Kd.R_nil _ _ _ _ _ | exact Kd.N_nil _ _ _ _ _ | exact Kd.V_nil _ _ _ _ _ | exact Kd.Q_nil _ _ _ _ _ | exact Kd.S_nil _ _ _ _ _, by first | exact Kd.R_nil _ _ _ _ _ | exact Kd.N_nil _ _ _ _ _ | exact Kd.V_nil _ _ _ _ _ | exact Kd.Q_nil _ _ _ _ _ | exact Kd.S_nil _ _ _ _ _, belW_ HB⟩
    ·replace c12 := Bool.eq_false_iff.mpr c12
     subst c12
     have H1 : (span_Back.l0 kj5 a1 a2 ([] : List (S94)) ([] : List (S94)) l0 (l0.length : Int) 0) = some (r1, r2, r3) := by rw [if_neg (show ¬ (false = true) by decide)] at H; exact H
     clear H
     have H := H1
     clear H1
     have H' := Aside0.mk H
     clear H
     go_wp2
     go_loopg [6, 7, 35] kj5 (fun kq v6 v7 v35 w' => ∃ (x6_2 : List (S94)) (x7_2 : List (S94)) (x35_2 : Int), v35 = .int .i64 x35_2 ∧ Aside0 (span_Back.l0 kq a1 a2 x6_2 x7_2 l0 (l0.length : Int) x35_2 = some (r1, r2, r3)) ∧ Aside0 (kq ≤ kj5) ∧ Aside0 (Kd.R k94 94 w' w.heap.size (fun k_ => some k_ ≠ (v7 : Value).ownBlock) v6 x6_2) ∧ Aside0 (Kd.R k94 94 w' w.heap.size (fun k_ => some k_ ≠ (v6 : Value).ownBlock) v7 x7_2) ∧ Aside0 (Below w.heap.size w w'))
     case atStart => exact ⟨(([] : List (S94))), (([] : List (S94))), (0), (by first | rfl | (simp; done) | (simp [*]; done)), H', ⟨Nat.le_refl _⟩, ⟨RW_ <| HO_6.out⟩, ⟨RW_ <| HO_7.out⟩, ⟨belW_ HB⟩⟩
     case round =>
      clear H'
      try clear c1
      try clear p2
      try clear c5
      try clear c5b0
      try clear c5b1
      try clear p6
      try clear c9
      try clear c11
      try clear c12
      try clear p2
      try clear p6
      obtain ⟨x6_2, x7_2, x35_2, rfl, HA, HK2, HO_6, HO_7, HB⟩ := hrel
      cases gk with
      | zero => exact absurd HA.out (by simp [span_Back.l0])
      | succ k2 =>
       have H := HA.out
       clear HA
       simp only [span_Back.l0] at H
       by_cases c13 : x35_2 < (l0.length : Int)
       ·rw [if_pos c13] at H
        have c13b0 : decide (x35_2 < (l0.length : Int)) = true := decide_eq_true c13
        clear c13
        by_cases c14 : 0 ≤ x35_2
        ·rw [if_pos c14] at H
         have c14b0 : decide (0 ≤ x35_2) = true := decide_eq_true c14
         clear c14
         by_cases c15 : x35_2 < (l0.length : Int)
         ·rw [if_pos c15] at H
          have c15b0 : decide (x35_2 < (l0.length : Int)) = true := decide_eq_true c15
          clear c15
          obtain ⟨ji16, hji16⟩ : ∃ j_ : Int, (mn ((rd_T94 l0 x35_2).f1) a1) = j_ := ⟨_, rfl⟩
          replace H : ((span_add.f x6_2 ((rd_T94 l0 x35_2).f0) (ji16)).bind fun t243 => ((span_add.f x7_2 (wrap64 ((mx ((rd_T94 l0 x35_2).f0) a1) - a1)) (wrap64 ((mn ((rd_T94 l0 x35_2).f1) (wrap64 (a1 + a2))) - a1))).bind fun t246 => ((span_add.f t243 (wrap64 ((mx ((rd_T94 l0 x35_2).f0) (wrap64 (a1 + a2))) - a2)) (wrap64 (((rd_T94 l0 x35_2).f1) - a2))).bind fun t249 => (span_Back.l0 k2 a1 a2 t249 t246 l0 (l0.length : Int) (wrap64 (x35_2 + 1)))))) = some (r1, r2, r3) := by first | (rw [hji16] at H; exact H) | (simp only [hji16] at H ⊢; exact H)
          have hji16_ : (if a1 < ((rd_T94 l0 x35_2).f1) then a1 else ((rd_T94 l0 x35_2).f1)) = ji16 := hji16
          replace H := Option.bind_eq_some_iff.mp H
          obtain ⟨t243, A170, H⟩ := H
          replace H : ((span_add.f x7_2 (wrap64 ((mx ((rd_T94 l0 x35_2).f0) a1) - a1)) (wrap64 ((mn ((rd_T94 l0 x35_2).f1) (wrap64 (a1 + a2))) - a1))).bind fun t246 => ((span_add.f t243 (wrap64 ((mx ((rd_T94 l0 x35_2).f0) (wrap64 (a1 + a2))) - a2)) (wrap64 (((rd_T94 l0 x35_2).f1) - a2))).bind fun t249 => (span_Back.l0 k2 a1 a2 t249 t246 l0 (l0.length : Int) (wrap64 (x35_2 + 1))))) = some (r1, r2, r3) := H
          have A17 := Aside0.mk A170
          clear A170
          obtain ⟨ji18, hji18⟩ : ∃ j_ : Int, (mx ((rd_T94 l0 x35_2).f0) a1) = j_ := ⟨_, rfl⟩
          replace H : ((span_add.f x7_2 (wrap64 ((ji18) - a1)) (wrap64 ((mn ((rd_T94 l0 x35_2).f1) (wrap64 (a1 + a2))) - a1))).bind fun t246 => ((span_add.f t243 (wrap64 ((mx ((rd_T94 l0 x35_2).f0) (wrap64 (a1 + a2))) - a2)) (wrap64 (((rd_T94 l0 x35_2).f1) - a2))).bind fun t249 => (span_Back.l0 k2 a1 a2 t249 t246 l0 (l0.length : Int) (wrap64 (x35_2 + 1))))) = some (r1, r2, r3) := by first | (rw [hji18] at H; exact H) | (simp only [hji18] at H ⊢; exact H)
          (try rw [hji18] at A17)
          have hji18_ : (if ((rd_T94 l0 x35_2).f0) < a1 then a1 else ((rd_T94 l0 x35_2).f0)) = ji18 := hji18
          obtain ⟨ji19, hji19⟩ : ∃ j_ : Int, (mn ((rd_T94 l0 x35_2).f1) (wrap64 (a1 + a2))) = j_ := ⟨_, rfl⟩
          replace H : ((span_add.f x7_2 (wrap64 ((ji18) - a1)) (wrap64 ((ji19) - a1))).bind fun t246 => ((span_add.f t243 (wrap64 ((mx ((rd_T94 l0 x35_2).f0) (wrap64 (a1 + a2))) - a2)) (wrap64 (((rd_T94 l0 x35_2).f1) - a2))).bind fun t249 => (span_Back.l0 k2 a1 a2 t249 t246 l0 (l0.length : Int) (wrap64 (x35_2 + 1))))) = some (r1, r2, r3) := by first | (rw [hji19] at H; exact H) | (simp only [hji19] at H ⊢; exact H)
          (try rw [hji19] at A17)
          have hji19_ : (if (wrap64 (a1 + a2)) < ((rd_T94 l0 x35_2).f1) then (wrap64 (a1 + a2)) else ((rd_T94 l0 x35_2).f1)) = ji19 := hji19
          replace H := Option.bind_eq_some_iff.mp H
          obtain ⟨t246, A200, H⟩ := H
          replace H : ((span_add.f t243 (wrap64 ((mx ((rd_T94 l0 x35_2).f0) (wrap64 (a1 + a2))) - a2)) (wrap64 (((rd_T94 l0 x35_2).f1) - a2))).bind fun t249 => (span_Back.l0 k2 a1 a2 t249 t246 l0 (l0.length : Int) (wrap64 (x35_2 + 1)))) = some (r1, r2, r3) := H
          have A20 := Aside0.mk A200
          clear A200
          obtain ⟨ji21, hji21⟩ : ∃ j_ : Int, (mx ((rd_T94 l0 x35_2).f0) (wrap64 (a1 + a2))) = j_ := ⟨_, rfl⟩
          replace H : ((span_add.f t243 (wrap64 ((ji21) - a2)) (wrap64 (((rd_T94 l0 x35_2).f1) - a2))).bind fun t249 => (span_Back.l0 k2 a1 a2 t249 t246 l0 (l0.length : Int) (wrap64 (x35_2 + 1)))) = some (r1, r2, r3) := by first | (rw [hji21] at H; exact H) | (simp only [hji21] at H ⊢; exact H)
          (try rw [hji21] at A17)
          (try rw [hji21] at A20)
          have hji21_ : (if ((rd_T94 l0 x35_2).f0) < (wrap64 (a1 + a2)) then (wrap64 (a1 + a2)) else ((rd_T94 l0 x35_2).f0)) = ji21 := hji21
          replace H := Option.bind_eq_some_iff.mp H
          obtain ⟨t249, A220, H⟩ := H
          replace H : (span_Back.l0 k2 a1 a2 t249 t246 l0 (l0.length : Int) (wrap64 (x35_2 + 1))) = some (r1, r2, r3) := H
          have A22 := Aside0.mk A220
          clear A220
          have H' := Aside0.mk H
          clear H
          have p241 := dz_ (x35_2 : Int)
          have q241 := dl_ x35_2 (l0.length : Int)
          obtain ⟨ad241, e241, hx241_0, hx241_1⟩ := at_T94 HR0.out x35_2 p241 q241
          cases e241
          replace hx241_0 := pw_cell_below HB.out hx241_0
          replace hx241_1 := pw_cell_below HB.out hx241_1
          replace p241 := eq_true p241
          replace q241 := eq_true q241
          go_wp2_with (first | ((with_reducible refine gate_dst (N := 12) rfl ?_); refine bxE_ 12 94 #[.int .i64 0, .int .i64 0] ?_; intro gb242 hg w23 hbox hb; have BK242 := Aside0.mk (hbox); have GW242 := gee_ hg HB; have GE242 := gee_ hg HB; replace HO_6 := Aside0.mk (Kd.R_below (Kd.R_elderB (RW_ <| HO_6.out) gb242 (Nat.le_of_eq hg.symm)) hb); replace HO_7 := Aside0.mk (Kd.R_below (Kd.R_elderB (RW_ <| HO_7.out) gb242 (Nat.le_of_eq hg.symm)) hb); replace HB := belB_ HB hb; clear hb hbox hg; have hz_ := blk2_ BK242.out) | ((with_reducible refine gate_store (t := 94) (p := 12) rfl ?_); refine store_event (t := 94) (p := 12) (v := ?vo_w25) (w1 := ((w23.setCell ⟨gb242, 0, none⟩ (.int .i64 ((rd_T94 l0 x35_2).f0))).setCell ⟨gb242, 1, none⟩ (.int .i64 ((rd_T94 l0 x35_2).f1)))) ?hg ?ho ?hn ?hr ?_; (case ho => rfl); (case hg => rfl); (case hn => rfl); (case hr => first | (go_simp; done) | (go_simp; rfl)); intro w25 hw; have n0_ : Aside0 (Kd.R k94 94 w25 w.heap.size (fun k_ => some k_ ≠ (u7 : Value).ownBlock ∧ k_ ≠ gb242) u6 x6_2) := ⟨(by rw [hw]; exact (RW_ <| Kd.R_mono (Kd.R_far (p := ⟨gb242, 1, none⟩) (Kd.R_far (p := ⟨gb242, 0, none⟩) (Kd.R_mono HO_6.out (fun k_ hk => (⟨hk, hk.2⟩ : _ ∧ k_ ≠ gb242))) (fun _ hk => hk.2) (.int .i64 ((rd_T94 l0 x35_2).f0))) (fun _ hk => hk.2) (.int .i64 ((rd_T94 l0 x35_2).f1))) (fun _ hk => ⟨hk.1.1, hk.1.2⟩)))⟩; have n1_ : Aside0 (Kd.R k94 94 w25 w.heap.size (fun k_ => some k_ ≠ (u6 : Value).ownBlock ∧ k_ ≠ gb242) u7 x7_2) := ⟨(by rw [hw]; exact (RW_ <| Kd.R_mono (Kd.R_far (p := ⟨gb242, 1, none⟩) (Kd.R_far (p := ⟨gb242, 0, none⟩) (Kd.R_mono HO_7.out (fun k_ hk => (⟨hk, hk.2⟩ : _ ∧ k_ ≠ gb242))) (fun _ hk => hk.2) (.int .i64 ((rd_T94 l0 x35_2).f0))) (fun _ hk => hk.2) (.int .i64 ((rd_T94 l0 x35_2).f1))) (fun _ hk => ⟨hk.1.1, hk.1.2⟩)))⟩; have n2_ : Aside0 (w25.heap[gb242]? = some (.cells #[.int .i64 ((rd_T94 l0 x35_2).f0), .int .i64 ((rd_T94 l0 x35_2).f1)] 94 (0, 0))) := ⟨(by rw [hw]; exact (by (with_reducible repeat (first | refine blk_drewN ?_ _ | refine blk_drew ?_ | refine blk_alloc ?_ _)); refine blk_put (cs := #[.int .i64 ((rd_T94 l0 x35_2).f0), .int .i64 0]) ?_ 1 _ rfl; (with_reducible repeat (first | refine blk_drewN ?_ _ | refine blk_drew ?_ | refine blk_alloc ?_ _)); refine blk_put (cs := #[.int .i64 0, .int .i64 0]) ?_ 0 _ rfl; (with_reducible repeat (first | refine blk_drewN ?_ _ | refine blk_drew ?_ | refine blk_alloc ?_ _)); exact BK242.out))⟩; have n3_ : Aside0 (Below w.heap.size w w25) := ⟨(by rw [hw]; exact (belW_ HB))⟩; clear hw; clear HO_6; clear HO_7; clear BK242; clear HB; have HO_6 := n0_; have HO_7 := n1_; have BK242 := n2_; have HB := n3_; clear n0_ n1_ n2_ n3_; have hz_ := blk2_ BK242.out; obtain ⟨Ao27, co27, eo27⟩ := Kd.R_slice HO_6.out; subst eo27) | ((with_reducible refine gate_callee (f := 92) rfl ?_); refine goesL_ (some 46) rfl rfl Tryd.func92 (by kernel_rfl) rfl #[.slice Ao27 x6_2.length co27, .int .i64 ((rd_T94 l0 x35_2).f0), .int .i64 ji16] rfl (by (try simp only [List.map_toArray, List.map_cons, List.map_nil]); first | done | (simp only [hji16]; rfl) | rfl | (simp only [List.length_drop, List.length_take]; rfl)) ?_; (with_reducible refine (span_add.calls (fun k_ => some k_ = (.slice Ao27 x6_2.length co27 : Value).ownBlock) (.slice Ao27 x6_2.length co27) x6_2 ((rd_T94 l0 x35_2).f0) ji16 t243 w _ ?side1 ?side2 A17.out).mono ?_); (case side1 => repeat (first | (with_reducible first | exact HB.out | apply below_alloc | apply pw_below_drewN | apply below_drew1 | refine below_set ?_ GE242.out) | exact HB.out)); (case side2 => exact Kd.R_tight rfl HO_6.out); rintro e w28 ⟨v244, rfl, ho0, hb, hkp⟩; refine ⟨_, rfl, ?_⟩; have HO245 := Aside0.mk (Kd.R_mono (ok' := fun k_ => some k_ ≠ (u7 : Value).ownBlock ∧ k_ ≠ gb242) ho0 (fun k_ hk_ => ⟨Or.elim hk_ (fun hs_ => fun e_ => (((HO_7.out).1 k_ e_.symm).1) hs_) (fun hn_ => (Kd.fresh' (Kd.R_lt (RW_ <| HO_7.out)) k_ hn_)), Or.elim hk_ (fun hs_ => fun e_ => (Kd.R_away HO_6.out (fun _ hk => hk.2)) (by rw [← e_]; exact hs_)) (fun hn_ => (Kd.freshB (blkW_ BK242) k_ hn_))⟩)); replace HO_7 := Aside0.mk (Kd.R_mono (ok' := fun k_ => k_ ≠ gb242 ∧ some k_ ≠ (v244 : Value).ownBlock) (Kd.R_keptB (HO_7.out) hkp (fun k_ hk_ hs_ => (hk_.1) hs_)) (fun k_ hk_ => ⟨hk_.1.2, fun e_ => Or.elim (ho0.1 k_ e_.symm) (fun hs_ => hk_.2.1 hs_) (fun hn_ => Nat.not_le.2 hk_.2.2 hn_)⟩)); replace BK242 := Aside0.mk (blk_kept (blkW_ BK242) hkp (fun hs_ => (fun e_ => (Kd.R_away HO_6.out (fun _ hk => hk.2)) e_) hs_)); replace HB := Aside0.mk (hb); clear HO_6; (try clear hb); (try clear hkp); (try clear ho0); have hz_ := blk2_ BK242.out; obtain ⟨Ao30, co30, eo30⟩ := Kd.R_slice HO_7.out; subst eo30) | ((with_reducible refine gate_callee (f := 92) rfl ?_); refine goesL_ (some 62) rfl rfl Tryd.func92 (by kernel_rfl) rfl #[.slice Ao30 x7_2.length co30, .int .i64 (wrap64 ((ji18) - a1)), .int .i64 (wrap64 ((ji19) - a1))] rfl (by (try simp only [List.map_toArray, List.map_cons, List.map_nil]); first | done | (simp only [hji18, hji19]; rfl) | rfl | (simp only [List.length_drop, List.length_take]; rfl)) ?_; (with_reducible refine (span_add.calls (fun k_ => some k_ = (.slice Ao30 x7_2.length co30 : Value).ownBlock) (.slice Ao30 x7_2.length co30) x7_2 (wrap64 ((ji18) - a1)) (wrap64 ((ji19) - a1)) t246 w _ ?side1 ?side2 A20.out).mono ?_); (case side1 => repeat (first | (with_reducible first | exact HB.out | apply below_alloc | apply pw_below_drewN | apply below_drew1 | refine below_set ?_ GE242.out) | exact HB.out)); (case side2 => exact Kd.R_tight rfl HO_7.out); rintro e w31 ⟨v247, rfl, ho0, hb, hkp⟩; refine ⟨_, rfl, ?_⟩; have HO248 := Aside0.mk (Kd.R_mono (ok' := fun k_ => some k_ ≠ (v244 : Value).ownBlock ∧ k_ ≠ gb242) ho0 (fun k_ hk_ => ⟨Or.elim hk_ (fun hs_ => fun e_ => (((HO245.out).1 k_ e_.symm).1) hs_) (fun hn_ => (Kd.fresh' (Kd.R_lt (RW_ <| HO245.out)) k_ hn_)), Or.elim hk_ (fun hs_ => fun e_ => (Kd.R_away HO_7.out (fun _ hk => hk.1)) (by rw [← e_]; exact hs_)) (fun hn_ => (Kd.freshB (blkW_ BK242) k_ hn_))⟩)); replace BK242 := Aside0.mk (blk_kept (blkW_ BK242) hkp (fun hs_ => (fun e_ => (Kd.R_away HO_7.out (fun _ hk => hk.1)) e_) hs_)); replace HO245 := Aside0.mk (Kd.R_mono (ok' := fun k_ => k_ ≠ gb242 ∧ some k_ ≠ (v247 : Value).ownBlock) (Kd.R_keptB (HO245.out) hkp (fun k_ hk_ hs_ => (hk_.1) hs_)) (fun k_ hk_ => ⟨hk_.1.2, fun e_ => Or.elim (ho0.1 k_ e_.symm) (fun hs_ => hk_.2.1 hs_) (fun hn_ => Nat.not_le.2 hk_.2.2 hn_)⟩)); replace HB := Aside0.mk (hb); clear HO_7; (try clear hb); (try clear hkp); (try clear ho0); have hz_ := blk2_ BK242.out; obtain ⟨Ao33, co33, eo33⟩ := Kd.R_slice HO245.out; subst eo33) | ((with_reducible refine gate_callee (f := 92) rfl ?_); refine goesL_ (some 76) rfl rfl Tryd.func92 (by kernel_rfl) rfl #[.slice Ao33 t243.length co33, .int .i64 (wrap64 ((ji21) - a2)), .int .i64 (wrap64 (((rd_T94 l0 x35_2).f1) - a2))] rfl (by (try simp only [List.map_toArray, List.map_cons, List.map_nil]); first | done | (simp only [hji21]; rfl) | rfl | (simp only [List.length_drop, List.length_take]; rfl)) ?_; (with_reducible refine (span_add.calls (fun k_ => some k_ = (.slice Ao33 t243.length co33 : Value).ownBlock) (.slice Ao33 t243.length co33) t243 (wrap64 ((ji21) - a2)) (wrap64 (((rd_T94 l0 x35_2).f1) - a2)) t249 w _ ?side1 ?side2 A22.out).mono ?_); (case side1 => repeat (first | (with_reducible first | exact HB.out | apply below_alloc | apply pw_below_drewN | apply below_drew1 | refine below_set ?_ GE242.out) | exact HB.out)); (case side2 => exact Kd.R_tight rfl HO245.out); rintro e w34 ⟨v250, rfl, ho0, hb, hkp⟩; refine ⟨_, rfl, ?_⟩; have HO251 := Aside0.mk (Kd.R_mono (ok' := fun k_ => some k_ ≠ (v247 : Value).ownBlock ∧ k_ ≠ gb242) ho0 (fun k_ hk_ => ⟨Or.elim hk_ (fun hs_ => fun e_ => (((HO248.out).1 k_ e_.symm).1) hs_) (fun hn_ => (Kd.fresh' (Kd.R_lt (RW_ <| HO248.out)) k_ hn_)), Or.elim hk_ (fun hs_ => fun e_ => (Kd.R_away HO245.out (fun _ hk => hk.1)) (by rw [← e_]; exact hs_)) (fun hn_ => (Kd.freshB (blkW_ BK242) k_ hn_))⟩)); replace BK242 := Aside0.mk (blk_kept (blkW_ BK242) hkp (fun hs_ => (fun e_ => (Kd.R_away HO245.out (fun _ hk => hk.1)) e_) hs_)); replace HO248 := Aside0.mk (Kd.R_mono (ok' := fun k_ => k_ ≠ gb242 ∧ some k_ ≠ (v250 : Value).ownBlock) (Kd.R_keptB (HO248.out) hkp (fun k_ hk_ hs_ => (hk_.1) hs_)) (fun k_ hk_ => ⟨hk_.1.2, fun e_ => Or.elim (ho0.1 k_ e_.symm) (fun hs_ => hk_.2.1 hs_) (fun hn_ => Nat.not_le.2 hk_.2.2 hn_)⟩)); replace HB := Aside0.mk (hb); clear HO245; (try clear hb); (try clear hkp); (try clear ho0)))
          go_roundg k2
          case measure => have := HJ5.out; have := HK2.out; omega
          case rel => exact ⟨(t249), (t246), (wrap64 (x35_2 + 1)), (by first | rfl | (simp; done) | (simp [*]; done)), H', ⟨by have := HJ5.out; have := HK2.out; omega⟩, ⟨RW_ <| Kd.R_mono HO251.out (fun _ hk => hk.1)⟩, ⟨RW_ <| Kd.R_mono HO248.out (fun _ hk => hk.2)⟩, ⟨belW_ HB⟩⟩
         ·rw [if_neg c15] at H
          exact absurd H (by simp)
        ·rw [if_neg c14] at H
         exact absurd H (by simp)
       ·rw [if_neg c13] at H
        have c13b0 : decide (x35_2 < (l0.length : Int)) = false := decide_eq_false c13
        clear c13
        simp only [Option.some.injEq, Prod.mk.injEq] at H
        obtain ⟨rfl, rfl, rfl⟩ := H
        go_wp2
        go_ret3
        exact ⟨_, _, by first | rfl | (simp [*] <;> rfl), RW_ <| HO_6.out, RW_ <| HO_7.out, belW_ HB⟩
 ·rw [if_neg c5] at H
  have c5b0 : (t238 == 0) = false := beq_eq_false_iff_ne.mpr c5
  have c5b1 : (t238 != 0) = true := bne_iff_ne.mpr c5
  simp only [Option.some.injEq, Prod.mk.injEq] at H
  obtain ⟨rfl, rfl, rfl⟩ := H
  go_enter Tryd.func94, Tryd.ntmps94
  go_wp2_with (((with_reducible refine gate_callee (f := 90) rfl ?_); refine goS_ 15 rfl Tryd.func90 #[.slice A0 l0.length c0] ?_; (with_reducible refine (span_Check.calls k _ _ l0 t237 t238 _ ?side1 ?side2 A4.out).mono ?_); (case side1 => exact CW_ (HR0.out)); (case side2 => exact HC0.out); rintro e w35 ⟨rfl, hb⟩; refine ⟨_, rfl, ?_⟩; replace HB := belB_ HB hb; (try clear hb); (try clear hb2); (try clear hk); (try clear hi)))
  go_ret3
  exact ⟨_, _, by first | rfl | (simp [*] <;> rfl), by first | exact Kd.R_nil _ _ _ _ _ | exact Kd.N_nil _ _ _ _ _ | exact Kd.V_nil _ _ _ _ _ | exact Kd.Q_nil _ _ _ _ _ | exact Kd.S_nil _ _ _ _ _, by first | exact Kd.R_nil _ _ _ _ _ | exact Kd.N_nil _ _ _ _ _ | exact Kd.V_nil _ _ _ _ _ | exact Kd.Q_nil _ _ _ _ _ | exact Kd.S_nil _ _ _ _ _, belW_ HB⟩

def redraftref04_IsID.f (a0_0 : Int) (a0_1 : Int) : Option (Bool) := if a0_0 ≥ 1 then (if a0_0 ≤ 8 then (if a0_1 ≥ 1 then (some (decide (a0_1 ≤ 1024))) else (some false)) else (some false)) else (some false)
set_option maxHeartbeats 8000000 in
set_option maxRecDepth 100000 in
theorem redraftref04_IsID.calls (a0_0 : Int) (a0_1 : Int) (r : Bool) (w : World) (h : redraftref04_IsID.f a0_0 a0_1 = some r) :
 Calls Tryd.prog 119 #[.agg #[.int .i64 a0_0, .int .i64 a0_1]] w fun e w' => e = .returned (.bool r) ∧ Below w.heap.size w w' := by
 have hu35 := Tryd.underlying35
 have HB := Aside0.mk (Below.refl w.heap.size w)
 have H : (if a0_0 ≥ 1 then (if a0_0 ≤ 8 then (if a0_1 ≥ 1 then (some (decide (a0_1 ≤ 1024))) else (some false)) else (some false)) else (some false)) = some r := h
 clear h
 by_cases c2 : a0_0 ≥ 1
 ·rw [if_pos c2] at H
  have c2b0 : decide (1 ≤ a0_0) = true := decide_eq_true c2
  clear c2
  by_cases c3 : a0_0 ≤ 8
  ·rw [if_pos c3] at H
   have c3b0 : decide (a0_0 ≤ 8) = true := decide_eq_true c3
   clear c3
   by_cases c4 : a0_1 ≥ 1
   ·rw [if_pos c4] at H
    have c4b0 : decide (1 ≤ a0_1) = true := decide_eq_true c4
    clear c4
    obtain rfl := Option.some.inj H
    go_enter Tryd.func119, Tryd.ntmps119
    go_wp2_with (((with_reducible refine gate_dst (N := 1) rfl ?_); refine bxE_ 1 35 #[.int .i64 a0_0, .int .i64 a0_1] ?_; intro gb271 hg w5 hbox hb; have BK271 := Aside0.mk (hbox); have GW271 := gee_ hg HB; have GE271 := gee_ hg HB; replace HB := belB_ HB hb; clear hb hbox hg; have hz_ := blk2_ BK271.out))
    go_ret
    exact ⟨by first | rfl | (simp [*] <;> rfl), belW_ HB⟩
   ·rw [if_neg c4] at H
    have c4b0 : decide (1 ≤ a0_1) = false := decide_eq_false c4
    clear c4
    obtain rfl := Option.some.inj H
    go_enter Tryd.func119, Tryd.ntmps119
    go_wp2_with (((with_reducible refine gate_dst (N := 1) rfl ?_); refine bxE_ 1 35 #[.int .i64 a0_0, .int .i64 a0_1] ?_; intro gb271 hg w7 hbox hb; have BK271 := Aside0.mk (hbox); have GW271 := gee_ hg HB; have GE271 := gee_ hg HB; replace HB := belB_ HB hb; clear hb hbox hg; have hz_ := blk2_ BK271.out))
    go_ret
    exact ⟨by first | rfl | (simp [*] <;> rfl), belW_ HB⟩
  ·rw [if_neg c3] at H
   have c3b0 : decide (a0_0 ≤ 8) = false := decide_eq_false c3
   clear c3
   obtain rfl := Option.some.inj H
   go_enter Tryd.func119, Tryd.ntmps119
   go_wp2_with (((with_reducible refine gate_dst (N := 1) rfl ?_); refine bxE_ 1 35 #[.int .i64 a0_0, .int .i64 a0_1] ?_; intro gb271 hg w9 hbox hb; have BK271 := Aside0.mk (hbox); have GW271 := gee_ hg HB; have GE271 := gee_ hg HB; replace HB := belB_ HB hb; clear hb hbox hg; have hz_ := blk2_ BK271.out))
   go_ret
   exact ⟨by first | rfl | (simp [*] <;> rfl), belW_ HB⟩
 ·rw [if_neg c2] at H
  have c2b0 : decide (1 ≤ a0_0) = false := decide_eq_false c2
  clear c2
  obtain rfl := Option.some.inj H
  go_enter Tryd.func119, Tryd.ntmps119
  go_wp2_with (((with_reducible refine gate_dst (N := 1) rfl ?_); refine bxE_ 1 35 #[.int .i64 a0_0, .int .i64 a0_1] ?_; intro gb271 hg w11 hbox hb; have BK271 := Aside0.mk (hbox); have GW271 := gee_ hg HB; have GE271 := gee_ hg HB; replace HB := belB_ HB hb; clear hb hbox hg; have hz_ := blk2_ BK271.out))
  go_ret
  exact ⟨by first | rfl | (simp [*] <;> rfl), belW_ HB⟩

def redraftref04_none.f (a0_0 : Int) (a0_1 : Int) : Option (Bool) := if a0_0 = 0 then (some (a0_1 == 0)) else (some false)
set_option maxHeartbeats 8000000 in
set_option maxRecDepth 100000 in
theorem redraftref04_none.calls (a0_0 : Int) (a0_1 : Int) (r : Bool) (w : World) (h : redraftref04_none.f a0_0 a0_1 = some r) :
 Calls Tryd.prog 120 #[.agg #[.int .i64 a0_0, .int .i64 a0_1]] w fun e w' => e = .returned (.bool r) ∧ Below w.heap.size w w' := by
 have hu35 := Tryd.underlying35
 have HB := Aside0.mk (Below.refl w.heap.size w)
 have H : (if a0_0 = 0 then (some (a0_1 == 0)) else (some false)) = some r := h
 clear h
 by_cases c2 : a0_0 = 0
 ·rw [if_pos c2] at H
  have c2b0 : (a0_0 == 0) = true := beq_iff_eq.mpr c2
  have c2b1 : (a0_0 != 0) = false := bne_eq_false_iff_eq.mpr c2
  clear c2
  obtain rfl := Option.some.inj H
  go_enter Tryd.func120, Tryd.ntmps120
  go_wp2_with (((with_reducible refine gate_dst (N := 1) rfl ?_); refine bxE_ 1 35 #[.int .i64 a0_0, .int .i64 a0_1] ?_; intro gb272 hg w3 hbox hb; have BK272 := Aside0.mk (hbox); have GW272 := gee_ hg HB; have GE272 := gee_ hg HB; replace HB := belB_ HB hb; clear hb hbox hg; have hz_ := blk2_ BK272.out))
  go_ret
  exact ⟨by first | rfl | (simp [*] <;> rfl), belW_ HB⟩
 ·rw [if_neg c2] at H
  have c2b0 : (a0_0 == 0) = false := beq_eq_false_iff_ne.mpr c2
  have c2b1 : (a0_0 != 0) = true := bne_iff_ne.mpr c2
  obtain rfl := Option.some.inj H
  go_enter Tryd.func120, Tryd.ntmps120
  go_wp2_with (((with_reducible refine gate_dst (N := 1) rfl ?_); refine bxE_ 1 35 #[.int .i64 a0_0, .int .i64 a0_1] ?_; intro gb272 hg w5 hbox hb; have BK272 := Aside0.mk (hbox); have GW272 := gee_ hg HB; have GE272 := gee_ hg HB; replace HB := belB_ HB hb; clear hb hbox hg; have hz_ := blk2_ BK272.out))
  go_ret
  exact ⟨by first | rfl | (simp [*] <;> rfl), belW_ HB⟩

def redraftref04_extra.f (a0_0 : Int) (a0_1 : Int) (a0_2 : Int) (a0_3 : Int) (a0_4 : ByteArray) (l0_5 : List (S94)) (a0_6 : Int) (a0_7 : Int) (a0_8 : Bool) : Option (Bool) := if a0_3 = 0 then (if a0_6 = 0 then (if a0_7 = 0 then (if a0_2 = 1 then (if (l0_5.length : Int) > 0 then (some true) else (some a0_8)) else (if a0_2 = 4 then (if a0_4.toList = ([] : List UInt8) then (some (decide ((l0_5.length : Int) > 0))) else (some true)) else (if a0_4.toList = ([] : List UInt8) then (some a0_8) else (some true)))) else (if a0_2 = 1 then (if (l0_5.length : Int) > 0 then (some true) else (some true)) else (if a0_2 = 4 then (if a0_4.toList = ([] : List UInt8) then (some (decide ((l0_5.length : Int) > 0))) else (some true)) else (if a0_4.toList = ([] : List UInt8) then (some true) else (some true))))) else (if a0_2 = 1 then (if (l0_5.length : Int) > 0 then (some true) else (some true)) else (if a0_2 = 4 then (if a0_4.toList = ([] : List UInt8) then (some (decide ((l0_5.length : Int) > 0))) else (some true)) else (if a0_4.toList = ([] : List UInt8) then (some true) else (some true))))) else (if a0_6 = 0 then (if a0_7 = 0 then (if a0_2 = 1 then (if (l0_5.length : Int) > 0 then (some true) else (some a0_8)) else (if a0_2 = 4 then (some true) else (some true))) else (if a0_2 = 1 then (if (l0_5.length : Int) > 0 then (some true) else (some true)) else (if a0_2 = 4 then (some true) else (some true)))) else (if a0_2 = 1 then (if (l0_5.length : Int) > 0 then (some true) else (some true)) else (if a0_2 = 4 then (some true) else (some true))))
set_option maxHeartbeats 8000000 in
set_option maxRecDepth 100000 in
theorem redraftref04_extra.calls (a0_0 : Int) (a0_1 : Int) (a0_2 : Int) (a0_3 : Int) (a0_4 : ByteArray) (A0_5 : Option Addr) (c0_5 : Nat) (l0_5 : List (S94)) (a0_6 : Int) (a0_7 : Int) (a0_8 : Bool) (r : Bool) (w : World) (hr0_5 : Kd.C k94 w A0_5 l0_5.length l0_5) (hc0_5 : l0_5.length ≤ c0_5) (h : redraftref04_extra.f a0_0 a0_1 a0_2 a0_3 a0_4 l0_5 a0_6 a0_7 a0_8 = some r) :
 Calls Tryd.prog 121 #[.agg #[.int .i64 a0_0, .int .i64 a0_1, .int .i64 a0_2, .int .i64 a0_3, .string a0_4, .slice A0_5 l0_5.length c0_5, .int .i64 a0_6, .int .i64 a0_7, .bool a0_8]] w fun e w' => e = .returned (.bool r) ∧ Below w.heap.size w w' := by
 have hu41 := Tryd.underlying41
 have HR0_5 := Aside0.mk hr0_5
 have HC0_5 := Aside0.mk hc0_5
 clear hr0_5 hc0_5
 have HB := Aside0.mk (Below.refl w.heap.size w)
 have H : (if a0_3 = 0 then (if a0_6 = 0 then (if a0_7 = 0 then (if a0_2 = 1 then (if (l0_5.length : Int) > 0 then (some true) else (some a0_8)) else (if a0_2 = 4 then (if a0_4.toList = ([] : List UInt8) then (some (decide ((l0_5.length : Int) > 0))) else (some true)) else (if a0_4.toList = ([] : List UInt8) then (some a0_8) else (some true)))) else (if a0_2 = 1 then (if (l0_5.length : Int) > 0 then (some true) else (some true)) else (if a0_2 = 4 then (if a0_4.toList = ([] : List UInt8) then (some (decide ((l0_5.length : Int) > 0))) else (some true)) else (if a0_4.toList = ([] : List UInt8) then (some true) else (some true))))) else (if a0_2 = 1 then (if (l0_5.length : Int) > 0 then (some true) else (some true)) else (if a0_2 = 4 then (if a0_4.toList = ([] : List UInt8) then (some (decide ((l0_5.length : Int) > 0))) else (some true)) else (if a0_4.toList = ([] : List UInt8) then (some true) else (some true))))) else (if a0_6 = 0 then (if a0_7 = 0 then (if a0_2 = 1 then (if (l0_5.length : Int) > 0 then (some true) else (some a0_8)) else (if a0_2 = 4 then (some true) else (some true))) else (if a0_2 = 1 then (if (l0_5.length : Int) > 0 then (some true) else (some true)) else (if a0_2 = 4 then (some true) else (some true)))) else (if a0_2 = 1 then (if (l0_5.length : Int) > 0 then (some true) else (some true)) else (if a0_2 = 4 then (some true) else (some true))))) = some r := h
 clear h
 by_cases c2 : a0_3 = 0
 ·rw [if_pos c2] at H
  have c2b0 : (a0_3 == 0) = true := beq_iff_eq.mpr c2
  have c2b1 : (a0_3 != 0) = false := bne_eq_false_iff_eq.mpr c2
  clear c2
  by_cases c3 : a0_6 = 0
  ·rw [if_pos c3] at H
   have c3b0 : (a0_6 == 0) = true := beq_iff_eq.mpr c3
   have c3b1 : (a0_6 != 0) = false := bne_eq_false_iff_eq.mpr c3
   clear c3
   by_cases c4 : a0_7 = 0
   ·rw [if_pos c4] at H
    have c4b0 : (a0_7 == 0) = true := beq_iff_eq.mpr c4
    have c4b1 : (a0_7 != 0) = false := bne_eq_false_iff_eq.mpr c4
    clear c4
    by_cases c5 : a0_2 = 1
    ·rw [if_pos c5] at H
     have c5b0 : (a0_2 == 1) = true := beq_iff_eq.mpr c5
     have c5b1 : (a0_2 != 1) = false := bne_eq_false_iff_eq.mpr c5
     clear c5
     by_cases c6 : (l0_5.length : Int) > 0
     ·rw [if_pos c6] at H
      have c6b0 : decide (0 < (l0_5.length : Int)) = true := decide_eq_true c6
      have c6b1 : decide (0 < l0_5.length) = true := decide_eq_true (by omega)
      clear c6
      obtain rfl := Option.some.inj H
      go_enter Tryd.func121, Tryd.ntmps121
      go_wp2_with (((with_reducible refine gate_dst (N := 1) rfl ?_); refine bxE_ 1 41 #[.int .i64 a0_0, .int .i64 a0_1, .int .i64 a0_2, .int .i64 a0_3, .string a0_4, .slice A0_5 l0_5.length c0_5, .int .i64 a0_6, .int .i64 a0_7, .bool a0_8] ?_; intro gb273 hg w7 hbox hb; have BK273 := Aside0.mk (hbox); have GW273 := gee_ hg HB; have GE273 := gee_ hg HB; replace HB := belB_ HB hb; clear hb hbox hg; have hz_ := blk9_ BK273.out))
      go_ret
      exact ⟨by first | rfl | (simp [*] <;> rfl), belW_ HB⟩
     ·rw [if_neg c6] at H
      have c6b0 : decide (0 < (l0_5.length : Int)) = false := decide_eq_false c6
      have c6b1 : decide (0 < l0_5.length) = false := decide_eq_false (by omega)
      clear c6
      obtain rfl := Option.some.inj H
      go_enter Tryd.func121, Tryd.ntmps121
      go_wp2_with (((with_reducible refine gate_dst (N := 1) rfl ?_); refine bxE_ 1 41 #[.int .i64 a0_0, .int .i64 a0_1, .int .i64 a0_2, .int .i64 a0_3, .string a0_4, .slice A0_5 l0_5.length c0_5, .int .i64 a0_6, .int .i64 a0_7, .bool a0_8] ?_; intro gb273 hg w9 hbox hb; have BK273 := Aside0.mk (hbox); have GW273 := gee_ hg HB; have GE273 := gee_ hg HB; replace HB := belB_ HB hb; clear hb hbox hg; have hz_ := blk9_ BK273.out))
      go_ret
      exact ⟨by first | rfl | (simp [*] <;> rfl), belW_ HB⟩
    ·rw [if_neg c5] at H
     have c5b0 : (a0_2 == 1) = false := beq_eq_false_iff_ne.mpr c5
     have c5b1 : (a0_2 != 1) = true := bne_iff_ne.mpr c5
     by_cases c11 : a0_2 = 4
     ·rw [if_pos c11] at H
      have c11b0 : (a0_2 == 4) = true := beq_iff_eq.mpr c11
      have c11b1 : (a0_2 != 4) = false := bne_eq_false_iff_eq.mpr c11
      clear c11
      by_cases c12 : a0_4.toList = ([] : List UInt8)
      ·rw [if_pos c12] at H
       have c12b0 : (a0_4.toList == ([] : List UInt8)) = true := beq_iff_eq.mpr c12
       have c12b1 : (a0_4.toList != ([] : List UInt8)) = false := bne_eq_false_iff_eq.mpr c12
       clear c12
       obtain rfl := Option.some.inj H
       go_enter Tryd.func121, Tryd.ntmps121
       go_wp2_with (((with_reducible refine gate_dst (N := 1) rfl ?_); refine bxE_ 1 41 #[.int .i64 a0_0, .int .i64 a0_1, .int .i64 a0_2, .int .i64 a0_3, .string a0_4, .slice A0_5 l0_5.length c0_5, .int .i64 a0_6, .int .i64 a0_7, .bool a0_8] ?_; intro gb273 hg w13 hbox hb; have BK273 := Aside0.mk (hbox); have GW273 := gee_ hg HB; have GE273 := gee_ hg HB; replace HB := belB_ HB hb; clear hb hbox hg; have hz_ := blk9_ BK273.out))
       go_ret
       exact ⟨by first | rfl | (simp [*] <;> rfl), belW_ HB⟩
      ·rw [if_neg c12] at H
       have c12b0 : (a0_4.toList == ([] : List UInt8)) = false := beq_eq_false_iff_ne.mpr c12
       have c12b1 : (a0_4.toList != ([] : List UInt8)) = true := bne_iff_ne.mpr c12
       obtain rfl := Option.some.inj H
       go_enter Tryd.func121, Tryd.ntmps121
       go_wp2_with (((with_reducible refine gate_dst (N := 1) rfl ?_); refine bxE_ 1 41 #[.int .i64 a0_0, .int .i64 a0_1, .int .i64 a0_2, .int .i64 a0_3, .string a0_4, .slice A0_5 l0_5.length c0_5, .int .i64 a0_6, .int .i64 a0_7, .bool a0_8] ?_; intro gb273 hg w15 hbox hb; have BK273 := Aside0.mk (hbox); have GW273 := gee_ hg HB; have GE273 := gee_ hg HB; replace HB := belB_ HB hb; clear hb hbox hg; have hz_ := blk9_ BK273.out))
       go_ret
       exact ⟨by first | rfl | (simp [*] <;> rfl), belW_ HB⟩
     ·rw [if_neg c11] at H
      have c11b0 : (a0_2 == 4) = false := beq_eq_false_iff_ne.mpr c11
      have c11b1 : (a0_2 != 4) = true := bne_iff_ne.mpr c11
      by_cases c17 : a0_4.toList = ([] : List UInt8)
      ·rw [if_pos c17] at H
       have c17b0 : (a0_4.toList == ([] : List UInt8)) = true := beq_iff_eq.mpr c17
       have c17b1 : (a0_4.toList != ([] : List UInt8)) = false := bne_eq_false_iff_eq.mpr c17
       clear c17
       obtain rfl := Option.some.inj H
       go_enter Tryd.func121, Tryd.ntmps121
       go_wp2_with (((with_reducible refine gate_dst (N := 1) rfl ?_); refine bxE_ 1 41 #[.int .i64 a0_0, .int .i64 a0_1, .int .i64 a0_2, .int .i64 a0_3, .string a0_4, .slice A0_5 l0_5.length c0_5, .int .i64 a0_6, .int .i64 a0_7, .bool a0_8] ?_; intro gb273 hg w18 hbox hb; have BK273 := Aside0.mk (hbox); have GW273 := gee_ hg HB; have GE273 := gee_ hg HB; replace HB := belB_ HB hb; clear hb hbox hg; have hz_ := blk9_ BK273.out))
       go_ret
       exact ⟨by first | rfl | (simp [*] <;> rfl), belW_ HB⟩
      ·rw [if_neg c17] at H
       have c17b0 : (a0_4.toList == ([] : List UInt8)) = false := beq_eq_false_iff_ne.mpr c17
       have c17b1 : (a0_4.toList != ([] : List UInt8)) = true := bne_iff_ne.mpr c17
       obtain rfl := Option.some.inj H
       go_enter Tryd.func121, Tryd.ntmps121
       go_wp2_with (((with_reducible refine gate_dst (N := 1) rfl ?_); refine bxE_ 1 41 #[.int .i64 a0_0, .int .i64 a0_1, .int .i64 a0_2, .int .i64 a0_3, .string a0_4, .slice A0_5 l0_5.length c0_5, .int .i64 a0_6, .int .i64 a0_7, .bool a0_8] ?_; intro gb273 hg w20 hbox hb; have BK273 := Aside0.mk (hbox); have GW273 := gee_ hg HB; have GE273 := gee_ hg HB; replace HB := belB_ HB hb; clear hb hbox hg; have hz_ := blk9_ BK273.out))
       go_ret
       exact ⟨by first | rfl | (simp [*] <;> rfl), belW_ HB⟩
   ·rw [if_neg c4] at H
    have c4b0 : (a0_7 == 0) = false := beq_eq_false_iff_ne.mpr c4
    have c4b1 : (a0_7 != 0) = true := bne_iff_ne.mpr c4
    by_cases c22 : a0_2 = 1
    ·rw [if_pos c22] at H
     have c22b0 : (a0_2 == 1) = true := beq_iff_eq.mpr c22
     have c22b1 : (a0_2 != 1) = false := bne_eq_false_iff_eq.mpr c22
     clear c22
     by_cases c23 : (l0_5.length : Int) > 0
     ·rw [if_pos c23] at H
      have c23b0 : decide (0 < (l0_5.length : Int)) = true := decide_eq_true c23
      have c23b1 : decide (0 < l0_5.length) = true := decide_eq_true (by omega)
      clear c23
      obtain rfl := Option.some.inj H
      go_enter Tryd.func121, Tryd.ntmps121
      go_wp2_with (((with_reducible refine gate_dst (N := 1) rfl ?_); refine bxE_ 1 41 #[.int .i64 a0_0, .int .i64 a0_1, .int .i64 a0_2, .int .i64 a0_3, .string a0_4, .slice A0_5 l0_5.length c0_5, .int .i64 a0_6, .int .i64 a0_7, .bool a0_8] ?_; intro gb273 hg w24 hbox hb; have BK273 := Aside0.mk (hbox); have GW273 := gee_ hg HB; have GE273 := gee_ hg HB; replace HB := belB_ HB hb; clear hb hbox hg; have hz_ := blk9_ BK273.out))
      go_ret
      exact ⟨by first | rfl | (simp [*] <;> rfl), belW_ HB⟩
     ·rw [if_neg c23] at H
      have c23b0 : decide (0 < (l0_5.length : Int)) = false := decide_eq_false c23
      have c23b1 : decide (0 < l0_5.length) = false := decide_eq_false (by omega)
      clear c23
      obtain rfl := Option.some.inj H
      go_enter Tryd.func121, Tryd.ntmps121
      go_wp2_with (((with_reducible refine gate_dst (N := 1) rfl ?_); refine bxE_ 1 41 #[.int .i64 a0_0, .int .i64 a0_1, .int .i64 a0_2, .int .i64 a0_3, .string a0_4, .slice A0_5 l0_5.length c0_5, .int .i64 a0_6, .int .i64 a0_7, .bool a0_8] ?_; intro gb273 hg w26 hbox hb; have BK273 := Aside0.mk (hbox); have GW273 := gee_ hg HB; have GE273 := gee_ hg HB; replace HB := belB_ HB hb; clear hb hbox hg; have hz_ := blk9_ BK273.out))
      go_ret
      exact ⟨by first | rfl | (simp [*] <;> rfl), belW_ HB⟩
    ·rw [if_neg c22] at H
     have c22b0 : (a0_2 == 1) = false := beq_eq_false_iff_ne.mpr c22
     have c22b1 : (a0_2 != 1) = true := bne_iff_ne.mpr c22
     by_cases c28 : a0_2 = 4
     ·rw [if_pos c28] at H
      have c28b0 : (a0_2 == 4) = true := beq_iff_eq.mpr c28
      have c28b1 : (a0_2 != 4) = false := bne_eq_false_iff_eq.mpr c28
      clear c28
      by_cases c29 : a0_4.toList = ([] : List UInt8)
      ·rw [if_pos c29] at H
       have c29b0 : (a0_4.toList == ([] : List UInt8)) = true := beq_iff_eq.mpr c29
       have c29b1 : (a0_4.toList != ([] : List UInt8)) = false := bne_eq_false_iff_eq.mpr c29
       clear c29
       obtain rfl := Option.some.inj H
       go_enter Tryd.func121, Tryd.ntmps121
       go_wp2_with (((with_reducible refine gate_dst (N := 1) rfl ?_); refine bxE_ 1 41 #[.int .i64 a0_0, .int .i64 a0_1, .int .i64 a0_2, .int .i64 a0_3, .string a0_4, .slice A0_5 l0_5.length c0_5, .int .i64 a0_6, .int .i64 a0_7, .bool a0_8] ?_; intro gb273 hg w30 hbox hb; have BK273 := Aside0.mk (hbox); have GW273 := gee_ hg HB; have GE273 := gee_ hg HB; replace HB := belB_ HB hb; clear hb hbox hg; have hz_ := blk9_ BK273.out))
       go_ret
       exact ⟨by first | rfl | (simp [*] <;> rfl), belW_ HB⟩
      ·rw [if_neg c29] at H
       have c29b0 : (a0_4.toList == ([] : List UInt8)) = false := beq_eq_false_iff_ne.mpr c29
       have c29b1 : (a0_4.toList != ([] : List UInt8)) = true := bne_iff_ne.mpr c29
       obtain rfl := Option.some.inj H
       go_enter Tryd.func121, Tryd.ntmps121
       go_wp2_with (((with_reducible refine gate_dst (N := 1) rfl ?_); refine bxE_ 1 41 #[.int .i64 a0_0, .int .i64 a0_1, .int .i64 a0_2, .int .i64 a0_3, .string a0_4, .slice A0_5 l0_5.length c0_5, .int .i64 a0_6, .int .i64 a0_7, .bool a0_8] ?_; intro gb273 hg w32 hbox hb; have BK273 := Aside0.mk (hbox); have GW273 := gee_ hg HB; have GE273 := gee_ hg HB; replace HB := belB_ HB hb; clear hb hbox hg; have hz_ := blk9_ BK273.out))
       go_ret
       exact ⟨by first | rfl | (simp [*] <;> rfl), belW_ HB⟩
     ·rw [if_neg c28] at H
      have c28b0 : (a0_2 == 4) = false := beq_eq_false_iff_ne.mpr c28
      have c28b1 : (a0_2 != 4) = true := bne_iff_ne.mpr c28
      by_cases c34 : a0_4.toList = ([] : List UInt8)
      ·rw [if_pos c34] at H
       have c34b0 : (a0_4.toList == ([] : List UInt8)) = true := beq_iff_eq.mpr c34
       have c34b1 : (a0_4.toList != ([] : List UInt8)) = false := bne_eq_false_iff_eq.mpr c34
       clear c34
       obtain rfl := Option.some.inj H
       go_enter Tryd.func121, Tryd.ntmps121
       go_wp2_with (((with_reducible refine gate_dst (N := 1) rfl ?_); refine bxE_ 1 41 #[.int .i64 a0_0, .int .i64 a0_1, .int .i64 a0_2, .int .i64 a0_3, .string a0_4, .slice A0_5 l0_5.length c0_5, .int .i64 a0_6, .int .i64 a0_7, .bool a0_8] ?_; intro gb273 hg w35 hbox hb; have BK273 := Aside0.mk (hbox); have GW273 := gee_ hg HB; have GE273 := gee_ hg HB; replace HB := belB_ HB hb; clear hb hbox hg; have hz_ := blk9_ BK273.out))
       go_ret
       exact ⟨by first | rfl | (simp [*] <;> rfl), belW_ HB⟩
      ·rw [if_neg c34] at H
       have c34b0 : (a0_4.toList == ([] : List UInt8)) = false := beq_eq_false_iff_ne.mpr c34
       have c34b1 : (a0_4.toList != ([] : List UInt8)) = true := bne_iff_ne.mpr c34
       obtain rfl := Option.some.inj H
       go_enter Tryd.func121, Tryd.ntmps121
       go_wp2_with (((with_reducible refine gate_dst (N := 1) rfl ?_); refine bxE_ 1 41 #[.int .i64 a0_0, .int .i64 a0_1, .int .i64 a0_2, .int .i64 a0_3, .string a0_4, .slice A0_5 l0_5.length c0_5, .int .i64 a0_6, .int .i64 a0_7, .bool a0_8] ?_; intro gb273 hg w37 hbox hb; have BK273 := Aside0.mk (hbox); have GW273 := gee_ hg HB; have GE273 := gee_ hg HB; replace HB := belB_ HB hb; clear hb hbox hg; have hz_ := blk9_ BK273.out))
       go_ret
       exact ⟨by first | rfl | (simp [*] <;> rfl), belW_ HB⟩
  ·rw [if_neg c3] at H
   have c3b0 : (a0_6 == 0) = false := beq_eq_false_iff_ne.mpr c3
   have c3b1 : (a0_6 != 0) = true := bne_iff_ne.mpr c3
   by_cases c39 : a0_2 = 1
   ·rw [if_pos c39] at H
    have c39b0 : (a0_2 == 1) = true := beq_iff_eq.mpr c39
    have c39b1 : (a0_2 != 1) = false := bne_eq_false_iff_eq.mpr c39
    clear c39
    by_cases c40 : (l0_5.length : Int) > 0
    ·rw [if_pos c40] at H
     have c40b0 : decide (0 < (l0_5.length : Int)) = true := decide_eq_true c40
     have c40b1 : decide (0 < l0_5.length) = true := decide_eq_true (by omega)
     clear c40
     obtain rfl := Option.some.inj H
     go_enter Tryd.func121, Tryd.ntmps121
     go_wp2_with (((with_reducible refine gate_dst (N := 1) rfl ?_); refine bxE_ 1 41 #[.int .i64 a0_0, .int .i64 a0_1, .int .i64 a0_2, .int .i64 a0_3, .string a0_4, .slice A0_5 l0_5.length c0_5, .int .i64 a0_6, .int .i64 a0_7, .bool a0_8] ?_; intro gb273 hg w41 hbox hb; have BK273 := Aside0.mk (hbox); have GW273 := gee_ hg HB; have GE273 := gee_ hg HB; replace HB := belB_ HB hb; clear hb hbox hg; have hz_ := blk9_ BK273.out))
     go_ret
     exact ⟨by first | rfl | (simp [*] <;> rfl), belW_ HB⟩
    ·rw [if_neg c40] at H
     have c40b0 : decide (0 < (l0_5.length : Int)) = false := decide_eq_false c40
     have c40b1 : decide (0 < l0_5.length) = false := decide_eq_false (by omega)
     clear c40
     obtain rfl := Option.some.inj H
     go_enter Tryd.func121, Tryd.ntmps121
     go_wp2_with (((with_reducible refine gate_dst (N := 1) rfl ?_); refine bxE_ 1 41 #[.int .i64 a0_0, .int .i64 a0_1, .int .i64 a0_2, .int .i64 a0_3, .string a0_4, .slice A0_5 l0_5.length c0_5, .int .i64 a0_6, .int .i64 a0_7, .bool a0_8] ?_; intro gb273 hg w43 hbox hb; have BK273 := Aside0.mk (hbox); have GW273 := gee_ hg HB; have GE273 := gee_ hg HB; replace HB := belB_ HB hb; clear hb hbox hg; have hz_ := blk9_ BK273.out))
     go_ret
     exact ⟨by first | rfl | (simp [*] <;> rfl), belW_ HB⟩
   ·rw [if_neg c39] at H
    have c39b0 : (a0_2 == 1) = false := beq_eq_false_iff_ne.mpr c39
    have c39b1 : (a0_2 != 1) = true := bne_iff_ne.mpr c39
    by_cases c45 : a0_2 = 4
    ·rw [if_pos c45] at H
     have c45b0 : (a0_2 == 4) = true := beq_iff_eq.mpr c45
     have c45b1 : (a0_2 != 4) = false := bne_eq_false_iff_eq.mpr c45
     clear c45
     by_cases c46 : a0_4.toList = ([] : List UInt8)
     ·rw [if_pos c46] at H
      have c46b0 : (a0_4.toList == ([] : List UInt8)) = true := beq_iff_eq.mpr c46
      have c46b1 : (a0_4.toList != ([] : List UInt8)) = false := bne_eq_false_iff_eq.mpr c46
      clear c46
      obtain rfl := Option.some.inj H
      go_enter Tryd.func121, Tryd.ntmps121
      go_wp2_with (((with_reducible refine gate_dst (N := 1) rfl ?_); refine bxE_ 1 41 #[.int .i64 a0_0, .int .i64 a0_1, .int .i64 a0_2, .int .i64 a0_3, .string a0_4, .slice A0_5 l0_5.length c0_5, .int .i64 a0_6, .int .i64 a0_7, .bool a0_8] ?_; intro gb273 hg w47 hbox hb; have BK273 := Aside0.mk (hbox); have GW273 := gee_ hg HB; have GE273 := gee_ hg HB; replace HB := belB_ HB hb; clear hb hbox hg; have hz_ := blk9_ BK273.out))
      go_ret
      exact ⟨by first | rfl | (simp [*] <;> rfl), belW_ HB⟩
     ·rw [if_neg c46] at H
      have c46b0 : (a0_4.toList == ([] : List UInt8)) = false := beq_eq_false_iff_ne.mpr c46
      have c46b1 : (a0_4.toList != ([] : List UInt8)) = true := bne_iff_ne.mpr c46
      obtain rfl := Option.some.inj H
      go_enter Tryd.func121, Tryd.ntmps121
      go_wp2_with (((with_reducible refine gate_dst (N := 1) rfl ?_); refine bxE_ 1 41 #[.int .i64 a0_0, .int .i64 a0_1, .int .i64 a0_2, .int .i64 a0_3, .string a0_4, .slice A0_5 l0_5.length c0_5, .int .i64 a0_6, .int .i64 a0_7, .bool a0_8] ?_; intro gb273 hg w49 hbox hb; have BK273 := Aside0.mk (hbox); have GW273 := gee_ hg HB; have GE273 := gee_ hg HB; replace HB := belB_ HB hb; clear hb hbox hg; have hz_ := blk9_ BK273.out))
      go_ret
      exact ⟨by first | rfl | (simp [*] <;> rfl), belW_ HB⟩
    ·rw [if_neg c45] at H
     have c45b0 : (a0_2 == 4) = false := beq_eq_false_iff_ne.mpr c45
     have c45b1 : (a0_2 != 4) = true := bne_iff_ne.mpr c45
     by_cases c51 : a0_4.toList = ([] : List UInt8)
     ·rw [if_pos c51] at H
      have c51b0 : (a0_4.toList == ([] : List UInt8)) = true := beq_iff_eq.mpr c51
      have c51b1 : (a0_4.toList != ([] : List UInt8)) = false := bne_eq_false_iff_eq.mpr c51
      clear c51
      obtain rfl := Option.some.inj H
      go_enter Tryd.func121, Tryd.ntmps121
      go_wp2_with (((with_reducible refine gate_dst (N := 1) rfl ?_); refine bxE_ 1 41 #[.int .i64 a0_0, .int .i64 a0_1, .int .i64 a0_2, .int .i64 a0_3, .string a0_4, .slice A0_5 l0_5.length c0_5, .int .i64 a0_6, .int .i64 a0_7, .bool a0_8] ?_; intro gb273 hg w52 hbox hb; have BK273 := Aside0.mk (hbox); have GW273 := gee_ hg HB; have GE273 := gee_ hg HB; replace HB := belB_ HB hb; clear hb hbox hg; have hz_ := blk9_ BK273.out))
      go_ret
      exact ⟨by first | rfl | (simp [*] <;> rfl), belW_ HB⟩
     ·rw [if_neg c51] at H
      have c51b0 : (a0_4.toList == ([] : List UInt8)) = false := beq_eq_false_iff_ne.mpr c51
      have c51b1 : (a0_4.toList != ([] : List UInt8)) = true := bne_iff_ne.mpr c51
      obtain rfl := Option.some.inj H
      go_enter Tryd.func121, Tryd.ntmps121
      go_wp2_with (((with_reducible refine gate_dst (N := 1) rfl ?_); refine bxE_ 1 41 #[.int .i64 a0_0, .int .i64 a0_1, .int .i64 a0_2, .int .i64 a0_3, .string a0_4, .slice A0_5 l0_5.length c0_5, .int .i64 a0_6, .int .i64 a0_7, .bool a0_8] ?_; intro gb273 hg w54 hbox hb; have BK273 := Aside0.mk (hbox); have GW273 := gee_ hg HB; have GE273 := gee_ hg HB; replace HB := belB_ HB hb; clear hb hbox hg; have hz_ := blk9_ BK273.out))
      go_ret
      exact ⟨by first | rfl | (simp [*] <;> rfl), belW_ HB⟩
 ·rw [if_neg c2] at H
  have c2b0 : (a0_3 == 0) = false := beq_eq_false_iff_ne.mpr c2
  have c2b1 : (a0_3 != 0) = true := bne_iff_ne.mpr c2
  by_cases c56 : a0_6 = 0
  ·rw [if_pos c56] at H
   have c56b0 : (a0_6 == 0) = true := beq_iff_eq.mpr c56
   have c56b1 : (a0_6 != 0) = false := bne_eq_false_iff_eq.mpr c56
   clear c56
   by_cases c57 : a0_7 = 0
   ·rw [if_pos c57] at H
    have c57b0 : (a0_7 == 0) = true := beq_iff_eq.mpr c57
    have c57b1 : (a0_7 != 0) = false := bne_eq_false_iff_eq.mpr c57
    clear c57
    by_cases c58 : a0_2 = 1
    ·rw [if_pos c58] at H
     have c58b0 : (a0_2 == 1) = true := beq_iff_eq.mpr c58
     have c58b1 : (a0_2 != 1) = false := bne_eq_false_iff_eq.mpr c58
     clear c58
     by_cases c59 : (l0_5.length : Int) > 0
     ·rw [if_pos c59] at H
      have c59b0 : decide (0 < (l0_5.length : Int)) = true := decide_eq_true c59
      have c59b1 : decide (0 < l0_5.length) = true := decide_eq_true (by omega)
      clear c59
      obtain rfl := Option.some.inj H
      go_enter Tryd.func121, Tryd.ntmps121
      go_wp2_with (((with_reducible refine gate_dst (N := 1) rfl ?_); refine bxE_ 1 41 #[.int .i64 a0_0, .int .i64 a0_1, .int .i64 a0_2, .int .i64 a0_3, .string a0_4, .slice A0_5 l0_5.length c0_5, .int .i64 a0_6, .int .i64 a0_7, .bool a0_8] ?_; intro gb273 hg w60 hbox hb; have BK273 := Aside0.mk (hbox); have GW273 := gee_ hg HB; have GE273 := gee_ hg HB; replace HB := belB_ HB hb; clear hb hbox hg; have hz_ := blk9_ BK273.out))
      go_ret
      exact ⟨by first | rfl | (simp [*] <;> rfl), belW_ HB⟩
     ·rw [if_neg c59] at H
      have c59b0 : decide (0 < (l0_5.length : Int)) = false := decide_eq_false c59
      have c59b1 : decide (0 < l0_5.length) = false := decide_eq_false (by omega)
      clear c59
      obtain rfl := Option.some.inj H
      go_enter Tryd.func121, Tryd.ntmps121
      go_wp2_with (((with_reducible refine gate_dst (N := 1) rfl ?_); refine bxE_ 1 41 #[.int .i64 a0_0, .int .i64 a0_1, .int .i64 a0_2, .int .i64 a0_3, .string a0_4, .slice A0_5 l0_5.length c0_5, .int .i64 a0_6, .int .i64 a0_7, .bool a0_8] ?_; intro gb273 hg w62 hbox hb; have BK273 := Aside0.mk (hbox); have GW273 := gee_ hg HB; have GE273 := gee_ hg HB; replace HB := belB_ HB hb; clear hb hbox hg; have hz_ := blk9_ BK273.out))
      go_ret
      exact ⟨by first | rfl | (simp [*] <;> rfl), belW_ HB⟩
    ·rw [if_neg c58] at H
     have c58b0 : (a0_2 == 1) = false := beq_eq_false_iff_ne.mpr c58
     have c58b1 : (a0_2 != 1) = true := bne_iff_ne.mpr c58
     by_cases c64 : a0_2 = 4
     ·rw [if_pos c64] at H
      have c64b0 : (a0_2 == 4) = true := beq_iff_eq.mpr c64
      have c64b1 : (a0_2 != 4) = false := bne_eq_false_iff_eq.mpr c64
      clear c64
      obtain rfl := Option.some.inj H
      go_enter Tryd.func121, Tryd.ntmps121
      go_wp2_with (((with_reducible refine gate_dst (N := 1) rfl ?_); refine bxE_ 1 41 #[.int .i64 a0_0, .int .i64 a0_1, .int .i64 a0_2, .int .i64 a0_3, .string a0_4, .slice A0_5 l0_5.length c0_5, .int .i64 a0_6, .int .i64 a0_7, .bool a0_8] ?_; intro gb273 hg w65 hbox hb; have BK273 := Aside0.mk (hbox); have GW273 := gee_ hg HB; have GE273 := gee_ hg HB; replace HB := belB_ HB hb; clear hb hbox hg; have hz_ := blk9_ BK273.out))
      go_ret
      exact ⟨by first | rfl | (simp [*] <;> rfl), belW_ HB⟩
     ·rw [if_neg c64] at H
      have c64b0 : (a0_2 == 4) = false := beq_eq_false_iff_ne.mpr c64
      have c64b1 : (a0_2 != 4) = true := bne_iff_ne.mpr c64
      obtain rfl := Option.some.inj H
      go_enter Tryd.func121, Tryd.ntmps121
      go_wp2_with (((with_reducible refine gate_dst (N := 1) rfl ?_); refine bxE_ 1 41 #[.int .i64 a0_0, .int .i64 a0_1, .int .i64 a0_2, .int .i64 a0_3, .string a0_4, .slice A0_5 l0_5.length c0_5, .int .i64 a0_6, .int .i64 a0_7, .bool a0_8] ?_; intro gb273 hg w67 hbox hb; have BK273 := Aside0.mk (hbox); have GW273 := gee_ hg HB; have GE273 := gee_ hg HB; replace HB := belB_ HB hb; clear hb hbox hg; have hz_ := blk9_ BK273.out))
      go_ret
      exact ⟨by first | rfl | (simp [*] <;> rfl), belW_ HB⟩
   ·rw [if_neg c57] at H
    have c57b0 : (a0_7 == 0) = false := beq_eq_false_iff_ne.mpr c57
    have c57b1 : (a0_7 != 0) = true := bne_iff_ne.mpr c57
    by_cases c69 : a0_2 = 1
    ·rw [if_pos c69] at H
     have c69b0 : (a0_2 == 1) = true := beq_iff_eq.mpr c69
     have c69b1 : (a0_2 != 1) = false := bne_eq_false_iff_eq.mpr c69
     clear c69
     by_cases c70 : (l0_5.length : Int) > 0
     ·rw [if_pos c70] at H
      have c70b0 : decide (0 < (l0_5.length : Int)) = true := decide_eq_true c70
      have c70b1 : decide (0 < l0_5.length) = true := decide_eq_true (by omega)
      clear c70
      obtain rfl := Option.some.inj H
      go_enter Tryd.func121, Tryd.ntmps121
      go_wp2_with (((with_reducible refine gate_dst (N := 1) rfl ?_); refine bxE_ 1 41 #[.int .i64 a0_0, .int .i64 a0_1, .int .i64 a0_2, .int .i64 a0_3, .string a0_4, .slice A0_5 l0_5.length c0_5, .int .i64 a0_6, .int .i64 a0_7, .bool a0_8] ?_; intro gb273 hg w71 hbox hb; have BK273 := Aside0.mk (hbox); have GW273 := gee_ hg HB; have GE273 := gee_ hg HB; replace HB := belB_ HB hb; clear hb hbox hg; have hz_ := blk9_ BK273.out))
      go_ret
      exact ⟨by first | rfl | (simp [*] <;> rfl), belW_ HB⟩
     ·rw [if_neg c70] at H
      have c70b0 : decide (0 < (l0_5.length : Int)) = false := decide_eq_false c70
      have c70b1 : decide (0 < l0_5.length) = false := decide_eq_false (by omega)
      clear c70
      obtain rfl := Option.some.inj H
      go_enter Tryd.func121, Tryd.ntmps121
      go_wp2_with (((with_reducible refine gate_dst (N := 1) rfl ?_); refine bxE_ 1 41 #[.int .i64 a0_0, .int .i64 a0_1, .int .i64 a0_2, .int .i64 a0_3, .string a0_4, .slice A0_5 l0_5.length c0_5, .int .i64 a0_6, .int .i64 a0_7, .bool a0_8] ?_; intro gb273 hg w73 hbox hb; have BK273 := Aside0.mk (hbox); have GW273 := gee_ hg HB; have GE273 := gee_ hg HB; replace HB := belB_ HB hb; clear hb hbox hg; have hz_ := blk9_ BK273.out))
      go_ret
      exact ⟨by first | rfl | (simp [*] <;> rfl), belW_ HB⟩
    ·rw [if_neg c69] at H
     have c69b0 : (a0_2 == 1) = false := beq_eq_false_iff_ne.mpr c69
     have c69b1 : (a0_2 != 1) = true := bne_iff_ne.mpr c69
     by_cases c75 : a0_2 = 4
     ·rw [if_pos c75] at H
      have c75b0 : (a0_2 == 4) = true := beq_iff_eq.mpr c75
      have c75b1 : (a0_2 != 4) = false := bne_eq_false_iff_eq.mpr c75
      clear c75
      obtain rfl := Option.some.inj H
      go_enter Tryd.func121, Tryd.ntmps121
      go_wp2_with (((with_reducible refine gate_dst (N := 1) rfl ?_); refine bxE_ 1 41 #[.int .i64 a0_0, .int .i64 a0_1, .int .i64 a0_2, .int .i64 a0_3, .string a0_4, .slice A0_5 l0_5.length c0_5, .int .i64 a0_6, .int .i64 a0_7, .bool a0_8] ?_; intro gb273 hg w76 hbox hb; have BK273 := Aside0.mk (hbox); have GW273 := gee_ hg HB; have GE273 := gee_ hg HB; replace HB := belB_ HB hb; clear hb hbox hg; have hz_ := blk9_ BK273.out))
      go_ret
      exact ⟨by first | rfl | (simp [*] <;> rfl), belW_ HB⟩
     ·rw [if_neg c75] at H
      have c75b0 : (a0_2 == 4) = false := beq_eq_false_iff_ne.mpr c75
      have c75b1 : (a0_2 != 4) = true := bne_iff_ne.mpr c75
      obtain rfl := Option.some.inj H
      go_enter Tryd.func121, Tryd.ntmps121
      go_wp2_with (((with_reducible refine gate_dst (N := 1) rfl ?_); refine bxE_ 1 41 #[.int .i64 a0_0, .int .i64 a0_1, .int .i64 a0_2, .int .i64 a0_3, .string a0_4, .slice A0_5 l0_5.length c0_5, .int .i64 a0_6, .int .i64 a0_7, .bool a0_8] ?_; intro gb273 hg w78 hbox hb; have BK273 := Aside0.mk (hbox); have GW273 := gee_ hg HB; have GE273 := gee_ hg HB; replace HB := belB_ HB hb; clear hb hbox hg; have hz_ := blk9_ BK273.out))
      go_ret
      exact ⟨by first | rfl | (simp [*] <;> rfl), belW_ HB⟩
  ·rw [if_neg c56] at H
   have c56b0 : (a0_6 == 0) = false := beq_eq_false_iff_ne.mpr c56
   have c56b1 : (a0_6 != 0) = true := bne_iff_ne.mpr c56
   by_cases c80 : a0_2 = 1
   ·rw [if_pos c80] at H
    have c80b0 : (a0_2 == 1) = true := beq_iff_eq.mpr c80
    have c80b1 : (a0_2 != 1) = false := bne_eq_false_iff_eq.mpr c80
    clear c80
    by_cases c81 : (l0_5.length : Int) > 0
    ·rw [if_pos c81] at H
     have c81b0 : decide (0 < (l0_5.length : Int)) = true := decide_eq_true c81
     have c81b1 : decide (0 < l0_5.length) = true := decide_eq_true (by omega)
     clear c81
     obtain rfl := Option.some.inj H
     go_enter Tryd.func121, Tryd.ntmps121
     go_wp2_with (((with_reducible refine gate_dst (N := 1) rfl ?_); refine bxE_ 1 41 #[.int .i64 a0_0, .int .i64 a0_1, .int .i64 a0_2, .int .i64 a0_3, .string a0_4, .slice A0_5 l0_5.length c0_5, .int .i64 a0_6, .int .i64 a0_7, .bool a0_8] ?_; intro gb273 hg w82 hbox hb; have BK273 := Aside0.mk (hbox); have GW273 := gee_ hg HB; have GE273 := gee_ hg HB; replace HB := belB_ HB hb; clear hb hbox hg; have hz_ := blk9_ BK273.out))
     go_ret
     exact ⟨by first | rfl | (simp [*] <;> rfl), belW_ HB⟩
    ·rw [if_neg c81] at H
     have c81b0 : decide (0 < (l0_5.length : Int)) = false := decide_eq_false c81
     have c81b1 : decide (0 < l0_5.length) = false := decide_eq_false (by omega)
     clear c81
     obtain rfl := Option.some.inj H
     go_enter Tryd.func121, Tryd.ntmps121
     go_wp2_with (((with_reducible refine gate_dst (N := 1) rfl ?_); refine bxE_ 1 41 #[.int .i64 a0_0, .int .i64 a0_1, .int .i64 a0_2, .int .i64 a0_3, .string a0_4, .slice A0_5 l0_5.length c0_5, .int .i64 a0_6, .int .i64 a0_7, .bool a0_8] ?_; intro gb273 hg w84 hbox hb; have BK273 := Aside0.mk (hbox); have GW273 := gee_ hg HB; have GE273 := gee_ hg HB; replace HB := belB_ HB hb; clear hb hbox hg; have hz_ := blk9_ BK273.out))
     go_ret
     exact ⟨by first | rfl | (simp [*] <;> rfl), belW_ HB⟩
   ·rw [if_neg c80] at H
    have c80b0 : (a0_2 == 1) = false := beq_eq_false_iff_ne.mpr c80
    have c80b1 : (a0_2 != 1) = true := bne_iff_ne.mpr c80
    by_cases c86 : a0_2 = 4
    ·rw [if_pos c86] at H
     have c86b0 : (a0_2 == 4) = true := beq_iff_eq.mpr c86
     have c86b1 : (a0_2 != 4) = false := bne_eq_false_iff_eq.mpr c86
     clear c86
     obtain rfl := Option.some.inj H
     go_enter Tryd.func121, Tryd.ntmps121
     go_wp2_with (((with_reducible refine gate_dst (N := 1) rfl ?_); refine bxE_ 1 41 #[.int .i64 a0_0, .int .i64 a0_1, .int .i64 a0_2, .int .i64 a0_3, .string a0_4, .slice A0_5 l0_5.length c0_5, .int .i64 a0_6, .int .i64 a0_7, .bool a0_8] ?_; intro gb273 hg w87 hbox hb; have BK273 := Aside0.mk (hbox); have GW273 := gee_ hg HB; have GE273 := gee_ hg HB; replace HB := belB_ HB hb; clear hb hbox hg; have hz_ := blk9_ BK273.out))
     go_ret
     exact ⟨by first | rfl | (simp [*] <;> rfl), belW_ HB⟩
    ·rw [if_neg c86] at H
     have c86b0 : (a0_2 == 4) = false := beq_eq_false_iff_ne.mpr c86
     have c86b1 : (a0_2 != 4) = true := bne_iff_ne.mpr c86
     obtain rfl := Option.some.inj H
     go_enter Tryd.func121, Tryd.ntmps121
     go_wp2_with (((with_reducible refine gate_dst (N := 1) rfl ?_); refine bxE_ 1 41 #[.int .i64 a0_0, .int .i64 a0_1, .int .i64 a0_2, .int .i64 a0_3, .string a0_4, .slice A0_5 l0_5.length c0_5, .int .i64 a0_6, .int .i64 a0_7, .bool a0_8] ?_; intro gb273 hg w89 hbox hb; have BK273 := Aside0.mk (hbox); have GW273 := gee_ hg HB; have GE273 := gee_ hg HB; replace HB := belB_ HB hb; clear hb hbox hg; have hz_ := blk9_ BK273.out))
     go_ret
     exact ⟨by first | rfl | (simp [*] <;> rfl), belW_ HB⟩

end Go.Proofs.YtloccjkcmlkifaaDoor.PAll
