/- XformOverIsCross_card, part 29. -/
import Derived.Test.YtloccjkcmlkifaaDoorQOc17
import Derived.Test.YtloccjkcmlkifaaDoorQOc25
import Derived.Test.YtloccjkcmlkifaaDoorQOc28

namespace Go.Proofs.YtloccjkcmlkifaaDoor.PAll
open Go.RowKit Go.Proofs.YtloccjkcmlkifaaDoorW.PrintWords Go.Proofs.YtloccjkcmlkifaaDoorW.PrintLast Go.Proofs.YtloccjkcmlkifaaDoorW.PrintMore
attribute [local go_sem] max2_int min2_int max_two min_two max_three min_three max_four min_four   -- for this text's walks alone
set_option linter.unusedVariables false
set_option linter.unusedSimpArgs false

attribute [local go_sem high] idx34_0 idx34_1 idx35_0 idx35_1
mutual
def span_Back.j0 : Nat → List (S94) → Int → Int → List (S94) → List (S94) → Bool → Option ((List (S94)) × (List (S94)) × Int)
 | 0, _, _, _, _, _, _ => none
 | k + 1, x0, x1, x2, x6, x7, x32 => if x32 = true then (some (([] : List (S94)), ([] : List (S94)), 12)) else (span_Back.l0 k x1 x2 x6 x7 x0 (x0.length : Int) 0)
def span_Back.l0 : Nat → Int → Int → List (S94) → List (S94) → List (S94) → Int → Int → Option ((List (S94)) × (List (S94)) × Int)
 | 0, _, _, _, _, _, _, _ => none
 | k + 1, x1, x2, x6, x7, x33, x34, x35 => if x35 < x34 then (if 0 ≤ x35 then (if x35 < (x33.length : Int) then ((span_add.f x6 ((rd_T94 x33 x35).f0) (mn ((rd_T94 x33 x35).f1) x1)).bind fun t243 => ((span_add.f x7 (wrap64 ((mx ((rd_T94 x33 x35).f0) x1) - x1)) (wrap64 ((mn ((rd_T94 x33 x35).f1) (wrap64 (x1 + x2))) - x1))).bind fun t246 => ((span_add.f t243 (wrap64 ((mx ((rd_T94 x33 x35).f0) (wrap64 (x1 + x2))) - x2)) (wrap64 (((rd_T94 x33 x35).f1) - x2))).bind fun t249 => (span_Back.l0 k x1 x2 t249 t246 x33 x34 (wrap64 (x35 + 1)))))) else (none)) else (none)) else (some (x6, x7, 0))
end
def span_Back.f (k : Nat) (l0 : List (S94)) (a1 : Int) (a2 : Int) : Option ((List (S94)) × (List (S94)) × Int) := (span_Check.f k l0).bind fun bt237 => (if bt237.2 = 0 then ((span_outside.f a1).bind fun t239 => (if t239 = true then (span_Back.j0 k l0 a1 a2 ([] : List (S94)) ([] : List (S94)) true) else ((span_outside.f a2).bind fun t240 => (if t240 = true then (span_Back.j0 k l0 a1 a2 ([] : List (S94)) ([] : List (S94)) true) else (span_Back.j0 k l0 a1 a2 ([] : List (S94)) ([] : List (S94)) (decide ((wrap64 (a1 + a2)) > 1048576))))))) else (some (([] : List (S94)), ([] : List (S94)), bt237.2)))
set_option maxHeartbeats 8000000 in
set_option maxRecDepth 100000 in
theorem span_Back.calls (k : Nat) (A0 : Option Addr) (c0 : Nat) (l0 : List (S94)) (a1 : Int) (a2 : Int) (r1 : List (S94)) (r2 : List (S94)) (r3 : Int) (w : World) (hr0 : Kd.C k94 w A0 l0.length l0) (hc0 : l0.length ≤ c0) (h : span_Back.f k l0 a1 a2 = some (r1, r2, r3)) :
 Calls Tryd.prog 94 #[.slice A0 l0.length c0, .int .i64 a1, .int .i64 a2] w fun e w' => ∃ v0_ v1_ : Value, e = .returned (.tuple #[v0_, v1_, .int .i64 r3]) ∧ Kd.R k94 94 w' w.heap.size (fun k_ => some k_ ≠ (v1_ : Value).ownBlock) v0_ r1 ∧ Kd.R k94 94 w' w.heap.size (fun k_ => some k_ ≠ (v0_ : Value).ownBlock) v1_ r2 ∧ Below w.heap.size w w' := by
 have hu94 := Tryd.underlying94
 have HR0 := Aside0.mk hr0
 have HC0 := Aside0.mk hc0
 clear hr0 hc0
 have HB := Aside0.mk (Below.refl w.heap.size w)
 have H : ((span_Check.f k l0).bind fun bt237 => (if bt237.2 = 0 then ((span_outside.f a1).bind fun t239 => (if t239 = true then (span_Back.j0 k l0 a1 a2 ([] : List (S94)) ([] : List (S94)) true) else ((span_outside.f a2).bind fun t240 => (if t240 = true then (span_Back.j0 k l0 a1 a2 ([] : List (S94)) ([] : List (S94)) true) else (span_Back.j0 k l0 a1 a2 ([] : List (S94)) ([] : List (S94)) (decide ((wrap64 (a1 + a2)) > 1048576))))))) else (some (([] : List (S94)), ([] : List (S94)), bt237.2)))) = some (r1, r2, r3) := h
 clear h
 replace H := Option.bind_eq_some_iff.mp H
 obtain ⟨⟨t237, t238⟩, A40, H⟩ := H
 try dsimp only at H
 have A4 := Aside0.mk A40
 clear A40
 by_cases c5 : t238 = 0
 ·rw [if_pos c5] at H
  have c5b0 := beq_iff_eq.mpr c5
  have c5b1 := bne_eq_false_iff_eq.mpr c5
  clear c5
  have HC6 := Aside0.mk H
  clear H
  go_enter Tryd.func94, Tryd.ntmps94
  go_upto_region 4 with (((with_reducible refine gate_callee (f := 90) rfl ?_); refine goS_ 15 rfl Tryd.func90 #[.slice A0 l0.length c0] ?_; (with_reducible refine (span_Check.calls k _ _ l0 t237 t238 _ ?side1 ?side2 A4.out).mono ?_); (case side1 => exact CW_ (HR0.out)); (case side2 => exact HC0.out); rintro e w7 ⟨rfl, hb⟩; refine ⟨_, rfl, ?_⟩; replace HB := belB_ HB hb; try clear hb))
  (try simp only [Act.put, List.setIfInBounds_toArray, List.set_cons_zero, List.set_cons_succ])
  go_cut [32] (fun v32 wc => ∃ (kq : Nat) (x32_5 : Bool), v32 = .bool x32_5 ∧ Aside0 (span_Back.j0 kq l0 a1 a2 ([] : List (S94)) ([] : List (S94)) x32_5 = some (r1, r2, r3)) ∧ Aside0 (kq ≤ k) ∧ Aside0 (Kd.R k94 94 wc w.heap.size (fun k_ => some k_ ≠ ((.slice none 0 0) : Value).ownBlock) (.slice none 0 0) ([] : List (S94))) ∧ Aside0 (Kd.R k94 94 wc w.heap.size (fun k_ => some k_ ≠ ((.slice none 0 0) : Value).ownBlock) (.slice none 0 0) ([] : List (S94))) ∧ Aside0 (Below w.heap.size w wc))
  case first =>
   have H := HC6.out
   clear HC6
   replace H := Option.bind_eq_some_iff.mp H
   obtain ⟨t239, A80, H⟩ := H
   try dsimp only at H
   have A8 := Aside0.mk A80
   clear A80
   by_cases c9 : t239 = true
   ·subst c9
    have H1 := H; rw [if_pos rfl] at H1
    clear H
    have H := H1
    clear H1
    have H' := Aside0.mk H
    clear H
    go_wp2_with (((with_reducible refine gate_callee (f := 91) rfl ?_); refine goS_ 22 rfl Tryd.func91 #[.int .i64 a1] ?_; (with_reducible refine (span_outside.calls a1 true _ A8.out).mono ?_); rintro e w' ⟨rfl, ⟨nd, rfl⟩⟩; refine ⟨_, rfl, ?_⟩))
    go_meet
    case rel => exact ⟨_, (true), ok_, H', ⟨lo_⟩, ⟨nl_⟩, ⟨nl_⟩, ⟨belW_ HB⟩⟩
   ·replace c9 := Bool.eq_false_iff.mpr c9
    subst c9
    have H1 := H; rw [if_neg (show ¬ (false = true) by decide)] at H1
    clear H
    have H := H1
    clear H1
    replace H := Option.bind_eq_some_iff.mp H
    obtain ⟨t240, A100, H⟩ := H
    try dsimp only at H
    have A10 := Aside0.mk A100
    clear A100
    by_cases c11 : t240 = true
    ·subst c11
     have H1 := H; rw [if_pos rfl] at H1
     clear H
     have H := H1
     clear H1
     have H' := Aside0.mk H
     clear H
     go_wp2_with (first | ((with_reducible refine gate_callee (f := 91) rfl ?_); refine goS_ 22 rfl Tryd.func91 #[.int .i64 a1] ?_; (with_reducible refine (span_outside.calls a1 false _ A8.out).mono ?_); rintro e w' ⟨rfl, ⟨nd, rfl⟩⟩; refine ⟨_, rfl, ?_⟩) | (go_at_call 91; (with_reducible refine (span_outside.calls a2 true _ A10.out).mono ?_); rintro e w' ⟨rfl, ⟨nd, rfl⟩⟩))
     go_meet
     case rel => exact ⟨_, (true), ok_, H', ⟨lo_⟩, ⟨nl_⟩, ⟨nl_⟩, ⟨belW_ HB⟩⟩
    ·replace c11 := Bool.eq_false_iff.mpr c11
     subst c11
     have H1 := H; rw [if_neg (show ¬ (false = true) by decide)] at H1
     clear H
     have H := H1
     clear H1
     have H' := Aside0.mk H
     clear H
     go_wp2_with (first | ((with_reducible refine gate_callee (f := 91) rfl ?_); refine goS_ 22 rfl Tryd.func91 #[.int .i64 a1] ?_; (with_reducible refine (span_outside.calls a1 false _ A8.out).mono ?_); rintro e w' ⟨rfl, ⟨nd, rfl⟩⟩; refine ⟨_, rfl, ?_⟩) | (go_at_call 91; (with_reducible refine (span_outside.calls a2 false _ A10.out).mono ?_); rintro e w' ⟨rfl, ⟨nd, rfl⟩⟩))
     go_meet
     case rel => exact ⟨_, (decide ((wrap64 (a1 + a2)) > 1048576)), ok_, H', ⟨lo_⟩, ⟨nl_⟩, ⟨nl_⟩, ⟨belW_ HB⟩⟩
  case rest =>
   clear HC6
   try clear c5
   try clear c5b0
   try clear c5b1
   obtain ⟨kq, x32_5, rfl, HA, HJ5, HO_6, HO_7, HB⟩ := hcut
   cases kq with
   | zero => exact absurd HA.out (by simp [span_Back.j0])
   | succ kj5 =>
    have H := HA.out
    clear HA
    simp only [span_Back.j0] at H
    by_cases c12 : x32_5 = true
    ·subst c12
     have H1 := H; rw [if_pos rfl] at H1
     clear H
     have H := H1
     clear H1
     simp only [Option.some.injEq, Prod.mk.injEq] at H
     obtain ⟨rfl, rfl, rfl⟩ := H
     go_wp2
     go_ret3
     exact ⟨_, _, rs_, nl_, nl_, belW_ HB⟩
    ·replace c12 := Bool.eq_false_iff.mpr c12
     subst c12
     have H1 := H; rw [if_neg (show ¬ (false = true) by decide)] at H1
     clear H
     have H := H1
     clear H1
     have H' := Aside0.mk H
     clear H
     go_wp2
     go_loopg [6, 7, 35] kj5 (fun kq v6 v7 v35 w' => ∃ (x6_2 : List (S94)) (x7_2 : List (S94)) (x35_2 : Int), v35 = .int .i64 x35_2 ∧ Aside0 (span_Back.l0 kq a1 a2 x6_2 x7_2 l0 (l0.length : Int) x35_2 = some (r1, r2, r3)) ∧ Aside0 (kq ≤ kj5) ∧ Aside0 (Kd.R k94 94 w' w.heap.size (fun k_ => some k_ ≠ (v7 : Value).ownBlock) v6 x6_2) ∧ Aside0 (Kd.R k94 94 w' w.heap.size (fun k_ => some k_ ≠ (v6 : Value).ownBlock) v7 x7_2) ∧ Aside0 (Below w.heap.size w w'))
     case atStart => exact ⟨(([] : List (S94))), (([] : List (S94))), (0), ok_, H', ⟨Nat.le_refl _⟩, ⟨RW_ <| HO_6.out⟩, ⟨RW_ <| HO_7.out⟩, ⟨belW_ HB⟩⟩
     case round =>
      clear H'
      try clear c1
      try clear p2
      try clear c5
      try clear c5b0
      try clear c5b1
      try clear p6
      try clear c9
      try clear c11
      try clear c12
      try clear p2
      try clear p6
      obtain ⟨x6_2, x7_2, x35_2, rfl, HA, HK2, HO_6, HO_7, HB⟩ := hrel
      cases gk with
      | zero => exact absurd HA.out (by simp [span_Back.l0])
      | succ k2 =>
       have H := HA.out
       clear HA
       simp only [span_Back.l0] at H
       by_cases c13 : x35_2 < (l0.length : Int)
       ·rw [if_pos c13] at H
        have c13b0 := decide_eq_true c13
        clear c13
        by_cases c14 : 0 ≤ x35_2
        ·rw [if_pos c14] at H
         have c14b0 := decide_eq_true c14
         clear c14
         by_cases c15 : x35_2 < (l0.length : Int)
         ·rw [if_pos c15] at H
          have c15b0 := decide_eq_true c15
          clear c15
          obtain ⟨ji16, hji16⟩ : ∃ j_ : Int, (mn ((rd_T94 l0 x35_2).f1) a1) = j_ := ⟨_, rfl⟩
          replace H : ((span_add.f x6_2 ((rd_T94 l0 x35_2).f0) (ji16)).bind fun t243 => ((span_add.f x7_2 (wrap64 ((mx ((rd_T94 l0 x35_2).f0) a1) - a1)) (wrap64 ((mn ((rd_T94 l0 x35_2).f1) (wrap64 (a1 + a2))) - a1))).bind fun t246 => ((span_add.f t243 (wrap64 ((mx ((rd_T94 l0 x35_2).f0) (wrap64 (a1 + a2))) - a2)) (wrap64 (((rd_T94 l0 x35_2).f1) - a2))).bind fun t249 => (span_Back.l0 k2 a1 a2 t249 t246 l0 (l0.length : Int) (wrap64 (x35_2 + 1)))))) = some (r1, r2, r3) := by first | (rw [hji16] at H; exact H) | (simp only [hji16] at H ⊢; exact H)
          have hji16_ : (if a1 < ((rd_T94 l0 x35_2).f1) then a1 else ((rd_T94 l0 x35_2).f1)) = ji16 := hji16
          replace H := Option.bind_eq_some_iff.mp H
          obtain ⟨t243, A170, H⟩ := H
          try dsimp only at H
          have A17 := Aside0.mk A170
          clear A170
          obtain ⟨ji18, hji18⟩ : ∃ j_ : Int, (mx ((rd_T94 l0 x35_2).f0) a1) = j_ := ⟨_, rfl⟩
          replace H : ((span_add.f x7_2 (wrap64 ((ji18) - a1)) (wrap64 ((mn ((rd_T94 l0 x35_2).f1) (wrap64 (a1 + a2))) - a1))).bind fun t246 => ((span_add.f t243 (wrap64 ((mx ((rd_T94 l0 x35_2).f0) (wrap64 (a1 + a2))) - a2)) (wrap64 (((rd_T94 l0 x35_2).f1) - a2))).bind fun t249 => (span_Back.l0 k2 a1 a2 t249 t246 l0 (l0.length : Int) (wrap64 (x35_2 + 1))))) = some (r1, r2, r3) := by first | (rw [hji18] at H; exact H) | (simp only [hji18] at H ⊢; exact H)
          (try rw [hji18] at A17)
          have hji18_ : (if ((rd_T94 l0 x35_2).f0) < a1 then a1 else ((rd_T94 l0 x35_2).f0)) = ji18 := hji18
          obtain ⟨ji19, hji19⟩ : ∃ j_ : Int, (mn ((rd_T94 l0 x35_2).f1) (wrap64 (a1 + a2))) = j_ := ⟨_, rfl⟩
          replace H : ((span_add.f x7_2 (wrap64 ((ji18) - a1)) (wrap64 ((ji19) - a1))).bind fun t246 => ((span_add.f t243 (wrap64 ((mx ((rd_T94 l0 x35_2).f0) (wrap64 (a1 + a2))) - a2)) (wrap64 (((rd_T94 l0 x35_2).f1) - a2))).bind fun t249 => (span_Back.l0 k2 a1 a2 t249 t246 l0 (l0.length : Int) (wrap64 (x35_2 + 1))))) = some (r1, r2, r3) := by first | (rw [hji19] at H; exact H) | (simp only [hji19] at H ⊢; exact H)
          (try rw [hji19] at A17)
          have hji19_ : (if (wrap64 (a1 + a2)) < ((rd_T94 l0 x35_2).f1) then (wrap64 (a1 + a2)) else ((rd_T94 l0 x35_2).f1)) = ji19 := hji19
          replace H := Option.bind_eq_some_iff.mp H
          obtain ⟨t246, A200, H⟩ := H
          try dsimp only at H
          have A20 := Aside0.mk A200
          clear A200
          obtain ⟨ji21, hji21⟩ : ∃ j_ : Int, (mx ((rd_T94 l0 x35_2).f0) (wrap64 (a1 + a2))) = j_ := ⟨_, rfl⟩
          replace H : ((span_add.f t243 (wrap64 ((ji21) - a2)) (wrap64 (((rd_T94 l0 x35_2).f1) - a2))).bind fun t249 => (span_Back.l0 k2 a1 a2 t249 t246 l0 (l0.length : Int) (wrap64 (x35_2 + 1)))) = some (r1, r2, r3) := by first | (rw [hji21] at H; exact H) | (simp only [hji21] at H ⊢; exact H)
          (try rw [hji21] at A17)
          (try rw [hji21] at A20)
          have hji21_ : (if ((rd_T94 l0 x35_2).f0) < (wrap64 (a1 + a2)) then (wrap64 (a1 + a2)) else ((rd_T94 l0 x35_2).f0)) = ji21 := hji21
          replace H := Option.bind_eq_some_iff.mp H
          obtain ⟨t249, A220, H⟩ := H
          try dsimp only at H
          have A22 := Aside0.mk A220
          clear A220
          have H' := Aside0.mk H
          clear H
          have p241 := dz_ (x35_2 : Int)
          have q241 := dl_ x35_2 (l0.length : Int)
          obtain ⟨ad241, e241, hx241_0, hx241_1⟩ := at_T94 HR0.out x35_2 p241 q241
          cases e241
          replace hx241_0 := pw_cell_below HB.out hx241_0
          replace hx241_1 := pw_cell_below HB.out hx241_1
          replace p241 := eq_true p241
          replace q241 := eq_true q241
          go_wp2_with (first | ((with_reducible refine gate_dst (N := 12) rfl ?_); refine bxE_ 12 94 #[.int .i64 0, .int .i64 0] ?_; intro gb242 hg w23 hbox hb; have BK242 := Aside0.mk (hbox); have GW242 := gee_ hg HB; have GE242 := gee_ hg HB; replace HO_6 := Aside0.mk (Kd.R_below (Kd.R_elderB (RW_ <| HO_6.out) gb242 (Nat.le_of_eq hg.symm)) hb); replace HO_7 := Aside0.mk (Kd.R_below (Kd.R_elderB (RW_ <| HO_7.out) gb242 (Nat.le_of_eq hg.symm)) hb); replace HB := belB_ HB hb; clear hb hbox hg; have hz_ := blk2_ BK242.out) | ((with_reducible refine gate_store (t := 94) (p := 12) rfl ?_); refine store_event (t := 94) (p := 12) (v := ?vo_w25) (w1 := ((w23.setCell ⟨gb242, 0, none⟩ (.int .i64 ((rd_T94 l0 x35_2).f0))).setCell ⟨gb242, 1, none⟩ (.int .i64 ((rd_T94 l0 x35_2).f1)))) ?hg ?ho ?hn ?hr ?_; (case ho => rfl); (case hg => rfl); (case hn => rfl); (case hr => first | (go_simp; done) | (go_simp; rfl)); intro w25 hw; have n0_ : Aside0 (Kd.R k94 94 w25 w.heap.size (fun k_ => some k_ ≠ (u7 : Value).ownBlock ∧ k_ ≠ gb242) u6 x6_2) := ⟨(by rw [hw]; exact (RW_ <| Kd.R_mono (Kd.R_far (p := ⟨gb242, 1, none⟩) (Kd.R_far (p := ⟨gb242, 0, none⟩) (Kd.R_mono HO_6.out (fun k_ hk => (⟨hk, hk.2⟩ : _ ∧ k_ ≠ gb242))) (fun _ hk => hk.2) (.int .i64 ((rd_T94 l0 x35_2).f0))) (fun _ hk => hk.2) (.int .i64 ((rd_T94 l0 x35_2).f1))) (fun _ hk => ⟨hk.1.1, hk.1.2⟩)))⟩; have n1_ : Aside0 (Kd.R k94 94 w25 w.heap.size (fun k_ => some k_ ≠ (u6 : Value).ownBlock ∧ k_ ≠ gb242) u7 x7_2) := ⟨(by rw [hw]; exact (RW_ <| Kd.R_mono (Kd.R_far (p := ⟨gb242, 1, none⟩) (Kd.R_far (p := ⟨gb242, 0, none⟩) (Kd.R_mono HO_7.out (fun k_ hk => (⟨hk, hk.2⟩ : _ ∧ k_ ≠ gb242))) (fun _ hk => hk.2) (.int .i64 ((rd_T94 l0 x35_2).f0))) (fun _ hk => hk.2) (.int .i64 ((rd_T94 l0 x35_2).f1))) (fun _ hk => ⟨hk.1.1, hk.1.2⟩)))⟩; have n2_ : Aside0 (w25.heap[gb242]? = some (.cells #[.int .i64 ((rd_T94 l0 x35_2).f0), .int .i64 ((rd_T94 l0 x35_2).f1)] 94 (0, 0))) := ⟨(by rw [hw]; exact (by (with_reducible repeat (first | refine blk_drewN ?_ _ | refine blk_drew ?_ | refine blk_alloc ?_ _)); refine blk_put (cs := #[.int .i64 ((rd_T94 l0 x35_2).f0), .int .i64 0]) ?_ 1 _ rfl; (with_reducible repeat (first | refine blk_drewN ?_ _ | refine blk_drew ?_ | refine blk_alloc ?_ _)); refine blk_put (cs := #[.int .i64 0, .int .i64 0]) ?_ 0 _ rfl; (with_reducible repeat (first | refine blk_drewN ?_ _ | refine blk_drew ?_ | refine blk_alloc ?_ _)); exact BK242.out))⟩; have n3_ : Aside0 (Below w.heap.size w w25) := ⟨(by rw [hw]; exact (belW_ HB))⟩; clear hw; clear HO_6; clear HO_7; clear BK242; clear HB; have HO_6 := n0_; have HO_7 := n1_; have BK242 := n2_; have HB := n3_; clear n0_ n1_ n2_ n3_; have hz_ := blk2_ BK242.out; obtain ⟨Ao27, co27, eo27⟩ := Kd.R_slice HO_6.out; subst eo27) | ((with_reducible refine gate_callee (f := 92) rfl ?_); refine goesL_ (some 46) rfl rfl Tryd.func92 (by kernel_rfl) rfl #[.slice Ao27 x6_2.length co27, .int .i64 ((rd_T94 l0 x35_2).f0), .int .i64 ji16] rfl (by (try simp only [List.map_toArray, List.map_cons, List.map_nil]); first | done | (simp only [hji16]; rfl) | rfl | (simp only [List.length_drop, List.length_take]; rfl)) ?_; (with_reducible refine (span_add.calls (fun k_ => some k_ = (.slice Ao27 x6_2.length co27 : Value).ownBlock) (.slice Ao27 x6_2.length co27) x6_2 ((rd_T94 l0 x35_2).f0) ji16 t243 w _ ?side1 ?side2 A17.out).mono ?_); (case side1 => repeat (first | (with_reducible first | exact HB.out | apply below_alloc | apply pw_below_drewN | apply below_drew1 | refine below_set ?_ GE242.out) | exact HB.out)); (case side2 => exact Kd.R_tight rfl HO_6.out); rintro e w28 ⟨v244, rfl, ho0, hb, hkp⟩; refine ⟨_, rfl, ?_⟩; have HO245 := Aside0.mk (Kd.R_mono (ok' := fun k_ => some k_ ≠ (u7 : Value).ownBlock ∧ k_ ≠ gb242) ho0 (fun k_ hk_ => ⟨Or.elim hk_ (fun hs_ => fun e_ => (((HO_7.out).1 k_ e_.symm).1) hs_) (fun hn_ => (Kd.fresh' (Kd.R_lt (RW_ <| HO_7.out)) k_ hn_)), Or.elim hk_ (fun hs_ => fun e_ => (Kd.R_away HO_6.out (fun _ hk => hk.2)) (by rw [← e_]; exact hs_)) (fun hn_ => (Kd.freshB (blkW_ BK242) k_ hn_))⟩)); replace HO_7 := Aside0.mk (Kd.R_mono (ok' := fun k_ => k_ ≠ gb242 ∧ some k_ ≠ (v244 : Value).ownBlock) (Kd.R_keptB (HO_7.out) hkp (fun k_ hk_ hs_ => (hk_.1) hs_)) (fun k_ hk_ => ⟨hk_.1.2, fun e_ => Or.elim (ho0.1 k_ e_.symm) (fun hs_ => hk_.2.1 hs_) (fun hn_ => Nat.not_le.2 hk_.2.2 hn_)⟩)); replace BK242 := Aside0.mk (blk_kept (blkW_ BK242) hkp (fun hs_ => (fun e_ => (Kd.R_away HO_6.out (fun _ hk => hk.2)) e_) hs_)); replace HB := Aside0.mk (hb); clear HO_6; (try clear hb); (try clear hkp); (try clear ho0); have hz_ := blk2_ BK242.out; obtain ⟨Ao30, co30, eo30⟩ := Kd.R_slice HO_7.out; subst eo30) | ((with_reducible refine gate_callee (f := 92) rfl ?_); refine goesL_ (some 62) rfl rfl Tryd.func92 (by kernel_rfl) rfl #[.slice Ao30 x7_2.length co30, .int .i64 (wrap64 ((ji18) - a1)), .int .i64 (wrap64 ((ji19) - a1))] rfl (by (try simp only [List.map_toArray, List.map_cons, List.map_nil]); first | done | (simp only [hji18, hji19]; rfl) | rfl | (simp only [List.length_drop, List.length_take]; rfl)) ?_; (with_reducible refine (span_add.calls (fun k_ => some k_ = (.slice Ao30 x7_2.length co30 : Value).ownBlock) (.slice Ao30 x7_2.length co30) x7_2 (wrap64 ((ji18) - a1)) (wrap64 ((ji19) - a1)) t246 w _ ?side1 ?side2 A20.out).mono ?_); (case side1 => repeat (first | (with_reducible first | exact HB.out | apply below_alloc | apply pw_below_drewN | apply below_drew1 | refine below_set ?_ GE242.out) | exact HB.out)); (case side2 => exact Kd.R_tight rfl HO_7.out); rintro e w31 ⟨v247, rfl, ho0, hb, hkp⟩; refine ⟨_, rfl, ?_⟩; have HO248 := Aside0.mk (Kd.R_mono (ok' := fun k_ => some k_ ≠ (v244 : Value).ownBlock ∧ k_ ≠ gb242) ho0 (fun k_ hk_ => ⟨Or.elim hk_ (fun hs_ => fun e_ => (((HO245.out).1 k_ e_.symm).1) hs_) (fun hn_ => (Kd.fresh' (Kd.R_lt (RW_ <| HO245.out)) k_ hn_)), Or.elim hk_ (fun hs_ => fun e_ => (Kd.R_away HO_7.out (fun _ hk => hk.1)) (by rw [← e_]; exact hs_)) (fun hn_ => (Kd.freshB (blkW_ BK242) k_ hn_))⟩)); replace BK242 := Aside0.mk (blk_kept (blkW_ BK242) hkp (fun hs_ => (fun e_ => (Kd.R_away HO_7.out (fun _ hk => hk.1)) e_) hs_)); replace HO245 := Aside0.mk (Kd.R_mono (ok' := fun k_ => k_ ≠ gb242 ∧ some k_ ≠ (v247 : Value).ownBlock) (Kd.R_keptB (HO245.out) hkp (fun k_ hk_ hs_ => (hk_.1) hs_)) (fun k_ hk_ => ⟨hk_.1.2, fun e_ => Or.elim (ho0.1 k_ e_.symm) (fun hs_ => hk_.2.1 hs_) (fun hn_ => Nat.not_le.2 hk_.2.2 hn_)⟩)); replace HB := Aside0.mk (hb); clear HO_7; (try clear hb); (try clear hkp); (try clear ho0); have hz_ := blk2_ BK242.out; obtain ⟨Ao33, co33, eo33⟩ := Kd.R_slice HO245.out; subst eo33) | ((with_reducible refine gate_callee (f := 92) rfl ?_); refine goesL_ (some 76) rfl rfl Tryd.func92 (by kernel_rfl) rfl #[.slice Ao33 t243.length co33, .int .i64 (wrap64 ((ji21) - a2)), .int .i64 (wrap64 (((rd_T94 l0 x35_2).f1) - a2))] rfl (by (try simp only [List.map_toArray, List.map_cons, List.map_nil]); first | done | (simp only [hji21]; rfl) | rfl | (simp only [List.length_drop, List.length_take]; rfl)) ?_; (with_reducible refine (span_add.calls (fun k_ => some k_ = (.slice Ao33 t243.length co33 : Value).ownBlock) (.slice Ao33 t243.length co33) t243 (wrap64 ((ji21) - a2)) (wrap64 (((rd_T94 l0 x35_2).f1) - a2)) t249 w _ ?side1 ?side2 A22.out).mono ?_); (case side1 => repeat (first | (with_reducible first | exact HB.out | apply below_alloc | apply pw_below_drewN | apply below_drew1 | refine below_set ?_ GE242.out) | exact HB.out)); (case side2 => exact Kd.R_tight rfl HO245.out); rintro e w34 ⟨v250, rfl, ho0, hb, hkp⟩; refine ⟨_, rfl, ?_⟩; have HO251 := Aside0.mk (Kd.R_mono (ok' := fun k_ => some k_ ≠ (v247 : Value).ownBlock ∧ k_ ≠ gb242) ho0 (fun k_ hk_ => ⟨Or.elim hk_ (fun hs_ => fun e_ => (((HO248.out).1 k_ e_.symm).1) hs_) (fun hn_ => (Kd.fresh' (Kd.R_lt (RW_ <| HO248.out)) k_ hn_)), Or.elim hk_ (fun hs_ => fun e_ => (Kd.R_away HO245.out (fun _ hk => hk.1)) (by rw [← e_]; exact hs_)) (fun hn_ => (Kd.freshB (blkW_ BK242) k_ hn_))⟩)); replace BK242 := Aside0.mk (blk_kept (blkW_ BK242) hkp (fun hs_ => (fun e_ => (Kd.R_away HO245.out (fun _ hk => hk.1)) e_) hs_)); replace HO248 := Aside0.mk (Kd.R_mono (ok' := fun k_ => k_ ≠ gb242 ∧ some k_ ≠ (v250 : Value).ownBlock) (Kd.R_keptB (HO248.out) hkp (fun k_ hk_ hs_ => (hk_.1) hs_)) (fun k_ hk_ => ⟨hk_.1.2, fun e_ => Or.elim (ho0.1 k_ e_.symm) (fun hs_ => hk_.2.1 hs_) (fun hn_ => Nat.not_le.2 hk_.2.2 hn_)⟩)); replace HB := Aside0.mk (hb); clear HO245; (try clear hb); (try clear hkp); (try clear ho0)))
          go_roundg k2
          case measure => have := HJ5.out; have := HK2.out; omega
          case rel => exact ⟨(t249), (t246), (wrap64 (x35_2 + 1)), ok_, H', ⟨by have := HJ5.out; have := HK2.out; omega⟩, ⟨RW_ <| Kd.R_mono HO251.out (fun _ hk => hk.1)⟩, ⟨RW_ <| Kd.R_mono HO248.out (fun _ hk => hk.2)⟩, ⟨belW_ HB⟩⟩
         ·rw [if_neg c15] at H
          exact absurd H (by simp)
        ·rw [if_neg c14] at H
         exact absurd H (by simp)
       ·rw [if_neg c13] at H
        have c13b0 := decide_eq_false c13
        clear c13
        simp only [Option.some.injEq, Prod.mk.injEq] at H
        obtain ⟨rfl, rfl, rfl⟩ := H
        go_wp2
        go_ret3
        exact ⟨_, _, rs_, RW_ <| HO_6.out, RW_ <| HO_7.out, belW_ HB⟩
 ·rw [if_neg c5] at H
  have c5b0 := beq_eq_false_iff_ne.mpr c5
  have c5b1 := bne_iff_ne.mpr c5
  simp only [Option.some.injEq, Prod.mk.injEq] at H
  obtain ⟨rfl, rfl, rfl⟩ := H
  go_enter Tryd.func94, Tryd.ntmps94
  go_wp2_with (((with_reducible refine gate_callee (f := 90) rfl ?_); refine goS_ 15 rfl Tryd.func90 #[.slice A0 l0.length c0] ?_; (with_reducible refine (span_Check.calls k _ _ l0 t237 t238 _ ?side1 ?side2 A4.out).mono ?_); (case side1 => exact CW_ (HR0.out)); (case side2 => exact HC0.out); rintro e w35 ⟨rfl, hb⟩; refine ⟨_, rfl, ?_⟩; replace HB := belB_ HB hb; try clear hb))
  go_ret3
  exact ⟨_, _, rs_, nl_, nl_, belW_ HB⟩

def xform_clones.l0 : Nat → List (S41) → List (S41) → Int → Int → Option ((List (S41)))
 | 0, _, _, _, _ => none
 | k + 1, x3, x9, x10, x11 => if x11 < x10 then (if 0 ≤ x11 then (if x11 < (x9.length : Int) then ((op_Clone.f ((rd_T41 x9 x11).f0.f0.f0) ((rd_T41 x9 x11).f0.f0.f1) ((rd_T41 x9 x11).f0.f1) ((rd_T41 x9 x11).f1) ((rd_T41 x9 x11).f2) ((rd_T41 x9 x11).f3) ((rd_T41 x9 x11).f4.f0) ((rd_T41 x9 x11).f4.f1) ((rd_T41 x9 x11).f5)).bind fun bt257 => (if x3.length < 1466015503701 then (xform_clones.l0 k (x3 ++ [(⟨(⟨(⟨bt257.1, bt257.2.1⟩ : S35), bt257.2.2.1⟩ : S38), bt257.2.2.2.1, bt257.2.2.2.2.1, bt257.2.2.2.2.2.1, (⟨bt257.2.2.2.2.2.2.1, bt257.2.2.2.2.2.2.2.1⟩ : S35), bt257.2.2.2.2.2.2.2.2⟩ : S41)]) x9 x10 (wrap64 (x11 + 1))) else (none))) else (none)) else (none)) else (some x3)
def xform_clones.f (k : Nat) (l0 : List (S41)) : Option ((List (S41))) := if l0.length ≤ 2932031007402 then (xform_clones.l0 k (([] : List (S41))) l0 (l0.length : Int) 0) else (none)
set_option maxHeartbeats 8000000 in
set_option maxRecDepth 100000 in
theorem xform_clones.calls (k : Nat) (A0 : Option Addr) (c0 : Nat) (l0 : List (S41)) (r : List (S41)) (w : World) (hr0 : Kd.C k41 w A0 l0.length l0) (hc0 : l0.length ≤ c0) (h : xform_clones.f k l0 = some r) :
 Calls Tryd.prog 61 #[.slice A0 l0.length c0] w fun e w' => ∃ v0_ : Value, e = .returned (v0_) ∧ Kd.S k41 41 w' w.heap.size (fun _ => True) v0_ r ∧ Below w.heap.size w w' := by
 have hu41 := Tryd.underlying41
 have HR0 := Aside0.mk hr0
 have HC0 := Aside0.mk hc0
 clear hr0 hc0
 have HB := Aside0.mk (Below.refl w.heap.size w)
 have H : (if l0.length ≤ 2932031007402 then (xform_clones.l0 k (([] : List (S41))) l0 (l0.length : Int) 0) else (none)) = some r := h
 clear h
 by_cases c2 : l0.length ≤ 2932031007402
 ·rw [if_pos c2] at H
  have c2b0 := eq_true c2
  have c2b1 := decide_eq_true c2
  clear c2
  obtain ⟨y252, hy252⟩ : ∃ y_ : List (S41), y_ = (([] : List (S41))) := ⟨_, rfl⟩
  replace H : (xform_clones.l0 k y252 l0 (l0.length : Int) 0) = some r := by first | (rw [hy252]; with_reducible exact H) | (have H2_ := (Option.bind_some _ _).symm.trans H; rw [hy252]; with_reducible exact H2_) | (have H2_ := (Option.bind_some _ _).symm.trans H; with_reducible exact H2_) | with_reducible exact H | (rw [hy252]; exact H) | exact H
  have Ny252 := Aside0.mk hy252
  clear hy252
  have H' := Aside0.mk H
  clear H
  go_enter Tryd.func61, Tryd.ntmps61
  go_wp2_with (((with_reducible refine gate_dst (N := 8) rfl ?_); refine S_make0 k41 _ 41 rfl (N := 8) rfl 29 _ _ rfl l0.length rfl rfl Tryd.underlying29 (.agg #[(.int .i64 0), (.int .i64 0), (.int .i64 0), (.int .i64 0), (.string ⟨#[]⟩), (.slice none 0 0), (.int .i64 0), (.int .i64 0), (.bool false)]) 96 info41 rfl (by decide) (by omega) (ok := fun _ => True) (okp := fun _ => True) (fun _ hk => hk) trivial (Nat.le_trans (Nat.mul_le_mul_right _ (of_decide_eq_true (by first | (with_reducible assumption) | assumption) : l0.length ≤ 2932031007402)) (by omega)) (Below.refl _ _) (Nat.le_refl _) ?_; intro v253 w3 ho4 hb hg_ hnew_; clear hg_ hnew_; (first | rw [← Ny252.out] at ho4 | (simp only [Int.reduceToNat] at ho4; rw [← Ny252.out] at ho4)); have HO254 := Aside0.mk (Kd.S_lower ho4 (below_size (belW_ HB))); replace HB := belB_ HB hb; clear hb ho4))
  go_loopg [3, 11] k (fun kq v3 v11 w' => ∃ (x3_1 : List (S41)) (x11_1 : Int), v11 = .int .i64 x11_1 ∧ Aside0 (xform_clones.l0 kq x3_1 l0 (l0.length : Int) x11_1 = some r) ∧ Aside0 (kq ≤ k) ∧ Aside0 (Kd.S k41 41 w' w.heap.size (fun _ => True) v3 x3_1) ∧ Aside0 (Below w.heap.size w w'))
  case atStart => exact ⟨(y252), (0), ok_, H', ⟨Nat.le_refl _⟩, ⟨by (with_reducible repeat (first | apply Kd.S_alloc | apply Kd.S_drewN | apply Kd.S_drew)); exact HO254.out⟩, ⟨belW_ HB⟩⟩
  case round =>
   clear H'
   try clear c2
   try clear c2b0
   try clear c2b1
   try clear p2
   obtain ⟨x3_1, x11_1, rfl, HA, HK1, HO_3, HB⟩ := hrel
   cases gk with
   | zero => exact absurd HA.out (by simp [xform_clones.l0])
   | succ k1 =>
    have H := HA.out
    clear HA
    simp only [xform_clones.l0] at H
    by_cases c5 : x11_1 < (l0.length : Int)
    ·rw [if_pos c5] at H
     have c5b0 := decide_eq_true c5
     clear c5
     by_cases c6 : 0 ≤ x11_1
     ·rw [if_pos c6] at H
      have c6b0 := decide_eq_true c6
      clear c6
      by_cases c7 : x11_1 < (l0.length : Int)
      ·rw [if_pos c7] at H
       have c7b0 := decide_eq_true c7
       clear c7
       replace H := Option.bind_eq_some_iff.mp H
       obtain ⟨⟨t257, t258, t259, t260, t261, t262, t265, t266, t267⟩, A80, H⟩ := H
       try dsimp only at H
       have A8 := Aside0.mk A80
       clear A80
       by_cases c9 : x3_1.length < 1466015503701
       ·rw [if_pos c9] at H
        have LMc9 := Aside0.mk c9
        clear c9
        obtain ⟨y268, hy268⟩ : ∃ y_ : List (S41), y_ = (x3_1 ++ [(⟨(⟨(⟨t257, t258⟩ : S35), t259⟩ : S38), t260, t261, t262, (⟨t265, t266⟩ : S35), t267⟩ : S41)]) := ⟨_, rfl⟩
        replace H : (xform_clones.l0 k1 y268 l0 (l0.length : Int) (wrap64 (x11_1 + 1))) = some r := by first | (rw [hy268]; with_reducible exact H) | (have H2_ := (Option.bind_some _ _).symm.trans H; rw [hy268]; with_reducible exact H2_) | (have H2_ := (Option.bind_some _ _).symm.trans H; with_reducible exact H2_) | with_reducible exact H | (rw [hy268]; exact H) | exact H
        have Ny268 := Aside0.mk hy268
        clear hy268
        have H' := Aside0.mk H
        clear H
        have p255 := dz_ (x11_1 : Int)
        have q255 := dl_ x11_1 (l0.length : Int)
        obtain ⟨ad255, A255_5, c255_5, e255, hx255_0, hx255_1, hx255_2, hx255_3, hx255_4, hx255_5, hx255_6, hx255_7, hx255_8, hl255_5, hi255_5⟩ := at_T41 HR0.out x11_1 p255 q255
        cases e255
        replace hx255_0 := pw_cell_below HB.out hx255_0
        replace hx255_1 := pw_cell_below HB.out hx255_1
        replace hx255_2 := pw_cell_below HB.out hx255_2
        replace hx255_3 := pw_cell_below HB.out hx255_3
        replace hx255_4 := pw_cell_below HB.out hx255_4
        replace hx255_5 := pw_cell_below HB.out hx255_5
        replace hx255_6 := pw_cell_below HB.out hx255_6
        replace hx255_7 := pw_cell_below HB.out hx255_7
        replace hx255_8 := pw_cell_below HB.out hx255_8
        have HR255_5 := Aside0.mk hi255_5
        have HC255_5 := Aside0.mk hl255_5
        clear hi255_5 hl255_5
        replace p255 := eq_true p255
        replace q255 := eq_true q255
        go_wp2_with (first | ((with_reducible refine gate_dst (N := 5) rfl ?_); refine bxE_ 5 41 #[.int .i64 0, .int .i64 0, .int .i64 0, .int .i64 0, .string (⟨#[]⟩ : ByteArray), .slice none 0 0, .int .i64 0, .int .i64 0, .bool false] ?_; intro gb256 hg w10 hbox hb; have BK256 := Aside0.mk (hbox); have GW256 := gee_ hg HB; have GE256 := gee_ hg HB; replace HO_3 := Aside0.mk (Kd.S_below (Kd.S_elderB (by (with_reducible repeat (first | apply Kd.S_alloc | apply Kd.S_drewN | apply Kd.S_drew)); exact HO_3.out) gb256 (Nat.le_of_eq hg.symm)) hb); replace HB := belB_ HB hb; clear hb hbox hg; have hz_ := blk9_ BK256.out) | ((with_reducible refine gate_store (t := 41) (p := 5) rfl ?_); refine store_event (t := 41) (p := 5) (v := ?vo_w12) (w1 := (((((((((w10.setCell ⟨gb256, 0, none⟩ (.int .i64 ((rd_T41 l0 x11_1).f0.f0.f0))).setCell ⟨gb256, 1, none⟩ (.int .i64 ((rd_T41 l0 x11_1).f0.f0.f1))).setCell ⟨gb256, 2, none⟩ (.int .i64 ((rd_T41 l0 x11_1).f0.f1))).setCell ⟨gb256, 3, none⟩ (.int .i64 ((rd_T41 l0 x11_1).f1))).setCell ⟨gb256, 4, none⟩ (.string ((rd_T41 l0 x11_1).f2))).setCell ⟨gb256, 5, none⟩ (.slice A255_5 ((rd_T41 l0 x11_1).f3).length c255_5)).setCell ⟨gb256, 6, none⟩ (.int .i64 ((rd_T41 l0 x11_1).f4.f0))).setCell ⟨gb256, 7, none⟩ (.int .i64 ((rd_T41 l0 x11_1).f4.f1))).setCell ⟨gb256, 8, none⟩ (.bool ((rd_T41 l0 x11_1).f5)))) ?hg ?ho ?hn ?hr ?_; (case ho => rfl); (case hg => rfl); (case hn => rfl); (case hr => first | (go_simp; done) | (go_simp; rfl)); intro w12 hw; have n0_ : Aside0 (Kd.S k41 41 w12 w.heap.size (fun k_ => k_ ≠ gb256) u3 x3_1) := ⟨(by rw [hw]; exact (by (with_reducible repeat (first | apply Kd.S_alloc | apply Kd.S_drewN | apply Kd.S_drew)); exact Kd.S_mono (Kd.S_far (p := ⟨gb256, 8, none⟩) (Kd.S_far (p := ⟨gb256, 7, none⟩) (Kd.S_far (p := ⟨gb256, 6, none⟩) (Kd.S_far (p := ⟨gb256, 5, none⟩) (Kd.S_far (p := ⟨gb256, 4, none⟩) (Kd.S_far (p := ⟨gb256, 3, none⟩) (Kd.S_far (p := ⟨gb256, 2, none⟩) (Kd.S_far (p := ⟨gb256, 1, none⟩) (Kd.S_far (p := ⟨gb256, 0, none⟩) (Kd.S_mono HO_3.out (fun k_ hk => (⟨hk, hk.2⟩ : _ ∧ k_ ≠ gb256))) (fun _ hk => hk.2) (.int .i64 ((rd_T41 l0 x11_1).f0.f0.f0))) (fun _ hk => hk.2) (.int .i64 ((rd_T41 l0 x11_1).f0.f0.f1))) (fun _ hk => hk.2) (.int .i64 ((rd_T41 l0 x11_1).f0.f1))) (fun _ hk => hk.2) (.int .i64 ((rd_T41 l0 x11_1).f1))) (fun _ hk => hk.2) (.string ((rd_T41 l0 x11_1).f2))) (fun _ hk => hk.2) (.slice A255_5 ((rd_T41 l0 x11_1).f3).length c255_5)) (fun _ hk => hk.2) (.int .i64 ((rd_T41 l0 x11_1).f4.f0))) (fun _ hk => hk.2) (.int .i64 ((rd_T41 l0 x11_1).f4.f1))) (fun _ hk => hk.2) (.bool ((rd_T41 l0 x11_1).f5))) (fun _ hk => hk.1.2)))⟩; have n1_ : Aside0 (w12.heap[gb256]? = some (.cells #[.int .i64 ((rd_T41 l0 x11_1).f0.f0.f0), .int .i64 ((rd_T41 l0 x11_1).f0.f0.f1), .int .i64 ((rd_T41 l0 x11_1).f0.f1), .int .i64 ((rd_T41 l0 x11_1).f1), .string ((rd_T41 l0 x11_1).f2), .slice A255_5 ((rd_T41 l0 x11_1).f3).length c255_5, .int .i64 ((rd_T41 l0 x11_1).f4.f0), .int .i64 ((rd_T41 l0 x11_1).f4.f1), .bool ((rd_T41 l0 x11_1).f5)] 41 (0, 0))) := ⟨(by rw [hw]; exact (by (with_reducible repeat (first | refine blk_drewN ?_ _ | refine blk_drew ?_ | refine blk_alloc ?_ _)); refine blk_put (cs := #[.int .i64 ((rd_T41 l0 x11_1).f0.f0.f0), .int .i64 ((rd_T41 l0 x11_1).f0.f0.f1), .int .i64 ((rd_T41 l0 x11_1).f0.f1), .int .i64 ((rd_T41 l0 x11_1).f1), .string ((rd_T41 l0 x11_1).f2), .slice A255_5 ((rd_T41 l0 x11_1).f3).length c255_5, .int .i64 ((rd_T41 l0 x11_1).f4.f0), .int .i64 ((rd_T41 l0 x11_1).f4.f1), .bool false]) ?_ 8 _ rfl; (with_reducible repeat (first | refine blk_drewN ?_ _ | refine blk_drew ?_ | refine blk_alloc ?_ _)); refine blk_put (cs := #[.int .i64 ((rd_T41 l0 x11_1).f0.f0.f0), .int .i64 ((rd_T41 l0 x11_1).f0.f0.f1), .int .i64 ((rd_T41 l0 x11_1).f0.f1), .int .i64 ((rd_T41 l0 x11_1).f1), .string ((rd_T41 l0 x11_1).f2), .slice A255_5 ((rd_T41 l0 x11_1).f3).length c255_5, .int .i64 ((rd_T41 l0 x11_1).f4.f0), .int .i64 0, .bool false]) ?_ 7 _ rfl; (with_reducible repeat (first | refine blk_drewN ?_ _ | refine blk_drew ?_ | refine blk_alloc ?_ _)); refine blk_put (cs := #[.int .i64 ((rd_T41 l0 x11_1).f0.f0.f0), .int .i64 ((rd_T41 l0 x11_1).f0.f0.f1), .int .i64 ((rd_T41 l0 x11_1).f0.f1), .int .i64 ((rd_T41 l0 x11_1).f1), .string ((rd_T41 l0 x11_1).f2), .slice A255_5 ((rd_T41 l0 x11_1).f3).length c255_5, .int .i64 0, .int .i64 0, .bool false]) ?_ 6 _ rfl; (with_reducible repeat (first | refine blk_drewN ?_ _ | refine blk_drew ?_ | refine blk_alloc ?_ _)); refine blk_put (cs := #[.int .i64 ((rd_T41 l0 x11_1).f0.f0.f0), .int .i64 ((rd_T41 l0 x11_1).f0.f0.f1), .int .i64 ((rd_T41 l0 x11_1).f0.f1), .int .i64 ((rd_T41 l0 x11_1).f1), .string ((rd_T41 l0 x11_1).f2), .slice none 0 0, .int .i64 0, .int .i64 0, .bool false]) ?_ 5 _ rfl; (with_reducible repeat (first | refine blk_drewN ?_ _ | refine blk_drew ?_ | refine blk_alloc ?_ _)); refine blk_put (cs := #[.int .i64 ((rd_T41 l0 x11_1).f0.f0.f0), .int .i64 ((rd_T41 l0 x11_1).f0.f0.f1), .int .i64 ((rd_T41 l0 x11_1).f0.f1), .int .i64 ((rd_T41 l0 x11_1).f1), .string (⟨#[]⟩ : ByteArray), .slice none 0 0, .int .i64 0, .int .i64 0, .bool false]) ?_ 4 _ rfl; (with_reducible repeat (first | refine blk_drewN ?_ _ | refine blk_drew ?_ | refine blk_alloc ?_ _)); refine blk_put (cs := #[.int .i64 ((rd_T41 l0 x11_1).f0.f0.f0), .int .i64 ((rd_T41 l0 x11_1).f0.f0.f1), .int .i64 ((rd_T41 l0 x11_1).f0.f1), .int .i64 0, .string (⟨#[]⟩ : ByteArray), .slice none 0 0, .int .i64 0, .int .i64 0, .bool false]) ?_ 3 _ rfl; (with_reducible repeat (first | refine blk_drewN ?_ _ | refine blk_drew ?_ | refine blk_alloc ?_ _)); refine blk_put (cs := #[.int .i64 ((rd_T41 l0 x11_1).f0.f0.f0), .int .i64 ((rd_T41 l0 x11_1).f0.f0.f1), .int .i64 0, .int .i64 0, .string (⟨#[]⟩ : ByteArray), .slice none 0 0, .int .i64 0, .int .i64 0, .bool false]) ?_ 2 _ rfl; (with_reducible repeat (first | refine blk_drewN ?_ _ | refine blk_drew ?_ | refine blk_alloc ?_ _)); refine blk_put (cs := #[.int .i64 ((rd_T41 l0 x11_1).f0.f0.f0), .int .i64 0, .int .i64 0, .int .i64 0, .string (⟨#[]⟩ : ByteArray), .slice none 0 0, .int .i64 0, .int .i64 0, .bool false]) ?_ 1 _ rfl; (with_reducible repeat (first | refine blk_drewN ?_ _ | refine blk_drew ?_ | refine blk_alloc ?_ _)); refine blk_put (cs := #[.int .i64 0, .int .i64 0, .int .i64 0, .int .i64 0, .string (⟨#[]⟩ : ByteArray), .slice none 0 0, .int .i64 0, .int .i64 0, .bool false]) ?_ 0 _ rfl; (with_reducible repeat (first | refine blk_drewN ?_ _ | refine blk_drew ?_ | refine blk_alloc ?_ _)); exact BK256.out))⟩; have n2_ : Aside0 (Below w.heap.size w w12) := ⟨(by rw [hw]; exact (belW_ HB))⟩; clear hw; clear HO_3; clear BK256; clear HB; have HO_3 := n0_; have BK256 := n1_; have HB := n2_; clear n0_ n1_ n2_; have hz_ := blk9_ BK256.out) | ((with_reducible refine gate_callee (f := 64) rfl ?_); refine goS_ 17 rfl Tryd.func64 #[.agg #[.int .i64 ((rd_T41 l0 x11_1).f0.f0.f0), .int .i64 ((rd_T41 l0 x11_1).f0.f0.f1), .int .i64 ((rd_T41 l0 x11_1).f0.f1), .int .i64 ((rd_T41 l0 x11_1).f1), .string ((rd_T41 l0 x11_1).f2), .slice A255_5 ((rd_T41 l0 x11_1).f3).length c255_5, .int .i64 ((rd_T41 l0 x11_1).f4.f0), .int .i64 ((rd_T41 l0 x11_1).f4.f1), .bool ((rd_T41 l0 x11_1).f5)]] ?_; (with_reducible refine (op_Clone.calls ((rd_T41 l0 x11_1).f0.f0.f0) ((rd_T41 l0 x11_1).f0.f0.f1) ((rd_T41 l0 x11_1).f0.f1) ((rd_T41 l0 x11_1).f1) ((rd_T41 l0 x11_1).f2) _ _ ((rd_T41 l0 x11_1).f3) ((rd_T41 l0 x11_1).f4.f0) ((rd_T41 l0 x11_1).f4.f1) ((rd_T41 l0 x11_1).f5) t257 t258 t259 t260 t261 t262 t265 t266 t267 _ ?side1 ?side2 A8.out).mono ?_); (case side1 => exact CW_ ((Kd.C_below HR255_5.out HB.out))); (case side2 => exact HC255_5.out); rintro e w14 ⟨v263, rfl, ho0, hb⟩; refine ⟨_, rfl, ?_⟩; have HO264 := Aside0.mk (Kd.R_lower ho0 (below_size (belW_ HB))); replace HO_3 := Aside0.mk (Kd.S_elder' (by (with_reducible repeat (first | apply Kd.S_alloc | apply Kd.S_drewN | apply Kd.S_drew)); exact HO_3.out) (Kd.R_base ho0) hb); replace BK256 := blkB_ BK256 hb; replace HB := belB_ HB hb; try clear hb; (try clear ho0); obtain ⟨Ao16, co16, eo16⟩ := Kd.R_slice HO264.out; subst eo16) | ((with_reducible refine gate_builtin (b := .append) (xs := #[.tmp 15, .tmp 18]) rfl ?_); at_builtin; refine Kd.S_append k41 (w0 := w) w.heap.size rfl (.tmp 15) (.tmp 18) 29 41 (.agg #[(.int .i64 0), (.int .i64 0), (.int .i64 0), (.int .i64 0), (.string ⟨#[]⟩), (.slice none 0 0), (.int .i64 0), (.int .i64 0), (.bool false)]) 96 rfl Tryd.underlying29 info41 rfl (by decide) (by omega) u3 x3_1 (⟨(⟨(⟨t257, t258⟩ : S35), t259⟩ : S38), t260, t261, t262, (⟨t265, t266⟩ : S35), t267⟩ : S41) [.int .i64 t257, .int .i64 t258, .int .i64 t259, .int .i64 t260, .string t261, .slice Ao16 t262.length co16, .int .i64 t265, .int .i64 t266, .bool t267] (fun k_ => k_ ≠ gb256) (fun k_ => some k_ = (.slice Ao16 t262.length co16 : Value).ownBlock) rfl rfl ?aP (fun k_ hk_ => ((Kd.R_mono (ok' := fun k_ => ((fun k_ => k_ ≠ gb256)) k_ ∧ some k_ ≠ (u3 : Value).ownBlock) (Kd.R_types (Kd.R_apart' (HO264.out) (Kd.S_typed HO_3.out) (by decide)) BK256.out (by decide)) (fun k_ hk => ⟨hk.2, hk.1.2⟩))).1 k_ hk_.symm) ?aF ?aO ?aB ?aS ?aL ?_; (case aP => exact k41_mkM _ _ _ (⟨(⟨(⟨t257, t258⟩ : S35), t259⟩ : S38), t260, t261, t262, (⟨t265, t266⟩ : S35), t267⟩ : S41) (Kd.R_mono (Kd.R_tight rfl (Kd.R_mono (ok' := fun k_ => ((fun k_ => k_ ≠ gb256)) k_ ∧ some k_ ≠ (u3 : Value).ownBlock) (Kd.R_types (Kd.R_apart' (HO264.out) (Kd.S_typed HO_3.out) (by decide)) BK256.out (by decide)) (fun k_ hk => ⟨hk.2, hk.1.2⟩))) (fun _ h_ => h_))); (case aB => exact (belW_ HB)); (case aF => exact (fun k_ hk => Kd.freshB (blkW_ BK256) k_ hk)); (case aO => exact (by (with_reducible repeat (first | apply Kd.S_alloc | apply Kd.S_drewN | apply Kd.S_drew)); exact Kd.S_mono HO_3.out (fun k_ hk => ⟨hk.1, fun e_ => hk.2 e_⟩))); (case aS => exact (below_size (belW_ HB))); (case aL => have := LMc9.out; omega); intro v269 w15 ho hb hg hat; rw [← Ny268.out] at ho; have HO270 := Aside0.mk (ho); replace BK256 := Aside0.mk (blk_grown (blkW_ BK256) hg (Kd.S_away HO_3.out (fun _ hk => hk.1))); replace HB := Aside0.mk (hb); clear HO_3; clear HO264; clear ho hb hg hat))
        go_roundg k1
        case measure => have := HK1.out; omega
        case rel => exact ⟨(y268), (wrap64 (x11_1 + 1)), ok_, H', ⟨lk_ HK1⟩, ⟨by (with_reducible repeat (first | apply Kd.S_alloc | apply Kd.S_drewN | apply Kd.S_drew)); exact Kd.S_mono HO270.out (fun _ hk => trivial)⟩, ⟨belW_ HB⟩⟩
       ·rw [if_neg c9] at H
        exact absurd H (by simp)
      ·rw [if_neg c7] at H
       exact absurd H (by simp)
     ·rw [if_neg c6] at H
      exact absurd H (by simp)
    ·rw [if_neg c5] at H
     have c5b0 := decide_eq_false c5
     clear c5
     obtain rfl := Option.some.inj H
     go_wp2
     go_ret
     exact ⟨_, rs_, by (with_reducible repeat (first | apply Kd.S_alloc | apply Kd.S_drewN | apply Kd.S_drew)); exact HO_3.out, belW_ HB⟩
 ·rw [if_neg c2] at H
  exact absurd H (by simp)

end Go.Proofs.YtloccjkcmlkifaaDoor.PAll
