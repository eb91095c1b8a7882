/- XformCrosses_card, part 30. -/
import Derived.Test.YtloccjkcmlkifaaDoorQCr18

namespace Go.Proofs.YtloccjkcmlkifaaDoor.PAll
open Go.RowKit Go.Proofs.YtloccjkcmlkifaaDoorW.PrintWords Go.Proofs.YtloccjkcmlkifaaDoorW.PrintLast Go.Proofs.YtloccjkcmlkifaaDoorW.PrintMore
attribute [local go_sem] max2_int min2_int max_two min_two max_three min_three max_four min_four   -- for this text's walks alone
set_option linter.unusedVariables false
set_option linter.unusedSimpArgs false

attribute [local go_sem high] idx34_0 idx34_1 idx35_0 idx35_1
def redraftref05_among.l0 : Nat → List (S154) → Int → Int → Int → List (S94) → Int → Int → Option ((List (S94)))
 | 0, _, _, _, _, _, _, _ => none
 | k + 1, x0, x1, x2, x3, x9, x10, x11 => if x11 < (x0.length : Int) then (if 0 ≤ x11 then (if ((rd_T154 x0 x11).f0) = x1 then (if ((rd_T154 x0 x11).f1) < x3 then (if x2 < ((rd_T154 x0 x11).f2) then (if x9.length < 8796093022208 then (redraftref05_among.l0 k x0 x1 x2 x3 (x9 ++ [(⟨wrap64 ((wrap64 (x10 + (mx x2 ((rd_T154 x0 x11).f1)))) - ((rd_T154 x0 x11).f1)), wrap64 ((wrap64 (x10 + (mn x3 ((rd_T154 x0 x11).f2)))) - ((rd_T154 x0 x11).f1))⟩ : S94)]) (wrap64 ((wrap64 (x10 + ((rd_T154 x0 x11).f2))) - ((rd_T154 x0 x11).f1))) (wrap64 (x11 + 1))) else (none)) else (redraftref05_among.l0 k x0 x1 x2 x3 x9 (wrap64 ((wrap64 (x10 + ((rd_T154 x0 x11).f2))) - ((rd_T154 x0 x11).f1))) (wrap64 (x11 + 1)))) else (redraftref05_among.l0 k x0 x1 x2 x3 x9 (wrap64 ((wrap64 (x10 + ((rd_T154 x0 x11).f2))) - ((rd_T154 x0 x11).f1))) (wrap64 (x11 + 1)))) else (redraftref05_among.l0 k x0 x1 x2 x3 x9 (wrap64 ((wrap64 (x10 + ((rd_T154 x0 x11).f2))) - ((rd_T154 x0 x11).f1))) (wrap64 (x11 + 1)))) else (none)) else (some x9)
def redraftref05_among.f (k : Nat) (l0 : List (S154)) (a1 : Int) (a2 : Int) (a3 : Int) : Option ((List (S94))) := redraftref05_among.l0 k l0 a1 a2 a3 ([] : List (S94)) 0 0
set_option maxHeartbeats 8000000 in
set_option maxRecDepth 100000 in
theorem redraftref05_among.calls (k : Nat) (A0 : Option Addr) (c0 : Nat) (l0 : List (S154)) (a1 : Int) (a2 : Int) (a3 : Int) (r : List (S94)) (w : World) (hr0 : Kd.C k154 w A0 l0.length l0) (hc0 : l0.length ≤ c0) (h : redraftref05_among.f k l0 a1 a2 a3 = some r) :
 Calls Tryd.prog 117 #[.slice A0 l0.length c0, .int .i64 a1, .int .i64 a2, .int .i64 a3] w fun e w' => ∃ v0_ : Value, e = .returned (v0_) ∧ Kd.R k94 94 w' w.heap.size (fun _ => True) v0_ r ∧ Below w.heap.size w w' := by
 have hu154 := Tryd.underlying154
 have hu94 := Tryd.underlying94
 have HR0 := Aside0.mk hr0
 have HC0 := Aside0.mk hc0
 clear hr0 hc0
 have HB := Aside0.mk (Below.refl w.heap.size w)
 have H : (redraftref05_among.l0 k l0 a1 a2 a3 ([] : List (S94)) 0 0) = some r := h
 clear h
 have H' := Aside0.mk H
 clear H
 go_enter Tryd.func117, Tryd.ntmps117
 go_wp2
 go_loopg [9, 10, 11] k (fun kq v9 v10 v11 w' => ∃ (x9_1 : List (S94)) (x10_1 : Int) (x11_1 : Int), v10 = .int .i64 x10_1 ∧ v11 = .int .i64 x11_1 ∧ Aside0 (redraftref05_among.l0 kq l0 a1 a2 a3 x9_1 x10_1 x11_1 = some r) ∧ Aside0 (kq ≤ k) ∧ Aside0 (Kd.R k94 94 w' w.heap.size (fun _ => True) v9 x9_1) ∧ Aside0 (Below w.heap.size w w'))
 case atStart => exact ⟨(([] : List (S94))), (0), (0), (by first | rfl | (simp; done) | (simp [*]; done)), (by first | rfl | (simp; done) | (simp [*]; done)), H', ⟨Nat.le_refl _⟩, ⟨by first | exact Kd.R_nil _ _ _ _ _ | exact Kd.N_nil _ _ _ _ _ | exact Kd.V_nil _ _ _ _ _ | exact Kd.Q_nil _ _ _ _ _ | exact Kd.S_nil _ _ _ _ _⟩, ⟨belW_ HB⟩⟩
 case round =>
  clear H'
  try clear c1
  try clear p2
  obtain ⟨x9_1, x10_1, x11_1, rfl, rfl, HA, HK1, HO_9, HB⟩ := hrel
  cases gk with
  | zero => exact absurd HA.out (by simp [redraftref05_among.l0])
  | succ k1 =>
   have H := HA.out
   clear HA
   simp only [redraftref05_among.l0] at H
   by_cases c5 : x11_1 < (l0.length : Int)
   ·rw [if_pos c5] at H
    have c5b0 : decide (x11_1 < (l0.length : Int)) = true := decide_eq_true c5
    clear c5
    by_cases c6 : 0 ≤ x11_1
    ·rw [if_pos c6] at H
     have c6b0 : decide (0 ≤ x11_1) = true := decide_eq_true c6
     clear c6
     by_cases c7 : ((rd_T154 l0 x11_1).f0) = a1
     ·rw [if_pos c7] at H
      have c7b0 : (((rd_T154 l0 x11_1).f0) == a1) = true := beq_iff_eq.mpr c7
      have c7b1 : (((rd_T154 l0 x11_1).f0) != a1) = false := bne_eq_false_iff_eq.mpr c7
      clear c7
      by_cases c8 : ((rd_T154 l0 x11_1).f1) < a3
      ·rw [if_pos c8] at H
       have c8b0 : decide (((rd_T154 l0 x11_1).f1) < a3) = true := decide_eq_true c8
       clear c8
       by_cases c9 : a2 < ((rd_T154 l0 x11_1).f2)
       ·rw [if_pos c9] at H
        have c9b0 : decide (a2 < ((rd_T154 l0 x11_1).f2)) = true := decide_eq_true c9
        clear c9
        obtain ⟨ji10, hji10⟩ : ∃ j_ : Int, (mx a2 ((rd_T154 l0 x11_1).f1)) = j_ := ⟨_, rfl⟩
        replace H : (if x9_1.length < 8796093022208 then (redraftref05_among.l0 k1 l0 a1 a2 a3 (x9_1 ++ [(⟨wrap64 ((wrap64 (x10_1 + (ji10))) - ((rd_T154 l0 x11_1).f1)), wrap64 ((wrap64 (x10_1 + (mn a3 ((rd_T154 l0 x11_1).f2)))) - ((rd_T154 l0 x11_1).f1))⟩ : S94)]) (wrap64 ((wrap64 (x10_1 + ((rd_T154 l0 x11_1).f2))) - ((rd_T154 l0 x11_1).f1))) (wrap64 (x11_1 + 1))) else (none)) = some r := by first | (rw [hji10] at H; exact H) | (simp only [hji10] at H ⊢; exact H)
        have hji10_ : (if a2 < ((rd_T154 l0 x11_1).f1) then ((rd_T154 l0 x11_1).f1) else a2) = ji10 := hji10
        obtain ⟨ji11, hji11⟩ : ∃ j_ : Int, (mn a3 ((rd_T154 l0 x11_1).f2)) = j_ := ⟨_, rfl⟩
        replace H : (if x9_1.length < 8796093022208 then (redraftref05_among.l0 k1 l0 a1 a2 a3 (x9_1 ++ [(⟨wrap64 ((wrap64 (x10_1 + (ji10))) - ((rd_T154 l0 x11_1).f1)), wrap64 ((wrap64 (x10_1 + (ji11))) - ((rd_T154 l0 x11_1).f1))⟩ : S94)]) (wrap64 ((wrap64 (x10_1 + ((rd_T154 l0 x11_1).f2))) - ((rd_T154 l0 x11_1).f1))) (wrap64 (x11_1 + 1))) else (none)) = some r := by first | (rw [hji11] at H; exact H) | (simp only [hji11] at H ⊢; exact H)
        have hji11_ : (if ((rd_T154 l0 x11_1).f2) < a3 then ((rd_T154 l0 x11_1).f2) else a3) = ji11 := hji11
        by_cases c12 : x9_1.length < 8796093022208
        ·rw [if_pos c12] at H
         have LMc12 := Aside0.mk c12
         clear c12
         obtain ⟨y348, hy348⟩ : ∃ y_ : List (S94), y_ = (x9_1 ++ [(⟨wrap64 ((wrap64 (x10_1 + (ji10))) - ((rd_T154 l0 x11_1).f1)), wrap64 ((wrap64 (x10_1 + (ji11))) - ((rd_T154 l0 x11_1).f1))⟩ : S94)]) := ⟨_, rfl⟩
         replace H : (redraftref05_among.l0 k1 l0 a1 a2 a3 y348 (wrap64 ((wrap64 (x10_1 + ((rd_T154 l0 x11_1).f2))) - ((rd_T154 l0 x11_1).f1))) (wrap64 (x11_1 + 1))) = some r := by first | (rw [hy348]; with_reducible exact H) | (have H2_ := (Option.bind_some _ _).symm.trans H; rw [hy348]; with_reducible exact H2_) | (have H2_ := (Option.bind_some _ _).symm.trans H; with_reducible exact H2_) | with_reducible exact H | (rw [hy348]; exact H) | exact H
         have Ny348 := Aside0.mk hy348
         clear hy348
         have H' := Aside0.mk H
         clear H
         have p346 := dz_ (x11_1 : Int)
         have q346 := dl_ x11_1 (l0.length : Int)
         obtain ⟨ad346, e346, hx346_0, hx346_1, hx346_2⟩ := at_T154 HR0.out x11_1 p346 q346
         cases e346
         replace hx346_0 := pw_cell_below HB.out hx346_0
         replace hx346_1 := pw_cell_below HB.out hx346_1
         replace hx346_2 := pw_cell_below HB.out hx346_2
         replace p346 := eq_true p346
         replace q346 := eq_true q346
         go_wp2_with (first | ((with_reducible refine gate_dst (N := 12) rfl ?_); refine bxE_ 12 154 #[.int .i64 0, .int .i64 0, .int .i64 0] ?_; intro gb347 hg w13 hbox hb; have BK347 := Aside0.mk (hbox); have GW347 := gee_ hg HB; have GE347 := gee_ hg HB; replace HO_9 := Aside0.mk (Kd.R_below (RW_ <| HO_9.out) hb); replace HB := belB_ HB hb; clear hb hbox hg; have hz_ := blk3_ BK347.out) | ((with_reducible refine gate_builtin (b := .append) (xs := #[.tmp 39, .tmp 59]) rfl ?_); at_builtin; refine Kd.R_append k94 (w0 := w) w.heap.size rfl (.tmp 39) (.tmp 59) 39 94 (.agg #[(.int .i64 0), (.int .i64 0)]) 16 rfl Tryd.underlying39 info94 rfl (by decide) (by omega) u9 x9_1 (⟨wrap64 ((wrap64 (x10_1 + (ji10))) - ((rd_T154 l0 x11_1).f1)), wrap64 ((wrap64 (x10_1 + (ji11))) - ((rd_T154 l0 x11_1).f1))⟩ : S94) [.int .i64 (wrap64 ((wrap64 (x10_1 + (ji10))) - ((rd_T154 l0 x11_1).f1))), .int .i64 (wrap64 ((wrap64 (x10_1 + (ji11))) - ((rd_T154 l0 x11_1).f1)))] (fun _ => True) (fun _ => False) rfl (by first | (go_simp; done) | (go_simp; rfl)) ?aP (fun _ hk => hk.elim) ?aF ?aO ?aB ?aS ?aL ?_; (case aP => exact k94_mkM _ _ _ (⟨wrap64 ((wrap64 (x10_1 + (ji10))) - ((rd_T154 l0 x11_1).f1)), wrap64 ((wrap64 (x10_1 + (ji11))) - ((rd_T154 l0 x11_1).f1))⟩ : S94)); (case aB => exact (belW_ HB)); (case aF => exact (fun _ _ => trivial)); (case aO => exact (RW_ <| Kd.R_mono (Kd.R_far (p := ⟨gb347, 2, none⟩) (Kd.R_far (p := ⟨gb347, 1, none⟩) (Kd.R_far (p := ⟨gb347, 0, none⟩) (Kd.R_types HO_9.out BK347.out (by decide)) (fun _ hk => hk.2) (.int .i64 ((rd_T154 l0 x11_1).f0))) (fun _ hk => hk.2) (.int .i64 ((rd_T154 l0 x11_1).f1))) (fun _ hk => hk.2) (.int .i64 ((rd_T154 l0 x11_1).f2))) (fun _ hk => trivial))); (case aS => exact (below_size (belW_ HB))); (case aL => have := LMc12.out; omega); intro v349 w15 ho hb hg hat; rw [← Ny348.out] at ho; have HO350 := Aside0.mk (ho); replace BK347 := Aside0.mk (blk_grown (g := gb347) (o := .cells #[.int .i64 ((rd_T154 l0 x11_1).f0), .int .i64 ((rd_T154 l0 x11_1).f1), .int .i64 ((rd_T154 l0 x11_1).f2)] 154 (0, 0)) (by (with_reducible repeat (first | refine blk_drewN ?_ _ | refine blk_drew ?_ | refine blk_alloc ?_ _)); refine blk_put (cs := #[.int .i64 ((rd_T154 l0 x11_1).f0), .int .i64 ((rd_T154 l0 x11_1).f1), .int .i64 0]) ?_ 2 _ rfl; (with_reducible repeat (first | refine blk_drewN ?_ _ | refine blk_drew ?_ | refine blk_alloc ?_ _)); refine blk_put (cs := #[.int .i64 ((rd_T154 l0 x11_1).f0), .int .i64 0, .int .i64 0]) ?_ 1 _ rfl; (with_reducible repeat (first | refine blk_drewN ?_ _ | refine blk_drew ?_ | refine blk_alloc ?_ _)); refine blk_put (cs := #[.int .i64 0, .int .i64 0, .int .i64 0]) ?_ 0 _ rfl; (with_reducible repeat (first | refine blk_drewN ?_ _ | refine blk_drew ?_ | refine blk_alloc ?_ _)); exact BK347.out) hg (Kd.R_ne HO_9.out BK347.out (by decide))); replace HB := Aside0.mk (hb); clear HO_9; clear ho hb hg hat; have hz_ := blk3_ BK347.out))
         go_roundg k1
         case measure => have := HK1.out; omega
         case rel => exact ⟨(y348), (wrap64 ((wrap64 (x10_1 + ((rd_T154 l0 x11_1).f2))) - ((rd_T154 l0 x11_1).f1))), (wrap64 (x11_1 + 1)), (by first | rfl | (simp; done) | (simp [*]; done)), (by first | rfl | (simp; done) | (simp [*]; done)), H', ⟨by have := HK1.out; omega⟩, ⟨RW_ <| HO350.out⟩, ⟨belW_ HB⟩⟩
        ·rw [if_neg c12] at H
         exact absurd H (by simp)
       ·rw [if_neg c9] at H
        have c9b0 : decide (a2 < ((rd_T154 l0 x11_1).f2)) = false := decide_eq_false c9
        clear c9
        have H' := Aside0.mk H
        clear H
        have p346 := dz_ (x11_1 : Int)
        have q346 := dl_ x11_1 (l0.length : Int)
        obtain ⟨ad346, e346, hx346_0, hx346_1, hx346_2⟩ := at_T154 HR0.out x11_1 p346 q346
        cases e346
        replace hx346_0 := pw_cell_below HB.out hx346_0
        replace hx346_1 := pw_cell_below HB.out hx346_1
        replace hx346_2 := pw_cell_below HB.out hx346_2
        replace p346 := eq_true p346
        replace q346 := eq_true q346
        go_wp2_with (((with_reducible refine gate_dst (N := 12) rfl ?_); refine bxE_ 12 154 #[.int .i64 0, .int .i64 0, .int .i64 0] ?_; intro gb347 hg w17 hbox hb; have BK347 := Aside0.mk (hbox); have GW347 := gee_ hg HB; have GE347 := gee_ hg HB; replace HO_9 := Aside0.mk (Kd.R_below (RW_ <| HO_9.out) hb); replace HB := belB_ HB hb; clear hb hbox hg; have hz_ := blk3_ BK347.out))
        go_roundg k1
        case measure => have := HK1.out; omega
        case rel => exact ⟨(x9_1), (wrap64 ((wrap64 (x10_1 + ((rd_T154 l0 x11_1).f2))) - ((rd_T154 l0 x11_1).f1))), (wrap64 (x11_1 + 1)), (by first | rfl | (simp; done) | (simp [*]; done)), (by first | rfl | (simp; done) | (simp [*]; done)), H', ⟨by have := HK1.out; omega⟩, ⟨RW_ <| Kd.R_mono (Kd.R_far (p := ⟨gb347, 2, none⟩) (Kd.R_far (p := ⟨gb347, 1, none⟩) (Kd.R_far (p := ⟨gb347, 0, none⟩) (Kd.R_types HO_9.out BK347.out (by decide)) (fun _ hk => hk.2) (.int .i64 ((rd_T154 l0 x11_1).f0))) (fun _ hk => hk.2) (.int .i64 ((rd_T154 l0 x11_1).f1))) (fun _ hk => hk.2) (.int .i64 ((rd_T154 l0 x11_1).f2))) (fun _ hk => trivial)⟩, ⟨belW_ HB⟩⟩
      ·rw [if_neg c8] at H
       have c8b0 : decide (((rd_T154 l0 x11_1).f1) < a3) = false := decide_eq_false c8
       clear c8
       have H' := Aside0.mk H
       clear H
       have p346 := dz_ (x11_1 : Int)
       have q346 := dl_ x11_1 (l0.length : Int)
       obtain ⟨ad346, e346, hx346_0, hx346_1, hx346_2⟩ := at_T154 HR0.out x11_1 p346 q346
       cases e346
       replace hx346_0 := pw_cell_below HB.out hx346_0
       replace hx346_1 := pw_cell_below HB.out hx346_1
       replace hx346_2 := pw_cell_below HB.out hx346_2
       replace p346 := eq_true p346
       replace q346 := eq_true q346
       go_wp2_with (((with_reducible refine gate_dst (N := 12) rfl ?_); refine bxE_ 12 154 #[.int .i64 0, .int .i64 0, .int .i64 0] ?_; intro gb347 hg w19 hbox hb; have BK347 := Aside0.mk (hbox); have GW347 := gee_ hg HB; have GE347 := gee_ hg HB; replace HO_9 := Aside0.mk (Kd.R_below (RW_ <| HO_9.out) hb); replace HB := belB_ HB hb; clear hb hbox hg; have hz_ := blk3_ BK347.out))
       go_roundg k1
       case measure => have := HK1.out; omega
       case rel => exact ⟨(x9_1), (wrap64 ((wrap64 (x10_1 + ((rd_T154 l0 x11_1).f2))) - ((rd_T154 l0 x11_1).f1))), (wrap64 (x11_1 + 1)), (by first | rfl | (simp; done) | (simp [*]; done)), (by first | rfl | (simp; done) | (simp [*]; done)), H', ⟨by have := HK1.out; omega⟩, ⟨RW_ <| Kd.R_mono (Kd.R_far (p := ⟨gb347, 2, none⟩) (Kd.R_far (p := ⟨gb347, 1, none⟩) (Kd.R_far (p := ⟨gb347, 0, none⟩) (Kd.R_types HO_9.out BK347.out (by decide)) (fun _ hk => hk.2) (.int .i64 ((rd_T154 l0 x11_1).f0))) (fun _ hk => hk.2) (.int .i64 ((rd_T154 l0 x11_1).f1))) (fun _ hk => hk.2) (.int .i64 ((rd_T154 l0 x11_1).f2))) (fun _ hk => trivial)⟩, ⟨belW_ HB⟩⟩
     ·rw [if_neg c7] at H
      have c7b0 : (((rd_T154 l0 x11_1).f0) == a1) = false := beq_eq_false_iff_ne.mpr c7
      have c7b1 : (((rd_T154 l0 x11_1).f0) != a1) = true := bne_iff_ne.mpr c7
      have H' := Aside0.mk H
      clear H
      have p346 := dz_ (x11_1 : Int)
      have q346 := dl_ x11_1 (l0.length : Int)
      obtain ⟨ad346, e346, hx346_0, hx346_1, hx346_2⟩ := at_T154 HR0.out x11_1 p346 q346
      cases e346
      replace hx346_0 := pw_cell_below HB.out hx346_0
      replace hx346_1 := pw_cell_below HB.out hx346_1
      replace hx346_2 := pw_cell_below HB.out hx346_2
      replace p346 := eq_true p346
      replace q346 := eq_true q346
      go_wp2_with (((with_reducible refine gate_dst (N := 12) rfl ?_); refine bxE_ 12 154 #[.int .i64 0, .int .i64 0, .int .i64 0] ?_; intro gb347 hg w21 hbox hb; have BK347 := Aside0.mk (hbox); have GW347 := gee_ hg HB; have GE347 := gee_ hg HB; replace HO_9 := Aside0.mk (Kd.R_below (RW_ <| HO_9.out) hb); replace HB := belB_ HB hb; clear hb hbox hg; have hz_ := blk3_ BK347.out))
      go_roundg k1
      case measure => have := HK1.out; omega
      case rel => exact ⟨(x9_1), (wrap64 ((wrap64 (x10_1 + ((rd_T154 l0 x11_1).f2))) - ((rd_T154 l0 x11_1).f1))), (wrap64 (x11_1 + 1)), (by first | rfl | (simp; done) | (simp [*]; done)), (by first | rfl | (simp; done) | (simp [*]; done)), H', ⟨by have := HK1.out; omega⟩, ⟨RW_ <| Kd.R_mono (Kd.R_far (p := ⟨gb347, 2, none⟩) (Kd.R_far (p := ⟨gb347, 1, none⟩) (Kd.R_far (p := ⟨gb347, 0, none⟩) (Kd.R_types HO_9.out BK347.out (by decide)) (fun _ hk => hk.2) (.int .i64 ((rd_T154 l0 x11_1).f0))) (fun _ hk => hk.2) (.int .i64 ((rd_T154 l0 x11_1).f1))) (fun _ hk => hk.2) (.int .i64 ((rd_T154 l0 x11_1).f2))) (fun _ hk => trivial)⟩, ⟨belW_ HB⟩⟩
    ·rw [if_neg c6] at H
     exact absurd H (by simp)
   ·rw [if_neg c5] at H
    have c5b0 : decide (x11_1 < (l0.length : Int)) = false := decide_eq_false c5
    clear c5
    obtain rfl := Option.some.inj H
    go_wp2
    go_ret
    exact ⟨_, by first | rfl | (simp [*] <;> rfl), RW_ <| HO_9.out, belW_ HB⟩

end Go.Proofs.YtloccjkcmlkifaaDoor.PAll
