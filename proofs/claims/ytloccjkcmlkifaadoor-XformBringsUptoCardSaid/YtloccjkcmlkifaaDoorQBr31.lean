/- XformBrings_card, part 31. -/
import Derived.Test.YtloccjkcmlkifaaDoorQBr19

namespace Go.Proofs.YtloccjkcmlkifaaDoor.PAll
open Go.RowKit Go.Proofs.YtloccjkcmlkifaaDoorW.PrintWords Go.Proofs.YtloccjkcmlkifaaDoorW.PrintLast Go.Proofs.YtloccjkcmlkifaaDoorW.PrintMore
attribute [local go_sem] max2_int min2_int max_two min_two max_three min_three max_four min_four   -- for this text's walks alone
set_option linter.unusedVariables false
set_option linter.unusedSimpArgs false

attribute [local go_sem high] idx34_0 idx34_1 idx35_0 idx35_1
def redraftref05_whole.l0 : Nat → List (S154) → Int → Int → Int → Option (Bool)
 | 0, _, _, _, _ => none
 | k + 1, x0, x1, x5, x6 => if x6 < (x0.length : Int) then (if 0 ≤ x6 then (if ((rd_T154 x0 x6).f0) = x1 then (redraftref05_whole.l0 k x0 x1 (wrap64 (x5 + 1)) (wrap64 (x6 + 1))) else (redraftref05_whole.l0 k x0 x1 x5 (wrap64 (x6 + 1)))) else (none)) else (some (x5 == 1))
def redraftref05_whole.f (k : Nat) (l0 : List (S154)) (a1 : Int) : Option (Bool) := redraftref05_whole.l0 k l0 a1 0 0
set_option maxHeartbeats 8000000 in
set_option maxRecDepth 100000 in
theorem redraftref05_whole.calls (k : Nat) (A0 : Option Addr) (c0 : Nat) (l0 : List (S154)) (a1 : Int) (r : Bool) (w : World) (hr0 : Kd.C k154 w A0 l0.length l0) (hc0 : l0.length ≤ c0) (h : redraftref05_whole.f k l0 a1 = some r) :
 Calls Tryd.prog 112 #[.slice A0 l0.length c0, .int .i64 a1] w fun e w' => e = .returned (.bool r) ∧ Drawn0 w w' := by
 have HR0 := Aside0.mk hr0
 have HC0 := Aside0.mk hc0
 clear hr0 hc0
 have H : (redraftref05_whole.l0 k l0 a1 0 0) = some r := h
 clear h
 have H' := Aside0.mk H
 clear H
 go_enter Tryd.func112, Tryd.ntmps112
 go_wp2
 go_loopg [5, 6] k (fun kq v5 v6 w' => ∃ (x5_1 : Int) (x6_1 : Int), v5 = .int .i64 x5_1 ∧ v6 = .int .i64 x6_1 ∧ Aside0 (redraftref05_whole.l0 kq l0 a1 x5_1 x6_1 = some r) ∧ Aside0 (kq ≤ k) ∧ Drawn0 w w')
 case atStart => exact ⟨(0), (0), ok_, ok_, H', ⟨Nat.le_refl _⟩, dr_⟩
 case round =>
  clear H'
  try clear c1
  try clear p2
  obtain ⟨x5_1, x6_1, rfl, rfl, HA, HK1, ⟨m1, rfl⟩⟩ := hrel
  cases gk with
  | zero => exact absurd HA.out (by simp [redraftref05_whole.l0])
  | succ k1 =>
   have H := HA.out
   clear HA
   simp only [redraftref05_whole.l0] at H
   by_cases c3 : x6_1 < (l0.length : Int)
   ·rw [if_pos c3] at H
    have c3b0 := decide_eq_true c3
    clear c3
    by_cases c4 : 0 ≤ x6_1
    ·rw [if_pos c4] at H
     have c4b0 := decide_eq_true c4
     clear c4
     by_cases c5 : ((rd_T154 l0 x6_1).f0) = a1
     ·rw [if_pos c5] at H
      have c5b0 := beq_iff_eq.mpr c5
      have c5b1 := bne_eq_false_iff_eq.mpr c5
      clear c5
      have H' := Aside0.mk H
      clear H
      have p331 := dz_ (x6_1 : Int)
      have q331 := dl_ x6_1 (l0.length : Int)
      obtain ⟨ad331, e331, hx331_0, hx331_1, hx331_2⟩ := at_T154 HR0.out x6_1 p331 q331
      cases e331
      replace p331 := eq_true p331
      replace q331 := eq_true q331
      go_wp2
      go_roundg k1
      case measure => have := HK1.out; omega
      case rel => exact ⟨(wrap64 (x5_1 + 1)), (wrap64 (x6_1 + 1)), ok_, ok_, H', ⟨lk_ HK1⟩, dr_⟩
     ·rw [if_neg c5] at H
      have c5b0 := beq_eq_false_iff_ne.mpr c5
      have c5b1 := bne_iff_ne.mpr c5
      have H' := Aside0.mk H
      clear H
      have p331 := dz_ (x6_1 : Int)
      have q331 := dl_ x6_1 (l0.length : Int)
      obtain ⟨ad331, e331, hx331_0, hx331_1, hx331_2⟩ := at_T154 HR0.out x6_1 p331 q331
      cases e331
      replace p331 := eq_true p331
      replace q331 := eq_true q331
      go_wp2
      go_roundg k1
      case measure => have := HK1.out; omega
      case rel => exact ⟨(x5_1), (wrap64 (x6_1 + 1)), ok_, ok_, H', ⟨lk_ HK1⟩, dr_⟩
    ·rw [if_neg c4] at H
     exact absurd H (by simp)
   ·rw [if_neg c3] at H
    have c3b0 := decide_eq_false c3
    clear c3
    obtain rfl := Option.some.inj H
    go_wp2
    go_ret
    exact ⟨ok_, dr_⟩

def redraftref05_without.l0 : Nat → List (S154) → Int → List (S154) → Int → Option ((List (S154)))
 | 0, _, _, _, _ => none
 | k + 1, x0, x1, x5, x6 => if x6 < (x0.length : Int) then (if 0 ≤ x6 then (if ((rd_T154 x0 x6).f0) = x1 then (redraftref05_without.l0 k x0 x1 x5 (wrap64 (x6 + 1))) else (if (x5.length : Int) > 0 then (if 0 ≤ (wrap64 ((x5.length : Int) - 1)) then (if (wrap64 ((x5.length : Int) - 1)) < (x5.length : Int) then (if ((rd_T154 x5 (wrap64 ((x5.length : Int) - 1))).f0) = ((rd_T154 x0 x6).f0) then (if ((rd_T154 x5 (wrap64 ((x5.length : Int) - 1))).f2) = ((rd_T154 x0 x6).f1) then (redraftref05_without.l0 k x0 x1 (x5.set ((wrap64 ((x5.length : Int) - 1)) : Int).toNat (⟨(rd_T154 x5 (wrap64 ((x5.length : Int) - 1))).f0, (rd_T154 x5 (wrap64 ((x5.length : Int) - 1))).f1, (rd_T154 x0 x6).f2⟩ : S154)) (wrap64 (x6 + 1))) else (if x5.length < 5864062014805 then (redraftref05_without.l0 k x0 x1 (x5 ++ [(⟨(rd_T154 x0 x6).f0, (rd_T154 x0 x6).f1, (rd_T154 x0 x6).f2⟩ : S154)]) (wrap64 (x6 + 1))) else (none))) else (if x5.length < 5864062014805 then (redraftref05_without.l0 k x0 x1 (x5 ++ [(⟨(rd_T154 x0 x6).f0, (rd_T154 x0 x6).f1, (rd_T154 x0 x6).f2⟩ : S154)]) (wrap64 (x6 + 1))) else (none))) else (none)) else (none)) else (if x5.length < 5864062014805 then (redraftref05_without.l0 k x0 x1 (x5 ++ [(⟨(rd_T154 x0 x6).f0, (rd_T154 x0 x6).f1, (rd_T154 x0 x6).f2⟩ : S154)]) (wrap64 (x6 + 1))) else (none)))) else (none)) else (some x5)
def redraftref05_without.f (k : Nat) (l0 : List (S154)) (a1 : Int) : Option ((List (S154))) := redraftref05_without.l0 k l0 a1 ([] : List (S154)) 0
set_option maxHeartbeats 8000000 in
set_option maxRecDepth 100000 in
theorem redraftref05_without.calls (k : Nat) (A0 : Option Addr) (c0 : Nat) (l0 : List (S154)) (a1 : Int) (r : List (S154)) (w : World) (hr0 : Kd.C k154 w A0 l0.length l0) (hc0 : l0.length ≤ c0) (h : redraftref05_without.f k l0 a1 = some r) :
 Calls Tryd.prog 113 #[.slice A0 l0.length c0, .int .i64 a1] w fun e w' => ∃ v0_ : Value, e = .returned (v0_) ∧ Kd.R k154 154 w' w.heap.size (fun _ => True) v0_ r ∧ Below w.heap.size w w' := by
 have hu154 := Tryd.underlying154
 have HR0 := Aside0.mk hr0
 have HC0 := Aside0.mk hc0
 clear hr0 hc0
 have HB := Aside0.mk (Below.refl w.heap.size w)
 have H : (redraftref05_without.l0 k l0 a1 ([] : List (S154)) 0) = some r := h
 clear h
 have H' := Aside0.mk H
 clear H
 go_enter Tryd.func113, Tryd.ntmps113
 go_wp2
 repeat (go_quiet (fail); try go_wp2)
 go_loopg [5, 6] k (fun kq v5 v6 w' => ∃ (x5_1 : List (S154)) (x6_1 : Int), v6 = .int .i64 x6_1 ∧ Aside0 (redraftref05_without.l0 kq l0 a1 x5_1 x6_1 = some r) ∧ Aside0 (kq ≤ k) ∧ Aside0 (Kd.R k154 154 w' w.heap.size (fun _ => True) v5 x5_1) ∧ Aside0 (Below w.heap.size w w'))
 case atStart => exact ⟨(([] : List (S154))), (0), ok_, H', ⟨Nat.le_refl _⟩, ⟨nl_⟩, ⟨belW_ HB⟩⟩
 case round =>
  clear H'
  try clear c1
  try clear p2
  obtain ⟨x5_1, x6_1, rfl, HA, HK1, HO_5, HB⟩ := hrel
  cases gk with
  | zero => exact absurd HA.out (by simp [redraftref05_without.l0])
  | succ k1 =>
   have H := HA.out
   clear HA
   simp only [redraftref05_without.l0] at H
   by_cases c3 : x6_1 < (l0.length : Int)
   ·rw [if_pos c3] at H
    have c3b0 := decide_eq_true c3
    clear c3
    by_cases c4 : 0 ≤ x6_1
    ·rw [if_pos c4] at H
     have c4b0 := decide_eq_true c4
     clear c4
     by_cases c5 : ((rd_T154 l0 x6_1).f0) = a1
     ·rw [if_pos c5] at H
      have c5b0 := beq_iff_eq.mpr c5
      have c5b1 := bne_eq_false_iff_eq.mpr c5
      clear c5
      have H' := Aside0.mk H
      clear H
      have p332 := dz_ (x6_1 : Int)
      have q332 := dl_ x6_1 (l0.length : Int)
      obtain ⟨ad332, e332, hx332_0, hx332_1, hx332_2⟩ := at_T154 HR0.out x6_1 p332 q332
      cases e332
      replace hx332_0 := pw_cell_below HB.out hx332_0
      replace hx332_1 := pw_cell_below HB.out hx332_1
      replace hx332_2 := pw_cell_below HB.out hx332_2
      replace p332 := eq_true p332
      replace q332 := eq_true q332
      go_wp2_with (((with_reducible refine gate_dst (N := 7) rfl ?_); refine bxE_ 7 154 #[.int .i64 0, .int .i64 0, .int .i64 0] ?_; intro gb333 hg w6 hbox hb; have BK333 := Aside0.mk (hbox); have GW333 := gee_ hg HB; have GE333 := gee_ hg HB; replace HO_5 := Aside0.mk (Kd.R_below (Kd.R_elderB (RW_ <| HO_5.out) gb333 (Nat.le_of_eq hg.symm)) hb); replace HB := belB_ HB hb; clear hb hbox hg; have hz_ := blk3_ BK333.out))
      repeat (go_quiet (fail); try go_wp2_with (fail))
      go_roundg k1
      case measure => have := HK1.out; omega
      case rel => exact ⟨(x5_1), (wrap64 (x6_1 + 1)), ok_, H', ⟨lk_ HK1⟩, ⟨RW_ <| Kd.R_mono (Kd.R_far (p := ⟨gb333, 2, none⟩) (Kd.R_far (p := ⟨gb333, 1, none⟩) (Kd.R_far (p := ⟨gb333, 0, none⟩) (Kd.R_mono HO_5.out (fun k_ hk => (⟨hk, hk.2⟩ : _ ∧ k_ ≠ gb333))) (fun _ hk => hk.2) (.int .i64 ((rd_T154 l0 x6_1).f0))) (fun _ hk => hk.2) (.int .i64 ((rd_T154 l0 x6_1).f1))) (fun _ hk => hk.2) (.int .i64 ((rd_T154 l0 x6_1).f2))) (fun _ hk => trivial)⟩, ⟨belW_ HB⟩⟩
     ·rw [if_neg c5] at H
      have c5b0 := beq_eq_false_iff_ne.mpr c5
      have c5b1 := bne_iff_ne.mpr c5
      by_cases c8 : (x5_1.length : Int) > 0
      ·rw [if_pos c8] at H
       have c8b0 : decide (0 < (x5_1.length : Int)) = true := decide_eq_true c8
       have c8b1 : decide (0 < x5_1.length) = true := decide_eq_true (by omega)
       clear c8
       obtain ⟨ji9, hji9⟩ : ∃ j_ : Int, (wrap64 ((x5_1.length : Int) - 1)) = j_ := ⟨_, rfl⟩
       replace H : (if 0 ≤ (ji9) then (if (ji9) < (x5_1.length : Int) then (if ((rd_T154 x5_1 (ji9)).f0) = ((rd_T154 l0 x6_1).f0) then (if ((rd_T154 x5_1 (ji9)).f2) = ((rd_T154 l0 x6_1).f1) then (redraftref05_without.l0 k1 l0 a1 (x5_1.set ((ji9) : Int).toNat (⟨(rd_T154 x5_1 (ji9)).f0, (rd_T154 x5_1 (ji9)).f1, (rd_T154 l0 x6_1).f2⟩ : S154)) (wrap64 (x6_1 + 1))) else (if x5_1.length < 5864062014805 then (redraftref05_without.l0 k1 l0 a1 (x5_1 ++ [(⟨(rd_T154 l0 x6_1).f0, (rd_T154 l0 x6_1).f1, (rd_T154 l0 x6_1).f2⟩ : S154)]) (wrap64 (x6_1 + 1))) else (none))) else (if x5_1.length < 5864062014805 then (redraftref05_without.l0 k1 l0 a1 (x5_1 ++ [(⟨(rd_T154 l0 x6_1).f0, (rd_T154 l0 x6_1).f1, (rd_T154 l0 x6_1).f2⟩ : S154)]) (wrap64 (x6_1 + 1))) else (none))) else (none)) else (none)) = some r := by first | (rw [hji9] at H; exact H) | (simp only [hji9] at H ⊢; exact H)
       have hji9w : (IntKind.i64.wrap ((x5_1.length : Int) - 1)) = ji9 := (i64_w _).trans hji9
       by_cases c10 : 0 ≤ (ji9)
       ·rw [if_pos c10] at H
        have c10b0 := decide_eq_true c10
        clear c10
        by_cases c11 : (ji9) < (x5_1.length : Int)
        ·rw [if_pos c11] at H
         have c11b0 := decide_eq_true c11
         clear c11
         by_cases c12 : ((rd_T154 x5_1 (ji9)).f0) = ((rd_T154 l0 x6_1).f0)
         ·rw [if_pos c12] at H
          have c12b0 := beq_iff_eq.mpr c12
          have c12b1 := bne_eq_false_iff_eq.mpr c12
          clear c12
          by_cases c13 : ((rd_T154 x5_1 (ji9)).f2) = ((rd_T154 l0 x6_1).f1)
          ·rw [if_pos c13] at H
           have c13b0 := beq_iff_eq.mpr c13
           have c13b1 := bne_eq_false_iff_eq.mpr c13
           clear c13
           obtain ⟨y336, hy336⟩ : ∃ y_ : List (S154), y_ = (x5_1.set ((ji9) : Int).toNat (⟨(rd_T154 x5_1 (ji9)).f0, (rd_T154 x5_1 (ji9)).f1, (rd_T154 l0 x6_1).f2⟩ : S154)) := ⟨_, rfl⟩
           replace H : (redraftref05_without.l0 k1 l0 a1 y336 (wrap64 (x6_1 + 1))) = some r := by first | (rw [hy336]; with_reducible exact H) | (have H2_ := (Option.bind_some _ _).symm.trans H; rw [hy336]; with_reducible exact H2_) | (have H2_ := (Option.bind_some _ _).symm.trans H; with_reducible exact H2_) | with_reducible exact H | (rw [hy336]; exact H) | exact H
           have Ny336 := Aside0.mk hy336
           clear hy336
           have H' := Aside0.mk H
           clear H
           have p332 := dz_ (x6_1 : Int)
           have q332 := dl_ x6_1 (l0.length : Int)
           obtain ⟨ad332, e332, hx332_0, hx332_1, hx332_2⟩ := at_T154 HR0.out x6_1 p332 q332
           cases e332
           replace hx332_0 := pw_cell_below HB.out hx332_0
           replace hx332_1 := pw_cell_below HB.out hx332_1
           replace hx332_2 := pw_cell_below HB.out hx332_2
           replace p332 := eq_true p332
           replace q332 := eq_true q332
           go_wp2_with (first | ((with_reducible refine gate_dst (N := 7) rfl ?_); refine bxE_ 7 154 #[.int .i64 0, .int .i64 0, .int .i64 0] ?_; intro gb333 hg w15 hbox hb; have BK333 := Aside0.mk (hbox); have GW333 := gee_ hg HB; have GE333 := gee_ hg HB; replace HO_5 := Aside0.mk (Kd.R_below (Kd.R_elderB (RW_ <| HO_5.out) gb333 (Nat.le_of_eq hg.symm)) hb); replace HB := belB_ HB hb; clear hb hbox hg; have hz_ := blk3_ BK333.out) | ((with_reducible refine gate_store (t := 154) (p := 7) rfl ?_); (try (rw [drewN_self w15]; generalize hq_ : World.drewN w15 _ = w15; have n0_ := Aside0.mk (Kd.R_at hq_ HO_5.out); have n1_ := Aside0.mk (blk_at hq_ BK333.out); have n2_ := Aside0.mk (below_at hq_ HB.out); clear hq_ HO_5 BK333 HB; have HO_5 := n0_; have BK333 := n1_; have HB := n2_; clear n0_ n1_ n2_)); refine store_event (t := 154) (p := 7) (v := ?vo_w17) (w1 := (((w15.setCell ⟨gb333, 0, none⟩ (.int .i64 ((rd_T154 l0 x6_1).f0))).setCell ⟨gb333, 1, none⟩ (.int .i64 ((rd_T154 l0 x6_1).f1))).setCell ⟨gb333, 2, none⟩ (.int .i64 ((rd_T154 l0 x6_1).f2)))) ?hg ?ho ?hn ?hr ?_; (case ho => rfl); (case hg => rfl); (case hn => rfl); (case hr => first | (go_simp; done) | (go_simp; rfl)); intro w17 hw; have n0_ : Aside0 (Kd.R k154 154 w17 w.heap.size (fun k_ => k_ ≠ gb333) u5 x5_1) := ⟨(by rw [hw]; exact (RW_ <| Kd.R_mono (Kd.R_far (p := ⟨gb333, 2, none⟩) (Kd.R_far (p := ⟨gb333, 1, none⟩) (Kd.R_far (p := ⟨gb333, 0, none⟩) (Kd.R_mono HO_5.out (fun k_ hk => (⟨hk, hk.2⟩ : _ ∧ k_ ≠ gb333))) (fun _ hk => hk.2) (.int .i64 ((rd_T154 l0 x6_1).f0))) (fun _ hk => hk.2) (.int .i64 ((rd_T154 l0 x6_1).f1))) (fun _ hk => hk.2) (.int .i64 ((rd_T154 l0 x6_1).f2))) (fun _ hk => hk.1.2)))⟩; have n1_ : Aside0 (w17.heap[gb333]? = some (.cells #[.int .i64 ((rd_T154 l0 x6_1).f0), .int .i64 ((rd_T154 l0 x6_1).f1), .int .i64 ((rd_T154 l0 x6_1).f2)] 154 (0, 0))) := ⟨(by rw [hw]; exact (by (with_reducible repeat (first | refine blk_drewN ?_ _ | refine blk_drew ?_ | refine blk_alloc ?_ _)); refine blk_put (cs := #[.int .i64 ((rd_T154 l0 x6_1).f0), .int .i64 ((rd_T154 l0 x6_1).f1), .int .i64 0]) ?_ 2 _ rfl; (with_reducible repeat (first | refine blk_drewN ?_ _ | refine blk_drew ?_ | refine blk_alloc ?_ _)); refine blk_put (cs := #[.int .i64 ((rd_T154 l0 x6_1).f0), .int .i64 0, .int .i64 0]) ?_ 1 _ rfl; (with_reducible repeat (first | refine blk_drewN ?_ _ | refine blk_drew ?_ | refine blk_alloc ?_ _)); refine blk_put (cs := #[.int .i64 0, .int .i64 0, .int .i64 0]) ?_ 0 _ rfl; (with_reducible repeat (first | refine blk_drewN ?_ _ | refine blk_drew ?_ | refine blk_alloc ?_ _)); exact BK333.out))⟩; have n2_ : Aside0 (Below w.heap.size w w17) := ⟨(by rw [hw]; exact (belW_ HB))⟩; clear hw; clear HO_5; clear BK333; clear HB; have HO_5 := n0_; have BK333 := n1_; have HB := n2_; clear n0_ n1_ n2_; have hz_ := blk3_ BK333.out; obtain ⟨Ao19, co19, eo19⟩ := Kd.R_slice HO_5.out; subst eo19; have p334 := dz_ ((ji9) : Int); have q334 := dl_ (ji9) (x5_1.length : Int); obtain ⟨ad334, e334, hx334_0, hx334_1, hx334_2⟩ := at_T154 (Kd.R_reads' HO_5.out).2.2 (ji9) p334 q334; cases e334; replace p334 := eq_true p334; replace q334 := eq_true q334; have p335 := dz_ ((ji9) : Int); have q335 := dl_ (ji9) (x5_1.length : Int); obtain ⟨ad335, e335, hx335_0, hx335_1, hx335_2⟩ := at_T154 (Kd.R_reads' HO_5.out).2.2 (ji9) p335 q335; obtain rfl : ad334 = ad335 := (by injection e335); replace p335 := eq_true p335; replace q335 := eq_true q335; have p14 := dz_ ((ji9) : Int); have q14 : ((ji9) : Int) < ((x5_1.length : Int) : Int) := of_decide_eq_true (by first | (with_reducible assumption) | assumption); obtain ⟨go14, co14, eo14, gb14, gl14, cl14, HG14⟩ := Kd.R_form HO_5.out (by omega); (first | cases eo14 | (injection eo14 with ea_ en_ ec_; (first | subst ea_ | (injection ea_ with ea_; subst ea_)); subst ec_; clear en_)); have GB14 := Aside0.mk gb14; have GG14 := Aside0.mk HG14; clear gb14 gl14 HG14; (first | simp only [add_plain] at hx334_0 | skip); (first | simp only [add_plain] at hx334_1 | skip); (first | simp only [add_plain] at hx334_2 | skip); (first | simp only [add_plain] at hx335_0 | skip); (first | simp only [add_plain] at hx335_1 | skip); (first | simp only [add_plain] at hx335_2 | skip); obtain ⟨ce14, hcl14, hM14, hcc14, hfr14⟩ := Kd.R_elem HO_5.out z154 ((ji9) : Int) p14 q14; obtain rfl := k154_openM hM14; have hx14_0 : w17.cell? ⟨go14, ((ji9) : Int).toNat * 3, none⟩ = some (.int .i64 ((rd_T154 x5_1 (ji9)).f0)) := hcc14 0 _ rfl; have hx14_1 : w17.cell? ⟨go14, ((ji9) : Int).toNat * 3 + 1, none⟩ = some (.int .i64 ((rd_T154 x5_1 (ji9)).f1)) := hcc14 1 _ rfl; have hx14_2 : w17.cell? ⟨go14, ((ji9) : Int).toNat * 3 + 2, none⟩ = some (.int .i64 ((rd_T154 x5_1 (ji9)).f2)) := hcc14 2 _ rfl; have hf14_0 : w17.frozen? ⟨go14, ((ji9) : Int).toNat * 3, none⟩ = false := hfr14 0; have hf14_1 : w17.frozen? ⟨go14, ((ji9) : Int).toNat * 3 + 1, none⟩ = false := hfr14 1; have hf14_2 : w17.frozen? ⟨go14, ((ji9) : Int).toNat * 3 + 2, none⟩ = false := hfr14 2; clear hcl14 hcc14 hfr14 hM14; replace p14 := eq_true p14; replace q14 := eq_true q14; have HX20 := Aside0.mk (show Kd.R k154 154 w17 w.heap.size (fun k_ => k_ ≠ gb333) (.slice (some ⟨go14, 0, none⟩) x5_1.length co19) x5_1 from (RW_ <| HO_5.out)); obtain ⟨ce20, hcl20, hM20, hcc20, hfr20⟩ := Kd.R_elem HX20.out z154 ((ji9) : Int) (of_decide_eq_true (by first | (with_reducible assumption) | assumption)) (by have h_ : ((ji9) : Int) < ((x5_1.length : Int) : Int) := of_decide_eq_true (by first | (with_reducible assumption) | assumption); first | exact h_ | (have e_ := (Kd.R_reads' HO_5.out).1; omega) | simpa using h_); obtain rfl := k154_openM hM20; have HP20 := Kd.R_seg HX20.out ((ji9) : Int) (of_decide_eq_true (by first | (with_reducible assumption) | assumption)) (by have h_ : ((ji9) : Int) < ((x5_1.length : Int) : Int) := of_decide_eq_true (by first | (with_reducible assumption) | assumption); first | exact h_ | (have e_ := (Kd.R_reads' HO_5.out).1; omega) | simpa using h_) (seg := [.int .i64 ((rd_T154 l0 x6_1).f2)]) (j := 2) hcl20 hcc20 (show 3 ≤ 3 from by decide) (x' := (⟨(rd_T154 x5_1 (ji9)).f0, (rd_T154 x5_1 (ji9)).f1, (rd_T154 l0 x6_1).f2⟩ : S154)) (k154_mkM _ _ _ (⟨(rd_T154 x5_1 (ji9)).f0, (rd_T154 x5_1 (ji9)).f1, (rd_T154 l0 x6_1).f2⟩ : S154) ) (fun _ hk => hk); have hx20_2 := hcc20 2 _ rfl; (try simp only [show (k154).sz = 3 from rfl, Nat.mul_one, Nat.add_zero] at hx20_2); have hf20_2 := hfr20 2; (try simp only [show (k154).sz = 3 from rfl, Nat.mul_one, Nat.add_zero] at hf20_2); clear hcl20 hcc20 hfr20 hM20))
           repeat (go_quiet (fail); try go_wp2_with (((with_reducible refine gate_store (t := 3) (p := 55) rfl ?_); (try (rw [drewN_self w17]; generalize hq_ : World.drewN w17 _ = w17; have n0_ := Aside0.mk (Kd.R_at hq_ HO_5.out); have n1_ := Aside0.mk (blk_at hq_ BK333.out); have n2_ := Aside0.mk (below_at hq_ HB.out); clear hq_ HO_5 BK333 HB; have HO_5 := n0_; have BK333 := n1_; have HB := n2_; clear n0_ n1_ n2_; (try (have HX20 := Aside0.mk (show Kd.R k154 154 w17 w.heap.size (fun k_ => k_ ≠ gb333) (.slice (some ⟨go14, 0, none⟩) x5_1.length co19) x5_1 from (RW_ <| HO_5.out)))); (try (obtain ⟨ce20, hcl20, hM20, hcc20, hfr20⟩ := Kd.R_elem HX20.out z154 ((ji9) : Int) (of_decide_eq_true (by first | (with_reducible assumption) | assumption)) (by have h_ : ((ji9) : Int) < ((x5_1.length : Int) : Int) := of_decide_eq_true (by first | (with_reducible assumption) | assumption); first | exact h_ | (have e_ := (Kd.R_reads' HO_5.out).1; omega) | simpa using h_))); (try (obtain rfl := k154_openM hM20)); (try (have HP20 := Kd.R_seg HX20.out ((ji9) : Int) (of_decide_eq_true (by first | (with_reducible assumption) | assumption)) (by have h_ : ((ji9) : Int) < ((x5_1.length : Int) : Int) := of_decide_eq_true (by first | (with_reducible assumption) | assumption); first | exact h_ | (have e_ := (Kd.R_reads' HO_5.out).1; omega) | simpa using h_) (seg := [.int .i64 ((rd_T154 l0 x6_1).f2)]) (j := 2) hcl20 hcc20 (show 3 ≤ 3 from by decide) (x' := (⟨(rd_T154 x5_1 (ji9)).f0, (rd_T154 x5_1 (ji9)).f1, (rd_T154 l0 x6_1).f2⟩ : S154)) (k154_mkM _ _ _ (⟨(rd_T154 x5_1 (ji9)).f0, (rd_T154 x5_1 (ji9)).f1, (rd_T154 l0 x6_1).f2⟩ : S154) ) (fun _ hk => hk))); (try (have hx20_2 := hcc20 2 _ rfl)); (try (try simp only [show (k154).sz = 3 from rfl, Nat.mul_one, Nat.add_zero] at hx20_2)); (try (have hf20_2 := hfr20 2)); (try (try simp only [show (k154).sz = 3 from rfl, Nat.mul_one, Nat.add_zero] at hf20_2)); (try (clear hcl20 hcc20 hfr20 hM20)))); refine store_event (t := 3) (p := 55) (v := ?vo_w21) (w1 := (w17.setCell ⟨go14, ((ji9) : Int).toNat * 3 + 2, none⟩ (.int .i64 ((rd_T154 l0 x6_1).f2)))) ?hg ?ho ?hn ?hr ?_; (case ho => rfl); (case hg => rfl); (case hn => rfl); (case hr => first | (go_simp; done) | (go_simp; rfl)); intro w21 hw; have hg : w17.grownBy w21 (some go14) := (by rw [hw]; exact HP20.2); have hp_ : Kd.R k154 154 w21 w.heap.size (fun k_ => k_ ≠ gb333) (.slice (some ⟨go14, 0, none⟩) x5_1.length co19) y336 := (by rw [hw, Ny336.out]; exact HP20.1); clear HP20; replace BK333 := Aside0.mk (blk_grown (blkW_ BK333) hg (Kd.R_away HO_5.out (fun _ hk => hk))); replace HO_5 := Aside0.mk (hp_); replace HB := Aside0.mk ((by rw [hw]; exact below_set (HB.out) GB14.out : Below w.heap.size w w21)); clear hg hw hp_)))
           go_roundg k1
           case measure => have := HK1.out; omega
           case rel => exact ⟨(y336), (wrap64 (x6_1 + 1)), ok_, H', ⟨lk_ HK1⟩, ⟨RW_ <| Kd.R_mono HO_5.out (fun _ hk => trivial)⟩, ⟨belW_ HB⟩⟩
          ·rw [if_neg c13] at H
           have c13b0 := beq_eq_false_iff_ne.mpr c13
           have c13b1 := bne_iff_ne.mpr c13
           by_cases c22 : x5_1.length < 5864062014805
           ·rw [if_pos c22] at H
            have LMc22 := Aside0.mk c22
            clear c22
            obtain ⟨y337, hy337⟩ : ∃ y_ : List (S154), y_ = (x5_1 ++ [(⟨(rd_T154 l0 x6_1).f0, (rd_T154 l0 x6_1).f1, (rd_T154 l0 x6_1).f2⟩ : S154)]) := ⟨_, rfl⟩
            replace H : (redraftref05_without.l0 k1 l0 a1 y337 (wrap64 (x6_1 + 1))) = some r := by first | (rw [hy337]; with_reducible exact H) | (have H2_ := (Option.bind_some _ _).symm.trans H; rw [hy337]; with_reducible exact H2_) | (have H2_ := (Option.bind_some _ _).symm.trans H; with_reducible exact H2_) | with_reducible exact H | (rw [hy337]; exact H) | exact H
            have Ny337 := Aside0.mk hy337
            clear hy337
            have H' := Aside0.mk H
            clear H
            have p332 := dz_ (x6_1 : Int)
            have q332 := dl_ x6_1 (l0.length : Int)
            obtain ⟨ad332, e332, hx332_0, hx332_1, hx332_2⟩ := at_T154 HR0.out x6_1 p332 q332
            cases e332
            replace hx332_0 := pw_cell_below HB.out hx332_0
            replace hx332_1 := pw_cell_below HB.out hx332_1
            replace hx332_2 := pw_cell_below HB.out hx332_2
            replace p332 := eq_true p332
            replace q332 := eq_true q332
            go_wp2_with (((with_reducible refine gate_dst (N := 7) rfl ?_); refine bxE_ 7 154 #[.int .i64 0, .int .i64 0, .int .i64 0] ?_; intro gb333 hg w23 hbox hb; have BK333 := Aside0.mk (hbox); have GW333 := gee_ hg HB; have GE333 := gee_ hg HB; replace HO_5 := Aside0.mk (Kd.R_below (Kd.R_elderB (RW_ <| HO_5.out) gb333 (Nat.le_of_eq hg.symm)) hb); replace HB := belB_ HB hb; clear hb hbox hg; have hz_ := blk3_ BK333.out; obtain ⟨Ao25, co25, eo25⟩ := Kd.R_slice HO_5.out; subst eo25; have p334 := dz_ ((ji9) : Int); have q334 := dl_ (ji9) (x5_1.length : Int); obtain ⟨ad334, e334, hx334_0, hx334_1, hx334_2⟩ := at_T154 (Kd.R_reads' HO_5.out).2.2 (ji9) p334 q334; cases e334; have hn334_0 : ad334.block ≠ gb333 := Kd.own_blk (Kd.R_away HO_5.out (fun _ hk => hk.2)); have hn334_1 : ad334.block ≠ gb333 := Kd.own_blk (Kd.R_away HO_5.out (fun _ hk => hk.2)); have hn334_2 : ad334.block ≠ gb333 := Kd.own_blk (Kd.R_away HO_5.out (fun _ hk => hk.2)); replace hx334_0 := (cell_far (p := ⟨gb333, 0, none⟩) (by first | (rw [add_block]; exact hn334_0) | (show (Addr.add _ _).block ≠ _; rw [add_block]; exact hn334_0) | exact hn334_0) (.int .i64 ((rd_T154 l0 x6_1).f0))).trans hx334_0; replace hx334_1 := (cell_far (p := ⟨gb333, 0, none⟩) (by first | (rw [add_block]; exact hn334_0) | (show (Addr.add _ _).block ≠ _; rw [add_block]; exact hn334_0) | exact hn334_0) (.int .i64 ((rd_T154 l0 x6_1).f0))).trans hx334_1; replace hx334_2 := (cell_far (p := ⟨gb333, 0, none⟩) (by first | (rw [add_block]; exact hn334_0) | (show (Addr.add _ _).block ≠ _; rw [add_block]; exact hn334_0) | exact hn334_0) (.int .i64 ((rd_T154 l0 x6_1).f0))).trans hx334_2; replace hx334_0 := (cell_far (p := ⟨gb333, 1, none⟩) (by first | (rw [add_block]; exact hn334_1) | (show (Addr.add _ _).block ≠ _; rw [add_block]; exact hn334_1) | exact hn334_1) (.int .i64 ((rd_T154 l0 x6_1).f1))).trans hx334_0; replace hx334_1 := (cell_far (p := ⟨gb333, 1, none⟩) (by first | (rw [add_block]; exact hn334_1) | (show (Addr.add _ _).block ≠ _; rw [add_block]; exact hn334_1) | exact hn334_1) (.int .i64 ((rd_T154 l0 x6_1).f1))).trans hx334_1; replace hx334_2 := (cell_far (p := ⟨gb333, 1, none⟩) (by first | (rw [add_block]; exact hn334_1) | (show (Addr.add _ _).block ≠ _; rw [add_block]; exact hn334_1) | exact hn334_1) (.int .i64 ((rd_T154 l0 x6_1).f1))).trans hx334_2; replace hx334_0 := (cell_far (p := ⟨gb333, 2, none⟩) (by first | (rw [add_block]; exact hn334_2) | (show (Addr.add _ _).block ≠ _; rw [add_block]; exact hn334_2) | exact hn334_2) (.int .i64 ((rd_T154 l0 x6_1).f2))).trans hx334_0; replace hx334_1 := (cell_far (p := ⟨gb333, 2, none⟩) (by first | (rw [add_block]; exact hn334_2) | (show (Addr.add _ _).block ≠ _; rw [add_block]; exact hn334_2) | exact hn334_2) (.int .i64 ((rd_T154 l0 x6_1).f2))).trans hx334_1; replace hx334_2 := (cell_far (p := ⟨gb333, 2, none⟩) (by first | (rw [add_block]; exact hn334_2) | (show (Addr.add _ _).block ≠ _; rw [add_block]; exact hn334_2) | exact hn334_2) (.int .i64 ((rd_T154 l0 x6_1).f2))).trans hx334_2; (try have hy334_0 := fun (n_ : Nat) => (show (((((w23.drewN n_).setCell ⟨gb333, 0, none⟩ (.int .i64 ((rd_T154 l0 x6_1).f0))).setCell ⟨gb333, 1, none⟩ (.int .i64 ((rd_T154 l0 x6_1).f1))).setCell ⟨gb333, 2, none⟩ (.int .i64 ((rd_T154 l0 x6_1).f2)))).cell? _ = some _ from hx334_0)); (try have hy334_1 := fun (n_ : Nat) => (show (((((w23.drewN n_).setCell ⟨gb333, 0, none⟩ (.int .i64 ((rd_T154 l0 x6_1).f0))).setCell ⟨gb333, 1, none⟩ (.int .i64 ((rd_T154 l0 x6_1).f1))).setCell ⟨gb333, 2, none⟩ (.int .i64 ((rd_T154 l0 x6_1).f2)))).cell? _ = some _ from hx334_1)); (try have hy334_2 := fun (n_ : Nat) => (show (((((w23.drewN n_).setCell ⟨gb333, 0, none⟩ (.int .i64 ((rd_T154 l0 x6_1).f0))).setCell ⟨gb333, 1, none⟩ (.int .i64 ((rd_T154 l0 x6_1).f1))).setCell ⟨gb333, 2, none⟩ (.int .i64 ((rd_T154 l0 x6_1).f2)))).cell? _ = some _ from hx334_2)); clear hn334_0; clear hn334_1; clear hn334_2; replace p334 := eq_true p334; replace q334 := eq_true q334; have p335 := dz_ ((ji9) : Int); have q335 := dl_ (ji9) (x5_1.length : Int); obtain ⟨ad335, e335, hx335_0, hx335_1, hx335_2⟩ := at_T154 (Kd.R_reads' HO_5.out).2.2 (ji9) p335 q335; obtain rfl : ad334 = ad335 := (by injection e335); have hn335_0 : ad334.block ≠ gb333 := Kd.own_blk (Kd.R_away HO_5.out (fun _ hk => hk.2)); have hn335_1 : ad334.block ≠ gb333 := Kd.own_blk (Kd.R_away HO_5.out (fun _ hk => hk.2)); have hn335_2 : ad334.block ≠ gb333 := Kd.own_blk (Kd.R_away HO_5.out (fun _ hk => hk.2)); replace hx335_0 := (cell_far (p := ⟨gb333, 0, none⟩) (by first | (rw [add_block]; exact hn335_0) | (show (Addr.add _ _).block ≠ _; rw [add_block]; exact hn335_0) | exact hn335_0) (.int .i64 ((rd_T154 l0 x6_1).f0))).trans hx335_0; replace hx335_1 := (cell_far (p := ⟨gb333, 0, none⟩) (by first | (rw [add_block]; exact hn335_0) | (show (Addr.add _ _).block ≠ _; rw [add_block]; exact hn335_0) | exact hn335_0) (.int .i64 ((rd_T154 l0 x6_1).f0))).trans hx335_1; replace hx335_2 := (cell_far (p := ⟨gb333, 0, none⟩) (by first | (rw [add_block]; exact hn335_0) | (show (Addr.add _ _).block ≠ _; rw [add_block]; exact hn335_0) | exact hn335_0) (.int .i64 ((rd_T154 l0 x6_1).f0))).trans hx335_2; replace hx335_0 := (cell_far (p := ⟨gb333, 1, none⟩) (by first | (rw [add_block]; exact hn335_1) | (show (Addr.add _ _).block ≠ _; rw [add_block]; exact hn335_1) | exact hn335_1) (.int .i64 ((rd_T154 l0 x6_1).f1))).trans hx335_0; replace hx335_1 := (cell_far (p := ⟨gb333, 1, none⟩) (by first | (rw [add_block]; exact hn335_1) | (show (Addr.add _ _).block ≠ _; rw [add_block]; exact hn335_1) | exact hn335_1) (.int .i64 ((rd_T154 l0 x6_1).f1))).trans hx335_1; replace hx335_2 := (cell_far (p := ⟨gb333, 1, none⟩) (by first | (rw [add_block]; exact hn335_1) | (show (Addr.add _ _).block ≠ _; rw [add_block]; exact hn335_1) | exact hn335_1) (.int .i64 ((rd_T154 l0 x6_1).f1))).trans hx335_2; replace hx335_0 := (cell_far (p := ⟨gb333, 2, none⟩) (by first | (rw [add_block]; exact hn335_2) | (show (Addr.add _ _).block ≠ _; rw [add_block]; exact hn335_2) | exact hn335_2) (.int .i64 ((rd_T154 l0 x6_1).f2))).trans hx335_0; replace hx335_1 := (cell_far (p := ⟨gb333, 2, none⟩) (by first | (rw [add_block]; exact hn335_2) | (show (Addr.add _ _).block ≠ _; rw [add_block]; exact hn335_2) | exact hn335_2) (.int .i64 ((rd_T154 l0 x6_1).f2))).trans hx335_1; replace hx335_2 := (cell_far (p := ⟨gb333, 2, none⟩) (by first | (rw [add_block]; exact hn335_2) | (show (Addr.add _ _).block ≠ _; rw [add_block]; exact hn335_2) | exact hn335_2) (.int .i64 ((rd_T154 l0 x6_1).f2))).trans hx335_2; (try have hy335_0 := fun (n_ : Nat) => (show (((((w23.drewN n_).setCell ⟨gb333, 0, none⟩ (.int .i64 ((rd_T154 l0 x6_1).f0))).setCell ⟨gb333, 1, none⟩ (.int .i64 ((rd_T154 l0 x6_1).f1))).setCell ⟨gb333, 2, none⟩ (.int .i64 ((rd_T154 l0 x6_1).f2)))).cell? _ = some _ from hx335_0)); (try have hy335_1 := fun (n_ : Nat) => (show (((((w23.drewN n_).setCell ⟨gb333, 0, none⟩ (.int .i64 ((rd_T154 l0 x6_1).f0))).setCell ⟨gb333, 1, none⟩ (.int .i64 ((rd_T154 l0 x6_1).f1))).setCell ⟨gb333, 2, none⟩ (.int .i64 ((rd_T154 l0 x6_1).f2)))).cell? _ = some _ from hx335_1)); (try have hy335_2 := fun (n_ : Nat) => (show (((((w23.drewN n_).setCell ⟨gb333, 0, none⟩ (.int .i64 ((rd_T154 l0 x6_1).f0))).setCell ⟨gb333, 1, none⟩ (.int .i64 ((rd_T154 l0 x6_1).f1))).setCell ⟨gb333, 2, none⟩ (.int .i64 ((rd_T154 l0 x6_1).f2)))).cell? _ = some _ from hx335_2)); clear hn335_0; clear hn335_1; clear hn335_2; replace p335 := eq_true p335; replace q335 := eq_true q335))
            repeat (go_quiet (fail); try go_wp2_with (((with_reducible refine gate_builtin (b := .append) (xs := #[.tmp 56, .tmp 58]) rfl ?_); at_builtin; refine Kd.R_append k154 (w0 := w) w.heap.size rfl (.tmp 56) (.tmp 58) 137 154 (.agg #[(.int .i64 0), (.int .i64 0), (.int .i64 0)]) 24 rfl Tryd.underlying137 info154 rfl (by decide) (by omega) (.slice (some ad334) x5_1.length co25) x5_1 (⟨(rd_T154 l0 x6_1).f0, (rd_T154 l0 x6_1).f1, (rd_T154 l0 x6_1).f2⟩ : S154) [.int .i64 ((rd_T154 l0 x6_1).f0), .int .i64 ((rd_T154 l0 x6_1).f1), .int .i64 ((rd_T154 l0 x6_1).f2)] (fun k_ => k_ ≠ gb333) (fun _ => False) rfl (by first | (go_simp; done) | (go_simp; rfl)) ?aP (fun _ hk => hk.elim) ?aF ?aO ?aB ?aS ?aL ?_; (case aP => exact k154_mkM _ _ _ (⟨(rd_T154 l0 x6_1).f0, (rd_T154 l0 x6_1).f1, (rd_T154 l0 x6_1).f2⟩ : S154)); (case aB => exact (belW_ HB)); (case aF => exact (fun k_ hk => Kd.freshB (g := gb333) (o := .cells #[.int .i64 ((rd_T154 l0 x6_1).f0), .int .i64 ((rd_T154 l0 x6_1).f1), .int .i64 ((rd_T154 l0 x6_1).f2)] 154 (0, 0)) (by (with_reducible repeat (first | refine blk_drewN ?_ _ | refine blk_drew ?_ | refine blk_alloc ?_ _)); refine blk_put (cs := #[.int .i64 ((rd_T154 l0 x6_1).f0), .int .i64 ((rd_T154 l0 x6_1).f1), .int .i64 0]) ?_ 2 _ rfl; (with_reducible repeat (first | refine blk_drewN ?_ _ | refine blk_drew ?_ | refine blk_alloc ?_ _)); refine blk_put (cs := #[.int .i64 ((rd_T154 l0 x6_1).f0), .int .i64 0, .int .i64 0]) ?_ 1 _ rfl; (with_reducible repeat (first | refine blk_drewN ?_ _ | refine blk_drew ?_ | refine blk_alloc ?_ _)); refine blk_put (cs := #[.int .i64 0, .int .i64 0, .int .i64 0]) ?_ 0 _ rfl; (with_reducible repeat (first | refine blk_drewN ?_ _ | refine blk_drew ?_ | refine blk_alloc ?_ _)); exact BK333.out) k_ hk)); (case aO => exact (RW_ <| Kd.R_mono (Kd.R_far (p := ⟨gb333, 2, none⟩) (Kd.R_far (p := ⟨gb333, 1, none⟩) (Kd.R_far (p := ⟨gb333, 0, none⟩) (Kd.R_mono HO_5.out (fun k_ hk => (⟨hk, hk.2⟩ : _ ∧ k_ ≠ gb333))) (fun _ hk => hk.2) (.int .i64 ((rd_T154 l0 x6_1).f0))) (fun _ hk => hk.2) (.int .i64 ((rd_T154 l0 x6_1).f1))) (fun _ hk => hk.2) (.int .i64 ((rd_T154 l0 x6_1).f2))) (fun _ hk => hk.1.2))); (case aS => exact (below_size (belW_ HB))); (case aL => have := LMc22.out; omega); intro v338 w26 ho hb hg hat; rw [← Ny337.out] at ho; have HO339 := Aside0.mk (ho); replace BK333 := Aside0.mk (blk_grown (g := gb333) (o := .cells #[.int .i64 ((rd_T154 l0 x6_1).f0), .int .i64 ((rd_T154 l0 x6_1).f1), .int .i64 ((rd_T154 l0 x6_1).f2)] 154 (0, 0)) (by (with_reducible repeat (first | refine blk_drewN ?_ _ | refine blk_drew ?_ | refine blk_alloc ?_ _)); refine blk_put (cs := #[.int .i64 ((rd_T154 l0 x6_1).f0), .int .i64 ((rd_T154 l0 x6_1).f1), .int .i64 0]) ?_ 2 _ rfl; (with_reducible repeat (first | refine blk_drewN ?_ _ | refine blk_drew ?_ | refine blk_alloc ?_ _)); refine blk_put (cs := #[.int .i64 ((rd_T154 l0 x6_1).f0), .int .i64 0, .int .i64 0]) ?_ 1 _ rfl; (with_reducible repeat (first | refine blk_drewN ?_ _ | refine blk_drew ?_ | refine blk_alloc ?_ _)); refine blk_put (cs := #[.int .i64 0, .int .i64 0, .int .i64 0]) ?_ 0 _ rfl; (with_reducible repeat (first | refine blk_drewN ?_ _ | refine blk_drew ?_ | refine blk_alloc ?_ _)); exact BK333.out) hg (Kd.R_away HO_5.out (fun _ hk => hk.2))); replace HB := Aside0.mk (hb); clear HO_5; clear ho hb hg hat)))
            go_roundg k1
            case measure => have := HK1.out; omega
            case rel => exact ⟨(y337), (wrap64 (x6_1 + 1)), ok_, H', ⟨lk_ HK1⟩, ⟨RW_ <| Kd.R_mono HO339.out (fun _ hk => trivial)⟩, ⟨belW_ HB⟩⟩
           ·rw [if_neg c22] at H
            exact absurd H (by simp)
         ·rw [if_neg c12] at H
          have c12b0 := beq_eq_false_iff_ne.mpr c12
          have c12b1 := bne_iff_ne.mpr c12
          by_cases c27 : x5_1.length < 5864062014805
          ·rw [if_pos c27] at H
           have LMc27 := Aside0.mk c27
           clear c27
           obtain ⟨y340, hy340⟩ : ∃ y_ : List (S154), y_ = (x5_1 ++ [(⟨(rd_T154 l0 x6_1).f0, (rd_T154 l0 x6_1).f1, (rd_T154 l0 x6_1).f2⟩ : S154)]) := ⟨_, rfl⟩
           replace H : (redraftref05_without.l0 k1 l0 a1 y340 (wrap64 (x6_1 + 1))) = some r := by first | (rw [hy340]; with_reducible exact H) | (have H2_ := (Option.bind_some _ _).symm.trans H; rw [hy340]; with_reducible exact H2_) | (have H2_ := (Option.bind_some _ _).symm.trans H; with_reducible exact H2_) | with_reducible exact H | (rw [hy340]; exact H) | exact H
           have Ny340 := Aside0.mk hy340
           clear hy340
           have H' := Aside0.mk H
           clear H
           have p332 := dz_ (x6_1 : Int)
           have q332 := dl_ x6_1 (l0.length : Int)
           obtain ⟨ad332, e332, hx332_0, hx332_1, hx332_2⟩ := at_T154 HR0.out x6_1 p332 q332
           cases e332
           replace hx332_0 := pw_cell_below HB.out hx332_0
           replace hx332_1 := pw_cell_below HB.out hx332_1
           replace hx332_2 := pw_cell_below HB.out hx332_2
           replace p332 := eq_true p332
           replace q332 := eq_true q332
           go_wp2_with (((with_reducible refine gate_dst (N := 7) rfl ?_); refine bxE_ 7 154 #[.int .i64 0, .int .i64 0, .int .i64 0] ?_; intro gb333 hg w28 hbox hb; have BK333 := Aside0.mk (hbox); have GW333 := gee_ hg HB; have GE333 := gee_ hg HB; replace HO_5 := Aside0.mk (Kd.R_below (Kd.R_elderB (RW_ <| HO_5.out) gb333 (Nat.le_of_eq hg.symm)) hb); replace HB := belB_ HB hb; clear hb hbox hg; have hz_ := blk3_ BK333.out; obtain ⟨Ao30, co30, eo30⟩ := Kd.R_slice HO_5.out; subst eo30; have p334 := dz_ ((ji9) : Int); have q334 := dl_ (ji9) (x5_1.length : Int); obtain ⟨ad334, e334, hx334_0, hx334_1, hx334_2⟩ := at_T154 (Kd.R_reads' HO_5.out).2.2 (ji9) p334 q334; cases e334; have hn334_0 : ad334.block ≠ gb333 := Kd.own_blk (Kd.R_away HO_5.out (fun _ hk => hk.2)); have hn334_1 : ad334.block ≠ gb333 := Kd.own_blk (Kd.R_away HO_5.out (fun _ hk => hk.2)); have hn334_2 : ad334.block ≠ gb333 := Kd.own_blk (Kd.R_away HO_5.out (fun _ hk => hk.2)); replace hx334_0 := (cell_far (p := ⟨gb333, 0, none⟩) (by first | (rw [add_block]; exact hn334_0) | (show (Addr.add _ _).block ≠ _; rw [add_block]; exact hn334_0) | exact hn334_0) (.int .i64 ((rd_T154 l0 x6_1).f0))).trans hx334_0; replace hx334_1 := (cell_far (p := ⟨gb333, 0, none⟩) (by first | (rw [add_block]; exact hn334_0) | (show (Addr.add _ _).block ≠ _; rw [add_block]; exact hn334_0) | exact hn334_0) (.int .i64 ((rd_T154 l0 x6_1).f0))).trans hx334_1; replace hx334_2 := (cell_far (p := ⟨gb333, 0, none⟩) (by first | (rw [add_block]; exact hn334_0) | (show (Addr.add _ _).block ≠ _; rw [add_block]; exact hn334_0) | exact hn334_0) (.int .i64 ((rd_T154 l0 x6_1).f0))).trans hx334_2; replace hx334_0 := (cell_far (p := ⟨gb333, 1, none⟩) (by first | (rw [add_block]; exact hn334_1) | (show (Addr.add _ _).block ≠ _; rw [add_block]; exact hn334_1) | exact hn334_1) (.int .i64 ((rd_T154 l0 x6_1).f1))).trans hx334_0; replace hx334_1 := (cell_far (p := ⟨gb333, 1, none⟩) (by first | (rw [add_block]; exact hn334_1) | (show (Addr.add _ _).block ≠ _; rw [add_block]; exact hn334_1) | exact hn334_1) (.int .i64 ((rd_T154 l0 x6_1).f1))).trans hx334_1; replace hx334_2 := (cell_far (p := ⟨gb333, 1, none⟩) (by first | (rw [add_block]; exact hn334_1) | (show (Addr.add _ _).block ≠ _; rw [add_block]; exact hn334_1) | exact hn334_1) (.int .i64 ((rd_T154 l0 x6_1).f1))).trans hx334_2; replace hx334_0 := (cell_far (p := ⟨gb333, 2, none⟩) (by first | (rw [add_block]; exact hn334_2) | (show (Addr.add _ _).block ≠ _; rw [add_block]; exact hn334_2) | exact hn334_2) (.int .i64 ((rd_T154 l0 x6_1).f2))).trans hx334_0; replace hx334_1 := (cell_far (p := ⟨gb333, 2, none⟩) (by first | (rw [add_block]; exact hn334_2) | (show (Addr.add _ _).block ≠ _; rw [add_block]; exact hn334_2) | exact hn334_2) (.int .i64 ((rd_T154 l0 x6_1).f2))).trans hx334_1; replace hx334_2 := (cell_far (p := ⟨gb333, 2, none⟩) (by first | (rw [add_block]; exact hn334_2) | (show (Addr.add _ _).block ≠ _; rw [add_block]; exact hn334_2) | exact hn334_2) (.int .i64 ((rd_T154 l0 x6_1).f2))).trans hx334_2; (try have hy334_0 := fun (n_ : Nat) => (show (((((w28.drewN n_).setCell ⟨gb333, 0, none⟩ (.int .i64 ((rd_T154 l0 x6_1).f0))).setCell ⟨gb333, 1, none⟩ (.int .i64 ((rd_T154 l0 x6_1).f1))).setCell ⟨gb333, 2, none⟩ (.int .i64 ((rd_T154 l0 x6_1).f2)))).cell? _ = some _ from hx334_0)); (try have hy334_1 := fun (n_ : Nat) => (show (((((w28.drewN n_).setCell ⟨gb333, 0, none⟩ (.int .i64 ((rd_T154 l0 x6_1).f0))).setCell ⟨gb333, 1, none⟩ (.int .i64 ((rd_T154 l0 x6_1).f1))).setCell ⟨gb333, 2, none⟩ (.int .i64 ((rd_T154 l0 x6_1).f2)))).cell? _ = some _ from hx334_1)); (try have hy334_2 := fun (n_ : Nat) => (show (((((w28.drewN n_).setCell ⟨gb333, 0, none⟩ (.int .i64 ((rd_T154 l0 x6_1).f0))).setCell ⟨gb333, 1, none⟩ (.int .i64 ((rd_T154 l0 x6_1).f1))).setCell ⟨gb333, 2, none⟩ (.int .i64 ((rd_T154 l0 x6_1).f2)))).cell? _ = some _ from hx334_2)); clear hn334_0; clear hn334_1; clear hn334_2; replace p334 := eq_true p334; replace q334 := eq_true q334))
           repeat (go_quiet (fail); try go_wp2_with (((with_reducible refine gate_builtin (b := .append) (xs := #[.tmp 56, .tmp 58]) rfl ?_); at_builtin; refine Kd.R_append k154 (w0 := w) w.heap.size rfl (.tmp 56) (.tmp 58) 137 154 (.agg #[(.int .i64 0), (.int .i64 0), (.int .i64 0)]) 24 rfl Tryd.underlying137 info154 rfl (by decide) (by omega) (.slice (some ad334) x5_1.length co30) x5_1 (⟨(rd_T154 l0 x6_1).f0, (rd_T154 l0 x6_1).f1, (rd_T154 l0 x6_1).f2⟩ : S154) [.int .i64 ((rd_T154 l0 x6_1).f0), .int .i64 ((rd_T154 l0 x6_1).f1), .int .i64 ((rd_T154 l0 x6_1).f2)] (fun k_ => k_ ≠ gb333) (fun _ => False) rfl (by first | (go_simp; done) | (go_simp; rfl)) ?aP (fun _ hk => hk.elim) ?aF ?aO ?aB ?aS ?aL ?_; (case aP => exact k154_mkM _ _ _ (⟨(rd_T154 l0 x6_1).f0, (rd_T154 l0 x6_1).f1, (rd_T154 l0 x6_1).f2⟩ : S154)); (case aB => exact (belW_ HB)); (case aF => exact (fun k_ hk => Kd.freshB (g := gb333) (o := .cells #[.int .i64 ((rd_T154 l0 x6_1).f0), .int .i64 ((rd_T154 l0 x6_1).f1), .int .i64 ((rd_T154 l0 x6_1).f2)] 154 (0, 0)) (by (with_reducible repeat (first | refine blk_drewN ?_ _ | refine blk_drew ?_ | refine blk_alloc ?_ _)); refine blk_put (cs := #[.int .i64 ((rd_T154 l0 x6_1).f0), .int .i64 ((rd_T154 l0 x6_1).f1), .int .i64 0]) ?_ 2 _ rfl; (with_reducible repeat (first | refine blk_drewN ?_ _ | refine blk_drew ?_ | refine blk_alloc ?_ _)); refine blk_put (cs := #[.int .i64 ((rd_T154 l0 x6_1).f0), .int .i64 0, .int .i64 0]) ?_ 1 _ rfl; (with_reducible repeat (first | refine blk_drewN ?_ _ | refine blk_drew ?_ | refine blk_alloc ?_ _)); refine blk_put (cs := #[.int .i64 0, .int .i64 0, .int .i64 0]) ?_ 0 _ rfl; (with_reducible repeat (first | refine blk_drewN ?_ _ | refine blk_drew ?_ | refine blk_alloc ?_ _)); exact BK333.out) k_ hk)); (case aO => exact (RW_ <| Kd.R_mono (Kd.R_far (p := ⟨gb333, 2, none⟩) (Kd.R_far (p := ⟨gb333, 1, none⟩) (Kd.R_far (p := ⟨gb333, 0, none⟩) (Kd.R_mono HO_5.out (fun k_ hk => (⟨hk, hk.2⟩ : _ ∧ k_ ≠ gb333))) (fun _ hk => hk.2) (.int .i64 ((rd_T154 l0 x6_1).f0))) (fun _ hk => hk.2) (.int .i64 ((rd_T154 l0 x6_1).f1))) (fun _ hk => hk.2) (.int .i64 ((rd_T154 l0 x6_1).f2))) (fun _ hk => hk.1.2))); (case aS => exact (below_size (belW_ HB))); (case aL => have := LMc27.out; omega); intro v341 w31 ho hb hg hat; rw [← Ny340.out] at ho; have HO342 := Aside0.mk (ho); replace BK333 := Aside0.mk (blk_grown (g := gb333) (o := .cells #[.int .i64 ((rd_T154 l0 x6_1).f0), .int .i64 ((rd_T154 l0 x6_1).f1), .int .i64 ((rd_T154 l0 x6_1).f2)] 154 (0, 0)) (by (with_reducible repeat (first | refine blk_drewN ?_ _ | refine blk_drew ?_ | refine blk_alloc ?_ _)); refine blk_put (cs := #[.int .i64 ((rd_T154 l0 x6_1).f0), .int .i64 ((rd_T154 l0 x6_1).f1), .int .i64 0]) ?_ 2 _ rfl; (with_reducible repeat (first | refine blk_drewN ?_ _ | refine blk_drew ?_ | refine blk_alloc ?_ _)); refine blk_put (cs := #[.int .i64 ((rd_T154 l0 x6_1).f0), .int .i64 0, .int .i64 0]) ?_ 1 _ rfl; (with_reducible repeat (first | refine blk_drewN ?_ _ | refine blk_drew ?_ | refine blk_alloc ?_ _)); refine blk_put (cs := #[.int .i64 0, .int .i64 0, .int .i64 0]) ?_ 0 _ rfl; (with_reducible repeat (first | refine blk_drewN ?_ _ | refine blk_drew ?_ | refine blk_alloc ?_ _)); exact BK333.out) hg (Kd.R_away HO_5.out (fun _ hk => hk.2))); replace HB := Aside0.mk (hb); clear HO_5; clear ho hb hg hat)))
           go_roundg k1
           case measure => have := HK1.out; omega
           case rel => exact ⟨(y340), (wrap64 (x6_1 + 1)), ok_, H', ⟨lk_ HK1⟩, ⟨RW_ <| Kd.R_mono HO342.out (fun _ hk => trivial)⟩, ⟨belW_ HB⟩⟩
          ·rw [if_neg c27] at H
           exact absurd H (by simp)
        ·rw [if_neg c11] at H
         exact absurd H (by simp)
       ·rw [if_neg c10] at H
        exact absurd H (by simp)
      ·rw [if_neg c8] at H
       have c8b0 : decide (0 < (x5_1.length : Int)) = false := decide_eq_false c8
       have c8b1 : decide (0 < x5_1.length) = false := decide_eq_false (by omega)
       clear c8
       by_cases c32 : x5_1.length < 5864062014805
       ·rw [if_pos c32] at H
        have LMc32 := Aside0.mk c32
        clear c32
        obtain ⟨y343, hy343⟩ : ∃ y_ : List (S154), y_ = (x5_1 ++ [(⟨(rd_T154 l0 x6_1).f0, (rd_T154 l0 x6_1).f1, (rd_T154 l0 x6_1).f2⟩ : S154)]) := ⟨_, rfl⟩
        replace H : (redraftref05_without.l0 k1 l0 a1 y343 (wrap64 (x6_1 + 1))) = some r := by first | (rw [hy343]; with_reducible exact H) | (have H2_ := (Option.bind_some _ _).symm.trans H; rw [hy343]; with_reducible exact H2_) | (have H2_ := (Option.bind_some _ _).symm.trans H; with_reducible exact H2_) | with_reducible exact H | (rw [hy343]; exact H) | exact H
        have Ny343 := Aside0.mk hy343
        clear hy343
        have H' := Aside0.mk H
        clear H
        have p332 := dz_ (x6_1 : Int)
        have q332 := dl_ x6_1 (l0.length : Int)
        obtain ⟨ad332, e332, hx332_0, hx332_1, hx332_2⟩ := at_T154 HR0.out x6_1 p332 q332
        cases e332
        replace hx332_0 := pw_cell_below HB.out hx332_0
        replace hx332_1 := pw_cell_below HB.out hx332_1
        replace hx332_2 := pw_cell_below HB.out hx332_2
        replace p332 := eq_true p332
        replace q332 := eq_true q332
        go_wp2_with (((with_reducible refine gate_dst (N := 7) rfl ?_); refine bxE_ 7 154 #[.int .i64 0, .int .i64 0, .int .i64 0] ?_; intro gb333 hg w33 hbox hb; have BK333 := Aside0.mk (hbox); have GW333 := gee_ hg HB; have GE333 := gee_ hg HB; replace HO_5 := Aside0.mk (Kd.R_below (Kd.R_elderB (RW_ <| HO_5.out) gb333 (Nat.le_of_eq hg.symm)) hb); replace HB := belB_ HB hb; clear hb hbox hg; have hz_ := blk3_ BK333.out; obtain ⟨Ao35, co35, eo35⟩ := Kd.R_slice HO_5.out; subst eo35))
        repeat (go_quiet (fail); try go_wp2_with (((with_reducible refine gate_builtin (b := .append) (xs := #[.tmp 56, .tmp 58]) rfl ?_); at_builtin; refine Kd.R_append k154 (w0 := w) w.heap.size rfl (.tmp 56) (.tmp 58) 137 154 (.agg #[(.int .i64 0), (.int .i64 0), (.int .i64 0)]) 24 rfl Tryd.underlying137 info154 rfl (by decide) (by omega) (.slice Ao35 x5_1.length co35) x5_1 (⟨(rd_T154 l0 x6_1).f0, (rd_T154 l0 x6_1).f1, (rd_T154 l0 x6_1).f2⟩ : S154) [.int .i64 ((rd_T154 l0 x6_1).f0), .int .i64 ((rd_T154 l0 x6_1).f1), .int .i64 ((rd_T154 l0 x6_1).f2)] (fun k_ => k_ ≠ gb333) (fun _ => False) rfl (by first | (go_simp; done) | (go_simp; rfl)) ?aP (fun _ hk => hk.elim) ?aF ?aO ?aB ?aS ?aL ?_; (case aP => exact k154_mkM _ _ _ (⟨(rd_T154 l0 x6_1).f0, (rd_T154 l0 x6_1).f1, (rd_T154 l0 x6_1).f2⟩ : S154)); (case aB => exact (belW_ HB)); (case aF => exact (fun k_ hk => Kd.freshB (g := gb333) (o := .cells #[.int .i64 ((rd_T154 l0 x6_1).f0), .int .i64 ((rd_T154 l0 x6_1).f1), .int .i64 ((rd_T154 l0 x6_1).f2)] 154 (0, 0)) (by (with_reducible repeat (first | refine blk_drewN ?_ _ | refine blk_drew ?_ | refine blk_alloc ?_ _)); refine blk_put (cs := #[.int .i64 ((rd_T154 l0 x6_1).f0), .int .i64 ((rd_T154 l0 x6_1).f1), .int .i64 0]) ?_ 2 _ rfl; (with_reducible repeat (first | refine blk_drewN ?_ _ | refine blk_drew ?_ | refine blk_alloc ?_ _)); refine blk_put (cs := #[.int .i64 ((rd_T154 l0 x6_1).f0), .int .i64 0, .int .i64 0]) ?_ 1 _ rfl; (with_reducible repeat (first | refine blk_drewN ?_ _ | refine blk_drew ?_ | refine blk_alloc ?_ _)); refine blk_put (cs := #[.int .i64 0, .int .i64 0, .int .i64 0]) ?_ 0 _ rfl; (with_reducible repeat (first | refine blk_drewN ?_ _ | refine blk_drew ?_ | refine blk_alloc ?_ _)); exact BK333.out) k_ hk)); (case aO => exact (RW_ <| Kd.R_mono (Kd.R_far (p := ⟨gb333, 2, none⟩) (Kd.R_far (p := ⟨gb333, 1, none⟩) (Kd.R_far (p := ⟨gb333, 0, none⟩) (Kd.R_mono HO_5.out (fun k_ hk => (⟨hk, hk.2⟩ : _ ∧ k_ ≠ gb333))) (fun _ hk => hk.2) (.int .i64 ((rd_T154 l0 x6_1).f0))) (fun _ hk => hk.2) (.int .i64 ((rd_T154 l0 x6_1).f1))) (fun _ hk => hk.2) (.int .i64 ((rd_T154 l0 x6_1).f2))) (fun _ hk => hk.1.2))); (case aS => exact (below_size (belW_ HB))); (case aL => have := LMc32.out; omega); intro v344 w36 ho hb hg hat; rw [← Ny343.out] at ho; have HO345 := Aside0.mk (ho); replace BK333 := Aside0.mk (blk_grown (g := gb333) (o := .cells #[.int .i64 ((rd_T154 l0 x6_1).f0), .int .i64 ((rd_T154 l0 x6_1).f1), .int .i64 ((rd_T154 l0 x6_1).f2)] 154 (0, 0)) (by (with_reducible repeat (first | refine blk_drewN ?_ _ | refine blk_drew ?_ | refine blk_alloc ?_ _)); refine blk_put (cs := #[.int .i64 ((rd_T154 l0 x6_1).f0), .int .i64 ((rd_T154 l0 x6_1).f1), .int .i64 0]) ?_ 2 _ rfl; (with_reducible repeat (first | refine blk_drewN ?_ _ | refine blk_drew ?_ | refine blk_alloc ?_ _)); refine blk_put (cs := #[.int .i64 ((rd_T154 l0 x6_1).f0), .int .i64 0, .int .i64 0]) ?_ 1 _ rfl; (with_reducible repeat (first | refine blk_drewN ?_ _ | refine blk_drew ?_ | refine blk_alloc ?_ _)); refine blk_put (cs := #[.int .i64 0, .int .i64 0, .int .i64 0]) ?_ 0 _ rfl; (with_reducible repeat (first | refine blk_drewN ?_ _ | refine blk_drew ?_ | refine blk_alloc ?_ _)); exact BK333.out) hg (Kd.R_away HO_5.out (fun _ hk => hk.2))); replace HB := Aside0.mk (hb); clear HO_5; clear ho hb hg hat)))
        go_roundg k1
        case measure => have := HK1.out; omega
        case rel => exact ⟨(y343), (wrap64 (x6_1 + 1)), ok_, H', ⟨lk_ HK1⟩, ⟨RW_ <| Kd.R_mono HO345.out (fun _ hk => trivial)⟩, ⟨belW_ HB⟩⟩
       ·rw [if_neg c32] at H
        exact absurd H (by simp)
    ·rw [if_neg c4] at H
     exact absurd H (by simp)
   ·rw [if_neg c3] at H
    have c3b0 := decide_eq_false c3
    clear c3
    obtain rfl := Option.some.inj H
    go_wp2
    repeat (go_quiet (fail); try go_wp2)
    go_ret
    exact ⟨_, rs_, RW_ <| HO_5.out, belW_ HB⟩

def redraftref05_among.l0 : Nat → List (S154) → Int → Int → Int → List (S94) → Int → Int → Option ((List (S94)))
 | 0, _, _, _, _, _, _, _ => none
 | k + 1, x0, x1, x2, x3, x9, x10, x11 => if x11 < (x0.length : Int) then (if 0 ≤ x11 then (if ((rd_T154 x0 x11).f0) = x1 then (if ((rd_T154 x0 x11).f1) < x3 then (if x2 < ((rd_T154 x0 x11).f2) then (if x9.length < 8796093022208 then (redraftref05_among.l0 k x0 x1 x2 x3 (x9 ++ [(⟨wrap64 ((wrap64 (x10 + (mx x2 ((rd_T154 x0 x11).f1)))) - ((rd_T154 x0 x11).f1)), wrap64 ((wrap64 (x10 + (mn x3 ((rd_T154 x0 x11).f2)))) - ((rd_T154 x0 x11).f1))⟩ : S94)]) (wrap64 ((wrap64 (x10 + ((rd_T154 x0 x11).f2))) - ((rd_T154 x0 x11).f1))) (wrap64 (x11 + 1))) else (none)) else (redraftref05_among.l0 k x0 x1 x2 x3 x9 (wrap64 ((wrap64 (x10 + ((rd_T154 x0 x11).f2))) - ((rd_T154 x0 x11).f1))) (wrap64 (x11 + 1)))) else (redraftref05_among.l0 k x0 x1 x2 x3 x9 (wrap64 ((wrap64 (x10 + ((rd_T154 x0 x11).f2))) - ((rd_T154 x0 x11).f1))) (wrap64 (x11 + 1)))) else (redraftref05_among.l0 k x0 x1 x2 x3 x9 (wrap64 ((wrap64 (x10 + ((rd_T154 x0 x11).f2))) - ((rd_T154 x0 x11).f1))) (wrap64 (x11 + 1)))) else (none)) else (some x9)
def redraftref05_among.f (k : Nat) (l0 : List (S154)) (a1 : Int) (a2 : Int) (a3 : Int) : Option ((List (S94))) := redraftref05_among.l0 k l0 a1 a2 a3 ([] : List (S94)) 0 0
set_option maxHeartbeats 8000000 in
set_option maxRecDepth 100000 in
theorem redraftref05_among.calls (k : Nat) (A0 : Option Addr) (c0 : Nat) (l0 : List (S154)) (a1 : Int) (a2 : Int) (a3 : Int) (r : List (S94)) (w : World) (hr0 : Kd.C k154 w A0 l0.length l0) (hc0 : l0.length ≤ c0) (h : redraftref05_among.f k l0 a1 a2 a3 = some r) :
 Calls Tryd.prog 117 #[.slice A0 l0.length c0, .int .i64 a1, .int .i64 a2, .int .i64 a3] w fun e w' => ∃ v0_ : Value, e = .returned (v0_) ∧ Kd.R k94 94 w' w.heap.size (fun _ => True) v0_ r ∧ Below w.heap.size w w' := by
 have hu154 := Tryd.underlying154
 have hu94 := Tryd.underlying94
 have HR0 := Aside0.mk hr0
 have HC0 := Aside0.mk hc0
 clear hr0 hc0
 have HB := Aside0.mk (Below.refl w.heap.size w)
 have H : (redraftref05_among.l0 k l0 a1 a2 a3 ([] : List (S94)) 0 0) = some r := h
 clear h
 have H' := Aside0.mk H
 clear H
 go_enter Tryd.func117, Tryd.ntmps117
 go_wp2
 go_loopg [9, 10, 11] k (fun kq v9 v10 v11 w' => ∃ (x9_1 : List (S94)) (x10_1 : Int) (x11_1 : Int), v10 = .int .i64 x10_1 ∧ v11 = .int .i64 x11_1 ∧ Aside0 (redraftref05_among.l0 kq l0 a1 a2 a3 x9_1 x10_1 x11_1 = some r) ∧ Aside0 (kq ≤ k) ∧ Aside0 (Kd.R k94 94 w' w.heap.size (fun _ => True) v9 x9_1) ∧ Aside0 (Below w.heap.size w w'))
 case atStart => exact ⟨(([] : List (S94))), (0), (0), ok_, ok_, H', ⟨Nat.le_refl _⟩, ⟨nl_⟩, ⟨belW_ HB⟩⟩
 case round =>
  clear H'
  try clear c1
  try clear p2
  obtain ⟨x9_1, x10_1, x11_1, rfl, rfl, HA, HK1, HO_9, HB⟩ := hrel
  cases gk with
  | zero => exact absurd HA.out (by simp [redraftref05_among.l0])
  | succ k1 =>
   have H := HA.out
   clear HA
   simp only [redraftref05_among.l0] at H
   by_cases c5 : x11_1 < (l0.length : Int)
   ·rw [if_pos c5] at H
    have c5b0 := decide_eq_true c5
    clear c5
    by_cases c6 : 0 ≤ x11_1
    ·rw [if_pos c6] at H
     have c6b0 := decide_eq_true c6
     clear c6
     by_cases c7 : ((rd_T154 l0 x11_1).f0) = a1
     ·rw [if_pos c7] at H
      have c7b0 := beq_iff_eq.mpr c7
      have c7b1 := bne_eq_false_iff_eq.mpr c7
      clear c7
      by_cases c8 : ((rd_T154 l0 x11_1).f1) < a3
      ·rw [if_pos c8] at H
       have c8b0 := decide_eq_true c8
       clear c8
       by_cases c9 : a2 < ((rd_T154 l0 x11_1).f2)
       ·rw [if_pos c9] at H
        have c9b0 := decide_eq_true c9
        clear c9
        obtain ⟨ji10, hji10⟩ : ∃ j_ : Int, (mx a2 ((rd_T154 l0 x11_1).f1)) = j_ := ⟨_, rfl⟩
        replace H : (if x9_1.length < 8796093022208 then (redraftref05_among.l0 k1 l0 a1 a2 a3 (x9_1 ++ [(⟨wrap64 ((wrap64 (x10_1 + (ji10))) - ((rd_T154 l0 x11_1).f1)), wrap64 ((wrap64 (x10_1 + (mn a3 ((rd_T154 l0 x11_1).f2)))) - ((rd_T154 l0 x11_1).f1))⟩ : S94)]) (wrap64 ((wrap64 (x10_1 + ((rd_T154 l0 x11_1).f2))) - ((rd_T154 l0 x11_1).f1))) (wrap64 (x11_1 + 1))) else (none)) = some r := by first | (rw [hji10] at H; exact H) | (simp only [hji10] at H ⊢; exact H)
        have hji10_ : (if a2 < ((rd_T154 l0 x11_1).f1) then ((rd_T154 l0 x11_1).f1) else a2) = ji10 := hji10
        obtain ⟨ji11, hji11⟩ : ∃ j_ : Int, (mn a3 ((rd_T154 l0 x11_1).f2)) = j_ := ⟨_, rfl⟩
        replace H : (if x9_1.length < 8796093022208 then (redraftref05_among.l0 k1 l0 a1 a2 a3 (x9_1 ++ [(⟨wrap64 ((wrap64 (x10_1 + (ji10))) - ((rd_T154 l0 x11_1).f1)), wrap64 ((wrap64 (x10_1 + (ji11))) - ((rd_T154 l0 x11_1).f1))⟩ : S94)]) (wrap64 ((wrap64 (x10_1 + ((rd_T154 l0 x11_1).f2))) - ((rd_T154 l0 x11_1).f1))) (wrap64 (x11_1 + 1))) else (none)) = some r := by first | (rw [hji11] at H; exact H) | (simp only [hji11] at H ⊢; exact H)
        have hji11_ : (if ((rd_T154 l0 x11_1).f2) < a3 then ((rd_T154 l0 x11_1).f2) else a3) = ji11 := hji11
        by_cases c12 : x9_1.length < 8796093022208
        ·rw [if_pos c12] at H
         have LMc12 := Aside0.mk c12
         clear c12
         obtain ⟨y348, hy348⟩ : ∃ y_ : List (S94), y_ = (x9_1 ++ [(⟨wrap64 ((wrap64 (x10_1 + (ji10))) - ((rd_T154 l0 x11_1).f1)), wrap64 ((wrap64 (x10_1 + (ji11))) - ((rd_T154 l0 x11_1).f1))⟩ : S94)]) := ⟨_, rfl⟩
         replace H : (redraftref05_among.l0 k1 l0 a1 a2 a3 y348 (wrap64 ((wrap64 (x10_1 + ((rd_T154 l0 x11_1).f2))) - ((rd_T154 l0 x11_1).f1))) (wrap64 (x11_1 + 1))) = some r := by first | (rw [hy348]; with_reducible exact H) | (have H2_ := (Option.bind_some _ _).symm.trans H; rw [hy348]; with_reducible exact H2_) | (have H2_ := (Option.bind_some _ _).symm.trans H; with_reducible exact H2_) | with_reducible exact H | (rw [hy348]; exact H) | exact H
         have Ny348 := Aside0.mk hy348
         clear hy348
         have H' := Aside0.mk H
         clear H
         have p346 := dz_ (x11_1 : Int)
         have q346 := dl_ x11_1 (l0.length : Int)
         obtain ⟨ad346, e346, hx346_0, hx346_1, hx346_2⟩ := at_T154 HR0.out x11_1 p346 q346
         cases e346
         replace hx346_0 := pw_cell_below HB.out hx346_0
         replace hx346_1 := pw_cell_below HB.out hx346_1
         replace hx346_2 := pw_cell_below HB.out hx346_2
         replace p346 := eq_true p346
         replace q346 := eq_true q346
         go_wp2_with (first | ((with_reducible refine gate_dst (N := 12) rfl ?_); refine bxE_ 12 154 #[.int .i64 0, .int .i64 0, .int .i64 0] ?_; intro gb347 hg w13 hbox hb; have BK347 := Aside0.mk (hbox); have GW347 := gee_ hg HB; have GE347 := gee_ hg HB; replace HO_9 := Aside0.mk (Kd.R_below (RW_ <| HO_9.out) hb); replace HB := belB_ HB hb; clear hb hbox hg; have hz_ := blk3_ BK347.out) | ((with_reducible refine gate_builtin (b := .append) (xs := #[.tmp 39, .tmp 59]) rfl ?_); at_builtin; refine Kd.R_append k94 (w0 := w) w.heap.size rfl (.tmp 39) (.tmp 59) 39 94 (.agg #[(.int .i64 0), (.int .i64 0)]) 16 rfl Tryd.underlying39 info94 rfl (by decide) (by omega) u9 x9_1 (⟨wrap64 ((wrap64 (x10_1 + (ji10))) - ((rd_T154 l0 x11_1).f1)), wrap64 ((wrap64 (x10_1 + (ji11))) - ((rd_T154 l0 x11_1).f1))⟩ : S94) [.int .i64 (wrap64 ((wrap64 (x10_1 + (ji10))) - ((rd_T154 l0 x11_1).f1))), .int .i64 (wrap64 ((wrap64 (x10_1 + (ji11))) - ((rd_T154 l0 x11_1).f1)))] (fun _ => True) (fun _ => False) rfl (by first | (go_simp; done) | (go_simp; rfl)) ?aP (fun _ hk => hk.elim) ?aF ?aO ?aB ?aS ?aL ?_; (case aP => exact k94_mkM _ _ _ (⟨wrap64 ((wrap64 (x10_1 + (ji10))) - ((rd_T154 l0 x11_1).f1)), wrap64 ((wrap64 (x10_1 + (ji11))) - ((rd_T154 l0 x11_1).f1))⟩ : S94)); (case aB => exact (belW_ HB)); (case aF => exact (fun _ _ => trivial)); (case aO => exact (RW_ <| Kd.R_mono (Kd.R_far (p := ⟨gb347, 2, none⟩) (Kd.R_far (p := ⟨gb347, 1, none⟩) (Kd.R_far (p := ⟨gb347, 0, none⟩) (Kd.R_types HO_9.out BK347.out (by decide)) (fun _ hk => hk.2) (.int .i64 ((rd_T154 l0 x11_1).f0))) (fun _ hk => hk.2) (.int .i64 ((rd_T154 l0 x11_1).f1))) (fun _ hk => hk.2) (.int .i64 ((rd_T154 l0 x11_1).f2))) (fun _ hk => trivial))); (case aS => exact (below_size (belW_ HB))); (case aL => have := LMc12.out; omega); intro v349 w15 ho hb hg hat; rw [← Ny348.out] at ho; have HO350 := Aside0.mk (ho); replace BK347 := Aside0.mk (blk_grown (g := gb347) (o := .cells #[.int .i64 ((rd_T154 l0 x11_1).f0), .int .i64 ((rd_T154 l0 x11_1).f1), .int .i64 ((rd_T154 l0 x11_1).f2)] 154 (0, 0)) (by (with_reducible repeat (first | refine blk_drewN ?_ _ | refine blk_drew ?_ | refine blk_alloc ?_ _)); refine blk_put (cs := #[.int .i64 ((rd_T154 l0 x11_1).f0), .int .i64 ((rd_T154 l0 x11_1).f1), .int .i64 0]) ?_ 2 _ rfl; (with_reducible repeat (first | refine blk_drewN ?_ _ | refine blk_drew ?_ | refine blk_alloc ?_ _)); refine blk_put (cs := #[.int .i64 ((rd_T154 l0 x11_1).f0), .int .i64 0, .int .i64 0]) ?_ 1 _ rfl; (with_reducible repeat (first | refine blk_drewN ?_ _ | refine blk_drew ?_ | refine blk_alloc ?_ _)); refine blk_put (cs := #[.int .i64 0, .int .i64 0, .int .i64 0]) ?_ 0 _ rfl; (with_reducible repeat (first | refine blk_drewN ?_ _ | refine blk_drew ?_ | refine blk_alloc ?_ _)); exact BK347.out) hg (Kd.R_ne HO_9.out BK347.out (by decide))); replace HB := Aside0.mk (hb); clear HO_9; clear ho hb hg hat; have hz_ := blk3_ BK347.out))
         go_roundg k1
         case measure => have := HK1.out; omega
         case rel => exact ⟨(y348), (wrap64 ((wrap64 (x10_1 + ((rd_T154 l0 x11_1).f2))) - ((rd_T154 l0 x11_1).f1))), (wrap64 (x11_1 + 1)), ok_, ok_, H', ⟨lk_ HK1⟩, ⟨RW_ <| HO350.out⟩, ⟨belW_ HB⟩⟩
        ·rw [if_neg c12] at H
         exact absurd H (by simp)
       ·rw [if_neg c9] at H
        have c9b0 := decide_eq_false c9
        clear c9
        have H' := Aside0.mk H
        clear H
        have p346 := dz_ (x11_1 : Int)
        have q346 := dl_ x11_1 (l0.length : Int)
        obtain ⟨ad346, e346, hx346_0, hx346_1, hx346_2⟩ := at_T154 HR0.out x11_1 p346 q346
        cases e346
        replace hx346_0 := pw_cell_below HB.out hx346_0
        replace hx346_1 := pw_cell_below HB.out hx346_1
        replace hx346_2 := pw_cell_below HB.out hx346_2
        replace p346 := eq_true p346
        replace q346 := eq_true q346
        go_wp2_with (((with_reducible refine gate_dst (N := 12) rfl ?_); refine bxE_ 12 154 #[.int .i64 0, .int .i64 0, .int .i64 0] ?_; intro gb347 hg w17 hbox hb; have BK347 := Aside0.mk (hbox); have GW347 := gee_ hg HB; have GE347 := gee_ hg HB; replace HO_9 := Aside0.mk (Kd.R_below (RW_ <| HO_9.out) hb); replace HB := belB_ HB hb; clear hb hbox hg; have hz_ := blk3_ BK347.out))
        go_roundg k1
        case measure => have := HK1.out; omega
        case rel => exact ⟨(x9_1), (wrap64 ((wrap64 (x10_1 + ((rd_T154 l0 x11_1).f2))) - ((rd_T154 l0 x11_1).f1))), (wrap64 (x11_1 + 1)), ok_, ok_, H', ⟨lk_ HK1⟩, ⟨RW_ <| Kd.R_mono (Kd.R_far (p := ⟨gb347, 2, none⟩) (Kd.R_far (p := ⟨gb347, 1, none⟩) (Kd.R_far (p := ⟨gb347, 0, none⟩) (Kd.R_types HO_9.out BK347.out (by decide)) (fun _ hk => hk.2) (.int .i64 ((rd_T154 l0 x11_1).f0))) (fun _ hk => hk.2) (.int .i64 ((rd_T154 l0 x11_1).f1))) (fun _ hk => hk.2) (.int .i64 ((rd_T154 l0 x11_1).f2))) (fun _ hk => trivial)⟩, ⟨belW_ HB⟩⟩
      ·rw [if_neg c8] at H
       have c8b0 := decide_eq_false c8
       clear c8
       have H' := Aside0.mk H
       clear H
       have p346 := dz_ (x11_1 : Int)
       have q346 := dl_ x11_1 (l0.length : Int)
       obtain ⟨ad346, e346, hx346_0, hx346_1, hx346_2⟩ := at_T154 HR0.out x11_1 p346 q346
       cases e346
       replace hx346_0 := pw_cell_below HB.out hx346_0
       replace hx346_1 := pw_cell_below HB.out hx346_1
       replace hx346_2 := pw_cell_below HB.out hx346_2
       replace p346 := eq_true p346
       replace q346 := eq_true q346
       go_wp2_with (((with_reducible refine gate_dst (N := 12) rfl ?_); refine bxE_ 12 154 #[.int .i64 0, .int .i64 0, .int .i64 0] ?_; intro gb347 hg w19 hbox hb; have BK347 := Aside0.mk (hbox); have GW347 := gee_ hg HB; have GE347 := gee_ hg HB; replace HO_9 := Aside0.mk (Kd.R_below (RW_ <| HO_9.out) hb); replace HB := belB_ HB hb; clear hb hbox hg; have hz_ := blk3_ BK347.out))
       go_roundg k1
       case measure => have := HK1.out; omega
       case rel => exact ⟨(x9_1), (wrap64 ((wrap64 (x10_1 + ((rd_T154 l0 x11_1).f2))) - ((rd_T154 l0 x11_1).f1))), (wrap64 (x11_1 + 1)), ok_, ok_, H', ⟨lk_ HK1⟩, ⟨RW_ <| Kd.R_mono (Kd.R_far (p := ⟨gb347, 2, none⟩) (Kd.R_far (p := ⟨gb347, 1, none⟩) (Kd.R_far (p := ⟨gb347, 0, none⟩) (Kd.R_types HO_9.out BK347.out (by decide)) (fun _ hk => hk.2) (.int .i64 ((rd_T154 l0 x11_1).f0))) (fun _ hk => hk.2) (.int .i64 ((rd_T154 l0 x11_1).f1))) (fun _ hk => hk.2) (.int .i64 ((rd_T154 l0 x11_1).f2))) (fun _ hk => trivial)⟩, ⟨belW_ HB⟩⟩
     ·rw [if_neg c7] at H
      have c7b0 := beq_eq_false_iff_ne.mpr c7
      have c7b1 := bne_iff_ne.mpr c7
      have H' := Aside0.mk H
      clear H
      have p346 := dz_ (x11_1 : Int)
      have q346 := dl_ x11_1 (l0.length : Int)
      obtain ⟨ad346, e346, hx346_0, hx346_1, hx346_2⟩ := at_T154 HR0.out x11_1 p346 q346
      cases e346
      replace hx346_0 := pw_cell_below HB.out hx346_0
      replace hx346_1 := pw_cell_below HB.out hx346_1
      replace hx346_2 := pw_cell_below HB.out hx346_2
      replace p346 := eq_true p346
      replace q346 := eq_true q346
      go_wp2_with (((with_reducible refine gate_dst (N := 12) rfl ?_); refine bxE_ 12 154 #[.int .i64 0, .int .i64 0, .int .i64 0] ?_; intro gb347 hg w21 hbox hb; have BK347 := Aside0.mk (hbox); have GW347 := gee_ hg HB; have GE347 := gee_ hg HB; replace HO_9 := Aside0.mk (Kd.R_below (RW_ <| HO_9.out) hb); replace HB := belB_ HB hb; clear hb hbox hg; have hz_ := blk3_ BK347.out))
      go_roundg k1
      case measure => have := HK1.out; omega
      case rel => exact ⟨(x9_1), (wrap64 ((wrap64 (x10_1 + ((rd_T154 l0 x11_1).f2))) - ((rd_T154 l0 x11_1).f1))), (wrap64 (x11_1 + 1)), ok_, ok_, H', ⟨lk_ HK1⟩, ⟨RW_ <| Kd.R_mono (Kd.R_far (p := ⟨gb347, 2, none⟩) (Kd.R_far (p := ⟨gb347, 1, none⟩) (Kd.R_far (p := ⟨gb347, 0, none⟩) (Kd.R_types HO_9.out BK347.out (by decide)) (fun _ hk => hk.2) (.int .i64 ((rd_T154 l0 x11_1).f0))) (fun _ hk => hk.2) (.int .i64 ((rd_T154 l0 x11_1).f1))) (fun _ hk => hk.2) (.int .i64 ((rd_T154 l0 x11_1).f2))) (fun _ hk => trivial)⟩, ⟨belW_ HB⟩⟩
    ·rw [if_neg c6] at H
     exact absurd H (by simp)
   ·rw [if_neg c5] at H
    have c5b0 := decide_eq_false c5
    clear c5
    obtain rfl := Option.some.inj H
    go_wp2
    go_ret
    exact ⟨_, rs_, RW_ <| HO_9.out, belW_ HB⟩

end Go.Proofs.YtloccjkcmlkifaaDoor.PAll
