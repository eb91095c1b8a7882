/- XformCrosses_card, part 26. -/
import Derived.Test.YtloccjkcmlkifaaDoorQCr18
import Derived.Test.YtloccjkcmlkifaaDoorQCr22
import Derived.Test.YtloccjkcmlkifaaDoorQCr25

namespace Go.Proofs.YtloccjkcmlkifaaDoor.PAll
open Go.RowKit Go.Proofs.YtloccjkcmlkifaaDoorW.PrintWords Go.Proofs.YtloccjkcmlkifaaDoorW.PrintLast Go.Proofs.YtloccjkcmlkifaaDoorW.PrintMore
attribute [local go_sem] max2_int min2_int max_two min_two max_three min_three max_four min_four   -- for this text's walks alone
set_option linter.unusedVariables false
set_option linter.unusedSimpArgs false

attribute [local go_sem high] idx34_0 idx34_1 idx35_0 idx35_1
def xform_clones.l0 : Nat → List (S41) → List (S41) → Int → Int → Option ((List (S41)))
 | 0, _, _, _, _ => none
 | k + 1, x3, x9, x10, x11 => if x11 < x10 then (if 0 ≤ x11 then (if x11 < (x9.length : Int) then ((op_Clone.f ((rd_T41 x9 x11).f0.f0.f0) ((rd_T41 x9 x11).f0.f0.f1) ((rd_T41 x9 x11).f0.f1) ((rd_T41 x9 x11).f1) ((rd_T41 x9 x11).f2) ((rd_T41 x9 x11).f3) ((rd_T41 x9 x11).f4.f0) ((rd_T41 x9 x11).f4.f1) ((rd_T41 x9 x11).f5)).bind fun bt257 => (if x3.length < 1466015503701 then (xform_clones.l0 k (x3 ++ [(⟨(⟨(⟨bt257.1, bt257.2.1⟩ : S35), bt257.2.2.1⟩ : S38), bt257.2.2.2.1, bt257.2.2.2.2.1, bt257.2.2.2.2.2.1, (⟨bt257.2.2.2.2.2.2.1, bt257.2.2.2.2.2.2.2.1⟩ : S35), bt257.2.2.2.2.2.2.2.2⟩ : S41)]) x9 x10 (wrap64 (x11 + 1))) else (none))) else (none)) else (none)) else (some x3)
def xform_clones.f (k : Nat) (l0 : List (S41)) : Option ((List (S41))) := if l0.length ≤ 2932031007402 then (xform_clones.l0 k (([] : List (S41))) l0 (l0.length : Int) 0) else (none)
set_option maxHeartbeats 8000000 in
set_option maxRecDepth 100000 in
theorem xform_clones.calls (k : Nat) (A0 : Option Addr) (c0 : Nat) (l0 : List (S41)) (r : List (S41)) (w : World) (hr0 : Kd.C k41 w A0 l0.length l0) (hc0 : l0.length ≤ c0) (h : xform_clones.f k l0 = some r) :
 Calls Tryd.prog 61 #[.slice A0 l0.length c0] w fun e w' => ∃ v0_ : Value, e = .returned (v0_) ∧ Kd.S k41 41 w' w.heap.size (fun _ => True) v0_ r ∧ Below w.heap.size w w' := by
 have hu41 := Tryd.underlying41
 have HR0 := Aside0.mk hr0
 have HC0 := Aside0.mk hc0
 clear hr0 hc0
 have HB := Aside0.mk (Below.refl w.heap.size w)
 have H : (if l0.length ≤ 2932031007402 then (xform_clones.l0 k (([] : List (S41))) l0 (l0.length : Int) 0) else (none)) = some r := h
 clear h
 by_cases c2 : l0.length ≤ 2932031007402
 ·rw [if_pos c2] at H
  have c2b0 := eq_true c2
  have c2b1 : decide (l0.length ≤ 2932031007402) = true := decide_eq_true c2
  clear c2
  obtain ⟨y252, hy252⟩ : ∃ y_ : List (S41), y_ = (([] : List (S41))) := ⟨_, rfl⟩
  replace H : (xform_clones.l0 k y252 l0 (l0.length : Int) 0) = some r := by first | (rw [hy252]; with_reducible exact H) | (have H2_ := (Option.bind_some _ _).symm.trans H; rw [hy252]; with_reducible exact H2_) | (have H2_ := (Option.bind_some _ _).symm.trans H; with_reducible exact H2_) | with_reducible exact H | (rw [hy252]; exact H) | exact H
  have Ny252 := Aside0.mk hy252
  clear hy252
  have H' := Aside0.mk H
  clear H
  go_enter Tryd.func61, Tryd.ntmps61
  go_wp2_with (((with_reducible refine gate_dst (N := 8) rfl ?_); refine S_make0 k41 _ 41 rfl (N := 8) rfl 29 _ _ rfl l0.length rfl rfl Tryd.underlying29 (.agg #[(.int .i64 0), (.int .i64 0), (.int .i64 0), (.int .i64 0), (.string ⟨#[]⟩), (.slice none 0 0), (.int .i64 0), (.int .i64 0), (.bool false)]) 96 info41 rfl (by decide) (by omega) (ok := fun _ => True) (okp := fun _ => True) (fun _ hk => hk) trivial (Nat.le_trans (Nat.mul_le_mul_right _ (of_decide_eq_true (by first | (with_reducible assumption) | assumption) : l0.length ≤ 2932031007402)) (by omega)) (Below.refl _ _) (Nat.le_refl _) ?_; intro v253 w3 ho4 hb hg_ hnew_; clear hg_ hnew_; (first | rw [← Ny252.out] at ho4 | (simp only [Int.reduceToNat] at ho4; rw [← Ny252.out] at ho4)); have HO254 := Aside0.mk (Kd.S_lower ho4 (below_size (belW_ HB))); replace HB := belB_ HB hb; clear hb ho4))
  go_loopg [3, 11] k (fun kq v3 v11 w' => ∃ (x3_1 : List (S41)) (x11_1 : Int), v11 = .int .i64 x11_1 ∧ Aside0 (xform_clones.l0 kq x3_1 l0 (l0.length : Int) x11_1 = some r) ∧ Aside0 (kq ≤ k) ∧ Aside0 (Kd.S k41 41 w' w.heap.size (fun _ => True) v3 x3_1) ∧ Aside0 (Below w.heap.size w w'))
  case atStart => exact ⟨(y252), (0), (by first | rfl | (simp; done) | (simp [*]; done)), H', ⟨Nat.le_refl _⟩, ⟨by (with_reducible repeat (first | apply Kd.S_alloc | apply Kd.S_drewN | apply Kd.S_drew)); exact HO254.out⟩, ⟨belW_ HB⟩⟩
  case round =>
   clear H'
   try clear c2
   try clear c2b0
   try clear c2b1
   try clear p2
   obtain ⟨x3_1, x11_1, rfl, HA, HK1, HO_3, HB⟩ := hrel
   cases gk with
   | zero => exact absurd HA.out (by simp [xform_clones.l0])
   | succ k1 =>
    have H := HA.out
    clear HA
    simp only [xform_clones.l0] at H
    by_cases c5 : x11_1 < (l0.length : Int)
    ·rw [if_pos c5] at H
     have c5b0 : decide (x11_1 < (l0.length : Int)) = true := decide_eq_true c5
     clear c5
     by_cases c6 : 0 ≤ x11_1
     ·rw [if_pos c6] at H
      have c6b0 : decide (0 ≤ x11_1) = true := decide_eq_true c6
      clear c6
      by_cases c7 : x11_1 < (l0.length : Int)
      ·rw [if_pos c7] at H
       have c7b0 : decide (x11_1 < (l0.length : Int)) = true := decide_eq_true c7
       clear c7
       replace H := Option.bind_eq_some_iff.mp H
       obtain ⟨⟨t257, t258, t259, t260, t261, t262, t265, t266, t267⟩, A80, H⟩ := H
       replace H : (if x3_1.length < 1466015503701 then (xform_clones.l0 k1 (x3_1 ++ [(⟨(⟨(⟨t257, t258⟩ : S35), t259⟩ : S38), t260, t261, t262, (⟨t265, t266⟩ : S35), t267⟩ : S41)]) l0 (l0.length : Int) (wrap64 (x11_1 + 1))) else (none)) = some r := H
       have A8 := Aside0.mk A80
       clear A80
       by_cases c9 : x3_1.length < 1466015503701
       ·rw [if_pos c9] at H
        have LMc9 := Aside0.mk c9
        clear c9
        obtain ⟨y268, hy268⟩ : ∃ y_ : List (S41), y_ = (x3_1 ++ [(⟨(⟨(⟨t257, t258⟩ : S35), t259⟩ : S38), t260, t261, t262, (⟨t265, t266⟩ : S35), t267⟩ : S41)]) := ⟨_, rfl⟩
        replace H : (xform_clones.l0 k1 y268 l0 (l0.length : Int) (wrap64 (x11_1 + 1))) = some r := by first | (rw [hy268]; with_reducible exact H) | (have H2_ := (Option.bind_some _ _).symm.trans H; rw [hy268]; with_reducible exact H2_) | (have H2_ := (Option.bind_some _ _).symm.trans H; with_reducible exact H2_) | with_reducible exact H | (rw [hy268]; exact H) | exact H
        have Ny268 := Aside0.mk hy268
        clear hy268
        have H' := Aside0.mk H
        clear H
        have p255 := dz_ (x11_1 : Int)
        have q255 := dl_ x11_1 (l0.length : Int)
        obtain ⟨ad255, A255_5, c255_5, e255, hx255_0, hx255_1, hx255_2, hx255_3, hx255_4, hx255_5, hx255_6, hx255_7, hx255_8, hl255_5, hi255_5⟩ := at_T41 HR0.out x11_1 p255 q255
        cases e255
        replace hx255_0 := pw_cell_below HB.out hx255_0
        replace hx255_1 := pw_cell_below HB.out hx255_1
        replace hx255_2 := pw_cell_below HB.out hx255_2
        replace hx255_3 := pw_cell_below HB.out hx255_3
        replace hx255_4 := pw_cell_below HB.out hx255_4
        replace hx255_5 := pw_cell_below HB.out hx255_5
        replace hx255_6 := pw_cell_below HB.out hx255_6
        replace hx255_7 := pw_cell_below HB.out hx255_7
        replace hx255_8 := pw_cell_below HB.out hx255_8
        have HR255_5 := Aside0.mk hi255_5
        have HC255_5 := Aside0.mk hl255_5
        clear hi255_5 hl255_5
        replace p255 := eq_true p255
        replace q255 := eq_true q255
        go_wp2_with (first | ((with_reducible refine gate_dst (N := 5) rfl ?_); refine bxE_ 5 41 #[.int .i64 0, .int .i64 0, .int .i64 0, .int .i64 0, .string (⟨#[]⟩ : ByteArray), .slice none 0 0, .int .i64 0, .int .i64 0, .bool false] ?_; intro gb256 hg w10 hbox hb; have BK256 := Aside0.mk (hbox); have GW256 := gee_ hg HB; have GE256 := gee_ hg HB; replace HO_3 := Aside0.mk (Kd.S_below (Kd.S_elderB (by (with_reducible repeat (first | apply Kd.S_alloc | apply Kd.S_drewN | apply Kd.S_drew)); exact HO_3.out) gb256 (Nat.le_of_eq hg.symm)) hb); replace HB := belB_ HB hb; clear hb hbox hg; have hz_ := blk9_ BK256.out) | ((with_reducible refine gate_store (t := 41) (p := 5) rfl ?_); refine store_event (t := 41) (p := 5) (v := ?vo_w12) (w1 := (((((((((w10.setCell ⟨gb256, 0, none⟩ (.int .i64 ((rd_T41 l0 x11_1).f0.f0.f0))).setCell ⟨gb256, 1, none⟩ (.int .i64 ((rd_T41 l0 x11_1).f0.f0.f1))).setCell ⟨gb256, 2, none⟩ (.int .i64 ((rd_T41 l0 x11_1).f0.f1))).setCell ⟨gb256, 3, none⟩ (.int .i64 ((rd_T41 l0 x11_1).f1))).setCell ⟨gb256, 4, none⟩ (.string ((rd_T41 l0 x11_1).f2))).setCell ⟨gb256, 5, none⟩ (.slice A255_5 ((rd_T41 l0 x11_1).f3).length c255_5)).setCell ⟨gb256, 6, none⟩ (.int .i64 ((rd_T41 l0 x11_1).f4.f0))).setCell ⟨gb256, 7, none⟩ (.int .i64 ((rd_T41 l0 x11_1).f4.f1))).setCell ⟨gb256, 8, none⟩ (.bool ((rd_T41 l0 x11_1).f5)))) ?hg ?ho ?hn ?hr ?_; (case ho => rfl); (case hg => rfl); (case hn => rfl); (case hr => first | (go_simp; done) | (go_simp; rfl)); intro w12 hw; have n0_ : Aside0 (Kd.S k41 41 w12 w.heap.size (fun k_ => k_ ≠ gb256) u3 x3_1) := ⟨(by rw [hw]; exact (by (with_reducible repeat (first | apply Kd.S_alloc | apply Kd.S_drewN | apply Kd.S_drew)); exact Kd.S_mono (Kd.S_far (p := ⟨gb256, 8, none⟩) (Kd.S_far (p := ⟨gb256, 7, none⟩) (Kd.S_far (p := ⟨gb256, 6, none⟩) (Kd.S_far (p := ⟨gb256, 5, none⟩) (Kd.S_far (p := ⟨gb256, 4, none⟩) (Kd.S_far (p := ⟨gb256, 3, none⟩) (Kd.S_far (p := ⟨gb256, 2, none⟩) (Kd.S_far (p := ⟨gb256, 1, none⟩) (Kd.S_far (p := ⟨gb256, 0, none⟩) (Kd.S_mono HO_3.out (fun k_ hk => (⟨hk, hk.2⟩ : _ ∧ k_ ≠ gb256))) (fun _ hk => hk.2) (.int .i64 ((rd_T41 l0 x11_1).f0.f0.f0))) (fun _ hk => hk.2) (.int .i64 ((rd_T41 l0 x11_1).f0.f0.f1))) (fun _ hk => hk.2) (.int .i64 ((rd_T41 l0 x11_1).f0.f1))) (fun _ hk => hk.2) (.int .i64 ((rd_T41 l0 x11_1).f1))) (fun _ hk => hk.2) (.string ((rd_T41 l0 x11_1).f2))) (fun _ hk => hk.2) (.slice A255_5 ((rd_T41 l0 x11_1).f3).length c255_5)) (fun _ hk => hk.2) (.int .i64 ((rd_T41 l0 x11_1).f4.f0))) (fun _ hk => hk.2) (.int .i64 ((rd_T41 l0 x11_1).f4.f1))) (fun _ hk => hk.2) (.bool ((rd_T41 l0 x11_1).f5))) (fun _ hk => hk.1.2)))⟩; have n1_ : Aside0 (w12.heap[gb256]? = some (.cells #[.int .i64 ((rd_T41 l0 x11_1).f0.f0.f0), .int .i64 ((rd_T41 l0 x11_1).f0.f0.f1), .int .i64 ((rd_T41 l0 x11_1).f0.f1), .int .i64 ((rd_T41 l0 x11_1).f1), .string ((rd_T41 l0 x11_1).f2), .slice A255_5 ((rd_T41 l0 x11_1).f3).length c255_5, .int .i64 ((rd_T41 l0 x11_1).f4.f0), .int .i64 ((rd_T41 l0 x11_1).f4.f1), .bool ((rd_T41 l0 x11_1).f5)] 41 (0, 0))) := ⟨(by rw [hw]; exact (by (with_reducible repeat (first | refine blk_drewN ?_ _ | refine blk_drew ?_ | refine blk_alloc ?_ _)); refine blk_put (cs := #[.int .i64 ((rd_T41 l0 x11_1).f0.f0.f0), .int .i64 ((rd_T41 l0 x11_1).f0.f0.f1), .int .i64 ((rd_T41 l0 x11_1).f0.f1), .int .i64 ((rd_T41 l0 x11_1).f1), .string ((rd_T41 l0 x11_1).f2), .slice A255_5 ((rd_T41 l0 x11_1).f3).length c255_5, .int .i64 ((rd_T41 l0 x11_1).f4.f0), .int .i64 ((rd_T41 l0 x11_1).f4.f1), .bool false]) ?_ 8 _ rfl; (with_reducible repeat (first | refine blk_drewN ?_ _ | refine blk_drew ?_ | refine blk_alloc ?_ _)); refine blk_put (cs := #[.int .i64 ((rd_T41 l0 x11_1).f0.f0.f0), .int .i64 ((rd_T41 l0 x11_1).f0.f0.f1), .int .i64 ((rd_T41 l0 x11_1).f0.f1), .int .i64 ((rd_T41 l0 x11_1).f1), .string ((rd_T41 l0 x11_1).f2), .slice A255_5 ((rd_T41 l0 x11_1).f3).length c255_5, .int .i64 ((rd_T41 l0 x11_1).f4.f0), .int .i64 0, .bool false]) ?_ 7 _ rfl; (with_reducible repeat (first | refine blk_drewN ?_ _ | refine blk_drew ?_ | refine blk_alloc ?_ _)); refine blk_put (cs := #[.int .i64 ((rd_T41 l0 x11_1).f0.f0.f0), .int .i64 ((rd_T41 l0 x11_1).f0.f0.f1), .int .i64 ((rd_T41 l0 x11_1).f0.f1), .int .i64 ((rd_T41 l0 x11_1).f1), .string ((rd_T41 l0 x11_1).f2), .slice A255_5 ((rd_T41 l0 x11_1).f3).length c255_5, .int .i64 0, .int .i64 0, .bool false]) ?_ 6 _ rfl; (with_reducible repeat (first | refine blk_drewN ?_ _ | refine blk_drew ?_ | refine blk_alloc ?_ _)); refine blk_put (cs := #[.int .i64 ((rd_T41 l0 x11_1).f0.f0.f0), .int .i64 ((rd_T41 l0 x11_1).f0.f0.f1), .int .i64 ((rd_T41 l0 x11_1).f0.f1), .int .i64 ((rd_T41 l0 x11_1).f1), .string ((rd_T41 l0 x11_1).f2), .slice none 0 0, .int .i64 0, .int .i64 0, .bool false]) ?_ 5 _ rfl; (with_reducible repeat (first | refine blk_drewN ?_ _ | refine blk_drew ?_ | refine blk_alloc ?_ _)); refine blk_put (cs := #[.int .i64 ((rd_T41 l0 x11_1).f0.f0.f0), .int .i64 ((rd_T41 l0 x11_1).f0.f0.f1), .int .i64 ((rd_T41 l0 x11_1).f0.f1), .int .i64 ((rd_T41 l0 x11_1).f1), .string (⟨#[]⟩ : ByteArray), .slice none 0 0, .int .i64 0, .int .i64 0, .bool false]) ?_ 4 _ rfl; (with_reducible repeat (first | refine blk_drewN ?_ _ | refine blk_drew ?_ | refine blk_alloc ?_ _)); refine blk_put (cs := #[.int .i64 ((rd_T41 l0 x11_1).f0.f0.f0), .int .i64 ((rd_T41 l0 x11_1).f0.f0.f1), .int .i64 ((rd_T41 l0 x11_1).f0.f1), .int .i64 0, .string (⟨#[]⟩ : ByteArray), .slice none 0 0, .int .i64 0, .int .i64 0, .bool false]) ?_ 3 _ rfl; (with_reducible repeat (first | refine blk_drewN ?_ _ | refine blk_drew ?_ | refine blk_alloc ?_ _)); refine blk_put (cs := #[.int .i64 ((rd_T41 l0 x11_1).f0.f0.f0), .int .i64 ((rd_T41 l0 x11_1).f0.f0.f1), .int .i64 0, .int .i64 0, .string (⟨#[]⟩ : ByteArray), .slice none 0 0, .int .i64 0, .int .i64 0, .bool false]) ?_ 2 _ rfl; (with_reducible repeat (first | refine blk_drewN ?_ _ | refine blk_drew ?_ | refine blk_alloc ?_ _)); refine blk_put (cs := #[.int .i64 ((rd_T41 l0 x11_1).f0.f0.f0), .int .i64 0, .int .i64 0, .int .i64 0, .string (⟨#[]⟩ : ByteArray), .slice none 0 0, .int .i64 0, .int .i64 0, .bool false]) ?_ 1 _ rfl; (with_reducible repeat (first | refine blk_drewN ?_ _ | refine blk_drew ?_ | refine blk_alloc ?_ _)); refine blk_put (cs := #[.int .i64 0, .int .i64 0, .int .i64 0, .int .i64 0, .string (⟨#[]⟩ : ByteArray), .slice none 0 0, .int .i64 0, .int .i64 0, .bool false]) ?_ 0 _ rfl; (with_reducible repeat (first | refine blk_drewN ?_ _ | refine blk_drew ?_ | refine blk_alloc ?_ _)); exact BK256.out))⟩; have n2_ : Aside0 (Below w.heap.size w w12) := ⟨(by rw [hw]; exact (belW_ HB))⟩; clear hw; clear HO_3; clear BK256; clear HB; have HO_3 := n0_; have BK256 := n1_; have HB := n2_; clear n0_ n1_ n2_; have hz_ := blk9_ BK256.out) | ((with_reducible refine gate_callee (f := 64) rfl ?_); refine goesL_ (some 17) rfl rfl Tryd.func64 (by kernel_rfl) rfl #[.agg #[.int .i64 ((rd_T41 l0 x11_1).f0.f0.f0), .int .i64 ((rd_T41 l0 x11_1).f0.f0.f1), .int .i64 ((rd_T41 l0 x11_1).f0.f1), .int .i64 ((rd_T41 l0 x11_1).f1), .string ((rd_T41 l0 x11_1).f2), .slice A255_5 ((rd_T41 l0 x11_1).f3).length c255_5, .int .i64 ((rd_T41 l0 x11_1).f4.f0), .int .i64 ((rd_T41 l0 x11_1).f4.f1), .bool ((rd_T41 l0 x11_1).f5)]] rfl (by (try simp only [List.map_toArray, List.map_cons, List.map_nil]); first | done | rfl | (simp only [List.length_drop, List.length_take]; rfl)) ?_; (with_reducible refine (op_Clone.calls ((rd_T41 l0 x11_1).f0.f0.f0) ((rd_T41 l0 x11_1).f0.f0.f1) ((rd_T41 l0 x11_1).f0.f1) ((rd_T41 l0 x11_1).f1) ((rd_T41 l0 x11_1).f2) _ _ ((rd_T41 l0 x11_1).f3) ((rd_T41 l0 x11_1).f4.f0) ((rd_T41 l0 x11_1).f4.f1) ((rd_T41 l0 x11_1).f5) t257 t258 t259 t260 t261 t262 t265 t266 t267 _ ?side1 ?side2 A8.out).mono ?_); (case side1 => repeat (first | exact (Kd.C_below HR255_5.out HB.out) | (with_reducible refine Kd.C_alloc ?_ _) | (with_reducible refine Kd.C_drewN ?_ _) | (with_reducible refine Kd.C_drew ?_))); (case side2 => exact HC255_5.out); rintro e w14 ⟨v263, rfl, ho0, hb⟩; refine ⟨_, rfl, ?_⟩; have HO264 := Aside0.mk (Kd.R_lower ho0 (below_size (belW_ HB))); replace HO_3 := Aside0.mk (Kd.S_elder' (by (with_reducible repeat (first | apply Kd.S_alloc | apply Kd.S_drewN | apply Kd.S_drew)); exact HO_3.out) (Kd.R_base ho0) hb); replace BK256 := blkB_ BK256 hb; replace HB := belB_ HB hb; (try clear hb); (try clear hb2); (try clear hk); (try clear hi); (try clear ho0); obtain ⟨Ao16, co16, eo16⟩ := Kd.R_slice HO264.out; subst eo16) | ((with_reducible refine gate_builtin (b := .append) (xs := #[.tmp 15, .tmp 18]) rfl ?_); at_builtin; refine Kd.S_append k41 (w0 := w) w.heap.size rfl (.tmp 15) (.tmp 18) 29 41 (.agg #[(.int .i64 0), (.int .i64 0), (.int .i64 0), (.int .i64 0), (.string ⟨#[]⟩), (.slice none 0 0), (.int .i64 0), (.int .i64 0), (.bool false)]) 96 rfl Tryd.underlying29 info41 rfl (by decide) (by omega) u3 x3_1 (⟨(⟨(⟨t257, t258⟩ : S35), t259⟩ : S38), t260, t261, t262, (⟨t265, t266⟩ : S35), t267⟩ : S41) [.int .i64 t257, .int .i64 t258, .int .i64 t259, .int .i64 t260, .string t261, .slice Ao16 t262.length co16, .int .i64 t265, .int .i64 t266, .bool t267] (fun k_ => k_ ≠ gb256) (fun k_ => some k_ = (.slice Ao16 t262.length co16 : Value).ownBlock) rfl rfl ?aP (fun k_ hk_ => ((Kd.R_mono (ok' := fun k_ => ((fun k_ => k_ ≠ gb256)) k_ ∧ some k_ ≠ (u3 : Value).ownBlock) (Kd.R_types (Kd.R_apart' (HO264.out) (Kd.S_typed HO_3.out) (by decide)) BK256.out (by decide)) (fun k_ hk => ⟨hk.2, hk.1.2⟩))).1 k_ hk_.symm) ?aF ?aO ?aB ?aS ?aL ?_; (case aP => exact k41_mkM _ _ _ (⟨(⟨(⟨t257, t258⟩ : S35), t259⟩ : S38), t260, t261, t262, (⟨t265, t266⟩ : S35), t267⟩ : S41) (Kd.R_mono (Kd.R_tight rfl (Kd.R_mono (ok' := fun k_ => ((fun k_ => k_ ≠ gb256)) k_ ∧ some k_ ≠ (u3 : Value).ownBlock) (Kd.R_types (Kd.R_apart' (HO264.out) (Kd.S_typed HO_3.out) (by decide)) BK256.out (by decide)) (fun k_ hk => ⟨hk.2, hk.1.2⟩))) (fun _ h_ => h_))); (case aB => exact (belW_ HB)); (case aF => exact (fun k_ hk => Kd.freshB (blkW_ BK256) k_ hk)); (case aO => exact (by (with_reducible repeat (first | apply Kd.S_alloc | apply Kd.S_drewN | apply Kd.S_drew)); exact Kd.S_mono HO_3.out (fun k_ hk => ⟨hk.1, fun e_ => hk.2 e_⟩))); (case aS => exact (below_size (belW_ HB))); (case aL => have := LMc9.out; omega); intro v269 w15 ho hb hg hat; rw [← Ny268.out] at ho; have HO270 := Aside0.mk (ho); replace BK256 := Aside0.mk (blk_grown (blkW_ BK256) hg (Kd.S_away HO_3.out (fun _ hk => hk.1))); replace HB := Aside0.mk (hb); clear HO_3; clear HO264; clear ho hb hg hat))
        go_roundg k1
        case measure => have := HK1.out; omega
        case rel => exact ⟨(y268), (wrap64 (x11_1 + 1)), (by first | rfl | (simp; done) | (simp [*]; done)), H', ⟨by have := HK1.out; omega⟩, ⟨by (with_reducible repeat (first | apply Kd.S_alloc | apply Kd.S_drewN | apply Kd.S_drew)); exact Kd.S_mono HO270.out (fun _ hk => trivial)⟩, ⟨belW_ HB⟩⟩
       ·rw [if_neg c9] at H
        exact absurd H (by simp)
      ·rw [if_neg c7] at H
       exact absurd H (by simp)
     ·rw [if_neg c6] at H
      exact absurd H (by simp)
    ·rw [if_neg c5] at H
     have c5b0 : decide (x11_1 < (l0.length : Int)) = false := decide_eq_false c5
     clear c5
     obtain rfl := Option.some.inj H
     go_wp2
     go_ret
     exact ⟨_, by first | rfl | (simp [*] <;> rfl), by (with_reducible repeat (first | apply Kd.S_alloc | apply Kd.S_drewN | apply Kd.S_drew)); exact HO_3.out, belW_ HB⟩
 ·rw [if_neg c2] at H
  exact absurd H (by simp)

def redraftref04_IsID.f (a0_0 : Int) (a0_1 : Int) : Option (Bool) := if a0_0 ≥ 1 then (if a0_0 ≤ 8 then (if a0_1 ≥ 1 then (some (decide (a0_1 ≤ 1024))) else (some false)) else (some false)) else (some false)
set_option maxHeartbeats 8000000 in
set_option maxRecDepth 100000 in
theorem redraftref04_IsID.calls (a0_0 : Int) (a0_1 : Int) (r : Bool) (w : World) (h : redraftref04_IsID.f a0_0 a0_1 = some r) :
 Calls Tryd.prog 119 #[.agg #[.int .i64 a0_0, .int .i64 a0_1]] w fun e w' => e = .returned (.bool r) ∧ Below w.heap.size w w' := by
 have hu35 := Tryd.underlying35
 have HB := Aside0.mk (Below.refl w.heap.size w)
 have H : (if a0_0 ≥ 1 then (if a0_0 ≤ 8 then (if a0_1 ≥ 1 then (some (decide (a0_1 ≤ 1024))) else (some false)) else (some false)) else (some false)) = some r := h
 clear h
 by_cases c2 : a0_0 ≥ 1
 ·rw [if_pos c2] at H
  have c2b0 : decide (1 ≤ a0_0) = true := decide_eq_true c2
  clear c2
  by_cases c3 : a0_0 ≤ 8
  ·rw [if_pos c3] at H
   have c3b0 : decide (a0_0 ≤ 8) = true := decide_eq_true c3
   clear c3
   by_cases c4 : a0_1 ≥ 1
   ·rw [if_pos c4] at H
    have c4b0 : decide (1 ≤ a0_1) = true := decide_eq_true c4
    clear c4
    obtain rfl := Option.some.inj H
    go_enter Tryd.func119, Tryd.ntmps119
    go_wp2_with (((with_reducible refine gate_dst (N := 1) rfl ?_); refine bxE_ 1 35 #[.int .i64 a0_0, .int .i64 a0_1] ?_; intro gb271 hg w5 hbox hb; have BK271 := Aside0.mk (hbox); have GW271 := gee_ hg HB; have GE271 := gee_ hg HB; replace HB := belB_ HB hb; clear hb hbox hg; have hz_ := blk2_ BK271.out))
    go_ret
    exact ⟨by first | rfl | (simp [*] <;> rfl), belW_ HB⟩
   ·rw [if_neg c4] at H
    have c4b0 : decide (1 ≤ a0_1) = false := decide_eq_false c4
    clear c4
    obtain rfl := Option.some.inj H
    go_enter Tryd.func119, Tryd.ntmps119
    go_wp2_with (((with_reducible refine gate_dst (N := 1) rfl ?_); refine bxE_ 1 35 #[.int .i64 a0_0, .int .i64 a0_1] ?_; intro gb271 hg w7 hbox hb; have BK271 := Aside0.mk (hbox); have GW271 := gee_ hg HB; have GE271 := gee_ hg HB; replace HB := belB_ HB hb; clear hb hbox hg; have hz_ := blk2_ BK271.out))
    go_ret
    exact ⟨by first | rfl | (simp [*] <;> rfl), belW_ HB⟩
  ·rw [if_neg c3] at H
   have c3b0 : decide (a0_0 ≤ 8) = false := decide_eq_false c3
   clear c3
   obtain rfl := Option.some.inj H
   go_enter Tryd.func119, Tryd.ntmps119
   go_wp2_with (((with_reducible refine gate_dst (N := 1) rfl ?_); refine bxE_ 1 35 #[.int .i64 a0_0, .int .i64 a0_1] ?_; intro gb271 hg w9 hbox hb; have BK271 := Aside0.mk (hbox); have GW271 := gee_ hg HB; have GE271 := gee_ hg HB; replace HB := belB_ HB hb; clear hb hbox hg; have hz_ := blk2_ BK271.out))
   go_ret
   exact ⟨by first | rfl | (simp [*] <;> rfl), belW_ HB⟩
 ·rw [if_neg c2] at H
  have c2b0 : decide (1 ≤ a0_0) = false := decide_eq_false c2
  clear c2
  obtain rfl := Option.some.inj H
  go_enter Tryd.func119, Tryd.ntmps119
  go_wp2_with (((with_reducible refine gate_dst (N := 1) rfl ?_); refine bxE_ 1 35 #[.int .i64 a0_0, .int .i64 a0_1] ?_; intro gb271 hg w11 hbox hb; have BK271 := Aside0.mk (hbox); have GW271 := gee_ hg HB; have GE271 := gee_ hg HB; replace HB := belB_ HB hb; clear hb hbox hg; have hz_ := blk2_ BK271.out))
  go_ret
  exact ⟨by first | rfl | (simp [*] <;> rfl), belW_ HB⟩

def redraftref04_none.f (a0_0 : Int) (a0_1 : Int) : Option (Bool) := if a0_0 = 0 then (some (a0_1 == 0)) else (some false)
set_option maxHeartbeats 8000000 in
set_option maxRecDepth 100000 in
theorem redraftref04_none.calls (a0_0 : Int) (a0_1 : Int) (r : Bool) (w : World) (h : redraftref04_none.f a0_0 a0_1 = some r) :
 Calls Tryd.prog 120 #[.agg #[.int .i64 a0_0, .int .i64 a0_1]] w fun e w' => e = .returned (.bool r) ∧ Below w.heap.size w w' := by
 have hu35 := Tryd.underlying35
 have HB := Aside0.mk (Below.refl w.heap.size w)
 have H : (if a0_0 = 0 then (some (a0_1 == 0)) else (some false)) = some r := h
 clear h
 by_cases c2 : a0_0 = 0
 ·rw [if_pos c2] at H
  have c2b0 : (a0_0 == 0) = true := beq_iff_eq.mpr c2
  have c2b1 : (a0_0 != 0) = false := bne_eq_false_iff_eq.mpr c2
  clear c2
  obtain rfl := Option.some.inj H
  go_enter Tryd.func120, Tryd.ntmps120
  go_wp2_with (((with_reducible refine gate_dst (N := 1) rfl ?_); refine bxE_ 1 35 #[.int .i64 a0_0, .int .i64 a0_1] ?_; intro gb272 hg w3 hbox hb; have BK272 := Aside0.mk (hbox); have GW272 := gee_ hg HB; have GE272 := gee_ hg HB; replace HB := belB_ HB hb; clear hb hbox hg; have hz_ := blk2_ BK272.out))
  go_ret
  exact ⟨by first | rfl | (simp [*] <;> rfl), belW_ HB⟩
 ·rw [if_neg c2] at H
  have c2b0 : (a0_0 == 0) = false := beq_eq_false_iff_ne.mpr c2
  have c2b1 : (a0_0 != 0) = true := bne_iff_ne.mpr c2
  obtain rfl := Option.some.inj H
  go_enter Tryd.func120, Tryd.ntmps120
  go_wp2_with (((with_reducible refine gate_dst (N := 1) rfl ?_); refine bxE_ 1 35 #[.int .i64 a0_0, .int .i64 a0_1] ?_; intro gb272 hg w5 hbox hb; have BK272 := Aside0.mk (hbox); have GW272 := gee_ hg HB; have GE272 := gee_ hg HB; replace HB := belB_ HB hb; clear hb hbox hg; have hz_ := blk2_ BK272.out))
  go_ret
  exact ⟨by first | rfl | (simp [*] <;> rfl), belW_ HB⟩

def redraftref04_extra.f (a0_0 : Int) (a0_1 : Int) (a0_2 : Int) (a0_3 : Int) (a0_4 : ByteArray) (l0_5 : List (S94)) (a0_6 : Int) (a0_7 : Int) (a0_8 : Bool) : Option (Bool) := if a0_3 = 0 then (if a0_6 = 0 then (if a0_7 = 0 then (if a0_2 = 1 then (if (l0_5.length : Int) > 0 then (some true) else (some a0_8)) else (if a0_2 = 4 then (if a0_4.toList = ([] : List UInt8) then (some (decide ((l0_5.length : Int) > 0))) else (some true)) else (if a0_4.toList = ([] : List UInt8) then (some a0_8) else (some true)))) else (if a0_2 = 1 then (if (l0_5.length : Int) > 0 then (some true) else (some true)) else (if a0_2 = 4 then (if a0_4.toList = ([] : List UInt8) then (some (decide ((l0_5.length : Int) > 0))) else (some true)) else (if a0_4.toList = ([] : List UInt8) then (some true) else (some true))))) else (if a0_2 = 1 then (if (l0_5.length : Int) > 0 then (some true) else (some true)) else (if a0_2 = 4 then (if a0_4.toList = ([] : List UInt8) then (some (decide ((l0_5.length : Int) > 0))) else (some true)) else (if a0_4.toList = ([] : List UInt8) then (some true) else (some true))))) else (if a0_6 = 0 then (if a0_7 = 0 then (if a0_2 = 1 then (if (l0_5.length : Int) > 0 then (some true) else (some a0_8)) else (if a0_2 = 4 then (some true) else (some true))) else (if a0_2 = 1 then (if (l0_5.length : Int) > 0 then (some true) else (some true)) else (if a0_2 = 4 then (some true) else (some true)))) else (if a0_2 = 1 then (if (l0_5.length : Int) > 0 then (some true) else (some true)) else (if a0_2 = 4 then (some true) else (some true))))
set_option maxHeartbeats 8000000 in
set_option maxRecDepth 100000 in
theorem redraftref04_extra.calls (a0_0 : Int) (a0_1 : Int) (a0_2 : Int) (a0_3 : Int) (a0_4 : ByteArray) (A0_5 : Option Addr) (c0_5 : Nat) (l0_5 : List (S94)) (a0_6 : Int) (a0_7 : Int) (a0_8 : Bool) (r : Bool) (w : World) (hr0_5 : Kd.C k94 w A0_5 l0_5.length l0_5) (hc0_5 : l0_5.length ≤ c0_5) (h : redraftref04_extra.f a0_0 a0_1 a0_2 a0_3 a0_4 l0_5 a0_6 a0_7 a0_8 = some r) :
 Calls Tryd.prog 121 #[.agg #[.int .i64 a0_0, .int .i64 a0_1, .int .i64 a0_2, .int .i64 a0_3, .string a0_4, .slice A0_5 l0_5.length c0_5, .int .i64 a0_6, .int .i64 a0_7, .bool a0_8]] w fun e w' => e = .returned (.bool r) ∧ Below w.heap.size w w' := by
 have hu41 := Tryd.underlying41
 have HR0_5 := Aside0.mk hr0_5
 have HC0_5 := Aside0.mk hc0_5
 clear hr0_5 hc0_5
 have HB := Aside0.mk (Below.refl w.heap.size w)
 have H : (if a0_3 = 0 then (if a0_6 = 0 then (if a0_7 = 0 then (if a0_2 = 1 then (if (l0_5.length : Int) > 0 then (some true) else (some a0_8)) else (if a0_2 = 4 then (if a0_4.toList = ([] : List UInt8) then (some (decide ((l0_5.length : Int) > 0))) else (some true)) else (if a0_4.toList = ([] : List UInt8) then (some a0_8) else (some true)))) else (if a0_2 = 1 then (if (l0_5.length : Int) > 0 then (some true) else (some true)) else (if a0_2 = 4 then (if a0_4.toList = ([] : List UInt8) then (some (decide ((l0_5.length : Int) > 0))) else (some true)) else (if a0_4.toList = ([] : List UInt8) then (some true) else (some true))))) else (if a0_2 = 1 then (if (l0_5.length : Int) > 0 then (some true) else (some true)) else (if a0_2 = 4 then (if a0_4.toList = ([] : List UInt8) then (some (decide ((l0_5.length : Int) > 0))) else (some true)) else (if a0_4.toList = ([] : List UInt8) then (some true) else (some true))))) else (if a0_6 = 0 then (if a0_7 = 0 then (if a0_2 = 1 then (if (l0_5.length : Int) > 0 then (some true) else (some a0_8)) else (if a0_2 = 4 then (some true) else (some true))) else (if a0_2 = 1 then (if (l0_5.length : Int) > 0 then (some true) else (some true)) else (if a0_2 = 4 then (some true) else (some true)))) else (if a0_2 = 1 then (if (l0_5.length : Int) > 0 then (some true) else (some true)) else (if a0_2 = 4 then (some true) else (some true))))) = some r := h
 clear h
 by_cases c2 : a0_3 = 0
 ·rw [if_pos c2] at H
  have c2b0 : (a0_3 == 0) = true := beq_iff_eq.mpr c2
  have c2b1 : (a0_3 != 0) = false := bne_eq_false_iff_eq.mpr c2
  clear c2
  by_cases c3 : a0_6 = 0
  ·rw [if_pos c3] at H
   have c3b0 : (a0_6 == 0) = true := beq_iff_eq.mpr c3
   have c3b1 : (a0_6 != 0) = false := bne_eq_false_iff_eq.mpr c3
   clear c3
   by_cases c4 : a0_7 = 0
   ·rw [if_pos c4] at H
    have c4b0 : (a0_7 == 0) = true := beq_iff_eq.mpr c4
    have c4b1 : (a0_7 != 0) = false := bne_eq_false_iff_eq.mpr c4
    clear c4
    by_cases c5 : a0_2 = 1
    ·rw [if_pos c5] at H
     have c5b0 : (a0_2 == 1) = true := beq_iff_eq.mpr c5
     have c5b1 : (a0_2 != 1) = false := bne_eq_false_iff_eq.mpr c5
     clear c5
     by_cases c6 : (l0_5.length : Int) > 0
     ·rw [if_pos c6] at H
      have c6b0 : decide (0 < (l0_5.length : Int)) = true := decide_eq_true c6
      have c6b1 : decide (0 < l0_5.length) = true := decide_eq_true (by omega)
      clear c6
      obtain rfl := Option.some.inj H
      go_enter Tryd.func121, Tryd.ntmps121
      go_wp2_with (((with_reducible refine gate_dst (N := 1) rfl ?_); refine bxE_ 1 41 #[.int .i64 a0_0, .int .i64 a0_1, .int .i64 a0_2, .int .i64 a0_3, .string a0_4, .slice A0_5 l0_5.length c0_5, .int .i64 a0_6, .int .i64 a0_7, .bool a0_8] ?_; intro gb273 hg w7 hbox hb; have BK273 := Aside0.mk (hbox); have GW273 := gee_ hg HB; have GE273 := gee_ hg HB; replace HB := belB_ HB hb; clear hb hbox hg; have hz_ := blk9_ BK273.out))
      go_ret
      exact ⟨by first | rfl | (simp [*] <;> rfl), belW_ HB⟩
     ·rw [if_neg c6] at H
      have c6b0 : decide (0 < (l0_5.length : Int)) = false := decide_eq_false c6
      have c6b1 : decide (0 < l0_5.length) = false := decide_eq_false (by omega)
      clear c6
      obtain rfl := Option.some.inj H
      go_enter Tryd.func121, Tryd.ntmps121
      go_wp2_with (((with_reducible refine gate_dst (N := 1) rfl ?_); refine bxE_ 1 41 #[.int .i64 a0_0, .int .i64 a0_1, .int .i64 a0_2, .int .i64 a0_3, .string a0_4, .slice A0_5 l0_5.length c0_5, .int .i64 a0_6, .int .i64 a0_7, .bool a0_8] ?_; intro gb273 hg w9 hbox hb; have BK273 := Aside0.mk (hbox); have GW273 := gee_ hg HB; have GE273 := gee_ hg HB; replace HB := belB_ HB hb; clear hb hbox hg; have hz_ := blk9_ BK273.out))
      go_ret
      exact ⟨by first | rfl | (simp [*] <;> rfl), belW_ HB⟩
    ·rw [if_neg c5] at H
     have c5b0 : (a0_2 == 1) = false := beq_eq_false_iff_ne.mpr c5
     have c5b1 : (a0_2 != 1) = true := bne_iff_ne.mpr c5
     by_cases c11 : a0_2 = 4
     ·rw [if_pos c11] at H
      have c11b0 : (a0_2 == 4) = true := beq_iff_eq.mpr c11
      have c11b1 : (a0_2 != 4) = false := bne_eq_false_iff_eq.mpr c11
      clear c11
      by_cases c12 : a0_4.toList = ([] : List UInt8)
      ·rw [if_pos c12] at H
       have c12b0 : (a0_4.toList == ([] : List UInt8)) = true := beq_iff_eq.mpr c12
       have c12b1 : (a0_4.toList != ([] : List UInt8)) = false := bne_eq_false_iff_eq.mpr c12
       clear c12
       obtain rfl := Option.some.inj H
       go_enter Tryd.func121, Tryd.ntmps121
       go_wp2_with (((with_reducible refine gate_dst (N := 1) rfl ?_); refine bxE_ 1 41 #[.int .i64 a0_0, .int .i64 a0_1, .int .i64 a0_2, .int .i64 a0_3, .string a0_4, .slice A0_5 l0_5.length c0_5, .int .i64 a0_6, .int .i64 a0_7, .bool a0_8] ?_; intro gb273 hg w13 hbox hb; have BK273 := Aside0.mk (hbox); have GW273 := gee_ hg HB; have GE273 := gee_ hg HB; replace HB := belB_ HB hb; clear hb hbox hg; have hz_ := blk9_ BK273.out))
       go_ret
       exact ⟨by first | rfl | (simp [*] <;> rfl), belW_ HB⟩
      ·rw [if_neg c12] at H
       have c12b0 : (a0_4.toList == ([] : List UInt8)) = false := beq_eq_false_iff_ne.mpr c12
       have c12b1 : (a0_4.toList != ([] : List UInt8)) = true := bne_iff_ne.mpr c12
       obtain rfl := Option.some.inj H
       go_enter Tryd.func121, Tryd.ntmps121
       go_wp2_with (((with_reducible refine gate_dst (N := 1) rfl ?_); refine bxE_ 1 41 #[.int .i64 a0_0, .int .i64 a0_1, .int .i64 a0_2, .int .i64 a0_3, .string a0_4, .slice A0_5 l0_5.length c0_5, .int .i64 a0_6, .int .i64 a0_7, .bool a0_8] ?_; intro gb273 hg w15 hbox hb; have BK273 := Aside0.mk (hbox); have GW273 := gee_ hg HB; have GE273 := gee_ hg HB; replace HB := belB_ HB hb; clear hb hbox hg; have hz_ := blk9_ BK273.out))
       go_ret
       exact ⟨by first | rfl | (simp [*] <;> rfl), belW_ HB⟩
     ·rw [if_neg c11] at H
      have c11b0 : (a0_2 == 4) = false := beq_eq_false_iff_ne.mpr c11
      have c11b1 : (a0_2 != 4) = true := bne_iff_ne.mpr c11
      by_cases c17 : a0_4.toList = ([] : List UInt8)
      ·rw [if_pos c17] at H
       have c17b0 : (a0_4.toList == ([] : List UInt8)) = true := beq_iff_eq.mpr c17
       have c17b1 : (a0_4.toList != ([] : List UInt8)) = false := bne_eq_false_iff_eq.mpr c17
       clear c17
       obtain rfl := Option.some.inj H
       go_enter Tryd.func121, Tryd.ntmps121
       go_wp2_with (((with_reducible refine gate_dst (N := 1) rfl ?_); refine bxE_ 1 41 #[.int .i64 a0_0, .int .i64 a0_1, .int .i64 a0_2, .int .i64 a0_3, .string a0_4, .slice A0_5 l0_5.length c0_5, .int .i64 a0_6, .int .i64 a0_7, .bool a0_8] ?_; intro gb273 hg w18 hbox hb; have BK273 := Aside0.mk (hbox); have GW273 := gee_ hg HB; have GE273 := gee_ hg HB; replace HB := belB_ HB hb; clear hb hbox hg; have hz_ := blk9_ BK273.out))
       go_ret
       exact ⟨by first | rfl | (simp [*] <;> rfl), belW_ HB⟩
      ·rw [if_neg c17] at H
       have c17b0 : (a0_4.toList == ([] : List UInt8)) = false := beq_eq_false_iff_ne.mpr c17
       have c17b1 : (a0_4.toList != ([] : List UInt8)) = true := bne_iff_ne.mpr c17
       obtain rfl := Option.some.inj H
       go_enter Tryd.func121, Tryd.ntmps121
       go_wp2_with (((with_reducible refine gate_dst (N := 1) rfl ?_); refine bxE_ 1 41 #[.int .i64 a0_0, .int .i64 a0_1, .int .i64 a0_2, .int .i64 a0_3, .string a0_4, .slice A0_5 l0_5.length c0_5, .int .i64 a0_6, .int .i64 a0_7, .bool a0_8] ?_; intro gb273 hg w20 hbox hb; have BK273 := Aside0.mk (hbox); have GW273 := gee_ hg HB; have GE273 := gee_ hg HB; replace HB := belB_ HB hb; clear hb hbox hg; have hz_ := blk9_ BK273.out))
       go_ret
       exact ⟨by first | rfl | (simp [*] <;> rfl), belW_ HB⟩
   ·rw [if_neg c4] at H
    have c4b0 : (a0_7 == 0) = false := beq_eq_false_iff_ne.mpr c4
    have c4b1 : (a0_7 != 0) = true := bne_iff_ne.mpr c4
    by_cases c22 : a0_2 = 1
    ·rw [if_pos c22] at H
     have c22b0 : (a0_2 == 1) = true := beq_iff_eq.mpr c22
     have c22b1 : (a0_2 != 1) = false := bne_eq_false_iff_eq.mpr c22
     clear c22
     by_cases c23 : (l0_5.length : Int) > 0
     ·rw [if_pos c23] at H
      have c23b0 : decide (0 < (l0_5.length : Int)) = true := decide_eq_true c23
      have c23b1 : decide (0 < l0_5.length) = true := decide_eq_true (by omega)
      clear c23
      obtain rfl := Option.some.inj H
      go_enter Tryd.func121, Tryd.ntmps121
      go_wp2_with (((with_reducible refine gate_dst (N := 1) rfl ?_); refine bxE_ 1 41 #[.int .i64 a0_0, .int .i64 a0_1, .int .i64 a0_2, .int .i64 a0_3, .string a0_4, .slice A0_5 l0_5.length c0_5, .int .i64 a0_6, .int .i64 a0_7, .bool a0_8] ?_; intro gb273 hg w24 hbox hb; have BK273 := Aside0.mk (hbox); have GW273 := gee_ hg HB; have GE273 := gee_ hg HB; replace HB := belB_ HB hb; clear hb hbox hg; have hz_ := blk9_ BK273.out))
      go_ret
      exact ⟨by first | rfl | (simp [*] <;> rfl), belW_ HB⟩
     ·rw [if_neg c23] at H
      have c23b0 : decide (0 < (l0_5.length : Int)) = false := decide_eq_false c23
      have c23b1 : decide (0 < l0_5.length) = false := decide_eq_false (by omega)
      clear c23
      obtain rfl := Option.some.inj H
      go_enter Tryd.func121, Tryd.ntmps121
      go_wp2_with (((with_reducible refine gate_dst (N := 1) rfl ?_); refine bxE_ 1 41 #[.int .i64 a0_0, .int .i64 a0_1, .int .i64 a0_2, .int .i64 a0_3, .string a0_4, .slice A0_5 l0_5.length c0_5, .int .i64 a0_6, .int .i64 a0_7, .bool a0_8] ?_; intro gb273 hg w26 hbox hb; have BK273 := Aside0.mk (hbox); have GW273 := gee_ hg HB; have GE273 := gee_ hg HB; replace HB := belB_ HB hb; clear hb hbox hg; have hz_ := blk9_ BK273.out))
      go_ret
      exact ⟨by first | rfl | (simp [*] <;> rfl), belW_ HB⟩
    ·rw [if_neg c22] at H
     have c22b0 : (a0_2 == 1) = false := beq_eq_false_iff_ne.mpr c22
     have c22b1 : (a0_2 != 1) = true := bne_iff_ne.mpr c22
     by_cases c28 : a0_2 = 4
     ·rw [if_pos c28] at H
      have c28b0 : (a0_2 == 4) = true := beq_iff_eq.mpr c28
      have c28b1 : (a0_2 != 4) = false := bne_eq_false_iff_eq.mpr c28
      clear c28
      by_cases c29 : a0_4.toList = ([] : List UInt8)
      ·rw [if_pos c29] at H
       have c29b0 : (a0_4.toList == ([] : List UInt8)) = true := beq_iff_eq.mpr c29
       have c29b1 : (a0_4.toList != ([] : List UInt8)) = false := bne_eq_false_iff_eq.mpr c29
       clear c29
       obtain rfl := Option.some.inj H
       go_enter Tryd.func121, Tryd.ntmps121
       go_wp2_with (((with_reducible refine gate_dst (N := 1) rfl ?_); refine bxE_ 1 41 #[.int .i64 a0_0, .int .i64 a0_1, .int .i64 a0_2, .int .i64 a0_3, .string a0_4, .slice A0_5 l0_5.length c0_5, .int .i64 a0_6, .int .i64 a0_7, .bool a0_8] ?_; intro gb273 hg w30 hbox hb; have BK273 := Aside0.mk (hbox); have GW273 := gee_ hg HB; have GE273 := gee_ hg HB; replace HB := belB_ HB hb; clear hb hbox hg; have hz_ := blk9_ BK273.out))
       go_ret
       exact ⟨by first | rfl | (simp [*] <;> rfl), belW_ HB⟩
      ·rw [if_neg c29] at H
       have c29b0 : (a0_4.toList == ([] : List UInt8)) = false := beq_eq_false_iff_ne.mpr c29
       have c29b1 : (a0_4.toList != ([] : List UInt8)) = true := bne_iff_ne.mpr c29
       obtain rfl := Option.some.inj H
       go_enter Tryd.func121, Tryd.ntmps121
       go_wp2_with (((with_reducible refine gate_dst (N := 1) rfl ?_); refine bxE_ 1 41 #[.int .i64 a0_0, .int .i64 a0_1, .int .i64 a0_2, .int .i64 a0_3, .string a0_4, .slice A0_5 l0_5.length c0_5, .int .i64 a0_6, .int .i64 a0_7, .bool a0_8] ?_; intro gb273 hg w32 hbox hb; have BK273 := Aside0.mk (hbox); have GW273 := gee_ hg HB; have GE273 := gee_ hg HB; replace HB := belB_ HB hb; clear hb hbox hg; have hz_ := blk9_ BK273.out))
       go_ret
       exact ⟨by first | rfl | (simp [*] <;> rfl), belW_ HB⟩
     ·rw [if_neg c28] at H
      have c28b0 : (a0_2 == 4) = false := beq_eq_false_iff_ne.mpr c28
      have c28b1 : (a0_2 != 4) = true := bne_iff_ne.mpr c28
      by_cases c34 : a0_4.toList = ([] : List UInt8)
      ·rw [if_pos c34] at H
       have c34b0 : (a0_4.toList == ([] : List UInt8)) = true := beq_iff_eq.mpr c34
       have c34b1 : (a0_4.toList != ([] : List UInt8)) = false := bne_eq_false_iff_eq.mpr c34
       clear c34
       obtain rfl := Option.some.inj H
       go_enter Tryd.func121, Tryd.ntmps121
       go_wp2_with (((with_reducible refine gate_dst (N := 1) rfl ?_); refine bxE_ 1 41 #[.int .i64 a0_0, .int .i64 a0_1, .int .i64 a0_2, .int .i64 a0_3, .string a0_4, .slice A0_5 l0_5.length c0_5, .int .i64 a0_6, .int .i64 a0_7, .bool a0_8] ?_; intro gb273 hg w35 hbox hb; have BK273 := Aside0.mk (hbox); have GW273 := gee_ hg HB; have GE273 := gee_ hg HB; replace HB := belB_ HB hb; clear hb hbox hg; have hz_ := blk9_ BK273.out))
       go_ret
       exact ⟨by first | rfl | (simp [*] <;> rfl), belW_ HB⟩
      ·rw [if_neg c34] at H
       have c34b0 : (a0_4.toList == ([] : List UInt8)) = false := beq_eq_false_iff_ne.mpr c34
       have c34b1 : (a0_4.toList != ([] : List UInt8)) = true := bne_iff_ne.mpr c34
       obtain rfl := Option.some.inj H
       go_enter Tryd.func121, Tryd.ntmps121
       go_wp2_with (((with_reducible refine gate_dst (N := 1) rfl ?_); refine bxE_ 1 41 #[.int .i64 a0_0, .int .i64 a0_1, .int .i64 a0_2, .int .i64 a0_3, .string a0_4, .slice A0_5 l0_5.length c0_5, .int .i64 a0_6, .int .i64 a0_7, .bool a0_8] ?_; intro gb273 hg w37 hbox hb; have BK273 := Aside0.mk (hbox); have GW273 := gee_ hg HB; have GE273 := gee_ hg HB; replace HB := belB_ HB hb; clear hb hbox hg; have hz_ := blk9_ BK273.out))
       go_ret
       exact ⟨by first | rfl | (simp [*] <;> rfl), belW_ HB⟩
  ·rw [if_neg c3] at H
   have c3b0 : (a0_6 == 0) = false := beq_eq_false_iff_ne.mpr c3
   have c3b1 : (a0_6 != 0) = true := bne_iff_ne.mpr c3
   by_cases c39 : a0_2 = 1
   ·rw [if_pos c39] at H
    have c39b0 : (a0_2 == 1) = true := beq_iff_eq.mpr c39
    have c39b1 : (a0_2 != 1) = false := bne_eq_false_iff_eq.mpr c39
    clear c39
    by_cases c40 : (l0_5.length : Int) > 0
    ·rw [if_pos c40] at H
     have c40b0 : decide (0 < (l0_5.length : Int)) = true := decide_eq_true c40
     have c40b1 : decide (0 < l0_5.length) = true := decide_eq_true (by omega)
     clear c40
     obtain rfl := Option.some.inj H
     go_enter Tryd.func121, Tryd.ntmps121
     go_wp2_with (((with_reducible refine gate_dst (N := 1) rfl ?_); refine bxE_ 1 41 #[.int .i64 a0_0, .int .i64 a0_1, .int .i64 a0_2, .int .i64 a0_3, .string a0_4, .slice A0_5 l0_5.length c0_5, .int .i64 a0_6, .int .i64 a0_7, .bool a0_8] ?_; intro gb273 hg w41 hbox hb; have BK273 := Aside0.mk (hbox); have GW273 := gee_ hg HB; have GE273 := gee_ hg HB; replace HB := belB_ HB hb; clear hb hbox hg; have hz_ := blk9_ BK273.out))
     go_ret
     exact ⟨by first | rfl | (simp [*] <;> rfl), belW_ HB⟩
    ·rw [if_neg c40] at H
     have c40b0 : decide (0 < (l0_5.length : Int)) = false := decide_eq_false c40
     have c40b1 : decide (0 < l0_5.length) = false := decide_eq_false (by omega)
     clear c40
     obtain rfl := Option.some.inj H
     go_enter Tryd.func121, Tryd.ntmps121
     go_wp2_with (((with_reducible refine gate_dst (N := 1) rfl ?_); refine bxE_ 1 41 #[.int .i64 a0_0, .int .i64 a0_1, .int .i64 a0_2, .int .i64 a0_3, .string a0_4, .slice A0_5 l0_5.length c0_5, .int .i64 a0_6, .int .i64 a0_7, .bool a0_8] ?_; intro gb273 hg w43 hbox hb; have BK273 := Aside0.mk (hbox); have GW273 := gee_ hg HB; have GE273 := gee_ hg HB; replace HB := belB_ HB hb; clear hb hbox hg; have hz_ := blk9_ BK273.out))
     go_ret
     exact ⟨by first | rfl | (simp [*] <;> rfl), belW_ HB⟩
   ·rw [if_neg c39] at H
    have c39b0 : (a0_2 == 1) = false := beq_eq_false_iff_ne.mpr c39
    have c39b1 : (a0_2 != 1) = true := bne_iff_ne.mpr c39
    by_cases c45 : a0_2 = 4
    ·rw [if_pos c45] at H
     have c45b0 : (a0_2 == 4) = true := beq_iff_eq.mpr c45
     have c45b1 : (a0_2 != 4) = false := bne_eq_false_iff_eq.mpr c45
     clear c45
     by_cases c46 : a0_4.toList = ([] : List UInt8)
     ·rw [if_pos c46] at H
      have c46b0 : (a0_4.toList == ([] : List UInt8)) = true := beq_iff_eq.mpr c46
      have c46b1 : (a0_4.toList != ([] : List UInt8)) = false := bne_eq_false_iff_eq.mpr c46
      clear c46
      obtain rfl := Option.some.inj H
      go_enter Tryd.func121, Tryd.ntmps121
      go_wp2_with (((with_reducible refine gate_dst (N := 1) rfl ?_); refine bxE_ 1 41 #[.int .i64 a0_0, .int .i64 a0_1, .int .i64 a0_2, .int .i64 a0_3, .string a0_4, .slice A0_5 l0_5.length c0_5, .int .i64 a0_6, .int .i64 a0_7, .bool a0_8] ?_; intro gb273 hg w47 hbox hb; have BK273 := Aside0.mk (hbox); have GW273 := gee_ hg HB; have GE273 := gee_ hg HB; replace HB := belB_ HB hb; clear hb hbox hg; have hz_ := blk9_ BK273.out))
      go_ret
      exact ⟨by first | rfl | (simp [*] <;> rfl), belW_ HB⟩
     ·rw [if_neg c46] at H
      have c46b0 : (a0_4.toList == ([] : List UInt8)) = false := beq_eq_false_iff_ne.mpr c46
      have c46b1 : (a0_4.toList != ([] : List UInt8)) = true := bne_iff_ne.mpr c46
      obtain rfl := Option.some.inj H
      go_enter Tryd.func121, Tryd.ntmps121
      go_wp2_with (((with_reducible refine gate_dst (N := 1) rfl ?_); refine bxE_ 1 41 #[.int .i64 a0_0, .int .i64 a0_1, .int .i64 a0_2, .int .i64 a0_3, .string a0_4, .slice A0_5 l0_5.length c0_5, .int .i64 a0_6, .int .i64 a0_7, .bool a0_8] ?_; intro gb273 hg w49 hbox hb; have BK273 := Aside0.mk (hbox); have GW273 := gee_ hg HB; have GE273 := gee_ hg HB; replace HB := belB_ HB hb; clear hb hbox hg; have hz_ := blk9_ BK273.out))
      go_ret
      exact ⟨by first | rfl | (simp [*] <;> rfl), belW_ HB⟩
    ·rw [if_neg c45] at H
     have c45b0 : (a0_2 == 4) = false := beq_eq_false_iff_ne.mpr c45
     have c45b1 : (a0_2 != 4) = true := bne_iff_ne.mpr c45
     by_cases c51 : a0_4.toList = ([] : List UInt8)
     ·rw [if_pos c51] at H
      have c51b0 : (a0_4.toList == ([] : List UInt8)) = true := beq_iff_eq.mpr c51
      have c51b1 : (a0_4.toList != ([] : List UInt8)) = false := bne_eq_false_iff_eq.mpr c51
      clear c51
      obtain rfl := Option.some.inj H
      go_enter Tryd.func121, Tryd.ntmps121
      go_wp2_with (((with_reducible refine gate_dst (N := 1) rfl ?_); refine bxE_ 1 41 #[.int .i64 a0_0, .int .i64 a0_1, .int .i64 a0_2, .int .i64 a0_3, .string a0_4, .slice A0_5 l0_5.length c0_5, .int .i64 a0_6, .int .i64 a0_7, .bool a0_8] ?_; intro gb273 hg w52 hbox hb; have BK273 := Aside0.mk (hbox); have GW273 := gee_ hg HB; have GE273 := gee_ hg HB; replace HB := belB_ HB hb; clear hb hbox hg; have hz_ := blk9_ BK273.out))
      go_ret
      exact ⟨by first | rfl | (simp [*] <;> rfl), belW_ HB⟩
     ·rw [if_neg c51] at H
      have c51b0 : (a0_4.toList == ([] : List UInt8)) = false := beq_eq_false_iff_ne.mpr c51
      have c51b1 : (a0_4.toList != ([] : List UInt8)) = true := bne_iff_ne.mpr c51
      obtain rfl := Option.some.inj H
      go_enter Tryd.func121, Tryd.ntmps121
      go_wp2_with (((with_reducible refine gate_dst (N := 1) rfl ?_); refine bxE_ 1 41 #[.int .i64 a0_0, .int .i64 a0_1, .int .i64 a0_2, .int .i64 a0_3, .string a0_4, .slice A0_5 l0_5.length c0_5, .int .i64 a0_6, .int .i64 a0_7, .bool a0_8] ?_; intro gb273 hg w54 hbox hb; have BK273 := Aside0.mk (hbox); have GW273 := gee_ hg HB; have GE273 := gee_ hg HB; replace HB := belB_ HB hb; clear hb hbox hg; have hz_ := blk9_ BK273.out))
      go_ret
      exact ⟨by first | rfl | (simp [*] <;> rfl), belW_ HB⟩
 ·rw [if_neg c2] at H
  have c2b0 : (a0_3 == 0) = false := beq_eq_false_iff_ne.mpr c2
  have c2b1 : (a0_3 != 0) = true := bne_iff_ne.mpr c2
  by_cases c56 : a0_6 = 0
  ·rw [if_pos c56] at H
   have c56b0 : (a0_6 == 0) = true := beq_iff_eq.mpr c56
   have c56b1 : (a0_6 != 0) = false := bne_eq_false_iff_eq.mpr c56
   clear c56
   by_cases c57 : a0_7 = 0
   ·rw [if_pos c57] at H
    have c57b0 : (a0_7 == 0) = true := beq_iff_eq.mpr c57
    have c57b1 : (a0_7 != 0) = false := bne_eq_false_iff_eq.mpr c57
    clear c57
    by_cases c58 : a0_2 = 1
    ·rw [if_pos c58] at H
     have c58b0 : (a0_2 == 1) = true := beq_iff_eq.mpr c58
     have c58b1 : (a0_2 != 1) = false := bne_eq_false_iff_eq.mpr c58
     clear c58
     by_cases c59 : (l0_5.length : Int) > 0
     ·rw [if_pos c59] at H
      have c59b0 : decide (0 < (l0_5.length : Int)) = true := decide_eq_true c59
      have c59b1 : decide (0 < l0_5.length) = true := decide_eq_true (by omega)
      clear c59
      obtain rfl := Option.some.inj H
      go_enter Tryd.func121, Tryd.ntmps121
      go_wp2_with (((with_reducible refine gate_dst (N := 1) rfl ?_); refine bxE_ 1 41 #[.int .i64 a0_0, .int .i64 a0_1, .int .i64 a0_2, .int .i64 a0_3, .string a0_4, .slice A0_5 l0_5.length c0_5, .int .i64 a0_6, .int .i64 a0_7, .bool a0_8] ?_; intro gb273 hg w60 hbox hb; have BK273 := Aside0.mk (hbox); have GW273 := gee_ hg HB; have GE273 := gee_ hg HB; replace HB := belB_ HB hb; clear hb hbox hg; have hz_ := blk9_ BK273.out))
      go_ret
      exact ⟨by first | rfl | (simp [*] <;> rfl), belW_ HB⟩
     ·rw [if_neg c59] at H
      have c59b0 : decide (0 < (l0_5.length : Int)) = false := decide_eq_false c59
      have c59b1 : decide (0 < l0_5.length) = false := decide_eq_false (by omega)
      clear c59
      obtain rfl := Option.some.inj H
      go_enter Tryd.func121, Tryd.ntmps121
      go_wp2_with (((with_reducible refine gate_dst (N := 1) rfl ?_); refine bxE_ 1 41 #[.int .i64 a0_0, .int .i64 a0_1, .int .i64 a0_2, .int .i64 a0_3, .string a0_4, .slice A0_5 l0_5.length c0_5, .int .i64 a0_6, .int .i64 a0_7, .bool a0_8] ?_; intro gb273 hg w62 hbox hb; have BK273 := Aside0.mk (hbox); have GW273 := gee_ hg HB; have GE273 := gee_ hg HB; replace HB := belB_ HB hb; clear hb hbox hg; have hz_ := blk9_ BK273.out))
      go_ret
      exact ⟨by first | rfl | (simp [*] <;> rfl), belW_ HB⟩
    ·rw [if_neg c58] at H
     have c58b0 : (a0_2 == 1) = false := beq_eq_false_iff_ne.mpr c58
     have c58b1 : (a0_2 != 1) = true := bne_iff_ne.mpr c58
     by_cases c64 : a0_2 = 4
     ·rw [if_pos c64] at H
      have c64b0 : (a0_2 == 4) = true := beq_iff_eq.mpr c64
      have c64b1 : (a0_2 != 4) = false := bne_eq_false_iff_eq.mpr c64
      clear c64
      obtain rfl := Option.some.inj H
      go_enter Tryd.func121, Tryd.ntmps121
      go_wp2_with (((with_reducible refine gate_dst (N := 1) rfl ?_); refine bxE_ 1 41 #[.int .i64 a0_0, .int .i64 a0_1, .int .i64 a0_2, .int .i64 a0_3, .string a0_4, .slice A0_5 l0_5.length c0_5, .int .i64 a0_6, .int .i64 a0_7, .bool a0_8] ?_; intro gb273 hg w65 hbox hb; have BK273 := Aside0.mk (hbox); have GW273 := gee_ hg HB; have GE273 := gee_ hg HB; replace HB := belB_ HB hb; clear hb hbox hg; have hz_ := blk9_ BK273.out))
      go_ret
      exact ⟨by first | rfl | (simp [*] <;> rfl), belW_ HB⟩
     ·rw [if_neg c64] at H
      have c64b0 : (a0_2 == 4) = false := beq_eq_false_iff_ne.mpr c64
      have c64b1 : (a0_2 != 4) = true := bne_iff_ne.mpr c64
      obtain rfl := Option.some.inj H
      go_enter Tryd.func121, Tryd.ntmps121
      go_wp2_with (((with_reducible refine gate_dst (N := 1) rfl ?_); refine bxE_ 1 41 #[.int .i64 a0_0, .int .i64 a0_1, .int .i64 a0_2, .int .i64 a0_3, .string a0_4, .slice A0_5 l0_5.length c0_5, .int .i64 a0_6, .int .i64 a0_7, .bool a0_8] ?_; intro gb273 hg w67 hbox hb; have BK273 := Aside0.mk (hbox); have GW273 := gee_ hg HB; have GE273 := gee_ hg HB; replace HB := belB_ HB hb; clear hb hbox hg; have hz_ := blk9_ BK273.out))
      go_ret
      exact ⟨by first | rfl | (simp [*] <;> rfl), belW_ HB⟩
   ·rw [if_neg c57] at H
    have c57b0 : (a0_7 == 0) = false := beq_eq_false_iff_ne.mpr c57
    have c57b1 : (a0_7 != 0) = true := bne_iff_ne.mpr c57
    by_cases c69 : a0_2 = 1
    ·rw [if_pos c69] at H
     have c69b0 : (a0_2 == 1) = true := beq_iff_eq.mpr c69
     have c69b1 : (a0_2 != 1) = false := bne_eq_false_iff_eq.mpr c69
     clear c69
     by_cases c70 : (l0_5.length : Int) > 0
     ·rw [if_pos c70] at H
      have c70b0 : decide (0 < (l0_5.length : Int)) = true := decide_eq_true c70
      have c70b1 : decide (0 < l0_5.length) = true := decide_eq_true (by omega)
      clear c70
      obtain rfl := Option.some.inj H
      go_enter Tryd.func121, Tryd.ntmps121
      go_wp2_with (((with_reducible refine gate_dst (N := 1) rfl ?_); refine bxE_ 1 41 #[.int .i64 a0_0, .int .i64 a0_1, .int .i64 a0_2, .int .i64 a0_3, .string a0_4, .slice A0_5 l0_5.length c0_5, .int .i64 a0_6, .int .i64 a0_7, .bool a0_8] ?_; intro gb273 hg w71 hbox hb; have BK273 := Aside0.mk (hbox); have GW273 := gee_ hg HB; have GE273 := gee_ hg HB; replace HB := belB_ HB hb; clear hb hbox hg; have hz_ := blk9_ BK273.out))
      go_ret
      exact ⟨by first | rfl | (simp [*] <;> rfl), belW_ HB⟩
     ·rw [if_neg c70] at H
      have c70b0 : decide (0 < (l0_5.length : Int)) = false := decide_eq_false c70
      have c70b1 : decide (0 < l0_5.length) = false := decide_eq_false (by omega)
      clear c70
      obtain rfl := Option.some.inj H
      go_enter Tryd.func121, Tryd.ntmps121
      go_wp2_with (((with_reducible refine gate_dst (N := 1) rfl ?_); refine bxE_ 1 41 #[.int .i64 a0_0, .int .i64 a0_1, .int .i64 a0_2, .int .i64 a0_3, .string a0_4, .slice A0_5 l0_5.length c0_5, .int .i64 a0_6, .int .i64 a0_7, .bool a0_8] ?_; intro gb273 hg w73 hbox hb; have BK273 := Aside0.mk (hbox); have GW273 := gee_ hg HB; have GE273 := gee_ hg HB; replace HB := belB_ HB hb; clear hb hbox hg; have hz_ := blk9_ BK273.out))
      go_ret
      exact ⟨by first | rfl | (simp [*] <;> rfl), belW_ HB⟩
    ·rw [if_neg c69] at H
     have c69b0 : (a0_2 == 1) = false := beq_eq_false_iff_ne.mpr c69
     have c69b1 : (a0_2 != 1) = true := bne_iff_ne.mpr c69
     by_cases c75 : a0_2 = 4
     ·rw [if_pos c75] at H
      have c75b0 : (a0_2 == 4) = true := beq_iff_eq.mpr c75
      have c75b1 : (a0_2 != 4) = false := bne_eq_false_iff_eq.mpr c75
      clear c75
      obtain rfl := Option.some.inj H
      go_enter Tryd.func121, Tryd.ntmps121
      go_wp2_with (((with_reducible refine gate_dst (N := 1) rfl ?_); refine bxE_ 1 41 #[.int .i64 a0_0, .int .i64 a0_1, .int .i64 a0_2, .int .i64 a0_3, .string a0_4, .slice A0_5 l0_5.length c0_5, .int .i64 a0_6, .int .i64 a0_7, .bool a0_8] ?_; intro gb273 hg w76 hbox hb; have BK273 := Aside0.mk (hbox); have GW273 := gee_ hg HB; have GE273 := gee_ hg HB; replace HB := belB_ HB hb; clear hb hbox hg; have hz_ := blk9_ BK273.out))
      go_ret
      exact ⟨by first | rfl | (simp [*] <;> rfl), belW_ HB⟩
     ·rw [if_neg c75] at H
      have c75b0 : (a0_2 == 4) = false := beq_eq_false_iff_ne.mpr c75
      have c75b1 : (a0_2 != 4) = true := bne_iff_ne.mpr c75
      obtain rfl := Option.some.inj H
      go_enter Tryd.func121, Tryd.ntmps121
      go_wp2_with (((with_reducible refine gate_dst (N := 1) rfl ?_); refine bxE_ 1 41 #[.int .i64 a0_0, .int .i64 a0_1, .int .i64 a0_2, .int .i64 a0_3, .string a0_4, .slice A0_5 l0_5.length c0_5, .int .i64 a0_6, .int .i64 a0_7, .bool a0_8] ?_; intro gb273 hg w78 hbox hb; have BK273 := Aside0.mk (hbox); have GW273 := gee_ hg HB; have GE273 := gee_ hg HB; replace HB := belB_ HB hb; clear hb hbox hg; have hz_ := blk9_ BK273.out))
      go_ret
      exact ⟨by first | rfl | (simp [*] <;> rfl), belW_ HB⟩
  ·rw [if_neg c56] at H
   have c56b0 : (a0_6 == 0) = false := beq_eq_false_iff_ne.mpr c56
   have c56b1 : (a0_6 != 0) = true := bne_iff_ne.mpr c56
   by_cases c80 : a0_2 = 1
   ·rw [if_pos c80] at H
    have c80b0 : (a0_2 == 1) = true := beq_iff_eq.mpr c80
    have c80b1 : (a0_2 != 1) = false := bne_eq_false_iff_eq.mpr c80
    clear c80
    by_cases c81 : (l0_5.length : Int) > 0
    ·rw [if_pos c81] at H
     have c81b0 : decide (0 < (l0_5.length : Int)) = true := decide_eq_true c81
     have c81b1 : decide (0 < l0_5.length) = true := decide_eq_true (by omega)
     clear c81
     obtain rfl := Option.some.inj H
     go_enter Tryd.func121, Tryd.ntmps121
     go_wp2_with (((with_reducible refine gate_dst (N := 1) rfl ?_); refine bxE_ 1 41 #[.int .i64 a0_0, .int .i64 a0_1, .int .i64 a0_2, .int .i64 a0_3, .string a0_4, .slice A0_5 l0_5.length c0_5, .int .i64 a0_6, .int .i64 a0_7, .bool a0_8] ?_; intro gb273 hg w82 hbox hb; have BK273 := Aside0.mk (hbox); have GW273 := gee_ hg HB; have GE273 := gee_ hg HB; replace HB := belB_ HB hb; clear hb hbox hg; have hz_ := blk9_ BK273.out))
     go_ret
     exact ⟨by first | rfl | (simp [*] <;> rfl), belW_ HB⟩
    ·rw [if_neg c81] at H
     have c81b0 : decide (0 < (l0_5.length : Int)) = false := decide_eq_false c81
     have c81b1 : decide (0 < l0_5.length) = false := decide_eq_false (by omega)
     clear c81
     obtain rfl := Option.some.inj H
     go_enter Tryd.func121, Tryd.ntmps121
     go_wp2_with (((with_reducible refine gate_dst (N := 1) rfl ?_); refine bxE_ 1 41 #[.int .i64 a0_0, .int .i64 a0_1, .int .i64 a0_2, .int .i64 a0_3, .string a0_4, .slice A0_5 l0_5.length c0_5, .int .i64 a0_6, .int .i64 a0_7, .bool a0_8] ?_; intro gb273 hg w84 hbox hb; have BK273 := Aside0.mk (hbox); have GW273 := gee_ hg HB; have GE273 := gee_ hg HB; replace HB := belB_ HB hb; clear hb hbox hg; have hz_ := blk9_ BK273.out))
     go_ret
     exact ⟨by first | rfl | (simp [*] <;> rfl), belW_ HB⟩
   ·rw [if_neg c80] at H
    have c80b0 : (a0_2 == 1) = false := beq_eq_false_iff_ne.mpr c80
    have c80b1 : (a0_2 != 1) = true := bne_iff_ne.mpr c80
    by_cases c86 : a0_2 = 4
    ·rw [if_pos c86] at H
     have c86b0 : (a0_2 == 4) = true := beq_iff_eq.mpr c86
     have c86b1 : (a0_2 != 4) = false := bne_eq_false_iff_eq.mpr c86
     clear c86
     obtain rfl := Option.some.inj H
     go_enter Tryd.func121, Tryd.ntmps121
     go_wp2_with (((with_reducible refine gate_dst (N := 1) rfl ?_); refine bxE_ 1 41 #[.int .i64 a0_0, .int .i64 a0_1, .int .i64 a0_2, .int .i64 a0_3, .string a0_4, .slice A0_5 l0_5.length c0_5, .int .i64 a0_6, .int .i64 a0_7, .bool a0_8] ?_; intro gb273 hg w87 hbox hb; have BK273 := Aside0.mk (hbox); have GW273 := gee_ hg HB; have GE273 := gee_ hg HB; replace HB := belB_ HB hb; clear hb hbox hg; have hz_ := blk9_ BK273.out))
     go_ret
     exact ⟨by first | rfl | (simp [*] <;> rfl), belW_ HB⟩
    ·rw [if_neg c86] at H
     have c86b0 : (a0_2 == 4) = false := beq_eq_false_iff_ne.mpr c86
     have c86b1 : (a0_2 != 4) = true := bne_iff_ne.mpr c86
     obtain rfl := Option.some.inj H
     go_enter Tryd.func121, Tryd.ntmps121
     go_wp2_with (((with_reducible refine gate_dst (N := 1) rfl ?_); refine bxE_ 1 41 #[.int .i64 a0_0, .int .i64 a0_1, .int .i64 a0_2, .int .i64 a0_3, .string a0_4, .slice A0_5 l0_5.length c0_5, .int .i64 a0_6, .int .i64 a0_7, .bool a0_8] ?_; intro gb273 hg w89 hbox hb; have BK273 := Aside0.mk (hbox); have GW273 := gee_ hg HB; have GE273 := gee_ hg HB; replace HB := belB_ HB hb; clear hb hbox hg; have hz_ := blk9_ BK273.out))
     go_ret
     exact ⟨by first | rfl | (simp [*] <;> rfl), belW_ HB⟩

end Go.Proofs.YtloccjkcmlkifaaDoor.PAll
