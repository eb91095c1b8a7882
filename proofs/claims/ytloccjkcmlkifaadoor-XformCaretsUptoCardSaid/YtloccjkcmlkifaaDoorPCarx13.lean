import Derived.Test.YtloccjkcmlkifaaDoorXLoad
import Derived.Test.YtloccjkcmlkifaaDoorPCarx0
import Derived.Test.YtloccjkcmlkifaaDoorPCarx5
import Derived.Test.YtloccjkcmlkifaaDoorPCarx12
namespace Go.Proofs.YtloccjkcmlkifaaDoor.PCar
open Go.RowKit Go.Proofs.YtloccjkcmlkifaaDoorW.PrintWords Go.Proofs.YtloccjkcmlkifaaDoorW.PrintLast Go.Proofs.YtloccjkcmlkifaaDoorW.PrintMore
attribute [local go_sem] max2_int min2_int max_two min_two max_three min_three max_four min_four   -- for this text's walks alone
set_option linter.unusedVariables false
set_option linter.unusedSimpArgs false

attribute [local go_sem high] idx34_0 idx34_1 idx35_0 idx35_1
mutual
def redraftlaw05_played.l0 : Nat → List (S100) → Int → Int → Int → Option (Bool)
 | 0, _, _, _, _ => none
 | k + 1, x0, x1, x2, x7 => if x7 < (x0.length : Int) then (if 0 ≤ x7 then (if ((rd_T100 x0 x7).f0) ≥ x1 then (redraftlaw05_played.j1 k x0 x1 x2 x7 (decide (((rd_T100 x0 x7).f0) ≤ x2)) ((rd_T100 x0 x7).f0) ((rd_T100 x0 x7).f1.f0.f0.f0) ((rd_T100 x0 x7).f1.f0.f0.f1) ((rd_T100 x0 x7).f1.f0.f1) ((rd_T100 x0 x7).f1.f1) ((rd_T100 x0 x7).f1.f2) ((rd_T100 x0 x7).f1.f3) ((rd_T100 x0 x7).f1.f4.f0) ((rd_T100 x0 x7).f1.f4.f1) ((rd_T100 x0 x7).f1.f5) ((rd_T100 x0 x7).f2.f0.f0.f0) ((rd_T100 x0 x7).f2.f0.f0.f1) ((rd_T100 x0 x7).f2.f0.f1) ((rd_T100 x0 x7).f2.f1) ((rd_T100 x0 x7).f2.f2) ((rd_T100 x0 x7).f2.f3) ((rd_T100 x0 x7).f2.f4.f0) ((rd_T100 x0 x7).f2.f4.f1) ((rd_T100 x0 x7).f2.f5) ((rd_T100 x0 x7).f3) ((rd_T100 x0 x7).f4) ((rd_T100 x0 x7).f5) ((rd_T100 x0 x7).f6) ((rd_T100 x0 x7).f7)) else (redraftlaw05_played.j1 k x0 x1 x2 x7 false ((rd_T100 x0 x7).f0) ((rd_T100 x0 x7).f1.f0.f0.f0) ((rd_T100 x0 x7).f1.f0.f0.f1) ((rd_T100 x0 x7).f1.f0.f1) ((rd_T100 x0 x7).f1.f1) ((rd_T100 x0 x7).f1.f2) ((rd_T100 x0 x7).f1.f3) ((rd_T100 x0 x7).f1.f4.f0) ((rd_T100 x0 x7).f1.f4.f1) ((rd_T100 x0 x7).f1.f5) ((rd_T100 x0 x7).f2.f0.f0.f0) ((rd_T100 x0 x7).f2.f0.f0.f1) ((rd_T100 x0 x7).f2.f0.f1) ((rd_T100 x0 x7).f2.f1) ((rd_T100 x0 x7).f2.f2) ((rd_T100 x0 x7).f2.f3) ((rd_T100 x0 x7).f2.f4.f0) ((rd_T100 x0 x7).f2.f4.f1) ((rd_T100 x0 x7).f2.f5) ((rd_T100 x0 x7).f3) ((rd_T100 x0 x7).f4) ((rd_T100 x0 x7).f5) ((rd_T100 x0 x7).f6) ((rd_T100 x0 x7).f7))) else (none)) else (some true)
def redraftlaw05_played.j1 : Nat → List (S100) → Int → Int → Int → Bool → Int → Int → Int → Int → Int → ByteArray → List (S94) → Int → Int → Bool → Int → Int → Int → Int → ByteArray → List (S94) → Int → Int → Bool → List (S41) → List (S41) → Bool → Int → Int → Option (Bool)
 | 0, _, _, _, _, _, _, _, _, _, _, _, _, _, _, _, _, _, _, _, _, _, _, _, _, _, _, _, _, _ => none
 | k + 1, x0, x1, x2, x7, x29, x296000, x296001, x296002, x296003, x296004, x296005, x296006, x296007, x296008, x296009, x296010, x296011, x296012, x296013, x296014, x296015, x296016, x296017, x296018, x296019, x296020, x296021, x296022, x296023 => if x29 = true then ((redraftlaw05_plays.f k x296000 x296001 x296002 x296003 x296004 x296005 x296006 x296007 x296008 x296009 x296010 x296011 x296012 x296013 x296014 x296015 x296016 x296017 x296018 x296019 x296020 x296021 x296022 x296023).bind fun t296 => (if t296 = true then (redraftlaw05_played.l0 k x0 x1 x2 (wrap64 (x7 + 1))) else (some false))) else (redraftlaw05_played.l0 k x0 x1 x2 (wrap64 (x7 + 1)))
end
def redraftlaw05_played.f (k : Nat) (l0 : List (S100)) (a1 : Int) (a2 : Int) : Option (Bool) := redraftlaw05_played.l0 k l0 a1 a2 0
theorem redraftlaw05_played.mono_l : ∀ k, (∀ y0 y1 y2 y3, LeO (redraftlaw05_played.l0 k y0 y1 y2 y3) (redraftlaw05_played.l0 (k + 1) y0 y1 y2 y3)) ∧ (∀ y0 y1 y2 y3 y4 y5 y6 y7 y8 y9 y10 y11 y12 y13 y14 y15 y16 y17 y18 y19 y20 y21 y22 y23 y24 y25 y26 y27 y28, LeO (redraftlaw05_played.j1 k y0 y1 y2 y3 y4 y5 y6 y7 y8 y9 y10 y11 y12 y13 y14 y15 y16 y17 y18 y19 y20 y21 y22 y23 y24 y25 y26 y27 y28) (redraftlaw05_played.j1 (k + 1) y0 y1 y2 y3 y4 y5 y6 y7 y8 y9 y10 y11 y12 y13 y14 y15 y16 y17 y18 y19 y20 y21 y22 y23 y24 y25 y26 y27 y28))
 | 0 => ⟨fun _ _ _ _ r h => by simp [redraftlaw05_played.l0] at h, fun _ _ _ _ _ _ _ _ _ _ _ _ _ _ _ _ _ _ _ _ _ _ _ _ _ _ _ _ _ r h => by simp [redraftlaw05_played.j1] at h⟩
 | k + 1 => by
  obtain ⟨ih0, ih1⟩ := redraftlaw05_played.mono_l k
  refine ⟨?_, ?_⟩
  ·intro y0 y1 y2 y3
   unfold redraftlaw05_played.l0
   repeat' first
   | (with_reducible exact ih0 _ _ _ _)
   | (with_reducible exact ih1 _ _ _ _ _ _ _ _ _ _ _ _ _ _ _ _ _ _ _ _ _ _ _ _ _ _ _ _ _)
   | (with_reducible exact redraftlaw05_plays.mono _ _ _ _ _ _ _ _ _ _ _ _ _ _ _ _ _ _ _ _ _ _ _ _ _)
   | (with_reducible exact LeO.refl _)
   | (with_reducible exact LeO.none _)
   | (with_reducible refine LeO.ite ?_ ?_)
   | (with_reducible refine LeO.bind ?_ (fun _ => ?_))
   | exact ih0 _ _ _ _
   | exact ih1 _ _ _ _ _ _ _ _ _ _ _ _ _ _ _ _ _ _ _ _ _ _ _ _ _ _ _ _ _
   | exact redraftlaw05_plays.mono _ _ _ _ _ _ _ _ _ _ _ _ _ _ _ _ _ _ _ _ _ _ _ _ _
   | exact LeO.none _
   | refine LeO.ite ?_ ?_
   | refine LeO.bind ?_ (fun _ => ?_)
  ·intro y0 y1 y2 y3 y4 y5 y6 y7 y8 y9 y10 y11 y12 y13 y14 y15 y16 y17 y18 y19 y20 y21 y22 y23 y24 y25 y26 y27 y28
   unfold redraftlaw05_played.j1
   repeat' first
   | (with_reducible exact ih0 _ _ _ _)
   | (with_reducible exact ih1 _ _ _ _ _ _ _ _ _ _ _ _ _ _ _ _ _ _ _ _ _ _ _ _ _ _ _ _ _)
   | (with_reducible exact redraftlaw05_plays.mono _ _ _ _ _ _ _ _ _ _ _ _ _ _ _ _ _ _ _ _ _ _ _ _ _)
   | (with_reducible exact LeO.refl _)
   | (with_reducible exact LeO.none _)
   | (with_reducible refine LeO.ite ?_ ?_)
   | (with_reducible refine LeO.bind ?_ (fun _ => ?_))
   | exact ih0 _ _ _ _
   | exact ih1 _ _ _ _ _ _ _ _ _ _ _ _ _ _ _ _ _ _ _ _ _ _ _ _ _ _ _ _ _
   | exact redraftlaw05_plays.mono _ _ _ _ _ _ _ _ _ _ _ _ _ _ _ _ _ _ _ _ _ _ _ _ _
   | exact LeO.none _
   | refine LeO.ite ?_ ?_
   | refine LeO.bind ?_ (fun _ => ?_)
theorem redraftlaw05_played.mono : ∀ a0 a1 a2 k, LeO (redraftlaw05_played.f k a0 a1 a2) (redraftlaw05_played.f (k + 1) a0 a1 a2) := by
 intro a0 a1 a2 k
 obtain ⟨ih0, ih1⟩ := redraftlaw05_played.mono_l k
 unfold redraftlaw05_played.f
 repeat' first
   | (with_reducible exact ih0 _ _ _ _)
   | (with_reducible exact ih1 _ _ _ _ _ _ _ _ _ _ _ _ _ _ _ _ _ _ _ _ _ _ _ _ _ _ _ _ _)
   | (with_reducible exact redraftlaw05_plays.mono _ _ _ _ _ _ _ _ _ _ _ _ _ _ _ _ _ _ _ _ _ _ _ _ _)
   | (with_reducible exact LeO.refl _)
   | (with_reducible exact LeO.none _)
   | (with_reducible refine LeO.ite ?_ ?_)
   | (with_reducible refine LeO.bind ?_ (fun _ => ?_))
   | exact ih0 _ _ _ _
   | exact ih1 _ _ _ _ _ _ _ _ _ _ _ _ _ _ _ _ _ _ _ _ _ _ _ _ _ _ _ _ _
   | exact redraftlaw05_plays.mono _ _ _ _ _ _ _ _ _ _ _ _ _ _ _ _ _ _ _ _ _ _ _ _ _
   | exact LeO.none _
   | refine LeO.ite ?_ ?_
   | refine LeO.bind ?_ (fun _ => ?_)
set_option maxHeartbeats 8000000 in
set_option maxRecDepth 100000 in
theorem redraftlaw05_played.calls (k : Nat) (A0 : Option Addr) (c0 : Nat) (l0 : List (S100)) (a1 : Int) (a2 : Int) (r : Bool) (w : World) (hr0 : Kd.C k100 w A0 l0.length l0) (hc0 : l0.length ≤ c0) (hG : GW w) (h : redraftlaw05_played.f k l0 a1 a2 = some r) :
  Calls Tryd.prog 51 #[.slice A0 l0.length c0, .int .i64 a1, .int .i64 a2] w fun e w' => e = .returned (.bool r) ∧ Below w.heap.size w w' := by
 have hu100 := Tryd.underlying100
 have HR0 := Aside0.mk hr0
 have HC0 := Aside0.mk hc0
 clear hr0 hc0
 have HB := Aside0.mk (Below.refl w.heap.size w)
 have H : (redraftlaw05_played.l0 k l0 a1 a2 0) = some r := h
 clear h
 have H' := Aside0.mk H
 clear H
 go_enter Tryd.func51, Tryd.ntmps51
 go_wp2
 go_loopg [7] k (fun kq v7 w' => ∃ (x7_1 : Int), v7 = .int .i64 x7_1 ∧ Aside0 (redraftlaw05_played.l0 kq l0 a1 a2 x7_1 = some r) ∧ Aside0 (kq ≤ k) ∧ Aside0 (Below w.heap.size w w'))
 case atStart => exact ⟨(0), (by first | rfl | (simp; done) | (simp [*]; done)), H', ⟨Nat.le_refl _⟩, ⟨by repeat (first | (with_reducible first | exact HB.out | apply below_alloc | apply pw_below_drewN | apply below_drew1) | exact HB.out)⟩⟩
 case round =>
  clear H'
  try clear p2
  obtain ⟨x7_1, rfl, HA, HK1, HB⟩ := hrel
  cases gk with
  | zero => exact absurd HA.out (by simp [redraftlaw05_played.l0])
  | succ k1 =>
   have H := HA.out
   clear HA
   simp only [redraftlaw05_played.l0] at H
   by_cases c4 : x7_1 < (l0.length : Int)
   ·rw [if_pos c4] at H
    have c4b0 : decide (x7_1 < (l0.length : Int)) = true := decide_eq_true c4
    clear c4
    by_cases c5 : 0 ≤ x7_1
    ·rw [if_pos c5] at H
     have c5b0 : decide (0 ≤ x7_1) = true := decide_eq_true c5
     clear c5
     have HC6 := Aside0.mk H
     clear H
     have p294 : 0 ≤ (x7_1 : Int) := of_decide_eq_true (by first | (with_reducible assumption) | assumption)
     have q294 : x7_1 < (l0.length : Int) := of_decide_eq_true (by first | (with_reducible assumption) | assumption)
     obtain ⟨ad294, A294_6, c294_6, A294_15, c294_15, A294_19, c294_19, A294_20, c294_20, e294, hx294_0, hx294_1, hx294_2, hx294_3, hx294_4, hx294_5, hx294_6, hx294_7, hx294_8, hx294_9, hx294_10, hx294_11, hx294_12, hx294_13, hx294_14, hx294_15, hx294_16, hx294_17, hx294_18, hx294_19, hx294_20, hx294_21, hx294_22, hx294_23, hl294_6, hi294_6, hl294_15, hi294_15, hl294_19, hi294_19, hl294_20, hi294_20⟩ := at_T100 HR0.out x7_1 p294 q294
     cases e294
     replace hx294_0 := (HB.out.cell (World.block_lt_of_cell? w _ hx294_0)).trans hx294_0
     replace hx294_1 := (HB.out.cell (World.block_lt_of_cell? w _ hx294_1)).trans hx294_1
     replace hx294_2 := (HB.out.cell (World.block_lt_of_cell? w _ hx294_2)).trans hx294_2
     replace hx294_3 := (HB.out.cell (World.block_lt_of_cell? w _ hx294_3)).trans hx294_3
     replace hx294_4 := (HB.out.cell (World.block_lt_of_cell? w _ hx294_4)).trans hx294_4
     replace hx294_5 := (HB.out.cell (World.block_lt_of_cell? w _ hx294_5)).trans hx294_5
     replace hx294_6 := (HB.out.cell (World.block_lt_of_cell? w _ hx294_6)).trans hx294_6
     replace hx294_7 := (HB.out.cell (World.block_lt_of_cell? w _ hx294_7)).trans hx294_7
     replace hx294_8 := (HB.out.cell (World.block_lt_of_cell? w _ hx294_8)).trans hx294_8
     replace hx294_9 := (HB.out.cell (World.block_lt_of_cell? w _ hx294_9)).trans hx294_9
     replace hx294_10 := (HB.out.cell (World.block_lt_of_cell? w _ hx294_10)).trans hx294_10
     replace hx294_11 := (HB.out.cell (World.block_lt_of_cell? w _ hx294_11)).trans hx294_11
     replace hx294_12 := (HB.out.cell (World.block_lt_of_cell? w _ hx294_12)).trans hx294_12
     replace hx294_13 := (HB.out.cell (World.block_lt_of_cell? w _ hx294_13)).trans hx294_13
     replace hx294_14 := (HB.out.cell (World.block_lt_of_cell? w _ hx294_14)).trans hx294_14
     replace hx294_15 := (HB.out.cell (World.block_lt_of_cell? w _ hx294_15)).trans hx294_15
     replace hx294_16 := (HB.out.cell (World.block_lt_of_cell? w _ hx294_16)).trans hx294_16
     replace hx294_17 := (HB.out.cell (World.block_lt_of_cell? w _ hx294_17)).trans hx294_17
     replace hx294_18 := (HB.out.cell (World.block_lt_of_cell? w _ hx294_18)).trans hx294_18
     replace hx294_19 := (HB.out.cell (World.block_lt_of_cell? w _ hx294_19)).trans hx294_19
     replace hx294_20 := (HB.out.cell (World.block_lt_of_cell? w _ hx294_20)).trans hx294_20
     replace hx294_21 := (HB.out.cell (World.block_lt_of_cell? w _ hx294_21)).trans hx294_21
     replace hx294_22 := (HB.out.cell (World.block_lt_of_cell? w _ hx294_22)).trans hx294_22
     replace hx294_23 := (HB.out.cell (World.block_lt_of_cell? w _ hx294_23)).trans hx294_23
     have HR294_6 := Aside0.mk hi294_6
     have HC294_6 := Aside0.mk hl294_6
     clear hi294_6 hl294_6
     have HR294_15 := Aside0.mk hi294_15
     have HC294_15 := Aside0.mk hl294_15
     clear hi294_15 hl294_15
     have HR294_19 := Aside0.mk hi294_19
     have HC294_19 := Aside0.mk hl294_19
     clear hi294_19 hl294_19
     have HR294_20 := Aside0.mk hi294_20
     have HC294_20 := Aside0.mk hl294_20
     clear hi294_20 hl294_20
     replace p294 := eq_true p294
     replace q294 := eq_true q294
     go_upto_region 5 with (first | ((with_reducible refine gate_dst (N := 19) rfl ?_); refine load_event rfl 100 _ rfl _ rfl [.int .i64 ((rd_T100 l0 x7_1).f0), .int .i64 ((rd_T100 l0 x7_1).f1.f0.f0.f0), .int .i64 ((rd_T100 l0 x7_1).f1.f0.f0.f1), .int .i64 ((rd_T100 l0 x7_1).f1.f0.f1), .int .i64 ((rd_T100 l0 x7_1).f1.f1), .string ((rd_T100 l0 x7_1).f1.f2), .slice A294_6 ((rd_T100 l0 x7_1).f1.f3).length c294_6, .int .i64 ((rd_T100 l0 x7_1).f1.f4.f0), .int .i64 ((rd_T100 l0 x7_1).f1.f4.f1), .bool ((rd_T100 l0 x7_1).f1.f5), .int .i64 ((rd_T100 l0 x7_1).f2.f0.f0.f0), .int .i64 ((rd_T100 l0 x7_1).f2.f0.f0.f1), .int .i64 ((rd_T100 l0 x7_1).f2.f0.f1), .int .i64 ((rd_T100 l0 x7_1).f2.f1), .string ((rd_T100 l0 x7_1).f2.f2), .slice A294_15 ((rd_T100 l0 x7_1).f2.f3).length c294_15, .int .i64 ((rd_T100 l0 x7_1).f2.f4.f0), .int .i64 ((rd_T100 l0 x7_1).f2.f4.f1), .bool ((rd_T100 l0 x7_1).f2.f5), .slice A294_19 ((rd_T100 l0 x7_1).f3).length c294_19, .slice A294_20 ((rd_T100 l0 x7_1).f4).length c294_20, .bool ((rd_T100 l0 x7_1).f5), .int .i64 ((rd_T100 l0 x7_1).f6), .int .i64 ((rd_T100 l0 x7_1).f7)] _ ⟨hx294_0, hx294_1, hx294_2, hx294_3, hx294_4, hx294_5, hx294_6, hx294_7, hx294_8, hx294_9, hx294_10, hx294_11, hx294_12, hx294_13, hx294_14, hx294_15, hx294_16, hx294_17, hx294_18, hx294_19, hx294_20, hx294_21, hx294_22, hx294_23, trivial⟩ Tryd.underlying100 rfl (by kernel_rfl) ?_) | ((with_reducible refine gate_dst (N := 8) rfl ?_); refine box_event ?hg (N := 8) ?hd (cs := #[.int .i64 0, .int .i64 0, .int .i64 0, .int .i64 0, .int .i64 0, .string (⟨#[]⟩ : ByteArray), .slice none 0 0, .int .i64 0, .int .i64 0, .bool false, .int .i64 0, .int .i64 0, .int .i64 0, .int .i64 0, .string (⟨#[]⟩ : ByteArray), .slice none 0 0, .int .i64 0, .int .i64 0, .bool false, .slice none 0 0, .slice none 0 0, .bool false, .int .i64 0, .int .i64 0]) (t := 100) ?hr ?_; (case hd => rfl); (case hg => rfl); (case hr => first | (go_simp; done) | (go_simp; rfl)); intro gb295 hg w7 hbox hb; have n0_ := Aside0.mk (below_step (by repeat (first | (with_reducible first | exact HB.out | apply below_alloc | apply pw_below_drewN | apply below_drew1) | exact HB.out)) hb); have n1_ := Aside0.mk (hbox); have n2_ := Aside0.mk ((by rw [hg]; exact (below_size (by repeat (first | (with_reducible first | exact HB.out | apply below_alloc | apply pw_below_drewN | apply below_drew1) | exact HB.out))) : w.heap.size ≤ gb295)); have n3_ := Aside0.mk ((by rw [hg]; exact (below_size (by repeat (first | (with_reducible first | exact HB.out | apply below_alloc | apply pw_below_drewN | apply below_drew1) | exact HB.out))) : w.heap.size ≤ gb295)); clear HB; have HB := n0_; have BK295 := n1_; have GW295 := n2_; have GE295 := n3_; clear n0_ n1_ n2_ n3_; clear hb hbox hg; obtain ⟨hcz8_0, hcz8_1, hcz8_2, hcz8_3, hcz8_4, hcz8_5, hcz8_6, hcz8_7, hcz8_8, hcz8_9, hcz8_10, hcz8_11, hcz8_12, hcz8_13, hcz8_14, hcz8_15, hcz8_16, hcz8_17, hcz8_18, hcz8_19, hcz8_20, hcz8_21, hcz8_22, hcz8_23, hfz8_0, hfz8_1, hfz8_2, hfz8_3, hfz8_4, hfz8_5, hfz8_6, hfz8_7, hfz8_8, hfz8_9, hfz8_10, hfz8_11, hfz8_12, hfz8_13, hfz8_14, hfz8_15, hfz8_16, hfz8_17, hfz8_18, hfz8_19, hfz8_20, hfz8_21, hfz8_22, hfz8_23⟩ := blk24_ BK295.out) | ((with_reducible refine gate_store (t := 100) (p := 8) rfl ?_); refine store_wide (t := 100) (p := 8) (g := gb295) (c' := #[.int .i64 ((rd_T100 l0 x7_1).f0), .int .i64 ((rd_T100 l0 x7_1).f1.f0.f0.f0), .int .i64 ((rd_T100 l0 x7_1).f1.f0.f0.f1), .int .i64 ((rd_T100 l0 x7_1).f1.f0.f1), .int .i64 ((rd_T100 l0 x7_1).f1.f1), .string ((rd_T100 l0 x7_1).f1.f2), .slice A294_6 ((rd_T100 l0 x7_1).f1.f3).length c294_6, .int .i64 ((rd_T100 l0 x7_1).f1.f4.f0), .int .i64 ((rd_T100 l0 x7_1).f1.f4.f1), .bool ((rd_T100 l0 x7_1).f1.f5), .int .i64 ((rd_T100 l0 x7_1).f2.f0.f0.f0), .int .i64 ((rd_T100 l0 x7_1).f2.f0.f0.f1), .int .i64 ((rd_T100 l0 x7_1).f2.f0.f1), .int .i64 ((rd_T100 l0 x7_1).f2.f1), .string ((rd_T100 l0 x7_1).f2.f2), .slice A294_15 ((rd_T100 l0 x7_1).f2.f3).length c294_15, .int .i64 ((rd_T100 l0 x7_1).f2.f4.f0), .int .i64 ((rd_T100 l0 x7_1).f2.f4.f1), .bool ((rd_T100 l0 x7_1).f2.f5), .slice A294_19 ((rd_T100 l0 x7_1).f3).length c294_19, .slice A294_20 ((rd_T100 l0 x7_1).f4).length c294_20, .bool ((rd_T100 l0 x7_1).f5), .int .i64 ((rd_T100 l0 x7_1).f6), .int .i64 ((rd_T100 l0 x7_1).f7)]) rfl rfl rfl rfl rfl BK295.out rfl (by kernel_rfl) rfl ?_; intro w9 hbk hbb; have n0_ := Aside0.mk hbk; have n1_ := Aside0.mk (hbb _ HB.out GE295.out); clear hbk hbb; clear BK295; clear HB; have BK295 := n0_; have HB := n1_; clear n0_ n1_))
     (try simp only [Act.put, List.setIfInBounds_toArray, List.set_cons_zero, List.set_cons_succ])
     go_cut [29] (fun v29 wc => ∃ (kq : Nat) (x29_5 : Bool), v29 = .bool x29_5 ∧ Aside0 (redraftlaw05_played.j1 kq l0 a1 a2 x7_1 x29_5 ((rd_T100 l0 x7_1).f0) ((rd_T100 l0 x7_1).f1.f0.f0.f0) ((rd_T100 l0 x7_1).f1.f0.f0.f1) ((rd_T100 l0 x7_1).f1.f0.f1) ((rd_T100 l0 x7_1).f1.f1) ((rd_T100 l0 x7_1).f1.f2) ((rd_T100 l0 x7_1).f1.f3) ((rd_T100 l0 x7_1).f1.f4.f0) ((rd_T100 l0 x7_1).f1.f4.f1) ((rd_T100 l0 x7_1).f1.f5) ((rd_T100 l0 x7_1).f2.f0.f0.f0) ((rd_T100 l0 x7_1).f2.f0.f0.f1) ((rd_T100 l0 x7_1).f2.f0.f1) ((rd_T100 l0 x7_1).f2.f1) ((rd_T100 l0 x7_1).f2.f2) ((rd_T100 l0 x7_1).f2.f3) ((rd_T100 l0 x7_1).f2.f4.f0) ((rd_T100 l0 x7_1).f2.f4.f1) ((rd_T100 l0 x7_1).f2.f5) ((rd_T100 l0 x7_1).f3) ((rd_T100 l0 x7_1).f4) ((rd_T100 l0 x7_1).f5) ((rd_T100 l0 x7_1).f6) ((rd_T100 l0 x7_1).f7) = some r) ∧ Aside0 (kq ≤ k1) ∧ Aside0 (wc.heap[gb295]? = some (.cells #[.int .i64 ((rd_T100 l0 x7_1).f0), .int .i64 ((rd_T100 l0 x7_1).f1.f0.f0.f0), .int .i64 ((rd_T100 l0 x7_1).f1.f0.f0.f1), .int .i64 ((rd_T100 l0 x7_1).f1.f0.f1), .int .i64 ((rd_T100 l0 x7_1).f1.f1), .string ((rd_T100 l0 x7_1).f1.f2), (.slice A294_6 ((rd_T100 l0 x7_1).f1.f3).length c294_6), .int .i64 ((rd_T100 l0 x7_1).f1.f4.f0), .int .i64 ((rd_T100 l0 x7_1).f1.f4.f1), .bool ((rd_T100 l0 x7_1).f1.f5), .int .i64 ((rd_T100 l0 x7_1).f2.f0.f0.f0), .int .i64 ((rd_T100 l0 x7_1).f2.f0.f0.f1), .int .i64 ((rd_T100 l0 x7_1).f2.f0.f1), .int .i64 ((rd_T100 l0 x7_1).f2.f1), .string ((rd_T100 l0 x7_1).f2.f2), (.slice A294_15 ((rd_T100 l0 x7_1).f2.f3).length c294_15), .int .i64 ((rd_T100 l0 x7_1).f2.f4.f0), .int .i64 ((rd_T100 l0 x7_1).f2.f4.f1), .bool ((rd_T100 l0 x7_1).f2.f5), (.slice A294_19 ((rd_T100 l0 x7_1).f3).length c294_19), (.slice A294_20 ((rd_T100 l0 x7_1).f4).length c294_20), .bool ((rd_T100 l0 x7_1).f5), .int .i64 ((rd_T100 l0 x7_1).f6), .int .i64 ((rd_T100 l0 x7_1).f7)] 100 (0, 0))) ∧ Aside0 (Below w.heap.size w wc))
     case first =>
      have H := HC6.out
      clear HC6
      by_cases c10 : ((rd_T100 l0 x7_1).f0) ≥ a1
      ·rw [if_pos c10] at H
       have c10b0 : decide (a1 ≤ ((rd_T100 l0 x7_1).f0)) = true := decide_eq_true c10
       clear c10
       (first | rw [c10b0] | (simp only [i64_w, i32_w]; rw [c10b0]) | rw [c10b1] | skip)
       have H' := Aside0.mk H
       clear H
       obtain ⟨hcz11_0, hcz11_1, hcz11_2, hcz11_3, hcz11_4, hcz11_5, hcz11_6, hcz11_7, hcz11_8, hcz11_9, hcz11_10, hcz11_11, hcz11_12, hcz11_13, hcz11_14, hcz11_15, hcz11_16, hcz11_17, hcz11_18, hcz11_19, hcz11_20, hcz11_21, hcz11_22, hcz11_23, hfz11_0, hfz11_1, hfz11_2, hfz11_3, hfz11_4, hfz11_5, hfz11_6, hfz11_7, hfz11_8, hfz11_9, hfz11_10, hfz11_11, hfz11_12, hfz11_13, hfz11_14, hfz11_15, hfz11_16, hfz11_17, hfz11_18, hfz11_19, hfz11_20, hfz11_21, hfz11_22, hfz11_23⟩ := blk24_ BK295.out
       go_wp2
       go_meet
       case rel => exact ⟨_, (decide (((rd_T100 l0 x7_1).f0) ≤ a2)), (by first | rfl | (simp; done) | (simp [*]; done)), H', ⟨by have := HK1.out; first | omega | exact Nat.le_refl _⟩, ⟨by (with_reducible repeat (first | refine blk_drewN ?_ _ | refine blk_drew ?_ | refine blk_alloc ?_ _)); exact BK295.out⟩, ⟨by repeat (first | (with_reducible first | exact HB.out | apply below_alloc | apply pw_below_drewN | apply below_drew1 | refine below_set ?_ GE295.out) | exact HB.out)⟩⟩
      ·rw [if_neg c10] at H
       have c10b0 : decide (a1 ≤ ((rd_T100 l0 x7_1).f0)) = false := decide_eq_false c10
       clear c10
       (first | rw [c10b0] | (simp only [i64_w, i32_w]; rw [c10b0]) | rw [c10b1] | skip)
       have H' := Aside0.mk H
       clear H
       obtain ⟨hcz12_0, hcz12_1, hcz12_2, hcz12_3, hcz12_4, hcz12_5, hcz12_6, hcz12_7, hcz12_8, hcz12_9, hcz12_10, hcz12_11, hcz12_12, hcz12_13, hcz12_14, hcz12_15, hcz12_16, hcz12_17, hcz12_18, hcz12_19, hcz12_20, hcz12_21, hcz12_22, hcz12_23, hfz12_0, hfz12_1, hfz12_2, hfz12_3, hfz12_4, hfz12_5, hfz12_6, hfz12_7, hfz12_8, hfz12_9, hfz12_10, hfz12_11, hfz12_12, hfz12_13, hfz12_14, hfz12_15, hfz12_16, hfz12_17, hfz12_18, hfz12_19, hfz12_20, hfz12_21, hfz12_22, hfz12_23⟩ := blk24_ BK295.out
       go_wp2
       go_meet
       case rel => exact ⟨_, (false), (by first | rfl | (simp; done) | (simp [*]; done)), H', ⟨by have := HK1.out; first | omega | exact Nat.le_refl _⟩, ⟨by (with_reducible repeat (first | refine blk_drewN ?_ _ | refine blk_drew ?_ | refine blk_alloc ?_ _)); exact BK295.out⟩, ⟨by repeat (first | (with_reducible first | exact HB.out | apply below_alloc | apply pw_below_drewN | apply below_drew1 | refine below_set ?_ GE295.out) | exact HB.out)⟩⟩
     case rest =>
      clear HC6
      try clear p2
      try clear c4
      try clear c4b0
      try clear c5
      try clear c5b0
      try clear hcz8_0
      try clear hcz8_1
      try clear hcz8_10
      try clear hcz8_11
      try clear hcz8_12
      try clear hcz8_13
      try clear hcz8_14
      try clear hcz8_15
      try clear hcz8_16
      try clear hcz8_17
      try clear hcz8_18
      try clear hcz8_19
      try clear hcz8_2
      try clear hcz8_20
      try clear hcz8_21
      try clear hcz8_22
      try clear hcz8_23
      try clear hcz8_3
      try clear hcz8_4
      try clear hcz8_5
      try clear hcz8_6
      try clear hcz8_7
      try clear hcz8_8
      try clear hcz8_9
      try clear hfz8_0
      try clear hfz8_1
      try clear hfz8_10
      try clear hfz8_11
      try clear hfz8_12
      try clear hfz8_13
      try clear hfz8_14
      try clear hfz8_15
      try clear hfz8_16
      try clear hfz8_17
      try clear hfz8_18
      try clear hfz8_19
      try clear hfz8_2
      try clear hfz8_20
      try clear hfz8_21
      try clear hfz8_22
      try clear hfz8_23
      try clear hfz8_3
      try clear hfz8_4
      try clear hfz8_5
      try clear hfz8_6
      try clear hfz8_7
      try clear hfz8_8
      try clear hfz8_9
      try clear hx294_0
      try clear hx294_1
      try clear hx294_10
      try clear hx294_11
      try clear hx294_12
      try clear hx294_13
      try clear hx294_14
      try clear hx294_15
      try clear hx294_16
      try clear hx294_17
      try clear hx294_18
      try clear hx294_19
      try clear hx294_2
      try clear hx294_20
      try clear hx294_21
      try clear hx294_22
      try clear hx294_23
      try clear hx294_3
      try clear hx294_4
      try clear hx294_5
      try clear hx294_6
      try clear hx294_7
      try clear hx294_8
      try clear hx294_9
      try clear p2
      try clear p294
      try clear q294
      obtain ⟨kq, x29_5, rfl, HA, HJ5, BK295, HB⟩ := hcut
      cases kq with
      | zero => exact absurd HA.out (by simp [redraftlaw05_played.j1])
      | succ kj5 =>
       have H := HA.out
       clear HA
       simp only [redraftlaw05_played.j1] at H
       by_cases c13 : x29_5 = true
       ·subst c13
        have H1 : ((redraftlaw05_plays.f kj5 ((rd_T100 l0 x7_1).f0) ((rd_T100 l0 x7_1).f1.f0.f0.f0) ((rd_T100 l0 x7_1).f1.f0.f0.f1) ((rd_T100 l0 x7_1).f1.f0.f1) ((rd_T100 l0 x7_1).f1.f1) ((rd_T100 l0 x7_1).f1.f2) ((rd_T100 l0 x7_1).f1.f3) ((rd_T100 l0 x7_1).f1.f4.f0) ((rd_T100 l0 x7_1).f1.f4.f1) ((rd_T100 l0 x7_1).f1.f5) ((rd_T100 l0 x7_1).f2.f0.f0.f0) ((rd_T100 l0 x7_1).f2.f0.f0.f1) ((rd_T100 l0 x7_1).f2.f0.f1) ((rd_T100 l0 x7_1).f2.f1) ((rd_T100 l0 x7_1).f2.f2) ((rd_T100 l0 x7_1).f2.f3) ((rd_T100 l0 x7_1).f2.f4.f0) ((rd_T100 l0 x7_1).f2.f4.f1) ((rd_T100 l0 x7_1).f2.f5) ((rd_T100 l0 x7_1).f3) ((rd_T100 l0 x7_1).f4) ((rd_T100 l0 x7_1).f5) ((rd_T100 l0 x7_1).f6) ((rd_T100 l0 x7_1).f7)).bind fun t296 => (if t296 = true then (redraftlaw05_played.l0 kj5 l0 a1 a2 (wrap64 (x7_1 + 1))) else (some false))) = some r := by rw [if_pos rfl] at H; exact H
        clear H
        have H := H1
        clear H1
        replace H := Option.bind_eq_some_iff.mp H
        obtain ⟨t296, A140, H⟩ := H
        replace H : (if t296 = true then (redraftlaw05_played.l0 kj5 l0 a1 a2 (wrap64 (x7_1 + 1))) else (some false)) = some r := H
        have A14 := Aside0.mk A140
        clear A140
        by_cases c15 : t296 = true
        ·subst c15
         have H1 : (redraftlaw05_played.l0 kj5 l0 a1 a2 (wrap64 (x7_1 + 1))) = some r := by rw [if_pos rfl] at H; exact H
         clear H
         have H := H1
         clear H1
         have H' := Aside0.mk H
         clear H
         go_wp2_with (first | ((with_reducible refine gate_dst (N := 30) rfl ?_); refine load_event rfl 100 _ rfl _ rfl _ _ (atL_blk BK295.out) Tryd.underlying100 rfl (by kernel_rfl) ?_) | ((with_reducible refine gate_callee (f := 68) rfl ?_); refine goesL_ (some 31) rfl rfl Tryd.func68 (by kernel_rfl) rfl #[.agg #[.int .i64 ((rd_T100 l0 x7_1).f0), .int .i64 ((rd_T100 l0 x7_1).f1.f0.f0.f0), .int .i64 ((rd_T100 l0 x7_1).f1.f0.f0.f1), .int .i64 ((rd_T100 l0 x7_1).f1.f0.f1), .int .i64 ((rd_T100 l0 x7_1).f1.f1), .string ((rd_T100 l0 x7_1).f1.f2), .slice A294_6 ((rd_T100 l0 x7_1).f1.f3).length c294_6, .int .i64 ((rd_T100 l0 x7_1).f1.f4.f0), .int .i64 ((rd_T100 l0 x7_1).f1.f4.f1), .bool ((rd_T100 l0 x7_1).f1.f5), .int .i64 ((rd_T100 l0 x7_1).f2.f0.f0.f0), .int .i64 ((rd_T100 l0 x7_1).f2.f0.f0.f1), .int .i64 ((rd_T100 l0 x7_1).f2.f0.f1), .int .i64 ((rd_T100 l0 x7_1).f2.f1), .string ((rd_T100 l0 x7_1).f2.f2), .slice A294_15 ((rd_T100 l0 x7_1).f2.f3).length c294_15, .int .i64 ((rd_T100 l0 x7_1).f2.f4.f0), .int .i64 ((rd_T100 l0 x7_1).f2.f4.f1), .bool ((rd_T100 l0 x7_1).f2.f5), .slice A294_19 ((rd_T100 l0 x7_1).f3).length c294_19, .slice A294_20 ((rd_T100 l0 x7_1).f4).length c294_20, .bool ((rd_T100 l0 x7_1).f5), .int .i64 ((rd_T100 l0 x7_1).f6), .int .i64 ((rd_T100 l0 x7_1).f7)]] rfl (by (try simp only [List.map_toArray, List.map_cons, List.map_nil]); first | done | rfl | (simp only [List.length_drop, List.length_take]; rfl)) ?_; (with_reducible refine (redraftlaw05_plays.calls kj5 ((rd_T100 l0 x7_1).f0) ((rd_T100 l0 x7_1).f1.f0.f0.f0) ((rd_T100 l0 x7_1).f1.f0.f0.f1) ((rd_T100 l0 x7_1).f1.f0.f1) ((rd_T100 l0 x7_1).f1.f1) ((rd_T100 l0 x7_1).f1.f2) _ _ ((rd_T100 l0 x7_1).f1.f3) ((rd_T100 l0 x7_1).f1.f4.f0) ((rd_T100 l0 x7_1).f1.f4.f1) ((rd_T100 l0 x7_1).f1.f5) ((rd_T100 l0 x7_1).f2.f0.f0.f0) ((rd_T100 l0 x7_1).f2.f0.f0.f1) ((rd_T100 l0 x7_1).f2.f0.f1) ((rd_T100 l0 x7_1).f2.f1) ((rd_T100 l0 x7_1).f2.f2) _ _ ((rd_T100 l0 x7_1).f2.f3) ((rd_T100 l0 x7_1).f2.f4.f0) ((rd_T100 l0 x7_1).f2.f4.f1) ((rd_T100 l0 x7_1).f2.f5) _ _ ((rd_T100 l0 x7_1).f3) _ _ ((rd_T100 l0 x7_1).f4) ((rd_T100 l0 x7_1).f5) ((rd_T100 l0 x7_1).f6) ((rd_T100 l0 x7_1).f7) true _ ?side1 ?side2 ?side3 ?side4 ?side5 ?side6 ?side7 ?side8 ?side9 A14.out).mono ?_); (case side1 => repeat (first | exact (Kd.C_below HR294_6.out HB.out) | (with_reducible refine Kd.C_alloc ?_ _) | (with_reducible refine Kd.C_drewN ?_ _) | (with_reducible refine Kd.C_drew ?_))); (case side2 => exact HC294_6.out); (case side3 => repeat (first | exact (Kd.C_below HR294_15.out HB.out) | (with_reducible refine Kd.C_alloc ?_ _) | (with_reducible refine Kd.C_drewN ?_ _) | (with_reducible refine Kd.C_drew ?_))); (case side4 => exact HC294_15.out); (case side5 => repeat (first | exact (Kd.C_below HR294_19.out HB.out) | (with_reducible refine Kd.C_alloc ?_ _) | (with_reducible refine Kd.C_drewN ?_ _) | (with_reducible refine Kd.C_drew ?_))); (case side6 => exact HC294_19.out); (case side7 => repeat (first | exact (Kd.C_below HR294_20.out HB.out) | (with_reducible refine Kd.C_alloc ?_ _) | (with_reducible refine Kd.C_drewN ?_ _) | (with_reducible refine Kd.C_drew ?_))); (case side8 => exact HC294_20.out); (case side9 => exact GW.below hG (by repeat (first | (with_reducible first | exact HB.out | apply below_alloc | apply pw_below_drewN | apply below_drew1 | refine below_set ?_ GE295.out) | exact HB.out))); rintro e w17 ⟨rfl, hb⟩; refine ⟨_, rfl, ?_⟩; have n0_ := Aside0.mk (blk_below (g := gb295) (o := .cells #[.int .i64 ((rd_T100 l0 x7_1).f0), .int .i64 ((rd_T100 l0 x7_1).f1.f0.f0.f0), .int .i64 ((rd_T100 l0 x7_1).f1.f0.f0.f1), .int .i64 ((rd_T100 l0 x7_1).f1.f0.f1), .int .i64 ((rd_T100 l0 x7_1).f1.f1), .string ((rd_T100 l0 x7_1).f1.f2), .slice A294_6 ((rd_T100 l0 x7_1).f1.f3).length c294_6, .int .i64 ((rd_T100 l0 x7_1).f1.f4.f0), .int .i64 ((rd_T100 l0 x7_1).f1.f4.f1), .bool ((rd_T100 l0 x7_1).f1.f5), .int .i64 ((rd_T100 l0 x7_1).f2.f0.f0.f0), .int .i64 ((rd_T100 l0 x7_1).f2.f0.f0.f1), .int .i64 ((rd_T100 l0 x7_1).f2.f0.f1), .int .i64 ((rd_T100 l0 x7_1).f2.f1), .string ((rd_T100 l0 x7_1).f2.f2), .slice A294_15 ((rd_T100 l0 x7_1).f2.f3).length c294_15, .int .i64 ((rd_T100 l0 x7_1).f2.f4.f0), .int .i64 ((rd_T100 l0 x7_1).f2.f4.f1), .bool ((rd_T100 l0 x7_1).f2.f5), .slice A294_19 ((rd_T100 l0 x7_1).f3).length c294_19, .slice A294_20 ((rd_T100 l0 x7_1).f4).length c294_20, .bool ((rd_T100 l0 x7_1).f5), .int .i64 ((rd_T100 l0 x7_1).f6), .int .i64 ((rd_T100 l0 x7_1).f7)] 100 (0, 0)) (by (with_reducible repeat (first | refine blk_drewN ?_ _ | refine blk_drew ?_ | refine blk_alloc ?_ _)); exact BK295.out) hb); have n1_ := Aside0.mk (below_step (by repeat (first | (with_reducible first | exact HB.out | apply below_alloc | apply pw_below_drewN | apply below_drew1 | refine below_set ?_ GE295.out) | exact HB.out)) hb); clear BK295; clear HB; have BK295 := n0_; have HB := n1_; clear n0_ n1_; (try clear hb); (try clear hb2); (try clear hk); (try clear hi)))
         go_roundg kj5
         case measure => have := HK1.out; have := HJ5.out; omega
         case rel => exact ⟨(wrap64 (x7_1 + 1)), (by first | rfl | (simp; done) | (simp [*]; done)), H', ⟨by have := HK1.out; have := HJ5.out; omega⟩, ⟨by repeat (first | (with_reducible first | exact HB.out | apply below_alloc | apply pw_below_drewN | apply below_drew1 | refine below_set ?_ GE295.out) | exact HB.out)⟩⟩
        ·replace c15 := Bool.eq_false_iff.mpr c15
         subst c15
         have H1 : (some false) = some r := by rw [if_neg (show ¬ (false = true) by decide)] at H; exact H
         clear H
         have H := H1
         clear H1
         obtain rfl := Option.some.inj H
         go_wp2_with (first | ((with_reducible refine gate_dst (N := 30) rfl ?_); refine load_event rfl 100 _ rfl _ rfl _ _ (atL_blk BK295.out) Tryd.underlying100 rfl (by kernel_rfl) ?_) | ((with_reducible refine gate_callee (f := 68) rfl ?_); refine goesL_ (some 31) rfl rfl Tryd.func68 (by kernel_rfl) rfl #[.agg #[.int .i64 ((rd_T100 l0 x7_1).f0), .int .i64 ((rd_T100 l0 x7_1).f1.f0.f0.f0), .int .i64 ((rd_T100 l0 x7_1).f1.f0.f0.f1), .int .i64 ((rd_T100 l0 x7_1).f1.f0.f1), .int .i64 ((rd_T100 l0 x7_1).f1.f1), .string ((rd_T100 l0 x7_1).f1.f2), .slice A294_6 ((rd_T100 l0 x7_1).f1.f3).length c294_6, .int .i64 ((rd_T100 l0 x7_1).f1.f4.f0), .int .i64 ((rd_T100 l0 x7_1).f1.f4.f1), .bool ((rd_T100 l0 x7_1).f1.f5), .int .i64 ((rd_T100 l0 x7_1).f2.f0.f0.f0), .int .i64 ((rd_T100 l0 x7_1).f2.f0.f0.f1), .int .i64 ((rd_T100 l0 x7_1).f2.f0.f1), .int .i64 ((rd_T100 l0 x7_1).f2.f1), .string ((rd_T100 l0 x7_1).f2.f2), .slice A294_15 ((rd_T100 l0 x7_1).f2.f3).length c294_15, .int .i64 ((rd_T100 l0 x7_1).f2.f4.f0), .int .i64 ((rd_T100 l0 x7_1).f2.f4.f1), .bool ((rd_T100 l0 x7_1).f2.f5), .slice A294_19 ((rd_T100 l0 x7_1).f3).length c294_19, .slice A294_20 ((rd_T100 l0 x7_1).f4).length c294_20, .bool ((rd_T100 l0 x7_1).f5), .int .i64 ((rd_T100 l0 x7_1).f6), .int .i64 ((rd_T100 l0 x7_1).f7)]] rfl (by (try simp only [List.map_toArray, List.map_cons, List.map_nil]); first | done | rfl | (simp only [List.length_drop, List.length_take]; rfl)) ?_; (with_reducible refine (redraftlaw05_plays.calls kj5 ((rd_T100 l0 x7_1).f0) ((rd_T100 l0 x7_1).f1.f0.f0.f0) ((rd_T100 l0 x7_1).f1.f0.f0.f1) ((rd_T100 l0 x7_1).f1.f0.f1) ((rd_T100 l0 x7_1).f1.f1) ((rd_T100 l0 x7_1).f1.f2) _ _ ((rd_T100 l0 x7_1).f1.f3) ((rd_T100 l0 x7_1).f1.f4.f0) ((rd_T100 l0 x7_1).f1.f4.f1) ((rd_T100 l0 x7_1).f1.f5) ((rd_T100 l0 x7_1).f2.f0.f0.f0) ((rd_T100 l0 x7_1).f2.f0.f0.f1) ((rd_T100 l0 x7_1).f2.f0.f1) ((rd_T100 l0 x7_1).f2.f1) ((rd_T100 l0 x7_1).f2.f2) _ _ ((rd_T100 l0 x7_1).f2.f3) ((rd_T100 l0 x7_1).f2.f4.f0) ((rd_T100 l0 x7_1).f2.f4.f1) ((rd_T100 l0 x7_1).f2.f5) _ _ ((rd_T100 l0 x7_1).f3) _ _ ((rd_T100 l0 x7_1).f4) ((rd_T100 l0 x7_1).f5) ((rd_T100 l0 x7_1).f6) ((rd_T100 l0 x7_1).f7) false _ ?side1 ?side2 ?side3 ?side4 ?side5 ?side6 ?side7 ?side8 ?side9 A14.out).mono ?_); (case side1 => repeat (first | exact (Kd.C_below HR294_6.out HB.out) | (with_reducible refine Kd.C_alloc ?_ _) | (with_reducible refine Kd.C_drewN ?_ _) | (with_reducible refine Kd.C_drew ?_))); (case side2 => exact HC294_6.out); (case side3 => repeat (first | exact (Kd.C_below HR294_15.out HB.out) | (with_reducible refine Kd.C_alloc ?_ _) | (with_reducible refine Kd.C_drewN ?_ _) | (with_reducible refine Kd.C_drew ?_))); (case side4 => exact HC294_15.out); (case side5 => repeat (first | exact (Kd.C_below HR294_19.out HB.out) | (with_reducible refine Kd.C_alloc ?_ _) | (with_reducible refine Kd.C_drewN ?_ _) | (with_reducible refine Kd.C_drew ?_))); (case side6 => exact HC294_19.out); (case side7 => repeat (first | exact (Kd.C_below HR294_20.out HB.out) | (with_reducible refine Kd.C_alloc ?_ _) | (with_reducible refine Kd.C_drewN ?_ _) | (with_reducible refine Kd.C_drew ?_))); (case side8 => exact HC294_20.out); (case side9 => exact GW.below hG (by repeat (first | (with_reducible first | exact HB.out | apply below_alloc | apply pw_below_drewN | apply below_drew1 | refine below_set ?_ GE295.out) | exact HB.out))); rintro e w19 ⟨rfl, hb⟩; refine ⟨_, rfl, ?_⟩; have n0_ := Aside0.mk (blk_below (g := gb295) (o := .cells #[.int .i64 ((rd_T100 l0 x7_1).f0), .int .i64 ((rd_T100 l0 x7_1).f1.f0.f0.f0), .int .i64 ((rd_T100 l0 x7_1).f1.f0.f0.f1), .int .i64 ((rd_T100 l0 x7_1).f1.f0.f1), .int .i64 ((rd_T100 l0 x7_1).f1.f1), .string ((rd_T100 l0 x7_1).f1.f2), .slice A294_6 ((rd_T100 l0 x7_1).f1.f3).length c294_6, .int .i64 ((rd_T100 l0 x7_1).f1.f4.f0), .int .i64 ((rd_T100 l0 x7_1).f1.f4.f1), .bool ((rd_T100 l0 x7_1).f1.f5), .int .i64 ((rd_T100 l0 x7_1).f2.f0.f0.f0), .int .i64 ((rd_T100 l0 x7_1).f2.f0.f0.f1), .int .i64 ((rd_T100 l0 x7_1).f2.f0.f1), .int .i64 ((rd_T100 l0 x7_1).f2.f1), .string ((rd_T100 l0 x7_1).f2.f2), .slice A294_15 ((rd_T100 l0 x7_1).f2.f3).length c294_15, .int .i64 ((rd_T100 l0 x7_1).f2.f4.f0), .int .i64 ((rd_T100 l0 x7_1).f2.f4.f1), .bool ((rd_T100 l0 x7_1).f2.f5), .slice A294_19 ((rd_T100 l0 x7_1).f3).length c294_19, .slice A294_20 ((rd_T100 l0 x7_1).f4).length c294_20, .bool ((rd_T100 l0 x7_1).f5), .int .i64 ((rd_T100 l0 x7_1).f6), .int .i64 ((rd_T100 l0 x7_1).f7)] 100 (0, 0)) (by (with_reducible repeat (first | refine blk_drewN ?_ _ | refine blk_drew ?_ | refine blk_alloc ?_ _)); exact BK295.out) hb); have n1_ := Aside0.mk (below_step (by repeat (first | (with_reducible first | exact HB.out | apply below_alloc | apply pw_below_drewN | apply below_drew1 | refine below_set ?_ GE295.out) | exact HB.out)) hb); clear BK295; clear HB; have BK295 := n0_; have HB := n1_; clear n0_ n1_; (try clear hb); (try clear hb2); (try clear hk); (try clear hi)))
         go_ret
         exact ⟨by first | rfl | (simp [*] <;> rfl), by repeat (first | (with_reducible first | exact HB.out | apply below_alloc | apply pw_below_drewN | apply below_drew1 | refine below_set ?_ GE295.out) | exact HB.out)⟩
       ·replace c13 := Bool.eq_false_iff.mpr c13
        subst c13
        have H1 : (redraftlaw05_played.l0 kj5 l0 a1 a2 (wrap64 (x7_1 + 1))) = some r := by rw [if_neg (show ¬ (false = true) by decide)] at H; exact H
        clear H
        have H := H1
        clear H1
        have H' := Aside0.mk H
        clear H
        go_wp2
        go_roundg kj5
        case measure => have := HK1.out; have := HJ5.out; omega
        case rel => exact ⟨(wrap64 (x7_1 + 1)), (by first | rfl | (simp; done) | (simp [*]; done)), H', ⟨by have := HK1.out; have := HJ5.out; omega⟩, ⟨by repeat (first | (with_reducible first | exact HB.out | apply below_alloc | apply pw_below_drewN | apply below_drew1 | refine below_set ?_ GE295.out) | exact HB.out)⟩⟩
    ·rw [if_neg c5] at H
     exact absurd H (by simp)
   ·rw [if_neg c4] at H
    have c4b0 : decide (x7_1 < (l0.length : Int)) = false := decide_eq_false c4
    clear c4
    obtain rfl := Option.some.inj H
    go_wp2
    go_ret
    exact ⟨by first | rfl | (simp [*] <;> rfl), by repeat (first | (with_reducible first | exact HB.out | apply below_alloc | apply pw_below_drewN | apply below_drew1) | exact HB.out)⟩

def redraftlaw05_XformCarets.f (k : Nat) (l0 : List (S100)) : Option (Bool) := (redraftlaw05_ins.f 1 1 2 (⟨#[120]⟩ : ByteArray)).bind fun bt297 => ((xform_Caret.f k 3 bt297.1 bt297.2.1 bt297.2.2.1 bt297.2.2.2.1 bt297.2.2.2.2.1 bt297.2.2.2.2.2.1 bt297.2.2.2.2.2.2.1 bt297.2.2.2.2.2.2.2.1 bt297.2.2.2.2.2.2.2.2).bind fun bt308 => (if bt308.1 = 4 then ((redraftlaw05_num.f bt308.2).bind fun t310 => (if t310 = 0 then ((redraftlaw05_played.f k l0 7 7).bind fun t311 => (some t311)) else (some false))) else (some false)))
theorem redraftlaw05_XformCarets.mono : ∀ a0 k, LeO (redraftlaw05_XformCarets.f k a0) (redraftlaw05_XformCarets.f (k + 1) a0) := by
 intro a0 k
 unfold redraftlaw05_XformCarets.f
 repeat' first
   | (with_reducible exact redraftlaw05_played.mono _ _ _ _)
   | (with_reducible exact xform_Caret.mono _ _ _ _ _ _ _ _ _ _ _)
   | (with_reducible exact LeO.refl _)
   | (with_reducible exact LeO.none _)
   | (with_reducible refine LeO.ite ?_ ?_)
   | (with_reducible refine LeO.bind ?_ (fun _ => ?_))
   | exact redraftlaw05_played.mono _ _ _ _
   | exact xform_Caret.mono _ _ _ _ _ _ _ _ _ _ _
   | exact LeO.none _
   | refine LeO.ite ?_ ?_
   | refine LeO.bind ?_ (fun _ => ?_)
set_option maxHeartbeats 8000000 in
set_option maxRecDepth 100000 in
theorem redraftlaw05_XformCarets.calls (k : Nat) (A0 : Option Addr) (c0 : Nat) (l0 : List (S100)) (r : Bool) (w : World) (hr0 : Kd.C k100 w A0 l0.length l0) (hc0 : l0.length ≤ c0) (hG : GW w) (h : redraftlaw05_XformCarets.f k l0 = some r) :
  Calls Tryd.prog 16 #[.slice A0 l0.length c0] w fun e w' => e = .returned (.bool r) ∧ Below w.heap.size w w' := by
 have HR0 := Aside0.mk hr0
 have HC0 := Aside0.mk hc0
 clear hr0 hc0
 have HB := Aside0.mk (Below.refl w.heap.size w)
 have H : ((redraftlaw05_ins.f 1 1 2 (⟨#[120]⟩ : ByteArray)).bind fun bt297 => ((xform_Caret.f k 3 bt297.1 bt297.2.1 bt297.2.2.1 bt297.2.2.2.1 bt297.2.2.2.2.1 bt297.2.2.2.2.2.1 bt297.2.2.2.2.2.2.1 bt297.2.2.2.2.2.2.2.1 bt297.2.2.2.2.2.2.2.2).bind fun bt308 => (if bt308.1 = 4 then ((redraftlaw05_num.f bt308.2).bind fun t310 => (if t310 = 0 then ((redraftlaw05_played.f k l0 7 7).bind fun t311 => (some t311)) else (some false))) else (some false)))) = some r := h
 clear h
 replace H := Option.bind_eq_some_iff.mp H
 obtain ⟨⟨t297, t298, t299, t300, t301, t302, t305, t306, t307⟩, A20, H⟩ := H
 replace H : ((xform_Caret.f k 3 t297 t298 t299 t300 t301 t302 t305 t306 t307).bind fun bt308 => (if bt308.1 = 4 then ((redraftlaw05_num.f bt308.2).bind fun t310 => (if t310 = 0 then ((redraftlaw05_played.f k l0 7 7).bind fun t311 => (some t311)) else (some false))) else (some false))) = some r := H
 have A2 := Aside0.mk A20
 clear A20
 replace H := Option.bind_eq_some_iff.mp H
 obtain ⟨⟨t308, t309⟩, A30, H⟩ := H
 replace H : (if t308 = 4 then ((redraftlaw05_num.f t309).bind fun t310 => (if t310 = 0 then ((redraftlaw05_played.f k l0 7 7).bind fun t311 => (some t311)) else (some false))) else (some false)) = some r := H
 have A3 := Aside0.mk A30
 clear A30
 by_cases c4 : t308 = 4
 ·rw [if_pos c4] at H
  have c4b0 : (t308 == 4) = true := beq_iff_eq.mpr c4
  have c4b1 : (t308 != 4) = false := bne_eq_false_iff_eq.mpr c4
  clear c4
  replace H := Option.bind_eq_some_iff.mp H
  obtain ⟨t310, A50, H⟩ := H
  replace H : (if t310 = 0 then ((redraftlaw05_played.f k l0 7 7).bind fun t311 => (some t311)) else (some false)) = some r := H
  have A5 := Aside0.mk A50
  clear A50
  by_cases c6 : t310 = 0
  ·rw [if_pos c6] at H
   have c6b0 : (t310 == 0) = true := beq_iff_eq.mpr c6
   have c6b1 : (t310 != 0) = false := bne_eq_false_iff_eq.mpr c6
   clear c6
   replace H := Option.bind_eq_some_iff.mp H
   obtain ⟨t311, A70, H⟩ := H
   replace H : (some t311) = some r := H
   have A7 := Aside0.mk A70
   clear A70
   obtain rfl := Option.some.inj H
   go_enter Tryd.func16, Tryd.ntmps16
   go_wp2_with (first | ((with_reducible refine gate_callee (f := 25) rfl ?_); refine goesL_ (some 6) rfl rfl Tryd.func25 (by kernel_rfl) rfl #[.int .i64 1, .int .i64 1, .int .i64 2, .string (⟨#[120]⟩ : ByteArray)] rfl (by (try simp only [List.map_toArray, List.map_cons, List.map_nil]); first | done | rfl | (simp only [List.length_drop, List.length_take]; rfl)) ?_; (with_reducible refine (redraftlaw05_ins.calls 1 1 2 (⟨#[120]⟩ : ByteArray) t297 t298 t299 t300 t301 t302 t305 t306 t307 _ A2.out).mono ?_); rintro e w8 ⟨v303, rfl, ho0, hb⟩; refine ⟨_, rfl, ?_⟩; have n0_ := Aside0.mk (Kd.R_lower ho0 (below_size (by repeat (first | (with_reducible first | exact HB.out | apply below_alloc | apply pw_below_drewN | apply below_drew1) | exact HB.out)))); have n1_ := Aside0.mk (below_step (by repeat (first | (with_reducible first | exact HB.out | apply below_alloc | apply pw_below_drewN | apply below_drew1) | exact HB.out)) hb); clear HB; have HO304 := n0_; have HB := n1_; clear n0_ n1_; (try clear hb); (try clear hb2); (try clear hk); (try clear hi); (try clear ho0); obtain ⟨Ao9, co9, eo9⟩ := Kd.R_slice HO304.out; subst eo9) | ((with_reducible refine gate_callee (f := 21) rfl ?_); refine goesL_ (some 7) rfl rfl Tryd.func21 (by kernel_rfl) rfl #[.int .i64 3, .agg #[.int .i64 t297, .int .i64 t298, .int .i64 t299, .int .i64 t300, .string t301, .slice Ao9 t302.length co9, .int .i64 t305, .int .i64 t306, .bool t307]] rfl (by (try simp only [List.map_toArray, List.map_cons, List.map_nil]); first | done | rfl | (simp only [List.length_drop, List.length_take]; rfl)) ?_; (with_reducible refine (xform_Caret.calls k 3 t297 t298 t299 t300 t301 _ _ t302 t305 t306 t307 t308 t309 _ ?side1 ?side2 ?side3 A3.out).mono ?_); (case side1 => repeat (first | exact (Kd.R_reads' HO304.out).2.2 | (with_reducible refine Kd.C_alloc ?_ _) | (with_reducible refine Kd.C_drewN ?_ _) | (with_reducible refine Kd.C_drew ?_))); (case side2 => exact (Kd.R_reads' HO304.out).2.1); (case side3 => exact GW.below hG (by repeat (first | (with_reducible first | exact HB.out | apply below_alloc | apply pw_below_drewN | apply below_drew1) | exact HB.out))); rintro e w10 ⟨rfl, hb⟩; refine ⟨_, rfl, ?_⟩; have n0_ := Aside0.mk (Kd.R_below (by (with_reducible repeat (first | apply Kd.R_alloc | apply Kd.R_drewN | apply Kd.R_drew)); exact HO304.out) hb); have n1_ := Aside0.mk (below_step (by repeat (first | (with_reducible first | exact HB.out | apply below_alloc | apply pw_below_drewN | apply below_drew1) | exact HB.out)) hb); clear HO304; clear HB; have HO304 := n0_; have HB := n1_; clear n0_ n1_; (try clear hb); (try clear hb2); (try clear hk); (try clear hi)) | (go_at_call 23; (with_reducible refine (redraftlaw05_num.calls t309 t310 _ A5.out).mono ?_); rintro e w' ⟨rfl, ⟨nd, rfl⟩⟩) | (go_at_call 51; (with_reducible refine (redraftlaw05_played.calls k _ _ l0 7 7 t311 _ ?side1 ?side2 ?side3 A7.out).mono ?_); (case side1 => repeat (first | exact (Kd.C_below HR0.out (by repeat (first | (with_reducible first | exact HB.out | apply below_alloc | apply pw_below_drewN | apply below_drew1) | exact HB.out))) | (with_reducible refine Kd.C_alloc ?_ _) | (with_reducible refine Kd.C_drewN ?_ _) | (with_reducible refine Kd.C_drew ?_))); (case side2 => exact HC0.out); (case side3 => exact GW.below hG (by repeat (first | (with_reducible first | exact HB.out | apply below_alloc | apply pw_below_drewN | apply below_drew1) | exact HB.out))); rintro e w11 ⟨rfl, hb⟩; have n0_ := Aside0.mk (Kd.R_below (by (with_reducible repeat (first | apply Kd.R_alloc | apply Kd.R_drewN | apply Kd.R_drew)); exact HO304.out) hb); have n1_ := Aside0.mk (below_step (by repeat (first | (with_reducible first | exact HB.out | apply below_alloc | apply pw_below_drewN | apply below_drew1) | exact HB.out)) hb); clear HO304; clear HB; have HO304 := n0_; have HB := n1_; clear n0_ n1_; (try clear hb); (try clear hb2); (try clear hk); (try clear hi)))
   go_ret
   exact ⟨by first | rfl | (simp [*] <;> rfl), by repeat (first | (with_reducible first | exact HB.out | apply below_alloc | apply pw_below_drewN | apply below_drew1) | exact HB.out)⟩
  ·rw [if_neg c6] at H
   have c6b0 : (t310 == 0) = false := beq_eq_false_iff_ne.mpr c6
   have c6b1 : (t310 != 0) = true := bne_iff_ne.mpr c6
   obtain rfl := Option.some.inj H
   go_enter Tryd.func16, Tryd.ntmps16
   go_wp2_with (first | ((with_reducible refine gate_callee (f := 25) rfl ?_); refine goesL_ (some 6) rfl rfl Tryd.func25 (by kernel_rfl) rfl #[.int .i64 1, .int .i64 1, .int .i64 2, .string (⟨#[120]⟩ : ByteArray)] rfl (by (try simp only [List.map_toArray, List.map_cons, List.map_nil]); first | done | rfl | (simp only [List.length_drop, List.length_take]; rfl)) ?_; (with_reducible refine (redraftlaw05_ins.calls 1 1 2 (⟨#[120]⟩ : ByteArray) t297 t298 t299 t300 t301 t302 t305 t306 t307 _ A2.out).mono ?_); rintro e w12 ⟨v303, rfl, ho0, hb⟩; refine ⟨_, rfl, ?_⟩; have n0_ := Aside0.mk (Kd.R_lower ho0 (below_size (by repeat (first | (with_reducible first | exact HB.out | apply below_alloc | apply pw_below_drewN | apply below_drew1) | exact HB.out)))); have n1_ := Aside0.mk (below_step (by repeat (first | (with_reducible first | exact HB.out | apply below_alloc | apply pw_below_drewN | apply below_drew1) | exact HB.out)) hb); clear HB; have HO304 := n0_; have HB := n1_; clear n0_ n1_; (try clear hb); (try clear hb2); (try clear hk); (try clear hi); (try clear ho0); obtain ⟨Ao13, co13, eo13⟩ := Kd.R_slice HO304.out; subst eo13) | ((with_reducible refine gate_callee (f := 21) rfl ?_); refine goesL_ (some 7) rfl rfl Tryd.func21 (by kernel_rfl) rfl #[.int .i64 3, .agg #[.int .i64 t297, .int .i64 t298, .int .i64 t299, .int .i64 t300, .string t301, .slice Ao13 t302.length co13, .int .i64 t305, .int .i64 t306, .bool t307]] rfl (by (try simp only [List.map_toArray, List.map_cons, List.map_nil]); first | done | rfl | (simp only [List.length_drop, List.length_take]; rfl)) ?_; (with_reducible refine (xform_Caret.calls k 3 t297 t298 t299 t300 t301 _ _ t302 t305 t306 t307 t308 t309 _ ?side1 ?side2 ?side3 A3.out).mono ?_); (case side1 => repeat (first | exact (Kd.R_reads' HO304.out).2.2 | (with_reducible refine Kd.C_alloc ?_ _) | (with_reducible refine Kd.C_drewN ?_ _) | (with_reducible refine Kd.C_drew ?_))); (case side2 => exact (Kd.R_reads' HO304.out).2.1); (case side3 => exact GW.below hG (by repeat (first | (with_reducible first | exact HB.out | apply below_alloc | apply pw_below_drewN | apply below_drew1) | exact HB.out))); rintro e w14 ⟨rfl, hb⟩; refine ⟨_, rfl, ?_⟩; have n0_ := Aside0.mk (Kd.R_below (by (with_reducible repeat (first | apply Kd.R_alloc | apply Kd.R_drewN | apply Kd.R_drew)); exact HO304.out) hb); have n1_ := Aside0.mk (below_step (by repeat (first | (with_reducible first | exact HB.out | apply below_alloc | apply pw_below_drewN | apply below_drew1) | exact HB.out)) hb); clear HO304; clear HB; have HO304 := n0_; have HB := n1_; clear n0_ n1_; (try clear hb); (try clear hb2); (try clear hk); (try clear hi)) | (go_at_call 23; (with_reducible refine (redraftlaw05_num.calls t309 t310 _ A5.out).mono ?_); rintro e w' ⟨rfl, ⟨nd, rfl⟩⟩))
   go_ret
   exact ⟨by first | rfl | (simp [*] <;> rfl), by repeat (first | (with_reducible first | exact HB.out | apply below_alloc | apply pw_below_drewN | apply below_drew1) | exact HB.out)⟩
 ·rw [if_neg c4] at H
  have c4b0 : (t308 == 4) = false := beq_eq_false_iff_ne.mpr c4
  have c4b1 : (t308 != 4) = true := bne_iff_ne.mpr c4
  obtain rfl := Option.some.inj H
  go_enter Tryd.func16, Tryd.ntmps16
  go_wp2_with (first | ((with_reducible refine gate_callee (f := 25) rfl ?_); refine goesL_ (some 6) rfl rfl Tryd.func25 (by kernel_rfl) rfl #[.int .i64 1, .int .i64 1, .int .i64 2, .string (⟨#[120]⟩ : ByteArray)] rfl (by (try simp only [List.map_toArray, List.map_cons, List.map_nil]); first | done | rfl | (simp only [List.length_drop, List.length_take]; rfl)) ?_; (with_reducible refine (redraftlaw05_ins.calls 1 1 2 (⟨#[120]⟩ : ByteArray) t297 t298 t299 t300 t301 t302 t305 t306 t307 _ A2.out).mono ?_); rintro e w15 ⟨v303, rfl, ho0, hb⟩; refine ⟨_, rfl, ?_⟩; have n0_ := Aside0.mk (Kd.R_lower ho0 (below_size (by repeat (first | (with_reducible first | exact HB.out | apply below_alloc | apply pw_below_drewN | apply below_drew1) | exact HB.out)))); have n1_ := Aside0.mk (below_step (by repeat (first | (with_reducible first | exact HB.out | apply below_alloc | apply pw_below_drewN | apply below_drew1) | exact HB.out)) hb); clear HB; have HO304 := n0_; have HB := n1_; clear n0_ n1_; (try clear hb); (try clear hb2); (try clear hk); (try clear hi); (try clear ho0); obtain ⟨Ao16, co16, eo16⟩ := Kd.R_slice HO304.out; subst eo16) | ((with_reducible refine gate_callee (f := 21) rfl ?_); refine goesL_ (some 7) rfl rfl Tryd.func21 (by kernel_rfl) rfl #[.int .i64 3, .agg #[.int .i64 t297, .int .i64 t298, .int .i64 t299, .int .i64 t300, .string t301, .slice Ao16 t302.length co16, .int .i64 t305, .int .i64 t306, .bool t307]] rfl (by (try simp only [List.map_toArray, List.map_cons, List.map_nil]); first | done | rfl | (simp only [List.length_drop, List.length_take]; rfl)) ?_; (with_reducible refine (xform_Caret.calls k 3 t297 t298 t299 t300 t301 _ _ t302 t305 t306 t307 t308 t309 _ ?side1 ?side2 ?side3 A3.out).mono ?_); (case side1 => repeat (first | exact (Kd.R_reads' HO304.out).2.2 | (with_reducible refine Kd.C_alloc ?_ _) | (with_reducible refine Kd.C_drewN ?_ _) | (with_reducible refine Kd.C_drew ?_))); (case side2 => exact (Kd.R_reads' HO304.out).2.1); (case side3 => exact GW.below hG (by repeat (first | (with_reducible first | exact HB.out | apply below_alloc | apply pw_below_drewN | apply below_drew1) | exact HB.out))); rintro e w17 ⟨rfl, hb⟩; refine ⟨_, rfl, ?_⟩; have n0_ := Aside0.mk (Kd.R_below (by (with_reducible repeat (first | apply Kd.R_alloc | apply Kd.R_drewN | apply Kd.R_drew)); exact HO304.out) hb); have n1_ := Aside0.mk (below_step (by repeat (first | (with_reducible first | exact HB.out | apply below_alloc | apply pw_below_drewN | apply below_drew1) | exact HB.out)) hb); clear HO304; clear HB; have HO304 := n0_; have HB := n1_; clear n0_ n1_; (try clear hb); (try clear hb2); (try clear hk); (try clear hi)))
  go_ret
  exact ⟨by first | rfl | (simp [*] <;> rfl), by repeat (first | (with_reducible first | exact HB.out | apply below_alloc | apply pw_below_drewN | apply below_drew1) | exact HB.out)⟩

end Go.Proofs.YtloccjkcmlkifaaDoor.PCar

