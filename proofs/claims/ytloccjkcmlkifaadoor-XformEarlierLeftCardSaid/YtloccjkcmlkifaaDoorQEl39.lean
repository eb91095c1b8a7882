/- XformEarlierLeft_card, part 39. -/
import Derived.Test.YtloccjkcmlkifaaDoorQEl19
import Derived.Test.YtloccjkcmlkifaaDoorQEl37

namespace Go.Proofs.YtloccjkcmlkifaaDoor.PAll
open Go.RowKit Go.Proofs.YtloccjkcmlkifaaDoorW.PrintWords Go.Proofs.YtloccjkcmlkifaaDoorW.PrintLast Go.Proofs.YtloccjkcmlkifaaDoorW.PrintMore
attribute [local go_sem] max2_int min2_int max_two min_two max_three min_three max_four min_four   -- for this text's walks alone
set_option linter.unusedVariables false
set_option linter.unusedSimpArgs false

attribute [local go_sem high] idx34_0 idx34_1 idx35_0 idx35_1
mutual
def redraftlaw05_does.j0 : Nat → List (S48) → Bool → Int → Int → Int → Int → ByteArray → List (S94) → Int → Int → Bool → Option ((List (S48)) × Bool)
 | 0, _, _, _, _, _, _, _, _, _, _, _ => none
 | k + 1, x0, x28, x571000, x571001, x571002, x571003, x571004, x571005, x571006, x571007, x571008 => if x28 = true then (some (([] : List (S48)), false)) else (if 0 ≤ x571003 then (if x571003 ≤ (x0.length : Int) then ((some (x0.take (x571003 : Int).toNat : List (S48))).bind fun y574 => (if ([] : List (S48)).length + y574.length < 4398046511104 then (redraftlaw05_does.l0 k x0 (([] : List (S48)) ++ y574) 0 x571000 x571001 x571002 x571003 x571004 x571005 x571006 x571007 x571008) else (none))) else (none)) else (none))
def redraftlaw05_does.l0 : Nat → List (S48) → List (S48) → Int → Int → Int → Int → Int → ByteArray → List (S94) → Int → Int → Bool → Option ((List (S48)) × Bool)
 | 0, _, _, _, _, _, _, _, _, _, _, _, _ => none
 | k + 1, x0, x6, x7, x571000, x571001, x571002, x571003, x571004, x571005, x571006, x571007, x571008 => (redraftlaw05_width.f k x571000 x571001 x571002 x571003 x571004 x571005 x571006 x571007 x571008).bind fun t581 => (if x7 < t581 then (if x6.length < 4398046511104 then (redraftlaw05_does.l0 k x0 (x6 ++ [(⟨(⟨x571000, x571001⟩ : S35), x7, 0⟩ : S48)]) (wrap64 (x7 + 1)) x571000 x571001 x571002 x571003 x571004 x571005 x571006 x571007 x571008) else (none)) else (if 0 ≤ x571003 then (if x571003 ≤ (x0.length : Int) then ((some (x0.drop (x571003 : Int).toNat : List (S48))).bind fun y585 => (if x6.length + y585.length < 4398046511104 then (some ((x6 ++ y585), true)) else (none))) else (none)) else (none)))
def redraftlaw05_does.j2 : Nat → List (S48) → List (S48) → Bool → Int → Int → Int → Int → ByteArray → List (S94) → Int → Int → Bool → Option ((List (S48)) × Bool)
 | 0, _, _, _, _, _, _, _, _, _, _, _, _ => none
 | k + 1, x0, x6, x54, x571000, x571001, x571002, x571003, x571004, x571005, x571006, x571007, x571008 => if x54 = true then (if x571002 = 3 then (redraftlaw05_does.j3 k x0 x6 (-1) x571000 x571001 x571002 x571003 x571004 x571005 x571006 x571007 x571008) else (redraftlaw05_does.j3 k x0 x6 1 x571000 x571001 x571002 x571003 x571004 x571005 x571006 x571007 x571008)) else (some (x6, (x571002 == 4)))
def redraftlaw05_does.j3 : Nat → List (S48) → List (S48) → Int → Int → Int → Int → Int → ByteArray → List (S94) → Int → Int → Bool → Option ((List (S48)) × Bool)
 | 0, _, _, _, _, _, _, _, _, _, _, _, _ => none
 | k + 1, x0, x6, x8, x571000, x571001, x571002, x571003, x571004, x571005, x571006, x571007, x571008 => redraftlaw05_does.l1 k x0 x6 x8 0 x571000 x571001 x571002 x571003 x571004 x571005 x571006 x571007 x571008
def redraftlaw05_does.l1 : Nat → List (S48) → List (S48) → Int → Int → Int → Int → Int → Int → ByteArray → List (S94) → Int → Int → Bool → Option ((List (S48)) × Bool)
 | 0, _, _, _, _, _, _, _, _, _, _, _, _, _ => none
 | k + 1, x0, x6, x8, x9, x571000, x571001, x571002, x571003, x571004, x571005, x571006, x571007, x571008 => if x9 < (x571005.length : Int) then (if 0 ≤ x9 then (if ((rd_T94 x571005 x9).f0) < 0 then (redraftlaw05_does.j5 k x0 x6 x8 x9 true x571000 x571001 x571002 x571003 x571004 x571005 x571006 x571007 x571008 ((rd_T94 x571005 x9).f0) ((rd_T94 x571005 x9).f1)) else (if ((rd_T94 x571005 x9).f0) ≥ ((rd_T94 x571005 x9).f1) then (redraftlaw05_does.j5 k x0 x6 x8 x9 true x571000 x571001 x571002 x571003 x571004 x571005 x571006 x571007 x571008 ((rd_T94 x571005 x9).f0) ((rd_T94 x571005 x9).f1)) else (if ((rd_T94 x571005 x9).f1) > (x0.length : Int) then (redraftlaw05_does.j5 k x0 x6 x8 x9 true x571000 x571001 x571002 x571003 x571004 x571005 x571006 x571007 x571008 ((rd_T94 x571005 x9).f0) ((rd_T94 x571005 x9).f1)) else (if x9 > 0 then (if 0 ≤ (wrap64 (x9 - 1)) then (if (wrap64 (x9 - 1)) < (x571005.length : Int) then (redraftlaw05_does.j5 k x0 x6 x8 x9 (decide (((rd_T94 x571005 x9).f0) ≤ ((rd_T94 x571005 (wrap64 (x9 - 1))).f1))) x571000 x571001 x571002 x571003 x571004 x571005 x571006 x571007 x571008 ((rd_T94 x571005 x9).f0) ((rd_T94 x571005 x9).f1)) else (none)) else (none)) else (redraftlaw05_does.j5 k x0 x6 x8 x9 false x571000 x571001 x571002 x571003 x571004 x571005 x571006 x571007 x571008 ((rd_T94 x571005 x9).f0) ((rd_T94 x571005 x9).f1)))))) else (none)) else (some (x6, decide ((x571005.length : Int) > 0)))
def redraftlaw05_does.j5 : Nat → List (S48) → List (S48) → Int → Int → Bool → Int → Int → Int → Int → ByteArray → List (S94) → Int → Int → Bool → Int → Int → Option ((List (S48)) × Bool)
 | 0, _, _, _, _, _, _, _, _, _, _, _, _, _, _, _, _ => none
 | k + 1, x0, x6, x8, x9, x105, x571000, x571001, x571002, x571003, x571004, x571005, x571006, x571007, x571008, x594000, x594001 => if x105 = true then (some (([] : List (S48)), false)) else (redraftlaw05_does.l2 k x0 x6 x8 x9 x594000 x571000 x571001 x571002 x571003 x571004 x571005 x571006 x571007 x571008 x594000 x594001)
def redraftlaw05_does.l2 : Nat → List (S48) → List (S48) → Int → Int → Int → Int → Int → Int → Int → ByteArray → List (S94) → Int → Int → Bool → Int → Int → Option ((List (S48)) × Bool)
 | 0, _, _, _, _, _, _, _, _, _, _, _, _, _, _, _, _ => none
 | k + 1, x0, x6, x8, x9, x11, x571000, x571001, x571002, x571003, x571004, x571005, x571006, x571007, x571008, x594000, x594001 => if x11 < x594001 then (if 0 ≤ x11 then (if x11 < (x6.length : Int) then (redraftlaw05_does.l2 k x0 (x6.set (x11 : Int).toNat (⟨(⟨(rd_T48 x6 x11).f0.f0, (rd_T48 x6 x11).f0.f1⟩ : S35), (rd_T48 x6 x11).f1, wrap64 (((rd_T48 x6 x11).f2) + x8)⟩ : S48)) x8 x9 (wrap64 (x11 + 1)) x571000 x571001 x571002 x571003 x571004 x571005 x571006 x571007 x571008 x594000 x594001) else (none)) else (none)) else (redraftlaw05_does.l1 k x0 x6 x8 (wrap64 (x9 + 1)) x571000 x571001 x571002 x571003 x571004 x571005 x571006 x571007 x571008)
end
def redraftlaw05_does.f (k : Nat) (l0 : List (S48)) (a1_0 : Int) (a1_1 : Int) (a1_2 : Int) (a1_3 : Int) (a1_4 : ByteArray) (l1_5 : List (S94)) (a1_6 : Int) (a1_7 : Int) (a1_8 : Bool) : Option ((List (S48)) × Bool) := if ([] : List (S48)).length + l0.length < 4398046511104 then ((some (([] : List (S48)) ++ l0 : List (S48))).bind fun y571 => (if a1_2 = 1 then (if a1_3 < 0 then (redraftlaw05_does.j0 k l0 true a1_0 a1_1 a1_2 a1_3 a1_4 l1_5 a1_6 a1_7 a1_8) else (redraftlaw05_does.j0 k l0 (decide (a1_3 > (l0.length : Int))) a1_0 a1_1 a1_2 a1_3 a1_4 l1_5 a1_6 a1_7 a1_8)) else (if a1_2 = 2 then (redraftlaw05_does.j2 k l0 y571 (a1_2 == 2) a1_0 a1_1 a1_2 a1_3 a1_4 l1_5 a1_6 a1_7 a1_8) else (redraftlaw05_does.j2 k l0 y571 (a1_2 == 3) a1_0 a1_1 a1_2 a1_3 a1_4 l1_5 a1_6 a1_7 a1_8)))) else (none)
set_option maxHeartbeats 8000000 in
set_option maxRecDepth 100000 in
theorem redraftlaw05_does.calls (k : Nat) (A0 : Option Addr) (c0 : Nat) (l0 : List (S48)) (a1_0 : Int) (a1_1 : Int) (a1_2 : Int) (a1_3 : Int) (a1_4 : ByteArray) (A1_5 : Option Addr) (c1_5 : Nat) (l1_5 : List (S94)) (a1_6 : Int) (a1_7 : Int) (a1_8 : Bool) (r1 : List (S48)) (r2 : Bool) (w : World) (hr0 : Kd.C k48 w A0 l0.length l0) (hc0 : l0.length ≤ c0) (hr1_5 : Kd.C k94 w A1_5 l1_5.length l1_5) (hc1_5 : l1_5.length ≤ c1_5) (h : redraftlaw05_does.f k l0 a1_0 a1_1 a1_2 a1_3 a1_4 l1_5 a1_6 a1_7 a1_8 = some (r1, r2)) :
 Calls Tryd.prog 54 #[.slice A0 l0.length c0, .agg #[.int .i64 a1_0, .int .i64 a1_1, .int .i64 a1_2, .int .i64 a1_3, .string a1_4, .slice A1_5 l1_5.length c1_5, .int .i64 a1_6, .int .i64 a1_7, .bool a1_8]] w fun e w' => ∃ v0_ : Value, e = .returned (.tuple #[v0_, .bool r2]) ∧ Kd.R k48 48 w' w.heap.size (fun _ => True) v0_ r1 ∧ Below w.heap.size w w' := by
 have hu41 := Tryd.underlying41
 have hu35 := Tryd.underlying35
 have hu48 := Tryd.underlying48
 have hu94 := Tryd.underlying94
 have HR0 := Aside0.mk hr0
 have HC0 := Aside0.mk hc0
 clear hr0 hc0
 have HR1_5 := Aside0.mk hr1_5
 have HC1_5 := Aside0.mk hc1_5
 clear hr1_5 hc1_5
 have HB := Aside0.mk (Below.refl w.heap.size w)
 have H : (if ([] : List (S48)).length + l0.length < 4398046511104 then ((some (([] : List (S48)) ++ l0 : List (S48))).bind fun y571 => (if a1_2 = 1 then (if a1_3 < 0 then (redraftlaw05_does.j0 k l0 true a1_0 a1_1 a1_2 a1_3 a1_4 l1_5 a1_6 a1_7 a1_8) else (redraftlaw05_does.j0 k l0 (decide (a1_3 > (l0.length : Int))) a1_0 a1_1 a1_2 a1_3 a1_4 l1_5 a1_6 a1_7 a1_8)) else (if a1_2 = 2 then (redraftlaw05_does.j2 k l0 y571 (a1_2 == 2) a1_0 a1_1 a1_2 a1_3 a1_4 l1_5 a1_6 a1_7 a1_8) else (redraftlaw05_does.j2 k l0 y571 (a1_2 == 3) a1_0 a1_1 a1_2 a1_3 a1_4 l1_5 a1_6 a1_7 a1_8)))) else (none)) = some (r1, r2) := h
 clear h
 by_cases c3 : ([] : List (S48)).length + l0.length < 4398046511104
 ·rw [if_pos c3] at H
  have LMc3 := Aside0.mk c3
  clear c3
  obtain ⟨y571, hy571⟩ : ∃ y_ : List (S48), y_ = (([] : List (S48)) ++ l0) := ⟨_, rfl⟩
  replace H : (if a1_2 = 1 then (if a1_3 < 0 then (redraftlaw05_does.j0 k l0 true a1_0 a1_1 a1_2 a1_3 a1_4 l1_5 a1_6 a1_7 a1_8) else (redraftlaw05_does.j0 k l0 (decide (a1_3 > (l0.length : Int))) a1_0 a1_1 a1_2 a1_3 a1_4 l1_5 a1_6 a1_7 a1_8)) else (if a1_2 = 2 then (redraftlaw05_does.j2 k l0 y571 (a1_2 == 2) a1_0 a1_1 a1_2 a1_3 a1_4 l1_5 a1_6 a1_7 a1_8) else (redraftlaw05_does.j2 k l0 y571 (a1_2 == 3) a1_0 a1_1 a1_2 a1_3 a1_4 l1_5 a1_6 a1_7 a1_8))) = some (r1, r2) := by first | (rw [hy571]; with_reducible exact H) | (have H2_ := (Option.bind_some _ _).symm.trans H; rw [hy571]; with_reducible exact H2_) | (have H2_ := (Option.bind_some _ _).symm.trans H; with_reducible exact H2_) | with_reducible exact H | (rw [hy571]; exact H) | exact H
  have Ny571 := Aside0.mk hy571
  clear hy571
  by_cases c4 : a1_2 = 1
  ·rw [if_pos c4] at H
   have c4b0 := beq_iff_eq.mpr c4
   have c4b1 := bne_eq_false_iff_eq.mpr c4
   clear c4
   have HC5 := Aside0.mk H
   clear H
   go_enter Tryd.func54, Tryd.ntmps54
   go_upto_region 4 with (first | ((with_reducible refine gate_dst (N := 3) rfl ?_); (try (refine gate_guard (by rfl) ?_; dsimp only)); refine bxE_ 3 41 #[.int .i64 a1_0, .int .i64 a1_1, .int .i64 a1_2, .int .i64 a1_3, .string a1_4, .slice A1_5 l1_5.length c1_5, .int .i64 a1_6, .int .i64 a1_7, .bool a1_8] ?_; intro gb570 hg w6 hbox hb; have BK570 := Aside0.mk (hbox); have GW570 := gee_ hg HB; have GE570 := gee_ hg HB; replace HB := belB_ HB hb; clear hb hbox hg) | ((with_reducible refine gate_builtin (b := .append) (xs := #[.const (.slice none 0 0), .tmp 12]) rfl ?_); (try (refine gate_guard (by rfl) ?_; dsimp only)); at_builtin; refine Kd.R_append_rows k48 (w0 := w) w.heap.size rfl (.const (.slice none 0 0)) (.tmp 12) 27 48 (.agg #[(.int .i64 0), (.int .i64 0), (.int .i64 0), (.int .i64 0)]) 32 rfl Tryd.underlying27 info48 rfl (by decide) (by omega) (.slice none 0 0) ([] : List (S48)) l0 _ _ _ (fun _ => True) (fun _ => False) rfl rfl ?aO ?aR (fun _ _ h => h) (fun _ h => h.elim) ?aF ?aB ?aS ?aL ?_; (case aR => exact CW_ ((Kd.C_below HR0.out HB.out))); (case aB => exact (belW_ HB)); (case aF => exact (fun _ _ => trivial)); (case aO => exact ((Kd.R_nil _ _ _ _ (fun _ => True)))); (case aS => exact (below_size (belW_ HB))); (case aL => have := LMc3.out; omega); intro v572 w7 ho hb hg hat; rw [← Ny571.out] at ho; have HO573 := Aside0.mk (ho); replace BK570 := Aside0.mk (blk_grown (blkW_ BK570) hg (by simp [Value.ownBlock])); replace HB := Aside0.mk (hb); clear ho hb hg hat; obtain ⟨hcz8_0, hcz8_1, hcz8_2, hcz8_3, hcz8_4, hcz8_5, hcz8_6, hcz8_7, hcz8_8, hfz8_0, hfz8_1, hfz8_2, hfz8_3, hfz8_4, hfz8_5, hfz8_6, hfz8_7, hfz8_8⟩ := blk9_ BK570.out))
   repeat (go_quiet (fail); go_upto_region 4 with (fail))
   (try simp only [Act.put, List.setIfInBounds_toArray, List.set_cons_zero, List.set_cons_succ])
   go_cut [28] (fun v28 wc => ∃ (kq : Nat) (x28_4 : Bool), v28 = .bool x28_4 ∧ Aside0 (redraftlaw05_does.j0 kq l0 x28_4 a1_0 a1_1 a1_2 a1_3 a1_4 l1_5 a1_6 a1_7 a1_8 = some (r1, r2)) ∧ Aside0 (kq ≤ k) ∧ Aside0 (wc.heap[gb570]? = some (.cells #[.int .i64 a1_0, .int .i64 a1_1, .int .i64 a1_2, .int .i64 a1_3, .string a1_4, (.slice A1_5 l1_5.length c1_5), .int .i64 a1_6, .int .i64 a1_7, .bool a1_8] 41 (0, 0))) ∧ Aside0 (Below w.heap.size w wc))
   case first =>
    have H := HC5.out
    clear HC5
    by_cases c9 : a1_3 < 0
    ·rw [if_pos c9] at H
     have c9b0 := decide_eq_true c9
     clear c9
     (first | rw [c9b0] | (simp only [i64_w, i32_w]; rw [c9b0]) | rw [c9b1] | skip)
     have H' := Aside0.mk H
     clear H
     obtain ⟨hcz10_0, hcz10_1, hcz10_2, hcz10_3, hcz10_4, hcz10_5, hcz10_6, hcz10_7, hcz10_8, hfz10_0, hfz10_1, hfz10_2, hfz10_3, hfz10_4, hfz10_5, hfz10_6, hfz10_7, hfz10_8⟩ := blk9_ BK570.out
     go_wp2
     repeat (go_quiet (fail); try go_wp2)
     go_meet
     case rel => exact ⟨_, (true), ok_, H', ⟨lo_⟩, ⟨blkW_ BK570⟩, ⟨belW_ HB⟩⟩
    ·rw [if_neg c9] at H
     have c9b0 := decide_eq_false c9
     clear c9
     (first | rw [c9b0] | (simp only [i64_w, i32_w]; rw [c9b0]) | rw [c9b1] | skip)
     have H' := Aside0.mk H
     clear H
     obtain ⟨hcz11_0, hcz11_1, hcz11_2, hcz11_3, hcz11_4, hcz11_5, hcz11_6, hcz11_7, hcz11_8, hfz11_0, hfz11_1, hfz11_2, hfz11_3, hfz11_4, hfz11_5, hfz11_6, hfz11_7, hfz11_8⟩ := blk9_ BK570.out
     go_wp2
     repeat (go_quiet (fail); try go_wp2)
     go_meet
     case rel => exact ⟨_, (decide (a1_3 > (l0.length : Int))), ok_, H', ⟨lo_⟩, ⟨blkW_ BK570⟩, ⟨belW_ HB⟩⟩
   case rest =>
    clear HC5
    try clear c3
    try clear c4
    try clear c4b0
    try clear c4b1
    try clear hcz8_0
    try clear hcz8_1
    try clear hcz8_2
    try clear hcz8_3
    try clear hcz8_4
    try clear hcz8_5
    try clear hcz8_6
    try clear hcz8_7
    try clear hcz8_8
    try clear hfz8_0
    try clear hfz8_1
    try clear hfz8_2
    try clear hfz8_3
    try clear hfz8_4
    try clear hfz8_5
    try clear hfz8_6
    try clear hfz8_7
    try clear hfz8_8
    obtain ⟨kq, x28_4, rfl, HA, HJ4, BK570, HB⟩ := hcut
    cases kq with
    | zero => exact absurd HA.out (by simp [redraftlaw05_does.j0])
    | succ kj4 =>
     have H := HA.out
     clear HA
     simp only [redraftlaw05_does.j0] at H
     by_cases c12 : x28_4 = true
     ·subst c12
      have H1 := H; rw [if_pos rfl] at H1
      clear H
      have H := H1
      clear H1
      simp only [Option.some.injEq, Prod.mk.injEq] at H
      obtain ⟨rfl, rfl⟩ := H
      go_wp2
      repeat (go_quiet (fail); try go_wp2)
      go_ret2
      exact ⟨_, rs_, nl_, belW_ HB⟩
     ·replace c12 := Bool.eq_false_iff.mpr c12
      subst c12
      have H1 := H; rw [if_neg (show ¬ (false = true) by decide)] at H1
      clear H
      have H := H1
      clear H1
      by_cases c13 : 0 ≤ a1_3
      ·rw [if_pos c13] at H
       have c13b0 := eq_true c13
       have c13b1 := decide_eq_true c13
       clear c13
       by_cases c14 : a1_3 ≤ (l0.length : Int)
       ·rw [if_pos c14] at H
        have c14b0 := eq_true c14
        have c14b1 := decide_eq_true c14
        clear c14
        obtain ⟨y574, hy574⟩ : ∃ y_ : List (S48), y_ = (l0.take (a1_3 : Int).toNat) := ⟨_, rfl⟩
        replace H : (if ([] : List (S48)).length + y574.length < 4398046511104 then (redraftlaw05_does.l0 kj4 l0 (([] : List (S48)) ++ y574) 0 a1_0 a1_1 a1_2 a1_3 a1_4 l1_5 a1_6 a1_7 a1_8) else (none)) = some (r1, r2) := by first | (rw [hy574]; with_reducible exact H) | (have H2_ := (Option.bind_some _ _).symm.trans H; rw [hy574]; with_reducible exact H2_) | (have H2_ := (Option.bind_some _ _).symm.trans H; with_reducible exact H2_) | with_reducible exact H | (rw [hy574]; exact H) | exact H
        have Ny574 := Aside0.mk hy574
        clear hy574
        by_cases c15 : ([] : List (S48)).length + y574.length < 4398046511104
        ·rw [if_pos c15] at H
         have LMc15 := Aside0.mk c15
         clear c15
         obtain ⟨y578, hy578⟩ : ∃ y_ : List (S48), y_ = (([] : List (S48)) ++ y574) := ⟨_, rfl⟩
         replace H : (redraftlaw05_does.l0 kj4 l0 y578 0 a1_0 a1_1 a1_2 a1_3 a1_4 l1_5 a1_6 a1_7 a1_8) = some (r1, r2) := by first | (rw [hy578]; with_reducible exact H) | (have H2_ := (Option.bind_some _ _).symm.trans H; rw [hy578]; with_reducible exact H2_) | (have H2_ := (Option.bind_some _ _).symm.trans H; with_reducible exact H2_) | with_reducible exact H | (rw [hy578]; exact H) | exact H
         have Ny578 := Aside0.mk hy578
         clear hy578
         have H' := Aside0.mk H
         clear H
         obtain ⟨hcz16_0, hcz16_1, hcz16_2, hcz16_3, hcz16_4, hcz16_5, hcz16_6, hcz16_7, hcz16_8, hfz16_0, hfz16_1, hfz16_2, hfz16_3, hfz16_4, hfz16_5, hfz16_6, hfz16_7, hfz16_8⟩ := blk9_ BK570.out
         have q17 : (a1_3 : Int) ≤ ((l0.length : Int) : Int) := of_decide_eq_true (by first | (with_reducible assumption) | assumption)
         obtain ⟨i017, hi017, _, hsz17, _⟩ := info_parts info48
         have hroom17 : l0.length ≤ c0 := HC0.out
         have hC17 : Kd.C k48 _ A0 l0.length l0 := HR0.out
         have hcut17 := cut_to (P := Tryd.prog) 27 48 .i64 Tryd.underlying27 hi017 A0 l0.length c0 a1_3 (of_decide_eq_true (by first | (with_reducible assumption) | assumption)) q17 hroom17
         have hr17 := Kd.C_take (m := (a1_3 : Int).toNat) hC17 (by omega)
         have hy17 : y574.length = (a1_3 : Int).toNat := (by rw [Ny574.out, List.length_take]; omega)
         rw [← Ny574.out] at hr17
         rw [← hy17] at hcut17
         have HR577 := Aside0.mk hr17
         have HC577 := Aside0.mk (show y574.length ≤ c0 from by omega)
         clear hr17 hC17 hroom17 hi017 hsz17
         have KY17 := Aside0.mk hy17
         clear hy17
         replace q17 := eq_true q17
         go_wp2_with (((with_reducible refine gate_builtin (b := .append) (xs := #[.const (.slice none 0 0), .tmp 32]) rfl ?_); (try (refine gate_guard (by rfl) ?_; dsimp only)); at_builtin; refine Kd.R_append_rows k48 (w0 := w) w.heap.size rfl (.const (.slice none 0 0)) (.tmp 32) 27 48 (.agg #[(.int .i64 0), (.int .i64 0), (.int .i64 0), (.int .i64 0)]) 32 rfl Tryd.underlying27 info48 rfl (by decide) (by omega) (.slice none 0 0) ([] : List (S48)) y574 _ _ _ (fun _ => True) (fun _ => False) rfl rfl ?aO ?aR (fun _ _ h => h) (fun _ h => h.elim) ?aF ?aB ?aS ?aL ?_; (case aR => exact CW_ ((Kd.C_below HR577.out HB.out))); (case aB => exact (belW_ HB)); (case aF => exact (fun _ _ => trivial)); (case aO => exact ((Kd.R_nil _ _ _ _ (fun _ => True)))); (case aS => exact (below_size (belW_ HB))); (case aL => have := LMc15.out; omega); intro v579 w18 ho hb hg hat; rw [← Ny578.out] at ho; have HO580 := Aside0.mk (ho); replace BK570 := Aside0.mk (blk_grown (blkW_ BK570) hg (by simp [Value.ownBlock])); replace HB := Aside0.mk (hb); clear ho hb hg hat))
         repeat (go_quiet (fail); try go_wp2_with (fail))
         go_loopg [6, 7] kj4 (fun kq v6 v7 w' => ∃ (x6_2 : List (S48)) (x7_2 : Int), v7 = .int .i64 x7_2 ∧ Aside0 (redraftlaw05_does.l0 kq l0 x6_2 x7_2 a1_0 a1_1 a1_2 a1_3 a1_4 l1_5 a1_6 a1_7 a1_8 = some (r1, r2)) ∧ Aside0 (kq ≤ kj4) ∧ Aside0 (Kd.R k48 48 w' w.heap.size (fun _ => True) v6 x6_2) ∧ Aside0 (w'.heap[gb570]? = some (.cells #[.int .i64 a1_0, .int .i64 a1_1, .int .i64 a1_2, .int .i64 a1_3, .string a1_4, (.slice A1_5 l1_5.length c1_5), .int .i64 a1_6, .int .i64 a1_7, .bool a1_8] 41 (0, 0))) ∧ Aside0 (Below w.heap.size w w'))
         case atStart => exact ⟨(y578), (0), ok_, H', ⟨Nat.le_refl _⟩, ⟨RW_ <| HO580.out⟩, ⟨blkW_ BK570⟩, ⟨belW_ HB⟩⟩
         case round =>
          clear H'
          try clear c1
          try clear q1
          try clear p2
          try clear c3
          try clear c4
          try clear c4b0
          try clear c4b1
          try clear c5
          try clear c9
          try clear c9b0
          try clear c9b1
          try clear c12
          try clear c13
          try clear c13b0
          try clear c13b1
          try clear c14
          try clear c14b0
          try clear c14b1
          try clear c15
          try clear q17
          try clear hcz10_0
          try clear hcz10_1
          try clear hcz10_2
          try clear hcz10_3
          try clear hcz10_4
          try clear hcz10_5
          try clear hcz10_6
          try clear hcz10_7
          try clear hcz10_8
          try clear hcz11_0
          try clear hcz11_1
          try clear hcz11_2
          try clear hcz11_3
          try clear hcz11_4
          try clear hcz11_5
          try clear hcz11_6
          try clear hcz11_7
          try clear hcz11_8
          try clear hcz16_0
          try clear hcz16_1
          try clear hcz16_2
          try clear hcz16_3
          try clear hcz16_4
          try clear hcz16_5
          try clear hcz16_6
          try clear hcz16_7
          try clear hcz16_8
          try clear hcz8_0
          try clear hcz8_1
          try clear hcz8_2
          try clear hcz8_3
          try clear hcz8_4
          try clear hcz8_5
          try clear hcz8_6
          try clear hcz8_7
          try clear hcz8_8
          try clear hfz10_0
          try clear hfz10_1
          try clear hfz10_2
          try clear hfz10_3
          try clear hfz10_4
          try clear hfz10_5
          try clear hfz10_6
          try clear hfz10_7
          try clear hfz10_8
          try clear hfz11_0
          try clear hfz11_1
          try clear hfz11_2
          try clear hfz11_3
          try clear hfz11_4
          try clear hfz11_5
          try clear hfz11_6
          try clear hfz11_7
          try clear hfz11_8
          try clear hfz16_0
          try clear hfz16_1
          try clear hfz16_2
          try clear hfz16_3
          try clear hfz16_4
          try clear hfz16_5
          try clear hfz16_6
          try clear hfz16_7
          try clear hfz16_8
          try clear hfz8_0
          try clear hfz8_1
          try clear hfz8_2
          try clear hfz8_3
          try clear hfz8_4
          try clear hfz8_5
          try clear hfz8_6
          try clear hfz8_7
          try clear hfz8_8
          try clear p2
          try clear q17
          obtain ⟨x6_2, x7_2, rfl, HA, HK2, HO_6, BK570, HB⟩ := hrel
          cases gk with
          | zero => exact absurd HA.out (by simp [redraftlaw05_does.l0])
          | succ k2 =>
           have H := HA.out
           clear HA
           simp only [redraftlaw05_does.l0] at H
           replace H := Option.bind_eq_some_iff.mp H
           obtain ⟨t581, A190, H⟩ := H
           try dsimp only at H
           have A19 := Aside0.mk A190
           clear A190
           by_cases c20 : x7_2 < t581
           ·rw [if_pos c20] at H
            have c20b0 := decide_eq_true c20
            clear c20
            by_cases c21 : x6_2.length < 4398046511104
            ·rw [if_pos c21] at H
             have LMc21 := Aside0.mk c21
             clear c21
             obtain ⟨y582, hy582⟩ : ∃ y_ : List (S48), y_ = (x6_2 ++ [(⟨(⟨a1_0, a1_1⟩ : S35), x7_2, 0⟩ : S48)]) := ⟨_, rfl⟩
             replace H : (redraftlaw05_does.l0 k2 l0 y582 (wrap64 (x7_2 + 1)) a1_0 a1_1 a1_2 a1_3 a1_4 l1_5 a1_6 a1_7 a1_8) = some (r1, r2) := by first | (rw [hy582]; with_reducible exact H) | (have H2_ := (Option.bind_some _ _).symm.trans H; rw [hy582]; with_reducible exact H2_) | (have H2_ := (Option.bind_some _ _).symm.trans H; with_reducible exact H2_) | with_reducible exact H | (rw [hy582]; exact H) | exact H
             have Ny582 := Aside0.mk hy582
             clear hy582
             have H' := Aside0.mk H
             clear H
             obtain ⟨hcz22_0, hcz22_1, hcz22_2, hcz22_3, hcz22_4, hcz22_5, hcz22_6, hcz22_7, hcz22_8, hfz22_0, hfz22_1, hfz22_2, hfz22_3, hfz22_4, hfz22_5, hfz22_6, hfz22_7, hfz22_8⟩ := blk9_ BK570.out
             go_wp2_with (first | (go_at_call 28; (with_reducible refine (redraftlaw05_width.calls k2 a1_0 a1_1 a1_2 a1_3 a1_4 _ _ l1_5 a1_6 a1_7 a1_8 t581 _ ?side1 ?side2 A19.out).mono ?_); (case side1 => exact CW_ ((Kd.C_below HR1_5.out HB.out))); (case side2 => exact HC1_5.out); rintro e w23 ⟨rfl, hb⟩; replace HO_6 := Aside0.mk (Kd.R_below (RW_ <| HO_6.out) hb); replace BK570 := blkB_ BK570 hb; replace HB := belB_ HB hb; try clear hb; obtain ⟨hcz24_0, hcz24_1, hcz24_2, hcz24_3, hcz24_4, hcz24_5, hcz24_6, hcz24_7, hcz24_8, hfz24_0, hfz24_1, hfz24_2, hfz24_3, hfz24_4, hfz24_5, hfz24_6, hfz24_7, hfz24_8⟩ := blk9_ BK570.out) | ((with_reducible refine gate_builtin (b := .append) (xs := #[.tmp 40, .tmp 46]) rfl ?_); (try (refine gate_guard (by rfl) ?_; dsimp only)); at_builtin; refine Kd.R_append k48 (w0 := w) w.heap.size rfl (.tmp 40) (.tmp 46) 27 48 (.agg #[(.int .i64 0), (.int .i64 0), (.int .i64 0), (.int .i64 0)]) 32 rfl Tryd.underlying27 info48 rfl (by decide) (by omega) u6 x6_2 (⟨(⟨a1_0, a1_1⟩ : S35), x7_2, 0⟩ : S48) [.int .i64 a1_0, .int .i64 a1_1, .int .i64 x7_2, .int .i64 0] (fun _ => True) (fun _ => False) rfl rfl ?aP (fun _ hk => hk.elim) ?aF ?aO ?aB ?aS ?aL ?_; (case aP => exact k48_mkM _ _ _ (⟨(⟨a1_0, a1_1⟩ : S35), x7_2, 0⟩ : S48)); (case aB => exact (belW_ HB)); (case aF => exact (fun _ _ => trivial)); (case aO => exact (RW_ <| HO_6.out)); (case aS => exact (below_size (belW_ HB))); (case aL => have := LMc21.out; omega); intro v583 w25 ho hb hg hat; rw [← Ny582.out] at ho; have HO584 := Aside0.mk (ho); replace BK570 := Aside0.mk (blk_grown (blkW_ BK570) hg (Kd.R_ne HO_6.out BK570.out (by decide))); replace HB := Aside0.mk (hb); clear HO_6; clear ho hb hg hat))
             repeat (go_quiet (fail); try go_wp2_with (fail))
             go_roundg k2
             case measure => have := HJ4.out; have := HK2.out; omega
             case rel => exact ⟨(y582), (wrap64 (x7_2 + 1)), ok_, H', ⟨by have := HJ4.out; have := HK2.out; omega⟩, ⟨RW_ <| HO584.out⟩, ⟨blkW_ BK570⟩, ⟨belW_ HB⟩⟩
            ·rw [if_neg c21] at H
             exact absurd H (by simp)
           ·rw [if_neg c20] at H
            have c20b0 := decide_eq_false c20
            clear c20
            by_cases c26 : 0 ≤ a1_3
            ·rw [if_pos c26] at H
             have c26b0 := eq_true c26
             have c26b1 := decide_eq_true c26
             clear c26
             by_cases c27 : a1_3 ≤ (l0.length : Int)
             ·rw [if_pos c27] at H
              have c27b0 := eq_true c27
              have c27b1 := decide_eq_true c27
              clear c27
              obtain ⟨y585, hy585⟩ : ∃ y_ : List (S48), y_ = (l0.drop (a1_3 : Int).toNat) := ⟨_, rfl⟩
              replace H : (if x6_2.length + y585.length < 4398046511104 then (some ((x6_2 ++ y585), true)) else (none)) = some (r1, r2) := by first | (rw [hy585]; with_reducible exact H) | (have H2_ := (Option.bind_some _ _).symm.trans H; rw [hy585]; with_reducible exact H2_) | (have H2_ := (Option.bind_some _ _).symm.trans H; with_reducible exact H2_) | with_reducible exact H | (rw [hy585]; exact H) | exact H
              have Ny585 := Aside0.mk hy585
              clear hy585
              by_cases c28 : x6_2.length + y585.length < 4398046511104
              ·rw [if_pos c28] at H
               have LMc28 := Aside0.mk c28
               clear c28
               obtain ⟨y589, hy589⟩ : ∃ y_ : List (S48), y_ = (x6_2 ++ y585) := ⟨_, rfl⟩
               replace H : (some (y589, true)) = some (r1, r2) := by first | (rw [hy589]; with_reducible exact H) | (have H2_ := (Option.bind_some _ _).symm.trans H; rw [hy589]; with_reducible exact H2_) | (have H2_ := (Option.bind_some _ _).symm.trans H; with_reducible exact H2_) | with_reducible exact H | (rw [hy589]; exact H) | exact H
               have Ny589 := Aside0.mk hy589
               clear hy589
               simp only [Option.some.injEq, Prod.mk.injEq] at H
               obtain ⟨rfl, rfl⟩ := H
               obtain ⟨hcz29_0, hcz29_1, hcz29_2, hcz29_3, hcz29_4, hcz29_5, hcz29_6, hcz29_7, hcz29_8, hfz29_0, hfz29_1, hfz29_2, hfz29_3, hfz29_4, hfz29_5, hfz29_6, hfz29_7, hfz29_8⟩ := blk9_ BK570.out
               go_wp2_with (first | (go_at_call 28; (with_reducible refine (redraftlaw05_width.calls k2 a1_0 a1_1 a1_2 a1_3 a1_4 _ _ l1_5 a1_6 a1_7 a1_8 t581 _ ?side1 ?side2 A19.out).mono ?_); (case side1 => exact CW_ ((Kd.C_below HR1_5.out HB.out))); (case side2 => exact HC1_5.out); rintro e w30 ⟨rfl, hb⟩; replace HO_6 := Aside0.mk (Kd.R_below (RW_ <| HO_6.out) hb); replace BK570 := blkB_ BK570 hb; replace HB := belB_ HB hb; try clear hb; obtain ⟨hcz31_0, hcz31_1, hcz31_2, hcz31_3, hcz31_4, hcz31_5, hcz31_6, hcz31_7, hcz31_8, hfz31_0, hfz31_1, hfz31_2, hfz31_3, hfz31_4, hfz31_5, hfz31_6, hfz31_7, hfz31_8⟩ := blk9_ BK570.out; have q32 : (a1_3 : Int) ≤ ((l0.length : Int) : Int) := of_decide_eq_true (by first | (with_reducible assumption) | assumption); obtain ⟨i032, hi032, _, hsz32, _⟩ := info_parts info48; have hroom32 : l0.length ≤ c0 := HC0.out; have hC32 : Kd.C k48 _ A0 l0.length l0 := HR0.out; have q032 : (0 : Int) ≤ (a1_3 : Int) := of_decide_eq_true (by first | (with_reducible assumption) | assumption); have hcut32 := cut_from (P := Tryd.prog) 27 48 .i64 Tryd.underlying27 hi032 4 hsz32 A0 l0.length c0 a1_3 q032 q32; have hr32 := Kd.C_drop (m := (a1_3 : Int).toNat) (c := c0) hC32 (by omega) hroom32; obtain ⟨A32, hA32⟩ : ∃ A1, A1 = (if c0 = (a1_3 : Int).toNat then A0 else (A0 : Option Addr).map (·.add ((a1_3 : Int).toNat * 4))) := ⟨_, rfl⟩; obtain ⟨c32, hc32⟩ : ∃ c1, c1 = c0 - (a1_3 : Int).toNat := ⟨_, rfl⟩; have hy32 : y585.length = l0.length - (a1_3 : Int).toNat := (by rw [Ny585.out, List.length_drop] <;> omega); rw [show (l0).drop (a1_3 : Int).toNat = y585 from Ny585.out.symm] at hr32; replace hr32 : Kd.C k48 _ A32 y585.length y585 := (by rw [hA32]; exact hr32); rw [← hy32, ← hA32, ← hc32] at hcut32; have HR588 := Aside0.mk hr32; have HC588 := Aside0.mk (show y585.length ≤ c32 from by rw [hy32, hc32]; exact Nat.sub_le_sub_right hroom32 _); clear hr32 hC32 hroom32 hi032 hsz32 hc32; have KY32 := Aside0.mk hy32; have KA32 := Aside0.mk hA32; clear hy32 hA32; replace q32 := eq_true q32) | ((with_reducible refine gate_builtin (b := .append) (xs := #[.tmp 48, .tmp 52]) rfl ?_); (try (refine gate_guard (by rfl) ?_; dsimp only)); at_builtin; refine Kd.R_append_rows k48 (w0 := w) w.heap.size rfl (.tmp 48) (.tmp 52) 27 48 (.agg #[(.int .i64 0), (.int .i64 0), (.int .i64 0), (.int .i64 0)]) 32 rfl Tryd.underlying27 info48 rfl (by decide) (by omega) u6 x6_2 y585 _ _ _ (fun _ => True) (fun _ => False) rfl rfl ?aO ?aR (fun _ _ h => h) (fun _ h => h.elim) ?aF ?aB ?aS ?aL ?_; (case aR => exact CW_ ((Kd.C_below HR588.out HB.out))); (case aB => exact (belW_ HB)); (case aF => exact (fun _ _ => trivial)); (case aO => exact (RW_ <| HO_6.out)); (case aS => exact (below_size (belW_ HB))); (case aL => have := LMc28.out; omega); intro v590 w33 ho hb hg hat; rw [← Ny589.out] at ho; have HO591 := Aside0.mk (ho); replace BK570 := Aside0.mk (blk_grown (blkW_ BK570) hg (Kd.R_ne HO_6.out BK570.out (by decide))); replace HB := Aside0.mk (hb); clear HO_6; clear ho hb hg hat))
               repeat (go_quiet (fail); try go_wp2_with (fail))
               go_ret2
               exact ⟨_, rs_, RW_ <| HO591.out, belW_ HB⟩
              ·rw [if_neg c28] at H
               exact absurd H (by simp)
             ·rw [if_neg c27] at H
              exact absurd H (by simp)
            ·rw [if_neg c26] at H
             exact absurd H (by simp)
        ·rw [if_neg c15] at H
         exact absurd H (by simp)
       ·rw [if_neg c14] at H
        exact absurd H (by simp)
      ·rw [if_neg c13] at H
       exact absurd H (by simp)
  ·rw [if_neg c4] at H
   have c4b0 := beq_eq_false_iff_ne.mpr c4
   have c4b1 := bne_iff_ne.mpr c4
   have HC34 := Aside0.mk H
   clear H
   go_enter Tryd.func54, Tryd.ntmps54
   go_upto_if 54 with (first | ((with_reducible refine gate_dst (N := 3) rfl ?_); (try (refine gate_guard (by rfl) ?_; dsimp only)); refine bxE_ 3 41 #[.int .i64 a1_0, .int .i64 a1_1, .int .i64 a1_2, .int .i64 a1_3, .string a1_4, .slice A1_5 l1_5.length c1_5, .int .i64 a1_6, .int .i64 a1_7, .bool a1_8] ?_; intro gb570 hg w35 hbox hb; have BK570 := Aside0.mk (hbox); have GW570 := gee_ hg HB; have GE570 := gee_ hg HB; replace HB := belB_ HB hb; clear hb hbox hg) | ((with_reducible refine gate_builtin (b := .append) (xs := #[.const (.slice none 0 0), .tmp 12]) rfl ?_); (try (refine gate_guard (by rfl) ?_; dsimp only)); at_builtin; refine Kd.R_append_rows k48 (w0 := w) w.heap.size rfl (.const (.slice none 0 0)) (.tmp 12) 27 48 (.agg #[(.int .i64 0), (.int .i64 0), (.int .i64 0), (.int .i64 0)]) 32 rfl Tryd.underlying27 info48 rfl (by decide) (by omega) (.slice none 0 0) ([] : List (S48)) l0 _ _ _ (fun _ => True) (fun _ => False) rfl rfl ?aO ?aR (fun _ _ h => h) (fun _ h => h.elim) ?aF ?aB ?aS ?aL ?_; (case aR => exact CW_ ((Kd.C_below HR0.out HB.out))); (case aB => exact (belW_ HB)); (case aF => exact (fun _ _ => trivial)); (case aO => exact ((Kd.R_nil _ _ _ _ (fun _ => True)))); (case aS => exact (below_size (belW_ HB))); (case aL => have := LMc3.out; omega); intro v572 w36 ho hb hg hat; rw [← Ny571.out] at ho; have HO573 := Aside0.mk (ho); replace BK570 := Aside0.mk (blk_grown (blkW_ BK570) hg (by simp [Value.ownBlock])); replace HB := Aside0.mk (hb); clear ho hb hg hat; obtain ⟨hcz37_0, hcz37_1, hcz37_2, hcz37_3, hcz37_4, hcz37_5, hcz37_6, hcz37_7, hcz37_8, hfz37_0, hfz37_1, hfz37_2, hfz37_3, hfz37_4, hfz37_5, hfz37_6, hfz37_7, hfz37_8⟩ := blk9_ BK570.out))
   repeat (go_quiet (fail); go_upto_if 54 with (fail))
   (try simp only [Act.put, List.setIfInBounds_toArray, List.set_cons_zero, List.set_cons_succ])
   go_cut [54] (fun v54 wc => ∃ (kq : Nat) (x54_33 : Bool), v54 = .bool x54_33 ∧ Aside0 (redraftlaw05_does.j2 kq l0 y571 x54_33 a1_0 a1_1 a1_2 a1_3 a1_4 l1_5 a1_6 a1_7 a1_8 = some (r1, r2)) ∧ Aside0 (kq ≤ k) ∧ Aside0 (Kd.R k48 48 wc w.heap.size (fun _ => True) v572 y571) ∧ Aside0 (wc.heap[gb570]? = some (.cells #[.int .i64 a1_0, .int .i64 a1_1, .int .i64 a1_2, .int .i64 a1_3, .string a1_4, (.slice A1_5 l1_5.length c1_5), .int .i64 a1_6, .int .i64 a1_7, .bool a1_8] 41 (0, 0))) ∧ Aside0 (Below w.heap.size w wc))
   case first =>
    have H := HC34.out
    clear HC34
    by_cases c38 : a1_2 = 2
    ·rw [if_pos c38] at H
     have c38b0 := beq_iff_eq.mpr c38
     have c38b1 := bne_eq_false_iff_eq.mpr c38
     clear c38
     (first | rw [c38b0] | (simp only [i64_w, i32_w]; rw [c38b0]) | rw [c38b1] | skip)
     have H' := Aside0.mk H
     clear H
     go_wp2
     repeat (go_quiet (fail); try go_wp2)
     go_meet
     case rel => exact ⟨_, ((a1_2 == 2)), ok_, H', ⟨lo_⟩, ⟨RW_ <| HO573.out⟩, ⟨blkW_ BK570⟩, ⟨belW_ HB⟩⟩
    ·rw [if_neg c38] at H
     have c38b0 := beq_eq_false_iff_ne.mpr c38
     have c38b1 := bne_iff_ne.mpr c38
     (first | rw [c38b0] | (simp only [i64_w, i32_w]; rw [c38b0]) | rw [c38b1] | skip)
     have H' := Aside0.mk H
     clear H
     go_wp2
     repeat (go_quiet (fail); try go_wp2)
     go_meet
     case rel => exact ⟨_, ((a1_2 == 3)), ok_, H', ⟨lo_⟩, ⟨RW_ <| HO573.out⟩, ⟨blkW_ BK570⟩, ⟨belW_ HB⟩⟩
   case rest =>
    clear HC34
    try clear c1
    try clear q1
    try clear p2
    try clear c3
    try clear c4
    try clear c4b0
    try clear c4b1
    try clear c5
    try clear c9
    try clear c9b0
    try clear c9b1
    try clear c12
    try clear c13
    try clear c13b0
    try clear c13b1
    try clear c14
    try clear c14b0
    try clear c14b1
    try clear c15
    try clear q17
    try clear c20
    try clear c20b0
    try clear c21
    try clear c26
    try clear c26b0
    try clear c26b1
    try clear c27
    try clear c27b0
    try clear c27b1
    try clear c28
    try clear c32
    try clear q32
    try clear hcz10_0
    try clear hcz10_1
    try clear hcz10_2
    try clear hcz10_3
    try clear hcz10_4
    try clear hcz10_5
    try clear hcz10_6
    try clear hcz10_7
    try clear hcz10_8
    try clear hcz11_0
    try clear hcz11_1
    try clear hcz11_2
    try clear hcz11_3
    try clear hcz11_4
    try clear hcz11_5
    try clear hcz11_6
    try clear hcz11_7
    try clear hcz11_8
    try clear hcz16_0
    try clear hcz16_1
    try clear hcz16_2
    try clear hcz16_3
    try clear hcz16_4
    try clear hcz16_5
    try clear hcz16_6
    try clear hcz16_7
    try clear hcz16_8
    try clear hcz22_0
    try clear hcz22_1
    try clear hcz22_2
    try clear hcz22_3
    try clear hcz22_4
    try clear hcz22_5
    try clear hcz22_6
    try clear hcz22_7
    try clear hcz22_8
    try clear hcz24_0
    try clear hcz24_1
    try clear hcz24_2
    try clear hcz24_3
    try clear hcz24_4
    try clear hcz24_5
    try clear hcz24_6
    try clear hcz24_7
    try clear hcz24_8
    try clear hcz29_0
    try clear hcz29_1
    try clear hcz29_2
    try clear hcz29_3
    try clear hcz29_4
    try clear hcz29_5
    try clear hcz29_6
    try clear hcz29_7
    try clear hcz29_8
    try clear hcz31_0
    try clear hcz31_1
    try clear hcz31_2
    try clear hcz31_3
    try clear hcz31_4
    try clear hcz31_5
    try clear hcz31_6
    try clear hcz31_7
    try clear hcz31_8
    try clear hcz37_0
    try clear hcz37_1
    try clear hcz37_2
    try clear hcz37_3
    try clear hcz37_4
    try clear hcz37_5
    try clear hcz37_6
    try clear hcz37_7
    try clear hcz37_8
    try clear hcz8_0
    try clear hcz8_1
    try clear hcz8_2
    try clear hcz8_3
    try clear hcz8_4
    try clear hcz8_5
    try clear hcz8_6
    try clear hcz8_7
    try clear hcz8_8
    try clear hfz10_0
    try clear hfz10_1
    try clear hfz10_2
    try clear hfz10_3
    try clear hfz10_4
    try clear hfz10_5
    try clear hfz10_6
    try clear hfz10_7
    try clear hfz10_8
    try clear hfz11_0
    try clear hfz11_1
    try clear hfz11_2
    try clear hfz11_3
    try clear hfz11_4
    try clear hfz11_5
    try clear hfz11_6
    try clear hfz11_7
    try clear hfz11_8
    try clear hfz16_0
    try clear hfz16_1
    try clear hfz16_2
    try clear hfz16_3
    try clear hfz16_4
    try clear hfz16_5
    try clear hfz16_6
    try clear hfz16_7
    try clear hfz16_8
    try clear hfz22_0
    try clear hfz22_1
    try clear hfz22_2
    try clear hfz22_3
    try clear hfz22_4
    try clear hfz22_5
    try clear hfz22_6
    try clear hfz22_7
    try clear hfz22_8
    try clear hfz24_0
    try clear hfz24_1
    try clear hfz24_2
    try clear hfz24_3
    try clear hfz24_4
    try clear hfz24_5
    try clear hfz24_6
    try clear hfz24_7
    try clear hfz24_8
    try clear hfz29_0
    try clear hfz29_1
    try clear hfz29_2
    try clear hfz29_3
    try clear hfz29_4
    try clear hfz29_5
    try clear hfz29_6
    try clear hfz29_7
    try clear hfz29_8
    try clear hfz31_0
    try clear hfz31_1
    try clear hfz31_2
    try clear hfz31_3
    try clear hfz31_4
    try clear hfz31_5
    try clear hfz31_6
    try clear hfz31_7
    try clear hfz31_8
    try clear hfz37_0
    try clear hfz37_1
    try clear hfz37_2
    try clear hfz37_3
    try clear hfz37_4
    try clear hfz37_5
    try clear hfz37_6
    try clear hfz37_7
    try clear hfz37_8
    try clear hfz8_0
    try clear hfz8_1
    try clear hfz8_2
    try clear hfz8_3
    try clear hfz8_4
    try clear hfz8_5
    try clear hfz8_6
    try clear hfz8_7
    try clear hfz8_8
    try clear p2
    try clear q032
    try clear q1
    try clear q17
    try clear q32
    obtain ⟨kq, x54_33, rfl, HA, HJ33, HO_6, BK570, HB⟩ := hcut
    cases kq with
    | zero => exact absurd HA.out (by simp [redraftlaw05_does.j2])
    | succ kj33 =>
     have H := HA.out
     clear HA
     simp only [redraftlaw05_does.j2] at H
     by_cases c39 : x54_33 = true
     ·subst c39
      have H1 := H; rw [if_pos rfl] at H1
      clear H
      have H := H1
      clear H1
      have HC40 := Aside0.mk H
      clear H
      obtain ⟨hcz41_0, hcz41_1, hcz41_2, hcz41_3, hcz41_4, hcz41_5, hcz41_6, hcz41_7, hcz41_8, hfz41_0, hfz41_1, hfz41_2, hfz41_3, hfz41_4, hfz41_5, hfz41_6, hfz41_7, hfz41_8⟩ := blk9_ BK570.out
      go_upto_if 60 with (fail)
      repeat (go_quiet (fail); go_upto_if 60 with (fail))
      go_cut [8] (fun v8 wc => ∃ (kq : Nat) (x8_39 : Int), v8 = .int .i64 x8_39 ∧ Aside0 (redraftlaw05_does.j3 kq l0 y571 x8_39 a1_0 a1_1 a1_2 a1_3 a1_4 l1_5 a1_6 a1_7 a1_8 = some (r1, r2)) ∧ Aside0 (kq ≤ kj33) ∧ Aside0 (Kd.R k48 48 wc w.heap.size (fun _ => True) v572 y571) ∧ Aside0 (wc.heap[gb570]? = some (.cells #[.int .i64 a1_0, .int .i64 a1_1, .int .i64 a1_2, .int .i64 a1_3, .string a1_4, (.slice A1_5 l1_5.length c1_5), .int .i64 a1_6, .int .i64 a1_7, .bool a1_8] 41 (0, 0))) ∧ Aside0 (Below w.heap.size w wc))
      case first =>
       have H := HC40.out
       clear HC40
       by_cases c42 : a1_2 = 3
       ·rw [if_pos c42] at H
        have c42b0 := beq_iff_eq.mpr c42
        have c42b1 := bne_eq_false_iff_eq.mpr c42
        clear c42
        (first | rw [c42b0] | (simp only [i64_w, i32_w]; rw [c42b0]) | rw [c42b1] | skip)
        have H' := Aside0.mk H
        clear H
        go_wp2
        repeat (go_quiet (fail); try go_wp2)
        go_meet
        case rel => exact ⟨_, ((-1)), ok_, H', ⟨lk_ HJ33⟩, ⟨RW_ <| HO_6.out⟩, ⟨blkW_ BK570⟩, ⟨belW_ HB⟩⟩
       ·rw [if_neg c42] at H
        have c42b0 := beq_eq_false_iff_ne.mpr c42
        have c42b1 := bne_iff_ne.mpr c42
        (first | rw [c42b0] | (simp only [i64_w, i32_w]; rw [c42b0]) | rw [c42b1] | skip)
        have H' := Aside0.mk H
        clear H
        go_wp2
        repeat (go_quiet (fail); try go_wp2)
        go_meet
        case rel => exact ⟨_, (1), ok_, H', ⟨lk_ HJ33⟩, ⟨RW_ <| HO_6.out⟩, ⟨blkW_ BK570⟩, ⟨belW_ HB⟩⟩
      case rest =>
       clear HC40
       try clear c1
       try clear q1
       try clear c2
       try clear p2
       try clear c3
       try clear q3
       try clear c4
       try clear c4b0
       try clear c4b1
       try clear c5
       try clear p6
       try clear c9
       try clear c9b0
       try clear c9b1
       try clear c12
       try clear c13
       try clear c13b0
       try clear c13b1
       try clear c14
       try clear c14b0
       try clear c14b1
       try clear c15
       try clear q17
       try clear c20
       try clear c20b0
       try clear c21
       try clear c26
       try clear c26b0
       try clear c26b1
       try clear c27
       try clear c27b0
       try clear c27b1
       try clear c28
       try clear c32
       try clear q32
       try clear c38
       try clear c38b0
       try clear c38b1
       try clear c39
       try clear hcz10_0
       try clear hcz10_1
       try clear hcz10_2
       try clear hcz10_3
       try clear hcz10_4
       try clear hcz10_5
       try clear hcz10_6
       try clear hcz10_7
       try clear hcz10_8
       try clear hcz11_0
       try clear hcz11_1
       try clear hcz11_2
       try clear hcz11_3
       try clear hcz11_4
       try clear hcz11_5
       try clear hcz11_6
       try clear hcz11_7
       try clear hcz11_8
       try clear hcz16_0
       try clear hcz16_1
       try clear hcz16_2
       try clear hcz16_3
       try clear hcz16_4
       try clear hcz16_5
       try clear hcz16_6
       try clear hcz16_7
       try clear hcz16_8
       try clear hcz22_0
       try clear hcz22_1
       try clear hcz22_2
       try clear hcz22_3
       try clear hcz22_4
       try clear hcz22_5
       try clear hcz22_6
       try clear hcz22_7
       try clear hcz22_8
       try clear hcz24_0
       try clear hcz24_1
       try clear hcz24_2
       try clear hcz24_3
       try clear hcz24_4
       try clear hcz24_5
       try clear hcz24_6
       try clear hcz24_7
       try clear hcz24_8
       try clear hcz29_0
       try clear hcz29_1
       try clear hcz29_2
       try clear hcz29_3
       try clear hcz29_4
       try clear hcz29_5
       try clear hcz29_6
       try clear hcz29_7
       try clear hcz29_8
       try clear hcz31_0
       try clear hcz31_1
       try clear hcz31_2
       try clear hcz31_3
       try clear hcz31_4
       try clear hcz31_5
       try clear hcz31_6
       try clear hcz31_7
       try clear hcz31_8
       try clear hcz37_0
       try clear hcz37_1
       try clear hcz37_2
       try clear hcz37_3
       try clear hcz37_4
       try clear hcz37_5
       try clear hcz37_6
       try clear hcz37_7
       try clear hcz37_8
       try clear hcz41_0
       try clear hcz41_1
       try clear hcz41_2
       try clear hcz41_3
       try clear hcz41_4
       try clear hcz41_5
       try clear hcz41_6
       try clear hcz41_7
       try clear hcz41_8
       try clear hcz8_0
       try clear hcz8_1
       try clear hcz8_2
       try clear hcz8_3
       try clear hcz8_4
       try clear hcz8_5
       try clear hcz8_6
       try clear hcz8_7
       try clear hcz8_8
       try clear hfz10_0
       try clear hfz10_1
       try clear hfz10_2
       try clear hfz10_3
       try clear hfz10_4
       try clear hfz10_5
       try clear hfz10_6
       try clear hfz10_7
       try clear hfz10_8
       try clear hfz11_0
       try clear hfz11_1
       try clear hfz11_2
       try clear hfz11_3
       try clear hfz11_4
       try clear hfz11_5
       try clear hfz11_6
       try clear hfz11_7
       try clear hfz11_8
       try clear hfz16_0
       try clear hfz16_1
       try clear hfz16_2
       try clear hfz16_3
       try clear hfz16_4
       try clear hfz16_5
       try clear hfz16_6
       try clear hfz16_7
       try clear hfz16_8
       try clear hfz22_0
       try clear hfz22_1
       try clear hfz22_2
       try clear hfz22_3
       try clear hfz22_4
       try clear hfz22_5
       try clear hfz22_6
       try clear hfz22_7
       try clear hfz22_8
       try clear hfz24_0
       try clear hfz24_1
       try clear hfz24_2
       try clear hfz24_3
       try clear hfz24_4
       try clear hfz24_5
       try clear hfz24_6
       try clear hfz24_7
       try clear hfz24_8
       try clear hfz29_0
       try clear hfz29_1
       try clear hfz29_2
       try clear hfz29_3
       try clear hfz29_4
       try clear hfz29_5
       try clear hfz29_6
       try clear hfz29_7
       try clear hfz29_8
       try clear hfz31_0
       try clear hfz31_1
       try clear hfz31_2
       try clear hfz31_3
       try clear hfz31_4
       try clear hfz31_5
       try clear hfz31_6
       try clear hfz31_7
       try clear hfz31_8
       try clear hfz37_0
       try clear hfz37_1
       try clear hfz37_2
       try clear hfz37_3
       try clear hfz37_4
       try clear hfz37_5
       try clear hfz37_6
       try clear hfz37_7
       try clear hfz37_8
       try clear hfz41_0
       try clear hfz41_1
       try clear hfz41_2
       try clear hfz41_3
       try clear hfz41_4
       try clear hfz41_5
       try clear hfz41_6
       try clear hfz41_7
       try clear hfz41_8
       try clear hfz8_0
       try clear hfz8_1
       try clear hfz8_2
       try clear hfz8_3
       try clear hfz8_4
       try clear hfz8_5
       try clear hfz8_6
       try clear hfz8_7
       try clear hfz8_8
       try clear p2
       try clear p6
       try clear q032
       try clear q1
       try clear q17
       try clear q3
       try clear q32
       obtain ⟨kq, x8_39, rfl, HA, HJ39, HO_6, BK570, HB⟩ := hcut
       cases kq with
       | zero => exact absurd HA.out (by simp [redraftlaw05_does.j3])
       | succ kj39 =>
        have H := HA.out
        clear HA
        simp only [redraftlaw05_does.j3] at H
        have H' := Aside0.mk H
        clear H
        go_wp2
        repeat (go_quiet (fail); try go_wp2)
        go_loopg [9] kj39 (fun kq v9 w' => ∃ (x6_3 : List (S48)) (x9_3 : Int), v9 = .int .i64 x9_3 ∧ Aside0 (redraftlaw05_does.l1 kq l0 x6_3 x8_39 x9_3 a1_0 a1_1 a1_2 a1_3 a1_4 l1_5 a1_6 a1_7 a1_8 = some (r1, r2)) ∧ Aside0 (kq ≤ kj39) ∧ Aside0 (Kd.R k48 48 w' w.heap.size (fun _ => True) v572 x6_3) ∧ Aside0 (w'.heap[gb570]? = some (.cells #[.int .i64 a1_0, .int .i64 a1_1, .int .i64 a1_2, .int .i64 a1_3, .string a1_4, (.slice A1_5 l1_5.length c1_5), .int .i64 a1_6, .int .i64 a1_7, .bool a1_8] 41 (0, 0))) ∧ Aside0 (Below w.heap.size w w'))
        case atStart => exact ⟨(y571), (0), ok_, H', ⟨Nat.le_refl _⟩, ⟨RW_ <| HO_6.out⟩, ⟨blkW_ BK570⟩, ⟨belW_ HB⟩⟩
        case round =>
         clear H'
         try clear c1
         try clear q1
         try clear c2
         try clear p2
         try clear c3
         try clear q3
         try clear c4
         try clear c4b0
         try clear c4b1
         try clear c5
         try clear p6
         try clear c9
         try clear c9b0
         try clear c9b1
         try clear c12
         try clear c13
         try clear c13b0
         try clear c13b1
         try clear c14
         try clear c14b0
         try clear c14b1
         try clear c15
         try clear q17
         try clear c20
         try clear c20b0
         try clear c21
         try clear c26
         try clear c26b0
         try clear c26b1
         try clear c27
         try clear c27b0
         try clear c27b1
         try clear c28
         try clear c32
         try clear q32
         try clear c38
         try clear c38b0
         try clear c38b1
         try clear c39
         try clear c42
         try clear c42b0
         try clear c42b1
         try clear hcz10_0
         try clear hcz10_1
         try clear hcz10_2
         try clear hcz10_3
         try clear hcz10_4
         try clear hcz10_5
         try clear hcz10_6
         try clear hcz10_7
         try clear hcz10_8
         try clear hcz11_0
         try clear hcz11_1
         try clear hcz11_2
         try clear hcz11_3
         try clear hcz11_4
         try clear hcz11_5
         try clear hcz11_6
         try clear hcz11_7
         try clear hcz11_8
         try clear hcz16_0
         try clear hcz16_1
         try clear hcz16_2
         try clear hcz16_3
         try clear hcz16_4
         try clear hcz16_5
         try clear hcz16_6
         try clear hcz16_7
         try clear hcz16_8
         try clear hcz22_0
         try clear hcz22_1
         try clear hcz22_2
         try clear hcz22_3
         try clear hcz22_4
         try clear hcz22_5
         try clear hcz22_6
         try clear hcz22_7
         try clear hcz22_8
         try clear hcz24_0
         try clear hcz24_1
         try clear hcz24_2
         try clear hcz24_3
         try clear hcz24_4
         try clear hcz24_5
         try clear hcz24_6
         try clear hcz24_7
         try clear hcz24_8
         try clear hcz29_0
         try clear hcz29_1
         try clear hcz29_2
         try clear hcz29_3
         try clear hcz29_4
         try clear hcz29_5
         try clear hcz29_6
         try clear hcz29_7
         try clear hcz29_8
         try clear hcz31_0
         try clear hcz31_1
         try clear hcz31_2
         try clear hcz31_3
         try clear hcz31_4
         try clear hcz31_5
         try clear hcz31_6
         try clear hcz31_7
         try clear hcz31_8
         try clear hcz37_0
         try clear hcz37_1
         try clear hcz37_2
         try clear hcz37_3
         try clear hcz37_4
         try clear hcz37_5
         try clear hcz37_6
         try clear hcz37_7
         try clear hcz37_8
         try clear hcz41_0
         try clear hcz41_1
         try clear hcz41_2
         try clear hcz41_3
         try clear hcz41_4
         try clear hcz41_5
         try clear hcz41_6
         try clear hcz41_7
         try clear hcz41_8
         try clear hcz8_0
         try clear hcz8_1
         try clear hcz8_2
         try clear hcz8_3
         try clear hcz8_4
         try clear hcz8_5
         try clear hcz8_6
         try clear hcz8_7
         try clear hcz8_8
         try clear hfz10_0
         try clear hfz10_1
         try clear hfz10_2
         try clear hfz10_3
         try clear hfz10_4
         try clear hfz10_5
         try clear hfz10_6
         try clear hfz10_7
         try clear hfz10_8
         try clear hfz11_0
         try clear hfz11_1
         try clear hfz11_2
         try clear hfz11_3
         try clear hfz11_4
         try clear hfz11_5
         try clear hfz11_6
         try clear hfz11_7
         try clear hfz11_8
         try clear hfz16_0
         try clear hfz16_1
         try clear hfz16_2
         try clear hfz16_3
         try clear hfz16_4
         try clear hfz16_5
         try clear hfz16_6
         try clear hfz16_7
         try clear hfz16_8
         try clear hfz22_0
         try clear hfz22_1
         try clear hfz22_2
         try clear hfz22_3
         try clear hfz22_4
         try clear hfz22_5
         try clear hfz22_6
         try clear hfz22_7
         try clear hfz22_8
         try clear hfz24_0
         try clear hfz24_1
         try clear hfz24_2
         try clear hfz24_3
         try clear hfz24_4
         try clear hfz24_5
         try clear hfz24_6
         try clear hfz24_7
         try clear hfz24_8
         try clear hfz29_0
         try clear hfz29_1
         try clear hfz29_2
         try clear hfz29_3
         try clear hfz29_4
         try clear hfz29_5
         try clear hfz29_6
         try clear hfz29_7
         try clear hfz29_8
         try clear hfz31_0
         try clear hfz31_1
         try clear hfz31_2
         try clear hfz31_3
         try clear hfz31_4
         try clear hfz31_5
         try clear hfz31_6
         try clear hfz31_7
         try clear hfz31_8
         try clear hfz37_0
         try clear hfz37_1
         try clear hfz37_2
         try clear hfz37_3
         try clear hfz37_4
         try clear hfz37_5
         try clear hfz37_6
         try clear hfz37_7
         try clear hfz37_8
         try clear hfz41_0
         try clear hfz41_1
         try clear hfz41_2
         try clear hfz41_3
         try clear hfz41_4
         try clear hfz41_5
         try clear hfz41_6
         try clear hfz41_7
         try clear hfz41_8
         try clear hfz8_0
         try clear hfz8_1
         try clear hfz8_2
         try clear hfz8_3
         try clear hfz8_4
         try clear hfz8_5
         try clear hfz8_6
         try clear hfz8_7
         try clear hfz8_8
         try clear p2
         try clear p6
         try clear q032
         try clear q1
         try clear q17
         try clear q3
         try clear q32
         obtain ⟨x6_3, x9_3, rfl, HA, HK3, HO_6, BK570, HB⟩ := hrel
         cases gk with
         | zero => exact absurd HA.out (by simp [redraftlaw05_does.l1])
         | succ k3 =>
          have H := HA.out
          clear HA
          simp only [redraftlaw05_does.l1] at H
          by_cases c43 : x9_3 < (l1_5.length : Int)
          ·rw [if_pos c43] at H
           have c43b0 := decide_eq_true c43
           clear c43
           by_cases c44 : 0 ≤ x9_3
           ·rw [if_pos c44] at H
            have c44b0 := decide_eq_true c44
            clear c44
            have HC45 := Aside0.mk H
            clear H
            obtain ⟨hcz46_0, hcz46_1, hcz46_2, hcz46_3, hcz46_4, hcz46_5, hcz46_6, hcz46_7, hcz46_8, hfz46_0, hfz46_1, hfz46_2, hfz46_3, hfz46_4, hfz46_5, hfz46_6, hfz46_7, hfz46_8⟩ := blk9_ BK570.out
            have p592 := dz_ (x9_3 : Int)
            have q592 := dl_ x9_3 (l1_5.length : Int)
            obtain ⟨ad592, e592, hx592_0, hx592_1⟩ := at_T94 HR1_5.out x9_3 p592 q592
            cases e592
            replace hx592_0 := pw_cell_below HB.out hx592_0
            replace hx592_1 := pw_cell_below HB.out hx592_1
            replace p592 := eq_true p592
            replace q592 := eq_true q592
            go_upto_region 21 with (((with_reducible refine gate_dst (N := 10) rfl ?_); (try (refine gate_guard (by rfl) ?_; dsimp only)); refine bxE_ 10 94 #[.int .i64 0, .int .i64 0] ?_; intro gb593 hg w47 hbox hb; have BK593 := Aside0.mk (hbox); have GW593 := gee_ hg HB; have GE593 := gee_ hg HB; have NB570_593 := neL_ hg BK570; have NB593_570 := neR_ hg BK570; replace HO_6 := Aside0.mk (Kd.R_below (RW_ <| HO_6.out) hb); replace BK570 := blkB_ BK570 hb; replace HB := belB_ HB hb; clear hb hbox hg; have hnb48 := NB593_570.out; have hnc48 := NB570_593.out; obtain ⟨hcz49_0, hcz49_1, hfz49_0, hfz49_1⟩ := blk2_ BK593.out))
            repeat (go_quiet (fail); go_upto_region 21 with (fail))
            (try simp only [Act.put, List.setIfInBounds_toArray, List.set_cons_zero, List.set_cons_succ])
            go_cut [105] (fun v105 wc => ∃ (kq : Nat) (x105_44 : Bool), v105 = .bool x105_44 ∧ Aside0 (redraftlaw05_does.j5 kq l0 x6_3 x8_39 x9_3 x105_44 a1_0 a1_1 a1_2 a1_3 a1_4 l1_5 a1_6 a1_7 a1_8 ((rd_T94 l1_5 x9_3).f0) ((rd_T94 l1_5 x9_3).f1) = some (r1, r2)) ∧ Aside0 (kq ≤ k3) ∧ Aside0 (Kd.R k48 48 wc w.heap.size (fun _ => True) v572 x6_3) ∧ Aside0 (wc.heap[gb570]? = some (.cells #[.int .i64 a1_0, .int .i64 a1_1, .int .i64 a1_2, .int .i64 a1_3, .string a1_4, (.slice (some ad592) l1_5.length c1_5), .int .i64 a1_6, .int .i64 a1_7, .bool a1_8] 41 (0, 0))) ∧ Aside0 (wc.heap[gb593]? = some (.cells #[.int .i64 ((rd_T94 l1_5 x9_3).f0), .int .i64 ((rd_T94 l1_5 x9_3).f1)] 94 (0, 0))) ∧ Aside0 (Below w.heap.size w wc))
            case first =>
             have H := HC45.out
             clear HC45
             by_cases c50 : ((rd_T94 l1_5 x9_3).f0) < 0
             ·rw [if_pos c50] at H
              have c50b0 := decide_eq_true c50
              clear c50
              (first | rw [c50b0] | (simp only [i64_w, i32_w]; rw [c50b0]) | rw [c50b1] | skip)
              have H' := Aside0.mk H
              clear H
              have hnb51 := NB593_570.out
              have hnc51 := NB570_593.out
              obtain ⟨hcz52_0, hcz52_1, hfz52_0, hfz52_1⟩ := blk2_ BK593.out
              go_wp2
              repeat (go_quiet (fail); try go_wp2)
              go_meet
              case rel => exact ⟨_, (true), ok_, H', ⟨by have := HJ33.out; have := HJ39.out; have := HK3.out; first | omega | exact Nat.le_refl _⟩, ⟨RW_ <| Kd.R_mono (Kd.R_far (p := ⟨gb593, 1, none⟩) (Kd.R_far (p := ⟨gb593, 0, none⟩) (Kd.R_types HO_6.out BK593.out (by decide)) (fun _ hk => hk.2) (.int .i64 ((rd_T94 l1_5 x9_3).f0))) (fun _ hk => hk.2) (.int .i64 ((rd_T94 l1_5 x9_3).f1))) (fun _ hk => trivial)⟩, ⟨by (with_reducible repeat (first | refine blk_drewN ?_ _ | refine blk_drew ?_ | refine blk_alloc ?_ _)); refine blk_far ?_ NB570_593.out _; (with_reducible repeat (first | refine blk_drewN ?_ _ | refine blk_drew ?_ | refine blk_alloc ?_ _)); refine blk_far ?_ NB570_593.out _; (with_reducible repeat (first | refine blk_drewN ?_ _ | refine blk_drew ?_ | refine blk_alloc ?_ _)); exact BK570.out⟩, ⟨by (with_reducible repeat (first | refine blk_drewN ?_ _ | refine blk_drew ?_ | refine blk_alloc ?_ _)); refine blk_put (cs := #[.int .i64 ((rd_T94 l1_5 x9_3).f0), .int .i64 0]) ?_ 1 _ rfl; (with_reducible repeat (first | refine blk_drewN ?_ _ | refine blk_drew ?_ | refine blk_alloc ?_ _)); refine blk_put (cs := #[.int .i64 0, .int .i64 0]) ?_ 0 _ rfl; (with_reducible repeat (first | refine blk_drewN ?_ _ | refine blk_drew ?_ | refine blk_alloc ?_ _)); exact BK593.out⟩, ⟨belW_ HB⟩⟩
             ·rw [if_neg c50] at H
              have c50b0 := decide_eq_false c50
              clear c50
              (first | rw [c50b0] | (simp only [i64_w, i32_w]; rw [c50b0]) | rw [c50b1] | skip)
              by_cases c53 : ((rd_T94 l1_5 x9_3).f0) ≥ ((rd_T94 l1_5 x9_3).f1)
              ·rw [if_pos c53] at H
               have c53b0 : decide (((rd_T94 l1_5 x9_3).f1) ≤ ((rd_T94 l1_5 x9_3).f0)) = true := decide_eq_true c53
               clear c53
               have H' := Aside0.mk H
               clear H
               have hnb54 := NB593_570.out
               have hnc54 := NB570_593.out
               obtain ⟨hcz55_0, hcz55_1, hfz55_0, hfz55_1⟩ := blk2_ BK593.out
               go_wp2
               repeat (go_quiet (fail); try go_wp2)
               go_meet
               case rel => exact ⟨_, (true), ok_, H', ⟨by have := HJ33.out; have := HJ39.out; have := HK3.out; first | omega | exact Nat.le_refl _⟩, ⟨RW_ <| Kd.R_mono (Kd.R_far (p := ⟨gb593, 1, none⟩) (Kd.R_far (p := ⟨gb593, 0, none⟩) (Kd.R_types HO_6.out BK593.out (by decide)) (fun _ hk => hk.2) (.int .i64 ((rd_T94 l1_5 x9_3).f0))) (fun _ hk => hk.2) (.int .i64 ((rd_T94 l1_5 x9_3).f1))) (fun _ hk => trivial)⟩, ⟨by (with_reducible repeat (first | refine blk_drewN ?_ _ | refine blk_drew ?_ | refine blk_alloc ?_ _)); refine blk_far ?_ NB570_593.out _; (with_reducible repeat (first | refine blk_drewN ?_ _ | refine blk_drew ?_ | refine blk_alloc ?_ _)); refine blk_far ?_ NB570_593.out _; (with_reducible repeat (first | refine blk_drewN ?_ _ | refine blk_drew ?_ | refine blk_alloc ?_ _)); exact BK570.out⟩, ⟨by (with_reducible repeat (first | refine blk_drewN ?_ _ | refine blk_drew ?_ | refine blk_alloc ?_ _)); refine blk_put (cs := #[.int .i64 ((rd_T94 l1_5 x9_3).f0), .int .i64 0]) ?_ 1 _ rfl; (with_reducible repeat (first | refine blk_drewN ?_ _ | refine blk_drew ?_ | refine blk_alloc ?_ _)); refine blk_put (cs := #[.int .i64 0, .int .i64 0]) ?_ 0 _ rfl; (with_reducible repeat (first | refine blk_drewN ?_ _ | refine blk_drew ?_ | refine blk_alloc ?_ _)); exact BK593.out⟩, ⟨belW_ HB⟩⟩
              ·rw [if_neg c53] at H
               have c53b0 : decide (((rd_T94 l1_5 x9_3).f1) ≤ ((rd_T94 l1_5 x9_3).f0)) = false := decide_eq_false c53
               clear c53
               by_cases c56 : ((rd_T94 l1_5 x9_3).f1) > (l0.length : Int)
               ·rw [if_pos c56] at H
                have c56b0 : decide ((l0.length : Int) < ((rd_T94 l1_5 x9_3).f1)) = true := decide_eq_true c56
                clear c56
                have H' := Aside0.mk H
                clear H
                have hnb57 := NB593_570.out
                have hnc57 := NB570_593.out
                obtain ⟨hcz58_0, hcz58_1, hfz58_0, hfz58_1⟩ := blk2_ BK593.out
                go_wp2
                repeat (go_quiet (fail); try go_wp2)
                go_meet
                case rel => exact ⟨_, (true), ok_, H', ⟨by have := HJ33.out; have := HJ39.out; have := HK3.out; first | omega | exact Nat.le_refl _⟩, ⟨RW_ <| Kd.R_mono (Kd.R_far (p := ⟨gb593, 1, none⟩) (Kd.R_far (p := ⟨gb593, 0, none⟩) (Kd.R_types HO_6.out BK593.out (by decide)) (fun _ hk => hk.2) (.int .i64 ((rd_T94 l1_5 x9_3).f0))) (fun _ hk => hk.2) (.int .i64 ((rd_T94 l1_5 x9_3).f1))) (fun _ hk => trivial)⟩, ⟨by (with_reducible repeat (first | refine blk_drewN ?_ _ | refine blk_drew ?_ | refine blk_alloc ?_ _)); refine blk_far ?_ NB570_593.out _; (with_reducible repeat (first | refine blk_drewN ?_ _ | refine blk_drew ?_ | refine blk_alloc ?_ _)); refine blk_far ?_ NB570_593.out _; (with_reducible repeat (first | refine blk_drewN ?_ _ | refine blk_drew ?_ | refine blk_alloc ?_ _)); exact BK570.out⟩, ⟨by (with_reducible repeat (first | refine blk_drewN ?_ _ | refine blk_drew ?_ | refine blk_alloc ?_ _)); refine blk_put (cs := #[.int .i64 ((rd_T94 l1_5 x9_3).f0), .int .i64 0]) ?_ 1 _ rfl; (with_reducible repeat (first | refine blk_drewN ?_ _ | refine blk_drew ?_ | refine blk_alloc ?_ _)); refine blk_put (cs := #[.int .i64 0, .int .i64 0]) ?_ 0 _ rfl; (with_reducible repeat (first | refine blk_drewN ?_ _ | refine blk_drew ?_ | refine blk_alloc ?_ _)); exact BK593.out⟩, ⟨belW_ HB⟩⟩
               ·rw [if_neg c56] at H
                have c56b0 : decide ((l0.length : Int) < ((rd_T94 l1_5 x9_3).f1)) = false := decide_eq_false c56
                clear c56
                by_cases c59 : x9_3 > 0
                ·rw [if_pos c59] at H
                 have c59b0 : decide (0 < x9_3) = true := decide_eq_true c59
                 clear c59
                 obtain ⟨ji60, hji60⟩ : ∃ j_ : Int, (wrap64 (x9_3 - 1)) = j_ := ⟨_, rfl⟩
                 replace H : (if 0 ≤ (ji60) then (if (ji60) < (l1_5.length : Int) then (redraftlaw05_does.j5 k3 l0 x6_3 x8_39 x9_3 (decide (((rd_T94 l1_5 x9_3).f0) ≤ ((rd_T94 l1_5 (ji60)).f1))) a1_0 a1_1 a1_2 a1_3 a1_4 l1_5 a1_6 a1_7 a1_8 ((rd_T94 l1_5 x9_3).f0) ((rd_T94 l1_5 x9_3).f1)) else (none)) else (none)) = some (r1, r2) := by first | (rw [hji60] at H; exact H) | (simp only [hji60] at H ⊢; exact H)
                 have hji60w : (IntKind.i64.wrap (x9_3 - 1)) = ji60 := (i64_w _).trans hji60
                 by_cases c61 : 0 ≤ (ji60)
                 ·rw [if_pos c61] at H
                  have c61b0 := decide_eq_true c61
                  clear c61
                  by_cases c62 : (ji60) < (l1_5.length : Int)
                  ·rw [if_pos c62] at H
                   have c62b0 := decide_eq_true c62
                   clear c62
                   have H' := Aside0.mk H
                   clear H
                   have hnb63 := NB593_570.out
                   have hnc63 := NB570_593.out
                   obtain ⟨hcz64_0, hcz64_1, hfz64_0, hfz64_1⟩ := blk2_ BK593.out
                   obtain ⟨hcz65_0, hcz65_1, hcz65_2, hcz65_3, hcz65_4, hcz65_5, hcz65_6, hcz65_7, hcz65_8, hfz65_0, hfz65_1, hfz65_2, hfz65_3, hfz65_4, hfz65_5, hfz65_6, hfz65_7, hfz65_8⟩ := blk9_ BK570.out
                   have p594 := dz_ ((ji60) : Int)
                   have q594 := dl_ (ji60) (l1_5.length : Int)
                   obtain ⟨ad594, e594, hx594_0, hx594_1⟩ := at_T94 HR1_5.out (ji60) p594 q594
                   obtain rfl : ad592 = ad594 := (by injection e594)
                   have hn594_0 : ad592.block ≠ gb593 := Nat.ne_of_lt (Nat.lt_of_lt_of_le (by have := World.block_lt_of_cell? _ _ hx594_0; first | rwa [add_block] at this | exact this) GW593.out)
                   have hn594_1 : ad592.block ≠ gb593 := Nat.ne_of_lt (Nat.lt_of_lt_of_le (by have := World.block_lt_of_cell? _ _ hx594_0; first | rwa [add_block] at this | exact this) GW593.out)
                   replace hx594_0 := pw_cell_below HB.out hx594_0
                   replace hx594_1 := pw_cell_below HB.out hx594_1
                   replace hx594_0 := (cell_far (p := ⟨gb593, 0, none⟩) (by first | (rw [add_block]; exact hn594_0) | (show (Addr.add _ _).block ≠ _; rw [add_block]; exact hn594_0) | exact hn594_0) (.int .i64 ((rd_T94 l1_5 x9_3).f0))).trans hx594_0
                   replace hx594_1 := (cell_far (p := ⟨gb593, 0, none⟩) (by first | (rw [add_block]; exact hn594_0) | (show (Addr.add _ _).block ≠ _; rw [add_block]; exact hn594_0) | exact hn594_0) (.int .i64 ((rd_T94 l1_5 x9_3).f0))).trans hx594_1
                   replace hx594_0 := (cell_far (p := ⟨gb593, 1, none⟩) (by first | (rw [add_block]; exact hn594_1) | (show (Addr.add _ _).block ≠ _; rw [add_block]; exact hn594_1) | exact hn594_1) (.int .i64 ((rd_T94 l1_5 x9_3).f1))).trans hx594_0
                   replace hx594_1 := (cell_far (p := ⟨gb593, 1, none⟩) (by first | (rw [add_block]; exact hn594_1) | (show (Addr.add _ _).block ≠ _; rw [add_block]; exact hn594_1) | exact hn594_1) (.int .i64 ((rd_T94 l1_5 x9_3).f1))).trans hx594_1
                   (try have hy594_0 := fun (n_ : Nat) => (show ((((w47.drewN n_).setCell ⟨gb593, 0, none⟩ (.int .i64 ((rd_T94 l1_5 x9_3).f0))).setCell ⟨gb593, 1, none⟩ (.int .i64 ((rd_T94 l1_5 x9_3).f1)))).cell? _ = some _ from hx594_0))
                   (try have hy594_1 := fun (n_ : Nat) => (show ((((w47.drewN n_).setCell ⟨gb593, 0, none⟩ (.int .i64 ((rd_T94 l1_5 x9_3).f0))).setCell ⟨gb593, 1, none⟩ (.int .i64 ((rd_T94 l1_5 x9_3).f1)))).cell? _ = some _ from hx594_1))
                   clear hn594_0
                   clear hn594_1
                   replace p594 := eq_true p594
                   replace q594 := eq_true q594
                   go_wp2
                   repeat (go_quiet (fail); try go_wp2)
                   go_meet
                   case rel => exact ⟨_, (decide (((rd_T94 l1_5 x9_3).f0) ≤ ((rd_T94 l1_5 (ji60)).f1))), (by first | rfl | (simp; done) | (simp only [← hji60] <;> (first | rfl | simp)) | (simp [*]; done)), H', ⟨by have := HJ33.out; have := HJ39.out; have := HK3.out; first | omega | exact Nat.le_refl _⟩, ⟨RW_ <| Kd.R_mono (Kd.R_far (p := ⟨gb593, 1, none⟩) (Kd.R_far (p := ⟨gb593, 0, none⟩) (Kd.R_types HO_6.out BK593.out (by decide)) (fun _ hk => hk.2) (.int .i64 ((rd_T94 l1_5 x9_3).f0))) (fun _ hk => hk.2) (.int .i64 ((rd_T94 l1_5 x9_3).f1))) (fun _ hk => trivial)⟩, ⟨by (with_reducible repeat (first | refine blk_drewN ?_ _ | refine blk_drew ?_ | refine blk_alloc ?_ _)); refine blk_far ?_ NB570_593.out _; (with_reducible repeat (first | refine blk_drewN ?_ _ | refine blk_drew ?_ | refine blk_alloc ?_ _)); refine blk_far ?_ NB570_593.out _; (with_reducible repeat (first | refine blk_drewN ?_ _ | refine blk_drew ?_ | refine blk_alloc ?_ _)); exact BK570.out⟩, ⟨by (with_reducible repeat (first | refine blk_drewN ?_ _ | refine blk_drew ?_ | refine blk_alloc ?_ _)); refine blk_put (cs := #[.int .i64 ((rd_T94 l1_5 x9_3).f0), .int .i64 0]) ?_ 1 _ rfl; (with_reducible repeat (first | refine blk_drewN ?_ _ | refine blk_drew ?_ | refine blk_alloc ?_ _)); refine blk_put (cs := #[.int .i64 0, .int .i64 0]) ?_ 0 _ rfl; (with_reducible repeat (first | refine blk_drewN ?_ _ | refine blk_drew ?_ | refine blk_alloc ?_ _)); exact BK593.out⟩, ⟨belW_ HB⟩⟩
                  ·rw [if_neg c62] at H
                   exact absurd H (by simp)
                 ·rw [if_neg c61] at H
                  exact absurd H (by simp)
                ·rw [if_neg c59] at H
                 have c59b0 : decide (0 < x9_3) = false := decide_eq_false c59
                 clear c59
                 have H' := Aside0.mk H
                 clear H
                 have hnb66 := NB593_570.out
                 have hnc66 := NB570_593.out
                 obtain ⟨hcz67_0, hcz67_1, hfz67_0, hfz67_1⟩ := blk2_ BK593.out
                 go_wp2
                 repeat (go_quiet (fail); try go_wp2)
                 go_meet
                 case rel => exact ⟨_, (false), ok_, H', ⟨by have := HJ33.out; have := HJ39.out; have := HK3.out; first | omega | exact Nat.le_refl _⟩, ⟨RW_ <| Kd.R_mono (Kd.R_far (p := ⟨gb593, 1, none⟩) (Kd.R_far (p := ⟨gb593, 0, none⟩) (Kd.R_types HO_6.out BK593.out (by decide)) (fun _ hk => hk.2) (.int .i64 ((rd_T94 l1_5 x9_3).f0))) (fun _ hk => hk.2) (.int .i64 ((rd_T94 l1_5 x9_3).f1))) (fun _ hk => trivial)⟩, ⟨by (with_reducible repeat (first | refine blk_drewN ?_ _ | refine blk_drew ?_ | refine blk_alloc ?_ _)); refine blk_far ?_ NB570_593.out _; (with_reducible repeat (first | refine blk_drewN ?_ _ | refine blk_drew ?_ | refine blk_alloc ?_ _)); refine blk_far ?_ NB570_593.out _; (with_reducible repeat (first | refine blk_drewN ?_ _ | refine blk_drew ?_ | refine blk_alloc ?_ _)); exact BK570.out⟩, ⟨by (with_reducible repeat (first | refine blk_drewN ?_ _ | refine blk_drew ?_ | refine blk_alloc ?_ _)); refine blk_put (cs := #[.int .i64 ((rd_T94 l1_5 x9_3).f0), .int .i64 0]) ?_ 1 _ rfl; (with_reducible repeat (first | refine blk_drewN ?_ _ | refine blk_drew ?_ | refine blk_alloc ?_ _)); refine blk_put (cs := #[.int .i64 0, .int .i64 0]) ?_ 0 _ rfl; (with_reducible repeat (first | refine blk_drewN ?_ _ | refine blk_drew ?_ | refine blk_alloc ?_ _)); exact BK593.out⟩, ⟨belW_ HB⟩⟩
            case rest =>
             clear HC45
             try clear c1
             try clear q1
             try clear c2
             try clear p2
             try clear c3
             try clear q3
             try clear c4
             try clear c4b0
             try clear c4b1
             try clear c5
             try clear p6
             try clear c9
             try clear c9b0
             try clear c9b1
             try clear c12
             try clear c13
             try clear c13b0
             try clear c13b1
             try clear c14
             try clear c14b0
             try clear c14b1
             try clear c15
             try clear q17
             try clear c20
             try clear c20b0
             try clear c21
             try clear c26
             try clear c26b0
             try clear c26b1
             try clear c27
             try clear c27b0
             try clear c27b1
             try clear c28
             try clear c32
             try clear q32
             try clear c38
             try clear c38b0
             try clear c38b1
             try clear c39
             try clear c42
             try clear c42b0
             try clear c42b1
             try clear c43
             try clear c43b0
             try clear c44
             try clear c44b0
             try clear hcz10_0
             try clear hcz10_1
             try clear hcz10_2
             try clear hcz10_3
             try clear hcz10_4
             try clear hcz10_5
             try clear hcz10_6
             try clear hcz10_7
             try clear hcz10_8
             try clear hcz11_0
             try clear hcz11_1
             try clear hcz11_2
             try clear hcz11_3
             try clear hcz11_4
             try clear hcz11_5
             try clear hcz11_6
             try clear hcz11_7
             try clear hcz11_8
             try clear hcz16_0
             try clear hcz16_1
             try clear hcz16_2
             try clear hcz16_3
             try clear hcz16_4
             try clear hcz16_5
             try clear hcz16_6
             try clear hcz16_7
             try clear hcz16_8
             try clear hcz22_0
             try clear hcz22_1
             try clear hcz22_2
             try clear hcz22_3
             try clear hcz22_4
             try clear hcz22_5
             try clear hcz22_6
             try clear hcz22_7
             try clear hcz22_8
             try clear hcz24_0
             try clear hcz24_1
             try clear hcz24_2
             try clear hcz24_3
             try clear hcz24_4
             try clear hcz24_5
             try clear hcz24_6
             try clear hcz24_7
             try clear hcz24_8
             try clear hcz29_0
             try clear hcz29_1
             try clear hcz29_2
             try clear hcz29_3
             try clear hcz29_4
             try clear hcz29_5
             try clear hcz29_6
             try clear hcz29_7
             try clear hcz29_8
             try clear hcz31_0
             try clear hcz31_1
             try clear hcz31_2
             try clear hcz31_3
             try clear hcz31_4
             try clear hcz31_5
             try clear hcz31_6
             try clear hcz31_7
             try clear hcz31_8
             try clear hcz37_0
             try clear hcz37_1
             try clear hcz37_2
             try clear hcz37_3
             try clear hcz37_4
             try clear hcz37_5
             try clear hcz37_6
             try clear hcz37_7
             try clear hcz37_8
             try clear hcz41_0
             try clear hcz41_1
             try clear hcz41_2
             try clear hcz41_3
             try clear hcz41_4
             try clear hcz41_5
             try clear hcz41_6
             try clear hcz41_7
             try clear hcz41_8
             try clear hcz46_0
             try clear hcz46_1
             try clear hcz46_2
             try clear hcz46_3
             try clear hcz46_4
             try clear hcz46_5
             try clear hcz46_6
             try clear hcz46_7
             try clear hcz46_8
             try clear hcz49_0
             try clear hcz49_1
             try clear hcz8_0
             try clear hcz8_1
             try clear hcz8_2
             try clear hcz8_3
             try clear hcz8_4
             try clear hcz8_5
             try clear hcz8_6
             try clear hcz8_7
             try clear hcz8_8
             try clear hfz10_0
             try clear hfz10_1
             try clear hfz10_2
             try clear hfz10_3
             try clear hfz10_4
             try clear hfz10_5
             try clear hfz10_6
             try clear hfz10_7
             try clear hfz10_8
             try clear hfz11_0
             try clear hfz11_1
             try clear hfz11_2
             try clear hfz11_3
             try clear hfz11_4
             try clear hfz11_5
             try clear hfz11_6
             try clear hfz11_7
             try clear hfz11_8
             try clear hfz16_0
             try clear hfz16_1
             try clear hfz16_2
             try clear hfz16_3
             try clear hfz16_4
             try clear hfz16_5
             try clear hfz16_6
             try clear hfz16_7
             try clear hfz16_8
             try clear hfz22_0
             try clear hfz22_1
             try clear hfz22_2
             try clear hfz22_3
             try clear hfz22_4
             try clear hfz22_5
             try clear hfz22_6
             try clear hfz22_7
             try clear hfz22_8
             try clear hfz24_0
             try clear hfz24_1
             try clear hfz24_2
             try clear hfz24_3
             try clear hfz24_4
             try clear hfz24_5
             try clear hfz24_6
             try clear hfz24_7
             try clear hfz24_8
             try clear hfz29_0
             try clear hfz29_1
             try clear hfz29_2
             try clear hfz29_3
             try clear hfz29_4
             try clear hfz29_5
             try clear hfz29_6
             try clear hfz29_7
             try clear hfz29_8
             try clear hfz31_0
             try clear hfz31_1
             try clear hfz31_2
             try clear hfz31_3
             try clear hfz31_4
             try clear hfz31_5
             try clear hfz31_6
             try clear hfz31_7
             try clear hfz31_8
             try clear hfz37_0
             try clear hfz37_1
             try clear hfz37_2
             try clear hfz37_3
             try clear hfz37_4
             try clear hfz37_5
             try clear hfz37_6
             try clear hfz37_7
             try clear hfz37_8
             try clear hfz41_0
             try clear hfz41_1
             try clear hfz41_2
             try clear hfz41_3
             try clear hfz41_4
             try clear hfz41_5
             try clear hfz41_6
             try clear hfz41_7
             try clear hfz41_8
             try clear hfz46_0
             try clear hfz46_1
             try clear hfz46_2
             try clear hfz46_3
             try clear hfz46_4
             try clear hfz46_5
             try clear hfz46_6
             try clear hfz46_7
             try clear hfz46_8
             try clear hfz49_0
             try clear hfz49_1
             try clear hfz8_0
             try clear hfz8_1
             try clear hfz8_2
             try clear hfz8_3
             try clear hfz8_4
             try clear hfz8_5
             try clear hfz8_6
             try clear hfz8_7
             try clear hfz8_8
             try clear hx592_0
             try clear hx592_1
             try clear p2
             try clear p592
             try clear p6
             try clear q032
             try clear q1
             try clear q17
             try clear q3
             try clear q32
             try clear q592
             obtain ⟨kq, x105_44, rfl, HA, HJ44, HO_6, BK570, BK593, HB⟩ := hcut
             cases kq with
             | zero => exact absurd HA.out (by simp [redraftlaw05_does.j5])
             | succ kj44 =>
              have H := HA.out
              clear HA
              simp only [redraftlaw05_does.j5] at H
              by_cases c68 : x105_44 = true
              ·subst c68
               have H1 := H; rw [if_pos rfl] at H1
               clear H
               have H := H1
               clear H1
               simp only [Option.some.injEq, Prod.mk.injEq] at H
               obtain ⟨rfl, rfl⟩ := H
               go_wp2
               repeat (go_quiet (fail); try go_wp2)
               go_ret2
               exact ⟨_, rs_, nl_, belW_ HB⟩
              ·replace c68 := Bool.eq_false_iff.mpr c68
               subst c68
               have H1 := H; rw [if_neg (show ¬ (false = true) by decide)] at H1
               clear H
               have H := H1
               clear H1
               have H' := Aside0.mk H
               clear H
               have hnb69 := NB593_570.out
               have hnc69 := NB570_593.out
               obtain ⟨hcz70_0, hcz70_1, hfz70_0, hfz70_1⟩ := blk2_ BK593.out
               go_wp2
               repeat (go_quiet (fail); try go_wp2)
               go_loopg [11] kj44 (fun kq v11 w' => ∃ (x6_5 : List (S48)) (x11_5 : Int), v11 = .int .i64 x11_5 ∧ Aside0 (redraftlaw05_does.l2 kq l0 x6_5 x8_39 x9_3 x11_5 a1_0 a1_1 a1_2 a1_3 a1_4 l1_5 a1_6 a1_7 a1_8 ((rd_T94 l1_5 x9_3).f0) ((rd_T94 l1_5 x9_3).f1) = some (r1, r2)) ∧ Aside0 (kq ≤ kj44) ∧ Aside0 (Kd.R k48 48 w' w.heap.size (fun _ => True) v572 x6_5) ∧ Aside0 (w'.heap[gb570]? = some (.cells #[.int .i64 a1_0, .int .i64 a1_1, .int .i64 a1_2, .int .i64 a1_3, .string a1_4, (.slice (some ad592) l1_5.length c1_5), .int .i64 a1_6, .int .i64 a1_7, .bool a1_8] 41 (0, 0))) ∧ Aside0 (w'.heap[gb593]? = some (.cells #[.int .i64 ((rd_T94 l1_5 x9_3).f0), .int .i64 ((rd_T94 l1_5 x9_3).f1)] 94 (0, 0))) ∧ Aside0 (Below w.heap.size w w'))
               case atStart => exact ⟨(x6_3), (((rd_T94 l1_5 x9_3).f0)), ok_, H', ⟨Nat.le_refl _⟩, ⟨RW_ <| HO_6.out⟩, ⟨blkW_ BK570⟩, ⟨blkW_ BK593⟩, ⟨belW_ HB⟩⟩
               case round =>
                clear H'
                try clear c1
                try clear q1
                try clear c2
                try clear p2
                try clear c3
                try clear q3
                try clear c4
                try clear c4b0
                try clear c4b1
                try clear c5
                try clear p5
                try clear q5
                try clear hx5
                try clear c6
                try clear p6
                try clear c9
                try clear c9b0
                try clear c9b1
                try clear c12
                try clear c13
                try clear c13b0
                try clear c13b1
                try clear c14
                try clear c14b0
                try clear c14b1
                try clear c15
                try clear q17
                try clear c20
                try clear c20b0
                try clear c21
                try clear c26
                try clear c26b0
                try clear c26b1
                try clear c27
                try clear c27b0
                try clear c27b1
                try clear c28
                try clear c32
                try clear q32
                try clear c38
                try clear c38b0
                try clear c38b1
                try clear c39
                try clear c42
                try clear c42b0
                try clear c42b1
                try clear c43
                try clear c43b0
                try clear c44
                try clear c44b0
                try clear c48
                try clear c50
                try clear c50b0
                try clear c50b1
                try clear c51
                try clear c53
                try clear c53b0
                try clear c54
                try clear c56
                try clear c56b0
                try clear c57
                try clear c59
                try clear c59b0
                try clear p59
                try clear q59
                try clear hx59
                try clear c61
                try clear c61b0
                try clear c62
                try clear c62b0
                try clear c63
                try clear p64
                try clear c66
                try clear c68
                try clear c69
                try clear hcz10_0
                try clear hcz10_1
                try clear hcz10_2
                try clear hcz10_3
                try clear hcz10_4
                try clear hcz10_5
                try clear hcz10_6
                try clear hcz10_7
                try clear hcz10_8
                try clear hcz11_0
                try clear hcz11_1
                try clear hcz11_2
                try clear hcz11_3
                try clear hcz11_4
                try clear hcz11_5
                try clear hcz11_6
                try clear hcz11_7
                try clear hcz11_8
                try clear hcz16_0
                try clear hcz16_1
                try clear hcz16_2
                try clear hcz16_3
                try clear hcz16_4
                try clear hcz16_5
                try clear hcz16_6
                try clear hcz16_7
                try clear hcz16_8
                try clear hcz22_0
                try clear hcz22_1
                try clear hcz22_2
                try clear hcz22_3
                try clear hcz22_4
                try clear hcz22_5
                try clear hcz22_6
                try clear hcz22_7
                try clear hcz22_8
                try clear hcz24_0
                try clear hcz24_1
                try clear hcz24_2
                try clear hcz24_3
                try clear hcz24_4
                try clear hcz24_5
                try clear hcz24_6
                try clear hcz24_7
                try clear hcz24_8
                try clear hcz29_0
                try clear hcz29_1
                try clear hcz29_2
                try clear hcz29_3
                try clear hcz29_4
                try clear hcz29_5
                try clear hcz29_6
                try clear hcz29_7
                try clear hcz29_8
                try clear hcz31_0
                try clear hcz31_1
                try clear hcz31_2
                try clear hcz31_3
                try clear hcz31_4
                try clear hcz31_5
                try clear hcz31_6
                try clear hcz31_7
                try clear hcz31_8
                try clear hcz37_0
                try clear hcz37_1
                try clear hcz37_2
                try clear hcz37_3
                try clear hcz37_4
                try clear hcz37_5
                try clear hcz37_6
                try clear hcz37_7
                try clear hcz37_8
                try clear hcz41_0
                try clear hcz41_1
                try clear hcz41_2
                try clear hcz41_3
                try clear hcz41_4
                try clear hcz41_5
                try clear hcz41_6
                try clear hcz41_7
                try clear hcz41_8
                try clear hcz46_0
                try clear hcz46_1
                try clear hcz46_2
                try clear hcz46_3
                try clear hcz46_4
                try clear hcz46_5
                try clear hcz46_6
                try clear hcz46_7
                try clear hcz46_8
                try clear hcz49_0
                try clear hcz49_1
                try clear hcz52_0
                try clear hcz52_1
                try clear hcz55_0
                try clear hcz55_1
                try clear hcz58_0
                try clear hcz58_1
                try clear hcz64_0
                try clear hcz64_1
                try clear hcz65_0
                try clear hcz65_1
                try clear hcz65_2
                try clear hcz65_3
                try clear hcz65_4
                try clear hcz65_5
                try clear hcz65_6
                try clear hcz65_7
                try clear hcz65_8
                try clear hcz67_0
                try clear hcz67_1
                try clear hcz70_0
                try clear hcz70_1
                try clear hcz8_0
                try clear hcz8_1
                try clear hcz8_2
                try clear hcz8_3
                try clear hcz8_4
                try clear hcz8_5
                try clear hcz8_6
                try clear hcz8_7
                try clear hcz8_8
                try clear hfz10_0
                try clear hfz10_1
                try clear hfz10_2
                try clear hfz10_3
                try clear hfz10_4
                try clear hfz10_5
                try clear hfz10_6
                try clear hfz10_7
                try clear hfz10_8
                try clear hfz11_0
                try clear hfz11_1
                try clear hfz11_2
                try clear hfz11_3
                try clear hfz11_4
                try clear hfz11_5
                try clear hfz11_6
                try clear hfz11_7
                try clear hfz11_8
                try clear hfz16_0
                try clear hfz16_1
                try clear hfz16_2
                try clear hfz16_3
                try clear hfz16_4
                try clear hfz16_5
                try clear hfz16_6
                try clear hfz16_7
                try clear hfz16_8
                try clear hfz22_0
                try clear hfz22_1
                try clear hfz22_2
                try clear hfz22_3
                try clear hfz22_4
                try clear hfz22_5
                try clear hfz22_6
                try clear hfz22_7
                try clear hfz22_8
                try clear hfz24_0
                try clear hfz24_1
                try clear hfz24_2
                try clear hfz24_3
                try clear hfz24_4
                try clear hfz24_5
                try clear hfz24_6
                try clear hfz24_7
                try clear hfz24_8
                try clear hfz29_0
                try clear hfz29_1
                try clear hfz29_2
                try clear hfz29_3
                try clear hfz29_4
                try clear hfz29_5
                try clear hfz29_6
                try clear hfz29_7
                try clear hfz29_8
                try clear hfz31_0
                try clear hfz31_1
                try clear hfz31_2
                try clear hfz31_3
                try clear hfz31_4
                try clear hfz31_5
                try clear hfz31_6
                try clear hfz31_7
                try clear hfz31_8
                try clear hfz37_0
                try clear hfz37_1
                try clear hfz37_2
                try clear hfz37_3
                try clear hfz37_4
                try clear hfz37_5
                try clear hfz37_6
                try clear hfz37_7
                try clear hfz37_8
                try clear hfz41_0
                try clear hfz41_1
                try clear hfz41_2
                try clear hfz41_3
                try clear hfz41_4
                try clear hfz41_5
                try clear hfz41_6
                try clear hfz41_7
                try clear hfz41_8
                try clear hfz46_0
                try clear hfz46_1
                try clear hfz46_2
                try clear hfz46_3
                try clear hfz46_4
                try clear hfz46_5
                try clear hfz46_6
                try clear hfz46_7
                try clear hfz46_8
                try clear hfz49_0
                try clear hfz49_1
                try clear hfz52_0
                try clear hfz52_1
                try clear hfz55_0
                try clear hfz55_1
                try clear hfz58_0
                try clear hfz58_1
                try clear hfz64_0
                try clear hfz64_1
                try clear hfz65_0
                try clear hfz65_1
                try clear hfz65_2
                try clear hfz65_3
                try clear hfz65_4
                try clear hfz65_5
                try clear hfz65_6
                try clear hfz65_7
                try clear hfz65_8
                try clear hfz67_0
                try clear hfz67_1
                try clear hfz70_0
                try clear hfz70_1
                try clear hfz8_0
                try clear hfz8_1
                try clear hfz8_2
                try clear hfz8_3
                try clear hfz8_4
                try clear hfz8_5
                try clear hfz8_6
                try clear hfz8_7
                try clear hfz8_8
                try clear hx592_0
                try clear hx592_1
                try clear hx594_0
                try clear hx594_1
                try clear p2
                try clear p5
                try clear p59
                try clear p592
                try clear p594
                try clear p6
                try clear p64
                try clear q032
                try clear q1
                try clear q17
                try clear q3
                try clear q32
                try clear q5
                try clear q59
                try clear q592
                try clear q594
                obtain ⟨x6_5, x11_5, rfl, HA, HK5, HO_6, BK570, BK593, HB⟩ := hrel
                cases gk with
                | zero => exact absurd HA.out (by simp [redraftlaw05_does.l2])
                | succ k5 =>
                 have H := HA.out
                 clear HA
                 simp only [redraftlaw05_does.l2] at H
                 by_cases c71 : x11_5 < ((rd_T94 l1_5 x9_3).f1)
                 ·rw [if_pos c71] at H
                  have c71b0 := decide_eq_true c71
                  clear c71
                  by_cases c72 : 0 ≤ x11_5
                  ·rw [if_pos c72] at H
                   have c72b0 := decide_eq_true c72
                   clear c72
                   by_cases c73 : x11_5 < (x6_5.length : Int)
                   ·rw [if_pos c73] at H
                    have c73b0 := decide_eq_true c73
                    clear c73
                    obtain ⟨y596, hy596⟩ : ∃ y_ : List (S48), y_ = (x6_5.set (x11_5 : Int).toNat (⟨(⟨(rd_T48 x6_5 x11_5).f0.f0, (rd_T48 x6_5 x11_5).f0.f1⟩ : S35), (rd_T48 x6_5 x11_5).f1, wrap64 (((rd_T48 x6_5 x11_5).f2) + x8_39)⟩ : S48)) := ⟨_, rfl⟩
                    replace H : (redraftlaw05_does.l2 k5 l0 y596 x8_39 x9_3 (wrap64 (x11_5 + 1)) a1_0 a1_1 a1_2 a1_3 a1_4 l1_5 a1_6 a1_7 a1_8 ((rd_T94 l1_5 x9_3).f0) ((rd_T94 l1_5 x9_3).f1)) = some (r1, r2) := by first | (rw [hy596]; with_reducible exact H) | (have H2_ := (Option.bind_some _ _).symm.trans H; rw [hy596]; with_reducible exact H2_) | (have H2_ := (Option.bind_some _ _).symm.trans H; with_reducible exact H2_) | with_reducible exact H | (rw [hy596]; exact H) | exact H
                    have Ny596 := Aside0.mk hy596
                    clear hy596
                    have H' := Aside0.mk H
                    clear H
                    have hnb75 := NB593_570.out
                    have hnc75 := NB570_593.out
                    have hz_ := blk2_ BK593.out
                    obtain ⟨Ao77, co77, eo77⟩ := Kd.R_slice HO_6.out
                    subst eo77
                    have p595 := dz_ (x11_5 : Int)
                    have q595 := dl_ x11_5 (x6_5.length : Int)
                    obtain ⟨ad595, e595, hx595_0, hx595_1, hx595_2, hx595_3⟩ := at_T48 (Kd.R_reads' HO_6.out).2.2 x11_5 p595 q595
                    cases e595
                    replace p595 := eq_true p595
                    replace q595 := eq_true q595
                    have p74 := dz_ (x11_5 : Int)
                    have q74 : (x11_5 : Int) < ((x6_5.length : Int) : Int) := of_decide_eq_true (by first | (with_reducible assumption) | assumption)
                    obtain ⟨go74, co74, eo74, gb74, gl74, cl74, HG74⟩ := Kd.R_form HO_6.out (by omega)
                    (first | cases eo74 | (injection eo74 with ea_ en_ ec_; (first | subst ea_ | (injection ea_ with ea_; subst ea_)); subst ec_; clear en_))
                    have GB74 := Aside0.mk gb74
                    have GG74 := Aside0.mk HG74
                    clear gb74 gl74 HG74
                    (first | simp only [add_plain] at hx595_0 | skip)
                    (first | simp only [add_plain] at hx595_1 | skip)
                    (first | simp only [add_plain] at hx595_2 | skip)
                    (first | simp only [add_plain] at hx595_3 | skip)
                    obtain ⟨ce74, hcl74, hM74, hcc74, hfr74⟩ := Kd.R_elem HO_6.out z48 (x11_5 : Int) p74 q74
                    obtain rfl := k48_openM hM74
                    have hx74_0 : wr.cell? ⟨go74, (x11_5 : Int).toNat * 4, none⟩ = some (.int .i64 ((rd_T48 x6_5 x11_5).f0.f0)) := hcc74 0 _ rfl
                    have hx74_1 : wr.cell? ⟨go74, (x11_5 : Int).toNat * 4 + 1, none⟩ = some (.int .i64 ((rd_T48 x6_5 x11_5).f0.f1)) := hcc74 1 _ rfl
                    have hx74_2 : wr.cell? ⟨go74, (x11_5 : Int).toNat * 4 + 2, none⟩ = some (.int .i64 ((rd_T48 x6_5 x11_5).f1)) := hcc74 2 _ rfl
                    have hx74_3 : wr.cell? ⟨go74, (x11_5 : Int).toNat * 4 + 3, none⟩ = some (.int .i64 ((rd_T48 x6_5 x11_5).f2)) := hcc74 3 _ rfl
                    have hf74_0 : wr.frozen? ⟨go74, (x11_5 : Int).toNat * 4, none⟩ = false := hfr74 0
                    have hf74_1 : wr.frozen? ⟨go74, (x11_5 : Int).toNat * 4 + 1, none⟩ = false := hfr74 1
                    have hf74_2 : wr.frozen? ⟨go74, (x11_5 : Int).toNat * 4 + 2, none⟩ = false := hfr74 2
                    have hf74_3 : wr.frozen? ⟨go74, (x11_5 : Int).toNat * 4 + 3, none⟩ = false := hfr74 3
                    clear hcl74 hcc74 hfr74 hM74
                    replace p74 := eq_true p74
                    replace q74 := eq_true q74
                    have HX78 := Aside0.mk (show Kd.R k48 48 wr w.heap.size (fun _ => True) (.slice (some ⟨go74, 0, none⟩) x6_5.length co77) x6_5 from (RW_ <| HO_6.out))
                    obtain ⟨ce78, hcl78, hM78, hcc78, hfr78⟩ := Kd.R_elem HX78.out z48 (x11_5 : Int) (of_decide_eq_true (by first | (with_reducible assumption) | assumption)) (by have h_ : (x11_5 : Int) < ((x6_5.length : Int) : Int) := of_decide_eq_true (by first | (with_reducible assumption) | assumption); first | exact h_ | (have e_ := (Kd.R_reads' HO_6.out).1; omega) | simpa using h_)
                    obtain rfl := k48_openM hM78
                    have HP78 := Kd.R_seg HX78.out (x11_5 : Int) (of_decide_eq_true (by first | (with_reducible assumption) | assumption)) (by have h_ : (x11_5 : Int) < ((x6_5.length : Int) : Int) := of_decide_eq_true (by first | (with_reducible assumption) | assumption); first | exact h_ | (have e_ := (Kd.R_reads' HO_6.out).1; omega) | simpa using h_) (seg := [.int .i64 (wrap64 (((rd_T48 x6_5 x11_5).f2) + x8_39))]) (j := 3) hcl78 hcc78 (show 4 ≤ 4 from by decide) (x' := (⟨(⟨(rd_T48 x6_5 x11_5).f0.f0, (rd_T48 x6_5 x11_5).f0.f1⟩ : S35), (rd_T48 x6_5 x11_5).f1, wrap64 (((rd_T48 x6_5 x11_5).f2) + x8_39)⟩ : S48)) (k48_mkM _ _ _ (⟨(⟨(rd_T48 x6_5 x11_5).f0.f0, (rd_T48 x6_5 x11_5).f0.f1⟩ : S35), (rd_T48 x6_5 x11_5).f1, wrap64 (((rd_T48 x6_5 x11_5).f2) + x8_39)⟩ : S48) ) (fun _ hk => hk)
                    have hx78_3 := hcc78 3 _ rfl
                    (try simp only [show (k48).sz = 4 from rfl, Nat.mul_one, Nat.add_zero] at hx78_3)
                    have hf78_3 := hfr78 3
                    (try simp only [show (k48).sz = 4 from rfl, Nat.mul_one, Nat.add_zero] at hf78_3)
                    clear hcl78 hcc78 hfr78 hM78
                    go_wp2_with (((with_reducible refine gate_store (t := 3) (p := 124) rfl ?_); (try (rw [drewN_self wr]; generalize hq_ : World.drewN wr _ = wr; have n0_ := Aside0.mk (Kd.R_at hq_ HO_6.out); have n1_ := Aside0.mk (blk_at hq_ BK570.out); have n2_ := Aside0.mk (blk_at hq_ BK593.out); have n3_ := Aside0.mk (below_at hq_ HB.out); clear hq_ HO_6 BK570 BK593 HB; have HO_6 := n0_; have BK570 := n1_; have BK593 := n2_; have HB := n3_; clear n0_ n1_ n2_ n3_; (try (have HX78 := Aside0.mk (show Kd.R k48 48 wr w.heap.size (fun _ => True) (.slice (some ⟨go74, 0, none⟩) x6_5.length co77) x6_5 from (RW_ <| HO_6.out)))); (try (obtain ⟨ce78, hcl78, hM78, hcc78, hfr78⟩ := Kd.R_elem HX78.out z48 (x11_5 : Int) (of_decide_eq_true (by first | (with_reducible assumption) | assumption)) (by have h_ : (x11_5 : Int) < ((x6_5.length : Int) : Int) := of_decide_eq_true (by first | (with_reducible assumption) | assumption); first | exact h_ | (have e_ := (Kd.R_reads' HO_6.out).1; omega) | simpa using h_))); (try (obtain rfl := k48_openM hM78)); (try (have HP78 := Kd.R_seg HX78.out (x11_5 : Int) (of_decide_eq_true (by first | (with_reducible assumption) | assumption)) (by have h_ : (x11_5 : Int) < ((x6_5.length : Int) : Int) := of_decide_eq_true (by first | (with_reducible assumption) | assumption); first | exact h_ | (have e_ := (Kd.R_reads' HO_6.out).1; omega) | simpa using h_) (seg := [.int .i64 (wrap64 (((rd_T48 x6_5 x11_5).f2) + x8_39))]) (j := 3) hcl78 hcc78 (show 4 ≤ 4 from by decide) (x' := (⟨(⟨(rd_T48 x6_5 x11_5).f0.f0, (rd_T48 x6_5 x11_5).f0.f1⟩ : S35), (rd_T48 x6_5 x11_5).f1, wrap64 (((rd_T48 x6_5 x11_5).f2) + x8_39)⟩ : S48)) (k48_mkM _ _ _ (⟨(⟨(rd_T48 x6_5 x11_5).f0.f0, (rd_T48 x6_5 x11_5).f0.f1⟩ : S35), (rd_T48 x6_5 x11_5).f1, wrap64 (((rd_T48 x6_5 x11_5).f2) + x8_39)⟩ : S48) ) (fun _ hk => hk))); (try (have hx78_3 := hcc78 3 _ rfl)); (try (try simp only [show (k48).sz = 4 from rfl, Nat.mul_one, Nat.add_zero] at hx78_3)); (try (have hf78_3 := hfr78 3)); (try (try simp only [show (k48).sz = 4 from rfl, Nat.mul_one, Nat.add_zero] at hf78_3)); (try (clear hcl78 hcc78 hfr78 hM78)))); refine store_event (t := 3) (p := 124) (v := ?vo_w79) (w1 := (wr.setCell ⟨go74, (x11_5 : Int).toNat * 4 + 3, none⟩ (.int .i64 (wrap64 (((rd_T48 x6_5 x11_5).f2) + x8_39))))) ?hg ?ho ?hn ?hr ?_; (case ho => rfl); (case hg => rfl); (case hn => rfl); (case hr => first | (go_simp; done) | (go_simp; rfl)); intro w79 hw; have hg : wr.grownBy w79 (some go74) := (by rw [hw]; exact HP78.2); have hp_ : Kd.R k48 48 w79 w.heap.size (fun _ => True) (.slice (some ⟨go74, 0, none⟩) x6_5.length co77) y596 := (by rw [hw, Ny596.out]; exact HP78.1); clear HP78; replace BK570 := Aside0.mk (blk_grown (blkW_ BK570) hg (Kd.R_ne HO_6.out BK570.out (by decide))); replace BK593 := Aside0.mk (blk_grown (blkW_ BK593) hg (Kd.R_ne HO_6.out BK593.out (by decide))); replace HO_6 := Aside0.mk (hp_); replace HB := Aside0.mk ((by rw [hw]; exact below_set (HB.out) GB74.out : Below w.heap.size w w79)); clear hg hw hp_))
                    repeat (go_quiet (fail); try go_wp2_with (fail))
                    go_roundg k5
                    case measure => have := HJ33.out; have := HJ39.out; have := HK3.out; have := HJ44.out; have := HK5.out; omega
                    case rel => exact ⟨(y596), (wrap64 (x11_5 + 1)), ok_, H', ⟨by have := HJ33.out; have := HJ39.out; have := HK3.out; have := HJ44.out; have := HK5.out; omega⟩, ⟨RW_ <| HO_6.out⟩, ⟨blkW_ BK570⟩, ⟨blkW_ BK593⟩, ⟨belW_ HB⟩⟩
                   ·rw [if_neg c73] at H
                    exact absurd H (by simp)
                  ·rw [if_neg c72] at H
                   exact absurd H (by simp)
                 ·rw [if_neg c71] at H
                  have c71b0 := decide_eq_false c71
                  clear c71
                  have H' := Aside0.mk H
                  clear H
                  have hnb80 := NB593_570.out
                  have hnc80 := NB570_593.out
                  have hz_ := blk2_ BK593.out
                  go_wp2
                  repeat (go_quiet (fail); try go_wp2)
                  go_roundg k5
                  case measure => have := HJ33.out; have := HJ39.out; have := HK3.out; have := HJ44.out; have := HK5.out; omega
                  case rel => exact ⟨(x6_5), (wrap64 (x9_3 + 1)), ok_, H', ⟨by have := HJ33.out; have := HJ39.out; have := HK3.out; have := HJ44.out; have := HK5.out; omega⟩, ⟨RW_ <| HO_6.out⟩, ⟨blkW_ BK570⟩, ⟨belW_ HB⟩⟩
           ·rw [if_neg c44] at H
            exact absurd H (by simp)
          ·rw [if_neg c43] at H
           have c43b0 := decide_eq_false c43
           clear c43
           simp only [Option.some.injEq, Prod.mk.injEq] at H
           obtain ⟨rfl, rfl⟩ := H
           have hz_ := blk9_ BK570.out
           go_wp2
           repeat (go_quiet (fail); try go_wp2)
           go_ret2
           exact ⟨_, rs_, RW_ <| HO_6.out, belW_ HB⟩
     ·replace c39 := Bool.eq_false_iff.mpr c39
      subst c39
      have H1 := H; rw [if_neg (show ¬ (false = true) by decide)] at H1
      clear H
      have H := H1
      clear H1
      simp only [Option.some.injEq, Prod.mk.injEq] at H
      obtain ⟨rfl, rfl⟩ := H
      have hz_ := blk9_ BK570.out
      go_wp2
      repeat (go_quiet (fail); try go_wp2)
      go_ret2
      exact ⟨_, rs_, RW_ <| HO_6.out, belW_ HB⟩
 ·rw [if_neg c3] at H
  exact absurd H (by simp)

end Go.Proofs.YtloccjkcmlkifaaDoor.PAll
