/- XformBrings_card, part 30. -/
import Derived.Test.YtloccjkcmlkifaaDoorQBr19
import Derived.Test.YtloccjkcmlkifaaDoorQBr29

namespace Go.Proofs.YtloccjkcmlkifaaDoor.PAll
open Go.RowKit Go.Proofs.YtloccjkcmlkifaaDoorW.PrintWords Go.Proofs.YtloccjkcmlkifaaDoorW.PrintLast Go.Proofs.YtloccjkcmlkifaaDoorW.PrintMore
attribute [local go_sem] max2_int min2_int max_two min_two max_three min_three max_four min_four   -- for this text's walks alone
set_option linter.unusedVariables false
set_option linter.unusedSimpArgs false

attribute [local go_sem high] idx34_0 idx34_1 idx35_0 idx35_1
def redraftref04_Own.j0 : Nat → Bool → Int → Int → Int → Int → ByteArray → List (S94) → Int → Int → Bool → Option (Int)
 | 0, _, _, _, _, _, _, _, _, _, _ => none
 | k + 1, x16, x305000, x305001, x305002, x305003, x305004, x305005, x305006, x305007, x305008 => if x16 = true then ((redraftref04_Check.f k x305000 x305001 x305002 x305003 x305004 x305005 x305006 x305007 x305008 x305003).bind fun t305 => (some t305)) else ((redraftref04_Check.f k x305000 x305001 x305002 x305003 x305004 x305005 x305006 x305007 x305008 1048576).bind fun t306 => (some t306))
def redraftref04_Own.f (k : Nat) (a0_0 : Int) (a0_1 : Int) (a0_2 : Int) (a0_3 : Int) (a0_4 : ByteArray) (l0_5 : List (S94)) (a0_6 : Int) (a0_7 : Int) (a0_8 : Bool) : Option (Int) := if a0_2 = 1 then (if a0_3 ≥ 0 then (redraftref04_Own.j0 k (decide (a0_3 ≤ 1048576)) a0_0 a0_1 a0_2 a0_3 a0_4 l0_5 a0_6 a0_7 a0_8) else (redraftref04_Own.j0 k false a0_0 a0_1 a0_2 a0_3 a0_4 l0_5 a0_6 a0_7 a0_8)) else (redraftref04_Own.j0 k false a0_0 a0_1 a0_2 a0_3 a0_4 l0_5 a0_6 a0_7 a0_8)
set_option maxHeartbeats 8000000 in
set_option maxRecDepth 100000 in
theorem redraftref04_Own.calls (k : Nat) (a0_0 : Int) (a0_1 : Int) (a0_2 : Int) (a0_3 : Int) (a0_4 : ByteArray) (A0_5 : Option Addr) (c0_5 : Nat) (l0_5 : List (S94)) (a0_6 : Int) (a0_7 : Int) (a0_8 : Bool) (r : Int) (w : World) (hr0_5 : Kd.C k94 w A0_5 l0_5.length l0_5) (hc0_5 : l0_5.length ≤ c0_5) (h : redraftref04_Own.f k a0_0 a0_1 a0_2 a0_3 a0_4 l0_5 a0_6 a0_7 a0_8 = some r) :
 Calls Tryd.prog 102 #[.agg #[.int .i64 a0_0, .int .i64 a0_1, .int .i64 a0_2, .int .i64 a0_3, .string a0_4, .slice A0_5 l0_5.length c0_5, .int .i64 a0_6, .int .i64 a0_7, .bool a0_8]] w fun e w' => e = .returned (.int .i64 r) ∧ Below w.heap.size w w' := by
 have hu41 := Tryd.underlying41
 have HR0_5 := Aside0.mk hr0_5
 have HC0_5 := Aside0.mk hc0_5
 clear hr0_5 hc0_5
 have HB := Aside0.mk (Below.refl w.heap.size w)
 have H : (if a0_2 = 1 then (if a0_3 ≥ 0 then (redraftref04_Own.j0 k (decide (a0_3 ≤ 1048576)) a0_0 a0_1 a0_2 a0_3 a0_4 l0_5 a0_6 a0_7 a0_8) else (redraftref04_Own.j0 k false a0_0 a0_1 a0_2 a0_3 a0_4 l0_5 a0_6 a0_7 a0_8)) else (redraftref04_Own.j0 k false a0_0 a0_1 a0_2 a0_3 a0_4 l0_5 a0_6 a0_7 a0_8)) = some r := h
 clear h
 have HC2 := Aside0.mk H
 clear H
 go_enter Tryd.func102, Tryd.ntmps102
 go_upto_region 1 with (((with_reducible refine gate_dst (N := 1) rfl ?_); refine bxE_ 1 41 #[.int .i64 a0_0, .int .i64 a0_1, .int .i64 a0_2, .int .i64 a0_3, .string a0_4, .slice A0_5 l0_5.length c0_5, .int .i64 a0_6, .int .i64 a0_7, .bool a0_8] ?_; intro gb304 hg w3 hbox hb; have BK304 := Aside0.mk (hbox); have GW304 := gee_ hg HB; have GE304 := gee_ hg HB; replace HB := belB_ HB hb; clear hb hbox hg))
 (try simp only [Act.put, List.setIfInBounds_toArray, List.set_cons_zero, List.set_cons_succ])
 go_cut [16] (fun v16 wc => ∃ (kq : Nat) (x16_1 : Bool), v16 = .bool x16_1 ∧ Aside0 (redraftref04_Own.j0 kq x16_1 a0_0 a0_1 a0_2 a0_3 a0_4 l0_5 a0_6 a0_7 a0_8 = some r) ∧ Aside0 (kq ≤ k) ∧ Aside0 (wc.heap[gb304]? = some (.cells #[.int .i64 a0_0, .int .i64 a0_1, .int .i64 a0_2, .int .i64 a0_3, .string a0_4, (.slice A0_5 l0_5.length c0_5), .int .i64 a0_6, .int .i64 a0_7, .bool a0_8] 41 (0, 0))) ∧ Aside0 (Below w.heap.size w wc))
 case first =>
  have H := HC2.out
  clear HC2
  by_cases c4 : a0_2 = 1
  ·rw [if_pos c4] at H
   have c4b0 := beq_iff_eq.mpr c4
   have c4b1 := bne_eq_false_iff_eq.mpr c4
   clear c4
   (first | rw [c4b0] | (simp only [i64_w, i32_w]; rw [c4b0]) | rw [c4b1] | skip)
   by_cases c5 : a0_3 ≥ 0
   ·rw [if_pos c5] at H
    have c5b0 : decide (0 ≤ a0_3) = true := decide_eq_true c5
    clear c5
    have H' := Aside0.mk H
    clear H
    have hz_ := blk9_ BK304.out
    go_wp2
    go_meet
    case rel => exact ⟨_, (decide (a0_3 ≤ 1048576)), ok_, H', ⟨lo_⟩, ⟨blkW_ BK304⟩, ⟨belW_ HB⟩⟩
   ·rw [if_neg c5] at H
    have c5b0 : decide (0 ≤ a0_3) = false := decide_eq_false c5
    clear c5
    have H' := Aside0.mk H
    clear H
    have hz_ := blk9_ BK304.out
    go_wp2
    go_meet
    case rel => exact ⟨_, (false), ok_, H', ⟨lo_⟩, ⟨blkW_ BK304⟩, ⟨belW_ HB⟩⟩
  ·rw [if_neg c4] at H
   have c4b0 := beq_eq_false_iff_ne.mpr c4
   have c4b1 := bne_iff_ne.mpr c4
   (first | rw [c4b0] | (simp only [i64_w, i32_w]; rw [c4b0]) | rw [c4b1] | skip)
   have H' := Aside0.mk H
   clear H
   have hz_ := blk9_ BK304.out
   go_wp2
   go_meet
   case rel => exact ⟨_, (false), ok_, H', ⟨lo_⟩, ⟨blkW_ BK304⟩, ⟨belW_ HB⟩⟩
 case rest =>
  clear HC2
  obtain ⟨kq, x16_1, rfl, HA, HJ1, BK304, HB⟩ := hcut
  cases kq with
  | zero => exact absurd HA.out (by simp [redraftref04_Own.j0])
  | succ kj1 =>
   have H := HA.out
   clear HA
   simp only [redraftref04_Own.j0] at H
   by_cases c9 : x16_1 = true
   ·subst c9
    have H1 := H; rw [if_pos rfl] at H1
    clear H
    have H := H1
    clear H1
    replace H := Option.bind_eq_some_iff.mp H
    obtain ⟨t305, A100, H⟩ := H
    try dsimp only at H
    have A10 := Aside0.mk A100
    clear A100
    obtain rfl := Option.some.inj H
    have hz_ := blk9_ BK304.out
    go_wp2_with (((with_reducible refine gate_callee (f := 114) rfl ?_); refine goS_ 20 rfl Tryd.func114 #[.agg #[.int .i64 a0_0, .int .i64 a0_1, .int .i64 a0_2, .int .i64 a0_3, .string a0_4, .slice A0_5 l0_5.length c0_5, .int .i64 a0_6, .int .i64 a0_7, .bool a0_8], .int .i64 a0_3] ?_; (with_reducible refine (redraftref04_Check.calls kj1 a0_0 a0_1 a0_2 a0_3 a0_4 _ _ l0_5 a0_6 a0_7 a0_8 a0_3 t305 _ ?side1 ?side2 A10.out).mono ?_); (case side1 => exact CW_ ((Kd.C_below HR0_5.out HB.out))); (case side2 => exact HC0_5.out); rintro e w12 ⟨rfl, hb⟩; refine ⟨_, rfl, ?_⟩; replace BK304 := blkB_ BK304 hb; replace HB := belB_ HB hb; try clear hb))
    go_ret
    exact ⟨rs_, belW_ HB⟩
   ·replace c9 := Bool.eq_false_iff.mpr c9
    subst c9
    have H1 := H; rw [if_neg (show ¬ (false = true) by decide)] at H1
    clear H
    have H := H1
    clear H1
    replace H := Option.bind_eq_some_iff.mp H
    obtain ⟨t306, A130, H⟩ := H
    try dsimp only at H
    have A13 := Aside0.mk A130
    clear A130
    obtain rfl := Option.some.inj H
    have hz_ := blk9_ BK304.out
    go_wp2_with (((with_reducible refine gate_callee (f := 114) rfl ?_); refine goS_ 22 rfl Tryd.func114 #[.agg #[.int .i64 a0_0, .int .i64 a0_1, .int .i64 a0_2, .int .i64 a0_3, .string a0_4, .slice A0_5 l0_5.length c0_5, .int .i64 a0_6, .int .i64 a0_7, .bool a0_8], .int .i64 1048576] ?_; (with_reducible refine (redraftref04_Check.calls kj1 a0_0 a0_1 a0_2 a0_3 a0_4 _ _ l0_5 a0_6 a0_7 a0_8 1048576 t306 _ ?side1 ?side2 A13.out).mono ?_); (case side1 => exact CW_ ((Kd.C_below HR0_5.out HB.out))); (case side2 => exact HC0_5.out); rintro e w15 ⟨rfl, hb⟩; refine ⟨_, rfl, ?_⟩; replace BK304 := blkB_ BK304 hb; replace HB := belB_ HB hb; try clear hb))
    go_ret
    exact ⟨rs_, belW_ HB⟩

def redraftref05_own.l0 : Nat → List (S41) → Int → Option (Int)
 | 0, _, _ => none
 | k + 1, x0, x3 => if x3 < (x0.length : Int) then (if 0 ≤ x3 then ((redraftref04_Own.f k ((rd_T41 x0 x3).f0.f0.f0) ((rd_T41 x0 x3).f0.f0.f1) ((rd_T41 x0 x3).f0.f1) ((rd_T41 x0 x3).f1) ((rd_T41 x0 x3).f2) ((rd_T41 x0 x3).f3) ((rd_T41 x0 x3).f4.f0) ((rd_T41 x0 x3).f4.f1) ((rd_T41 x0 x3).f5)).bind fun t308 => (if t308 = 0 then (redraftref05_own.l0 k x0 (wrap64 (x3 + 1))) else (some t308))) else (none)) else (some 0)
def redraftref05_own.f (k : Nat) (l0 : List (S41)) : Option (Int) := redraftref05_own.l0 k l0 0
set_option maxHeartbeats 8000000 in
set_option maxRecDepth 100000 in
theorem redraftref05_own.calls (k : Nat) (A0 : Option Addr) (c0 : Nat) (l0 : List (S41)) (r : Int) (w : World) (hr0 : Kd.C k41 w A0 l0.length l0) (hc0 : l0.length ≤ c0) (h : redraftref05_own.f k l0 = some r) :
 Calls Tryd.prog 95 #[.slice A0 l0.length c0] w fun e w' => e = .returned (.int .i64 r) ∧ Below w.heap.size w w' := by
 have hu41 := Tryd.underlying41
 have HR0 := Aside0.mk hr0
 have HC0 := Aside0.mk hc0
 clear hr0 hc0
 have HB := Aside0.mk (Below.refl w.heap.size w)
 have H : (redraftref05_own.l0 k l0 0) = some r := h
 clear h
 have H' := Aside0.mk H
 clear H
 go_enter Tryd.func95, Tryd.ntmps95
 go_wp2
 go_loopg [3] k (fun kq v3 w' => ∃ (x3_1 : Int), v3 = .int .i64 x3_1 ∧ Aside0 (redraftref05_own.l0 kq l0 x3_1 = some r) ∧ Aside0 (kq ≤ k) ∧ Aside0 (Below w.heap.size w w'))
 case atStart => exact ⟨(0), ok_, H', ⟨Nat.le_refl _⟩, ⟨belW_ HB⟩⟩
 case round =>
  clear H'
  obtain ⟨x3_1, rfl, HA, HK1, HB⟩ := hrel
  cases gk with
  | zero => exact absurd HA.out (by simp [redraftref05_own.l0])
  | succ k1 =>
   have H := HA.out
   clear HA
   simp only [redraftref05_own.l0] at H
   by_cases c2 : x3_1 < (l0.length : Int)
   ·rw [if_pos c2] at H
    have c2b0 := decide_eq_true c2
    clear c2
    by_cases c3 : 0 ≤ x3_1
    ·rw [if_pos c3] at H
     have c3b0 := decide_eq_true c3
     clear c3
     replace H := Option.bind_eq_some_iff.mp H
     obtain ⟨t308, A40, H⟩ := H
     try dsimp only at H
     have A4 := Aside0.mk A40
     clear A40
     by_cases c5 : t308 = 0
     ·rw [if_pos c5] at H
      have c5b0 := beq_iff_eq.mpr c5
      have c5b1 := bne_eq_false_iff_eq.mpr c5
      clear c5
      have H' := Aside0.mk H
      clear H
      have p307 := dz_ (x3_1 : Int)
      have q307 := dl_ x3_1 (l0.length : Int)
      obtain ⟨ad307, A307_5, c307_5, e307, hx307_0, hx307_1, hx307_2, hx307_3, hx307_4, hx307_5, hx307_6, hx307_7, hx307_8, hl307_5, hi307_5⟩ := at_T41 HR0.out x3_1 p307 q307
      cases e307
      replace hx307_0 := pw_cell_below HB.out hx307_0
      replace hx307_1 := pw_cell_below HB.out hx307_1
      replace hx307_2 := pw_cell_below HB.out hx307_2
      replace hx307_3 := pw_cell_below HB.out hx307_3
      replace hx307_4 := pw_cell_below HB.out hx307_4
      replace hx307_5 := pw_cell_below HB.out hx307_5
      replace hx307_6 := pw_cell_below HB.out hx307_6
      replace hx307_7 := pw_cell_below HB.out hx307_7
      replace hx307_8 := pw_cell_below HB.out hx307_8
      have HR307_5 := Aside0.mk hi307_5
      have HC307_5 := Aside0.mk hl307_5
      clear hi307_5 hl307_5
      replace p307 := eq_true p307
      replace q307 := eq_true q307
      go_wp2_with (((with_reducible refine gate_callee (f := 102) rfl ?_); refine goS_ 15 rfl Tryd.func102 #[.agg #[.int .i64 ((rd_T41 l0 x3_1).f0.f0.f0), .int .i64 ((rd_T41 l0 x3_1).f0.f0.f1), .int .i64 ((rd_T41 l0 x3_1).f0.f1), .int .i64 ((rd_T41 l0 x3_1).f1), .string ((rd_T41 l0 x3_1).f2), .slice A307_5 ((rd_T41 l0 x3_1).f3).length c307_5, .int .i64 ((rd_T41 l0 x3_1).f4.f0), .int .i64 ((rd_T41 l0 x3_1).f4.f1), .bool ((rd_T41 l0 x3_1).f5)]] ?_; (with_reducible refine (redraftref04_Own.calls k1 ((rd_T41 l0 x3_1).f0.f0.f0) ((rd_T41 l0 x3_1).f0.f0.f1) ((rd_T41 l0 x3_1).f0.f1) ((rd_T41 l0 x3_1).f1) ((rd_T41 l0 x3_1).f2) _ _ ((rd_T41 l0 x3_1).f3) ((rd_T41 l0 x3_1).f4.f0) ((rd_T41 l0 x3_1).f4.f1) ((rd_T41 l0 x3_1).f5) t308 _ ?side1 ?side2 A4.out).mono ?_); (case side1 => exact CW_ ((Kd.C_below HR307_5.out HB.out))); (case side2 => exact HC307_5.out); rintro e w6 ⟨rfl, hb⟩; refine ⟨_, rfl, ?_⟩; replace HB := belB_ HB hb; try clear hb))
      go_roundg k1
      case measure => have := HK1.out; omega
      case rel => exact ⟨(wrap64 (x3_1 + 1)), ok_, H', ⟨lk_ HK1⟩, ⟨belW_ HB⟩⟩
     ·rw [if_neg c5] at H
      have c5b0 := beq_eq_false_iff_ne.mpr c5
      have c5b1 := bne_iff_ne.mpr c5
      obtain rfl := Option.some.inj H
      have p307 := dz_ (x3_1 : Int)
      have q307 := dl_ x3_1 (l0.length : Int)
      obtain ⟨ad307, A307_5, c307_5, e307, hx307_0, hx307_1, hx307_2, hx307_3, hx307_4, hx307_5, hx307_6, hx307_7, hx307_8, hl307_5, hi307_5⟩ := at_T41 HR0.out x3_1 p307 q307
      cases e307
      replace hx307_0 := pw_cell_below HB.out hx307_0
      replace hx307_1 := pw_cell_below HB.out hx307_1
      replace hx307_2 := pw_cell_below HB.out hx307_2
      replace hx307_3 := pw_cell_below HB.out hx307_3
      replace hx307_4 := pw_cell_below HB.out hx307_4
      replace hx307_5 := pw_cell_below HB.out hx307_5
      replace hx307_6 := pw_cell_below HB.out hx307_6
      replace hx307_7 := pw_cell_below HB.out hx307_7
      replace hx307_8 := pw_cell_below HB.out hx307_8
      have HR307_5 := Aside0.mk hi307_5
      have HC307_5 := Aside0.mk hl307_5
      clear hi307_5 hl307_5
      replace p307 := eq_true p307
      replace q307 := eq_true q307
      go_wp2_with (((with_reducible refine gate_callee (f := 102) rfl ?_); refine goS_ 15 rfl Tryd.func102 #[.agg #[.int .i64 ((rd_T41 l0 x3_1).f0.f0.f0), .int .i64 ((rd_T41 l0 x3_1).f0.f0.f1), .int .i64 ((rd_T41 l0 x3_1).f0.f1), .int .i64 ((rd_T41 l0 x3_1).f1), .string ((rd_T41 l0 x3_1).f2), .slice A307_5 ((rd_T41 l0 x3_1).f3).length c307_5, .int .i64 ((rd_T41 l0 x3_1).f4.f0), .int .i64 ((rd_T41 l0 x3_1).f4.f1), .bool ((rd_T41 l0 x3_1).f5)]] ?_; (with_reducible refine (redraftref04_Own.calls k1 ((rd_T41 l0 x3_1).f0.f0.f0) ((rd_T41 l0 x3_1).f0.f0.f1) ((rd_T41 l0 x3_1).f0.f1) ((rd_T41 l0 x3_1).f1) ((rd_T41 l0 x3_1).f2) _ _ ((rd_T41 l0 x3_1).f3) ((rd_T41 l0 x3_1).f4.f0) ((rd_T41 l0 x3_1).f4.f1) ((rd_T41 l0 x3_1).f5) t308 _ ?side1 ?side2 A4.out).mono ?_); (case side1 => exact CW_ ((Kd.C_below HR307_5.out HB.out))); (case side2 => exact HC307_5.out); rintro e w7 ⟨rfl, hb⟩; refine ⟨_, rfl, ?_⟩; replace HB := belB_ HB hb; try clear hb))
      go_ret
      exact ⟨rs_, belW_ HB⟩
    ·rw [if_neg c3] at H
     exact absurd H (by simp)
   ·rw [if_neg c2] at H
    have c2b0 := decide_eq_false c2
    clear c2
    obtain rfl := Option.some.inj H
    go_wp2
    go_ret
    exact ⟨rs_, belW_ HB⟩

mutual
def redraftref05_with.l0 : Nat → List (S154) → Int → Int → Int → List (S154) → Int → Int → Option ((List (S154)))
 | 0, _, _, _, _, _, _, _ => none
 | k + 1, x0, x1, x2, x3, x9, x10, x11 => if x11 < (x0.length : Int) then (if 0 ≤ x11 then (if x2 ≥ x10 then (redraftref05_with.j1 k x0 x1 x2 x3 x9 x10 x11 (wrap64 (((rd_T154 x0 x11).f2) - ((rd_T154 x0 x11).f1))) (decide (x2 < (wrap64 (x10 + (wrap64 (((rd_T154 x0 x11).f2) - ((rd_T154 x0 x11).f1))))))) ((rd_T154 x0 x11).f0) ((rd_T154 x0 x11).f1) ((rd_T154 x0 x11).f2)) else (redraftref05_with.j1 k x0 x1 x2 x3 x9 x10 x11 (wrap64 (((rd_T154 x0 x11).f2) - ((rd_T154 x0 x11).f1))) false ((rd_T154 x0 x11).f0) ((rd_T154 x0 x11).f1) ((rd_T154 x0 x11).f2))) else (none)) else (some x9)
def redraftref05_with.j1 : Nat → List (S154) → Int → Int → Int → List (S154) → Int → Int → Int → Bool → Int → Int → Int → Option ((List (S154)))
 | 0, _, _, _, _, _, _, _, _, _, _, _, _ => none
 | k + 1, x0, x1, x2, x3, x9, x10, x11, x13, x38, x311000, x311001, x311002 => if x38 = true then (if x2 > x10 then (if x9.length < 5864062014805 then ((some (x9 ++ [(⟨x311000, x311001, wrap64 ((wrap64 (x311001 + x2)) - x10)⟩ : S154)] : List (S154))).bind fun y311 => (if y311.length < 5864062014805 then ((some (y311 ++ [(⟨x1, 0, x3⟩ : S154)] : List (S154))).bind fun y314 => (if y314.length < 5864062014805 then (redraftref05_with.l0 k x0 x1 x2 x3 (y314 ++ [(⟨x311000, wrap64 ((wrap64 (x311001 + x2)) - x10), x311002⟩ : S154)]) (wrap64 (x10 + x13)) (wrap64 (x11 + 1))) else (none))) else (none))) else (none)) else (if x9.length < 5864062014805 then ((some (x9 ++ [(⟨x1, 0, x3⟩ : S154)] : List (S154))).bind fun y320 => (if y320.length < 5864062014805 then (redraftref05_with.l0 k x0 x1 x2 x3 (y320 ++ [(⟨x311000, wrap64 ((wrap64 (x311001 + x2)) - x10), x311002⟩ : S154)]) (wrap64 (x10 + x13)) (wrap64 (x11 + 1))) else (none))) else (none))) else (if x9.length < 5864062014805 then (redraftref05_with.l0 k x0 x1 x2 x3 (x9 ++ [(⟨x311000, x311001, x311002⟩ : S154)]) (wrap64 (x10 + x13)) (wrap64 (x11 + 1))) else (none))
end
def redraftref05_with.f (k : Nat) (l0 : List (S154)) (a1 : Int) (a2 : Int) (a3 : Int) : Option ((List (S154))) := redraftref05_with.l0 k l0 a1 a2 a3 ([] : List (S154)) 0 0
set_option maxHeartbeats 8000000 in
set_option maxRecDepth 100000 in
theorem redraftref05_with.calls (k : Nat) (A0 : Option Addr) (c0 : Nat) (l0 : List (S154)) (a1 : Int) (a2 : Int) (a3 : Int) (r : List (S154)) (w : World) (hr0 : Kd.C k154 w A0 l0.length l0) (hc0 : l0.length ≤ c0) (h : redraftref05_with.f k l0 a1 a2 a3 = some r) :
 Calls Tryd.prog 103 #[.slice A0 l0.length c0, .int .i64 a1, .int .i64 a2, .int .i64 a3] w fun e w' => ∃ v0_ : Value, e = .returned (v0_) ∧ Kd.R k154 154 w' w.heap.size (fun _ => True) v0_ r ∧ Below w.heap.size w w' := by
 have hu154 := Tryd.underlying154
 have HR0 := Aside0.mk hr0
 have HC0 := Aside0.mk hc0
 clear hr0 hc0
 have HB := Aside0.mk (Below.refl w.heap.size w)
 have H : (redraftref05_with.l0 k l0 a1 a2 a3 ([] : List (S154)) 0 0) = some r := h
 clear h
 have H' := Aside0.mk H
 clear H
 go_enter Tryd.func103, Tryd.ntmps103
 go_wp2
 go_loopg [9, 10, 11] k (fun kq v9 v10 v11 w' => ∃ (x9_1 : List (S154)) (x10_1 : Int) (x11_1 : Int), v10 = .int .i64 x10_1 ∧ v11 = .int .i64 x11_1 ∧ Aside0 (redraftref05_with.l0 kq l0 a1 a2 a3 x9_1 x10_1 x11_1 = some r) ∧ Aside0 (kq ≤ k) ∧ Aside0 (Kd.R k154 154 w' w.heap.size (fun _ => True) v9 x9_1) ∧ Aside0 (Below w.heap.size w w'))
 case atStart => exact ⟨(([] : List (S154))), (0), (0), ok_, ok_, H', ⟨Nat.le_refl _⟩, ⟨nl_⟩, ⟨belW_ HB⟩⟩
 case round =>
  clear H'
  try clear c1
  try clear p2
  obtain ⟨x9_1, x10_1, x11_1, rfl, rfl, HA, HK1, HO_9, HB⟩ := hrel
  cases gk with
  | zero => exact absurd HA.out (by simp [redraftref05_with.l0])
  | succ k1 =>
   have H := HA.out
   clear HA
   simp only [redraftref05_with.l0] at H
   by_cases c5 : x11_1 < (l0.length : Int)
   ·rw [if_pos c5] at H
    have c5b0 := decide_eq_true c5
    clear c5
    by_cases c6 : 0 ≤ x11_1
    ·rw [if_pos c6] at H
     have c6b0 := decide_eq_true c6
     clear c6
     have HC7 := Aside0.mk H
     clear H
     have p309 := dz_ (x11_1 : Int)
     have q309 := dl_ x11_1 (l0.length : Int)
     obtain ⟨ad309, e309, hx309_0, hx309_1, hx309_2⟩ := at_T154 HR0.out x11_1 p309 q309
     cases e309
     replace hx309_0 := pw_cell_below HB.out hx309_0
     replace hx309_1 := pw_cell_below HB.out hx309_1
     replace hx309_2 := pw_cell_below HB.out hx309_2
     replace p309 := eq_true p309
     replace q309 := eq_true q309
     go_upto_region 8 with (((with_reducible refine gate_dst (N := 12) rfl ?_); refine bxE_ 12 154 #[.int .i64 0, .int .i64 0, .int .i64 0] ?_; intro gb310 hg w8 hbox hb; have BK310 := Aside0.mk (hbox); have GW310 := gee_ hg HB; have GE310 := gee_ hg HB; replace HO_9 := Aside0.mk (Kd.R_below (Kd.R_elderB (RW_ <| HO_9.out) gb310 (Nat.le_of_eq hg.symm)) hb); replace HB := belB_ HB hb; clear hb hbox hg; obtain ⟨hcz9_0, hcz9_1, hcz9_2, hfz9_0, hfz9_1, hfz9_2⟩ := blk3_ BK310.out))
     (try simp only [Act.put, List.setIfInBounds_toArray, List.set_cons_zero, List.set_cons_succ])
     go_cut [38] (fun v38 wc => ∃ (kq : Nat) (x38_6 : Bool), v38 = .bool x38_6 ∧ Aside0 (redraftref05_with.j1 kq l0 a1 a2 a3 x9_1 x10_1 x11_1 (wrap64 (((rd_T154 l0 x11_1).f2) - ((rd_T154 l0 x11_1).f1))) x38_6 ((rd_T154 l0 x11_1).f0) ((rd_T154 l0 x11_1).f1) ((rd_T154 l0 x11_1).f2) = some r) ∧ Aside0 (kq ≤ k1) ∧ Aside0 (Kd.R k154 154 wc w.heap.size (fun k_ => k_ ≠ gb310) u9 x9_1) ∧ Aside0 (wc.heap[gb310]? = some (.cells #[.int .i64 ((rd_T154 l0 x11_1).f0), .int .i64 ((rd_T154 l0 x11_1).f1), .int .i64 ((rd_T154 l0 x11_1).f2)] 154 (0, 0))) ∧ Aside0 (Below w.heap.size w wc))
     case first =>
      have H := HC7.out
      clear HC7
      by_cases c10 : a2 ≥ x10_1
      ·rw [if_pos c10] at H
       have c10b0 : decide (x10_1 ≤ a2) = true := decide_eq_true c10
       clear c10
       (first | rw [c10b0] | (simp only [i64_w, i32_w]; rw [c10b0]) | rw [c10b1] | skip)
       have H' := Aside0.mk H
       clear H
       go_wp2
       go_meet
       case rel => exact ⟨_, (decide (a2 < (wrap64 (x10_1 + (wrap64 (((rd_T154 l0 x11_1).f2) - ((rd_T154 l0 x11_1).f1))))))), ok_, H', ⟨lk_ HK1⟩, ⟨RW_ <| Kd.R_mono (Kd.R_far (p := ⟨gb310, 2, none⟩) (Kd.R_far (p := ⟨gb310, 1, none⟩) (Kd.R_far (p := ⟨gb310, 0, none⟩) (Kd.R_mono HO_9.out (fun k_ hk => (⟨hk, hk.2⟩ : _ ∧ k_ ≠ gb310))) (fun _ hk => hk.2) (.int .i64 ((rd_T154 l0 x11_1).f0))) (fun _ hk => hk.2) (.int .i64 ((rd_T154 l0 x11_1).f1))) (fun _ hk => hk.2) (.int .i64 ((rd_T154 l0 x11_1).f2))) (fun _ hk => hk.1.2)⟩, ⟨by (with_reducible repeat (first | refine blk_drewN ?_ _ | refine blk_drew ?_ | refine blk_alloc ?_ _)); refine blk_put (cs := #[.int .i64 ((rd_T154 l0 x11_1).f0), .int .i64 ((rd_T154 l0 x11_1).f1), .int .i64 0]) ?_ 2 _ rfl; (with_reducible repeat (first | refine blk_drewN ?_ _ | refine blk_drew ?_ | refine blk_alloc ?_ _)); refine blk_put (cs := #[.int .i64 ((rd_T154 l0 x11_1).f0), .int .i64 0, .int .i64 0]) ?_ 1 _ rfl; (with_reducible repeat (first | refine blk_drewN ?_ _ | refine blk_drew ?_ | refine blk_alloc ?_ _)); refine blk_put (cs := #[.int .i64 0, .int .i64 0, .int .i64 0]) ?_ 0 _ rfl; (with_reducible repeat (first | refine blk_drewN ?_ _ | refine blk_drew ?_ | refine blk_alloc ?_ _)); exact BK310.out⟩, ⟨belW_ HB⟩⟩
      ·rw [if_neg c10] at H
       have c10b0 : decide (x10_1 ≤ a2) = false := decide_eq_false c10
       clear c10
       (first | rw [c10b0] | (simp only [i64_w, i32_w]; rw [c10b0]) | rw [c10b1] | skip)
       have H' := Aside0.mk H
       clear H
       go_wp2
       go_meet
       case rel => exact ⟨_, (false), ok_, H', ⟨lk_ HK1⟩, ⟨RW_ <| Kd.R_mono (Kd.R_far (p := ⟨gb310, 2, none⟩) (Kd.R_far (p := ⟨gb310, 1, none⟩) (Kd.R_far (p := ⟨gb310, 0, none⟩) (Kd.R_mono HO_9.out (fun k_ hk => (⟨hk, hk.2⟩ : _ ∧ k_ ≠ gb310))) (fun _ hk => hk.2) (.int .i64 ((rd_T154 l0 x11_1).f0))) (fun _ hk => hk.2) (.int .i64 ((rd_T154 l0 x11_1).f1))) (fun _ hk => hk.2) (.int .i64 ((rd_T154 l0 x11_1).f2))) (fun _ hk => hk.1.2)⟩, ⟨by (with_reducible repeat (first | refine blk_drewN ?_ _ | refine blk_drew ?_ | refine blk_alloc ?_ _)); refine blk_put (cs := #[.int .i64 ((rd_T154 l0 x11_1).f0), .int .i64 ((rd_T154 l0 x11_1).f1), .int .i64 0]) ?_ 2 _ rfl; (with_reducible repeat (first | refine blk_drewN ?_ _ | refine blk_drew ?_ | refine blk_alloc ?_ _)); refine blk_put (cs := #[.int .i64 ((rd_T154 l0 x11_1).f0), .int .i64 0, .int .i64 0]) ?_ 1 _ rfl; (with_reducible repeat (first | refine blk_drewN ?_ _ | refine blk_drew ?_ | refine blk_alloc ?_ _)); refine blk_put (cs := #[.int .i64 0, .int .i64 0, .int .i64 0]) ?_ 0 _ rfl; (with_reducible repeat (first | refine blk_drewN ?_ _ | refine blk_drew ?_ | refine blk_alloc ?_ _)); exact BK310.out⟩, ⟨belW_ HB⟩⟩
     case rest =>
      clear HC7
      try clear c1
      try clear p2
      try clear c5
      try clear c5b0
      try clear c6
      try clear c6b0
      try clear hcz9_0
      try clear hcz9_1
      try clear hcz9_2
      try clear hfz9_0
      try clear hfz9_1
      try clear hfz9_2
      try clear hx309_0
      try clear hx309_1
      try clear hx309_2
      try clear p2
      try clear p309
      try clear q309
      obtain ⟨kq, x38_6, rfl, HA, HJ6, HO_9, BK310, HB⟩ := hcut
      cases kq with
      | zero => exact absurd HA.out (by simp [redraftref05_with.j1])
      | succ kj6 =>
       have H := HA.out
       clear HA
       simp only [redraftref05_with.j1] at H
       by_cases c11 : x38_6 = true
       ·subst c11
        have H1 := H; rw [if_pos rfl] at H1
        clear H
        have H := H1
        clear H1
        by_cases c12 : a2 > x10_1
        ·rw [if_pos c12] at H
         have c12b0 : decide (x10_1 < a2) = true := decide_eq_true c12
         clear c12
         by_cases c13 : x9_1.length < 5864062014805
         ·rw [if_pos c13] at H
          have LMc13 := Aside0.mk c13
          clear c13
          obtain ⟨y311, hy311⟩ : ∃ y_ : List (S154), y_ = (x9_1 ++ [(⟨((rd_T154 l0 x11_1).f0), ((rd_T154 l0 x11_1).f1), wrap64 ((wrap64 (((rd_T154 l0 x11_1).f1) + a2)) - x10_1)⟩ : S154)]) := ⟨_, rfl⟩
          replace H : (if y311.length < 5864062014805 then ((some (y311 ++ [(⟨a1, 0, a3⟩ : S154)] : List (S154))).bind fun y314 => (if y314.length < 5864062014805 then (redraftref05_with.l0 kj6 l0 a1 a2 a3 (y314 ++ [(⟨((rd_T154 l0 x11_1).f0), wrap64 ((wrap64 (((rd_T154 l0 x11_1).f1) + a2)) - x10_1), ((rd_T154 l0 x11_1).f2)⟩ : S154)]) (wrap64 (x10_1 + (wrap64 (((rd_T154 l0 x11_1).f2) - ((rd_T154 l0 x11_1).f1))))) (wrap64 (x11_1 + 1))) else (none))) else (none)) = some r := by first | (rw [hy311]; with_reducible exact H) | (have H2_ := (Option.bind_some _ _).symm.trans H; rw [hy311]; with_reducible exact H2_) | (have H2_ := (Option.bind_some _ _).symm.trans H; with_reducible exact H2_) | with_reducible exact H | (rw [hy311]; exact H) | exact H
          have Ny311 := Aside0.mk hy311
          clear hy311
          by_cases c14 : y311.length < 5864062014805
          ·rw [if_pos c14] at H
           have LMc14 := Aside0.mk c14
           clear c14
           obtain ⟨y314, hy314⟩ : ∃ y_ : List (S154), y_ = (y311 ++ [(⟨a1, 0, a3⟩ : S154)]) := ⟨_, rfl⟩
           replace H : (if y314.length < 5864062014805 then (redraftref05_with.l0 kj6 l0 a1 a2 a3 (y314 ++ [(⟨((rd_T154 l0 x11_1).f0), wrap64 ((wrap64 (((rd_T154 l0 x11_1).f1) + a2)) - x10_1), ((rd_T154 l0 x11_1).f2)⟩ : S154)]) (wrap64 (x10_1 + (wrap64 (((rd_T154 l0 x11_1).f2) - ((rd_T154 l0 x11_1).f1))))) (wrap64 (x11_1 + 1))) else (none)) = some r := by first | (rw [hy314]; with_reducible exact H) | (have H2_ := (Option.bind_some _ _).symm.trans H; rw [hy314]; with_reducible exact H2_) | (have H2_ := (Option.bind_some _ _).symm.trans H; with_reducible exact H2_) | with_reducible exact H | (rw [hy314]; exact H) | exact H
           have Ny314 := Aside0.mk hy314
           clear hy314
           by_cases c15 : y314.length < 5864062014805
           ·rw [if_pos c15] at H
            have LMc15 := Aside0.mk c15
            clear c15
            obtain ⟨y317, hy317⟩ : ∃ y_ : List (S154), y_ = (y314 ++ [(⟨((rd_T154 l0 x11_1).f0), wrap64 ((wrap64 (((rd_T154 l0 x11_1).f1) + a2)) - x10_1), ((rd_T154 l0 x11_1).f2)⟩ : S154)]) := ⟨_, rfl⟩
            replace H : (redraftref05_with.l0 kj6 l0 a1 a2 a3 y317 (wrap64 (x10_1 + (wrap64 (((rd_T154 l0 x11_1).f2) - ((rd_T154 l0 x11_1).f1))))) (wrap64 (x11_1 + 1))) = some r := by first | (rw [hy317]; with_reducible exact H) | (have H2_ := (Option.bind_some _ _).symm.trans H; rw [hy317]; with_reducible exact H2_) | (have H2_ := (Option.bind_some _ _).symm.trans H; with_reducible exact H2_) | with_reducible exact H | (rw [hy317]; exact H) | exact H
            have Ny317 := Aside0.mk hy317
            clear hy317
            have H' := Aside0.mk H
            clear H
            have hz_ := blk3_ BK310.out
            go_wp2_with (first | ((with_reducible refine gate_builtin (b := .append) (xs := #[.tmp 42, .tmp 54]) rfl ?_); at_builtin; refine Kd.R_append k154 (w0 := w) w.heap.size rfl (.tmp 42) (.tmp 54) 137 154 (.agg #[(.int .i64 0), (.int .i64 0), (.int .i64 0)]) 24 rfl Tryd.underlying137 info154 rfl (by decide) (by omega) u9 x9_1 (⟨((rd_T154 l0 x11_1).f0), ((rd_T154 l0 x11_1).f1), wrap64 ((wrap64 (((rd_T154 l0 x11_1).f1) + a2)) - x10_1)⟩ : S154) [.int .i64 ((rd_T154 l0 x11_1).f0), .int .i64 ((rd_T154 l0 x11_1).f1), .int .i64 (wrap64 ((wrap64 (((rd_T154 l0 x11_1).f1) + a2)) - x10_1))] (fun k_ => k_ ≠ gb310) (fun _ => False) rfl rfl ?aP (fun _ hk => hk.elim) ?aF ?aO ?aB ?aS ?aL ?_; (case aP => exact k154_mkM _ _ _ (⟨((rd_T154 l0 x11_1).f0), ((rd_T154 l0 x11_1).f1), wrap64 ((wrap64 (((rd_T154 l0 x11_1).f1) + a2)) - x10_1)⟩ : S154)); (case aB => exact (belW_ HB)); (case aF => exact (fun k_ hk => Kd.freshB (blkW_ BK310) k_ hk)); (case aO => exact (RW_ <| HO_9.out)); (case aS => exact (below_size (belW_ HB))); (case aL => have := LMc13.out; omega); intro v312 w17 ho hb hg hat; rw [← Ny311.out] at ho; have HO313 := Aside0.mk (ho); replace BK310 := Aside0.mk (blk_grown (blkW_ BK310) hg (Kd.R_away HO_9.out (fun _ hk => hk))); replace HB := Aside0.mk (hb); clear HO_9; clear ho hb hg hat) | ((with_reducible refine gate_builtin (b := .append) (xs := #[.tmp 56, .tmp 60]) rfl ?_); at_builtin; refine Kd.R_append k154 (w0 := w) w.heap.size rfl (.tmp 56) (.tmp 60) 137 154 (.agg #[(.int .i64 0), (.int .i64 0), (.int .i64 0)]) 24 rfl Tryd.underlying137 info154 rfl (by decide) (by omega) v312 y311 (⟨a1, 0, a3⟩ : S154) [.int .i64 a1, .int .i64 0, .int .i64 a3] (fun k_ => k_ ≠ gb310) (fun _ => False) rfl rfl ?aP (fun _ hk => hk.elim) ?aF ?aO ?aB ?aS ?aL ?_; (case aP => exact k154_mkM _ _ _ (⟨a1, 0, a3⟩ : S154)); (case aB => exact (belW_ HB)); (case aF => exact (fun k_ hk => Kd.freshB (blkW_ BK310) k_ hk)); (case aO => exact (RW_ <| HO313.out)); (case aS => exact (below_size (belW_ HB))); (case aL => have := LMc14.out; omega); intro v315 w18 ho hb hg hat; rw [← Ny314.out] at ho; have HO316 := Aside0.mk (ho); replace BK310 := Aside0.mk (blk_grown (blkW_ BK310) hg (Kd.R_away HO313.out (fun _ hk => hk))); replace HB := Aside0.mk (hb); clear HO313; clear ho hb hg hat; have hz_ := blk3_ BK310.out) | ((with_reducible refine gate_builtin (b := .append) (xs := #[.tmp 62, .tmp 74]) rfl ?_); at_builtin; refine Kd.R_append k154 (w0 := w) w.heap.size rfl (.tmp 62) (.tmp 74) 137 154 (.agg #[(.int .i64 0), (.int .i64 0), (.int .i64 0)]) 24 rfl Tryd.underlying137 info154 rfl (by decide) (by omega) v315 y314 (⟨((rd_T154 l0 x11_1).f0), wrap64 ((wrap64 (((rd_T154 l0 x11_1).f1) + a2)) - x10_1), ((rd_T154 l0 x11_1).f2)⟩ : S154) [.int .i64 ((rd_T154 l0 x11_1).f0), .int .i64 (wrap64 ((wrap64 (((rd_T154 l0 x11_1).f1) + a2)) - x10_1)), .int .i64 ((rd_T154 l0 x11_1).f2)] (fun k_ => k_ ≠ gb310) (fun _ => False) rfl rfl ?aP (fun _ hk => hk.elim) ?aF ?aO ?aB ?aS ?aL ?_; (case aP => exact k154_mkM _ _ _ (⟨((rd_T154 l0 x11_1).f0), wrap64 ((wrap64 (((rd_T154 l0 x11_1).f1) + a2)) - x10_1), ((rd_T154 l0 x11_1).f2)⟩ : S154)); (case aB => exact (belW_ HB)); (case aF => exact (fun k_ hk => Kd.freshB (blkW_ BK310) k_ hk)); (case aO => exact (RW_ <| HO316.out)); (case aS => exact (below_size (belW_ HB))); (case aL => have := LMc15.out; omega); intro v318 w20 ho hb hg hat; rw [← Ny317.out] at ho; have HO319 := Aside0.mk (ho); replace BK310 := Aside0.mk (blk_grown (blkW_ BK310) hg (Kd.R_away HO316.out (fun _ hk => hk))); replace HB := Aside0.mk (hb); clear HO316; clear ho hb hg hat))
            go_roundg kj6
            case measure => have := HK1.out; have := HJ6.out; omega
            case rel => exact ⟨(y317), (wrap64 (x10_1 + (wrap64 (((rd_T154 l0 x11_1).f2) - ((rd_T154 l0 x11_1).f1))))), (wrap64 (x11_1 + 1)), ok_, ok_, H', ⟨by have := HK1.out; have := HJ6.out; omega⟩, ⟨RW_ <| Kd.R_mono HO319.out (fun _ hk => trivial)⟩, ⟨belW_ HB⟩⟩
           ·rw [if_neg c15] at H
            exact absurd H (by simp)
          ·rw [if_neg c14] at H
           exact absurd H (by simp)
         ·rw [if_neg c13] at H
          exact absurd H (by simp)
        ·rw [if_neg c12] at H
         have c12b0 : decide (x10_1 < a2) = false := decide_eq_false c12
         clear c12
         by_cases c21 : x9_1.length < 5864062014805
         ·rw [if_pos c21] at H
          have LMc21 := Aside0.mk c21
          clear c21
          obtain ⟨y320, hy320⟩ : ∃ y_ : List (S154), y_ = (x9_1 ++ [(⟨a1, 0, a3⟩ : S154)]) := ⟨_, rfl⟩
          replace H : (if y320.length < 5864062014805 then (redraftref05_with.l0 kj6 l0 a1 a2 a3 (y320 ++ [(⟨((rd_T154 l0 x11_1).f0), wrap64 ((wrap64 (((rd_T154 l0 x11_1).f1) + a2)) - x10_1), ((rd_T154 l0 x11_1).f2)⟩ : S154)]) (wrap64 (x10_1 + (wrap64 (((rd_T154 l0 x11_1).f2) - ((rd_T154 l0 x11_1).f1))))) (wrap64 (x11_1 + 1))) else (none)) = some r := by first | (rw [hy320]; with_reducible exact H) | (have H2_ := (Option.bind_some _ _).symm.trans H; rw [hy320]; with_reducible exact H2_) | (have H2_ := (Option.bind_some _ _).symm.trans H; with_reducible exact H2_) | with_reducible exact H | (rw [hy320]; exact H) | exact H
          have Ny320 := Aside0.mk hy320
          clear hy320
          by_cases c22 : y320.length < 5864062014805
          ·rw [if_pos c22] at H
           have LMc22 := Aside0.mk c22
           clear c22
           obtain ⟨y323, hy323⟩ : ∃ y_ : List (S154), y_ = (y320 ++ [(⟨((rd_T154 l0 x11_1).f0), wrap64 ((wrap64 (((rd_T154 l0 x11_1).f1) + a2)) - x10_1), ((rd_T154 l0 x11_1).f2)⟩ : S154)]) := ⟨_, rfl⟩
           replace H : (redraftref05_with.l0 kj6 l0 a1 a2 a3 y323 (wrap64 (x10_1 + (wrap64 (((rd_T154 l0 x11_1).f2) - ((rd_T154 l0 x11_1).f1))))) (wrap64 (x11_1 + 1))) = some r := by first | (rw [hy323]; with_reducible exact H) | (have H2_ := (Option.bind_some _ _).symm.trans H; rw [hy323]; with_reducible exact H2_) | (have H2_ := (Option.bind_some _ _).symm.trans H; with_reducible exact H2_) | with_reducible exact H | (rw [hy323]; exact H) | exact H
           have Ny323 := Aside0.mk hy323
           clear hy323
           have H' := Aside0.mk H
           clear H
           go_wp2_with (first | ((with_reducible refine gate_builtin (b := .append) (xs := #[.tmp 56, .tmp 60]) rfl ?_); at_builtin; refine Kd.R_append k154 (w0 := w) w.heap.size rfl (.tmp 56) (.tmp 60) 137 154 (.agg #[(.int .i64 0), (.int .i64 0), (.int .i64 0)]) 24 rfl Tryd.underlying137 info154 rfl (by decide) (by omega) u9 x9_1 (⟨a1, 0, a3⟩ : S154) [.int .i64 a1, .int .i64 0, .int .i64 a3] (fun k_ => k_ ≠ gb310) (fun _ => False) rfl rfl ?aP (fun _ hk => hk.elim) ?aF ?aO ?aB ?aS ?aL ?_; (case aP => exact k154_mkM _ _ _ (⟨a1, 0, a3⟩ : S154)); (case aB => exact (belW_ HB)); (case aF => exact (fun k_ hk => Kd.freshB (blkW_ BK310) k_ hk)); (case aO => exact (RW_ <| HO_9.out)); (case aS => exact (below_size (belW_ HB))); (case aL => have := LMc21.out; omega); intro v321 w23 ho hb hg hat; rw [← Ny320.out] at ho; have HO322 := Aside0.mk (ho); replace BK310 := Aside0.mk (blk_grown (blkW_ BK310) hg (Kd.R_away HO_9.out (fun _ hk => hk))); replace HB := Aside0.mk (hb); clear HO_9; clear ho hb hg hat; have hz_ := blk3_ BK310.out) | ((with_reducible refine gate_builtin (b := .append) (xs := #[.tmp 62, .tmp 74]) rfl ?_); at_builtin; refine Kd.R_append k154 (w0 := w) w.heap.size rfl (.tmp 62) (.tmp 74) 137 154 (.agg #[(.int .i64 0), (.int .i64 0), (.int .i64 0)]) 24 rfl Tryd.underlying137 info154 rfl (by decide) (by omega) v321 y320 (⟨((rd_T154 l0 x11_1).f0), wrap64 ((wrap64 (((rd_T154 l0 x11_1).f1) + a2)) - x10_1), ((rd_T154 l0 x11_1).f2)⟩ : S154) [.int .i64 ((rd_T154 l0 x11_1).f0), .int .i64 (wrap64 ((wrap64 (((rd_T154 l0 x11_1).f1) + a2)) - x10_1)), .int .i64 ((rd_T154 l0 x11_1).f2)] (fun k_ => k_ ≠ gb310) (fun _ => False) rfl rfl ?aP (fun _ hk => hk.elim) ?aF ?aO ?aB ?aS ?aL ?_; (case aP => exact k154_mkM _ _ _ (⟨((rd_T154 l0 x11_1).f0), wrap64 ((wrap64 (((rd_T154 l0 x11_1).f1) + a2)) - x10_1), ((rd_T154 l0 x11_1).f2)⟩ : S154)); (case aB => exact (belW_ HB)); (case aF => exact (fun k_ hk => Kd.freshB (blkW_ BK310) k_ hk)); (case aO => exact (RW_ <| HO322.out)); (case aS => exact (below_size (belW_ HB))); (case aL => have := LMc22.out; omega); intro v324 w25 ho hb hg hat; rw [← Ny323.out] at ho; have HO325 := Aside0.mk (ho); replace BK310 := Aside0.mk (blk_grown (blkW_ BK310) hg (Kd.R_away HO322.out (fun _ hk => hk))); replace HB := Aside0.mk (hb); clear HO322; clear ho hb hg hat))
           go_roundg kj6
           case measure => have := HK1.out; have := HJ6.out; omega
           case rel => exact ⟨(y323), (wrap64 (x10_1 + (wrap64 (((rd_T154 l0 x11_1).f2) - ((rd_T154 l0 x11_1).f1))))), (wrap64 (x11_1 + 1)), ok_, ok_, H', ⟨by have := HK1.out; have := HJ6.out; omega⟩, ⟨RW_ <| Kd.R_mono HO325.out (fun _ hk => trivial)⟩, ⟨belW_ HB⟩⟩
          ·rw [if_neg c22] at H
           exact absurd H (by simp)
         ·rw [if_neg c21] at H
          exact absurd H (by simp)
       ·replace c11 := Bool.eq_false_iff.mpr c11
        subst c11
        have H1 := H; rw [if_neg (show ¬ (false = true) by decide)] at H1
        clear H
        have H := H1
        clear H1
        by_cases c26 : x9_1.length < 5864062014805
        ·rw [if_pos c26] at H
         have LMc26 := Aside0.mk c26
         clear c26
         obtain ⟨y326, hy326⟩ : ∃ y_ : List (S154), y_ = (x9_1 ++ [(⟨((rd_T154 l0 x11_1).f0), ((rd_T154 l0 x11_1).f1), ((rd_T154 l0 x11_1).f2)⟩ : S154)]) := ⟨_, rfl⟩
         replace H : (redraftref05_with.l0 kj6 l0 a1 a2 a3 y326 (wrap64 (x10_1 + (wrap64 (((rd_T154 l0 x11_1).f2) - ((rd_T154 l0 x11_1).f1))))) (wrap64 (x11_1 + 1))) = some r := by first | (rw [hy326]; with_reducible exact H) | (have H2_ := (Option.bind_some _ _).symm.trans H; rw [hy326]; with_reducible exact H2_) | (have H2_ := (Option.bind_some _ _).symm.trans H; with_reducible exact H2_) | with_reducible exact H | (rw [hy326]; exact H) | exact H
         have Ny326 := Aside0.mk hy326
         clear hy326
         have H' := Aside0.mk H
         clear H
         have hz_ := blk3_ BK310.out
         go_wp2_with (((with_reducible refine gate_builtin (b := .append) (xs := #[.tmp 76, .tmp 78]) rfl ?_); at_builtin; refine Kd.R_append k154 (w0 := w) w.heap.size rfl (.tmp 76) (.tmp 78) 137 154 (.agg #[(.int .i64 0), (.int .i64 0), (.int .i64 0)]) 24 rfl Tryd.underlying137 info154 rfl (by decide) (by omega) u9 x9_1 (⟨((rd_T154 l0 x11_1).f0), ((rd_T154 l0 x11_1).f1), ((rd_T154 l0 x11_1).f2)⟩ : S154) [.int .i64 ((rd_T154 l0 x11_1).f0), .int .i64 ((rd_T154 l0 x11_1).f1), .int .i64 ((rd_T154 l0 x11_1).f2)] (fun k_ => k_ ≠ gb310) (fun _ => False) rfl rfl ?aP (fun _ hk => hk.elim) ?aF ?aO ?aB ?aS ?aL ?_; (case aP => exact k154_mkM _ _ _ (⟨((rd_T154 l0 x11_1).f0), ((rd_T154 l0 x11_1).f1), ((rd_T154 l0 x11_1).f2)⟩ : S154)); (case aB => exact (belW_ HB)); (case aF => exact (fun k_ hk => Kd.freshB (blkW_ BK310) k_ hk)); (case aO => exact (RW_ <| HO_9.out)); (case aS => exact (below_size (belW_ HB))); (case aL => have := LMc26.out; omega); intro v327 w28 ho hb hg hat; rw [← Ny326.out] at ho; have HO328 := Aside0.mk (ho); replace BK310 := Aside0.mk (blk_grown (blkW_ BK310) hg (Kd.R_away HO_9.out (fun _ hk => hk))); replace HB := Aside0.mk (hb); clear HO_9; clear ho hb hg hat))
         go_roundg kj6
         case measure => have := HK1.out; have := HJ6.out; omega
         case rel => exact ⟨(y326), (wrap64 (x10_1 + (wrap64 (((rd_T154 l0 x11_1).f2) - ((rd_T154 l0 x11_1).f1))))), (wrap64 (x11_1 + 1)), ok_, ok_, H', ⟨by have := HK1.out; have := HJ6.out; omega⟩, ⟨RW_ <| Kd.R_mono HO328.out (fun _ hk => trivial)⟩, ⟨belW_ HB⟩⟩
        ·rw [if_neg c26] at H
         exact absurd H (by simp)
    ·rw [if_neg c6] at H
     exact absurd H (by simp)
   ·rw [if_neg c5] at H
    have c5b0 := decide_eq_false c5
    clear c5
    obtain rfl := Option.some.inj H
    go_wp2
    go_ret
    exact ⟨_, rs_, RW_ <| HO_9.out, belW_ HB⟩

def redraftref05_place.l0 : Nat → List (S154) → Int → Int → Int → Int → Option (Int)
 | 0, _, _, _, _, _ => none
 | k + 1, x0, x1, x2, x7, x8 => if x8 < (x0.length : Int) then (if 0 ≤ x8 then (if ((rd_T154 x0 x8).f0) = x1 then (if ((rd_T154 x0 x8).f1) ≤ x2 then (if x2 < ((rd_T154 x0 x8).f2) then (some (wrap64 ((wrap64 (x7 + x2)) - ((rd_T154 x0 x8).f1)))) else (redraftref05_place.l0 k x0 x1 x2 (wrap64 ((wrap64 (x7 + ((rd_T154 x0 x8).f2))) - ((rd_T154 x0 x8).f1))) (wrap64 (x8 + 1)))) else (redraftref05_place.l0 k x0 x1 x2 (wrap64 ((wrap64 (x7 + ((rd_T154 x0 x8).f2))) - ((rd_T154 x0 x8).f1))) (wrap64 (x8 + 1)))) else (redraftref05_place.l0 k x0 x1 x2 (wrap64 ((wrap64 (x7 + ((rd_T154 x0 x8).f2))) - ((rd_T154 x0 x8).f1))) (wrap64 (x8 + 1)))) else (none)) else (some x7)
def redraftref05_place.f (k : Nat) (l0 : List (S154)) (a1 : Int) (a2 : Int) : Option (Int) := redraftref05_place.l0 k l0 a1 a2 0 0
set_option maxHeartbeats 8000000 in
set_option maxRecDepth 100000 in
theorem redraftref05_place.calls (k : Nat) (A0 : Option Addr) (c0 : Nat) (l0 : List (S154)) (a1 : Int) (a2 : Int) (r : Int) (w : World) (hr0 : Kd.C k154 w A0 l0.length l0) (hc0 : l0.length ≤ c0) (h : redraftref05_place.f k l0 a1 a2 = some r) :
 Calls Tryd.prog 106 #[.slice A0 l0.length c0, .int .i64 a1, .int .i64 a2] w fun e w' => e = .returned (.int .i64 r) ∧ Below w.heap.size w w' := by
 have hu154 := Tryd.underlying154
 have HR0 := Aside0.mk hr0
 have HC0 := Aside0.mk hc0
 clear hr0 hc0
 have HB := Aside0.mk (Below.refl w.heap.size w)
 have H : (redraftref05_place.l0 k l0 a1 a2 0 0) = some r := h
 clear h
 have H' := Aside0.mk H
 clear H
 go_enter Tryd.func106, Tryd.ntmps106
 go_wp2
 go_loopg [7, 8] k (fun kq v7 v8 w' => ∃ (x7_1 : Int) (x8_1 : Int), v7 = .int .i64 x7_1 ∧ v8 = .int .i64 x8_1 ∧ Aside0 (redraftref05_place.l0 kq l0 a1 a2 x7_1 x8_1 = some r) ∧ Aside0 (kq ≤ k) ∧ Aside0 (Below w.heap.size w w'))
 case atStart => exact ⟨(0), (0), ok_, ok_, H', ⟨Nat.le_refl _⟩, ⟨belW_ HB⟩⟩
 case round =>
  clear H'
  try clear c1
  try clear p2
  obtain ⟨x7_1, x8_1, rfl, rfl, HA, HK1, HB⟩ := hrel
  cases gk with
  | zero => exact absurd HA.out (by simp [redraftref05_place.l0])
  | succ k1 =>
   have H := HA.out
   clear HA
   simp only [redraftref05_place.l0] at H
   by_cases c4 : x8_1 < (l0.length : Int)
   ·rw [if_pos c4] at H
    have c4b0 := decide_eq_true c4
    clear c4
    by_cases c5 : 0 ≤ x8_1
    ·rw [if_pos c5] at H
     have c5b0 := decide_eq_true c5
     clear c5
     by_cases c6 : ((rd_T154 l0 x8_1).f0) = a1
     ·rw [if_pos c6] at H
      have c6b0 := beq_iff_eq.mpr c6
      have c6b1 := bne_eq_false_iff_eq.mpr c6
      clear c6
      by_cases c7 : ((rd_T154 l0 x8_1).f1) ≤ a2
      ·rw [if_pos c7] at H
       have c7b0 := decide_eq_true c7
       clear c7
       by_cases c8 : a2 < ((rd_T154 l0 x8_1).f2)
       ·rw [if_pos c8] at H
        have c8b0 := decide_eq_true c8
        clear c8
        obtain rfl := Option.some.inj H
        have p329 := dz_ (x8_1 : Int)
        have q329 := dl_ x8_1 (l0.length : Int)
        obtain ⟨ad329, e329, hx329_0, hx329_1, hx329_2⟩ := at_T154 HR0.out x8_1 p329 q329
        cases e329
        replace hx329_0 := pw_cell_below HB.out hx329_0
        replace hx329_1 := pw_cell_below HB.out hx329_1
        replace hx329_2 := pw_cell_below HB.out hx329_2
        replace p329 := eq_true p329
        replace q329 := eq_true q329
        go_wp2_with (((with_reducible refine gate_dst (N := 9) rfl ?_); refine bxE_ 9 154 #[.int .i64 0, .int .i64 0, .int .i64 0] ?_; intro gb330 hg w9 hbox hb; have BK330 := Aside0.mk (hbox); have GW330 := gee_ hg HB; have GE330 := gee_ hg HB; replace HB := belB_ HB hb; clear hb hbox hg; have hz_ := blk3_ BK330.out))
        go_ret
        exact ⟨rs_, belW_ HB⟩
       ·rw [if_neg c8] at H
        have c8b0 := decide_eq_false c8
        clear c8
        have H' := Aside0.mk H
        clear H
        have p329 := dz_ (x8_1 : Int)
        have q329 := dl_ x8_1 (l0.length : Int)
        obtain ⟨ad329, e329, hx329_0, hx329_1, hx329_2⟩ := at_T154 HR0.out x8_1 p329 q329
        cases e329
        replace hx329_0 := pw_cell_below HB.out hx329_0
        replace hx329_1 := pw_cell_below HB.out hx329_1
        replace hx329_2 := pw_cell_below HB.out hx329_2
        replace p329 := eq_true p329
        replace q329 := eq_true q329
        go_wp2_with (((with_reducible refine gate_dst (N := 9) rfl ?_); refine bxE_ 9 154 #[.int .i64 0, .int .i64 0, .int .i64 0] ?_; intro gb330 hg w11 hbox hb; have BK330 := Aside0.mk (hbox); have GW330 := gee_ hg HB; have GE330 := gee_ hg HB; replace HB := belB_ HB hb; clear hb hbox hg; have hz_ := blk3_ BK330.out))
        go_roundg k1
        case measure => have := HK1.out; omega
        case rel => exact ⟨(wrap64 ((wrap64 (x7_1 + ((rd_T154 l0 x8_1).f2))) - ((rd_T154 l0 x8_1).f1))), (wrap64 (x8_1 + 1)), ok_, ok_, H', ⟨lk_ HK1⟩, ⟨belW_ HB⟩⟩
      ·rw [if_neg c7] at H
       have c7b0 := decide_eq_false c7
       clear c7
       have H' := Aside0.mk H
       clear H
       have p329 := dz_ (x8_1 : Int)
       have q329 := dl_ x8_1 (l0.length : Int)
       obtain ⟨ad329, e329, hx329_0, hx329_1, hx329_2⟩ := at_T154 HR0.out x8_1 p329 q329
       cases e329
       replace hx329_0 := pw_cell_below HB.out hx329_0
       replace hx329_1 := pw_cell_below HB.out hx329_1
       replace hx329_2 := pw_cell_below HB.out hx329_2
       replace p329 := eq_true p329
       replace q329 := eq_true q329
       go_wp2_with (((with_reducible refine gate_dst (N := 9) rfl ?_); refine bxE_ 9 154 #[.int .i64 0, .int .i64 0, .int .i64 0] ?_; intro gb330 hg w13 hbox hb; have BK330 := Aside0.mk (hbox); have GW330 := gee_ hg HB; have GE330 := gee_ hg HB; replace HB := belB_ HB hb; clear hb hbox hg; have hz_ := blk3_ BK330.out))
       go_roundg k1
       case measure => have := HK1.out; omega
       case rel => exact ⟨(wrap64 ((wrap64 (x7_1 + ((rd_T154 l0 x8_1).f2))) - ((rd_T154 l0 x8_1).f1))), (wrap64 (x8_1 + 1)), ok_, ok_, H', ⟨lk_ HK1⟩, ⟨belW_ HB⟩⟩
     ·rw [if_neg c6] at H
      have c6b0 := beq_eq_false_iff_ne.mpr c6
      have c6b1 := bne_iff_ne.mpr c6
      have H' := Aside0.mk H
      clear H
      have p329 := dz_ (x8_1 : Int)
      have q329 := dl_ x8_1 (l0.length : Int)
      obtain ⟨ad329, e329, hx329_0, hx329_1, hx329_2⟩ := at_T154 HR0.out x8_1 p329 q329
      cases e329
      replace hx329_0 := pw_cell_below HB.out hx329_0
      replace hx329_1 := pw_cell_below HB.out hx329_1
      replace hx329_2 := pw_cell_below HB.out hx329_2
      replace p329 := eq_true p329
      replace q329 := eq_true q329
      go_wp2_with (((with_reducible refine gate_dst (N := 9) rfl ?_); refine bxE_ 9 154 #[.int .i64 0, .int .i64 0, .int .i64 0] ?_; intro gb330 hg w15 hbox hb; have BK330 := Aside0.mk (hbox); have GW330 := gee_ hg HB; have GE330 := gee_ hg HB; replace HB := belB_ HB hb; clear hb hbox hg; have hz_ := blk3_ BK330.out))
      go_roundg k1
      case measure => have := HK1.out; omega
      case rel => exact ⟨(wrap64 ((wrap64 (x7_1 + ((rd_T154 l0 x8_1).f2))) - ((rd_T154 l0 x8_1).f1))), (wrap64 (x8_1 + 1)), ok_, ok_, H', ⟨lk_ HK1⟩, ⟨belW_ HB⟩⟩
    ·rw [if_neg c5] at H
     exact absurd H (by simp)
   ·rw [if_neg c4] at H
    have c4b0 := decide_eq_false c4
    clear c4
    obtain rfl := Option.some.inj H
    go_wp2
    go_ret
    exact ⟨rs_, belW_ HB⟩

end Go.Proofs.YtloccjkcmlkifaaDoor.PAll
