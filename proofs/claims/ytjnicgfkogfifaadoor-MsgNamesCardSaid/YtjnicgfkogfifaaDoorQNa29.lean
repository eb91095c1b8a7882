/- MsgNames_card, part 29. -/
import Derived.Test.YtjnicgfkogfifaaDoorQNa20
import Derived.Test.YtjnicgfkogfifaaDoorQNa21
import Derived.Test.YtjnicgfkogfifaaDoorQNa27
import Derived.Test.YtjnicgfkogfifaaDoorQNa28

namespace Go.Proofs.YtjnicgfkogfifaaDoor.PAll
open Go.RowKit Go.Proofs.YtjnicgfkogfifaaDoorW.PrintWords Go.Proofs.YtjnicgfkogfifaaDoorW.PrintLast Go.Proofs.YtjnicgfkogfifaaDoorW.PrintMore
attribute [local go_sem] max2_int min2_int max_two min_two max_three min_three max_four min_four   -- for this text's walks alone
set_option linter.unusedVariables false
set_option linter.unusedSimpArgs false

attribute [local go_sem high] idx28_0 idx28_1 idx29_0 idx29_1 idx110_0 idx110_1 idx110_2 idx111_0 idx111_1 idx111_2 idx111_3 idx112_0 idx112_1 idx112_2 idx112_3 idx153_0 idx153_1
attribute [local go_sem high] eqA29 eqA32 eqA54
mutual
def op_Equal.j0 : Nat → Bool → Int → Int → Int → Int → ByteArray → List (S54) → Int → Int → Bool → Int → Int → Int → Int → ByteArray → List (S54) → Int → Int → Bool → Option (Bool)
 | 0, _, _, _, _, _, _, _, _, _, _, _, _, _, _, _, _, _, _, _ => none
 | k + 1, x48, x213000, x213001, x213002, x213003, x213004, x213005, x213006, x213007, x213008, x214000, x214001, x214002, x214003, x214004, x214005, x214006, x214007, x214008 => if x48 = true then (some false) else (op_Equal.l0 k x213005 (x213005.length : Int) 0 x214000 x214001 x214002 x214003 x214004 x214005 x214006 x214007 x214008)
def op_Equal.l0 : Nat → List (S54) → Int → Int → Int → Int → Int → Int → ByteArray → List (S54) → Int → Int → Bool → Option (Bool)
 | 0, _, _, _, _, _, _, _, _, _, _, _, _ => none
 | k + 1, x50, x51, x52, x214000, x214001, x214002, x214003, x214004, x214005, x214006, x214007, x214008 => if x52 < x51 then (if 0 ≤ x52 then (if x52 < (x50.length : Int) then (if x52 < (x214005.length : Int) then (if (!(((rd_T54 x50 x52).f0) == ((rd_T54 x214005 x52).f0)) || (!(((rd_T54 x50 x52).f1) == ((rd_T54 x214005 x52).f1)))) = true then (some false) else (op_Equal.l0 k x50 x51 (wrap64 (x52 + 1)) x214000 x214001 x214002 x214003 x214004 x214005 x214006 x214007 x214008)) else (none)) else (none)) else (none)) else (some true)
end
def op_Equal.f (k : Nat) (a0_0 : Int) (a0_1 : Int) (a0_2 : Int) (a0_3 : Int) (a0_4 : ByteArray) (l0_5 : List (S54)) (a0_6 : Int) (a0_7 : Int) (a0_8 : Bool) (a1_0 : Int) (a1_1 : Int) (a1_2 : Int) (a1_3 : Int) (a1_4 : ByteArray) (l1_5 : List (S54)) (a1_6 : Int) (a1_7 : Int) (a1_8 : Bool) : Option (Bool) := if ((!(a0_0 == a1_0) || (!(a0_1 == a1_1))) || (!(a0_2 == a1_2))) = true then (op_Equal.j0 k true a0_0 a0_1 a0_2 a0_3 a0_4 l0_5 a0_6 a0_7 a0_8 a1_0 a1_1 a1_2 a1_3 a1_4 l1_5 a1_6 a1_7 a1_8) else (if a0_3 = a1_3 then (if a0_4.toList = a1_4.toList then (if (!(a0_6 == a1_6) || (!(a0_7 == a1_7))) = true then (op_Equal.j0 k true a0_0 a0_1 a0_2 a0_3 a0_4 l0_5 a0_6 a0_7 a0_8 a1_0 a1_1 a1_2 a1_3 a1_4 l1_5 a1_6 a1_7 a1_8) else (if (a0_8 != a1_8) = true then (op_Equal.j0 k true a0_0 a0_1 a0_2 a0_3 a0_4 l0_5 a0_6 a0_7 a0_8 a1_0 a1_1 a1_2 a1_3 a1_4 l1_5 a1_6 a1_7 a1_8) else (op_Equal.j0 k ((l0_5.length : Int) != (l1_5.length : Int)) a0_0 a0_1 a0_2 a0_3 a0_4 l0_5 a0_6 a0_7 a0_8 a1_0 a1_1 a1_2 a1_3 a1_4 l1_5 a1_6 a1_7 a1_8))) else (op_Equal.j0 k true a0_0 a0_1 a0_2 a0_3 a0_4 l0_5 a0_6 a0_7 a0_8 a1_0 a1_1 a1_2 a1_3 a1_4 l1_5 a1_6 a1_7 a1_8)) else (op_Equal.j0 k true a0_0 a0_1 a0_2 a0_3 a0_4 l0_5 a0_6 a0_7 a0_8 a1_0 a1_1 a1_2 a1_3 a1_4 l1_5 a1_6 a1_7 a1_8))
set_option maxHeartbeats 8000000 in
set_option maxRecDepth 100000 in
theorem op_Equal.calls (k : Nat) (a0_0 : Int) (a0_1 : Int) (a0_2 : Int) (a0_3 : Int) (a0_4 : ByteArray) (A0_5 : Option Addr) (c0_5 : Nat) (l0_5 : List (S54)) (a0_6 : Int) (a0_7 : Int) (a0_8 : Bool) (a1_0 : Int) (a1_1 : Int) (a1_2 : Int) (a1_3 : Int) (a1_4 : ByteArray) (A1_5 : Option Addr) (c1_5 : Nat) (l1_5 : List (S54)) (a1_6 : Int) (a1_7 : Int) (a1_8 : Bool) (r : Bool) (w : World) (hr0_5 : Kd.C k54 w A0_5 l0_5.length l0_5) (hc0_5 : l0_5.length ≤ c0_5) (hr1_5 : Kd.C k54 w A1_5 l1_5.length l1_5) (hc1_5 : l1_5.length ≤ c1_5) (h : op_Equal.f k a0_0 a0_1 a0_2 a0_3 a0_4 l0_5 a0_6 a0_7 a0_8 a1_0 a1_1 a1_2 a1_3 a1_4 l1_5 a1_6 a1_7 a1_8 = some r) :
 Calls Tryd.prog 27 #[.agg #[.int .i64 a0_0, .int .i64 a0_1, .int .i64 a0_2, .int .i64 a0_3, .string a0_4, .slice A0_5 l0_5.length c0_5, .int .i64 a0_6, .int .i64 a0_7, .bool a0_8], .agg #[.int .i64 a1_0, .int .i64 a1_1, .int .i64 a1_2, .int .i64 a1_3, .string a1_4, .slice A1_5 l1_5.length c1_5, .int .i64 a1_6, .int .i64 a1_7, .bool a1_8]] w fun e w' => e = .returned (.bool r) ∧ Below w.heap.size w w' := by
 have hu35 := Tryd.underlying35
 have hu32 := Tryd.underlying32
 have hu29 := Tryd.underlying29
 have hu54 := Tryd.underlying54
 have HR0_5 := Aside0.mk hr0_5
 have HC0_5 := Aside0.mk hc0_5
 clear hr0_5 hc0_5
 have HR1_5 := Aside0.mk hr1_5
 have HC1_5 := Aside0.mk hc1_5
 clear hr1_5 hc1_5
 have HB := Aside0.mk (Below.refl w.heap.size w)
 have H : (if ((!(a0_0 == a1_0) || (!(a0_1 == a1_1))) || (!(a0_2 == a1_2))) = true then (op_Equal.j0 k true a0_0 a0_1 a0_2 a0_3 a0_4 l0_5 a0_6 a0_7 a0_8 a1_0 a1_1 a1_2 a1_3 a1_4 l1_5 a1_6 a1_7 a1_8) else (if a0_3 = a1_3 then (if a0_4.toList = a1_4.toList then (if (!(a0_6 == a1_6) || (!(a0_7 == a1_7))) = true then (op_Equal.j0 k true a0_0 a0_1 a0_2 a0_3 a0_4 l0_5 a0_6 a0_7 a0_8 a1_0 a1_1 a1_2 a1_3 a1_4 l1_5 a1_6 a1_7 a1_8) else (if (a0_8 != a1_8) = true then (op_Equal.j0 k true a0_0 a0_1 a0_2 a0_3 a0_4 l0_5 a0_6 a0_7 a0_8 a1_0 a1_1 a1_2 a1_3 a1_4 l1_5 a1_6 a1_7 a1_8) else (op_Equal.j0 k ((l0_5.length : Int) != (l1_5.length : Int)) a0_0 a0_1 a0_2 a0_3 a0_4 l0_5 a0_6 a0_7 a0_8 a1_0 a1_1 a1_2 a1_3 a1_4 l1_5 a1_6 a1_7 a1_8))) else (op_Equal.j0 k true a0_0 a0_1 a0_2 a0_3 a0_4 l0_5 a0_6 a0_7 a0_8 a1_0 a1_1 a1_2 a1_3 a1_4 l1_5 a1_6 a1_7 a1_8)) else (op_Equal.j0 k true a0_0 a0_1 a0_2 a0_3 a0_4 l0_5 a0_6 a0_7 a0_8 a1_0 a1_1 a1_2 a1_3 a1_4 l1_5 a1_6 a1_7 a1_8))) = some r := h
 clear h
 have HC3 := Aside0.mk H
 clear H
 go_enter Tryd.func27, Tryd.ntmps27
 go_upto_region 1 with (first | ((with_reducible refine gate_dst (N := 2) rfl ?_); (try (refine gate_guard (by rfl) ?_; dsimp only)); refine bxE_ 2 35 #[.int .i64 a0_0, .int .i64 a0_1, .int .i64 a0_2, .int .i64 a0_3, .string a0_4, .slice A0_5 l0_5.length c0_5, .int .i64 a0_6, .int .i64 a0_7, .bool a0_8] ?_; intro gb212 hg w4 hbox hb; have BK212 := Aside0.mk (hbox); have GW212 := gee_ hg HB; have GE212 := gee_ hg HB; replace HB := belB_ HB hb; clear hb hbox hg) | ((with_reducible refine gate_dst (N := 3) rfl ?_); (try (refine gate_guard (by rfl) ?_; dsimp only)); refine bxE_ 3 35 #[.int .i64 a1_0, .int .i64 a1_1, .int .i64 a1_2, .int .i64 a1_3, .string a1_4, .slice A1_5 l1_5.length c1_5, .int .i64 a1_6, .int .i64 a1_7, .bool a1_8] ?_; intro gb213 hg w5 hbox hb; have BK213 := Aside0.mk (hbox); have GW213 := gee_ hg HB; have GE213 := gee_ hg HB; have NB212_213 := neL_ hg BK212; have NB213_212 := neR_ hg BK212; replace BK212 := blkB_ BK212 hb; replace HB := belB_ HB hb; clear hb hbox hg))
 repeat (go_quiet (first | ((with_reducible refine gate_dst (N := 2) rfl ?_); (try (refine gate_guard (by rfl) ?_; dsimp only)); refine bxE_ 2 35 #[.int .i64 a0_0, .int .i64 a0_1, .int .i64 a0_2, .int .i64 a0_3, .string a0_4, .slice A0_5 l0_5.length c0_5, .int .i64 a0_6, .int .i64 a0_7, .bool a0_8] ?_; intro gb212 hg w4 hbox hb; have BK212 := Aside0.mk (hbox); have GW212 := gee_ hg HB; have GE212 := gee_ hg HB; replace HB := belB_ HB hb; clear hb hbox hg) | ((with_reducible refine gate_dst (N := 3) rfl ?_); (try (refine gate_guard (by rfl) ?_; dsimp only)); refine bxE_ 3 35 #[.int .i64 a1_0, .int .i64 a1_1, .int .i64 a1_2, .int .i64 a1_3, .string a1_4, .slice A1_5 l1_5.length c1_5, .int .i64 a1_6, .int .i64 a1_7, .bool a1_8] ?_; intro gb213 hg w5 hbox hb; have BK213 := Aside0.mk (hbox); have GW213 := gee_ hg HB; have GE213 := gee_ hg HB; have NB212_213 := neL_ hg BK212; have NB213_212 := neR_ hg BK212; replace BK212 := blkB_ BK212 hb; replace HB := belB_ HB hb; clear hb hbox hg)); go_upto_region 1 with (first | ((with_reducible refine gate_dst (N := 2) rfl ?_); (try (refine gate_guard (by rfl) ?_; dsimp only)); refine bxE_ 2 35 #[.int .i64 a0_0, .int .i64 a0_1, .int .i64 a0_2, .int .i64 a0_3, .string a0_4, .slice A0_5 l0_5.length c0_5, .int .i64 a0_6, .int .i64 a0_7, .bool a0_8] ?_; intro gb212 hg w4 hbox hb; have BK212 := Aside0.mk (hbox); have GW212 := gee_ hg HB; have GE212 := gee_ hg HB; replace HB := belB_ HB hb; clear hb hbox hg) | ((with_reducible refine gate_dst (N := 3) rfl ?_); (try (refine gate_guard (by rfl) ?_; dsimp only)); refine bxE_ 3 35 #[.int .i64 a1_0, .int .i64 a1_1, .int .i64 a1_2, .int .i64 a1_3, .string a1_4, .slice A1_5 l1_5.length c1_5, .int .i64 a1_6, .int .i64 a1_7, .bool a1_8] ?_; intro gb213 hg w5 hbox hb; have BK213 := Aside0.mk (hbox); have GW213 := gee_ hg HB; have GE213 := gee_ hg HB; have NB212_213 := neL_ hg BK212; have NB213_212 := neR_ hg BK212; replace BK212 := blkB_ BK212 hb; replace HB := belB_ HB hb; clear hb hbox hg)))
 (try simp only [Act.put, List.setIfInBounds_toArray, List.set_cons_zero, List.set_cons_succ])
 go_cut [48] (fun v48 wc => ∃ (kq : Nat) (x48_2 : Bool), v48 = .bool x48_2 ∧ Aside0 (op_Equal.j0 kq x48_2 a0_0 a0_1 a0_2 a0_3 a0_4 l0_5 a0_6 a0_7 a0_8 a1_0 a1_1 a1_2 a1_3 a1_4 l1_5 a1_6 a1_7 a1_8 = some r) ∧ Aside0 (kq ≤ k) ∧ Aside0 (wc.heap[gb212]? = some (.cells #[.int .i64 a0_0, .int .i64 a0_1, .int .i64 a0_2, .int .i64 a0_3, .string a0_4, (.slice A0_5 l0_5.length c0_5), .int .i64 a0_6, .int .i64 a0_7, .bool a0_8] 35 (0, 0))) ∧ Aside0 (wc.heap[gb213]? = some (.cells #[.int .i64 a1_0, .int .i64 a1_1, .int .i64 a1_2, .int .i64 a1_3, .string a1_4, (.slice A1_5 l1_5.length c1_5), .int .i64 a1_6, .int .i64 a1_7, .bool a1_8] 35 (0, 0))) ∧ Aside0 (Below w.heap.size w wc))
 case first =>
  have H := HC3.out
  clear HC3
  by_cases c6 : ((!(a0_0 == a1_0) || (!(a0_1 == a1_1))) || (!(a0_2 == a1_2))) = true
  ·rw [if_pos c6] at H
   have c6b0 : ((!(a0_0 == a1_0) || (!(a0_1 == a1_1))) || (!(a0_2 == a1_2))) = true := c6
   clear c6
   (first | rw [c6b0] | (simp only [i64_w, i32_w]; rw [c6b0]) | rw [c6b1] | skip)
   have H' := Aside0.mk H
   clear H
   have hnb7 := NB212_213.out
   have hnc7 := NB213_212.out
   obtain ⟨hcz8_0, hcz8_1, hcz8_2, hcz8_3, hcz8_4, hcz8_5, hcz8_6, hcz8_7, hcz8_8, hfz8_0, hfz8_1, hfz8_2, hfz8_3, hfz8_4, hfz8_5, hfz8_6, hfz8_7, hfz8_8⟩ := blk9_ BK212.out
   obtain ⟨hcz9_0, hcz9_1, hcz9_2, hcz9_3, hcz9_4, hcz9_5, hcz9_6, hcz9_7, hcz9_8, hfz9_0, hfz9_1, hfz9_2, hfz9_3, hfz9_4, hfz9_5, hfz9_6, hfz9_7, hfz9_8⟩ := blk9_ BK213.out
   go_wp2
   repeat (go_quiet (fail); try go_wp2)
   go_meet
   case rel => exact ⟨_, (true), ok_, H', ⟨lo_⟩, ⟨blkW_ BK212⟩, ⟨blkW_ BK213⟩, ⟨belW_ HB⟩⟩
  ·rw [if_neg c6] at H
   have c6b0 : ((!(a0_0 == a1_0) || (!(a0_1 == a1_1))) || (!(a0_2 == a1_2))) = false := by simpa using c6
   clear c6
   (first | rw [c6b0] | (simp only [i64_w, i32_w]; rw [c6b0]) | rw [c6b1] | skip)
   by_cases c10 : a0_3 = a1_3
   ·rw [if_pos c10] at H
    have c10b0 := beq_iff_eq.mpr c10
    have c10b1 := bne_eq_false_iff_eq.mpr c10
    clear c10
    by_cases c11 : a0_4.toList = a1_4.toList
    ·rw [if_pos c11] at H
     have c11b0 := beq_iff_eq.mpr c11
     have c11b1 := bne_eq_false_iff_eq.mpr c11
     clear c11
     by_cases c12 : (!(a0_6 == a1_6) || (!(a0_7 == a1_7))) = true
     ·rw [if_pos c12] at H
      have c12b0 : (!(a0_6 == a1_6) || (!(a0_7 == a1_7))) = true := c12
      clear c12
      have H' := Aside0.mk H
      clear H
      have hnb13 := NB212_213.out
      have hnc13 := NB213_212.out
      obtain ⟨hcz14_0, hcz14_1, hcz14_2, hcz14_3, hcz14_4, hcz14_5, hcz14_6, hcz14_7, hcz14_8, hfz14_0, hfz14_1, hfz14_2, hfz14_3, hfz14_4, hfz14_5, hfz14_6, hfz14_7, hfz14_8⟩ := blk9_ BK212.out
      obtain ⟨hcz15_0, hcz15_1, hcz15_2, hcz15_3, hcz15_4, hcz15_5, hcz15_6, hcz15_7, hcz15_8, hfz15_0, hfz15_1, hfz15_2, hfz15_3, hfz15_4, hfz15_5, hfz15_6, hfz15_7, hfz15_8⟩ := blk9_ BK213.out
      go_wp2
      repeat (go_quiet (fail); try go_wp2)
      go_meet
      case rel => exact ⟨_, (true), ok_, H', ⟨lo_⟩, ⟨blkW_ BK212⟩, ⟨blkW_ BK213⟩, ⟨belW_ HB⟩⟩
     ·rw [if_neg c12] at H
      have c12b0 : (!(a0_6 == a1_6) || (!(a0_7 == a1_7))) = false := by simpa using c12
      clear c12
      by_cases c16 : (a0_8 != a1_8) = true
      ·rw [if_pos c16] at H
       have c16b0 : (a0_8 != a1_8) = true := c16
       (try (have c16b1 : decide (a0_8 = a1_8) = false := by simpa using c16))
       (try (have c16b2 : (a0_8 == a1_8) = false := by simpa using c16))
       (try (have c16b3 : ¬ (a0_8 = a1_8) := by simpa using c16))
       clear c16
       have H' := Aside0.mk H
       clear H
       have hnb17 := NB212_213.out
       have hnc17 := NB213_212.out
       obtain ⟨hcz18_0, hcz18_1, hcz18_2, hcz18_3, hcz18_4, hcz18_5, hcz18_6, hcz18_7, hcz18_8, hfz18_0, hfz18_1, hfz18_2, hfz18_3, hfz18_4, hfz18_5, hfz18_6, hfz18_7, hfz18_8⟩ := blk9_ BK212.out
       obtain ⟨hcz19_0, hcz19_1, hcz19_2, hcz19_3, hcz19_4, hcz19_5, hcz19_6, hcz19_7, hcz19_8, hfz19_0, hfz19_1, hfz19_2, hfz19_3, hfz19_4, hfz19_5, hfz19_6, hfz19_7, hfz19_8⟩ := blk9_ BK213.out
       go_wp2
       repeat (go_quiet (fail); try go_wp2)
       go_meet
       case rel => exact ⟨_, (true), ok_, H', ⟨lo_⟩, ⟨blkW_ BK212⟩, ⟨blkW_ BK213⟩, ⟨belW_ HB⟩⟩
      ·rw [if_neg c16] at H
       have c16b0 : (a0_8 != a1_8) = false := by simpa using c16
       (try (have c16b1 : decide (a0_8 = a1_8) = true := by simpa using c16))
       (try (have c16b2 : (a0_8 == a1_8) = true := by simpa using c16))
       clear c16
       have H' := Aside0.mk H
       clear H
       have hnb20 := NB212_213.out
       have hnc20 := NB213_212.out
       obtain ⟨hcz21_0, hcz21_1, hcz21_2, hcz21_3, hcz21_4, hcz21_5, hcz21_6, hcz21_7, hcz21_8, hfz21_0, hfz21_1, hfz21_2, hfz21_3, hfz21_4, hfz21_5, hfz21_6, hfz21_7, hfz21_8⟩ := blk9_ BK212.out
       obtain ⟨hcz22_0, hcz22_1, hcz22_2, hcz22_3, hcz22_4, hcz22_5, hcz22_6, hcz22_7, hcz22_8, hfz22_0, hfz22_1, hfz22_2, hfz22_3, hfz22_4, hfz22_5, hfz22_6, hfz22_7, hfz22_8⟩ := blk9_ BK213.out
       go_wp2
       repeat (go_quiet (fail); try go_wp2)
       go_meet
       case rel => exact ⟨_, (((l0_5.length : Int) != (l1_5.length : Int))), ok_, H', ⟨lo_⟩, ⟨blkW_ BK212⟩, ⟨blkW_ BK213⟩, ⟨belW_ HB⟩⟩
    ·rw [if_neg c11] at H
     have c11b0 := beq_eq_false_iff_ne.mpr c11
     have c11b1 := bne_iff_ne.mpr c11
     have H' := Aside0.mk H
     clear H
     have hnb23 := NB212_213.out
     have hnc23 := NB213_212.out
     obtain ⟨hcz24_0, hcz24_1, hcz24_2, hcz24_3, hcz24_4, hcz24_5, hcz24_6, hcz24_7, hcz24_8, hfz24_0, hfz24_1, hfz24_2, hfz24_3, hfz24_4, hfz24_5, hfz24_6, hfz24_7, hfz24_8⟩ := blk9_ BK212.out
     obtain ⟨hcz25_0, hcz25_1, hcz25_2, hcz25_3, hcz25_4, hcz25_5, hcz25_6, hcz25_7, hcz25_8, hfz25_0, hfz25_1, hfz25_2, hfz25_3, hfz25_4, hfz25_5, hfz25_6, hfz25_7, hfz25_8⟩ := blk9_ BK213.out
     go_wp2
     repeat (go_quiet (fail); try go_wp2)
     go_meet
     case rel => exact ⟨_, (true), ok_, H', ⟨lo_⟩, ⟨blkW_ BK212⟩, ⟨blkW_ BK213⟩, ⟨belW_ HB⟩⟩
   ·rw [if_neg c10] at H
    have c10b0 := beq_eq_false_iff_ne.mpr c10
    have c10b1 := bne_iff_ne.mpr c10
    have H' := Aside0.mk H
    clear H
    have hnb26 := NB212_213.out
    have hnc26 := NB213_212.out
    obtain ⟨hcz27_0, hcz27_1, hcz27_2, hcz27_3, hcz27_4, hcz27_5, hcz27_6, hcz27_7, hcz27_8, hfz27_0, hfz27_1, hfz27_2, hfz27_3, hfz27_4, hfz27_5, hfz27_6, hfz27_7, hfz27_8⟩ := blk9_ BK212.out
    obtain ⟨hcz28_0, hcz28_1, hcz28_2, hcz28_3, hcz28_4, hcz28_5, hcz28_6, hcz28_7, hcz28_8, hfz28_0, hfz28_1, hfz28_2, hfz28_3, hfz28_4, hfz28_5, hfz28_6, hfz28_7, hfz28_8⟩ := blk9_ BK213.out
    go_wp2
    repeat (go_quiet (fail); try go_wp2)
    go_meet
    case rel => exact ⟨_, (true), ok_, H', ⟨lo_⟩, ⟨blkW_ BK212⟩, ⟨blkW_ BK213⟩, ⟨belW_ HB⟩⟩
 case rest =>
  clear HC3
  obtain ⟨kq, x48_2, rfl, HA, HJ2, BK212, BK213, HB⟩ := hcut
  cases kq with
  | zero => exact absurd HA.out (by simp [op_Equal.j0])
  | succ kj2 =>
   have H := HA.out
   clear HA
   simp only [op_Equal.j0] at H
   by_cases c29 : x48_2 = true
   ·subst c29
    have H1 := H; rw [if_pos rfl] at H1
    clear H
    have H := H1
    clear H1
    obtain rfl := Option.some.inj H
    go_wp2
    repeat (go_quiet (fail); try go_wp2)
    go_ret
    exact ⟨rs_, belW_ HB⟩
   ·replace c29 := Bool.eq_false_iff.mpr c29
    subst c29
    have H1 := H; rw [if_neg (show ¬ (false = true) by decide)] at H1
    clear H
    have H := H1
    clear H1
    have H' := Aside0.mk H
    clear H
    have hnb30 := NB212_213.out
    have hnc30 := NB213_212.out
    obtain ⟨hcz31_0, hcz31_1, hcz31_2, hcz31_3, hcz31_4, hcz31_5, hcz31_6, hcz31_7, hcz31_8, hfz31_0, hfz31_1, hfz31_2, hfz31_3, hfz31_4, hfz31_5, hfz31_6, hfz31_7, hfz31_8⟩ := blk9_ BK212.out
    go_wp2
    repeat (go_quiet (fail); try go_wp2)
    go_loopg [52] kj2 (fun kq v52 w' => ∃ (x52_2 : Int), v52 = .int .i64 x52_2 ∧ Aside0 (op_Equal.l0 kq l0_5 (l0_5.length : Int) x52_2 a1_0 a1_1 a1_2 a1_3 a1_4 l1_5 a1_6 a1_7 a1_8 = some r) ∧ Aside0 (kq ≤ kj2) ∧ Aside0 (w'.heap[gb212]? = some (.cells #[.int .i64 a0_0, .int .i64 a0_1, .int .i64 a0_2, .int .i64 a0_3, .string a0_4, (.slice A0_5 l0_5.length c0_5), .int .i64 a0_6, .int .i64 a0_7, .bool a0_8] 35 (0, 0))) ∧ Aside0 (w'.heap[gb213]? = some (.cells #[.int .i64 a1_0, .int .i64 a1_1, .int .i64 a1_2, .int .i64 a1_3, .string a1_4, (.slice A1_5 l1_5.length c1_5), .int .i64 a1_6, .int .i64 a1_7, .bool a1_8] 35 (0, 0))) ∧ Aside0 (Below w.heap.size w w'))
    case atStart => exact ⟨(0), ok_, H', ⟨Nat.le_refl _⟩, ⟨blkW_ BK212⟩, ⟨blkW_ BK213⟩, ⟨belW_ HB⟩⟩
    case round =>
     clear H'
     try clear c1
     try clear c2
     try clear p2
     try clear c3
     try clear c6
     try clear c6b0
     try clear c6b1
     try clear c7
     try clear c10
     try clear c10b0
     try clear c10b1
     try clear c11
     try clear c11b0
     try clear c11b1
     try clear c12
     try clear c12b0
     try clear c13
     try clear c16
     try clear c16b0
     try clear c16b1
     try clear c16b2
     try clear c17
     try clear c20
     try clear c23
     try clear c26
     try clear c27
     try clear c29
     try clear c30
     try clear hcz14_0
     try clear hcz14_1
     try clear hcz14_2
     try clear hcz14_3
     try clear hcz14_4
     try clear hcz14_5
     try clear hcz14_6
     try clear hcz14_7
     try clear hcz14_8
     try clear hcz15_0
     try clear hcz15_1
     try clear hcz15_2
     try clear hcz15_3
     try clear hcz15_4
     try clear hcz15_5
     try clear hcz15_6
     try clear hcz15_7
     try clear hcz15_8
     try clear hcz18_0
     try clear hcz18_1
     try clear hcz18_2
     try clear hcz18_3
     try clear hcz18_4
     try clear hcz18_5
     try clear hcz18_6
     try clear hcz18_7
     try clear hcz18_8
     try clear hcz19_0
     try clear hcz19_1
     try clear hcz19_2
     try clear hcz19_3
     try clear hcz19_4
     try clear hcz19_5
     try clear hcz19_6
     try clear hcz19_7
     try clear hcz19_8
     try clear hcz21_0
     try clear hcz21_1
     try clear hcz21_2
     try clear hcz21_3
     try clear hcz21_4
     try clear hcz21_5
     try clear hcz21_6
     try clear hcz21_7
     try clear hcz21_8
     try clear hcz22_0
     try clear hcz22_1
     try clear hcz22_2
     try clear hcz22_3
     try clear hcz22_4
     try clear hcz22_5
     try clear hcz22_6
     try clear hcz22_7
     try clear hcz22_8
     try clear hcz24_0
     try clear hcz24_1
     try clear hcz24_2
     try clear hcz24_3
     try clear hcz24_4
     try clear hcz24_5
     try clear hcz24_6
     try clear hcz24_7
     try clear hcz24_8
     try clear hcz25_0
     try clear hcz25_1
     try clear hcz25_2
     try clear hcz25_3
     try clear hcz25_4
     try clear hcz25_5
     try clear hcz25_6
     try clear hcz25_7
     try clear hcz25_8
     try clear hcz27_0
     try clear hcz27_1
     try clear hcz27_2
     try clear hcz27_3
     try clear hcz27_4
     try clear hcz27_5
     try clear hcz27_6
     try clear hcz27_7
     try clear hcz27_8
     try clear hcz28_0
     try clear hcz28_1
     try clear hcz28_2
     try clear hcz28_3
     try clear hcz28_4
     try clear hcz28_5
     try clear hcz28_6
     try clear hcz28_7
     try clear hcz28_8
     try clear hcz31_0
     try clear hcz31_1
     try clear hcz31_2
     try clear hcz31_3
     try clear hcz31_4
     try clear hcz31_5
     try clear hcz31_6
     try clear hcz31_7
     try clear hcz31_8
     try clear hcz8_0
     try clear hcz8_1
     try clear hcz8_2
     try clear hcz8_3
     try clear hcz8_4
     try clear hcz8_5
     try clear hcz8_6
     try clear hcz8_7
     try clear hcz8_8
     try clear hcz9_0
     try clear hcz9_1
     try clear hcz9_2
     try clear hcz9_3
     try clear hcz9_4
     try clear hcz9_5
     try clear hcz9_6
     try clear hcz9_7
     try clear hcz9_8
     try clear hfz14_0
     try clear hfz14_1
     try clear hfz14_2
     try clear hfz14_3
     try clear hfz14_4
     try clear hfz14_5
     try clear hfz14_6
     try clear hfz14_7
     try clear hfz14_8
     try clear hfz15_0
     try clear hfz15_1
     try clear hfz15_2
     try clear hfz15_3
     try clear hfz15_4
     try clear hfz15_5
     try clear hfz15_6
     try clear hfz15_7
     try clear hfz15_8
     try clear hfz18_0
     try clear hfz18_1
     try clear hfz18_2
     try clear hfz18_3
     try clear hfz18_4
     try clear hfz18_5
     try clear hfz18_6
     try clear hfz18_7
     try clear hfz18_8
     try clear hfz19_0
     try clear hfz19_1
     try clear hfz19_2
     try clear hfz19_3
     try clear hfz19_4
     try clear hfz19_5
     try clear hfz19_6
     try clear hfz19_7
     try clear hfz19_8
     try clear hfz21_0
     try clear hfz21_1
     try clear hfz21_2
     try clear hfz21_3
     try clear hfz21_4
     try clear hfz21_5
     try clear hfz21_6
     try clear hfz21_7
     try clear hfz21_8
     try clear hfz22_0
     try clear hfz22_1
     try clear hfz22_2
     try clear hfz22_3
     try clear hfz22_4
     try clear hfz22_5
     try clear hfz22_6
     try clear hfz22_7
     try clear hfz22_8
     try clear hfz24_0
     try clear hfz24_1
     try clear hfz24_2
     try clear hfz24_3
     try clear hfz24_4
     try clear hfz24_5
     try clear hfz24_6
     try clear hfz24_7
     try clear hfz24_8
     try clear hfz25_0
     try clear hfz25_1
     try clear hfz25_2
     try clear hfz25_3
     try clear hfz25_4
     try clear hfz25_5
     try clear hfz25_6
     try clear hfz25_7
     try clear hfz25_8
     try clear hfz27_0
     try clear hfz27_1
     try clear hfz27_2
     try clear hfz27_3
     try clear hfz27_4
     try clear hfz27_5
     try clear hfz27_6
     try clear hfz27_7
     try clear hfz27_8
     try clear hfz28_0
     try clear hfz28_1
     try clear hfz28_2
     try clear hfz28_3
     try clear hfz28_4
     try clear hfz28_5
     try clear hfz28_6
     try clear hfz28_7
     try clear hfz28_8
     try clear hfz31_0
     try clear hfz31_1
     try clear hfz31_2
     try clear hfz31_3
     try clear hfz31_4
     try clear hfz31_5
     try clear hfz31_6
     try clear hfz31_7
     try clear hfz31_8
     try clear hfz8_0
     try clear hfz8_1
     try clear hfz8_2
     try clear hfz8_3
     try clear hfz8_4
     try clear hfz8_5
     try clear hfz8_6
     try clear hfz8_7
     try clear hfz8_8
     try clear hfz9_0
     try clear hfz9_1
     try clear hfz9_2
     try clear hfz9_3
     try clear hfz9_4
     try clear hfz9_5
     try clear hfz9_6
     try clear hfz9_7
     try clear hfz9_8
     try clear p2
     obtain ⟨x52_2, rfl, HA, HK2, BK212, BK213, HB⟩ := hrel
     cases gk with
     | zero => exact absurd HA.out (by simp [op_Equal.l0])
     | succ k2 =>
      have H := HA.out
      clear HA
      simp only [op_Equal.l0] at H
      by_cases c32 : x52_2 < (l0_5.length : Int)
      ·rw [if_pos c32] at H
       have c32b0 := decide_eq_true c32
       clear c32
       by_cases c33 : 0 ≤ x52_2
       ·rw [if_pos c33] at H
        have c33b0 := decide_eq_true c33
        clear c33
        by_cases c34 : x52_2 < (l0_5.length : Int)
        ·rw [if_pos c34] at H
         have c34b0 := decide_eq_true c34
         clear c34
         by_cases c35 : x52_2 < (l1_5.length : Int)
         ·rw [if_pos c35] at H
          have c35b0 := decide_eq_true c35
          clear c35
          by_cases c36 : (!(((rd_T54 l0_5 x52_2).f0) == ((rd_T54 l1_5 x52_2).f0)) || (!(((rd_T54 l0_5 x52_2).f1) == ((rd_T54 l1_5 x52_2).f1)))) = true
          ·rw [if_pos c36] at H
           have c36b0 : (!(((rd_T54 l0_5 x52_2).f0) == ((rd_T54 l1_5 x52_2).f0)) || (!(((rd_T54 l0_5 x52_2).f1) == ((rd_T54 l1_5 x52_2).f1)))) = true := c36
           clear c36
           obtain rfl := Option.some.inj H
           have p214 := dz_ (x52_2 : Int)
           have q214 := dl_ x52_2 (l0_5.length : Int)
           obtain ⟨ad214, e214, hx214_0, hx214_1⟩ := at_T54 HR0_5.out x52_2 p214 q214
           cases e214
           replace hx214_0 := pw_cell_below HB.out hx214_0
           replace hx214_1 := pw_cell_below HB.out hx214_1
           replace p214 := eq_true p214
           replace q214 := eq_true q214
           go_wp2_with (first | ((with_reducible refine gate_dst (N := 6) rfl ?_); (try (refine gate_guard (by rfl) ?_; dsimp only)); refine bxE_ 6 54 #[.int .i64 0, .int .i64 0] ?_; intro gb215 hg w37 hbox hb; have BK215 := Aside0.mk (hbox); have GW215 := gee_ hg HB; have GE215 := gee_ hg HB; have NB212_215 := neL_ hg BK212; have NB215_212 := neR_ hg BK212; have NB213_215 := neL_ hg BK213; have NB215_213 := neR_ hg BK213; replace BK212 := blkB_ BK212 hb; replace BK213 := blkB_ BK213 hb; replace HB := belB_ HB hb; clear hb hbox hg; have hnb38 := NB215_212.out; have hnc38 := NB212_215.out; have hnb39 := NB215_213.out; have hnc39 := NB213_215.out; have hz_ := blk2_ BK215.out; have hnb41 := NB213_212.out; have hnc41 := NB212_213.out; have hz_ := blk9_ BK213.out; have p216 := dz_ (x52_2 : Int); have q216 := dl_ x52_2 (l1_5.length : Int); obtain ⟨ad216, e216, hx216_0, hx216_1⟩ := at_T54 HR1_5.out x52_2 p216 q216; cases e216; have hn216_0 : ad216.block ≠ gb215 := Nat.ne_of_lt (Nat.lt_of_lt_of_le (by have := World.block_lt_of_cell? _ _ hx216_0; first | rwa [add_block] at this | exact this) GW215.out); have hn216_1 : ad216.block ≠ gb215 := Nat.ne_of_lt (Nat.lt_of_lt_of_le (by have := World.block_lt_of_cell? _ _ hx216_0; first | rwa [add_block] at this | exact this) GW215.out); replace hx216_0 := pw_cell_below HB.out hx216_0; replace hx216_1 := pw_cell_below HB.out hx216_1; replace hx216_0 := (cell_far (p := ⟨gb215, 0, none⟩) (by first | (rw [add_block]; exact hn216_0) | (show (Addr.add _ _).block ≠ _; rw [add_block]; exact hn216_0) | exact hn216_0) (.int .i64 ((rd_T54 l0_5 x52_2).f0))).trans hx216_0; replace hx216_1 := (cell_far (p := ⟨gb215, 0, none⟩) (by first | (rw [add_block]; exact hn216_0) | (show (Addr.add _ _).block ≠ _; rw [add_block]; exact hn216_0) | exact hn216_0) (.int .i64 ((rd_T54 l0_5 x52_2).f0))).trans hx216_1; replace hx216_0 := (cell_far (p := ⟨gb215, 1, none⟩) (by first | (rw [add_block]; exact hn216_1) | (show (Addr.add _ _).block ≠ _; rw [add_block]; exact hn216_1) | exact hn216_1) (.int .i64 ((rd_T54 l0_5 x52_2).f1))).trans hx216_0; replace hx216_1 := (cell_far (p := ⟨gb215, 1, none⟩) (by first | (rw [add_block]; exact hn216_1) | (show (Addr.add _ _).block ≠ _; rw [add_block]; exact hn216_1) | exact hn216_1) (.int .i64 ((rd_T54 l0_5 x52_2).f1))).trans hx216_1; (try have hy216_0 := fun (n_ : Nat) => (show ((((w37.drewN n_).setCell ⟨gb215, 0, none⟩ (.int .i64 ((rd_T54 l0_5 x52_2).f0))).setCell ⟨gb215, 1, none⟩ (.int .i64 ((rd_T54 l0_5 x52_2).f1)))).cell? _ = some _ from hx216_0)); (try have hy216_1 := fun (n_ : Nat) => (show ((((w37.drewN n_).setCell ⟨gb215, 0, none⟩ (.int .i64 ((rd_T54 l0_5 x52_2).f0))).setCell ⟨gb215, 1, none⟩ (.int .i64 ((rd_T54 l0_5 x52_2).f1)))).cell? _ = some _ from hx216_1)); clear hn216_0; clear hn216_1; replace p216 := eq_true p216; replace q216 := eq_true q216))
           repeat (go_quiet (first | ((with_reducible refine gate_dst (N := 6) rfl ?_); (try (refine gate_guard (by rfl) ?_; dsimp only)); refine bxE_ 6 54 #[.int .i64 0, .int .i64 0] ?_; intro gb215 hg w37 hbox hb; have BK215 := Aside0.mk (hbox); have GW215 := gee_ hg HB; have GE215 := gee_ hg HB; have NB212_215 := neL_ hg BK212; have NB215_212 := neR_ hg BK212; have NB213_215 := neL_ hg BK213; have NB215_213 := neR_ hg BK213; replace BK212 := blkB_ BK212 hb; replace BK213 := blkB_ BK213 hb; replace HB := belB_ HB hb; clear hb hbox hg; have hnb38 := NB215_212.out; have hnc38 := NB212_215.out; have hnb39 := NB215_213.out; have hnc39 := NB213_215.out; have hz_ := blk2_ BK215.out; have hnb41 := NB213_212.out; have hnc41 := NB212_213.out; have hz_ := blk9_ BK213.out; have p216 := dz_ (x52_2 : Int); have q216 := dl_ x52_2 (l1_5.length : Int); obtain ⟨ad216, e216, hx216_0, hx216_1⟩ := at_T54 HR1_5.out x52_2 p216 q216; cases e216; have hn216_0 : ad216.block ≠ gb215 := Nat.ne_of_lt (Nat.lt_of_lt_of_le (by have := World.block_lt_of_cell? _ _ hx216_0; first | rwa [add_block] at this | exact this) GW215.out); have hn216_1 : ad216.block ≠ gb215 := Nat.ne_of_lt (Nat.lt_of_lt_of_le (by have := World.block_lt_of_cell? _ _ hx216_0; first | rwa [add_block] at this | exact this) GW215.out); replace hx216_0 := pw_cell_below HB.out hx216_0; replace hx216_1 := pw_cell_below HB.out hx216_1; replace hx216_0 := (cell_far (p := ⟨gb215, 0, none⟩) (by first | (rw [add_block]; exact hn216_0) | (show (Addr.add _ _).block ≠ _; rw [add_block]; exact hn216_0) | exact hn216_0) (.int .i64 ((rd_T54 l0_5 x52_2).f0))).trans hx216_0; replace hx216_1 := (cell_far (p := ⟨gb215, 0, none⟩) (by first | (rw [add_block]; exact hn216_0) | (show (Addr.add _ _).block ≠ _; rw [add_block]; exact hn216_0) | exact hn216_0) (.int .i64 ((rd_T54 l0_5 x52_2).f0))).trans hx216_1; replace hx216_0 := (cell_far (p := ⟨gb215, 1, none⟩) (by first | (rw [add_block]; exact hn216_1) | (show (Addr.add _ _).block ≠ _; rw [add_block]; exact hn216_1) | exact hn216_1) (.int .i64 ((rd_T54 l0_5 x52_2).f1))).trans hx216_0; replace hx216_1 := (cell_far (p := ⟨gb215, 1, none⟩) (by first | (rw [add_block]; exact hn216_1) | (show (Addr.add _ _).block ≠ _; rw [add_block]; exact hn216_1) | exact hn216_1) (.int .i64 ((rd_T54 l0_5 x52_2).f1))).trans hx216_1; (try have hy216_0 := fun (n_ : Nat) => (show ((((w37.drewN n_).setCell ⟨gb215, 0, none⟩ (.int .i64 ((rd_T54 l0_5 x52_2).f0))).setCell ⟨gb215, 1, none⟩ (.int .i64 ((rd_T54 l0_5 x52_2).f1)))).cell? _ = some _ from hx216_0)); (try have hy216_1 := fun (n_ : Nat) => (show ((((w37.drewN n_).setCell ⟨gb215, 0, none⟩ (.int .i64 ((rd_T54 l0_5 x52_2).f0))).setCell ⟨gb215, 1, none⟩ (.int .i64 ((rd_T54 l0_5 x52_2).f1)))).cell? _ = some _ from hx216_1)); clear hn216_0; clear hn216_1; replace p216 := eq_true p216; replace q216 := eq_true q216)); try go_wp2_with (first | ((with_reducible refine gate_dst (N := 6) rfl ?_); (try (refine gate_guard (by rfl) ?_; dsimp only)); refine bxE_ 6 54 #[.int .i64 0, .int .i64 0] ?_; intro gb215 hg w37 hbox hb; have BK215 := Aside0.mk (hbox); have GW215 := gee_ hg HB; have GE215 := gee_ hg HB; have NB212_215 := neL_ hg BK212; have NB215_212 := neR_ hg BK212; have NB213_215 := neL_ hg BK213; have NB215_213 := neR_ hg BK213; replace BK212 := blkB_ BK212 hb; replace BK213 := blkB_ BK213 hb; replace HB := belB_ HB hb; clear hb hbox hg; have hnb38 := NB215_212.out; have hnc38 := NB212_215.out; have hnb39 := NB215_213.out; have hnc39 := NB213_215.out; have hz_ := blk2_ BK215.out; have hnb41 := NB213_212.out; have hnc41 := NB212_213.out; have hz_ := blk9_ BK213.out; have p216 := dz_ (x52_2 : Int); have q216 := dl_ x52_2 (l1_5.length : Int); obtain ⟨ad216, e216, hx216_0, hx216_1⟩ := at_T54 HR1_5.out x52_2 p216 q216; cases e216; have hn216_0 : ad216.block ≠ gb215 := Nat.ne_of_lt (Nat.lt_of_lt_of_le (by have := World.block_lt_of_cell? _ _ hx216_0; first | rwa [add_block] at this | exact this) GW215.out); have hn216_1 : ad216.block ≠ gb215 := Nat.ne_of_lt (Nat.lt_of_lt_of_le (by have := World.block_lt_of_cell? _ _ hx216_0; first | rwa [add_block] at this | exact this) GW215.out); replace hx216_0 := pw_cell_below HB.out hx216_0; replace hx216_1 := pw_cell_below HB.out hx216_1; replace hx216_0 := (cell_far (p := ⟨gb215, 0, none⟩) (by first | (rw [add_block]; exact hn216_0) | (show (Addr.add _ _).block ≠ _; rw [add_block]; exact hn216_0) | exact hn216_0) (.int .i64 ((rd_T54 l0_5 x52_2).f0))).trans hx216_0; replace hx216_1 := (cell_far (p := ⟨gb215, 0, none⟩) (by first | (rw [add_block]; exact hn216_0) | (show (Addr.add _ _).block ≠ _; rw [add_block]; exact hn216_0) | exact hn216_0) (.int .i64 ((rd_T54 l0_5 x52_2).f0))).trans hx216_1; replace hx216_0 := (cell_far (p := ⟨gb215, 1, none⟩) (by first | (rw [add_block]; exact hn216_1) | (show (Addr.add _ _).block ≠ _; rw [add_block]; exact hn216_1) | exact hn216_1) (.int .i64 ((rd_T54 l0_5 x52_2).f1))).trans hx216_0; replace hx216_1 := (cell_far (p := ⟨gb215, 1, none⟩) (by first | (rw [add_block]; exact hn216_1) | (show (Addr.add _ _).block ≠ _; rw [add_block]; exact hn216_1) | exact hn216_1) (.int .i64 ((rd_T54 l0_5 x52_2).f1))).trans hx216_1; (try have hy216_0 := fun (n_ : Nat) => (show ((((w37.drewN n_).setCell ⟨gb215, 0, none⟩ (.int .i64 ((rd_T54 l0_5 x52_2).f0))).setCell ⟨gb215, 1, none⟩ (.int .i64 ((rd_T54 l0_5 x52_2).f1)))).cell? _ = some _ from hx216_0)); (try have hy216_1 := fun (n_ : Nat) => (show ((((w37.drewN n_).setCell ⟨gb215, 0, none⟩ (.int .i64 ((rd_T54 l0_5 x52_2).f0))).setCell ⟨gb215, 1, none⟩ (.int .i64 ((rd_T54 l0_5 x52_2).f1)))).cell? _ = some _ from hx216_1)); clear hn216_0; clear hn216_1; replace p216 := eq_true p216; replace q216 := eq_true q216)))
           go_ret
           exact ⟨rs_, belW_ HB⟩
          ·rw [if_neg c36] at H
           have c36b0 : (!(((rd_T54 l0_5 x52_2).f0) == ((rd_T54 l1_5 x52_2).f0)) || (!(((rd_T54 l0_5 x52_2).f1) == ((rd_T54 l1_5 x52_2).f1)))) = false := by simpa using c36
           clear c36
           have H' := Aside0.mk H
           clear H
           have p214 := dz_ (x52_2 : Int)
           have q214 := dl_ x52_2 (l0_5.length : Int)
           obtain ⟨ad214, e214, hx214_0, hx214_1⟩ := at_T54 HR0_5.out x52_2 p214 q214
           cases e214
           replace hx214_0 := pw_cell_below HB.out hx214_0
           replace hx214_1 := pw_cell_below HB.out hx214_1
           replace p214 := eq_true p214
           replace q214 := eq_true q214
           go_wp2_with (first | ((with_reducible refine gate_dst (N := 6) rfl ?_); (try (refine gate_guard (by rfl) ?_; dsimp only)); refine bxE_ 6 54 #[.int .i64 0, .int .i64 0] ?_; intro gb215 hg w43 hbox hb; have BK215 := Aside0.mk (hbox); have GW215 := gee_ hg HB; have GE215 := gee_ hg HB; have NB212_215 := neL_ hg BK212; have NB215_212 := neR_ hg BK212; have NB213_215 := neL_ hg BK213; have NB215_213 := neR_ hg BK213; replace BK212 := blkB_ BK212 hb; replace BK213 := blkB_ BK213 hb; replace HB := belB_ HB hb; clear hb hbox hg; have hnb44 := NB215_212.out; have hnc44 := NB212_215.out; have hnb45 := NB215_213.out; have hnc45 := NB213_215.out; have hz_ := blk2_ BK215.out; have hnb47 := NB213_212.out; have hnc47 := NB212_213.out; have hz_ := blk9_ BK213.out; have p216 := dz_ (x52_2 : Int); have q216 := dl_ x52_2 (l1_5.length : Int); obtain ⟨ad216, e216, hx216_0, hx216_1⟩ := at_T54 HR1_5.out x52_2 p216 q216; cases e216; have hn216_0 : ad216.block ≠ gb215 := Nat.ne_of_lt (Nat.lt_of_lt_of_le (by have := World.block_lt_of_cell? _ _ hx216_0; first | rwa [add_block] at this | exact this) GW215.out); have hn216_1 : ad216.block ≠ gb215 := Nat.ne_of_lt (Nat.lt_of_lt_of_le (by have := World.block_lt_of_cell? _ _ hx216_0; first | rwa [add_block] at this | exact this) GW215.out); replace hx216_0 := pw_cell_below HB.out hx216_0; replace hx216_1 := pw_cell_below HB.out hx216_1; replace hx216_0 := (cell_far (p := ⟨gb215, 0, none⟩) (by first | (rw [add_block]; exact hn216_0) | (show (Addr.add _ _).block ≠ _; rw [add_block]; exact hn216_0) | exact hn216_0) (.int .i64 ((rd_T54 l0_5 x52_2).f0))).trans hx216_0; replace hx216_1 := (cell_far (p := ⟨gb215, 0, none⟩) (by first | (rw [add_block]; exact hn216_0) | (show (Addr.add _ _).block ≠ _; rw [add_block]; exact hn216_0) | exact hn216_0) (.int .i64 ((rd_T54 l0_5 x52_2).f0))).trans hx216_1; replace hx216_0 := (cell_far (p := ⟨gb215, 1, none⟩) (by first | (rw [add_block]; exact hn216_1) | (show (Addr.add _ _).block ≠ _; rw [add_block]; exact hn216_1) | exact hn216_1) (.int .i64 ((rd_T54 l0_5 x52_2).f1))).trans hx216_0; replace hx216_1 := (cell_far (p := ⟨gb215, 1, none⟩) (by first | (rw [add_block]; exact hn216_1) | (show (Addr.add _ _).block ≠ _; rw [add_block]; exact hn216_1) | exact hn216_1) (.int .i64 ((rd_T54 l0_5 x52_2).f1))).trans hx216_1; (try have hy216_0 := fun (n_ : Nat) => (show ((((w43.drewN n_).setCell ⟨gb215, 0, none⟩ (.int .i64 ((rd_T54 l0_5 x52_2).f0))).setCell ⟨gb215, 1, none⟩ (.int .i64 ((rd_T54 l0_5 x52_2).f1)))).cell? _ = some _ from hx216_0)); (try have hy216_1 := fun (n_ : Nat) => (show ((((w43.drewN n_).setCell ⟨gb215, 0, none⟩ (.int .i64 ((rd_T54 l0_5 x52_2).f0))).setCell ⟨gb215, 1, none⟩ (.int .i64 ((rd_T54 l0_5 x52_2).f1)))).cell? _ = some _ from hx216_1)); clear hn216_0; clear hn216_1; replace p216 := eq_true p216; replace q216 := eq_true q216))
           repeat (go_quiet (first | ((with_reducible refine gate_dst (N := 6) rfl ?_); (try (refine gate_guard (by rfl) ?_; dsimp only)); refine bxE_ 6 54 #[.int .i64 0, .int .i64 0] ?_; intro gb215 hg w43 hbox hb; have BK215 := Aside0.mk (hbox); have GW215 := gee_ hg HB; have GE215 := gee_ hg HB; have NB212_215 := neL_ hg BK212; have NB215_212 := neR_ hg BK212; have NB213_215 := neL_ hg BK213; have NB215_213 := neR_ hg BK213; replace BK212 := blkB_ BK212 hb; replace BK213 := blkB_ BK213 hb; replace HB := belB_ HB hb; clear hb hbox hg; have hnb44 := NB215_212.out; have hnc44 := NB212_215.out; have hnb45 := NB215_213.out; have hnc45 := NB213_215.out; have hz_ := blk2_ BK215.out; have hnb47 := NB213_212.out; have hnc47 := NB212_213.out; have hz_ := blk9_ BK213.out; have p216 := dz_ (x52_2 : Int); have q216 := dl_ x52_2 (l1_5.length : Int); obtain ⟨ad216, e216, hx216_0, hx216_1⟩ := at_T54 HR1_5.out x52_2 p216 q216; cases e216; have hn216_0 : ad216.block ≠ gb215 := Nat.ne_of_lt (Nat.lt_of_lt_of_le (by have := World.block_lt_of_cell? _ _ hx216_0; first | rwa [add_block] at this | exact this) GW215.out); have hn216_1 : ad216.block ≠ gb215 := Nat.ne_of_lt (Nat.lt_of_lt_of_le (by have := World.block_lt_of_cell? _ _ hx216_0; first | rwa [add_block] at this | exact this) GW215.out); replace hx216_0 := pw_cell_below HB.out hx216_0; replace hx216_1 := pw_cell_below HB.out hx216_1; replace hx216_0 := (cell_far (p := ⟨gb215, 0, none⟩) (by first | (rw [add_block]; exact hn216_0) | (show (Addr.add _ _).block ≠ _; rw [add_block]; exact hn216_0) | exact hn216_0) (.int .i64 ((rd_T54 l0_5 x52_2).f0))).trans hx216_0; replace hx216_1 := (cell_far (p := ⟨gb215, 0, none⟩) (by first | (rw [add_block]; exact hn216_0) | (show (Addr.add _ _).block ≠ _; rw [add_block]; exact hn216_0) | exact hn216_0) (.int .i64 ((rd_T54 l0_5 x52_2).f0))).trans hx216_1; replace hx216_0 := (cell_far (p := ⟨gb215, 1, none⟩) (by first | (rw [add_block]; exact hn216_1) | (show (Addr.add _ _).block ≠ _; rw [add_block]; exact hn216_1) | exact hn216_1) (.int .i64 ((rd_T54 l0_5 x52_2).f1))).trans hx216_0; replace hx216_1 := (cell_far (p := ⟨gb215, 1, none⟩) (by first | (rw [add_block]; exact hn216_1) | (show (Addr.add _ _).block ≠ _; rw [add_block]; exact hn216_1) | exact hn216_1) (.int .i64 ((rd_T54 l0_5 x52_2).f1))).trans hx216_1; (try have hy216_0 := fun (n_ : Nat) => (show ((((w43.drewN n_).setCell ⟨gb215, 0, none⟩ (.int .i64 ((rd_T54 l0_5 x52_2).f0))).setCell ⟨gb215, 1, none⟩ (.int .i64 ((rd_T54 l0_5 x52_2).f1)))).cell? _ = some _ from hx216_0)); (try have hy216_1 := fun (n_ : Nat) => (show ((((w43.drewN n_).setCell ⟨gb215, 0, none⟩ (.int .i64 ((rd_T54 l0_5 x52_2).f0))).setCell ⟨gb215, 1, none⟩ (.int .i64 ((rd_T54 l0_5 x52_2).f1)))).cell? _ = some _ from hx216_1)); clear hn216_0; clear hn216_1; replace p216 := eq_true p216; replace q216 := eq_true q216)); try go_wp2_with (first | ((with_reducible refine gate_dst (N := 6) rfl ?_); (try (refine gate_guard (by rfl) ?_; dsimp only)); refine bxE_ 6 54 #[.int .i64 0, .int .i64 0] ?_; intro gb215 hg w43 hbox hb; have BK215 := Aside0.mk (hbox); have GW215 := gee_ hg HB; have GE215 := gee_ hg HB; have NB212_215 := neL_ hg BK212; have NB215_212 := neR_ hg BK212; have NB213_215 := neL_ hg BK213; have NB215_213 := neR_ hg BK213; replace BK212 := blkB_ BK212 hb; replace BK213 := blkB_ BK213 hb; replace HB := belB_ HB hb; clear hb hbox hg; have hnb44 := NB215_212.out; have hnc44 := NB212_215.out; have hnb45 := NB215_213.out; have hnc45 := NB213_215.out; have hz_ := blk2_ BK215.out; have hnb47 := NB213_212.out; have hnc47 := NB212_213.out; have hz_ := blk9_ BK213.out; have p216 := dz_ (x52_2 : Int); have q216 := dl_ x52_2 (l1_5.length : Int); obtain ⟨ad216, e216, hx216_0, hx216_1⟩ := at_T54 HR1_5.out x52_2 p216 q216; cases e216; have hn216_0 : ad216.block ≠ gb215 := Nat.ne_of_lt (Nat.lt_of_lt_of_le (by have := World.block_lt_of_cell? _ _ hx216_0; first | rwa [add_block] at this | exact this) GW215.out); have hn216_1 : ad216.block ≠ gb215 := Nat.ne_of_lt (Nat.lt_of_lt_of_le (by have := World.block_lt_of_cell? _ _ hx216_0; first | rwa [add_block] at this | exact this) GW215.out); replace hx216_0 := pw_cell_below HB.out hx216_0; replace hx216_1 := pw_cell_below HB.out hx216_1; replace hx216_0 := (cell_far (p := ⟨gb215, 0, none⟩) (by first | (rw [add_block]; exact hn216_0) | (show (Addr.add _ _).block ≠ _; rw [add_block]; exact hn216_0) | exact hn216_0) (.int .i64 ((rd_T54 l0_5 x52_2).f0))).trans hx216_0; replace hx216_1 := (cell_far (p := ⟨gb215, 0, none⟩) (by first | (rw [add_block]; exact hn216_0) | (show (Addr.add _ _).block ≠ _; rw [add_block]; exact hn216_0) | exact hn216_0) (.int .i64 ((rd_T54 l0_5 x52_2).f0))).trans hx216_1; replace hx216_0 := (cell_far (p := ⟨gb215, 1, none⟩) (by first | (rw [add_block]; exact hn216_1) | (show (Addr.add _ _).block ≠ _; rw [add_block]; exact hn216_1) | exact hn216_1) (.int .i64 ((rd_T54 l0_5 x52_2).f1))).trans hx216_0; replace hx216_1 := (cell_far (p := ⟨gb215, 1, none⟩) (by first | (rw [add_block]; exact hn216_1) | (show (Addr.add _ _).block ≠ _; rw [add_block]; exact hn216_1) | exact hn216_1) (.int .i64 ((rd_T54 l0_5 x52_2).f1))).trans hx216_1; (try have hy216_0 := fun (n_ : Nat) => (show ((((w43.drewN n_).setCell ⟨gb215, 0, none⟩ (.int .i64 ((rd_T54 l0_5 x52_2).f0))).setCell ⟨gb215, 1, none⟩ (.int .i64 ((rd_T54 l0_5 x52_2).f1)))).cell? _ = some _ from hx216_0)); (try have hy216_1 := fun (n_ : Nat) => (show ((((w43.drewN n_).setCell ⟨gb215, 0, none⟩ (.int .i64 ((rd_T54 l0_5 x52_2).f0))).setCell ⟨gb215, 1, none⟩ (.int .i64 ((rd_T54 l0_5 x52_2).f1)))).cell? _ = some _ from hx216_1)); clear hn216_0; clear hn216_1; replace p216 := eq_true p216; replace q216 := eq_true q216)))
           go_roundg k2
           case measure => have := HJ2.out; have := HK2.out; omega
           case rel => exact ⟨(wrap64 (x52_2 + 1)), ok_, H', ⟨by have := HJ2.out; have := HK2.out; omega⟩, ⟨by (with_reducible repeat (first | refine blk_drewN ?_ _ | refine blk_drew ?_ | refine blk_alloc ?_ _)); refine blk_far ?_ NB212_215.out _; (with_reducible repeat (first | refine blk_drewN ?_ _ | refine blk_drew ?_ | refine blk_alloc ?_ _)); refine blk_far ?_ NB212_215.out _; (with_reducible repeat (first | refine blk_drewN ?_ _ | refine blk_drew ?_ | refine blk_alloc ?_ _)); exact BK212.out⟩, ⟨by (with_reducible repeat (first | refine blk_drewN ?_ _ | refine blk_drew ?_ | refine blk_alloc ?_ _)); refine blk_far ?_ NB213_215.out _; (with_reducible repeat (first | refine blk_drewN ?_ _ | refine blk_drew ?_ | refine blk_alloc ?_ _)); refine blk_far ?_ NB213_215.out _; (with_reducible repeat (first | refine blk_drewN ?_ _ | refine blk_drew ?_ | refine blk_alloc ?_ _)); exact BK213.out⟩, ⟨belW_ HB⟩⟩
         ·rw [if_neg c35] at H
          exact absurd H (by simp)
        ·rw [if_neg c34] at H
         exact absurd H (by simp)
       ·rw [if_neg c33] at H
        exact absurd H (by simp)
      ·rw [if_neg c32] at H
       have c32b0 := decide_eq_false c32
       clear c32
       obtain rfl := Option.some.inj H
       go_wp2
       repeat (go_quiet (fail); try go_wp2)
       go_ret
       exact ⟨rs_, belW_ HB⟩

end Go.Proofs.YtjnicgfkogfifaaDoor.PAll
