/- XformBrings_card, part 34. -/
import Derived.Test.YtloccjkcmlkifaaDoorQBr19
import Derived.Test.YtloccjkcmlkifaaDoorQBr20
import Derived.Test.YtloccjkcmlkifaaDoorQBr31
import Derived.Test.YtloccjkcmlkifaaDoorQBr32
import Derived.Test.YtloccjkcmlkifaaDoorQBr33

namespace Go.Proofs.YtloccjkcmlkifaaDoor.PAll
open Go.RowKit Go.Proofs.YtloccjkcmlkifaaDoorW.PrintWords Go.Proofs.YtloccjkcmlkifaaDoorW.PrintLast Go.Proofs.YtloccjkcmlkifaaDoorW.PrintMore
attribute [local go_sem] max2_int min2_int max_two min_two max_three min_three max_four min_four   -- for this text's walks alone
set_option linter.unusedVariables false
set_option linter.unusedSimpArgs false

attribute [local go_sem high] idx34_0 idx34_1 idx35_0 idx35_1
mutual
def redraftref02_Places.l0 : Nat → List (S94) → List Int → List Int → Int → Option ((List (S94)))
 | 0, _, _, _, _ => none
 | k + 1, x0, x3, x4, x5 => if x5 < (x0.length : Int) then (if 0 ≤ x5 then (if x3.length < 17592186044416 then (if x4.length < 17592186044416 then (redraftref02_Places.l0 k x0 (x3 ++ [(rd_T94 x0 x5).f0]) (x4 ++ [(rd_T94 x0 x5).f1]) (wrap64 (x5 + 1))) else (none)) else (none)) else (none)) else ((redraftref02_Sorted.f k x3).bind fun t409 => ((redraftref02_Sorted.f k x4).bind fun t412 => (if ([] : List Int).length + t409.length < 17592186044416 then ((some (([] : List Int) ++ t409 : List Int)).bind fun y415 => (if y415.length + t412.length < 17592186044416 then ((redraftref02_Sorted.f k (y415 ++ t412)).bind fun t421 => (if 0 ≤ (t421.length : Int) then (if ((t421.length : Int) : Int).toNat ≤ 281474976710656 then (redraftref02_Places.l1 k t409 t412 t421 (List.replicate ((t421.length : Int) : Int).toNat false) 0) else (none)) else (none))) else (none))) else (none))))
def redraftref02_Places.l1 : Nat → List Int → List Int → List Int → List Bool → Int → Option ((List (S94)))
 | 0, _, _, _, _, _ => none
 | k + 1, x3, x4, x6, x7, x8 => if x8 < (x6.length : Int) then (if 0 ≤ x8 then ((redraftref02_upTo.f k x3 (rd x6 x8)).bind fun t428 => ((redraftref02_upTo.f k x4 (rd x6 x8)).bind fun t430 => (if x8 < (x7.length : Int) then (redraftref02_Places.l1 k x3 x4 x6 (x7.set (x8 : Int).toNat (decide (t428 > t430))) (wrap64 (x8 + 1))) else (none)))) else (none)) else ((redraftref02_joined.f k x6 x7).bind fun t432 => (some t432))
end
def redraftref02_Places.f (k : Nat) (l0 : List (S94)) : Option ((List (S94))) := redraftref02_Places.l0 k l0 ([] : List Int) ([] : List Int) 0
set_option maxHeartbeats 8000000 in
set_option maxRecDepth 100000 in
theorem redraftref02_Places.calls (k : Nat) (A0 : Option Addr) (c0 : Nat) (l0 : List (S94)) (r : List (S94)) (w : World) (hr0 : Kd.C k94 w A0 l0.length l0) (hc0 : l0.length ≤ c0) (h : redraftref02_Places.f k l0 = some r) :
 Calls Tryd.prog 118 #[.slice A0 l0.length c0] w fun e w' => ∃ v0_ : Value, e = .returned (v0_) ∧ Kd.R k94 94 w' w.heap.size (fun _ => True) v0_ r ∧ Below w.heap.size w w' := by
 have HR0 := Aside0.mk hr0
 have HC0 := Aside0.mk hc0
 clear hr0 hc0
 have HB := Aside0.mk (Below.refl w.heap.size w)
 have H : (redraftref02_Places.l0 k l0 ([] : List Int) ([] : List Int) 0) = some r := h
 clear h
 have H' := Aside0.mk H
 clear H
 go_enter Tryd.func118, Tryd.ntmps118
 go_wp2
 go_loopg [3, 4, 5] k (fun kq v3 v4 v5 w' => ∃ (x3_1 : List Int) (x4_1 : List Int) (x5_1 : Int), v5 = .int .i64 x5_1 ∧ Aside0 (redraftref02_Places.l0 kq l0 x3_1 x4_1 x5_1 = some r) ∧ Aside0 (kq ≤ k) ∧ Aside0 (Kd.R (Kd.int .i64) 3 w' w.heap.size (fun k_ => some k_ ≠ (v4 : Value).ownBlock) v3 x3_1) ∧ Aside0 (Kd.R (Kd.int .i64) 3 w' w.heap.size (fun k_ => some k_ ≠ (v3 : Value).ownBlock) v4 x4_1) ∧ Aside0 (Below w.heap.size w w'))
 case atStart => exact ⟨(([] : List Int)), (([] : List Int)), (0), ok_, H', ⟨Nat.le_refl _⟩, ⟨nl_⟩, ⟨nl_⟩, ⟨belW_ HB⟩⟩
 case round =>
  clear H'
  try clear c1
  obtain ⟨x3_1, x4_1, x5_1, rfl, HA, HK1, HO_3, HO_4, HB⟩ := hrel
  cases gk with
  | zero => exact absurd HA.out (by simp [redraftref02_Places.l0])
  | succ k1 =>
   have H := HA.out
   clear HA
   simp only [redraftref02_Places.l0] at H
   by_cases c2 : x5_1 < (l0.length : Int)
   ·rw [if_pos c2] at H
    have c2b0 := decide_eq_true c2
    clear c2
    by_cases c3 : 0 ≤ x5_1
    ·rw [if_pos c3] at H
     have c3b0 := decide_eq_true c3
     clear c3
     by_cases c4 : x3_1.length < 17592186044416
     ·rw [if_pos c4] at H
      have LMc4 := Aside0.mk c4
      clear c4
      obtain ⟨y402, hy402⟩ : ∃ y_ : List Int, y_ = (x3_1 ++ [(rd_T94 l0 x5_1).f0]) := ⟨_, rfl⟩
      replace H : (if x4_1.length < 17592186044416 then (redraftref02_Places.l0 k1 l0 y402 (x4_1 ++ [(rd_T94 l0 x5_1).f1]) (wrap64 (x5_1 + 1))) else (none)) = some r := by first | (rw [hy402]; with_reducible exact H) | (have H2_ := (Option.bind_some _ _).symm.trans H; rw [hy402]; with_reducible exact H2_) | (have H2_ := (Option.bind_some _ _).symm.trans H; with_reducible exact H2_) | with_reducible exact H | (rw [hy402]; exact H) | exact H
      have Ny402 := Aside0.mk hy402
      clear hy402
      by_cases c5 : x4_1.length < 17592186044416
      ·rw [if_pos c5] at H
       have LMc5 := Aside0.mk c5
       clear c5
       obtain ⟨y406, hy406⟩ : ∃ y_ : List Int, y_ = (x4_1 ++ [(rd_T94 l0 x5_1).f1]) := ⟨_, rfl⟩
       replace H : (redraftref02_Places.l0 k1 l0 y402 y406 (wrap64 (x5_1 + 1))) = some r := by first | (rw [hy406]; with_reducible exact H) | (have H2_ := (Option.bind_some _ _).symm.trans H; rw [hy406]; with_reducible exact H2_) | (have H2_ := (Option.bind_some _ _).symm.trans H; with_reducible exact H2_) | with_reducible exact H | (rw [hy406]; exact H) | exact H
       have Ny406 := Aside0.mk hy406
       clear hy406
       have H' := Aside0.mk H
       clear H
       have p401 := dz_ (x5_1 : Int)
       have q401 := dl_ x5_1 (l0.length : Int)
       obtain ⟨ad401, e401, hx401_0, hx401_1⟩ := at_T94 HR0.out x5_1 p401 q401
       cases e401
       replace hx401_0 := pw_cell_below HB.out hx401_0
       replace hx401_1 := pw_cell_below HB.out hx401_1
       replace p401 := eq_true p401
       replace q401 := eq_true q401
       go_wp2_with (first | ((with_reducible refine gate_builtin (b := .append) (xs := #[.tmp 17, .tmp 23]) rfl ?_); at_builtin; refine Kd.R_append (Kd.int .i64) (w0 := w) w.heap.size rfl (.tmp 17) (.tmp 23) 23 3 (.int .i64 0) 8 rfl Tryd.underlying23 info3 rfl (by decide) (by omega) u3 x3_1 ((rd_T94 l0 x5_1).f0) [.int .i64 ((rd_T94 l0 x5_1).f0)] (fun k_ => some k_ ≠ (u4 : Value).ownBlock) (fun _ => False) rfl rfl ?aP (fun _ hk => hk.elim) ?aF ?aO ?aB ?aS ?aL ?_; (case aP => exact rfl); (case aB => exact (belW_ HB)); (case aF => exact (fun k_ hk => Kd.fresh' (Kd.R_lt (RW_ <| HO_4.out)) k_ hk)); (case aO => exact (RW_ <| HO_3.out)); (case aS => exact (below_size (belW_ HB))); (case aL => have := LMc4.out; omega); intro v403 w6 ho hb hg hat; rw [← Ny402.out] at ho; have HO404 := Aside0.mk (ho); replace HO_4 := Aside0.mk (Kd.R_after (ok := (fun _ => True)) (RW_ <| Kd.R_mono HO_4.out (fun _ hk => ⟨trivial, hk⟩)) hg hat); replace HB := Aside0.mk (hb); clear HO_3; clear ho hb hg hat; have p405 := dz_ (x5_1 : Int); have q405 := dl_ x5_1 (l0.length : Int); obtain ⟨ad405, e405, hx405_0, hx405_1⟩ := at_T94 HR0.out x5_1 p405 q405; obtain rfl : ad401 = ad405 := (by injection e405); replace hx405_0 := pw_cell_below HB.out hx405_0; replace hx405_1 := pw_cell_below HB.out hx405_1; replace p405 := eq_true p405; replace q405 := eq_true q405) | ((with_reducible refine gate_builtin (b := .append) (xs := #[.tmp 25, .tmp 31]) rfl ?_); at_builtin; refine Kd.R_append (Kd.int .i64) (w0 := w) w.heap.size rfl (.tmp 25) (.tmp 31) 23 3 (.int .i64 0) 8 rfl Tryd.underlying23 info3 rfl (by decide) (by omega) u4 x4_1 ((rd_T94 l0 x5_1).f1) [.int .i64 ((rd_T94 l0 x5_1).f1)] (fun k_ => some k_ ≠ (v403 : Value).ownBlock) (fun _ => False) rfl rfl ?aP (fun _ hk => hk.elim) ?aF ?aO ?aB ?aS ?aL ?_; (case aP => exact rfl); (case aB => exact (belW_ HB)); (case aF => exact (fun k_ hk => Kd.fresh' (Kd.R_lt (RW_ <| HO404.out)) k_ hk)); (case aO => exact (RW_ <| Kd.R_mono HO_4.out (fun _ hk => hk.2))); (case aS => exact (below_size (belW_ HB))); (case aL => have := LMc5.out; omega); intro v407 w7 ho hb hg hat; rw [← Ny406.out] at ho; have HO408 := Aside0.mk (ho); replace HO404 := Aside0.mk (Kd.R_after (ok := (fun _ => True)) (RW_ <| Kd.R_mono HO404.out (fun _ hk => ⟨trivial, hk⟩)) hg hat); replace HB := Aside0.mk (hb); clear HO_4; clear ho hb hg hat))
       go_roundg k1
       case measure => have := HK1.out; omega
       case rel => exact ⟨(y402), (y406), (wrap64 (x5_1 + 1)), ok_, H', ⟨lk_ HK1⟩, ⟨RW_ <| Kd.R_mono HO404.out (fun _ hk => hk.2)⟩, ⟨RW_ <| HO408.out⟩, ⟨belW_ HB⟩⟩
      ·rw [if_neg c5] at H
       exact absurd H (by simp)
     ·rw [if_neg c4] at H
      exact absurd H (by simp)
    ·rw [if_neg c3] at H
     exact absurd H (by simp)
   ·rw [if_neg c2] at H
    have c2b0 := decide_eq_false c2
    clear c2
    replace H := Option.bind_eq_some_iff.mp H
    obtain ⟨t409, A80, H⟩ := H
    try dsimp only at H
    have A8 := Aside0.mk A80
    clear A80
    replace H := Option.bind_eq_some_iff.mp H
    obtain ⟨t412, A90, H⟩ := H
    try dsimp only at H
    have A9 := Aside0.mk A90
    clear A90
    by_cases c10 : ([] : List Int).length + t409.length < 17592186044416
    ·rw [if_pos c10] at H
     have LMc10 := Aside0.mk c10
     clear c10
     obtain ⟨y415, hy415⟩ : ∃ y_ : List Int, y_ = (([] : List Int) ++ t409) := ⟨_, rfl⟩
     replace H : (if y415.length + t412.length < 17592186044416 then ((redraftref02_Sorted.f k1 (y415 ++ t412)).bind fun t421 => (if 0 ≤ (t421.length : Int) then (if ((t421.length : Int) : Int).toNat ≤ 281474976710656 then (redraftref02_Places.l1 k1 t409 t412 t421 (List.replicate ((t421.length : Int) : Int).toNat false) 0) else (none)) else (none))) else (none)) = some r := by first | (rw [hy415]; with_reducible exact H) | (have H2_ := (Option.bind_some _ _).symm.trans H; rw [hy415]; with_reducible exact H2_) | (have H2_ := (Option.bind_some _ _).symm.trans H; with_reducible exact H2_) | with_reducible exact H | (rw [hy415]; exact H) | exact H
     have Ny415 := Aside0.mk hy415
     clear hy415
     by_cases c11 : y415.length + t412.length < 17592186044416
     ·rw [if_pos c11] at H
      have LMc11 := Aside0.mk c11
      clear c11
      obtain ⟨y418, hy418⟩ : ∃ y_ : List Int, y_ = (y415 ++ t412) := ⟨_, rfl⟩
      replace H : ((redraftref02_Sorted.f k1 y418).bind fun t421 => (if 0 ≤ (t421.length : Int) then (if ((t421.length : Int) : Int).toNat ≤ 281474976710656 then (redraftref02_Places.l1 k1 t409 t412 t421 (List.replicate ((t421.length : Int) : Int).toNat false) 0) else (none)) else (none))) = some r := by first | (rw [hy418]; with_reducible exact H) | (have H2_ := (Option.bind_some _ _).symm.trans H; rw [hy418]; with_reducible exact H2_) | (have H2_ := (Option.bind_some _ _).symm.trans H; with_reducible exact H2_) | with_reducible exact H | (rw [hy418]; exact H) | exact H
      have Ny418 := Aside0.mk hy418
      clear hy418
      replace H := Option.bind_eq_some_iff.mp H
      obtain ⟨t421, A120, H⟩ := H
      try dsimp only at H
      have A12 := Aside0.mk A120
      clear A120
      by_cases c13 : 0 ≤ (t421.length : Int)
      ·rw [if_pos c13] at H
       have c13b0 := eq_true c13
       have c13b1 := decide_eq_true c13
       clear c13
       by_cases c14 : ((t421.length : Int) : Int).toNat ≤ 281474976710656
       ·rw [if_pos c14] at H
        have c14b0 := eq_true c14
        have c14b1 := decide_eq_true c14
        clear c14
        obtain ⟨y424, hy424⟩ : ∃ y_ : List Bool, y_ = (List.replicate ((t421.length : Int) : Int).toNat false) := ⟨_, rfl⟩
        replace H : (redraftref02_Places.l1 k1 t409 t412 t421 y424 0) = some r := by first | (rw [hy424]; with_reducible exact H) | (have H2_ := (Option.bind_some _ _).symm.trans H; rw [hy424]; with_reducible exact H2_) | (have H2_ := (Option.bind_some _ _).symm.trans H; with_reducible exact H2_) | with_reducible exact H | (rw [hy424]; exact H) | exact H
        have Ny424 := Aside0.mk hy424
        clear hy424
        have H' := Aside0.mk H
        clear H
        obtain ⟨Ao15, co15, eo15⟩ := Kd.R_slice HO_3.out
        subst eo15
        go_wp2_with (first | ((with_reducible refine gate_callee (f := 125) rfl ?_); refine goS_ 34 rfl Tryd.func125 #[.slice Ao15 x3_1.length co15] ?_; (with_reducible refine (redraftref02_Sorted.calls k1 _ _ x3_1 t409 _ ?side1 ?side2 A8.out).mono ?_); (case side1 => exact CW_ ((Kd.R_reads' HO_3.out).2.2)); (case side2 => exact (Kd.R_reads' HO_3.out).2.1); rintro e w16 ⟨v410, rfl, ho0, hb⟩; refine ⟨_, rfl, ?_⟩; have HO411 := Aside0.mk (Kd.R_lower (Kd.R_new' (Kd.R_new' ho0 (Kd.R_lt (RW_ <| HO_3.out))) (Kd.R_lt (RW_ <| HO_4.out))) (below_size (belW_ HB))); replace HO_3 := Aside0.mk (Kd.R_elder' (RW_ <| HO_3.out) (Kd.R_base ho0) hb); replace HO_4 := Aside0.mk (Kd.R_elder' (RW_ <| HO_4.out) (Kd.R_base ho0) hb); replace HB := belB_ HB hb; try clear hb; (try clear ho0); obtain ⟨Ao17, co17, eo17⟩ := Kd.R_slice HO_4.out; subst eo17) | ((with_reducible refine gate_callee (f := 125) rfl ?_); refine goS_ 36 rfl Tryd.func125 #[.slice Ao17 x4_1.length co17] ?_; (with_reducible refine (redraftref02_Sorted.calls k1 _ _ x4_1 t412 _ ?side1 ?side2 A9.out).mono ?_); (case side1 => exact CW_ ((Kd.R_reads' HO_4.out).2.2)); (case side2 => exact (Kd.R_reads' HO_4.out).2.1); rintro e w18 ⟨v413, rfl, ho0, hb⟩; refine ⟨_, rfl, ?_⟩; have HO414 := Aside0.mk (Kd.R_lower (Kd.R_new' (Kd.R_new' (Kd.R_new' ho0 (Kd.R_lt (RW_ <| HO_3.out))) (Kd.R_lt (RW_ <| HO_4.out))) (Kd.R_lt (RW_ <| HO411.out))) (below_size (belW_ HB))); replace HO_3 := Aside0.mk (Kd.R_elder' (RW_ <| HO_3.out) (Kd.R_base ho0) hb); replace HO_4 := Aside0.mk (Kd.R_elder' (RW_ <| HO_4.out) (Kd.R_base ho0) hb); replace HO411 := Aside0.mk (Kd.R_elder' (RW_ <| HO411.out) (Kd.R_base ho0) hb); replace HB := belB_ HB hb; try clear hb; (try clear ho0); obtain ⟨Ao20, co20, eo20⟩ := Kd.R_slice HO411.out; subst eo20) | ((with_reducible refine gate_builtin (b := .append) (xs := #[.const (.slice none 0 0), .tmp 37]) rfl ?_); at_builtin; refine Kd.R_append_rows (Kd.int .i64) (w0 := w) w.heap.size rfl (.const (.slice none 0 0)) (.tmp 37) 23 3 (.int .i64 0) 8 rfl Tryd.underlying23 info3 rfl (by decide) (by omega) (.slice none 0 0) ([] : List Int) t409 _ _ _ (fun k_ => some k_ ≠ (.slice Ao15 x3_1.length co15 : Value).ownBlock ∧ some k_ ≠ (.slice Ao17 x4_1.length co17 : Value).ownBlock ∧ some k_ ≠ (.slice Ao20 t409.length co20 : Value).ownBlock ∧ some k_ ≠ (v413 : Value).ownBlock) (fun _ => False) rfl rfl ?aO ?aR (fun _ _ h => h) (fun _ h => h.elim) ?aF ?aB ?aS ?aL ?_; (case aR => exact CW_ ((Kd.R_reads' HO411.out).2.2)); (case aB => exact (belW_ HB)); (case aF => exact (fun k_ hk => ⟨Kd.fresh' (Kd.R_lt (RW_ <| HO_3.out)) k_ hk, Kd.fresh' (Kd.R_lt (RW_ <| HO_4.out)) k_ hk, Kd.fresh' (Kd.R_lt (RW_ <| HO411.out)) k_ hk, Kd.fresh' (Kd.R_lt (RW_ <| HO414.out)) k_ hk⟩)); (case aO => exact ((Kd.R_nil _ _ _ _ (fun k_ => some k_ ≠ (.slice Ao15 x3_1.length co15 : Value).ownBlock ∧ some k_ ≠ (.slice Ao17 x4_1.length co17 : Value).ownBlock ∧ some k_ ≠ (.slice Ao20 t409.length co20 : Value).ownBlock ∧ some k_ ≠ (v413 : Value).ownBlock)))); (case aS => exact (below_size (belW_ HB))); (case aL => have := LMc10.out; omega); intro v416 w19 ho hb hg hat; rw [← Ny415.out] at ho; have HO417 := Aside0.mk (ho); replace HO_3 := Aside0.mk (Kd.R_after (Kd.R_apart_nil (RW_ <| HO_3.out)) hg hat); replace HO_4 := Aside0.mk (Kd.R_after (Kd.R_apart_nil (RW_ <| HO_4.out)) hg hat); replace HO411 := Aside0.mk (Kd.R_after (Kd.R_apart_nil (RW_ <| HO411.out)) hg hat); replace HO414 := Aside0.mk (Kd.R_after (Kd.R_apart_nil (RW_ <| HO414.out)) hg hat); replace HB := Aside0.mk (hb); clear ho hb hg hat; obtain ⟨Ao22, co22, eo22⟩ := Kd.R_slice HO414.out; subst eo22) | ((with_reducible refine gate_builtin (b := .append) (xs := #[.tmp 38, .tmp 39]) rfl ?_); at_builtin; refine Kd.R_append_rows (Kd.int .i64) (w0 := w) w.heap.size rfl (.tmp 38) (.tmp 39) 23 3 (.int .i64 0) 8 rfl Tryd.underlying23 info3 rfl (by decide) (by omega) v416 y415 t412 _ _ _ (fun k_ => some k_ ≠ (.slice Ao15 x3_1.length co15 : Value).ownBlock ∧ some k_ ≠ (.slice Ao17 x4_1.length co17 : Value).ownBlock ∧ some k_ ≠ (.slice Ao20 t409.length co20 : Value).ownBlock ∧ some k_ ≠ (.slice Ao22 t412.length co22 : Value).ownBlock) (fun _ => False) rfl rfl ?aO ?aR (fun _ _ h => h) (fun _ h => h.elim) ?aF ?aB ?aS ?aL ?_; (case aR => exact CW_ ((Kd.R_reads' HO414.out).2.2)); (case aB => exact (belW_ HB)); (case aF => exact (fun k_ hk => ⟨Kd.fresh' (Kd.R_lt (RW_ <| HO_3.out)) k_ hk, Kd.fresh' (Kd.R_lt (RW_ <| HO_4.out)) k_ hk, Kd.fresh' (Kd.R_lt (RW_ <| HO411.out)) k_ hk, Kd.fresh' (Kd.R_lt (RW_ <| HO414.out)) k_ hk⟩)); (case aO => exact (RW_ <| HO417.out)); (case aS => exact (below_size (belW_ HB))); (case aL => have := LMc11.out; omega); intro v419 w21 ho hb hg hat; rw [← Ny418.out] at ho; have HO420 := Aside0.mk (ho); replace HO_3 := Aside0.mk (Kd.R_after (ok := (fun k_ => some k_ ≠ (.slice Ao17 x4_1.length co17 : Value).ownBlock ∧ some k_ ≠ (.slice Ao20 t409.length co20 : Value).ownBlock ∧ some k_ ≠ (.slice Ao22 t412.length co22 : Value).ownBlock)) (RW_ <| Kd.R_mono HO_3.out (fun _ hk => ⟨⟨hk.1.1.1, ⟨hk.1.1.2, hk.1.2⟩⟩, hk.2⟩)) hg hat); replace HO_4 := Aside0.mk (Kd.R_after (ok := (fun k_ => some k_ ≠ (.slice Ao15 x3_1.length co15 : Value).ownBlock ∧ some k_ ≠ (.slice Ao20 t409.length co20 : Value).ownBlock ∧ some k_ ≠ (.slice Ao22 t412.length co22 : Value).ownBlock)) (RW_ <| Kd.R_mono HO_4.out (fun _ hk => ⟨⟨hk.1.1.1, ⟨hk.1.1.2, hk.1.2⟩⟩, hk.2⟩)) hg hat); replace HO411 := Aside0.mk (Kd.R_after (ok := (fun k_ => some k_ ≠ (.slice Ao15 x3_1.length co15 : Value).ownBlock ∧ some k_ ≠ (.slice Ao17 x4_1.length co17 : Value).ownBlock ∧ some k_ ≠ (.slice Ao22 t412.length co22 : Value).ownBlock)) (RW_ <| Kd.R_mono HO411.out (fun _ hk => ⟨⟨hk.1.1.1.2, ⟨hk.1.1.2, hk.1.2⟩⟩, hk.2⟩)) hg hat); replace HO414 := Aside0.mk (Kd.R_after (ok := (fun k_ => some k_ ≠ (.slice Ao15 x3_1.length co15 : Value).ownBlock ∧ some k_ ≠ (.slice Ao17 x4_1.length co17 : Value).ownBlock ∧ some k_ ≠ (.slice Ao20 t409.length co20 : Value).ownBlock)) (RW_ <| Kd.R_mono HO414.out (fun _ hk => ⟨⟨hk.1.1.1.2, ⟨hk.1.1.2, hk.1.2⟩⟩, hk.2⟩)) hg hat); replace HB := Aside0.mk (hb); clear HO417; clear ho hb hg hat; obtain ⟨Ao23, co23, eo23⟩ := Kd.R_slice HO420.out; subst eo23) | ((with_reducible refine gate_callee (f := 125) rfl ?_); refine goS_ 41 rfl Tryd.func125 #[.slice Ao23 y418.length co23] ?_; (with_reducible refine (redraftref02_Sorted.calls k1 _ _ y418 t421 _ ?side1 ?side2 A12.out).mono ?_); (case side1 => exact CW_ ((Kd.R_reads' HO420.out).2.2)); (case side2 => exact (Kd.R_reads' HO420.out).2.1); rintro e w24 ⟨v422, rfl, ho0, hb⟩; refine ⟨_, rfl, ?_⟩; have HO423 := Aside0.mk (Kd.R_lower (Kd.R_new' (Kd.R_new' (Kd.R_new' (Kd.R_new' (Kd.R_new' ho0 (Kd.R_lt (RW_ <| HO_3.out))) (Kd.R_lt (RW_ <| HO_4.out))) (Kd.R_lt (RW_ <| HO411.out))) (Kd.R_lt (RW_ <| HO414.out))) (Kd.R_lt (RW_ <| HO420.out))) (below_size (belW_ HB))); replace HO_3 := Aside0.mk (Kd.R_elder' (RW_ <| HO_3.out) (Kd.R_base ho0) hb); replace HO_4 := Aside0.mk (Kd.R_elder' (RW_ <| HO_4.out) (Kd.R_base ho0) hb); replace HO411 := Aside0.mk (Kd.R_elder' (RW_ <| HO411.out) (Kd.R_base ho0) hb); replace HO414 := Aside0.mk (Kd.R_elder' (RW_ <| HO414.out) (Kd.R_base ho0) hb); replace HO420 := Aside0.mk (Kd.R_elder' (RW_ <| HO420.out) (Kd.R_base ho0) hb); replace HB := belB_ HB hb; try clear hb; (try clear ho0); obtain ⟨Ao25, co25, eo25⟩ := Kd.R_slice HO423.out; subst eo25) | ((with_reducible refine gate_dst (N := 44) rfl ?_); refine Kd.R_make Kd.bool _ 4 rfl (N := 44) rfl 109 _ _ rfl (t421.length : Int) rfl rfl Tryd.underlying109 (.bool false) 1 info4 rfl (by decide) (by omega) false (ok := fun _ => True) (okp := fun _ => True) rfl (fun _ hk => hk) trivial (of_decide_eq_true (by first | (with_reducible assumption) | assumption)) (Nat.le_trans (Nat.mul_le_mul_right _ (of_decide_eq_true (by first | (with_reducible assumption) | assumption) : (t421.length : Int).toNat ≤ 281474976710656)) (by omega)) (Below.refl _ _) (Nat.le_refl _) ?_; intro v425 w26 ho27 hb hg_ hnew_; clear hg_ hnew_; (first | rw [← Ny424.out] at ho27 | (simp only [Int.reduceToNat] at ho27; rw [← Ny424.out] at ho27)); have HO426 := Aside0.mk (Kd.R_lower ho27 (below_size (belW_ HB))); replace HO_3 := Aside0.mk (Kd.R_below (RW_ <| HO_3.out) hb); replace HO_4 := Aside0.mk (Kd.R_below (RW_ <| HO_4.out) hb); replace HO411 := Aside0.mk (Kd.R_below (RW_ <| HO411.out) hb); replace HO414 := Aside0.mk (Kd.R_below (RW_ <| HO414.out) hb); replace HO420 := Aside0.mk (Kd.R_below (RW_ <| HO420.out) hb); replace HO423 := Aside0.mk (Kd.R_below (RW_ <| HO423.out) hb); replace HB := belB_ HB hb; clear hb ho27))
        go_loopg [8] k1 (fun kq v8 w' => ∃ (x7_2 : List Bool) (x8_2 : Int), v8 = .int .i64 x8_2 ∧ Aside0 (redraftref02_Places.l1 kq t409 t412 t421 x7_2 x8_2 = some r) ∧ Aside0 (kq ≤ k1) ∧ Aside0 (Kd.R (Kd.int .i64) 3 w' w.heap.size (fun k_ => some k_ ≠ ((.slice Ao22 t412.length co22) : Value).ownBlock ∧ some k_ ≠ ((.slice Ao25 t421.length co25) : Value).ownBlock) (.slice Ao20 t409.length co20) t409) ∧ Aside0 (Kd.R (Kd.int .i64) 3 w' w.heap.size (fun k_ => some k_ ≠ ((.slice Ao20 t409.length co20) : Value).ownBlock ∧ some k_ ≠ ((.slice Ao25 t421.length co25) : Value).ownBlock) (.slice Ao22 t412.length co22) t412) ∧ Aside0 (Kd.R (Kd.int .i64) 3 w' w.heap.size (fun k_ => some k_ ≠ ((.slice Ao20 t409.length co20) : Value).ownBlock ∧ some k_ ≠ ((.slice Ao22 t412.length co22) : Value).ownBlock) (.slice Ao25 t421.length co25) t421) ∧ Aside0 (Kd.R Kd.bool 4 w' w.heap.size (fun _ => True) v425 x7_2) ∧ Aside0 (Below w.heap.size w w'))
        case atStart => exact ⟨(y424), (0), ok_, H', ⟨Nat.le_refl _⟩, ⟨RW_ <| Kd.R_mono HO411.out (fun _ hk => ⟨hk.1.1.2.2, hk.2⟩)⟩, ⟨RW_ <| Kd.R_mono HO414.out (fun _ hk => ⟨hk.1.1.2.2, hk.2⟩)⟩, ⟨RW_ <| Kd.R_mono HO423.out (fun _ hk => ⟨hk.1.1.2, hk.1.2⟩)⟩, ⟨RW_ <| HO426.out⟩, ⟨belW_ HB⟩⟩
        case round =>
         clear H'
         try clear c1
         try clear c2
         try clear c2b0
         try clear p2
         try clear c3
         try clear c3b0
         try clear c4
         try clear p4
         try clear q4
         try clear hx4
         try clear c5
         try clear p6
         try clear c10
         try clear c11
         try clear c12
         try clear c13
         try clear c13b0
         try clear c13b1
         try clear c14
         try clear c14b0
         try clear c14b1
         try clear hx401_0
         try clear hx401_1
         try clear hx405_0
         try clear hx405_1
         try clear p401
         try clear p405
         try clear q401
         try clear q405
         obtain ⟨x7_2, x8_2, rfl, HA, HK2, HO_3, HO_4, HO_6, HO_7, HB⟩ := hrel
         cases gk with
         | zero => exact absurd HA.out (by simp [redraftref02_Places.l1])
         | succ k2 =>
          have H := HA.out
          clear HA
          simp only [redraftref02_Places.l1] at H
          by_cases c28 : x8_2 < (t421.length : Int)
          ·rw [if_pos c28] at H
           have c28b0 := decide_eq_true c28
           clear c28
           by_cases c29 : 0 ≤ x8_2
           ·rw [if_pos c29] at H
            have c29b0 := decide_eq_true c29
            clear c29
            replace H := Option.bind_eq_some_iff.mp H
            obtain ⟨t428, A300, H⟩ := H
            try dsimp only at H
            have A30 := Aside0.mk A300
            clear A300
            replace H := Option.bind_eq_some_iff.mp H
            obtain ⟨t430, A310, H⟩ := H
            try dsimp only at H
            have A31 := Aside0.mk A310
            clear A310
            by_cases c32 : x8_2 < (x7_2.length : Int)
            ·rw [if_pos c32] at H
             have c32b0 := decide_eq_true c32
             clear c32
             obtain ⟨y431, hy431⟩ : ∃ y_ : List Bool, y_ = (x7_2.set (x8_2 : Int).toNat (decide (t428 > t430))) := ⟨_, rfl⟩
             replace H : (redraftref02_Places.l1 k2 t409 t412 t421 y431 (wrap64 (x8_2 + 1))) = some r := by first | (rw [hy431]; with_reducible exact H) | (have H2_ := (Option.bind_some _ _).symm.trans H; rw [hy431]; with_reducible exact H2_) | (have H2_ := (Option.bind_some _ _).symm.trans H; with_reducible exact H2_) | with_reducible exact H | (rw [hy431]; exact H) | exact H
             have Ny431 := Aside0.mk hy431
             clear hy431
             have H' := Aside0.mk H
             clear H
             have p427 := dz_ (x8_2 : Int)
             have q427 := dl_ x8_2 (t421.length : Int)
             obtain ⟨ad427, e427, hx427_0⟩ := Kd.at_int (Kd.R_reads' HO_6.out).2.2 x8_2 p427 q427
             cases e427
             replace p427 := eq_true p427
             replace q427 := eq_true q427
             go_wp2_with (first | ((with_reducible refine gate_callee (f := 126) rfl ?_); refine goS_ 56 rfl Tryd.func126 #[.slice Ao20 t409.length co20, .int .i64 (rd t421 x8_2)] ?_; (with_reducible refine (redraftref02_upTo.calls k2 _ _ t409 (rd t421 x8_2) t428 _ ?side1 ?side2 A30.out).mono ?_); (case side1 => exact CW_ ((Kd.R_reads' HO_3.out).2.2)); (case side2 => exact (Kd.R_reads' HO_3.out).2.1); rintro e w' ⟨rfl, ⟨nd, rfl⟩⟩; refine ⟨_, rfl, ?_⟩; (try (rw [drewN_self wr]; generalize hq_ : World.drewN wr _ = wr; have n0_ : Aside0 (Kd.R (Kd.int .i64) 3 wr w.heap.size (fun k_ => some k_ ≠ (.slice Ao22 t412.length co22 : Value).ownBlock ∧ some k_ ≠ (.slice (some ad427) t421.length co25 : Value).ownBlock) (.slice Ao20 t409.length co20) t409) := ⟨by rw [← hq_]; exact (RW_ <| HO_3.out)⟩; have n1_ : Aside0 (Kd.R (Kd.int .i64) 3 wr w.heap.size (fun k_ => some k_ ≠ (.slice Ao20 t409.length co20 : Value).ownBlock ∧ some k_ ≠ (.slice (some ad427) t421.length co25 : Value).ownBlock) (.slice Ao22 t412.length co22) t412) := ⟨by rw [← hq_]; exact (RW_ <| HO_4.out)⟩; have n2_ : Aside0 (Kd.R (Kd.int .i64) 3 wr w.heap.size (fun k_ => some k_ ≠ (.slice Ao20 t409.length co20 : Value).ownBlock ∧ some k_ ≠ (.slice Ao22 t412.length co22 : Value).ownBlock) (.slice (some ad427) t421.length co25) t421) := ⟨by rw [← hq_]; exact (RW_ <| HO_6.out)⟩; have n3_ : Aside0 (Kd.R Kd.bool 4 wr w.heap.size (fun _ => True) v425 x7_2) := ⟨by rw [← hq_]; exact (RW_ <| HO_7.out)⟩; have n4_ : Aside0 (Below w.heap.size w wr) := ⟨by rw [← hq_]; exact (belW_ HB)⟩; clear HO_3 HO_4 HO_6 HO_7 HB hq_; have HO_3 := n0_; have HO_4 := n1_; have HO_6 := n2_; have HO_7 := n3_; have HB := n4_; clear n0_ n1_ n2_ n3_ n4_)); have p429 := dz_ (x8_2 : Int); have q429 := dl_ x8_2 (t421.length : Int); obtain ⟨ad429, e429, hx429_0⟩ := Kd.at_int (Kd.R_reads' HO_6.out).2.2 x8_2 p429 q429; obtain rfl : ad427 = ad429 := (by injection e429); replace p429 := eq_true p429; replace q429 := eq_true q429) | ((with_reducible refine gate_callee (f := 126) rfl ?_); refine goS_ 62 rfl Tryd.func126 #[.slice Ao22 t412.length co22, .int .i64 (rd t421 x8_2)] ?_; (with_reducible refine (redraftref02_upTo.calls k2 _ _ t412 (rd t421 x8_2) t430 _ ?side1 ?side2 A31.out).mono ?_); (case side1 => exact CW_ ((Kd.R_reads' HO_4.out).2.2)); (case side2 => exact (Kd.R_reads' HO_4.out).2.1); rintro e w' ⟨rfl, ⟨nd, rfl⟩⟩; refine ⟨_, rfl, ?_⟩; (try (rw [drewN_self wr]; generalize hq_ : World.drewN wr _ = wr; have n0_ : Aside0 (Kd.R (Kd.int .i64) 3 wr w.heap.size (fun k_ => some k_ ≠ (.slice Ao22 t412.length co22 : Value).ownBlock ∧ some k_ ≠ (.slice (some ad427) t421.length co25 : Value).ownBlock) (.slice Ao20 t409.length co20) t409) := ⟨by rw [← hq_]; exact (RW_ <| HO_3.out)⟩; have n1_ : Aside0 (Kd.R (Kd.int .i64) 3 wr w.heap.size (fun k_ => some k_ ≠ (.slice Ao20 t409.length co20 : Value).ownBlock ∧ some k_ ≠ (.slice (some ad427) t421.length co25 : Value).ownBlock) (.slice Ao22 t412.length co22) t412) := ⟨by rw [← hq_]; exact (RW_ <| HO_4.out)⟩; have n2_ : Aside0 (Kd.R (Kd.int .i64) 3 wr w.heap.size (fun k_ => some k_ ≠ (.slice Ao20 t409.length co20 : Value).ownBlock ∧ some k_ ≠ (.slice Ao22 t412.length co22 : Value).ownBlock) (.slice (some ad427) t421.length co25) t421) := ⟨by rw [← hq_]; exact (RW_ <| HO_6.out)⟩; have n3_ : Aside0 (Kd.R Kd.bool 4 wr w.heap.size (fun _ => True) v425 x7_2) := ⟨by rw [← hq_]; exact (RW_ <| HO_7.out)⟩; have n4_ : Aside0 (Below w.heap.size w wr) := ⟨by rw [← hq_]; exact (belW_ HB)⟩; clear HO_3 HO_4 HO_6 HO_7 HB hq_; have HO_3 := n0_; have HO_4 := n1_; have HO_6 := n2_; have HO_7 := n3_; have HB := n4_; clear n0_ n1_ n2_ n3_ n4_)); have p33 := dz_ (x8_2 : Int); have q33 : (x8_2 : Int) < ((x7_2.length : Int) : Int) := of_decide_eq_true (by first | (with_reducible assumption) | assumption); obtain ⟨go33, co33, eo33, gb33, gl33, cl33, HG33⟩ := Kd.R_form HO_7.out (by omega); (first | cases eo33 | (injection eo33 with ea_ en_ ec_; (first | subst ea_ | (injection ea_ with ea_; subst ea_)); subst ec_; clear en_)); have GB33 := Aside0.mk gb33; have GG33 := Aside0.mk HG33; clear gb33 gl33 HG33; obtain ⟨hx33_0, hf33_0⟩ := Kd.R_celln false HO_7.out (x8_2 : Int) p33 q33; replace p33 := eq_true p33; replace q33 := eq_true q33; obtain ⟨hy34_, hz34_⟩ := Kd.R_celln false HO_7.out (x8_2 : Int) (of_decide_eq_true (by first | (with_reducible assumption) | assumption)) (of_decide_eq_true (by first | (with_reducible assumption) | assumption)); have HP34 := Kd.R_putg HO_7.out (x8_2 : Int) (decide (t428 > t430))) | ((with_reducible refine gate_store (t := 4) (p := 68) rfl ?_); refine store_event (t := 4) (p := 68) (v := ?vo_w35) (w1 := (wr.setCell ⟨go33, (x8_2 : Int).toNat, none⟩ (.bool (decide (t428 > t430))))) ?hg ?ho ?hn ?hr ?_; (case ho => rfl); (case hg => rfl); (case hn => rfl); (case hr => first | (go_simp; done) | (go_simp; rfl)); intro w35 hw; have hg : wr.grownBy w35 (some go33) := (by rw [hw]; exact HP34.2); have hp_ : Kd.R Kd.bool 4 w35 w.heap.size (fun _ => True) (.slice (some ⟨go33, 0, none⟩) x7_2.length co33) y431 := (by rw [hw, Ny431.out]; exact HP34.1); clear HP34; replace HO_3 := Aside0.mk (Kd.R_over' (v := (.slice (some ⟨go33, 0, none⟩) x7_2.length co33)) (RW_ <| HO_3.out) (Kd.R_typed HO_7.out) (by decide) hg); replace HO_4 := Aside0.mk (Kd.R_over' (v := (.slice (some ⟨go33, 0, none⟩) x7_2.length co33)) (RW_ <| HO_4.out) (Kd.R_typed HO_7.out) (by decide) hg); replace HO_6 := Aside0.mk (Kd.R_over' (v := (.slice (some ⟨go33, 0, none⟩) x7_2.length co33)) (RW_ <| HO_6.out) (Kd.R_typed HO_7.out) (by decide) hg); replace HO_7 := Aside0.mk (hp_); replace HB := Aside0.mk ((by rw [hw]; exact below_set (HB.out) GB33.out : Below w.heap.size w w35)); clear hg hw hp_))
             go_roundg k2
             case measure => have := HK1.out; have := HK2.out; omega
             case rel => exact ⟨(y431), (wrap64 (x8_2 + 1)), ok_, H', ⟨by have := HK1.out; have := HK2.out; omega⟩, ⟨RW_ <| HO_3.out⟩, ⟨RW_ <| HO_4.out⟩, ⟨RW_ <| HO_6.out⟩, ⟨RW_ <| HO_7.out⟩, ⟨belW_ HB⟩⟩
            ·rw [if_neg c32] at H
             exact absurd H (by simp)
           ·rw [if_neg c29] at H
            exact absurd H (by simp)
          ·rw [if_neg c28] at H
           have c28b0 := decide_eq_false c28
           clear c28
           replace H := Option.bind_eq_some_iff.mp H
           obtain ⟨t432, A360, H⟩ := H
           try dsimp only at H
           have A36 := Aside0.mk A360
           clear A360
           obtain rfl := Option.some.inj H
           obtain ⟨Ao37, co37, eo37⟩ := Kd.R_slice HO_7.out
           subst eo37
           go_wp2_with (((with_reducible refine gate_callee (f := 127) rfl ?_); refine goS_ 71 rfl Tryd.func127 #[.slice Ao25 t421.length co25, .slice Ao37 x7_2.length co37] ?_; (with_reducible refine (redraftref02_joined.calls k2 _ _ t421 _ _ x7_2 t432 _ ?side1 ?side2 ?side3 ?side4 A36.out).mono ?_); (case side1 => exact CW_ ((Kd.R_reads' HO_6.out).2.2)); (case side2 => exact (Kd.R_reads' HO_6.out).2.1); (case side3 => exact CW_ ((Kd.R_reads' HO_7.out).2.2)); (case side4 => exact (Kd.R_reads' HO_7.out).2.1); rintro e w38 ⟨v433, rfl, ho0, hb⟩; refine ⟨_, rfl, ?_⟩; have HO434 := Aside0.mk (Kd.R_lower ho0 (below_size (belW_ HB))); replace HO_3 := Aside0.mk (Kd.R_below (RW_ <| HO_3.out) hb); replace HO_4 := Aside0.mk (Kd.R_below (RW_ <| HO_4.out) hb); replace HO_6 := Aside0.mk (Kd.R_below (RW_ <| HO_6.out) hb); replace HO_7 := Aside0.mk (Kd.R_below (RW_ <| HO_7.out) hb); replace HB := belB_ HB hb; try clear hb; (try clear ho0)))
           go_ret
           exact ⟨_, rs_, RW_ <| HO434.out, belW_ HB⟩
       ·rw [if_neg c14] at H
        exact absurd H (by simp)
      ·rw [if_neg c13] at H
       exact absurd H (by simp)
     ·rw [if_neg c11] at H
      exact absurd H (by simp)
    ·rw [if_neg c10] at H
     exact absurd H (by simp)

mutual
def redraftref05_found.l0 : Nat → List (S154) → List (S154) → List (S94) → List (S94) → Int → Int → Int → Option ((List (S94)) × Int)
 | 0, _, _, _, _, _, _, _ => none
 | k + 1, x0, x1, x2, x8, x9, x10, x11 => if x11 < (x0.length : Int) then (if 0 ≤ x11 then (redraftref05_found.l1 k x0 x1 x2 x8 x9 x10 x11 (wrap64 ((wrap64 (x9 + ((rd_T154 x0 x11).f2))) - ((rd_T154 x0 x11).f1))) x10 ((rd_T154 x0 x11).f0) ((rd_T154 x0 x11).f1) ((rd_T154 x0 x11).f2)) else (none)) else ((redraftref02_Places.f k x8).bind fun t435 => (some (t435, 0)))
def redraftref05_found.l1 : Nat → List (S154) → List (S154) → List (S94) → List (S94) → Int → Int → Int → Int → Int → Int → Int → Int → Option ((List (S94)) × Int)
 | 0, _, _, _, _, _, _, _, _, _, _, _, _ => none
 | k + 1, x0, x1, x2, x8, x9, x10, x11, x13, x14, x440000, x440001, x440002 => if x14 < (x2.length : Int) then (if 0 ≤ x14 then (redraftref05_found.j2 k x0 x1 x2 x8 x9 x10 x11 x13 x14 (decide (((rd_T94 x2 x14).f0) < x13)) x440000 x440001 x440002) else (none)) else (redraftref05_found.j2 k x0 x1 x2 x8 x9 x10 x11 x13 x14 false x440000 x440001 x440002)
def redraftref05_found.j2 : Nat → List (S154) → List (S154) → List (S94) → List (S94) → Int → Int → Int → Int → Int → Bool → Int → Int → Int → Option ((List (S94)) × Int)
 | 0, _, _, _, _, _, _, _, _, _, _, _, _, _ => none
 | k + 1, x0, x1, x2, x8, x9, x10, x11, x13, x14, x48, x440000, x440001, x440002 => if x48 = true then (if 0 ≤ x14 then (if x14 < (x2.length : Int) then ((redraftref05_among.f k x1 x440000 (wrap64 ((wrap64 (x440001 + (mx ((rd_T94 x2 x14).f0) x9))) - x9)) (wrap64 ((wrap64 (x440001 + (mn ((rd_T94 x2 x14).f1) x13))) - x9))).bind fun t443 => (if (t443.length : Int) = 0 then (some (([] : List (S94)), 23)) else (if x8.length + t443.length < 8796093022208 then ((some (x8 ++ t443 : List (S94))).bind fun y446 => (if ((rd_T94 x2 x14).f1) > x13 then (redraftref05_found.l0 k x0 x1 x2 y446 x13 x10 (wrap64 (x11 + 1))) else (redraftref05_found.l1 k x0 x1 x2 y446 x9 (wrap64 (x14 + 1)) x11 x13 (wrap64 (x14 + 1)) x440000 x440001 x440002))) else (none)))) else (none)) else (none)) else (redraftref05_found.l0 k x0 x1 x2 x8 x13 x10 (wrap64 (x11 + 1)))
end
def redraftref05_found.f (k : Nat) (l0 : List (S154)) (l1 : List (S154)) (l2 : List (S94)) : Option ((List (S94)) × Int) := redraftref05_found.l0 k l0 l1 l2 ([] : List (S94)) 0 0 0
set_option maxHeartbeats 8000000 in
set_option maxRecDepth 100000 in
theorem redraftref05_found.calls (k : Nat) (A0 : Option Addr) (c0 : Nat) (l0 : List (S154)) (A1 : Option Addr) (c1 : Nat) (l1 : List (S154)) (A2 : Option Addr) (c2 : Nat) (l2 : List (S94)) (r1 : List (S94)) (r2 : Int) (w : World) (hr0 : Kd.C k154 w A0 l0.length l0) (hc0 : l0.length ≤ c0) (hr1 : Kd.C k154 w A1 l1.length l1) (hc1 : l1.length ≤ c1) (hr2 : Kd.C k94 w A2 l2.length l2) (hc2 : l2.length ≤ c2) (h : redraftref05_found.f k l0 l1 l2 = some (r1, r2)) :
 Calls Tryd.prog 110 #[.slice A0 l0.length c0, .slice A1 l1.length c1, .slice A2 l2.length c2] w fun e w' => ∃ v0_ : Value, e = .returned (.tuple #[v0_, .int .i64 r2]) ∧ Kd.R k94 94 w' w.heap.size (fun _ => True) v0_ r1 ∧ Below w.heap.size w w' := by
 have hu154 := Tryd.underlying154
 have HR0 := Aside0.mk hr0
 have HC0 := Aside0.mk hc0
 clear hr0 hc0
 have HR1 := Aside0.mk hr1
 have HC1 := Aside0.mk hc1
 clear hr1 hc1
 have HR2 := Aside0.mk hr2
 have HC2 := Aside0.mk hc2
 clear hr2 hc2
 have HB := Aside0.mk (Below.refl w.heap.size w)
 have H : (redraftref05_found.l0 k l0 l1 l2 ([] : List (S94)) 0 0 0) = some (r1, r2) := h
 clear h
 have H' := Aside0.mk H
 clear H
 go_enter Tryd.func110, Tryd.ntmps110
 go_wp2
 repeat (go_quiet (fail); try go_wp2)
 go_loopg [8, 9, 10, 11] k (fun kq v8 v9 v10 v11 w' => ∃ (x8_1 : List (S94)) (x9_1 : Int) (x10_1 : Int) (x11_1 : Int), v9 = .int .i64 x9_1 ∧ v10 = .int .i64 x10_1 ∧ v11 = .int .i64 x11_1 ∧ Aside0 (redraftref05_found.l0 kq l0 l1 l2 x8_1 x9_1 x10_1 x11_1 = some (r1, r2)) ∧ Aside0 (kq ≤ k) ∧ Aside0 (Kd.R k94 94 w' w.heap.size (fun _ => True) v8 x8_1) ∧ Aside0 (Below w.heap.size w w'))
 case atStart => exact ⟨(([] : List (S94))), (0), (0), (0), ok_, ok_, ok_, H', ⟨Nat.le_refl _⟩, ⟨nl_⟩, ⟨belW_ HB⟩⟩
 case round =>
  clear H'
  try clear c1
  try clear c2
  try clear p2
  obtain ⟨x8_1, x9_1, x10_1, x11_1, rfl, rfl, rfl, HA, HK1, HO_8, HB⟩ := hrel
  cases gk with
  | zero => exact absurd HA.out (by simp [redraftref05_found.l0])
  | succ k1 =>
   have H := HA.out
   clear HA
   simp only [redraftref05_found.l0] at H
   by_cases c4 : x11_1 < (l0.length : Int)
   ·rw [if_pos c4] at H
    have c4b0 := decide_eq_true c4
    clear c4
    by_cases c5 : 0 ≤ x11_1
    ·rw [if_pos c5] at H
     have c5b0 := decide_eq_true c5
     clear c5
     have H' := Aside0.mk H
     clear H
     have p438 := dz_ (x11_1 : Int)
     have q438 := dl_ x11_1 (l0.length : Int)
     obtain ⟨ad438, e438, hx438_0, hx438_1, hx438_2⟩ := at_T154 HR0.out x11_1 p438 q438
     cases e438
     replace hx438_0 := pw_cell_below HB.out hx438_0
     replace hx438_1 := pw_cell_below HB.out hx438_1
     replace hx438_2 := pw_cell_below HB.out hx438_2
     replace p438 := eq_true p438
     replace q438 := eq_true q438
     go_wp2_with (((with_reducible refine gate_dst (N := 12) rfl ?_); refine bxE_ 12 154 #[.int .i64 0, .int .i64 0, .int .i64 0] ?_; intro gb439 hg w6 hbox hb; have BK439 := Aside0.mk (hbox); have GW439 := gee_ hg HB; have GE439 := gee_ hg HB; replace HO_8 := Aside0.mk (Kd.R_below (RW_ <| HO_8.out) hb); replace HB := belB_ HB hb; clear hb hbox hg; obtain ⟨hcz7_0, hcz7_1, hcz7_2, hfz7_0, hfz7_1, hfz7_2⟩ := blk3_ BK439.out))
     repeat (go_quiet (fail); try go_wp2_with (fail))
     go_loopg [8, 10, 14] k1 (fun kq v8 v10 v14 w' => ∃ (x8_2 : List (S94)) (x10_2 : Int) (x14_2 : Int), v10 = .int .i64 x10_2 ∧ v14 = .int .i64 x14_2 ∧ Aside0 (redraftref05_found.l1 kq l0 l1 l2 x8_2 x9_1 x10_2 x11_1 (wrap64 ((wrap64 (x9_1 + ((rd_T154 l0 x11_1).f2))) - ((rd_T154 l0 x11_1).f1))) x14_2 ((rd_T154 l0 x11_1).f0) ((rd_T154 l0 x11_1).f1) ((rd_T154 l0 x11_1).f2) = some (r1, r2)) ∧ Aside0 (kq ≤ k1) ∧ Aside0 (Kd.R k94 94 w' w.heap.size (fun _ => True) v8 x8_2) ∧ Aside0 (w'.heap[gb439]? = some (.cells #[.int .i64 ((rd_T154 l0 x11_1).f0), .int .i64 ((rd_T154 l0 x11_1).f1), .int .i64 ((rd_T154 l0 x11_1).f2)] 154 (0, 0))) ∧ Aside0 (Below w.heap.size w w'))
     case atStart => exact ⟨(x8_1), (x10_1), (x10_1), ok_, ok_, H', ⟨Nat.le_refl _⟩, ⟨RW_ <| Kd.R_mono (Kd.R_far (p := ⟨gb439, 2, none⟩) (Kd.R_far (p := ⟨gb439, 1, none⟩) (Kd.R_far (p := ⟨gb439, 0, none⟩) (Kd.R_types HO_8.out BK439.out (by decide)) (fun _ hk => hk.2) (.int .i64 ((rd_T154 l0 x11_1).f0))) (fun _ hk => hk.2) (.int .i64 ((rd_T154 l0 x11_1).f1))) (fun _ hk => hk.2) (.int .i64 ((rd_T154 l0 x11_1).f2))) (fun _ hk => trivial)⟩, ⟨by (with_reducible repeat (first | refine blk_drewN ?_ _ | refine blk_drew ?_ | refine blk_alloc ?_ _)); refine blk_put (cs := #[.int .i64 ((rd_T154 l0 x11_1).f0), .int .i64 ((rd_T154 l0 x11_1).f1), .int .i64 0]) ?_ 2 _ rfl; (with_reducible repeat (first | refine blk_drewN ?_ _ | refine blk_drew ?_ | refine blk_alloc ?_ _)); refine blk_put (cs := #[.int .i64 ((rd_T154 l0 x11_1).f0), .int .i64 0, .int .i64 0]) ?_ 1 _ rfl; (with_reducible repeat (first | refine blk_drewN ?_ _ | refine blk_drew ?_ | refine blk_alloc ?_ _)); refine blk_put (cs := #[.int .i64 0, .int .i64 0, .int .i64 0]) ?_ 0 _ rfl; (with_reducible repeat (first | refine blk_drewN ?_ _ | refine blk_drew ?_ | refine blk_alloc ?_ _)); exact BK439.out⟩, ⟨belW_ HB⟩⟩
     case round =>
      clear H'
      try clear c1
      try clear c2
      try clear p2
      try clear c4
      try clear c4b0
      try clear p4
      try clear q4
      try clear hx4
      try clear c5
      try clear c5b0
      try clear p6
      try clear hcz7_0
      try clear hcz7_1
      try clear hcz7_2
      try clear hfz7_0
      try clear hfz7_1
      try clear hfz7_2
      try clear hx438_0
      try clear hx438_1
      try clear hx438_2
      try clear p2
      try clear p438
      try clear q438
      obtain ⟨x8_2, x10_2, x14_2, rfl, rfl, HA, HK2, HO_8, BK439, HB⟩ := hrel
      cases gk with
      | zero => exact absurd HA.out (by simp [redraftref05_found.l1])
      | succ k2 =>
       have H := HA.out
       clear HA
       simp only [redraftref05_found.l1] at H
       have HC8 := Aside0.mk H
       clear H
       go_upto_region 10 with (fail)
       repeat (go_quiet (fail); go_upto_region 10 with (fail))
       go_cut [48] (fun v48 wc => ∃ (kq : Nat) (x48_7 : Bool), v48 = .bool x48_7 ∧ Aside0 (redraftref05_found.j2 kq l0 l1 l2 x8_2 x9_1 x10_2 x11_1 (wrap64 ((wrap64 (x9_1 + ((rd_T154 l0 x11_1).f2))) - ((rd_T154 l0 x11_1).f1))) x14_2 x48_7 ((rd_T154 l0 x11_1).f0) ((rd_T154 l0 x11_1).f1) ((rd_T154 l0 x11_1).f2) = some (r1, r2)) ∧ Aside0 (kq ≤ k2) ∧ Aside0 (Kd.R k94 94 wc w.heap.size (fun _ => True) u8 x8_2) ∧ Aside0 (wc.heap[gb439]? = some (.cells #[.int .i64 ((rd_T154 l0 x11_1).f0), .int .i64 ((rd_T154 l0 x11_1).f1), .int .i64 ((rd_T154 l0 x11_1).f2)] 154 (0, 0))) ∧ Aside0 (Below w.heap.size w wc))
       case first =>
        have H := HC8.out
        clear HC8
        by_cases c9 : x14_2 < (l2.length : Int)
        ·rw [if_pos c9] at H
         have c9b0 := decide_eq_true c9
         clear c9
         (first | rw [c9b0] | (simp only [i64_w, i32_w]; rw [c9b0]) | rw [c9b1] | skip)
         by_cases c10 : 0 ≤ x14_2
         ·rw [if_pos c10] at H
          have c10b0 := decide_eq_true c10
          clear c10
          have H' := Aside0.mk H
          clear H
          have p440 := dz_ (x14_2 : Int)
          have q440 := dl_ x14_2 (l2.length : Int)
          obtain ⟨ad440, e440, hx440_0, hx440_1⟩ := at_T94 HR2.out x14_2 p440 q440
          cases e440
          replace hx440_0 := pw_cell_below HB.out hx440_0
          replace hx440_1 := pw_cell_below HB.out hx440_1
          replace p440 := eq_true p440
          replace q440 := eq_true q440
          go_wp2
          repeat (go_quiet (fail); try go_wp2)
          go_meet
          case rel => exact ⟨_, (decide (((rd_T94 l2 x14_2).f0) < (wrap64 ((wrap64 (x9_1 + ((rd_T154 l0 x11_1).f2))) - ((rd_T154 l0 x11_1).f1))))), ok_, H', ⟨by have := HK1.out; have := HK2.out; first | omega | exact Nat.le_refl _⟩, ⟨RW_ <| HO_8.out⟩, ⟨blkW_ BK439⟩, ⟨belW_ HB⟩⟩
         ·rw [if_neg c10] at H
          exact absurd H (by simp)
        ·rw [if_neg c9] at H
         have c9b0 := decide_eq_false c9
         clear c9
         (first | rw [c9b0] | (simp only [i64_w, i32_w]; rw [c9b0]) | rw [c9b1] | skip)
         have H' := Aside0.mk H
         clear H
         go_wp2
         repeat (go_quiet (fail); try go_wp2)
         go_meet
         case rel => exact ⟨_, (false), ok_, H', ⟨by have := HK1.out; have := HK2.out; first | omega | exact Nat.le_refl _⟩, ⟨RW_ <| HO_8.out⟩, ⟨blkW_ BK439⟩, ⟨belW_ HB⟩⟩
       case rest =>
        clear HC8
        try clear c1
        try clear c2
        try clear p2
        try clear c4
        try clear c4b0
        try clear p4
        try clear q4
        try clear hx4
        try clear c5
        try clear c5b0
        try clear p6
        try clear hcz7_0
        try clear hcz7_1
        try clear hcz7_2
        try clear hfz7_0
        try clear hfz7_1
        try clear hfz7_2
        try clear hx438_0
        try clear hx438_1
        try clear hx438_2
        try clear p2
        try clear p4
        try clear p438
        try clear p6
        try clear q4
        try clear q438
        obtain ⟨kq, x48_7, rfl, HA, HJ7, HO_8, BK439, HB⟩ := hcut
        cases kq with
        | zero => exact absurd HA.out (by simp [redraftref05_found.j2])
        | succ kj7 =>
         have H := HA.out
         clear HA
         simp only [redraftref05_found.j2] at H
         by_cases c11 : x48_7 = true
         ·subst c11
          have H1 := H; rw [if_pos rfl] at H1
          clear H
          have H := H1
          clear H1
          by_cases c12 : 0 ≤ x14_2
          ·rw [if_pos c12] at H
           have c12b0 := decide_eq_true c12
           clear c12
           by_cases c13 : x14_2 < (l2.length : Int)
           ·rw [if_pos c13] at H
            have c13b0 := decide_eq_true c13
            clear c13
            obtain ⟨ji14, hji14⟩ : ∃ j_ : Int, (mx ((rd_T94 l2 x14_2).f0) x9_1) = j_ := ⟨_, rfl⟩
            replace H : ((redraftref05_among.f kj7 l1 ((rd_T154 l0 x11_1).f0) (wrap64 ((wrap64 (((rd_T154 l0 x11_1).f1) + (ji14))) - x9_1)) (wrap64 ((wrap64 (((rd_T154 l0 x11_1).f1) + (mn ((rd_T94 l2 x14_2).f1) (wrap64 ((wrap64 (x9_1 + ((rd_T154 l0 x11_1).f2))) - ((rd_T154 l0 x11_1).f1)))))) - x9_1))).bind fun t443 => (if (t443.length : Int) = 0 then (some (([] : List (S94)), 23)) else (if x8_2.length + t443.length < 8796093022208 then ((some (x8_2 ++ t443 : List (S94))).bind fun y446 => (if ((rd_T94 l2 x14_2).f1) > (wrap64 ((wrap64 (x9_1 + ((rd_T154 l0 x11_1).f2))) - ((rd_T154 l0 x11_1).f1))) then (redraftref05_found.l0 kj7 l0 l1 l2 y446 (wrap64 ((wrap64 (x9_1 + ((rd_T154 l0 x11_1).f2))) - ((rd_T154 l0 x11_1).f1))) x10_2 (wrap64 (x11_1 + 1))) else (redraftref05_found.l1 kj7 l0 l1 l2 y446 x9_1 (wrap64 (x14_2 + 1)) x11_1 (wrap64 ((wrap64 (x9_1 + ((rd_T154 l0 x11_1).f2))) - ((rd_T154 l0 x11_1).f1))) (wrap64 (x14_2 + 1)) ((rd_T154 l0 x11_1).f0) ((rd_T154 l0 x11_1).f1) ((rd_T154 l0 x11_1).f2)))) else (none)))) = some (r1, r2) := by first | (rw [hji14] at H; exact H) | (simp only [hji14] at H ⊢; exact H)
            have hji14_ : (if ((rd_T94 l2 x14_2).f0) < x9_1 then x9_1 else ((rd_T94 l2 x14_2).f0)) = ji14 := hji14
            obtain ⟨ji15, hji15⟩ : ∃ j_ : Int, (mn ((rd_T94 l2 x14_2).f1) (wrap64 ((wrap64 (x9_1 + ((rd_T154 l0 x11_1).f2))) - ((rd_T154 l0 x11_1).f1)))) = j_ := ⟨_, rfl⟩
            replace H : ((redraftref05_among.f kj7 l1 ((rd_T154 l0 x11_1).f0) (wrap64 ((wrap64 (((rd_T154 l0 x11_1).f1) + (ji14))) - x9_1)) (wrap64 ((wrap64 (((rd_T154 l0 x11_1).f1) + (ji15))) - x9_1))).bind fun t443 => (if (t443.length : Int) = 0 then (some (([] : List (S94)), 23)) else (if x8_2.length + t443.length < 8796093022208 then ((some (x8_2 ++ t443 : List (S94))).bind fun y446 => (if ((rd_T94 l2 x14_2).f1) > (wrap64 ((wrap64 (x9_1 + ((rd_T154 l0 x11_1).f2))) - ((rd_T154 l0 x11_1).f1))) then (redraftref05_found.l0 kj7 l0 l1 l2 y446 (wrap64 ((wrap64 (x9_1 + ((rd_T154 l0 x11_1).f2))) - ((rd_T154 l0 x11_1).f1))) x10_2 (wrap64 (x11_1 + 1))) else (redraftref05_found.l1 kj7 l0 l1 l2 y446 x9_1 (wrap64 (x14_2 + 1)) x11_1 (wrap64 ((wrap64 (x9_1 + ((rd_T154 l0 x11_1).f2))) - ((rd_T154 l0 x11_1).f1))) (wrap64 (x14_2 + 1)) ((rd_T154 l0 x11_1).f0) ((rd_T154 l0 x11_1).f1) ((rd_T154 l0 x11_1).f2)))) else (none)))) = some (r1, r2) := by first | (rw [hji15] at H; exact H) | (simp only [hji15] at H ⊢; exact H)
            have hji15_ : (if (wrap64 ((wrap64 (x9_1 + ((rd_T154 l0 x11_1).f2))) - ((rd_T154 l0 x11_1).f1))) < ((rd_T94 l2 x14_2).f1) then (wrap64 ((wrap64 (x9_1 + ((rd_T154 l0 x11_1).f2))) - ((rd_T154 l0 x11_1).f1))) else ((rd_T94 l2 x14_2).f1)) = ji15 := hji15
            replace H := Option.bind_eq_some_iff.mp H
            obtain ⟨t443, A160, H⟩ := H
            try dsimp only at H
            have A16 := Aside0.mk A160
            clear A160
            by_cases c17 : (t443.length : Int) = 0
            ·rw [if_pos c17] at H
             have c17b0 := beq_iff_eq.mpr c17
             have c17b1 := bne_eq_false_iff_eq.mpr c17
             clear c17
             simp only [Option.some.injEq, Prod.mk.injEq] at H
             obtain ⟨rfl, rfl⟩ := H
             have hz_ := blk3_ BK439.out
             have p441 := dz_ (x14_2 : Int)
             have q441 := dl_ x14_2 (l2.length : Int)
             obtain ⟨ad441, e441, hx441_0, hx441_1⟩ := at_T94 HR2.out x14_2 p441 q441
             cases e441
             replace hx441_0 := pw_cell_below HB.out hx441_0
             replace hx441_1 := pw_cell_below HB.out hx441_1
             replace p441 := eq_true p441
             replace q441 := eq_true q441
             have p442 := dz_ (x14_2 : Int)
             have q442 := dl_ x14_2 (l2.length : Int)
             obtain ⟨ad442, e442, hx442_0, hx442_1⟩ := at_T94 HR2.out x14_2 p442 q442
             obtain rfl : ad441 = ad442 := (by injection e442)
             replace hx442_0 := pw_cell_below HB.out hx442_0
             replace hx442_1 := pw_cell_below HB.out hx442_1
             replace p442 := eq_true p442
             replace q442 := eq_true q442
             go_wp2_with (fail)
             repeat (go_quiet (fail); try go_wp2_with ((go_at_call 117; (with_reducible refine (redraftref05_among.calls kj7 _ _ l1 ((rd_T154 l0 x11_1).f0) (wrap64 ((wrap64 (((rd_T154 l0 x11_1).f1) + (ji14))) - x9_1)) (wrap64 ((wrap64 (((rd_T154 l0 x11_1).f1) + (ji15))) - x9_1)) t443 _ ?side1 ?side2 A16.out).mono ?_); (case side1 => exact CW_ ((Kd.C_below HR1.out HB.out))); (case side2 => exact HC1.out); rintro e w19 ⟨v444, rfl, ho0, hb⟩; have HO445 := Aside0.mk (Kd.R_lower (Kd.R_new' ho0 (Kd.R_lt (RW_ <| HO_8.out))) (below_size (belW_ HB))); replace HO_8 := Aside0.mk (Kd.R_elder' (RW_ <| HO_8.out) (Kd.R_base ho0) hb); replace BK439 := blkB_ BK439 hb; replace HB := belB_ HB hb; try clear hb; (try clear ho0); obtain ⟨Ao20, co20, eo20⟩ := Kd.R_slice HO445.out; subst eo20)))
             go_ret2
             exact ⟨_, by first | rfl | (simp only [← hji14, ← hji15]; first | rfl) | (simp [*] <;> rfl), nl_, belW_ HB⟩
            ·rw [if_neg c17] at H
             have c17b0 := beq_eq_false_iff_ne.mpr c17
             have c17b1 := bne_iff_ne.mpr c17
             have c17b2 : ¬ (t443 = []) := fun h_ => c17 (by rw [h_]; rfl)
             by_cases c21 : x8_2.length + t443.length < 8796093022208
             ·rw [if_pos c21] at H
              have LMc21 := Aside0.mk c21
              clear c21
              obtain ⟨y446, hy446⟩ : ∃ y_ : List (S94), y_ = (x8_2 ++ t443) := ⟨_, rfl⟩
              replace H : (if ((rd_T94 l2 x14_2).f1) > (wrap64 ((wrap64 (x9_1 + ((rd_T154 l0 x11_1).f2))) - ((rd_T154 l0 x11_1).f1))) then (redraftref05_found.l0 kj7 l0 l1 l2 y446 (wrap64 ((wrap64 (x9_1 + ((rd_T154 l0 x11_1).f2))) - ((rd_T154 l0 x11_1).f1))) x10_2 (wrap64 (x11_1 + 1))) else (redraftref05_found.l1 kj7 l0 l1 l2 y446 x9_1 (wrap64 (x14_2 + 1)) x11_1 (wrap64 ((wrap64 (x9_1 + ((rd_T154 l0 x11_1).f2))) - ((rd_T154 l0 x11_1).f1))) (wrap64 (x14_2 + 1)) ((rd_T154 l0 x11_1).f0) ((rd_T154 l0 x11_1).f1) ((rd_T154 l0 x11_1).f2))) = some (r1, r2) := by first | (rw [hy446]; with_reducible exact H) | (have H2_ := (Option.bind_some _ _).symm.trans H; rw [hy446]; with_reducible exact H2_) | (have H2_ := (Option.bind_some _ _).symm.trans H; with_reducible exact H2_) | with_reducible exact H | (rw [hy446]; exact H) | exact H
              have Ny446 := Aside0.mk hy446
              clear hy446
              by_cases c22 : ((rd_T94 l2 x14_2).f1) > (wrap64 ((wrap64 (x9_1 + ((rd_T154 l0 x11_1).f2))) - ((rd_T154 l0 x11_1).f1)))
              ·rw [if_pos c22] at H
               have c22b0 : decide ((wrap64 ((wrap64 (x9_1 + ((rd_T154 l0 x11_1).f2))) - ((rd_T154 l0 x11_1).f1))) < ((rd_T94 l2 x14_2).f1)) = true := decide_eq_true c22
               clear c22
               have H' := Aside0.mk H
               clear H
               have hz_ := blk3_ BK439.out
               have p441 := dz_ (x14_2 : Int)
               have q441 := dl_ x14_2 (l2.length : Int)
               obtain ⟨ad441, e441, hx441_0, hx441_1⟩ := at_T94 HR2.out x14_2 p441 q441
               cases e441
               replace hx441_0 := pw_cell_below HB.out hx441_0
               replace hx441_1 := pw_cell_below HB.out hx441_1
               replace p441 := eq_true p441
               replace q441 := eq_true q441
               have p442 := dz_ (x14_2 : Int)
               have q442 := dl_ x14_2 (l2.length : Int)
               obtain ⟨ad442, e442, hx442_0, hx442_1⟩ := at_T94 HR2.out x14_2 p442 q442
               obtain rfl : ad441 = ad442 := (by injection e442)
               replace hx442_0 := pw_cell_below HB.out hx442_0
               replace hx442_1 := pw_cell_below HB.out hx442_1
               replace p442 := eq_true p442
               replace q442 := eq_true q442
               go_wp2_with (fail)
               repeat (go_quiet (fail); try go_wp2_with (first | (go_at_call 117; (with_reducible refine (redraftref05_among.calls kj7 _ _ l1 ((rd_T154 l0 x11_1).f0) (wrap64 ((wrap64 (((rd_T154 l0 x11_1).f1) + (ji14))) - x9_1)) (wrap64 ((wrap64 (((rd_T154 l0 x11_1).f1) + (ji15))) - x9_1)) t443 _ ?side1 ?side2 A16.out).mono ?_); (case side1 => exact CW_ ((Kd.C_below HR1.out HB.out))); (case side2 => exact HC1.out); rintro e w24 ⟨v444, rfl, ho0, hb⟩; have HO445 := Aside0.mk (Kd.R_lower (Kd.R_new' ho0 (Kd.R_lt (RW_ <| HO_8.out))) (below_size (belW_ HB))); replace HO_8 := Aside0.mk (Kd.R_elder' (RW_ <| HO_8.out) (Kd.R_base ho0) hb); replace BK439 := blkB_ BK439 hb; replace HB := belB_ HB hb; try clear hb; (try clear ho0); obtain ⟨Ao25, co25, eo25⟩ := Kd.R_slice HO445.out; subst eo25) | ((with_reducible refine gate_builtin (b := .append) (xs := #[.tmp 84, .tmp 85]) rfl ?_); at_builtin; refine Kd.R_append_rows k94 (w0 := w) w.heap.size rfl (.tmp 84) (.tmp 85) 39 94 (.agg #[(.int .i64 0), (.int .i64 0)]) 16 rfl Tryd.underlying39 info94 rfl (by decide) (by omega) u8 x8_2 t443 _ _ _ (fun k_ => some k_ ≠ (.slice Ao25 t443.length co25 : Value).ownBlock) (fun _ => False) rfl rfl ?aO ?aR (fun _ _ h => h) (fun _ h => h.elim) ?aF ?aB ?aS ?aL ?_; (case aR => exact CW_ ((Kd.R_reads' HO445.out).2.2)); (case aB => exact (belW_ HB)); (case aF => exact (fun k_ hk => Kd.fresh' (Kd.R_lt (RW_ <| HO445.out)) k_ hk)); (case aO => exact (RW_ <| Kd.R_mono HO_8.out (fun _ hk => hk.2))); (case aS => exact (below_size (belW_ HB))); (case aL => have := LMc21.out; omega); intro v447 w26 ho hb hg hat; rw [← Ny446.out] at ho; have HO448 := Aside0.mk (ho); replace BK439 := Aside0.mk (blk_grown (blkW_ BK439) hg (Kd.R_ne HO_8.out BK439.out (by decide))); replace HO445 := Aside0.mk (Kd.R_after (ok := (fun _ => True)) (RW_ <| HO445.out) hg hat); replace HB := Aside0.mk (hb); clear HO_8; clear ho hb hg hat; have p449 := dz_ (x14_2 : Int); have q449 := dl_ x14_2 (l2.length : Int); obtain ⟨ad449, e449, hx449_0, hx449_1⟩ := at_T94 HR2.out x14_2 p449 q449; obtain rfl : ad441 = ad449 := (by injection e449); replace hx449_0 := pw_cell_below HB.out hx449_0; replace hx449_1 := pw_cell_below HB.out hx449_1; replace p449 := eq_true p449; replace q449 := eq_true q449)))
               go_roundg kj7
               case measure => have := HK1.out; have := HK2.out; have := HJ7.out; omega
               case rel => exact ⟨(y446), ((wrap64 ((wrap64 (x9_1 + ((rd_T154 l0 x11_1).f2))) - ((rd_T154 l0 x11_1).f1)))), (x10_2), (wrap64 (x11_1 + 1)), ok_, ok_, ok_, H', ⟨by have := HK1.out; have := HK2.out; have := HJ7.out; omega⟩, ⟨RW_ <| Kd.R_mono HO448.out (fun _ hk => trivial)⟩, ⟨belW_ HB⟩⟩
              ·rw [if_neg c22] at H
               have c22b0 : decide ((wrap64 ((wrap64 (x9_1 + ((rd_T154 l0 x11_1).f2))) - ((rd_T154 l0 x11_1).f1))) < ((rd_T94 l2 x14_2).f1)) = false := decide_eq_false c22
               clear c22
               have H' := Aside0.mk H
               clear H
               have hz_ := blk3_ BK439.out
               have p441 := dz_ (x14_2 : Int)
               have q441 := dl_ x14_2 (l2.length : Int)
               obtain ⟨ad441, e441, hx441_0, hx441_1⟩ := at_T94 HR2.out x14_2 p441 q441
               cases e441
               replace hx441_0 := pw_cell_below HB.out hx441_0
               replace hx441_1 := pw_cell_below HB.out hx441_1
               replace p441 := eq_true p441
               replace q441 := eq_true q441
               have p442 := dz_ (x14_2 : Int)
               have q442 := dl_ x14_2 (l2.length : Int)
               obtain ⟨ad442, e442, hx442_0, hx442_1⟩ := at_T94 HR2.out x14_2 p442 q442
               obtain rfl : ad441 = ad442 := (by injection e442)
               replace hx442_0 := pw_cell_below HB.out hx442_0
               replace hx442_1 := pw_cell_below HB.out hx442_1
               replace p442 := eq_true p442
               replace q442 := eq_true q442
               go_wp2_with (fail)
               repeat (go_quiet (fail); try go_wp2_with (first | (go_at_call 117; (with_reducible refine (redraftref05_among.calls kj7 _ _ l1 ((rd_T154 l0 x11_1).f0) (wrap64 ((wrap64 (((rd_T154 l0 x11_1).f1) + (ji14))) - x9_1)) (wrap64 ((wrap64 (((rd_T154 l0 x11_1).f1) + (ji15))) - x9_1)) t443 _ ?side1 ?side2 A16.out).mono ?_); (case side1 => exact CW_ ((Kd.C_below HR1.out HB.out))); (case side2 => exact HC1.out); rintro e w28 ⟨v444, rfl, ho0, hb⟩; have HO445 := Aside0.mk (Kd.R_lower (Kd.R_new' ho0 (Kd.R_lt (RW_ <| HO_8.out))) (below_size (belW_ HB))); replace HO_8 := Aside0.mk (Kd.R_elder' (RW_ <| HO_8.out) (Kd.R_base ho0) hb); replace BK439 := blkB_ BK439 hb; replace HB := belB_ HB hb; try clear hb; (try clear ho0); obtain ⟨Ao29, co29, eo29⟩ := Kd.R_slice HO445.out; subst eo29) | ((with_reducible refine gate_builtin (b := .append) (xs := #[.tmp 84, .tmp 85]) rfl ?_); at_builtin; refine Kd.R_append_rows k94 (w0 := w) w.heap.size rfl (.tmp 84) (.tmp 85) 39 94 (.agg #[(.int .i64 0), (.int .i64 0)]) 16 rfl Tryd.underlying39 info94 rfl (by decide) (by omega) u8 x8_2 t443 _ _ _ (fun k_ => some k_ ≠ (.slice Ao29 t443.length co29 : Value).ownBlock) (fun _ => False) rfl rfl ?aO ?aR (fun _ _ h => h) (fun _ h => h.elim) ?aF ?aB ?aS ?aL ?_; (case aR => exact CW_ ((Kd.R_reads' HO445.out).2.2)); (case aB => exact (belW_ HB)); (case aF => exact (fun k_ hk => Kd.fresh' (Kd.R_lt (RW_ <| HO445.out)) k_ hk)); (case aO => exact (RW_ <| Kd.R_mono HO_8.out (fun _ hk => hk.2))); (case aS => exact (below_size (belW_ HB))); (case aL => have := LMc21.out; omega); intro v447 w30 ho hb hg hat; rw [← Ny446.out] at ho; have HO448 := Aside0.mk (ho); replace BK439 := Aside0.mk (blk_grown (blkW_ BK439) hg (Kd.R_ne HO_8.out BK439.out (by decide))); replace HO445 := Aside0.mk (Kd.R_after (ok := (fun _ => True)) (RW_ <| HO445.out) hg hat); replace HB := Aside0.mk (hb); clear HO_8; clear ho hb hg hat; have p449 := dz_ (x14_2 : Int); have q449 := dl_ x14_2 (l2.length : Int); obtain ⟨ad449, e449, hx449_0, hx449_1⟩ := at_T94 HR2.out x14_2 p449 q449; obtain rfl : ad441 = ad449 := (by injection e449); replace hx449_0 := pw_cell_below HB.out hx449_0; replace hx449_1 := pw_cell_below HB.out hx449_1; replace p449 := eq_true p449; replace q449 := eq_true q449)))
               go_roundg kj7
               case measure => have := HK1.out; have := HK2.out; have := HJ7.out; omega
               case rel => exact ⟨(y446), (wrap64 (x14_2 + 1)), (wrap64 (x14_2 + 1)), ok_, ok_, H', ⟨by have := HK1.out; have := HK2.out; have := HJ7.out; omega⟩, ⟨RW_ <| Kd.R_mono HO448.out (fun _ hk => trivial)⟩, ⟨blkW_ BK439⟩, ⟨belW_ HB⟩⟩
             ·rw [if_neg c21] at H
              exact absurd H (by simp)
           ·rw [if_neg c13] at H
            exact absurd H (by simp)
          ·rw [if_neg c12] at H
           exact absurd H (by simp)
         ·replace c11 := Bool.eq_false_iff.mpr c11
          subst c11
          have H1 := H; rw [if_neg (show ¬ (false = true) by decide)] at H1
          clear H
          have H := H1
          clear H1
          have H' := Aside0.mk H
          clear H
          go_wp2
          repeat (go_quiet (fail); try go_wp2)
          go_roundg kj7
          case measure => have := HK1.out; have := HK2.out; have := HJ7.out; omega
          case rel => exact ⟨(x8_2), ((wrap64 ((wrap64 (x9_1 + ((rd_T154 l0 x11_1).f2))) - ((rd_T154 l0 x11_1).f1)))), (x10_2), (wrap64 (x11_1 + 1)), ok_, ok_, ok_, H', ⟨by have := HK1.out; have := HK2.out; have := HJ7.out; omega⟩, ⟨RW_ <| HO_8.out⟩, ⟨belW_ HB⟩⟩
    ·rw [if_neg c5] at H
     exact absurd H (by simp)
   ·rw [if_neg c4] at H
    have c4b0 := decide_eq_false c4
    clear c4
    replace H := Option.bind_eq_some_iff.mp H
    obtain ⟨t435, A310, H⟩ := H
    try dsimp only at H
    have A31 := Aside0.mk A310
    clear A310
    simp only [Option.some.injEq, Prod.mk.injEq] at H
    obtain ⟨rfl, rfl⟩ := H
    obtain ⟨Ao32, co32, eo32⟩ := Kd.R_slice HO_8.out
    subst eo32
    go_wp2_with ((go_at_call 118; (with_reducible refine (redraftref02_Places.calls k1 _ _ x8_1 t435 _ ?side1 ?side2 A31.out).mono ?_); (case side1 => exact CW_ ((Kd.R_reads' HO_8.out).2.2)); (case side2 => exact (Kd.R_reads' HO_8.out).2.1); rintro e w33 ⟨v436, rfl, ho0, hb⟩; have HO437 := Aside0.mk (Kd.R_lower (Kd.R_new' ho0 (Kd.R_lt (RW_ <| HO_8.out))) (below_size (belW_ HB))); replace HO_8 := Aside0.mk (Kd.R_elder' (RW_ <| HO_8.out) (Kd.R_base ho0) hb); replace HB := belB_ HB hb; try clear hb; (try clear ho0)))
    repeat (go_quiet (fail); try go_wp2_with (fail))
    go_ret2
    exact ⟨_, rs_, RW_ <| Kd.R_mono HO437.out (fun _ hk => trivial), belW_ HB⟩

def redraftref05_Copy.f (a0_0 : Int) (a0_1 : Int) (a0_2 : Int) (a0_3 : Int) (a0_4 : ByteArray) (l0_5 : List (S94)) (a0_6 : Int) (a0_7 : Int) (a0_8 : Bool) : Option (Int × Int × Int × Int × ByteArray × (List (S94)) × Int × Int × Bool) := if ([] : List (S94)).length + l0_5.length < 8796093022208 then (some (a0_0, a0_1, a0_2, a0_3, a0_4, (([] : List (S94)) ++ l0_5), a0_6, a0_7, a0_8)) else (none)
set_option maxHeartbeats 8000000 in
set_option maxRecDepth 100000 in
theorem redraftref05_Copy.calls (a0_0 : Int) (a0_1 : Int) (a0_2 : Int) (a0_3 : Int) (a0_4 : ByteArray) (A0_5 : Option Addr) (c0_5 : Nat) (l0_5 : List (S94)) (a0_6 : Int) (a0_7 : Int) (a0_8 : Bool) (r1 : Int) (r2 : Int) (r3 : Int) (r4 : Int) (r5 : ByteArray) (r6 : List (S94)) (r7 : Int) (r8 : Int) (r9 : Bool) (w : World) (hr0_5 : Kd.C k94 w A0_5 l0_5.length l0_5) (hc0_5 : l0_5.length ≤ c0_5) (h : redraftref05_Copy.f a0_0 a0_1 a0_2 a0_3 a0_4 l0_5 a0_6 a0_7 a0_8 = some (r1, r2, r3, r4, r5, r6, r7, r8, r9)) :
 Calls Tryd.prog 22 #[.agg #[.int .i64 a0_0, .int .i64 a0_1, .int .i64 a0_2, .int .i64 a0_3, .string a0_4, .slice A0_5 l0_5.length c0_5, .int .i64 a0_6, .int .i64 a0_7, .bool a0_8]] w fun e w' => ∃ v5_ : Value, e = .returned (.agg #[.int .i64 r1, .int .i64 r2, .int .i64 r3, .int .i64 r4, .string r5, v5_, .int .i64 r7, .int .i64 r8, .bool r9]) ∧ Kd.R k94 94 w' w.heap.size (fun _ => True) v5_ r6 ∧ Below w.heap.size w w' := by
 have hu41 := Tryd.underlying41
 have HR0_5 := Aside0.mk hr0_5
 have HC0_5 := Aside0.mk hc0_5
 clear hr0_5 hc0_5
 have HB := Aside0.mk (Below.refl w.heap.size w)
 have H : (if ([] : List (S94)).length + l0_5.length < 8796093022208 then (some (a0_0, a0_1, a0_2, a0_3, a0_4, (([] : List (S94)) ++ l0_5), a0_6, a0_7, a0_8)) else (none)) = some (r1, r2, r3, r4, r5, r6, r7, r8, r9) := h
 clear h
 by_cases c2 : ([] : List (S94)).length + l0_5.length < 8796093022208
 ·rw [if_pos c2] at H
  have LMc2 := Aside0.mk c2
  clear c2
  obtain ⟨y452, hy452⟩ : ∃ y_ : List (S94), y_ = (([] : List (S94)) ++ l0_5) := ⟨_, rfl⟩
  replace H : (some (a0_0, a0_1, a0_2, a0_3, a0_4, y452, a0_6, a0_7, a0_8)) = some (r1, r2, r3, r4, r5, r6, r7, r8, r9) := by first | (rw [hy452]; with_reducible exact H) | (have H2_ := (Option.bind_some _ _).symm.trans H; rw [hy452]; with_reducible exact H2_) | (have H2_ := (Option.bind_some _ _).symm.trans H; with_reducible exact H2_) | with_reducible exact H | (rw [hy452]; exact H) | exact H
  have Ny452 := Aside0.mk hy452
  clear hy452
  simp only [Option.some.injEq, Prod.mk.injEq] at H
  obtain ⟨rfl, rfl, rfl, rfl, rfl, rfl, rfl, rfl, rfl⟩ := H
  go_enter Tryd.func22, Tryd.ntmps22
  go_wp2_with (first | ((with_reducible refine gate_dst (N := 1) rfl ?_); refine bxE_ 1 41 #[.int .i64 a0_0, .int .i64 a0_1, .int .i64 a0_2, .int .i64 a0_3, .string a0_4, .slice A0_5 l0_5.length c0_5, .int .i64 a0_6, .int .i64 a0_7, .bool a0_8] ?_; intro gb450 hg w3 hbox hb; have BK450 := Aside0.mk (hbox); have GW450 := gee_ hg HB; have GE450 := gee_ hg HB; replace HB := belB_ HB hb; clear hb hbox hg) | ((with_reducible refine gate_dst (N := 2) rfl ?_); refine bxE_ 2 41 #[.int .i64 0, .int .i64 0, .int .i64 0, .int .i64 0, .string (⟨#[]⟩ : ByteArray), .slice none 0 0, .int .i64 0, .int .i64 0, .bool false] ?_; intro gb451 hg w4 hbox hb; have BK451 := Aside0.mk (hbox); have GW451 := gee_ hg HB; have GE451 := gee_ hg HB; have NB450_451 := neL_ hg BK450; have NB451_450 := neR_ hg BK450; replace BK450 := blkB_ BK450 hb; replace HB := belB_ HB hb; clear hb hbox hg; have hnb5 := NB450_451.out; have hnc5 := NB451_450.out; have hz_ := blk9_ BK450.out) | ((with_reducible refine gate_builtin (b := .append) (xs := #[.const (.slice none 0 0), .tmp 4]) rfl ?_); at_builtin; refine Kd.R_append_rows k94 (w0 := w) w.heap.size rfl (.const (.slice none 0 0)) (.tmp 4) 39 94 (.agg #[(.int .i64 0), (.int .i64 0)]) 16 rfl Tryd.underlying39 info94 rfl (by decide) (by omega) (.slice none 0 0) ([] : List (S94)) l0_5 _ _ _ (fun _ => True) (fun _ => False) rfl rfl ?aO ?aR (fun _ _ h => h) (fun _ h => h.elim) ?aF ?aB ?aS ?aL ?_; (case aR => exact CW_ ((Kd.C_below HR0_5.out HB.out))); (case aB => exact (belW_ HB)); (case aF => exact (fun _ _ => trivial)); (case aO => exact ((Kd.R_nil _ _ _ _ (fun _ => True)))); (case aS => exact (below_size (belW_ HB))); (case aL => have := LMc2.out; omega); intro v453 w7 ho hb hg hat; rw [← Ny452.out] at ho; have HO454 := Aside0.mk (ho); replace BK450 := Aside0.mk (blk_grown (blkW_ BK450) hg (by simp [Value.ownBlock])); replace BK451 := Aside0.mk (blk_grown (blkW_ BK451) hg (by simp [Value.ownBlock])); replace HB := Aside0.mk (hb); clear ho hb hg hat; obtain ⟨Ao8, co8, eo8⟩ := Kd.R_slice HO454.out; subst eo8; have hz_ := blk9_ BK450.out; have hz_ := blk9_ BK451.out) | ((with_reducible refine gate_store (t := 41) (p := 2) rfl ?_); refine store_event (t := 41) (p := 2) (v := ?vo_w11) (w1 := ((((((((((w7.setCell ⟨gb450, 5, none⟩ (.slice Ao8 y452.length co8)).setCell ⟨gb451, 0, none⟩ (.int .i64 a0_0)).setCell ⟨gb451, 1, none⟩ (.int .i64 a0_1)).setCell ⟨gb451, 2, none⟩ (.int .i64 a0_2)).setCell ⟨gb451, 3, none⟩ (.int .i64 a0_3)).setCell ⟨gb451, 4, none⟩ (.string a0_4)).setCell ⟨gb451, 5, none⟩ (.slice Ao8 y452.length co8)).setCell ⟨gb451, 6, none⟩ (.int .i64 a0_6)).setCell ⟨gb451, 7, none⟩ (.int .i64 a0_7)).setCell ⟨gb451, 8, none⟩ (.bool a0_8))) ?hg ?ho ?hn ?hr ?_; (case ho => rfl); (case hg => rfl); (case hn => rfl); (case hr => first | (go_simp; done) | (go_simp; rfl)); intro w11 hw; have n0_ : Aside0 (Kd.R k94 94 w11 w.heap.size (fun _ => True) (.slice Ao8 y452.length co8) y452) := ⟨(by rw [hw]; exact (RW_ <| Kd.R_mono (Kd.R_far (p := ⟨gb451, 8, none⟩) (Kd.R_far (p := ⟨gb451, 7, none⟩) (Kd.R_far (p := ⟨gb451, 6, none⟩) (Kd.R_far (p := ⟨gb451, 5, none⟩) (Kd.R_far (p := ⟨gb451, 4, none⟩) (Kd.R_far (p := ⟨gb451, 3, none⟩) (Kd.R_far (p := ⟨gb451, 2, none⟩) (Kd.R_far (p := ⟨gb451, 1, none⟩) (Kd.R_far (p := ⟨gb451, 0, none⟩) (Kd.R_far (p := ⟨gb450, 5, none⟩) (Kd.R_types (Kd.R_types HO454.out BK450.out (by decide)) BK451.out (by decide)) (fun _ hk => hk.1.2) (.slice Ao8 y452.length co8)) (fun _ hk => hk.2) (.int .i64 a0_0)) (fun _ hk => hk.2) (.int .i64 a0_1)) (fun _ hk => hk.2) (.int .i64 a0_2)) (fun _ hk => hk.2) (.int .i64 a0_3)) (fun _ hk => hk.2) (.string a0_4)) (fun _ hk => hk.2) (.slice Ao8 y452.length co8)) (fun _ hk => hk.2) (.int .i64 a0_6)) (fun _ hk => hk.2) (.int .i64 a0_7)) (fun _ hk => hk.2) (.bool a0_8)) (fun _ hk => trivial)))⟩; have n1_ : Aside0 (w11.heap[gb450]? = some (.cells #[.int .i64 a0_0, .int .i64 a0_1, .int .i64 a0_2, .int .i64 a0_3, .string a0_4, .slice Ao8 y452.length co8, .int .i64 a0_6, .int .i64 a0_7, .bool a0_8] 41 (0, 0))) := ⟨(by rw [hw]; exact (by (with_reducible repeat (first | refine blk_drewN ?_ _ | refine blk_drew ?_ | refine blk_alloc ?_ _)); refine blk_far ?_ NB450_451.out _; (with_reducible repeat (first | refine blk_drewN ?_ _ | refine blk_drew ?_ | refine blk_alloc ?_ _)); refine blk_far ?_ NB450_451.out _; (with_reducible repeat (first | refine blk_drewN ?_ _ | refine blk_drew ?_ | refine blk_alloc ?_ _)); refine blk_far ?_ NB450_451.out _; (with_reducible repeat (first | refine blk_drewN ?_ _ | refine blk_drew ?_ | refine blk_alloc ?_ _)); refine blk_far ?_ NB450_451.out _; (with_reducible repeat (first | refine blk_drewN ?_ _ | refine blk_drew ?_ | refine blk_alloc ?_ _)); refine blk_far ?_ NB450_451.out _; (with_reducible repeat (first | refine blk_drewN ?_ _ | refine blk_drew ?_ | refine blk_alloc ?_ _)); refine blk_far ?_ NB450_451.out _; (with_reducible repeat (first | refine blk_drewN ?_ _ | refine blk_drew ?_ | refine blk_alloc ?_ _)); refine blk_far ?_ NB450_451.out _; (with_reducible repeat (first | refine blk_drewN ?_ _ | refine blk_drew ?_ | refine blk_alloc ?_ _)); refine blk_far ?_ NB450_451.out _; (with_reducible repeat (first | refine blk_drewN ?_ _ | refine blk_drew ?_ | refine blk_alloc ?_ _)); refine blk_far ?_ NB450_451.out _; (with_reducible repeat (first | refine blk_drewN ?_ _ | refine blk_drew ?_ | refine blk_alloc ?_ _)); refine blk_put (cs := #[.int .i64 a0_0, .int .i64 a0_1, .int .i64 a0_2, .int .i64 a0_3, .string a0_4, .slice A0_5 l0_5.length c0_5, .int .i64 a0_6, .int .i64 a0_7, .bool a0_8]) ?_ 5 _ rfl; (with_reducible repeat (first | refine blk_drewN ?_ _ | refine blk_drew ?_ | refine blk_alloc ?_ _)); exact BK450.out))⟩; have n2_ : Aside0 (w11.heap[gb451]? = some (.cells #[.int .i64 a0_0, .int .i64 a0_1, .int .i64 a0_2, .int .i64 a0_3, .string a0_4, .slice Ao8 y452.length co8, .int .i64 a0_6, .int .i64 a0_7, .bool a0_8] 41 (0, 0))) := ⟨(by rw [hw]; exact (by (with_reducible repeat (first | refine blk_drewN ?_ _ | refine blk_drew ?_ | refine blk_alloc ?_ _)); refine blk_put (cs := #[.int .i64 a0_0, .int .i64 a0_1, .int .i64 a0_2, .int .i64 a0_3, .string a0_4, .slice Ao8 y452.length co8, .int .i64 a0_6, .int .i64 a0_7, .bool false]) ?_ 8 _ rfl; (with_reducible repeat (first | refine blk_drewN ?_ _ | refine blk_drew ?_ | refine blk_alloc ?_ _)); refine blk_put (cs := #[.int .i64 a0_0, .int .i64 a0_1, .int .i64 a0_2, .int .i64 a0_3, .string a0_4, .slice Ao8 y452.length co8, .int .i64 a0_6, .int .i64 0, .bool false]) ?_ 7 _ rfl; (with_reducible repeat (first | refine blk_drewN ?_ _ | refine blk_drew ?_ | refine blk_alloc ?_ _)); refine blk_put (cs := #[.int .i64 a0_0, .int .i64 a0_1, .int .i64 a0_2, .int .i64 a0_3, .string a0_4, .slice Ao8 y452.length co8, .int .i64 0, .int .i64 0, .bool false]) ?_ 6 _ rfl; (with_reducible repeat (first | refine blk_drewN ?_ _ | refine blk_drew ?_ | refine blk_alloc ?_ _)); refine blk_put (cs := #[.int .i64 a0_0, .int .i64 a0_1, .int .i64 a0_2, .int .i64 a0_3, .string a0_4, .slice none 0 0, .int .i64 0, .int .i64 0, .bool false]) ?_ 5 _ rfl; (with_reducible repeat (first | refine blk_drewN ?_ _ | refine blk_drew ?_ | refine blk_alloc ?_ _)); refine blk_put (cs := #[.int .i64 a0_0, .int .i64 a0_1, .int .i64 a0_2, .int .i64 a0_3, .string (⟨#[]⟩ : ByteArray), .slice none 0 0, .int .i64 0, .int .i64 0, .bool false]) ?_ 4 _ rfl; (with_reducible repeat (first | refine blk_drewN ?_ _ | refine blk_drew ?_ | refine blk_alloc ?_ _)); refine blk_put (cs := #[.int .i64 a0_0, .int .i64 a0_1, .int .i64 a0_2, .int .i64 0, .string (⟨#[]⟩ : ByteArray), .slice none 0 0, .int .i64 0, .int .i64 0, .bool false]) ?_ 3 _ rfl; (with_reducible repeat (first | refine blk_drewN ?_ _ | refine blk_drew ?_ | refine blk_alloc ?_ _)); refine blk_put (cs := #[.int .i64 a0_0, .int .i64 a0_1, .int .i64 0, .int .i64 0, .string (⟨#[]⟩ : ByteArray), .slice none 0 0, .int .i64 0, .int .i64 0, .bool false]) ?_ 2 _ rfl; (with_reducible repeat (first | refine blk_drewN ?_ _ | refine blk_drew ?_ | refine blk_alloc ?_ _)); refine blk_put (cs := #[.int .i64 a0_0, .int .i64 0, .int .i64 0, .int .i64 0, .string (⟨#[]⟩ : ByteArray), .slice none 0 0, .int .i64 0, .int .i64 0, .bool false]) ?_ 1 _ rfl; (with_reducible repeat (first | refine blk_drewN ?_ _ | refine blk_drew ?_ | refine blk_alloc ?_ _)); refine blk_put (cs := #[.int .i64 0, .int .i64 0, .int .i64 0, .int .i64 0, .string (⟨#[]⟩ : ByteArray), .slice none 0 0, .int .i64 0, .int .i64 0, .bool false]) ?_ 0 _ rfl; (with_reducible repeat (first | refine blk_drewN ?_ _ | refine blk_drew ?_ | refine blk_alloc ?_ _)); refine blk_far ?_ NB451_450.out _; (with_reducible repeat (first | refine blk_drewN ?_ _ | refine blk_drew ?_ | refine blk_alloc ?_ _)); exact BK451.out))⟩; have n3_ : Aside0 (Below w.heap.size w w11) := ⟨(by rw [hw]; exact (belW_ HB))⟩; clear hw; clear HO454; clear BK450; clear BK451; clear HB; have HO454 := n0_; have BK450 := n1_; have BK451 := n2_; have HB := n3_; clear n0_ n1_ n2_ n3_))
  refine bodyPost_ret (results_cell_row rfl _ _ gb451 41 #[.int .i64 a0_0, .int .i64 a0_1, .int .i64 a0_2, .int .i64 a0_3, .string a0_4, .slice Ao8 y452.length co8, .int .i64 a0_6, .int .i64 a0_7, .bool a0_8] (0, 0) _ rfl (blkW_ BK451) Tryd.underlying41 rfl (by kernel_rfl)) rfl ?_
  exact ⟨_, rs_, RW_ <| HO454.out, belW_ HB⟩
 ·rw [if_neg c2] at H
  exact absurd H (by simp)

def redraftref05_context.f  : Option ((List (S154))) := some (([(⟨0, 0, 2097152⟩ : S154)] : List (S154)))
set_option maxHeartbeats 8000000 in
set_option maxRecDepth 100000 in
theorem redraftref05_context.calls  (r : List (S154)) (w : World) (h : redraftref05_context.f  = some r) :
 Calls Tryd.prog 104 #[] w fun e w' => ∃ v0_ : Value, e = .returned (v0_) ∧ Kd.R k154 154 w' w.heap.size (fun _ => True) v0_ r ∧ Below w.heap.size w w' := by
 have hu154 := Tryd.underlying154
 have HB := Aside0.mk (Below.refl w.heap.size w)
 have H : (some (([(⟨0, 0, 2097152⟩ : S154)] : List (S154)))) = some r := h
 clear h
 obtain ⟨y455, hy455⟩ : ∃ y_ : List (S154), y_ = (([(⟨0, 0, 2097152⟩ : S154)] : List (S154))) := ⟨_, rfl⟩
 replace H : (some y455) = some r := by first | (rw [hy455]; with_reducible exact H) | (have H2_ := (Option.bind_some _ _).symm.trans H; rw [hy455]; with_reducible exact H2_) | (have H2_ := (Option.bind_some _ _).symm.trans H; with_reducible exact H2_) | with_reducible exact H | (rw [hy455]; exact H) | exact H
 have Ny455 := Aside0.mk hy455
 clear hy455
 obtain rfl := Option.some.inj H
 go_enter Tryd.func104, Tryd.ntmps104
 go_wp2_with (((with_reducible refine gate_dst (N := 2) rfl ?_); refine Kd.R_lit k154 _ 154 ?hg (N := 2) ?hd (xs := ([(⟨0, 0, 2097152⟩ : S154)] : List (S154))) (inner := [.int .i64 0, .int .i64 0, .int .i64 2097152]) (ok := fun _ => True) (okp := fun _ => True) ?hr ?hp (fun _ hk => hk) trivial (Below.refl _ _) (Nat.le_refl _) (by simp) ?_; (case hd => rfl); (case hg => rfl); (case hr => first | (go_simp; done) | (go_simp; rfl)); (case hp => exact (Reps.c3 (show Kd.M k154 _ _ _ (⟨0, 0, 2097152⟩ : S154) [.int .i64 0, .int .i64 0, .int .i64 2097152] from (k154_mkM _ _ _ (⟨0, 0, 2097152⟩ : S154) )) (Reps.none _ _))); intro v456 w1 ho2 hb hg_ hnew_; clear hg_ hnew_; (first | rw [← Ny455.out] at ho2 | (simp only [Int.reduceToNat] at ho2; rw [← Ny455.out] at ho2)); have HO457 := Aside0.mk (Kd.R_lower ho2 (below_size (belW_ HB))); replace HB := belB_ HB hb; clear hb ho2))
 go_ret
 exact ⟨_, rs_, RW_ <| HO457.out, belW_ HB⟩

def redraftref04_Width.f (k : Nat) (a0_0 : Int) (a0_1 : Int) (a0_2 : Int) (a0_3 : Int) (a0_4 : ByteArray) (l0_5 : List (S94)) (a0_6 : Int) (a0_7 : Int) (a0_8 : Bool) : Option (Int) := if a0_2 = 1 then ((redraftref01_Check.f k a0_4).bind fun bt459 => (if bt459.2.2 = 0 then (some bt459.1) else (some 0))) else (some 0)
set_option maxHeartbeats 8000000 in
set_option maxRecDepth 100000 in
theorem redraftref04_Width.calls (k : Nat) (a0_0 : Int) (a0_1 : Int) (a0_2 : Int) (a0_3 : Int) (a0_4 : ByteArray) (A0_5 : Option Addr) (c0_5 : Nat) (l0_5 : List (S94)) (a0_6 : Int) (a0_7 : Int) (a0_8 : Bool) (r : Int) (w : World) (hr0_5 : Kd.C k94 w A0_5 l0_5.length l0_5) (hc0_5 : l0_5.length ≤ c0_5) (h : redraftref04_Width.f k a0_0 a0_1 a0_2 a0_3 a0_4 l0_5 a0_6 a0_7 a0_8 = some r) :
 Calls Tryd.prog 105 #[.agg #[.int .i64 a0_0, .int .i64 a0_1, .int .i64 a0_2, .int .i64 a0_3, .string a0_4, .slice A0_5 l0_5.length c0_5, .int .i64 a0_6, .int .i64 a0_7, .bool a0_8]] w fun e w' => e = .returned (.int .i64 r) ∧ Below w.heap.size w w' := by
 have hu41 := Tryd.underlying41
 have HR0_5 := Aside0.mk hr0_5
 have HC0_5 := Aside0.mk hc0_5
 clear hr0_5 hc0_5
 have HB := Aside0.mk (Below.refl w.heap.size w)
 have H : (if a0_2 = 1 then ((redraftref01_Check.f k a0_4).bind fun bt459 => (if bt459.2.2 = 0 then (some bt459.1) else (some 0))) else (some 0)) = some r := h
 clear h
 by_cases c2 : a0_2 = 1
 ·rw [if_pos c2] at H
  have c2b0 := beq_iff_eq.mpr c2
  have c2b1 := bne_eq_false_iff_eq.mpr c2
  clear c2
  replace H := Option.bind_eq_some_iff.mp H
  obtain ⟨⟨t459, t460, t461⟩, A30, H⟩ := H
  try dsimp only at H
  have A3 := Aside0.mk A30
  clear A30
  by_cases c4 : t461 = 0
  ·rw [if_pos c4] at H
   have c4b0 := beq_iff_eq.mpr c4
   have c4b1 := bne_eq_false_iff_eq.mpr c4
   clear c4
   obtain rfl := Option.some.inj H
   go_enter Tryd.func105, Tryd.ntmps105
   go_wp2_with (first | ((with_reducible refine gate_dst (N := 1) rfl ?_); refine bxE_ 1 41 #[.int .i64 a0_0, .int .i64 a0_1, .int .i64 a0_2, .int .i64 a0_3, .string a0_4, .slice A0_5 l0_5.length c0_5, .int .i64 a0_6, .int .i64 a0_7, .bool a0_8] ?_; intro gb458 hg w5 hbox hb; have BK458 := Aside0.mk (hbox); have GW458 := gee_ hg HB; have GE458 := gee_ hg HB; replace HB := belB_ HB hb; clear hb hbox hg; have hz_ := blk9_ BK458.out) | ((with_reducible refine gate_callee (f := 115) rfl ?_); refine goS_ 13 rfl Tryd.func115 #[.string a0_4] ?_; (with_reducible refine (redraftref01_Check.calls k a0_4 t459 t460 t461 _ A3.out).mono ?_); rintro e w7 ⟨rfl, hb⟩; refine ⟨_, rfl, ?_⟩; replace BK458 := blkB_ BK458 hb; replace HB := belB_ HB hb; try clear hb))
   go_ret
   exact ⟨rs_, belW_ HB⟩
  ·rw [if_neg c4] at H
   have c4b0 := beq_eq_false_iff_ne.mpr c4
   have c4b1 := bne_iff_ne.mpr c4
   obtain rfl := Option.some.inj H
   go_enter Tryd.func105, Tryd.ntmps105
   go_wp2_with (first | ((with_reducible refine gate_dst (N := 1) rfl ?_); refine bxE_ 1 41 #[.int .i64 a0_0, .int .i64 a0_1, .int .i64 a0_2, .int .i64 a0_3, .string a0_4, .slice A0_5 l0_5.length c0_5, .int .i64 a0_6, .int .i64 a0_7, .bool a0_8] ?_; intro gb458 hg w8 hbox hb; have BK458 := Aside0.mk (hbox); have GW458 := gee_ hg HB; have GE458 := gee_ hg HB; replace HB := belB_ HB hb; clear hb hbox hg; have hz_ := blk9_ BK458.out) | ((with_reducible refine gate_callee (f := 115) rfl ?_); refine goS_ 13 rfl Tryd.func115 #[.string a0_4] ?_; (with_reducible refine (redraftref01_Check.calls k a0_4 t459 t460 t461 _ A3.out).mono ?_); rintro e w10 ⟨rfl, hb⟩; refine ⟨_, rfl, ?_⟩; replace BK458 := blkB_ BK458 hb; replace HB := belB_ HB hb; try clear hb))
   go_ret
   exact ⟨rs_, belW_ HB⟩
 ·rw [if_neg c2] at H
  have c2b0 := beq_eq_false_iff_ne.mpr c2
  have c2b1 := bne_iff_ne.mpr c2
  obtain rfl := Option.some.inj H
  go_enter Tryd.func105, Tryd.ntmps105
  go_wp2_with (((with_reducible refine gate_dst (N := 1) rfl ?_); refine bxE_ 1 41 #[.int .i64 a0_0, .int .i64 a0_1, .int .i64 a0_2, .int .i64 a0_3, .string a0_4, .slice A0_5 l0_5.length c0_5, .int .i64 a0_6, .int .i64 a0_7, .bool a0_8] ?_; intro gb458 hg w11 hbox hb; have BK458 := Aside0.mk (hbox); have GW458 := gee_ hg HB; have GE458 := gee_ hg HB; replace HB := belB_ HB hb; clear hb hbox hg; have hz_ := blk9_ BK458.out))
  go_ret
  exact ⟨rs_, belW_ HB⟩

end Go.Proofs.YtloccjkcmlkifaaDoor.PAll
