/- XformBrings_card, part 32. -/
import Derived.Test.YtloccjkcmlkifaaDoorQBr19

namespace Go.Proofs.YtloccjkcmlkifaaDoor.PAll
open Go.RowKit Go.Proofs.YtloccjkcmlkifaaDoorW.PrintWords Go.Proofs.YtloccjkcmlkifaaDoorW.PrintLast Go.Proofs.YtloccjkcmlkifaaDoorW.PrintMore
attribute [local go_sem] max2_int min2_int max_two min_two max_three min_three max_four min_four   -- for this text's walks alone
set_option linter.unusedVariables false
set_option linter.unusedSimpArgs false

attribute [local go_sem high] idx34_0 idx34_1 idx35_0 idx35_1
mutual
def redraftref02_Sorted.l0 : Nat → List Int → List Int → List Int → Int → Int → Option (List Int)
 | 0, _, _, _, _, _ => none
 | k + 1, x3, x4, x5, x6, x7 => if x6 < (x3.length : Int) then (redraftref02_Sorted.j1 k x3 x4 x5 x6 x7 true) else (redraftref02_Sorted.j1 k x3 x4 x5 x6 x7 (decide (x7 < (x4.length : Int))))
def redraftref02_Sorted.j1 : Nat → List Int → List Int → List Int → Int → Int → Bool → Option (List Int)
 | 0, _, _, _, _, _, _ => none
 | k + 1, x3, x4, x5, x6, x7, x37 => if x37 = true then (if x7 ≥ (x4.length : Int) then (if 0 ≤ x6 then (if x6 < (x3.length : Int) then (if x5.length < 17592186044416 then (redraftref02_Sorted.l0 k x3 x4 (x5 ++ [rd x3 x6]) (wrap64 (x6 + 1)) x7) else (none)) else (none)) else (none)) else (if x6 < (x3.length : Int) then (if 0 ≤ x6 then (if 0 ≤ x7 then (if x7 < (x4.length : Int) then (if (rd x3 x6) ≤ (rd x4 x7) then (if x5.length < 17592186044416 then (redraftref02_Sorted.l0 k x3 x4 (x5 ++ [rd x3 x6]) (wrap64 (x6 + 1)) x7) else (none)) else (if x5.length < 17592186044416 then (redraftref02_Sorted.l0 k x3 x4 (x5 ++ [rd x4 x7]) x6 (wrap64 (x7 + 1))) else (none))) else (none)) else (none)) else (none)) else (if 0 ≤ x7 then (if x7 < (x4.length : Int) then (if x5.length < 17592186044416 then (redraftref02_Sorted.l0 k x3 x4 (x5 ++ [rd x4 x7]) x6 (wrap64 (x7 + 1))) else (none)) else (none)) else (none)))) else (some x5)
def redraftref02_Sorted.f : Nat → List Int → Option (List Int)
 | 0, _ => none
 | k + 1, l0 => if (l0.length : Int) < 2 then (if ([] : List Int).length + l0.length < 17592186044416 then (some (([] : List Int) ++ l0)) else (none)) else (if 0 ≤ (wrap64 ((l0.length : Int) / 2)) then (if (wrap64 ((l0.length : Int) / 2)) ≤ (l0.length : Int) then ((redraftref02_Sorted.f k (l0.take ((wrap64 ((l0.length : Int) / 2)) : Int).toNat)).bind fun t355 => ((redraftref02_Sorted.f k (l0.drop ((wrap64 ((l0.length : Int) / 2)) : Int).toNat)).bind fun t359 => (if l0.length ≤ 35184372088832 then (redraftref02_Sorted.l0 k t355 t359 (([] : List Int)) 0 0) else (none)))) else (none)) else (none))
end
set_option maxHeartbeats 8000000 in
set_option maxRecDepth 100000 in
theorem redraftref02_Sorted.calls (k : Nat) : ∀ (A0 : Option Addr) (c0 : Nat) (l0 : List Int) (r : List Int) (w : World) (hr0 : Kd.C (Kd.int .i64) w A0 l0.length l0) (hc0 : l0.length ≤ c0) (h : redraftref02_Sorted.f k l0 = some r),
 Calls Tryd.prog 125 #[.slice A0 l0.length c0] w fun e w' => ∃ v0_ : Value, e = .returned (v0_) ∧ Kd.R (Kd.int .i64) 3 w' w.heap.size (fun _ => True) v0_ r ∧ Below w.heap.size w w' := by
 induction k using Nat.strongRecOn with
 | _ k ih =>
 intro A0 c0 l0 r w hr0 hc0 h
 cases k with
 | zero => exact absurd h (by simp [redraftref02_Sorted.f])
 | succ k =>
 simp only [redraftref02_Sorted.f] at h
 have HR0 := Aside0.mk hr0
 have HC0 := Aside0.mk hc0
 clear hr0 hc0
 have HB := Aside0.mk (Below.refl w.heap.size w)
 have H : (if (l0.length : Int) < 2 then (if ([] : List Int).length + l0.length < 17592186044416 then (some (([] : List Int) ++ l0)) else (none)) else (if 0 ≤ (wrap64 ((l0.length : Int) / 2)) then (if (wrap64 ((l0.length : Int) / 2)) ≤ (l0.length : Int) then ((redraftref02_Sorted.f k (l0.take ((wrap64 ((l0.length : Int) / 2)) : Int).toNat)).bind fun t355 => ((redraftref02_Sorted.f k (l0.drop ((wrap64 ((l0.length : Int) / 2)) : Int).toNat)).bind fun t359 => (if l0.length ≤ 35184372088832 then (redraftref02_Sorted.l0 k t355 t359 (([] : List Int)) 0 0) else (none)))) else (none)) else (none))) = some r := h
 clear h
 by_cases c2 : (l0.length : Int) < 2
 ·rw [if_pos c2] at H
  have c2b0 := decide_eq_true c2
  have c2b1 : decide (l0.length < 2) = true := decide_eq_true (by omega)
  clear c2
  by_cases c3 : ([] : List Int).length + l0.length < 17592186044416
  ·rw [if_pos c3] at H
   have LMc3 := Aside0.mk c3
   clear c3
   obtain ⟨y351, hy351⟩ : ∃ y_ : List Int, y_ = (([] : List Int) ++ l0) := ⟨_, rfl⟩
   replace H : (some y351) = some r := by first | (rw [hy351]; with_reducible exact H) | (have H2_ := (Option.bind_some _ _).symm.trans H; rw [hy351]; with_reducible exact H2_) | (have H2_ := (Option.bind_some _ _).symm.trans H; with_reducible exact H2_) | with_reducible exact H | (rw [hy351]; exact H) | exact H
   have Ny351 := Aside0.mk hy351
   clear hy351
   obtain rfl := Option.some.inj H
   go_enter Tryd.func125, Tryd.ntmps125
   go_wp2_with (((with_reducible refine gate_builtin (b := .append) (xs := #[.const (.slice none 0 0), .tmp 11]) rfl ?_); (try (refine gate_guard (by rfl) ?_; dsimp only)); at_builtin; refine Kd.R_append_rows (Kd.int .i64) (w0 := w) w.heap.size rfl (.const (.slice none 0 0)) (.tmp 11) 23 3 (.int .i64 0) 8 rfl Tryd.underlying23 info3 rfl (by decide) (by omega) (.slice none 0 0) ([] : List Int) l0 _ _ _ (fun _ => True) (fun _ => False) rfl rfl ?aO ?aR (fun _ _ h => h) (fun _ h => h.elim) ?aF ?aB ?aS ?aL ?_; (case aR => exact CW_ (HR0.out)); (case aB => exact (belW_ HB)); (case aF => exact (fun _ _ => trivial)); (case aO => exact ((Kd.R_nil _ _ _ _ (fun _ => True)))); (case aS => exact (below_size (belW_ HB))); (case aL => have := LMc3.out; omega); intro v352 w4 ho hb hg hat; rw [← Ny351.out] at ho; have HO353 := Aside0.mk (ho); replace HB := Aside0.mk (hb); clear ho hb hg hat))
   repeat (go_quiet (fail); try go_wp2_with (fail))
   go_ret
   exact ⟨_, rs_, RW_ <| HO353.out, belW_ HB⟩
  ·rw [if_neg c3] at H
   exact absurd H (by simp)
 ·rw [if_neg c2] at H
  have c2b0 := decide_eq_false c2
  have c2b1 : decide (l0.length < 2) = false := decide_eq_false (by omega)
  clear c2
  obtain ⟨ji5, hji5⟩ : ∃ j_ : Int, (wrap64 ((l0.length : Int) / 2)) = j_ := ⟨_, rfl⟩
  replace H : (if 0 ≤ (ji5) then (if (ji5) ≤ (l0.length : Int) then ((redraftref02_Sorted.f k (l0.take ((ji5) : Int).toNat)).bind fun t355 => ((redraftref02_Sorted.f k (l0.drop ((ji5) : Int).toNat)).bind fun t359 => (if l0.length ≤ 35184372088832 then (redraftref02_Sorted.l0 k t355 t359 (([] : List Int)) 0 0) else (none)))) else (none)) else (none)) = some r := by first | (rw [hji5] at H; exact H) | (simp only [hji5] at H ⊢; exact H)
  have hji5w : (IntKind.i64.wrap ((l0.length : Int) / 2)) = ji5 := (i64_w _).trans hji5
  by_cases c6 : 0 ≤ (ji5)
  ·rw [if_pos c6] at H
   have c6b0 := eq_true c6
   have c6b1 := decide_eq_true c6
   clear c6
   by_cases c7 : (ji5) ≤ (l0.length : Int)
   ·rw [if_pos c7] at H
    have c7b0 := eq_true c7
    have c7b1 := decide_eq_true c7
    clear c7
    replace H := Option.bind_eq_some_iff.mp H
    obtain ⟨t355, A80, H⟩ := H
    try dsimp only at H
    have A8 := Aside0.mk A80
    clear A80
    have c9b0 := eq_true (of_decide_eq_true (by first | (with_reducible assumption) | assumption) : 0 ≤ (ji5))
    have c10b0 := eq_true (of_decide_eq_true (by first | (with_reducible assumption) | assumption) : (ji5) ≤ (l0.length : Int))
    replace H := Option.bind_eq_some_iff.mp H
    obtain ⟨t359, A110, H⟩ := H
    try dsimp only at H
    have A11 := Aside0.mk A110
    clear A110
    by_cases c12 : l0.length ≤ 35184372088832
    ·rw [if_pos c12] at H
     have c12b0 := eq_true c12
     have c12b1 := decide_eq_true c12
     clear c12
     obtain ⟨y362, hy362⟩ : ∃ y_ : List Int, y_ = (([] : List Int)) := ⟨_, rfl⟩
     replace H : (redraftref02_Sorted.l0 k t355 t359 y362 0 0) = some r := by first | (rw [hy362]; with_reducible exact H) | (have H2_ := (Option.bind_some _ _).symm.trans H; rw [hy362]; with_reducible exact H2_) | (have H2_ := (Option.bind_some _ _).symm.trans H; with_reducible exact H2_) | with_reducible exact H | (rw [hy362]; exact H) | exact H
     have Ny362 := Aside0.mk hy362
     clear hy362
     have H' := Aside0.mk H
     clear H
     obtain ⟨i013, hi013, _, hsz13, _⟩ := info_parts info3
     obtain ⟨hcut13, hA13, hC13⟩ := print_take_of (P := Tryd.prog) (Value.int .i64) 0 23 3 .i64 Tryd.underlying23 hi013 hsz13 A0 c0 l0 (ji5) (of_decide_eq_true (by first | (with_reducible assumption) | assumption)) (of_decide_eq_true (by first | (with_reducible assumption) | assumption)) HC0.out
     have HR354 := Aside0.mk (Kd.C_of_reads (h1 := fun _ => rfl) (hA13 _ (Kd.reads_of_C HR0.out)))
     have HC354 := Aside0.mk hC13
     clear hA13 hC13 hi013 hsz13
     go_enter Tryd.func125, Tryd.ntmps125
     go_wp2_with (first | (go_at_call 125; refine calls_of_args (args' := #[.slice _ (l0.take ((ji5) : Int).toNat).length _]) (by first | rfl | (rw [List.length_drop]) | (rw [List.length_take, Nat.min_eq_left (Int.toNat_le.mpr (of_decide_eq_true (by first | (with_reducible assumption) | assumption)))])) ?_; (with_reducible refine (ih k (by omega) _ _ (l0.take ((ji5) : Int).toNat) t355 _ ?side1 ?side2 A8.out).mono ?_); (case side1 => exact CW_ (HR354.out)); (case side2 => exact HC354.out); rintro e w14 ⟨v356, rfl, ho0, hb⟩; have HO357 := Aside0.mk (Kd.R_lower ho0 (below_size (belW_ HB))); replace HB := belB_ HB hb; try clear hb; (try clear ho0); obtain ⟨i015, hi015, _, hsz15, _⟩ := info_parts info3; obtain ⟨A15, hcut15, hA15, hC15⟩ := print_drop_of (P := Tryd.prog) (Value.int .i64) 0 23 3 .i64 Tryd.underlying23 hi015 hsz15 A0 c0 l0 (ji5) (of_decide_eq_true (by first | (with_reducible assumption) | assumption)) (of_decide_eq_true (by first | (with_reducible assumption) | assumption)) HC0.out; have HR358 := Aside0.mk (Kd.C_of_reads (h1 := fun _ => rfl) (hA15 _ (Kd.reads_of_C HR0.out))); have HC358 := Aside0.mk hC15; clear hA15 hC15 hi015 hsz15) | (go_at_call 125; refine calls_of_args (args' := #[.slice _ (l0.drop ((ji5) : Int).toNat).length _]) (by first | rfl | (rw [List.length_drop]) | (rw [List.length_take, Nat.min_eq_left (Int.toNat_le.mpr (of_decide_eq_true (by first | (with_reducible assumption) | assumption)))])) ?_; (with_reducible refine (ih k (by omega) _ _ (l0.drop ((ji5) : Int).toNat) t359 _ ?side1 ?side2 A11.out).mono ?_); (case side1 => exact CW_ ((Kd.C_below HR358.out HB.out))); (case side2 => exact HC358.out); rintro e w16 ⟨v360, rfl, ho0, hb⟩; have HO361 := Aside0.mk (Kd.R_lower (Kd.R_new' ho0 (Kd.R_lt (RW_ <| HO357.out))) (below_size (belW_ HB))); replace HO357 := Aside0.mk (Kd.R_elder' (RW_ <| HO357.out) (Kd.R_base ho0) hb); replace HB := belB_ HB hb; try clear hb; (try clear ho0)) | ((with_reducible refine gate_dst (N := 27) rfl ?_); (try (refine gate_guard (by rfl) ?_; dsimp only)); refine R_make0 (Kd.int .i64) _ 3 rfl (N := 27) rfl 23 _ _ rfl l0.length rfl rfl Tryd.underlying23 (.int .i64 0) 8 info3 rfl (by decide) (by omega) (ok := fun _ => True) (okp := fun _ => True) (fun _ hk => hk) trivial (Nat.le_trans (Nat.mul_le_mul_right _ (of_decide_eq_true (by first | (with_reducible assumption) | assumption) : l0.length ≤ 35184372088832)) (by omega)) (Below.refl _ _) (Nat.le_refl _) ?_; intro v363 w17 ho18 hb hg_ hnew_; clear hg_ hnew_; (first | rw [← Ny362.out] at ho18 | (simp only [Int.reduceToNat] at ho18; rw [← Ny362.out] at ho18)); have HO364 := Aside0.mk (Kd.R_lower (Kd.R_new' (Kd.R_new' ho18 (Kd.R_lt (RW_ <| HO357.out))) (Kd.R_lt (RW_ <| HO361.out))) (below_size (belW_ HB))); replace HO357 := Aside0.mk (Kd.R_elder' (RW_ <| HO357.out) (Kd.R_base ho18) hb); replace HO361 := Aside0.mk (Kd.R_elder' (RW_ <| HO361.out) (Kd.R_base ho18) hb); replace HB := belB_ HB hb; clear hb ho18))
     repeat (go_quiet (fail); try go_wp2_with (fail))
     go_loopg [5, 6, 7] k (fun kq v5 v6 v7 w' => ∃ (x5_1 : List Int) (x6_1 : Int) (x7_1 : Int), v6 = .int .i64 x6_1 ∧ v7 = .int .i64 x7_1 ∧ Aside0 (redraftref02_Sorted.l0 kq t355 t359 x5_1 x6_1 x7_1 = some r) ∧ Aside0 (kq ≤ k) ∧ Aside0 (Kd.R (Kd.int .i64) 3 w' w.heap.size (fun k_ => some k_ ≠ (v360 : Value).ownBlock ∧ some k_ ≠ (v5 : Value).ownBlock) v356 t355) ∧ Aside0 (Kd.R (Kd.int .i64) 3 w' w.heap.size (fun k_ => some k_ ≠ (v356 : Value).ownBlock ∧ some k_ ≠ (v5 : Value).ownBlock) v360 t359) ∧ Aside0 (Kd.R (Kd.int .i64) 3 w' w.heap.size (fun k_ => some k_ ≠ (v356 : Value).ownBlock ∧ some k_ ≠ (v360 : Value).ownBlock) v5 x5_1) ∧ Aside0 (Below w.heap.size w w'))
     case atStart => exact ⟨(y362), (0), (0), ok_, ok_, H', ⟨Nat.le_refl _⟩, ⟨RW_ <| Kd.R_mono HO357.out (fun _ hk => ⟨hk.1.2, hk.2⟩)⟩, ⟨RW_ <| Kd.R_mono HO361.out (fun _ hk => ⟨hk.1.2, hk.2⟩)⟩, ⟨RW_ <| Kd.R_mono HO364.out (fun _ hk => ⟨hk.1.2, hk.2⟩)⟩, ⟨belW_ HB⟩⟩
     case round =>
      clear H'
      try clear c1
      try clear c2
      try clear c2b0
      try clear c2b1
      try clear p2
      try clear c3
      try clear c6
      try clear c6b0
      try clear c6b1
      try clear p6
      try clear c7
      try clear c7b0
      try clear c7b1
      try clear c9
      try clear c9b0
      try clear c10
      try clear c10b0
      try clear c12
      try clear c12b0
      try clear c12b1
      obtain ⟨x5_1, x6_1, x7_1, rfl, rfl, HA, HK1, HO_3, HO_4, HO_5, HB⟩ := hrel
      cases gk with
      | zero => exact absurd HA.out (by simp [redraftref02_Sorted.l0])
      | succ k1 =>
       have H := HA.out
       clear HA
       simp only [redraftref02_Sorted.l0] at H
       have HC19 := Aside0.mk H
       clear H
       go_upto_region 8 with (fail)
       repeat (go_quiet (fail); go_upto_region 8 with (fail))
       go_cut [37] (fun v37 wc => ∃ (kq : Nat) (x37_18 : Bool), v37 = .bool x37_18 ∧ Aside0 (redraftref02_Sorted.j1 kq t355 t359 x5_1 x6_1 x7_1 x37_18 = some r) ∧ Aside0 (kq ≤ k1) ∧ Aside0 (Kd.R (Kd.int .i64) 3 wc w.heap.size (fun k_ => some k_ ≠ (v360 : Value).ownBlock ∧ some k_ ≠ (u5 : Value).ownBlock) v356 t355) ∧ Aside0 (Kd.R (Kd.int .i64) 3 wc w.heap.size (fun k_ => some k_ ≠ (v356 : Value).ownBlock ∧ some k_ ≠ (u5 : Value).ownBlock) v360 t359) ∧ Aside0 (Kd.R (Kd.int .i64) 3 wc w.heap.size (fun k_ => some k_ ≠ (v356 : Value).ownBlock ∧ some k_ ≠ (v360 : Value).ownBlock) u5 x5_1) ∧ Aside0 (Below w.heap.size w wc))
       case first =>
        have H := HC19.out
        clear HC19
        by_cases c20 : x6_1 < (t355.length : Int)
        ·rw [if_pos c20] at H
         have c20b0 := decide_eq_true c20
         clear c20
         (first | rw [c20b0] | (simp only [i64_w, i32_w]; rw [c20b0]) | rw [c20b1] | skip)
         have H' := Aside0.mk H
         clear H
         obtain ⟨Ao21, co21, eo21⟩ := Kd.R_slice HO_3.out
         subst eo21
         go_wp2
         repeat (go_quiet (fail); try go_wp2)
         go_meet
         case rel => exact ⟨_, (true), ok_, H', ⟨lk_ HK1⟩, ⟨RW_ <| HO_3.out⟩, ⟨RW_ <| HO_4.out⟩, ⟨RW_ <| HO_5.out⟩, ⟨belW_ HB⟩⟩
        ·rw [if_neg c20] at H
         have c20b0 := decide_eq_false c20
         clear c20
         (first | rw [c20b0] | (simp only [i64_w, i32_w]; rw [c20b0]) | rw [c20b1] | skip)
         have H' := Aside0.mk H
         clear H
         obtain ⟨Ao22, co22, eo22⟩ := Kd.R_slice HO_3.out
         subst eo22
         obtain ⟨Ao23, co23, eo23⟩ := Kd.R_slice HO_4.out
         subst eo23
         go_wp2
         repeat (go_quiet (fail); try go_wp2)
         go_meet
         case rel => exact ⟨_, (decide (x7_1 < (t359.length : Int))), ok_, H', ⟨lk_ HK1⟩, ⟨RW_ <| HO_3.out⟩, ⟨RW_ <| HO_4.out⟩, ⟨RW_ <| HO_5.out⟩, ⟨belW_ HB⟩⟩
       case rest =>
        clear HC19
        try clear c1
        try clear c2
        try clear c2b0
        try clear c2b1
        try clear p2
        try clear c3
        try clear c6
        try clear c6b0
        try clear c6b1
        try clear p6
        try clear c7
        try clear c7b0
        try clear c7b1
        try clear c9
        try clear c9b0
        try clear c10
        try clear c10b0
        try clear c12
        try clear c12b0
        try clear c12b1
        try clear p2
        try clear p6
        obtain ⟨kq, x37_18, rfl, HA, HJ18, HO_3, HO_4, HO_5, HB⟩ := hcut
        cases kq with
        | zero => exact absurd HA.out (by simp [redraftref02_Sorted.j1])
        | succ kj18 =>
         have H := HA.out
         clear HA
         simp only [redraftref02_Sorted.j1] at H
         by_cases c24 : x37_18 = true
         ·subst c24
          have H1 := H; rw [if_pos rfl] at H1
          clear H
          have H := H1
          clear H1
          by_cases c25 : x7_1 ≥ (t359.length : Int)
          ·rw [if_pos c25] at H
           have c25b0 : decide ((t359.length : Int) ≤ x7_1) = true := decide_eq_true c25
           clear c25
           by_cases c26 : 0 ≤ x6_1
           ·rw [if_pos c26] at H
            have c26b0 := decide_eq_true c26
            clear c26
            by_cases c27 : x6_1 < (t355.length : Int)
            ·rw [if_pos c27] at H
             have c27b0 := decide_eq_true c27
             clear c27
             by_cases c28 : x5_1.length < 17592186044416
             ·rw [if_pos c28] at H
              have LMc28 := Aside0.mk c28
              clear c28
              obtain ⟨y366, hy366⟩ : ∃ y_ : List Int, y_ = (x5_1 ++ [rd t355 x6_1]) := ⟨_, rfl⟩
              replace H : (redraftref02_Sorted.l0 kj18 t355 t359 y366 (wrap64 (x6_1 + 1)) x7_1) = some r := by first | (rw [hy366]; with_reducible exact H) | (have H2_ := (Option.bind_some _ _).symm.trans H; rw [hy366]; with_reducible exact H2_) | (have H2_ := (Option.bind_some _ _).symm.trans H; with_reducible exact H2_) | with_reducible exact H | (rw [hy366]; exact H) | exact H
              have Ny366 := Aside0.mk hy366
              clear hy366
              have H' := Aside0.mk H
              clear H
              obtain ⟨Ao29, co29, eo29⟩ := Kd.R_slice HO_4.out
              subst eo29
              obtain ⟨Ao30, co30, eo30⟩ := Kd.R_slice HO_3.out
              subst eo30
              have p365 := dz_ (x6_1 : Int)
              have q365 := dl_ x6_1 (t355.length : Int)
              obtain ⟨ad365, e365, hx365_0⟩ := Kd.at_int (Kd.R_reads' HO_3.out).2.2 x6_1 p365 q365
              cases e365
              replace p365 := eq_true p365
              replace q365 := eq_true q365
              go_wp2_with (fail)
              repeat (go_quiet (fail); try go_wp2_with (((with_reducible refine gate_builtin (b := .append) (xs := #[.tmp 59, .tmp 64]) rfl ?_); (try (refine gate_guard (by rfl) ?_; dsimp only)); at_builtin; refine Kd.R_append (Kd.int .i64) (w0 := w) w.heap.size rfl (.tmp 59) (.tmp 64) 23 3 (.int .i64 0) 8 rfl Tryd.underlying23 info3 rfl (by decide) (by omega) u5 x5_1 (rd t355 x6_1) [.int .i64 (rd t355 x6_1)] (fun k_ => some k_ ≠ (.slice (some ad365) t355.length co30 : Value).ownBlock ∧ some k_ ≠ (.slice Ao29 t359.length co29 : Value).ownBlock) (fun _ => False) rfl rfl ?aP (fun _ hk => hk.elim) ?aF ?aO ?aB ?aS ?aL ?_; (case aP => exact rfl); (case aB => exact (belW_ HB)); (case aF => exact (fun k_ hk => ⟨Kd.fresh' (Kd.R_lt (RW_ <| HO_3.out)) k_ hk, Kd.fresh' (Kd.R_lt (RW_ <| HO_4.out)) k_ hk⟩)); (case aO => exact (RW_ <| HO_5.out)); (case aS => exact (below_size (belW_ HB))); (case aL => have := LMc28.out; omega); intro v367 w31 ho hb hg hat; rw [← Ny366.out] at ho; have HO368 := Aside0.mk (ho); replace HO_3 := Aside0.mk (Kd.R_after (ok := (fun k_ => some k_ ≠ (.slice Ao29 t359.length co29 : Value).ownBlock)) (RW_ <| HO_3.out) hg hat); replace HO_4 := Aside0.mk (Kd.R_after (ok := (fun k_ => some k_ ≠ (.slice (some ad365) t355.length co30 : Value).ownBlock)) (RW_ <| HO_4.out) hg hat); replace HB := Aside0.mk (hb); clear HO_5; clear ho hb hg hat)))
              go_roundg kj18
              case measure => have := HK1.out; have := HJ18.out; omega
              case rel => exact ⟨(y366), (wrap64 (x6_1 + 1)), (x7_1), ok_, ok_, H', ⟨by have := HK1.out; have := HJ18.out; omega⟩, ⟨RW_ <| HO_3.out⟩, ⟨RW_ <| HO_4.out⟩, ⟨RW_ <| HO368.out⟩, ⟨belW_ HB⟩⟩
             ·rw [if_neg c28] at H
              exact absurd H (by simp)
            ·rw [if_neg c27] at H
             exact absurd H (by simp)
           ·rw [if_neg c26] at H
            exact absurd H (by simp)
          ·rw [if_neg c25] at H
           have c25b0 : decide ((t359.length : Int) ≤ x7_1) = false := decide_eq_false c25
           clear c25
           by_cases c32 : x6_1 < (t355.length : Int)
           ·rw [if_pos c32] at H
            have c32b0 := decide_eq_true c32
            clear c32
            by_cases c33 : 0 ≤ x6_1
            ·rw [if_pos c33] at H
             have c33b0 := decide_eq_true c33
             clear c33
             by_cases c34 : 0 ≤ x7_1
             ·rw [if_pos c34] at H
              have c34b0 := decide_eq_true c34
              clear c34
              by_cases c35 : x7_1 < (t359.length : Int)
              ·rw [if_pos c35] at H
               have c35b0 := decide_eq_true c35
               clear c35
               by_cases c36 : (rd t355 x6_1) ≤ (rd t359 x7_1)
               ·rw [if_pos c36] at H
                have c36b0 := decide_eq_true c36
                clear c36
                by_cases c37 : x5_1.length < 17592186044416
                ·rw [if_pos c37] at H
                 have LMc37 := Aside0.mk c37
                 clear c37
                 obtain ⟨y372, hy372⟩ : ∃ y_ : List Int, y_ = (x5_1 ++ [rd t355 x6_1]) := ⟨_, rfl⟩
                 replace H : (redraftref02_Sorted.l0 kj18 t355 t359 y372 (wrap64 (x6_1 + 1)) x7_1) = some r := by first | (rw [hy372]; with_reducible exact H) | (have H2_ := (Option.bind_some _ _).symm.trans H; rw [hy372]; with_reducible exact H2_) | (have H2_ := (Option.bind_some _ _).symm.trans H; with_reducible exact H2_) | with_reducible exact H | (rw [hy372]; exact H) | exact H
                 have Ny372 := Aside0.mk hy372
                 clear hy372
                 have H' := Aside0.mk H
                 clear H
                 obtain ⟨Ao38, co38, eo38⟩ := Kd.R_slice HO_4.out
                 subst eo38
                 obtain ⟨Ao39, co39, eo39⟩ := Kd.R_slice HO_3.out
                 subst eo39
                 have p369 := dz_ (x6_1 : Int)
                 have q369 := dl_ x6_1 (t355.length : Int)
                 obtain ⟨ad369, e369, hx369_0⟩ := Kd.at_int (Kd.R_reads' HO_3.out).2.2 x6_1 p369 q369
                 cases e369
                 replace p369 := eq_true p369
                 replace q369 := eq_true q369
                 have p370 := dz_ (x7_1 : Int)
                 have q370 := dl_ x7_1 (t359.length : Int)
                 obtain ⟨ad370, e370, hx370_0⟩ := Kd.at_int (Kd.R_reads' HO_4.out).2.2 x7_1 p370 q370
                 cases e370
                 replace p370 := eq_true p370
                 replace q370 := eq_true q370
                 have p371 := dz_ (x6_1 : Int)
                 have q371 := dl_ x6_1 (t355.length : Int)
                 obtain ⟨ad371, e371, hx371_0⟩ := Kd.at_int (Kd.R_reads' HO_3.out).2.2 x6_1 p371 q371
                 obtain rfl : ad369 = ad371 := (by injection e371)
                 replace p371 := eq_true p371
                 replace q371 := eq_true q371
                 go_wp2_with (fail)
                 repeat (go_quiet (fail); try go_wp2_with (((with_reducible refine gate_builtin (b := .append) (xs := #[.tmp 59, .tmp 64]) rfl ?_); (try (refine gate_guard (by rfl) ?_; dsimp only)); at_builtin; refine Kd.R_append (Kd.int .i64) (w0 := w) w.heap.size rfl (.tmp 59) (.tmp 64) 23 3 (.int .i64 0) 8 rfl Tryd.underlying23 info3 rfl (by decide) (by omega) u5 x5_1 (rd t355 x6_1) [.int .i64 (rd t355 x6_1)] (fun k_ => some k_ ≠ (.slice (some ad369) t355.length co39 : Value).ownBlock ∧ some k_ ≠ (.slice (some ad370) t359.length co38 : Value).ownBlock) (fun _ => False) rfl rfl ?aP (fun _ hk => hk.elim) ?aF ?aO ?aB ?aS ?aL ?_; (case aP => exact rfl); (case aB => exact (belW_ HB)); (case aF => exact (fun k_ hk => ⟨Kd.fresh' (Kd.R_lt (RW_ <| HO_3.out)) k_ hk, Kd.fresh' (Kd.R_lt (RW_ <| HO_4.out)) k_ hk⟩)); (case aO => exact (RW_ <| HO_5.out)); (case aS => exact (below_size (belW_ HB))); (case aL => have := LMc37.out; omega); intro v373 w40 ho hb hg hat; rw [← Ny372.out] at ho; have HO374 := Aside0.mk (ho); replace HO_3 := Aside0.mk (Kd.R_after (ok := (fun k_ => some k_ ≠ (.slice (some ad370) t359.length co38 : Value).ownBlock)) (RW_ <| HO_3.out) hg hat); replace HO_4 := Aside0.mk (Kd.R_after (ok := (fun k_ => some k_ ≠ (.slice (some ad369) t355.length co39 : Value).ownBlock)) (RW_ <| HO_4.out) hg hat); replace HB := Aside0.mk (hb); clear HO_5; clear ho hb hg hat)))
                 go_roundg kj18
                 case measure => have := HK1.out; have := HJ18.out; omega
                 case rel => exact ⟨(y372), (wrap64 (x6_1 + 1)), (x7_1), ok_, ok_, H', ⟨by have := HK1.out; have := HJ18.out; omega⟩, ⟨RW_ <| HO_3.out⟩, ⟨RW_ <| HO_4.out⟩, ⟨RW_ <| HO374.out⟩, ⟨belW_ HB⟩⟩
                ·rw [if_neg c37] at H
                 exact absurd H (by simp)
               ·rw [if_neg c36] at H
                have c36b0 := decide_eq_false c36
                clear c36
                by_cases c41 : x5_1.length < 17592186044416
                ·rw [if_pos c41] at H
                 have LMc41 := Aside0.mk c41
                 clear c41
                 obtain ⟨y376, hy376⟩ : ∃ y_ : List Int, y_ = (x5_1 ++ [rd t359 x7_1]) := ⟨_, rfl⟩
                 replace H : (redraftref02_Sorted.l0 kj18 t355 t359 y376 x6_1 (wrap64 (x7_1 + 1))) = some r := by first | (rw [hy376]; with_reducible exact H) | (have H2_ := (Option.bind_some _ _).symm.trans H; rw [hy376]; with_reducible exact H2_) | (have H2_ := (Option.bind_some _ _).symm.trans H; with_reducible exact H2_) | with_reducible exact H | (rw [hy376]; exact H) | exact H
                 have Ny376 := Aside0.mk hy376
                 clear hy376
                 have H' := Aside0.mk H
                 clear H
                 obtain ⟨Ao42, co42, eo42⟩ := Kd.R_slice HO_4.out
                 subst eo42
                 obtain ⟨Ao43, co43, eo43⟩ := Kd.R_slice HO_3.out
                 subst eo43
                 have p369 := dz_ (x6_1 : Int)
                 have q369 := dl_ x6_1 (t355.length : Int)
                 obtain ⟨ad369, e369, hx369_0⟩ := Kd.at_int (Kd.R_reads' HO_3.out).2.2 x6_1 p369 q369
                 cases e369
                 replace p369 := eq_true p369
                 replace q369 := eq_true q369
                 have p370 := dz_ (x7_1 : Int)
                 have q370 := dl_ x7_1 (t359.length : Int)
                 obtain ⟨ad370, e370, hx370_0⟩ := Kd.at_int (Kd.R_reads' HO_4.out).2.2 x7_1 p370 q370
                 cases e370
                 replace p370 := eq_true p370
                 replace q370 := eq_true q370
                 have p375 := dz_ (x7_1 : Int)
                 have q375 := dl_ x7_1 (t359.length : Int)
                 obtain ⟨ad375, e375, hx375_0⟩ := Kd.at_int (Kd.R_reads' HO_4.out).2.2 x7_1 p375 q375
                 obtain rfl : ad370 = ad375 := (by injection e375)
                 replace p375 := eq_true p375
                 replace q375 := eq_true q375
                 go_wp2_with (fail)
                 repeat (go_quiet (fail); try go_wp2_with (((with_reducible refine gate_builtin (b := .append) (xs := #[.tmp 68, .tmp 73]) rfl ?_); (try (refine gate_guard (by rfl) ?_; dsimp only)); at_builtin; refine Kd.R_append (Kd.int .i64) (w0 := w) w.heap.size rfl (.tmp 68) (.tmp 73) 23 3 (.int .i64 0) 8 rfl Tryd.underlying23 info3 rfl (by decide) (by omega) u5 x5_1 (rd t359 x7_1) [.int .i64 (rd t359 x7_1)] (fun k_ => some k_ ≠ (.slice (some ad369) t355.length co43 : Value).ownBlock ∧ some k_ ≠ (.slice (some ad370) t359.length co42 : Value).ownBlock) (fun _ => False) rfl rfl ?aP (fun _ hk => hk.elim) ?aF ?aO ?aB ?aS ?aL ?_; (case aP => exact rfl); (case aB => exact (belW_ HB)); (case aF => exact (fun k_ hk => ⟨Kd.fresh' (Kd.R_lt (RW_ <| HO_3.out)) k_ hk, Kd.fresh' (Kd.R_lt (RW_ <| HO_4.out)) k_ hk⟩)); (case aO => exact (RW_ <| HO_5.out)); (case aS => exact (below_size (belW_ HB))); (case aL => have := LMc41.out; omega); intro v377 w44 ho hb hg hat; rw [← Ny376.out] at ho; have HO378 := Aside0.mk (ho); replace HO_3 := Aside0.mk (Kd.R_after (ok := (fun k_ => some k_ ≠ (.slice (some ad370) t359.length co42 : Value).ownBlock)) (RW_ <| HO_3.out) hg hat); replace HO_4 := Aside0.mk (Kd.R_after (ok := (fun k_ => some k_ ≠ (.slice (some ad369) t355.length co43 : Value).ownBlock)) (RW_ <| HO_4.out) hg hat); replace HB := Aside0.mk (hb); clear HO_5; clear ho hb hg hat)))
                 go_roundg kj18
                 case measure => have := HK1.out; have := HJ18.out; omega
                 case rel => exact ⟨(y376), (x6_1), (wrap64 (x7_1 + 1)), ok_, ok_, H', ⟨by have := HK1.out; have := HJ18.out; omega⟩, ⟨RW_ <| HO_3.out⟩, ⟨RW_ <| HO_4.out⟩, ⟨RW_ <| HO378.out⟩, ⟨belW_ HB⟩⟩
                ·rw [if_neg c41] at H
                 exact absurd H (by simp)
              ·rw [if_neg c35] at H
               exact absurd H (by simp)
             ·rw [if_neg c34] at H
              exact absurd H (by simp)
            ·rw [if_neg c33] at H
             exact absurd H (by simp)
           ·rw [if_neg c32] at H
            have c32b0 := decide_eq_false c32
            clear c32
            by_cases c45 : 0 ≤ x7_1
            ·rw [if_pos c45] at H
             have c45b0 := decide_eq_true c45
             clear c45
             by_cases c46 : x7_1 < (t359.length : Int)
             ·rw [if_pos c46] at H
              have c46b0 := decide_eq_true c46
              clear c46
              by_cases c47 : x5_1.length < 17592186044416
              ·rw [if_pos c47] at H
               have LMc47 := Aside0.mk c47
               clear c47
               obtain ⟨y380, hy380⟩ : ∃ y_ : List Int, y_ = (x5_1 ++ [rd t359 x7_1]) := ⟨_, rfl⟩
               replace H : (redraftref02_Sorted.l0 kj18 t355 t359 y380 x6_1 (wrap64 (x7_1 + 1))) = some r := by first | (rw [hy380]; with_reducible exact H) | (have H2_ := (Option.bind_some _ _).symm.trans H; rw [hy380]; with_reducible exact H2_) | (have H2_ := (Option.bind_some _ _).symm.trans H; with_reducible exact H2_) | with_reducible exact H | (rw [hy380]; exact H) | exact H
               have Ny380 := Aside0.mk hy380
               clear hy380
               have H' := Aside0.mk H
               clear H
               obtain ⟨Ao48, co48, eo48⟩ := Kd.R_slice HO_4.out
               subst eo48
               obtain ⟨Ao49, co49, eo49⟩ := Kd.R_slice HO_3.out
               subst eo49
               have p379 := dz_ (x7_1 : Int)
               have q379 := dl_ x7_1 (t359.length : Int)
               obtain ⟨ad379, e379, hx379_0⟩ := Kd.at_int (Kd.R_reads' HO_4.out).2.2 x7_1 p379 q379
               cases e379
               replace p379 := eq_true p379
               replace q379 := eq_true q379
               go_wp2_with (fail)
               repeat (go_quiet (fail); try go_wp2_with (((with_reducible refine gate_builtin (b := .append) (xs := #[.tmp 68, .tmp 73]) rfl ?_); (try (refine gate_guard (by rfl) ?_; dsimp only)); at_builtin; refine Kd.R_append (Kd.int .i64) (w0 := w) w.heap.size rfl (.tmp 68) (.tmp 73) 23 3 (.int .i64 0) 8 rfl Tryd.underlying23 info3 rfl (by decide) (by omega) u5 x5_1 (rd t359 x7_1) [.int .i64 (rd t359 x7_1)] (fun k_ => some k_ ≠ (.slice Ao49 t355.length co49 : Value).ownBlock ∧ some k_ ≠ (.slice (some ad379) t359.length co48 : Value).ownBlock) (fun _ => False) rfl rfl ?aP (fun _ hk => hk.elim) ?aF ?aO ?aB ?aS ?aL ?_; (case aP => exact rfl); (case aB => exact (belW_ HB)); (case aF => exact (fun k_ hk => ⟨Kd.fresh' (Kd.R_lt (RW_ <| HO_3.out)) k_ hk, Kd.fresh' (Kd.R_lt (RW_ <| HO_4.out)) k_ hk⟩)); (case aO => exact (RW_ <| HO_5.out)); (case aS => exact (below_size (belW_ HB))); (case aL => have := LMc47.out; omega); intro v381 w50 ho hb hg hat; rw [← Ny380.out] at ho; have HO382 := Aside0.mk (ho); replace HO_3 := Aside0.mk (Kd.R_after (ok := (fun k_ => some k_ ≠ (.slice (some ad379) t359.length co48 : Value).ownBlock)) (RW_ <| HO_3.out) hg hat); replace HO_4 := Aside0.mk (Kd.R_after (ok := (fun k_ => some k_ ≠ (.slice Ao49 t355.length co49 : Value).ownBlock)) (RW_ <| HO_4.out) hg hat); replace HB := Aside0.mk (hb); clear HO_5; clear ho hb hg hat)))
               go_roundg kj18
               case measure => have := HK1.out; have := HJ18.out; omega
               case rel => exact ⟨(y380), (x6_1), (wrap64 (x7_1 + 1)), ok_, ok_, H', ⟨by have := HK1.out; have := HJ18.out; omega⟩, ⟨RW_ <| HO_3.out⟩, ⟨RW_ <| HO_4.out⟩, ⟨RW_ <| HO382.out⟩, ⟨belW_ HB⟩⟩
              ·rw [if_neg c47] at H
               exact absurd H (by simp)
             ·rw [if_neg c46] at H
              exact absurd H (by simp)
            ·rw [if_neg c45] at H
             exact absurd H (by simp)
         ·replace c24 := Bool.eq_false_iff.mpr c24
          subst c24
          have H1 := H; rw [if_neg (show ¬ (false = true) by decide)] at H1
          clear H
          have H := H1
          clear H1
          obtain rfl := Option.some.inj H
          go_wp2
          repeat (go_quiet (fail); try go_wp2)
          go_ret
          exact ⟨_, by first | rfl | (simp only [← hji5]; first | rfl) | (simp [*] <;> rfl), RW_ <| Kd.R_mono HO_5.out (fun _ hk => trivial), belW_ HB⟩
    ·rw [if_neg c12] at H
     exact absurd H (by simp)
   ·rw [if_neg c7] at H
    exact absurd H (by simp)
  ·rw [if_neg c6] at H
   exact absurd H (by simp)

def redraftref02_upTo.l0 : Nat → List Int → Int → Int → Int → Option (Int)
 | 0, _, _, _, _ => none
 | k + 1, x0, x1, x5, x6 => if x5 < x6 then (if 0 ≤ (wrap64 (x5 + (wrap64 (Int.tdiv (wrap64 (x6 - x5)) 2)))) then (if (wrap64 (x5 + (wrap64 (Int.tdiv (wrap64 (x6 - x5)) 2)))) < (x0.length : Int) then (if (rd x0 (wrap64 (x5 + (wrap64 (Int.tdiv (wrap64 (x6 - x5)) 2))))) ≤ x1 then (redraftref02_upTo.l0 k x0 x1 (wrap64 ((wrap64 (x5 + (wrap64 (Int.tdiv (wrap64 (x6 - x5)) 2)))) + 1)) x6) else (redraftref02_upTo.l0 k x0 x1 x5 (wrap64 (x5 + (wrap64 (Int.tdiv (wrap64 (x6 - x5)) 2)))))) else (none)) else (none)) else (some x5)
def redraftref02_upTo.f (k : Nat) (l0 : List Int) (a1 : Int) : Option (Int) := redraftref02_upTo.l0 k l0 a1 0 (l0.length : Int)
set_option maxHeartbeats 8000000 in
set_option maxRecDepth 100000 in
theorem redraftref02_upTo.calls (k : Nat) (A0 : Option Addr) (c0 : Nat) (l0 : List Int) (a1 : Int) (r : Int) (w : World) (hr0 : Kd.C (Kd.int .i64) w A0 l0.length l0) (hc0 : l0.length ≤ c0) (h : redraftref02_upTo.f k l0 a1 = some r) :
 Calls Tryd.prog 126 #[.slice A0 l0.length c0, .int .i64 a1] w fun e w' => e = .returned (.int .i64 r) ∧ Drawn0 w w' := by
 have HR0 := Aside0.mk hr0
 have HC0 := Aside0.mk hc0
 clear hr0 hc0
 have H : (redraftref02_upTo.l0 k l0 a1 0 (l0.length : Int)) = some r := h
 clear h
 have H' := Aside0.mk H
 clear H
 go_enter Tryd.func126, Tryd.ntmps126
 go_wp2
 go_loopg [5, 6] k (fun kq v5 v6 w' => ∃ (x5_1 : Int) (x6_1 : Int), v5 = .int .i64 x5_1 ∧ v6 = .int .i64 x6_1 ∧ Aside0 (redraftref02_upTo.l0 kq l0 a1 x5_1 x6_1 = some r) ∧ Aside0 (kq ≤ k) ∧ Drawn0 w w')
 case atStart => exact ⟨(0), ((l0.length : Int)), ok_, ok_, H', ⟨Nat.le_refl _⟩, dr_⟩
 case round =>
  clear H'
  try clear c1
  try clear p2
  obtain ⟨x5_1, x6_1, rfl, rfl, HA, HK1, ⟨m1, rfl⟩⟩ := hrel
  cases gk with
  | zero => exact absurd HA.out (by simp [redraftref02_upTo.l0])
  | succ k1 =>
   have H := HA.out
   clear HA
   simp only [redraftref02_upTo.l0] at H
   by_cases c3 : x5_1 < x6_1
   ·rw [if_pos c3] at H
    have c3b0 := decide_eq_true c3
    clear c3
    obtain ⟨ji4, hji4⟩ : ∃ j_ : Int, (wrap64 (x5_1 + (wrap64 (Int.tdiv (wrap64 (x6_1 - x5_1)) 2)))) = j_ := ⟨_, rfl⟩
    replace H : (if 0 ≤ (ji4) then (if (ji4) < (l0.length : Int) then (if (rd l0 (ji4)) ≤ a1 then (redraftref02_upTo.l0 k1 l0 a1 (wrap64 ((ji4) + 1)) x6_1) else (redraftref02_upTo.l0 k1 l0 a1 x5_1 ji4)) else (none)) else (none)) = some r := by first | (rw [hji4] at H; exact H) | (simp only [hji4] at H ⊢; exact H)
    have hji4w : (IntKind.i64.wrap (x5_1 + (wrap64 (Int.tdiv (wrap64 (x6_1 - x5_1)) 2)))) = ji4 := (i64_w _).trans hji4
    by_cases c5 : 0 ≤ (ji4)
    ·rw [if_pos c5] at H
     have c5b0 := decide_eq_true c5
     clear c5
     by_cases c6 : (ji4) < (l0.length : Int)
     ·rw [if_pos c6] at H
      have c6b0 := decide_eq_true c6
      clear c6
      by_cases c7 : (rd l0 (ji4)) ≤ a1
      ·rw [if_pos c7] at H
       have c7b0 := decide_eq_true c7
       clear c7
       have H' := Aside0.mk H
       clear H
       have p383 := dz_ ((ji4) : Int)
       have q383 := dl_ (ji4) (l0.length : Int)
       obtain ⟨ad383, e383, hx383_0⟩ := Kd.at_int HR0.out (ji4) p383 q383
       cases e383
       replace p383 := eq_true p383
       replace q383 := eq_true q383
       go_wp2
       go_roundg k1
       case measure => have := HK1.out; omega
       case rel => exact ⟨(wrap64 ((ji4) + 1)), (x6_1), (by first | rfl | (simp; done) | (simp only [← hji4] <;> (first | rfl | simp)) | (simp [*]; done)), ok_, H', ⟨lk_ HK1⟩, dr_⟩
      ·rw [if_neg c7] at H
       have c7b0 := decide_eq_false c7
       clear c7
       have H' := Aside0.mk H
       clear H
       have p383 := dz_ ((ji4) : Int)
       have q383 := dl_ (ji4) (l0.length : Int)
       obtain ⟨ad383, e383, hx383_0⟩ := Kd.at_int HR0.out (ji4) p383 q383
       cases e383
       replace p383 := eq_true p383
       replace q383 := eq_true q383
       go_wp2
       go_roundg k1
       case measure => have := HK1.out; omega
       case rel => exact ⟨(x5_1), (ji4), ok_, (by first | rfl | (simp; done) | (simp only [← hji4] <;> (first | rfl | simp)) | (simp [*]; done)), H', ⟨lk_ HK1⟩, dr_⟩
     ·rw [if_neg c6] at H
      exact absurd H (by simp)
    ·rw [if_neg c5] at H
     exact absurd H (by simp)
   ·rw [if_neg c3] at H
    have c3b0 := decide_eq_false c3
    clear c3
    obtain rfl := Option.some.inj H
    go_wp2
    go_ret
    exact ⟨ok_, dr_⟩

end Go.Proofs.YtloccjkcmlkifaaDoor.PAll
