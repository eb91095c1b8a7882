/- XformBrings_card, part 33. -/
import Derived.Test.YtloccjkcmlkifaaDoorQBr18
import Derived.Test.YtloccjkcmlkifaaDoorQBr19

namespace Go.Proofs.YtloccjkcmlkifaaDoor.PAll
open Go.RowKit Go.Proofs.YtloccjkcmlkifaaDoorW.PrintWords Go.Proofs.YtloccjkcmlkifaaDoorW.PrintLast Go.Proofs.YtloccjkcmlkifaaDoorW.PrintMore
attribute [local go_sem] max2_int min2_int max_two min_two max_three min_three max_four min_four   -- for this text's walks alone
set_option linter.unusedVariables false
set_option linter.unusedSimpArgs false

attribute [local go_sem high] idx34_0 idx34_1 idx35_0 idx35_1
mutual
def redraftref02_joined.l0 : Nat → List Int → List Bool → List (S94) → Int → Option ((List (S94)))
 | 0, _, _, _, _ => none
 | k + 1, x0, x1, x5, x6 => if (wrap64 (x6 + 1)) < (x0.length : Int) then (if 0 ≤ x6 then (if x6 < (x1.length : Int) then (if rdOf false x1 x6 = true then (if x6 < (x0.length : Int) then (if 0 ≤ (wrap64 (x6 + 1)) then (redraftref02_joined.j1 k x0 x1 x5 x6 ((rd x0 x6) == (rd x0 (wrap64 (x6 + 1))))) else (none)) else (none)) else (redraftref02_joined.j1 k x0 x1 x5 x6 true)) else (none)) else (none)) else (some x5)
def redraftref02_joined.j1 : Nat → List Int → List Bool → List (S94) → Int → Bool → Option ((List (S94)))
 | 0, _, _, _, _, _ => none
 | k + 1, x0, x1, x5, x6, x31 => if x31 = true then (redraftref02_joined.l0 k x0 x1 x5 (wrap64 (x6 + 1))) else (if (x5.length : Int) > 0 then (if 0 ≤ (wrap64 ((x5.length : Int) - 1)) then (if (wrap64 ((x5.length : Int) - 1)) < (x5.length : Int) then (if 0 ≤ x6 then (if x6 < (x0.length : Int) then (if ((rd_T94 x5 (wrap64 ((x5.length : Int) - 1))).f1) = (rd x0 x6) then (if 0 ≤ (wrap64 (x6 + 1)) then (if (wrap64 (x6 + 1)) < (x0.length : Int) then (redraftref02_joined.l0 k x0 x1 (x5.set ((wrap64 ((x5.length : Int) - 1)) : Int).toNat (⟨(rd_T94 x5 (wrap64 ((x5.length : Int) - 1))).f0, rd x0 (wrap64 (x6 + 1))⟩ : S94)) (wrap64 (x6 + 1))) else (none)) else (none)) else (if 0 ≤ (wrap64 (x6 + 1)) then (if (wrap64 (x6 + 1)) < (x0.length : Int) then (if x5.length < 8796093022208 then (redraftref02_joined.l0 k x0 x1 (x5 ++ [(⟨rd x0 x6, rd x0 (wrap64 (x6 + 1))⟩ : S94)]) (wrap64 (x6 + 1))) else (none)) else (none)) else (none))) else (none)) else (none)) else (none)) else (none)) else (if 0 ≤ x6 then (if x6 < (x0.length : Int) then (if 0 ≤ (wrap64 (x6 + 1)) then (if (wrap64 (x6 + 1)) < (x0.length : Int) then (if x5.length < 8796093022208 then (redraftref02_joined.l0 k x0 x1 (x5 ++ [(⟨rd x0 x6, rd x0 (wrap64 (x6 + 1))⟩ : S94)]) (wrap64 (x6 + 1))) else (none)) else (none)) else (none)) else (none)) else (none)))
end
def redraftref02_joined.f (k : Nat) (l0 : List Int) (l1 : List Bool) : Option ((List (S94))) := redraftref02_joined.l0 k l0 l1 ([] : List (S94)) 0
def redraftref02_joined.T5 : Bool × List (List Nat × List Nat) := (true, [([], []), ([], []), ([0, 1], [0, 1]), ([2], [2]), ([3], [3]), ([4], [4]), ([5], [5]), ([5], [5]), ([6, 7, 5], [5, 6, 7]), ([8, 5], [5, 8]), ([5], [5]), ([5], [5]), ([11, 5], [5, 11]), ([10, 12, 5], [5, 10, 12]), ([13, 5], [5, 13]), ([9, 14, 5], [5, 9, 14]), ([5, 15], [5, 15])])
def redraftref02_joined.B5 : List Nat := [0, 0, 3, 7, 15, 31, 63, 63, 255, 511, 63, 63, 2111, 7231, 15423, 32767, 65535]
theorem redraftref02_joined.tab5 : rtab .any (opsOf Tryd.f127 5) = redraftref02_joined.T5 := by kernel_rfl
theorem redraftref02_joined.bits5 : waitsOk redraftref02_joined.T5.2 redraftref02_joined.B5 = true := by kernel_rfl
def redraftref02_joined.T7 : Bool × List (List Nat × List Nat) := (true, [([], []), ([0], [0]), ([1], [1]), ([2], [2]), ([2], [2]), ([4, 2], [2, 4]), ([3, 5, 2], [2, 3, 5]), ([6, 2], [2, 6]), ([7, 2], [2, 7]), ([2], [2]), ([2], [2]), ([9, 10, 2], [2, 9, 10]), ([11, 2], [2, 11]), ([8, 12, 2], [2, 8, 12]), ([2, 13], [2, 13])])
def redraftref02_joined.B7 : List Nat := [0, 1, 3, 7, 7, 23, 63, 127, 255, 7, 7, 1543, 3591, 8191, 16383]
theorem redraftref02_joined.tab7 : rtab .any (opsOf Tryd.f127 7) = redraftref02_joined.T7 := by kernel_rfl
theorem redraftref02_joined.bits7 : waitsOk redraftref02_joined.T7.2 redraftref02_joined.B7 = true := by kernel_rfl
def redraftref02_joined.T9 : Bool × List (List Nat × List Nat) := (true, [([], []), ([], []), ([], []), ([1, 2], [1, 2]), ([3], [3]), ([], []), ([], []), ([6], [6]), ([5, 7], [5, 7]), ([8], [8]), ([4, 9], [4, 9]), ([10], [10]), ([0, 11], [0, 11]), ([12, 12, 0, 1, 2, 3, 4, 5, 6, 7, 8, 9, 10, 11, 12], [0, 12])])
def redraftref02_joined.B9 : List Nat := [0, 0, 0, 6, 14, 0, 0, 64, 224, 480, 1022, 2046, 4095, 8191]
theorem redraftref02_joined.tab9 : rtab .any (opsOf Tryd.f127 9) = redraftref02_joined.T9 := by kernel_rfl
theorem redraftref02_joined.bits9 : waitsOk redraftref02_joined.T9.2 redraftref02_joined.B9 = true := by kernel_rfl
set_option maxHeartbeats 8000000 in
set_option maxRecDepth 100000 in
theorem redraftref02_joined.calls (k : Nat) (A0 : Option Addr) (c0 : Nat) (l0 : List Int) (A1 : Option Addr) (c1 : Nat) (l1 : List Bool) (r : List (S94)) (w : World) (hr0 : Kd.C (Kd.int .i64) w A0 l0.length l0) (hc0 : l0.length ≤ c0) (hr1 : Kd.C Kd.bool w A1 l1.length l1) (hc1 : l1.length ≤ c1) (h : redraftref02_joined.f k l0 l1 = some r) :
 Calls Tryd.prog 127 #[.slice A0 l0.length c0, .slice A1 l1.length c1] w fun e w' => ∃ v0_ : Value, e = .returned (v0_) ∧ Kd.R k94 94 w' w.heap.size (fun _ => True) v0_ r ∧ Below w.heap.size w w' := by
 have hu94 := Tryd.underlying94
 have HR0 := Aside0.mk hr0
 have HC0 := Aside0.mk hc0
 clear hr0 hc0
 have HR1 := Aside0.mk hr1
 have HC1 := Aside0.mk hc1
 clear hr1 hc1
 have HB := Aside0.mk (Below.refl w.heap.size w)
 have H : (redraftref02_joined.l0 k l0 l1 ([] : List (S94)) 0) = some r := h
 clear h
 have H' := Aside0.mk H
 clear H
 go_enter Tryd.func127, Tryd.ntmps127
 go_wp2
 go_loopg [5, 6] k (fun kq v5 v6 w' => ∃ (x5_1 : List (S94)) (x6_1 : Int), v6 = .int .i64 x6_1 ∧ Aside0 (redraftref02_joined.l0 kq l0 l1 x5_1 x6_1 = some r) ∧ Aside0 (kq ≤ k) ∧ Aside0 (Kd.R k94 94 w' w.heap.size (fun _ => True) v5 x5_1) ∧ Aside0 (Below w.heap.size w w'))
 case atStart => exact ⟨(([] : List (S94))), (0), ok_, H', ⟨Nat.le_refl _⟩, ⟨nl_⟩, ⟨belW_ HB⟩⟩
 case round =>
  clear H'
  try clear c1
  try clear p2
  obtain ⟨x5_1, x6_1, rfl, HA, HK1, HO_5, HB⟩ := hrel
  cases gk with
  | zero => exact absurd HA.out (by simp [redraftref02_joined.l0])
  | succ k1 =>
   have H := HA.out
   clear HA
   simp only [redraftref02_joined.l0] at H
   by_cases c3 : (wrap64 (x6_1 + 1)) < (l0.length : Int)
   ·rw [if_pos c3] at H
    have c3b0 := decide_eq_true c3
    clear c3
    have HC4 := Aside0.mk H
    clear H
    go_upto_region 5 with (fail)
    go_cut [31] (fun v31 wc => ∃ (kq : Nat) (x31_3 : Bool), v31 = .bool x31_3 ∧ Aside0 (redraftref02_joined.j1 kq l0 l1 x5_1 x6_1 x31_3 = some r) ∧ Aside0 (kq ≤ k1) ∧ Aside0 (Kd.R k94 94 wc w.heap.size (fun _ => True) u5 x5_1) ∧ Aside0 (Below w.heap.size w wc))
    case first =>
     have H := HC4.out
     clear HC4
     by_cases c5 : 0 ≤ x6_1
     ·rw [if_pos c5] at H
      have c5b0 := decide_eq_true c5
      clear c5
      (first | rw [c5b0] | (simp only [i64_w, i32_w]; rw [c5b0]) | rw [c5b1] | skip)
      by_cases c6 : x6_1 < (l1.length : Int)
      ·rw [if_pos c6] at H
       have c6b0 := decide_eq_true c6
       clear c6
       obtain ⟨bq7, hbq7⟩ : ∃ b_ : Bool, b_ = (rdOf false l1 x6_1) := ⟨_, rfl⟩
       replace H : (if bq7 = true then (if x6_1 < (l0.length : Int) then (if 0 ≤ (wrap64 (x6_1 + 1)) then (redraftref02_joined.j1 k1 l0 l1 x5_1 x6_1 ((rd l0 x6_1) == (rd l0 (wrap64 (x6_1 + 1))))) else (none)) else (none)) else (redraftref02_joined.j1 k1 l0 l1 x5_1 x6_1 true)) = some r := by rw [← hbq7] at H; exact H
       have Nbq7 := Aside0.mk hbq7
       clear hbq7
       by_cases c8 : bq7 = true
       ·subst c8
        have H1 := H; rw [if_pos rfl] at H1
        clear H
        have H := H1
        clear H1
        by_cases c9 : x6_1 < (l0.length : Int)
        ·rw [if_pos c9] at H
         have c9b0 := decide_eq_true c9
         clear c9
         obtain ⟨ji10, hji10⟩ : ∃ j_ : Int, (wrap64 (x6_1 + 1)) = j_ := ⟨_, rfl⟩
         replace H : (if 0 ≤ (ji10) then (redraftref02_joined.j1 k1 l0 l1 x5_1 x6_1 ((rd l0 x6_1) == (rd l0 (ji10)))) else (none)) = some r := by first | (rw [hji10] at H; exact H) | (simp only [hji10] at H ⊢; exact H)
         (try rw [hji10] at c3b0)
         have hji10w : (IntKind.i64.wrap (x6_1 + 1)) = ji10 := (i64_w _).trans hji10
         by_cases c11 : 0 ≤ (ji10)
         ·rw [if_pos c11] at H
          have c11b0 := decide_eq_true c11
          clear c11
          have H' := Aside0.mk H
          clear H
          try go_wp2
          have n0_ := Aside0.mk (Kd.R_drew HO_5.out)
          have n1_ := Aside0.mk (below_drew1 HB.out)
          clear HO_5
          clear HB
          have HO_5 := n0_
          have HB := n1_
          clear n0_ n1_
          have p384 := dz_ (x6_1 : Int)
          have q384 := dl_ x6_1 (l1.length : Int)
          obtain ⟨ad384, e384, hx384_0⟩ := Kd.at_bool HR1.out x6_1 p384 q384
          have hw384_0 := hx384_0
          (try rw [← Nbq7.out] at hx384_0)
          cases e384
          replace hx384_0 := pw_cell_below HB.out hx384_0
          replace p384 := eq_true p384
          replace q384 := eq_true q384
          have p385 := dz_ (x6_1 : Int)
          have q385 := dl_ x6_1 (l0.length : Int)
          obtain ⟨ad385, e385, hx385_0⟩ := Kd.at_int HR0.out x6_1 p385 q385
          have hw385_0 := hx385_0
          cases e385
          replace hx385_0 := pw_cell_below HB.out hx385_0
          replace p385 := eq_true p385
          replace q385 := eq_true q385
          have p386 := dz_ ((ji10) : Int)
          have q386 := dl_ (ji10) (l0.length : Int)
          obtain ⟨ad386, e386, hx386_0⟩ := Kd.at_int HR0.out (ji10) p386 q386
          have hw386_0 := hx386_0
          obtain rfl : ad385 = ad386 := (by injection e386)
          replace hx386_0 := pw_cell_below HB.out hx386_0
          replace p386 := eq_true p386
          replace q386 := eq_true q386
          refine start_ (n := 17) (S := fun w' => w'.cell? (ad384.add (x6_1).toNat) = some (.bool true) ∧ w'.cell? (ad385.add (x6_1).toNat) = some (.int .i64 (rd l0 x6_1)) ∧ w'.cell? (ad385.add ((ji10)).toNat) = some (.int .i64 (rd l0 (ji10)))) (ds := []) #[false, false, false, false, false, false, false, false, false, false, false, false, false, false, false, false, false] (by kernel_rfl) rfl rfl ⟨(by first | exact ((HB.out.cell (World.block_lt_of_cell? w _ hw384_0)).trans hw384_0) | (have t_ := ((HB.out.cell (World.block_lt_of_cell? w _ hw384_0)).trans hw384_0); simp only [*])), (by first | exact ((HB.out.cell (World.block_lt_of_cell? w _ hw385_0)).trans hw385_0) | (have t_ := ((HB.out.cell (World.block_lt_of_cell? w _ hw385_0)).trans hw385_0); simp only [*])), (by first | exact ((HB.out.cell (World.block_lt_of_cell? w _ hw386_0)).trans hw386_0) | (have t_ := ((HB.out.cell (World.block_lt_of_cell? w _ hw386_0)).trans hw386_0); simp only [*]))⟩ (fun hHeld => ?_); refine with_tabW redraftref02_joined.tab5 redraftref02_joined.bits5 (fun HT_ HW_ => ?_)
          generalize wr.drew = w12 at HO_5 HB hx384_0 hx385_0 hx386_0 hHeld ⊢
          refine puT_ 0 HT_.out ?_
          refine puT_ 1 HT_.out ?_
          refine puT_ 2 HT_.out ?_
          refine take_ (i := 3) (N := some 18) (v := ?_) (a' := ?_) #[true, true, true, true, false, false, false, false, false, false, false, false, false, false, false, false, false] rfl rfl (take_ofW HT_.out HW_.out (by kernel_rfl)) (fun _ _ _ h => h) (Or.inl ⟨by rfl, ?_⟩) hHeld ?_ ?_
          rotate_left
          ·rintro w' ⟨s0, s1, s2⟩
           go_simp
           with_reducible rfl
          rotate_left
          ·simp only [Act.put, List.setIfInBounds_toArray, List.set_cons_zero, List.set_cons_succ, i64_w, i32_w]
           rfl
          refine puT_ 4 HT_.out ?_
          refine puT_ 5 HT_.out ?_
          refine puT_ 6 HT_.out ?_
          refine puT_ 7 HT_.out ?_
          refine puT_ 8 HT_.out ?_
          refine puT_ 10 HT_.out ?_
          refine puT_ 11 HT_.out ?_
          refine puT_ 12 HT_.out ?_
          refine puT_ 13 HT_.out ?_
          refine take_ (i := 9) (N := some 24) (v := ?_) (a' := ?_) #[true, true, true, true, true, true, true, true, true, true, true, true, true, true, false, false, false] rfl rfl (take_ofW HT_.out HW_.out (by kernel_rfl)) (fun _ _ _ h => h) (Or.inl ⟨by rfl, ?_⟩) hHeld ?_ ?_
          rotate_left
          ·rintro w' ⟨s0, s1, s2⟩
           go_simp
           with_reducible rfl
          rotate_left
          ·simp only [Act.put, List.setIfInBounds_toArray, List.set_cons_zero, List.set_cons_succ, i64_w, i32_w]
           rfl
          refine take_ (i := 14) (N := some 29) (v := ?_) (a' := ?_) #[true, true, true, true, true, true, true, true, true, true, true, true, true, true, true, false, false] rfl rfl (take_ofW HT_.out HW_.out (by kernel_rfl)) (fun _ _ _ h => h) (Or.inl ⟨by rfl, ?_⟩) hHeld ?_ ?_
          rotate_left
          ·rintro w' ⟨s0, s1, s2⟩
           go_simp
           with_reducible rfl
          rotate_left
          ·simp only [Act.put, List.setIfInBounds_toArray, List.set_cons_zero, List.set_cons_succ, i64_w, i32_w]
           rfl
          refine puT_ 15 HT_.out ?_
          refine puT_ 16 HT_.out ?_
          refine done_ (done_of HT_.out (by kernel_rfl)) ?_
          try go_wp2
          go_meet
          case rel => exact ⟨_, (((rd l0 x6_1) == (rd l0 (ji10)))), (by first | rfl | (simp; done) | (simp only [← hji10] <;> (first | rfl | simp)) | (simp [*]; done)), H', ⟨lk_ HK1⟩, ⟨RW_ <| HO_5.out⟩, ⟨belW_ HB⟩⟩
         ·rw [if_neg c11] at H
          exact absurd H (by simp)
        ·rw [if_neg c9] at H
         exact absurd H (by simp)
       ·replace c8 := Bool.eq_false_iff.mpr c8
        subst c8
        have H1 := H; rw [if_neg (show ¬ (false = true) by decide)] at H1
        clear H
        have H := H1
        clear H1
        have H' := Aside0.mk H
        clear H
        try go_wp2
        have n0_ := Aside0.mk (Kd.R_drew HO_5.out)
        have n1_ := Aside0.mk (below_drew1 HB.out)
        clear HO_5
        clear HB
        have HO_5 := n0_
        have HB := n1_
        clear n0_ n1_
        have p384 := dz_ (x6_1 : Int)
        have q384 := dl_ x6_1 (l1.length : Int)
        obtain ⟨ad384, e384, hx384_0⟩ := Kd.at_bool HR1.out x6_1 p384 q384
        have hw384_0 := hx384_0
        (try rw [← Nbq7.out] at hx384_0)
        cases e384
        replace hx384_0 := pw_cell_below HB.out hx384_0
        replace p384 := eq_true p384
        replace q384 := eq_true q384
        refine start_ (n := 17) (S := fun w' => w'.cell? (ad384.add (x6_1).toNat) = some (.bool false)) (ds := []) #[false, false, false, false, false, false, false, false, false, false, false, false, false, false, false, false, false] (by kernel_rfl) rfl rfl ((by first | exact ((HB.out.cell (World.block_lt_of_cell? w _ hw384_0)).trans hw384_0) | (have t_ := ((HB.out.cell (World.block_lt_of_cell? w _ hw384_0)).trans hw384_0); simp only [*]))) (fun hHeld => ?_); refine with_tabW redraftref02_joined.tab5 redraftref02_joined.bits5 (fun HT_ HW_ => ?_)
        generalize wr.drew = w13 at HO_5 HB hx384_0 hHeld ⊢
        refine puT_ 0 HT_.out ?_
        refine puT_ 1 HT_.out ?_
        refine puT_ 2 HT_.out ?_
        refine take_ (i := 3) (N := some 18) (v := ?_) (a' := ?_) #[true, true, true, true, false, false, false, false, false, false, false, false, false, false, false, false, false] rfl rfl (take_ofW HT_.out HW_.out (by kernel_rfl)) (fun _ _ _ h => h) (Or.inl ⟨by rfl, ?_⟩) hHeld ?_ ?_
        rotate_left
        ·intro w' s0
         go_simp
         with_reducible rfl
        rotate_left
        ·simp only [Act.put, List.setIfInBounds_toArray, List.set_cons_zero, List.set_cons_succ, i64_w, i32_w]
         rfl
        refine puT_ 4 HT_.out ?_
        refine puT_ 5 HT_.out ?_
        refine puU_ 6 HT_.out ?_
        refine puU_ 7 HT_.out ?_
        refine puU_ 8 HT_.out ?_
        refine puU_ 9 HT_.out ?_
        refine puU_ 10 HT_.out ?_
        refine puU_ 11 HT_.out ?_
        refine puU_ 12 HT_.out ?_
        refine puU_ 13 HT_.out ?_
        refine puU_ 14 HT_.out ?_
        refine puU_ 15 HT_.out ?_
        refine puT_ 16 HT_.out ?_
        refine done_ (done_of HT_.out (by kernel_rfl)) ?_
        try go_wp2
        go_meet
        case rel => exact ⟨_, (true), ok_, H', ⟨lk_ HK1⟩, ⟨RW_ <| HO_5.out⟩, ⟨belW_ HB⟩⟩
      ·rw [if_neg c6] at H
       exact absurd H (by simp)
     ·rw [if_neg c5] at H
      exact absurd H (by simp)
    case rest =>
     clear HC4
     try clear c1
     try clear p2
     try clear c3
     try clear c3b0
     try clear p2
     obtain ⟨kq, x31_3, rfl, HA, HJ3, HO_5, HB⟩ := hcut
     cases kq with
     | zero => exact absurd HA.out (by simp [redraftref02_joined.j1])
     | succ kj3 =>
      have H := HA.out
      clear HA
      simp only [redraftref02_joined.j1] at H
      by_cases c14 : x31_3 = true
      ·subst c14
       have H1 := H; rw [if_pos rfl] at H1
       clear H
       have H := H1
       clear H1
       have H' := Aside0.mk H
       clear H
       go_wp2
       go_roundg kj3
       case measure => have := HK1.out; have := HJ3.out; omega
       case rel => exact ⟨(x5_1), (wrap64 (x6_1 + 1)), ok_, H', ⟨by have := HK1.out; have := HJ3.out; omega⟩, ⟨RW_ <| HO_5.out⟩, ⟨belW_ HB⟩⟩
      ·replace c14 := Bool.eq_false_iff.mpr c14
       subst c14
       have H1 := H; rw [if_neg (show ¬ (false = true) by decide)] at H1
       clear H
       have H := H1
       clear H1
       by_cases c15 : (x5_1.length : Int) > 0
       ·rw [if_pos c15] at H
        have c15b0 : decide (0 < (x5_1.length : Int)) = true := decide_eq_true c15
        have c15b1 : decide (0 < x5_1.length) = true := decide_eq_true (by omega)
        clear c15
        obtain ⟨ji16, hji16⟩ : ∃ j_ : Int, (wrap64 ((x5_1.length : Int) - 1)) = j_ := ⟨_, rfl⟩
        replace H : (if 0 ≤ (ji16) then (if (ji16) < (x5_1.length : Int) then (if 0 ≤ x6_1 then (if x6_1 < (l0.length : Int) then (if ((rd_T94 x5_1 (ji16)).f1) = (rd l0 x6_1) then (if 0 ≤ (wrap64 (x6_1 + 1)) then (if (wrap64 (x6_1 + 1)) < (l0.length : Int) then (redraftref02_joined.l0 kj3 l0 l1 (x5_1.set ((ji16) : Int).toNat (⟨(rd_T94 x5_1 (ji16)).f0, rd l0 (wrap64 (x6_1 + 1))⟩ : S94)) (wrap64 (x6_1 + 1))) else (none)) else (none)) else (if 0 ≤ (wrap64 (x6_1 + 1)) then (if (wrap64 (x6_1 + 1)) < (l0.length : Int) then (if x5_1.length < 8796093022208 then (redraftref02_joined.l0 kj3 l0 l1 (x5_1 ++ [(⟨rd l0 x6_1, rd l0 (wrap64 (x6_1 + 1))⟩ : S94)]) (wrap64 (x6_1 + 1))) else (none)) else (none)) else (none))) else (none)) else (none)) else (none)) else (none)) = some r := by first | (rw [hji16] at H; exact H) | (simp only [hji16] at H ⊢; exact H)
        have hji16w : (IntKind.i64.wrap ((x5_1.length : Int) - 1)) = ji16 := (i64_w _).trans hji16
        by_cases c17 : 0 ≤ (ji16)
        ·rw [if_pos c17] at H
         have c17b0 := decide_eq_true c17
         clear c17
         by_cases c18 : (ji16) < (x5_1.length : Int)
         ·rw [if_pos c18] at H
          have c18b0 := decide_eq_true c18
          clear c18
          by_cases c19 : 0 ≤ x6_1
          ·rw [if_pos c19] at H
           have c19b0 := decide_eq_true c19
           clear c19
           by_cases c20 : x6_1 < (l0.length : Int)
           ·rw [if_pos c20] at H
            have c20b0 := decide_eq_true c20
            clear c20
            by_cases c21 : ((rd_T94 x5_1 (ji16)).f1) = (rd l0 x6_1)
            ·rw [if_pos c21] at H
             have c21b0 := beq_iff_eq.mpr c21
             have c21b1 := bne_eq_false_iff_eq.mpr c21
             clear c21
             obtain ⟨ji22, hji22⟩ : ∃ j_ : Int, (wrap64 (x6_1 + 1)) = j_ := ⟨_, rfl⟩
             replace H : (if 0 ≤ (ji22) then (if (ji22) < (l0.length : Int) then (redraftref02_joined.l0 kj3 l0 l1 (x5_1.set ((ji16) : Int).toNat (⟨(rd_T94 x5_1 (ji16)).f0, rd l0 (ji22)⟩ : S94)) ji22) else (none)) else (none)) = some r := by first | (rw [hji22] at H; exact H) | (simp only [hji22] at H ⊢; exact H)
             (try rw [hji22] at c3b0)
             have hji22w : (IntKind.i64.wrap (x6_1 + 1)) = ji22 := (i64_w _).trans hji22
             by_cases c23 : 0 ≤ (ji22)
             ·rw [if_pos c23] at H
              have c23b0 := decide_eq_true c23
              clear c23
              by_cases c24 : (ji22) < (l0.length : Int)
              ·rw [if_pos c24] at H
               have c24b0 := decide_eq_true c24
               clear c24
               obtain ⟨y390, hy390⟩ : ∃ y_ : List (S94), y_ = (x5_1.set ((ji16) : Int).toNat (⟨(rd_T94 x5_1 (ji16)).f0, rd l0 (ji22)⟩ : S94)) := ⟨_, rfl⟩
               replace H : (redraftref02_joined.l0 kj3 l0 l1 y390 ji22) = some r := by first | (rw [hy390]; with_reducible exact H) | (have H2_ := (Option.bind_some _ _).symm.trans H; rw [hy390]; with_reducible exact H2_) | (have H2_ := (Option.bind_some _ _).symm.trans H; with_reducible exact H2_) | with_reducible exact H | (rw [hy390]; exact H) | exact H
               have Ny390 := Aside0.mk hy390
               clear hy390
               have H' := Aside0.mk H
               clear H
               obtain ⟨Ao26, co26, eo26⟩ := Kd.R_slice HO_5.out
               subst eo26
               try go_wp2
               have n0_ := Aside0.mk (Kd.R_drew HO_5.out)
               have n1_ := Aside0.mk (below_drew1 HB.out)
               clear HO_5
               clear HB
               have HO_5 := n0_
               have HB := n1_
               clear n0_ n1_
               have p387 := dz_ ((ji16) : Int)
               have q387 := dl_ (ji16) (x5_1.length : Int)
               obtain ⟨ad387, e387, hx387_0, hx387_1⟩ := at_T94 (Kd.R_reads' HO_5.out).2.2 (ji16) p387 q387
               cases e387
               replace p387 := eq_true p387
               replace q387 := eq_true q387
               have p388 := dz_ (x6_1 : Int)
               have q388 := dl_ x6_1 (l0.length : Int)
               obtain ⟨ad388, e388, hx388_0⟩ := Kd.at_int HR0.out x6_1 p388 q388
               have hw388_0 := hx388_0
               cases e388
               replace hx388_0 := pw_cell_below HB.out hx388_0
               replace p388 := eq_true p388
               replace q388 := eq_true q388
               refine start_ (n := 15) (S := fun w' => w'.cell? (ad387.add (((ji16)).toNat * 2)) = some (.int .i64 ((rd_T94 x5_1 (ji16)).f0)) ∧ w'.cell? ⟨(ad387.add (((ji16)).toNat * 2)).block, (ad387.add (((ji16)).toNat * 2)).off + 1, none⟩ = some (.int .i64 ((rd_T94 x5_1 (ji16)).f1)) ∧ w'.cell? (ad388.add (x6_1).toNat) = some (.int .i64 (rd l0 x6_1))) (ds := []) #[false, false, false, false, false, false, false, false, false, false, false, false, false, false, false] (by kernel_rfl) rfl rfl ⟨hx387_0, hx387_1, ((HB.out.cell (World.block_lt_of_cell? w _ hw388_0)).trans hw388_0)⟩ (fun hHeld => ?_); refine with_tabW redraftref02_joined.tab7 redraftref02_joined.bits7 (fun HT_ HW_ => ?_)
               generalize wc.drew = w27 at HO_5 HB hx387_0 hx387_1 hx388_0 hHeld ⊢
               refine puT_ 0 HT_.out ?_
               refine puT_ 1 HT_.out ?_
               refine puT_ 2 HT_.out ?_
               refine puT_ 3 HT_.out ?_
               refine puT_ 4 HT_.out ?_
               refine puT_ 5 HT_.out ?_
               refine puT_ 6 HT_.out ?_
               refine puT_ 7 HT_.out ?_
               refine puT_ 9 HT_.out ?_
               refine puT_ 10 HT_.out ?_
               refine puT_ 11 HT_.out ?_
               refine take_ (i := 8) (N := some 42) (v := ?_) (a' := ?_) #[true, true, true, true, true, true, true, true, true, true, true, true, false, false, false] rfl rfl (take_ofW HT_.out HW_.out (by kernel_rfl)) (fun _ _ _ h => h) (Or.inl ⟨by rfl, ?_⟩) hHeld ?_ ?_
               rotate_left
               ·rintro w' ⟨s0, s1, s2⟩
                go_simp
                with_reducible rfl
               rotate_left
               ·simp only [Act.put, List.setIfInBounds_toArray, List.set_cons_zero, List.set_cons_succ, i64_w, i32_w]
                rfl
               refine take_ (i := 12) (N := some 46) (v := ?_) (a' := ?_) #[true, true, true, true, true, true, true, true, true, true, true, true, true, false, false] rfl rfl (take_ofW HT_.out HW_.out (by kernel_rfl)) (fun _ _ _ h => h) (Or.inl ⟨by rfl, ?_⟩) hHeld ?_ ?_
               rotate_left
               ·rintro w' ⟨s0, s1, s2⟩
                go_simp
                with_reducible rfl
               rotate_left
               ·simp only [Act.put, List.setIfInBounds_toArray, List.set_cons_zero, List.set_cons_succ, i64_w, i32_w]
                rfl
               refine puT_ 13 HT_.out ?_
               refine puT_ 14 HT_.out ?_
               refine done_ (done_of HT_.out (by kernel_rfl)) ?_
               have p389 := dz_ ((ji22) : Int)
               have q389 := dl_ (ji22) (l0.length : Int)
               obtain ⟨ad389, e389, hx389_0⟩ := Kd.at_int HR0.out (ji22) p389 q389
               obtain rfl : ad388 = ad389 := (by injection e389)
               replace hx389_0 := pw_cell_below HB.out hx389_0
               replace p389 := eq_true p389
               replace q389 := eq_true q389
               have p25 := dz_ ((ji16) : Int)
               have q25 : ((ji16) : Int) < ((x5_1.length : Int) : Int) := of_decide_eq_true (by first | (with_reducible assumption) | assumption)
               obtain ⟨go25, co25, eo25, gb25, gl25, cl25, HG25⟩ := Kd.R_form HO_5.out (by omega)
               (first | cases eo25 | (injection eo25 with ea_ en_ ec_; (first | subst ea_ | (injection ea_ with ea_; subst ea_)); subst ec_; clear en_))
               have GB25 := Aside0.mk gb25
               have GG25 := Aside0.mk HG25
               clear gb25 gl25 HG25
               (first | simp only [add_plain] at hx387_0 | skip)
               (first | simp only [add_plain] at hx387_1 | skip)
               obtain ⟨ce25, hcl25, hM25, hcc25, hfr25⟩ := Kd.R_elem HO_5.out z94 ((ji16) : Int) p25 q25
               obtain rfl := k94_openM hM25
               have hx25_0 : w27.cell? ⟨go25, ((ji16) : Int).toNat * 2, none⟩ = some (.int .i64 ((rd_T94 x5_1 (ji16)).f0)) := hcc25 0 _ rfl
               have hx25_1 : w27.cell? ⟨go25, ((ji16) : Int).toNat * 2 + 1, none⟩ = some (.int .i64 ((rd_T94 x5_1 (ji16)).f1)) := hcc25 1 _ rfl
               have hf25_0 : w27.frozen? ⟨go25, ((ji16) : Int).toNat * 2, none⟩ = false := hfr25 0
               have hf25_1 : w27.frozen? ⟨go25, ((ji16) : Int).toNat * 2 + 1, none⟩ = false := hfr25 1
               clear hcl25 hcc25 hfr25 hM25
               replace p25 := eq_true p25
               replace q25 := eq_true q25
               have HX28 := Aside0.mk (show Kd.R k94 94 w27 w.heap.size (fun _ => True) (.slice (some ⟨go25, 0, none⟩) x5_1.length co26) x5_1 from (RW_ <| HO_5.out))
               obtain ⟨ce28, hcl28, hM28, hcc28, hfr28⟩ := Kd.R_elem HX28.out z94 ((ji16) : Int) (of_decide_eq_true (by first | (with_reducible assumption) | assumption)) (by have h_ : ((ji16) : Int) < ((x5_1.length : Int) : Int) := of_decide_eq_true (by first | (with_reducible assumption) | assumption); first | exact h_ | (have e_ := (Kd.R_reads' HO_5.out).1; omega) | simpa using h_)
               obtain rfl := k94_openM hM28
               have HP28 := Kd.R_seg HX28.out ((ji16) : Int) (of_decide_eq_true (by first | (with_reducible assumption) | assumption)) (by have h_ : ((ji16) : Int) < ((x5_1.length : Int) : Int) := of_decide_eq_true (by first | (with_reducible assumption) | assumption); first | exact h_ | (have e_ := (Kd.R_reads' HO_5.out).1; omega) | simpa using h_) (seg := [.int .i64 (rd l0 (ji22))]) (j := 1) hcl28 hcc28 (show 2 ≤ 2 from by decide) (x' := (⟨(rd_T94 x5_1 (ji16)).f0, rd l0 (ji22)⟩ : S94)) (k94_mkM _ _ _ (⟨(rd_T94 x5_1 (ji16)).f0, rd l0 (ji22)⟩ : S94) ) (fun _ hk => hk)
               have hx28_1 := hcc28 1 _ rfl
               (try simp only [show (k94).sz = 2 from rfl, Nat.mul_one, Nat.add_zero] at hx28_1)
               have hf28_1 := hfr28 1
               (try simp only [show (k94).sz = 2 from rfl, Nat.mul_one, Nat.add_zero] at hf28_1)
               clear hcl28 hcc28 hfr28 hM28
               try go_wp2_with (((with_reducible refine gate_store (t := 3) (p := 58) rfl ?_); refine store_event (t := 3) (p := 58) (v := ?vo_w29) (w1 := (w27.setCell ⟨go25, ((ji16) : Int).toNat * 2 + 1, none⟩ (.int .i64 (rd l0 (ji22))))) ?hg ?ho ?hn ?hr ?_; (case ho => rfl); (case hg => rfl); (case hn => rfl); (case hr => first | (go_simp; done) | (go_simp; rfl)); intro w29 hw; have hg : w27.grownBy w29 (some go25) := (by rw [hw]; exact HP28.2); have hp_ : Kd.R k94 94 w29 w.heap.size (fun _ => True) (.slice (some ⟨go25, 0, none⟩) x5_1.length co26) y390 := (by rw [hw, Ny390.out]; exact HP28.1); clear HP28; replace HO_5 := Aside0.mk (hp_); replace HB := Aside0.mk ((by rw [hw]; exact below_set (HB.out) GB25.out : Below w.heap.size w w29)); clear hg hw hp_))
               go_roundg kj3
               case measure => have := HK1.out; have := HJ3.out; omega
               case rel => exact ⟨(y390), (ji22), (by first | rfl | (simp; done) | (simp only [← hji22] <;> (first | rfl | simp)) | (simp [*]; done)), H', ⟨by have := HK1.out; have := HJ3.out; omega⟩, ⟨RW_ <| HO_5.out⟩, ⟨belW_ HB⟩⟩
              ·rw [if_neg c24] at H
               exact absurd H (by simp)
             ·rw [if_neg c23] at H
              exact absurd H (by simp)
            ·rw [if_neg c21] at H
             have c21b0 := beq_eq_false_iff_ne.mpr c21
             have c21b1 := bne_iff_ne.mpr c21
             obtain ⟨ji30, hji30⟩ : ∃ j_ : Int, (wrap64 (x6_1 + 1)) = j_ := ⟨_, rfl⟩
             replace H : (if 0 ≤ (ji30) then (if (ji30) < (l0.length : Int) then (if x5_1.length < 8796093022208 then (redraftref02_joined.l0 kj3 l0 l1 (x5_1 ++ [(⟨rd l0 x6_1, rd l0 (ji30)⟩ : S94)]) ji30) else (none)) else (none)) else (none)) = some r := by first | (rw [hji30] at H; exact H) | (simp only [hji30] at H ⊢; exact H)
             (try rw [hji30] at c3b0)
             have hji30w : (IntKind.i64.wrap (x6_1 + 1)) = ji30 := (i64_w _).trans hji30
             by_cases c31 : 0 ≤ (ji30)
             ·rw [if_pos c31] at H
              have c31b0 := decide_eq_true c31
              clear c31
              by_cases c32 : (ji30) < (l0.length : Int)
              ·rw [if_pos c32] at H
               have c32b0 := decide_eq_true c32
               clear c32
               by_cases c33 : x5_1.length < 8796093022208
               ·rw [if_pos c33] at H
                have LMc33 := Aside0.mk c33
                clear c33
                obtain ⟨y393, hy393⟩ : ∃ y_ : List (S94), y_ = (x5_1 ++ [(⟨rd l0 x6_1, rd l0 (ji30)⟩ : S94)]) := ⟨_, rfl⟩
                replace H : (redraftref02_joined.l0 kj3 l0 l1 y393 ji30) = some r := by first | (rw [hy393]; with_reducible exact H) | (have H2_ := (Option.bind_some _ _).symm.trans H; rw [hy393]; with_reducible exact H2_) | (have H2_ := (Option.bind_some _ _).symm.trans H; with_reducible exact H2_) | with_reducible exact H | (rw [hy393]; exact H) | exact H
                have Ny393 := Aside0.mk hy393
                clear hy393
                have H' := Aside0.mk H
                clear H
                obtain ⟨Ao34, co34, eo34⟩ := Kd.R_slice HO_5.out
                subst eo34
                try go_wp2
                have n0_ := Aside0.mk (Kd.R_drew HO_5.out)
                have n1_ := Aside0.mk (below_drew1 HB.out)
                clear HO_5
                clear HB
                have HO_5 := n0_
                have HB := n1_
                clear n0_ n1_
                have p387 := dz_ ((ji16) : Int)
                have q387 := dl_ (ji16) (x5_1.length : Int)
                obtain ⟨ad387, e387, hx387_0, hx387_1⟩ := at_T94 (Kd.R_reads' HO_5.out).2.2 (ji16) p387 q387
                cases e387
                replace p387 := eq_true p387
                replace q387 := eq_true q387
                have p388 := dz_ (x6_1 : Int)
                have q388 := dl_ x6_1 (l0.length : Int)
                obtain ⟨ad388, e388, hx388_0⟩ := Kd.at_int HR0.out x6_1 p388 q388
                have hw388_0 := hx388_0
                cases e388
                replace hx388_0 := pw_cell_below HB.out hx388_0
                replace p388 := eq_true p388
                replace q388 := eq_true q388
                refine start_ (n := 15) (S := fun w' => w'.cell? (ad387.add (((ji16)).toNat * 2)) = some (.int .i64 ((rd_T94 x5_1 (ji16)).f0)) ∧ w'.cell? ⟨(ad387.add (((ji16)).toNat * 2)).block, (ad387.add (((ji16)).toNat * 2)).off + 1, none⟩ = some (.int .i64 ((rd_T94 x5_1 (ji16)).f1)) ∧ w'.cell? (ad388.add (x6_1).toNat) = some (.int .i64 (rd l0 x6_1))) (ds := []) #[false, false, false, false, false, false, false, false, false, false, false, false, false, false, false] (by kernel_rfl) rfl rfl ⟨hx387_0, hx387_1, ((HB.out.cell (World.block_lt_of_cell? w _ hw388_0)).trans hw388_0)⟩ (fun hHeld => ?_); refine with_tabW redraftref02_joined.tab7 redraftref02_joined.bits7 (fun HT_ HW_ => ?_)
                generalize wc.drew = w35 at HO_5 HB hx387_0 hx387_1 hx388_0 hHeld ⊢
                refine puT_ 0 HT_.out ?_
                refine puT_ 1 HT_.out ?_
                refine puT_ 2 HT_.out ?_
                refine puT_ 3 HT_.out ?_
                refine puT_ 4 HT_.out ?_
                refine puT_ 5 HT_.out ?_
                refine puT_ 6 HT_.out ?_
                refine puT_ 7 HT_.out ?_
                refine puT_ 9 HT_.out ?_
                refine puT_ 10 HT_.out ?_
                refine puT_ 11 HT_.out ?_
                refine take_ (i := 8) (N := some 42) (v := ?_) (a' := ?_) #[true, true, true, true, true, true, true, true, true, true, true, true, false, false, false] rfl rfl (take_ofW HT_.out HW_.out (by kernel_rfl)) (fun _ _ _ h => h) (Or.inl ⟨by rfl, ?_⟩) hHeld ?_ ?_
                rotate_left
                ·rintro w' ⟨s0, s1, s2⟩
                 go_simp
                 with_reducible rfl
                rotate_left
                ·simp only [Act.put, List.setIfInBounds_toArray, List.set_cons_zero, List.set_cons_succ, i64_w, i32_w]
                 rfl
                refine take_ (i := 12) (N := some 46) (v := ?_) (a' := ?_) #[true, true, true, true, true, true, true, true, true, true, true, true, true, false, false] rfl rfl (take_ofW HT_.out HW_.out (by kernel_rfl)) (fun _ _ _ h => h) (Or.inl ⟨by rfl, ?_⟩) hHeld ?_ ?_
                rotate_left
                ·rintro w' ⟨s0, s1, s2⟩
                 go_simp
                 with_reducible rfl
                rotate_left
                ·simp only [Act.put, List.setIfInBounds_toArray, List.set_cons_zero, List.set_cons_succ, i64_w, i32_w]
                 rfl
                refine puT_ 13 HT_.out ?_
                refine puT_ 14 HT_.out ?_
                refine done_ (done_of HT_.out (by kernel_rfl)) ?_
                try go_wp2
                have n0_ := Aside0.mk (Kd.R_drew HO_5.out)
                have n1_ := Aside0.mk (below_drew1 HB.out)
                clear HO_5
                clear HB
                have HO_5 := n0_
                have HB := n1_
                clear n0_ n1_
                have p391 := dz_ (x6_1 : Int)
                have q391 := dl_ x6_1 (l0.length : Int)
                obtain ⟨ad391, e391, hx391_0⟩ := Kd.at_int HR0.out x6_1 p391 q391
                have hw391_0 := hx391_0
                obtain rfl : ad388 = ad391 := (by injection e391)
                replace hx391_0 := pw_cell_below HB.out hx391_0
                replace p391 := eq_true p391
                replace q391 := eq_true q391
                have p392 := dz_ ((ji30) : Int)
                have q392 := dl_ (ji30) (l0.length : Int)
                obtain ⟨ad392, e392, hx392_0⟩ := Kd.at_int HR0.out (ji30) p392 q392
                have hw392_0 := hx392_0
                obtain rfl : ad388 = ad392 := (by injection e392)
                replace hx392_0 := pw_cell_below HB.out hx392_0
                replace p392 := eq_true p392
                replace q392 := eq_true q392
                refine start_ (n := 14) (S := fun w' => w'.cell? (ad388.add (x6_1).toNat) = some (.int .i64 (rd l0 x6_1)) ∧ w'.cell? (ad388.add ((ji30)).toNat) = some (.int .i64 (rd l0 (ji30)))) (ds := []) #[false, false, false, false, false, false, false, false, false, false, false, false, false, false] (by kernel_rfl) rfl rfl ⟨((HB.out.cell (World.block_lt_of_cell? w _ hw391_0)).trans hw391_0), ((HB.out.cell (World.block_lt_of_cell? w _ hw392_0)).trans hw392_0)⟩ (fun hHeld => ?_); refine with_tabW redraftref02_joined.tab9 redraftref02_joined.bits9 (fun HT_ HW_ => ?_)
                generalize w35.drew = w36 at HO_5 HB hx391_0 hx392_0 hHeld ⊢
                refine puT_ 0 HT_.out ?_
                refine puT_ 1 HT_.out ?_
                refine puT_ 2 HT_.out ?_
                refine puT_ 3 HT_.out ?_
                refine puT_ 5 HT_.out ?_
                refine puT_ 6 HT_.out ?_
                refine puT_ 7 HT_.out ?_
                refine puT_ 8 HT_.out ?_
                refine take_ (i := 4) (N := some 63) (v := ?_) (a' := ?_) #[true, true, true, true, true, true, true, true, true, false, false, false, false, false] rfl rfl (take_ofW HT_.out HW_.out (by kernel_rfl)) (fun _ _ _ h => h) (Or.inl ⟨by rfl, ?_⟩) hHeld ?_ ?_
                rotate_left
                ·rintro w' ⟨s0, s1⟩
                 go_simp
                 with_reducible rfl
                rotate_left
                ·simp only [Act.put, List.setIfInBounds_toArray, List.set_cons_zero, List.set_cons_succ, i64_w, i32_w]
                 rfl
                refine take_ (i := 9) (N := some 68) (v := ?_) (a' := ?_) #[true, true, true, true, true, true, true, true, true, true, false, false, false, false] rfl rfl (take_ofW HT_.out HW_.out (by kernel_rfl)) (fun _ _ _ h => h) (Or.inl ⟨by rfl, ?_⟩) hHeld ?_ ?_
                rotate_left
                ·rintro w' ⟨s0, s1⟩
                 go_simp
                 with_reducible rfl
                rotate_left
                ·simp only [Act.put, List.setIfInBounds_toArray, List.set_cons_zero, List.set_cons_succ, i64_w, i32_w]
                 rfl
                refine puT_ 10 HT_.out ?_
                refine one_ (i := 11) (N := some 70) #[true, true, true, true, true, true, true, true, true, true, true, true, false, false] rfl rfl (one_of HT_.out (by kernel_rfl)) (by decide) (fun K hK => ?_)
                refine value_ (w1 := ?_) (v := ?_) (by rfl) rfl ?_ ?_
                rotate_left 2
                ·go_simp
                 constructor
                 ·rfl
                 ·rfl
                refine hK.out _ _ ⟨(World.cell?_alloc_lt _ _ _ (World.block_lt_of_cell? _ _ (((HB.out.cell (World.block_lt_of_cell? w _ hw391_0)).trans hw391_0)))).trans (((HB.out.cell (World.block_lt_of_cell? w _ hw391_0)).trans hw391_0)), (World.cell?_alloc_lt _ _ _ (World.block_lt_of_cell? _ _ (((HB.out.cell (World.block_lt_of_cell? w _ hw392_0)).trans hw392_0)))).trans (((HB.out.cell (World.block_lt_of_cell? w _ hw392_0)).trans hw392_0))⟩ (fun hHeld => ?_)
                clear hK K
                refine norm_ (a' := ?_) ?_ ?_
                rotate_left
                ·show Act.put _ (some 70) _ = _
                 simp only [Act.put, List.setIfInBounds_toArray, List.set_cons_zero, List.set_cons_succ, i64_w, i32_w]
                 rfl
                refine one_ (i := 12) (N := some 71) #[true, true, true, true, true, true, true, true, true, true, true, true, true, false] rfl rfl (one_of HT_.out (by kernel_rfl)) (by decide) (fun K hK => ?_)
                refine Kd.R_append_step k94 (w0 := w) w.heap.size (by rfl) (.tmp 59) (.tmp 70) 39 94 (.agg #[(.int .i64 0), (.int .i64 0)]) 16 rfl Tryd.underlying39 info94 rfl (by decide) (by omega) (.slice (some ad387) x5_1.length co34) x5_1 (⟨rd l0 x6_1, rd l0 (ji30)⟩ : S94) [.int .i64 (rd l0 x6_1), .int .i64 (rd l0 (ji30))] (fun _ => True) (fun _ => False) rfl rfl ?aP (fun _ hk => hk.elim) ?aF ?aO ?aB ?aS ?aL ?_
                (case aP => exact k94_mkM _ _ _ (⟨rd l0 x6_1, rd l0 (ji30)⟩ : S94))
                (case aB => exact (belW_ HB))
                (case aF => exact (fun _ _ => trivial))
                (case aO => exact (RW_ <| HO_5.out))
                (case aS => exact (below_size (belW_ HB)))
                (case aL => have := LMc33.out; omega)
                intro v394 w37 ho hb hg hat
                rw [← Ny393.out] at ho
                have n0_ := Aside0.mk (hb)
                have n1_ := Aside0.mk (ho)
                clear HB
                clear HO_5
                have HB := n0_
                have HO395 := n1_
                clear n0_ n1_
                clear ho hb hg hat
                refine hK.out _ _ ⟨((HB.out.cell (World.block_lt_of_cell? w _ hw391_0)).trans hw391_0), ((HB.out.cell (World.block_lt_of_cell? w _ hw392_0)).trans hw392_0)⟩ (fun hHeld => ?_)
                clear hK K
                refine norm_ (a' := ?_) ?_ ?_
                rotate_left
                ·show Act.put _ (some 71) _ = _
                 simp only [Act.put, List.setIfInBounds_toArray, List.set_cons_zero, List.set_cons_succ, i64_w, i32_w]
                 rfl
                refine puT_ 13 HT_.out ?_
                refine done_ (done_of HT_.out (by kernel_rfl)) ?_
                try go_wp2
                go_roundg kj3
                case measure => have := HK1.out; have := HJ3.out; omega
                case rel => exact ⟨(y393), (ji30), (by first | rfl | (simp; done) | (simp only [← hji30] <;> (first | rfl | simp)) | (simp [*]; done)), H', ⟨by have := HK1.out; have := HJ3.out; omega⟩, ⟨RW_ <| HO395.out⟩, ⟨belW_ HB⟩⟩
               ·rw [if_neg c33] at H
                exact absurd H (by simp)
              ·rw [if_neg c32] at H
               exact absurd H (by simp)
             ·rw [if_neg c31] at H
              exact absurd H (by simp)
           ·rw [if_neg c20] at H
            exact absurd H (by simp)
          ·rw [if_neg c19] at H
           exact absurd H (by simp)
         ·rw [if_neg c18] at H
          exact absurd H (by simp)
        ·rw [if_neg c17] at H
         exact absurd H (by simp)
       ·rw [if_neg c15] at H
        have c15b0 : decide (0 < (x5_1.length : Int)) = false := decide_eq_false c15
        have c15b1 : decide (0 < x5_1.length) = false := decide_eq_false (by omega)
        clear c15
        by_cases c38 : 0 ≤ x6_1
        ·rw [if_pos c38] at H
         have c38b0 := decide_eq_true c38
         clear c38
         by_cases c39 : x6_1 < (l0.length : Int)
         ·rw [if_pos c39] at H
          have c39b0 := decide_eq_true c39
          clear c39
          obtain ⟨ji40, hji40⟩ : ∃ j_ : Int, (wrap64 (x6_1 + 1)) = j_ := ⟨_, rfl⟩
          replace H : (if 0 ≤ (ji40) then (if (ji40) < (l0.length : Int) then (if x5_1.length < 8796093022208 then (redraftref02_joined.l0 kj3 l0 l1 (x5_1 ++ [(⟨rd l0 x6_1, rd l0 (ji40)⟩ : S94)]) ji40) else (none)) else (none)) else (none)) = some r := by first | (rw [hji40] at H; exact H) | (simp only [hji40] at H ⊢; exact H)
          (try rw [hji40] at c3b0)
          have hji40w : (IntKind.i64.wrap (x6_1 + 1)) = ji40 := (i64_w _).trans hji40
          by_cases c41 : 0 ≤ (ji40)
          ·rw [if_pos c41] at H
           have c41b0 := decide_eq_true c41
           clear c41
           by_cases c42 : (ji40) < (l0.length : Int)
           ·rw [if_pos c42] at H
            have c42b0 := decide_eq_true c42
            clear c42
            by_cases c43 : x5_1.length < 8796093022208
            ·rw [if_pos c43] at H
             have LMc43 := Aside0.mk c43
             clear c43
             obtain ⟨y398, hy398⟩ : ∃ y_ : List (S94), y_ = (x5_1 ++ [(⟨rd l0 x6_1, rd l0 (ji40)⟩ : S94)]) := ⟨_, rfl⟩
             replace H : (redraftref02_joined.l0 kj3 l0 l1 y398 ji40) = some r := by first | (rw [hy398]; with_reducible exact H) | (have H2_ := (Option.bind_some _ _).symm.trans H; rw [hy398]; with_reducible exact H2_) | (have H2_ := (Option.bind_some _ _).symm.trans H; with_reducible exact H2_) | with_reducible exact H | (rw [hy398]; exact H) | exact H
             have Ny398 := Aside0.mk hy398
             clear hy398
             have H' := Aside0.mk H
             clear H
             obtain ⟨Ao44, co44, eo44⟩ := Kd.R_slice HO_5.out
             subst eo44
             try go_wp2
             have n0_ := Aside0.mk (Kd.R_drew HO_5.out)
             have n1_ := Aside0.mk (below_drew1 HB.out)
             clear HO_5
             clear HB
             have HO_5 := n0_
             have HB := n1_
             clear n0_ n1_
             refine start_ (n := 15) (S := fun w' => True) (ds := []) #[false, false, false, false, false, false, false, false, false, false, false, false, false, false, false] (by kernel_rfl) rfl rfl trivial (fun hHeld => ?_); refine with_tabW redraftref02_joined.tab7 redraftref02_joined.bits7 (fun HT_ HW_ => ?_)
             generalize wc.drew = w45 at HO_5 HB hHeld ⊢
             refine puT_ 0 HT_.out ?_
             refine puT_ 1 HT_.out ?_
             refine puT_ 2 HT_.out ?_
             refine puU_ 3 HT_.out ?_
             refine puU_ 4 HT_.out ?_
             refine puU_ 5 HT_.out ?_
             refine puU_ 6 HT_.out ?_
             refine puU_ 7 HT_.out ?_
             refine puU_ 8 HT_.out ?_
             refine puU_ 9 HT_.out ?_
             refine puU_ 10 HT_.out ?_
             refine puU_ 11 HT_.out ?_
             refine puU_ 12 HT_.out ?_
             refine puU_ 13 HT_.out ?_
             refine puT_ 14 HT_.out ?_
             refine done_ (done_of HT_.out (by kernel_rfl)) ?_
             try go_wp2
             have n0_ := Aside0.mk (Kd.R_drew HO_5.out)
             have n1_ := Aside0.mk (below_drew1 HB.out)
             clear HO_5
             clear HB
             have HO_5 := n0_
             have HB := n1_
             clear n0_ n1_
             have p396 := dz_ (x6_1 : Int)
             have q396 := dl_ x6_1 (l0.length : Int)
             obtain ⟨ad396, e396, hx396_0⟩ := Kd.at_int HR0.out x6_1 p396 q396
             have hw396_0 := hx396_0
             cases e396
             replace hx396_0 := pw_cell_below HB.out hx396_0
             replace p396 := eq_true p396
             replace q396 := eq_true q396
             have p397 := dz_ ((ji40) : Int)
             have q397 := dl_ (ji40) (l0.length : Int)
             obtain ⟨ad397, e397, hx397_0⟩ := Kd.at_int HR0.out (ji40) p397 q397
             have hw397_0 := hx397_0
             obtain rfl : ad396 = ad397 := (by injection e397)
             replace hx397_0 := pw_cell_below HB.out hx397_0
             replace p397 := eq_true p397
             replace q397 := eq_true q397
             refine start_ (n := 14) (S := fun w' => w'.cell? (ad396.add (x6_1).toNat) = some (.int .i64 (rd l0 x6_1)) ∧ w'.cell? (ad396.add ((ji40)).toNat) = some (.int .i64 (rd l0 (ji40)))) (ds := []) #[false, false, false, false, false, false, false, false, false, false, false, false, false, false] (by kernel_rfl) rfl rfl ⟨((HB.out.cell (World.block_lt_of_cell? w _ hw396_0)).trans hw396_0), ((HB.out.cell (World.block_lt_of_cell? w _ hw397_0)).trans hw397_0)⟩ (fun hHeld => ?_); refine with_tabW redraftref02_joined.tab9 redraftref02_joined.bits9 (fun HT_ HW_ => ?_)
             generalize w45.drew = w46 at HO_5 HB hx396_0 hx397_0 hHeld ⊢
             refine puT_ 0 HT_.out ?_
             refine puT_ 1 HT_.out ?_
             refine puT_ 2 HT_.out ?_
             refine puT_ 3 HT_.out ?_
             refine puT_ 5 HT_.out ?_
             refine puT_ 6 HT_.out ?_
             refine puT_ 7 HT_.out ?_
             refine puT_ 8 HT_.out ?_
             refine take_ (i := 4) (N := some 63) (v := ?_) (a' := ?_) #[true, true, true, true, true, true, true, true, true, false, false, false, false, false] rfl rfl (take_ofW HT_.out HW_.out (by kernel_rfl)) (fun _ _ _ h => h) (Or.inl ⟨by rfl, ?_⟩) hHeld ?_ ?_
             rotate_left
             ·rintro w' ⟨s0, s1⟩
              go_simp
              with_reducible rfl
             rotate_left
             ·simp only [Act.put, List.setIfInBounds_toArray, List.set_cons_zero, List.set_cons_succ, i64_w, i32_w]
              rfl
             refine take_ (i := 9) (N := some 68) (v := ?_) (a' := ?_) #[true, true, true, true, true, true, true, true, true, true, false, false, false, false] rfl rfl (take_ofW HT_.out HW_.out (by kernel_rfl)) (fun _ _ _ h => h) (Or.inl ⟨by rfl, ?_⟩) hHeld ?_ ?_
             rotate_left
             ·rintro w' ⟨s0, s1⟩
              go_simp
              with_reducible rfl
             rotate_left
             ·simp only [Act.put, List.setIfInBounds_toArray, List.set_cons_zero, List.set_cons_succ, i64_w, i32_w]
              rfl
             refine puT_ 10 HT_.out ?_
             refine one_ (i := 11) (N := some 70) #[true, true, true, true, true, true, true, true, true, true, true, true, false, false] rfl rfl (one_of HT_.out (by kernel_rfl)) (by decide) (fun K hK => ?_)
             refine value_ (w1 := ?_) (v := ?_) (by rfl) rfl ?_ ?_
             rotate_left 2
             ·go_simp
              constructor
              ·rfl
              ·rfl
             refine hK.out _ _ ⟨(World.cell?_alloc_lt _ _ _ (World.block_lt_of_cell? _ _ (((HB.out.cell (World.block_lt_of_cell? w _ hw396_0)).trans hw396_0)))).trans (((HB.out.cell (World.block_lt_of_cell? w _ hw396_0)).trans hw396_0)), (World.cell?_alloc_lt _ _ _ (World.block_lt_of_cell? _ _ (((HB.out.cell (World.block_lt_of_cell? w _ hw397_0)).trans hw397_0)))).trans (((HB.out.cell (World.block_lt_of_cell? w _ hw397_0)).trans hw397_0))⟩ (fun hHeld => ?_)
             clear hK K
             refine norm_ (a' := ?_) ?_ ?_
             rotate_left
             ·show Act.put _ (some 70) _ = _
              simp only [Act.put, List.setIfInBounds_toArray, List.set_cons_zero, List.set_cons_succ, i64_w, i32_w]
              rfl
             refine one_ (i := 12) (N := some 71) #[true, true, true, true, true, true, true, true, true, true, true, true, true, false] rfl rfl (one_of HT_.out (by kernel_rfl)) (by decide) (fun K hK => ?_)
             refine Kd.R_append_step k94 (w0 := w) w.heap.size (by rfl) (.tmp 59) (.tmp 70) 39 94 (.agg #[(.int .i64 0), (.int .i64 0)]) 16 rfl Tryd.underlying39 info94 rfl (by decide) (by omega) (.slice Ao44 x5_1.length co44) x5_1 (⟨rd l0 x6_1, rd l0 (ji40)⟩ : S94) [.int .i64 (rd l0 x6_1), .int .i64 (rd l0 (ji40))] (fun _ => True) (fun _ => False) rfl rfl ?aP (fun _ hk => hk.elim) ?aF ?aO ?aB ?aS ?aL ?_
             (case aP => exact k94_mkM _ _ _ (⟨rd l0 x6_1, rd l0 (ji40)⟩ : S94))
             (case aB => exact (belW_ HB))
             (case aF => exact (fun _ _ => trivial))
             (case aO => exact (RW_ <| HO_5.out))
             (case aS => exact (below_size (belW_ HB)))
             (case aL => have := LMc43.out; omega)
             intro v399 w47 ho hb hg hat
             rw [← Ny398.out] at ho
             have n0_ := Aside0.mk (hb)
             have n1_ := Aside0.mk (ho)
             clear HB
             clear HO_5
             have HB := n0_
             have HO400 := n1_
             clear n0_ n1_
             clear ho hb hg hat
             refine hK.out _ _ ⟨((HB.out.cell (World.block_lt_of_cell? w _ hw396_0)).trans hw396_0), ((HB.out.cell (World.block_lt_of_cell? w _ hw397_0)).trans hw397_0)⟩ (fun hHeld => ?_)
             clear hK K
             refine norm_ (a' := ?_) ?_ ?_
             rotate_left
             ·show Act.put _ (some 71) _ = _
              simp only [Act.put, List.setIfInBounds_toArray, List.set_cons_zero, List.set_cons_succ, i64_w, i32_w]
              rfl
             refine puT_ 13 HT_.out ?_
             refine done_ (done_of HT_.out (by kernel_rfl)) ?_
             try go_wp2
             go_roundg kj3
             case measure => have := HK1.out; have := HJ3.out; omega
             case rel => exact ⟨(y398), (ji40), (by first | rfl | (simp; done) | (simp only [← hji40] <;> (first | rfl | simp)) | (simp [*]; done)), H', ⟨by have := HK1.out; have := HJ3.out; omega⟩, ⟨RW_ <| HO400.out⟩, ⟨belW_ HB⟩⟩
            ·rw [if_neg c43] at H
             exact absurd H (by simp)
           ·rw [if_neg c42] at H
            exact absurd H (by simp)
          ·rw [if_neg c41] at H
           exact absurd H (by simp)
         ·rw [if_neg c39] at H
          exact absurd H (by simp)
        ·rw [if_neg c38] at H
         exact absurd H (by simp)
   ·rw [if_neg c3] at H
    have c3b0 := decide_eq_false c3
    clear c3
    obtain rfl := Option.some.inj H
    go_wp2
    go_ret
    exact ⟨_, rs_, RW_ <| HO_5.out, belW_ HB⟩

end Go.Proofs.YtloccjkcmlkifaaDoor.PAll
