/- XformOverIsCross_card, part 36. -/
import Derived.Test.YtloccjkcmlkifaaDoorQOc17
import Derived.Test.YtloccjkcmlkifaaDoorQOc35

namespace Go.Proofs.YtloccjkcmlkifaaDoor.PAll
open Go.RowKit Go.Proofs.YtloccjkcmlkifaaDoorW.PrintWords Go.Proofs.YtloccjkcmlkifaaDoorW.PrintLast Go.Proofs.YtloccjkcmlkifaaDoorW.PrintMore
attribute [local go_sem] max2_int min2_int max_two min_two max_three min_three max_four min_four   -- for this text's walks alone
set_option linter.unusedVariables false
set_option linter.unusedSimpArgs false

attribute [local go_sem high] idx34_0 idx34_1 idx35_0 idx35_1
mutual
def redraftlaw05_picked.j1 : Nat → Int → List Bool → Int → Int → Int → List Int → Bool → Option ((List (S94)))
 | 0, _, _, _, _, _, _, _ => none
 | k + 1, x1, x5, x598000, x598001, x598002, x598003, x598004 => redraftlaw05_picked.l1 k x1 x5 0 x598000 x598001 x598002 x598003 x598004
def redraftlaw05_picked.j3 : Nat → Int → List Bool → Option ((List (S94)))
 | 0, _, _ => none
 | k + 1, x1, x5 => redraftlaw05_picked.l2 k x1 x5 ([] : List (S94)) 0
def redraftlaw05_picked.l2 : Nat → Int → List Bool → List (S94) → Int → Option ((List (S94)))
 | 0, _, _, _, _ => none
 | k + 1, x1, x5, x9, x10 => if x10 < x1 then (if 0 ≤ x10 then (if x10 < (x5.length : Int) then (if rdOf false x5 x10 = true then (if (x9.length : Int) > 0 then (if 0 ≤ (wrap64 ((x9.length : Int) - 1)) then (if (wrap64 ((x9.length : Int) - 1)) < (x9.length : Int) then (if ((rd_T94 x9 (wrap64 ((x9.length : Int) - 1))).f1) = x10 then (redraftlaw05_picked.l2 k x1 x5 (x9.set ((wrap64 ((x9.length : Int) - 1)) : Int).toNat (⟨(rd_T94 x9 (wrap64 ((x9.length : Int) - 1))).f0, wrap64 (x10 + 1)⟩ : S94)) (wrap64 (x10 + 1))) else (if x9.length < 8796093022208 then (redraftlaw05_picked.l2 k x1 x5 (x9 ++ [(⟨x10, wrap64 (x10 + 1)⟩ : S94)]) (wrap64 (x10 + 1))) else (none))) else (none)) else (none)) else (if x9.length < 8796093022208 then (redraftlaw05_picked.l2 k x1 x5 (x9 ++ [(⟨x10, wrap64 (x10 + 1)⟩ : S94)]) (wrap64 (x10 + 1))) else (none))) else (redraftlaw05_picked.l2 k x1 x5 x9 (wrap64 (x10 + 1)))) else (none)) else (none)) else (some x9)
def redraftlaw05_picked.l1 : Nat → Int → List Bool → Int → Int → Int → Int → List Int → Bool → Option ((List (S94)))
 | 0, _, _, _, _, _, _, _, _ => none
 | k + 1, x1, x5, x8, x598000, x598001, x598002, x598003, x598004 => if x8 < (x598003.length : Int) then (if x8 < 40 then (if 0 ≤ x8 then ((redraftlaw05_within.f (rd x598003 x8) x1).bind fun t605 => (if 0 ≤ t605 then (if t605 < (x5.length : Int) then (redraftlaw05_picked.l1 k x1 (x5.set (t605 : Int).toNat true) (wrap64 (x8 + 1)) x598000 x598001 x598002 x598003 x598004) else (none)) else (none))) else (none)) else (redraftlaw05_picked.j3 k x1 x5)) else (redraftlaw05_picked.j3 k x1 x5)
def redraftlaw05_picked.l0 : Nat → Int → List Bool → Int → Int → Int → Int → Int → List Int → Bool → Option ((List (S94)))
 | 0, _, _, _, _, _, _, _, _, _ => none
 | k + 1, x1, x5, x6, x7, x598000, x598001, x598002, x598003, x598004 => if x7 < x1 then ((redraftlaw05_within.f x598002 4).bind fun t602 => (if x7 ≤ (wrap64 (x6 + t602)) then (if 0 ≤ x7 then (if x7 < (x5.length : Int) then (redraftlaw05_picked.l0 k x1 (x5.set (x7 : Int).toNat true) x6 (wrap64 (x7 + 1)) x598000 x598001 x598002 x598003 x598004) else (none)) else (none)) else (redraftlaw05_picked.j1 k x1 x5 x598000 x598001 x598002 x598003 x598004))) else (redraftlaw05_picked.j1 k x1 x5 x598000 x598001 x598002 x598003 x598004)
end
def redraftlaw05_picked.f (k : Nat) (a0_0 : Int) (a0_1 : Int) (a0_2 : Int) (l0_3 : List Int) (a0_4 : Bool) (a1 : Int) : Option ((List (S94))) := if 0 ≤ (wrap64 (a1 + 1)) then (if (wrap64 (a1 + 1) : Int).toNat ≤ 281474976710656 then ((redraftlaw05_within.f a0_1 a1).bind fun t601 => (redraftlaw05_picked.l0 k a1 (List.replicate (wrap64 (a1 + 1) : Int).toNat false) t601 t601 a0_0 a0_1 a0_2 l0_3 a0_4)) else (none)) else (none)
set_option maxHeartbeats 8000000 in
set_option maxRecDepth 100000 in
theorem redraftlaw05_picked.calls (k : Nat) (a0_0 : Int) (a0_1 : Int) (a0_2 : Int) (A0_3 : Option Addr) (c0_3 : Nat) (l0_3 : List Int) (a0_4 : Bool) (a1 : Int) (r : List (S94)) (w : World) (hr0_3 : Kd.C (Kd.int .i64) w A0_3 l0_3.length l0_3) (hc0_3 : l0_3.length ≤ c0_3) (h : redraftlaw05_picked.f k a0_0 a0_1 a0_2 l0_3 a0_4 a1 = some r) :
 Calls Tryd.prog 57 #[.agg #[.int .i64 a0_0, .int .i64 a0_1, .int .i64 a0_2, .slice A0_3 l0_3.length c0_3, .bool a0_4], .int .i64 a1] w fun e w' => ∃ v0_ : Value, e = .returned (v0_) ∧ Kd.R k94 94 w' w.heap.size (fun _ => True) v0_ r ∧ Below w.heap.size w w' := by
 have hu57 := Tryd.underlying57
 have hu94 := Tryd.underlying94
 have HR0_3 := Aside0.mk hr0_3
 have HC0_3 := Aside0.mk hc0_3
 clear hr0_3 hc0_3
 have HB := Aside0.mk (Below.refl w.heap.size w)
 have H : (if 0 ≤ (wrap64 (a1 + 1)) then (if (wrap64 (a1 + 1) : Int).toNat ≤ 281474976710656 then ((redraftlaw05_within.f a0_1 a1).bind fun t601 => (redraftlaw05_picked.l0 k a1 (List.replicate (wrap64 (a1 + 1) : Int).toNat false) t601 t601 a0_0 a0_1 a0_2 l0_3 a0_4)) else (none)) else (none)) = some r := h
 clear h
 obtain ⟨ji3, hji3⟩ : ∃ j_ : Int, (wrap64 (a1 + 1)) = j_ := ⟨_, rfl⟩
 replace H : (if 0 ≤ (ji3) then (if (ji3 : Int).toNat ≤ 281474976710656 then ((redraftlaw05_within.f a0_1 a1).bind fun t601 => (redraftlaw05_picked.l0 k a1 (List.replicate (ji3 : Int).toNat false) t601 t601 a0_0 a0_1 a0_2 l0_3 a0_4)) else (none)) else (none)) = some r := by first | (rw [hji3] at H; exact H) | (simp only [hji3] at H ⊢; exact H)
 have hji3w : (IntKind.i64.wrap (a1 + 1)) = ji3 := (i64_w _).trans hji3
 by_cases c4 : 0 ≤ (ji3)
 ·rw [if_pos c4] at H
  have c4b0 := eq_true c4
  have c4b1 := decide_eq_true c4
  clear c4
  by_cases c5 : (ji3 : Int).toNat ≤ 281474976710656
  ·rw [if_pos c5] at H
   have c5b0 := eq_true c5
   have c5b1 := decide_eq_true c5
   clear c5
   obtain ⟨y598, hy598⟩ : ∃ y_ : List Bool, y_ = (List.replicate (ji3 : Int).toNat false) := ⟨_, rfl⟩
   replace H : ((redraftlaw05_within.f a0_1 a1).bind fun t601 => (redraftlaw05_picked.l0 k a1 y598 t601 t601 a0_0 a0_1 a0_2 l0_3 a0_4)) = some r := by first | (rw [hy598]; with_reducible exact H) | (have H2_ := (Option.bind_some _ _).symm.trans H; rw [hy598]; with_reducible exact H2_) | (have H2_ := (Option.bind_some _ _).symm.trans H; with_reducible exact H2_) | with_reducible exact H | (rw [hy598]; exact H) | exact H
   have Ny598 := Aside0.mk hy598
   clear hy598
   replace H := Option.bind_eq_some_iff.mp H
   obtain ⟨t601, A60, H⟩ := H
   try dsimp only at H
   have A6 := Aside0.mk A60
   clear A60
   have HC7 := Aside0.mk H
   clear H
   go_enter Tryd.func57, Tryd.ntmps57
   go_upto_block 0 with (first | ((with_reducible refine gate_dst (N := 2) rfl ?_); refine bxE_ 2 57 #[.int .i64 a0_0, .int .i64 a0_1, .int .i64 a0_2, .slice A0_3 l0_3.length c0_3, .bool a0_4] ?_; intro gb597 hg w8 hbox hb; have BK597 := Aside0.mk (hbox); have GW597 := gee_ hg HB; have GE597 := gee_ hg HB; replace HB := belB_ HB hb; clear hb hbox hg) | ((with_reducible refine gate_dst (N := 14) rfl ?_); refine Kd.R_make Kd.bool _ 4 rfl (N := 14) rfl 109 _ _ rfl ji3 rfl rfl Tryd.underlying109 (.bool false) 1 info4 rfl (by decide) (by omega) false (ok := fun _ => True) (okp := fun _ => True) rfl (fun _ hk => hk) trivial (of_decide_eq_true (by first | (with_reducible assumption) | assumption)) (Nat.le_trans (Nat.mul_le_mul_right _ (of_decide_eq_true (by first | (with_reducible assumption) | assumption) : ji3.toNat ≤ 281474976710656)) (by omega)) (Below.refl _ _) (Nat.le_refl _) ?_; intro v599 w9 ho10 hb hg_ hnew_; clear hg_ hnew_; (first | rw [← Ny598.out] at ho10 | (simp only [Int.reduceToNat] at ho10; rw [← Ny598.out] at ho10)); have HO600 := Aside0.mk (Kd.R_lower ho10 (below_size (belW_ HB))); replace BK597 := blkB_ BK597 hb; replace HB := belB_ HB hb; clear hb ho10; obtain ⟨hcz11_0, hcz11_1, hcz11_2, hcz11_3, hcz11_4, hfz11_0, hfz11_1, hfz11_2, hfz11_3, hfz11_4⟩ := blk5_ BK597.out) | ((with_reducible refine gate_callee (f := 18) rfl ?_); refine goS_ 18 rfl Tryd.func18 #[.int .i64 a0_1, .int .i64 a1] ?_; (with_reducible refine (redraftlaw05_within.calls a0_1 a1 t601 _ A6.out).mono ?_); rintro e w' ⟨rfl, ⟨nd, rfl⟩⟩; refine ⟨_, rfl, ?_⟩))
   (try simp only [Act.put, List.setIfInBounds_toArray, List.set_cons_zero, List.set_cons_succ])
   go_cut [] (fun wc => ∃ (kq : Nat) (x5_6 : List Bool), Aside0 (redraftlaw05_picked.j1 kq a1 x5_6 a0_0 a0_1 a0_2 l0_3 a0_4 = some r) ∧ Aside0 (kq ≤ k) ∧ Aside0 (Kd.R Kd.bool 4 wc w.heap.size (fun _ => True) v599 x5_6) ∧ Aside0 (wc.heap[gb597]? = some (.cells #[.int .i64 a0_0, .int .i64 a0_1, .int .i64 a0_2, (.slice A0_3 l0_3.length c0_3), .bool a0_4] 57 (0, 0))) ∧ Aside0 (Below w.heap.size w wc))
   case first =>
    have H := HC7.out
    clear HC7
    have H' := Aside0.mk H
    clear H
    go_wp2
    go_loopg [7] k (fun kq v7 w' => ∃ (x5_1 : List Bool) (x7_1 : Int), v7 = .int .i64 x7_1 ∧ Aside0 (redraftlaw05_picked.l0 kq a1 x5_1 t601 x7_1 a0_0 a0_1 a0_2 l0_3 a0_4 = some r) ∧ Aside0 (kq ≤ k) ∧ Aside0 (Kd.R Kd.bool 4 w' w.heap.size (fun _ => True) v599 x5_1) ∧ Aside0 (w'.heap[gb597]? = some (.cells #[.int .i64 a0_0, .int .i64 a0_1, .int .i64 a0_2, (.slice A0_3 l0_3.length c0_3), .bool a0_4] 57 (0, 0))) ∧ Aside0 (Below w.heap.size w w'))
    case atStart => exact ⟨(y598), (t601), ok_, H', ⟨Nat.le_refl _⟩, ⟨RW_ <| HO600.out⟩, ⟨blkW_ BK597⟩, ⟨belW_ HB⟩⟩
    case round =>
     clear H'
     try clear c1
     try clear p2
     try clear c4
     try clear c4b0
     try clear c4b1
     try clear c5
     try clear c5b0
     try clear c5b1
     try clear p6
     try clear hcz11_0
     try clear hcz11_1
     try clear hcz11_2
     try clear hcz11_3
     try clear hcz11_4
     try clear hfz11_0
     try clear hfz11_1
     try clear hfz11_2
     try clear hfz11_3
     try clear hfz11_4
     obtain ⟨x5_1, x7_1, rfl, HA, HK1, HO_5, BK597, HB⟩ := hrel
     cases gk with
     | zero => exact absurd HA.out (by simp [redraftlaw05_picked.l0])
     | succ k1 =>
      have H := HA.out
      clear HA
      simp only [redraftlaw05_picked.l0] at H
      by_cases c12 : x7_1 < a1
      ·rw [if_pos c12] at H
       have c12b0 := decide_eq_true c12
       clear c12
       (first | rw [c12b0] | (simp only [i64_w, i32_w]; rw [c12b0]) | rw [c12b1] | skip)
       replace H := Option.bind_eq_some_iff.mp H
       obtain ⟨t602, A130, H⟩ := H
       try dsimp only at H
       have A13 := Aside0.mk A130
       clear A130
       by_cases c14 : x7_1 ≤ (wrap64 (t601 + t602))
       ·rw [if_pos c14] at H
        have c14b0 := decide_eq_true c14
        clear c14
        by_cases c15 : 0 ≤ x7_1
        ·rw [if_pos c15] at H
         have c15b0 := decide_eq_true c15
         clear c15
         by_cases c16 : x7_1 < (x5_1.length : Int)
         ·rw [if_pos c16] at H
          have c16b0 := decide_eq_true c16
          clear c16
          obtain ⟨y603, hy603⟩ : ∃ y_ : List Bool, y_ = (x5_1.set (x7_1 : Int).toNat true) := ⟨_, rfl⟩
          replace H : (redraftlaw05_picked.l0 k1 a1 y603 t601 (wrap64 (x7_1 + 1)) a0_0 a0_1 a0_2 l0_3 a0_4) = some r := by first | (rw [hy603]; with_reducible exact H) | (have H2_ := (Option.bind_some _ _).symm.trans H; rw [hy603]; with_reducible exact H2_) | (have H2_ := (Option.bind_some _ _).symm.trans H; with_reducible exact H2_) | with_reducible exact H | (rw [hy603]; exact H) | exact H
          have Ny603 := Aside0.mk hy603
          clear hy603
          have H' := Aside0.mk H
          clear H
          obtain ⟨hcz18_0, hcz18_1, hcz18_2, hcz18_3, hcz18_4, hfz18_0, hfz18_1, hfz18_2, hfz18_3, hfz18_4⟩ := blk5_ BK597.out
          go_wp2_with (first | (go_at_call 18; (with_reducible refine (redraftlaw05_within.calls a0_2 4 t602 _ A13.out).mono ?_); rintro e w' ⟨rfl, ⟨nd, rfl⟩⟩; (try (rw [drewN_self wr]; generalize hq_ : World.drewN wr _ = wr; have n0_ : Aside0 (Kd.R Kd.bool 4 wr w.heap.size (fun _ => True) v599 x5_1) := ⟨by rw [← hq_]; exact (RW_ <| HO_5.out)⟩; have n1_ : Aside0 (wr.heap[gb597]? = some (.cells #[.int .i64 a0_0, .int .i64 a0_1, .int .i64 a0_2, .slice A0_3 l0_3.length c0_3, .bool a0_4] 57 (0, 0))) := ⟨by rw [← hq_]; exact (blkW_ BK597)⟩; have n2_ : Aside0 (Below w.heap.size w wr) := ⟨by rw [← hq_]; exact (belW_ HB)⟩; clear HO_5 BK597 HB hq_; have HO_5 := n0_; have BK597 := n1_; have HB := n2_; clear n0_ n1_ n2_)); have p17 := dz_ (x7_1 : Int); have q17 : (x7_1 : Int) < ((x5_1.length : Int) : Int) := of_decide_eq_true (by first | (with_reducible assumption) | assumption); obtain ⟨go17, co17, eo17, gb17, gl17, cl17, HG17⟩ := Kd.R_form HO_5.out (by omega); (first | cases eo17 | (injection eo17 with ea_ en_ ec_; (first | subst ea_ | (injection ea_ with ea_; subst ea_)); subst ec_; clear en_)); have GB17 := Aside0.mk gb17; have GG17 := Aside0.mk HG17; clear gb17 gl17 HG17; obtain ⟨hx17_0, hf17_0⟩ := Kd.R_celln false HO_5.out (x7_1 : Int) p17 q17; replace p17 := eq_true p17; replace q17 := eq_true q17; obtain ⟨hy19_, hz19_⟩ := Kd.R_celln false HO_5.out (x7_1 : Int) (of_decide_eq_true (by first | (with_reducible assumption) | assumption)) (of_decide_eq_true (by first | (with_reducible assumption) | assumption)); have HP19 := Kd.R_putg HO_5.out (x7_1 : Int) true) | ((with_reducible refine gate_store (t := 4) (p := 36) rfl ?_); refine store_event (t := 4) (p := 36) (v := ?vo_w20) (w1 := (wr.setCell ⟨go17, (x7_1 : Int).toNat, none⟩ (.bool true))) ?hg ?ho ?hn ?hr ?_; (case ho => rfl); (case hg => rfl); (case hn => rfl); (case hr => first | (go_simp; done) | (go_simp; rfl)); intro w20 hw; have hg : wr.grownBy w20 (some go17) := (by rw [hw]; exact HP19.2); have hp_ : Kd.R Kd.bool 4 w20 w.heap.size (fun _ => True) (.slice (some ⟨go17, 0, none⟩) x5_1.length co17) y603 := (by rw [hw, Ny603.out]; exact HP19.1); clear HP19; replace BK597 := Aside0.mk (blk_grown (blkW_ BK597) hg (Kd.R_ne HO_5.out BK597.out (by decide))); replace HO_5 := Aside0.mk (hp_); replace HB := Aside0.mk ((by rw [hw]; exact below_set (HB.out) GB17.out : Below w.heap.size w w20)); clear hg hw hp_))
          go_roundg k1
          case measure => have := HK1.out; omega
          case rel => exact ⟨(y603), (wrap64 (x7_1 + 1)), ok_, H', ⟨lk_ HK1⟩, ⟨RW_ <| HO_5.out⟩, ⟨blkW_ BK597⟩, ⟨belW_ HB⟩⟩
         ·rw [if_neg c16] at H
          exact absurd H (by simp)
        ·rw [if_neg c15] at H
         exact absurd H (by simp)
       ·rw [if_neg c14] at H
        have c14b0 := decide_eq_false c14
        clear c14
        have H' := Aside0.mk H
        clear H
        obtain ⟨hcz21_0, hcz21_1, hcz21_2, hcz21_3, hcz21_4, hfz21_0, hfz21_1, hfz21_2, hfz21_3, hfz21_4⟩ := blk5_ BK597.out
        go_wp2_with ((go_at_call 18; (with_reducible refine (redraftlaw05_within.calls a0_2 4 t602 _ A13.out).mono ?_); rintro e w' ⟨rfl, ⟨nd, rfl⟩⟩))
        go_meet
        case rel => exact ⟨_, (x5_1), H', ⟨lk_ HK1⟩, ⟨RW_ <| HO_5.out⟩, ⟨blkW_ BK597⟩, ⟨belW_ HB⟩⟩
      ·rw [if_neg c12] at H
       have c12b0 := decide_eq_false c12
       clear c12
       (first | rw [c12b0] | (simp only [i64_w, i32_w]; rw [c12b0]) | rw [c12b1] | skip)
       have H' := Aside0.mk H
       clear H
       go_wp2
       go_meet
       case rel => exact ⟨_, (x5_1), H', ⟨lk_ HK1⟩, ⟨RW_ <| HO_5.out⟩, ⟨blkW_ BK597⟩, ⟨belW_ HB⟩⟩
   case rest =>
    clear HC7
    try clear c4
    try clear c4b0
    try clear c4b1
    try clear c5
    try clear c5b0
    try clear c5b1
    try clear hcz11_0
    try clear hcz11_1
    try clear hcz11_2
    try clear hcz11_3
    try clear hcz11_4
    try clear hfz11_0
    try clear hfz11_1
    try clear hfz11_2
    try clear hfz11_3
    try clear hfz11_4
    obtain ⟨kq, x5_6, HA, HJ6, HO_5, BK597, HB⟩ := hcut
    cases kq with
    | zero => exact absurd HA.out (by simp [redraftlaw05_picked.j1])
    | succ kj6 =>
     have H := HA.out
     clear HA
     simp only [redraftlaw05_picked.j1] at H
     have HC22 := Aside0.mk H
     clear H
     go_upto_block 2 with (fail)
     go_cut [] (fun wc => ∃ (kq : Nat) (x5_21 : List Bool), Aside0 (redraftlaw05_picked.j3 kq a1 x5_21 = some r) ∧ Aside0 (kq ≤ kj6) ∧ Aside0 (Kd.R Kd.bool 4 wc w.heap.size (fun _ => True) v599 x5_21) ∧ Aside0 (wc.heap[gb597]? = some (.cells #[.int .i64 a0_0, .int .i64 a0_1, .int .i64 a0_2, (.slice A0_3 l0_3.length c0_3), .bool a0_4] 57 (0, 0))) ∧ Aside0 (Below w.heap.size w wc))
     case first =>
      have H := HC22.out
      clear HC22
      have H' := Aside0.mk H
      clear H
      go_wp2
      go_loopg [8] kj6 (fun kq v8 w' => ∃ (x5_2 : List Bool) (x8_2 : Int), v8 = .int .i64 x8_2 ∧ Aside0 (redraftlaw05_picked.l1 kq a1 x5_2 x8_2 a0_0 a0_1 a0_2 l0_3 a0_4 = some r) ∧ Aside0 (kq ≤ kj6) ∧ Aside0 (Kd.R Kd.bool 4 w' w.heap.size (fun _ => True) v599 x5_2) ∧ Aside0 (w'.heap[gb597]? = some (.cells #[.int .i64 a0_0, .int .i64 a0_1, .int .i64 a0_2, (.slice A0_3 l0_3.length c0_3), .bool a0_4] 57 (0, 0))) ∧ Aside0 (Below w.heap.size w w'))
      case atStart => exact ⟨(x5_6), (0), ok_, H', ⟨Nat.le_refl _⟩, ⟨RW_ <| HO_5.out⟩, ⟨blkW_ BK597⟩, ⟨belW_ HB⟩⟩
      case round =>
       clear H'
       try clear c1
       try clear p1
       try clear q1
       try clear hx1
       try clear p2
       try clear c4
       try clear c4b0
       try clear c4b1
       try clear c5
       try clear c5b0
       try clear c5b1
       try clear p6
       try clear c12
       try clear c12b0
       try clear c12b1
       try clear c14
       try clear c14b0
       try clear c15
       try clear c15b0
       try clear c16
       try clear c16b0
       try clear p17
       try clear q17
       try clear hx17
       try clear hf17
       try clear c18
       try clear hcz11_0
       try clear hcz11_1
       try clear hcz11_2
       try clear hcz11_3
       try clear hcz11_4
       try clear hcz18_0
       try clear hcz18_1
       try clear hcz18_2
       try clear hcz18_3
       try clear hcz18_4
       try clear hcz21_0
       try clear hcz21_1
       try clear hcz21_2
       try clear hcz21_3
       try clear hcz21_4
       try clear hfz11_0
       try clear hfz11_1
       try clear hfz11_2
       try clear hfz11_3
       try clear hfz11_4
       try clear hfz18_0
       try clear hfz18_1
       try clear hfz18_2
       try clear hfz18_3
       try clear hfz18_4
       try clear hfz21_0
       try clear hfz21_1
       try clear hfz21_2
       try clear hfz21_3
       try clear hfz21_4
       try clear hx17_0
       try clear p1
       try clear p17
       try clear p2
       try clear p6
       try clear q1
       try clear q17
       obtain ⟨x5_2, x8_2, rfl, HA, HK2, HO_5, BK597, HB⟩ := hrel
       cases gk with
       | zero => exact absurd HA.out (by simp [redraftlaw05_picked.l1])
       | succ k2 =>
        have H := HA.out
        clear HA
        simp only [redraftlaw05_picked.l1] at H
        by_cases c23 : x8_2 < (l0_3.length : Int)
        ·rw [if_pos c23] at H
         have c23b0 := decide_eq_true c23
         clear c23
         (first | rw [c23b0] | (simp only [i64_w, i32_w]; rw [c23b0]) | rw [c23b1] | skip)
         by_cases c24 : x8_2 < 40
         ·rw [if_pos c24] at H
          have c24b0 := decide_eq_true c24
          clear c24
          by_cases c25 : 0 ≤ x8_2
          ·rw [if_pos c25] at H
           have c25b0 := decide_eq_true c25
           clear c25
           replace H := Option.bind_eq_some_iff.mp H
           obtain ⟨t605, A260, H⟩ := H
           try dsimp only at H
           have A26 := Aside0.mk A260
           clear A260
           by_cases c27 : 0 ≤ t605
           ·rw [if_pos c27] at H
            have c27b0 := decide_eq_true c27
            clear c27
            by_cases c28 : t605 < (x5_2.length : Int)
            ·rw [if_pos c28] at H
             have c28b0 := decide_eq_true c28
             clear c28
             obtain ⟨y606, hy606⟩ : ∃ y_ : List Bool, y_ = (x5_2.set (t605 : Int).toNat true) := ⟨_, rfl⟩
             replace H : (redraftlaw05_picked.l1 k2 a1 y606 (wrap64 (x8_2 + 1)) a0_0 a0_1 a0_2 l0_3 a0_4) = some r := by first | (rw [hy606]; with_reducible exact H) | (have H2_ := (Option.bind_some _ _).symm.trans H; rw [hy606]; with_reducible exact H2_) | (have H2_ := (Option.bind_some _ _).symm.trans H; with_reducible exact H2_) | with_reducible exact H | (rw [hy606]; exact H) | exact H
             have Ny606 := Aside0.mk hy606
             clear hy606
             have H' := Aside0.mk H
             clear H
             obtain ⟨hcz30_0, hcz30_1, hcz30_2, hcz30_3, hcz30_4, hfz30_0, hfz30_1, hfz30_2, hfz30_3, hfz30_4⟩ := blk5_ BK597.out
             have p604 := dz_ (x8_2 : Int)
             have q604 := dl_ x8_2 (l0_3.length : Int)
             obtain ⟨ad604, e604, hx604_0⟩ := Kd.at_int HR0_3.out x8_2 p604 q604
             cases e604
             replace hx604_0 := pw_cell_below HB.out hx604_0
             replace p604 := eq_true p604
             replace q604 := eq_true q604
             go_wp2_with (first | ((with_reducible refine gate_callee (f := 18) rfl ?_); refine goS_ 55 rfl Tryd.func18 #[.int .i64 (rd l0_3 x8_2), .int .i64 a1] ?_; (with_reducible refine (redraftlaw05_within.calls (rd l0_3 x8_2) a1 t605 _ A26.out).mono ?_); rintro e w' ⟨rfl, ⟨nd, rfl⟩⟩; refine ⟨_, rfl, ?_⟩; (try (rw [drewN_self wr]; generalize hq_ : World.drewN wr _ = wr; have n0_ : Aside0 (Kd.R Kd.bool 4 wr w.heap.size (fun _ => True) v599 x5_2) := ⟨by rw [← hq_]; exact (RW_ <| HO_5.out)⟩; have n1_ : Aside0 (wr.heap[gb597]? = some (.cells #[.int .i64 a0_0, .int .i64 a0_1, .int .i64 a0_2, .slice (some ad604) l0_3.length c0_3, .bool a0_4] 57 (0, 0))) := ⟨by rw [← hq_]; exact (blkW_ BK597)⟩; have n2_ : Aside0 (Below w.heap.size w wr) := ⟨by rw [← hq_]; exact (belW_ HB)⟩; clear HO_5 BK597 HB hq_; have HO_5 := n0_; have BK597 := n1_; have HB := n2_; clear n0_ n1_ n2_)); have p29 := dz_ (t605 : Int); have q29 : (t605 : Int) < ((x5_2.length : Int) : Int) := of_decide_eq_true (by first | (with_reducible assumption) | assumption); obtain ⟨go29, co29, eo29, gb29, gl29, cl29, HG29⟩ := Kd.R_form HO_5.out (by omega); (first | cases eo29 | (injection eo29 with ea_ en_ ec_; (first | subst ea_ | (injection ea_ with ea_; subst ea_)); subst ec_; clear en_)); have GB29 := Aside0.mk gb29; have GG29 := Aside0.mk HG29; clear gb29 gl29 HG29; obtain ⟨hx29_0, hf29_0⟩ := Kd.R_celln false HO_5.out (t605 : Int) p29 q29; replace p29 := eq_true p29; replace q29 := eq_true q29; obtain ⟨hy31_, hz31_⟩ := Kd.R_celln false HO_5.out (t605 : Int) (of_decide_eq_true (by first | (with_reducible assumption) | assumption)) (of_decide_eq_true (by first | (with_reducible assumption) | assumption)); have HP31 := Kd.R_putg HO_5.out (t605 : Int) true) | ((with_reducible refine gate_store (t := 4) (p := 56) rfl ?_); refine store_event (t := 4) (p := 56) (v := ?vo_w32) (w1 := (wr.setCell ⟨go29, (t605 : Int).toNat, none⟩ (.bool true))) ?hg ?ho ?hn ?hr ?_; (case ho => rfl); (case hg => rfl); (case hn => rfl); (case hr => first | (go_simp; done) | (go_simp; rfl)); intro w32 hw; have hg : wr.grownBy w32 (some go29) := (by rw [hw]; exact HP31.2); have hp_ : Kd.R Kd.bool 4 w32 w.heap.size (fun _ => True) (.slice (some ⟨go29, 0, none⟩) x5_2.length co29) y606 := (by rw [hw, Ny606.out]; exact HP31.1); clear HP31; replace BK597 := Aside0.mk (blk_grown (blkW_ BK597) hg (Kd.R_ne HO_5.out BK597.out (by decide))); replace HO_5 := Aside0.mk (hp_); replace HB := Aside0.mk ((by rw [hw]; exact below_set (HB.out) GB29.out : Below w.heap.size w w32)); clear hg hw hp_))
             go_roundg k2
             case measure => have := HJ6.out; have := HK2.out; omega
             case rel => exact ⟨(y606), (wrap64 (x8_2 + 1)), ok_, H', ⟨by have := HJ6.out; have := HK2.out; omega⟩, ⟨RW_ <| HO_5.out⟩, ⟨blkW_ BK597⟩, ⟨belW_ HB⟩⟩
            ·rw [if_neg c28] at H
             exact absurd H (by simp)
           ·rw [if_neg c27] at H
            exact absurd H (by simp)
          ·rw [if_neg c25] at H
           exact absurd H (by simp)
         ·rw [if_neg c24] at H
          have c24b0 := decide_eq_false c24
          clear c24
          have H' := Aside0.mk H
          clear H
          obtain ⟨hcz33_0, hcz33_1, hcz33_2, hcz33_3, hcz33_4, hfz33_0, hfz33_1, hfz33_2, hfz33_3, hfz33_4⟩ := blk5_ BK597.out
          go_wp2
          go_meet
          case rel => exact ⟨_, (x5_2), H', ⟨by have := HJ6.out; have := HK2.out; first | omega | exact Nat.le_refl _⟩, ⟨RW_ <| HO_5.out⟩, ⟨blkW_ BK597⟩, ⟨belW_ HB⟩⟩
        ·rw [if_neg c23] at H
         have c23b0 := decide_eq_false c23
         clear c23
         (first | rw [c23b0] | (simp only [i64_w, i32_w]; rw [c23b0]) | rw [c23b1] | skip)
         have H' := Aside0.mk H
         clear H
         obtain ⟨hcz34_0, hcz34_1, hcz34_2, hcz34_3, hcz34_4, hfz34_0, hfz34_1, hfz34_2, hfz34_3, hfz34_4⟩ := blk5_ BK597.out
         go_wp2
         go_meet
         case rel => exact ⟨_, (x5_2), H', ⟨by have := HJ6.out; have := HK2.out; first | omega | exact Nat.le_refl _⟩, ⟨RW_ <| HO_5.out⟩, ⟨blkW_ BK597⟩, ⟨belW_ HB⟩⟩
     case rest =>
      clear HC22
      try clear c1
      try clear p1
      try clear q1
      try clear hx1
      try clear p2
      try clear c4
      try clear c4b0
      try clear c4b1
      try clear c5
      try clear c5b0
      try clear c5b1
      try clear p6
      try clear c12
      try clear c12b0
      try clear c12b1
      try clear c14
      try clear c14b0
      try clear c15
      try clear c15b0
      try clear c16
      try clear c16b0
      try clear p17
      try clear q17
      try clear hx17
      try clear hf17
      try clear c18
      try clear hcz11_0
      try clear hcz11_1
      try clear hcz11_2
      try clear hcz11_3
      try clear hcz11_4
      try clear hcz18_0
      try clear hcz18_1
      try clear hcz18_2
      try clear hcz18_3
      try clear hcz18_4
      try clear hcz21_0
      try clear hcz21_1
      try clear hcz21_2
      try clear hcz21_3
      try clear hcz21_4
      try clear hfz11_0
      try clear hfz11_1
      try clear hfz11_2
      try clear hfz11_3
      try clear hfz11_4
      try clear hfz18_0
      try clear hfz18_1
      try clear hfz18_2
      try clear hfz18_3
      try clear hfz18_4
      try clear hfz21_0
      try clear hfz21_1
      try clear hfz21_2
      try clear hfz21_3
      try clear hfz21_4
      try clear hx17_0
      try clear p1
      try clear p17
      try clear p2
      try clear p6
      try clear q1
      try clear q17
      obtain ⟨kq, x5_21, HA, HJ21, HO_5, BK597, HB⟩ := hcut
      cases kq with
      | zero => exact absurd HA.out (by simp [redraftlaw05_picked.j3])
      | succ kj21 =>
       have H := HA.out
       clear HA
       simp only [redraftlaw05_picked.j3] at H
       have H' := Aside0.mk H
       clear H
       go_wp2
       go_loopg [9, 10] kj21 (fun kq v9 v10 w' => ∃ (x9_3 : List (S94)) (x10_3 : Int), v10 = .int .i64 x10_3 ∧ Aside0 (redraftlaw05_picked.l2 kq a1 x5_21 x9_3 x10_3 = some r) ∧ Aside0 (kq ≤ kj21) ∧ Aside0 (Kd.R Kd.bool 4 w' w.heap.size (fun _ => True) v599 x5_21) ∧ Aside0 (Kd.R k94 94 w' w.heap.size (fun _ => True) v9 x9_3) ∧ Aside0 (w'.heap[gb597]? = some (.cells #[.int .i64 a0_0, .int .i64 a0_1, .int .i64 a0_2, (.slice A0_3 l0_3.length c0_3), .bool a0_4] 57 (0, 0))) ∧ Aside0 (Below w.heap.size w w'))
       case atStart => exact ⟨(([] : List (S94))), (0), ok_, H', ⟨Nat.le_refl _⟩, ⟨RW_ <| HO_5.out⟩, ⟨nl_⟩, ⟨blkW_ BK597⟩, ⟨belW_ HB⟩⟩
       case round =>
        clear H'
        try clear c1
        try clear p1
        try clear q1
        try clear hx1
        try clear c2
        try clear p2
        try clear q2
        try clear hx2
        try clear hf2
        try clear c4
        try clear c4b0
        try clear c4b1
        try clear c5
        try clear c5b0
        try clear c5b1
        try clear p6
        try clear q6
        try clear hx6
        try clear c12
        try clear c12b0
        try clear c12b1
        try clear c14
        try clear c14b0
        try clear c15
        try clear c15b0
        try clear c16
        try clear c16b0
        try clear p17
        try clear q17
        try clear hx17
        try clear hf17
        try clear c18
        try clear c23
        try clear c23b0
        try clear c23b1
        try clear c24
        try clear c24b0
        try clear c25
        try clear c25b0
        try clear c27
        try clear c27b0
        try clear c28
        try clear c28b0
        try clear p29
        try clear q29
        try clear hx29
        try clear hf29
        try clear hcz11_0
        try clear hcz11_1
        try clear hcz11_2
        try clear hcz11_3
        try clear hcz11_4
        try clear hcz18_0
        try clear hcz18_1
        try clear hcz18_2
        try clear hcz18_3
        try clear hcz18_4
        try clear hcz21_0
        try clear hcz21_1
        try clear hcz21_2
        try clear hcz21_3
        try clear hcz21_4
        try clear hcz30_0
        try clear hcz30_1
        try clear hcz30_2
        try clear hcz30_3
        try clear hcz30_4
        try clear hcz33_0
        try clear hcz33_1
        try clear hcz33_2
        try clear hcz33_3
        try clear hcz33_4
        try clear hcz34_0
        try clear hcz34_1
        try clear hcz34_2
        try clear hcz34_3
        try clear hcz34_4
        try clear hfz11_0
        try clear hfz11_1
        try clear hfz11_2
        try clear hfz11_3
        try clear hfz11_4
        try clear hfz18_0
        try clear hfz18_1
        try clear hfz18_2
        try clear hfz18_3
        try clear hfz18_4
        try clear hfz21_0
        try clear hfz21_1
        try clear hfz21_2
        try clear hfz21_3
        try clear hfz21_4
        try clear hfz30_0
        try clear hfz30_1
        try clear hfz30_2
        try clear hfz30_3
        try clear hfz30_4
        try clear hfz33_0
        try clear hfz33_1
        try clear hfz33_2
        try clear hfz33_3
        try clear hfz33_4
        try clear hfz34_0
        try clear hfz34_1
        try clear hfz34_2
        try clear hfz34_3
        try clear hfz34_4
        try clear hx17_0
        try clear hx29_0
        try clear hx604_0
        try clear p1
        try clear p17
        try clear p2
        try clear p29
        try clear p6
        try clear p604
        try clear q1
        try clear q17
        try clear q2
        try clear q29
        try clear q6
        try clear q604
        obtain ⟨x9_3, x10_3, rfl, HA, HK3, HO_5, HO_9, BK597, HB⟩ := hrel
        cases gk with
        | zero => exact absurd HA.out (by simp [redraftlaw05_picked.l2])
        | succ k3 =>
         have H := HA.out
         clear HA
         simp only [redraftlaw05_picked.l2] at H
         by_cases c35 : x10_3 < a1
         ·rw [if_pos c35] at H
          have c35b0 := decide_eq_true c35
          clear c35
          by_cases c36 : 0 ≤ x10_3
          ·rw [if_pos c36] at H
           have c36b0 := decide_eq_true c36
           clear c36
           by_cases c37 : x10_3 < (x5_21.length : Int)
           ·rw [if_pos c37] at H
            have c37b0 := decide_eq_true c37
            clear c37
            obtain ⟨bq38, hbq38⟩ : ∃ b_ : Bool, b_ = (rdOf false x5_21 x10_3) := ⟨_, rfl⟩
            replace H : (if bq38 = true then (if (x9_3.length : Int) > 0 then (if 0 ≤ (wrap64 ((x9_3.length : Int) - 1)) then (if (wrap64 ((x9_3.length : Int) - 1)) < (x9_3.length : Int) then (if ((rd_T94 x9_3 (wrap64 ((x9_3.length : Int) - 1))).f1) = x10_3 then (redraftlaw05_picked.l2 k3 a1 x5_21 (x9_3.set ((wrap64 ((x9_3.length : Int) - 1)) : Int).toNat (⟨(rd_T94 x9_3 (wrap64 ((x9_3.length : Int) - 1))).f0, wrap64 (x10_3 + 1)⟩ : S94)) (wrap64 (x10_3 + 1))) else (if x9_3.length < 8796093022208 then (redraftlaw05_picked.l2 k3 a1 x5_21 (x9_3 ++ [(⟨x10_3, wrap64 (x10_3 + 1)⟩ : S94)]) (wrap64 (x10_3 + 1))) else (none))) else (none)) else (none)) else (if x9_3.length < 8796093022208 then (redraftlaw05_picked.l2 k3 a1 x5_21 (x9_3 ++ [(⟨x10_3, wrap64 (x10_3 + 1)⟩ : S94)]) (wrap64 (x10_3 + 1))) else (none))) else (redraftlaw05_picked.l2 k3 a1 x5_21 x9_3 (wrap64 (x10_3 + 1)))) = some r := by rw [← hbq38] at H; exact H
            have Nbq38 := Aside0.mk hbq38
            clear hbq38
            by_cases c39 : bq38 = true
            ·subst c39
             have H1 := H; rw [if_pos rfl] at H1
             clear H
             have H := H1
             clear H1
             by_cases c40 : (x9_3.length : Int) > 0
             ·rw [if_pos c40] at H
              have c40b0 : decide (0 < (x9_3.length : Int)) = true := decide_eq_true c40
              have c40b1 : decide (0 < x9_3.length) = true := decide_eq_true (by omega)
              clear c40
              obtain ⟨ji41, hji41⟩ : ∃ j_ : Int, (wrap64 ((x9_3.length : Int) - 1)) = j_ := ⟨_, rfl⟩
              replace H : (if 0 ≤ (ji41) then (if (ji41) < (x9_3.length : Int) then (if ((rd_T94 x9_3 (ji41)).f1) = x10_3 then (redraftlaw05_picked.l2 k3 a1 x5_21 (x9_3.set ((ji41) : Int).toNat (⟨(rd_T94 x9_3 (ji41)).f0, wrap64 (x10_3 + 1)⟩ : S94)) (wrap64 (x10_3 + 1))) else (if x9_3.length < 8796093022208 then (redraftlaw05_picked.l2 k3 a1 x5_21 (x9_3 ++ [(⟨x10_3, wrap64 (x10_3 + 1)⟩ : S94)]) (wrap64 (x10_3 + 1))) else (none))) else (none)) else (none)) = some r := by first | (rw [hji41] at H; exact H) | (simp only [hji41] at H ⊢; exact H)
              have hji41w : (IntKind.i64.wrap ((x9_3.length : Int) - 1)) = ji41 := (i64_w _).trans hji41
              by_cases c42 : 0 ≤ (ji41)
              ·rw [if_pos c42] at H
               have c42b0 := decide_eq_true c42
               clear c42
               by_cases c43 : (ji41) < (x9_3.length : Int)
               ·rw [if_pos c43] at H
                have c43b0 := decide_eq_true c43
                clear c43
                by_cases c44 : ((rd_T94 x9_3 (ji41)).f1) = x10_3
                ·rw [if_pos c44] at H
                 have c44b0 := beq_iff_eq.mpr c44
                 have c44b1 := bne_eq_false_iff_eq.mpr c44
                 clear c44
                 obtain ⟨y609, hy609⟩ : ∃ y_ : List (S94), y_ = (x9_3.set ((ji41) : Int).toNat (⟨(rd_T94 x9_3 (ji41)).f0, wrap64 (x10_3 + 1)⟩ : S94)) := ⟨_, rfl⟩
                 replace H : (redraftlaw05_picked.l2 k3 a1 x5_21 y609 (wrap64 (x10_3 + 1))) = some r := by first | (rw [hy609]; with_reducible exact H) | (have H2_ := (Option.bind_some _ _).symm.trans H; rw [hy609]; with_reducible exact H2_) | (have H2_ := (Option.bind_some _ _).symm.trans H; with_reducible exact H2_) | with_reducible exact H | (rw [hy609]; exact H) | exact H
                 have Ny609 := Aside0.mk hy609
                 clear hy609
                 have H' := Aside0.mk H
                 clear H
                 obtain ⟨Ao46, co46, eo46⟩ := Kd.R_slice HO_5.out
                 subst eo46
                 have p607 := dz_ (x10_3 : Int)
                 have q607 := dl_ x10_3 (x5_21.length : Int)
                 obtain ⟨ad607, e607, hx607_0⟩ := Kd.at_bool (Kd.R_reads' HO_5.out).2.2 x10_3 p607 q607
                 (try rw [← Nbq38.out] at hx607_0)
                 cases e607
                 replace p607 := eq_true p607
                 replace q607 := eq_true q607
                 obtain ⟨Ao47, co47, eo47⟩ := Kd.R_slice HO_9.out
                 subst eo47
                 have p608 := dz_ ((ji41) : Int)
                 have q608 := dl_ (ji41) (x9_3.length : Int)
                 obtain ⟨ad608, e608, hx608_0, hx608_1⟩ := at_T94 (Kd.R_reads' HO_9.out).2.2 (ji41) p608 q608
                 cases e608
                 replace p608 := eq_true p608
                 replace q608 := eq_true q608
                 have p45 := dz_ ((ji41) : Int)
                 have q45 : ((ji41) : Int) < ((x9_3.length : Int) : Int) := of_decide_eq_true (by first | (with_reducible assumption) | assumption)
                 obtain ⟨go45, co45, eo45, gb45, gl45, cl45, HG45⟩ := Kd.R_form HO_9.out (by omega)
                 (first | cases eo45 | (injection eo45 with ea_ en_ ec_; (first | subst ea_ | (injection ea_ with ea_; subst ea_)); subst ec_; clear en_))
                 have GB45 := Aside0.mk gb45
                 have GG45 := Aside0.mk HG45
                 clear gb45 gl45 HG45
                 (first | simp only [add_plain] at hx608_0 | skip)
                 (first | simp only [add_plain] at hx608_1 | skip)
                 obtain ⟨ce45, hcl45, hM45, hcc45, hfr45⟩ := Kd.R_elem HO_9.out z94 ((ji41) : Int) p45 q45
                 obtain rfl := k94_openM hM45
                 have hx45_0 : wr.cell? ⟨go45, ((ji41) : Int).toNat * 2, none⟩ = some (.int .i64 ((rd_T94 x9_3 (ji41)).f0)) := hcc45 0 _ rfl
                 have hx45_1 : wr.cell? ⟨go45, ((ji41) : Int).toNat * 2 + 1, none⟩ = some (.int .i64 ((rd_T94 x9_3 (ji41)).f1)) := hcc45 1 _ rfl
                 have hf45_0 : wr.frozen? ⟨go45, ((ji41) : Int).toNat * 2, none⟩ = false := hfr45 0
                 have hf45_1 : wr.frozen? ⟨go45, ((ji41) : Int).toNat * 2 + 1, none⟩ = false := hfr45 1
                 clear hcl45 hcc45 hfr45 hM45
                 replace p45 := eq_true p45
                 replace q45 := eq_true q45
                 have HX48 := Aside0.mk (show Kd.R k94 94 wr w.heap.size (fun _ => True) (.slice (some ⟨go45, 0, none⟩) x9_3.length co47) x9_3 from (RW_ <| HO_9.out))
                 obtain ⟨ce48, hcl48, hM48, hcc48, hfr48⟩ := Kd.R_elem HX48.out z94 ((ji41) : Int) (of_decide_eq_true (by first | (with_reducible assumption) | assumption)) (by have h_ : ((ji41) : Int) < ((x9_3.length : Int) : Int) := of_decide_eq_true (by first | (with_reducible assumption) | assumption); first | exact h_ | (have e_ := (Kd.R_reads' HO_9.out).1; omega) | simpa using h_)
                 obtain rfl := k94_openM hM48
                 have HP48 := Kd.R_seg HX48.out ((ji41) : Int) (of_decide_eq_true (by first | (with_reducible assumption) | assumption)) (by have h_ : ((ji41) : Int) < ((x9_3.length : Int) : Int) := of_decide_eq_true (by first | (with_reducible assumption) | assumption); first | exact h_ | (have e_ := (Kd.R_reads' HO_9.out).1; omega) | simpa using h_) (seg := [.int .i64 (wrap64 (x10_3 + 1))]) (j := 1) hcl48 hcc48 (show 2 ≤ 2 from by decide) (x' := (⟨(rd_T94 x9_3 (ji41)).f0, wrap64 (x10_3 + 1)⟩ : S94)) (k94_mkM _ _ _ (⟨(rd_T94 x9_3 (ji41)).f0, wrap64 (x10_3 + 1)⟩ : S94) ) (fun _ hk => hk)
                 have hx48_1 := hcc48 1 _ rfl
                 (try simp only [show (k94).sz = 2 from rfl, Nat.mul_one, Nat.add_zero] at hx48_1)
                 have hf48_1 := hfr48 1
                 (try simp only [show (k94).sz = 2 from rfl, Nat.mul_one, Nat.add_zero] at hf48_1)
                 clear hcl48 hcc48 hfr48 hM48
                 go_wp2_with (((with_reducible refine gate_store (t := 3) (p := 87) rfl ?_); refine store_event (t := 3) (p := 87) (v := ?vo_w49) (w1 := (wr.setCell ⟨go45, ((ji41) : Int).toNat * 2 + 1, none⟩ (.int .i64 (wrap64 (x10_3 + 1))))) ?hg ?ho ?hn ?hr ?_; (case ho => rfl); (case hg => rfl); (case hn => rfl); (case hr => first | (go_simp; done) | (go_simp; rfl)); intro w49 hw; have hg : wr.grownBy w49 (some go45) := (by rw [hw]; exact HP48.2); have hp_ : Kd.R k94 94 w49 w.heap.size (fun _ => True) (.slice (some ⟨go45, 0, none⟩) x9_3.length co47) y609 := (by rw [hw, Ny609.out]; exact HP48.1); clear HP48; replace HO_5 := Aside0.mk (Kd.R_over' (v := (.slice (some ⟨go45, 0, none⟩) x9_3.length co47)) (RW_ <| HO_5.out) (Kd.R_typed HO_9.out) (by decide) hg); replace BK597 := Aside0.mk (blk_grown (blkW_ BK597) hg (Kd.R_ne HO_9.out BK597.out (by decide))); replace HO_9 := Aside0.mk (hp_); replace HB := Aside0.mk ((by rw [hw]; exact below_set (HB.out) GB45.out : Below w.heap.size w w49)); clear hg hw hp_))
                 go_roundg k3
                 case measure => have := HJ6.out; have := HJ21.out; have := HK3.out; omega
                 case rel => exact ⟨(y609), (wrap64 (x10_3 + 1)), ok_, H', ⟨by have := HJ6.out; have := HJ21.out; have := HK3.out; omega⟩, ⟨RW_ <| HO_5.out⟩, ⟨RW_ <| HO_9.out⟩, ⟨blkW_ BK597⟩, ⟨belW_ HB⟩⟩
                ·rw [if_neg c44] at H
                 have c44b0 := beq_eq_false_iff_ne.mpr c44
                 have c44b1 := bne_iff_ne.mpr c44
                 by_cases c50 : x9_3.length < 8796093022208
                 ·rw [if_pos c50] at H
                  have LMc50 := Aside0.mk c50
                  clear c50
                  obtain ⟨y610, hy610⟩ : ∃ y_ : List (S94), y_ = (x9_3 ++ [(⟨x10_3, wrap64 (x10_3 + 1)⟩ : S94)]) := ⟨_, rfl⟩
                  replace H : (redraftlaw05_picked.l2 k3 a1 x5_21 y610 (wrap64 (x10_3 + 1))) = some r := by first | (rw [hy610]; with_reducible exact H) | (have H2_ := (Option.bind_some _ _).symm.trans H; rw [hy610]; with_reducible exact H2_) | (have H2_ := (Option.bind_some _ _).symm.trans H; with_reducible exact H2_) | with_reducible exact H | (rw [hy610]; exact H) | exact H
                  have Ny610 := Aside0.mk hy610
                  clear hy610
                  have H' := Aside0.mk H
                  clear H
                  obtain ⟨Ao51, co51, eo51⟩ := Kd.R_slice HO_5.out
                  subst eo51
                  have p607 := dz_ (x10_3 : Int)
                  have q607 := dl_ x10_3 (x5_21.length : Int)
                  obtain ⟨ad607, e607, hx607_0⟩ := Kd.at_bool (Kd.R_reads' HO_5.out).2.2 x10_3 p607 q607
                  (try rw [← Nbq38.out] at hx607_0)
                  cases e607
                  replace p607 := eq_true p607
                  replace q607 := eq_true q607
                  obtain ⟨Ao52, co52, eo52⟩ := Kd.R_slice HO_9.out
                  subst eo52
                  have p608 := dz_ ((ji41) : Int)
                  have q608 := dl_ (ji41) (x9_3.length : Int)
                  obtain ⟨ad608, e608, hx608_0, hx608_1⟩ := at_T94 (Kd.R_reads' HO_9.out).2.2 (ji41) p608 q608
                  cases e608
                  replace p608 := eq_true p608
                  replace q608 := eq_true q608
                  go_wp2_with (((with_reducible refine gate_builtin (b := .append) (xs := #[.tmp 88, .tmp 93]) rfl ?_); at_builtin; refine Kd.R_append k94 (w0 := w) w.heap.size rfl (.tmp 88) (.tmp 93) 39 94 (.agg #[(.int .i64 0), (.int .i64 0)]) 16 rfl Tryd.underlying39 info94 rfl (by decide) (by omega) (.slice (some ad608) x9_3.length co52) x9_3 (⟨x10_3, wrap64 (x10_3 + 1)⟩ : S94) [.int .i64 x10_3, .int .i64 (wrap64 (x10_3 + 1))] (fun _ => True) (fun _ => False) rfl rfl ?aP (fun _ hk => hk.elim) ?aF ?aO ?aB ?aS ?aL ?_; (case aP => exact k94_mkM _ _ _ (⟨x10_3, wrap64 (x10_3 + 1)⟩ : S94)); (case aB => exact (belW_ HB)); (case aF => exact (fun _ _ => trivial)); (case aO => exact (RW_ <| HO_9.out)); (case aS => exact (below_size (belW_ HB))); (case aL => have := LMc50.out; omega); intro v611 w53 ho hb hg hat; rw [← Ny610.out] at ho; have HO612 := Aside0.mk (ho); replace HO_5 := Aside0.mk (Kd.R_over' (RW_ <| HO_5.out) (Kd.R_typed (RW_ <| HO_9.out)) (by decide) hg); replace BK597 := Aside0.mk (blk_grown (blkW_ BK597) hg (Kd.R_ne HO_9.out BK597.out (by decide))); replace HB := Aside0.mk (hb); clear HO_9; clear ho hb hg hat))
                  go_roundg k3
                  case measure => have := HJ6.out; have := HJ21.out; have := HK3.out; omega
                  case rel => exact ⟨(y610), (wrap64 (x10_3 + 1)), ok_, H', ⟨by have := HJ6.out; have := HJ21.out; have := HK3.out; omega⟩, ⟨RW_ <| HO_5.out⟩, ⟨RW_ <| HO612.out⟩, ⟨blkW_ BK597⟩, ⟨belW_ HB⟩⟩
                 ·rw [if_neg c50] at H
                  exact absurd H (by simp)
               ·rw [if_neg c43] at H
                exact absurd H (by simp)
              ·rw [if_neg c42] at H
               exact absurd H (by simp)
             ·rw [if_neg c40] at H
              have c40b0 : decide (0 < (x9_3.length : Int)) = false := decide_eq_false c40
              have c40b1 : decide (0 < x9_3.length) = false := decide_eq_false (by omega)
              clear c40
              by_cases c54 : x9_3.length < 8796093022208
              ·rw [if_pos c54] at H
               have LMc54 := Aside0.mk c54
               clear c54
               obtain ⟨y613, hy613⟩ : ∃ y_ : List (S94), y_ = (x9_3 ++ [(⟨x10_3, wrap64 (x10_3 + 1)⟩ : S94)]) := ⟨_, rfl⟩
               replace H : (redraftlaw05_picked.l2 k3 a1 x5_21 y613 (wrap64 (x10_3 + 1))) = some r := by first | (rw [hy613]; with_reducible exact H) | (have H2_ := (Option.bind_some _ _).symm.trans H; rw [hy613]; with_reducible exact H2_) | (have H2_ := (Option.bind_some _ _).symm.trans H; with_reducible exact H2_) | with_reducible exact H | (rw [hy613]; exact H) | exact H
               have Ny613 := Aside0.mk hy613
               clear hy613
               have H' := Aside0.mk H
               clear H
               obtain ⟨Ao55, co55, eo55⟩ := Kd.R_slice HO_5.out
               subst eo55
               have p607 := dz_ (x10_3 : Int)
               have q607 := dl_ x10_3 (x5_21.length : Int)
               obtain ⟨ad607, e607, hx607_0⟩ := Kd.at_bool (Kd.R_reads' HO_5.out).2.2 x10_3 p607 q607
               (try rw [← Nbq38.out] at hx607_0)
               cases e607
               replace p607 := eq_true p607
               replace q607 := eq_true q607
               obtain ⟨Ao56, co56, eo56⟩ := Kd.R_slice HO_9.out
               subst eo56
               go_wp2_with (((with_reducible refine gate_builtin (b := .append) (xs := #[.tmp 88, .tmp 93]) rfl ?_); at_builtin; refine Kd.R_append k94 (w0 := w) w.heap.size rfl (.tmp 88) (.tmp 93) 39 94 (.agg #[(.int .i64 0), (.int .i64 0)]) 16 rfl Tryd.underlying39 info94 rfl (by decide) (by omega) (.slice Ao56 x9_3.length co56) x9_3 (⟨x10_3, wrap64 (x10_3 + 1)⟩ : S94) [.int .i64 x10_3, .int .i64 (wrap64 (x10_3 + 1))] (fun _ => True) (fun _ => False) rfl rfl ?aP (fun _ hk => hk.elim) ?aF ?aO ?aB ?aS ?aL ?_; (case aP => exact k94_mkM _ _ _ (⟨x10_3, wrap64 (x10_3 + 1)⟩ : S94)); (case aB => exact (belW_ HB)); (case aF => exact (fun _ _ => trivial)); (case aO => exact (RW_ <| HO_9.out)); (case aS => exact (below_size (belW_ HB))); (case aL => have := LMc54.out; omega); intro v614 w57 ho hb hg hat; rw [← Ny613.out] at ho; have HO615 := Aside0.mk (ho); replace HO_5 := Aside0.mk (Kd.R_over' (RW_ <| HO_5.out) (Kd.R_typed (RW_ <| HO_9.out)) (by decide) hg); replace BK597 := Aside0.mk (blk_grown (blkW_ BK597) hg (Kd.R_ne HO_9.out BK597.out (by decide))); replace HB := Aside0.mk (hb); clear HO_9; clear ho hb hg hat))
               go_roundg k3
               case measure => have := HJ6.out; have := HJ21.out; have := HK3.out; omega
               case rel => exact ⟨(y613), (wrap64 (x10_3 + 1)), ok_, H', ⟨by have := HJ6.out; have := HJ21.out; have := HK3.out; omega⟩, ⟨RW_ <| HO_5.out⟩, ⟨RW_ <| HO615.out⟩, ⟨blkW_ BK597⟩, ⟨belW_ HB⟩⟩
              ·rw [if_neg c54] at H
               exact absurd H (by simp)
            ·replace c39 := Bool.eq_false_iff.mpr c39
             subst c39
             have H1 := H; rw [if_neg (show ¬ (false = true) by decide)] at H1
             clear H
             have H := H1
             clear H1
             have H' := Aside0.mk H
             clear H
             obtain ⟨Ao58, co58, eo58⟩ := Kd.R_slice HO_5.out
             subst eo58
             have p607 := dz_ (x10_3 : Int)
             have q607 := dl_ x10_3 (x5_21.length : Int)
             obtain ⟨ad607, e607, hx607_0⟩ := Kd.at_bool (Kd.R_reads' HO_5.out).2.2 x10_3 p607 q607
             (try rw [← Nbq38.out] at hx607_0)
             cases e607
             replace p607 := eq_true p607
             replace q607 := eq_true q607
             go_wp2
             go_roundg k3
             case measure => have := HJ6.out; have := HJ21.out; have := HK3.out; omega
             case rel => exact ⟨(x9_3), (wrap64 (x10_3 + 1)), ok_, H', ⟨by have := HJ6.out; have := HJ21.out; have := HK3.out; omega⟩, ⟨RW_ <| HO_5.out⟩, ⟨RW_ <| HO_9.out⟩, ⟨blkW_ BK597⟩, ⟨belW_ HB⟩⟩
           ·rw [if_neg c37] at H
            exact absurd H (by simp)
          ·rw [if_neg c36] at H
           exact absurd H (by simp)
         ·rw [if_neg c35] at H
          have c35b0 := decide_eq_false c35
          clear c35
          obtain rfl := Option.some.inj H
          go_wp2
          go_ret
          exact ⟨_, by first | rfl | (simp only [← hji3]; first | rfl) | (simp [*] <;> rfl), RW_ <| HO_9.out, belW_ HB⟩
  ·rw [if_neg c5] at H
   exact absurd H (by simp)
 ·rw [if_neg c4] at H
  exact absurd H (by simp)

end Go.Proofs.YtloccjkcmlkifaaDoor.PAll
