/- XformEarlierLeft_card, part 40. -/
import Derived.Test.YtloccjkcmlkifaaDoorQEl19
import Derived.Test.YtloccjkcmlkifaaDoorQEl39

namespace Go.Proofs.YtloccjkcmlkifaaDoor.PAll
open Go.RowKit Go.Proofs.YtloccjkcmlkifaaDoorW.PrintWords Go.Proofs.YtloccjkcmlkifaaDoorW.PrintLast Go.Proofs.YtloccjkcmlkifaaDoorW.PrintMore
attribute [local go_sem] max2_int min2_int max_two min_two max_three min_three max_four min_four   -- for this text's walks alone
set_option linter.unusedVariables false
set_option linter.unusedSimpArgs false

attribute [local go_sem high] idx34_0 idx34_1 idx35_0 idx35_1
def redraftlaw05_fold.l0 : Nat → List (S48) → List (S41) → Int → Option ((List (S48)) × Bool)
 | 0, _, _, _ => none
 | k + 1, x0, x1, x6 => if x6 < (x1.length : Int) then (if 0 ≤ x6 then ((redraftlaw05_does.f k x0 ((rd_T41 x1 x6).f0.f0.f0) ((rd_T41 x1 x6).f0.f0.f1) ((rd_T41 x1 x6).f0.f1) ((rd_T41 x1 x6).f1) ((rd_T41 x1 x6).f2) ((rd_T41 x1 x6).f3) ((rd_T41 x1 x6).f4.f0) ((rd_T41 x1 x6).f4.f1) ((rd_T41 x1 x6).f5)).bind fun bt626 => (if bt626.2 = true then (redraftlaw05_fold.l0 k bt626.1 x1 (wrap64 (x6 + 1))) else (some (([] : List (S48)), false)))) else (none)) else (some (x0, true))
def redraftlaw05_fold.f (k : Nat) (l0 : List (S48)) (l1 : List (S41)) : Option ((List (S48)) × Bool) := redraftlaw05_fold.l0 k l0 l1 0
set_option maxHeartbeats 8000000 in
set_option maxRecDepth 100000 in
theorem redraftlaw05_fold.calls (k : Nat) (P0_ : Nat → Prop) (A0 : Option Addr) (c0 : Nat) (l0 : List (S48)) (A1 : Option Addr) (c1 : Nat) (l1 : List (S41)) (r1 : List (S48)) (r2 : Bool) (w : World) (hs0 : Kd.V k48 48 w w.heap.size (fun k_ => P0_ k_) (.slice A0 l0.length c0) l0) (hr1 : Kd.C k41 w A1 l1.length l1) (hc1 : l1.length ≤ c1) (h : redraftlaw05_fold.f k l0 l1 = some (r1, r2)) :
 Calls Tryd.prog 24 #[.slice A0 l0.length c0, .slice A1 l1.length c1] w fun e w' => ∃ v0_ : Value, e = .returned (.tuple #[v0_, .bool r2]) ∧ Kd.V k48 48 w' w.heap.size (fun k_ => (P0_ k_ ∨ w.heap.size ≤ k_)) v0_ r1 ∧ Below w.heap.size w w' := by
 have hu41 := Tryd.underlying41
 have HO0 := Aside0.mk (show Kd.V k48 48 w w.heap.size (fun k_ => (P0_ k_ ∨ w.heap.size ≤ k_)) (.slice A0 l0.length c0) l0 from Kd.V_mono hs0 (fun k_ hk => .inl hk))
 have HR1 := Aside0.mk hr1
 have HC1 := Aside0.mk hc1
 clear hr1 hc1
 have HB := Aside0.mk (Below.refl w.heap.size w)
 have H : (redraftlaw05_fold.l0 k l0 l1 0) = some (r1, r2) := h
 clear h
 have H' := Aside0.mk H
 clear H
 go_enter Tryd.func24, Tryd.ntmps24
 go_wp2
 go_loopg [0, 6] k (fun kq v0 v6 w' => ∃ (x0_1 : List (S48)) (x6_1 : Int), v6 = .int .i64 x6_1 ∧ Aside0 (redraftlaw05_fold.l0 kq x0_1 l1 x6_1 = some (r1, r2)) ∧ Aside0 (kq ≤ k) ∧ Aside0 (Kd.V k48 48 w' w.heap.size (fun k_ => (P0_ k_ ∨ w.heap.size ≤ k_)) v0 x0_1) ∧ Aside0 (Below w.heap.size w w'))
 case atStart => exact ⟨(l0), (0), ok_, H', ⟨Nat.le_refl _⟩, ⟨by (with_reducible repeat (first | apply Kd.V_alloc | apply Kd.V_drewN | apply Kd.V_drew)); exact HO0.out⟩, ⟨belW_ HB⟩⟩
 case round =>
  clear H'
  try clear c1
  try clear c2
  try clear p2
  obtain ⟨x0_1, x6_1, rfl, HA, HK1, HO_0, HB⟩ := hrel
  cases gk with
  | zero => exact absurd HA.out (by simp [redraftlaw05_fold.l0])
  | succ k1 =>
   have H := HA.out
   clear HA
   simp only [redraftlaw05_fold.l0] at H
   by_cases c3 : x6_1 < (l1.length : Int)
   ·rw [if_pos c3] at H
    have c3b0 := decide_eq_true c3
    clear c3
    by_cases c4 : 0 ≤ x6_1
    ·rw [if_pos c4] at H
     have c4b0 := decide_eq_true c4
     clear c4
     replace H := Option.bind_eq_some_iff.mp H
     obtain ⟨⟨t626, t629⟩, A50, H⟩ := H
     try dsimp only at H
     have A5 := Aside0.mk A50
     clear A50
     by_cases c6 : t629 = true
     ·subst c6
      have H1 := H; rw [if_pos rfl] at H1
      clear H
      have H := H1
      clear H1
      have H' := Aside0.mk H
      clear H
      have p625 := dz_ (x6_1 : Int)
      have q625 := dl_ x6_1 (l1.length : Int)
      obtain ⟨ad625, A625_5, c625_5, e625, hx625_0, hx625_1, hx625_2, hx625_3, hx625_4, hx625_5, hx625_6, hx625_7, hx625_8, hl625_5, hi625_5⟩ := at_T41 HR1.out x6_1 p625 q625
      cases e625
      replace hx625_0 := pw_cell_below HB.out hx625_0
      replace hx625_1 := pw_cell_below HB.out hx625_1
      replace hx625_2 := pw_cell_below HB.out hx625_2
      replace hx625_3 := pw_cell_below HB.out hx625_3
      replace hx625_4 := pw_cell_below HB.out hx625_4
      replace hx625_5 := pw_cell_below HB.out hx625_5
      replace hx625_6 := pw_cell_below HB.out hx625_6
      replace hx625_7 := pw_cell_below HB.out hx625_7
      replace hx625_8 := pw_cell_below HB.out hx625_8
      have HR625_5 := Aside0.mk hi625_5
      have HC625_5 := Aside0.mk hl625_5
      clear hi625_5 hl625_5
      replace p625 := eq_true p625
      replace q625 := eq_true q625
      obtain ⟨Ao7, co7, eo7⟩ := Kd.V_slice HO_0.out
      subst eo7
      go_wp2_with (((with_reducible refine gate_callee (f := 54) rfl ?_); refine goS_ 21 rfl Tryd.func54 #[.slice Ao7 x0_1.length co7, .agg #[.int .i64 ((rd_T41 l1 x6_1).f0.f0.f0), .int .i64 ((rd_T41 l1 x6_1).f0.f0.f1), .int .i64 ((rd_T41 l1 x6_1).f0.f1), .int .i64 ((rd_T41 l1 x6_1).f1), .string ((rd_T41 l1 x6_1).f2), .slice A625_5 ((rd_T41 l1 x6_1).f3).length c625_5, .int .i64 ((rd_T41 l1 x6_1).f4.f0), .int .i64 ((rd_T41 l1 x6_1).f4.f1), .bool ((rd_T41 l1 x6_1).f5)]] ?_; (with_reducible refine (redraftlaw05_does.calls k1 _ _ x0_1 ((rd_T41 l1 x6_1).f0.f0.f0) ((rd_T41 l1 x6_1).f0.f0.f1) ((rd_T41 l1 x6_1).f0.f1) ((rd_T41 l1 x6_1).f1) ((rd_T41 l1 x6_1).f2) _ _ ((rd_T41 l1 x6_1).f3) ((rd_T41 l1 x6_1).f4.f0) ((rd_T41 l1 x6_1).f4.f1) ((rd_T41 l1 x6_1).f5) t626 true _ ?side1 ?side2 ?side3 ?side4 A5.out).mono ?_); (case side1 => exact CW_ ((Kd.V_reads' HO_0.out).2.2)); (case side2 => exact (Kd.V_reads' HO_0.out).2.1); (case side3 => exact CW_ ((Kd.C_below HR625_5.out HB.out))); (case side4 => exact HC625_5.out); rintro e w8 ⟨v627, rfl, ho0, hb⟩; refine ⟨_, rfl, ?_⟩; have HO628 := Aside0.mk (Kd.R_lower (Kd.R_newM (M := fun k_ => (w.heap.size ≤ k_)) ho0 (below_size (belW_ HB)) (fun k_ h_ => h_)) (below_size (belW_ HB))); replace HO_0 := Aside0.mk (Kd.V_elder' (by (with_reducible repeat (first | apply Kd.V_alloc | apply Kd.V_drewN | apply Kd.V_drew)); exact HO_0.out) (Kd.R_base ho0) hb); replace HB := belB_ HB hb; try clear hb; (try clear ho0)))
      go_roundg k1
      case measure => have := HK1.out; omega
      case rel => exact ⟨(t626), (wrap64 (x6_1 + 1)), ok_, H', ⟨lk_ HK1⟩, ⟨Kd.V_mono (Kd.R_V (RW_ <| Kd.R_mono HO628.out (fun _ hk => hk.1))) (fun k_ hk => by first | exact ⟨(.inr (hk.1)), hk.2⟩ | exact (.inr (hk)))⟩, ⟨belW_ HB⟩⟩
     ·replace c6 := Bool.eq_false_iff.mpr c6
      subst c6
      have H1 := H; rw [if_neg (show ¬ (false = true) by decide)] at H1
      clear H
      have H := H1
      clear H1
      simp only [Option.some.injEq, Prod.mk.injEq] at H
      obtain ⟨rfl, rfl⟩ := H
      have p625 := dz_ (x6_1 : Int)
      have q625 := dl_ x6_1 (l1.length : Int)
      obtain ⟨ad625, A625_5, c625_5, e625, hx625_0, hx625_1, hx625_2, hx625_3, hx625_4, hx625_5, hx625_6, hx625_7, hx625_8, hl625_5, hi625_5⟩ := at_T41 HR1.out x6_1 p625 q625
      cases e625
      replace hx625_0 := pw_cell_below HB.out hx625_0
      replace hx625_1 := pw_cell_below HB.out hx625_1
      replace hx625_2 := pw_cell_below HB.out hx625_2
      replace hx625_3 := pw_cell_below HB.out hx625_3
      replace hx625_4 := pw_cell_below HB.out hx625_4
      replace hx625_5 := pw_cell_below HB.out hx625_5
      replace hx625_6 := pw_cell_below HB.out hx625_6
      replace hx625_7 := pw_cell_below HB.out hx625_7
      replace hx625_8 := pw_cell_below HB.out hx625_8
      have HR625_5 := Aside0.mk hi625_5
      have HC625_5 := Aside0.mk hl625_5
      clear hi625_5 hl625_5
      replace p625 := eq_true p625
      replace q625 := eq_true q625
      obtain ⟨Ao9, co9, eo9⟩ := Kd.V_slice HO_0.out
      subst eo9
      go_wp2_with (((with_reducible refine gate_callee (f := 54) rfl ?_); refine goS_ 21 rfl Tryd.func54 #[.slice Ao9 x0_1.length co9, .agg #[.int .i64 ((rd_T41 l1 x6_1).f0.f0.f0), .int .i64 ((rd_T41 l1 x6_1).f0.f0.f1), .int .i64 ((rd_T41 l1 x6_1).f0.f1), .int .i64 ((rd_T41 l1 x6_1).f1), .string ((rd_T41 l1 x6_1).f2), .slice A625_5 ((rd_T41 l1 x6_1).f3).length c625_5, .int .i64 ((rd_T41 l1 x6_1).f4.f0), .int .i64 ((rd_T41 l1 x6_1).f4.f1), .bool ((rd_T41 l1 x6_1).f5)]] ?_; (with_reducible refine (redraftlaw05_does.calls k1 _ _ x0_1 ((rd_T41 l1 x6_1).f0.f0.f0) ((rd_T41 l1 x6_1).f0.f0.f1) ((rd_T41 l1 x6_1).f0.f1) ((rd_T41 l1 x6_1).f1) ((rd_T41 l1 x6_1).f2) _ _ ((rd_T41 l1 x6_1).f3) ((rd_T41 l1 x6_1).f4.f0) ((rd_T41 l1 x6_1).f4.f1) ((rd_T41 l1 x6_1).f5) t626 false _ ?side1 ?side2 ?side3 ?side4 A5.out).mono ?_); (case side1 => exact CW_ ((Kd.V_reads' HO_0.out).2.2)); (case side2 => exact (Kd.V_reads' HO_0.out).2.1); (case side3 => exact CW_ ((Kd.C_below HR625_5.out HB.out))); (case side4 => exact HC625_5.out); rintro e w10 ⟨v627, rfl, ho0, hb⟩; refine ⟨_, rfl, ?_⟩; have HO628 := Aside0.mk (Kd.R_lower (Kd.R_newM (M := fun k_ => (w.heap.size ≤ k_)) ho0 (below_size (belW_ HB)) (fun k_ h_ => h_)) (below_size (belW_ HB))); replace HO_0 := Aside0.mk (Kd.V_elder' (by (with_reducible repeat (first | apply Kd.V_alloc | apply Kd.V_drewN | apply Kd.V_drew)); exact HO_0.out) (Kd.R_base ho0) hb); replace HB := belB_ HB hb; try clear hb; (try clear ho0)))
      go_ret2
      exact ⟨_, rs_, nl_, belW_ HB⟩
    ·rw [if_neg c4] at H
     exact absurd H (by simp)
   ·rw [if_neg c3] at H
    have c3b0 := decide_eq_false c3
    clear c3
    simp only [Option.some.injEq, Prod.mk.injEq] at H
    obtain ⟨rfl, rfl⟩ := H
    go_wp2
    go_ret2
    exact ⟨_, rs_, by (with_reducible repeat (first | apply Kd.V_alloc | apply Kd.V_drewN | apply Kd.V_drew)); exact HO_0.out, belW_ HB⟩

end Go.Proofs.YtloccjkcmlkifaaDoor.PAll
