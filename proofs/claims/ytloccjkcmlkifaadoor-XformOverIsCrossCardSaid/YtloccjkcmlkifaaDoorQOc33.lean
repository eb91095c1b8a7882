/- XformOverIsCross_card, part 33. -/
import Derived.Test.YtloccjkcmlkifaaDoorQOc17
import Derived.Test.YtloccjkcmlkifaaDoorQOc32
import Derived.Test.YtloccjkcmlkifaaDoorQOc22

namespace Go.Proofs.YtloccjkcmlkifaaDoor.PAll
open Go.RowKit Go.Proofs.YtloccjkcmlkifaaDoorW.PrintWords Go.Proofs.YtloccjkcmlkifaaDoorW.PrintLast Go.Proofs.YtloccjkcmlkifaaDoorW.PrintMore
attribute [local go_sem] max2_int min2_int max_two min_two max_three min_three max_four min_four   -- for this text's walks alone
set_option linter.unusedVariables false
set_option linter.unusedSimpArgs false

attribute [local go_sem high] idx34_0 idx34_1 idx35_0 idx35_1
def redraftref05_CopyRun.l0 : Nat → List (S41) → List (S41) → Int → Option ((List (S41)))
 | 0, _, _, _ => none
 | k + 1, x0, x3, x4 => if x4 < (x0.length : Int) then (if 0 ≤ x4 then ((redraftref05_Copy.f ((rd_T41 x0 x4).f0.f0.f0) ((rd_T41 x0 x4).f0.f0.f1) ((rd_T41 x0 x4).f0.f1) ((rd_T41 x0 x4).f1) ((rd_T41 x0 x4).f2) ((rd_T41 x0 x4).f3) ((rd_T41 x0 x4).f4.f0) ((rd_T41 x0 x4).f4.f1) ((rd_T41 x0 x4).f5)).bind fun bt537 => (if x3.length < 1466015503701 then (redraftref05_CopyRun.l0 k x0 (x3 ++ [(⟨(⟨(⟨bt537.1, bt537.2.1⟩ : S35), bt537.2.2.1⟩ : S38), bt537.2.2.2.1, bt537.2.2.2.2.1, bt537.2.2.2.2.2.1, (⟨bt537.2.2.2.2.2.2.1, bt537.2.2.2.2.2.2.2.1⟩ : S35), bt537.2.2.2.2.2.2.2.2⟩ : S41)]) (wrap64 (x4 + 1))) else (none))) else (none)) else (some x3)
def redraftref05_CopyRun.f (k : Nat) (l0 : List (S41)) : Option ((List (S41))) := redraftref05_CopyRun.l0 k l0 ([] : List (S41)) 0
set_option maxHeartbeats 8000000 in
set_option maxRecDepth 100000 in
theorem redraftref05_CopyRun.calls (k : Nat) (A0 : Option Addr) (c0 : Nat) (l0 : List (S41)) (r : List (S41)) (w : World) (hr0 : Kd.C k41 w A0 l0.length l0) (hc0 : l0.length ≤ c0) (h : redraftref05_CopyRun.f k l0 = some r) :
 Calls Tryd.prog 36 #[.slice A0 l0.length c0] w fun e w' => ∃ v0_ : Value, e = .returned (v0_) ∧ Kd.S k41 41 w' w.heap.size (fun _ => True) v0_ r ∧ Below w.heap.size w w' := by
 have hu41 := Tryd.underlying41
 have HR0 := Aside0.mk hr0
 have HC0 := Aside0.mk hc0
 clear hr0 hc0
 have HB := Aside0.mk (Below.refl w.heap.size w)
 have H : (redraftref05_CopyRun.l0 k l0 ([] : List (S41)) 0) = some r := h
 clear h
 have H' := Aside0.mk H
 clear H
 go_enter Tryd.func36, Tryd.ntmps36
 go_wp2
 go_loopg [3, 4] k (fun kq v3 v4 w' => ∃ (x3_1 : List (S41)) (x4_1 : Int), v4 = .int .i64 x4_1 ∧ Aside0 (redraftref05_CopyRun.l0 kq l0 x3_1 x4_1 = some r) ∧ Aside0 (kq ≤ k) ∧ Aside0 (Kd.S k41 41 w' w.heap.size (fun _ => True) v3 x3_1) ∧ Aside0 (Below w.heap.size w w'))
 case atStart => exact ⟨(([] : List (S41))), (0), ok_, H', ⟨Nat.le_refl _⟩, ⟨by first | exact Kd.S_nil _ _ _ _ _ | exact Kd.N_nil _ _ _ _ _ | exact Kd.V_nil _ _ _ _ _ | exact Kd.Q_nil _ _ _ _ _ | exact Kd.R_nil _ _ _ _ _⟩, ⟨belW_ HB⟩⟩
 case round =>
  clear H'
  obtain ⟨x3_1, x4_1, rfl, HA, HK1, HO_3, HB⟩ := hrel
  cases gk with
  | zero => exact absurd HA.out (by simp [redraftref05_CopyRun.l0])
  | succ k1 =>
   have H := HA.out
   clear HA
   simp only [redraftref05_CopyRun.l0] at H
   by_cases c2 : x4_1 < (l0.length : Int)
   ·rw [if_pos c2] at H
    have c2b0 := decide_eq_true c2
    clear c2
    by_cases c3 : 0 ≤ x4_1
    ·rw [if_pos c3] at H
     have c3b0 := decide_eq_true c3
     clear c3
     replace H := Option.bind_eq_some_iff.mp H
     obtain ⟨⟨t537, t538, t539, t540, t541, t542, t545, t546, t547⟩, A40, H⟩ := H
     try dsimp only at H
     have A4 := Aside0.mk A40
     clear A40
     by_cases c5 : x3_1.length < 1466015503701
     ·rw [if_pos c5] at H
      have LMc5 := Aside0.mk c5
      clear c5
      obtain ⟨y548, hy548⟩ : ∃ y_ : List (S41), y_ = (x3_1 ++ [(⟨(⟨(⟨t537, t538⟩ : S35), t539⟩ : S38), t540, t541, t542, (⟨t545, t546⟩ : S35), t547⟩ : S41)]) := ⟨_, rfl⟩
      replace H : (redraftref05_CopyRun.l0 k1 l0 y548 (wrap64 (x4_1 + 1))) = some r := by first | (rw [hy548]; with_reducible exact H) | (have H2_ := (Option.bind_some _ _).symm.trans H; rw [hy548]; with_reducible exact H2_) | (have H2_ := (Option.bind_some _ _).symm.trans H; with_reducible exact H2_) | with_reducible exact H | (rw [hy548]; exact H) | exact H
      have Ny548 := Aside0.mk hy548
      clear hy548
      have H' := Aside0.mk H
      clear H
      have p536 := dz_ (x4_1 : Int)
      have q536 := dl_ x4_1 (l0.length : Int)
      obtain ⟨ad536, A536_5, c536_5, e536, hx536_0, hx536_1, hx536_2, hx536_3, hx536_4, hx536_5, hx536_6, hx536_7, hx536_8, hl536_5, hi536_5⟩ := at_T41 HR0.out x4_1 p536 q536
      cases e536
      replace hx536_0 := pw_cell_below HB.out hx536_0
      replace hx536_1 := pw_cell_below HB.out hx536_1
      replace hx536_2 := pw_cell_below HB.out hx536_2
      replace hx536_3 := pw_cell_below HB.out hx536_3
      replace hx536_4 := pw_cell_below HB.out hx536_4
      replace hx536_5 := pw_cell_below HB.out hx536_5
      replace hx536_6 := pw_cell_below HB.out hx536_6
      replace hx536_7 := pw_cell_below HB.out hx536_7
      replace hx536_8 := pw_cell_below HB.out hx536_8
      have HR536_5 := Aside0.mk hi536_5
      have HC536_5 := Aside0.mk hl536_5
      clear hi536_5 hl536_5
      replace p536 := eq_true p536
      replace q536 := eq_true q536
      go_wp2_with (first | ((with_reducible refine gate_callee (f := 22) rfl ?_); refine goS_ 16 rfl Tryd.func22 #[.agg #[.int .i64 ((rd_T41 l0 x4_1).f0.f0.f0), .int .i64 ((rd_T41 l0 x4_1).f0.f0.f1), .int .i64 ((rd_T41 l0 x4_1).f0.f1), .int .i64 ((rd_T41 l0 x4_1).f1), .string ((rd_T41 l0 x4_1).f2), .slice A536_5 ((rd_T41 l0 x4_1).f3).length c536_5, .int .i64 ((rd_T41 l0 x4_1).f4.f0), .int .i64 ((rd_T41 l0 x4_1).f4.f1), .bool ((rd_T41 l0 x4_1).f5)]] ?_; (with_reducible refine (redraftref05_Copy.calls ((rd_T41 l0 x4_1).f0.f0.f0) ((rd_T41 l0 x4_1).f0.f0.f1) ((rd_T41 l0 x4_1).f0.f1) ((rd_T41 l0 x4_1).f1) ((rd_T41 l0 x4_1).f2) _ _ ((rd_T41 l0 x4_1).f3) ((rd_T41 l0 x4_1).f4.f0) ((rd_T41 l0 x4_1).f4.f1) ((rd_T41 l0 x4_1).f5) t537 t538 t539 t540 t541 t542 t545 t546 t547 _ ?side1 ?side2 A4.out).mono ?_); (case side1 => exact CW_ ((Kd.C_below HR536_5.out HB.out))); (case side2 => exact HC536_5.out); rintro e w6 ⟨v543, rfl, ho0, hb⟩; refine ⟨_, rfl, ?_⟩; have HO544 := Aside0.mk (Kd.R_lower ho0 (below_size (belW_ HB))); replace HO_3 := Aside0.mk (Kd.S_elder' (by (with_reducible repeat (first | apply Kd.S_alloc | apply Kd.S_drewN | apply Kd.S_drew)); exact HO_3.out) (Kd.R_base ho0) hb); replace HB := belB_ HB hb; try clear hb; (try clear ho0); obtain ⟨Ao8, co8, eo8⟩ := Kd.R_slice HO544.out; subst eo8) | ((with_reducible refine gate_builtin (b := .append) (xs := #[.tmp 11, .tmp 17]) rfl ?_); at_builtin; refine Kd.S_append k41 (w0 := w) w.heap.size rfl (.tmp 11) (.tmp 17) 29 41 (.agg #[(.int .i64 0), (.int .i64 0), (.int .i64 0), (.int .i64 0), (.string ⟨#[]⟩), (.slice none 0 0), (.int .i64 0), (.int .i64 0), (.bool false)]) 96 rfl Tryd.underlying29 info41 rfl (by decide) (by omega) u3 x3_1 (⟨(⟨(⟨t537, t538⟩ : S35), t539⟩ : S38), t540, t541, t542, (⟨t545, t546⟩ : S35), t547⟩ : S41) [.int .i64 t537, .int .i64 t538, .int .i64 t539, .int .i64 t540, .string t541, .slice Ao8 t542.length co8, .int .i64 t545, .int .i64 t546, .bool t547] (fun _ => True) (fun k_ => some k_ = (.slice Ao8 t542.length co8 : Value).ownBlock) rfl rfl ?aP (fun k_ hk_ => ((Kd.R_mono (ok' := fun k_ => ((fun _ => True)) k_ ∧ some k_ ≠ (u3 : Value).ownBlock) (Kd.R_apart' (HO544.out) (Kd.S_typed HO_3.out) (by decide)) (fun k_ hk => ⟨trivial, hk.2⟩))).1 k_ hk_.symm) ?aF ?aO ?aB ?aS ?aL ?_; (case aP => exact k41_mkM _ _ _ (⟨(⟨(⟨t537, t538⟩ : S35), t539⟩ : S38), t540, t541, t542, (⟨t545, t546⟩ : S35), t547⟩ : S41) (Kd.R_mono (Kd.R_tight rfl (Kd.R_mono (ok' := fun k_ => ((fun _ => True)) k_ ∧ some k_ ≠ (u3 : Value).ownBlock) (Kd.R_apart' (HO544.out) (Kd.S_typed HO_3.out) (by decide)) (fun k_ hk => ⟨trivial, hk.2⟩))) (fun _ h_ => h_))); (case aB => exact (belW_ HB)); (case aF => exact (fun _ _ => trivial)); (case aO => exact (by (with_reducible repeat (first | apply Kd.S_alloc | apply Kd.S_drewN | apply Kd.S_drew)); exact Kd.S_mono HO_3.out (fun k_ hk => ⟨trivial, fun e_ => hk.2 e_⟩))); (case aS => exact (below_size (belW_ HB))); (case aL => have := LMc5.out; omega); intro v549 w7 ho hb hg hat; rw [← Ny548.out] at ho; have HO550 := Aside0.mk (ho); replace HB := Aside0.mk (hb); clear HO_3; clear HO544; clear ho hb hg hat))
      go_roundg k1
      case measure => have := HK1.out; omega
      case rel => exact ⟨(y548), (wrap64 (x4_1 + 1)), ok_, H', ⟨lk_ HK1⟩, ⟨by (with_reducible repeat (first | apply Kd.S_alloc | apply Kd.S_drewN | apply Kd.S_drew)); exact HO550.out⟩, ⟨belW_ HB⟩⟩
     ·rw [if_neg c5] at H
      exact absurd H (by simp)
    ·rw [if_neg c3] at H
     exact absurd H (by simp)
   ·rw [if_neg c2] at H
    have c2b0 := decide_eq_false c2
    clear c2
    obtain rfl := Option.some.inj H
    go_wp2
    go_ret
    exact ⟨_, rs_, by (with_reducible repeat (first | apply Kd.S_alloc | apply Kd.S_drewN | apply Kd.S_drew)); exact HO_3.out, belW_ HB⟩

end Go.Proofs.YtloccjkcmlkifaaDoor.PAll
