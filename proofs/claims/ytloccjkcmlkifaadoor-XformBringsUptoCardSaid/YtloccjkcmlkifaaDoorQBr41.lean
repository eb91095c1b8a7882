/- XformBrings_card, part 41. -/
import Derived.Test.YtloccjkcmlkifaaDoorQBr39
import Derived.Test.YtloccjkcmlkifaaDoorQBr40
import Derived.Test.YtloccjkcmlkifaaDoorQBr31

section
/- xform.transpose, told of whole operations. -/
namespace Go.Proofs.YtloccjkcmlkifaaDoor
open Go.RowKit Go.Proofs.YtloccjkcmlkifaaDoor.PAll Go.Proofs.YtloccjkcmlkifaaDoorW.PrintWords Go.Proofs.YtloccjkcmlkifaaDoorW.PrintLast

def sameAim (a b : S41) : Bool := a.f4.f0 == b.f4.f0 && a.f4.f1 == b.f4.f1
def trClash (a b : S41) : Bool := a.f0.f1 == 4 && ((b.f0.f1 == 4 && sameAim a b && (a.f5 != b.f5)) || aimB a b)
def trP (a b : S41) (rb : List S94 × List S94 × Int) (ra : List S94 × Int) : S41 × S41 × Int :=
 if (excP b a rb).2 ≠ 0 then (z41, z41, (excP b a rb).2)
 else if trClash a b = true then (z41, z41, 50)
 else if b.f0.f1 = 1 ∧ a.f0.f1 = 1 ∧ b.f1 ≤ a.f1 then (if (moveE a (a.f1 + wid b)).2 ≠ 0 then (z41, z41, (moveE a (a.f1 + wid b)).2) else ((excP b a rb).1, (moveE a (a.f1 + wid b)).1, 0))
 else if b.f0.f1 = 1 ∧ (a.f0.f1 = 2 ∨ a.f0.f1 = 3) then (if (incP a b false ra).2 ≠ 0 then (z41, z41, (incP a b false ra).2) else ((excP b a rb).1, (incP a b false ra).1, 0))
 else ((excP b a rb).1, a, 0)

attribute [local go_sem high] eqA35 idx35_0 idx35_1
set_option maxRecDepth 100000 in
set_option maxHeartbeats 8000000 in
theorem transpose_any (a b : S41) (va vb : Value) (rb : List S94 × List S94 × Int) (ra : List S94 × Int) (w : World) (hG : GW w) (ha : OpC w va a) (hb : OpC w vb b) (fa : Fit a) (fb : Fit b)
 (hrb : b.f0.f1 ≠ 1 → b.f0.f1 ≠ 4 → a.f0.f1 = 1 → ∃ k, span_Back.f k b.f3 a.f1 (wid a) = some rb)
 (hra : a.f0.f1 = 2 ∨ a.f0.f1 = 3 → b.f0.f1 = 1 → ∃ k, span_Through.f k a.f3 b.f1 (wid b) = some ra) :
 Calls Tryd.prog 62 #[.agg (opA a va), .agg (opA b vb)] w (RetOp2 w (trP a b rb ra)) := by
 obtain ⟨A, c, rfl, h1, h2⟩ := ha
 obtain ⟨B, d, rfl, h3, h4⟩ := hb
 have S := Aside0.mk (St.init w (F := fun _ => True) (fun _ _ => trivial))
 have HA := Aside0.mk (opC_mk h1 h2); have HB := Aside0.mk (opC_mk h3 h4)
 have HG := Aside0.mk hG
 have HT := Aside0.mk hrb
 have HU := Aside0.mk hra
 clear h1 h2 h3 h4 hG hrb hra
 unfold trP
 by_cases h0 : (excP b a rb).2 = 0
 case neg =>
  rw [if_pos h0]
  have h0' : ((excP b a rb).2 != 0) = true := bne_iff_ne.mpr h0
  clear h0
  go_enter Tryd.func62, Tryd.ntmps62
  go_wp2_with (first | ((with_reducible refine gate_box rfl ?_); refine ev_box S ?_; clear S; intro _ _ S) | ((with_reducible refine gate_new rfl ?_); refine ev_new S 41 zA ?_; clear S; intro _ _ S) | ((with_reducible refine gate_load rfl ?_); first | refine ev_load S ?_ | refine ev_fld S ?_) | ((with_reducible refine gate_st rfl ?_); refine ev_store S ?_; clear S; intro _ S) | (go_at_call 75; (with_reducible refine (exclude_any b a _ _ rb _ (GW.below HG.out S.out.below) (HB.out.below S.out.below) (HA.out.below S.out.below) fb.len fb.at_ fa.at_ fb.wid fa.wid HT.out).mono ?_); rintro e w7 ⟨v, rfl, hR, hb⟩; obtain ⟨Ao, co, rfl⟩ := hR.slice; replace S := Aside0.mk (S.out.addOp hb hR); clear hb hR))
  exact bodyPost_ret (results_cct rfl _ _ _ _ 41 41 zA zA (0, 0) (0, 0) _ _ rfl (S.out.at_ 1 rfl) Tryd.underlying41 rfl (by kernel_rfl) rfl (S.out.at_ 0 rfl) Tryd.underlying41 rfl (by kernel_rfl)) rfl ⟨.slice none 0 0, .slice none 0 0, rfl, opR_nil _ _, opR_nil _ _, S.out.below⟩
 rw [if_neg (fun h => h h0)]
 have h0' : ((excP b a rb).2 != 0) = false := bne_eq_false_iff_eq.mpr h0
 clear h0
 by_cases hcl : trClash a b = true
 · rw [if_pos hcl]
   have hq : (a.f0.f1 == 4) = true ∧ (((b.f0.f1 == 4) = true ∧ (a.f4.f0 == b.f4.f0 && (a.f4.f1 == b.f4.f1)) = true ∧ (a.f5 != b.f5) = true) ∨ ((b.f0.f1 == 4) = false ∧ (a.f4.f0 == b.f0.f0.f0 && (a.f4.f1 == b.f0.f0.f1)) = true) ∨ ((b.f0.f1 == 4) = true ∧ (a.f4.f0 == b.f4.f0 && (a.f4.f1 == b.f4.f1)) = false ∧ (a.f4.f0 == b.f0.f0.f0 && (a.f4.f1 == b.f0.f0.f1)) = true) ∨ ((b.f0.f1 == 4) = true ∧ (a.f4.f0 == b.f4.f0 && (a.f4.f1 == b.f4.f1)) = true ∧ (a.f5 != b.f5) = false ∧ (a.f4.f0 == b.f0.f0.f0 && (a.f4.f1 == b.f0.f0.f1)) = true)) := by
    unfold trClash sameAim aimB at hcl
    revert hcl
    generalize (a.f0.f1 == 4) = x1, (b.f0.f1 == 4) = x2, (a.f4.f0 == b.f4.f0 && (a.f4.f1 == b.f4.f1)) = x3, (a.f5 != b.f5) = x4, (a.f4.f0 == b.f0.f0.f0 && (a.f4.f1 == b.f0.f0.f1)) = x5
    revert x1 x2 x3 x4 x5
    decide
   clear hcl
   simp only [bne_iff_ne, bne_eq_false_iff_eq] at hq
   obtain ⟨q1, ⟨q2, q3, q4⟩ | ⟨q2, q5⟩ | ⟨q2, q3, q5⟩ | ⟨q2, q3, q4, q5⟩⟩ := hq
   all_goals
    go_enter Tryd.func62, Tryd.ntmps62
    go_wp2_with (first | ((with_reducible refine gate_box rfl ?_); refine ev_box S ?_; clear S; intro _ _ S) | ((with_reducible refine gate_new rfl ?_); refine ev_new S 41 zA ?_; clear S; intro _ _ S) | ((with_reducible refine gate_load rfl ?_); first | refine ev_load S ?_ | refine ev_fld S ?_) | ((with_reducible refine gate_st rfl ?_); refine ev_store S ?_; clear S; intro _ S) | (go_at_call 75; (with_reducible refine (exclude_any b a _ _ rb _ (GW.below HG.out S.out.below) (HB.out.below S.out.below) (HA.out.below S.out.below) fb.len fb.at_ fa.at_ fb.wid fa.wid HT.out).mono ?_); rintro e w7 ⟨v, rfl, hR, hb⟩; obtain ⟨Ao, co, rfl⟩ := hR.slice; replace S := Aside0.mk (S.out.addOp hb hR); clear hb hR))
    exact bodyPost_ret (results_cct rfl _ _ _ _ 41 41 zA zA (0, 0) (0, 0) _ _ rfl (S.out.at_ 1 rfl) Tryd.underlying41 rfl (by kernel_rfl) rfl (S.out.at_ 0 rfl) Tryd.underlying41 rfl (by kernel_rfl)) rfl ⟨.slice none 0 0, .slice none 0 0, rfl, opR_nil _ _, opR_nil _ _, S.out.below⟩
 rw [if_neg hcl]
 have hq : (a.f0.f1 == 4) = false ∨ (a.f0.f1 == 4) = true ∧ (a.f4.f0 == b.f0.f0.f0 && (a.f4.f1 == b.f0.f0.f1)) = false ∧ ((b.f0.f1 == 4) = false ∨ ((b.f0.f1 == 4) = true ∧ (a.f4.f0 == b.f4.f0 && (a.f4.f1 == b.f4.f1)) = false) ∨ ((b.f0.f1 == 4) = true ∧ (a.f4.f0 == b.f4.f0 && (a.f4.f1 == b.f4.f1)) = true ∧ (a.f5 != b.f5) = false)) := by
  unfold trClash sameAim aimB at hcl
  revert hcl
  generalize (a.f0.f1 == 4) = x1, (b.f0.f1 == 4) = x2, (a.f4.f0 == b.f4.f0 && (a.f4.f1 == b.f4.f1)) = x3, (a.f5 != b.f5) = x4, (a.f4.f0 == b.f0.f0.f0 && (a.f4.f1 == b.f0.f0.f1)) = x5
  revert x1 x2 x3 x4 x5
  decide
 clear hcl
 by_cases hq1 : (a.f0.f1 == 4) = true
 · have e4 : a.f0.f1 = 4 := beq_iff_eq.mp hq1
   rw [if_neg (by omega), if_neg (by omega)]
   have g1 : (a.f0.f1 == 1) = false := by simp [e4]
   have g2 : (a.f0.f1 == 2) = false := by simp [e4]
   have g3 : (a.f0.f1 == 3) = false := by simp [e4]
   clear e4
   have hq' := hq.resolve_left (by rw [hq1]; simp)
   clear hq hq1
   simp only [bne_eq_false_iff_eq] at hq'
   obtain ⟨q1, q5, q2 | ⟨q2, q3⟩ | ⟨q2, q3, q4⟩⟩ := hq'
   all_goals
    by_cases gb : (b.f0.f1 == 1) = true
    all_goals
     first | (have gb := (Bool.not_eq_true _).mp gb) | skip
     go_enter Tryd.func62, Tryd.ntmps62
     go_wp2_with (first | ((with_reducible refine gate_box rfl ?_); refine ev_box S ?_; clear S; intro _ _ S) | ((with_reducible refine gate_new rfl ?_); refine ev_new S 41 zA ?_; clear S; intro _ _ S) | ((with_reducible refine gate_load rfl ?_); first | refine ev_load S ?_ | refine ev_fld S ?_) | ((with_reducible refine gate_st rfl ?_); refine ev_store S ?_; clear S; intro _ S) | (go_at_call 75; (with_reducible refine (exclude_any b a _ _ rb _ (GW.below HG.out S.out.below) (HB.out.below S.out.below) (HA.out.below S.out.below) fb.len fb.at_ fa.at_ fb.wid fa.wid HT.out).mono ?_); rintro e w7 ⟨v, rfl, hR, hb⟩; obtain ⟨Ao, co, rfl⟩ := hR.slice; replace S := Aside0.mk (S.out.addOp hb hR); clear hb hR) | (go_at_call 64; (with_reducible refine (clone_any a _ _ (HA.out.below S.out.below) fa.len).mono ?_); rintro e w7 ⟨v, rfl, hR, hb⟩; obtain ⟨Ap, cp, rfl⟩ := hR.slice; replace S := Aside0.mk (S.out.addOp hb hR); clear hb hR))
     (refine rg_start (n := 5) (fun W => St w W _ _) [] S.out (fun _ h => h.drew) ?_; clear S; intro _ S; refine ld_ 0 1 S ?_; refine ld_ 1 0 S ?_; refine re_ (rc_ 2 ?_ AllReadyL.nil); intro K hK; refine ks_ 1 S ?_; intro _ S'; refine hK.out _ _ S' ?_; clear S S' hK K; intro S; refine re_ (rc_ 3 ?_ AllReadyL.nil); intro K hK; refine ks_ 0 S ?_; intro _ S'; refine hK.out _ _ S' ?_; clear S S' hK K; intro S; refine pu_ 4 ?_; refine done_ (by kernel_rfl) ?_)
     go_wp2
     exact bodyPost_ret (results_cct rfl _ _ _ _ 41 41 _ _ (0, 0) (0, 0) _ _ rfl (S.at_ 1 rfl) Tryd.underlying41 rfl (by kernel_rfl) rfl (S.at_ 0 rfl) Tryd.underlying41 rfl (by kernel_rfl)) rfl ⟨_, _, rfl, S.now.1.2, S.now.2, S.below⟩
 have q1 : (a.f0.f1 == 4) = false := by simpa using hq1
 clear hq hq1
 by_cases kb : b.f0.f1 = 1
 case neg =>
  rw [if_neg (fun h => kb h.1), if_neg (fun h => kb h.1)]
  have gb : (b.f0.f1 == 1) = false := beq_eq_false_iff_ne.mpr kb
  clear kb
  go_enter Tryd.func62, Tryd.ntmps62
  go_wp2_with (first | ((with_reducible refine gate_box rfl ?_); refine ev_box S ?_; clear S; intro _ _ S) | ((with_reducible refine gate_new rfl ?_); refine ev_new S 41 zA ?_; clear S; intro _ _ S) | ((with_reducible refine gate_load rfl ?_); first | refine ev_load S ?_ | refine ev_fld S ?_) | ((with_reducible refine gate_st rfl ?_); refine ev_store S ?_; clear S; intro _ S) | (go_at_call 75; (with_reducible refine (exclude_any b a _ _ rb _ (GW.below HG.out S.out.below) (HB.out.below S.out.below) (HA.out.below S.out.below) fb.len fb.at_ fa.at_ fb.wid fa.wid HT.out).mono ?_); rintro e w7 ⟨v, rfl, hR, hb⟩; obtain ⟨Ao, co, rfl⟩ := hR.slice; replace S := Aside0.mk (S.out.addOp hb hR); clear hb hR) | (go_at_call 64; (with_reducible refine (clone_any a _ _ (HA.out.below S.out.below) fa.len).mono ?_); rintro e w7 ⟨v, rfl, hR, hb⟩; obtain ⟨Ap, cp, rfl⟩ := hR.slice; replace S := Aside0.mk (S.out.addOp hb hR); clear hb hR))
  (refine rg_start (n := 5) (fun W => St w W _ _) [] S.out (fun _ h => h.drew) ?_; clear S; intro _ S; refine ld_ 0 1 S ?_; refine ld_ 1 0 S ?_; refine re_ (rc_ 2 ?_ AllReadyL.nil); intro K hK; refine ks_ 1 S ?_; intro _ S'; refine hK.out _ _ S' ?_; clear S S' hK K; intro S; refine re_ (rc_ 3 ?_ AllReadyL.nil); intro K hK; refine ks_ 0 S ?_; intro _ S'; refine hK.out _ _ S' ?_; clear S S' hK K; intro S; refine pu_ 4 ?_; refine done_ (by kernel_rfl) ?_)
  go_wp2
  exact bodyPost_ret (results_cct rfl _ _ _ _ 41 41 _ _ (0, 0) (0, 0) _ _ rfl (S.at_ 1 rfl) Tryd.underlying41 rfl (by kernel_rfl) rfl (S.at_ 0 rfl) Tryd.underlying41 rfl (by kernel_rfl)) rfl ⟨_, _, rfl, S.now.1.2, S.now.2, S.below⟩
 have gb : (b.f0.f1 == 1) = true := beq_iff_eq.mpr kb
 by_cases ka : a.f0.f1 = 1
 · have g1 : (a.f0.f1 == 1) = true := beq_iff_eq.mpr ka
   have g2 : (a.f0.f1 == 2) = false := by simp [ka]
   have g3 : (a.f0.f1 == 3) = false := by simp [ka]
   by_cases hle : b.f1 ≤ a.f1
   · rw [if_pos ⟨kb, ka, hle⟩]
     have hle' : decide (b.f1 ≤ a.f1) = true := decide_eq_true hle
     have hwr := show IntKind.i64.wrap (a.f1 + wid b) = a.f1 + wid b from IntWalk.i64_in _ (by have := fa.at_; have := fb.wid; omega)
     have HM := Aside0.mk (show (-4611686018427387904 ≤ a.f1 + wid b ∧ a.f1 + wid b ≤ 4611686018427387904) ∧ (-4611686018427387904 ≤ wid a ∧ wid a ≤ 4611686018427387000) by have := fa.at_; have := fb.wid; have := fa.wid; omega)
     clear hle ka kb
     by_cases hm : (moveE a (a.f1 + wid b)).2 = 0
     · rw [if_neg (fun h => h hm)]
       have hm' : ((moveE a (a.f1 + wid b)).2 != 0) = false := bne_eq_false_iff_eq.mpr hm
       clear hm
       go_enter Tryd.func62, Tryd.ntmps62
       go_wp2_with (first | ((with_reducible refine gate_box rfl ?_); refine ev_box S ?_; clear S; intro _ _ S) | ((with_reducible refine gate_new rfl ?_); refine ev_new S 41 zA ?_; clear S; intro _ _ S) | ((with_reducible refine gate_load rfl ?_); first | refine ev_load S ?_ | refine ev_fld S ?_) | ((with_reducible refine gate_st rfl ?_); refine ev_store S ?_; clear S; intro _ S) | (go_at_call 75; (with_reducible refine (exclude_any b a _ _ rb _ (GW.below HG.out S.out.below) (HB.out.below S.out.below) (HA.out.below S.out.below) fb.len fb.at_ fa.at_ fb.wid fa.wid HT.out).mono ?_); rintro e w7 ⟨v, rfl, hR, hb⟩; obtain ⟨Ao, co, rfl⟩ := hR.slice; replace S := Aside0.mk (S.out.addOp hb hR); clear hb hR) | (go_at_call 64; (with_reducible refine (clone_any a _ _ (HA.out.below S.out.below) fa.len).mono ?_); rintro e w7 ⟨v, rfl, hR, hb⟩; obtain ⟨Ap, cp, rfl⟩ := hR.slice; replace S := Aside0.mk (S.out.addOp hb hR); clear hb hR))
       (refine rg_start (n := 12) (fun W => St w W _ _) [10] S.out (fun _ h => h.drew) ?_; clear S; intro _ S; refine ld_ 0 0 S ?_; refine pu_ 1 ?_; refine fl_ 2 3 S ?_; refine ld_ 3 2 S ?_; refine cl_ 4 #[.agg (opA b (.slice B b.f3.length d))] ?_ Tryd.func53; refine (width_any b _ _ (GW.below HG.out S.below) (HB.out.below S.below)).mono ?_; rintro e w7 ⟨rfl, hb⟩; refine ⟨_, rfl, S.step hb, fun S' => ?_⟩; clear S hb; have S := S'; clear S'; refine nr_ ?_; refine pu_ 5 ?_; refine cl_ 6 #[.agg (opA a (.slice Ap a.f3.length cp)), .int .i64 (a.f1 + wid b)] ?_ Tryd.func72; refine (moved_any a _ (a.f1 + wid b) _ (GW.below HG.out S.below) S.now.2.C HM.out.1 HM.out.2).mono ?_; rintro e w7 ⟨v, rfl, hR, hb⟩; obtain ⟨Ai, ci, rfl⟩ := hR.slice; refine ⟨_, rfl, S.step hb, fun _ => ?_⟩; have S' := S.addOp hb hR; clear S hb hR; have S := S'; clear S'; refine nr_ ?_; refine pu_ 7 ?_; refine pu_ 8 ?_; refine pu_ 9 ?_; refine so_ 10 0 S ?_; clear S; intro _ S; refine pu_ 11 ?_; refine done_ (by kernel_rfl) ?_; have S := Aside0.mk S)
       go_wp2_with (fail)
       (refine rg_start (n := 5) (fun W => St w W _ _) [] S.out (fun _ h => h.drew) ?_; clear S; intro _ S; refine ld_ 0 1 S ?_; refine ld_ 1 0 S ?_; refine re_ (rc_ 2 ?_ AllReadyL.nil); intro K hK; refine ks_ 1 S ?_; intro _ S'; refine hK.out _ _ S' ?_; clear S S' hK K; intro S; refine re_ (rc_ 3 ?_ AllReadyL.nil); intro K hK; refine ks_ 0 S ?_; intro _ S'; refine hK.out _ _ S' ?_; clear S S' hK K; intro S; refine pu_ 4 ?_; refine done_ (by kernel_rfl) ?_)
       go_wp2
       exact bodyPost_ret (results_cct rfl _ _ _ _ 41 41 _ _ (0, 0) (0, 0) _ _ rfl (S.at_ 1 rfl) Tryd.underlying41 rfl (by kernel_rfl) rfl (S.at_ 0 rfl) Tryd.underlying41 rfl (by kernel_rfl)) rfl ⟨_, _, rfl, S.now.1.1.2, S.now.2, S.below⟩
     · rw [if_pos hm]
       have hm' : ((moveE a (a.f1 + wid b)).2 != 0) = true := bne_iff_ne.mpr hm
       clear hm
       go_enter Tryd.func62, Tryd.ntmps62
       go_wp2_with (first | ((with_reducible refine gate_box rfl ?_); refine ev_box S ?_; clear S; intro _ _ S) | ((with_reducible refine gate_new rfl ?_); refine ev_new S 41 zA ?_; clear S; intro _ _ S) | ((with_reducible refine gate_load rfl ?_); first | refine ev_load S ?_ | refine ev_fld S ?_) | ((with_reducible refine gate_st rfl ?_); refine ev_store S ?_; clear S; intro _ S) | (go_at_call 75; (with_reducible refine (exclude_any b a _ _ rb _ (GW.below HG.out S.out.below) (HB.out.below S.out.below) (HA.out.below S.out.below) fb.len fb.at_ fa.at_ fb.wid fa.wid HT.out).mono ?_); rintro e w7 ⟨v, rfl, hR, hb⟩; obtain ⟨Ao, co, rfl⟩ := hR.slice; replace S := Aside0.mk (S.out.addOp hb hR); clear hb hR) | (go_at_call 64; (with_reducible refine (clone_any a _ _ (HA.out.below S.out.below) fa.len).mono ?_); rintro e w7 ⟨v, rfl, hR, hb⟩; obtain ⟨Ap, cp, rfl⟩ := hR.slice; replace S := Aside0.mk (S.out.addOp hb hR); clear hb hR))
       (refine rg_start (n := 12) (fun W => St w W _ _) [10] S.out (fun _ h => h.drew) ?_; clear S; intro _ S; refine ld_ 0 0 S ?_; refine pu_ 1 ?_; refine fl_ 2 3 S ?_; refine ld_ 3 2 S ?_; refine cl_ 4 #[.agg (opA b (.slice B b.f3.length d))] ?_ Tryd.func53; refine (width_any b _ _ (GW.below HG.out S.below) (HB.out.below S.below)).mono ?_; rintro e w7 ⟨rfl, hb⟩; refine ⟨_, rfl, S.step hb, fun S' => ?_⟩; clear S hb; have S := S'; clear S'; refine nr_ ?_; refine pu_ 5 ?_; refine cl_ 6 #[.agg (opA a (.slice Ap a.f3.length cp)), .int .i64 (a.f1 + wid b)] ?_ Tryd.func72; refine (moved_any a _ (a.f1 + wid b) _ (GW.below HG.out S.below) S.now.2.C HM.out.1 HM.out.2).mono ?_; rintro e w7 ⟨v, rfl, hR, hb⟩; obtain ⟨Ai, ci, rfl⟩ := hR.slice; refine ⟨_, rfl, S.step hb, fun _ => ?_⟩; have S' := S.addOp hb hR; clear S hb hR; have S := S'; clear S'; refine nr_ ?_; refine pu_ 7 ?_; refine pu_ 8 ?_; refine pu_ 9 ?_; refine so_ 10 0 S ?_; clear S; intro _ S; refine pu_ 11 ?_; refine done_ (by kernel_rfl) ?_; have S := Aside0.mk S)
       go_wp2_with (((with_reducible refine gate_st rfl ?_); refine ev_store S ?_; clear S; intro _ S))
       exact bodyPost_ret (results_cct rfl _ _ _ _ 41 41 zA zA (0, 0) (0, 0) _ _ rfl (S.out.at_ 1 rfl) Tryd.underlying41 rfl (by kernel_rfl) rfl (S.out.at_ 0 rfl) Tryd.underlying41 rfl (by kernel_rfl)) rfl ⟨.slice none 0 0, .slice none 0 0, rfl, opR_nil _ _, opR_nil _ _, S.out.below⟩
   · rw [if_neg (fun h => hle h.2.2), if_neg (show ¬ (b.f0.f1 = 1 ∧ (a.f0.f1 = 2 ∨ a.f0.f1 = 3)) by omega)]
     have hle' : decide (b.f1 ≤ a.f1) = false := decide_eq_false hle
     clear hle ka kb
     go_enter Tryd.func62, Tryd.ntmps62
     go_wp2_with (first | ((with_reducible refine gate_box rfl ?_); refine ev_box S ?_; clear S; intro _ _ S) | ((with_reducible refine gate_new rfl ?_); refine ev_new S 41 zA ?_; clear S; intro _ _ S) | ((with_reducible refine gate_load rfl ?_); first | refine ev_load S ?_ | refine ev_fld S ?_) | ((with_reducible refine gate_st rfl ?_); refine ev_store S ?_; clear S; intro _ S) | (go_at_call 75; (with_reducible refine (exclude_any b a _ _ rb _ (GW.below HG.out S.out.below) (HB.out.below S.out.below) (HA.out.below S.out.below) fb.len fb.at_ fa.at_ fb.wid fa.wid HT.out).mono ?_); rintro e w7 ⟨v, rfl, hR, hb⟩; obtain ⟨Ao, co, rfl⟩ := hR.slice; replace S := Aside0.mk (S.out.addOp hb hR); clear hb hR) | (go_at_call 64; (with_reducible refine (clone_any a _ _ (HA.out.below S.out.below) fa.len).mono ?_); rintro e w7 ⟨v, rfl, hR, hb⟩; obtain ⟨Ap, cp, rfl⟩ := hR.slice; replace S := Aside0.mk (S.out.addOp hb hR); clear hb hR))
     (refine rg_start (n := 5) (fun W => St w W _ _) [] S.out (fun _ h => h.drew) ?_; clear S; intro _ S; refine ld_ 0 1 S ?_; refine ld_ 1 0 S ?_; refine re_ (rc_ 2 ?_ AllReadyL.nil); intro K hK; refine ks_ 1 S ?_; intro _ S'; refine hK.out _ _ S' ?_; clear S S' hK K; intro S; refine re_ (rc_ 3 ?_ AllReadyL.nil); intro K hK; refine ks_ 0 S ?_; intro _ S'; refine hK.out _ _ S' ?_; clear S S' hK K; intro S; refine pu_ 4 ?_; refine done_ (by kernel_rfl) ?_)
     go_wp2
     exact bodyPost_ret (results_cct rfl _ _ _ _ 41 41 _ _ (0, 0) (0, 0) _ _ rfl (S.at_ 1 rfl) Tryd.underlying41 rfl (by kernel_rfl) rfl (S.at_ 0 rfl) Tryd.underlying41 rfl (by kernel_rfl)) rfl ⟨_, _, rfl, S.now.1.2, S.now.2, S.below⟩
 · have g1 : (a.f0.f1 == 1) = false := beq_eq_false_iff_ne.mpr ka
   rw [if_neg (fun h => ka h.2.1)]
   by_cases kh : a.f0.f1 = 2 ∨ a.f0.f1 = 3
   · rw [if_pos ⟨kb, kh⟩]
     have g23 : (a.f0.f1 == 2) = true ∨ (a.f0.f1 == 2) = false ∧ (a.f0.f1 == 3) = true := by
      rcases kh with h | h
      · exact .inl (by simp [h])
      · exact .inr ⟨by simp [h], by simp [h]⟩
     clear ka kb kh
     by_cases hm : (incP a b false ra).2 = 0
     · rw [if_neg (fun h => h hm)]
       have hm' : ((incP a b false ra).2 != 0) = false := bne_eq_false_iff_eq.mpr hm
       clear hm
       rcases g23 with g2 | ⟨g2, g3⟩
       all_goals
        go_enter Tryd.func62, Tryd.ntmps62
        go_wp2_with (first | ((with_reducible refine gate_box rfl ?_); refine ev_box S ?_; clear S; intro _ _ S) | ((with_reducible refine gate_new rfl ?_); refine ev_new S 41 zA ?_; clear S; intro _ _ S) | ((with_reducible refine gate_load rfl ?_); first | refine ev_load S ?_ | refine ev_fld S ?_) | ((with_reducible refine gate_st rfl ?_); refine ev_store S ?_; clear S; intro _ S) | (go_at_call 75; (with_reducible refine (exclude_any b a _ _ rb _ (GW.below HG.out S.out.below) (HB.out.below S.out.below) (HA.out.below S.out.below) fb.len fb.at_ fa.at_ fb.wid fa.wid HT.out).mono ?_); rintro e w7 ⟨v, rfl, hR, hb⟩; obtain ⟨Ao, co, rfl⟩ := hR.slice; replace S := Aside0.mk (S.out.addOp hb hR); clear hb hR) | (go_at_call 64; (with_reducible refine (clone_any a _ _ (HA.out.below S.out.below) fa.len).mono ?_); rintro e w7 ⟨v, rfl, hR, hb⟩; obtain ⟨Ap, cp, rfl⟩ := hR.slice; replace S := Aside0.mk (S.out.addOp hb hR); clear hb hR) | (go_at_call 56; (with_reducible refine (include_any a b false _ _ ra _ (GW.below HG.out S.out.below) (HA.out.below S.out.below) (HB.out.below S.out.below) fa.len fa.at_ fa.wid fb.wid HU.out).mono ?_); rintro e w7 ⟨v, rfl, hR, hb⟩; obtain ⟨Ai, ci, rfl⟩ := hR.slice; replace S := Aside0.mk (S.out.addOp hb hR); clear hb hR))
        (refine rg_start (n := 5) (fun W => St w W _ _) [] S.out (fun _ h => h.drew) ?_; clear S; intro _ S; refine ld_ 0 1 S ?_; refine ld_ 1 0 S ?_; refine re_ (rc_ 2 ?_ AllReadyL.nil); intro K hK; refine ks_ 1 S ?_; intro _ S'; refine hK.out _ _ S' ?_; clear S S' hK K; intro S; refine re_ (rc_ 3 ?_ AllReadyL.nil); intro K hK; refine ks_ 0 S ?_; intro _ S'; refine hK.out _ _ S' ?_; clear S S' hK K; intro S; refine pu_ 4 ?_; refine done_ (by kernel_rfl) ?_)
        go_wp2
        exact bodyPost_ret (results_cct rfl _ _ _ _ 41 41 _ _ (0, 0) (0, 0) _ _ rfl (S.at_ 1 rfl) Tryd.underlying41 rfl (by kernel_rfl) rfl (S.at_ 0 rfl) Tryd.underlying41 rfl (by kernel_rfl)) rfl ⟨_, _, rfl, S.now.1.1.2, S.now.2, S.below⟩
     · rw [if_pos hm]
       have hm' : ((incP a b false ra).2 != 0) = true := bne_iff_ne.mpr hm
       clear hm
       rcases g23 with g2 | ⟨g2, g3⟩
       all_goals
        go_enter Tryd.func62, Tryd.ntmps62
        go_wp2_with (first | ((with_reducible refine gate_box rfl ?_); refine ev_box S ?_; clear S; intro _ _ S) | ((with_reducible refine gate_new rfl ?_); refine ev_new S 41 zA ?_; clear S; intro _ _ S) | ((with_reducible refine gate_load rfl ?_); first | refine ev_load S ?_ | refine ev_fld S ?_) | ((with_reducible refine gate_st rfl ?_); refine ev_store S ?_; clear S; intro _ S) | (go_at_call 75; (with_reducible refine (exclude_any b a _ _ rb _ (GW.below HG.out S.out.below) (HB.out.below S.out.below) (HA.out.below S.out.below) fb.len fb.at_ fa.at_ fb.wid fa.wid HT.out).mono ?_); rintro e w7 ⟨v, rfl, hR, hb⟩; obtain ⟨Ao, co, rfl⟩ := hR.slice; replace S := Aside0.mk (S.out.addOp hb hR); clear hb hR) | (go_at_call 64; (with_reducible refine (clone_any a _ _ (HA.out.below S.out.below) fa.len).mono ?_); rintro e w7 ⟨v, rfl, hR, hb⟩; obtain ⟨Ap, cp, rfl⟩ := hR.slice; replace S := Aside0.mk (S.out.addOp hb hR); clear hb hR) | (go_at_call 56; (with_reducible refine (include_any a b false _ _ ra _ (GW.below HG.out S.out.below) (HA.out.below S.out.below) (HB.out.below S.out.below) fa.len fa.at_ fa.wid fb.wid HU.out).mono ?_); rintro e w7 ⟨v, rfl, hR, hb⟩; obtain ⟨Ai, ci, rfl⟩ := hR.slice; replace S := Aside0.mk (S.out.addOp hb hR); clear hb hR))
        exact bodyPost_ret (results_cct rfl _ _ _ _ 41 41 zA zA (0, 0) (0, 0) _ _ rfl (S.out.at_ 1 rfl) Tryd.underlying41 rfl (by kernel_rfl) rfl (S.out.at_ 0 rfl) Tryd.underlying41 rfl (by kernel_rfl)) rfl ⟨.slice none 0 0, .slice none 0 0, rfl, opR_nil _ _, opR_nil _ _, S.out.below⟩
   · rw [if_neg (fun h => kh h.2)]
     have g2 : (a.f0.f1 == 2) = false := beq_eq_false_iff_ne.mpr (fun h => kh (.inl h))
     have g3 : (a.f0.f1 == 3) = false := beq_eq_false_iff_ne.mpr (fun h => kh (.inr h))
     clear ka kb kh
     go_enter Tryd.func62, Tryd.ntmps62
     go_wp2_with (first | ((with_reducible refine gate_box rfl ?_); refine ev_box S ?_; clear S; intro _ _ S) | ((with_reducible refine gate_new rfl ?_); refine ev_new S 41 zA ?_; clear S; intro _ _ S) | ((with_reducible refine gate_load rfl ?_); first | refine ev_load S ?_ | refine ev_fld S ?_) | ((with_reducible refine gate_st rfl ?_); refine ev_store S ?_; clear S; intro _ S) | (go_at_call 75; (with_reducible refine (exclude_any b a _ _ rb _ (GW.below HG.out S.out.below) (HB.out.below S.out.below) (HA.out.below S.out.below) fb.len fb.at_ fa.at_ fb.wid fa.wid HT.out).mono ?_); rintro e w7 ⟨v, rfl, hR, hb⟩; obtain ⟨Ao, co, rfl⟩ := hR.slice; replace S := Aside0.mk (S.out.addOp hb hR); clear hb hR) | (go_at_call 64; (with_reducible refine (clone_any a _ _ (HA.out.below S.out.below) fa.len).mono ?_); rintro e w7 ⟨v, rfl, hR, hb⟩; obtain ⟨Ap, cp, rfl⟩ := hR.slice; replace S := Aside0.mk (S.out.addOp hb hR); clear hb hR))
     (refine rg_start (n := 5) (fun W => St w W _ _) [] S.out (fun _ h => h.drew) ?_; clear S; intro _ S; refine ld_ 0 1 S ?_; refine ld_ 1 0 S ?_; refine re_ (rc_ 2 ?_ AllReadyL.nil); intro K hK; refine ks_ 1 S ?_; intro _ S'; refine hK.out _ _ S' ?_; clear S S' hK K; intro S; refine re_ (rc_ 3 ?_ AllReadyL.nil); intro K hK; refine ks_ 0 S ?_; intro _ S'; refine hK.out _ _ S' ?_; clear S S' hK K; intro S; refine pu_ 4 ?_; refine done_ (by kernel_rfl) ?_)
     go_wp2
     exact bodyPost_ret (results_cct rfl _ _ _ _ 41 41 _ _ (0, 0) (0, 0) _ _ rfl (S.at_ 1 rfl) Tryd.underlying41 rfl (by kernel_rfl) rfl (S.at_ 0 rfl) Tryd.underlying41 rfl (by kernel_rfl)) rfl ⟨_, _, rfl, S.now.1.2, S.now.2, S.below⟩
end Go.Proofs.YtloccjkcmlkifaaDoor
end

section
/- Transpose, as both sides have it; the program's. -/
namespace Go.Proofs.YtloccjkcmlkifaaDoor
open Go.RowKit Go.Proofs.YtloccjkcmlkifaaDoor.PAll Go.Proofs.YtloccjkcmlkifaaDoorW.PrintWords

def trE (a b : S41) : S41 × S41 × Int :=
 if (excE b a).2 ≠ 0 then (z41, z41, (excE b a).2)
 else if trClash a b = true then (z41, z41, 50)
 else if b.f0.f1 = 1 ∧ a.f0.f1 = 1 ∧ b.f1 ≤ a.f1 then (if (moveE a (a.f1 + wid b)).2 ≠ 0 then (z41, z41, (moveE a (a.f1 + wid b)).2) else ((excE b a).1, (moveE a (a.f1 + wid b)).1, 0))
 else if b.f0.f1 = 1 ∧ (a.f0.f1 = 2 ∨ a.f0.f1 = 3) then (if (incE a b false).2 ≠ 0 then (z41, z41, (incE a b false).2) else ((excE b a).1, (incE a b false).1, 0))
 else ((excE b a).1, a, 0)
theorem trE_prog (a b : S41) (va vb : Value) (w : World) (hG : GW w) (ha : OpC w va a) (hb : OpC w vb b) (ga : Good a) (gb : Good b) :
 Calls Tryd.prog 62 #[.agg (opA a va), .agg (opA b vb)] w (RetOp2 w (trE a b)) := by
 obtain ⟨rb, h, e⟩ := exc_r gb ga
 have et : trP a b rb (thrE a.f3 b.f1 (wid b)) = trE a b := by
  unfold trP trE
  rw [e]
  rfl
 rw [← et]
 exact transpose_any a b va vb rb _ w hG ha hb ga.fit gb.fit h fun h1 h2 => by
  have hb1 := gb.wid1 h2
  exact through_is a.f3 b.f1 (wid b) (ga.rng h1) ⟨hb1.2.2.1, by omega⟩ ⟨hb1.1, by omega⟩ (last_bound (ga.rng h1))
end Go.Proofs.YtloccjkcmlkifaaDoor
end

section
/- How long an answer's ranges may be. -/
namespace Go.Proofs.YtloccjkcmlkifaaDoor
open Go.RowKit Go.Proofs.YtloccjkcmlkifaaDoor.PAll Go.Proofs.YtloccjkcmlkifaaDoorW.PrintWords

theorem fold_jn_len : ∀ (l out : List S94), (l.foldl jn out).length ≤ out.length + l.length
 | [], _ => by simp
 | r :: t, out => by
  rw [List.foldl_cons, List.length_cons]
  have := fold_jn_len t (jn out r)
  have := jn_len out r
  omega
theorem move_len (a : S41) (p : Int) : (moveE a p).1.f3.length ≤ 1048576 := by
 unfold moveE; split
 · show z41.f3.length ≤ _; exact Nat.zero_le _
 · exact Nat.zero_le _
theorem inc_len (a b : S41) (e : Bool) (h : a.f3.length ≤ 1048576) : (incE a b e).1.f3.length ≤ 1048576 := by
 unfold incE incP
 split
 · exact Nat.zero_le _
 · split
   · exact h
   · split
     · split
       · exact move_len _ _
       · exact h
     · split
       · unfold rangedE; split
         · show (thrE a.f3 b.f1 (wid b)).1.length ≤ 1048576
           unfold thrE bnd
           split
           · exact Nat.zero_le _
           · split
             · exact Nat.zero_le _
             · show (thrS b.f1 (wid b) a.f3).length ≤ _; omega
         · exact Nat.zero_le _
       · exact h
theorem exc_len (a b : S41) (h : a.f3.length ≤ 1048576) : (excE a b).1.f3.length ≤ 1048576 := by
 unfold excE
 split
 · exact Nat.zero_le _
 · split
   · split
     · exact Nat.zero_le _
     · exact h
   · split
     · exact h
     · split
       · split
         · exact h
         · split
           · exact move_len _ _
           · exact Nat.zero_le _
       · split
         · exact Nat.zero_le _
         · show (bkS b.f1 (wid b) a.f3).length ≤ _
           have := fold_jn_len (a.f3.map (mv b.f1 (wid b))) []
           simp at this
           unfold bkS; omega
theorem tr_len (a b : S41) (ha : a.f3.length ≤ 1048576) (hb : b.f3.length ≤ 1048576) : (trE a b).1.f3.length ≤ 1048576 ∧ (trE a b).2.1.f3.length ≤ 1048576 := by
 have h1 := exc_len b a hb
 have h2 := inc_len a b false ha
 have h3 := move_len a (a.f1 + wid b)
 unfold trE
 split
 · exact ⟨Nat.zero_le _, Nat.zero_le _⟩
 · split
   · exact ⟨Nat.zero_le _, Nat.zero_le _⟩
   · split
     · split
       · exact ⟨Nat.zero_le _, Nat.zero_le _⟩
       · exact ⟨h1, h3⟩
     · split
       · split
         · exact ⟨Nat.zero_le _, Nat.zero_le _⟩
         · exact ⟨h1, h2⟩
       · exact ⟨h1, ha⟩
end Go.Proofs.YtloccjkcmlkifaaDoor
end

section
/- What Exclude and Transpose make of right operations is right. -/
namespace Go.Proofs.YtloccjkcmlkifaaDoor
open Go.RowKit Go.Proofs.YtloccjkcmlkifaaDoor.PAll Go.Proofs.YtloccjkcmlkifaaDoorW.PrintWords

theorem nrm_snoc : ∀ {acc : List S94} {p : Int} {s r : S94}, Nrm p (acc ++ [s]) → s.f1 < r.f0 → r.f0 < r.f1 → r.f1 ≤ 1048576 → Nrm p (acc ++ [s] ++ [r])
 | [], _, _, _, h, h1, h2, h3 => ⟨h.1, h.2.1, h.2.2.1, h1, h2, h3, trivial⟩
 | _ :: _, _, _, _, h, h1, h2, h3 => ⟨h.1, h.2.1, h.2.2.1, nrm_snoc h.2.2.2 h1 h2 h3⟩
theorem nrm_ext : ∀ {acc : List S94} {p e : Int} {s : S94}, Nrm p (acc ++ [s]) → s.f0 < e → e ≤ 1048576 → Nrm p (acc ++ [⟨s.f0, e⟩])
 | [], _, _, _, h, h1, h2 => ⟨h.1, h1, h2, trivial⟩
 | _ :: _, _, _, _, h, h1, h2 => ⟨h.1, h.2.1, h.2.2.1, nrm_ext h.2.2.2 h1 h2⟩
theorem nrm_lt : ∀ {acc : List S94} {p : Int} {s : S94}, Nrm p (acc ++ [s]) → s.f0 < s.f1
 | [], _, _, h => h.2.1
 | _ :: _, _, _, h => nrm_lt h.2.2.2
theorem jn_end (acc : List S94) (s r : S94) : jn (acc ++ [s]) r = if s.f1 = r.f0 then acc ++ [⟨s.f0, r.f1⟩] else acc ++ [s] ++ [r] := by
 have e : (acc ++ [s]).getD ((acc ++ [s]).length - 1) z94 = s := by
  rw [List.getD_eq_getElem?_getD, List.length_append, List.length_singleton, Nat.add_sub_cancel, List.getElem?_append_right (Nat.le_refl _), Nat.sub_self]
  rfl
 unfold jn
 rw [e]
 by_cases c : s.f1 = r.f0
 · rw [if_pos ⟨by simp, c⟩, if_pos c]
   simp
 · rw [if_neg (fun h => c h.2), if_neg c]
def Upto (acc : List S94) (x : Int) : Prop := acc = [] ∨ ∃ i s, acc = i ++ [s] ∧ s.f1 ≤ x
theorem bk_fold (p n : Int) (hp : 0 ≤ p) (hn : 1 ≤ n) : ∀ (l : List S94) (x : Int) (acc : List S94), -1 ≤ x → Nrm x l → hits p n l = false → Nrm (-1) acc → Upto acc (un p n x) → Nrm (-1) ((l.map (mv p n)).foldl jn acc) ∧ (0 < acc.length ∨ 0 < l.length → 0 < ((l.map (mv p n)).foldl jn acc).length)
 | [], _, acc, _, _, _, ha, _ => ⟨ha, fun h => h.elim id (fun h => absurd h (by simp))⟩
 | r :: t, x, acc, hx, hN, hh, ha, hu => by
  obtain ⟨n1, n2, n3, n4⟩ := hN
  have hh' : ¬ (p < r.f1 ∧ r.f0 < p + n) ∧ hits p n t = false := by
   unfold hits at hh ⊢
   rw [List.any_cons, Bool.or_eq_false_iff] at hh
   exact ⟨of_decide_eq_false hh.1, hh.2⟩
  have q1 : un p n x ≤ (mv p n r).f0 ∧ -1 < (mv p n r).f0 ∧ (mv p n r).f0 < (mv p n r).f1 ∧ (mv p n r).f1 ≤ 1048576 ∧ (mv p n r).f1 = un p n r.f1 := by
   have := hh'.1
   unfold mv un
   by_cases c : r.f1 ≤ p
   · rw [if_pos c, if_pos c, if_pos (by omega)]; omega
   · rw [if_neg c, if_neg c]
     by_cases c2 : x ≤ p
     · rw [if_pos c2]; dsimp only; omega
     · rw [if_neg c2]; dsimp only; omega
  obtain ⟨q1, q2, q3, q4, q5⟩ := q1
  rw [List.map_cons, List.foldl_cons]
  have hj : Nrm (-1) (jn acc (mv p n r)) ∧ Upto (jn acc (mv p n r)) (un p n r.f1) ∧ 0 < (jn acc (mv p n r)).length := by
   rcases hu with rfl | ⟨i, s, rfl, hs⟩
   · have e : jn [] (mv p n r) = [mv p n r] := rfl
     rw [e]
     exact ⟨⟨q2, q3, q4, trivial⟩, .inr ⟨[], _, rfl, by omega⟩, by simp⟩
   · rw [jn_end]
     by_cases c : s.f1 = (mv p n r).f0
     · rw [if_pos c]
       have := nrm_lt ha
       exact ⟨nrm_ext ha (by omega) q4, .inr ⟨i, _, rfl, by dsimp only; omega⟩, by simp⟩
     · rw [if_neg c]
       exact ⟨nrm_snoc ha (by omega) q3 q4, .inr ⟨i ++ [s], _, rfl, by omega⟩, by simp⟩
  have := bk_fold p n hp hn t r.f1 _ (by omega) n4 hh'.2 hj.1 hj.2.1
  exact ⟨this.1, fun _ => this.2 (.inl hj.2.2)⟩
theorem exc_good {a b : S41} (ga : Good a) (gb : Good b) (h : (excE a b).2 = 0) : Good (excE a b).1 := by
 unfold excE at h ⊢
 by_cases c1 : clashB a b = true
 · rw [if_pos c1] at h; exact absurd h (by decide)
 rw [if_neg c1] at h ⊢
 by_cases c2 : a.f0.f1 = 4
 · rw [if_pos c2] at h ⊢
   by_cases c3 : aimB a b = true
   · rw [if_pos c3] at h; exact absurd h (by decide)
   · rw [if_neg c3]; exact ga
 rw [if_neg c2] at h ⊢
 by_cases c3 : b.f0.f1 = 1
 case neg => rw [if_pos c3]; exact ga
 rw [if_neg (fun q => q c3)] at h ⊢
 have hb := gb.wid1 c3
 by_cases c4 : a.f0.f1 = 1
 · rw [if_pos c4] at h ⊢
   by_cases c5 : a.f1 ≤ b.f1
   · rw [if_pos c5]; exact ga
   rw [if_neg c5] at h ⊢
   by_cases c6 : b.f1 + wid b ≤ a.f1
   · rw [if_pos c6] at h ⊢
     exact good_move ga c4 (by omega) h
   · rw [if_neg c6] at h; exact absurd h (by decide)
 · rw [if_neg c4] at h ⊢
   by_cases c5 : hits b.f1 (wid b) a.f3 = true
   · rw [if_pos c5] at h; exact absurd h (by decide)
   rw [if_neg c5]
   have hk := ga.kind
   have k : a.f0.f1 = 2 ∨ a.f0.f1 = 3 := by omega
   have hrg := ga.rng k
   obtain ⟨hlen, hN⟩ := rng_ok hrg
   have hl0 : 0 < a.f3.length := Nat.pos_of_ne_zero ((own_ok ga.own).2.2.2.2.2.1 k).1
   have hf := bk_fold b.f1 (wid b) hb.2.2.1 hb.1 a.f3 (-1) [] (by omega) hN (by simpa using c5) trivial (.inl rfl)
   have hl := fold_jn_len (a.f3.map (mv b.f1 (wid b))) []
   simp at hl
   exact good_ranged ga k (hf.2 (.inr hl0)) (by show (bkS b.f1 (wid b) a.f3).length ≤ 32768; unfold bkS; omega) hf.1
theorem tr_good {a b : S41} (ga : Good a) (gb : Good b) (h : (trE a b).2.2 = 0) : Good (trE a b).1 ∧ Good (trE a b).2.1 := by
 unfold trE at h ⊢
 by_cases c0 : (excE b a).2 ≠ 0
 · rw [if_pos c0] at h; exact absurd h c0
 rw [if_neg c0] at h ⊢
 have hx := exc_good gb ga (by omega)
 by_cases c1 : trClash a b = true
 · rw [if_pos c1] at h; exact absurd h (by decide)
 rw [if_neg c1] at h ⊢
 by_cases c2 : b.f0.f1 = 1 ∧ a.f0.f1 = 1 ∧ b.f1 ≤ a.f1
 · rw [if_pos c2] at h ⊢
   by_cases c3 : (moveE a (a.f1 + wid b)).2 ≠ 0
   · rw [if_pos c3] at h; exact absurd h c3
   · rw [if_neg c3]
     have hb := gb.wid1 c2.1
     have ha := ga.wid1 c2.2.1
     exact ⟨hx, good_move ga c2.2.1 (by omega) (by omega)⟩
 rw [if_neg c2] at h ⊢
 by_cases c3 : b.f0.f1 = 1 ∧ (a.f0.f1 = 2 ∨ a.f0.f1 = 3)
 · rw [if_pos c3] at h ⊢
   by_cases c4 : (incE a b false).2 ≠ 0
   · rw [if_pos c4] at h; exact absurd h c4
   · rw [if_neg c4]; exact ⟨hx, inc_good ga gb (by omega)⟩
 · rw [if_neg c3]; exact ⟨hx, ga⟩
end Go.Proofs.YtloccjkcmlkifaaDoor
end

section
/- Bring, as both sides have it; the program's. -/
namespace Go.Proofs.YtloccjkcmlkifaaDoor
open Go.RowKit Go.Proofs.YtloccjkcmlkifaaDoor.PAll Go.Proofs.YtloccjkcmlkifaaDoorW.PrintWords Go.Proofs.YtloccjkcmlkifaaDoorW.PrintLast

theorem RunAt.snd {bs : List Bx} {i : Nat} {v : Value} {d r : List OV} {x y : OV} (h : RunAt bs i v (d ++ x :: y :: r)) : RunAt bs i v ((d ++ [x]) ++ y :: r) := by
 rwa [List.append_assoc, List.singleton_append]
theorem RunAt.fst {bs : List Bx} {i : Nat} {v : Value} {d r : List OV} {x y : OV} (h : RunAt bs i v ((d ++ [x]) ++ y :: r)) : RunAt bs i v (d ++ x :: y :: r) := by
 rwa [List.append_assoc, List.singleton_append] at h
theorem ownP_put2 {base : Nat} {d r : List OV} {x y x1 y1 : OV} {W : World} (h : OwnP base (d ++ x :: y :: r) W) (hx : OpR W base x1.2 x1.1) (hy : OpR W base y1.2 y1.1) : OwnP base (d ++ x1 :: y1 :: r) W := fun z hz => by
 simp only [List.mem_append, List.mem_cons] at hz
 rcases hz with hz | rfl | rfl | hz
 · exact h z (by simp [hz])
 · exact hx
 · exact hy
 · exact h z (by simp [hz])
theorem goodP_put2 {d r : List OV} {x y x1 y1 : OV} (h : goodP (d ++ x :: y :: r)) (hx : Good x1.1) (hy : Good y1.1) : goodP (d ++ x1 :: y1 :: r) := fun z hz => by
 simp only [List.mem_append, List.mem_cons] at hz
 rcases hz with hz | rfl | rfl | hz
 · exact h z (by simp [hz])
 · exact hx
 · exact hy
 · exact h z (by simp [hz])
section
variable {P : Program} {ops : Array Oper} {oi : Oper} {a : Act} {Q : Exit → Act → World → Prop} {w0 w : World} {bs : List Bx} {F : World → Prop}
theorem kp_ {i n c : Nat} {ad : Addr} {pd pr : List OV} {x : OV} (hSt : St w0 w bs F) (HR : RunAt bs i (.slice (some ad) n c) (pd ++ x :: pr)) (y : OV) {p : Tmp} {v : Operand} {K : Act → World → Prop} {k : Nat}
 (h : ∀ w' B, St w0 w' (bs.set i B) F → RunAt (bs.set i B) i (.slice (some ad) n c) (pd ++ y :: pr) → K a w') (hk : pd.length = k := by rfl)
 (ho : oi.op = .store 41 (.tmp p) v := by rfl) (hN : oi.dst = none := by rfl) (hp : a.eval (.tmp p) = .pointer (some (ad.add (k * 9))) := by rfl) (hv : a.eval v = .agg (opA y.1 y.2) := by rfl)
 (hw : Region.wanted oi (yielded ops a.tmps) = true := by exact wanted_plain rfl) (hi : (P.info? 41).map (·.size) = some 9 := by kernel_rfl) (hone : (opA y.1 y.2).toList.all (·.oneCell') = true := by rfl) :
 if Region.wanted oi (yielded ops a.tmps) = true then Oper.wp P oi a w K Q else K (a.put oi.dst undef) w := by
 obtain ⟨g, r, e, hn, hc, h3⟩ := HR.at_
 obtain rfl := Option.some.inj e
 have hb := hSt.at_ i h3
 rw [add_plain, ← hk] at hp
 obtain ⟨B, h1, h2, h4⟩ := hSt.putRun HR y
 have hth : w.there g (pd.length * 9) (opA y.1 y.2).size := fun j hj => ⟨by
  have hlt : pd.length * 9 + j < (cellsP (pd ++ x :: pr) ++ r).length := by
   rw [List.length_append, cellsP_len, List.length_append, List.length_cons]
   have : j < 9 := hj
   omega
  rw [blk_cell hb, List.getElem?_toArray, List.getElem?_eq_getElem hlt]
  rfl, blk_frozen hb _⟩
 have hrun : (execOp a.eval oi).run P w = .ok .skip (w.setCells g (pd.length * 9) (opA y.1 y.2).toList) := by
  unfold execOp
  simp only [ho, hp, hv, Sem.run_bind, Sem.run_pure, Result.andThen_ok, run_storeAt_mid w g (pd.length * 9) 41 (opA y.1 y.2) hth hi (by rw [← Array.all_toList]; exact hone)]
 rw [if_pos hw]
 unfold Oper.wp
 rw [hrun]
 show K (a.put oi.dst undef) _
 rw [hN]
 exact h _ B h1 h2
end
def bringN : Nat → List S41 → Nat → Nat → List S41 × Int
 | 0, L, _, _ => (L, 0)
 | n + 1, L, k, tq =>
  if (trE (L.getD (if k < tq then k else k - 1) z41) (L.getD ((if k < tq then k else k - 1) + 1) z41)).2.2 ≠ 0 then ([], (trE (L.getD (if k < tq then k else k - 1) z41) (L.getD ((if k < tq then k else k - 1) + 1) z41)).2.2)
  else bringN n ((L.set (if k < tq then k else k - 1) (trE (L.getD (if k < tq then k else k - 1) z41) (L.getD ((if k < tq then k else k - 1) + 1) z41)).1).set ((if k < tq then k else k - 1) + 1) (trE (L.getD (if k < tq then k else k - 1) z41) (L.getD ((if k < tq then k else k - 1) + 1) z41)).2.1) (if k < tq then k + 1 else k - 1) tq
def dist (k tq : Nat) : Nat := if k < tq then tq - k else k - tq
def bringE (l : List S41) (n m : Int) : List S41 × Int :=
 if ownsE l ≠ 0 then ([], ownsE l) else if n < 0 ∨ (l.length : Int) ≤ n ∨ m < 0 ∨ (l.length : Int) ≤ m then ([], 12) else bringN (dist n.toNat m.toNat) l n.toNat m.toNat
theorem getD_mid (d r : List S41) (o q : S41) : (d ++ o :: q :: r).getD d.length z41 = o ∧ (d ++ o :: q :: r).getD (d.length + 1) z41 = q := by
 constructor
 · simp [List.getD_eq_getElem?_getD]
 · rw [List.getD_eq_getElem?_getD, List.getElem?_append_right (by omega), show d.length + 1 - d.length = 1 by omega]; rfl
theorem set_mid (d r : List S41) (o q x y : S41) : ((d ++ o :: q :: r).set d.length x).set (d.length + 1) y = d ++ x :: y :: r := by
 rw [List.set_append_right _ _ (Nat.le_refl _), Nat.sub_self, List.set_cons_zero, List.set_append_right _ _ (by omega), show d.length + 1 - d.length = 1 by omega]
 rfl
theorem bring_step {n k tq : Nat} {d r : List S41} {o q : S41} (hi : (if k < tq then k else k - 1) = d.length) :
 bringN (n + 1) (d ++ o :: q :: r) k tq = if (trE o q).2.2 ≠ 0 then ([], (trE o q).2.2) else bringN n (d ++ (trE o q).1 :: (trE o q).2.1 :: r) (if k < tq then k + 1 else k - 1) tq := by
 rw [bringN, hi, (getD_mid d r o q).1, (getD_mid d r o q).2, set_mid]
theorem dist_right {k tq : Nat} (h : k < tq) : dist k tq = dist (k + 1) tq + 1 := by
 unfold dist
 rw [if_pos h]
 split <;> omega
theorem dist_left {k tq : Nat} (h : tq < k) : dist k tq = dist (k - 1) tq + 1 := by
 unfold dist
 rw [if_neg (by omega), if_neg (by omega)]; omega
def RetRun (w : World) (r : List S41 × Int) : Ending → World → Prop := fun e w' => ∃ v, e = .returned (.tuple #[v, .int .i64 r.2]) ∧ RunR w' w.heap.size v r.1 ∧ Below w.heap.size w w'
structure BringAt (w : World) (R : List S41 × Int) (Al : Option Addr) (cl nl tq : Nat) (bs : List Bx) (j k : Nat) (p : List OV) (wr : World) : Prop where
 run : RunAt bs j (.slice Al nl cl) p
 st : St w wr bs (OwnP w.heap.size p)
 gl : goodP p
 len : p.length = nl
 pos : k < nl
 eq : R = bringN (dist k tq) (p.map (·.1)) k tq
theorem split_at {p : List OV} {i : Nat} (h : i + 1 < p.length) : ∃ d x y r, p = d ++ x :: y :: r ∧ d.length = i := by
 refine ⟨p.take i, p[i], p[i + 1], p.drop (i + 2), ?_, by rw [List.length_take]; omega⟩
 rw [← List.drop_eq_getElem_cons h, ← List.drop_eq_getElem_cons (by omega), List.take_append_drop]
theorem St.atRun2 {w0 w : World} {bs : List Bx} {F : World → Prop} (S : St w0 w bs F) {i n c : Nat} {ad : Addr} {pd pr : List OV} {x y : OV} (h : RunAt bs i (.slice (some ad) n c) (pd ++ x :: y :: pr)) : atL w (ad.add ((pd.length + 1) * 9)) 0 (opA y.1 y.2).toList := by
 have e : pd ++ x :: y :: pr = (pd ++ [x]) ++ y :: pr := by simp
 rw [e] at h
 have := S.atRun h
 rwa [List.length_append, List.length_singleton] at this
theorem bring_less2 {n tq : Nat} (hd : dist (n + 1) tq < dist n tq) : dist (intOf (.int .i64 ((n : Int) + 1))).toNat tq < dist (intOf (.int .i64 (n : Int))).toNat tq := hd
theorem bring_less1 {n tq : Nat} (h : n < 1048576) (hd : dist (n + 1) tq < dist n tq) : dist (intOf (.int .i64 (wrap64 ((n : Int) + 1)))).toNat tq < dist (intOf (.int .i64 (n : Int))).toNat tq := by
 rw [cnt_wrap h]
 exact hd
theorem bring_less0 {n tq : Nat} (_h : n < 1048576) (hd : dist n tq < dist (n + 1) tq) : dist (intOf (.int .i64 (n : Int))).toNat tq < dist (intOf (.int .i64 ((n + 1 : Nat) : Int))).toNat tq := hd
set_option maxRecDepth 100000 in
set_option maxHeartbeats 8000000 in
theorem bring_any (l : List S41) (n m : Int) (vl : Value) (w : World) (hG : GW w) (hl : RunC w vl l) (fl : fineRun l) : Calls Tryd.prog 38 #[vl, .int .i64 n, .int .i64 m] w (RetRun w (bringE l n m)) := by
 obtain ⟨B, d, rfl, h3, h4⟩ := hl
 have S := Aside0.mk (St.init w (F := fun _ => True) (fun _ _ => trivial))
 have HB := Aside0.mk (runC_mk h3 h4)
 have HG := Aside0.mk hG
 have HF := Aside0.mk fl
 clear h3 h4 fl hG
 by_cases c1 : ownsE l = 0
 case neg =>
  have HM := Aside0.mk (show bringE l n m = ([], ownsE l) from if_pos c1)
  have c1' : (ownsE l != 0) = true := bne_iff_ne.mpr c1
  clear c1
  go_enter Tryd.func38, Tryd.ntmps38
  go_wp2_with ((go_at_call 55; (with_reducible refine (owns_any l _ _ (GW.below HG.out S.out.below) (HB.out.below S.out.below) HF.out.2 HF.out.1).mono ?_); rintro e_ w7 ⟨rfl, hb⟩; replace S := Aside0.mk (S.out.step hb); clear hb))
  rw [HM.out]
  go_ret2
  exact ⟨_, rfl, runR_nil _ _, S.out.below⟩
 have c1' : (ownsE l != 0) = false := bne_eq_false_iff_eq.mpr c1
 by_cases cr : n < 0 ∨ (l.length : Int) ≤ n ∨ m < 0 ∨ (l.length : Int) ≤ m
 · have HM := Aside0.mk (show bringE l n m = ([], 12) by unfold bringE; rw [if_neg (fun h => h c1), if_pos cr])
   have hq : decide (n < 0) = true ∨ decide (n < 0) = false ∧ decide ((l.length : Int) ≤ n) = true ∨ decide (n < 0) = false ∧ decide ((l.length : Int) ≤ n) = false ∧ decide (m < 0) = true ∨ decide (n < 0) = false ∧ decide ((l.length : Int) ≤ n) = false ∧ decide (m < 0) = false ∧ decide ((l.length : Int) ≤ m) = true := by
    by_cases a1 : n < 0 <;> by_cases a2 : (l.length : Int) ≤ n <;> by_cases a3 : m < 0 <;> by_cases a4 : (l.length : Int) ≤ m <;> simp [a1, a2, a3, a4] at cr ⊢
   clear c1 cr
   rcases hq with q1 | ⟨q1, q2⟩ | ⟨q1, q2, q3⟩ | ⟨q1, q2, q3, q4⟩
   all_goals
    go_enter Tryd.func38, Tryd.ntmps38
    go_wp2_with ((go_at_call 55; (with_reducible refine (owns_any l _ _ (GW.below HG.out S.out.below) (HB.out.below S.out.below) HF.out.2 HF.out.1).mono ?_); rintro e_ w7 ⟨rfl, hb⟩; replace S := Aside0.mk (S.out.step hb); clear hb))
    rw [HM.out]
    go_ret2
    exact ⟨_, rfl, runR_nil _ _, S.out.below⟩
 obtain ⟨k0, rfl⟩ : ∃ k : Nat, n = k := ⟨n.toNat, by omega⟩
 obtain ⟨tq, rfl⟩ : ∃ k : Nat, m = k := ⟨m.toNat, by omega⟩
 have HR := Aside0.mk (show bringE l k0 tq = bringN (dist k0 tq) l k0 tq by unfold bringE; rw [if_neg (fun h => h c1), if_neg cr]; rfl)
 have HGD := Aside0.mk (owns_good c1 HF.out.2)
 have HT := Aside0.mk (show k0 < l.length ∧ tq < l.length by omega)
 have q1 : decide (l.length ≤ k0) = false := decide_eq_false (by omega)
 have q2 : decide (l.length ≤ tq) = false := decide_eq_false (by omega)
 have q3 : k0 < l.length := by omega
 have q4 : tq < l.length := by omega
 clear c1 cr
 go_enter Tryd.func38, Tryd.ntmps38
 go_wp2_with (first | (go_at_call 55; (with_reducible refine (owns_any l _ _ (GW.below HG.out S.out.below) (HB.out.below S.out.below) HF.out.2 HF.out.1).mono ?_); rintro e_ w7 ⟨rfl, hb⟩; replace S := Aside0.mk (S.out.step hb); clear hb) | (go_at_call 61; (with_reducible refine (clones_any l _ _ (HB.out.below S.out.below) HF.out.2 HF.out.1).mono ?_); rintro e_ w7 ⟨u, rfl, hR, hb⟩; obtain ⟨pl, bs, _, j, hpl, _, _, RL, S'⟩ := S.out.addRun hb hR (i := 0) (u := .slice none 0 0) (q := []) (.inl ⟨rfl, rfl⟩); obtain ⟨Al, cl, rfl⟩ := RL.slice; replace S := Aside0.mk S'; clear S' hb hR; replace RL := Aside0.mk RL; replace hpl := Aside0.mk hpl))
 have hpe : pl.length = l.length := by rw [← hpl.out, List.length_map]
 have H0 := Aside0.mk (BringAt.mk (R := bringE l k0 tq) (tq := tq) (k := k0) RL.out (S.out.weak fun _ h => h.2) (goodP_of hpl.out HGD.out) rfl (by rw [hpe]; exact HT.out.1) (by rw [HR.out, hpl.out]))
 have HN := Aside0.mk (show pl.length ≤ 1048576 ∧ tq < pl.length by rw [hpe]; exact ⟨HF.out.1, HT.out.2⟩)
 obtain ⟨nl, hnl⟩ : ∃ n, n = pl.length := ⟨_, rfl⟩
 rw [← hnl] at H0 HN ⊢
 clear S RL hpl HR HGD hnl hpe HT q1 q2 q3 q4
 go_loopw [1] (fun f' wr => ∃ (bs : List Bx) (j k : Nat) (p : List OV), f' = .int .i64 (k : Int) ∧ Aside0 (BringAt w (bringE l k0 tq) Al cl nl tq bs j k p wr)) (fun f' _ => dist (intOf f').toNat tq)
 case atStart => exact ⟨_, _, _, _, rfl, H0⟩
 case round =>
  obtain ⟨bs, j, k, p, rfl, HO⟩ := hrel
  have S := Aside0.mk HO.out.st
  by_cases he : k = tq
  · obtain rfl := he
    have HE := Aside0.mk (show bringE l k0 k = (p.map (·.1), 0) by
     have e := HO.out.eq
     have : dist k k = 0 := by unfold dist; rw [if_neg (by omega)]; omega
     rw [this] at e
     exact e)
    go_wp2_with (fail)
    go_ret2
    rw [HE.out]
    exact ⟨_, rfl, HO.out.run.R S.out S.out.now (by rw [HO.out.len]; exact HN.out.1), S.out.below⟩
  by_cases hlt : k < tq
  · obtain ⟨d, ⟨o, vo⟩, ⟨q, vq⟩, r, rfl, hd⟩ := split_at (p := p) (i := k) (by have := HO.out.len; have := HO.out.pos; have := HN.out.2; omega)
    subst hd
    have HD := Aside0.mk (show d.length + 1 < nl ∧ d.length + 1 < 1048576 by have h2 := HO.out.len; simp at h2; have := HN.out.1; omega)
    have HST := Aside0.mk (show bringE l k0 tq = if (trE o q).2.2 ≠ 0 then ([], (trE o q).2.2) else bringN (dist (d.length + 1) tq) (d.map (·.1) ++ (trE o q).1 :: (trE o q).2.1 :: r.map (·.1)) (d.length + 1) tq by
     have e := HO.out.eq
     rw [dist_right hlt, List.map_append, List.map_cons, List.map_cons, bring_step (by rw [List.length_map]; exact if_pos hlt)] at e
     rw [e]
     rw [if_pos hlt])
    have HDI := Aside0.mk (show dist (d.length + 1) tq < dist d.length tq by rw [dist_right hlt]; omega)
    have hw1 : wrap64 ((d.length : Int) + 1) = (d.length : Int) + 1 := cnt_wrap (by have := HD.out.2; omega)
    have hw0 : wrap64 (d.length : Int) = (d.length : Int) := wrap_id (by omega) (by have := HD.out.2; omega)
    have hw1' : IntKind.i64.wrap ((d.length : Int) + 1) = (d.length : Int) + 1 := by rw [i64_w]; exact hw1
    have hw0' : IntKind.i64.wrap (d.length : Int) = (d.length : Int) := by rw [i64_w]; exact hw0
    obtain ⟨Ao, co, rfl⟩ : ∃ A c, vo = .slice A o.f3.length c := (S.out.now (o, vo) (by simp)).slice
    obtain ⟨Aq, cq, rfl⟩ : ∃ A c, vq = .slice A q.f3.length c := (S.out.now (q, vq) (by simp)).slice
    have HM := Aside0.mk (show (o, Value.slice Ao o.f3.length co) ∈ d ++ (o, Value.slice Ao o.f3.length co) :: (q, Value.slice Aq q.f3.length cq) :: r ∧ (q, Value.slice Aq q.f3.length cq) ∈ d ++ (o, Value.slice Ao o.f3.length co) :: (q, Value.slice Aq q.f3.length cq) :: r by simp)
    have HGO := Aside0.mk (show Good o ∧ Good q from ⟨HO.out.gl _ HM.out.1, HO.out.gl _ HM.out.2⟩)
    have RL := Aside0.mk HO.out.run
    have hlk : d.length < nl := by have := HD.out.1; omega
    have hlk1 : d.length + 1 < nl := HD.out.1
    have hli : (d.length : Int) < (nl : Int) := by omega
    have hli1 : (d.length : Int) + 1 < (nl : Int) := by omega
    have hz1 : (0 : Int) ≤ (d.length : Int) := by omega
    have hz2 : (0 : Int) ≤ (d.length : Int) + 1 := by omega
    obtain ⟨gb, _, rfl, hq2⟩ := RL.out.at_
    clear hq2
    obtain ⟨ae, hae⟩ : ∃ ad : Addr, ad = ⟨gb, 0, none⟩ := ⟨_, rfl⟩
    rw [← hae] at HO RL ⊢
    clear hae
    go_wp2_with (fail)
    (refine rg_start (n := 19) (fun W => ∃ top : List Bx, St w W (top ++ bs) _) [] ⟨[], S.out⟩ (fun _ ⟨t, h⟩ => ⟨t, h.drew⟩) ?_; clear S; rintro _ ⟨top, S⟩; refine pu_ 0 ?_; refine pu_ 1 ?_; refine pu_ 2 ?_; refine le_ 3 (opA o (.slice Ao o.f3.length co)) ⟨top, S⟩ (fun _ ⟨t, h⟩ => (h.drop (List.sublist_append_right t bs)).atRun RL.out) ?_; refine pu_ 4 ?_; refine pu_ 5 ?_; refine pu_ 6 ?_; refine pu_ 7 ?_; refine le_ 8 (opA q (.slice Aq q.f3.length cq)) ⟨top, S⟩ (fun _ ⟨t, h⟩ => (h.drop (List.sublist_append_right t bs)).atRun2 RL.out) ?_; replace S := S.drop (List.sublist_append_right top bs); clear top)
    refine re_ (rc_ 9 ?p9_a1 (rc_ 14 ?p14_a1 (rc_ 15 ?p15_a1 AllReadyL.nil)))
    case' p9_a1 =>
     intro K hK; refine kc_ #[.agg (opA o (.slice Ao o.f3.length co)), .agg (opA q (.slice Aq q.f3.length cq))] ?_ Tryd.func62; refine (trE_prog o q _ _ _ (GW.below HG.out S.below) (S.now _ HM.out.1).C (S.now _ HM.out.2).C HGO.out.1 HGO.out.2).mono ?_; rintro e_ w7 ⟨v, v2, rfl, hR, hR2, hb⟩; obtain ⟨Ai, ci, rfl⟩ := hR.slice; obtain ⟨Aj, cj, rfl⟩ := hR2.slice; have S' := S.addR2 hb hR hR2; clear hb hR hR2; refine ⟨_, rfl, hK.out _ _ ⟨[], S'.weak fun _ h => h.1.1⟩ (fun _ => ?_)⟩; clear hK S; have S := S'; clear S'; refine nr_ ?_; refine pu_ 10 ?_; refine pu_ 11 ?_; refine pu_ 12 ?_; refine pu_ 13 ?_
     refine re_ (rc_ 14 ?p14_a2 (rc_ 15 ?p15_a2 AllReadyL.nil))
     case' p14_a2 =>
      intro K hK; refine kn_ 41 zA S ?_; intro _ _ S'; refine hK.out _ _ ⟨[_], S'.weak fun _ h => h.1.1⟩ (fun _ => ?_); clear hK S; have S := S'; clear S'; refine nr_ ?_
      refine re_ (rc_ 15 ?p15_a3 AllReadyL.nil)
      case' p15_a3 =>
       intro K hK; refine kn_ 41 zA S ?_; intro _ _ S'; refine hK.out _ _ ⟨[_, _], S'.weak fun _ h => h.1.1⟩ (fun _ => ?_); clear hK S; have S := S'; clear S'; refine nr_ ?_
       refine re_ (rc_ 16 ?_ AllReadyL.nil); intro K hK; refine ks_ 1 S ?_; intro _ S'; refine hK.out _ _ ⟨[_, _], S'.weak fun _ h => h.1.1⟩ (fun _ => ?_); clear hK S; have S := S'; clear S'; refine re_ (rc_ 17 ?_ AllReadyL.nil); intro K hK; refine ks_ 0 S ?_; intro _ S'; refine hK.out _ _ ⟨[_, _], S'.weak fun _ h => h.1.1⟩ (fun _ => ?_); clear hK S; have S := S'; clear S'; refine pu_ 18 ?_; refine done_ (by kernel_rfl) ?_
     case' p15_a2 =>
      intro K hK; refine kn_ 41 zA S ?_; intro _ _ S'; refine hK.out _ _ ⟨[_], S'.weak fun _ h => h.1.1⟩ (fun _ => ?_); clear hK S; have S := S'; clear S'; refine nr_ ?_
      refine re_ (rc_ 14 ?p14_a4 AllReadyL.nil)
      case' p14_a4 =>
       intro K hK; refine kn_ 41 zA S ?_; intro _ _ S'; refine hK.out _ _ ⟨[_, _], S'.weak fun _ h => h.1.1⟩ (fun _ => ?_); clear hK S; have S := S'; clear S'; refine nr_ ?_
       refine re_ (rc_ 16 ?_ AllReadyL.nil); intro K hK; refine ks_ 0 S ?_; intro _ S'; refine hK.out _ _ ⟨[_, _], S'.weak fun _ h => h.1.1⟩ (fun _ => ?_); clear hK S; have S := S'; clear S'; refine re_ (rc_ 17 ?_ AllReadyL.nil); intro K hK; refine ks_ 1 S ?_; intro _ S'; refine hK.out _ _ ⟨[_, _], S'.weak fun _ h => h.1.1⟩ (fun _ => ?_); clear hK S; have S := S'; clear S'; refine pu_ 18 ?_; refine done_ (by kernel_rfl) ?_
    case' p14_a1 =>
     intro K hK; refine kn_ 41 zA S ?_; intro _ _ S'; refine hK.out _ _ ⟨[_], S'⟩ (fun _ => ?_); clear hK S; have S := S'; clear S'; refine nr_ ?_
     refine re_ (rc_ 9 ?p9_a5 (rc_ 15 ?p15_a5 AllReadyL.nil))
     case' p9_a5 =>
      intro K hK; refine kc_ #[.agg (opA o (.slice Ao o.f3.length co)), .agg (opA q (.slice Aq q.f3.length cq))] ?_ Tryd.func62; refine (trE_prog o q _ _ _ (GW.below HG.out S.below) (S.now _ HM.out.1).C (S.now _ HM.out.2).C HGO.out.1 HGO.out.2).mono ?_; rintro e_ w7 ⟨v, v2, rfl, hR, hR2, hb⟩; obtain ⟨Ai, ci, rfl⟩ := hR.slice; obtain ⟨Aj, cj, rfl⟩ := hR2.slice; have S' := S.addR2 hb hR hR2; clear hb hR hR2; refine ⟨_, rfl, hK.out _ _ ⟨[_], S'.weak fun _ h => h.1.1⟩ (fun _ => ?_)⟩; clear hK S; have S := S'; clear S'; refine nr_ ?_; refine pu_ 10 ?_; refine pu_ 11 ?_; refine pu_ 12 ?_; refine pu_ 13 ?_
      refine re_ (rc_ 15 ?p15_a6 AllReadyL.nil)
      case' p15_a6 =>
       intro K hK; refine kn_ 41 zA S ?_; intro _ _ S'; refine hK.out _ _ ⟨[_, _], S'.weak fun _ h => h.1.1⟩ (fun _ => ?_); clear hK S; have S := S'; clear S'; refine nr_ ?_
       refine re_ (rc_ 16 ?_ AllReadyL.nil); intro K hK; refine ks_ 1 S ?_; intro _ S'; refine hK.out _ _ ⟨[_, _], S'.weak fun _ h => h.1.1⟩ (fun _ => ?_); clear hK S; have S := S'; clear S'; refine re_ (rc_ 17 ?_ AllReadyL.nil); intro K hK; refine ks_ 0 S ?_; intro _ S'; refine hK.out _ _ ⟨[_, _], S'.weak fun _ h => h.1.1⟩ (fun _ => ?_); clear hK S; have S := S'; clear S'; refine pu_ 18 ?_; refine done_ (by kernel_rfl) ?_
     case' p15_a5 =>
      intro K hK; refine kn_ 41 zA S ?_; intro _ _ S'; refine hK.out _ _ ⟨[_, _], S'⟩ (fun _ => ?_); clear hK S; have S := S'; clear S'; refine nr_ ?_
      refine re_ (rc_ 9 ?p9_a7 AllReadyL.nil)
      case' p9_a7 =>
       intro K hK; refine kc_ #[.agg (opA o (.slice Ao o.f3.length co)), .agg (opA q (.slice Aq q.f3.length cq))] ?_ Tryd.func62; refine (trE_prog o q _ _ _ (GW.below HG.out S.below) (S.now _ HM.out.1).C (S.now _ HM.out.2).C HGO.out.1 HGO.out.2).mono ?_; rintro e_ w7 ⟨v, v2, rfl, hR, hR2, hb⟩; obtain ⟨Ai, ci, rfl⟩ := hR.slice; obtain ⟨Aj, cj, rfl⟩ := hR2.slice; have S' := S.addR2 hb hR hR2; clear hb hR hR2; refine ⟨_, rfl, hK.out _ _ ⟨[_, _], S'.weak fun _ h => h.1.1⟩ (fun _ => ?_)⟩; clear hK S; have S := S'; clear S'; refine nr_ ?_; refine pu_ 10 ?_; refine pu_ 11 ?_; refine pu_ 12 ?_; refine pu_ 13 ?_
       refine re_ (rc_ 16 ?_ AllReadyL.nil); intro K hK; refine ks_ 1 S ?_; intro _ S'; refine hK.out _ _ ⟨[_, _], S'.weak fun _ h => h.1.1⟩ (fun _ => ?_); clear hK S; have S := S'; clear S'; refine re_ (rc_ 17 ?_ AllReadyL.nil); intro K hK; refine ks_ 0 S ?_; intro _ S'; refine hK.out _ _ ⟨[_, _], S'.weak fun _ h => h.1.1⟩ (fun _ => ?_); clear hK S; have S := S'; clear S'; refine pu_ 18 ?_; refine done_ (by kernel_rfl) ?_
    case' p15_a1 =>
     intro K hK; refine kn_ 41 zA S ?_; intro _ _ S'; refine hK.out _ _ ⟨[_], S'⟩ (fun _ => ?_); clear hK S; have S := S'; clear S'; refine nr_ ?_
     refine re_ (rc_ 9 ?p9_a8 (rc_ 14 ?p14_a8 AllReadyL.nil))
     case' p9_a8 =>
      intro K hK; refine kc_ #[.agg (opA o (.slice Ao o.f3.length co)), .agg (opA q (.slice Aq q.f3.length cq))] ?_ Tryd.func62; refine (trE_prog o q _ _ _ (GW.below HG.out S.below) (S.now _ HM.out.1).C (S.now _ HM.out.2).C HGO.out.1 HGO.out.2).mono ?_; rintro e_ w7 ⟨v, v2, rfl, hR, hR2, hb⟩; obtain ⟨Ai, ci, rfl⟩ := hR.slice; obtain ⟨Aj, cj, rfl⟩ := hR2.slice; have S' := S.addR2 hb hR hR2; clear hb hR hR2; refine ⟨_, rfl, hK.out _ _ ⟨[_], S'.weak fun _ h => h.1.1⟩ (fun _ => ?_)⟩; clear hK S; have S := S'; clear S'; refine nr_ ?_; refine pu_ 10 ?_; refine pu_ 11 ?_; refine pu_ 12 ?_; refine pu_ 13 ?_
      refine re_ (rc_ 14 ?p14_a9 AllReadyL.nil)
      case' p14_a9 =>
       intro K hK; refine kn_ 41 zA S ?_; intro _ _ S'; refine hK.out _ _ ⟨[_, _], S'.weak fun _ h => h.1.1⟩ (fun _ => ?_); clear hK S; have S := S'; clear S'; refine nr_ ?_
       refine re_ (rc_ 16 ?_ AllReadyL.nil); intro K hK; refine ks_ 0 S ?_; intro _ S'; refine hK.out _ _ ⟨[_, _], S'.weak fun _ h => h.1.1⟩ (fun _ => ?_); clear hK S; have S := S'; clear S'; refine re_ (rc_ 17 ?_ AllReadyL.nil); intro K hK; refine ks_ 1 S ?_; intro _ S'; refine hK.out _ _ ⟨[_, _], S'.weak fun _ h => h.1.1⟩ (fun _ => ?_); clear hK S; have S := S'; clear S'; refine pu_ 18 ?_; refine done_ (by kernel_rfl) ?_
     case' p14_a8 =>
      intro K hK; refine kn_ 41 zA S ?_; intro _ _ S'; refine hK.out _ _ ⟨[_, _], S'⟩ (fun _ => ?_); clear hK S; have S := S'; clear S'; refine nr_ ?_
      refine re_ (rc_ 9 ?p9_a10 AllReadyL.nil)
      case' p9_a10 =>
       intro K hK; refine kc_ #[.agg (opA o (.slice Ao o.f3.length co)), .agg (opA q (.slice Aq q.f3.length cq))] ?_ Tryd.func62; refine (trE_prog o q _ _ _ (GW.below HG.out S.below) (S.now _ HM.out.1).C (S.now _ HM.out.2).C HGO.out.1 HGO.out.2).mono ?_; rintro e_ w7 ⟨v, v2, rfl, hR, hR2, hb⟩; obtain ⟨Ai, ci, rfl⟩ := hR.slice; obtain ⟨Aj, cj, rfl⟩ := hR2.slice; have S' := S.addR2 hb hR hR2; clear hb hR hR2; refine ⟨_, rfl, hK.out _ _ ⟨[_, _], S'.weak fun _ h => h.1.1⟩ (fun _ => ?_)⟩; clear hK S; have S := S'; clear S'; refine nr_ ?_; refine pu_ 10 ?_; refine pu_ 11 ?_; refine pu_ 12 ?_; refine pu_ 13 ?_
       refine re_ (rc_ 16 ?_ AllReadyL.nil); intro K hK; refine ks_ 0 S ?_; intro _ S'; refine hK.out _ _ ⟨[_, _], S'.weak fun _ h => h.1.1⟩ (fun _ => ?_); clear hK S; have S := S'; clear S'; refine re_ (rc_ 17 ?_ AllReadyL.nil); intro K hK; refine ks_ 1 S ?_; intro _ S'; refine hK.out _ _ ⟨[_, _], S'.weak fun _ h => h.1.1⟩ (fun _ => ?_); clear hK S; have S := S'; clear S'; refine pu_ 18 ?_; refine done_ (by kernel_rfl) ?_
    all_goals
     replace S := Aside0.mk S
     by_cases z : (trE o q).2.2 = 0
     case neg =>
      have z' : ((trE o q).2.2 != 0) = true := bne_iff_ne.mpr z
      have HE := Aside0.mk (HST.out.trans (if_pos z))
      clear z
      go_wp2_with (fail)
      rw [HE.out]
      go_ret2
      exact ⟨_, rfl, runR_nil _ _, S.out.below⟩
     have z' : ((trE o q).2.2 != 0) = false := bne_eq_false_iff_eq.mpr z
     have HE := Aside0.mk (HST.out.trans (if_neg (fun h => h z)))
     have HGI := Aside0.mk (tr_good HGO.out.1 HGO.out.2 z)
     clear z
     go_wp2_with (fail)
     (refine rg_start (n := 11) (fun W => ∃ (bs' : List Bx) (x' y' : OV), RunAt bs' j (.slice (some ae) nl cl) (d ++ x' :: y' :: r) ∧ St w W (_ :: _ :: bs') _) [] ⟨bs, _, _, RL.out, S.out⟩ (fun _ ⟨t, x, y, h1, h⟩ => ⟨t, x, y, h1, h.drew⟩) ?_; clear S RL; rintro _ ⟨bs, x', y', RL, S⟩; refine pu_ 0 ?_; refine pu_ 1 ?_; refine pu_ 2 ?_; refine pu_ 3 ?_; refine pu_ 4 ?_; (first | refine ld_ 5 1 (bs := [_, _]) ⟨_, _, _, RL, S⟩ ?_ (fun _ ⟨_, _, _, _, h⟩ => h.drop (List.sublist_append_left [_, _] _)) | refine ld_ 5 0 (bs := [_, _]) ⟨_, _, _, RL, S⟩ ?_ (fun _ ⟨_, _, _, _, h⟩ => h.drop (List.sublist_append_left [_, _] _))); (first | refine ld_ 6 0 (bs := [_, _]) ⟨_, _, _, RL, S⟩ ?_ (fun _ ⟨_, _, _, _, h⟩ => h.drop (List.sublist_append_left [_, _] _)) | refine ld_ 6 1 (bs := [_, _]) ⟨_, _, _, RL, S⟩ ?_ (fun _ ⟨_, _, _, _, h⟩ => h.drop (List.sublist_append_left [_, _] _))); refine pu_ 7 ?_; refine re_ (rc_ 8 ?_ AllReadyL.nil); intro K hK; refine kp_ S ((RL.cons _).cons _) ((trE o q).1, .slice Ai (trE o q).1.f3.length ci) ?_; intro _ B S' RL'; refine hK.out _ _ ⟨bs.set j B, _, _, RL'.tail.tail, S'⟩ (fun _ => ?_); clear hK S RL; have S := S'; have RL := RL'; clear S' RL'; refine pu_ 9 ?_; refine re_ (rc_ 10 ?_ AllReadyL.nil); intro K hK; refine kp_ S RL.snd ((trE o q).2.1, .slice Aj (trE o q).2.1.f3.length cj) (k := d.length + 1) (hk := by simp) ?_; intro _ B2 S' RL'; refine hK.out _ _ ⟨(bs.set j B).set j B2, _, _, RL'.fst.tail.tail, S'⟩ (fun _ => ?_); clear hK S RL; have S := S'; have RL := RL'.fst; clear S' RL'; refine done_ (by kernel_rfl) ?_; replace S := Aside0.mk S; replace RL := Aside0.mk RL)
     go_wp2
     go_roundw
     case rel =>
      refine ⟨(bs.set j B).set j B2, j, d.length + 1, d ++ ((trE o q).1, .slice Ai (trE o q).1.f3.length ci) :: ((trE o q).2.1, .slice Aj (trE o q).2.1.f3.length cj) :: r, by first | rfl | exact cnt_step (by have := HD.out.2; omega), ⟨?_⟩⟩
      have h := HO.out
      have hnl := h.len
      refine ⟨RL.out.tail.tail, (S.out.drop (bs' := (bs.set j B).set j B2) ((List.sublist_cons_self _ _).trans (List.sublist_cons_self _ _))).weak fun _ h => ownP_put2 h.1.1 h.1.2 h.2, goodP_put2 h.gl HGI.out.1 HGI.out.2, by simpa using hnl, by have := HD.out.1; omega, ?_⟩
      rw [HE.out, List.map_append, List.map_cons, List.map_cons]
     case measure => first | exact bring_less2 HDI.out | exact bring_less1 (by have := HD.out.2; omega) HDI.out
  · obtain ⟨d, ⟨o, vo⟩, ⟨q, vq⟩, r, rfl, hd⟩ := split_at (p := p) (i := k - 1) (by have := HO.out.len; have := HO.out.pos; have := HN.out.2; omega)
    obtain rfl : k = d.length + 1 := by omega
    clear hd
    have HD := Aside0.mk (show d.length + 1 < nl ∧ d.length + 1 < 1048576 by have h2 := HO.out.len; simp at h2; have := HN.out.1; omega)
    have HST := Aside0.mk (show bringE l k0 tq = if (trE o q).2.2 ≠ 0 then ([], (trE o q).2.2) else bringN (dist d.length tq) (d.map (·.1) ++ (trE o q).1 :: (trE o q).2.1 :: r.map (·.1)) d.length tq by
     have e := HO.out.eq
     rw [dist_left (show tq < d.length + 1 by omega), Nat.add_sub_cancel, List.map_append, List.map_cons, List.map_cons, bring_step (by rw [List.length_map]; rw [if_neg hlt]; omega)] at e
     rw [e]
     rw [if_neg hlt, Nat.add_sub_cancel])
    have HDI := Aside0.mk (show dist d.length tq < dist (d.length + 1) tq by rw [dist_left (k := d.length + 1) (by omega), Nat.add_sub_cancel]; omega)
    have hw1 : wrap64 ((d.length : Int) + 1) = (d.length : Int) + 1 := cnt_wrap (by have := HD.out.2; omega)
    have hw0 : wrap64 (d.length : Int) = (d.length : Int) := wrap_id (by omega) (by have := HD.out.2; omega)
    have hw1' : IntKind.i64.wrap ((d.length : Int) + 1) = (d.length : Int) + 1 := by rw [i64_w]; exact hw1
    have hw0' : IntKind.i64.wrap (d.length : Int) = (d.length : Int) := by rw [i64_w]; exact hw0
    obtain ⟨Ao, co, rfl⟩ : ∃ A c, vo = .slice A o.f3.length c := (S.out.now (o, vo) (by simp)).slice
    obtain ⟨Aq, cq, rfl⟩ : ∃ A c, vq = .slice A q.f3.length c := (S.out.now (q, vq) (by simp)).slice
    have HM := Aside0.mk (show (o, Value.slice Ao o.f3.length co) ∈ d ++ (o, Value.slice Ao o.f3.length co) :: (q, Value.slice Aq q.f3.length cq) :: r ∧ (q, Value.slice Aq q.f3.length cq) ∈ d ++ (o, Value.slice Ao o.f3.length co) :: (q, Value.slice Aq q.f3.length cq) :: r by simp)
    have HGO := Aside0.mk (show Good o ∧ Good q from ⟨HO.out.gl _ HM.out.1, HO.out.gl _ HM.out.2⟩)
    have RL := Aside0.mk HO.out.run
    have hlk : d.length < nl := by have := HD.out.1; omega
    have hlk1 : d.length + 1 < nl := HD.out.1
    have hli : (d.length : Int) < (nl : Int) := by omega
    have hli1 : (d.length : Int) + 1 < (nl : Int) := by omega
    have hz1 : (0 : Int) ≤ (d.length : Int) := by omega
    have hz2 : (0 : Int) ≤ (d.length : Int) + 1 := by omega
    obtain ⟨gb, _, rfl, hq2⟩ := RL.out.at_
    clear hq2
    obtain ⟨ae, hae⟩ : ∃ ad : Addr, ad = ⟨gb, 0, none⟩ := ⟨_, rfl⟩
    rw [← hae] at HO RL ⊢
    clear hae
    go_wp2_with (fail)
    (refine rg_start (n := 19) (fun W => ∃ top : List Bx, St w W (top ++ bs) _) [] ⟨[], S.out⟩ (fun _ ⟨t, h⟩ => ⟨t, h.drew⟩) ?_; clear S; rintro _ ⟨top, S⟩; refine pu_ 0 ?_; refine pu_ 1 ?_; refine pu_ 2 ?_; refine le_ 3 (opA o (.slice Ao o.f3.length co)) ⟨top, S⟩ (fun _ ⟨t, h⟩ => (h.drop (List.sublist_append_right t bs)).atRun RL.out) ?_; refine pu_ 4 ?_; refine pu_ 5 ?_; refine pu_ 6 ?_; refine pu_ 7 ?_; refine le_ 8 (opA q (.slice Aq q.f3.length cq)) ⟨top, S⟩ (fun _ ⟨t, h⟩ => (h.drop (List.sublist_append_right t bs)).atRun2 RL.out) ?_; replace S := S.drop (List.sublist_append_right top bs); clear top)
    refine re_ (rc_ 9 ?p9_b1 (rc_ 14 ?p14_b1 (rc_ 15 ?p15_b1 AllReadyL.nil)))
    case' p9_b1 =>
     intro K hK; refine kc_ #[.agg (opA o (.slice Ao o.f3.length co)), .agg (opA q (.slice Aq q.f3.length cq))] ?_ Tryd.func62; refine (trE_prog o q _ _ _ (GW.below HG.out S.below) (S.now _ HM.out.1).C (S.now _ HM.out.2).C HGO.out.1 HGO.out.2).mono ?_; rintro e_ w7 ⟨v, v2, rfl, hR, hR2, hb⟩; obtain ⟨Ai, ci, rfl⟩ := hR.slice; obtain ⟨Aj, cj, rfl⟩ := hR2.slice; have S' := S.addR2 hb hR hR2; clear hb hR hR2; refine ⟨_, rfl, hK.out _ _ ⟨[], S'.weak fun _ h => h.1.1⟩ (fun _ => ?_)⟩; clear hK S; have S := S'; clear S'; refine nr_ ?_; refine pu_ 10 ?_; refine pu_ 11 ?_; refine pu_ 12 ?_; refine pu_ 13 ?_
     refine re_ (rc_ 14 ?p14_b2 (rc_ 15 ?p15_b2 AllReadyL.nil))
     case' p14_b2 =>
      intro K hK; refine kn_ 41 zA S ?_; intro _ _ S'; refine hK.out _ _ ⟨[_], S'.weak fun _ h => h.1.1⟩ (fun _ => ?_); clear hK S; have S := S'; clear S'; refine nr_ ?_
      refine re_ (rc_ 15 ?p15_b3 AllReadyL.nil)
      case' p15_b3 =>
       intro K hK; refine kn_ 41 zA S ?_; intro _ _ S'; refine hK.out _ _ ⟨[_, _], S'.weak fun _ h => h.1.1⟩ (fun _ => ?_); clear hK S; have S := S'; clear S'; refine nr_ ?_
       refine re_ (rc_ 16 ?_ AllReadyL.nil); intro K hK; refine ks_ 1 S ?_; intro _ S'; refine hK.out _ _ ⟨[_, _], S'.weak fun _ h => h.1.1⟩ (fun _ => ?_); clear hK S; have S := S'; clear S'; refine re_ (rc_ 17 ?_ AllReadyL.nil); intro K hK; refine ks_ 0 S ?_; intro _ S'; refine hK.out _ _ ⟨[_, _], S'.weak fun _ h => h.1.1⟩ (fun _ => ?_); clear hK S; have S := S'; clear S'; refine pu_ 18 ?_; refine done_ (by kernel_rfl) ?_
     case' p15_b2 =>
      intro K hK; refine kn_ 41 zA S ?_; intro _ _ S'; refine hK.out _ _ ⟨[_], S'.weak fun _ h => h.1.1⟩ (fun _ => ?_); clear hK S; have S := S'; clear S'; refine nr_ ?_
      refine re_ (rc_ 14 ?p14_b4 AllReadyL.nil)
      case' p14_b4 =>
       intro K hK; refine kn_ 41 zA S ?_; intro _ _ S'; refine hK.out _ _ ⟨[_, _], S'.weak fun _ h => h.1.1⟩ (fun _ => ?_); clear hK S; have S := S'; clear S'; refine nr_ ?_
       refine re_ (rc_ 16 ?_ AllReadyL.nil); intro K hK; refine ks_ 0 S ?_; intro _ S'; refine hK.out _ _ ⟨[_, _], S'.weak fun _ h => h.1.1⟩ (fun _ => ?_); clear hK S; have S := S'; clear S'; refine re_ (rc_ 17 ?_ AllReadyL.nil); intro K hK; refine ks_ 1 S ?_; intro _ S'; refine hK.out _ _ ⟨[_, _], S'.weak fun _ h => h.1.1⟩ (fun _ => ?_); clear hK S; have S := S'; clear S'; refine pu_ 18 ?_; refine done_ (by kernel_rfl) ?_
    case' p14_b1 =>
     intro K hK; refine kn_ 41 zA S ?_; intro _ _ S'; refine hK.out _ _ ⟨[_], S'⟩ (fun _ => ?_); clear hK S; have S := S'; clear S'; refine nr_ ?_
     refine re_ (rc_ 9 ?p9_b5 (rc_ 15 ?p15_b5 AllReadyL.nil))
     case' p9_b5 =>
      intro K hK; refine kc_ #[.agg (opA o (.slice Ao o.f3.length co)), .agg (opA q (.slice Aq q.f3.length cq))] ?_ Tryd.func62; refine (trE_prog o q _ _ _ (GW.below HG.out S.below) (S.now _ HM.out.1).C (S.now _ HM.out.2).C HGO.out.1 HGO.out.2).mono ?_; rintro e_ w7 ⟨v, v2, rfl, hR, hR2, hb⟩; obtain ⟨Ai, ci, rfl⟩ := hR.slice; obtain ⟨Aj, cj, rfl⟩ := hR2.slice; have S' := S.addR2 hb hR hR2; clear hb hR hR2; refine ⟨_, rfl, hK.out _ _ ⟨[_], S'.weak fun _ h => h.1.1⟩ (fun _ => ?_)⟩; clear hK S; have S := S'; clear S'; refine nr_ ?_; refine pu_ 10 ?_; refine pu_ 11 ?_; refine pu_ 12 ?_; refine pu_ 13 ?_
      refine re_ (rc_ 15 ?p15_b6 AllReadyL.nil)
      case' p15_b6 =>
       intro K hK; refine kn_ 41 zA S ?_; intro _ _ S'; refine hK.out _ _ ⟨[_, _], S'.weak fun _ h => h.1.1⟩ (fun _ => ?_); clear hK S; have S := S'; clear S'; refine nr_ ?_
       refine re_ (rc_ 16 ?_ AllReadyL.nil); intro K hK; refine ks_ 1 S ?_; intro _ S'; refine hK.out _ _ ⟨[_, _], S'.weak fun _ h => h.1.1⟩ (fun _ => ?_); clear hK S; have S := S'; clear S'; refine re_ (rc_ 17 ?_ AllReadyL.nil); intro K hK; refine ks_ 0 S ?_; intro _ S'; refine hK.out _ _ ⟨[_, _], S'.weak fun _ h => h.1.1⟩ (fun _ => ?_); clear hK S; have S := S'; clear S'; refine pu_ 18 ?_; refine done_ (by kernel_rfl) ?_
     case' p15_b5 =>
      intro K hK; refine kn_ 41 zA S ?_; intro _ _ S'; refine hK.out _ _ ⟨[_, _], S'⟩ (fun _ => ?_); clear hK S; have S := S'; clear S'; refine nr_ ?_
      refine re_ (rc_ 9 ?p9_b7 AllReadyL.nil)
      case' p9_b7 =>
       intro K hK; refine kc_ #[.agg (opA o (.slice Ao o.f3.length co)), .agg (opA q (.slice Aq q.f3.length cq))] ?_ Tryd.func62; refine (trE_prog o q _ _ _ (GW.below HG.out S.below) (S.now _ HM.out.1).C (S.now _ HM.out.2).C HGO.out.1 HGO.out.2).mono ?_; rintro e_ w7 ⟨v, v2, rfl, hR, hR2, hb⟩; obtain ⟨Ai, ci, rfl⟩ := hR.slice; obtain ⟨Aj, cj, rfl⟩ := hR2.slice; have S' := S.addR2 hb hR hR2; clear hb hR hR2; refine ⟨_, rfl, hK.out _ _ ⟨[_, _], S'.weak fun _ h => h.1.1⟩ (fun _ => ?_)⟩; clear hK S; have S := S'; clear S'; refine nr_ ?_; refine pu_ 10 ?_; refine pu_ 11 ?_; refine pu_ 12 ?_; refine pu_ 13 ?_
       refine re_ (rc_ 16 ?_ AllReadyL.nil); intro K hK; refine ks_ 1 S ?_; intro _ S'; refine hK.out _ _ ⟨[_, _], S'.weak fun _ h => h.1.1⟩ (fun _ => ?_); clear hK S; have S := S'; clear S'; refine re_ (rc_ 17 ?_ AllReadyL.nil); intro K hK; refine ks_ 0 S ?_; intro _ S'; refine hK.out _ _ ⟨[_, _], S'.weak fun _ h => h.1.1⟩ (fun _ => ?_); clear hK S; have S := S'; clear S'; refine pu_ 18 ?_; refine done_ (by kernel_rfl) ?_
    case' p15_b1 =>
     intro K hK; refine kn_ 41 zA S ?_; intro _ _ S'; refine hK.out _ _ ⟨[_], S'⟩ (fun _ => ?_); clear hK S; have S := S'; clear S'; refine nr_ ?_
     refine re_ (rc_ 9 ?p9_b8 (rc_ 14 ?p14_b8 AllReadyL.nil))
     case' p9_b8 =>
      intro K hK; refine kc_ #[.agg (opA o (.slice Ao o.f3.length co)), .agg (opA q (.slice Aq q.f3.length cq))] ?_ Tryd.func62; refine (trE_prog o q _ _ _ (GW.below HG.out S.below) (S.now _ HM.out.1).C (S.now _ HM.out.2).C HGO.out.1 HGO.out.2).mono ?_; rintro e_ w7 ⟨v, v2, rfl, hR, hR2, hb⟩; obtain ⟨Ai, ci, rfl⟩ := hR.slice; obtain ⟨Aj, cj, rfl⟩ := hR2.slice; have S' := S.addR2 hb hR hR2; clear hb hR hR2; refine ⟨_, rfl, hK.out _ _ ⟨[_], S'.weak fun _ h => h.1.1⟩ (fun _ => ?_)⟩; clear hK S; have S := S'; clear S'; refine nr_ ?_; refine pu_ 10 ?_; refine pu_ 11 ?_; refine pu_ 12 ?_; refine pu_ 13 ?_
      refine re_ (rc_ 14 ?p14_b9 AllReadyL.nil)
      case' p14_b9 =>
       intro K hK; refine kn_ 41 zA S ?_; intro _ _ S'; refine hK.out _ _ ⟨[_, _], S'.weak fun _ h => h.1.1⟩ (fun _ => ?_); clear hK S; have S := S'; clear S'; refine nr_ ?_
       refine re_ (rc_ 16 ?_ AllReadyL.nil); intro K hK; refine ks_ 0 S ?_; intro _ S'; refine hK.out _ _ ⟨[_, _], S'.weak fun _ h => h.1.1⟩ (fun _ => ?_); clear hK S; have S := S'; clear S'; refine re_ (rc_ 17 ?_ AllReadyL.nil); intro K hK; refine ks_ 1 S ?_; intro _ S'; refine hK.out _ _ ⟨[_, _], S'.weak fun _ h => h.1.1⟩ (fun _ => ?_); clear hK S; have S := S'; clear S'; refine pu_ 18 ?_; refine done_ (by kernel_rfl) ?_
     case' p14_b8 =>
      intro K hK; refine kn_ 41 zA S ?_; intro _ _ S'; refine hK.out _ _ ⟨[_, _], S'⟩ (fun _ => ?_); clear hK S; have S := S'; clear S'; refine nr_ ?_
      refine re_ (rc_ 9 ?p9_b10 AllReadyL.nil)
      case' p9_b10 =>
       intro K hK; refine kc_ #[.agg (opA o (.slice Ao o.f3.length co)), .agg (opA q (.slice Aq q.f3.length cq))] ?_ Tryd.func62; refine (trE_prog o q _ _ _ (GW.below HG.out S.below) (S.now _ HM.out.1).C (S.now _ HM.out.2).C HGO.out.1 HGO.out.2).mono ?_; rintro e_ w7 ⟨v, v2, rfl, hR, hR2, hb⟩; obtain ⟨Ai, ci, rfl⟩ := hR.slice; obtain ⟨Aj, cj, rfl⟩ := hR2.slice; have S' := S.addR2 hb hR hR2; clear hb hR hR2; refine ⟨_, rfl, hK.out _ _ ⟨[_, _], S'.weak fun _ h => h.1.1⟩ (fun _ => ?_)⟩; clear hK S; have S := S'; clear S'; refine nr_ ?_; refine pu_ 10 ?_; refine pu_ 11 ?_; refine pu_ 12 ?_; refine pu_ 13 ?_
       refine re_ (rc_ 16 ?_ AllReadyL.nil); intro K hK; refine ks_ 0 S ?_; intro _ S'; refine hK.out _ _ ⟨[_, _], S'.weak fun _ h => h.1.1⟩ (fun _ => ?_); clear hK S; have S := S'; clear S'; refine re_ (rc_ 17 ?_ AllReadyL.nil); intro K hK; refine ks_ 1 S ?_; intro _ S'; refine hK.out _ _ ⟨[_, _], S'.weak fun _ h => h.1.1⟩ (fun _ => ?_); clear hK S; have S := S'; clear S'; refine pu_ 18 ?_; refine done_ (by kernel_rfl) ?_
    all_goals
     replace S := Aside0.mk S
     by_cases z : (trE o q).2.2 = 0
     case neg =>
      have z' : ((trE o q).2.2 != 0) = true := bne_iff_ne.mpr z
      have HE := Aside0.mk (HST.out.trans (if_pos z))
      clear z
      go_wp2_with (fail)
      rw [HE.out]
      go_ret2
      exact ⟨_, rfl, runR_nil _ _, S.out.below⟩
     have z' : ((trE o q).2.2 != 0) = false := bne_eq_false_iff_eq.mpr z
     have HE := Aside0.mk (HST.out.trans (if_neg (fun h => h z)))
     have HGI := Aside0.mk (tr_good HGO.out.1 HGO.out.2 z)
     clear z
     go_wp2_with (fail)
     (refine rg_start (n := 11) (fun W => ∃ (bs' : List Bx) (x' y' : OV), RunAt bs' j (.slice (some ae) nl cl) (d ++ x' :: y' :: r) ∧ St w W (_ :: _ :: bs') _) [] ⟨bs, _, _, RL.out, S.out⟩ (fun _ ⟨t, x, y, h1, h⟩ => ⟨t, x, y, h1, h.drew⟩) ?_; clear S RL; rintro _ ⟨bs, x', y', RL, S⟩; refine pu_ 0 ?_; refine pu_ 1 ?_; refine pu_ 2 ?_; refine pu_ 3 ?_; refine pu_ 4 ?_; (first | refine ld_ 5 1 (bs := [_, _]) ⟨_, _, _, RL, S⟩ ?_ (fun _ ⟨_, _, _, _, h⟩ => h.drop (List.sublist_append_left [_, _] _)) | refine ld_ 5 0 (bs := [_, _]) ⟨_, _, _, RL, S⟩ ?_ (fun _ ⟨_, _, _, _, h⟩ => h.drop (List.sublist_append_left [_, _] _))); (first | refine ld_ 6 0 (bs := [_, _]) ⟨_, _, _, RL, S⟩ ?_ (fun _ ⟨_, _, _, _, h⟩ => h.drop (List.sublist_append_left [_, _] _)) | refine ld_ 6 1 (bs := [_, _]) ⟨_, _, _, RL, S⟩ ?_ (fun _ ⟨_, _, _, _, h⟩ => h.drop (List.sublist_append_left [_, _] _))); refine pu_ 7 ?_; refine re_ (rc_ 8 ?_ AllReadyL.nil); intro K hK; refine kp_ S ((RL.cons _).cons _) ((trE o q).1, .slice Ai (trE o q).1.f3.length ci) ?_; intro _ B S' RL'; refine hK.out _ _ ⟨bs.set j B, _, _, RL'.tail.tail, S'⟩ (fun _ => ?_); clear hK S RL; have S := S'; have RL := RL'; clear S' RL'; refine pu_ 9 ?_; refine re_ (rc_ 10 ?_ AllReadyL.nil); intro K hK; refine kp_ S RL.snd ((trE o q).2.1, .slice Aj (trE o q).2.1.f3.length cj) (k := d.length + 1) (hk := by simp) ?_; intro _ B2 S' RL'; refine hK.out _ _ ⟨(bs.set j B).set j B2, _, _, RL'.fst.tail.tail, S'⟩ (fun _ => ?_); clear hK S RL; have S := S'; have RL := RL'.fst; clear S' RL'; refine done_ (by kernel_rfl) ?_; replace S := Aside0.mk S; replace RL := Aside0.mk RL)
     go_wp2
     go_roundw
     case rel =>
      refine ⟨(bs.set j B).set j B2, j, d.length, d ++ ((trE o q).1, .slice Ai (trE o q).1.f3.length ci) :: ((trE o q).2.1, .slice Aj (trE o q).2.1.f3.length cj) :: r, by first | rfl | (rw [hw0]), ⟨?_⟩⟩
      have h := HO.out
      have hnl := h.len
      refine ⟨RL.out.tail.tail, (S.out.drop (bs' := (bs.set j B).set j B2) ((List.sublist_cons_self _ _).trans (List.sublist_cons_self _ _))).weak fun _ h => ownP_put2 h.1.1 h.1.2 h.2, goodP_put2 h.gl HGI.out.1 HGI.out.2, by simpa using hnl, by have := HD.out.1; omega, ?_⟩
      rw [HE.out, List.map_append, List.map_cons, List.map_cons]
     case measure => exact bring_less0 (by have := HD.out.2; omega) HDI.out
end Go.Proofs.YtloccjkcmlkifaaDoor
end

section
/- What the document finds ahead of an insert of ranges behind it: as span.Back. -/
namespace Go.Proofs.YtloccjkcmlkifaaDoor
open Go.RowKit Go.Proofs.YtloccjkcmlkifaaDoor.PAll Go.Proofs.YtloccjkcmlkifaaDoorW.PrintWords

theorem am0 (k : Nat) (lo hi : Int) (h : 0 ≤ lo ∧ lo < hi ∧ hi ≤ 2097152) : redraftref05_among.f (k + 2) ctx0 0 lo hi = some [⟨lo, hi⟩] := by
 unfold redraftref05_among.f
 rw [show redraftref05_among.l0 (k + 2) ctx0 0 lo hi [] 0 0 = _ from am_step (k + 1) ctx0 0 lo hi 0 [] 0 (by simp) (by simp) ⟨0, 0, 2097152⟩ rfl (by simp; omega) (by simp)]
 have m1 : mx lo 0 = lo := by unfold mx; split <;> omega
 have m2 : mn hi 2097152 = hi := by unfold mn; split <;> omega
 rw [if_pos ⟨rfl, by show (0 : Int) < hi; omega, by show lo < 2097152; omega⟩]
 simp only [m1, m2]
 rw [redraftref05_among.l0, if_neg (by simp)]
 simp
theorem am2 (k : Nat) (lo hi : Int) (h : 0 ≤ lo ∧ lo ≤ 2097152 ∧ 0 ≤ hi ∧ hi ≤ 2097152) : redraftref05_among.f (k + 2) ctx0 2 lo hi = some [] := by
 unfold redraftref05_among.f
 rw [show redraftref05_among.l0 (k + 2) ctx0 2 lo hi [] 0 0 = _ from am_step (k + 1) ctx0 2 lo hi 0 [] 0 (by simp) (by simp) ⟨0, 0, 2097152⟩ rfl (by simp; omega) (by simp)]
 rw [if_neg (fun q => absurd q.1 (by simp)), redraftref05_among.l0, if_neg (by simp)]
section
variable (row : List S154) (l : List S94)
theorem fd_in (k i : Nat) (out : List S94) (s0 e f t : Int) (st : Int) (hi : i < l.length) (hl : l.length ≤ 1048576) (r : S94) (hr : l.getD i z94 = r) (nx : Int)
 (hb : 0 ≤ s0 ∧ s0 ≤ r.f0 ∧ r.f0 < r.f1 ∧ r.f1 ≤ 1048576 ∧ r.f0 < e ∧ r.f1 ≤ e ∧ 0 ≤ f ∧ f ≤ s0) (ho : out.length ≤ 1048576) :
 redraftref05_found.l1 (k + 4) row ctx0 l out s0 nx st e (i : Int) 0 f t = redraftref05_found.l1 (k + 2) row ctx0 l (out ++ [⟨r.f0 + f - s0, r.f1 + f - s0⟩]) s0 ((i + 1 : Nat) : Int) st e ((i + 1 : Nat) : Int) 0 f t := by
 obtain ⟨b1, b2, b3, b4, b5, b6, b7, b8⟩ := hb
 have e1 : rd_T94 l (i : Int) = r := by unfold rd_T94; rw [Int.toNat_natCast, hr]
 have q1 : (i : Int) < (l.length : Int) := by omega
 have q2 : (0 : Int) ≤ (i : Int) := by omega
 have m1 : mx r.f0 s0 = r.f0 := by unfold mx; split <;> omega
 have m2 : mn r.f1 e = r.f1 := by unfold mn; split <;> omega
 have w1 : wrap64 (wrap64 (f + r.f0) - s0) = r.f0 + f - s0 := by rw [wrap_id (n := f + r.f0) (by omega) (by omega), wrap_id (by omega) (by omega)]; omega
 have w2 : wrap64 (wrap64 (f + r.f1) - s0) = r.f1 + f - s0 := by rw [wrap_id (n := f + r.f1) (by omega) (by omega), wrap_id (by omega) (by omega)]; omega
 have w3 : wrap64 ((i : Int) + 1) = ((i + 1 : Nat) : Int) := by rw [wrap_id (by omega) (by omega)]; omega
 have q3 : out.length + 1 < 8796093022208 := by omega
 have am := am0 k (r.f0 + f - s0) (r.f1 + f - s0) (by omega)
 rw [show k + 4 = (k + 3) + 1 from rfl, redraftref05_found.l1, if_pos q1, if_pos q2, e1, decide_eq_true b5, show k + 3 = (k + 2) + 1 from rfl, redraftref05_found.j2, if_pos rfl, if_pos q2, if_pos q1, e1, m1, m2, w1, w2, am]
 simp only [Option.bind_some]
 rw [if_neg (by simp), if_pos (by simpa using q3)]
 show (if r.f1 > e then _ else _) = _
 rw [if_neg (by omega), w3]
theorem fd_break (k i : Nat) (out : List S94) (s0 e f t : Int) (st : Int) (hi : i < l.length) (_hl : l.length ≤ 1048576) (r : S94) (hr : l.getD i z94 = r) (nx : Int)
 (hb : 0 ≤ s0 ∧ s0 ≤ r.f0 ∧ r.f0 < r.f1 ∧ r.f1 ≤ 1048576 ∧ r.f0 < e ∧ e < r.f1 ∧ 0 ≤ f ∧ f ≤ s0) (ho : out.length ≤ 1048576) :
 redraftref05_found.l1 (k + 4) row ctx0 l out s0 nx st e (i : Int) 0 f t = redraftref05_found.l0 (k + 2) row ctx0 l (out ++ [⟨r.f0 + f - s0, e + f - s0⟩]) e nx (wrap64 (st + 1)) := by
 obtain ⟨b1, b2, b3, b4, b5, b6, b7, b8⟩ := hb
 have e1 : rd_T94 l (i : Int) = r := by unfold rd_T94; rw [Int.toNat_natCast, hr]
 have q1 : (i : Int) < (l.length : Int) := by omega
 have q2 : (0 : Int) ≤ (i : Int) := by omega
 have m1 : mx r.f0 s0 = r.f0 := by unfold mx; split <;> omega
 have m2 : mn r.f1 e = e := by unfold mn; split <;> omega
 have w1 : wrap64 (wrap64 (f + r.f0) - s0) = r.f0 + f - s0 := by rw [wrap_id (n := f + r.f0) (by omega) (by omega), wrap_id (by omega) (by omega)]; omega
 have w2 : wrap64 (wrap64 (f + e) - s0) = e + f - s0 := by rw [wrap_id (n := f + e) (by omega) (by omega), wrap_id (by omega) (by omega)]; omega
 have q3 : out.length + 1 < 8796093022208 := by omega
 have am := am0 k (r.f0 + f - s0) (e + f - s0) (by omega)
 rw [show k + 4 = (k + 3) + 1 from rfl, redraftref05_found.l1, if_pos q1, if_pos q2, e1, decide_eq_true b5, show k + 3 = (k + 2) + 1 from rfl, redraftref05_found.j2, if_pos rfl, if_pos q2, if_pos q1, e1, m1, m2, w1, w2, am]
 simp only [Option.bind_some]
 rw [if_neg (by simp), if_pos (by simpa using q3)]
 show (if r.f1 > e then _ else _) = _
 rw [if_pos (by omega)]
theorem fd_hit (k i : Nat) (out : List S94) (s0 e t : Int) (st : Int) (hi : i < l.length) (_hl : l.length ≤ 1048576) (r : S94) (hr : l.getD i z94 = r) (nx : Int)
 (hb : 0 ≤ s0 ∧ s0 ≤ 1048576 ∧ 0 ≤ r.f0 ∧ r.f0 < r.f1 ∧ r.f1 ≤ 1048576 ∧ r.f0 < e ∧ s0 < r.f1 ∧ s0 ≤ e ∧ e ≤ 2097152) :
 redraftref05_found.l1 (k + 4) row ctx0 l out s0 nx st e (i : Int) 2 0 t = some ([], 23) := by
 obtain ⟨b1, b2, b3, b4, b5, b6, b7, b8, b9⟩ := hb
 have e1 : rd_T94 l (i : Int) = r := by unfold rd_T94; rw [Int.toNat_natCast, hr]
 have q1 : (i : Int) < (l.length : Int) := by omega
 have q2 : (0 : Int) ≤ (i : Int) := by omega
 have bx : s0 ≤ mx r.f0 s0 ∧ mx r.f0 s0 ≤ 1048576 := by unfold mx; split <;> omega
 have bn : s0 ≤ mn r.f1 e ∧ mn r.f1 e ≤ 2097152 := by unfold mn; split <;> omega
 have w1 : wrap64 (wrap64 (0 + mx r.f0 s0) - s0) = mx r.f0 s0 - s0 := by rw [wrap_id (n := 0 + mx r.f0 s0) (by omega) (by omega), wrap_id (by omega) (by omega)]; omega
 have w2 : wrap64 (wrap64 (0 + mn r.f1 e) - s0) = mn r.f1 e - s0 := by rw [wrap_id (n := 0 + mn r.f1 e) (by omega) (by omega), wrap_id (by omega) (by omega)]; omega
 have am := am2 k (mx r.f0 s0 - s0) (mn r.f1 e - s0) (by omega)
 rw [show k + 4 = (k + 3) + 1 from rfl, redraftref05_found.l1, if_pos q1, if_pos q2, e1, decide_eq_true b6, show k + 3 = (k + 2) + 1 from rfl, redraftref05_found.j2, if_pos rfl, if_pos q2, if_pos q1, e1, w1, w2, am]
 simp only [Option.bind_some]
 rw [if_pos (by simp)]
theorem fd_out (k i : Nat) (out : List S94) (s0 e who f t : Int) (st : Int) (nx : Int) (h : i < l.length → e ≤ (l.getD i z94).f0) :
 redraftref05_found.l1 (k + 2) row ctx0 l out s0 nx st e (i : Int) who f t = redraftref05_found.l0 k row ctx0 l out e nx (wrap64 (st + 1)) := by
 have e1 : rd_T94 l (i : Int) = l.getD i z94 := by unfold rd_T94; rw [Int.toNat_natCast]
 by_cases hi : i < l.length
 · have q1 : (i : Int) < (l.length : Int) := by omega
   rw [show k + 2 = (k + 1) + 1 from rfl, redraftref05_found.l1, if_pos q1, if_pos (by omega), e1, decide_eq_false (by have := h hi; omega), redraftref05_found.j2, if_neg (by simp)]
 · rw [show k + 2 = (k + 1) + 1 from rfl, redraftref05_found.l1, if_neg (by omega), redraftref05_found.j2, if_neg (by simp)]
theorem fd_next (k : Nat) (st : Nat) (out : List S94) (s0 nx : Int) (hst : st < row.length) (s : S154) (hs : row.getD st z154 = s) (hb : 0 ≤ s0 ∧ s0 ≤ 16777216 ∧ 0 ≤ s.f1 ∧ s.f1 ≤ 16777216 ∧ 0 ≤ s.f2 ∧ s.f2 ≤ 16777216) :
 redraftref05_found.l0 (k + 1) row ctx0 l out s0 nx (st : Int) = redraftref05_found.l1 k row ctx0 l out s0 nx (st : Int) (s0 + s.f2 - s.f1) nx s.f0 s.f1 s.f2 := by
 obtain ⟨b1, b2, b3, b4, b5, b6⟩ := hb
 have e1 : rd_T154 row (st : Int) = s := by unfold rd_T154; rw [Int.toNat_natCast, hs]
 have w : wrap64 (wrap64 (s0 + s.f2) - s.f1) = s0 + s.f2 - s.f1 := by rw [wrap_id (n := s0 + s.f2) (by omega) (by omega), wrap_id (by omega) (by omega)]
 rw [redraftref05_found.l0, if_pos (by omega), if_pos (by omega), e1, w]
end
theorem hits_far (p n : Int) : ∀ {l : List S94} {x : Int}, Nrm x l → p + n ≤ x + 1 → hits p n l = false
 | [], _, _, _ => rfl
 | r :: t, x, h, hx => by
  have h1 := h.1
  have h2 := h.2.1
  have := hits_far p n (l := t) h.2.2.2 (by omega)
  unfold hits at this ⊢
  rw [List.any_cons, this, decide_eq_false (by omega)]
  rfl
theorem hits_cons (p n : Int) (r : S94) (t : List S94) : hits p n (r :: t) = (decide (p < r.f1 ∧ r.f0 < p + n) || hits p n t) := rfl
theorem wk_mv (p n : Int) (hn : 1 ≤ n) : ∀ {l : List S94} {x : Int}, Nrm x l → hits p n l = false → Wk (l.map (mv p n))
 | [], _, _, _ => trivial
 | [r], x, h, hh => by
  show (mv p n r).f0 < (mv p n r).f1
  have := h.2.1
  unfold mv; split
  · exact this
  · show r.f0 - n < r.f1 - n; omega
 | r :: s :: t, x, h, hh => by
  rw [hits_cons, Bool.or_eq_false_iff] at hh
  have ih := wk_mv p n hn (l := s :: t) h.2.2.2 hh.2
  have h2 := h.2.1
  have h3 := h.2.2.2.1
  have h4 := h.2.2.2.2.1
  have hs := hh.2
  rw [hits_cons, Bool.or_eq_false_iff] at hs
  have q1 := of_decide_eq_false hh.1
  have q2 := of_decide_eq_false hs.1
  refine ⟨?_, ?_, ih⟩
  · unfold mv; split
    · exact h2
    · show r.f0 - n < r.f1 - n; omega
  · unfold mv
    by_cases c1 : r.f1 ≤ p
    · rw [if_pos c1]
      by_cases c2 : s.f1 ≤ p
      · rw [if_pos c2]; omega
      · rw [if_neg c2]; show r.f1 ≤ s.f0 - n; omega
    · rw [if_neg c1, if_neg (by omega)]; show r.f1 - n ≤ s.f0 - n; omega
theorem getD_drop (l : List S94) (i : Nat) (h : i < l.length) : l.drop i = l.getD i z94 :: l.drop (i + 1) := by
 rw [List.drop_eq_getElem_cons h, List.getD_eq_getElem?_getD, List.getElem?_eq_getElem h]; rfl
section
variable (l : List S94) (p n : Int) (hp : 0 ≤ p ∧ p ≤ 1048576) (hn : 1 ≤ n ∧ n ≤ 1048576) (hL : l.length ≤ 32768) (R : List S94) (K : Nat)
include hp hn hL
theorem fd3 (row : List S154) (q : Nat) (hq : q + 1 = row.length) (hq2 : q ≤ 100) (hR : ∀ k, K ≤ k → redraftref02_Places.f k (l.map (mv p n)) = some R) :
 ∀ (d k i : Nat) (out : List S94) (x : Int), l.length = i + d → p + n ≤ x + 1 → Nrm x (l.drop i) → out ++ (l.drop i).map (mv p n) = l.map (mv p n) → out.length ≤ i + 1 → K + 2 * d + 10 ≤ k →
 redraftref05_found.l1 k row ctx0 l out (p + n) (i : Int) (q : Int) (2097152 + n) (i : Int) 0 p 2097152 = some (R, 0) := by
 intro d
 induction d with
 | zero =>
  intro k i out x h1 hx hN ho hol hk
  obtain ⟨k, rfl⟩ : ∃ m, k = m + 3 := ⟨k - 3, by omega⟩
  rw [List.drop_eq_nil_of_le (by omega)] at ho
  have ho' : out = l.map (mv p n) := by simpa using ho
  have hk' : K ≤ k := by omega
  have g1 : ¬ ((q + 1 : Nat) : Int) < (row.length : Int) := by omega
  have g2 : i < l.length → 2097152 + n ≤ (l.getD i z94).f0 := fun h => by omega
  have w : wrap64 ((q : Int) + 1) = ((q + 1 : Nat) : Int) := by clear ho hol hk hR; rw [wrap_id (by omega) (by omega)]; omega
  rw [show k + 3 = (k + 1) + 2 from rfl, fd_out row l (k + 1) i out _ _ _ _ _ _ _ g2, redraftref05_found.l0, w, if_neg g1, ho', hR k hk']
  rfl
 | succ d ih =>
  intro k i out x h1 hx hN ho hol hk
  obtain ⟨k, rfl⟩ : ∃ m, k = m + 4 := ⟨k - 4, by omega⟩
  have hi : i < l.length := by omega
  have hd := getD_drop l i hi
  obtain ⟨r, hr⟩ : ∃ r, r = l.getD i z94 := ⟨_, rfl⟩
  rw [← hr] at hd
  rw [hd] at hN ho
  obtain ⟨b1, b2, b3, b4⟩ := hN
  have hm : mv p n r = ⟨r.f0 + p - (p + n), r.f1 + p - (p + n)⟩ := by
   unfold mv
   rw [if_neg (by omega), show r.f0 + p - (p + n) = r.f0 - n by omega, show r.f1 + p - (p + n) = r.f1 - n by omega]
  have g0 : 0 ≤ p + n ∧ p + n ≤ r.f0 ∧ r.f0 < r.f1 ∧ r.f1 ≤ 1048576 ∧ r.f0 < 2097152 + n ∧ r.f1 ≤ 2097152 + n ∧ 0 ≤ p ∧ p ≤ p + n := by omega
  have g1 : l.length = (i + 1) + d := by omega
  have g2 : p + n ≤ r.f1 + 1 := by omega
  have g3 : (out ++ [(⟨r.f0 + p - (p + n), r.f1 + p - (p + n)⟩ : S94)]).length ≤ (i + 1) + 1 := by simp; omega
  have g4 : K + 2 * d + 10 ≤ k + 2 := by omega
  have g5 : l.length ≤ 1048576 := by omega
  have g6 : out.length ≤ 1048576 := by omega
  rw [fd_in row l k i out (p + n) (2097152 + n) p 2097152 q hi g5 r hr.symm _ g0 g6]
  exact ih (k + 2) (i + 1) _ r.f1 g1 g2 b4 (by rw [← ho, ← hm, List.map_cons]; simp) g3 g4
variable (hpn : p + n ≤ 1048576)
include hpn
theorem fd2 (row : List S154) (q : Nat) (hq : q + 2 = row.length) (hq2 : q ≤ 90) (hrow : row.getD (q + 1) z154 = ⟨0, p, 2097152⟩) (hR : hits p n l = false → ∀ k, K ≤ k → redraftref02_Places.f k (l.map (mv p n)) = some R)
 (k i : Nat) (out : List S94) (x : Int) (h1 : i ≤ l.length) (hx : -1 ≤ x) (hN : Nrm x (l.drop i)) (hpi : i < l.length → p < (l.getD i z94).f1) (hpre : hits p n (l.drop i) = false → hits p n l = false ∧ out ++ (l.drop i).map (mv p n) = l.map (mv p n)) (hol : out.length ≤ i + 1) (hk : K + 2 * l.length + 20 ≤ k) :
 redraftref05_found.l1 k row ctx0 l out p (i : Int) (q : Int) (p + n) (i : Int) 2 0 n = some (if hits p n (l.drop i) = true then ([], 23) else (R, 0)) := by
 obtain ⟨k, rfl⟩ : ∃ m, k = m + 4 := ⟨k - 4, by omega⟩
 by_cases c : i < l.length ∧ (l.getD i z94).f0 < p + n
 · obtain ⟨hi, c⟩ := c
   have hd := getD_drop l i hi
   have hN' := hN
   rw [hd] at hN'
   have b := hpi hi
   have b1 := hN'.1
   have b2 := hN'.2.1
   have b3 := hN'.2.2.1
   have hh : hits p n (l.drop i) = true := by rw [hd, hits_cons, decide_eq_true ⟨b, c⟩]; rfl
   rw [if_pos hh]
   exact fd_hit row l k i out p (p + n) n q hi (by omega) _ rfl _ (by omega)
 · have hfar : hits p n (l.drop i) = false := by
    by_cases hi : i < l.length
    · have hd := getD_drop l i hi
      have c' : p + n ≤ (l.getD i z94).f0 := by have := fun h => c ⟨hi, h⟩; omega
      rw [hd] at hN ⊢
      exact hits_far p n (x := (l.getD i z94).f0 - 1) ⟨by omega, hN.2⟩ (by omega)
    · rw [List.drop_eq_nil_of_le (by omega)]; rfl
   obtain ⟨hl, ho⟩ := hpre hfar
   have hN3 : ∃ x', p + n ≤ x' + 1 ∧ Nrm x' (l.drop i) := by
    by_cases hi : i < l.length
    · have hd := getD_drop l i hi
      have c' : p + n ≤ (l.getD i z94).f0 := by have := fun h => c ⟨hi, h⟩; omega
      rw [hd] at hN ⊢
      exact ⟨(l.getD i z94).f0 - 1, by omega, by show (l.getD i z94).f0 - 1 < (l.getD i z94).f0; omega, hN.2⟩
    · rw [List.drop_eq_nil_of_le (by omega)]; exact ⟨p + n, by omega, trivial⟩
   obtain ⟨x', hx', hN'⟩ := hN3
   have g1 : q + 1 < row.length := by omega
   have g2 : q + 1 + 1 = row.length := by omega
   have g3 : q + 1 ≤ 100 := by omega
   have g4 : l.length = i + (l.length - i) := by omega
   have g5 : K + 2 * (l.length - i) + 10 ≤ k + 1 := by omega
   have g6 : 0 ≤ p + n ∧ p + n ≤ 16777216 ∧ 0 ≤ p ∧ p ≤ 16777216 ∧ (0 : Int) ≤ 2097152 ∧ (2097152 : Int) ≤ 16777216 := by omega
   have g7 : i < l.length → p + n ≤ (l.getD i z94).f0 := fun h => by have := fun q => c ⟨h, q⟩; omega
   have e : p + n + 2097152 - p = 2097152 + n := by omega
   have e3 := fd3 l p n hp hn hL R K row (q + 1) g2 g3 (hR hl) (l.length - i) (k + 1) i out x' g4 hx' hN' ho hol g5
   have e0 := fd_next row l (k + 1) (q + 1) out (p + n) i g1 _ hrow g6
   simp only [e] at e0
   have w : wrap64 ((q : Int) + 1) = ((q + 1 : Nat) : Int) := by clear hol hk hR g5 g4; rw [wrap_id (by omega) (by omega)]; omega
   rw [if_neg (by rw [hfar]; simp), show k + 4 = (k + 2) + 2 from rfl, fd_out row l (k + 2) i out _ _ _ _ _ _ _ g7, w]
   exact e0.trans e3
theorem fd12 (row : List S154) (hrow : row = [⟨0, 0, p⟩, ⟨2, 0, n⟩, ⟨0, p, 2097152⟩]) (hR : hits p n l = false → ∀ k, K ≤ k → redraftref02_Places.f k (l.map (mv p n)) = some R)
 (k i : Nat) (out : List S94) (x : Int) (h1 : i ≤ l.length) (hx : -1 ≤ x) (hN : Nrm x (l.drop i)) (hpi : i < l.length → p < (l.getD i z94).f1) (hpre : hits p n (l.drop i) = false → hits p n l = false ∧ out ++ (l.drop i).map (mv p n) = l.map (mv p n)) (hol : out.length ≤ i + 1) (hk : K + 2 * l.length + 30 ≤ k) :
 redraftref05_found.l0 k row ctx0 l out p (i : Int) (wrap64 (0 + 1)) = some (if hits p n (l.drop i) = true then ([], 23) else (R, 0)) := by
 obtain ⟨k, rfl⟩ : ∃ m, k = m + 1 := ⟨k - 1, by omega⟩
 have hlen : row.length = 3 := by rw [hrow]; rfl
 have hg1 : row.getD 1 z154 = ⟨2, 0, n⟩ := by rw [hrow]; rfl
 have hg2 : row.getD (1 + 1) z154 = ⟨0, p, 2097152⟩ := by rw [hrow]; rfl
 have hk' : K + 2 * l.length + 20 ≤ k := by omega
 have hq : 1 + 2 = row.length := by omega
 have h1l : 1 < row.length := by omega
 have hb : 0 ≤ p ∧ p ≤ 16777216 ∧ (0 : Int) ≤ 0 ∧ (0 : Int) ≤ 16777216 ∧ 0 ≤ n ∧ n ≤ 16777216 := by omega
 have e2 := fd2 l p n hp hn hL R K hpn row 1 hq (by decide) hg2 hR k i out x h1 hx hN hpi hpre hol hk'
 have e0 := fd_next row l k 1 out p i h1l ⟨2, 0, n⟩ hg1 hb
 have e : p + n - 0 = p + n := by omega
 simp only [e] at e0
 have w : wrap64 ((0 : Int) + 1) = ((1 : Nat) : Int) := by rw [wrap_id (by omega) (by omega)]; rfl
 rw [w]
 exact e0.trans e2
theorem fd1 (row : List S154) (hrow : row = [⟨0, 0, p⟩, ⟨2, 0, n⟩, ⟨0, p, 2097152⟩]) (hR : hits p n l = false → ∀ k, K ≤ k → redraftref02_Places.f k (l.map (mv p n)) = some R) :
 ∀ (d k i : Nat) (out : List S94) (x : Int), l.length = i + d → -1 ≤ x → Nrm x (l.drop i) → (hits p n (l.drop i) = false → hits p n l = false) → out ++ (l.drop i).map (mv p n) = l.map (mv p n) → out.length ≤ i → K + 2 * l.length + 2 * d + 40 ≤ k →
 redraftref05_found.l1 k row ctx0 l out 0 (i : Int) 0 p (i : Int) 0 0 p = some (if hits p n (l.drop i) = true then ([], 23) else (R, 0)) := by
 have next := fd12 l p n hp hn hL R K hpn row hrow hR
 clear hrow hR
 intro d
 induction d with
 | zero =>
  intro k i out x h1 hx hN hpre ho hol hk
  obtain ⟨k, rfl⟩ : ∃ m, k = m + 2 := ⟨k - 2, by omega⟩
  rw [fd_out row l k i out _ _ _ _ _ _ _ (fun h => by omega)]
  exact next k i out x (by omega) hx hN (fun h => by omega) (fun h => ⟨hpre h, ho⟩) (by omega) (by omega)
 | succ d ih =>
  intro k i out x h1 hx hN hpre ho hol hk
  have hi : i < l.length := by omega
  have hd := getD_drop l i hi
  obtain ⟨r, hr⟩ : ∃ r, r = l.getD i z94 := ⟨_, rfl⟩
  rw [← hr] at hd
  have hN' := hN
  rw [hd] at hN'
  obtain ⟨b1, b2, b3, b4⟩ := hN'
  have g5 : l.length ≤ 1048576 := by omega
  have g6 : out.length ≤ 1048576 := by omega
  by_cases c1 : r.f0 < p
  · obtain ⟨k, rfl⟩ : ∃ m, k = m + 4 := ⟨k - 4, by omega⟩
    by_cases c2 : r.f1 ≤ p
    · have hm : mv p n r = ⟨r.f0 + 0 - 0, r.f1 + 0 - 0⟩ := by
       unfold mv
       rw [if_pos c2, show r.f0 + 0 - 0 = r.f0 by omega, show r.f1 + 0 - 0 = r.f1 by omega]
      have hh : hits p n (l.drop i) = hits p n (l.drop (i + 1)) := by
       rw [hd, hits_cons, decide_eq_false (by omega)]; rfl
      have g0 : 0 ≤ (0 : Int) ∧ 0 ≤ r.f0 ∧ r.f0 < r.f1 ∧ r.f1 ≤ 1048576 ∧ r.f0 < p ∧ r.f1 ≤ p ∧ 0 ≤ (0 : Int) ∧ (0 : Int) ≤ 0 := by omega
      have g1 : l.length = (i + 1) + d := by omega
      have g2 : -1 ≤ r.f1 := by omega
      have g3 : (out ++ [(⟨r.f0 + 0 - 0, r.f1 + 0 - 0⟩ : S94)]).length ≤ i + 1 := by simp; omega
      have g4 : K + 2 * l.length + 2 * d + 40 ≤ k + 2 := by omega
      rw [fd_in row l k i out 0 p 0 p 0 hi g5 r hr.symm _ g0 g6, hh]
      exact ih (k + 2) (i + 1) _ r.f1 g1 g2 b4 (by rw [← hh]; exact hpre) (by rw [← ho, ← hm, hd, List.map_cons]; simp) g3 g4
    · have g0 : 0 ≤ (0 : Int) ∧ 0 ≤ r.f0 ∧ r.f0 < r.f1 ∧ r.f1 ≤ 1048576 ∧ r.f0 < p ∧ p < r.f1 ∧ 0 ≤ (0 : Int) ∧ (0 : Int) ≤ 0 := by omega
      have hh : hits p n (l.drop i) = true := by rw [hd, hits_cons, decide_eq_true (by omega)]; rfl
      rw [fd_break row l k i out 0 p 0 p 0 hi g5 r hr.symm _ g0 g6]
      exact next (k + 2) i _ x (by omega) hx hN (fun _ => by rw [← hr]; omega) (fun h => by rw [hh] at h; simp at h) (by simp; omega) (by omega)
  · obtain ⟨k, rfl⟩ : ∃ m, k = m + 2 := ⟨k - 2, by omega⟩
    rw [fd_out row l k i out _ _ _ _ _ _ _ (fun h => by rw [← hr]; omega)]
    exact next k i out x (by omega) hx hN (fun _ => by rw [← hr]; omega) (fun h => ⟨hpre h, ho⟩) (by omega) (by omega)
end
theorem found_back (l : List S94) (p n : Int) (hl : (rngE l).2 = 0) (hp : 0 ≤ p ∧ p ≤ 1048576) (hn : 1 ≤ n ∧ n ≤ 1048576) (hpn : p + n ≤ 1048576) :
 ∃ k, redraftref05_found.f k (ctxWith 2 p n) ctx0 l = some (if hits p n l = true then ([], 23) else (bkS p n l, 0)) := by
 obtain ⟨hlen, hN⟩ := rng_ok hl
 have hpl : ∃ K, hits p n l = false → ∀ k, K ≤ k → redraftref02_Places.f k (l.map (mv p n)) = some (bkS p n l) := by
  cases hh : hits p n l with
  | true => exact ⟨0, fun h => by simp at h⟩
  | false =>
   obtain ⟨K, hK⟩ := places_is (l.map (mv p n)) (wk_mv p n hn.1 hN hh) (by simp; omega)
   exact ⟨K, fun _ => hK⟩
 obtain ⟨K, hK⟩ := hpl
 refine ⟨K + 4 * l.length + 60, ?_⟩
 unfold redraftref05_found.f
 rw [show K + 4 * l.length + 60 = (K + 4 * l.length + 59) + 1 from rfl]
 by_cases h0 : 0 < p
 · have hc : ctxWith 2 p n = [⟨0, 0, p⟩, ⟨2, 0, n⟩, ⟨0, p, 2097152⟩] := by unfold ctxWith; rw [if_pos h0]; rfl
   have e0 := fd_next (ctxWith 2 p n) l (K + 4 * l.length + 59) 0 [] 0 0 (by rw [hc]; simp) ⟨0, 0, p⟩ (by rw [hc]; rfl) (by simp; omega)
   have e1 := fd1 l p n hp hn hlen (bkS p n l) K hpn (ctxWith 2 p n) hc hK l.length (K + 4 * l.length + 59) 0 [] (-1) (by omega) (by omega) (by simpa using hN) (fun h => by simpa using h) (by simp) (by simp) (by omega)
   have e2 : (0 : Int) + p - 0 = p := by omega
   refine e0.trans ?_
   show redraftref05_found.l1 _ _ _ _ _ 0 0 ((0 : Nat) : Int) (0 + p - 0) 0 0 0 p = _
   rw [e2]
   refine e1.trans ?_
   rw [List.drop_zero]
 · have hp0 : p = 0 := by omega
   have hc : ctxWith 2 p n = [⟨2, 0, n⟩, ⟨0, p, 2097152⟩] := by unfold ctxWith; rw [if_neg (by omega)]; rfl
   have e0 := fd_next (ctxWith 2 p n) l (K + 4 * l.length + 59) 0 [] 0 0 (by rw [hc]; simp) ⟨2, 0, n⟩ (by rw [hc]; rfl) (by simp; omega)
   have e1 := fd2 l p n hp hn hlen (bkS p n l) K hpn (ctxWith 2 p n) 0 (by rw [hc]; rfl) (by omega) (by rw [hc]; rfl) hK (K + 4 * l.length + 59) 0 [] (-1) (by omega) (by omega) (by simpa using hN) (fun h => by
    have hd := getD_drop l 0 h
    rw [List.drop_zero] at hd
    rw [hd] at hN
    have := hN.1; have := hN.2.1; omega) (fun h => ⟨by simpa using h, by simp⟩) (by simp) (by omega)
   have e2 : (0 : Int) + n - 0 = p + n := by omega
   refine e0.trans ?_
   show redraftref05_found.l1 _ _ _ _ _ 0 0 ((0 : Nat) : Int) (0 + n - 0) 0 2 0 n = _
   rw [e2]
   rw [show redraftref05_found.l1 (K + 4 * l.length + 59) (ctxWith 2 p n) ctx0 l [] 0 0 ((0 : Nat) : Int) (p + n) 0 2 0 n = redraftref05_found.l1 (K + 4 * l.length + 59) (ctxWith 2 p n) ctx0 l [] p ((0 : Nat) : Int) ((0 : Nat) : Int) (p + n) ((0 : Nat) : Int) 2 0 n by rw [hp0]; rfl]
   refine e1.trans ?_
   rw [List.drop_zero]
end Go.Proofs.YtloccjkcmlkifaaDoor
end

section
/- The document's rows of stretches: a stretch put in, its place, whether it is whole: as plain lists. -/
namespace Go.Proofs.YtloccjkcmlkifaaDoor
open Go.RowKit Go.Proofs.YtloccjkcmlkifaaDoor.PAll Go.Proofs.YtloccjkcmlkifaaDoorW.PrintWords

def Bd (s : S154) : Prop := 0 ≤ s.f1 ∧ s.f1 ≤ s.f2 ∧ s.f2 ≤ 4194304
def wst (who x m : Int) (s : S154) (s0 : Int) : List S154 :=
 if s0 ≤ x ∧ x < s0 + (s.f2 - s.f1) then (if s0 < x then [⟨s.f0, s.f1, s.f1 + x - s0⟩] else []) ++ [⟨who, 0, m⟩, ⟨s.f0, s.f1 + x - s0, s.f2⟩] else [s]
def withL (who x m : Int) : List S154 → Int → List S154
 | [], _ => []
 | s :: t, s0 => wst who x m s s0 ++ withL who x m t (s0 + s.f2 - s.f1)
theorem wst_len (who x m : Int) (s : S154) (s0 : Int) : (wst who x m s s0).length ≤ 3 := by
 unfold wst
 split
 · split <;> simp
 · simp
theorem dropS (row : List S154) (i : Nat) (h : i < row.length) : row.drop i = row.getD i z154 :: row.drop (i + 1) := by
 rw [List.drop_eq_getElem_cons h, List.getD_eq_getElem?_getD, List.getElem?_eq_getElem h]; rfl
theorem with_loop (row : List S154) (who x m : Int) (hx : 0 ≤ x ∧ x ≤ 4194304) (hl : row.length ≤ 100) (hB : ∀ s ∈ row, Bd s) : ∀ (d k i : Nat) (out : List S154) (s0 : Int), row.length = i + d → 0 ≤ s0 → s0 ≤ 4194304 * i → out.length ≤ 3 * i → 2 * d + 1 ≤ k →
 redraftref05_with.l0 k row who x m out s0 (i : Int) = some (out ++ withL who x m (row.drop i) s0) := by
 intro d
 induction d with
 | zero =>
  intro k i out s0 h1 h2 h3 h4 hk
  obtain ⟨k, rfl⟩ : ∃ m, k = m + 1 := ⟨k - 1, by omega⟩
  rw [redraftref05_with.l0, if_neg (by omega), List.drop_eq_nil_of_le (by omega)]
  simp [withL]
 | succ d ih =>
  intro k i out s0 h1 h2 h3 h4 hk
  obtain ⟨k, rfl⟩ : ∃ m, k = m + 2 := ⟨k - 2, by omega⟩
  have hi : i < row.length := by omega
  have hd := dropS row i hi
  have hm : row.getD i z154 ∈ row := by rw [List.getD_eq_getElem?_getD, List.getElem?_eq_getElem hi]; exact List.getElem_mem hi
  obtain ⟨s, hs⟩ : ∃ s, s = row.getD i z154 := ⟨_, rfl⟩
  rw [← hs] at hd hm
  obtain ⟨b1, b2, b3⟩ := hB s hm
  have e1 : rd_T154 row (i : Int) = s := by unfold rd_T154; rw [Int.toNat_natCast, hs]
  have q1 : (i : Int) < (row.length : Int) := by omega
  have q2 : (0 : Int) ≤ (i : Int) := by omega
  have q3 : s0 ≤ 419430400 := by omega
  clear hB hm hs
  have g0 : row.length = (i + 1) + d := by omega
  have g1 : 0 ≤ s0 + (s.f2 - s.f1) := by omega
  have g2 : s0 + (s.f2 - s.f1) ≤ 4194304 * ((i + 1 : Nat) : Int) := by omega
  have g3 : 2 * d + 1 ≤ k := by omega
  have hw := wst_len who x m s s0
  have hfl : out.length + (wst who x m s s0).length ≤ 3 * (i + 1) := by omega
  have ho0 : out.length < 5864062014805 := by omega
  have ho1 : out.length + 1 < 5864062014805 := by omega
  have ho2 : out.length + 1 + 1 < 5864062014805 := by omega
  have e2 : s0 + s.f2 - s.f1 = s0 + (s.f2 - s.f1) := by omega
  obtain ⟨w1, w2, w3, w4⟩ : wrap64 (s.f2 - s.f1) = s.f2 - s.f1 ∧ wrap64 (s0 + (s.f2 - s.f1)) = s0 + (s.f2 - s.f1) ∧ wrap64 ((i : Int) + 1) = ((i + 1 : Nat) : Int) ∧ wrap64 (wrap64 (s.f1 + x) - s0) = s.f1 + x - s0 := by
   clear ih hk h4 hfl hw ho0 ho1 ho2 g0 g3
   refine ⟨wrap_id (by omega) (by omega), wrap_id (by omega) (by omega), by rw [wrap_id (by omega) (by omega)]; omega, by rw [wrap_id (n := s.f1 + x) (by omega) (by omega), wrap_id (by omega) (by omega)]⟩
  rw [hd, show withL who x m (s :: row.drop (i + 1)) s0 = wst who x m s s0 ++ withL who x m (row.drop (i + 1)) (s0 + s.f2 - s.f1) from rfl, e2, ← List.append_assoc]
  have fin : ∀ out', out' = out ++ wst who x m s s0 → redraftref05_with.l0 k row who x m out' (s0 + (s.f2 - s.f1)) ((i + 1 : Nat) : Int) = some (out ++ wst who x m s s0 ++ withL who x m (row.drop (i + 1)) (s0 + (s.f2 - s.f1))) := fun out' e => by
   rw [← e]
   exact ih k (i + 1) out' _ g0 g1 g2 (by rw [e, List.length_append]; exact hfl) g3
  rw [show k + 2 = (k + 1) + 1 from rfl, redraftref05_with.l0, if_pos q1, if_pos q2, e1, w1, w2]
  by_cases c : s0 ≤ x ∧ x < s0 + (s.f2 - s.f1)
  · rw [if_pos (show x ≥ s0 from c.1), decide_eq_true c.2, redraftref05_with.j1, if_pos rfl, w4, w2, w3]
    by_cases c2 : s0 < x
    · rw [if_pos (show x > s0 from c2), if_pos ho0]
      try simp only [Option.bind_some]
      rw [if_pos (by rw [List.length_append]; exact ho1)]
      try simp only [Option.bind_some]
      rw [if_pos (by rw [List.length_append, List.length_append]; exact ho2)]
      exact fin _ (by unfold wst; rw [if_pos c, if_pos c2]; simp)
    · rw [if_neg (show ¬ x > s0 from c2), if_pos ho0]
      try simp only [Option.bind_some]
      rw [if_pos (by rw [List.length_append]; exact ho1)]
      exact fin _ (by unfold wst; rw [if_pos c, if_neg c2]; simp)
  · have hj : redraftref05_with.j1 (k + 1) row who x m out s0 (i : Int) (s.f2 - s.f1) false s.f0 s.f1 s.f2 = some (out ++ wst who x m s s0 ++ withL who x m (row.drop (i + 1)) (s0 + (s.f2 - s.f1))) := by
     rw [redraftref05_with.j1, if_neg (by simp), if_pos ho0, w2, w3]
     exact fin _ (by unfold wst; rw [if_neg c])
    by_cases c1 : s0 ≤ x
    · rw [if_pos (show x ≥ s0 from c1), decide_eq_false (fun h => c ⟨c1, h⟩), hj]
    · rw [if_neg (show ¬ x ≥ s0 from c1), hj]
theorem with_is (row : List S154) (who x m : Int) (hx : 0 ≤ x ∧ x ≤ 4194304) (hl : row.length ≤ 100) (hB : ∀ s ∈ row, Bd s) : redraftref05_with.f (2 * row.length + 1) row who x m = some (withL who x m row 0) := by
 unfold redraftref05_with.f
 exact with_loop row who x m hx hl hB row.length _ 0 [] 0 (by omega) (by omega) (by omega) (by simp) (by omega)
def placeL (who k : Int) : List S154 → Int → Int
 | [], s0 => s0
 | s :: t, s0 => if s.f0 = who ∧ s.f1 ≤ k ∧ k < s.f2 then s0 + k - s.f1 else placeL who k t (s0 + s.f2 - s.f1)
theorem place_is (row : List S154) (who x : Int) (hx : 0 ≤ x ∧ x ≤ 4194304) (hl : row.length ≤ 100) (hB : ∀ s ∈ row, Bd s) : ∀ (d k i : Nat) (s0 : Int), row.length = i + d → 0 ≤ s0 → s0 ≤ 4194304 * i → d + 1 ≤ k →
 redraftref05_place.l0 k row who x s0 (i : Int) = some (placeL who x (row.drop i) s0) := by
 intro d
 induction d with
 | zero =>
  intro k i s0 h1 h2 h3 hk
  obtain ⟨k, rfl⟩ : ∃ m, k = m + 1 := ⟨k - 1, by omega⟩
  rw [redraftref05_place.l0, if_neg (by omega), List.drop_eq_nil_of_le (by omega)]
  rfl
 | succ d ih =>
  intro k i s0 h1 h2 h3 hk
  obtain ⟨k, rfl⟩ : ∃ m, k = m + 1 := ⟨k - 1, by omega⟩
  have hi : i < row.length := by omega
  have hd := dropS row i hi
  have hm : row.getD i z154 ∈ row := by rw [List.getD_eq_getElem?_getD, List.getElem?_eq_getElem hi]; exact List.getElem_mem hi
  obtain ⟨s, hs⟩ : ∃ s, s = row.getD i z154 := ⟨_, rfl⟩
  rw [← hs] at hd hm
  obtain ⟨b1, b2, b3⟩ := hB s hm
  have e1 : rd_T154 row (i : Int) = s := by unfold rd_T154; rw [Int.toNat_natCast, hs]
  have q3 : s0 ≤ 419430400 := by omega
  clear hB hm hs
  have hih := ih k (i + 1) (s0 + s.f2 - s.f1) (by omega) (by omega) (by omega) (by omega)
  have q1 : (i : Int) < (row.length : Int) := by omega
  have q2 : (0 : Int) ≤ (i : Int) := by omega
  obtain ⟨w1, w2, w3⟩ : wrap64 (wrap64 (s0 + s.f2) - s.f1) = s0 + s.f2 - s.f1 ∧ wrap64 (wrap64 (s0 + x) - s.f1) = s0 + x - s.f1 ∧ wrap64 ((i : Int) + 1) = ((i + 1 : Nat) : Int) := by
   clear ih hih hk
   refine ⟨by rw [wrap_id (n := s0 + s.f2) (by omega) (by omega), wrap_id (by omega) (by omega)], by rw [wrap_id (n := s0 + x) (by omega) (by omega), wrap_id (by omega) (by omega)], by rw [wrap_id (by omega) (by omega)]; omega⟩
  rw [redraftref05_place.l0, if_pos q1, if_pos q2, e1, w1, w2, w3, hih, hd]
  rw [show placeL who x (s :: row.drop (i + 1)) s0 = if s.f0 = who ∧ s.f1 ≤ x ∧ x < s.f2 then s0 + x - s.f1 else placeL who x (row.drop (i + 1)) (s0 + s.f2 - s.f1) from rfl]
  by_cases c1 : s.f0 = who
  · rw [if_pos c1]
    by_cases c2 : s.f1 ≤ x
    · rw [if_pos c2]
      by_cases c3 : x < s.f2
      · rw [if_pos c3, if_pos ⟨c1, c2, c3⟩]
      · rw [if_neg c3, if_neg (fun h => c3 h.2.2)]
    · rw [if_neg c2, if_neg (fun h => c2 h.2.1)]
  · rw [if_neg c1, if_neg (fun h => c1 h.1)]
theorem whole_is (row : List S154) (who : Int) (hl : row.length ≤ 100) : ∀ (d k i : Nat) (n : Nat), row.length = i + d → n ≤ i → d + 1 ≤ k →
 redraftref05_whole.l0 k row who (n : Int) (i : Int) = some (decide (n + (row.drop i).countP (fun s => decide (s.f0 = who)) = 1)) := by
 intro d
 induction d with
 | zero =>
  intro k i n h1 h2 hk
  obtain ⟨k, rfl⟩ : ∃ m, k = m + 1 := ⟨k - 1, by omega⟩
  rw [redraftref05_whole.l0, if_neg (by omega), List.drop_eq_nil_of_le (by omega)]
  by_cases c : n = 1
  · subst c; rfl
  · rw [show ((n : Int) == 1) = false from beq_eq_false_iff_ne.mpr (by omega), decide_eq_false (by simpa using c)]
 | succ d ih =>
  intro k i n h1 h2 hk
  obtain ⟨k, rfl⟩ : ∃ m, k = m + 1 := ⟨k - 1, by omega⟩
  have hi : i < row.length := by omega
  have hd := dropS row i hi
  obtain ⟨s, hs⟩ : ∃ s, s = row.getD i z154 := ⟨_, rfl⟩
  rw [← hs] at hd
  have e1 : rd_T154 row (i : Int) = s := by unfold rd_T154; rw [Int.toNat_natCast, hs]
  have q1 : (i : Int) < (row.length : Int) := by omega
  have q2 : (0 : Int) ≤ (i : Int) := by omega
  have i1 := ih k (i + 1) (n + 1) (by omega) (by omega) (by omega)
  have i2 := ih k (i + 1) n (by omega) (by omega) (by omega)
  obtain ⟨w3, w4⟩ : wrap64 ((i : Int) + 1) = ((i + 1 : Nat) : Int) ∧ wrap64 ((n : Int) + 1) = ((n + 1 : Nat) : Int) := by
   clear ih hk i1 i2
   exact ⟨by rw [wrap_id (by omega) (by omega)]; omega, by rw [wrap_id (by omega) (by omega)]; omega⟩
  rw [redraftref05_whole.l0, if_pos q1, if_pos q2, e1, w3, w4, hd, List.countP_cons]
  clear w3 w4
  by_cases c1 : s.f0 = who
  · rw [if_pos c1, i1, decide_eq_true c1, if_pos rfl]
    congr 2
    simp only [eq_iff_iff]
    omega
  · rw [if_neg c1, i2, decide_eq_false c1, if_neg (by simp)]
    rfl
end Go.Proofs.YtloccjkcmlkifaaDoor
end
