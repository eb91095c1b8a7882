/- XformTransposes_card, part 42. -/
import Derived.Test.YtloccjkcmlkifaaDoorQTr41
import Derived.Test.YtloccjkcmlkifaaDoorQTr40
import Derived.Test.YtloccjkcmlkifaaDoorQTr37
import Derived.Test.YtloccjkcmlkifaaDoorQTr35

section
/- The document's transpose answers as the program's. -/
namespace Go.Proofs.YtloccjkcmlkifaaDoor
open Go.RowKit Go.Proofs.YtloccjkcmlkifaaDoor.PAll Go.Proofs.YtloccjkcmlkifaaDoorW.PrintWords Go.Proofs.YtloccjkcmlkifaaDoorW.PrintLast

theorem exc_stands {a b : S41} (ka : a.f0.f1 = 1) (kb : b.f0.f1 = 1) (h : (excE b a).2 = 0) : b.f1 ≤ a.f1 ∨ a.f1 + wid a ≤ b.f1 := by
 unfold excE at h
 by_cases c : clashB b a = true
 · rw [if_pos c] at h; exact absurd h (by decide)
 rw [if_neg c, if_neg (by omega), if_neg (show ¬ a.f0.f1 ≠ 1 from fun q => q ka), if_pos kb] at h
 by_cases c1 : b.f1 ≤ a.f1
 · exact .inl c1
 · rw [if_neg c1] at h
   by_cases c2 : a.f1 + wid a ≤ b.f1
   · exact .inr c2
   · rw [if_neg c2] at h; exact absurd h (by decide)
attribute [local go_sem high] eqA35 idx35_0 idx35_1
set_option maxRecDepth 100000 in
set_option maxHeartbeats 8000000 in
theorem trE_ref (a b : S41) (va vb : Value) (w : World) (ha : OpC w va a) (hb : OpC w vb b) (ga : Good a) (gb : Good b) :
 Calls Tryd.prog 98 #[.agg (opA a va), .agg (opA b vb)] w (RetOp2 w (trE a b)) := by
 obtain ⟨A, c, rfl, h1, h2⟩ := ha
 obtain ⟨B, d, rfl, h3, h4⟩ := hb
 have S := Aside0.mk (St.init w (F := fun _ => True) (fun _ _ => trivial))
 have HA := Aside0.mk (opC_mk h1 h2); have HB := Aside0.mk (opC_mk h3 h4)
 have HF := Aside0.mk (show fineOp a ∧ fineOp b ∧ ownE a = 0 ∧ ownE b = 0 from ⟨ga.fine, gb.fine, ga.own, gb.own⟩)
 have HGA := Aside0.mk ga; have HGB := Aside0.mk gb
 have hsta := (own_ok ga.own).2.2.2.2.2.2
 obtain ⟨tg, htg⟩ : ∃ tg, decide (a.f4.f0 = b.f0.f0.f0 ∧ a.f4.f1 = b.f0.f0.f1 ∧ (a.f4.f0 ≠ 0 ∨ a.f4.f1 ≠ 0)) = tg := ⟨_, rfl⟩
 have HTG := Aside0.mk htg
 obtain ⟨on1, hon⟩ : ∃ on1, decide (a.f4.f0 = b.f4.f0 ∧ a.f4.f1 = b.f4.f1 ∧ (a.f4.f0 ≠ 0 ∨ a.f4.f1 ≠ 0)) = on1 := ⟨_, rfl⟩
 have HON := Aside0.mk hon
 have hkind := ga.kind
 clear h1 h2 h3 h4
 unfold trE
 by_cases h0 : (excE b a).2 = 0
 case neg =>
  rw [if_pos h0]
  have h0' : ((excE b a).2 != 0) = true := bne_iff_ne.mpr h0
  clear h0 hsta htg hon hkind ga gb
  go_enter Tryd.func98, Tryd.ntmps98
  go_wp2_with (first | ((with_reducible refine gate_box rfl ?_); refine ev_box S ?_; clear S; intro _ _ S) | ((with_reducible refine gate_new rfl ?_); refine ev_new S 41 zA ?_; clear S; intro _ _ S) | ((with_reducible refine gate_load rfl ?_); first | refine ev_load S ?_ | refine ev_fld S ?_) | ((with_reducible refine gate_st rfl ?_); refine ev_store S ?_; clear S; intro _ S) | (go_at_call 97; (with_reducible refine (excE_ref b a _ _ _ (HB.out.below S.out.below) (HA.out.below S.out.below) HGB.out HGA.out).mono ?_); rintro e w7 ⟨v, rfl, hR, hb⟩; obtain ⟨Ao, co, rfl⟩ := hR.slice; replace S := Aside0.mk (S.out.addOp hb hR); clear hb hR))
  exact bodyPost_ret (results_cct rfl _ _ _ _ 41 41 zA zA (0, 0) (0, 0) _ _ rfl (S.out.at_ 2 rfl) Tryd.underlying41 rfl (by kernel_rfl) rfl (S.out.at_ 1 rfl) Tryd.underlying41 rfl (by kernel_rfl)) rfl ⟨.slice none 0 0, .slice none 0 0, rfl, opR_nil _ _, opR_nil _ _, S.out.below⟩
 rw [if_neg (fun h => h h0)]
 have h0' : ((excE b a).2 != 0) = false := bne_eq_false_iff_eq.mpr h0
 by_cases k4 : a.f0.f1 = 4
 · have k4' : (a.f0.f1 == 4) = true := beq_iff_eq.mpr k4
   have hs := hsta k4
   have hnz : a.f4.f0 ≠ 0 := by
    intro hz
    unfold staE isID at hs
    rw [if_neg (by rintro ⟨q, _⟩; have := of_decide_eq_true q; omega)] at hs
    exact absurd hs (by decide)
   have hat : aimB a b = tg := by
    rw [← htg]
    unfold aimB
    by_cases p1 : a.f4.f0 = b.f0.f0.f0 <;> by_cases p2 : a.f4.f1 = b.f0.f0.f1 <;> simp [p1, p2]
    rw [← p1]; exact .inl hnz
   have hst : sameAim a b = on1 := by
    rw [← hon]
    unfold sameAim
    by_cases p1 : a.f4.f0 = b.f4.f0 <;> by_cases p2 : a.f4.f1 = b.f4.f1 <;> simp [p1, p2]
    rw [← p1]; exact .inl hnz
   have htr : trClash a b = ((b.f0.f1 == 4 && on1 && !(a.f5 == b.f5)) || tg) := by
    unfold trClash; rw [k4', hst, hat, Bool.true_and]; rfl
   rw [htr, if_neg (show ¬ (b.f0.f1 = 1 ∧ a.f0.f1 = 1 ∧ b.f1 ≤ a.f1) by omega), if_neg (show ¬ (b.f0.f1 = 1 ∧ (a.f0.f1 = 2 ∨ a.f0.f1 = 3)) by omega)]
   clear hsta htg hon hs hnz hat hst htr hkind ga gb h0 k4
   obtain ⟨x2, hx2⟩ : ∃ x2, (b.f0.f1 == 4) = x2 := ⟨_, rfl⟩
   obtain ⟨x4, hx4⟩ : ∃ x4, (a.f5 == b.f5) = x4 := ⟨_, rfl⟩
   obtain ⟨x6, hx6⟩ : ∃ x6, (b.f0.f1 != 1) = x6 := ⟨_, rfl⟩
   rw [hx2, hx4]
   have hz6 : x2 = true → x6 = true := fun h => by rw [← hx6]; rw [h] at hx2; rw [beq_iff_eq.mp hx2]; rfl
   cases x2 with
   | false =>
    rw [Bool.false_and, Bool.false_and, Bool.false_or]
    clear hz6
    cases tg with
    | true =>
     rw [if_pos rfl]
     go_enter Tryd.func98, Tryd.ntmps98
     go_wp2_with (first | ((with_reducible refine gate_box rfl ?_); refine ev_box S ?_; clear S; intro _ _ S) | ((with_reducible refine gate_new rfl ?_); refine ev_new S 41 zA ?_; clear S; intro _ _ S) | ((with_reducible refine gate_load rfl ?_); first | refine ev_load S ?_ | refine ev_fld S ?_) | ((with_reducible refine gate_st rfl ?_); refine ev_store S ?_; clear S; intro _ S) | (go_at_call 97; (with_reducible refine (excE_ref b a _ _ _ (HB.out.below S.out.below) (HA.out.below S.out.below) HGB.out HGA.out).mono ?_); rintro e w7 ⟨v, rfl, hR, hb⟩; obtain ⟨Ao, co, rfl⟩ := hR.slice; replace S := Aside0.mk (S.out.addOp hb hR); clear hb hR) | (go_at_call 108; (with_reducible refine (is_any a.f4.f0 a.f4.f1 b.f4.f0 b.f4.f1 _ _ HON.out).mono ?_); rintro e w7 ⟨rfl, hb⟩; replace S := Aside0.mk (S.out.step hb); clear hb) | (go_at_call 108; (with_reducible refine (is_any a.f4.f0 a.f4.f1 b.f0.f0.f0 b.f0.f0.f1 _ _ HTG.out).mono ?_); rintro e w7 ⟨rfl, hb⟩; replace S := Aside0.mk (S.out.step hb); clear hb))
     exact bodyPost_ret (results_cct rfl _ _ _ _ 41 41 zA zA (0, 0) (0, 0) _ _ rfl (S.out.at_ 2 rfl) Tryd.underlying41 rfl (by kernel_rfl) rfl (S.out.at_ 1 rfl) Tryd.underlying41 rfl (by kernel_rfl)) rfl ⟨.slice none 0 0, .slice none 0 0, rfl, opR_nil _ _, opR_nil _ _, S.out.below⟩
    | false =>
     rw [if_neg (by simp)]
     cases x6
     all_goals
      go_enter Tryd.func98, Tryd.ntmps98
      go_wp2_with (first | ((with_reducible refine gate_box rfl ?_); refine ev_box S ?_; clear S; intro _ _ S) | ((with_reducible refine gate_new rfl ?_); refine ev_new S 41 zA ?_; clear S; intro _ _ S) | ((with_reducible refine gate_load rfl ?_); first | refine ev_load S ?_ | refine ev_fld S ?_) | ((with_reducible refine gate_st rfl ?_); refine ev_store S ?_; clear S; intro _ S) | (go_at_call 97; (with_reducible refine (excE_ref b a _ _ _ (HB.out.below S.out.below) (HA.out.below S.out.below) HGB.out HGA.out).mono ?_); rintro e w7 ⟨v, rfl, hR, hb⟩; obtain ⟨Ao, co, rfl⟩ := hR.slice; replace S := Aside0.mk (S.out.addOp hb hR); clear hb hR) | (go_at_call 108; (with_reducible refine (is_any a.f4.f0 a.f4.f1 b.f4.f0 b.f4.f1 _ _ HON.out).mono ?_); rintro e w7 ⟨rfl, hb⟩; replace S := Aside0.mk (S.out.step hb); clear hb) | (go_at_call 108; (with_reducible refine (is_any a.f4.f0 a.f4.f1 b.f0.f0.f0 b.f0.f0.f1 _ _ HTG.out).mono ?_); rintro e w7 ⟨rfl, hb⟩; replace S := Aside0.mk (S.out.step hb); clear hb))
      (refine rg_start (n := 6) (fun W => St w W _ _) [3, 4] S.out (fun _ h => h.drew) ?_; clear S; intro _ S; refine ld_ 0 0 S ?_; refine ld_ 1 4 S ?_; refine cl_ 2 #[.agg (opA a (.slice A a.f3.length c))] ?_ Tryd.func22; refine (rcopy_any a _ _ (HA.out.below S.below) HF.out.1).mono ?_; rintro e w7 ⟨v, rfl, hR, hb⟩; obtain ⟨Ap, cp, rfl⟩ := hR.slice; refine ⟨_, rfl, S.step hb, fun _ => ?_⟩; have S' := S.addOp hb hR; clear S hb hR; have S := S'; clear S'; refine nr_ ?_; refine so_ 3 2 S ?_; clear S; intro _ S; refine so_ 4 1 S ?_; clear S; intro _ S; refine pu_ 5 ?_; refine done_ (by kernel_rfl) ?_; have S := Aside0.mk S)
      go_wp2
      exact bodyPost_ret (results_cct rfl _ _ _ _ 41 41 _ _ (0, 0) (0, 0) _ _ rfl (S.out.at_ 2 rfl) Tryd.underlying41 rfl (by kernel_rfl) rfl (S.out.at_ 1 rfl) Tryd.underlying41 rfl (by kernel_rfl)) rfl ⟨_, _, rfl, S.out.now.1.2, S.out.now.2, S.out.below⟩
   | true =>
    obtain rfl := hz6 rfl
    clear hz6
    rw [Bool.true_and]
    have hq : (on1 && !x4) = true ∨ (on1 && !x4) = false ∧ tg = true ∨ (on1 && !x4) = false ∧ tg = false := by cases on1 <;> cases x4 <;> cases tg <;> simp
    rcases hq with h | ⟨h, rfl⟩ | ⟨h, rfl⟩
    · rw [h, Bool.true_or, if_pos rfl]
      cases on1 <;> cases x4 <;> first | (exfalso; revert h; decide) | skip
      clear h
      go_enter Tryd.func98, Tryd.ntmps98
      go_wp2_with (first | ((with_reducible refine gate_box rfl ?_); refine ev_box S ?_; clear S; intro _ _ S) | ((with_reducible refine gate_new rfl ?_); refine ev_new S 41 zA ?_; clear S; intro _ _ S) | ((with_reducible refine gate_load rfl ?_); first | refine ev_load S ?_ | refine ev_fld S ?_) | ((with_reducible refine gate_st rfl ?_); refine ev_store S ?_; clear S; intro _ S) | (go_at_call 97; (with_reducible refine (excE_ref b a _ _ _ (HB.out.below S.out.below) (HA.out.below S.out.below) HGB.out HGA.out).mono ?_); rintro e w7 ⟨v, rfl, hR, hb⟩; obtain ⟨Ao, co, rfl⟩ := hR.slice; replace S := Aside0.mk (S.out.addOp hb hR); clear hb hR) | (go_at_call 108; (with_reducible refine (is_any a.f4.f0 a.f4.f1 b.f4.f0 b.f4.f1 _ _ HON.out).mono ?_); rintro e w7 ⟨rfl, hb⟩; replace S := Aside0.mk (S.out.step hb); clear hb))
      exact bodyPost_ret (results_cct rfl _ _ _ _ 41 41 zA zA (0, 0) (0, 0) _ _ rfl (S.out.at_ 2 rfl) Tryd.underlying41 rfl (by kernel_rfl) rfl (S.out.at_ 1 rfl) Tryd.underlying41 rfl (by kernel_rfl)) rfl ⟨.slice none 0 0, .slice none 0 0, rfl, opR_nil _ _, opR_nil _ _, S.out.below⟩
    · rw [h, if_pos (by rfl)]
      cases on1 with
      | false =>
       clear h
       go_enter Tryd.func98, Tryd.ntmps98
       go_wp2_with (first | ((with_reducible refine gate_box rfl ?_); refine ev_box S ?_; clear S; intro _ _ S) | ((with_reducible refine gate_new rfl ?_); refine ev_new S 41 zA ?_; clear S; intro _ _ S) | ((with_reducible refine gate_load rfl ?_); first | refine ev_load S ?_ | refine ev_fld S ?_) | ((with_reducible refine gate_st rfl ?_); refine ev_store S ?_; clear S; intro _ S) | (go_at_call 97; (with_reducible refine (excE_ref b a _ _ _ (HB.out.below S.out.below) (HA.out.below S.out.below) HGB.out HGA.out).mono ?_); rintro e w7 ⟨v, rfl, hR, hb⟩; obtain ⟨Ao, co, rfl⟩ := hR.slice; replace S := Aside0.mk (S.out.addOp hb hR); clear hb hR) | (go_at_call 108; (with_reducible refine (is_any a.f4.f0 a.f4.f1 b.f4.f0 b.f4.f1 _ _ HON.out).mono ?_); rintro e w7 ⟨rfl, hb⟩; replace S := Aside0.mk (S.out.step hb); clear hb) | (go_at_call 108; (with_reducible refine (is_any a.f4.f0 a.f4.f1 b.f0.f0.f0 b.f0.f0.f1 _ _ HTG.out).mono ?_); rintro e w7 ⟨rfl, hb⟩; replace S := Aside0.mk (S.out.step hb); clear hb))
       exact bodyPost_ret (results_cct rfl _ _ _ _ 41 41 zA zA (0, 0) (0, 0) _ _ rfl (S.out.at_ 2 rfl) Tryd.underlying41 rfl (by kernel_rfl) rfl (S.out.at_ 1 rfl) Tryd.underlying41 rfl (by kernel_rfl)) rfl ⟨.slice none 0 0, .slice none 0 0, rfl, opR_nil _ _, opR_nil _ _, S.out.below⟩
      | true =>
       cases x4
       · exfalso; revert h; decide
       clear h
       go_enter Tryd.func98, Tryd.ntmps98
       go_wp2_with (first | ((with_reducible refine gate_box rfl ?_); refine ev_box S ?_; clear S; intro _ _ S) | ((with_reducible refine gate_new rfl ?_); refine ev_new S 41 zA ?_; clear S; intro _ _ S) | ((with_reducible refine gate_load rfl ?_); first | refine ev_load S ?_ | refine ev_fld S ?_) | ((with_reducible refine gate_st rfl ?_); refine ev_store S ?_; clear S; intro _ S) | (go_at_call 97; (with_reducible refine (excE_ref b a _ _ _ (HB.out.below S.out.below) (HA.out.below S.out.below) HGB.out HGA.out).mono ?_); rintro e w7 ⟨v, rfl, hR, hb⟩; obtain ⟨Ao, co, rfl⟩ := hR.slice; replace S := Aside0.mk (S.out.addOp hb hR); clear hb hR) | (go_at_call 108; (with_reducible refine (is_any a.f4.f0 a.f4.f1 b.f4.f0 b.f4.f1 _ _ HON.out).mono ?_); rintro e w7 ⟨rfl, hb⟩; replace S := Aside0.mk (S.out.step hb); clear hb) | (go_at_call 108; (with_reducible refine (is_any a.f4.f0 a.f4.f1 b.f0.f0.f0 b.f0.f0.f1 _ _ HTG.out).mono ?_); rintro e w7 ⟨rfl, hb⟩; replace S := Aside0.mk (S.out.step hb); clear hb))
       exact bodyPost_ret (results_cct rfl _ _ _ _ 41 41 zA zA (0, 0) (0, 0) _ _ rfl (S.out.at_ 2 rfl) Tryd.underlying41 rfl (by kernel_rfl) rfl (S.out.at_ 1 rfl) Tryd.underlying41 rfl (by kernel_rfl)) rfl ⟨.slice none 0 0, .slice none 0 0, rfl, opR_nil _ _, opR_nil _ _, S.out.below⟩
    · rw [h, if_neg (by simp)]
      cases on1 with
      | false =>
       clear h
       go_enter Tryd.func98, Tryd.ntmps98
       go_wp2_with (first | ((with_reducible refine gate_box rfl ?_); refine ev_box S ?_; clear S; intro _ _ S) | ((with_reducible refine gate_new rfl ?_); refine ev_new S 41 zA ?_; clear S; intro _ _ S) | ((with_reducible refine gate_load rfl ?_); first | refine ev_load S ?_ | refine ev_fld S ?_) | ((with_reducible refine gate_st rfl ?_); refine ev_store S ?_; clear S; intro _ S) | (go_at_call 97; (with_reducible refine (excE_ref b a _ _ _ (HB.out.below S.out.below) (HA.out.below S.out.below) HGB.out HGA.out).mono ?_); rintro e w7 ⟨v, rfl, hR, hb⟩; obtain ⟨Ao, co, rfl⟩ := hR.slice; replace S := Aside0.mk (S.out.addOp hb hR); clear hb hR) | (go_at_call 108; (with_reducible refine (is_any a.f4.f0 a.f4.f1 b.f4.f0 b.f4.f1 _ _ HON.out).mono ?_); rintro e w7 ⟨rfl, hb⟩; replace S := Aside0.mk (S.out.step hb); clear hb) | (go_at_call 108; (with_reducible refine (is_any a.f4.f0 a.f4.f1 b.f0.f0.f0 b.f0.f0.f1 _ _ HTG.out).mono ?_); rintro e w7 ⟨rfl, hb⟩; replace S := Aside0.mk (S.out.step hb); clear hb))
       (refine rg_start (n := 6) (fun W => St w W _ _) [3, 4] S.out (fun _ h => h.drew) ?_; clear S; intro _ S; refine ld_ 0 0 S ?_; refine ld_ 1 4 S ?_; refine cl_ 2 #[.agg (opA a (.slice A a.f3.length c))] ?_ Tryd.func22; refine (rcopy_any a _ _ (HA.out.below S.below) HF.out.1).mono ?_; rintro e w7 ⟨v, rfl, hR, hb⟩; obtain ⟨Ap, cp, rfl⟩ := hR.slice; refine ⟨_, rfl, S.step hb, fun _ => ?_⟩; have S' := S.addOp hb hR; clear S hb hR; have S := S'; clear S'; refine nr_ ?_; refine so_ 3 2 S ?_; clear S; intro _ S; refine so_ 4 1 S ?_; clear S; intro _ S; refine pu_ 5 ?_; refine done_ (by kernel_rfl) ?_; have S := Aside0.mk S)
       go_wp2
       exact bodyPost_ret (results_cct rfl _ _ _ _ 41 41 _ _ (0, 0) (0, 0) _ _ rfl (S.out.at_ 2 rfl) Tryd.underlying41 rfl (by kernel_rfl) rfl (S.out.at_ 1 rfl) Tryd.underlying41 rfl (by kernel_rfl)) rfl ⟨_, _, rfl, S.out.now.1.2, S.out.now.2, S.out.below⟩
      | true =>
       cases x4
       · exfalso; revert h; decide
       clear h
       go_enter Tryd.func98, Tryd.ntmps98
       go_wp2_with (first | ((with_reducible refine gate_box rfl ?_); refine ev_box S ?_; clear S; intro _ _ S) | ((with_reducible refine gate_new rfl ?_); refine ev_new S 41 zA ?_; clear S; intro _ _ S) | ((with_reducible refine gate_load rfl ?_); first | refine ev_load S ?_ | refine ev_fld S ?_) | ((with_reducible refine gate_st rfl ?_); refine ev_store S ?_; clear S; intro _ S) | (go_at_call 97; (with_reducible refine (excE_ref b a _ _ _ (HB.out.below S.out.below) (HA.out.below S.out.below) HGB.out HGA.out).mono ?_); rintro e w7 ⟨v, rfl, hR, hb⟩; obtain ⟨Ao, co, rfl⟩ := hR.slice; replace S := Aside0.mk (S.out.addOp hb hR); clear hb hR) | (go_at_call 108; (with_reducible refine (is_any a.f4.f0 a.f4.f1 b.f4.f0 b.f4.f1 _ _ HON.out).mono ?_); rintro e w7 ⟨rfl, hb⟩; replace S := Aside0.mk (S.out.step hb); clear hb) | (go_at_call 108; (with_reducible refine (is_any a.f4.f0 a.f4.f1 b.f0.f0.f0 b.f0.f0.f1 _ _ HTG.out).mono ?_); rintro e w7 ⟨rfl, hb⟩; replace S := Aside0.mk (S.out.step hb); clear hb))
       (refine rg_start (n := 6) (fun W => St w W _ _) [3, 4] S.out (fun _ h => h.drew) ?_; clear S; intro _ S; refine ld_ 0 0 S ?_; refine ld_ 1 4 S ?_; refine cl_ 2 #[.agg (opA a (.slice A a.f3.length c))] ?_ Tryd.func22; refine (rcopy_any a _ _ (HA.out.below S.below) HF.out.1).mono ?_; rintro e w7 ⟨v, rfl, hR, hb⟩; obtain ⟨Ap, cp, rfl⟩ := hR.slice; refine ⟨_, rfl, S.step hb, fun _ => ?_⟩; have S' := S.addOp hb hR; clear S hb hR; have S := S'; clear S'; refine nr_ ?_; refine so_ 3 2 S ?_; clear S; intro _ S; refine so_ 4 1 S ?_; clear S; intro _ S; refine pu_ 5 ?_; refine done_ (by kernel_rfl) ?_; have S := Aside0.mk S)
       go_wp2
       exact bodyPost_ret (results_cct rfl _ _ _ _ 41 41 _ _ (0, 0) (0, 0) _ _ rfl (S.out.at_ 2 rfl) Tryd.underlying41 rfl (by kernel_rfl) rfl (S.out.at_ 1 rfl) Tryd.underlying41 rfl (by kernel_rfl)) rfl ⟨_, _, rfl, S.out.now.1.2, S.out.now.2, S.out.below⟩
 have k4' : (a.f0.f1 == 4) = false := beq_eq_false_iff_ne.mpr k4
 rw [if_neg (show ¬ trClash a b = true by unfold trClash; rw [k4']; simp)]
 clear hsta htg hon
 by_cases kb : b.f0.f1 = 1
 case neg =>
  rw [if_neg (fun h => kb h.1), if_neg (fun h => kb h.1)]
  have kb' : (b.f0.f1 != 1) = true := bne_iff_ne.mpr kb
  clear kb hkind h0 ga gb k4
  go_enter Tryd.func98, Tryd.ntmps98
  go_wp2_with (first | ((with_reducible refine gate_box rfl ?_); refine ev_box S ?_; clear S; intro _ _ S) | ((with_reducible refine gate_new rfl ?_); refine ev_new S 41 zA ?_; clear S; intro _ _ S) | ((with_reducible refine gate_load rfl ?_); first | refine ev_load S ?_ | refine ev_fld S ?_) | ((with_reducible refine gate_st rfl ?_); refine ev_store S ?_; clear S; intro _ S) | (go_at_call 97; (with_reducible refine (excE_ref b a _ _ _ (HB.out.below S.out.below) (HA.out.below S.out.below) HGB.out HGA.out).mono ?_); rintro e w7 ⟨v, rfl, hR, hb⟩; obtain ⟨Ao, co, rfl⟩ := hR.slice; replace S := Aside0.mk (S.out.addOp hb hR); clear hb hR) | (go_at_call 108; (with_reducible refine (is_any a.f4.f0 a.f4.f1 b.f4.f0 b.f4.f1 _ _ HON.out).mono ?_); rintro e w7 ⟨rfl, hb⟩; replace S := Aside0.mk (S.out.step hb); clear hb) | (go_at_call 108; (with_reducible refine (is_any a.f4.f0 a.f4.f1 b.f0.f0.f0 b.f0.f0.f1 _ _ HTG.out).mono ?_); rintro e w7 ⟨rfl, hb⟩; replace S := Aside0.mk (S.out.step hb); clear hb))
  (refine rg_start (n := 6) (fun W => St w W _ _) [3, 4] S.out (fun _ h => h.drew) ?_; clear S; intro _ S; refine ld_ 0 0 S ?_; refine ld_ 1 4 S ?_; refine cl_ 2 #[.agg (opA a (.slice A a.f3.length c))] ?_ Tryd.func22; refine (rcopy_any a _ _ (HA.out.below S.below) HF.out.1).mono ?_; rintro e w7 ⟨v, rfl, hR, hb⟩; obtain ⟨Ap, cp, rfl⟩ := hR.slice; refine ⟨_, rfl, S.step hb, fun _ => ?_⟩; have S' := S.addOp hb hR; clear S hb hR; have S := S'; clear S'; refine nr_ ?_; refine so_ 3 2 S ?_; clear S; intro _ S; refine so_ 4 1 S ?_; clear S; intro _ S; refine pu_ 5 ?_; refine done_ (by kernel_rfl) ?_; have S := Aside0.mk S)
  go_wp2
  exact bodyPost_ret (results_cct rfl _ _ _ _ 41 41 _ _ (0, 0) (0, 0) _ _ rfl (S.out.at_ 2 rfl) Tryd.underlying41 rfl (by kernel_rfl) rfl (S.out.at_ 1 rfl) Tryd.underlying41 rfl (by kernel_rfl)) rfl ⟨_, _, rfl, S.out.now.1.2, S.out.now.2, S.out.below⟩
 have kb' : (b.f0.f1 != 1) = false := bne_eq_false_iff_eq.mpr kb
 by_cases k1 : a.f0.f1 = 1
 case neg =>
  rw [if_neg (fun h => k1 h.2.1), if_pos ⟨kb, by omega⟩]
  have k1' : (a.f0.f1 != 1) = true := bne_iff_ne.mpr k1
  clear kb hkind h0 ga gb k4 k1
  by_cases hi : (incE a b false).2 = 0
  · rw [if_neg (fun h => h hi)]
    have hi' : ((incE a b false).2 != 0) = false := bne_eq_false_iff_eq.mpr hi
    clear hi
    go_enter Tryd.func98, Tryd.ntmps98
    go_wp2_with (first | ((with_reducible refine gate_box rfl ?_); refine ev_box S ?_; clear S; intro _ _ S) | ((with_reducible refine gate_new rfl ?_); refine ev_new S 41 zA ?_; clear S; intro _ _ S) | ((with_reducible refine gate_load rfl ?_); first | refine ev_load S ?_ | refine ev_fld S ?_) | ((with_reducible refine gate_st rfl ?_); refine ev_store S ?_; clear S; intro _ S) | (go_at_call 97; (with_reducible refine (excE_ref b a _ _ _ (HB.out.below S.out.below) (HA.out.below S.out.below) HGB.out HGA.out).mono ?_); rintro e w7 ⟨v, rfl, hR, hb⟩; obtain ⟨Ao, co, rfl⟩ := hR.slice; replace S := Aside0.mk (S.out.addOp hb hR); clear hb hR) | (go_at_call 108; (with_reducible refine (is_any a.f4.f0 a.f4.f1 b.f4.f0 b.f4.f1 _ _ HON.out).mono ?_); rintro e w7 ⟨rfl, hb⟩; replace S := Aside0.mk (S.out.step hb); clear hb) | (go_at_call 108; (with_reducible refine (is_any a.f4.f0 a.f4.f1 b.f0.f0.f0 b.f0.f0.f1 _ _ HTG.out).mono ?_); rintro e w7 ⟨rfl, hb⟩; replace S := Aside0.mk (S.out.step hb); clear hb) | (go_at_call 96; (with_reducible refine (incE_ref a b false _ _ _ (HA.out.below S.out.below) (HB.out.below S.out.below) HGA.out HGB.out).mono ?_); rintro e w7 ⟨v, rfl, hR, hb⟩; obtain ⟨Ai, ci, rfl⟩ := hR.slice; replace S := Aside0.mk (S.out.addOp hb hR); clear hb hR))
    (refine rg_start (n := 5) (fun W => ∃ c4 c5 : Array Value, (c4.size = 9 ∧ c5.size = 9) ∧ St w W [_, _, (_, 41, c5), (_, 41, c4), _, _] _) [] ⟨zA, zA, ⟨rfl, rfl⟩, S.out⟩ (fun _ ⟨c4, c5, z, h⟩ => ⟨c4, c5, z, h.drew⟩) ?_; clear S; rintro _ ⟨c4, c5, z, S⟩; refine ld_ 0 1 (bs := [_, _]) ⟨c4, c5, z, S⟩ ?_ (fun _ ⟨_, _, _, h⟩ => h.drop (List.sublist_append_left [_, _] _)); refine ld_ 1 0 (bs := [_, _]) ⟨c4, c5, z, S⟩ ?_ (fun _ ⟨_, _, _, h⟩ => h.drop (List.sublist_append_left [_, _] _)); refine re_ (rc_ 2 ?_ AllReadyL.nil); intro K hK; refine ks_ 3 S ?_ (hs := z.1); intro _ S'; refine hK.out _ _ ⟨_, _, ⟨(by rfl), z.2⟩, S'⟩ (fun _ => ?_); clear S hK; have S := S'; clear S'; refine re_ (rc_ 3 ?_ AllReadyL.nil); intro K hK; refine ks_ 2 S ?_ (hs := z.2); intro _ S'; refine hK.out _ _ ⟨_, _, ⟨(by rfl), (by rfl)⟩, S'⟩ (fun _ => ?_); clear S hK; have S := S'; clear S'; refine pu_ 4 ?_; refine done_ (by kernel_rfl) ?_; have S := Aside0.mk S)
    go_wp2
    exact bodyPost_ret (results_cct rfl _ _ _ _ 41 41 _ _ (0, 0) (0, 0) _ _ rfl (S.out.at_ 3 rfl) Tryd.underlying41 rfl (by kernel_rfl) rfl (S.out.at_ 2 rfl) Tryd.underlying41 rfl (by kernel_rfl)) rfl ⟨_, _, rfl, S.out.now.1.2, S.out.now.2, S.out.below⟩
  · rw [if_pos hi]
    have hi' : ((incE a b false).2 != 0) = true := bne_iff_ne.mpr hi
    clear hi
    go_enter Tryd.func98, Tryd.ntmps98
    go_wp2_with (first | ((with_reducible refine gate_box rfl ?_); refine ev_box S ?_; clear S; intro _ _ S) | ((with_reducible refine gate_new rfl ?_); refine ev_new S 41 zA ?_; clear S; intro _ _ S) | ((with_reducible refine gate_load rfl ?_); first | refine ev_load S ?_ | refine ev_fld S ?_) | ((with_reducible refine gate_st rfl ?_); refine ev_store S ?_; clear S; intro _ S) | (go_at_call 97; (with_reducible refine (excE_ref b a _ _ _ (HB.out.below S.out.below) (HA.out.below S.out.below) HGB.out HGA.out).mono ?_); rintro e w7 ⟨v, rfl, hR, hb⟩; obtain ⟨Ao, co, rfl⟩ := hR.slice; replace S := Aside0.mk (S.out.addOp hb hR); clear hb hR) | (go_at_call 108; (with_reducible refine (is_any a.f4.f0 a.f4.f1 b.f4.f0 b.f4.f1 _ _ HON.out).mono ?_); rintro e w7 ⟨rfl, hb⟩; replace S := Aside0.mk (S.out.step hb); clear hb) | (go_at_call 108; (with_reducible refine (is_any a.f4.f0 a.f4.f1 b.f0.f0.f0 b.f0.f0.f1 _ _ HTG.out).mono ?_); rintro e w7 ⟨rfl, hb⟩; replace S := Aside0.mk (S.out.step hb); clear hb) | (go_at_call 96; (with_reducible refine (incE_ref a b false _ _ _ (HA.out.below S.out.below) (HB.out.below S.out.below) HGA.out HGB.out).mono ?_); rintro e w7 ⟨v, rfl, hR, hb⟩; obtain ⟨Ai, ci, rfl⟩ := hR.slice; replace S := Aside0.mk (S.out.addOp hb hR); clear hb hR))
    exact bodyPost_ret (results_cct rfl _ _ _ _ 41 41 zA zA (0, 0) (0, 0) _ _ rfl (S.out.at_ 3 rfl) Tryd.underlying41 rfl (by kernel_rfl) rfl (S.out.at_ 2 rfl) Tryd.underlying41 rfl (by kernel_rfl)) rfl ⟨.slice none 0 0, .slice none 0 0, rfl, opR_nil _ _, opR_nil _ _, S.out.below⟩
 have k1' : (a.f0.f1 != 1) = false := bne_eq_false_iff_eq.mpr k1
 have hbw := gb.wid1 kb
 have haw := ga.wid1 k1
 have h3 := ga.noRanges (.inl k1)
 have hmv := ga.move0 k1
 have hstand := exc_stands k1 kb h0
 obtain ⟨r1, r2, r3⟩ := rows_tell2 a.f1 (wid a) b.f1 (wid b) ⟨haw.2.2.1, by omega⟩ ⟨haw.1, by omega⟩ ⟨hbw.2.2.1, by omega⟩ ⟨hbw.1, by omega⟩ haw.2.2.2 hstand
 have HW := Aside0.mk (with_ctx 0 1 a.f1 (wid a) haw.2.2.1 (by omega))
 have hcl : (ctxWith 1 a.f1 (wid a)).length ≤ 3 ∧ ∀ s ∈ ctxWith 1 a.f1 (wid a), Bd s := by
  unfold ctxWith
  by_cases hp : a.f1 > 0
  · rw [if_pos hp]
    refine ⟨by simp, ?_⟩
    simp only [List.cons_append, List.nil_append, List.mem_cons, List.not_mem_nil, or_false]
    rintro s (rfl | rfl | rfl) <;> exact ⟨by simp only; omega, by simp only; omega, by simp only; omega⟩
  · rw [if_neg hp]
    refine ⟨by simp, ?_⟩
    simp only [List.nil_append, List.mem_cons, List.not_mem_nil, or_false]
    rintro s (rfl | rfl) <;> exact ⟨by simp only; omega, by simp only; omega, by simp only; omega⟩
 have hw2 := with_is (ctxWith 1 a.f1 (wid a)) 2 b.f1 (wid b) ⟨hbw.2.2.1, by omega⟩ (by omega) hcl.2
 obtain ⟨LL, hLL⟩ : ∃ LL, LL = withL 2 b.f1 (wid b) (ctxWith 1 a.f1 (wid a)) 0 := ⟨_, rfl⟩
 rw [← hLL] at r1 r2 r3 hw2
 have HW2 := Aside0.mk hw2
 have hpl0 : redraftref05_place.f 101 LL 1 0 = some (placeL 1 0 LL 0) := by
  have := place_is LL 1 0 (by omega) (by omega) r3 LL.length 101 0 0 (by omega) (by omega) (by omega) (by omega)
  unfold redraftref05_place.f
  rw [List.drop_zero] at this
  exact this
 obtain ⟨pl, hpl⟩ : ∃ pl, pl = placeL 1 0 LL 0 := ⟨_, rfl⟩
 rw [← hpl] at hpl0 r1
 have hres : (if b.f0.f1 = 1 ∧ a.f0.f1 = 1 ∧ b.f1 ≤ a.f1 then (if (moveE a (a.f1 + wid b)).2 ≠ 0 then (z41, z41, (moveE a (a.f1 + wid b)).2) else ((excE b a).1, (moveE a (a.f1 + wid b)).1, 0))
  else if b.f0.f1 = 1 ∧ (a.f0.f1 = 2 ∨ a.f0.f1 = 3) then (if (incE a b false).2 ≠ 0 then (z41, z41, (incE a b false).2) else ((excE b a).1, (incE a b false).1, 0)) else ((excE b a).1, a, 0)) =
  if (moveE a pl).2 = 0 then ((excE b a).1, (moveE a pl).1, 0) else (z41, z41, (moveE a pl).2) := by
  by_cases q : b.f1 ≤ a.f1
  · rw [if_pos ⟨kb, k1, q⟩, r1, if_pos q]
    by_cases z : (moveE a (a.f1 + wid b)).2 = 0
    · rw [if_neg (fun h => h z), if_pos z]
    · rw [if_pos z, if_neg z]
  · rw [if_neg (fun h => q h.2.2), if_neg (by omega), r1, if_neg q, hmv, if_pos rfl]
 rw [hres]
 have HM := Aside0.mk (show ownE a = 0 ∧ a.f3 = [] ∧ (0 ≤ pl ∧ pl ≤ 4194304) ∧ (0 ≤ wid a ∧ wid a ≤ 1048576) from ⟨ga.own, h3, by rw [r1]; split <;> constructor <;> omega, by omega, by omega⟩)
 have HPL := Aside0.mk hpl0
 clear r1 r2 r3 hres hpl hLL hw2 hcl hstand h3 hmv haw hbw h0 k4 kb k1 hkind ga gb hpl0
 by_cases z : (moveE a pl).2 = 0
 · rw [if_pos z]
   have z' : ((moveE a pl).2 != 0) = false := bne_eq_false_iff_eq.mpr z
   clear z
   go_enter Tryd.func98, Tryd.ntmps98
   go_wp2_with (first | ((with_reducible refine gate_box rfl ?_); refine ev_box S ?_; clear S; intro _ _ S) | ((with_reducible refine gate_new rfl ?_); refine ev_new S 41 zA ?_; clear S; intro _ _ S) | ((with_reducible refine gate_load rfl ?_); first | refine ev_load S ?_ | refine ev_fld S ?_) | ((with_reducible refine gate_st rfl ?_); refine ev_store S ?_; clear S; intro _ S) | (go_at_call 97; (with_reducible refine (excE_ref b a _ _ _ (HB.out.below S.out.below) (HA.out.below S.out.below) HGB.out HGA.out).mono ?_); rintro e w7 ⟨v, rfl, hR, hb⟩; obtain ⟨Ao, co, rfl⟩ := hR.slice; replace S := Aside0.mk (S.out.addOp hb hR); clear hb hR) | (go_at_call 108; (with_reducible refine (is_any a.f4.f0 a.f4.f1 b.f4.f0 b.f4.f1 _ _ HON.out).mono ?_); rintro e w7 ⟨rfl, hb⟩; replace S := Aside0.mk (S.out.step hb); clear hb) | (go_at_call 108; (with_reducible refine (is_any a.f4.f0 a.f4.f1 b.f0.f0.f0 b.f0.f0.f1 _ _ HTG.out).mono ?_); rintro e w7 ⟨rfl, hb⟩; replace S := Aside0.mk (S.out.step hb); clear hb))
   (refine rg_start (n := 12) (fun W => St w W _ _) [] S.out (fun _ h => h.drew) ?_; clear S; intro _ S; refine pu_ 1 ?_; refine fl_ 2 4 S ?_; refine ld_ 3 4 S ?_; refine pu_ 6 ?_; refine fl_ 7 3 S ?_; refine ld_ 8 3 S ?_; refine cl_ 0 #[] ?_ Tryd.func104; refine (context_any _).mono ?_; rintro e w7 ⟨v, rfl, ⟨Ar, cr, rfl, _⟩, hR, hb⟩; refine ⟨_, rfl, S.step hb, fun _ => ?_⟩; have S' := S.addR hb hR; clear S hb hR; have S := S'; clear S'; refine nr_ ?_; refine cl_ 4 #[.agg (opA a (.slice A a.f3.length c))] ?_ Tryd.func105; refine (rwidth_any a _ _ (HA.out.below S.below) HF.out.1 HF.out.2.2.1).mono ?_; rintro e w7 ⟨rfl, hb⟩; have S' := S.step hb; refine ⟨_, rfl, S'.weak (fun _ h => h.1), fun _ => ?_⟩; clear S hb; have S := S'; clear S'; refine nr_ ?_; refine cl_ 5 #[.slice Ar 1 cr, .int .i64 1, .int .i64 a.f1, .int .i64 (wid a)] ?_ Tryd.func103; refine (with_any ctx0 _ _ _ 1 a.f1 (wid a) _ (rowC_of S.now.2) HW.out).mono ?_; rintro e w7 ⟨v, rfl, hR, hb⟩; obtain ⟨Aw, cw, rfl⟩ := Kd.R_slice hR; refine ⟨_, rfl, (S.step hb).weak (fun _ h => h.1), fun _ => ?_⟩; have S' := (S.weak (fun _ h => h.1)).addR hb hR; clear S hb hR; have S := S'; clear S'; refine nr_ ?_; refine cl_ 9 #[.agg (opA b (.slice B b.f3.length d))] ?_ Tryd.func105; refine (rwidth_any b _ _ (HB.out.below S.below) HF.out.2.1 HF.out.2.2.2).mono ?_; rintro e w7 ⟨rfl, hb⟩; have S' := S.step hb; refine ⟨_, rfl, S'.weak (fun _ h => h.1), fun _ => ?_⟩; clear S hb; have S := S'; clear S'; refine nr_ ?_; refine cl_ 10 #[.slice Aw (ctxWith 1 a.f1 (wid a)).length cw, .int .i64 2, .int .i64 b.f1, .int .i64 (wid b)] ?_ Tryd.func103; refine (with_any (ctxWith 1 a.f1 (wid a)) _ _ _ 2 b.f1 (wid b) _ (rowC_of S.now.2) HW2.out).mono ?_; rintro e w7 ⟨v, rfl, hR, hb⟩; obtain ⟨Al, cl, rfl⟩ := Kd.R_slice hR; refine ⟨_, rfl, (S.step hb).weak (fun _ h => h.1), fun _ => ?_⟩; have S' := (S.weak (fun _ h => h.1)).addR hb hR; clear S hb hR; have S := S'; clear S'; refine nr_ ?_; refine pu_ 11 ?_; refine done_ (by kernel_rfl) ?_; have S := Aside0.mk S)
   go_wp2_with (fail)
   refine rg_start (n := 10) (fun W => St w W _ _) [8] S.out (fun _ h => h.drew) ?_
   clear S
   intro _ S
   refine ld_ 0 4 S ?_; refine pu_ 1 ?_
   refine re_ (rc_ 2 ?_ (rc_ 7 ?_ AllReadyL.nil))
   · intro K hK; refine kc_ #[.slice Al LL.length cl, .int .i64 1, .int .i64 0] ?_ Tryd.func106; refine (place_any _ _ _ 1 0 pl _ (rowC_of S.now.2) HPL.out).mono ?_; rintro e_ w7 ⟨rfl, hb⟩; have S' := S.step hb; clear hb; refine ⟨_, rfl, hK.out _ _ S' (fun _ => ?_)⟩; clear hK; clear S; have S := S'; clear S'; refine nr_ ?_
     refine re_ (rc_ 3 ?_ (rc_ 7 ?_ AllReadyL.nil))
     · intro K hK; refine kc_ #[.agg (opA a (.slice A a.f3.length c)), .int .i64 pl] ?_ Tryd.func109; refine (rmoved_any a _ pl _ (HA.out.below S.below) HF.out.1 HM.out.1 HM.out.2.1 HM.out.2.2.1 HM.out.2.2.2).mono ?_; rintro e_ w7 ⟨v, rfl, hR, hb⟩; obtain ⟨Ai, ci, rfl⟩ := hR.slice; have S' := S.addOp hb hR; clear hb hR; refine ⟨_, rfl, hK.out _ _ (S'.weak fun _ h => h.1) (fun _ => ?_)⟩; clear hK; clear S; have S := S'; clear S'; refine nr_ ?_
       refine pu_ 4 ?_; refine pu_ 5 ?_; refine pu_ 6 ?_
       refine re_ (rc_ 7 ?_ AllReadyL.nil)
       intro K hK; refine kn_ 41 zA S ?_; intro _ _ S'; refine hK.out _ _ ((S'.drop (List.sublist_cons_self _ _)).weak fun _ h => h.1) (fun _ => ?_); clear hK; clear S; have S := S'; clear S'; refine nr_ ?_
       refine so_ 8 0 S ?_; clear S; intro _ S; refine pu_ 9 ?_; refine done_ (by kernel_rfl) ?_; have S := Aside0.mk S; replace S := Aside0.mk (S.out.weak (fun _ h => (show _ ∧ _ from ⟨h.1.1, h.2⟩)))
       go_wp2_with (fail)
       (refine rg_start (n := 5) (fun W => ∃ c4 c5 : Array Value, (c4.size = 9 ∧ c5.size = 9) ∧ St w W [_, _, (_, 41, c5), (_, 41, c4), _, _] _) [] ⟨zA, zA, ⟨rfl, rfl⟩, S.out⟩ (fun _ ⟨c4, c5, z, h⟩ => ⟨c4, c5, z, h.drew⟩) ?_; clear S; rintro _ ⟨c4, c5, z, S⟩; refine ld_ 0 1 (bs := [_, _]) ⟨c4, c5, z, S⟩ ?_ (fun _ ⟨_, _, _, h⟩ => h.drop (List.sublist_append_left [_, _] _)); refine ld_ 1 0 (bs := [_, _]) ⟨c4, c5, z, S⟩ ?_ (fun _ ⟨_, _, _, h⟩ => h.drop (List.sublist_append_left [_, _] _)); refine re_ (rc_ 2 ?_ AllReadyL.nil); intro K hK; refine ks_ 3 S ?_ (hs := z.1); intro _ S'; refine hK.out _ _ ⟨_, _, ⟨(by rfl), z.2⟩, S'⟩ (fun _ => ?_); clear S hK; have S := S'; clear S'; refine re_ (rc_ 3 ?_ AllReadyL.nil); intro K hK; refine ks_ 2 S ?_ (hs := z.2); intro _ S'; refine hK.out _ _ ⟨_, _, ⟨(by rfl), (by rfl)⟩, S'⟩ (fun _ => ?_); clear S hK; have S := S'; clear S'; refine pu_ 4 ?_; refine done_ (by kernel_rfl) ?_; have S := Aside0.mk S)
       go_wp2
       exact bodyPost_ret (results_cct rfl _ _ _ _ 41 41 _ _ (0, 0) (0, 0) _ _ rfl (S.out.at_ 3 rfl) Tryd.underlying41 rfl (by kernel_rfl) rfl (S.out.at_ 2 rfl) Tryd.underlying41 rfl (by kernel_rfl)) rfl ⟨_, _, rfl, S.out.now.1.2, S.out.now.2, S.out.below⟩
     · intro K hK; refine kn_ 41 zA S ?_; intro _ _ S'; refine hK.out _ _ (S'.drop (List.sublist_cons_self _ _)) (fun _ => ?_); clear hK; clear S; have S := S'; clear S'; refine nr_ ?_
       refine cl_ 3 #[.agg (opA a (.slice A a.f3.length c)), .int .i64 pl] ?_ Tryd.func109; refine (rmoved_any a _ pl _ (HA.out.below S.below) HF.out.1 HM.out.1 HM.out.2.1 HM.out.2.2.1 HM.out.2.2.2).mono ?_; rintro e_ w7 ⟨v, rfl, hR, hb⟩; obtain ⟨Ai, ci, rfl⟩ := hR.slice; have S' := S.addOp hb hR; clear hb hR; refine ⟨_, rfl, (S'.drop (List.sublist_cons_self _ _)).weak fun _ h => h.1, fun _ => ?_⟩; clear S; have S := S'; clear S'; refine nr_ ?_
       refine pu_ 4 ?_; refine pu_ 5 ?_; refine pu_ 6 ?_
       refine so_ 8 0 S ?_; clear S; intro _ S; refine pu_ 9 ?_; refine done_ (by kernel_rfl) ?_; have S := Aside0.mk S; replace S := Aside0.mk (S.out.weak (fun _ h => (show _ ∧ _ from ⟨h.1.1, h.2⟩)))
       go_wp2_with (fail)
       (refine rg_start (n := 5) (fun W => ∃ c4 c5 : Array Value, (c4.size = 9 ∧ c5.size = 9) ∧ St w W [_, _, (_, 41, c5), (_, 41, c4), _, _] _) [] ⟨zA, zA, ⟨rfl, rfl⟩, S.out⟩ (fun _ ⟨c4, c5, z, h⟩ => ⟨c4, c5, z, h.drew⟩) ?_; clear S; rintro _ ⟨c4, c5, z, S⟩; refine ld_ 0 1 (bs := [_, _]) ⟨c4, c5, z, S⟩ ?_ (fun _ ⟨_, _, _, h⟩ => h.drop (List.sublist_append_left [_, _] _)); refine ld_ 1 0 (bs := [_, _]) ⟨c4, c5, z, S⟩ ?_ (fun _ ⟨_, _, _, h⟩ => h.drop (List.sublist_append_left [_, _] _)); refine re_ (rc_ 2 ?_ AllReadyL.nil); intro K hK; refine ks_ 3 S ?_ (hs := z.1); intro _ S'; refine hK.out _ _ ⟨_, _, ⟨(by rfl), z.2⟩, S'⟩ (fun _ => ?_); clear S hK; have S := S'; clear S'; refine re_ (rc_ 3 ?_ AllReadyL.nil); intro K hK; refine ks_ 2 S ?_ (hs := z.2); intro _ S'; refine hK.out _ _ ⟨_, _, ⟨(by rfl), (by rfl)⟩, S'⟩ (fun _ => ?_); clear S hK; have S := S'; clear S'; refine pu_ 4 ?_; refine done_ (by kernel_rfl) ?_; have S := Aside0.mk S)
       go_wp2
       exact bodyPost_ret (results_cct rfl _ _ _ _ 41 41 _ _ (0, 0) (0, 0) _ _ rfl (S.out.at_ 3 rfl) Tryd.underlying41 rfl (by kernel_rfl) rfl (S.out.at_ 2 rfl) Tryd.underlying41 rfl (by kernel_rfl)) rfl ⟨_, _, rfl, S.out.now.1.2, S.out.now.2, S.out.below⟩
   · intro K hK; refine kn_ 41 zA S ?_; intro _ _ S'; refine hK.out _ _ (S'.drop (List.sublist_cons_self _ _)) (fun _ => ?_); clear hK; clear S; have S := S'; clear S'; refine nr_ ?_
     refine cl_ 2 #[.slice Al LL.length cl, .int .i64 1, .int .i64 0] ?_ Tryd.func106; refine (place_any _ _ _ 1 0 pl _ (rowC_of S.now.2) HPL.out).mono ?_; rintro e_ w7 ⟨rfl, hb⟩; have S' := S.step hb; clear hb; refine ⟨_, rfl, S'.drop (List.sublist_cons_self _ _), fun _ => ?_⟩; clear S; have S := S'; clear S'; refine nr_ ?_
     refine cl_ 3 #[.agg (opA a (.slice A a.f3.length c)), .int .i64 pl] ?_ Tryd.func109; refine (rmoved_any a _ pl _ (HA.out.below S.below) HF.out.1 HM.out.1 HM.out.2.1 HM.out.2.2.1 HM.out.2.2.2).mono ?_; rintro e_ w7 ⟨v, rfl, hR, hb⟩; obtain ⟨Ai, ci, rfl⟩ := hR.slice; have S' := S.addOp hb hR; clear hb hR; refine ⟨_, rfl, (S'.drop (List.sublist_cons_self _ _)).weak fun _ h => h.1, fun _ => ?_⟩; clear S; have S := S'; clear S'; refine nr_ ?_
     refine pu_ 4 ?_; refine pu_ 5 ?_; refine pu_ 6 ?_
     refine so_ 8 0 S ?_; clear S; intro _ S; refine pu_ 9 ?_; refine done_ (by kernel_rfl) ?_; have S := Aside0.mk S; replace S := Aside0.mk (S.out.weak (fun _ h => (show _ ∧ _ from ⟨h.1.1, h.2⟩)))
     go_wp2_with (fail)
     (refine rg_start (n := 5) (fun W => ∃ c4 c5 : Array Value, (c4.size = 9 ∧ c5.size = 9) ∧ St w W [_, _, (_, 41, c5), (_, 41, c4), _, _] _) [] ⟨zA, zA, ⟨rfl, rfl⟩, S.out⟩ (fun _ ⟨c4, c5, z, h⟩ => ⟨c4, c5, z, h.drew⟩) ?_; clear S; rintro _ ⟨c4, c5, z, S⟩; refine ld_ 0 1 (bs := [_, _]) ⟨c4, c5, z, S⟩ ?_ (fun _ ⟨_, _, _, h⟩ => h.drop (List.sublist_append_left [_, _] _)); refine ld_ 1 0 (bs := [_, _]) ⟨c4, c5, z, S⟩ ?_ (fun _ ⟨_, _, _, h⟩ => h.drop (List.sublist_append_left [_, _] _)); refine re_ (rc_ 2 ?_ AllReadyL.nil); intro K hK; refine ks_ 3 S ?_ (hs := z.1); intro _ S'; refine hK.out _ _ ⟨_, _, ⟨(by rfl), z.2⟩, S'⟩ (fun _ => ?_); clear S hK; have S := S'; clear S'; refine re_ (rc_ 3 ?_ AllReadyL.nil); intro K hK; refine ks_ 2 S ?_ (hs := z.2); intro _ S'; refine hK.out _ _ ⟨_, _, ⟨(by rfl), (by rfl)⟩, S'⟩ (fun _ => ?_); clear S hK; have S := S'; clear S'; refine pu_ 4 ?_; refine done_ (by kernel_rfl) ?_; have S := Aside0.mk S)
     go_wp2
     exact bodyPost_ret (results_cct rfl _ _ _ _ 41 41 _ _ (0, 0) (0, 0) _ _ rfl (S.out.at_ 3 rfl) Tryd.underlying41 rfl (by kernel_rfl) rfl (S.out.at_ 2 rfl) Tryd.underlying41 rfl (by kernel_rfl)) rfl ⟨_, _, rfl, S.out.now.1.2, S.out.now.2, S.out.below⟩
 · rw [if_neg z]
   have z' : ((moveE a pl).2 != 0) = true := bne_iff_ne.mpr z
   clear z
   go_enter Tryd.func98, Tryd.ntmps98
   go_wp2_with (first | ((with_reducible refine gate_box rfl ?_); refine ev_box S ?_; clear S; intro _ _ S) | ((with_reducible refine gate_new rfl ?_); refine ev_new S 41 zA ?_; clear S; intro _ _ S) | ((with_reducible refine gate_load rfl ?_); first | refine ev_load S ?_ | refine ev_fld S ?_) | ((with_reducible refine gate_st rfl ?_); refine ev_store S ?_; clear S; intro _ S) | (go_at_call 97; (with_reducible refine (excE_ref b a _ _ _ (HB.out.below S.out.below) (HA.out.below S.out.below) HGB.out HGA.out).mono ?_); rintro e w7 ⟨v, rfl, hR, hb⟩; obtain ⟨Ao, co, rfl⟩ := hR.slice; replace S := Aside0.mk (S.out.addOp hb hR); clear hb hR) | (go_at_call 108; (with_reducible refine (is_any a.f4.f0 a.f4.f1 b.f4.f0 b.f4.f1 _ _ HON.out).mono ?_); rintro e w7 ⟨rfl, hb⟩; replace S := Aside0.mk (S.out.step hb); clear hb) | (go_at_call 108; (with_reducible refine (is_any a.f4.f0 a.f4.f1 b.f0.f0.f0 b.f0.f0.f1 _ _ HTG.out).mono ?_); rintro e w7 ⟨rfl, hb⟩; replace S := Aside0.mk (S.out.step hb); clear hb))
   (refine rg_start (n := 12) (fun W => St w W _ _) [] S.out (fun _ h => h.drew) ?_; clear S; intro _ S; refine pu_ 1 ?_; refine fl_ 2 4 S ?_; refine ld_ 3 4 S ?_; refine pu_ 6 ?_; refine fl_ 7 3 S ?_; refine ld_ 8 3 S ?_; refine cl_ 0 #[] ?_ Tryd.func104; refine (context_any _).mono ?_; rintro e w7 ⟨v, rfl, ⟨Ar, cr, rfl, _⟩, hR, hb⟩; refine ⟨_, rfl, S.step hb, fun _ => ?_⟩; have S' := S.addR hb hR; clear S hb hR; have S := S'; clear S'; refine nr_ ?_; refine cl_ 4 #[.agg (opA a (.slice A a.f3.length c))] ?_ Tryd.func105; refine (rwidth_any a _ _ (HA.out.below S.below) HF.out.1 HF.out.2.2.1).mono ?_; rintro e w7 ⟨rfl, hb⟩; have S' := S.step hb; refine ⟨_, rfl, S'.weak (fun _ h => h.1), fun _ => ?_⟩; clear S hb; have S := S'; clear S'; refine nr_ ?_; refine cl_ 5 #[.slice Ar 1 cr, .int .i64 1, .int .i64 a.f1, .int .i64 (wid a)] ?_ Tryd.func103; refine (with_any ctx0 _ _ _ 1 a.f1 (wid a) _ (rowC_of S.now.2) HW.out).mono ?_; rintro e w7 ⟨v, rfl, hR, hb⟩; obtain ⟨Aw, cw, rfl⟩ := Kd.R_slice hR; refine ⟨_, rfl, (S.step hb).weak (fun _ h => h.1), fun _ => ?_⟩; have S' := (S.weak (fun _ h => h.1)).addR hb hR; clear S hb hR; have S := S'; clear S'; refine nr_ ?_; refine cl_ 9 #[.agg (opA b (.slice B b.f3.length d))] ?_ Tryd.func105; refine (rwidth_any b _ _ (HB.out.below S.below) HF.out.2.1 HF.out.2.2.2).mono ?_; rintro e w7 ⟨rfl, hb⟩; have S' := S.step hb; refine ⟨_, rfl, S'.weak (fun _ h => h.1), fun _ => ?_⟩; clear S hb; have S := S'; clear S'; refine nr_ ?_; refine cl_ 10 #[.slice Aw (ctxWith 1 a.f1 (wid a)).length cw, .int .i64 2, .int .i64 b.f1, .int .i64 (wid b)] ?_ Tryd.func103; refine (with_any (ctxWith 1 a.f1 (wid a)) _ _ _ 2 b.f1 (wid b) _ (rowC_of S.now.2) HW2.out).mono ?_; rintro e w7 ⟨v, rfl, hR, hb⟩; obtain ⟨Al, cl, rfl⟩ := Kd.R_slice hR; refine ⟨_, rfl, (S.step hb).weak (fun _ h => h.1), fun _ => ?_⟩; have S' := (S.weak (fun _ h => h.1)).addR hb hR; clear S hb hR; have S := S'; clear S'; refine nr_ ?_; refine pu_ 11 ?_; refine done_ (by kernel_rfl) ?_; have S := Aside0.mk S)
   go_wp2_with (fail)
   refine rg_start (n := 10) (fun W => St w W _ _) [8] S.out (fun _ h => h.drew) ?_
   clear S
   intro _ S
   refine ld_ 0 4 S ?_; refine pu_ 1 ?_
   refine re_ (rc_ 2 ?_ (rc_ 7 ?_ AllReadyL.nil))
   · intro K hK; refine kc_ #[.slice Al LL.length cl, .int .i64 1, .int .i64 0] ?_ Tryd.func106; refine (place_any _ _ _ 1 0 pl _ (rowC_of S.now.2) HPL.out).mono ?_; rintro e_ w7 ⟨rfl, hb⟩; have S' := S.step hb; clear hb; refine ⟨_, rfl, hK.out _ _ S' (fun _ => ?_)⟩; clear hK; clear S; have S := S'; clear S'; refine nr_ ?_
     refine re_ (rc_ 3 ?_ (rc_ 7 ?_ AllReadyL.nil))
     · intro K hK; refine kc_ #[.agg (opA a (.slice A a.f3.length c)), .int .i64 pl] ?_ Tryd.func109; refine (rmoved_any a _ pl _ (HA.out.below S.below) HF.out.1 HM.out.1 HM.out.2.1 HM.out.2.2.1 HM.out.2.2.2).mono ?_; rintro e_ w7 ⟨v, rfl, hR, hb⟩; obtain ⟨Ai, ci, rfl⟩ := hR.slice; have S' := S.addOp hb hR; clear hb hR; refine ⟨_, rfl, hK.out _ _ (S'.weak fun _ h => h.1) (fun _ => ?_)⟩; clear hK; clear S; have S := S'; clear S'; refine nr_ ?_
       refine pu_ 4 ?_; refine pu_ 5 ?_; refine pu_ 6 ?_
       refine re_ (rc_ 7 ?_ AllReadyL.nil)
       intro K hK; refine kn_ 41 zA S ?_; intro _ _ S'; refine hK.out _ _ ((S'.drop (List.sublist_cons_self _ _)).weak fun _ h => h.1) (fun _ => ?_); clear hK; clear S; have S := S'; clear S'; refine nr_ ?_
       refine so_ 8 0 S ?_; clear S; intro _ S; refine pu_ 9 ?_; refine done_ (by kernel_rfl) ?_; have S := Aside0.mk S; replace S := Aside0.mk (S.out.weak (fun _ h => (show _ ∧ _ from ⟨h.1.1, h.2⟩)))
       go_wp2_with (((with_reducible refine gate_st rfl ?_); refine ev_store S ?_; clear S; intro _ S))
       exact bodyPost_ret (results_cct rfl _ _ _ _ 41 41 zA zA (0, 0) (0, 0) _ _ rfl (S.out.at_ 3 rfl) Tryd.underlying41 rfl (by kernel_rfl) rfl (S.out.at_ 2 rfl) Tryd.underlying41 rfl (by kernel_rfl)) rfl ⟨.slice none 0 0, .slice none 0 0, rfl, opR_nil _ _, opR_nil _ _, S.out.below⟩
     · intro K hK; refine kn_ 41 zA S ?_; intro _ _ S'; refine hK.out _ _ (S'.drop (List.sublist_cons_self _ _)) (fun _ => ?_); clear hK; clear S; have S := S'; clear S'; refine nr_ ?_
       refine cl_ 3 #[.agg (opA a (.slice A a.f3.length c)), .int .i64 pl] ?_ Tryd.func109; refine (rmoved_any a _ pl _ (HA.out.below S.below) HF.out.1 HM.out.1 HM.out.2.1 HM.out.2.2.1 HM.out.2.2.2).mono ?_; rintro e_ w7 ⟨v, rfl, hR, hb⟩; obtain ⟨Ai, ci, rfl⟩ := hR.slice; have S' := S.addOp hb hR; clear hb hR; refine ⟨_, rfl, (S'.drop (List.sublist_cons_self _ _)).weak fun _ h => h.1, fun _ => ?_⟩; clear S; have S := S'; clear S'; refine nr_ ?_
       refine pu_ 4 ?_; refine pu_ 5 ?_; refine pu_ 6 ?_
       refine so_ 8 0 S ?_; clear S; intro _ S; refine pu_ 9 ?_; refine done_ (by kernel_rfl) ?_; have S := Aside0.mk S; replace S := Aside0.mk (S.out.weak (fun _ h => (show _ ∧ _ from ⟨h.1.1, h.2⟩)))
       go_wp2_with (((with_reducible refine gate_st rfl ?_); refine ev_store S ?_; clear S; intro _ S))
       exact bodyPost_ret (results_cct rfl _ _ _ _ 41 41 zA zA (0, 0) (0, 0) _ _ rfl (S.out.at_ 3 rfl) Tryd.underlying41 rfl (by kernel_rfl) rfl (S.out.at_ 2 rfl) Tryd.underlying41 rfl (by kernel_rfl)) rfl ⟨.slice none 0 0, .slice none 0 0, rfl, opR_nil _ _, opR_nil _ _, S.out.below⟩
   · intro K hK; refine kn_ 41 zA S ?_; intro _ _ S'; refine hK.out _ _ (S'.drop (List.sublist_cons_self _ _)) (fun _ => ?_); clear hK; clear S; have S := S'; clear S'; refine nr_ ?_
     refine cl_ 2 #[.slice Al LL.length cl, .int .i64 1, .int .i64 0] ?_ Tryd.func106; refine (place_any _ _ _ 1 0 pl _ (rowC_of S.now.2) HPL.out).mono ?_; rintro e_ w7 ⟨rfl, hb⟩; have S' := S.step hb; clear hb; refine ⟨_, rfl, S'.drop (List.sublist_cons_self _ _), fun _ => ?_⟩; clear S; have S := S'; clear S'; refine nr_ ?_
     refine cl_ 3 #[.agg (opA a (.slice A a.f3.length c)), .int .i64 pl] ?_ Tryd.func109; refine (rmoved_any a _ pl _ (HA.out.below S.below) HF.out.1 HM.out.1 HM.out.2.1 HM.out.2.2.1 HM.out.2.2.2).mono ?_; rintro e_ w7 ⟨v, rfl, hR, hb⟩; obtain ⟨Ai, ci, rfl⟩ := hR.slice; have S' := S.addOp hb hR; clear hb hR; refine ⟨_, rfl, (S'.drop (List.sublist_cons_self _ _)).weak fun _ h => h.1, fun _ => ?_⟩; clear S; have S := S'; clear S'; refine nr_ ?_
     refine pu_ 4 ?_; refine pu_ 5 ?_; refine pu_ 6 ?_
     refine so_ 8 0 S ?_; clear S; intro _ S; refine pu_ 9 ?_; refine done_ (by kernel_rfl) ?_; have S := Aside0.mk S; replace S := Aside0.mk (S.out.weak (fun _ h => (show _ ∧ _ from ⟨h.1.1, h.2⟩)))
     go_wp2_with (((with_reducible refine gate_st rfl ?_); refine ev_store S ?_; clear S; intro _ S))
     exact bodyPost_ret (results_cct rfl _ _ _ _ 41 41 zA zA (0, 0) (0, 0) _ _ rfl (S.out.at_ 3 rfl) Tryd.underlying41 rfl (by kernel_rfl) rfl (S.out.at_ 2 rfl) Tryd.underlying41 rfl (by kernel_rfl)) rfl ⟨.slice none 0 0, .slice none 0 0, rfl, opR_nil _ _, opR_nil _ _, S.out.below⟩
end Go.Proofs.YtloccjkcmlkifaaDoor
end

section
/- The document's Include, Exclude, Transpose, told of whole operations. -/
namespace Go.Proofs.YtloccjkcmlkifaaDoor
open Go.RowKit Go.Proofs.YtloccjkcmlkifaaDoor.PAll Go.Proofs.YtloccjkcmlkifaaDoorW.PrintWords Go.Proofs.YtloccjkcmlkifaaDoorW.PrintLast

set_option maxRecDepth 100000 in
set_option maxHeartbeats 4000000 in
theorem rTranspose_any (a b : S41) (va vb : Value) (w : World) (ha : OpC w va a) (hb : OpC w vb b) (fa : fineOp a) (fb : fineOp b) :
 Calls Tryd.prog 80 #[.agg (opA a va), .agg (opA b vb)] w (RetOp2 w (wrap2 a b (trE a b))) := by
 obtain ⟨A, c, rfl, h1, h2⟩ := ha
 obtain ⟨B, d, rfl, h3, h4⟩ := hb
 have S := Aside0.mk (St.init w (F := fun _ => True) (fun _ _ => trivial))
 have HA := Aside0.mk (opC_mk h1 h2); have HB := Aside0.mk (opC_mk h3 h4)
 have HF := Aside0.mk (show ∀ x ∈ [a, b], fineOp x by intro x hx; simp only [List.mem_cons, List.not_mem_nil, or_false] at hx; rcases hx with rfl | rfl <;> assumption)
 have HLE := Aside0.mk (show [a, b].length ≤ 1048576 by simp)
 unfold wrap2
 clear h1 h2 h3 h4
 by_cases h : ownsE [a, b] = 0
 · rw [if_pos h]
   have HX := Aside0.mk (owns_goods h fa fb)
   have h' : (ownsE [a, b] != 0) = false := bne_eq_false_iff_eq.mpr h
   clear h fa fb
   go_enter Tryd.func80, Tryd.ntmps80
   go_wp2_with (first | ((with_reducible refine gate_box rfl ?_); refine ev_box S ?_; clear S; intro _ _ S) | ((with_reducible refine gate_new rfl ?_); refine ev_new S 41 zA ?_; clear S; intro _ _ S) | ((with_reducible refine gate_load rfl ?_); refine ev_load S ?_) | ((with_reducible refine gate_lit rfl ?_); refine ev_lit S (opA a (.slice A a.f3.length c) ++ opA b (.slice B b.f3.length d)) 2 ?_; clear S; intro _ _ S) | (go_at_call 95; (with_reducible refine (rowns_any [a, b] _ _ (runC_box2 (S.out.at_ 0 rfl) (HA.out.below S.out.below) (HB.out.below S.out.below)) HF.out HLE.out).mono ?_); rintro e_ w7 ⟨rfl, hb⟩; replace S := Aside0.mk (S.out.step hb); clear hb) | ((with_reducible refine gate_st rfl ?_); refine ev_store S ?_; clear S; intro _ S) | (go_at_call 98; (with_reducible refine (trE_ref a b _ _ _ (HA.out.below S.out.below) (HB.out.below S.out.below) HX.out.1 HX.out.2).mono ?_); rintro e_ w7 ⟨v, v2, rfl, hR, hR2, hb⟩; obtain ⟨Ai, ci, rfl⟩ := hR.slice; obtain ⟨Aj, cj, rfl⟩ := hR2.slice; replace S := Aside0.mk (S.out.addR2 hb hR hR2); clear hb hR hR2))
   exact bodyPost_ret (results_cct rfl _ _ _ _ 41 41 _ _ (0, 0) (0, 0) _ _ rfl (S.out.at_ 2 rfl) Tryd.underlying41 rfl (by kernel_rfl) rfl (S.out.at_ 1 rfl) Tryd.underlying41 rfl (by kernel_rfl)) rfl ⟨_, _, rfl, S.out.now.1.2, S.out.now.2, S.out.below⟩
 · rw [if_neg h]
   have h' : (ownsE [a, b] != 0) = true := bne_iff_ne.mpr h
   have HX : Aside0 (Good a ∧ Good b → True) := ⟨fun _ => trivial⟩
   clear h fa fb
   go_enter Tryd.func80, Tryd.ntmps80
   go_wp2_with (first | ((with_reducible refine gate_box rfl ?_); refine ev_box S ?_; clear S; intro _ _ S) | ((with_reducible refine gate_new rfl ?_); refine ev_new S 41 zA ?_; clear S; intro _ _ S) | ((with_reducible refine gate_load rfl ?_); refine ev_load S ?_) | ((with_reducible refine gate_lit rfl ?_); refine ev_lit S (opA a (.slice A a.f3.length c) ++ opA b (.slice B b.f3.length d)) 2 ?_; clear S; intro _ _ S) | (go_at_call 95; (with_reducible refine (rowns_any [a, b] _ _ (runC_box2 (S.out.at_ 0 rfl) (HA.out.below S.out.below) (HB.out.below S.out.below)) HF.out HLE.out).mono ?_); rintro e_ w7 ⟨rfl, hb⟩; replace S := Aside0.mk (S.out.step hb); clear hb) | ((with_reducible refine gate_st rfl ?_); refine ev_store S ?_; clear S; intro _ S) | (go_at_call 98; (with_reducible refine (trE_ref a b _ _ _ (HA.out.below S.out.below) (HB.out.below S.out.below) HX.out.1 HX.out.2).mono ?_); rintro e_ w7 ⟨v, v2, rfl, hR, hR2, hb⟩; obtain ⟨Ai, ci, rfl⟩ := hR.slice; obtain ⟨Aj, cj, rfl⟩ := hR2.slice; replace S := Aside0.mk (S.out.addR2 hb hR hR2); clear hb hR hR2))
   exact bodyPost_ret (results_cct rfl _ _ _ _ 41 41 zA zA (0, 0) (0, 0) _ _ rfl (S.out.at_ 2 rfl) Tryd.underlying41 rfl (by kernel_rfl) rfl (S.out.at_ 1 rfl) Tryd.underlying41 rfl (by kernel_rfl)) rfl ⟨.slice none 0 0, .slice none 0 0, rfl, opR_nil _ _, opR_nil _ _, S.out.below⟩
end Go.Proofs.YtloccjkcmlkifaaDoor
end

section
/- Two operations that are one are told equal: redraftref04.Equal, and what is made of it. -/
namespace Go.Proofs.YtloccjkcmlkifaaDoor
open Go.RowKit Go.Proofs.YtloccjkcmlkifaaDoor.PAll Go.Proofs.YtloccjkcmlkifaaDoorW.PrintWords Go.Proofs.YtloccjkcmlkifaaDoorW.PrintLast

def Yes (w : World) : Ending → World → Prop := fun e w' => e = .returned (.bool true) ∧ Below w.heap.size w w'
theorem same_loop (l : List S94) (hl : l.length ≤ 4611686018427387904) : ∀ (d k i : Nat), l.length = i + d → d + 1 ≤ k → redraftref04_Same.l0 k l l (i : Int) = some true := by
 intro d
 induction d with
 | zero =>
  intro k i h hk
  obtain ⟨k, rfl⟩ : ∃ m, k = m + 1 := ⟨k - 1, by omega⟩
  rw [redraftref04_Same.l0, if_neg (by omega)]
 | succ d ih =>
  intro k i h hk
  obtain ⟨k, rfl⟩ : ∃ m, k = m + 1 := ⟨k - 1, by omega⟩
  have q1 : (i : Int) < (l.length : Int) := by omega
  have q2 : (0 : Int) ≤ (i : Int) := by omega
  have w : wrap64 ((i : Int) + 1) = ((i + 1 : Nat) : Int) := by rw [wrap_id (by omega) (by omega)]; omega
  rw [redraftref04_Same.l0, if_pos q1, if_pos q2, if_pos q1, if_pos rfl, if_pos rfl, w]
  exact ih k (i + 1) (by omega) (by omega)
theorem same_any (o : S41) (v u : Value) (w : World) (hv : OpC w v o) (hu : OpC w u o) (hl : o.f3.length ≤ 4611686018427387904) :
 Calls Tryd.prog 76 #[v, u] w (Yes w) := by
 obtain ⟨A, c, rfl, h1, h2⟩ := hv
 obtain ⟨B, d, rfl, h3, h4⟩ := hu
 refine (redraftref04_Same.calls (o.f3.length + 1) A c o.f3 B d o.f3 true w h2 h1 h4 h3 ?_).mono fun e w2 h => ⟨h.1, h.2.below⟩
 unfold redraftref04_Same.f
 rw [if_pos rfl]
 exact same_loop o.f3 hl o.f3.length _ 0 (by omega) (Nat.le_refl _)
set_option maxRecDepth 100000 in
set_option maxHeartbeats 8000000 in
theorem equal_any (o : S41) (v u : Value) (w : World) (hv : OpC w v o) (hu : OpC w u o) (hl : o.f3.length ≤ 4611686018427387904) :
 Calls Tryd.prog 65 #[.agg (opA o v), .agg (opA o u)] w (Yes w) := by
 obtain ⟨A, c, rfl, h1, h2⟩ := hv
 obtain ⟨B, d, rfl, h3, h4⟩ := hu
 have S := Aside0.mk (St.init w (F := fun _ => True) (fun _ _ => trivial))
 have HV := Aside0.mk (opC_mk h1 h2); have HU := Aside0.mk (opC_mk h3 h4); have HL := Aside0.mk hl
 clear h1 h2 h3 h4 hl
 go_enter Tryd.func65, Tryd.ntmps65
 go_wp2_with (first | ((go_at_call 76; (with_reducible refine (same_any o _ _ _ (HV.out.below S.out.below) (HU.out.below S.out.below) HL.out).mono ?_); rintro e_ w7 ⟨rfl, hb⟩; replace S := Aside0.mk (S.out.step hb); clear hb); refine Hid.out ?_) | ((with_reducible refine gate_box rfl ?_); refine ev_box S ?_; clear S; intro _ _ S) | ((with_reducible refine gate_load rfl ?_); first | refine ev_load S ?_ | refine ev_fld S ?_))
 refine Lib.hid ?_
 dsimp only [List.append] at *
 go_wp2_with (((with_reducible refine gate_load rfl ?_); first | refine ev_load S ?_ | refine ev_fld S ?_))
 go_ret
 exact ⟨rfl, S.out.below⟩
set_option maxRecDepth 100000 in
theorem sameOp_any (o : S41) (v u : Value) (w : World) (hv : OpC w v o) (hu : OpC w u o) (hl : o.f3.length ≤ 4611686018427387904) :
 Calls Tryd.prog 43 #[.agg (opA o v), .agg (opA o u)] w (Yes w) := by
 have S := Aside0.mk (St.init w (F := fun _ => True) (fun _ _ => trivial))
 have HV := Aside0.mk hv; have HU := Aside0.mk hu; have HL := Aside0.mk hl
 clear hv hu hl
 go_enter Tryd.func43, Tryd.ntmps43
 go_wp2_with (first | ((with_reducible refine gate_box rfl ?_); refine ev_box S ?_; clear S; intro _ _ S) | ((with_reducible refine gate_load rfl ?_); refine ev_load S ?_) | (go_at_call 65; (with_reducible refine (equal_any o _ _ _ (HV.out.below S.out.below) (HU.out.below S.out.below) HL.out).mono ?_); rintro e_ w7 ⟨rfl, hb⟩; replace S := Aside0.mk (S.out.step hb); clear hb))
 go_ret
 exact ⟨rfl, S.out.below⟩
theorem num_any (e : Int) (w : World) : Calls Tryd.prog 23 #[.int .i64 e] w fun e' w' => e' = .returned (.int .i64 e) ∧ Below w.heap.size w w' := by
 go_enter Tryd.func23, Tryd.ntmps23
 go_wp2
 go_ret
 exact ⟨rfl, Below.refl _ _⟩
theorem two_any (o p : S41) (e : Int) (v u v2 u2 : Value) (w : World) (hv : OpC w v o) (hu : OpC w u o) (hl : o.f3.length ≤ 4611686018427387904) (hv2 : OpC w v2 p) (hu2 : OpC w u2 p) (hl2 : p.f3.length ≤ 4611686018427387904) :
 Calls Tryd.prog 81 #[.agg (opA o v), .agg (opA p v2), .int .i64 e, .agg (opA o u), .agg (opA p u2), .int .i64 e] w (Yes w) := by
 have S := Aside0.mk (St.init w (F := fun _ => True) (fun _ _ => trivial))
 have HV := Aside0.mk hv; have HU := Aside0.mk hu; have HL := Aside0.mk hl
 have HW := Aside0.mk hv2; have HX := Aside0.mk hu2; have HL2 := Aside0.mk hl2
 clear hv hu hl hv2 hu2 hl2
 go_enter Tryd.func81, Tryd.ntmps81
 go_wp2_with (first | ((with_reducible refine gate_box rfl ?_); refine ev_box S ?_; clear S; intro _ _ S) | ((with_reducible refine gate_load rfl ?_); refine ev_load S ?_) | (go_at_call 43; (with_reducible refine (sameOp_any o _ _ _ (HV.out.below S.out.below) (HU.out.below S.out.below) HL.out).mono ?_); rintro e_ w7 ⟨rfl, hb⟩; replace S := Aside0.mk (S.out.step hb); clear hb) | (go_at_call 43; (with_reducible refine (sameOp_any p _ _ _ (HW.out.below S.out.below) (HX.out.below S.out.below) HL2.out).mono ?_); rintro e_ w7 ⟨rfl, hb⟩; replace S := Aside0.mk (S.out.step hb); clear hb) | (go_at_call 23; (with_reducible refine (num_any _ _).mono ?_); rintro e_ w7 ⟨rfl, hb⟩; replace S := Aside0.mk (S.out.step hb); clear hb))
 go_ret
 exact ⟨rfl, S.out.below⟩
end Go.Proofs.YtloccjkcmlkifaaDoor
end

section
/- A script's step as a value; what the laws ask of two answers that are one. -/
namespace Go.Proofs.YtloccjkcmlkifaaDoor
open Go.RowKit Go.Proofs.YtloccjkcmlkifaaDoor.PAll Go.Proofs.YtloccjkcmlkifaaDoorW.PrintWords Go.Proofs.YtloccjkcmlkifaaDoorW.PrintLast

abbrev stA (s : S100) (va vb vr vo : Value) : Array Value := #[.int .i64 s.f0, .int .i64 s.f1.f0.f0.f0, .int .i64 s.f1.f0.f0.f1, .int .i64 s.f1.f0.f1, .int .i64 s.f1.f1, .string s.f1.f2, va, .int .i64 s.f1.f4.f0, .int .i64 s.f1.f4.f1, .bool s.f1.f5,
 .int .i64 s.f2.f0.f0.f0, .int .i64 s.f2.f0.f0.f1, .int .i64 s.f2.f0.f1, .int .i64 s.f2.f1, .string s.f2.f2, vb, .int .i64 s.f2.f4.f0, .int .i64 s.f2.f4.f1, .bool s.f2.f5, vr, vo, .bool s.f5, .int .i64 s.f6, .int .i64 s.f7]
structure StepC (w : World) (va vb vr vo : Value) (s : S100) : Prop where
 a : OpC w va s.f1
 b : OpC w vb s.f2
 r : RunC w vr s.f3
 o : RunC w vo s.f4
theorem StepC.below {w w' : World} {va vb vr vo : Value} {s : S100} (h : StepC w va vb vr vo s) (hb : Below w.heap.size w w') : StepC w' va vb vr vo s := ⟨h.a.below hb, h.b.below hb, h.r.below hb, h.o.below hb⟩
theorem atL_sub {w : World} {g : Nat} {t : TypeId} {cs : Array Value} (h : w.heap[g]? = some (.cells cs t (0, 0))) (j : Nat) (sub : List Value) (hs : sub = (cs.toList.drop j).take sub.length) : atL w ⟨g, j, none⟩ 0 sub :=
 atL_mk fun i v hv => by
  have hadd : (⟨g, j, none⟩ : Addr).add (0 + i) = ⟨g, j + i, none⟩ := by
   rw [Nat.zero_add]; unfold Addr.add
   by_cases hi0 : i = 0
   · rw [if_pos hi0, hi0, Nat.add_zero]
   · rw [if_neg hi0]
  rw [hadd, blk_cell h]
  rw [hs] at hv
  have hi : i < sub.length := by
   have := (List.getElem?_eq_some_iff.1 hv).1
   simp at this; omega
  rw [List.getElem?_take_of_lt hi, List.getElem?_drop] at hv
  simpa using hv
section
variable {P : Program} {ops : Array Oper} {rest : List Oper} {o : Oper} {a a' : Act} {Q : Exit → Act → World → Prop} {w0 W w : World} {bs : List Bx} {F : World → Prop} {g : Nat} {t : TypeId} {cs : Array Value}
theorem ev_sub (S : Aside0 (St w0 W bs F)) {i : Nat} (sub : Array Value) {N j : Nat} {ty : TypeId} {x : Operand} {d : TypeDesc}
 (h : wpList P ops Q rest (a.put (some N) (.agg sub)) W)
 (ho : o.op = .load ty x := by rfl) (hx : a.eval x = .pointer (some ⟨g, j, none⟩) := by rfl) (e : bs[i]? = some (g, t, cs) := by first | exact ix0 | exact ix1 | exact ix2 | exact ix3 | exact ix4 | exact ix5 | exact ix6 | exact ix7) (hd : o.dst = some N := by rfl)
 (hs : sub.toList = (cs.toList.drop j).take sub.toList.length := by rfl)
 (hw : Region.wanted o (yielded ops a.tmps) = true := by first | exact wanted_plain rfl | (refine wanted_on rfl ?_; first | (simp [yielded]; done) | rfl)) (hu : P.underlying ty = some d := by exact Tryd.underlying41) (hdd : (match d with | .struct _ | .array _ _ => true | _ => false) = true := by rfl) (hi : (P.info? ty).map (·.size) = some sub.size := by kernel_rfl) : wpList P ops Q (o :: rest) a W :=
 ev_ext sub (atL_sub (S.out.at_ i e) j sub.toList hs) h ho hx hd hw hu hdd hi
variable {md : Region.Mode} {S : World → Prop} {ds : List Nat} {fuel : Nat} {l : Array Bool} {oi : Oper} {N : Tmp}
theorem sb_ (i k : Nat) (sub : Array Value) {j : Nat} {ty : TypeId} {x : Operand} {d : TypeDesc} (hS : S w)
 (h : wpAnyLast P md ops Q S ds fuel (l.setIfInBounds i true) a' w) (hSt : ∀ w, S w → St w0 w bs F := by exact fun _ h => h)
 (hi : ops[i]? = some oi := by rfl) (hN : oi.dst = some N := by rfl) (hc : takeB md ops ds l (l.setIfInBounds i true) i = true := by kernel_rfl)
 (ho : oi.op = .load ty x := by rfl) (hx : a.eval x = .pointer (some ⟨g, j, none⟩) := by rfl) (e : bs[k]? = some (g, t, cs) := by rfl)
 (hsu : sub.toList = (cs.toList.drop j).take sub.toList.length := by rfl)
 (hw : Region.wanted oi (yielded ops a.tmps) = true := by first | exact wanted_plain rfl | (refine wanted_on rfl ?_; simp [yielded]))
 (hu : P.underlying ty = some d := by exact Tryd.underlying41) (hdd : (match d with | .struct _ | .array _ _ => true | _ => false) = true := by rfl) (hs : (P.info? ty).map (·.size) = some sub.size := by kernel_rfl)
 (ha : a.put (some N) (.agg sub) = a' := by (simp only [Act.put, List.setIfInBounds_toArray, List.set_cons_zero, List.set_cons_succ]; rfl))
 (hQ : ∀ c a w, Q (.panic c) (a.put oi.dst (.agg sub)) w → Q (.panic c) a w := by exact fun _ _ _ h => h) : wpAnyLast P md ops Q S ds (fuel + 1) l a w :=
 le_ i sub hS (fun w' hS' => atL_sub ((hSt w' hS').at_ k e) j sub.toList hsu) h hi hN hc ho hx hw hu hdd hs ha hQ
end
def OwnRun (w : World) (base : Nat) (v : Value) (l : List S41) : Prop := Kd.S k41 41 w base (fun _ => True) v l
theorem OwnRun.C {w : World} {base : Nat} {v : Value} {l : List S41} (h : OwnRun w base v l) : RunC w v l := Kd.S_reads h
end Go.Proofs.YtloccjkcmlkifaaDoor
end

section
/- A script is played: each of its steps of the kinds asked is answered as it must be. -/
namespace Go.Proofs.YtloccjkcmlkifaaDoor
open Go.RowKit Go.Proofs.YtloccjkcmlkifaaDoor.PAll Go.Proofs.YtloccjkcmlkifaaDoorW.PrintWords Go.Proofs.YtloccjkcmlkifaaDoorW.PrintLast

abbrev PlaysYes (s : S100) : Prop := ∀ (va vb vr vo : Value) (w : World), GW w → StepC w va vb vr vo s → Calls Tryd.prog 68 #[.agg (stA s va vb vr vo)] w (Yes w)
theorem elem_S {w : World} {A : Option Addr} {l : List S100} (h : k100.C w A l.length l) (i : Nat) (hi : i < l.length) :
 ∃ ad va vb vr vo, A = some ad ∧ (∀ W, Below w.heap.size w W → atL W (ad.add (i * 24)) 0 (stA (l.getD i z100) va vb vr vo).toList) ∧ StepC w va vb vr vo (l.getD i z100) := by
 obtain ⟨ad, c, e, _, hK, hc⟩ := Kd.C_get h z100 (i : Int) (by omega) (by omega)
 rw [Int.toNat_natCast] at hK hc
 obtain ⟨A6, c6, A15, c15, A19, c19, A20, c20, rfl, l6, g6, l15, g15, l19, g19, l20, g20⟩ := k100_open hK
 refine ⟨ad, _, _, _, _, e, fun W hb => atL_mk fun j v hj => ?_, ⟨opC_mk l6 g6, opC_mk l15 g15, runC_mk l19 g19, runC_mk l20 g20⟩⟩
 have := hc j v hj
 have h2 : W.cell? (ad.add (i * 24 + j)) = some v := pw_cell_below hb this
 have h3 : (ad.add (i * 24)).add (0 + j) = ad.add (i * 24 + j) := by
  by_cases hj0 : j = 0
  · subst hj0
    rfl
  · rw [add_field ad (i * 24) j (by omega)]
    unfold Addr.add
    rw [if_neg (by omega), Nat.zero_add]
 rw [h3]; exact h2
abbrev zS : Array Value := #[.int .i64 0, .int .i64 0, .int .i64 0, .int .i64 0, .int .i64 0, .string ⟨#[]⟩, .slice none 0 0, .int .i64 0, .int .i64 0, .bool false, .int .i64 0, .int .i64 0, .int .i64 0, .int .i64 0, .string ⟨#[]⟩, .slice none 0 0, .int .i64 0, .int .i64 0, .bool false, .slice none 0 0, .slice none 0 0, .bool false, .int .i64 0, .int .i64 0]
set_option maxRecDepth 100000 in
set_option maxHeartbeats 4000000 in
theorem played_any (l : List S100) (lo hi : Int) (A : Option Addr) (c : Nat) (w : World) (hG : GW w) (hl : l.length ≤ 1048576) (h : k100.C w A l.length l) (hP : ∀ s ∈ l, lo ≤ s.f0 → s.f0 ≤ hi → PlaysYes s) :
 Calls Tryd.prog 51 #[.slice A l.length c, .int .i64 lo, .int .i64 hi] w (Yes w) := by
 have HE := Aside0.mk (fun i hi => elem_S h i hi)
 have HG := Aside0.mk hG; have HP := Aside0.mk hP
 obtain ⟨n, hn⟩ : ∃ n, n = l.length := ⟨_, rfl⟩
 rw [← hn] at hl ⊢
 have HN := Aside0.mk hn
 have S := Aside0.mk (St.init w (F := fun _ => True) (fun _ _ => trivial))
 clear hG hP h hn
 go_enter Tryd.func51, Tryd.ntmps51
 go_wp2_with (fail)
 go_loopw [7] (fun i' wr => ∃ k : Nat, k ≤ n ∧ i' = .int .i64 (k : Int) ∧ Aside0 (St w wr [] (fun _ => True))) (fun i' _ => n - (intOf i').toNat)
 case atStart => exact ⟨0, Nat.zero_le _, rfl, S⟩
 case round =>
  obtain ⟨k, hk, rfl, HA⟩ := hrel
  have S := HA
  by_cases hlt : k < n
  · have hlt' : k < l.length := by rw [← HN.out]; exact hlt
    obtain ⟨ad, va, vb, vr, vo, rfl, hat, hst⟩ := HE.out k hlt'
    have hm : l.getD k z100 ∈ l := by rw [List.getD_eq_getElem?_getD, List.getElem?_eq_getElem hlt']; exact List.getElem_mem hlt'
    obtain ⟨x, hx⟩ : ∃ x, x = l.getD k z100 := ⟨_, rfl⟩
    rw [← hx] at hat hst hm
    obtain ⟨⟨Aa, ca, rfl, p1, p2⟩, ⟨Ab, cb, rfl, p3, p4⟩, ⟨Ar, cr, rfl, p5, p6⟩, ⟨Ao, co, rfl, p7, p8⟩⟩ := hst
    have HAT := Aside0.mk hat
    have HST := Aside0.mk (show StepC w _ _ _ _ x from ⟨opC_mk p1 p2, opC_mk p3 p4, runC_mk p5 p6, runC_mk p7 p8⟩)
    clear p1 p2 p3 p4 p5 p6 p7 p8
    have hpx := HP.out x hm
    clear hat hx hm
    have hlk : (k : Int) < (n : Int) := by omega
    have hk0 : (0 : Int) ≤ (k : Int) := by omega
    by_cases c1 : lo ≤ x.f0
    · have c1' : decide (lo ≤ x.f0) = true := decide_eq_true c1
      by_cases c2 : x.f0 ≤ hi
      · have c2' : decide (x.f0 ≤ hi) = true := decide_eq_true c2
        have HPX := Aside0.mk (hpx c1 c2)
        clear c1 c2 hpx
        go_wp2_with (first | ((with_reducible refine gate_new rfl ?_); refine ev_new S 100 zS ?_; clear S; intro _ _ S) | ((with_reducible refine gate_load rfl ?_); first | refine ev_load S ?_ | refine ev_fld S ?_) | ((with_reducible refine gate_load rfl ?_); refine ev_ext _ (HAT.out _ S.out.below) ?_) | ((with_reducible refine gate_st rfl ?_); refine ev_store S ?_; clear S; intro _ S) | (go_at_call 68; (with_reducible refine (HPX.out _ _ _ _ _ (GW.below HG.out S.out.below) (HST.out.below S.out.below)).mono ?_); rintro e_ w7 ⟨rfl, hb⟩; replace S := Aside0.mk (S.out.step hb); clear hb))
        go_roundw
        case rel => exact ⟨k + 1, by omega, by go_num, ⟨(S.out.drop (List.nil_sublist _)).weak fun _ _ => trivial⟩⟩
        case measure => simp [intOf]; omega
      · have c2' : decide (x.f0 ≤ hi) = false := decide_eq_false c2
        clear c1 c2 hpx
        go_wp2_with (first | ((with_reducible refine gate_new rfl ?_); refine ev_new S 100 zS ?_; clear S; intro _ _ S) | ((with_reducible refine gate_load rfl ?_); first | refine ev_load S ?_ | refine ev_fld S ?_) | ((with_reducible refine gate_load rfl ?_); refine ev_ext _ (HAT.out _ S.out.below) ?_) | ((with_reducible refine gate_st rfl ?_); refine ev_store S ?_; clear S; intro _ S))
        go_roundw
        case rel => exact ⟨k + 1, by omega, by go_num, ⟨(S.out.drop (List.nil_sublist _)).weak fun _ _ => trivial⟩⟩
        case measure => simp [intOf]; omega
    · have c1' : decide (lo ≤ x.f0) = false := decide_eq_false c1
      clear c1 hpx
      go_wp2_with (first | ((with_reducible refine gate_new rfl ?_); refine ev_new S 100 zS ?_; clear S; intro _ _ S) | ((with_reducible refine gate_load rfl ?_); first | refine ev_load S ?_ | refine ev_fld S ?_) | ((with_reducible refine gate_load rfl ?_); refine ev_ext _ (HAT.out _ S.out.below) ?_) | ((with_reducible refine gate_st rfl ?_); refine ev_store S ?_; clear S; intro _ S))
      go_roundw
      case rel => exact ⟨k + 1, by omega, by go_num, ⟨(S.out.drop (List.nil_sublist _)).weak fun _ _ => trivial⟩⟩
      case measure => simp [intOf]; omega
  · obtain rfl : k = n := by omega
    go_wp2_with (fail)
    go_ret
    exact ⟨rfl, S.out.below⟩
end Go.Proofs.YtloccjkcmlkifaaDoor
end

section
/- A step of kind 3 (Transpose) is answered as the document says. -/
namespace Go.Proofs.YtloccjkcmlkifaaDoor
open Go.RowKit Go.Proofs.YtloccjkcmlkifaaDoor.PAll Go.Proofs.YtloccjkcmlkifaaDoorW.PrintWords Go.Proofs.YtloccjkcmlkifaaDoorW.PrintLast

theorem opC_R {w : World} {base : Nat} {v : Value} {o : S41} (h : Kd.R k94 94 w base (fun _ => True) v o.f3) : OpC w v o := Kd.R_reads h
theorem St.d0 {w0 w : World} {bs : List Bx} {F : World → Prop} (S : St w0 w bs F) : St w0 w bs (fun _ => True) := S.weak fun _ _ => trivial
theorem St.d1 {w0 w : World} {b : Bx} {bs : List Bx} {F : World → Prop} (S : St w0 w (b :: bs) F) : St w0 w bs (fun _ => True) := (S.drop (List.sublist_cons_self _ _)).d0
theorem St.d2 {w0 w : World} {b c : Bx} {bs : List Bx} {F : World → Prop} (S : St w0 w (b :: c :: bs) F) : St w0 w bs (fun _ => True) := (S.drop (List.sublist_cons_self _ _)).d1
set_option maxRecDepth 100000 in
set_option maxHeartbeats 8000000 in
theorem plays_transpose (s : S100) (hf : fineStep s) (k1 : s.f0 = 3) : PlaysYes s := by
 intro va vb vr vo w hG h
 obtain ⟨⟨A, c, rfl, h1, h2⟩, ⟨A', c', rfl, h3, h4⟩, ⟨B, d, rfl, _, _⟩, ⟨B', d', rfl, _, _⟩⟩ := h
 have S := Aside0.mk (St.init w (F := fun _ => True) (fun _ _ => trivial))
 have HA := Aside0.mk (opC_mk h1 h2); have HB := Aside0.mk (opC_mk h3 h4)
 have HG := Aside0.mk hG; have HF := Aside0.mk (show fineOp s.f1 ∧ fineOp s.f2 from ⟨hf.1, hf.2.1⟩)
 have HLN := Aside0.mk (wrap2_len (a := s.f1) (b := s.f2) (tr_len s.f1 s.f2 hf.1.2 hf.2.1.2))
 have k0' : (s.f0 == 1) = false := beq_eq_false_iff_ne.mpr (by omega)
 have k1' : (s.f0 == 2) = false := beq_eq_false_iff_ne.mpr (by omega)
 have k2' : (s.f0 == 3) = true := beq_iff_eq.mpr k1
 clear h1 h2 h3 h4 hG hf k1
 go_enter Tryd.func68, Tryd.ntmps68
 go_wp2_with (first | ((with_reducible refine gate_box rfl ?_); refine ev_box S ?_; clear S; intro _ _ S) | ((with_reducible refine gate_load rfl ?_); refine ev_fld S ?_))
 refine rg_start (n := 16) (fun W => St w W _ (fun _ => True)) [13, 14] (S.out.weak fun _ _ => trivial) (fun _ h => h.drew) ?_
 clear S
 intro _ S
 refine pu_ 0 ?_; refine sb_ 1 0 (opA s.f1 (.slice A s.f1.f3.length c)) S ?_; refine pu_ 3 ?_; refine sb_ 4 0 (opA s.f2 (.slice A' s.f2.f3.length c')) S ?_
 refine re_ (rc_ 2 ?p2_1 (rc_ 11 ?p11_1 (rc_ 12 ?p12_1 AllReadyL.nil)))
 case' p2_1 =>
  intro K hK; refine kc_ #[.agg (opA s.f1 (.slice A s.f1.f3.length c))] ?_ Tryd.func22; refine (rcopy_any s.f1 _ _ (HA.out.below S.below) HF.out.1).mono ?_; rintro e_ w7 ⟨v, rfl, hR, hb⟩; obtain ⟨Ao, co, rfl⟩ := hR.slice; have S' := S.addOp hb hR; clear hb hR; refine ⟨_, rfl, hK.out _ _ S'.d0 (fun _ => ?_)⟩; clear hK; replace S := S'; clear S'; refine nr_ ?_
  refine re_ (rc_ 5 ?p5_2 (rc_ 11 ?p11_2 (rc_ 12 ?p12_2 AllReadyL.nil)))
  case' p5_2 =>
   intro K hK; refine kc_ #[.agg (opA s.f2 (.slice A' s.f2.f3.length c'))] ?_ Tryd.func22; refine (rcopy_any s.f2 _ _ (HB.out.below S.below) HF.out.2).mono ?_; rintro e_ w7 ⟨v, rfl, hR, hb⟩; have S' := S.addOp hb hR; obtain ⟨Ap, cp, rfl⟩ := hR.slice; clear hb hR; refine ⟨_, rfl, hK.out _ _ S'.d0 (fun _ => ?_)⟩; clear hK; replace S := S'; clear S'; refine nr_ ?_
   refine re_ (rc_ 6 ?p6_3 (rc_ 11 ?p11_3 (rc_ 12 ?p12_3 AllReadyL.nil)))
   case' p6_3 =>
    intro K hK; refine kc_ #[.agg (opA s.f1 (.slice Ao s.f1.f3.length co)), .agg (opA s.f2 (.slice Ap s.f2.f3.length cp))] ?_ Tryd.func59; refine (Transpose_any s.f1 s.f2 _ _ _ (GW.below HG.out S.below) S.now.1.2.C S.now.2.C HF.out.1 HF.out.2).mono ?_; rintro e_ w7 ⟨v, v2, rfl, hR, hR2, hb⟩; have S' := S.addR2 hb hR hR2; obtain ⟨Av, cv, rfl⟩ := hR.slice; obtain ⟨Aw, cw, rfl⟩ := hR2.slice; clear hb hR hR2; refine ⟨_, rfl, hK.out _ _ S'.d0 (fun _ => ?_)⟩; clear hK; replace S := S'; clear S'; refine nr_ ?_
    refine pu_ 7 ?_; refine pu_ 8 ?_; refine pu_ 9 ?_; refine pu_ 10 ?_
    refine re_ (rc_ 11 ?p11_4 (rc_ 12 ?p12_4 AllReadyL.nil))
    case' p11_4 =>
     intro K hK; refine kn_ 41 zA S ?_; intro _ _ S'; refine hK.out _ _ S'.d1 (fun _ => ?_); clear hK; replace S := S'; clear S'; refine nr_ ?_
     refine re_ (rc_ 12 ?p12_5 AllReadyL.nil)
     case' p12_5 =>
      intro K hK; refine kn_ 41 zA S ?_; intro _ _ S'; refine hK.out _ _ S'.d2 (fun _ => ?_); clear hK; replace S := S'; clear S'; refine nr_ ?_
      refine so_ 13 1 S ?_; clear S; intro _ S; refine so_ 14 0 S ?_; clear S; intro _ S
    case' p12_4 =>
     intro K hK; refine kn_ 41 zA S ?_; intro _ _ S'; refine hK.out _ _ S'.d1 (fun _ => ?_); clear hK; replace S := S'; clear S'; refine nr_ ?_
     refine re_ (rc_ 11 ?p11_6 AllReadyL.nil)
     case' p11_6 =>
      intro K hK; refine kn_ 41 zA S ?_; intro _ _ S'; refine hK.out _ _ S'.d2 (fun _ => ?_); clear hK; replace S := S'; clear S'; refine nr_ ?_
      refine so_ 13 0 S ?_; clear S; intro _ S; refine so_ 14 1 S ?_; clear S; intro _ S
   case' p11_3 =>
    intro K hK; refine kn_ 41 zA S ?_; intro _ _ S'; refine hK.out _ _ S'.d1 (fun _ => ?_); clear hK; replace S := S'; clear S'; refine nr_ ?_
    refine re_ (rc_ 6 ?p6_7 (rc_ 12 ?p12_7 AllReadyL.nil))
    case' p6_7 =>
     intro K hK; refine kc_ #[.agg (opA s.f1 (.slice Ao s.f1.f3.length co)), .agg (opA s.f2 (.slice Ap s.f2.f3.length cp))] ?_ Tryd.func59; refine (Transpose_any s.f1 s.f2 _ _ _ (GW.below HG.out S.below) S.now.1.2.C S.now.2.C HF.out.1 HF.out.2).mono ?_; rintro e_ w7 ⟨v, v2, rfl, hR, hR2, hb⟩; have S' := S.addR2 hb hR hR2; obtain ⟨Av, cv, rfl⟩ := hR.slice; obtain ⟨Aw, cw, rfl⟩ := hR2.slice; clear hb hR hR2; refine ⟨_, rfl, hK.out _ _ S'.d1 (fun _ => ?_)⟩; clear hK; replace S := S'; clear S'; refine nr_ ?_
     refine pu_ 7 ?_; refine pu_ 8 ?_; refine pu_ 9 ?_; refine pu_ 10 ?_
     refine re_ (rc_ 12 ?p12_8 AllReadyL.nil)
     case' p12_8 =>
      intro K hK; refine kn_ 41 zA S ?_; intro _ _ S'; refine hK.out _ _ S'.d2 (fun _ => ?_); clear hK; replace S := S'; clear S'; refine nr_ ?_
      refine so_ 13 1 S ?_; clear S; intro _ S; refine so_ 14 0 S ?_; clear S; intro _ S
    case' p12_7 =>
     intro K hK; refine kn_ 41 zA S ?_; intro _ _ S'; refine hK.out _ _ S'.d2 (fun _ => ?_); clear hK; replace S := S'; clear S'; refine nr_ ?_
     refine re_ (rc_ 6 ?p6_9 AllReadyL.nil)
     case' p6_9 =>
      intro K hK; refine kc_ #[.agg (opA s.f1 (.slice Ao s.f1.f3.length co)), .agg (opA s.f2 (.slice Ap s.f2.f3.length cp))] ?_ Tryd.func59; refine (Transpose_any s.f1 s.f2 _ _ _ (GW.below HG.out S.below) S.now.1.2.C S.now.2.C HF.out.1 HF.out.2).mono ?_; rintro e_ w7 ⟨v, v2, rfl, hR, hR2, hb⟩; have S' := S.addR2 hb hR hR2; obtain ⟨Av, cv, rfl⟩ := hR.slice; obtain ⟨Aw, cw, rfl⟩ := hR2.slice; clear hb hR hR2; refine ⟨_, rfl, hK.out _ _ S'.d2 (fun _ => ?_)⟩; clear hK; replace S := S'; clear S'; refine nr_ ?_
      refine pu_ 7 ?_; refine pu_ 8 ?_; refine pu_ 9 ?_; refine pu_ 10 ?_
      refine so_ 13 1 S ?_; clear S; intro _ S; refine so_ 14 0 S ?_; clear S; intro _ S
   case' p12_3 =>
    intro K hK; refine kn_ 41 zA S ?_; intro _ _ S'; refine hK.out _ _ S'.d1 (fun _ => ?_); clear hK; replace S := S'; clear S'; refine nr_ ?_
    refine re_ (rc_ 6 ?p6_10 (rc_ 11 ?p11_10 AllReadyL.nil))
    case' p6_10 =>
     intro K hK; refine kc_ #[.agg (opA s.f1 (.slice Ao s.f1.f3.length co)), .agg (opA s.f2 (.slice Ap s.f2.f3.length cp))] ?_ Tryd.func59; refine (Transpose_any s.f1 s.f2 _ _ _ (GW.below HG.out S.below) S.now.1.2.C S.now.2.C HF.out.1 HF.out.2).mono ?_; rintro e_ w7 ⟨v, v2, rfl, hR, hR2, hb⟩; have S' := S.addR2 hb hR hR2; obtain ⟨Av, cv, rfl⟩ := hR.slice; obtain ⟨Aw, cw, rfl⟩ := hR2.slice; clear hb hR hR2; refine ⟨_, rfl, hK.out _ _ S'.d1 (fun _ => ?_)⟩; clear hK; replace S := S'; clear S'; refine nr_ ?_
     refine pu_ 7 ?_; refine pu_ 8 ?_; refine pu_ 9 ?_; refine pu_ 10 ?_
     refine re_ (rc_ 11 ?p11_11 AllReadyL.nil)
     case' p11_11 =>
      intro K hK; refine kn_ 41 zA S ?_; intro _ _ S'; refine hK.out _ _ S'.d2 (fun _ => ?_); clear hK; replace S := S'; clear S'; refine nr_ ?_
      refine so_ 13 0 S ?_; clear S; intro _ S; refine so_ 14 1 S ?_; clear S; intro _ S
    case' p11_10 =>
     intro K hK; refine kn_ 41 zA S ?_; intro _ _ S'; refine hK.out _ _ S'.d2 (fun _ => ?_); clear hK; replace S := S'; clear S'; refine nr_ ?_
     refine re_ (rc_ 6 ?p6_12 AllReadyL.nil)
     case' p6_12 =>
      intro K hK; refine kc_ #[.agg (opA s.f1 (.slice Ao s.f1.f3.length co)), .agg (opA s.f2 (.slice Ap s.f2.f3.length cp))] ?_ Tryd.func59; refine (Transpose_any s.f1 s.f2 _ _ _ (GW.below HG.out S.below) S.now.1.2.C S.now.2.C HF.out.1 HF.out.2).mono ?_; rintro e_ w7 ⟨v, v2, rfl, hR, hR2, hb⟩; have S' := S.addR2 hb hR hR2; obtain ⟨Av, cv, rfl⟩ := hR.slice; obtain ⟨Aw, cw, rfl⟩ := hR2.slice; clear hb hR hR2; refine ⟨_, rfl, hK.out _ _ S'.d2 (fun _ => ?_)⟩; clear hK; replace S := S'; clear S'; refine nr_ ?_
      refine pu_ 7 ?_; refine pu_ 8 ?_; refine pu_ 9 ?_; refine pu_ 10 ?_
      refine so_ 13 0 S ?_; clear S; intro _ S; refine so_ 14 1 S ?_; clear S; intro _ S
  case' p11_2 =>
   intro K hK; refine kn_ 41 zA S ?_; intro _ _ S'; refine hK.out _ _ S'.d1 (fun _ => ?_); clear hK; replace S := S'; clear S'; refine nr_ ?_
   refine re_ (rc_ 5 ?p5_13 (rc_ 12 ?p12_13 AllReadyL.nil))
   case' p5_13 =>
    intro K hK; refine kc_ #[.agg (opA s.f2 (.slice A' s.f2.f3.length c'))] ?_ Tryd.func22; refine (rcopy_any s.f2 _ _ (HB.out.below S.below) HF.out.2).mono ?_; rintro e_ w7 ⟨v, rfl, hR, hb⟩; have S' := S.addOp hb hR; obtain ⟨Ap, cp, rfl⟩ := hR.slice; clear hb hR; refine ⟨_, rfl, hK.out _ _ S'.d1 (fun _ => ?_)⟩; clear hK; replace S := S'; clear S'; refine nr_ ?_
    refine re_ (rc_ 6 ?p6_14 (rc_ 12 ?p12_14 AllReadyL.nil))
    case' p6_14 =>
     intro K hK; refine kc_ #[.agg (opA s.f1 (.slice Ao s.f1.f3.length co)), .agg (opA s.f2 (.slice Ap s.f2.f3.length cp))] ?_ Tryd.func59; refine (Transpose_any s.f1 s.f2 _ _ _ (GW.below HG.out S.below) S.now.1.2.C S.now.2.C HF.out.1 HF.out.2).mono ?_; rintro e_ w7 ⟨v, v2, rfl, hR, hR2, hb⟩; have S' := S.addR2 hb hR hR2; obtain ⟨Av, cv, rfl⟩ := hR.slice; obtain ⟨Aw, cw, rfl⟩ := hR2.slice; clear hb hR hR2; refine ⟨_, rfl, hK.out _ _ S'.d1 (fun _ => ?_)⟩; clear hK; replace S := S'; clear S'; refine nr_ ?_
     refine pu_ 7 ?_; refine pu_ 8 ?_; refine pu_ 9 ?_; refine pu_ 10 ?_
     refine re_ (rc_ 12 ?p12_15 AllReadyL.nil)
     case' p12_15 =>
      intro K hK; refine kn_ 41 zA S ?_; intro _ _ S'; refine hK.out _ _ S'.d2 (fun _ => ?_); clear hK; replace S := S'; clear S'; refine nr_ ?_
      refine so_ 13 1 S ?_; clear S; intro _ S; refine so_ 14 0 S ?_; clear S; intro _ S
    case' p12_14 =>
     intro K hK; refine kn_ 41 zA S ?_; intro _ _ S'; refine hK.out _ _ S'.d2 (fun _ => ?_); clear hK; replace S := S'; clear S'; refine nr_ ?_
     refine re_ (rc_ 6 ?p6_16 AllReadyL.nil)
     case' p6_16 =>
      intro K hK; refine kc_ #[.agg (opA s.f1 (.slice Ao s.f1.f3.length co)), .agg (opA s.f2 (.slice Ap s.f2.f3.length cp))] ?_ Tryd.func59; refine (Transpose_any s.f1 s.f2 _ _ _ (GW.below HG.out S.below) S.now.1.2.C S.now.2.C HF.out.1 HF.out.2).mono ?_; rintro e_ w7 ⟨v, v2, rfl, hR, hR2, hb⟩; have S' := S.addR2 hb hR hR2; obtain ⟨Av, cv, rfl⟩ := hR.slice; obtain ⟨Aw, cw, rfl⟩ := hR2.slice; clear hb hR hR2; refine ⟨_, rfl, hK.out _ _ S'.d2 (fun _ => ?_)⟩; clear hK; replace S := S'; clear S'; refine nr_ ?_
      refine pu_ 7 ?_; refine pu_ 8 ?_; refine pu_ 9 ?_; refine pu_ 10 ?_
      refine so_ 13 1 S ?_; clear S; intro _ S; refine so_ 14 0 S ?_; clear S; intro _ S
   case' p12_13 =>
    intro K hK; refine kn_ 41 zA S ?_; intro _ _ S'; refine hK.out _ _ S'.d2 (fun _ => ?_); clear hK; replace S := S'; clear S'; refine nr_ ?_
    refine re_ (rc_ 5 ?p5_17 AllReadyL.nil)
    case' p5_17 =>
     intro K hK; refine kc_ #[.agg (opA s.f2 (.slice A' s.f2.f3.length c'))] ?_ Tryd.func22; refine (rcopy_any s.f2 _ _ (HB.out.below S.below) HF.out.2).mono ?_; rintro e_ w7 ⟨v, rfl, hR, hb⟩; have S' := S.addOp hb hR; obtain ⟨Ap, cp, rfl⟩ := hR.slice; clear hb hR; refine ⟨_, rfl, hK.out _ _ S'.d2 (fun _ => ?_)⟩; clear hK; replace S := S'; clear S'; refine nr_ ?_
     refine re_ (rc_ 6 ?p6_18 AllReadyL.nil)
     case' p6_18 =>
      intro K hK; refine kc_ #[.agg (opA s.f1 (.slice Ao s.f1.f3.length co)), .agg (opA s.f2 (.slice Ap s.f2.f3.length cp))] ?_ Tryd.func59; refine (Transpose_any s.f1 s.f2 _ _ _ (GW.below HG.out S.below) S.now.1.2.C S.now.2.C HF.out.1 HF.out.2).mono ?_; rintro e_ w7 ⟨v, v2, rfl, hR, hR2, hb⟩; have S' := S.addR2 hb hR hR2; obtain ⟨Av, cv, rfl⟩ := hR.slice; obtain ⟨Aw, cw, rfl⟩ := hR2.slice; clear hb hR hR2; refine ⟨_, rfl, hK.out _ _ S'.d2 (fun _ => ?_)⟩; clear hK; replace S := S'; clear S'; refine nr_ ?_
      refine pu_ 7 ?_; refine pu_ 8 ?_; refine pu_ 9 ?_; refine pu_ 10 ?_
      refine so_ 13 1 S ?_; clear S; intro _ S; refine so_ 14 0 S ?_; clear S; intro _ S
  case' p12_2 =>
   intro K hK; refine kn_ 41 zA S ?_; intro _ _ S'; refine hK.out _ _ S'.d1 (fun _ => ?_); clear hK; replace S := S'; clear S'; refine nr_ ?_
   refine re_ (rc_ 5 ?p5_19 (rc_ 11 ?p11_19 AllReadyL.nil))
   case' p5_19 =>
    intro K hK; refine kc_ #[.agg (opA s.f2 (.slice A' s.f2.f3.length c'))] ?_ Tryd.func22; refine (rcopy_any s.f2 _ _ (HB.out.below S.below) HF.out.2).mono ?_; rintro e_ w7 ⟨v, rfl, hR, hb⟩; have S' := S.addOp hb hR; obtain ⟨Ap, cp, rfl⟩ := hR.slice; clear hb hR; refine ⟨_, rfl, hK.out _ _ S'.d1 (fun _ => ?_)⟩; clear hK; replace S := S'; clear S'; refine nr_ ?_
    refine re_ (rc_ 6 ?p6_20 (rc_ 11 ?p11_20 AllReadyL.nil))
    case' p6_20 =>
     intro K hK; refine kc_ #[.agg (opA s.f1 (.slice Ao s.f1.f3.length co)), .agg (opA s.f2 (.slice Ap s.f2.f3.length cp))] ?_ Tryd.func59; refine (Transpose_any s.f1 s.f2 _ _ _ (GW.below HG.out S.below) S.now.1.2.C S.now.2.C HF.out.1 HF.out.2).mono ?_; rintro e_ w7 ⟨v, v2, rfl, hR, hR2, hb⟩; have S' := S.addR2 hb hR hR2; obtain ⟨Av, cv, rfl⟩ := hR.slice; obtain ⟨Aw, cw, rfl⟩ := hR2.slice; clear hb hR hR2; refine ⟨_, rfl, hK.out _ _ S'.d1 (fun _ => ?_)⟩; clear hK; replace S := S'; clear S'; refine nr_ ?_
     refine pu_ 7 ?_; refine pu_ 8 ?_; refine pu_ 9 ?_; refine pu_ 10 ?_
     refine re_ (rc_ 11 ?p11_21 AllReadyL.nil)
     case' p11_21 =>
      intro K hK; refine kn_ 41 zA S ?_; intro _ _ S'; refine hK.out _ _ S'.d2 (fun _ => ?_); clear hK; replace S := S'; clear S'; refine nr_ ?_
      refine so_ 13 0 S ?_; clear S; intro _ S; refine so_ 14 1 S ?_; clear S; intro _ S
    case' p11_20 =>
     intro K hK; refine kn_ 41 zA S ?_; intro _ _ S'; refine hK.out _ _ S'.d2 (fun _ => ?_); clear hK; replace S := S'; clear S'; refine nr_ ?_
     refine re_ (rc_ 6 ?p6_22 AllReadyL.nil)
     case' p6_22 =>
      intro K hK; refine kc_ #[.agg (opA s.f1 (.slice Ao s.f1.f3.length co)), .agg (opA s.f2 (.slice Ap s.f2.f3.length cp))] ?_ Tryd.func59; refine (Transpose_any s.f1 s.f2 _ _ _ (GW.below HG.out S.below) S.now.1.2.C S.now.2.C HF.out.1 HF.out.2).mono ?_; rintro e_ w7 ⟨v, v2, rfl, hR, hR2, hb⟩; have S' := S.addR2 hb hR hR2; obtain ⟨Av, cv, rfl⟩ := hR.slice; obtain ⟨Aw, cw, rfl⟩ := hR2.slice; clear hb hR hR2; refine ⟨_, rfl, hK.out _ _ S'.d2 (fun _ => ?_)⟩; clear hK; replace S := S'; clear S'; refine nr_ ?_
      refine pu_ 7 ?_; refine pu_ 8 ?_; refine pu_ 9 ?_; refine pu_ 10 ?_
      refine so_ 13 0 S ?_; clear S; intro _ S; refine so_ 14 1 S ?_; clear S; intro _ S
   case' p11_19 =>
    intro K hK; refine kn_ 41 zA S ?_; intro _ _ S'; refine hK.out _ _ S'.d2 (fun _ => ?_); clear hK; replace S := S'; clear S'; refine nr_ ?_
    refine re_ (rc_ 5 ?p5_23 AllReadyL.nil)
    case' p5_23 =>
     intro K hK; refine kc_ #[.agg (opA s.f2 (.slice A' s.f2.f3.length c'))] ?_ Tryd.func22; refine (rcopy_any s.f2 _ _ (HB.out.below S.below) HF.out.2).mono ?_; rintro e_ w7 ⟨v, rfl, hR, hb⟩; have S' := S.addOp hb hR; obtain ⟨Ap, cp, rfl⟩ := hR.slice; clear hb hR; refine ⟨_, rfl, hK.out _ _ S'.d2 (fun _ => ?_)⟩; clear hK; replace S := S'; clear S'; refine nr_ ?_
     refine re_ (rc_ 6 ?p6_24 AllReadyL.nil)
     case' p6_24 =>
      intro K hK; refine kc_ #[.agg (opA s.f1 (.slice Ao s.f1.f3.length co)), .agg (opA s.f2 (.slice Ap s.f2.f3.length cp))] ?_ Tryd.func59; refine (Transpose_any s.f1 s.f2 _ _ _ (GW.below HG.out S.below) S.now.1.2.C S.now.2.C HF.out.1 HF.out.2).mono ?_; rintro e_ w7 ⟨v, v2, rfl, hR, hR2, hb⟩; have S' := S.addR2 hb hR hR2; obtain ⟨Av, cv, rfl⟩ := hR.slice; obtain ⟨Aw, cw, rfl⟩ := hR2.slice; clear hb hR hR2; refine ⟨_, rfl, hK.out _ _ S'.d2 (fun _ => ?_)⟩; clear hK; replace S := S'; clear S'; refine nr_ ?_
      refine pu_ 7 ?_; refine pu_ 8 ?_; refine pu_ 9 ?_; refine pu_ 10 ?_
      refine so_ 13 0 S ?_; clear S; intro _ S; refine so_ 14 1 S ?_; clear S; intro _ S
 case' p11_1 =>
  intro K hK; refine kn_ 41 zA S ?_; intro _ _ S'; refine hK.out _ _ S'.d1 (fun _ => ?_); clear hK; replace S := S'; clear S'; refine nr_ ?_
  refine re_ (rc_ 2 ?p2_25 (rc_ 12 ?p12_25 AllReadyL.nil))
  case' p2_25 =>
   intro K hK; refine kc_ #[.agg (opA s.f1 (.slice A s.f1.f3.length c))] ?_ Tryd.func22; refine (rcopy_any s.f1 _ _ (HA.out.below S.below) HF.out.1).mono ?_; rintro e_ w7 ⟨v, rfl, hR, hb⟩; obtain ⟨Ao, co, rfl⟩ := hR.slice; have S' := S.addOp hb hR; clear hb hR; refine ⟨_, rfl, hK.out _ _ S'.d1 (fun _ => ?_)⟩; clear hK; replace S := S'; clear S'; refine nr_ ?_
   refine re_ (rc_ 5 ?p5_26 (rc_ 12 ?p12_26 AllReadyL.nil))
   case' p5_26 =>
    intro K hK; refine kc_ #[.agg (opA s.f2 (.slice A' s.f2.f3.length c'))] ?_ Tryd.func22; refine (rcopy_any s.f2 _ _ (HB.out.below S.below) HF.out.2).mono ?_; rintro e_ w7 ⟨v, rfl, hR, hb⟩; have S' := S.addOp hb hR; obtain ⟨Ap, cp, rfl⟩ := hR.slice; clear hb hR; refine ⟨_, rfl, hK.out _ _ S'.d1 (fun _ => ?_)⟩; clear hK; replace S := S'; clear S'; refine nr_ ?_
    refine re_ (rc_ 6 ?p6_27 (rc_ 12 ?p12_27 AllReadyL.nil))
    case' p6_27 =>
     intro K hK; refine kc_ #[.agg (opA s.f1 (.slice Ao s.f1.f3.length co)), .agg (opA s.f2 (.slice Ap s.f2.f3.length cp))] ?_ Tryd.func59; refine (Transpose_any s.f1 s.f2 _ _ _ (GW.below HG.out S.below) S.now.1.2.C S.now.2.C HF.out.1 HF.out.2).mono ?_; rintro e_ w7 ⟨v, v2, rfl, hR, hR2, hb⟩; have S' := S.addR2 hb hR hR2; obtain ⟨Av, cv, rfl⟩ := hR.slice; obtain ⟨Aw, cw, rfl⟩ := hR2.slice; clear hb hR hR2; refine ⟨_, rfl, hK.out _ _ S'.d1 (fun _ => ?_)⟩; clear hK; replace S := S'; clear S'; refine nr_ ?_
     refine pu_ 7 ?_; refine pu_ 8 ?_; refine pu_ 9 ?_; refine pu_ 10 ?_
     refine re_ (rc_ 12 ?p12_28 AllReadyL.nil)
     case' p12_28 =>
      intro K hK; refine kn_ 41 zA S ?_; intro _ _ S'; refine hK.out _ _ S'.d2 (fun _ => ?_); clear hK; replace S := S'; clear S'; refine nr_ ?_
      refine so_ 13 1 S ?_; clear S; intro _ S; refine so_ 14 0 S ?_; clear S; intro _ S
    case' p12_27 =>
     intro K hK; refine kn_ 41 zA S ?_; intro _ _ S'; refine hK.out _ _ S'.d2 (fun _ => ?_); clear hK; replace S := S'; clear S'; refine nr_ ?_
     refine re_ (rc_ 6 ?p6_29 AllReadyL.nil)
     case' p6_29 =>
      intro K hK; refine kc_ #[.agg (opA s.f1 (.slice Ao s.f1.f3.length co)), .agg (opA s.f2 (.slice Ap s.f2.f3.length cp))] ?_ Tryd.func59; refine (Transpose_any s.f1 s.f2 _ _ _ (GW.below HG.out S.below) S.now.1.2.C S.now.2.C HF.out.1 HF.out.2).mono ?_; rintro e_ w7 ⟨v, v2, rfl, hR, hR2, hb⟩; have S' := S.addR2 hb hR hR2; obtain ⟨Av, cv, rfl⟩ := hR.slice; obtain ⟨Aw, cw, rfl⟩ := hR2.slice; clear hb hR hR2; refine ⟨_, rfl, hK.out _ _ S'.d2 (fun _ => ?_)⟩; clear hK; replace S := S'; clear S'; refine nr_ ?_
      refine pu_ 7 ?_; refine pu_ 8 ?_; refine pu_ 9 ?_; refine pu_ 10 ?_
      refine so_ 13 1 S ?_; clear S; intro _ S; refine so_ 14 0 S ?_; clear S; intro _ S
   case' p12_26 =>
    intro K hK; refine kn_ 41 zA S ?_; intro _ _ S'; refine hK.out _ _ S'.d2 (fun _ => ?_); clear hK; replace S := S'; clear S'; refine nr_ ?_
    refine re_ (rc_ 5 ?p5_30 AllReadyL.nil)
    case' p5_30 =>
     intro K hK; refine kc_ #[.agg (opA s.f2 (.slice A' s.f2.f3.length c'))] ?_ Tryd.func22; refine (rcopy_any s.f2 _ _ (HB.out.below S.below) HF.out.2).mono ?_; rintro e_ w7 ⟨v, rfl, hR, hb⟩; have S' := S.addOp hb hR; obtain ⟨Ap, cp, rfl⟩ := hR.slice; clear hb hR; refine ⟨_, rfl, hK.out _ _ S'.d2 (fun _ => ?_)⟩; clear hK; replace S := S'; clear S'; refine nr_ ?_
     refine re_ (rc_ 6 ?p6_31 AllReadyL.nil)
     case' p6_31 =>
      intro K hK; refine kc_ #[.agg (opA s.f1 (.slice Ao s.f1.f3.length co)), .agg (opA s.f2 (.slice Ap s.f2.f3.length cp))] ?_ Tryd.func59; refine (Transpose_any s.f1 s.f2 _ _ _ (GW.below HG.out S.below) S.now.1.2.C S.now.2.C HF.out.1 HF.out.2).mono ?_; rintro e_ w7 ⟨v, v2, rfl, hR, hR2, hb⟩; have S' := S.addR2 hb hR hR2; obtain ⟨Av, cv, rfl⟩ := hR.slice; obtain ⟨Aw, cw, rfl⟩ := hR2.slice; clear hb hR hR2; refine ⟨_, rfl, hK.out _ _ S'.d2 (fun _ => ?_)⟩; clear hK; replace S := S'; clear S'; refine nr_ ?_
      refine pu_ 7 ?_; refine pu_ 8 ?_; refine pu_ 9 ?_; refine pu_ 10 ?_
      refine so_ 13 1 S ?_; clear S; intro _ S; refine so_ 14 0 S ?_; clear S; intro _ S
  case' p12_25 =>
   intro K hK; refine kn_ 41 zA S ?_; intro _ _ S'; refine hK.out _ _ S'.d2 (fun _ => ?_); clear hK; replace S := S'; clear S'; refine nr_ ?_
   refine re_ (rc_ 2 ?p2_32 AllReadyL.nil)
   case' p2_32 =>
    intro K hK; refine kc_ #[.agg (opA s.f1 (.slice A s.f1.f3.length c))] ?_ Tryd.func22; refine (rcopy_any s.f1 _ _ (HA.out.below S.below) HF.out.1).mono ?_; rintro e_ w7 ⟨v, rfl, hR, hb⟩; obtain ⟨Ao, co, rfl⟩ := hR.slice; have S' := S.addOp hb hR; clear hb hR; refine ⟨_, rfl, hK.out _ _ S'.d2 (fun _ => ?_)⟩; clear hK; replace S := S'; clear S'; refine nr_ ?_
    refine re_ (rc_ 5 ?p5_33 AllReadyL.nil)
    case' p5_33 =>
     intro K hK; refine kc_ #[.agg (opA s.f2 (.slice A' s.f2.f3.length c'))] ?_ Tryd.func22; refine (rcopy_any s.f2 _ _ (HB.out.below S.below) HF.out.2).mono ?_; rintro e_ w7 ⟨v, rfl, hR, hb⟩; have S' := S.addOp hb hR; obtain ⟨Ap, cp, rfl⟩ := hR.slice; clear hb hR; refine ⟨_, rfl, hK.out _ _ S'.d2 (fun _ => ?_)⟩; clear hK; replace S := S'; clear S'; refine nr_ ?_
     refine re_ (rc_ 6 ?p6_34 AllReadyL.nil)
     case' p6_34 =>
      intro K hK; refine kc_ #[.agg (opA s.f1 (.slice Ao s.f1.f3.length co)), .agg (opA s.f2 (.slice Ap s.f2.f3.length cp))] ?_ Tryd.func59; refine (Transpose_any s.f1 s.f2 _ _ _ (GW.below HG.out S.below) S.now.1.2.C S.now.2.C HF.out.1 HF.out.2).mono ?_; rintro e_ w7 ⟨v, v2, rfl, hR, hR2, hb⟩; have S' := S.addR2 hb hR hR2; obtain ⟨Av, cv, rfl⟩ := hR.slice; obtain ⟨Aw, cw, rfl⟩ := hR2.slice; clear hb hR hR2; refine ⟨_, rfl, hK.out _ _ S'.d2 (fun _ => ?_)⟩; clear hK; replace S := S'; clear S'; refine nr_ ?_
      refine pu_ 7 ?_; refine pu_ 8 ?_; refine pu_ 9 ?_; refine pu_ 10 ?_
      refine so_ 13 1 S ?_; clear S; intro _ S; refine so_ 14 0 S ?_; clear S; intro _ S
 case' p12_1 =>
  intro K hK; refine kn_ 41 zA S ?_; intro _ _ S'; refine hK.out _ _ S'.d1 (fun _ => ?_); clear hK; replace S := S'; clear S'; refine nr_ ?_
  refine re_ (rc_ 2 ?p2_35 (rc_ 11 ?p11_35 AllReadyL.nil))
  case' p2_35 =>
   intro K hK; refine kc_ #[.agg (opA s.f1 (.slice A s.f1.f3.length c))] ?_ Tryd.func22; refine (rcopy_any s.f1 _ _ (HA.out.below S.below) HF.out.1).mono ?_; rintro e_ w7 ⟨v, rfl, hR, hb⟩; obtain ⟨Ao, co, rfl⟩ := hR.slice; have S' := S.addOp hb hR; clear hb hR; refine ⟨_, rfl, hK.out _ _ S'.d1 (fun _ => ?_)⟩; clear hK; replace S := S'; clear S'; refine nr_ ?_
   refine re_ (rc_ 5 ?p5_36 (rc_ 11 ?p11_36 AllReadyL.nil))
   case' p5_36 =>
    intro K hK; refine kc_ #[.agg (opA s.f2 (.slice A' s.f2.f3.length c'))] ?_ Tryd.func22; refine (rcopy_any s.f2 _ _ (HB.out.below S.below) HF.out.2).mono ?_; rintro e_ w7 ⟨v, rfl, hR, hb⟩; have S' := S.addOp hb hR; obtain ⟨Ap, cp, rfl⟩ := hR.slice; clear hb hR; refine ⟨_, rfl, hK.out _ _ S'.d1 (fun _ => ?_)⟩; clear hK; replace S := S'; clear S'; refine nr_ ?_
    refine re_ (rc_ 6 ?p6_37 (rc_ 11 ?p11_37 AllReadyL.nil))
    case' p6_37 =>
     intro K hK; refine kc_ #[.agg (opA s.f1 (.slice Ao s.f1.f3.length co)), .agg (opA s.f2 (.slice Ap s.f2.f3.length cp))] ?_ Tryd.func59; refine (Transpose_any s.f1 s.f2 _ _ _ (GW.below HG.out S.below) S.now.1.2.C S.now.2.C HF.out.1 HF.out.2).mono ?_; rintro e_ w7 ⟨v, v2, rfl, hR, hR2, hb⟩; have S' := S.addR2 hb hR hR2; obtain ⟨Av, cv, rfl⟩ := hR.slice; obtain ⟨Aw, cw, rfl⟩ := hR2.slice; clear hb hR hR2; refine ⟨_, rfl, hK.out _ _ S'.d1 (fun _ => ?_)⟩; clear hK; replace S := S'; clear S'; refine nr_ ?_
     refine pu_ 7 ?_; refine pu_ 8 ?_; refine pu_ 9 ?_; refine pu_ 10 ?_
     refine re_ (rc_ 11 ?p11_38 AllReadyL.nil)
     case' p11_38 =>
      intro K hK; refine kn_ 41 zA S ?_; intro _ _ S'; refine hK.out _ _ S'.d2 (fun _ => ?_); clear hK; replace S := S'; clear S'; refine nr_ ?_
      refine so_ 13 0 S ?_; clear S; intro _ S; refine so_ 14 1 S ?_; clear S; intro _ S
    case' p11_37 =>
     intro K hK; refine kn_ 41 zA S ?_; intro _ _ S'; refine hK.out _ _ S'.d2 (fun _ => ?_); clear hK; replace S := S'; clear S'; refine nr_ ?_
     refine re_ (rc_ 6 ?p6_39 AllReadyL.nil)
     case' p6_39 =>
      intro K hK; refine kc_ #[.agg (opA s.f1 (.slice Ao s.f1.f3.length co)), .agg (opA s.f2 (.slice Ap s.f2.f3.length cp))] ?_ Tryd.func59; refine (Transpose_any s.f1 s.f2 _ _ _ (GW.below HG.out S.below) S.now.1.2.C S.now.2.C HF.out.1 HF.out.2).mono ?_; rintro e_ w7 ⟨v, v2, rfl, hR, hR2, hb⟩; have S' := S.addR2 hb hR hR2; obtain ⟨Av, cv, rfl⟩ := hR.slice; obtain ⟨Aw, cw, rfl⟩ := hR2.slice; clear hb hR hR2; refine ⟨_, rfl, hK.out _ _ S'.d2 (fun _ => ?_)⟩; clear hK; replace S := S'; clear S'; refine nr_ ?_
      refine pu_ 7 ?_; refine pu_ 8 ?_; refine pu_ 9 ?_; refine pu_ 10 ?_
      refine so_ 13 0 S ?_; clear S; intro _ S; refine so_ 14 1 S ?_; clear S; intro _ S
   case' p11_36 =>
    intro K hK; refine kn_ 41 zA S ?_; intro _ _ S'; refine hK.out _ _ S'.d2 (fun _ => ?_); clear hK; replace S := S'; clear S'; refine nr_ ?_
    refine re_ (rc_ 5 ?p5_40 AllReadyL.nil)
    case' p5_40 =>
     intro K hK; refine kc_ #[.agg (opA s.f2 (.slice A' s.f2.f3.length c'))] ?_ Tryd.func22; refine (rcopy_any s.f2 _ _ (HB.out.below S.below) HF.out.2).mono ?_; rintro e_ w7 ⟨v, rfl, hR, hb⟩; have S' := S.addOp hb hR; obtain ⟨Ap, cp, rfl⟩ := hR.slice; clear hb hR; refine ⟨_, rfl, hK.out _ _ S'.d2 (fun _ => ?_)⟩; clear hK; replace S := S'; clear S'; refine nr_ ?_
     refine re_ (rc_ 6 ?p6_41 AllReadyL.nil)
     case' p6_41 =>
      intro K hK; refine kc_ #[.agg (opA s.f1 (.slice Ao s.f1.f3.length co)), .agg (opA s.f2 (.slice Ap s.f2.f3.length cp))] ?_ Tryd.func59; refine (Transpose_any s.f1 s.f2 _ _ _ (GW.below HG.out S.below) S.now.1.2.C S.now.2.C HF.out.1 HF.out.2).mono ?_; rintro e_ w7 ⟨v, v2, rfl, hR, hR2, hb⟩; have S' := S.addR2 hb hR hR2; obtain ⟨Av, cv, rfl⟩ := hR.slice; obtain ⟨Aw, cw, rfl⟩ := hR2.slice; clear hb hR hR2; refine ⟨_, rfl, hK.out _ _ S'.d2 (fun _ => ?_)⟩; clear hK; replace S := S'; clear S'; refine nr_ ?_
      refine pu_ 7 ?_; refine pu_ 8 ?_; refine pu_ 9 ?_; refine pu_ 10 ?_
      refine so_ 13 0 S ?_; clear S; intro _ S; refine so_ 14 1 S ?_; clear S; intro _ S
  case' p11_35 =>
   intro K hK; refine kn_ 41 zA S ?_; intro _ _ S'; refine hK.out _ _ S'.d2 (fun _ => ?_); clear hK; replace S := S'; clear S'; refine nr_ ?_
   refine re_ (rc_ 2 ?p2_42 AllReadyL.nil)
   case' p2_42 =>
    intro K hK; refine kc_ #[.agg (opA s.f1 (.slice A s.f1.f3.length c))] ?_ Tryd.func22; refine (rcopy_any s.f1 _ _ (HA.out.below S.below) HF.out.1).mono ?_; rintro e_ w7 ⟨v, rfl, hR, hb⟩; obtain ⟨Ao, co, rfl⟩ := hR.slice; have S' := S.addOp hb hR; clear hb hR; refine ⟨_, rfl, hK.out _ _ S'.d2 (fun _ => ?_)⟩; clear hK; replace S := S'; clear S'; refine nr_ ?_
    refine re_ (rc_ 5 ?p5_43 AllReadyL.nil)
    case' p5_43 =>
     intro K hK; refine kc_ #[.agg (opA s.f2 (.slice A' s.f2.f3.length c'))] ?_ Tryd.func22; refine (rcopy_any s.f2 _ _ (HB.out.below S.below) HF.out.2).mono ?_; rintro e_ w7 ⟨v, rfl, hR, hb⟩; have S' := S.addOp hb hR; obtain ⟨Ap, cp, rfl⟩ := hR.slice; clear hb hR; refine ⟨_, rfl, hK.out _ _ S'.d2 (fun _ => ?_)⟩; clear hK; replace S := S'; clear S'; refine nr_ ?_
     refine re_ (rc_ 6 ?p6_44 AllReadyL.nil)
     case' p6_44 =>
      intro K hK; refine kc_ #[.agg (opA s.f1 (.slice Ao s.f1.f3.length co)), .agg (opA s.f2 (.slice Ap s.f2.f3.length cp))] ?_ Tryd.func59; refine (Transpose_any s.f1 s.f2 _ _ _ (GW.below HG.out S.below) S.now.1.2.C S.now.2.C HF.out.1 HF.out.2).mono ?_; rintro e_ w7 ⟨v, v2, rfl, hR, hR2, hb⟩; have S' := S.addR2 hb hR hR2; obtain ⟨Av, cv, rfl⟩ := hR.slice; obtain ⟨Aw, cw, rfl⟩ := hR2.slice; clear hb hR hR2; refine ⟨_, rfl, hK.out _ _ S'.d2 (fun _ => ?_)⟩; clear hK; replace S := S'; clear S'; refine nr_ ?_
      refine pu_ 7 ?_; refine pu_ 8 ?_; refine pu_ 9 ?_; refine pu_ 10 ?_
      refine so_ 13 0 S ?_; clear S; intro _ S; refine so_ 14 1 S ?_; clear S; intro _ S
 all_goals (refine pu_ 15 ?_; refine done_ (by kernel_rfl) ?_; replace S := Aside0.mk S; go_wp2_with (first | ((with_reducible refine gate_new rfl ?_); refine ev_new S 41 zA ?_; clear S; intro _ _ S) | ((with_reducible refine gate_load rfl ?_); refine ev_load S ?_) | ((with_reducible refine gate_load rfl ?_); first | refine ev_sub S (opA s.f1 (.slice A s.f1.f3.length c)) ?_ | refine ev_sub S (opA s.f2 (.slice A' s.f2.f3.length c')) ?_) | ((with_reducible refine gate_st rfl ?_); refine ev_store S ?_; clear S; intro _ S) | (go_at_call 80; (with_reducible refine (rTranspose_any s.f1 s.f2 _ _ _ (HA.out.below S.out.below) (HB.out.below S.out.below) HF.out.1 HF.out.2).mono ?_); rintro e_ w7 ⟨v, v2, rfl, hR, hR2, hb⟩; obtain ⟨Au, cu, rfl⟩ := hR.slice; obtain ⟨Az, cz, rfl⟩ := hR2.slice; replace S := Aside0.mk (S.out.addR2 hb hR hR2); clear hb hR hR2) | (go_at_call 81; (with_reducible refine (two_any (wrap2 s.f1 s.f2 (trE s.f1 s.f2)).1 (wrap2 s.f1 s.f2 (trE s.f1 s.f2)).2.1 (wrap2 s.f1 s.f2 (trE s.f1 s.f2)).2.2 _ _ _ _ _ (opC_R S.out.now.1.1.1.2) (opC_R S.out.now.1.2) HLN.out.1 (opC_R S.out.now.1.1.2) (opC_R S.out.now.2) HLN.out.2).mono ?_); rintro e_ w7 ⟨rfl, hb⟩; replace S := Aside0.mk (S.out.step hb); clear hb)); go_ret; exact ⟨rfl, S.out.below⟩)
end Go.Proofs.YtloccjkcmlkifaaDoor
end

section
/- An insert as the statements make it. -/
namespace Go.Proofs.YtloccjkcmlkifaaDoor
open Go.RowKit Go.Proofs.YtloccjkcmlkifaaDoor.PAll Go.Proofs.YtloccjkcmlkifaaDoorW.PrintWords Go.Proofs.YtloccjkcmlkifaaDoorW.PrintLast

abbrev insO (c n at_ : Int) (t : ByteArray) : S41 := ⟨⟨⟨c, n⟩, 1⟩, at_, t, [], ⟨0, 0⟩, false⟩
theorem opC_nil (w : World) (o : S41) (h : o.f3 = []) : OpC w (.slice none 0 0) o := by
 have e : k94.C w none 0 [] := by
  have := (opR_nil w 0).C
  obtain ⟨A, c, e, _, h⟩ := this
  injection e with e1 _ _
  rw [← e1] at h; exact h
 exact ⟨none, 0, by rw [h]; rfl, by rw [h]; exact Nat.le_refl _, by rw [h]; exact e⟩
theorem ins_any (c n at_ : Int) (t : ByteArray) (w : World) : Calls Tryd.prog 25 #[.int .i64 c, .int .i64 n, .int .i64 at_, .string t] w fun e w' => e = .returned (.agg (opA (insO c n at_ t) (.slice none 0 0))) ∧ Below w.heap.size w w' := by
 have S := Aside0.mk (St.init w (F := fun _ => True) (fun _ _ => trivial))
 go_enter Tryd.func25, Tryd.ntmps25
 go_wp2_with (first | ((with_reducible refine gate_new rfl ?_); refine ev_new S 41 zA ?_; clear S; intro _ _ S) | ((with_reducible refine gate_st rfl ?_); refine ev_store S ?_; clear S; intro _ S))
 exact bodyPost_ret (results_cell_row rfl _ _ _ 41 _ (0, 0) _ rfl (S.out.at_ 0 rfl) Tryd.underlying41 rfl (by kernel_rfl)) rfl ⟨rfl, S.out.below⟩
end Go.Proofs.YtloccjkcmlkifaaDoor
end

section
/- The document's own examples, played. -/
namespace Go.Proofs.YtloccjkcmlkifaaDoor
open Go.RowKit Go.Proofs.YtloccjkcmlkifaaDoor.PAll Go.Proofs.YtloccjkcmlkifaaDoorW.PrintWords Go.Proofs.YtloccjkcmlkifaaDoorW.PrintLast

abbrev ax : S41 := insO 1 1 3 ⟨#[120, 121]⟩
abbrev bx : S41 := insO 2 1 3 ⟨#[97, 98, 99]⟩
abbrev cx : S41 := insO 1 1 5 ⟨#[120]⟩
abbrev dx : S41 := insO 1 1 3 ⟨#[97, 98, 99]⟩
abbrev ex : S41 := insO 2 1 3 ⟨#[120]⟩
theorem aw1 : wrap1 ax bx (incE ax bx true) = (insO 1 1 6 ⟨#[120, 121]⟩, 0) := by kernel_rfl
theorem aw2 : wrap1 ax bx (incE ax bx false) = (insO 1 1 3 ⟨#[120, 121]⟩, 0) := by kernel_rfl
theorem aw3 : wrap1 cx bx (excE cx bx) = (z41, 23) := by kernel_rfl
theorem aw4 : wrap2 dx ex (trE dx ex) = (insO 2 1 3 ⟨#[120]⟩, insO 1 1 4 ⟨#[97, 98, 99]⟩, 0) := by kernel_rfl
theorem fine_ins (c n p : Int) (t : ByteArray) (h : t.size ≤ 1048576) : fineOp (insO c n p t) := ⟨h, by simp⟩
set_option maxRecDepth 100000 in
set_option maxHeartbeats 4000000 in
theorem awake_any (w : World) (hG : GW w) : Calls Tryd.prog 31 #[] w (Yes w) := by
 have S := Aside0.mk (St.init w (F := fun _ => True) (fun _ _ => trivial))
 have HG := Aside0.mk hG
 have HFA := Aside0.mk (fine_ins 1 1 3 ⟨#[120, 121]⟩ (by decide)); have HFB := Aside0.mk (fine_ins 2 1 3 ⟨#[97, 98, 99]⟩ (by decide)); have HFC := Aside0.mk (fine_ins 1 1 5 ⟨#[120]⟩ (by decide))
 have HFD := Aside0.mk (fine_ins 1 1 3 ⟨#[97, 98, 99]⟩ (by decide)); have HFE := Aside0.mk (fine_ins 2 1 3 ⟨#[120]⟩ (by decide))
 clear hG
 go_enter Tryd.func31, Tryd.ntmps31
 go_wp2_with (first | (go_at_call 25; (with_reducible refine (ins_any _ _ _ _ _).mono ?_); rintro e_ w7 ⟨rfl, hb⟩; replace S := Aside0.mk (S.out.step hb); clear hb) | (go_at_call 26; (with_reducible refine (Include_any ax bx _ _ _ _ (GW.below HG.out S.out.below) (opC_nil _ ax rfl) (opC_nil _ bx rfl) HFA.out HFB.out).mono ?_); rintro e_ w7 ⟨v, rfl, hR, hb⟩; (first | rw [aw1] at hR ⊢ | rw [aw2] at hR ⊢); obtain ⟨Ao, co, rfl⟩ := hR.slice; replace S := Aside0.mk (S.out.addOp hb hR); clear hb hR) | (go_at_call 58; (with_reducible refine (Exclude_any cx bx _ _ _ (GW.below HG.out S.out.below) (opC_nil _ cx rfl) (opC_nil _ bx rfl) HFC.out HFB.out).mono ?_); rintro e_ w7 ⟨v, rfl, hR, hb⟩; rw [aw3] at hR ⊢; obtain ⟨Ao, co, rfl⟩ := hR.slice; replace S := Aside0.mk (S.out.addOp hb hR); clear hb hR) | (go_at_call 59; (with_reducible refine (Transpose_any dx ex _ _ _ (GW.below HG.out S.out.below) (opC_nil _ dx rfl) (opC_nil _ ex rfl) HFD.out HFE.out).mono ?_); rintro e_ w7 ⟨v, v2, rfl, hR, hR2, hb⟩; rw [aw4] at hR hR2 ⊢; obtain ⟨Ao, co, rfl⟩ := hR.slice; obtain ⟨Ap, cp, rfl⟩ := hR2.slice; replace S := Aside0.mk (S.out.addR2 hb hR hR2); clear hb hR hR2) | ((with_reducible refine gate_new rfl ?_); refine ev_new S 41 zA ?_; clear S; intro _ _ S) | ((with_reducible refine gate_st rfl ?_); refine ev_store S ?_; clear S; intro _ S) | ((with_reducible refine gate_load rfl ?_); refine ev_fld S ?_) | (go_at_call 23; (with_reducible refine (num_any _ _).mono ?_); rintro e_ w7 ⟨rfl, hb⟩; replace S := Aside0.mk (S.out.step hb); clear hb))
 go_ret
 exact ⟨rfl, S.out.below⟩
end Go.Proofs.YtloccjkcmlkifaaDoor
end

section
/- XformTransposes: every Transpose is the document's. -/
namespace Go.Proofs.YtloccjkcmlkifaaDoor
open Go.RowKit Go.Proofs.YtloccjkcmlkifaaDoor.PAll Go.Proofs.YtloccjkcmlkifaaDoorW.PrintWords Go.Proofs.YtloccjkcmlkifaaDoorW.PrintLast

set_option maxRecDepth 100000 in
theorem XformTransposes_any (l : List S100) (A : Option Addr) (c : Nat) (w : World) (hG : GW w) (hl : l.length ≤ 1048576) (h : k100.C w A l.length l) (hf : ∀ s ∈ l, fineStep s) : Calls Tryd.prog 12 #[.slice A l.length c] w (Yes w) := by
 have S := Aside0.mk (St.init w (F := fun _ => True) (fun _ _ => trivial))
 have HG := Aside0.mk hG; have HC := Aside0.mk h; have HL := Aside0.mk hl
 have HP : Aside0 (∀ s ∈ l, 3 ≤ s.f0 → s.f0 ≤ 3 → PlaysYes s) := ⟨fun s hs h1 h2 => plays_transpose s (hf s hs) (by omega)⟩
 clear hG h hl hf
 go_enter Tryd.func12, Tryd.ntmps12
 go_wp2_with (first | (go_at_call 31; (with_reducible refine (awake_any _ (GW.below HG.out S.out.below)).mono ?_); rintro e_ w7 ⟨rfl, hb⟩; replace S := Aside0.mk (S.out.step hb); clear hb) | (go_at_call 51; (with_reducible refine (played_any l 3 3 A c _ (GW.below HG.out S.out.below) HL.out (Kd.C_below HC.out S.out.below) HP.out).mono ?_); rintro e_ w7 ⟨rfl, hb⟩; replace S := Aside0.mk (S.out.step hb); clear hb))
 go_ret
 exact ⟨rfl, S.out.below⟩
end Go.Proofs.YtloccjkcmlkifaaDoor
end
