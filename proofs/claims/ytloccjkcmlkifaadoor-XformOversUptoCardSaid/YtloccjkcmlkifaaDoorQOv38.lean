/- XformOvers_card, part 38. -/
import Derived.Test.YtloccjkcmlkifaaDoorQOv37
import Derived.Test.YtloccjkcmlkifaaDoorQOv24
import Derived.Test.YtloccjkcmlkifaaDoorQOv29
import Derived.Test.YtloccjkcmlkifaaDoorQOv35
section
namespace Go.Proofs.YtloccjkcmlkifaaDoor
open Go.RowKit Go.Proofs.YtloccjkcmlkifaaDoor.PAll Go.Proofs.YtloccjkcmlkifaaDoorW.PrintWords Go.Proofs.YtloccjkcmlkifaaDoorW.PrintLast
theorem context_any (w : World) : Calls Tryd.prog 104 #[] w fun e w' => ∃ v, e = .returned v ∧ (∃ A c, v = .slice A 1 c ∧ 1 ≤ c) ∧ Kd.R k154 154 w' w.heap.size (fun _ => True) v [(⟨0, 0, 2097152⟩ : S154)] ∧ Below w.heap.size w w' :=
  (redraftref05_context.calls [(⟨0, 0, 2097152⟩ : S154)] w rfl).mono fun e w' ⟨v, he, hr, hb⟩ => by
    obtain ⟨A, c, e1, h1, _⟩ := Kd.R_reads hr
    exact ⟨v, he, ⟨A, c, e1, h1⟩, hr, hb⟩
def RowC (w : World) (v : Value) (l : List S154) : Prop := ∃ A c, v = .slice A l.length c ∧ l.length ≤ c ∧ k154.C w A l.length l
theorem rowC_of {w : World} {base : Nat} {v : Value} {l : List S154} (h : Kd.R k154 154 w base (fun _ => True) v l) : RowC w v l := Kd.R_reads h
theorem with_any (row l : List S154) (k : Nat) (vr : Value) (who p n : Int) (w : World) (hr : RowC w vr row) (h : redraftref05_with.f k row who p n = some l) :
    Calls Tryd.prog 103 #[vr, .int .i64 who, .int .i64 p, .int .i64 n] w fun e w' => ∃ v, e = .returned v ∧ Kd.R k154 154 w' w.heap.size (fun _ => True) v l ∧ Below w.heap.size w w' := by
  obtain ⟨A, c, rfl, h1, h2⟩ := hr
  exact redraftref05_with.calls k A c row who p n l w h2 h1 h
theorem place_any (row : List S154) (k : Nat) (vr : Value) (who x r : Int) (w : World) (hr : RowC w vr row) (h : redraftref05_place.f k row who x = some r) :
    Calls Tryd.prog 106 #[vr, .int .i64 who, .int .i64 x] w fun e w' => e = .returned (.int .i64 r) ∧ Below w.heap.size w w' := by
  obtain ⟨A, c, rfl, h1, h2⟩ := hr
  exact redraftref05_place.calls k A c row who x r w h2 h1 h
theorem found_any (row row2 : List S154) (l r : List S94) (q : Int) (k : Nat) (vr vr2 : Value) (A : Option Addr) (c : Nat) (w : World) (hr : RowC w vr row) (hr2 : RowC w vr2 row2) (h1 : l.length ≤ c) (h2 : k94.C w A l.length l) (h : redraftref05_found.f k row row2 l = some (r, q)) :
    Calls Tryd.prog 110 #[vr, vr2, .slice A l.length c] w fun e w' => ∃ v, e = .returned (.tuple #[v, .int .i64 q]) ∧ Kd.R k94 94 w' w.heap.size (fun _ => True) v r ∧ Below w.heap.size w w' := by
  obtain ⟨A1, c1, rfl, g1, g2⟩ := hr
  obtain ⟨A2, c2, rfl, g3, g4⟩ := hr2
  exact redraftref05_found.calls k A1 c1 row A2 c2 row2 A c l r q w g2 g1 g4 g3 h2 h1 h
abbrev ctx0 : List S154 := [(⟨0, 0, 2097152⟩ : S154)]
theorem place_in (k : Nat) (who p n : Int) (hw : who ≠ 0) (h0 : 0 ≤ p) (h1 : p ≤ 1048576) (hn : 1 ≤ n ∧ n ≤ 1048576) : redraftref05_place.f (k + 4) (ctxWith who p n) who 0 = some p := by
  unfold redraftref05_place.f
  rw [show (0 : Int) = ((0 : Nat) : Int) from rfl]
  by_cases h : p > 0
  · have hc : ctxWith who p n = [⟨0, 0, p⟩, ⟨who, 0, n⟩, ⟨0, p, 2097152⟩] := by unfold ctxWith; rw [if_pos h]; rfl
    rw [hc, show k + 4 = (k + 3) + 1 from rfl, place_step (k + 3) _ _ _ _ 0 (by simp) (by simp) ⟨0, 0, p⟩ rfl (by simp; omega), if_neg (fun h => hw h.1.symm)]
    simp only
    rw [show k + 3 = (k + 2) + 1 from rfl, place_step (k + 2) _ _ _ _ 1 (by simp) (by simp) ⟨who, 0, n⟩ rfl (by simp; omega), if_pos ⟨rfl, by simp, by show ((0 : Nat) : Int) < n; omega⟩]
    congr 1
    show ((0 : Nat) : Int) + p - 0 + ((0 : Nat) : Int) - 0 = p
    omega
  · obtain rfl : p = 0 := by omega
    have hc : ctxWith who 0 n = [⟨who, 0, n⟩, ⟨0, 0, 2097152⟩] := rfl
    rw [hc, show k + 4 = (k + 3) + 1 from rfl, place_step (k + 3) _ _ _ _ 0 (by simp) (by simp) ⟨who, 0, n⟩ rfl (by simp; omega), if_pos ⟨rfl, by simp, by show ((0 : Nat) : Int) < n; omega⟩]
    rfl
attribute [local go_sem high] eqA35 idx35_0 idx35_1
set_option maxRecDepth 100000 in
set_option maxHeartbeats 8000000 in
theorem rinclude_any (a b : S41) (e : Bool) (va vb : Value) (r : List S94 × Int) (w : World) (ha : OpC w va a) (hb : OpC w vb b) (fa : Fit a) (fb : Fit b) (na : fineOp a) (nb : fineOp b) (oa : ownE a = 0) (ob : ownE b = 0)
    (e3 : a.f0.f1 = 1 → a.f3 = []) (em : a.f0.f1 = 1 → moveE a a.f1 = (a, 0))
    (hr : a.f0.f1 = 2 ∨ a.f0.f1 = 3 → b.f0.f1 = 1 → ∃ k l q, redraftref05_found.f k ctx0 (ctxWith 2 b.f1 (wid b)) a.f3 = some (l, q) ∧ l.length ≤ 4611686018427387904 ∧ covE a l = rangedE a r) :
    Calls Tryd.prog 96 #[.agg (opA a va), .agg (opA b vb), .bool e] w (RetOp w (incP a b e r)) := by
  obtain ⟨A, c, rfl, h1, h2⟩ := ha
  obtain ⟨B, d, rfl, h3, h4⟩ := hb
  have S := Aside0.mk (St.init w (F := fun _ => True) (fun _ _ => trivial))
  have H1 := Aside0.mk h1; have H2 := Aside0.mk h2
  have HA := Aside0.mk (opC_mk h1 h2); have HB := Aside0.mk (opC_mk h3 h4)
  have HF := Aside0.mk (show fineOp a ∧ fineOp b ∧ ownE b = 0 from ⟨na, nb, ob⟩)
  have ka := own_ok oa
  clear h1 h2 h3 h4
  unfold incP
  by_cases hcl : clashB a b = true
  · rw [if_pos hcl]
    have HC := Aside0.mk hcl
    clear hcl hr e3 em ka
    go_enter Tryd.func96, Tryd.ntmps96
    go_wp2_with (first | ((with_reducible refine gate_box rfl ?_); refine ev_box S ?_; clear S; intro _ _ S) | ((with_reducible refine gate_new rfl ?_); refine ev_new S 41 zA ?_; clear S; intro _ _ S) | ((with_reducible refine gate_load rfl ?_); first | refine ev_load S 0 ?_ | refine ev_load S 1 ?_ | refine ev_load S 2 ?_ | refine ev_load S 3 ?_) | ((with_reducible refine gate_load rfl ?_); first | refine ev_fld S 0 ?_ | refine ev_fld S 1 ?_ | refine ev_fld S 2 ?_ | refine ev_fld S 3 ?_) | ((with_reducible refine gate_st rfl ?_); (first | refine ev_store S 0 ?_ | refine ev_store S 1 ?_ | refine ev_store S 2 ?_); clear S; intro _ S) | (go_at_call 108; (with_reducible refine (isC_any a b _ _ HC.out).mono ?_); rintro e w7 ⟨rfl, hb⟩; replace S := Aside0.mk (S.out.step hb); clear hb) | (go_at_call 105; (with_reducible refine (rwidth_any b _ _ (HB.out.below S.out.below) HF.out.2.1 HF.out.2.2).mono ?_); rintro e w7 ⟨rfl, hb⟩; replace S := Aside0.mk (S.out.step hb); clear hb))
    exact bodyPost_ret (results_ct rfl _ _ _ 41 zA (0, 0) _ rfl (S.out.at_ 0 rfl) Tryd.underlying41 rfl (by kernel_rfl)) rfl ⟨.slice none 0 0, rfl, opR_nil _ _, S.out.below⟩
  rw [if_neg hcl]
  have HC : Aside0 (clashB a b = false) := ⟨by simpa using hcl⟩
  clear hcl
  by_cases hk : b.f0.f1 = 1
  case neg =>
    rw [if_pos hk]
    have hk' : (b.f0.f1 != 1) = true := bne_iff_ne.mpr hk
    clear hk hr e3 em ka
    go_enter Tryd.func96, Tryd.ntmps96
    go_wp2_with (first | ((with_reducible refine gate_box rfl ?_); refine ev_box S ?_; clear S; intro _ _ S) | ((with_reducible refine gate_new rfl ?_); refine ev_new S 41 zA ?_; clear S; intro _ _ S) | ((with_reducible refine gate_load rfl ?_); first | refine ev_load S 0 ?_ | refine ev_load S 1 ?_ | refine ev_load S 2 ?_ | refine ev_load S 3 ?_) | ((with_reducible refine gate_load rfl ?_); first | refine ev_fld S 0 ?_ | refine ev_fld S 1 ?_ | refine ev_fld S 2 ?_ | refine ev_fld S 3 ?_) | ((with_reducible refine gate_st rfl ?_); (first | refine ev_store S 0 ?_ | refine ev_store S 1 ?_ | refine ev_store S 2 ?_); clear S; intro _ S) | (go_at_call 108; (with_reducible refine (isC_any a b _ _ HC.out).mono ?_); rintro e w7 ⟨rfl, hb⟩; replace S := Aside0.mk (S.out.step hb); clear hb) | (go_at_call 105; (with_reducible refine (rwidth_any b _ _ (HB.out.below S.out.below) HF.out.2.1 HF.out.2.2).mono ?_); rintro e w7 ⟨rfl, hb⟩; replace S := Aside0.mk (S.out.step hb); clear hb) | (go_at_call 22; (with_reducible refine (rcopy_any a _ _ (HA.out.below S.out.below) HF.out.1).mono ?_); rintro e w7 ⟨v, rfl, hR, hb⟩; obtain ⟨Ao, co, rfl⟩ := hR.slice; replace S := Aside0.mk (S.out.addOp hb hR); clear hb hR))
    exact bodyPost_ret (results_ct rfl _ _ _ 41 _ (0, 0) _ rfl (S.out.at_ 0 rfl) Tryd.underlying41 rfl (by kernel_rfl)) rfl ⟨_, rfl, S.out.now.2, S.out.below⟩
  rw [if_neg (show ¬ b.f0.f1 ≠ 1 from fun h => h hk)]
  have hk' : (b.f0.f1 != 1) = false := bne_eq_false_iff_eq.mpr hk
  have hbi := own_ins ob nb.1 hk
  have hwb : wid b = (chk b.f2).1 := if_pos hk
  have HW := Aside0.mk (with_ctx 0 2 b.f1 (wid b) hbi.1 hbi.2.1)
  by_cases k1 : a.f0.f1 = 1
  · rw [if_pos k1]
    have k4' : (a.f0.f1 == 4) = false := by simp [k1]
    have k1' : (a.f0.f1 == 1) = true := by simp [k1]
    have hpl := place_ctx 0 2 b.f1 (wid b) a.f1 (by omega) hbi.1 hbi.2.1 ⟨by have := fb.wid; omega, fb.wid.2⟩ fa.at_.1 fa.at_.2
    have hpi := place_in 0 2 b.f1 (wid b) (by omega) hbi.1 hbi.2.1 ⟨by omega, fb.wid.2⟩
    have HM0 : ∀ p : Int, 0 ≤ p → p ≤ 4194304 → Aside0 (ownE a = 0 ∧ a.f3 = [] ∧ (0 ≤ p ∧ p ≤ 4194304) ∧ (0 ≤ wid a ∧ wid a ≤ 1048576)) := fun p h1 h2 => ⟨oa, e3 k1, ⟨h1, h2⟩, fa.wid⟩
    have hem := em k1
    have fat := fa.at_
    have fbw := fb.wid
    clear hr e3 em ka hk k1
    by_cases hlt : b.f1 < a.f1
    · rw [if_pos (.inl hlt)]
      rw [if_neg (show ¬ a.f1 < b.f1 by omega)] at hpl
      have HP := Aside0.mk hpl
      have HM := HM0 (a.f1 + wid b) (by omega) (by omega)
      have q1 : (a.f1 == b.f1) = false := beq_eq_false_iff_ne.mpr (by omega)
      clear hpl hpi HM0 hem fat fbw hlt hbi hwb
      go_enter Tryd.func96, Tryd.ntmps96
      go_wp2_with (first | ((with_reducible refine gate_box rfl ?_); refine ev_box S ?_; clear S; intro _ _ S) | ((with_reducible refine gate_new rfl ?_); refine ev_new S 41 zA ?_; clear S; intro _ _ S) | ((with_reducible refine gate_load rfl ?_); first | refine ev_load S 0 ?_ | refine ev_load S 1 ?_ | refine ev_load S 2 ?_ | refine ev_load S 3 ?_) | ((with_reducible refine gate_load rfl ?_); first | refine ev_fld S 0 ?_ | refine ev_fld S 1 ?_ | refine ev_fld S 2 ?_ | refine ev_fld S 3 ?_) | ((with_reducible refine gate_st rfl ?_); (first | refine ev_store S 0 ?_ | refine ev_store S 1 ?_ | refine ev_store S 2 ?_); clear S; intro _ S) | (go_at_call 108; (with_reducible refine (isC_any a b _ _ HC.out).mono ?_); rintro e w7 ⟨rfl, hb⟩; replace S := Aside0.mk (S.out.step hb); clear hb) | (go_at_call 105; (with_reducible refine (rwidth_any b _ _ (HB.out.below S.out.below) HF.out.2.1 HF.out.2.2).mono ?_); rintro e w7 ⟨rfl, hb⟩; replace S := Aside0.mk (S.out.step hb); clear hb))
      (refine rg_start (n := 6) (fun W => St w W _ _) [] S.out (fun _ h => h.drew) ?_; clear S; intro _ S; refine pu_ 1 ?_; refine fl_ 2 1 S (fun _ h => h) ?_; refine pu_ 3 ?_; refine cl_ 0 #[] ?_ Tryd.func104; refine (context_any _).mono ?_; rintro e w7 ⟨v, rfl, ⟨Ar, cr, rfl, _⟩, hR, hb⟩; refine ⟨_, rfl, S.step hb, fun _ => ?_⟩; have S' := S.addR hb hR; clear S hb hR; have S := S'; clear S'; refine nr_ (by (simp only [Act.put, List.setIfInBounds_toArray, List.set_cons_zero, List.set_cons_succ]; rfl)) ?_; refine cl_ 4 #[.slice Ar 1 cr, .int .i64 2, .int .i64 b.f1, .int .i64 (wid b)] ?_ Tryd.func103; refine (with_any ctx0 _ _ _ 2 b.f1 (wid b) _ (rowC_of S.now.2) HW.out).mono ?_; rintro e w7 ⟨v, rfl, hR, hb⟩; obtain ⟨Aw, cw, rfl⟩ := Kd.R_slice hR; refine ⟨_, rfl, (S.step hb).weak (fun _ h => h.1), fun _ => ?_⟩; have S' := (S.weak (fun _ h => h.1)).addR hb hR; clear S hb hR; have S := S'; clear S'; refine nr_ (by (simp only [Act.put, List.setIfInBounds_toArray, List.set_cons_zero, List.set_cons_succ]; rfl)) ?_; refine pu_ 5 ?_; refine done_ (by kernel_rfl) ?_; have S := Aside0.mk S)
      go_wp2_with (first | ((with_reducible refine gate_box rfl ?_); refine ev_box S ?_; clear S; intro _ _ S) | ((with_reducible refine gate_new rfl ?_); refine ev_new S 41 zA ?_; clear S; intro _ _ S) | ((with_reducible refine gate_load rfl ?_); first | refine ev_load S 0 ?_ | refine ev_load S 1 ?_ | refine ev_load S 2 ?_ | refine ev_load S 3 ?_) | ((with_reducible refine gate_load rfl ?_); first | refine ev_fld S 0 ?_ | refine ev_fld S 1 ?_ | refine ev_fld S 2 ?_ | refine ev_fld S 3 ?_) | ((with_reducible refine gate_st rfl ?_); (first | refine ev_store S 0 ?_ | refine ev_store S 1 ?_ | refine ev_store S 2 ?_); clear S; intro _ S) | (go_at_call 108; (with_reducible refine (isC_any a b _ _ HC.out).mono ?_); rintro e w7 ⟨rfl, hb⟩; replace S := Aside0.mk (S.out.step hb); clear hb) | (go_at_call 105; (with_reducible refine (rwidth_any b _ _ (HB.out.below S.out.below) HF.out.2.1 HF.out.2.2).mono ?_); rintro e w7 ⟨rfl, hb⟩; replace S := Aside0.mk (S.out.step hb); clear hb) | (go_at_call 106; (with_reducible refine (place_any _ _ _ _ _ _ _ (rowC_of S.out.now.2) HP.out).mono ?_); rintro e w7 ⟨rfl, hb⟩; replace S := Aside0.mk (S.out.step hb); clear hb) | (go_at_call 109; (with_reducible refine (rmoved_any a _ _ _ (HA.out.below S.out.below) HF.out.1 HM.out.1 HM.out.2.1 HM.out.2.2.1 HM.out.2.2.2).mono ?_); rintro e w7 ⟨v, rfl, hR, hb⟩; obtain ⟨Ai, ci, rfl⟩ := hR.slice; replace S := Aside0.mk (S.out.addOp hb hR); clear hb hR))
      exact bodyPost_ret (results_ct rfl _ _ _ 41 _ (0, 0) _ rfl (S.out.at_ 0 rfl) Tryd.underlying41 rfl (by kernel_rfl)) rfl ⟨_, rfl, S.out.now.2, S.out.below⟩
    · by_cases heq : a.f1 = b.f1
      · have q1 : (a.f1 == b.f1) = true := beq_iff_eq.mpr heq
        rw [if_neg (show ¬ a.f1 < b.f1 by omega)] at hpl
        have HP := Aside0.mk hpl
        cases e with
        | true =>
          rw [if_pos (.inr ⟨heq.symm, rfl⟩)]
          have HM := HM0 (a.f1 + wid b) (by omega) (by omega)
          clear hpl hpi HM0 hem fat fbw hlt hbi hwb heq
          go_enter Tryd.func96, Tryd.ntmps96
          go_wp2_with (first | ((with_reducible refine gate_box rfl ?_); refine ev_box S ?_; clear S; intro _ _ S) | ((with_reducible refine gate_new rfl ?_); refine ev_new S 41 zA ?_; clear S; intro _ _ S) | ((with_reducible refine gate_load rfl ?_); first | refine ev_load S 0 ?_ | refine ev_load S 1 ?_ | refine ev_load S 2 ?_ | refine ev_load S 3 ?_) | ((with_reducible refine gate_load rfl ?_); first | refine ev_fld S 0 ?_ | refine ev_fld S 1 ?_ | refine ev_fld S 2 ?_ | refine ev_fld S 3 ?_) | ((with_reducible refine gate_st rfl ?_); (first | refine ev_store S 0 ?_ | refine ev_store S 1 ?_ | refine ev_store S 2 ?_); clear S; intro _ S) | (go_at_call 108; (with_reducible refine (isC_any a b _ _ HC.out).mono ?_); rintro e w7 ⟨rfl, hb⟩; replace S := Aside0.mk (S.out.step hb); clear hb) | (go_at_call 105; (with_reducible refine (rwidth_any b _ _ (HB.out.below S.out.below) HF.out.2.1 HF.out.2.2).mono ?_); rintro e w7 ⟨rfl, hb⟩; replace S := Aside0.mk (S.out.step hb); clear hb))
          (refine rg_start (n := 6) (fun W => St w W _ _) [] S.out (fun _ h => h.drew) ?_; clear S; intro _ S; refine pu_ 1 ?_; refine fl_ 2 1 S (fun _ h => h) ?_; refine pu_ 3 ?_; refine cl_ 0 #[] ?_ Tryd.func104; refine (context_any _).mono ?_; rintro e w7 ⟨v, rfl, ⟨Ar, cr, rfl, _⟩, hR, hb⟩; refine ⟨_, rfl, S.step hb, fun _ => ?_⟩; have S' := S.addR hb hR; clear S hb hR; have S := S'; clear S'; refine nr_ (by (simp only [Act.put, List.setIfInBounds_toArray, List.set_cons_zero, List.set_cons_succ]; rfl)) ?_; refine cl_ 4 #[.slice Ar 1 cr, .int .i64 2, .int .i64 b.f1, .int .i64 (wid b)] ?_ Tryd.func103; refine (with_any ctx0 _ _ _ 2 b.f1 (wid b) _ (rowC_of S.now.2) HW.out).mono ?_; rintro e w7 ⟨v, rfl, hR, hb⟩; obtain ⟨Aw, cw, rfl⟩ := Kd.R_slice hR; refine ⟨_, rfl, (S.step hb).weak (fun _ h => h.1), fun _ => ?_⟩; have S' := (S.weak (fun _ h => h.1)).addR hb hR; clear S hb hR; have S := S'; clear S'; refine nr_ (by (simp only [Act.put, List.setIfInBounds_toArray, List.set_cons_zero, List.set_cons_succ]; rfl)) ?_; refine pu_ 5 ?_; refine done_ (by kernel_rfl) ?_; have S := Aside0.mk S)
          go_wp2_with (first | ((with_reducible refine gate_box rfl ?_); refine ev_box S ?_; clear S; intro _ _ S) | ((with_reducible refine gate_new rfl ?_); refine ev_new S 41 zA ?_; clear S; intro _ _ S) | ((with_reducible refine gate_load rfl ?_); first | refine ev_load S 0 ?_ | refine ev_load S 1 ?_ | refine ev_load S 2 ?_ | refine ev_load S 3 ?_) | ((with_reducible refine gate_load rfl ?_); first | refine ev_fld S 0 ?_ | refine ev_fld S 1 ?_ | refine ev_fld S 2 ?_ | refine ev_fld S 3 ?_) | ((with_reducible refine gate_st rfl ?_); (first | refine ev_store S 0 ?_ | refine ev_store S 1 ?_ | refine ev_store S 2 ?_); clear S; intro _ S) | (go_at_call 108; (with_reducible refine (isC_any a b _ _ HC.out).mono ?_); rintro e w7 ⟨rfl, hb⟩; replace S := Aside0.mk (S.out.step hb); clear hb) | (go_at_call 105; (with_reducible refine (rwidth_any b _ _ (HB.out.below S.out.below) HF.out.2.1 HF.out.2.2).mono ?_); rintro e w7 ⟨rfl, hb⟩; replace S := Aside0.mk (S.out.step hb); clear hb) | (go_at_call 106; (with_reducible refine (place_any _ _ _ _ _ _ _ (rowC_of S.out.now.2) HP.out).mono ?_); rintro e w7 ⟨rfl, hb⟩; replace S := Aside0.mk (S.out.step hb); clear hb) | (go_at_call 109; (with_reducible refine (rmoved_any a _ _ _ (HA.out.below S.out.below) HF.out.1 HM.out.1 HM.out.2.1 HM.out.2.2.1 HM.out.2.2.2).mono ?_); rintro e w7 ⟨v, rfl, hR, hb⟩; obtain ⟨Ai, ci, rfl⟩ := hR.slice; replace S := Aside0.mk (S.out.addOp hb hR); clear hb hR))
          exact bodyPost_ret (results_ct rfl _ _ _ 41 _ (0, 0) _ rfl (S.out.at_ 0 rfl) Tryd.underlying41 rfl (by kernel_rfl)) rfl ⟨_, rfl, S.out.now.2, S.out.below⟩
        | false =>
          rw [if_neg (show ¬ (b.f1 < a.f1 ∨ b.f1 = a.f1 ∧ false = true) from fun h => h.elim hlt (fun h => by cases h.2))]
          have HM := HM0 b.f1 (by omega) (by omega)
          have HQ := Aside0.mk hpi
          rw [heq] at hem
          rw [← hem]
          clear hpl hpi HM0 hem fat fbw hlt hbi hwb heq
          go_enter Tryd.func96, Tryd.ntmps96
          go_wp2_with (first | ((with_reducible refine gate_box rfl ?_); refine ev_box S ?_; clear S; intro _ _ S) | ((with_reducible refine gate_new rfl ?_); refine ev_new S 41 zA ?_; clear S; intro _ _ S) | ((with_reducible refine gate_load rfl ?_); first | refine ev_load S 0 ?_ | refine ev_load S 1 ?_ | refine ev_load S 2 ?_ | refine ev_load S 3 ?_) | ((with_reducible refine gate_load rfl ?_); first | refine ev_fld S 0 ?_ | refine ev_fld S 1 ?_ | refine ev_fld S 2 ?_ | refine ev_fld S 3 ?_) | ((with_reducible refine gate_st rfl ?_); (first | refine ev_store S 0 ?_ | refine ev_store S 1 ?_ | refine ev_store S 2 ?_); clear S; intro _ S) | (go_at_call 108; (with_reducible refine (isC_any a b _ _ HC.out).mono ?_); rintro e w7 ⟨rfl, hb⟩; replace S := Aside0.mk (S.out.step hb); clear hb) | (go_at_call 105; (with_reducible refine (rwidth_any b _ _ (HB.out.below S.out.below) HF.out.2.1 HF.out.2.2).mono ?_); rintro e w7 ⟨rfl, hb⟩; replace S := Aside0.mk (S.out.step hb); clear hb))
          (refine rg_start (n := 6) (fun W => St w W _ _) [] S.out (fun _ h => h.drew) ?_; clear S; intro _ S; refine pu_ 1 ?_; refine fl_ 2 1 S (fun _ h => h) ?_; refine pu_ 3 ?_; refine cl_ 0 #[] ?_ Tryd.func104; refine (context_any _).mono ?_; rintro e w7 ⟨v, rfl, ⟨Ar, cr, rfl, _⟩, hR, hb⟩; refine ⟨_, rfl, S.step hb, fun _ => ?_⟩; have S' := S.addR hb hR; clear S hb hR; have S := S'; clear S'; refine nr_ (by (simp only [Act.put, List.setIfInBounds_toArray, List.set_cons_zero, List.set_cons_succ]; rfl)) ?_; refine cl_ 4 #[.slice Ar 1 cr, .int .i64 2, .int .i64 b.f1, .int .i64 (wid b)] ?_ Tryd.func103; refine (with_any ctx0 _ _ _ 2 b.f1 (wid b) _ (rowC_of S.now.2) HW.out).mono ?_; rintro e w7 ⟨v, rfl, hR, hb⟩; obtain ⟨Aw, cw, rfl⟩ := Kd.R_slice hR; refine ⟨_, rfl, (S.step hb).weak (fun _ h => h.1), fun _ => ?_⟩; have S' := (S.weak (fun _ h => h.1)).addR hb hR; clear S hb hR; have S := S'; clear S'; refine nr_ (by (simp only [Act.put, List.setIfInBounds_toArray, List.set_cons_zero, List.set_cons_succ]; rfl)) ?_; refine pu_ 5 ?_; refine done_ (by kernel_rfl) ?_; have S := Aside0.mk S)
          go_wp2_with (first | ((with_reducible refine gate_box rfl ?_); refine ev_box S ?_; clear S; intro _ _ S) | ((with_reducible refine gate_new rfl ?_); refine ev_new S 41 zA ?_; clear S; intro _ _ S) | ((with_reducible refine gate_load rfl ?_); first | refine ev_load S 0 ?_ | refine ev_load S 1 ?_ | refine ev_load S 2 ?_ | refine ev_load S 3 ?_) | ((with_reducible refine gate_load rfl ?_); first | refine ev_fld S 0 ?_ | refine ev_fld S 1 ?_ | refine ev_fld S 2 ?_ | refine ev_fld S 3 ?_) | ((with_reducible refine gate_st rfl ?_); (first | refine ev_store S 0 ?_ | refine ev_store S 1 ?_ | refine ev_store S 2 ?_); clear S; intro _ S) | (go_at_call 108; (with_reducible refine (isC_any a b _ _ HC.out).mono ?_); rintro e w7 ⟨rfl, hb⟩; replace S := Aside0.mk (S.out.step hb); clear hb) | (go_at_call 105; (with_reducible refine (rwidth_any b _ _ (HB.out.below S.out.below) HF.out.2.1 HF.out.2.2).mono ?_); rintro e w7 ⟨rfl, hb⟩; replace S := Aside0.mk (S.out.step hb); clear hb) | (go_at_call 106; (with_reducible refine (place_any _ _ _ 2 0 _ _ (rowC_of S.out.now.2) HQ.out).mono ?_); rintro e w7 ⟨rfl, hb⟩; replace S := Aside0.mk (S.out.step hb); clear hb) | (go_at_call 106; (with_reducible refine (place_any _ _ _ _ _ _ _ (rowC_of S.out.now.2) HP.out).mono ?_); rintro e w7 ⟨rfl, hb⟩; replace S := Aside0.mk (S.out.step hb); clear hb) | (go_at_call 109; (with_reducible refine (rmoved_any a _ _ _ (HA.out.below S.out.below) HF.out.1 HM.out.1 HM.out.2.1 HM.out.2.2.1 HM.out.2.2.2).mono ?_); rintro e w7 ⟨v, rfl, hR, hb⟩; obtain ⟨Ai, ci, rfl⟩ := hR.slice; replace S := Aside0.mk (S.out.addOp hb hR); clear hb hR))
          exact bodyPost_ret (results_ct rfl _ _ _ 41 _ (0, 0) _ rfl (S.out.at_ 0 rfl) Tryd.underlying41 rfl (by kernel_rfl)) rfl ⟨_, rfl, S.out.now.2, S.out.below⟩
      · rw [if_neg (show ¬ (b.f1 < a.f1 ∨ b.f1 = a.f1 ∧ e = true) from fun h => h.elim hlt (fun h => heq h.1.symm)), ← hem]
        have q1 : (a.f1 == b.f1) = false := beq_eq_false_iff_ne.mpr heq
        rw [if_pos (show a.f1 < b.f1 by omega)] at hpl
        have HP := Aside0.mk hpl
        have HM := HM0 a.f1 (by omega) (by omega)
        clear hpl hpi HM0 hem fat fbw hlt hbi hwb heq
        go_enter Tryd.func96, Tryd.ntmps96
        go_wp2_with (first | ((with_reducible refine gate_box rfl ?_); refine ev_box S ?_; clear S; intro _ _ S) | ((with_reducible refine gate_new rfl ?_); refine ev_new S 41 zA ?_; clear S; intro _ _ S) | ((with_reducible refine gate_load rfl ?_); first | refine ev_load S 0 ?_ | refine ev_load S 1 ?_ | refine ev_load S 2 ?_ | refine ev_load S 3 ?_) | ((with_reducible refine gate_load rfl ?_); first | refine ev_fld S 0 ?_ | refine ev_fld S 1 ?_ | refine ev_fld S 2 ?_ | refine ev_fld S 3 ?_) | ((with_reducible refine gate_st rfl ?_); (first | refine ev_store S 0 ?_ | refine ev_store S 1 ?_ | refine ev_store S 2 ?_); clear S; intro _ S) | (go_at_call 108; (with_reducible refine (isC_any a b _ _ HC.out).mono ?_); rintro e w7 ⟨rfl, hb⟩; replace S := Aside0.mk (S.out.step hb); clear hb) | (go_at_call 105; (with_reducible refine (rwidth_any b _ _ (HB.out.below S.out.below) HF.out.2.1 HF.out.2.2).mono ?_); rintro e w7 ⟨rfl, hb⟩; replace S := Aside0.mk (S.out.step hb); clear hb))
        (refine rg_start (n := 6) (fun W => St w W _ _) [] S.out (fun _ h => h.drew) ?_; clear S; intro _ S; refine pu_ 1 ?_; refine fl_ 2 1 S (fun _ h => h) ?_; refine pu_ 3 ?_; refine cl_ 0 #[] ?_ Tryd.func104; refine (context_any _).mono ?_; rintro e w7 ⟨v, rfl, ⟨Ar, cr, rfl, _⟩, hR, hb⟩; refine ⟨_, rfl, S.step hb, fun _ => ?_⟩; have S' := S.addR hb hR; clear S hb hR; have S := S'; clear S'; refine nr_ (by (simp only [Act.put, List.setIfInBounds_toArray, List.set_cons_zero, List.set_cons_succ]; rfl)) ?_; refine cl_ 4 #[.slice Ar 1 cr, .int .i64 2, .int .i64 b.f1, .int .i64 (wid b)] ?_ Tryd.func103; refine (with_any ctx0 _ _ _ 2 b.f1 (wid b) _ (rowC_of S.now.2) HW.out).mono ?_; rintro e w7 ⟨v, rfl, hR, hb⟩; obtain ⟨Aw, cw, rfl⟩ := Kd.R_slice hR; refine ⟨_, rfl, (S.step hb).weak (fun _ h => h.1), fun _ => ?_⟩; have S' := (S.weak (fun _ h => h.1)).addR hb hR; clear S hb hR; have S := S'; clear S'; refine nr_ (by (simp only [Act.put, List.setIfInBounds_toArray, List.set_cons_zero, List.set_cons_succ]; rfl)) ?_; refine pu_ 5 ?_; refine done_ (by kernel_rfl) ?_; have S := Aside0.mk S)
        go_wp2_with (first | ((with_reducible refine gate_box rfl ?_); refine ev_box S ?_; clear S; intro _ _ S) | ((with_reducible refine gate_new rfl ?_); refine ev_new S 41 zA ?_; clear S; intro _ _ S) | ((with_reducible refine gate_load rfl ?_); first | refine ev_load S 0 ?_ | refine ev_load S 1 ?_ | refine ev_load S 2 ?_ | refine ev_load S 3 ?_) | ((with_reducible refine gate_load rfl ?_); first | refine ev_fld S 0 ?_ | refine ev_fld S 1 ?_ | refine ev_fld S 2 ?_ | refine ev_fld S 3 ?_) | ((with_reducible refine gate_st rfl ?_); (first | refine ev_store S 0 ?_ | refine ev_store S 1 ?_ | refine ev_store S 2 ?_); clear S; intro _ S) | (go_at_call 108; (with_reducible refine (isC_any a b _ _ HC.out).mono ?_); rintro e w7 ⟨rfl, hb⟩; replace S := Aside0.mk (S.out.step hb); clear hb) | (go_at_call 105; (with_reducible refine (rwidth_any b _ _ (HB.out.below S.out.below) HF.out.2.1 HF.out.2.2).mono ?_); rintro e w7 ⟨rfl, hb⟩; replace S := Aside0.mk (S.out.step hb); clear hb) | (go_at_call 106; (with_reducible refine (place_any _ _ _ _ _ _ _ (rowC_of S.out.now.2) HP.out).mono ?_); rintro e w7 ⟨rfl, hb⟩; replace S := Aside0.mk (S.out.step hb); clear hb) | (go_at_call 109; (with_reducible refine (rmoved_any a _ _ _ (HA.out.below S.out.below) HF.out.1 HM.out.1 HM.out.2.1 HM.out.2.2.1 HM.out.2.2.2).mono ?_); rintro e w7 ⟨v, rfl, hR, hb⟩; obtain ⟨Ai, ci, rfl⟩ := hR.slice; replace S := Aside0.mk (S.out.addOp hb hR); clear hb hR))
        exact bodyPost_ret (results_ct rfl _ _ _ 41 _ (0, 0) _ rfl (S.out.at_ 0 rfl) Tryd.underlying41 rfl (by kernel_rfl)) rfl ⟨_, rfl, S.out.now.2, S.out.below⟩
  rw [if_neg k1]
  have k1' : (a.f0.f1 == 1) = false := beq_eq_false_iff_ne.mpr k1
  by_cases kh : a.f0.f1 = 2 ∨ a.f0.f1 = 3
  · rw [if_pos kh]
    obtain ⟨k, lf, qf, hf, hll, hcov⟩ := hr kh hk
    rw [← hcov]
    have k4' : (a.f0.f1 == 4) = false := beq_eq_false_iff_ne.mpr (by omega)
    have HP := Aside0.mk hf
    have HL := Aside0.mk hll
    clear hr e3 em ka kh hf hll hcov hbi hwb hk k1
    go_enter Tryd.func96, Tryd.ntmps96
    go_wp2_with (first | ((with_reducible refine gate_box rfl ?_); refine ev_box S ?_; clear S; intro _ _ S) | ((with_reducible refine gate_new rfl ?_); refine ev_new S 41 zA ?_; clear S; intro _ _ S) | ((with_reducible refine gate_load rfl ?_); first | refine ev_load S 0 ?_ | refine ev_load S 1 ?_ | refine ev_load S 2 ?_ | refine ev_load S 3 ?_) | ((with_reducible refine gate_load rfl ?_); first | refine ev_fld S 0 ?_ | refine ev_fld S 1 ?_ | refine ev_fld S 2 ?_ | refine ev_fld S 3 ?_) | ((with_reducible refine gate_st rfl ?_); (first | refine ev_store S 0 ?_ | refine ev_store S 1 ?_ | refine ev_store S 2 ?_); clear S; intro _ S) | (go_at_call 108; (with_reducible refine (isC_any a b _ _ HC.out).mono ?_); rintro e w7 ⟨rfl, hb⟩; replace S := Aside0.mk (S.out.step hb); clear hb) | (go_at_call 105; (with_reducible refine (rwidth_any b _ _ (HB.out.below S.out.below) HF.out.2.1 HF.out.2.2).mono ?_); rintro e w7 ⟨rfl, hb⟩; replace S := Aside0.mk (S.out.step hb); clear hb))
    (refine rg_start (n := 6) (fun W => St w W _ _) [] S.out (fun _ h => h.drew) ?_; clear S; intro _ S; refine pu_ 1 ?_; refine fl_ 2 1 S (fun _ h => h) ?_; refine pu_ 3 ?_; refine cl_ 0 #[] ?_ Tryd.func104; refine (context_any _).mono ?_; rintro e w7 ⟨v, rfl, ⟨Ar, cr, rfl, _⟩, hR, hb⟩; refine ⟨_, rfl, S.step hb, fun _ => ?_⟩; have S' := S.addR hb hR; clear S hb hR; have S := S'; clear S'; refine nr_ (by (simp only [Act.put, List.setIfInBounds_toArray, List.set_cons_zero, List.set_cons_succ]; rfl)) ?_; refine cl_ 4 #[.slice Ar 1 cr, .int .i64 2, .int .i64 b.f1, .int .i64 (wid b)] ?_ Tryd.func103; refine (with_any ctx0 _ _ _ 2 b.f1 (wid b) _ (rowC_of S.now.2) HW.out).mono ?_; rintro e w7 ⟨v, rfl, hR, hb⟩; obtain ⟨Aw, cw, rfl⟩ := Kd.R_slice hR; refine ⟨_, rfl, (S.step hb).weak (fun _ h => h.1), fun _ => ?_⟩; have S' := (S.weak (fun _ h => h.1)).addR hb hR; clear S hb hR; have S := S'; clear S'; refine nr_ (by (simp only [Act.put, List.setIfInBounds_toArray, List.set_cons_zero, List.set_cons_succ]; rfl)) ?_; refine pu_ 5 ?_; refine done_ (by kernel_rfl) ?_; have S := Aside0.mk S)
    go_wp2_with (first | ((with_reducible refine gate_box rfl ?_); refine ev_box S ?_; clear S; intro _ _ S) | ((with_reducible refine gate_new rfl ?_); refine ev_new S 41 zA ?_; clear S; intro _ _ S) | ((with_reducible refine gate_load rfl ?_); first | refine ev_load S 0 ?_ | refine ev_load S 1 ?_ | refine ev_load S 2 ?_ | refine ev_load S 3 ?_) | ((with_reducible refine gate_load rfl ?_); first | refine ev_fld S 0 ?_ | refine ev_fld S 1 ?_ | refine ev_fld S 2 ?_ | refine ev_fld S 3 ?_) | ((with_reducible refine gate_st rfl ?_); (first | refine ev_store S 0 ?_ | refine ev_store S 1 ?_ | refine ev_store S 2 ?_); clear S; intro _ S) | (go_at_call 108; (with_reducible refine (isC_any a b _ _ HC.out).mono ?_); rintro e w7 ⟨rfl, hb⟩; replace S := Aside0.mk (S.out.step hb); clear hb) | (go_at_call 105; (with_reducible refine (rwidth_any b _ _ (HB.out.below S.out.below) HF.out.2.1 HF.out.2.2).mono ?_); rintro e w7 ⟨rfl, hb⟩; replace S := Aside0.mk (S.out.step hb); clear hb))
    (refine rg_start (n := 10) (fun W => St w W _ _) [] S.out (fun _ h => h.drew) ?_; clear S; intro _ S; refine pu_ 1 ?_; refine pu_ 2 ?_; refine fl_ 3 2 S (fun _ h => h) ?_; refine cl_ 0 #[] ?_ Tryd.func104; refine (context_any _).mono ?_; rintro e w7 ⟨v, rfl, ⟨Ar, cr, rfl, _⟩, hR, hb⟩; refine ⟨_, rfl, S.step hb, fun _ => ?_⟩; have S' := S.addR hb hR; clear S hb hR; have S := S'; clear S'; refine nr_ (by (simp only [Act.put, List.setIfInBounds_toArray, List.set_cons_zero, List.set_cons_succ]; rfl)) ?_; refine cl_ 4 #[.slice Ar 1 cr, .slice Aw (ctxWith 2 b.f1 (wid b)).length cw, .slice A a.f3.length c] ?_ Tryd.func110; refine (found_any ctx0 (ctxWith 2 b.f1 (wid b)) a.f3 lf qf _ _ _ A c _ (rowC_of S.now.2) (rowC_of S.now.1.2) H1.out (Kd.C_below H2.out S.below) HP.out).mono ?_; rintro e w7 ⟨v, rfl, hR, hb⟩; obtain ⟨Af, cf, rfl⟩ := Kd.R_slice hR; refine ⟨_, rfl, (S.step hb).weak (fun _ h => h.1), fun _ => ?_⟩; have S' := S.addR hb hR; clear S hb hR; have S := S'; clear S'; refine nr_ (by (simp only [Act.put, List.setIfInBounds_toArray, List.set_cons_zero, List.set_cons_succ]; rfl)) ?_; refine pu_ 5 ?_; refine pu_ 6 ?_; refine pu_ 7 ?_; refine pu_ 8 ?_; refine pu_ 9 ?_; refine done_ (by kernel_rfl) ?_; have S := Aside0.mk S)
    go_wp2_with (first | ((with_reducible refine gate_box rfl ?_); refine ev_box S ?_; clear S; intro _ _ S) | ((with_reducible refine gate_new rfl ?_); refine ev_new S 41 zA ?_; clear S; intro _ _ S) | ((with_reducible refine gate_load rfl ?_); first | refine ev_load S 0 ?_ | refine ev_load S 1 ?_ | refine ev_load S 2 ?_ | refine ev_load S 3 ?_) | ((with_reducible refine gate_load rfl ?_); first | refine ev_fld S 0 ?_ | refine ev_fld S 1 ?_ | refine ev_fld S 2 ?_ | refine ev_fld S 3 ?_) | ((with_reducible refine gate_st rfl ?_); (first | refine ev_store S 0 ?_ | refine ev_store S 1 ?_ | refine ev_store S 2 ?_); clear S; intro _ S) | (go_at_call 108; (with_reducible refine (isC_any a b _ _ HC.out).mono ?_); rintro e w7 ⟨rfl, hb⟩; replace S := Aside0.mk (S.out.step hb); clear hb) | (go_at_call 105; (with_reducible refine (rwidth_any b _ _ (HB.out.below S.out.below) HF.out.2.1 HF.out.2.2).mono ?_); rintro e w7 ⟨rfl, hb⟩; replace S := Aside0.mk (S.out.step hb); clear hb) | (go_at_call 111; (with_reducible refine (covering_any a _ _ _ w _ _ _ S.out ?hbs HA.out S.out.now.2 HL.out).mono ?_); (case hbs => simp [k94_E]); rintro e w7 ⟨v, rfl, ⟨Ai, ci, rfl⟩, hS⟩; replace S := Aside0.mk hS; clear hS))
    exact bodyPost_ret (results_ct rfl _ _ _ 41 _ (0, 0) _ rfl (S.out.at_ 0 rfl) Tryd.underlying41 rfl (by kernel_rfl)) rfl ⟨_, rfl, S.out.now.2, S.out.below⟩
  · rw [if_neg kh]
    have k4' : (a.f0.f1 == 4) = true := beq_iff_eq.mpr (by omega)
    clear hr e3 em ka kh hbi hwb hk k1
    go_enter Tryd.func96, Tryd.ntmps96
    go_wp2_with (first | ((with_reducible refine gate_box rfl ?_); refine ev_box S ?_; clear S; intro _ _ S) | ((with_reducible refine gate_new rfl ?_); refine ev_new S 41 zA ?_; clear S; intro _ _ S) | ((with_reducible refine gate_load rfl ?_); first | refine ev_load S 0 ?_ | refine ev_load S 1 ?_ | refine ev_load S 2 ?_ | refine ev_load S 3 ?_) | ((with_reducible refine gate_load rfl ?_); first | refine ev_fld S 0 ?_ | refine ev_fld S 1 ?_ | refine ev_fld S 2 ?_ | refine ev_fld S 3 ?_) | ((with_reducible refine gate_st rfl ?_); (first | refine ev_store S 0 ?_ | refine ev_store S 1 ?_ | refine ev_store S 2 ?_); clear S; intro _ S) | (go_at_call 108; (with_reducible refine (isC_any a b _ _ HC.out).mono ?_); rintro e w7 ⟨rfl, hb⟩; replace S := Aside0.mk (S.out.step hb); clear hb) | (go_at_call 105; (with_reducible refine (rwidth_any b _ _ (HB.out.below S.out.below) HF.out.2.1 HF.out.2.2).mono ?_); rintro e w7 ⟨rfl, hb⟩; replace S := Aside0.mk (S.out.step hb); clear hb) | (go_at_call 22; (with_reducible refine (rcopy_any a _ _ (HA.out.below S.out.below) HF.out.1).mono ?_); rintro e w7 ⟨v, rfl, hR, hb⟩; obtain ⟨Ao, co, rfl⟩ := hR.slice; replace S := Aside0.mk (S.out.addOp hb hR); clear hb hR))
    exact bodyPost_ret (results_ct rfl _ _ _ 41 _ (0, 0) _ rfl (S.out.at_ 0 rfl) Tryd.underlying41 rfl (by kernel_rfl)) rfl ⟨_, rfl, S.out.now.2, S.out.below⟩
end Go.Proofs.YtloccjkcmlkifaaDoor
end
section
namespace Go.Proofs.YtloccjkcmlkifaaDoor
open Go.RowKit Go.Proofs.YtloccjkcmlkifaaDoor.PAll Go.Proofs.YtloccjkcmlkifaaDoorW.PrintWords
theorem found_loop (l : List S94) (p n : Int) (hp : 0 ≤ p ∧ p ≤ 1048576) (hn : 1 ≤ n ∧ n ≤ 1048576) (hL : l.length ≤ 1048576) (R : List S94) (K : Nat) (hR : ∀ k, K ≤ k → redraftref02_Places.f k (thrS p n l) = some R) :
    ∀ (d k i : Nat) (out : List S94) (x : Int), l.length = i + d → -1 ≤ x → Nrm x (l.drop i) → out ++ thrS p n (l.drop i) = thrS p n l → out.length ≤ 2 * i → K + 2 * d + 10 ≤ k →
    redraftref05_found.l1 k ctx0 (ctxWith 2 p n) l out 0 (i : Int) 0 2097152 (i : Int) 0 0 2097152 = some (R, 0) := by
  intro d
  induction d with
  | zero =>
    intro k i out x h1 hx hN ho hol hk
    obtain ⟨k, rfl⟩ : ∃ m, k = m + 3 := ⟨k - 3, by omega⟩
    rw [List.drop_eq_nil_of_le (by omega)] at ho
    have ho' : out = thrS p n l := by simpa [thrS] using ho
    have q1 : ¬ (i : Int) < (l.length : Int) := by omega
    have w : wrap64 (0 + 1) = 1 := by unfold wrap64; omega
    have q2 : ¬ (1 : Int) < ((ctx0).length : Int) := by simp
    rw [show k + 3 = (k + 2) + 1 from rfl, redraftref05_found.l1, if_neg q1, show k + 2 = (k + 1) + 1 from rfl, redraftref05_found.j2, if_neg (by simp), w, redraftref05_found.l0, if_neg q2, ho', hR k (by omega)]
    rfl
  | succ d ih =>
    intro k i out x h1 hx hN ho hol hk
    obtain ⟨k, rfl⟩ : ∃ m, k = m + 2 := ⟨k - 2, by omega⟩
    have hi : i < l.length := by omega
    obtain ⟨r, hr⟩ : ∃ r, r = l.getD i z94 := ⟨_, rfl⟩
    have hd : l.drop i = r :: l.drop (i + 1) := by
      rw [hr, List.drop_eq_getElem_cons hi, List.getD_eq_getElem?_getD, List.getElem?_eq_getElem hi]; rfl
    have e : rd_T94 l (i : Int) = r := by unfold rd_T94; rw [Int.toNat_natCast, hr]
    rw [hd] at hN
    obtain ⟨b1, b2, b3, b4⟩ := hN
    have q1 : (i : Int) < (l.length : Int) := by omega
    have q2 : (0 : Int) ≤ (i : Int) := by omega
    have q3 : out.length + (sp p n ⟨r.f0, r.f1⟩).length < 8796093022208 := by have := sp_len p n ⟨r.f0, r.f1⟩; omega
    have q4 : ¬ r.f1 > 2097152 := by omega
    have q5 : ¬ ((sp p n ⟨r.f0, r.f1⟩).length : Int) = 0 := by
      have : 0 < (sp p n ⟨r.f0, r.f1⟩).length := by
        unfold sp
        split
        · simp
        · split <;> simp
      omega
    have q6 : decide (r.f0 < 2097152) = true := decide_eq_true (by omega)
    have m1 : mx r.f0 0 = r.f0 := by unfold mx; split <;> omega
    have m2 : mn r.f1 2097152 = r.f1 := by unfold mn; split <;> omega
    have hk' : K + 2 * d + 10 ≤ k := by omega
    have hka : 4 ≤ k := by omega
    have g1 : l.length = (i + 1) + d := by omega
    have g2 : -1 ≤ r.f1 := by omega
    have g3 : (out ++ sp p n ⟨r.f0, r.f1⟩).length ≤ 2 * (i + 1) := by have := sp_len p n ⟨r.f0, r.f1⟩; simp; omega
    have am := among_ctx (k - 4) p n r.f0 r.f1 hp hn ⟨by omega, b2, b3⟩
    rw [show k - 4 + 4 = k by omega] at am
    have w1 : wrap64 (wrap64 (0 + r.f0) - 0) = r.f0 := by rw [wrap_id (n := 0 + r.f0) (by omega) (by omega), wrap_id (by omega) (by omega)]; omega
    have w2 : wrap64 (wrap64 (0 + r.f1) - 0) = r.f1 := by rw [wrap_id (n := 0 + r.f1) (by omega) (by omega), wrap_id (by omega) (by omega)]; omega
    have w3 : wrap64 ((i : Int) + 1) = ((i + 1 : Nat) : Int) := by rw [wrap_id (by omega) (by omega)]; omega
    rw [show k + 2 = (k + 1) + 1 from rfl, redraftref05_found.l1, if_pos q1, if_pos q2, e, q6, redraftref05_found.j2, if_pos rfl, if_pos q2, if_pos q1, e, m1, m2, w1, w2, am]
    simp only [Option.bind_some]
    rw [if_neg q5, if_pos q3]
    show (if r.f1 > 2097152 then _ else _) = _
    rw [if_neg q4, w3]
    refine ih k (i + 1) _ r.f1 g1 g2 b4 ?_ g3 hk'
    rw [← ho, hd]
    show _ = out ++ (sp p n r ++ thrS p n (l.drop (i + 1)))
    rw [List.append_assoc]
theorem found_is (l : List S94) (p n : Int) (hp : 0 ≤ p ∧ p ≤ 1048576) (hn : 1 ≤ n ∧ n ≤ 1048576) (hl : (rngE l).2 = 0) : ∃ k, redraftref05_found.f k ctx0 (ctxWith 2 p n) l = some (thrS p n l, 0) := by
  obtain ⟨hlen, hN⟩ := rng_ok hl
  have hg := thrS_nrm p n hn.1 l (-1) hN
  have htl := thr_len p n l
  obtain ⟨K, hK⟩ := places_is (thrS p n l) hg.gap.wk (by omega)
  rw [gap_join _ hg.gap] at hK
  have := found_loop l p n hp hn (by omega) (thrS p n l) K hK l.length (K + 2 * l.length + 10) 0 [] (-1) (by omega) (by omega) (by simpa using hN) (by simp) (by simp) (by omega)
  refine ⟨K + 2 * l.length + 11, ?_⟩
  have w : wrap64 (wrap64 (0 + 2097152) - 0) = 2097152 := by unfold wrap64; omega
  unfold redraftref05_found.f
  rw [show K + 2 * l.length + 11 = (K + 2 * l.length + 10) + 1 from rfl, redraftref05_found.l0, if_pos (by simp), if_pos (by omega)]
  have e : rd_T154 ctx0 0 = ⟨0, 0, 2097152⟩ := rfl
  rw [e]
  simp only
  rw [w]
  exact this
structure Good (o : S41) : Prop where
  own : ownE o = 0
  fine : fineOp o
theorem nrm_last {x : Int} : ∀ {l : List S94}, Nrm x l → 0 < l.length → 0 ≤ x + 1 → 0 ≤ lastHi l ∧ lastHi l ≤ 1048576
  | [r], h, _, hx => ⟨by show 0 ≤ r.f1; have := h.1; have := h.2.1; omega, h.2.2.1⟩
  | r :: s :: t, h, _, hx => nrm_last (l := s :: t) h.2.2.2 (by simp) (by have := h.1; have := h.2.1; omega)
theorem last_bound {l : List S94} (h : (rngE l).2 = 0) : -1048576 ≤ lastHi l ∧ lastHi l ≤ 1048576 := by
  obtain ⟨_, hN⟩ := rng_ok h
  by_cases h0 : 0 < l.length
  · have := nrm_last hN h0 (by omega); omega
  · have e : l = [] := List.eq_nil_of_length_eq_zero (by omega)
    rw [e]
    show -1048576 ≤ z94.f1 ∧ z94.f1 ≤ 1048576
    unfold z94; simp
theorem Good.rng {o : S41} (g : Good o) (h : o.f0.f1 = 2 ∨ o.f0.f1 = 3) : (rngE o.f3).2 = 0 := ((own_ok g.own).2.2.2.2.2.1 h).2.1
theorem Good.extra {o : S41} (g : Good o) : extraB o = false := (own_ok g.own).2.2.2.1
theorem Good.noRanges {o : S41} (g : Good o) (h : o.f0.f1 = 1 ∨ o.f0.f1 = 4) : o.f3 = [] := by
  have he := g.extra
  unfold extraB at he
  have := of_decide_eq_false he
  refine List.eq_nil_of_length_eq_zero (Nat.eq_zero_of_not_pos fun hp => this (.inr (.inl ⟨by omega, by omega, by omega⟩)))
theorem Good.noAt {o : S41} (g : Good o) (h : o.f0.f1 ≠ 1) : o.f1 = 0 := by
  have he := g.extra
  unfold extraB at he
  have := of_decide_eq_false he
  by_cases hz : o.f1 = 0
  · exact hz
  · exact absurd (.inl ⟨h, .inl hz⟩) this
theorem Good.fit {o : S41} (g : Good o) : Fit o := by
  have hb := chk_bound o.f2 g.fine.1
  refine ⟨g.fine.2, ?_, ?_⟩
  · by_cases h : o.f0.f1 = 1
    · have := own_ins g.own g.fine.1 h; omega
    · rw [g.noAt h]; omega
  · unfold wid
    have := g.fine.1
    split <;> omega
theorem Good.wid1 {o : S41} (g : Good o) (h : o.f0.f1 = 1) : 1 ≤ wid o ∧ wid o ≤ 256 ∧ 0 ≤ o.f1 ∧ o.f1 + wid o ≤ 1048576 := by
  have := own_ins g.own g.fine.1 h
  have e : wid o = (chk o.f2).1 := if_pos h
  omega
theorem Good.move0 {o : S41} (g : Good o) (h : o.f0.f1 = 1) : moveE o o.f1 = (o, 0) := by
  have := g.wid1 h
  unfold moveE
  rw [if_neg (by omega)]
  have e := g.noRanges (.inl h)
  obtain ⟨f0, f1, f2, f3, f4, f5⟩ := o
  simp only at e
  rw [e]
def incE (a b : S41) (e : Bool) : S41 × Int := incP a b e (thrE a.f3 b.f1 (wid b))
theorem incE_prog (a b : S41) (e : Bool) (va vb : Value) (w : World) (hG : GW w) (ha : OpC w va a) (hb : OpC w vb b) (ga : Good a) (gb : Good b) :
    Calls Tryd.prog 56 #[.agg (opA a va), .agg (opA b vb), .bool e] w (RetOp w (incE a b e)) :=
  include_any a b e va vb _ w hG ha hb ga.fit.len ga.fit.at_ ga.fit.wid gb.fit.wid fun h1 h2 => by
    have hb1 := gb.wid1 h2
    exact through_is a.f3 b.f1 (wid b) (ga.rng h1) ⟨hb1.2.2.1, by omega⟩ ⟨hb1.1, by omega⟩ (last_bound (ga.rng h1))
theorem incE_ref (a b : S41) (e : Bool) (va vb : Value) (w : World) (ha : OpC w va a) (hb : OpC w vb b) (ga : Good a) (gb : Good b) :
    Calls Tryd.prog 96 #[.agg (opA a va), .agg (opA b vb), .bool e] w (RetOp w (incE a b e)) :=
  rinclude_any a b e va vb _ w ha hb ga.fit gb.fit ga.fine gb.fine ga.own gb.own (fun h => ga.noRanges (.inl h)) ga.move0 fun h1 h2 => by
    have hb1 := gb.wid1 h2
    obtain ⟨k, hk⟩ := found_is a.f3 b.f1 (wid b) ⟨hb1.2.2.1, by omega⟩ ⟨hb1.1, by omega⟩ (ga.rng h1)
    have := thr_len b.f1 (wid b) a.f3
    have := ga.fine.2
    exact ⟨k, _, _, hk, by omega, cov_thr a b.f1 (wid b) (last_bound (ga.rng h1)).2⟩
end Go.Proofs.YtloccjkcmlkifaaDoor
end
section
namespace Go.Proofs.YtloccjkcmlkifaaDoor
open Go.RowKit Go.Proofs.YtloccjkcmlkifaaDoor.PAll Go.Proofs.YtloccjkcmlkifaaDoorW.PrintWords
theorem own_mk_ins {o : S41} (k : o.f0.f1 = 1) (hb : ¬ badID o) (he : extraB o = false) (h1 : (chk o.f2).2.2 = 0) (h2 : 1 ≤ (chk o.f2).1 ∧ (chk o.f2).1 ≤ 256) (h3 : 0 ≤ o.f1 ∧ o.f1 + (chk o.f2).1 ≤ 1048576) : ownE o = 0 := by
  have ht : totOf o = o.f1 := by unfold totOf; rw [if_pos ⟨k, by omega, by omega⟩]
  unfold ownE checkE
  rw [ht, if_neg (show ¬ (o.f1 < 0 ∨ 1048576 < o.f1) by omega), if_neg (show ¬ (o.f0.f1 < 1 ∨ 4 < o.f0.f1) by omega), if_neg hb, if_neg (show ¬ extraB o = true by rw [he]; simp), if_pos k]
  unfold insE
  rw [if_pos h1, if_neg (show ¬ (chk o.f2).1 = 0 by omega), if_neg (show ¬ 256 < (chk o.f2).1 by omega), if_neg (show ¬ (o.f1 < 0 ∨ o.f1 < o.f1) by omega), if_neg (show ¬ 1048576 < o.f1 + (chk o.f2).1 by omega)]
theorem own_mk_cov {o : S41} (k : o.f0.f1 = 2 ∨ o.f0.f1 = 3) (hb : ¬ badID o) (he : extraB o = false) (h0 : 0 < o.f3.length) (h1 : (rngE o.f3).2 = 0) (h2 : lastHi o.f3 ≤ 1048576) : ownE o = 0 := by
  have ht : totOf o = 1048576 := by unfold totOf; rw [if_neg (show ¬ (o.f0.f1 = 1 ∧ 0 ≤ o.f1 ∧ o.f1 ≤ 1048576) by omega)]
  unfold ownE checkE
  rw [ht, if_neg (by omega), if_neg (show ¬ (o.f0.f1 < 1 ∨ 4 < o.f0.f1) by omega), if_neg hb, if_neg (show ¬ extraB o = true by rw [he]; simp), if_neg (show ¬ o.f0.f1 = 1 by omega), if_neg (show ¬ o.f0.f1 = 4 by omega)]
  unfold rgsE
  rw [if_neg (by omega), if_pos h1, if_neg (by omega)]
theorem good_move {a : S41} (g : Good a) (k : a.f0.f1 = 1) {p : Int} (hp : 0 ≤ p) (h : (moveE a p).2 = 0) : Good (moveE a p).1 := by
  have hw := g.wid1 k
  have e : wid a = (chk a.f2).1 := if_pos k
  have ho := own_ok g.own
  have hi := own_ins g.own g.fine.1 k
  unfold moveE at h ⊢
  by_cases c : 1048576 < p + wid a
  · rw [if_pos c] at h; exact absurd h (by simp)
  · rw [if_neg c]
    refine ⟨own_mk_ins k ho.2.2.1 ?_ hi.2.2.1 ⟨hi.2.2.2.1, hi.2.2.2.2.1⟩ ⟨hp, by show p + (chk a.f2).1 ≤ 1048576; omega⟩, g.fine.1, by simp⟩
    have := g.extra
    unfold extraB at this ⊢
    have hq := of_decide_eq_false this
    refine decide_eq_false fun h => ?_
    rcases h with h | h | h
    · exact h.1 k
    · exact absurd rfl h.2.2
    · exact hq (.inr (.inr h))
theorem good_ranged {a : S41} (g : Good a) (k : a.f0.f1 = 2 ∨ a.f0.f1 = 3) {l : List S94} (h0 : 0 < l.length) (hl : l.length ≤ 32768) (hn : Nrm (-1) l) : Good ⟨a.f0, a.f1, a.f2, l, a.f4, a.f5⟩ := by
  have ho := own_ok g.own
  have hr := ok_rng hl hn
  refine ⟨own_mk_cov k ho.2.2.1 ?_ h0 (by rw [hr]) (last_bound (by rw [hr])).2, g.fine.1, by show l.length ≤ 1048576; omega⟩
  have := g.extra
  unfold extraB at this ⊢
  have hq := of_decide_eq_false this
  refine decide_eq_false fun h => ?_
  rcases h with h | h | h
  · exact hq (.inl h)
  · have h1 : a.f0.f1 ≠ 2 := h.1
    have h2 : a.f0.f1 ≠ 3 := h.2.1
    omega
  · exact hq (.inr (.inr h))
theorem inc_good {a b : S41} {e : Bool} (ga : Good a) (gb : Good b) (h : (incE a b e).2 = 0) : Good (incE a b e).1 := by
  unfold incE incP at h ⊢
  by_cases c1 : clashB a b = true
  · rw [if_pos c1] at h; exact absurd h (by simp)
  rw [if_neg c1] at h ⊢
  by_cases c2 : b.f0.f1 = 1
  case neg => rw [if_pos c2]; exact ga
  rw [if_neg (fun q => q c2)] at h ⊢
  have hb := gb.wid1 c2
  by_cases c3 : a.f0.f1 = 1
  · rw [if_pos c3] at h ⊢
    have ha := ga.wid1 c3
    by_cases c4 : b.f1 < a.f1 ∨ b.f1 = a.f1 ∧ e = true
    · rw [if_pos c4] at h ⊢
      exact good_move ga c3 (by omega) h
    · rw [if_neg c4]; exact ga
  · rw [if_neg c3] at h ⊢
    by_cases c4 : a.f0.f1 = 2 ∨ a.f0.f1 = 3
    case neg => rw [if_neg c4]; exact ga
    rw [if_pos c4] at h ⊢
    have hrg := ga.rng c4
    obtain ⟨hlen, hN⟩ := rng_ok hrg
    have hl0 : 0 < a.f3.length := Nat.pos_of_ne_zero ((own_ok ga.own).2.2.2.2.2.1 c4).1
    have hlb := last_bound hrg
    unfold rangedE thrE at h ⊢
    by_cases c5 : 0 < a.f3.length ∧ b.f1 < lastHi a.f3 ∧ 1048576 < lastHi a.f3 + wid b
    · rw [if_pos c5] at h; exact absurd h (by simp)
    rw [if_neg c5] at h ⊢
    unfold bnd at h ⊢
    by_cases c6 : 32768 < (thrS b.f1 (wid b) a.f3).length
    · rw [if_pos c6] at h; exact absurd h (by simp)
    rw [if_neg c6] at h ⊢
    rw [if_pos rfl]
    have hB := thrS_nrm b.f1 (wid b) hb.1 a.f3 (-1) hN
    have hlast : lastHi (thrS b.f1 (wid b) a.f3) ≤ 1048576 := by
      rw [thr_last _ _ hl0]
      unfold sh
      split
      · omega
      · have := fun q => c5 ⟨hl0, by omega, q⟩
        omega
    refine good_ranged ga c4 (thrS_ne _ _ hl0) (by show (thrS b.f1 (wid b) a.f3).length ≤ 32768; omega) ?_
    have hsh : sh b.f1 (wid b) (-1) = -1 := by unfold sh; rw [if_pos (by omega)]
    rw [hsh] at hB
    exact hB.nrm fun r hr => by have := hB.le_last r hr; omega
end Go.Proofs.YtloccjkcmlkifaaDoor
end
section
namespace Go.Proofs.YtloccjkcmlkifaaDoor
open Go.RowKit Go.Proofs.YtloccjkcmlkifaaDoor.PAll Go.Proofs.YtloccjkcmlkifaaDoorW.PrintWords
def ownsE : List S41 → Int
  | [] => 0
  | o :: t => if ownE o = 0 then ownsE t else ownE o
theorem owns_good : ∀ {l : List S41}, ownsE l = 0 → (∀ o ∈ l, fineOp o) → ∀ o ∈ l, Good o
  | o :: t, h, hf, x, hx => by
    unfold ownsE at h
    by_cases c : ownE o = 0
    · rw [if_pos c] at h
      rcases List.mem_cons.1 hx with rfl | hx
      · exact ⟨c, hf _ (by simp)⟩
      · exact owns_good h (fun y hy => hf y (by simp [hy])) x hx
    · rw [if_neg c] at h; exact absurd h c
theorem owns_loop (l : List S41) (hf : ∀ o ∈ l, fineOp o) (hl : l.length ≤ 1048576) : ∀ (d i : Nat), l.length = i + d → Ev (fun k => xform_owns.l0 k l (l.length : Int) (i : Int)) (ownsE (l.drop i)) := by
  intro d
  induction d with
  | zero =>
    intro i h
    refine ⟨1, fun k hk => ?_⟩
    obtain ⟨k, rfl⟩ : ∃ m, k = m + 1 := ⟨k - 1, by omega⟩
    simp only
    rw [xform_owns.l0, if_neg (by omega), List.drop_eq_nil_of_le (by omega)]
    rfl
  | succ d ih =>
    intro i h
    have hi : i < l.length := by omega
    obtain ⟨K1, h1⟩ := ih (i + 1) (by omega)
    obtain ⟨o, ho⟩ : ∃ o, o = l.getD i z41 := ⟨_, rfl⟩
    have hd : l.drop i = o :: l.drop (i + 1) := by
      rw [ho, List.drop_eq_getElem_cons hi, List.getD_eq_getElem?_getD, List.getElem?_eq_getElem hi]; rfl
    have hm : o ∈ l := by
      rw [ho, List.getD_eq_getElem?_getD, List.getElem?_eq_getElem hi]; exact List.getElem_mem hi
    have hfo := hf o hm
    obtain ⟨K2, h2⟩ := own_is o hfo.1 (by have := hfo.2; omega)
    dsimp only at h1 h2
    have e : rd_T41 l (i : Int) = o := by unfold rd_T41; rw [Int.toNat_natCast, ho]
    have w : wrap64 ((i : Int) + 1) = ((i + 1 : Nat) : Int) := by rw [wrap_id (by omega) (by omega)]; omega
    have q1 : (i : Int) < (l.length : Int) := by omega
    have q2 : (0 : Int) ≤ (i : Int) := by omega
    refine ⟨K1 + K2 + 1, fun k hk => ?_⟩
    obtain ⟨k, rfl⟩ : ∃ m, k = m + 1 := ⟨k - 1, by omega⟩
    simp only
    rw [xform_owns.l0, if_pos q1, if_pos q2, if_pos q1, e, h2 k (by omega)]
    simp only [Option.bind_some]
    rw [hd]
    unfold ownsE
    by_cases c : ownE o = 0
    · rw [if_pos c, if_pos c, w, h1 k (by omega)]
    · rw [if_neg c, if_neg c]
theorem rowns_loop (l : List S41) (hf : ∀ o ∈ l, fineOp o) (hl : l.length ≤ 1048576) : ∀ (d i : Nat), l.length = i + d → Ev (fun k => redraftref05_own.l0 k l (i : Int)) (ownsE (l.drop i)) := by
  intro d
  induction d with
  | zero =>
    intro i h
    refine ⟨1, fun k hk => ?_⟩
    obtain ⟨k, rfl⟩ : ∃ m, k = m + 1 := ⟨k - 1, by omega⟩
    simp only
    rw [redraftref05_own.l0, if_neg (by omega), List.drop_eq_nil_of_le (by omega)]
    rfl
  | succ d ih =>
    intro i h
    have hi : i < l.length := by omega
    obtain ⟨K1, h1⟩ := ih (i + 1) (by omega)
    obtain ⟨o, ho⟩ : ∃ o, o = l.getD i z41 := ⟨_, rfl⟩
    have hd : l.drop i = o :: l.drop (i + 1) := by
      rw [ho, List.drop_eq_getElem_cons hi, List.getD_eq_getElem?_getD, List.getElem?_eq_getElem hi]; rfl
    have hm : o ∈ l := by
      rw [ho, List.getD_eq_getElem?_getD, List.getElem?_eq_getElem hi]; exact List.getElem_mem hi
    have hfo := hf o hm
    obtain ⟨K2, h2⟩ := rown_is o hfo.1 (by have := hfo.2; omega)
    dsimp only at h1 h2
    have e : rd_T41 l (i : Int) = o := by unfold rd_T41; rw [Int.toNat_natCast, ho]
    have w : wrap64 ((i : Int) + 1) = ((i + 1 : Nat) : Int) := by rw [wrap_id (by omega) (by omega)]; omega
    have q1 : (i : Int) < (l.length : Int) := by omega
    have q2 : (0 : Int) ≤ (i : Int) := by omega
    refine ⟨K1 + K2 + 1, fun k hk => ?_⟩
    obtain ⟨k, rfl⟩ : ∃ m, k = m + 1 := ⟨k - 1, by omega⟩
    simp only
    rw [redraftref05_own.l0, if_pos q1, if_pos q2, e, h2 k (by omega)]
    simp only [Option.bind_some]
    rw [hd]
    unfold ownsE
    by_cases c : ownE o = 0
    · rw [if_pos c, if_pos c, w, h1 k (by omega)]
    · rw [if_neg c, if_neg c]
def RunC (w : World) (v : Value) (l : List S41) : Prop := ∃ A c, v = .slice A l.length c ∧ l.length ≤ c ∧ k41.C w A l.length l
theorem RunC.below {w w' : World} {v : Value} {l : List S41} (h : RunC w v l) (hb : Below w.heap.size w w') : RunC w' v l := by
  obtain ⟨A, c, e, h1, h2⟩ := h
  exact ⟨A, c, e, h1, Kd.C_below h2 hb⟩
theorem runC_mk {w : World} {l : List S41} {A : Option Addr} {c : Nat} (h1 : l.length ≤ c) (h2 : k41.C w A l.length l) : RunC w (.slice A l.length c) l := ⟨A, c, rfl, h1, h2⟩
theorem owns_any (l : List S41) (v : Value) (w : World) (hG : GW w) (h : RunC w v l) (hf : ∀ o ∈ l, fineOp o) (hl : l.length ≤ 1048576) : Calls Tryd.prog 55 #[v] w fun e w' => e = .returned (.int .i64 (ownsE l)) ∧ Below w.heap.size w w' := by
  obtain ⟨A, c, rfl, h1, h2⟩ := h
  obtain ⟨K, hK⟩ := owns_loop l hf hl l.length 0 (by omega)
  exact xform_owns.calls K A c l _ w h2 h1 hG (by unfold xform_owns.f; exact hK K (Nat.le_refl _))
theorem rowns_any (l : List S41) (v : Value) (w : World) (h : RunC w v l) (hf : ∀ o ∈ l, fineOp o) (hl : l.length ≤ 1048576) : Calls Tryd.prog 95 #[v] w fun e w' => e = .returned (.int .i64 (ownsE l)) ∧ Below w.heap.size w w' := by
  obtain ⟨A, c, rfl, h1, h2⟩ := h
  obtain ⟨K, hK⟩ := rowns_loop l hf hl l.length 0 (by omega)
  exact redraftref05_own.calls K A c l _ w h2 h1 (by unfold redraftref05_own.f; exact hK K (Nat.le_refl _))
theorem own_any (o : S41) (v : Value) (w : World) (hG : GW w) (h : OpC w v o) (hf : fineOp o) : Calls Tryd.prog 52 #[.agg (opA o v)] w fun e w' => e = .returned (.int .i64 (ownE o)) ∧ Below w.heap.size w w' := by
  obtain ⟨A, c, rfl, h1, h2⟩ := h
  obtain ⟨K, hK⟩ := own_is o hf.1 (by have := hf.2; omega)
  exact xform_own.calls K _ _ _ _ _ A c o.f3 _ _ _ _ w h2 h1 hG (hK K (Nat.le_refl _))
theorem elem_C {w : World} {A : Option Addr} {l : List S41} (h : k41.C w A l.length l) (i : Nat) (hi : i < l.length) :
    ∃ ad A5 c5, A = some ad ∧ (∀ W, Below w.heap.size w W → atL W (ad.add (i * 9)) 0 (opA (l.getD i z41) (.slice A5 (l.getD i z41).f3.length c5)).toList) ∧ OpC w (.slice A5 (l.getD i z41).f3.length c5) (l.getD i z41) := by
  obtain ⟨ad, c, e, _, hK, hc⟩ := Kd.C_get h z41 (i : Int) (by omega) (by omega)
  rw [Int.toNat_natCast] at hK hc
  obtain ⟨A5, c5, rfl, l5, g5⟩ := k41_open hK
  refine ⟨ad, A5, c5, e, fun W hb => atL_mk fun j v hj => ?_, opC_mk l5 g5⟩
  have := hc j v hj
  have h2 : W.cell? (ad.add (i * 9 + j)) = some v := pw_cell_below hb this
  have h3 : (ad.add (i * 9)).add (0 + j) = ad.add (i * 9 + j) := by
    by_cases hj0 : j = 0
    · subst hj0
      rfl
    · rw [add_field ad (i * 9) j (by omega)]
      unfold Addr.add
      rw [if_neg (by omega), Nat.zero_add]
  rw [h3]; exact h2
end Go.Proofs.YtloccjkcmlkifaaDoor
end
section
namespace Go.Proofs.YtloccjkcmlkifaaDoor
open Go.RowKit Go.Proofs.YtloccjkcmlkifaaDoor.PAll Go.Proofs.YtloccjkcmlkifaaDoorW.PrintWords
section
variable {P : Program} {ops : Array Oper} {rest : List Oper} {o : Oper} {a : Act} {Q : Exit → Act → World → Prop} {W : World}
theorem ev_ext (cs : Array Value) {N : Tmp} {ty : TypeId} {x : Operand} {d : TypeDesc} {ad : Addr} (hc : atL W ad 0 cs.toList)
    (h : wpList P ops Q rest (a.put (some N) (.agg cs)) W)
    (ho : o.op = .load ty x := by rfl) (hx : a.eval x = .pointer (some ad) := by rfl) (hd : o.dst = some N := by rfl)
    (hw : Region.wanted o (yielded ops a.tmps) = true := by first | exact wanted_plain rfl | (refine wanted_on rfl ?_; simp [yielded])) (hu : P.underlying ty = some d := by first | exact Tryd.underlying41 | exact Tryd.underlying100) (hdd : (match d with | .struct _ | .array _ _ => true | _ => false) = true := by rfl) (hi : (P.info? ty).map (·.size) = some cs.size := by kernel_rfl) : wpList P ops Q (o :: rest) a W := by
  have hr := run_load_wide (P := P) W ad ty cs.toList d hc hu hdd (by simpa using hi)
  refine ev_run (v := .agg cs) hw ?_ (by rw [hd]; exact h)
  unfold execOp
  simp only [ho, hx, Instr.loadAt, Instr.sureAddr, Sem.run_bind, Sem.run_pure, Result.andThen_ok, hr]
end
def overF (e : Bool) (s : S41 × Int) (x : S41) : S41 × Int := if s.2 = 0 then incE s.1 x e else s
theorem over_stop (e : Bool) (s : S41 × Int) (h : s.2 ≠ 0) : ∀ l : List S41, l.foldl (overF e) s = s
  | [] => rfl
  | x :: t => by
    rw [List.foldl_cons]
    have : overF e s x = s := if_neg h
    rw [this]; exact over_stop e s h t
theorem over_good (e : Bool) : ∀ (l : List S41) (s : S41 × Int), (∀ o ∈ l, Good o) → (s.2 = 0 → Good s.1) → (l.foldl (overF e) s).2 = 0 → Good (l.foldl (overF e) s).1
  | [], _, _, h, h0 => h h0
  | x :: t, s, hl, h, h0 => by
    rw [List.foldl_cons] at h0 ⊢
    refine over_good e t _ (fun o ho => hl o (by simp [ho])) (fun hs => ?_) h0
    unfold overF at hs ⊢
    by_cases c : s.2 = 0
    · rw [if_pos c] at hs ⊢
      exact inc_good (h c) (hl x (by simp)) hs
    · rw [if_neg c] at hs; exact absurd hs c
def overE (o : S41) (e : Bool) (run : List S41) : S41 × Int :=
  if ownE o ≠ 0 then (z41, ownE o) else if ownsE run ≠ 0 then (z41, ownsE run) else
    if (run.foldl (overF e) (o, 0)).2 = 0 then run.foldl (overF e) (o, 0) else (z41, (run.foldl (overF e) (o, 0)).2)
theorem fold_take (e : Bool) (run : List S41) (s : S41 × Int) (k : Nat) (hk : k < run.length) : (run.take (k + 1)).foldl (overF e) s = overF e ((run.take k).foldl (overF e) s) (run.getD k z41) := by
  rw [List.take_succ_eq_append_getElem hk, List.foldl_append, List.getD_eq_getElem?_getD, List.getElem?_eq_getElem hk]
  rfl
structure OverAt (err : Int) (o : S41) (e : Bool) (run : List S41) (w : World) (g6 g3 : Nat) (k : Nat) (s : S41 × Int) (A : Option Addr) (c : Nat) (wr : World) : Prop where
  eq : s = (run.take k).foldl (overF e) (o, err)
  st : St w wr [(g6, 41, zA), (g3, 41, opA s.1 (.slice A s.1.f3.length c))] (fun W => True ∧ OpR W w.heap.size (.slice A s.1.f3.length c) s.1)
theorem over_end {err : Int} {o : S41} {e : Bool} {run : List S41} {k : Nat} {s : S41 × Int} (h : s = (run.take k).foldl (overF e) (o, err)) (hk : ¬ k < run.length ∨ s.2 ≠ 0) : run.foldl (overF e) (o, err) = s := by
  have : run.foldl (overF e) (o, err) = (run.drop k).foldl (overF e) s := by rw [h, ← List.foldl_append, List.take_append_drop]
  rw [this]
  rcases hk with hk | hk
  · rw [List.drop_eq_nil_of_le (by omega)]; rfl
  · exact over_stop e s hk _
def overErr (o : S41) (run : List S41) : Int := if ownE o = 0 then ownsE run else ownE o
theorem overE_eq (o : S41) (e : Bool) (run : List S41) : overE o e run = if (run.foldl (overF e) (o, overErr o run)).2 = 0 then run.foldl (overF e) (o, overErr o run) else (z41, (run.foldl (overF e) (o, overErr o run)).2) := by
  unfold overE overErr
  by_cases c1 : ownE o = 0
  · rw [if_neg (fun h => h c1), if_pos c1]
    by_cases c2 : ownsE run = 0
    · rw [if_neg (fun h => h c2), c2]
    · rw [if_pos c2, over_stop e (o, ownsE run) c2, if_neg c2]
  · rw [if_pos c1, if_neg c1, over_stop e (o, ownE o) c1, if_neg c1]
theorem over_goods {err : Int} {o : S41} {e : Bool} {run : List S41} (he : err = overErr o run) {k : Nat} {s : S41 × Int} (h : s = (run.take k).foldl (overF e) (o, err)) (h0 : s.2 = 0) (hfo : fineOp o) (hf : ∀ x ∈ run, fineOp x) : Good s.1 ∧ ∀ x ∈ run, Good x := by
  have e0 : err = 0 := by
    by_cases c : err = 0
    · exact c
    · rw [over_stop e (o, err) c] at h
      rw [h] at h0; exact absurd h0 c
  unfold overErr at he
  by_cases c1 : ownE o = 0
  · rw [if_pos c1] at he
    have gr := owns_good (he.symm.trans e0) hf
    refine ⟨?_, gr⟩
    rw [h] at h0 ⊢
    exact over_good e _ (o, err) (fun y hy => gr y (List.mem_of_mem_take hy)) (fun _ => ⟨c1, hfo⟩) h0
  · rw [if_neg c1] at he; exact absurd (he.symm.trans e0) c1
set_option maxRecDepth 100000 in
set_option maxHeartbeats 4000000 in
theorem over_any (o : S41) (e : Bool) (run : List S41) (vo vr : Value) (w : World) (hG : GW w) (ho : OpC w vo o) (hr : RunC w vr run) (hfo : fineOp o) (hf : ∀ x ∈ run, fineOp x) (hl : run.length ≤ 1048576) :
    Calls Tryd.prog 42 #[.agg (opA o vo), .bool e, vr] w (RetOp w (overE o e run)) := by
  obtain ⟨A, c, rfl, h1, h2⟩ := ho
  obtain ⟨B, d, rfl, h3, h4⟩ := hr
  have S := Aside0.mk (St.init w (F := fun _ => True) (fun _ _ => trivial))
  have HO := Aside0.mk (opC_mk h1 h2); have HR := Aside0.mk (runC_mk h3 h4)
  have HE := Aside0.mk (fun i hi => elem_C h4 i hi)
  have HG := Aside0.mk hG
  have HF := Aside0.mk (show fineOp o ∧ (∀ x ∈ run, fineOp x) ∧ run.length ≤ 1048576 from ⟨hfo, hf, hl⟩)
  have HL := Aside0.mk hfo.2
  have HQ := Aside0.mk (overE_eq o e run)
  obtain ⟨err, herr⟩ : ∃ err, err = overErr o run := ⟨_, rfl⟩
  rw [← herr] at HQ
  have HERR := Aside0.mk herr
  have h1' : (ownE o == 0) = true ∧ Aside0 (err = ownsE run) ∨ (ownE o == 0) = false ∧ Aside0 (err = ownE o) := by
    rw [herr]; unfold overErr
    by_cases c : ownE o = 0
    · exact .inl ⟨beq_iff_eq.mpr c, ⟨if_pos c⟩⟩
    · exact .inr ⟨beq_eq_false_iff_ne.mpr c, ⟨if_neg c⟩⟩
  clear h1 h2 h4 hG hfo hf herr
  obtain ⟨c1', HER⟩ | ⟨c1', HER⟩ := h1'
  all_goals
    go_enter Tryd.func42, Tryd.ntmps42
    go_wp2_with (first | ((with_reducible refine gate_box rfl ?_); refine ev_box S ?_; clear S; intro _ _ S) | ((with_reducible refine gate_new rfl ?_); refine ev_new S 41 zA ?_; clear S; intro _ _ S) | ((with_reducible refine gate_load rfl ?_); first | refine ev_load S 0 ?_ | refine ev_load S 1 ?_ | refine ev_load S 2 ?_ | refine ev_load S 3 ?_) | ((with_reducible refine gate_load rfl ?_); first | refine ev_fld S 0 ?_ | refine ev_fld S 1 ?_ | refine ev_fld S 2 ?_ | refine ev_fld S 3 ?_) | ((with_reducible refine gate_st rfl ?_); (first | refine ev_store S 0 ?_ | refine ev_store S 1 ?_ | refine ev_store S 2 ?_); clear S; intro _ S) | (go_at_call 52; (with_reducible refine (own_any o _ _ (GW.below HG.out S.out.below) (HO.out.below S.out.below) HF.out.1).mono ?_); rintro e_ w7 ⟨rfl, hb⟩; replace S := Aside0.mk (S.out.step hb); clear hb) | (go_at_call 55; (with_reducible refine (owns_any run _ _ (GW.below HG.out S.out.below) (HR.out.below S.out.below) HF.out.2.1 HF.out.2.2).mono ?_); rintro e_ w7 ⟨rfl, hb⟩; replace S := Aside0.mk (S.out.step hb); clear hb) | (go_at_call 64; (with_reducible refine (clone_any o _ _ (HO.out.below S.out.below) HL.out).mono ?_); rintro e_ w7 ⟨v, rfl, hR, hb⟩; obtain ⟨Ao, co, rfl⟩ := hR.slice; replace S := Aside0.mk (S.out.addOp hb hR); clear hb hR))
    go_loopw [8, 21] (fun e' i' wr => ∃ (k : Nat) (s : S41 × Int) (As : Option Addr) (cs : Nat), k ≤ run.length ∧ i' = .int .i64 (k : Int) ∧ e' = .int .i64 s.2 ∧ Aside0 (OverAt err o e run w _ _ k s As cs wr)) (fun _ i' _ => run.length - (intOf i').toNat)
    case atStart => exact ⟨0, (o, err), Ao, co, Nat.zero_le _, rfl, by rw [HER.out], ⟨⟨rfl, S.out⟩⟩⟩
    case round =>
      obtain ⟨k, s, As, cs, hk, rfl, rfl, HA⟩ := hrel
      have S := Aside0.mk HA.out.st
      by_cases hlt : k < run.length
      · obtain ⟨ad, A5, c5, rfl, hat, hop⟩ := HE.out k hlt
        have hft := fold_take e run (o, err) k hlt
        have hm : run.getD k z41 ∈ run := by rw [List.getD_eq_getElem?_getD, List.getElem?_eq_getElem hlt]; exact List.getElem_mem hlt
        obtain ⟨x, hx⟩ : ∃ x, x = run.getD k z41 := ⟨_, rfl⟩
        rw [← hx] at hat hop hft hm
        have HAT := Aside0.mk hat
        have HOP := Aside0.mk hop
        have HFT := Aside0.mk hft
        have HMX := Aside0.mk hm
        clear hat hop hft hx hm
        by_cases h0 : s.2 = 0
        · have h0' : (s.2 != 0) = false := bne_eq_false_iff_eq.mpr h0
          have hgs := over_goods HERR.out HA.out.eq h0 HF.out.1 HF.out.2.1
          have HGS := Aside0.mk hgs.1
          have HGX := Aside0.mk (hgs.2 x HMX.out)
          have HEQ := Aside0.mk (show incE s.1 x e = (run.take (k + 1)).foldl (overF e) (o, err) by
            rw [HFT.out, ← HA.out.eq]; exact (if_pos h0).symm)
          clear h0 hgs
          go_wp2_with (first | ((with_reducible refine gate_box rfl ?_); refine ev_box S ?_; clear S; intro _ _ S) | ((with_reducible refine gate_new rfl ?_); refine ev_new S 41 zA ?_; clear S; intro _ _ S) | ((with_reducible refine gate_load rfl ?_); first | refine ev_load S 0 ?_ | refine ev_load S 1 ?_ | refine ev_load S 2 ?_ | refine ev_load S 3 ?_) | ((with_reducible refine gate_load rfl ?_); first | refine ev_fld S 0 ?_ | refine ev_fld S 1 ?_ | refine ev_fld S 2 ?_ | refine ev_fld S 3 ?_) | ((with_reducible refine gate_st rfl ?_); (first | refine ev_store S 0 ?_ | refine ev_store S 1 ?_ | refine ev_store S 2 ?_); clear S; intro _ S) | (go_at_call 52; (with_reducible refine (own_any o _ _ (GW.below HG.out S.out.below) (HO.out.below S.out.below) HF.out.1).mono ?_); rintro e_ w7 ⟨rfl, hb⟩; replace S := Aside0.mk (S.out.step hb); clear hb) | (go_at_call 55; (with_reducible refine (owns_any run _ _ (GW.below HG.out S.out.below) (HR.out.below S.out.below) HF.out.2.1 HF.out.2.2).mono ?_); rintro e_ w7 ⟨rfl, hb⟩; replace S := Aside0.mk (S.out.step hb); clear hb) | (go_at_call 64; (with_reducible refine (clone_any o _ _ (HO.out.below S.out.below) HL.out).mono ?_); rintro e_ w7 ⟨v, rfl, hR, hb⟩; obtain ⟨Ao, co, rfl⟩ := hR.slice; replace S := Aside0.mk (S.out.addOp hb hR); clear hb hR) | ((with_reducible refine gate_load rfl ?_); refine ev_ext (opA x (.slice A5 x.f3.length c5)) (HAT.out _ S.out.below) ?_) | (go_at_call 56; (with_reducible refine (incE_prog s.1 x e _ _ _ (GW.below HG.out S.out.below) S.out.now.2.C (HOP.out.below S.out.below) HGS.out HGX.out).mono ?_); rintro e_ w7 ⟨v, rfl, hR, hb⟩; obtain ⟨Ai, ci, rfl⟩ := hR.slice; replace S := Aside0.mk (S.out.addOp hb hR); clear hb hR))
          go_roundw
          case rel => exact ⟨k + 1, incE s.1 x e, Ai, ci, by omega, by go_num, rfl, ⟨⟨HEQ.out, (S.out.drop (List.sublist_cons_self _ _)).weak fun _ h => ⟨trivial, h.2⟩⟩⟩⟩
          case measure => simp [intOf]; omega
        · have h0' : (s.2 != 0) = true := bne_iff_ne.mpr h0
          have HN := Aside0.mk (show overE o e run = (z41, s.2) by
            rw [HQ.out, over_end HA.out.eq (.inr h0), if_neg h0])
          clear h0
          go_wp2_with (first | ((with_reducible refine gate_box rfl ?_); refine ev_box S ?_; clear S; intro _ _ S) | ((with_reducible refine gate_new rfl ?_); refine ev_new S 41 zA ?_; clear S; intro _ _ S) | ((with_reducible refine gate_load rfl ?_); first | refine ev_load S 0 ?_ | refine ev_load S 1 ?_ | refine ev_load S 2 ?_ | refine ev_load S 3 ?_) | ((with_reducible refine gate_load rfl ?_); first | refine ev_fld S 0 ?_ | refine ev_fld S 1 ?_ | refine ev_fld S 2 ?_ | refine ev_fld S 3 ?_) | ((with_reducible refine gate_st rfl ?_); (first | refine ev_store S 0 ?_ | refine ev_store S 1 ?_ | refine ev_store S 2 ?_); clear S; intro _ S) | (go_at_call 52; (with_reducible refine (own_any o _ _ (GW.below HG.out S.out.below) (HO.out.below S.out.below) HF.out.1).mono ?_); rintro e_ w7 ⟨rfl, hb⟩; replace S := Aside0.mk (S.out.step hb); clear hb) | (go_at_call 55; (with_reducible refine (owns_any run _ _ (GW.below HG.out S.out.below) (HR.out.below S.out.below) HF.out.2.1 HF.out.2.2).mono ?_); rintro e_ w7 ⟨rfl, hb⟩; replace S := Aside0.mk (S.out.step hb); clear hb) | (go_at_call 64; (with_reducible refine (clone_any o _ _ (HO.out.below S.out.below) HL.out).mono ?_); rintro e_ w7 ⟨v, rfl, hR, hb⟩; obtain ⟨Ao, co, rfl⟩ := hR.slice; replace S := Aside0.mk (S.out.addOp hb hR); clear hb hR) | ((with_reducible refine gate_load rfl ?_); refine ev_ext (opA x (.slice A5 x.f3.length c5)) (HAT.out _ S.out.below) ?_))
          rw [HN.out]
          exact bodyPost_ret (results_ct rfl _ _ _ 41 zA (0, 0) _ rfl (S.out.at_ 1 rfl) Tryd.underlying41 rfl (by kernel_rfl)) rfl ⟨.slice none 0 0, rfl, opR_nil _ _, S.out.below⟩
      · have HN := Aside0.mk (show overE o e run = if s.2 = 0 then s else (z41, s.2) by
          rw [HQ.out, over_end HA.out.eq (.inl hlt)])
        by_cases h0 : s.2 = 0
        · have h0' : (s.2 != 0) = false := bne_eq_false_iff_eq.mpr h0
          have HM := Aside0.mk (show overE o e run = (s.1, 0) by rw [HN.out, if_pos h0, ← h0])
          clear h0
          go_wp2_with (first | ((with_reducible refine gate_box rfl ?_); refine ev_box S ?_; clear S; intro _ _ S) | ((with_reducible refine gate_new rfl ?_); refine ev_new S 41 zA ?_; clear S; intro _ _ S) | ((with_reducible refine gate_load rfl ?_); first | refine ev_load S 0 ?_ | refine ev_load S 1 ?_ | refine ev_load S 2 ?_ | refine ev_load S 3 ?_) | ((with_reducible refine gate_load rfl ?_); first | refine ev_fld S 0 ?_ | refine ev_fld S 1 ?_ | refine ev_fld S 2 ?_ | refine ev_fld S 3 ?_) | ((with_reducible refine gate_st rfl ?_); (first | refine ev_store S 0 ?_ | refine ev_store S 1 ?_ | refine ev_store S 2 ?_); clear S; intro _ S) | (go_at_call 52; (with_reducible refine (own_any o _ _ (GW.below HG.out S.out.below) (HO.out.below S.out.below) HF.out.1).mono ?_); rintro e_ w7 ⟨rfl, hb⟩; replace S := Aside0.mk (S.out.step hb); clear hb) | (go_at_call 55; (with_reducible refine (owns_any run _ _ (GW.below HG.out S.out.below) (HR.out.below S.out.below) HF.out.2.1 HF.out.2.2).mono ?_); rintro e_ w7 ⟨rfl, hb⟩; replace S := Aside0.mk (S.out.step hb); clear hb) | (go_at_call 64; (with_reducible refine (clone_any o _ _ (HO.out.below S.out.below) HL.out).mono ?_); rintro e_ w7 ⟨v, rfl, hR, hb⟩; obtain ⟨Ao, co, rfl⟩ := hR.slice; replace S := Aside0.mk (S.out.addOp hb hR); clear hb hR))
          rw [HM.out]
          exact bodyPost_ret (results_ct rfl _ _ _ 41 _ (0, 0) _ rfl (S.out.at_ 0 rfl) Tryd.underlying41 rfl (by kernel_rfl)) rfl ⟨_, rfl, S.out.now.2, S.out.below⟩
        · have h0' : (s.2 != 0) = true := bne_iff_ne.mpr h0
          have HM := Aside0.mk (show overE o e run = (z41, s.2) by rw [HN.out, if_neg h0])
          clear h0
          go_wp2_with (first | ((with_reducible refine gate_box rfl ?_); refine ev_box S ?_; clear S; intro _ _ S) | ((with_reducible refine gate_new rfl ?_); refine ev_new S 41 zA ?_; clear S; intro _ _ S) | ((with_reducible refine gate_load rfl ?_); first | refine ev_load S 0 ?_ | refine ev_load S 1 ?_ | refine ev_load S 2 ?_ | refine ev_load S 3 ?_) | ((with_reducible refine gate_load rfl ?_); first | refine ev_fld S 0 ?_ | refine ev_fld S 1 ?_ | refine ev_fld S 2 ?_ | refine ev_fld S 3 ?_) | ((with_reducible refine gate_st rfl ?_); (first | refine ev_store S 0 ?_ | refine ev_store S 1 ?_ | refine ev_store S 2 ?_); clear S; intro _ S) | (go_at_call 52; (with_reducible refine (own_any o _ _ (GW.below HG.out S.out.below) (HO.out.below S.out.below) HF.out.1).mono ?_); rintro e_ w7 ⟨rfl, hb⟩; replace S := Aside0.mk (S.out.step hb); clear hb) | (go_at_call 55; (with_reducible refine (owns_any run _ _ (GW.below HG.out S.out.below) (HR.out.below S.out.below) HF.out.2.1 HF.out.2.2).mono ?_); rintro e_ w7 ⟨rfl, hb⟩; replace S := Aside0.mk (S.out.step hb); clear hb) | (go_at_call 64; (with_reducible refine (clone_any o _ _ (HO.out.below S.out.below) HL.out).mono ?_); rintro e_ w7 ⟨v, rfl, hR, hb⟩; obtain ⟨Ao, co, rfl⟩ := hR.slice; replace S := Aside0.mk (S.out.addOp hb hR); clear hb hR))
          rw [HM.out]
          exact bodyPost_ret (results_ct rfl _ _ _ 41 zA (0, 0) _ rfl (S.out.at_ 0 rfl) Tryd.underlying41 rfl (by kernel_rfl)) rfl ⟨.slice none 0 0, rfl, opR_nil _ _, S.out.below⟩
end Go.Proofs.YtloccjkcmlkifaaDoor
end
section
namespace Go.Proofs.YtloccjkcmlkifaaDoor
open Go.RowKit Go.Proofs.YtloccjkcmlkifaaDoor.PAll Go.Proofs.YtloccjkcmlkifaaDoorW.PrintWords Go.Proofs.YtloccjkcmlkifaaDoorW.PrintLast
section
variable {P : Program} {ops : Array Oper} {Q : Exit → Act → World → Prop} {md : Region.Mode} {S : World → Prop} {ds : List Nat} {fuel : Nat} {l : Array Bool} {a a' : Act} {w w0 : World} {oi : Oper} {N : Tmp} {rest : List Oper} {o : Oper} {W : World} {bs : List Bx} {F : World → Prop}
theorem le_ (i : Nat) (cs : Array Value) {ty : TypeId} {x : Operand} {d : TypeDesc} {ad : Addr} (hS : S w) (hcc : ∀ w', S w' → atL w' ad 0 cs.toList)
    (h : wpAnyLast P md ops Q S ds fuel (l.setIfInBounds i true) a' w)
    (hi : ops[i]? = some oi := by rfl) (hN : oi.dst = some N := by rfl) (hc : takeB md ops ds l (l.setIfInBounds i true) i = true := by kernel_rfl)
    (ho : oi.op = .load ty x := by rfl) (hx : a.eval x = .pointer (some ad) := by rfl)
    (hw : Region.wanted oi (yielded ops a.tmps) = true := by first | exact wanted_plain rfl | (refine wanted_on rfl ?_; simp [yielded]))
    (hu : P.underlying ty = some d := by first | exact Tryd.underlying41 | exact Tryd.underlying100) (hdd : (match d with | .struct _ | .array _ _ => true | _ => false) = true := by rfl) (hs : (P.info? ty).map (·.size) = some cs.size := by kernel_rfl)
    (ha : a.put (some N) (.agg cs) = a' := by (simp only [Act.put, List.setIfInBounds_toArray, List.set_cons_zero, List.set_cons_succ]; rfl))
    (hQ : ∀ c a w, Q (.panic c) (a.put oi.dst (.agg cs)) w → Q (.panic c) a w := by exact fun _ _ _ h => h) : wpAnyLast P md ops Q S ds (fuel + 1) l a w :=
  take_ (l.setIfInBounds i true) hi hN hc hQ (.inl ⟨hw, fun w' hS' => by
    have hr := run_load_wide (P := P) w' ad ty cs.toList d (hcc w' hS') hu hdd (by simpa using hs)
    unfold execOp
    simp only [ho, hx, Instr.loadAt, Instr.sureAddr, Sem.run_bind, Sem.run_pure, Result.andThen_ok, hr]⟩) hS ha h
theorem ev_lit (S : Aside0 (St w0 W bs F)) (cs : Array Value) (n : Nat) {ty : TypeId} {xs : Array (Nat × Operand)}
    (h : ∀ g w', Aside0 (St w0 w' ((g, 41, cs) :: bs) F) → wpList P ops Q rest (a.put (some N) (.slice (some ⟨g, 0, none⟩) n n)) w')
    (ho : o.op = .buildSlice ty n xs := by rfl) (hd : o.dst = some N := by rfl) (hw : Region.wanted o (yielded ops a.tmps) = true := by exact wanted_plain rfl)
    (hrun : (execOp a.eval o).run P W = .ok (.value (.slice (some ⟨W.heap.size, 0, none⟩) n n)) (W.alloc (.cells cs 41 (0, 0))) := by first | (go_simp; done) | (go_simp; rfl)) : wpList P ops Q (o :: rest) a W :=
  have _ := ho
  ev_run hw hrun (by rw [hd]; exact h _ _ ⟨S.out.push (below_alloc (Below.refl _ _) _) (blk_new W _) rfl⟩)
end
theorem opA_K {w : World} {v : Value} {o : S41} (h : OpC w v o) : k41.K w o (opA o v).toList := by
  obtain ⟨A, c, rfl, h1, h2⟩ := h
  exact k41_mk w o h1 h2
theorem runC_box1 {w : World} {g : Nat} {v : Value} {o : S41} (h : w.heap[g]? = some (.cells (opA o v) 41 (0, 0))) (ho : OpC w v o) : RunC w (.slice (some ⟨g, 0, none⟩) 1 1) [o] := by
  refine ⟨some ⟨g, 0, none⟩, 1, rfl, Nat.le_refl _, rfl, by simp, fun _ => ⟨_, rfl, fun j p hj => ?_⟩⟩
  match j, hj with
  | 0, hj =>
    obtain rfl := Option.some.inj hj
    refine ⟨_, rfl, opA_K ho, fun i u hu => ?_⟩
    rw [add_plain, blk_cell h, ← hu]
    simp [k41]
  | j + 1, hj => simp at hj
theorem runC_box2 {w : World} {g : Nat} {v u : Value} {o p : S41} (h : w.heap[g]? = some (.cells (opA o v ++ opA p u) 41 (0, 0))) (ho : OpC w v o) (hp : OpC w u p) : RunC w (.slice (some ⟨g, 0, none⟩) 2 2) [o, p] := by
  refine ⟨some ⟨g, 0, none⟩, 2, rfl, Nat.le_refl _, rfl, by simp, fun _ => ⟨_, rfl, fun j q hj => ?_⟩⟩
  match j, hj with
  | 0, hj =>
    obtain rfl := Option.some.inj hj
    refine ⟨_, rfl, opA_K ho, fun i x hx => ?_⟩
    have hi : i < 9 := (List.getElem?_eq_some_iff.1 hx).1
    rw [add_plain, blk_cell h, ← hx, Nat.zero_mul, Nat.zero_add, Array.getElem?_append_left (by simpa using hi)]
    simp
  | 1, hj =>
    obtain rfl := Option.some.inj hj
    refine ⟨_, rfl, opA_K hp, fun i x hx => ?_⟩
    have e : 1 * k41.sz = 9 := rfl
    rw [add_plain, blk_cell h, ← hx, e, Array.getElem?_append_right (by simp)]
    simp
  | j + 2, hj => simp at hj
theorem ownsE_one (o : S41) : ownsE [o] = ownE o := by
  unfold ownsE
  by_cases c : ownE o = 0
  · rw [if_pos c, c]; rfl
  · rw [if_neg c]
theorem gate_lit {P : Program} {ops : Array Oper} {rest : List Oper} {o : Oper} {a : Act} {Q : Exit → Act → World → Prop} {W : World} {t : TypeId} {n : Nat} {xs : Array (Nat × Operand)} (_ho : o.op = .buildSlice t n xs) (h : wpList P ops Q (o :: rest) a W) : wpList P ops Q (o :: rest) a W := h
set_option maxRecDepth 100000 in
set_option maxHeartbeats 4000000 in
theorem rover_any (o : S41) (e : Bool) (run : List S41) (vo vr : Value) (w : World) (ho : OpC w vo o) (hr : RunC w vr run) (hfo : fineOp o) (hf : ∀ x ∈ run, fineOp x) (hl : run.length ≤ 1048576) :
    Calls Tryd.prog 99 #[.agg (opA o vo), .bool e, vr] w (RetOp w (overE o e run)) := by
  obtain ⟨A, c, rfl, h1, h2⟩ := ho
  obtain ⟨B, d, rfl, h3, h4⟩ := hr
  have S := Aside0.mk (St.init w (F := fun _ => True) (fun _ _ => trivial))
  have HO := Aside0.mk (opC_mk h1 h2); have HR := Aside0.mk (runC_mk h3 h4)
  have HE := Aside0.mk (fun i hi => elem_C h4 i hi)
  have HF := Aside0.mk (show fineOp o ∧ (∀ x ∈ run, fineOp x) ∧ run.length ≤ 1048576 from ⟨hfo, hf, hl⟩)
  have HF1 := Aside0.mk (show ∀ x ∈ [o], fineOp x from fun x hx => by rw [List.mem_singleton.1 hx]; exact hfo)
  clear h1 h2 h4 hfo hf
  by_cases c1 : ownE o = 0
  case neg =>
    have HM := Aside0.mk (show overE o e run = (z41, ownE o) from if_pos c1)
    have c1' : (ownE o == 0) = false := beq_eq_false_iff_ne.mpr c1
    have c1'' : (ownE o != 0) = true := bne_iff_ne.mpr c1
    clear c1
    go_enter Tryd.func99, Tryd.ntmps99
    go_wp2_with (first | ((with_reducible refine gate_box rfl ?_); refine ev_box S ?_; clear S; intro _ _ S) | ((with_reducible refine gate_new rfl ?_); refine ev_new S 41 zA ?_; clear S; intro _ _ S) | ((with_reducible refine gate_load rfl ?_); first | refine ev_load S 0 ?_ | refine ev_load S 1 ?_ | refine ev_load S 2 ?_ | refine ev_load S 3 ?_) | ((with_reducible refine gate_load rfl ?_); first | refine ev_fld S 0 ?_ | refine ev_fld S 1 ?_ | refine ev_fld S 2 ?_ | refine ev_fld S 3 ?_) | ((with_reducible refine gate_st rfl ?_); (first | refine ev_store S 0 ?_ | refine ev_store S 1 ?_ | refine ev_store S 2 ?_); clear S; intro _ S) | ((with_reducible refine gate_lit rfl ?_); refine ev_lit S (opA o (.slice A o.f3.length c)) 1 ?_; clear S; intro _ _ S) | (go_at_call 95; (with_reducible refine (rowns_any [o] _ _ (runC_box1 (S.out.at_ 0 rfl) (HO.out.below S.out.below)) HF1.out (by simp)).mono ?_); rintro e_ w7 ⟨rfl, hb⟩; rw [ownsE_one]; replace S := Aside0.mk (S.out.step hb); clear hb) | (go_at_call 95; (with_reducible refine (rowns_any run _ _ (HR.out.below S.out.below) HF.out.2.1 HF.out.2.2).mono ?_); rintro e_ w7 ⟨rfl, hb⟩; replace S := Aside0.mk (S.out.step hb); clear hb) | (go_at_call 22; (with_reducible refine (rcopy_any o _ _ (HO.out.below S.out.below) HF.out.1).mono ?_); rintro e_ w7 ⟨v, rfl, hR, hb⟩; obtain ⟨Ao, co, rfl⟩ := hR.slice; replace S := Aside0.mk (S.out.addOp hb hR); clear hb hR))
    rw [HM.out]
    exact bodyPost_ret (results_ct rfl _ _ _ 41 zA (0, 0) _ rfl (S.out.at_ 1 rfl) Tryd.underlying41 rfl (by kernel_rfl)) rfl ⟨.slice none 0 0, rfl, opR_nil _ _, S.out.below⟩
  have c1' : (ownE o == 0) = true := beq_iff_eq.mpr c1
  by_cases c2 : ownsE run = 0
  case neg =>
    have HM := Aside0.mk (show overE o e run = (z41, ownsE run) by unfold overE; rw [if_neg (fun h => h c1), if_pos c2])
    have c2' : (ownsE run != 0) = true := bne_iff_ne.mpr c2
    clear c1 c2
    go_enter Tryd.func99, Tryd.ntmps99
    go_wp2_with (first | ((with_reducible refine gate_box rfl ?_); refine ev_box S ?_; clear S; intro _ _ S) | ((with_reducible refine gate_new rfl ?_); refine ev_new S 41 zA ?_; clear S; intro _ _ S) | ((with_reducible refine gate_load rfl ?_); first | refine ev_load S 0 ?_ | refine ev_load S 1 ?_ | refine ev_load S 2 ?_ | refine ev_load S 3 ?_) | ((with_reducible refine gate_load rfl ?_); first | refine ev_fld S 0 ?_ | refine ev_fld S 1 ?_ | refine ev_fld S 2 ?_ | refine ev_fld S 3 ?_) | ((with_reducible refine gate_st rfl ?_); (first | refine ev_store S 0 ?_ | refine ev_store S 1 ?_ | refine ev_store S 2 ?_); clear S; intro _ S) | ((with_reducible refine gate_lit rfl ?_); refine ev_lit S (opA o (.slice A o.f3.length c)) 1 ?_; clear S; intro _ _ S) | (go_at_call 95; (with_reducible refine (rowns_any [o] _ _ (runC_box1 (S.out.at_ 0 rfl) (HO.out.below S.out.below)) HF1.out (by simp)).mono ?_); rintro e_ w7 ⟨rfl, hb⟩; rw [ownsE_one]; replace S := Aside0.mk (S.out.step hb); clear hb) | (go_at_call 95; (with_reducible refine (rowns_any run _ _ (HR.out.below S.out.below) HF.out.2.1 HF.out.2.2).mono ?_); rintro e_ w7 ⟨rfl, hb⟩; replace S := Aside0.mk (S.out.step hb); clear hb) | (go_at_call 22; (with_reducible refine (rcopy_any o _ _ (HO.out.below S.out.below) HF.out.1).mono ?_); rintro e_ w7 ⟨v, rfl, hR, hb⟩; obtain ⟨Ao, co, rfl⟩ := hR.slice; replace S := Aside0.mk (S.out.addOp hb hR); clear hb hR))
    rw [HM.out]
    exact bodyPost_ret (results_ct rfl _ _ _ 41 zA (0, 0) _ rfl (S.out.at_ 1 rfl) Tryd.underlying41 rfl (by kernel_rfl)) rfl ⟨.slice none 0 0, rfl, opR_nil _ _, S.out.below⟩
  have HQ := Aside0.mk (overE_eq o e run)
  have HERR := Aside0.mk (show (0 : Int) = overErr o run by unfold overErr; rw [if_pos c1, c2])
  rw [← HERR.out] at HQ
  have c2' : (ownsE run != 0) = false := bne_eq_false_iff_eq.mpr c2
  clear c1 c2
  go_enter Tryd.func99, Tryd.ntmps99
  go_wp2_with (first | ((with_reducible refine gate_box rfl ?_); refine ev_box S ?_; clear S; intro _ _ S) | ((with_reducible refine gate_new rfl ?_); refine ev_new S 41 zA ?_; clear S; intro _ _ S) | ((with_reducible refine gate_load rfl ?_); first | refine ev_load S 0 ?_ | refine ev_load S 1 ?_ | refine ev_load S 2 ?_ | refine ev_load S 3 ?_) | ((with_reducible refine gate_load rfl ?_); first | refine ev_fld S 0 ?_ | refine ev_fld S 1 ?_ | refine ev_fld S 2 ?_ | refine ev_fld S 3 ?_) | ((with_reducible refine gate_st rfl ?_); (first | refine ev_store S 0 ?_ | refine ev_store S 1 ?_ | refine ev_store S 2 ?_); clear S; intro _ S) | ((with_reducible refine gate_lit rfl ?_); refine ev_lit S (opA o (.slice A o.f3.length c)) 1 ?_; clear S; intro _ _ S) | (go_at_call 95; (with_reducible refine (rowns_any [o] _ _ (runC_box1 (S.out.at_ 0 rfl) (HO.out.below S.out.below)) HF1.out (by simp)).mono ?_); rintro e_ w7 ⟨rfl, hb⟩; rw [ownsE_one]; replace S := Aside0.mk (S.out.step hb); clear hb) | (go_at_call 95; (with_reducible refine (rowns_any run _ _ (HR.out.below S.out.below) HF.out.2.1 HF.out.2.2).mono ?_); rintro e_ w7 ⟨rfl, hb⟩; replace S := Aside0.mk (S.out.step hb); clear hb) | (go_at_call 22; (with_reducible refine (rcopy_any o _ _ (HO.out.below S.out.below) HF.out.1).mono ?_); rintro e_ w7 ⟨v, rfl, hR, hb⟩; obtain ⟨Ao, co, rfl⟩ := hR.slice; replace S := Aside0.mk (S.out.addOp hb hR); clear hb hR))
  go_loopw [9] (fun i' wr => ∃ (k : Nat) (s : S41 × Int) (As : Option Addr) (cs : Nat), k ≤ run.length ∧ i' = .int .i64 (k : Int) ∧ Aside0 (s.2 = 0) ∧ Aside0 (OverAt 0 o e run w _ _ k s As cs wr)) (fun i' _ => run.length - (intOf i').toNat)
  case atStart => exact ⟨0, (o, 0), Ao, co, Nat.zero_le _, rfl, ⟨rfl⟩, ⟨⟨rfl, S.out.drop (List.sublist_cons_self _ _)⟩⟩⟩
  case round =>
    obtain ⟨k, s, As, cs, hk, rfl, HZ, HA⟩ := hrel
    have S := Aside0.mk HA.out.st
    by_cases hlt : k < run.length
    · obtain ⟨ad, A5, c5, rfl, hat, hop⟩ := HE.out k hlt
      have hft := fold_take e run (o, 0) k hlt
      have hm : run.getD k z41 ∈ run := by rw [List.getD_eq_getElem?_getD, List.getElem?_eq_getElem hlt]; exact List.getElem_mem hlt
      obtain ⟨x, hx⟩ : ∃ x, x = run.getD k z41 := ⟨_, rfl⟩
      rw [← hx] at hat hop hft hm
      have hgs := over_goods HERR.out HA.out.eq HZ.out HF.out.1 HF.out.2.1
      have HGS := Aside0.mk hgs.1
      have HGX := Aside0.mk (hgs.2 x hm)
      have HAT := Aside0.mk hat
      have HOP := Aside0.mk hop
      have HEQ := Aside0.mk (show incE s.1 x e = (run.take (k + 1)).foldl (overF e) (o, 0) by
        rw [hft, ← HA.out.eq]; exact (if_pos HZ.out).symm)
      have hd : decide ((k : Int) < (run.length : Int)) = true := decide_eq_true (by omega)
      clear hat hop hft hx hm hgs
      by_cases h0 : (incE s.1 x e).2 = 0
      · have h0' : ((incE s.1 x e).2 != 0) = false := bne_eq_false_iff_eq.mpr h0
        have HZ2 := Aside0.mk h0
        clear h0
        go_wp2_with (first | ((with_reducible refine gate_box rfl ?_); refine ev_box S ?_; clear S; intro _ _ S) | ((with_reducible refine gate_new rfl ?_); refine ev_new S 41 zA ?_; clear S; intro _ _ S) | ((with_reducible refine gate_load rfl ?_); first | refine ev_load S 0 ?_ | refine ev_load S 1 ?_ | refine ev_load S 2 ?_ | refine ev_load S 3 ?_) | ((with_reducible refine gate_load rfl ?_); first | refine ev_fld S 0 ?_ | refine ev_fld S 1 ?_ | refine ev_fld S 2 ?_ | refine ev_fld S 3 ?_) | ((with_reducible refine gate_st rfl ?_); (first | refine ev_store S 0 ?_ | refine ev_store S 1 ?_ | refine ev_store S 2 ?_); clear S; intro _ S) | ((with_reducible refine gate_lit rfl ?_); refine ev_lit S (opA o (.slice A o.f3.length c)) 1 ?_; clear S; intro _ _ S) | (go_at_call 95; (with_reducible refine (rowns_any [o] _ _ (runC_box1 (S.out.at_ 0 rfl) (HO.out.below S.out.below)) HF1.out (by simp)).mono ?_); rintro e_ w7 ⟨rfl, hb⟩; rw [ownsE_one]; replace S := Aside0.mk (S.out.step hb); clear hb) | (go_at_call 95; (with_reducible refine (rowns_any run _ _ (HR.out.below S.out.below) HF.out.2.1 HF.out.2.2).mono ?_); rintro e_ w7 ⟨rfl, hb⟩; replace S := Aside0.mk (S.out.step hb); clear hb) | (go_at_call 22; (with_reducible refine (rcopy_any o _ _ (HO.out.below S.out.below) HF.out.1).mono ?_); rintro e_ w7 ⟨v, rfl, hR, hb⟩; obtain ⟨Ao, co, rfl⟩ := hR.slice; replace S := Aside0.mk (S.out.addOp hb hR); clear hb hR))
        refine rg_start (n := 13) (fun W => St w W _ _) [11] S.out (fun _ h => h.drew) ?_; clear S; intro _ S; refine ld_ 0 1 S (fun _ h => h) ?_; refine pu_ 1 ?_; refine pu_ 2 ?_; refine pu_ 3 ?_; refine le_ 4 (opA x (.slice A5 x.f3.length c5)) S (fun _ h => HAT.out _ h.below) ?_; refine pu_ 5 ?_
        refine re_ (rc_ 6 ?_ (rc_ 10 ?_ AllReadyL.nil))
        · (intro K hK; refine kc_ #[.agg (opA s.1 (.slice As s.1.f3.length cs)), .agg (opA x (.slice A5 x.f3.length c5)), .bool e] ?_ Tryd.func96; refine (incE_ref s.1 x e _ _ _ S.now.2.C (HOP.out.below S.below) HGS.out HGX.out).mono ?_; rintro e_ w7 ⟨v, rfl, hR, hb⟩; obtain ⟨Ai, ci, rfl⟩ := hR.slice; refine ⟨_, rfl, hK.out _ _ (S.step hb) (fun _ => ?_)⟩; have S' := S.addOp hb hR; clear S hb hR hK; have S := S'; clear S'; refine nr_ (by (simp only [Act.put, List.setIfInBounds_toArray, List.set_cons_zero, List.set_cons_succ]; rfl)) ?_; refine pu_ 7 ?_; refine pu_ 8 ?_; refine pu_ 9 ?_; refine re_ (rc_ 10 ?_ AllReadyL.nil); intro K hK; refine kn_ 41 zA S ?_; intro _ _ S'; refine hK.out _ _ ((S'.drop (List.sublist_cons_self _ _)).weak fun _ h => h.1) (fun _ => ?_); clear S hK; refine nr_ (by (simp only [Act.put, List.setIfInBounds_toArray, List.set_cons_zero, List.set_cons_succ]; rfl)) ?_; refine so_ 11 0 S' ?_; clear S'; intro _ S; refine pu_ 12 ?_; refine done_ (by kernel_rfl) ?_; have S := Aside0.mk S)
          go_wp2_with (first | ((with_reducible refine gate_box rfl ?_); refine ev_box S ?_; clear S; intro _ _ S) | ((with_reducible refine gate_new rfl ?_); refine ev_new S 41 zA ?_; clear S; intro _ _ S) | ((with_reducible refine gate_load rfl ?_); first | refine ev_load S 0 ?_ | refine ev_load S 1 ?_ | refine ev_load S 2 ?_ | refine ev_load S 3 ?_) | ((with_reducible refine gate_load rfl ?_); first | refine ev_fld S 0 ?_ | refine ev_fld S 1 ?_ | refine ev_fld S 2 ?_ | refine ev_fld S 3 ?_) | ((with_reducible refine gate_st rfl ?_); (first | refine ev_store S 0 ?_ | refine ev_store S 1 ?_ | refine ev_store S 2 ?_); clear S; intro _ S) | ((with_reducible refine gate_lit rfl ?_); refine ev_lit S (opA o (.slice A o.f3.length c)) 1 ?_; clear S; intro _ _ S) | (go_at_call 95; (with_reducible refine (rowns_any [o] _ _ (runC_box1 (S.out.at_ 0 rfl) (HO.out.below S.out.below)) HF1.out (by simp)).mono ?_); rintro e_ w7 ⟨rfl, hb⟩; rw [ownsE_one]; replace S := Aside0.mk (S.out.step hb); clear hb) | (go_at_call 95; (with_reducible refine (rowns_any run _ _ (HR.out.below S.out.below) HF.out.2.1 HF.out.2.2).mono ?_); rintro e_ w7 ⟨rfl, hb⟩; replace S := Aside0.mk (S.out.step hb); clear hb) | (go_at_call 22; (with_reducible refine (rcopy_any o _ _ (HO.out.below S.out.below) HF.out.1).mono ?_); rintro e_ w7 ⟨v, rfl, hR, hb⟩; obtain ⟨Ao, co, rfl⟩ := hR.slice; replace S := Aside0.mk (S.out.addOp hb hR); clear hb hR))
          go_roundw
          case rel => exact ⟨k + 1, incE s.1 x e, Ai, ci, by omega, by go_num, HZ2, ⟨⟨HEQ.out, (S.out.drop (List.sublist_cons_self _ _)).weak fun _ h => ⟨trivial, h.2⟩⟩⟩⟩
          case measure => simp [intOf]; omega
        · (intro K hK; refine kn_ 41 zA S ?_; intro _ _ S'; refine hK.out _ _ (S'.drop (List.sublist_cons_self _ _)) (fun _ => ?_); clear S hK; have S := S'; clear S'; refine nr_ (by (simp only [Act.put, List.setIfInBounds_toArray, List.set_cons_zero, List.set_cons_succ]; rfl)) ?_; refine cl_ 6 #[.agg (opA s.1 (.slice As s.1.f3.length cs)), .agg (opA x (.slice A5 x.f3.length c5)), .bool e] ?_ Tryd.func96; refine (incE_ref s.1 x e _ _ _ S.now.2.C (HOP.out.below S.below) HGS.out HGX.out).mono ?_; rintro e_ w7 ⟨v, rfl, hR, hb⟩; obtain ⟨Ai, ci, rfl⟩ := hR.slice; refine ⟨_, rfl, (S.step hb).drop (List.sublist_cons_self _ _), fun _ => ?_⟩; have S' := S.addOp hb hR; clear S hb hR; have S := S'; clear S'; refine nr_ (by (simp only [Act.put, List.setIfInBounds_toArray, List.set_cons_zero, List.set_cons_succ]; rfl)) ?_; refine pu_ 7 ?_; refine pu_ 8 ?_; refine pu_ 9 ?_; refine so_ 11 0 S ?_; clear S; intro _ S; refine pu_ 12 ?_; refine done_ (by kernel_rfl) ?_; have S := Aside0.mk S)
          go_wp2_with (first | ((with_reducible refine gate_box rfl ?_); refine ev_box S ?_; clear S; intro _ _ S) | ((with_reducible refine gate_new rfl ?_); refine ev_new S 41 zA ?_; clear S; intro _ _ S) | ((with_reducible refine gate_load rfl ?_); first | refine ev_load S 0 ?_ | refine ev_load S 1 ?_ | refine ev_load S 2 ?_ | refine ev_load S 3 ?_) | ((with_reducible refine gate_load rfl ?_); first | refine ev_fld S 0 ?_ | refine ev_fld S 1 ?_ | refine ev_fld S 2 ?_ | refine ev_fld S 3 ?_) | ((with_reducible refine gate_st rfl ?_); (first | refine ev_store S 0 ?_ | refine ev_store S 1 ?_ | refine ev_store S 2 ?_); clear S; intro _ S) | ((with_reducible refine gate_lit rfl ?_); refine ev_lit S (opA o (.slice A o.f3.length c)) 1 ?_; clear S; intro _ _ S) | (go_at_call 95; (with_reducible refine (rowns_any [o] _ _ (runC_box1 (S.out.at_ 0 rfl) (HO.out.below S.out.below)) HF1.out (by simp)).mono ?_); rintro e_ w7 ⟨rfl, hb⟩; rw [ownsE_one]; replace S := Aside0.mk (S.out.step hb); clear hb) | (go_at_call 95; (with_reducible refine (rowns_any run _ _ (HR.out.below S.out.below) HF.out.2.1 HF.out.2.2).mono ?_); rintro e_ w7 ⟨rfl, hb⟩; replace S := Aside0.mk (S.out.step hb); clear hb) | (go_at_call 22; (with_reducible refine (rcopy_any o _ _ (HO.out.below S.out.below) HF.out.1).mono ?_); rintro e_ w7 ⟨v, rfl, hR, hb⟩; obtain ⟨Ao, co, rfl⟩ := hR.slice; replace S := Aside0.mk (S.out.addOp hb hR); clear hb hR))
          go_roundw
          case rel => exact ⟨k + 1, incE s.1 x e, Ai, ci, by omega, by go_num, HZ2, ⟨⟨HEQ.out, (S.out.drop (List.sublist_cons_self _ _)).weak fun _ h => ⟨trivial, h.2⟩⟩⟩⟩
          case measure => simp [intOf]; omega
      · have h0' : ((incE s.1 x e).2 != 0) = true := bne_iff_ne.mpr h0
        have HN := Aside0.mk (show overE o e run = (z41, (incE s.1 x e).2) by
          rw [HQ.out, over_end (k := k + 1) HEQ.out (.inr h0), if_neg h0])
        clear h0
        go_wp2_with (first | ((with_reducible refine gate_box rfl ?_); refine ev_box S ?_; clear S; intro _ _ S) | ((with_reducible refine gate_new rfl ?_); refine ev_new S 41 zA ?_; clear S; intro _ _ S) | ((with_reducible refine gate_load rfl ?_); first | refine ev_load S 0 ?_ | refine ev_load S 1 ?_ | refine ev_load S 2 ?_ | refine ev_load S 3 ?_) | ((with_reducible refine gate_load rfl ?_); first | refine ev_fld S 0 ?_ | refine ev_fld S 1 ?_ | refine ev_fld S 2 ?_ | refine ev_fld S 3 ?_) | ((with_reducible refine gate_st rfl ?_); (first | refine ev_store S 0 ?_ | refine ev_store S 1 ?_ | refine ev_store S 2 ?_); clear S; intro _ S) | ((with_reducible refine gate_lit rfl ?_); refine ev_lit S (opA o (.slice A o.f3.length c)) 1 ?_; clear S; intro _ _ S) | (go_at_call 95; (with_reducible refine (rowns_any [o] _ _ (runC_box1 (S.out.at_ 0 rfl) (HO.out.below S.out.below)) HF1.out (by simp)).mono ?_); rintro e_ w7 ⟨rfl, hb⟩; rw [ownsE_one]; replace S := Aside0.mk (S.out.step hb); clear hb) | (go_at_call 95; (with_reducible refine (rowns_any run _ _ (HR.out.below S.out.below) HF.out.2.1 HF.out.2.2).mono ?_); rintro e_ w7 ⟨rfl, hb⟩; replace S := Aside0.mk (S.out.step hb); clear hb) | (go_at_call 22; (with_reducible refine (rcopy_any o _ _ (HO.out.below S.out.below) HF.out.1).mono ?_); rintro e_ w7 ⟨v, rfl, hR, hb⟩; obtain ⟨Ao, co, rfl⟩ := hR.slice; replace S := Aside0.mk (S.out.addOp hb hR); clear hb hR))
        refine rg_start (n := 13) (fun W => St w W _ _) [11] S.out (fun _ h => h.drew) ?_; clear S; intro _ S; refine ld_ 0 1 S (fun _ h => h) ?_; refine pu_ 1 ?_; refine pu_ 2 ?_; refine pu_ 3 ?_; refine le_ 4 (opA x (.slice A5 x.f3.length c5)) S (fun _ h => HAT.out _ h.below) ?_; refine pu_ 5 ?_
        refine re_ (rc_ 6 ?_ (rc_ 10 ?_ AllReadyL.nil))
        · (intro K hK; refine kc_ #[.agg (opA s.1 (.slice As s.1.f3.length cs)), .agg (opA x (.slice A5 x.f3.length c5)), .bool e] ?_ Tryd.func96; refine (incE_ref s.1 x e _ _ _ S.now.2.C (HOP.out.below S.below) HGS.out HGX.out).mono ?_; rintro e_ w7 ⟨v, rfl, hR, hb⟩; obtain ⟨Ai, ci, rfl⟩ := hR.slice; refine ⟨_, rfl, hK.out _ _ (S.step hb) (fun _ => ?_)⟩; have S' := S.addOp hb hR; clear S hb hR hK; have S := S'; clear S'; refine nr_ (by (simp only [Act.put, List.setIfInBounds_toArray, List.set_cons_zero, List.set_cons_succ]; rfl)) ?_; refine pu_ 7 ?_; refine pu_ 8 ?_; refine pu_ 9 ?_; refine re_ (rc_ 10 ?_ AllReadyL.nil); intro K hK; refine kn_ 41 zA S ?_; intro _ _ S'; refine hK.out _ _ ((S'.drop (List.sublist_cons_self _ _)).weak fun _ h => h.1) (fun _ => ?_); clear S hK; refine nr_ (by (simp only [Act.put, List.setIfInBounds_toArray, List.set_cons_zero, List.set_cons_succ]; rfl)) ?_; refine so_ 11 0 S' ?_; clear S'; intro _ S; refine pu_ 12 ?_; refine done_ (by kernel_rfl) ?_; have S := Aside0.mk S)
          go_wp2_with (first | ((with_reducible refine gate_box rfl ?_); refine ev_box S ?_; clear S; intro _ _ S) | ((with_reducible refine gate_new rfl ?_); refine ev_new S 41 zA ?_; clear S; intro _ _ S) | ((with_reducible refine gate_load rfl ?_); first | refine ev_load S 0 ?_ | refine ev_load S 1 ?_ | refine ev_load S 2 ?_ | refine ev_load S 3 ?_) | ((with_reducible refine gate_load rfl ?_); first | refine ev_fld S 0 ?_ | refine ev_fld S 1 ?_ | refine ev_fld S 2 ?_ | refine ev_fld S 3 ?_) | ((with_reducible refine gate_st rfl ?_); (first | refine ev_store S 0 ?_ | refine ev_store S 1 ?_ | refine ev_store S 2 ?_); clear S; intro _ S) | ((with_reducible refine gate_lit rfl ?_); refine ev_lit S (opA o (.slice A o.f3.length c)) 1 ?_; clear S; intro _ _ S) | (go_at_call 95; (with_reducible refine (rowns_any [o] _ _ (runC_box1 (S.out.at_ 0 rfl) (HO.out.below S.out.below)) HF1.out (by simp)).mono ?_); rintro e_ w7 ⟨rfl, hb⟩; rw [ownsE_one]; replace S := Aside0.mk (S.out.step hb); clear hb) | (go_at_call 95; (with_reducible refine (rowns_any run _ _ (HR.out.below S.out.below) HF.out.2.1 HF.out.2.2).mono ?_); rintro e_ w7 ⟨rfl, hb⟩; replace S := Aside0.mk (S.out.step hb); clear hb) | (go_at_call 22; (with_reducible refine (rcopy_any o _ _ (HO.out.below S.out.below) HF.out.1).mono ?_); rintro e_ w7 ⟨v, rfl, hR, hb⟩; obtain ⟨Ao, co, rfl⟩ := hR.slice; replace S := Aside0.mk (S.out.addOp hb hR); clear hb hR))
          rw [HN.out]
          exact bodyPost_ret (results_ct rfl _ _ _ 41 zA (0, 0) _ rfl (S.out.at_ 1 rfl) Tryd.underlying41 rfl (by kernel_rfl)) rfl ⟨.slice none 0 0, rfl, opR_nil _ _, S.out.below⟩
        · (intro K hK; refine kn_ 41 zA S ?_; intro _ _ S'; refine hK.out _ _ (S'.drop (List.sublist_cons_self _ _)) (fun _ => ?_); clear S hK; have S := S'; clear S'; refine nr_ (by (simp only [Act.put, List.setIfInBounds_toArray, List.set_cons_zero, List.set_cons_succ]; rfl)) ?_; refine cl_ 6 #[.agg (opA s.1 (.slice As s.1.f3.length cs)), .agg (opA x (.slice A5 x.f3.length c5)), .bool e] ?_ Tryd.func96; refine (incE_ref s.1 x e _ _ _ S.now.2.C (HOP.out.below S.below) HGS.out HGX.out).mono ?_; rintro e_ w7 ⟨v, rfl, hR, hb⟩; obtain ⟨Ai, ci, rfl⟩ := hR.slice; refine ⟨_, rfl, (S.step hb).drop (List.sublist_cons_self _ _), fun _ => ?_⟩; have S' := S.addOp hb hR; clear S hb hR; have S := S'; clear S'; refine nr_ (by (simp only [Act.put, List.setIfInBounds_toArray, List.set_cons_zero, List.set_cons_succ]; rfl)) ?_; refine pu_ 7 ?_; refine pu_ 8 ?_; refine pu_ 9 ?_; refine so_ 11 0 S ?_; clear S; intro _ S; refine pu_ 12 ?_; refine done_ (by kernel_rfl) ?_; have S := Aside0.mk S)
          go_wp2_with (first | ((with_reducible refine gate_box rfl ?_); refine ev_box S ?_; clear S; intro _ _ S) | ((with_reducible refine gate_new rfl ?_); refine ev_new S 41 zA ?_; clear S; intro _ _ S) | ((with_reducible refine gate_load rfl ?_); first | refine ev_load S 0 ?_ | refine ev_load S 1 ?_ | refine ev_load S 2 ?_ | refine ev_load S 3 ?_) | ((with_reducible refine gate_load rfl ?_); first | refine ev_fld S 0 ?_ | refine ev_fld S 1 ?_ | refine ev_fld S 2 ?_ | refine ev_fld S 3 ?_) | ((with_reducible refine gate_st rfl ?_); (first | refine ev_store S 0 ?_ | refine ev_store S 1 ?_ | refine ev_store S 2 ?_); clear S; intro _ S) | ((with_reducible refine gate_lit rfl ?_); refine ev_lit S (opA o (.slice A o.f3.length c)) 1 ?_; clear S; intro _ _ S) | (go_at_call 95; (with_reducible refine (rowns_any [o] _ _ (runC_box1 (S.out.at_ 0 rfl) (HO.out.below S.out.below)) HF1.out (by simp)).mono ?_); rintro e_ w7 ⟨rfl, hb⟩; rw [ownsE_one]; replace S := Aside0.mk (S.out.step hb); clear hb) | (go_at_call 95; (with_reducible refine (rowns_any run _ _ (HR.out.below S.out.below) HF.out.2.1 HF.out.2.2).mono ?_); rintro e_ w7 ⟨rfl, hb⟩; replace S := Aside0.mk (S.out.step hb); clear hb) | (go_at_call 22; (with_reducible refine (rcopy_any o _ _ (HO.out.below S.out.below) HF.out.1).mono ?_); rintro e_ w7 ⟨v, rfl, hR, hb⟩; obtain ⟨Ao, co, rfl⟩ := hR.slice; replace S := Aside0.mk (S.out.addOp hb hR); clear hb hR))
          rw [HN.out]
          exact bodyPost_ret (results_ct rfl _ _ _ 41 zA (0, 0) _ rfl (S.out.at_ 1 rfl) Tryd.underlying41 rfl (by kernel_rfl)) rfl ⟨.slice none 0 0, rfl, opR_nil _ _, S.out.below⟩
    · have HM := Aside0.mk (show overE o e run = (s.1, 0) by
        rw [HQ.out, over_end HA.out.eq (.inl hlt), if_pos HZ.out]; exact Prod.ext rfl HZ.out)
      go_wp2_with (first | ((with_reducible refine gate_box rfl ?_); refine ev_box S ?_; clear S; intro _ _ S) | ((with_reducible refine gate_new rfl ?_); refine ev_new S 41 zA ?_; clear S; intro _ _ S) | ((with_reducible refine gate_load rfl ?_); first | refine ev_load S 0 ?_ | refine ev_load S 1 ?_ | refine ev_load S 2 ?_ | refine ev_load S 3 ?_) | ((with_reducible refine gate_load rfl ?_); first | refine ev_fld S 0 ?_ | refine ev_fld S 1 ?_ | refine ev_fld S 2 ?_ | refine ev_fld S 3 ?_) | ((with_reducible refine gate_st rfl ?_); (first | refine ev_store S 0 ?_ | refine ev_store S 1 ?_ | refine ev_store S 2 ?_); clear S; intro _ S) | ((with_reducible refine gate_lit rfl ?_); refine ev_lit S (opA o (.slice A o.f3.length c)) 1 ?_; clear S; intro _ _ S) | (go_at_call 95; (with_reducible refine (rowns_any [o] _ _ (runC_box1 (S.out.at_ 0 rfl) (HO.out.below S.out.below)) HF1.out (by simp)).mono ?_); rintro e_ w7 ⟨rfl, hb⟩; rw [ownsE_one]; replace S := Aside0.mk (S.out.step hb); clear hb) | (go_at_call 95; (with_reducible refine (rowns_any run _ _ (HR.out.below S.out.below) HF.out.2.1 HF.out.2.2).mono ?_); rintro e_ w7 ⟨rfl, hb⟩; replace S := Aside0.mk (S.out.step hb); clear hb) | (go_at_call 22; (with_reducible refine (rcopy_any o _ _ (HO.out.below S.out.below) HF.out.1).mono ?_); rintro e_ w7 ⟨v, rfl, hR, hb⟩; obtain ⟨Ao, co, rfl⟩ := hR.slice; replace S := Aside0.mk (S.out.addOp hb hR); clear hb hR))
      rw [HM.out]
      exact bodyPost_ret (results_ct rfl _ _ _ 41 _ (0, 0) _ rfl (S.out.at_ 0 rfl) Tryd.underlying41 rfl (by kernel_rfl)) rfl ⟨_, rfl, S.out.now.2, S.out.below⟩
end Go.Proofs.YtloccjkcmlkifaaDoor
end
section
namespace Go.Proofs.YtloccjkcmlkifaaDoor
open Go.RowKit Go.Proofs.YtloccjkcmlkifaaDoor.PAll Go.Proofs.YtloccjkcmlkifaaDoorW.PrintWords Go.Proofs.YtloccjkcmlkifaaDoorW.PrintLast
def Yes (w : World) : Ending → World → Prop := fun e w' => e = .returned (.bool true) ∧ Below w.heap.size w w'
theorem same_loop (l : List S94) (hl : l.length ≤ 4611686018427387904) : ∀ (d k i : Nat), l.length = i + d → d + 1 ≤ k → redraftref04_Same.l0 k l l (i : Int) = some true := by
  intro d
  induction d with
  | zero =>
    intro k i h hk
    obtain ⟨k, rfl⟩ : ∃ m, k = m + 1 := ⟨k - 1, by omega⟩
    rw [redraftref04_Same.l0, if_neg (by omega)]
  | succ d ih =>
    intro k i h hk
    obtain ⟨k, rfl⟩ : ∃ m, k = m + 1 := ⟨k - 1, by omega⟩
    have q1 : (i : Int) < (l.length : Int) := by omega
    have q2 : (0 : Int) ≤ (i : Int) := by omega
    have w : wrap64 ((i : Int) + 1) = ((i + 1 : Nat) : Int) := by rw [wrap_id (by omega) (by omega)]; omega
    rw [redraftref04_Same.l0, if_pos q1, if_pos q2, if_pos q1, if_pos rfl, if_pos rfl, w]
    exact ih k (i + 1) (by omega) (by omega)
theorem same_any (o : S41) (v u : Value) (w : World) (hv : OpC w v o) (hu : OpC w u o) (hl : o.f3.length ≤ 4611686018427387904) :
    Calls Tryd.prog 76 #[v, u] w (Yes w) := by
  obtain ⟨A, c, rfl, h1, h2⟩ := hv
  obtain ⟨B, d, rfl, h3, h4⟩ := hu
  refine (redraftref04_Same.calls (o.f3.length + 1) A c o.f3 B d o.f3 true w h2 h1 h4 h3 ?_).mono fun e w2 h => ⟨h.1, h.2.below⟩
  unfold redraftref04_Same.f
  rw [if_pos rfl]
  exact same_loop o.f3 hl o.f3.length _ 0 (by omega) (Nat.le_refl _)
set_option maxRecDepth 100000 in
set_option maxHeartbeats 8000000 in
theorem equal_any (o : S41) (v u : Value) (w : World) (hv : OpC w v o) (hu : OpC w u o) (hl : o.f3.length ≤ 4611686018427387904) :
    Calls Tryd.prog 65 #[.agg (opA o v), .agg (opA o u)] w (Yes w) := by
  obtain ⟨A, c, rfl, h1, h2⟩ := hv
  obtain ⟨B, d, rfl, h3, h4⟩ := hu
  have S := Aside0.mk (St.init w (F := fun _ => True) (fun _ _ => trivial))
  have HV := Aside0.mk (opC_mk h1 h2); have HU := Aside0.mk (opC_mk h3 h4); have HL := Aside0.mk hl
  clear h1 h2 h3 h4 hl
  go_enter Tryd.func65, Tryd.ntmps65
  go_wp2_with (first | ((go_at_call 76; (with_reducible refine (same_any o _ _ _ (HV.out.below S.out.below) (HU.out.below S.out.below) HL.out).mono ?_); rintro e_ w7 ⟨rfl, hb⟩; replace S := Aside0.mk (S.out.step hb); clear hb); refine Hid.out ?_) | ((with_reducible refine gate_box rfl ?_); refine ev_box S ?_; clear S; intro _ _ S) | ((with_reducible refine gate_load rfl ?_); first | refine ev_load S 0 ?_ (hw := by first | exact wanted_plain rfl | (refine wanted_on rfl ?_; first | (simp [yielded]; done) | rfl)) | refine ev_load S 1 ?_ (hw := by first | exact wanted_plain rfl | (refine wanted_on rfl ?_; first | (simp [yielded]; done) | rfl)) | refine ev_load S 2 ?_ (hw := by first | exact wanted_plain rfl | (refine wanted_on rfl ?_; first | (simp [yielded]; done) | rfl)) | refine ev_load S 3 ?_ (hw := by first | exact wanted_plain rfl | (refine wanted_on rfl ?_; first | (simp [yielded]; done) | rfl))) | ((with_reducible refine gate_load rfl ?_); first | refine ev_fld S 0 ?_ (hw := by first | exact wanted_plain rfl | (refine wanted_on rfl ?_; first | (simp [yielded]; done) | rfl)) | refine ev_fld S 1 ?_ (hw := by first | exact wanted_plain rfl | (refine wanted_on rfl ?_; first | (simp [yielded]; done) | rfl)) | refine ev_fld S 2 ?_ (hw := by first | exact wanted_plain rfl | (refine wanted_on rfl ?_; first | (simp [yielded]; done) | rfl)) | refine ev_fld S 3 ?_ (hw := by first | exact wanted_plain rfl | (refine wanted_on rfl ?_; first | (simp [yielded]; done) | rfl))) | (go_at_call 76; (with_reducible refine (same_any o _ _ _ (HV.out.below S.out.below) (HU.out.below S.out.below) HL.out).mono ?_); rintro e_ w7 ⟨rfl, hb⟩; replace S := Aside0.mk (S.out.step hb); clear hb))
  refine Lib.hid ?_
  dsimp only [List.append] at *
  go_wp2_with (first | ((with_reducible refine gate_box rfl ?_); refine ev_box S ?_; clear S; intro _ _ S) | ((with_reducible refine gate_load rfl ?_); first | refine ev_load S 0 ?_ (hw := by first | exact wanted_plain rfl | (refine wanted_on rfl ?_; first | (simp [yielded]; done) | rfl)) | refine ev_load S 1 ?_ (hw := by first | exact wanted_plain rfl | (refine wanted_on rfl ?_; first | (simp [yielded]; done) | rfl)) | refine ev_load S 2 ?_ (hw := by first | exact wanted_plain rfl | (refine wanted_on rfl ?_; first | (simp [yielded]; done) | rfl)) | refine ev_load S 3 ?_ (hw := by first | exact wanted_plain rfl | (refine wanted_on rfl ?_; first | (simp [yielded]; done) | rfl))) | ((with_reducible refine gate_load rfl ?_); first | refine ev_fld S 0 ?_ (hw := by first | exact wanted_plain rfl | (refine wanted_on rfl ?_; first | (simp [yielded]; done) | rfl)) | refine ev_fld S 1 ?_ (hw := by first | exact wanted_plain rfl | (refine wanted_on rfl ?_; first | (simp [yielded]; done) | rfl)) | refine ev_fld S 2 ?_ (hw := by first | exact wanted_plain rfl | (refine wanted_on rfl ?_; first | (simp [yielded]; done) | rfl)) | refine ev_fld S 3 ?_ (hw := by first | exact wanted_plain rfl | (refine wanted_on rfl ?_; first | (simp [yielded]; done) | rfl))) | (go_at_call 76; (with_reducible refine (same_any o _ _ _ (HV.out.below S.out.below) (HU.out.below S.out.below) HL.out).mono ?_); rintro e_ w7 ⟨rfl, hb⟩; replace S := Aside0.mk (S.out.step hb); clear hb))
  go_ret
  exact ⟨rfl, S.out.below⟩
set_option maxRecDepth 100000 in
theorem sameOp_any (o : S41) (v u : Value) (w : World) (hv : OpC w v o) (hu : OpC w u o) (hl : o.f3.length ≤ 4611686018427387904) :
    Calls Tryd.prog 43 #[.agg (opA o v), .agg (opA o u)] w (Yes w) := by
  have S := Aside0.mk (St.init w (F := fun _ => True) (fun _ _ => trivial))
  have HV := Aside0.mk hv; have HU := Aside0.mk hu; have HL := Aside0.mk hl
  clear hv hu hl
  go_enter Tryd.func43, Tryd.ntmps43
  go_wp2_with (first | ((with_reducible refine gate_box rfl ?_); refine ev_box S ?_; clear S; intro _ _ S) | ((with_reducible refine gate_load rfl ?_); first | refine ev_load S 0 ?_ (hw := by first | exact wanted_plain rfl | (refine wanted_on rfl ?_; first | (simp [yielded]; done) | rfl)) | refine ev_load S 1 ?_ (hw := by first | exact wanted_plain rfl | (refine wanted_on rfl ?_; first | (simp [yielded]; done) | rfl)) | refine ev_load S 2 ?_ (hw := by first | exact wanted_plain rfl | (refine wanted_on rfl ?_; first | (simp [yielded]; done) | rfl)) | refine ev_load S 3 ?_ (hw := by first | exact wanted_plain rfl | (refine wanted_on rfl ?_; first | (simp [yielded]; done) | rfl))) | (go_at_call 65; (with_reducible refine (equal_any o _ _ _ (HV.out.below S.out.below) (HU.out.below S.out.below) HL.out).mono ?_); rintro e_ w7 ⟨rfl, hb⟩; replace S := Aside0.mk (S.out.step hb); clear hb))
  go_ret
  exact ⟨rfl, S.out.below⟩
theorem num_any (e : Int) (w : World) : Calls Tryd.prog 23 #[.int .i64 e] w fun e' w' => e' = .returned (.int .i64 e) ∧ Below w.heap.size w w' := by
  go_enter Tryd.func23, Tryd.ntmps23
  go_wp2
  go_ret
  exact ⟨rfl, Below.refl _ _⟩
theorem one_any (o : S41) (e : Int) (v u : Value) (w : World) (hv : OpC w v o) (hu : OpC w u o) (hl : o.f3.length ≤ 4611686018427387904) :
    Calls Tryd.prog 78 #[.agg (opA o v), .int .i64 e, .agg (opA o u), .int .i64 e] w (Yes w) := by
  have S := Aside0.mk (St.init w (F := fun _ => True) (fun _ _ => trivial))
  have HV := Aside0.mk hv; have HU := Aside0.mk hu; have HL := Aside0.mk hl
  clear hv hu hl
  go_enter Tryd.func78, Tryd.ntmps78
  go_wp2_with (first | ((with_reducible refine gate_box rfl ?_); refine ev_box S ?_; clear S; intro _ _ S) | ((with_reducible refine gate_load rfl ?_); first | refine ev_load S 0 ?_ (hw := by first | exact wanted_plain rfl | (refine wanted_on rfl ?_; first | (simp [yielded]; done) | rfl)) | refine ev_load S 1 ?_ (hw := by first | exact wanted_plain rfl | (refine wanted_on rfl ?_; first | (simp [yielded]; done) | rfl)) | refine ev_load S 2 ?_ (hw := by first | exact wanted_plain rfl | (refine wanted_on rfl ?_; first | (simp [yielded]; done) | rfl)) | refine ev_load S 3 ?_ (hw := by first | exact wanted_plain rfl | (refine wanted_on rfl ?_; first | (simp [yielded]; done) | rfl))) | (go_at_call 43; (with_reducible refine (sameOp_any o _ _ _ (HV.out.below S.out.below) (HU.out.below S.out.below) HL.out).mono ?_); rintro e_ w7 ⟨rfl, hb⟩; replace S := Aside0.mk (S.out.step hb); clear hb) | (go_at_call 23; (with_reducible refine (num_any _ _).mono ?_); rintro e_ w7 ⟨rfl, hb⟩; replace S := Aside0.mk (S.out.step hb); clear hb))
  go_ret
  exact ⟨rfl, S.out.below⟩
end Go.Proofs.YtloccjkcmlkifaaDoor
end
